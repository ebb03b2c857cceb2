/- Lemmas. -/
import Derived.Test.YtpendnmmgjlmfaaGreatDoorM03
import Derived.WalkMore
import Derived.BigRegion
set_option linter.unusedVariables false
set_option linter.unusedSimpArgs false
namespace Go.Proofs.YtpendnmmgjlmfaaGreatDoor
open Go.Proofs.Tryz
open IntKind renaming u16→I,i64→J,u32→F,u8→aF
open Value renaming pointer→G,int->ι,string->σ,bool->ν,tuple->τ,slice->θ,agg->γ
open Ending renaming returned→aG
open Obj renaming cells→aH
set_option maxRecDepth 100000
set_option maxHeartbeats 2000000
namespace Dev
open Go.RowKit Go.Shelf Go.Maps
structure aR (S:Nat->Prop) (w w':World):Prop where
 os:w'.os=w.os
 tape:w'.tape=w.tape
 output:w'.output=w.output
 size:w.heap.size<=w'.heap.size
 block:∀c,c<w.heap.size->¬S c->w'.heap[c]? =w.heap[c]?
theorem aR.trans {S:Nat->Prop} {x y z:World} (h:aR S x y) (g:aR S y z):aR S x z:=
 ⟨g.os.trans h.os,g.tape.trans h.tape,g.output.trans h.output,aD h.size g.size,λc hc hs=>(g.block c (aA hc h.size) hs).trans (h.block c hc hs)⟩
theorem aR.of_below {S:Nat->Prop} {w w':World} (h:Below w.heap.size w w'):aR S w w':=⟨h.os,h.tape,h.output,h.size,λc hc _=>h.block c hc⟩
theorem aR.below {S:Nat->Prop} {n:Nat} {w0 w w':World} (h:aR S w w') (hS:∀c,S c->n<=c) (h0:Below n w0 w) (hn:n<=w.heap.size):Below n w0 w':=
 ⟨h.os.trans h0.os,h.tape.trans h0.tape,h.output.trans h0.output,aD h0.size h.size,λc hc=>(h.block c (by omega) (λhs=>by have:=hS c hs;omega)).trans (h0.block c hc)⟩
theorem aR.mono {S T:Nat->Prop} {w w':World} (h:aR S w w') (hST:∀c,S c->T c):aR T w w':=⟨h.os,h.tape,h.output,h.size,λc hc hs=>h.block c hc (λx=>hs (hST c x))⟩
theorem aR.grown {S:Nat->Prop} {w w':World} {row:Option Nat} (h:w.grownBy w' row) (hr:∀r,row=some r->S r):aR S w w':=
 ⟨h.os,h.tape,h.output,h.size,λc hc hs=>h.block c hc (λe=>hs (hr c e.symm))⟩
theorem aR.set {S:Nat->Prop} {w:World} {c i:Nat} (v:Value) (hc:S c):aR S w (w.setCell ⟨c,i,none⟩ v):=
 ⟨rfl,rfl,rfl,by simp[World.setCell],λk _ hk=>heap_setCell_other w ⟨c,i,none⟩ k v (λe=>hk (by have e2:k=c:=e;rw[e2];exact hc))⟩
def Df (pd:iF) (i:Int) (e:Nat×Nat×ByteArray):iF:=λy=>if y=i then some e else pd y
theorem Xh (pd:iF) (i:Int) (e:Nat×Nat×ByteArray):ng (Df pd i e)=qw (ng pd) i (Dh e.1 e.2.1):=by
 funext y
 unfold ng Df qw
 by_cases hy:y=i<;>simp[hy]
theorem vG:(prog.info? 9).map (λi=>(i.zero,i.size,i.bytes))=some (some (.string ⟨#[]⟩),1,16):=by kernel_rfl
theorem Ub (v:Value) (w:World):(Instr.field 235 (.agg #[v]) 0).run prog w=.ok v w:=by kernel_rfl
theorem str1 {W:World} {base g n cap:Nat} {s:ByteArray} {xs:List Value} (hx:xs=[.string s]) (h:W.ownsRow base 9 1 (.slice (some g) n cap) n xs):eZ W g [s]/\base<=g:=by
 subst hx;obtain⟨h0,hh⟩:=h
 rcases hh with⟨e,_⟩|⟨g',cap',cur,e,hb,hg,_,_,hcs,ht⟩
 ·cases e
 ·obtain⟨rfl,rfl⟩:g'=g/\cap'=cap:=by simp at e;exact⟨e.1.symm,e.2.symm⟩
  refine⟨⟨cur,hg,λi hi=>?_⟩,hb⟩;have hi0:i=0:=by simp at hi;exact hi
  subst hi0;have hn:n=1:=by simpa using h0.symm
  subst hn;have h1:(cur.toList.take (1*1))[0]? =some (.string s):=by rw[ht];rfl
  rw[List.getElem?_take]at h1
  simpa using h1
theorem eZ.ne {W:World} {g p:Nat} {l:List ByteArray} {t:TypeId} {cs:Array Value} (h:eZ W g l) (hX:aN W p t cs) (ht:9≠t):g≠p:=λe=>by
 obtain⟨ds,h1,_⟩:=h;subst e;rw[show W.heap[g]? =_ from hX]at h1;simp only[Option.some.injEq,Obj.cells.injEq]at h1;exact ht h1.2.1.symm
theorem eZ.Ba {W:World} {g m nn:Nat} {l:List ByteArray} {R:lH} {f:Int->Option (DataW Unit)} (h:eZ W g l) (hm:dM W R m nn f):g≠m:=by
 obtain⟨ds,h1,_⟩:=h;exact hm.ne h1
theorem written {b:dN} {hard:List ByteArray} {pd:iF} {k i g cap cap0:Nat} {s:ByteArray} {w w2 w3:World} (h:bY w b hard pd k) (hcap:hard.length<=cap0) (hg1:(w.alloc (aH #[.string s] 9)).drew.grownBy w2 none)
 (hrow2:eZ w2 g [s]) (hge:w.heap.size<=g) (Oc:aN w3 b.p 150 (gM b hard.length cap0 k)) (hi:i<hard.length) (QF:dM w3 rowElem b.m (k+1) (qw (ng pd) i (Dh g cap))) (ht3:w2.mapTurned w3 b.m):
 bY (w3.setCell ⟨b.p,5,none⟩ (.int .u64 ((k:Int)+1))) b hard (Df pd i (g,cap,s)) (k+1)/\aR (λc=>c=b.p\/c=b.m) w (w3.setCell ⟨b.p,5,none⟩ (.int .u64 ((k:Int)+1))):=by
 obtain⟨Jj,_,hX⟩:=h.dev;have T0:aR (λc=>c=b.p\/c=b.m) w w2:=(aR.of_below (((aj _ w).alloc (ah _) (aH #[.string s] 9)).drew)).trans (aR.grown hg1 (λr e=>by cases e))
 have T:aR (λc=>c=b.p\/c=b.m) w (w3.setCell ⟨b.p,5,none⟩ (.int .u64 ((k:Int)+1))):=
  (T0.trans (aR.grown ht3.grown (λr e=>by cases e;exact .inr rfl))).trans (aR.set _ (.inl rfl))
 have hpm:b.p≠b.m:=h.map.ne hX;have hgp:g≠b.p:=by have:=hX.lt;omega
 have hgm:g≠b.m:=by have:=h.map.lt;omega
 refine⟨⟨⟨cap0,hcap,?_⟩,?_,?_,?_,h.len,λx e hx=>?_⟩,T⟩
 ·unfold gM at Oc⊢
  exact aN.set Oc 5 _
 ·exact h.row.block (T.block _ h.row.lt (λe=>e.elim (h.row.ne hX (by decide)) (h.row.Ba h.map)))
 ·rw[Xh]
  exact QF.other _ hpm.symm
 ·intro x e hx
  unfold Df at hx
  by_cases hxi:x=(i:Int)
  ·rw[if_pos hxi]at hx
   obtain rfl:=Option.some.inj hx;refine⟨?_,λe=>by have:=h.row.lt;simp only at e;omega⟩;exact hrow2.block ((heap_setCell_other w3 ⟨b.p,5,none⟩ g _ hgp).trans (ht3.grown.block g hrow2.lt (λe=>hgm (Option.some.inj e))))
  ·rw[if_neg hxi]at hx
   obtain⟨r1,r2⟩:=h.rows x e hx;exact⟨r1.block (T.block _ r1.lt (λe=>e.elim (r1.ne hX (by decide)) (r1.Ba h.map))),r2⟩
 ·unfold Df at hx
  by_cases hxi:x=(i:Int)
  ·exact⟨i,hxi,hi⟩
  ·rw[if_neg hxi]at hx
   exact h.dom x e hx
section
variable {b:dN} {hard:List ByteArray} {pd:iF} {k:Nat}
theorem Et (i:Nat) (s:ByteArray) (w:World) (h:bY w b hard pd k) (hi:i<hard.length) (hp:pd i=none) (hs:s.size=64) (hk:k<1099511627776):
 Calls prog 67 #[b.p,.int J i,.string s] w λe w'=>e=aG (.int J 0)/\∃bl cap,bY w' b hard (Df pd i (bl,cap,s)) (k+1)/\aR (λc=>c=b.p\/c=b.m) w w':=by
 have hl:=h.len;have HA:=zO i w h;rw[QG hi]at HA;have HA:=U HA;have RE:=U (xI w h);have hD0:bY w.drew b hard pd k:=h.later (aj _ _).drew;have hD1:bY (w.alloc (aH #[.string s] 9)).drew b hard pd k:=h.later ((aj _ _).alloc (ah _) _).drew;have hlk0:=xJ hD0 i (by omega) hp false;have hlk1:=xJ hD1 i (by omega) hp false;simp only[Bool.false_eq_true,if_false]at hlk0 hlk1;have HD:=U h;have HD1:=U hD1;have hfl:∀W,(Instr.field 235 (.agg #[.slice none 0 0]) 0).run prog W=.ok (.slice none 0 0) W:=λW=>Ub _ W;have q0:(0:Int)<=i:=by omega
 have q1:(i:Int)<hard.length:=by omega
 obtain⟨i0,hi0,hz0,hz1,hz2⟩:=info_parts vG
 have wz:IntKind.u64.wrap ((k:Int)+1)=((k+1:Nat):Int):=by
  rw[IntWalk.u64_in _ (by omega)]
  rfl
 obtain⟨cap0,hcap,hX⟩:=h.dev;have hpm:b.p≠b.m:=h.map.ne hX;have XS1:=U (aN.drew (hX.alloc (aH #[.string s] 9)));unfold gM at hX XS1;have X:=hX.cell;have Xl:=hX.lt;clear hX hD0 hD1 h
 go_enter func67,ntmps67
 go_wp2_with fail;refine RE.o.mono ?_;rintro e w9 ⟨rfl,rfl⟩;go_wp2_with fail;refine HA.o.mono ?_;rintro e w9 ⟨rfl,rfl⟩;go_wp2_with fail
 go_region_held3 (λW=>W.cell? ⟨b.p,4,none⟩=some (.map (some b.m)))
  (first|assumption|exact(X 4)|(go_keep;done))
  (first|(refine step_append_lies _ rfl (.tmp 33) (.tmp 35) 148 rfl w.heap.size 9 i0 (.string ⟨#[]⟩) 1 16 underlying148 hi0 hz0 hz1 hz2 rfl (by decide) (.slice none 0 0) 0 [] rfl ⟨rfl,.inl ⟨rfl,rfl⟩⟩ ⟨w.heap.size,0,none⟩ 1 1 [.string s] rfl rfl ?q1 ?q2 (by decide) ?q3 ?q4 ?q5 _ rfl ?_;(case q1=>exact World.news_of_block (aN.new w.drew 9 #[.string s]));(case q2=>(intro u hu;simp at hu;subst hu;rfl));(case q3=>(unfold maxLen;omega));(case q4=>omega);(case q5=>simp);intro g cap w2 hown2 hgrow hat hlt;obtain⟨hrow2,hge⟩:=str1 rfl hown2;obtain⟨w3,hput,QF,ht3⟩:=dM.put (HD1.o.map.kept hgrow (show some b.m≠none by simp)) pE (by unfold maxLen;omega) i (mQ i (by omega)) (rowElem_mk g cap);have hX2:=aN.kept XS1.o hgrow (show some b.p≠none by simp);have Oc:=aN.kept hX2 ht3.grown (show some b.p≠some b.m from λe=>hpm (Option.some.inj e));have p2:=hX2.cell 4;have p3:=Oc.cell 4;have z0:=Oc.cell 0;have z5:=Oc.cell 5;have f5:=Oc.free 5;have zl:=Oc.lt;simp only[au,av,ay]at p2 p3 z0 z5))
 all_goals(go_wp2;go_ret;exact⟨rfl,g,cap,written HD.o hcap hgrow hrow2 hge Oc hi QF ht3⟩)
end
end Dev
namespace Ap
open Go.RowKit Go.Shelf Dev
def Rs (S:Nat->Prop) (Q:Prop) (R:World->Prop) (w:World) (e:Ending) (w':World):Prop:=∃c:Int,e=aG (ι J c)/\aR S w w'/\(c=0->R w')/\(c≠0->Q)
theorem Rs.pre {S:Nat->Prop} {Q:Prop} {R:World->Prop} {w0 w w':World} {e:Ending} (h:Rs S Q R w e w') (t:aR S w0 w):Rs S Q R w0 e w':=by
 obtain⟨c,e,t2,h⟩:=h;exact⟨c,e,t.trans t2,h⟩
theorem Rs.wide {S S':Nat->Prop} {Q:Prop} {R:World->Prop} {w w':World} {e:Ending} (h:Rs S Q R w e w') (t:∀c,S c->S' c):Rs S' Q R w e w':=by
 obtain⟨c,e,t2,h⟩:=h;exact⟨c,e,t2.mono t,h⟩
def qY (m:Nat) (R:World->Prop):Prop:=(∀W W',R W->Below W.heap.size W W'->R W')/\∀W,R W->m<W.heap.size
theorem aW {S:Nat->Prop} {b:Nat} {t:TypeId} {cs:Array Value} {w W:World} (h:aN w b t cs) (ht:aR S w W) (hm:¬S b):aN W b t cs:=(ht.block _ h.lt hm).trans h
def uq (S:Nat->Prop) (Q:Prop) (w:World) (A B:World->Prop) (v:Value):Prop:=∃g lb,v=.func (.func g) #[] lb/\(∀W,(callFunc g lb).run prog W=.ok (.enter g lb) W)/\∀W,aR S w W->A W->Calls prog g lb W (Rs S Q B W)
def Xi (S:Nat->Prop) (Q:Prop) (w:World):(World->Prop)->List (Value×(World->Prop))->Prop
 |_,[]=>True
 |A,(v,B)::r=>uq S Q w A B v/\Xi S Q w B r
def Xj:(World->Prop)->List (Value×(World->Prop))->World->Prop
 |A,[]=>A
 |_,(_,B)::r=>Xj B r
def GA:(World->Prop)->List (Value×(World->Prop))->Nat->World->Prop
 |A,_,0=>A
 |A,[],_+1=>A
 |_,(_,B)::r,i+1=>GA B r i
theorem Ka:∀(l:List (Value×(World->Prop))) (A:World->Prop),GA A l l.length=Xj A l
 |[],_=>rfl
 |(_,B)::r,_=>Ka r B
theorem Xi.at {S:Nat->Prop} {Q:Prop} {w:World}:∀(l:List (Value×(World->Prop))) (A:World->Prop),Xi S Q w A l->∀i,i<l.length->uq S Q w (GA A l i) (GA A l (i+1)) ((l.map Prod.fst).getD i undef)
 |(v,B)::r,A,h,0,_=>by
  have e:GA B r 0=B:=by cases r<;>rfl
  show uq S Q w A (GA B r 0) v;rw[e];exact h.1
 |(v,B)::r,A,h,i+1,hi=>Xi.at r B h.2 i (by simpa using hi)
theorem xK (b n cap:Nat) (hn:n<=100) (g:Nat->Nat) (lb:Nat->Array Value) (aJ:Nat->World->Prop) (aK:Int->World->Prop) (w:World) (h0:aJ 0 w) (he:∀i W,i<n->(callFunc (g i) (lb i)).run prog W=.ok (.enter (g i) (lb i)) W)
 (hc:∀i W,i<n->aJ i W->W.cell? ⟨b,i,none⟩=some (.func (.func (g i)) #[] (lb i))/\b<W.heap.size)
 (hs:∀i W,i<n->aJ i W->Calls prog (g i) (lb i) W λe W'=>∃k:Int,e=aG (ι J k)/\(k=0/\aJ (i+1) W'\/k≠0/\aK k W')):
 Calls prog 173 #[θ (some b) n cap] w λe w'=>∃k:Int,e=aG (ι J k)/\(k=0/\aJ n w'\/k≠0/\aK k w'):=by
 have H0:=U h0;have HE:=U he;have HC:=U hc;have HS:=U hs;clear h0 hc hs he
 go_enter func173,ntmps173
 go_wp2_with fail
 go_loopw [8] (λc wr=>∃q:Nat,q<=n/\c=ι J q/\aJ q wr) (λc _=>n-(Go.RowKit.intOf c).toNat)
 case atStart=>exact⟨0,by omega,rfl,H0.o⟩
 case round=>
  obtain⟨q,hq,rfl,hr⟩:=hrel
  by_cases hlt:q<n
  ·obtain⟨x0,xl⟩:=HC.o q _ hlt hr
   have K:=U (HS.o q _ hlt hr);have E:=λW=>HE.o q W hlt;clear hr;go_wp2_with fail;refine ak K.o ?_;rintro e w7 ⟨k,rfl,h⟩;have H:=U h;clear h
   by_cases hk:k=0
   ·subst hk
    go_wp2_with fail;go_roundw
    case rel=>exact⟨q+1,by omega,by go_num,(H.o.resolve_right (λh=>h.1 rfl)).2⟩
    case measure=>simp[Go.RowKit.intOf];omega
   ·have tk:(k !=0)=true:=by simp;omega
    go_wp2_with fail;go_ret;exact⟨k,rfl,.inr (H.o.resolve_left (λh=>hk h.1))⟩
  ·obtain rfl:q=n:=by omega
   have H:=U hr;clear hr;go_wp2_with fail;go_ret;exact⟨0,rfl,.inl ⟨rfl,H.o⟩⟩
theorem jr (S:Nat->Prop) (b:Nat) (Q:Prop) (l:List (Value×(World->Prop))) (A:World->Prop) (w:World) (hb:aN w b 82 (l.map Prod.fst).toArray) (hm:¬S b) (hn:l.length<=100) (hc:Xi S Q w A l) (h0:A w):
 Calls prog 173 #[θ (some b) l.length l.length] w (Rs S Q (Xj A l) w):=by
 have hch:∃(g:Nat->Nat) (lb:Nat->Array Value),∀i,i<l.length->(l.map Prod.fst).getD i undef=.func (.func (g i)) #[] (lb i)/\(∀W,(callFunc (g i) (lb i)).run prog W=.ok (.enter (g i) (lb i)) W)/\∀W,aR S w W->GA A l i W->Calls prog (g i) (lb i) W (Rs S Q (GA A l (i+1)) W):=by
  refine⟨λi=>if h:i<l.length then(hc.at l A i h).choose else 0,λi=>if h:i<l.length then(hc.at l A i h).choose_spec.choose else#[],λi hi=>?_⟩;simp only[hi,dif_pos];exact(hc.at l A i hi).choose_spec.choose_spec
 obtain⟨g,lb,h⟩:=hch;refine(xK b l.length l.length hn g lb (λi W=>aR S w W/\GA A l i W) (λ_ W=>aR S w W/\Q) w ⟨aR.of_below (aj _ _),by cases l<;>exact h0⟩ (λi W hi=>(h i hi).2.1 W) ?_ ?_).mono ?_
 ·rintro i W hi ⟨ht,_⟩
  have hB:=aW hb ht hm;refine⟨?_,hB.lt⟩;rw[hB.cell,<-(h i hi).1]
  simp[hi]
 ·rintro i W hi ⟨ht,hA⟩
  refine((h i hi).2.2 W ht hA).mono ?_;rintro e W' ⟨c,rfl,t,h1,h2⟩
  by_cases hk:c=0
  ·exact⟨c,rfl,.inl ⟨hk,ht.trans t,h1 hk⟩⟩
  ·exact⟨c,rfl,.inr ⟨hk,ht.trans t,h2 hk⟩⟩
 ·rintro e W ⟨k,rfl,⟨hk,t,h1⟩|⟨hk,t,h1⟩⟩
  ·refine⟨k,rfl,t,λ_=>?_,λq=>absurd hk q⟩
   rw[Ka]at h1;exact h1
  ·exact⟨k,rfl,t,λq=>absurd q hk,λ_=>h1⟩
theorem iT (e:Int) (w:World):Calls prog 182 #[ν false,ι J e] w λe' w'=>e'=aG (ι J 0)/\w=w':=by
 go_enter func182,ntmps182
 go_wp2
 go_ret;exact⟨rfl,rfl⟩
theorem jC (e:Int) (w:World):Calls prog 182 #[ν true,ι J e] w λe' w'=>e'=aG (ι J e)/\w=w':=by
 go_enter func182,ntmps182
 go_wp2
 go_ret;exact⟨rfl,rfl⟩
open qX
open Re (Rw dX)
section
variable {m M mb rb xb eb:Nat} {S:Nat->Prop} {Q:Prop} {A B:World->Prop} {r:Rw} {w:World} {x:aP}
theorem Xk (hS:S m) (op:∀W,A W->Calls prog 175 #[M,ι F r.ino] W (Rs (λc=>c=m) Q B W)) (hM:aN w mb 144 #[M]) (hm:¬S mb) (hR:aN w rb 44 (dX r)) (hr:¬S rb):uq S Q w A B (.func (.func 174) #[] #[mb,rb]):=by
 refine⟨_,_,rfl,λW=>enters_of func174 (by kernel_rfl) rfl _ W,λW t hA=>?_⟩;have K:=(aW hM t hm).cell;have Kl:=(aW hM t hm).lt;have R:=(aW hR t hr).cell;have Rl:=(aW hR t hr).lt;unfold dX at R;have O:=U (op _ hA);have HS:=U (λc (e:c=m)=>(e▸hS:S c));clear op hA hS t hM hm hR hr
 go_enter func174,ntmps174
 go_wp2_with fail;refine ak O.o ?_;rintro e w1 ⟨c,rfl,t,h⟩;have H:=U h;clear h
 go_wp2
 go_ret;exact⟨c,rfl,t.mono HS.o,H.o⟩
theorem pZ (hS:S m) (op:∀W,A W->Calls prog 177 #[M,ι F r.ino,γ #[ι aF r.kind,ι I 1,ι F 0,ι I 0,ι I 0,ι I 0,ι I 0,ι I 0]] W (Rs (λc=>c=m) Q B W)) (hM:aN w mb 144 #[M]) (hm:¬S mb) (hR:aN w rb 44 (dX r)) (hr:¬S rb):uq S Q w A B (.func (.func 176) #[] #[mb,rb]):=by
 refine⟨_,_,rfl,λW=>enters_of func176 (by kernel_rfl) rfl _ W,λW t hA=>?_⟩;have K:=(aW hM t hm).cell;have Kl:=(aW hM t hm).lt;have R:=(aW hR t hr).cell;have Rl:=(aW hR t hr).lt;unfold dX at R;have O:=U (op _ hA);have HS:=U (λc (e:c=m)=>(e▸hS:S c));clear op hA hS t hM hm hR hr
 go_enter func176,ntmps176
 go_wp2_with fail;refine ak O.o ?_;rintro e w1 ⟨c,rfl,t,h⟩;have H:=U h;clear h
 go_wp2
 go_ret;exact⟨c,rfl,t.mono HS.o,H.o⟩
theorem Uc (hS:S m) (op:∀W,A W->Calls prog 179 #[M,ι F r.dir,σ r.name,ι F r.ino] W (Rs (λc=>c=m) Q B W)) (hM:aN w mb 144 #[M]) (hm:¬S mb) (hR:aN w rb 44 (dX r)) (hr:¬S rb):uq S Q w A B (.func (.func 178) #[] #[mb,rb]):=by
 refine⟨_,_,rfl,λW=>enters_of func178 (by kernel_rfl) rfl _ W,λW t hA=>?_⟩;have K:=(aW hM t hm).cell;have Kl:=(aW hM t hm).lt;have R:=(aW hR t hr).cell;have Rl:=(aW hR t hr).lt;unfold dX at R;have O:=U (op _ hA);have HS:=U (λc (e:c=m)=>(e▸hS:S c));clear op hA hS t hM hm hR hr
 go_enter func178,ntmps178
 go_wp2_with fail;refine ak O.o ?_;rintro e w1 ⟨c,rfl,t,h⟩;have H:=U h;clear h
 go_wp2
 go_ret;exact⟨c,rfl,t.mono HS.o,H.o⟩
theorem Od (hS:S m) (op:∀W,A W->Calls prog 179 #[M,ι F r.dir,σ r.name,ι F r.ino] W (Rs (λc=>c=m) Q B W)) (hM:aN w mb 144 #[M]) (hm:¬S mb) (hR:aN w rb 44 (dX r)) (hr:¬S rb):uq S Q w A B (.func (.func 186) #[] #[mb,rb]):=by
 refine⟨_,_,rfl,λW=>enters_of func186 (by kernel_rfl) rfl _ W,λW t hA=>?_⟩;have K:=(aW hM t hm).cell;have Kl:=(aW hM t hm).lt;have R:=(aW hR t hr).cell;have Rl:=(aW hR t hr).lt;unfold dX at R;have O:=U (op _ hA);have HS:=U (λc (e:c=m)=>(e▸hS:S c));clear op hA hS t hM hm hR hr
 go_enter func186,ntmps186
 go_wp2_with fail;refine ak O.o ?_;rintro e w1 ⟨c,rfl,t,h⟩;have H:=U h;clear h
 go_wp2
 go_ret;exact⟨c,rfl,t.mono HS.o,H.o⟩
theorem Bb (hS:S m) (op:∀W,A W->Calls prog 179 #[M,ι F r.bV,σ r.name2,ι F r.ino] W (Rs (λc=>c=m) Q B W)) (hM:aN w mb 144 #[M]) (hm:¬S mb) (hR:aN w rb 44 (dX r)) (hr:¬S rb):uq S Q w A B (.func (.func 195) #[] #[mb,rb]):=by
 refine⟨_,_,rfl,λW=>enters_of func195 (by kernel_rfl) rfl _ W,λW t hA=>?_⟩;have K:=(aW hM t hm).cell;have Kl:=(aW hM t hm).lt;have R:=(aW hR t hr).cell;have Rl:=(aW hR t hr).lt;unfold dX at R;have O:=U (op _ hA);have HS:=U (λc (e:c=m)=>(e▸hS:S c));clear op hA hS t hM hm hR hr
 go_enter func195,ntmps195
 go_wp2_with fail;refine ak O.o ?_;rintro e w1 ⟨c,rfl,t,h⟩;have H:=U h;clear h
 go_wp2
 go_ret;exact⟨c,rfl,t.mono HS.o,H.o⟩
theorem Ud (hS:S m) (op:∀W,A W->Calls prog 188 #[γ #[M],ι F r.dir,σ r.name,ι F r.ino] W (Rs (λc=>c=m) Q B W)) (hM:aN w mb 144 #[M]) (hm:¬S mb) (hR:aN w rb 44 (dX r)) (hr:¬S rb):uq S Q w A B (.func (.func 187) #[] #[mb,rb]):=by
 refine⟨_,_,rfl,λW=>enters_of func187 (by kernel_rfl) rfl _ W,λW t hA=>?_⟩;have K:=(aW hM t hm).cell;have Kl:=(aW hM t hm).lt;have R:=(aW hR t hr).cell;have Rl:=(aW hR t hr).lt;unfold dX at R;have O:=U (op _ hA);have HS:=U (λc (e:c=m)=>(e▸hS:S c));clear op hA hS t hM hm hR hr
 go_enter func187,ntmps187
 go_wp2_with fail;refine ak O.o ?_;rintro e w1 ⟨c,rfl,t,h⟩;have H:=U h;clear h
 go_wp2
 go_ret;exact⟨c,rfl,t.mono HS.o,H.o⟩
theorem Bc (hS:S m) (op:∀W,A W->Calls prog 188 #[γ #[M],ι F r.dir,σ r.name,ι F r.ino] W (Rs (λc=>c=m) Q B W)) (hM:aN w mb 144 #[M]) (hm:¬S mb) (hR:aN w rb 44 (dX r)) (hr:¬S rb):uq S Q w A B (.func (.func 191) #[] #[mb,rb]):=by
 refine⟨_,_,rfl,λW=>enters_of func191 (by kernel_rfl) rfl _ W,λW t hA=>?_⟩;have K:=(aW hM t hm).cell;have Kl:=(aW hM t hm).lt;have R:=(aW hR t hr).cell;have Rl:=(aW hR t hr).lt;unfold dX at R;have O:=U (op _ hA);have HS:=U (λc (e:c=m)=>(e▸hS:S c));clear op hA hS t hM hm hR hr
 go_enter func191,ntmps191
 go_wp2_with fail;refine ak O.o ?_;rintro e w1 ⟨c,rfl,t,h⟩;have H:=U h;clear h
 go_wp2
 go_ret;exact⟨c,rfl,t.mono HS.o,H.o⟩
theorem Oe (hS:S m) (op:∀W,A W->Calls prog 188 #[γ #[M],ι F r.bV,σ r.name2,ι F r.old] W (Rs (λc=>c=m) Q B W)) (hM:aN w mb 144 #[M]) (hm:¬S mb) (hR:aN w rb 44 (dX r)) (hr:¬S rb):uq S Q w A B (.func (.func 193) #[] #[mb,rb]):=by
 refine⟨_,_,rfl,λW=>enters_of func193 (by kernel_rfl) rfl _ W,λW t hA=>?_⟩;have K:=(aW hM t hm).cell;have Kl:=(aW hM t hm).lt;have R:=(aW hR t hr).cell;have Rl:=(aW hR t hr).lt;unfold dX at R;have O:=U (op _ hA);have HS:=U (λc (e:c=m)=>(e▸hS:S c));clear op hA hS t hM hm hR hr
 go_enter func193,ntmps193
 go_wp2_with fail;refine ak O.o ?_;rintro e w1 ⟨c,rfl,t,h⟩;have H:=U h;clear h
 go_wp2
 go_ret;exact⟨c,rfl,t.mono HS.o,H.o⟩
theorem OS (hS:S m) (op:∀W,A W->Calls prog 190 #[γ #[M],ι F r.ino,ι aF r.kind] W (Rs (λc=>c=m) Q B W)) (hM:aN w mb 144 #[M]) (hm:¬S mb) (hR:aN w rb 44 (dX r)) (hr:¬S rb):uq S Q w A B (.func (.func 189) #[] #[mb,rb]):=by
 refine⟨_,_,rfl,λW=>enters_of func189 (by kernel_rfl) rfl _ W,λW t hA=>?_⟩;have K:=(aW hM t hm).cell;have Kl:=(aW hM t hm).lt;have R:=(aW hR t hr).cell;have Rl:=(aW hR t hr).lt;unfold dX at R;have O:=U (op _ hA);have HS:=U (λc (e:c=m)=>(e▸hS:S c));clear op hA hS t hM hm hR hr
 go_enter func189,ntmps189
 go_wp2_with fail;refine ak O.o ?_;rintro e w1 ⟨c,rfl,t,h⟩;have H:=U h;clear h
 go_wp2
 go_ret;exact⟨c,rfl,t.mono HS.o,H.o⟩
theorem qS (hS:S m) (op:∀W,A W->Calls prog 190 #[γ #[M],ι F r.old,ι aF r.kind] W (Rs (λc=>c=m) Q B W)) (hM:aN w mb 144 #[M]) (hm:¬S mb) (hR:aN w rb 44 (dX r)) (hr:¬S rb):uq S Q w A B (.func (.func 194) #[] #[mb,rb]):=by
 refine⟨_,_,rfl,λW=>enters_of func194 (by kernel_rfl) rfl _ W,λW t hA=>?_⟩;have K:=(aW hM t hm).cell;have Kl:=(aW hM t hm).lt;have R:=(aW hR t hr).cell;have Rl:=(aW hR t hr).lt;unfold dX at R;have O:=U (op _ hA);have HS:=U (λc (e:c=m)=>(e▸hS:S c));clear op hA hS t hM hm hR hr
 go_enter func194,ntmps194
 go_wp2_with fail;refine ak O.o ?_;rintro e w1 ⟨c,rfl,t,h⟩;have H:=U h;clear h
 go_wp2
 go_ret;exact⟨c,rfl,t.mono HS.o,H.o⟩
theorem Ue (p q:Nat) (hp:r.page=p) (zB:p<36) (hq:q=p*64+64) (hS:S m) (op:∀v:Nat,v=max x.size q->∀W,A W->Calls prog 197 #[M,ι F r.ino,ι F (v:Nat)] W (Rs (λc=>c=m) Q B W)) (hM:aN w mb 144 #[M]) (hm:¬S mb) (hR:aN w rb 44 (dX r)) (hr:¬S rb) (hX:aN w xb 114 x.cells) (hx:¬S xb):uq S Q w A B (.func (.func 199) #[] #[mb,rb,xb]):=by
 refine⟨_,_,rfl,λW=>enters_of func199 (by kernel_rfl) rfl _ W,λW t hA=>?_⟩;have K:=(aW hM t hm).cell;have Kl:=(aW hM t hm).lt;have R:=(aW hR t hr).cell;have Rl:=(aW hR t hr).lt;unfold dX at R;have X:=(aW hX t hx).cell;have Xl:=(aW hX t hx).lt;unfold aP.cells at X;have O:=U (λv hv=>op v hv _ hA);have HS:=U (λc (e:c=m)=>(e▸hS:S c));clear op hA hS t hM hm hR hr hX hx;rw[hp]at R;have z1:IntKind.i64.wrap ((p:Int)+1)=p+1:=IntWalk.i64_in _ (by omega);have z2:IntKind.i64.wrap (((p:Int)+1)*64)=q:=by rw[show((p:Int)+1)*64=(q:Int)by omega];exact IntWalk.i64_in _ (by omega)
 have z3:IntKind.u32.wrap (q:Int)=q:=IntWalk.u32_in _ (by omega);clear hp hq
 go_enter func199,ntmps199
 go_wp2_with fail
 all_goals
  refine ak (O.o _ (by omega)) ?_;rintro e w1 ⟨c,rfl,t,h⟩;have H:=U h;clear h
  go_wp2
  go_ret;exact⟨c,rfl,t.mono HS.o,H.o⟩
theorem Xm (hS:S m) (op:∀W,A W->Calls prog 201 #[M,ι F r.ino,ι J r.page,σ r.data] W (Rs (λc=>c=m) Q B W)) (hM:aN w mb 144 #[M]) (hm:¬S mb) (hR:aN w rb 44 (dX r)) (hr:¬S rb):uq S Q w A B (.func (.func 200) #[] #[mb,rb]):=by
 refine⟨_,_,rfl,λW=>enters_of func200 (by kernel_rfl) rfl _ W,λW t hA=>?_⟩;have K:=(aW hM t hm).cell;have Kl:=(aW hM t hm).lt;have R:=(aW hR t hr).cell;have Rl:=(aW hR t hr).lt;unfold dX at R;have O:=U (op _ hA);have HS:=U (λc (e:c=m)=>(e▸hS:S c));clear op hA hS t hM hm hR hr
 go_enter func200,ntmps200
 go_wp2_with fail;refine ak O.o ?_;rintro e w1 ⟨c,rfl,t,h⟩;have H:=U h;clear h
 go_wp2
 go_ret;exact⟨c,rfl,t.mono HS.o,H.o⟩
theorem Xn (hS:S m) (op:∀W,A W->Calls prog 197 #[M,ι F r.ino,ι F r.size] W (Rs (λc=>c=m) Q B W)) (hM:aN w mb 144 #[M]) (hm:¬S mb) (hR:aN w rb 44 (dX r)) (hr:¬S rb):uq S Q w A B (.func (.func 202) #[] #[mb,rb]):=by
 refine⟨_,_,rfl,λW=>enters_of func202 (by kernel_rfl) rfl _ W,λW t hA=>?_⟩;have K:=(aW hM t hm).cell;have Kl:=(aW hM t hm).lt;have R:=(aW hR t hr).cell;have Rl:=(aW hR t hr).lt;unfold dX at R;have O:=U (op _ hA);have HS:=U (λc (e:c=m)=>(e▸hS:S c));clear op hA hS t hM hm hR hr
 go_enter func202,ntmps202
 go_wp2_with fail;refine ak O.o ?_;rintro e w1 ⟨c,rfl,t,h⟩;have H:=U h;clear h
 go_wp2
 go_ret;exact⟨c,rfl,t.mono HS.o,H.o⟩
theorem qT (hS:S m) (op:∀W,A W->Calls prog 207 #[γ #[M],ι F r.ino] W (Rs (λc=>c=m) Q B W)) (hM:aN w mb 144 #[M]) (hm:¬S mb) (hR:aN w rb 44 (dX r)) (hr:¬S rb):uq S Q w A B (.func (.func 206) #[] #[mb,rb]):=by
 refine⟨_,_,rfl,λW=>enters_of func206 (by kernel_rfl) rfl _ W,λW t hA=>?_⟩;have K:=(aW hM t hm).cell;have Kl:=(aW hM t hm).lt;have R:=(aW hR t hr).cell;have Rl:=(aW hR t hr).lt;unfold dX at R;have O:=U (op _ hA);have HS:=U (λc (e:c=m)=>(e▸hS:S c));clear op hA hS t hM hm hR hr
 go_enter func206,ntmps206
 go_wp2_with fail;refine ak O.o ?_;rintro e w1 ⟨c,rfl,t,h⟩;have H:=U h;clear h
 go_wp2
 go_ret;exact⟨c,rfl,t.mono HS.o,H.o⟩
theorem Xo {n:Nat} (hS:S m) (op:∀W,A W->Calls prog 207 #[γ #[M],ι F n] W (Rs (λc=>c=m) Q B W)) (hM:aN w mb 144 #[M]) (hm:¬S mb) (hI:aN w rb 42 #[ι F (n:Nat)]) (hr:¬S rb):uq S Q w A B (.func (.func 264) #[] #[mb,rb]):=by
 refine⟨_,_,rfl,λW=>enters_of func264 (by kernel_rfl) rfl _ W,λW t hA=>?_⟩;have K:=(aW hM t hm).cell;have Kl:=(aW hM t hm).lt;have aJ:=(aW hI t hr).cell;have Il:=(aW hI t hr).lt;have O:=U (op _ hA);have HS:=U (λc (e:c=m)=>(e▸hS:S c));clear op hA hS t hM hm hI hr
 go_enter func264,ntmps264
 go_wp2_with fail;refine ak O.o ?_;rintro e w1 ⟨c,rfl,t,h⟩;have H:=U h;clear h
 go_wp2
 go_ret;exact⟨c,rfl,t.mono HS.o,H.o⟩
theorem rB {n:Nat} (hS:S m) (op:∀W,A W->Calls prog 197 #[M,ι F n,ι F 0] W (Rs (λc=>c=m) Q B W)) (hM:aN w mb 144 #[M]) (hm:¬S mb) (hI:aN w rb 42 #[ι F (n:Nat)]) (hr:¬S rb):uq S Q w A B (.func (.func 269) #[] #[mb,rb]):=by
 refine⟨_,_,rfl,λW=>enters_of func269 (by kernel_rfl) rfl _ W,λW t hA=>?_⟩;have K:=(aW hM t hm).cell;have Kl:=(aW hM t hm).lt;have aJ:=(aW hI t hr).cell;have Il:=(aW hI t hr).lt;have O:=U (op _ hA);have HS:=U (λc (e:c=m)=>(e▸hS:S c));clear op hA hS t hM hm hI hr
 go_enter func269,ntmps269
 go_wp2_with fail;refine ak O.o ?_;rintro e w1 ⟨c,rfl,t,h⟩;have H:=U h;clear h
 go_wp2
 go_ret;exact⟨c,rfl,t.mono HS.o,H.o⟩
theorem Xp {n:Nat} (hS:S m) (op:∀W,A W->Calls prog 271 #[M,ι F n] W (Rs (λc=>c=m) Q B W)) (hM:aN w mb 144 #[M]) (hm:¬S mb) (hI:aN w rb 42 #[ι F (n:Nat)]) (hr:¬S rb):uq S Q w A B (.func (.func 270) #[] #[mb,rb]):=by
 refine⟨_,_,rfl,λW=>enters_of func270 (by kernel_rfl) rfl _ W,λW t hA=>?_⟩;have K:=(aW hM t hm).cell;have Kl:=(aW hM t hm).lt;have aJ:=(aW hI t hr).cell;have Il:=(aW hI t hr).lt;have O:=U (op _ hA);have HS:=U (λc (e:c=m)=>(e▸hS:S c));clear op hA hS t hM hm hI hr
 go_enter func270,ntmps270
 go_wp2_with fail;refine ak O.o ?_;rintro e w1 ⟨c,rfl,t,h⟩;have H:=U h;clear h
 go_wp2
 go_ret;exact⟨c,rfl,t.mono HS.o,H.o⟩
theorem Pa (hE:aN w eb 35 #[ι J 0]) (he:¬S eb) (sA:qY m A):uq S Q w A A (.func (.func 180) #[] #[eb]):=by
 refine⟨_,_,rfl,λW=>enters_of func180 (by kernel_rfl) rfl _ W,λW t hA=>?_⟩;have X:=(aW hE t he).cell;have HA:=U hA;clear hE he t hA
 go_enter func180,ntmps180
 go_wp2
 go_ret;exact⟨0,rfl,aR.of_below (aj _ _),λ_=>sA.1 _ _ HA.o (aj _ _),λq=>absurd rfl q⟩
theorem Pc (hE:aN w eb 35 #[ι J 0]) (he:¬S eb) (sA:qY m A):uq S Q w A A (.func (.func 198) #[] #[eb]):=by
 refine⟨_,_,rfl,λW=>enters_of func198 (by kernel_rfl) rfl _ W,λW t hA=>?_⟩;have X:=(aW hE t he).cell;have HA:=U hA;clear hE he t hA
 go_enter func198,ntmps198
 go_wp2
 go_ret;exact⟨0,rfl,aR.of_below (aj _ _),λ_=>sA.1 _ _ HA.o (aj _ _),λq=>absurd rfl q⟩
theorem Pd (hE:aN w eb 35 #[ι J 0]) (he:¬S eb) (sA:qY m A):uq S Q w A A (.func (.func 203) #[] #[eb]):=by
 refine⟨_,_,rfl,λW=>enters_of func203 (by kernel_rfl) rfl _ W,λW t hA=>?_⟩;have X:=(aW hE t he).cell;have HA:=U hA;clear hE he t hA
 go_enter func203,ntmps203
 go_wp2
 go_ret;exact⟨0,rfl,aR.of_below (aj _ _),λ_=>sA.1 _ _ HA.o (aj _ _),λq=>absurd rfl q⟩
theorem Pe (hE:aN w eb 35 #[ι J 0]) (he:¬S eb) (sA:qY m A):uq S Q w A A (.func (.func 262) #[] #[eb]):=by
 refine⟨_,_,rfl,λW=>enters_of func262 (by kernel_rfl) rfl _ W,λW t hA=>?_⟩;have X:=(aW hE t he).cell;have HA:=U hA;clear hE he t hA
 go_enter func262,ntmps262
 go_wp2
 go_ret;exact⟨0,rfl,aR.of_below (aj _ _),λ_=>sA.1 _ _ HA.o (aj _ _),λq=>absurd rfl q⟩
theorem pz (hX:∀W,aR S w W->A W->aN W xb 114 x.cells) (hk:x.kind≠0) (sA:qY m A):uq S Q w A A (.func (.func 181) #[] #[xb]):=by
 refine⟨_,_,rfl,λW=>enters_of func181 (by kernel_rfl) rfl _ W,λW t hA=>?_⟩;have X:=(hX W t hA).cell;unfold aP.cells at X;have HA:=U hA;clear hX t hA;have tk:((x.kind:Int)==0)=false:=by simp;omega
 go_enter func181,ntmps181
 go_wp2_with fail;refine(iT _ _).mono ?_;rintro e w1 ⟨rfl,rfl⟩
 go_wp2
 go_ret;exact⟨0,rfl,aR.of_below (aj _ _),λ_=>sA.1 _ _ HA.o (aj _ _),λq=>absurd rfl q⟩
theorem Og (hX:∀W,aR S w W->A W->aN W xb 114 x.cells) (hk:x.kind≠0) (sA:qY m A):uq S Q w A A (.func (.func 204) #[] #[xb]):=by
 refine⟨_,_,rfl,λW=>enters_of func204 (by kernel_rfl) rfl _ W,λW t hA=>?_⟩;have X:=(hX W t hA).cell;unfold aP.cells at X;have HA:=U hA;clear hX t hA;have tk:((x.kind:Int)==0)=false:=by simp;omega
 go_enter func204,ntmps204
 go_wp2_with fail;refine(iT _ _).mono ?_;rintro e w1 ⟨rfl,rfl⟩
 go_wp2
 go_ret;exact⟨0,rfl,aR.of_below (aj _ _),λ_=>sA.1 _ _ HA.o (aj _ _),λq=>absurd rfl q⟩
theorem vO (hX:∀W,aR S w W->A W->aN W xb 114 x.cells) (hk:x.kind=1) (sA:qY m A):uq S Q w A A (.func (.func 183) #[] #[xb]):=by
 refine⟨_,_,rfl,λW=>enters_of func183 (by kernel_rfl) rfl _ W,λW t hA=>?_⟩;have X:=(hX W t hA).cell;unfold aP.cells at X;have HA:=U hA;clear hX t hA;rw[hk]at X;clear hk
 go_enter func183,ntmps183
 go_wp2_with fail;refine(iT _ _).mono ?_;rintro e w1 ⟨rfl,rfl⟩
 go_wp2
 go_ret;exact⟨0,rfl,aR.of_below (aj _ _),λ_=>sA.1 _ _ HA.o (aj _ _),λq=>absurd rfl q⟩
theorem Uf (hX:∀W,aR S w W->A W->aN W xb 114 x.cells) (hk:x.links<200) (sA:qY m A):uq S Q w A A (.func (.func 184) #[] #[xb]):=by
 refine⟨_,_,rfl,λW=>enters_of func184 (by kernel_rfl) rfl _ W,λW t hA=>?_⟩;have X:=(hX W t hA).cell;unfold aP.cells at X;have HA:=U hA;clear hX t hA;have tk:decide ((200:Int)<=(x.links:Int))=false:=by simp;omega
 go_enter func184,ntmps184
 go_wp2_with fail;refine(iT _ _).mono ?_;rintro e w1 ⟨rfl,rfl⟩
 go_wp2
 go_ret;exact⟨0,rfl,aR.of_below (aj _ _),λ_=>sA.1 _ _ HA.o (aj _ _),λq=>absurd rfl q⟩
theorem Oh (hX:∀W,aR S w W->A W->aN W xb 114 x.cells) (hk:x.kind=1) (hl:x.links=0) (sA:qY m A):uq S Q w A A (.func (.func 205) #[] #[xb]):=by
 refine⟨_,_,rfl,λW=>enters_of func205 (by kernel_rfl) rfl _ W,λW t hA=>?_⟩;have X:=(hX W t hA).cell;unfold aP.cells at X;have HA:=U hA;clear hX t hA;rw[hk,hl]at X;clear hk hl
 go_enter func205,ntmps205
 go_wp2_with fail;refine(iT _ _).mono ?_;rintro e w1 ⟨rfl,rfl⟩
 go_wp2
 go_ret;exact⟨0,rfl,aR.of_below (aj _ _),λ_=>sA.1 _ _ HA.o (aj _ _),λq=>absurd rfl q⟩
end
end Ap
namespace Dev
open Go.RowKit Go.Shelf Go.Maps
def GD (pd:iF) (i:Int):iF:=λy=>if y=i then none else pd y
theorem Xq (pd:iF) (i:Int):ng (GD pd i)=Xr (ng pd) i:=by
 funext y
 unfold ng GD Xr
 by_cases hy:y=i<;>simp[hy]
theorem Eu (v:Value) (w:World):(Instr.field 235 (.agg #[v]) 0).run prog w=.ok v w:=by kernel_rfl
theorem kept1 {b:dN} {hard:List ByteArray} {pd:iF} {k i:Nat} {e:Nat×Nat×ByteArray} {w w3:World} (h:bY w b hard pd k) (hi:i<hard.length) (hp:pd i=some e)
 (QF:dM w3 rowElem b.m k (Xr (ng pd) i)) (ht3:(w.setCell ⟨b.g,i,none⟩ (.string e.2.2)).drew.mapTurned w3 b.m):
 bY w3 b (hard.set i e.2.2) (GD pd i) k/\aR (λc=>c=b.g\/c=b.m) w w3:=by
 obtain⟨Jj,hc1,hX⟩:=h.dev;have T00:aR (λc=>c=b.g\/c=b.m) w (w.setCell ⟨b.g,i,none⟩ (.string e.2.2)):=aR.set _ (.inl rfl);have T0:aR (λc=>c=b.g\/c=b.m) w (w.setCell ⟨b.g,i,none⟩ (.string e.2.2)).drew:=⟨T00.os,T00.tape,T00.output,T00.size,T00.block⟩;have T:=T0.trans (aR.grown ht3.grown (λr e=>by cases e;exact .inr rfl));have hpm:b.p≠b.m:=h.map.ne hX;have hgp:b.g≠b.p:=h.row.ne hX (by decide);have hgm:b.g≠b.m:=h.row.Ba h.map;refine⟨⟨⟨Jj,by simpa using hc1,?_⟩,?_,?_,?_,by simpa using h.len,λx q hx=>?_⟩,T⟩
 ·rw[List.length_set]
  exact(T.block _ hX.lt (λq=>q.elim hgp.symm hpm)).trans hX
 ·exact(h.row.set i e.2.2).block (ht3.grown.block b.g (by show _<(w.setCell ⟨b.g,i,none⟩ (.string e.2.2)).heap.size;simpa[World.setCell]using h.row.lt) (λq=>hgm (Option.some.inj q)))
 ·rw[Xq]
  exact QF
 ·intro x q hx
  unfold GD at hx
  by_cases hxi:x=(i:Int)
  ·rw[if_pos hxi]at hx
   cases hx
  ·rw[if_neg hxi]at hx
   obtain⟨r1,r2⟩:=h.rows x q hx;exact⟨r1.block (T.block _ r1.lt (λz=>z.elim r2 (r1.Ba h.map))),r2⟩
 ·unfold GD at hx
  by_cases hxi:x=(i:Int)
  ·rw[if_pos hxi]at hx
   cases hx
  ·rw[if_neg hxi]at hx
   rw[List.length_set];exact h.dom x q hx
section
variable {b:dN} {hard:List ByteArray} {pd:iF} {k:Nat}
theorem Xt (i:Nat) (w:World) (h:bY w b hard pd k) (hi:i<hard.length) {q:Nat×Nat×ByteArray} (hp:pd i=some q):
 Calls prog 129 #[b.p,.int J i,.int J 1] w λe w'=>e=aG (τ #[])/\bY w' b (hard.set i q.2.2) (GD pd i) k/\aR (λc=>c=b.g\/c=b.m) w w':=by
 have hl:=h.len;have hlk:=Ev h i (by omega) hp false;simp only[Bool.false_eq_true,if_false]at hlk;have hfl:∀W,(Instr.field 235 (.agg #[.slice (some q.1) 1 q.2.1]) 0).run prog W=.ok (.slice (some q.1) 1 q.2.1) W:=λW=>Eu _ W;have hHD:bY w.drew b hard pd k:=h.later (aj _ _).drew;have HD:=U hHD;have hr:=(h.rows i q hp).1;have c1:=hr.cell 0 (by simp);simp only[List.getElem_cons_zero]at c1;have hrl:=hr.lt;have c2:=h.row.cell i hi;have f2:=h.row.free i;have hgl:=h.row.lt;have q0:(0:Int)<=i:=by omega
 have q1:(i:Int)<hard.length:=by omega
 obtain⟨cap0,hcap,hX⟩:=h.dev;have hm0:dM (w.setCell ⟨b.g,i,none⟩ (.string q.2.2)).drew rowElem b.m k (ng pd):=(h.map.other _ (h.row.Ba h.map).symm).drew;obtain⟨w3,hdel,QF,ht3⟩:=hm0.del pE i (mQ i (by omega)) 0;have hX2:aN (w.setCell ⟨b.g,i,none⟩ (.string q.2.2)).drew b.p 150 (gM b hard.length cap0 k):=aN.drew (aN.other hX _ (h.row.ne hX (by decide)).symm);unfold gM at hX hX2;have X:=hX.cell;have Xl:=hX.lt;have Z:=hX2.cell;have Zl:=hX2.lt;have KP:=U (kept1 h hi hp QF ht3);clear hX hX2 hm0 hr hHD QF ht3 h
 go_enter func129,ntmps129
 go_wp2_with fail;go_region;go_wp2_with fail;exact bodyPost_ret (results_none rfl _ _ _) rfl ⟨rfl,KP.o⟩
end
end Dev
namespace Tx
open Go.RowKit Go.Shelf Go.Maps Oct Dev
structure xL where
 p:Nat
 m:Nat
 j:Nat
def GH:lH:=λv=>match v with
 | .string s=>some (.lit (.string (L s)),[])
 |_=>none
theorem GI (s:ByteArray):GH (.string s)=some (.lit (.string (L s)),[]):=rfl
theorem Kc {v:Value} {s:ByteArray} {ps:List MemPlace} (h:GH v=some (.lit (.string (L s)),ps)):v=.string s:=by
 unfold GH at h
 split at h
 ·rename_i t
  simp only[Option.some.injEq,Prod.mk.injEq,DataW.lit.injEq,Lit.string.injEq]at h;rw[iL h.1]
 ·cases h
abbrev Wrote:=Int->Option ByteArray
def fG (f:Wrote):Int->Option (DataW Unit):=λx=>(f x).map λs=>.lit (.string (L s))
structure GJ (W:World) (T:xL) (b:dN) (hard:List ByteArray) (k:Nat) (f:Wrote) (nn:Nat):Prop where
 tx:aN W T.p 100 #[b.p,T.j,.map (some T.m),.bool false]
 map:dM W GH T.m nn (fG f)
 dev:bY W b hard (λ_=>none) k
section
variable {T:xL} {b:dN} {hard:List ByteArray} {k nn:Nat} {f:Wrote}
theorem GJ.later {W W':World} (h:GJ W T b hard k f nn) (hb:Below W.heap.size W W'):GJ W' T b hard k f nn:=⟨h.tx.later hb,h.map.later hb,h.dev.later hb⟩
theorem mR (w:World) (h:GJ w T b hard k f nn):Calls prog 70 #[T.p] w λe w'=>e=aG (.int J 0)/\w=w':=by
 have hX:=h.tx;have X:=hX.cell;have Xl:=hX.lt;clear hX h
 go_enter func70,ntmps70
 go_wp2
 go_ret;exact⟨rfl,rfl⟩
theorem Ew (j:Nat) (w:World) (h:bY w b hard (λ_=>none) k):Calls prog 13 #[b.p,j] w λe w'=>∃T:xL,e=aG (τ #[T.p,.int J 0])/\T.j=j/\w.heap.size<=T.p/\w.heap.size<=T.m/\GJ w' T b hard k (λ_=>none) 0/\Below w.heap.size w w':=by
 have hmm:=@run_makeMap prog;have HB:=U (((aj _ w).alloc (ah _) (.map #[] 0)).alloc (by simp) (aH #[b.p,j,.map (some w.heap.size),.bool false] 100));have HX:=U (aN.new (w.alloc (.map #[] 0)) 100 #[b.p,j,.map (some w.heap.size),.bool false]);have HM:=U ((dM.new w GH).alloc (aH #[b.p,j,.map (some w.heap.size),.bool false] 100));have HD:=U h;clear h
 go_enter func13,ntmps13
 go_wp2
 go_ret2;have hX:=HX.o;rw[aC]at hX;exact⟨⟨w.heap.size+1,w.heap.size,j⟩,rfl,rfl,by simp,ah _,⟨hX,HM.o,HD.o.later HB.o⟩,HB.o⟩
end
section
variable {T:xL} {b:dN} {hard:List ByteArray} {k nn:Nat} {f:Wrote}
def iG (f:Wrote) (hard:List ByteArray) (i:Nat):ByteArray:=match f i with
 |some s=>s
 |none=>hard.getD i ⟨#[]⟩
theorem vQ:prog.underlying 98=some (.map 3 9):=by kernel_rfl
theorem Ke (w:World):(zeroValue 9).run prog w=.ok (.string ⟨#[]⟩) w:=by kernel_rfl
theorem GL {w:World} (h:GJ w T b hard k f nn) (i:Nat) (hi:i<=4096):
 (Instr.lookup 98 (.map (some T.m)) (.int J (i:Int)) true).run prog w=.ok (τ #[.string ((f i).getD ⟨#[]⟩),.bool (f i).isSome]) w:=by
 obtain⟨v,ps,hrun,hv⟩:=h.map.look_ok vQ (Ke w) (GI ⟨#[]⟩) i (mQ i (by omega))
 have e1:((fG f (i:Int)).getD (.lit (.string (L ⟨#[]⟩))))=.lit (.string (L ((f i).getD ⟨#[]⟩))):=by
  unfold fG;cases f i<;>rfl
 have e2:(fG f (i:Int)).isSome=(f i).isSome:=by
  unfold fG;cases f i<;>rfl
 rw[e1]at hv;rw[hrun,e2,Kc hv]
theorem rG (i:Nat) (w:World) (h:GJ w T b hard k f nn) (hi:i<hard.length):Calls prog 87 #[T.p,.int J i] w λe w'=>e=aG (τ #[.string (iG f hard i),.int J 0])/\Below w.heap.size w w':=by
 have hlen:=h.dev.len;have OP:=U (mR w h);have LN:=U (qx w h.dev);have RD:=U (Ey i w h.dev hi rfl);have hlk:=GL h i (by omega);have q0:decide ((i:Int)<0)=false:=by simp
 have q1:decide ((hard.length:Int)<=(i:Int))=false:=by simp;omega
 have q2:decide (hard.length<=i)=false:=by simp;omega
 have hX:=h.tx;have X:=hX.cell;have Xl:=hX.lt;clear hX h;have hgd:hard.getD i ⟨#[]⟩=hard[i]:=by simp[List.getD_eq_getElem?_getD,hi]
 unfold iG;rw[hgd];clear hgd
 generalize hard[i]=hs at*
 cases hf:f i with
 |some s=>
  rw[hf]at hlk;simp only[Option.getD_some,Option.isSome_some]at hlk
  go_enter func87,ntmps87
  go_wp2_with fail;refine OP.o.mono ?_;rintro e w9 ⟨rfl,rfl⟩;go_wp2_with fail;refine LN.o.mono ?_;rintro e w9 ⟨rfl,rfl⟩
  go_wp2
  go_ret2;exact⟨rfl,aj _ _⟩
 |none=>
  rw[hf]at hlk;simp only[Option.getD_none,Option.isSome_none]at hlk
  go_enter func87,ntmps87
  go_wp2_with fail;refine OP.o.mono ?_;rintro e w9 ⟨rfl,rfl⟩;go_wp2_with fail;refine LN.o.mono ?_;rintro e w9 ⟨rfl,rfl⟩;go_wp2_with fail;refine RD.o.mono ?_;rintro e w1 ⟨rfl,b1⟩
  go_wp2
  go_ret2;exact⟨rfl,b1⟩
end
end Tx
namespace mU
open Go.RowKit Go.Shelf Go.Maps Oct Dev
def vS (n:Nat):Nat->Nat->Nat
 |m,0=>m
 |m,q+1=>if m+(m+31)/32+1<=n then vS n (m+1) q else m
def fH (n:Nat):Nat:=vS n 1 n-1
theorem Oi {n m q:Nat} (h:¬m+(m+31)/32+1<=n):vS n m q=m:=by
 cases q with
 |zero=>rfl
 |succ q=>rw[vS,if_neg h]
theorem Xu {n m q:Nat} (h:m+(m+31)/32+1<=n) (hq:1<=q):vS n m q=vS n (m+1) (q-1):=by
 cases q with
 |zero=>omega
 |succ q=>rw[vS,if_pos h];rfl
theorem Xv (n:Nat) (w:World) (hn:n<=4096):Calls prog 219 #[ι J n] w λe w'=>e=aG (ι J (fH n))/\w=w':=by
 go_enter func219,ntmps219
 go_wp2_with fail
 go_loopw [3] (λc wr=>∃m:Nat,1<=m/\m<=n+1/\c=ι J m/\vS n 1 n=vS n m (n-(m-1))/\wr=w) (λc _=>n+2-(Go.RowKit.intOf c).toNat)
 case atStart=>exact⟨1,ah _,by omega,rfl,by rw[Nat.sub_self,Nat.sub_zero],rfl⟩
 case round=>
  obtain⟨m,h1,h2,rfl,hg,rfl⟩:=hrel
  by_cases hle:m+(m+31)/32+1<=n
  ·have q0:(m:Int)+((m:Int)+32-1)/32+1<=(n:Int):=by omega
   have E:=U (hg.trans (Xu hle (by omega)));clear hg
   go_wp2
   exact⟨⟨m+1,by omega,by omega,rfl,by rw[E.o];congr 1;omega,trivial⟩,by simp[Go.RowKit.intOf];omega⟩
  ·have q0:¬(m:Int)+((m:Int)+32-1)/32+1<=(n:Int):=by omega
   have E:=U (hg.trans (Oi hle));clear hg
   go_wp2
   go_ret;refine⟨?_,rfl⟩;have e1:(m:Int)-1=((fH n:Nat):Int):=by unfold fH;rw[E.o];omega
   show Ending.returned (ι J ((m:Int)-1))=_;rw[e1]
def eF (W:World) (j:Nat) (b:dN) (from_ n gen:Nat):Prop:=aN W j 167 #[b.p,ι J from_,ι J n,ι .u64 gen,ι J 0]
theorem GQ (j:Nat) (b:dN) (from_ n gen:Nat) (w:World) (h:eF w j b from_ n gen) (hn:n<=4096):Calls prog 132 #[j] w λe w'=>e=aG (ι J (fH n))/\w=w':=by
 have MO:=U (λW=>Xv n W hn);unfold eF at h;have X:=h.cell;have Xl:=h.lt;clear h
 go_enter func132,ntmps132
 go_wp2_with fail;refine(MO.o _).mono ?_;rintro e w9 ⟨rfl,rfl⟩
 go_wp2
 go_ret;exact⟨rfl,rfl⟩
end mU
namespace Tx
open Go.RowKit Go.Shelf Go.Maps Oct Dev mU
structure TJ (W:World) (T:xL) (b:dN) (hard:List ByteArray) (k:Nat) (f:Wrote) (nn fr n:Nat):Prop where
 tx:GJ W T b hard k f nn
 MZ:∃gen,gen<=k/\eF W T.j b fr n gen
 ne:T.m≠b.m
def ni (f:Wrote) (i:Nat) (s:ByteArray):Wrote:=λy=>if y=(i:Int)then some s else f y
theorem AO (f:Wrote) (i:Nat) (s:ByteArray):fG (ni f i s)=qw (fG f) i (.lit (.string (L s))):=by
 funext y
 unfold fG ni qw
 by_cases hy:y=(i:Int)<;>simp[hy]
theorem Ug {W:World} {R:lH} {b nn:Nat} {f:Int->Option (DataW Unit)} (h:dM W R b nn f) {t e:TypeId} (ht:prog.underlying t=some (.map 3 e)):∃q:Nat,q<=nn/\∀m ty,(Builtin.len_ #[t] ty #[.map (some b)]).run prog (W.drewN m)=.ok (.int J q) (W.drewN m):=by
 obtain⟨D,h1,_⟩:=h;exact⟨_,h1.size_le,λm ty=>World.ownsMap.len (w:=W.drewN m) h1 ht ty⟩
section
variable {T:xL} {b:dN} {hard:List ByteArray} {k nn fr n:Nat} {f:Wrote}
theorem TJ.later {W W':World} (h:TJ W T b hard k f nn fr n) (hb:Below W.heap.size W W'):TJ W' T b hard k f nn fr n:=⟨h.tx.later hb,by
 obtain⟨gen,g1,g2⟩:=h.MZ;exact⟨gen,g1,aN.below g2 (aN.lt g2) hb⟩,h.ne⟩
theorem bY.Pi {W W':World} {hard:List ByteArray} {pd:iF} {k m:Nat} (h:bY W b hard pd k) (hm:∃es c,W.heap[m]? =some (.map es c)) (hne:m≠b.m) (T:aR (λc=>c=m) W W'):bY W' b hard pd k:=by
 obtain⟨es,c,hm⟩:=hm
 have key:∀(d:Nat) (cs:Array Value) (t:TypeId),W.heap[d]? =some (aH cs t (0,0))->W'.heap[d]? =W.heap[d]? :=λd cs t hd=>T.block d (Array.getElem?_eq_some_iff.1 hd).1 (λe=>by
  subst e;rw[hd]at hm;cases hm)
 obtain⟨⟨cap,h0,h1⟩,h2,h3,h4,h5,h6⟩:=h
 have str:∀{g:Nat} {l:List ByteArray},eZ W g l->eZ W' g l:=λhs=>by
  obtain⟨cs,c1,c2⟩:=hs;exact⟨cs,(key _ _ _ c1).trans c1,c2⟩
 exact⟨⟨cap,h0,(key _ _ _ h1).trans h1⟩,str h2,h3.block (T.block _ h3.lt (λe=>hne e.symm)),λx e hx=>⟨str (h4 x e hx).1,(h4 x e hx).2⟩,h5,h6⟩
theorem wrote {w w3:World} {i:Nat} {s:ByteArray} (h:TJ w T b hard k f nn fr n) (hI:dM w3 GH T.m (nn+1) (qw (fG f) i (.lit (.string (L s))))) (ht:w.mapTurned w3 T.m):TJ w3 T b hard k (ni f i s) (nn+1) fr n/\aR (λc=>c=T.m) w w3:=by
 have T1:aR (λc=>c=T.m) w w3:=aR.grown ht.grown (λr e=>(Option.some.inj e).symm);have bx:∀{p:Nat} {t:TypeId} {cs:Array Value},aN w p t cs->aN w3 p t cs:=λ{p t cs} hx=>(T1.block _ hx.lt (h.tx.map.ne hx)).trans hx;obtain⟨gen,g1,g2⟩:=h.MZ;refine⟨⟨⟨bx h.tx.tx,?_,bY.Pi h.tx.dev h.tx.map.isMap h.ne T1⟩,⟨gen,g1,bx g2⟩,h.ne⟩,T1⟩;rw[AO];exact hI
theorem Uh (i:Nat) (s:ByteArray) (w:World) (h:TJ w T b hard k f nn fr n) (hi:i<hard.length) (hs:s.size=64) (hn:n<=256) (hk:(f i).isSome=true\/nn<fH n) (hnn:nn<10000):
 Calls prog 234 #[T.p,.int J i,.string s] w λe w'=>e=aG (.int J 0)/\TJ w' T b hard k (ni f i s) (nn+1) fr n/\aR (λc=>c=T.m) w w':=by
 have hl:=h.tx.dev.len;have OP:=U (mR w h.tx);have LN:=U (qx w h.tx.dev);obtain⟨gen,_,Xw⟩:=h.MZ;have MX:=U (λm=>GQ T.j b fr n gen (w.drewN m) (aN.below Xw (aN.lt Xw) (below_drewN (aj _ _) _)) (by omega) |>.mono λe w' (h:_/\_)=>(⟨h.1,h.2.symm⟩:_/\w'=w.drewN m));have hlk:=GL h.tx i (by omega);obtain⟨q,hq,hlen⟩:=Ug h.tx.map vQ
 have HP:∀m,∃w3,(Instr.mapUpdate 98 (.map (some T.m)) (.int J (i:Int)) (.string s)).run prog (w.drewN m)=.ok () w3/\TJ w3 T b hard k (ni f i s) (nn+1) fr n/\aR (λc=>c=T.m) w w3:=λm=>by
  have h2:=h.later (below_drewN (aj w.heap.size w) m);obtain⟨w3,hput,QF,ht3⟩:=dM.put h2.tx.map vQ (by unfold maxLen;omega) i (mQ i (by omega)) (GI s);obtain⟨r1,r2⟩:=wrote h2 QF ht3;exact⟨w3,hput,r1,(aR.of_below (below_drewN (aj w.heap.size w) m)).trans r2⟩
 have q0:decide ((i:Int)<0)=false:=by simp
 have q1:decide ((hard.length:Int)<=(i:Int))=false:=by simp;omega
 have q2:decide (hard.length<=i)=false:=by simp;omega
 have q3:((s.size:Int)!=64)=false:=by simp;omega
 have H:=U h;have hX:=h.tx.tx;have X:=hX.cell;have Xl:=hX.lt;clear hX h;cases hf:f i with
 |some s0=>
  rw[hf]at hlk;simp only[Option.getD_some,Option.isSome_some]at hlk
  go_enter func234,ntmps234
  go_wp2_with fail;refine OP.o.mono ?_;rintro e w9 ⟨rfl,rfl⟩;go_wp2_with fail;refine LN.o.mono ?_;rintro e w9 ⟨rfl,rfl⟩;go_wp2_with fail
  go_quiet (fail)
  obtain⟨w3,hput,R1,R2⟩:=HP nq
  go_wp2
  go_ret;exact⟨rfl,R1,R2⟩
 |none=>
  rw[hf]at hlk hk;simp only[Option.getD_none,Option.isSome_none]at hlk;have hk2:nn<fH n:=by simpa using hk
  have d5:decide (((fH n:Nat):Int)<=(q:Int))=false:=by simp;omega
  have d6:decide (fH n<=q)=false:=by simp;omega
  go_enter func234,ntmps234
  go_wp2_with fail;refine OP.o.mono ?_;rintro e w9 ⟨rfl,rfl⟩;go_wp2_with fail;refine LN.o.mono ?_;rintro e w9 ⟨rfl,rfl⟩;go_wp2_with fail
  go_quiet ((go_at_call 132;exact Calls.quiet_of_same (MX.o _)))
  obtain⟨w3,hput,R1,R2⟩:=HP nq
  go_wp2
  go_ret;exact⟨rfl,R1,R2⟩
end
