/- Lemmas. -/
import Derived.Test.YtpendnmmgjlmfaaGreatDoorM10
import Derived.Stop.RegionWithIn
set_option linter.unusedVariables false
set_option linter.unusedSimpArgs false
namespace Go.Proofs.YtpendnmmgjlmfaaGreatDoor
open Go.RowKit Go.Shelf Go.Maps
open Go.Proofs.Tryz
open IntKind renaming i64→J
open Value renaming pointer→G,int->ι,bool->ν,slice->θ,agg->γ
open Ending renaming returned→aG
open Obj renaming cells→aH
set_option maxRecDepth 100000
set_option maxHeartbeats 4000000
namespace Dev
open Go.Sort
section
attribute [local go_sem] Oper.semAt_some
def jE (pd:iF) (pre:List Int):iF:=λy=>if y∈pre then none else pd y
def iD (hard:List ByteArray) (pd:iF) (pre:List Int):List ByteArray:=pre.foldl (λh x=>match pd x with|some e=>h.set x.toNat e.2.2|none=>h) hard
theorem Ot (pd:iF):jE pd []=pd:=by funext y;simp[jE]
theorem KF (pd:iF) (pre:List Int) (x:Int):jE pd (pre++[x])=GD (jE pd pre) x:=by
 funext y
 unfold jE GD
 by_cases hy:y=x
 ·simp[hy]
 ·by_cases hm:y∈pre<;>simp[hy,hm]
theorem KG {hard:List ByteArray} {pd:iF} {pre:List Int} {x:Int} {e:Nat×Nat×ByteArray} (h:pd x=some e):iD hard pd (pre++[x])=(iD hard pd pre).set x.toNat e.2.2:=by
 unfold iD;rw[List.foldl_append]
 simp[h]
theorem qA (pd:iF):∀(pre:List Int) (hard:List ByteArray),(iD hard pd pre).length=hard.length
 |[],_=>rfl
 |x::r,hard=>by
  unfold iD;rw[List.foldl_cons];have h:=qA pd r (match pd x with|some e=>hard.set x.toNat e.2.2|none=>hard);unfold iD at h;rw[h];cases pd x<;>simp
theorem qB {pd:iF} (hd:∀x e,pd x=some e->∃i:Nat,x=i):∀(pre:List Int) (hard:List ByteArray) (i:Nat) (hi:i<hard.length),(iD hard pd pre)[i]? =some (match(if(i:Int)∈pre then pd i else none)with|some e=>e.2.2|none=>hard[i])
 |[],hard,i,hi=>by simp[iD,hi]
 |x::r,hard,i,hi=>by
  have h0:iD hard pd (x::r)=iD (match pd x with|some e=>hard.set x.toNat e.2.2|none=>hard) pd r:=rfl;rw[h0];cases hx:pd x with
  |none=>
   rw[qB hd r hard i hi]
   by_cases e:(i:Int)=x
   ·subst e
    simp[hx]
   ·simp[e]
  |some q=>
   obtain⟨j,rfl⟩:=hd x q hx;rw[qB hd r _ i (by simpa using hi)]
   by_cases e:i=j
   ·subst e
    simp only[List.mem_cons,true_or,if_true,hx]
    by_cases hm:(i:Int)∈r
    ·simp[hm,hx]
    ·simp[hm]
   ·have e2:¬(i:Int)=(j:Int):=by omega
    have e3:(j:Int).toNat≠i:=by simp;omega
    by_cases hm:(i:Int)∈r
    ·simp[hm,List.getElem_set,Ne.symm e]
    ·simp[hm,e2,List.getElem_set,Ne.symm e]
theorem bY.grown {W W':World} {b:dN} {hard:List ByteArray} {pd:iF} {k B:Nat} {row:Option Nat} (h:bY W b hard pd k) (hg:W.grownBy W' row) (hm:b.m<B) (hr:∀r,row=some r->B<=r/\∃o:Obj,W.heap[r]? =some o/\o.isCells=false):bY W' b hard pd k:=by
 have key:∀(c:Nat) (cs:Array Value) (t:TypeId),W.heap[c]? =some (aH cs t (0,0))->some c≠row:=λc cs t hc e=>by
  obtain⟨_,o,ho,hn⟩:=hr c e.symm;rw[hc]at ho;cases ho;cases hn
 obtain⟨⟨cap,h0,h1⟩,h2,h3,h4,h5,h6⟩:=h
 have str:∀{g:Nat} {l:List ByteArray},eZ W g l->eZ W' g l:=λhs=>by
  obtain⟨cs,c1,c2⟩:=hs;exact⟨cs,(hg.block _ (Array.getElem?_eq_some_iff.1 c1).1 (key _ _ _ c1)).trans c1,c2⟩
 exact⟨⟨cap,h0,aN.kept h1 hg (key _ _ _ h1)⟩,str h2,h3.kept hg (λe=>by have:=(hr _ e.symm).1;omega),λx e hx=>⟨str (h4 x e hx).1,(h4 x e hx).2⟩,h5,h6⟩
theorem aR.grows {S:Nat->Prop} {w W W':World} {B:Nat} {row:Option Nat} (h:aR S w W) (hB:w.heap.size<=B) (hg:W.grownBy W' row) (hr:∀r,row=some r->B<=r):aR S w W':=
 ⟨hg.os.trans h.os,hg.tape.trans h.tape,hg.output.trans h.output,aD h.size hg.size,λc hc hs=>(hg.block c (aA hc h.size) (λe=>by have:=hr c e.symm;omega)).trans (h.block c hc hs)⟩
def XQ (w:World) (b:dN) (hard:List ByteArray) (pd:iF) (k:Nat) (pre:List Int) (W:World):Prop:=
 Boxed W w.heap.size 29 (G (some ⟨b.p,0,none⟩))/\bY W b (iD hard pd pre) (jE pd pre) k/\aR (λc=>c=b.g\/c=b.m) w W
theorem EK {w:World} {b:dN} {hard:List ByteArray} {pd:iF} {k B:Nat} (hB:w.heap.size<=B) (hm:b.m<B):OwnFrom B (XQ w b hard pd k):=λpre W W' row ⟨h1,h2,h3⟩ hg hr=>
 ⟨boxed_own _ _ (λ_=>_) pre W W' row h1 hg (λr e=>(hr r e).2),h2.grown hg hm hr,h3.grows hB hg (λr e=>(hr r e).1)⟩
theorem Ou {w W2 W w9:World} {b:dN} {hard:List ByteArray} {pd:iF} {k i:Nat} {pre:List Int} {q:Nat×Nat×ByteArray} (hm:b.m<w.heap.size) (hg:b.g<w.heap.size) (hB:w.heap.size<=W2.heap.size) (h1:Boxed W w.heap.size 29 (G (some ⟨b.p,0,none⟩))) (h3:aR (λc=>c=b.g\/c=b.m) w W)
 (hsn:iD hard pd (pre++[(i:Int)])=(iD hard pd pre).set (i:Int).toNat q.2.2) (D9:bY w9 b ((iD hard pd pre).set i q.2.2) (GD (jE pd pre) i) k) (T9:aR (λc=>c=b.g\/c=b.m) W.drew w9):
 KeepsFrom W2.heap.size W w9/\Ez W2.heap.size W w9/\XQ w b hard pd k (pre++[(i:Int)]) w9:=by
 have T:aR (λc=>c=b.g\/c=b.m) W w9:=⟨T9.os,T9.tape,T9.output,T9.size,T9.block⟩;have hne:∀c,W2.heap.size<=c->¬(c=b.g\/c=b.m):=λc hc e=>by rcases e with e|e<;>omega
 refine⟨⟨T.size,λc o hc ho _=>(T.block c (Array.getElem?_eq_some_iff.1 ho).1 (hne c hc)).trans ho⟩,λc t cs hc hs=>(T.block c hs.lt (hne c hc)).trans hs,?_,?_,h3.trans T⟩
 ·exact(T.block _ h1.lt (λe=>by rcases e with e|e<;>omega)).trans h1
 ·rw[hsn,KF]
  exact D9
theorem EM {b:dN} {hard:List ByteArray} {pd:iF} {k:Nat} (w:World) (h:bY w b hard pd k) (hk:k<=1099511627776):
 Calls prog 68 #[b.p] w λe w'=>e=aG (ι J 0)/\∃ss,KeysOf (ng pd) ss/\bY w' b (iD hard pd ss) (jE pd ss) k/\aR (λc=>c=b.g\/c=b.m) w w':=by
 have hm:=h.map.lt;have hg:=h.row.lt;have RE:=U (xI (w.alloc (aH #[b.p] 29)) (h.later ((aj _ _).alloc (ah _) _)));have LO:=U (λW=>Um b.p W);have HD:=U h;refine(callsIn_wide (n:=4)).1 ?_;refine callsIn_of_wp_marks func68 rfl trivial ?_ rfl;simp only[ntmps68,List.size_toArray,List.length_cons,List.length_nil,Nat.reduceAdd,Nat.reduceSub,Array.replicate_succ,Array.replicate_zero,List.push_toArray,List.append_toArray,List.nil_append,List.cons_append];clear h
 gi_wp2_with fail
 refine⟨trivial,?_⟩;refine(callsIn_wide.2 RE.o).mono ?_;rintro e w1 ⟨rfl,rfl⟩
 gi_wp2_with fail
 refine⟨trivial,?_⟩;refine(callsIn_wide.2 (LO.o _)).mono ?_;rintro e w2 ⟨rfl,rfl⟩
 gi_wp2_with fail
 have hA0:=Boxed.new w 29 (G (some ⟨b.p,0,none⟩));have hA:=hA0.alloc (aH #[b.p] 29);have hA1:=Boxed.new (w.alloc (aH #[b.p] 29)) 29 (G (some ⟨b.p,0,none⟩));have hB2:Below w.heap.size w ((w.alloc (aH #[b.p] 29)).alloc (aH #[b.p] 29)):=((aj _ w).alloc (ah _) _).alloc (by simp) _;have hD2:=HD.o.later hB2;have Pu:w.heap.size<=((w.alloc (aH #[b.p] 29)).alloc (aH #[b.p] 29)).heap.size:=hB2.size;have hW1:(w.alloc (aH #[b.p] 29)).heap.size=w.heap.size+1:=aC _ _;rw[hW1]at hA1
 generalize (w.alloc (aH #[b.p] 29)).alloc (aH #[b.p] 29)=W2 at*
 clear RE LO hA0 hW1
 refine uN rfl (by omega) (gf:=214) (lb:=#[G (some ⟨w.heap.size+1,0,none⟩)]) rfl trivial (enters_of func214 (by kernel_rfl) rfl)
  (Un (4-1) (by omega) W2 (w.heap.size+1) hA1 hD2 hk)
  (λX Y h=>⟨h.size,λc o _ ho _=>(h.block c (Array.getElem?_eq_some_iff.1 ho).1 (by simp)).trans ho⟩)
  (λ{X Y Z} h g c t cs hc hs=>g c t cs hc (h c t cs hc hs))
  (λW l o o' _ hl ho _ c t cs _ hs=>(World.putObj_heap_other (λe=>by subst e;rw[show W.heap[_]? =_ from hs]at hl;cases hl;cases ho)).trans hs)
  (aj _ _) (λ_=>rfl)
  (XQ w b hard pd k) (λ_ _ _=>False) (EK Pu (by omega)) (λ_ _ _ _ _ hs _ _=>hs)
  (λs X Y ⟨h1,h2,h3⟩ hr=>⟨h1.kept hr (by simp),h2.grown (B:=b.m+1) hr (by omega) (λr e=>by cases e),h3.grows (ah _) hr (λr e=>by cases e)⟩) (λ_ _ _ _ h _=>h)
  ⟨hA,by rw[Ot];exact hD2,aR.of_below hB2⟩
  (λx=>{tmps:=#[G (some ⟨b.p,0,none⟩),G (some ⟨w.heap.size,0,none⟩),ι J 0,ι J 0,ι J x,G (some ⟨b.p,0,none⟩),ι J 0,ι J 0,ν false,undef,G (some ⟨b.p,0,none⟩),.func (.func 214) #[] #[G (some ⟨w.heap.size+1,0,none⟩)],ι J x,undef,undef,undef,undef,undef,undef,undef,undef,undef,undef,undef],defers:=[]}) ?assign ?body ?done ?stop
 case assign=>
  intro l x W K hK
  gi_wp2
  exact hK
 case body=>
  rintro l pre x W ⟨hX1,VU,hT⟩ ⟨hsome,hnew⟩
  obtain⟨q,hq⟩:∃q,pd x=some q:=by
   unfold ng at hsome;cases hpx:pd x with
   |none=>rw[hpx]at hsome;simp at hsome
   |some q=>exact⟨q,rfl⟩
  obtain⟨i,rfl,hi⟩:=HD.o.dom x q hq;have hp2:jE pd pre i=some q:=by unfold jE;rw[if_neg hnew];exact hq
  have hi2:i<(iD hard pd pre).length:=by rw[qA];exact hi
  have gC:bY W.drew b (iD hard pd pre) (jE pd pre) k:=VU.later (aj _ _).drew;have hlk:=Ev gC i (by have:=gC.len;omega) hp2 false;simp only[Bool.false_eq_true,if_false]at hlk;have hfl:∀W,(Instr.field 235 (γ #[θ (some q.1) 1 q.2.1]) 0).run prog W=.ok (θ (some q.1) 1 q.2.1) W:=λW=>Eu _ W;have KP:=U (Xt i W.drew gC hi2 hp2);have c0:=hX1.cell;have cl:=hX1.lt;obtain⟨cap0,hcap,hX⟩:=VU.dev;unfold gM at hX;have X0:=hX.cell 0;have X1:=hX.cell 1;have X2:=hX.cell 2;have X3:=hX.cell 3;have X4:=hX.cell 4;have X5:=hX.cell 5;simp only[au,av,ay]at X0 X1 X2 X3 X4 X5;have Xl:=hX.lt;have H1:=U hX1;have H3:=U hT;have Js:=U (KG (hard:=hard) (pre:=pre) hq);clear hX hX1 VU hT gC hp2 hi2
  gi_wp2_with fail
  gi_region_with (first|(refine⟨trivial,?_⟩;refine(CallsIn.inRound l (callsIn_wide.2 KP.o)).mono ?_;rintro e w9 ⟨rfl,D9,T9⟩;have FS:=U (Ou (W2:=W2) hm hg Pu H1.o H3.o Js.o D9 T9);clear D9 T9))
  all_goals gi_wp2
  all_goals exact FS.o
 case done=>
  rintro D ys W hD hS hF hK;have hK':=hK;have aL:=(EK (hard:=hard) (pd:=pd) (k:=k) Pu (show b.m<W2.heap.size by omega)).putObj (.deferred none) hF hD hK rfl
  gi_wp2
  refine⟨by simp,.inl ⟨_,_,rfl,run_takeDeferred hK',?_⟩⟩;refine⟨ι J 0,?_,rfl,ys,hS,aL.2.1,aL.2.2⟩
  simp[results,f68,go_sem]
 case stop=>
  rintro D q pre W _ _ h _;exact h.elim
end
