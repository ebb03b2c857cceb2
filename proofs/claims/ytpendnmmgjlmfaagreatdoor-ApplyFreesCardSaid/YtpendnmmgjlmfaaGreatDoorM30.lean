/- Lemmas. -/
import Derived.Test.YtpendnmmgjlmfaaGreatDoorM29
import Derived.BigRegionIn
set_option linter.unusedVariables false
set_option linter.unusedSimpArgs false
namespace Go.Proofs.YtpendnmmgjlmfaaGreatDoor
open Go.RowKit Go.Shelf Go.Maps
open Go.Proofs.Tryz
open IntKind renaming u16→I,i64→J,u32→F,u8→aF
open Value renaming pointer→G,int->ι,tuple->τ,slice->θ,agg->γ
open Ending renaming returned→aG
open Obj renaming cells→aH
set_option maxRecDepth 100000
set_option maxHeartbeats 8000000
namespace Bm
open Oct Dev mU Tx Geo qX lC
section
attribute [local go_sem] Oper.semAt_some
section
variable {E:Im} {D:aZ} {Z:Nat->Prop} {Q:Prop}
def bf (x:aP) (p:Nat):aP:=if x.ind≠0/\p<=4 then{jY x p with ind:=0}else jY x p
def bF (x:aP) (vs:List Nat) (p:Nat):List Nat:=zf x p++pR vs p++if x.ind≠0/\p<=4 then[x.ind]else[]
def gI (E:Im) (D:aZ) (x:aP) (vs:List Nat) (p:Nat):aZ:=if x.ind≠0/\p<=4 then D else if pR vs p=[]then D else upd D (dq E x.ind) (dQ (lK vs p))
def Iw (x:aP) (vs:List Nat) (p:Nat):Prop:=(x.ind≠0/\p<=4)\/pR vs p=[]
def Lr (B:Nat) (l:List Nat) (v:Value) (W:World):Prop:=W.ownsRow B 111 1 v l.length (l.map iE)
def Iy (E:Im) (D:aZ) (Z:Nat->Prop) (Q:Prop) (x:aP) (vs:List Nat) (p:Nat) (w:World) (e:Ending) (w':World):Prop:=
 (∃v,e=aG (τ #[(bf x p).val,v,ι J 0])/\Lr w.heap.size (bF x vs p) v w'/\Wr E (gI E D x vs p) Z w w'/\(Iw x vs p->Below w.heap.size w w'))\/(e=aG (τ #[dY.val,θ none 0 0,ι J 4])/\Fu E Q w w')
theorem Zf (x:aP) (vs:List Nat) (p:Nat) (w:World) (hs:Small E) (h:IS w E D Z) (hi:mX E.bl x) (hv:dS E D x.ind vs) (hp:p<=36) (hz:x.ind≠0->4<p->Z (dq E x.ind)) (hQ:4<p->fV E Z->Q):
 CallsIn Fence.wide 4 prog 91 #[E.T.p,dw E.i E.bl E.j,x.val,ι J p] w (Iy E D Z Q x vs p w):=by
 obtain⟨i0,hi0,hz0,hz1,hz2⟩:=info_parts rA;have hbl:=hs.hb;have MA:=U (λW=>xY E.i E.bl E.j 0 E.T.p x true W hs.may hi (by omega));have TD:=U (λW (h:IS W E D Z)=>Ip x vs W hs h hi.2.2.2.2 hv)
 have TL:=U (λW sl (h:IS W E D Z) (h0:x.ind≠0) (h5:4<p) (hsl:Iq W (lK vs p) sl)=>Ir (jY x p) (lK vs p) sl W hs h (show 1<=x.ind by omega) hi.2.2.2.2 (by rw[iw,hv.len];omega) (λu hu=>by
  obtain⟨k,hk,rfl⟩:=List.getElem_of_mem hu;rw[iw]at hk;rw[mE hk]
  split
  ·omega
  ·have:=hv.lt _ (List.getElem_mem hk);omega) hsl (hz h0 h5) (hQ h5))
 have hvl:=hv.len;have hno:=U hv.no;have hcd:=U (Iu x p)
 have hni:∀u∈iI x,u<65536:=λu hu=>by
  obtain⟨h0,h1,h2,h3,h4⟩:=hi;simp only[iI,List.mem_cons,List.not_mem_nil,or_false]at hu
  rcases hu with rfl|rfl|rfl|rfl<;>omega
 unfold Iy bf bF gI;have H:=U h;obtain⟨kind,links,size,d0,d1,d2,d3,ind⟩:=x;unfold dw aP.val aP.cells at*;simp only at hz hcd TL;have HB0:=U (((((aj _ w).alloc (ah _) (aH #[ι J E.i,ι J E.bl,ι J E.j] 23)).alloc (by simp) (aH #[ι aF kind,ι I links,ι F size,ι I d0,ι I d1,ι I d2,ι I d3,ι I ind] 114)).alloc (by simp;omega) (aH #[ι aF 0,ι I 0,ι F 0,ι I 0,ι I 0,ι I 0,ι I 0,ι I 0] 114)).alloc (by simp;omega) (aH #[θ none 0 0] 53));have hG:=(((aN.new w 23 #[ι J E.i,ι J E.bl,ι J E.j]).alloc (aH #[ι aF kind,ι I links,ι F size,ι I d0,ι I d1,ι I d2,ι I d3,ι I ind] 114)).alloc (aH #[ι aF 0,ι I 0,ι F 0,ι I 0,ι I 0,ι I 0,ι I 0,ι I 0] 114)).alloc (aH #[θ none 0 0] 53);have hX:=((aN.new (w.alloc (aH #[ι J E.i,ι J E.bl,ι J E.j] 23)) 114 #[ι aF kind,ι I links,ι F size,ι I d0,ι I d1,ι I d2,ι I d3,ι I ind]).alloc (aH #[ι aF 0,ι I 0,ι F 0,ι I 0,ι I 0,ι I 0,ι I 0,ι I 0] 114)).alloc (aH #[θ none 0 0] 53);have hY:=(aN.new ((w.alloc (aH #[ι J E.i,ι J E.bl,ι J E.j] 23)).alloc (aH #[ι aF kind,ι I links,ι F size,ι I d0,ι I d1,ι I d2,ι I d3,ι I ind] 114)) 114 #[ι aF 0,ι I 0,ι F 0,ι I 0,ι I 0,ι I 0,ι I 0,ι I 0]).alloc (aH #[θ none 0 0] 53);have hF:=aN.new (((w.alloc (aH #[ι J E.i,ι J E.bl,ι J E.j] 23)).alloc (aH #[ι aF kind,ι I links,ι F size,ι I d0,ι I d1,ι I d2,ι I d3,ι I ind] 114)).alloc (aH #[ι aF 0,ι I 0,ι F 0,ι I 0,ι I 0,ι I 0,ι I 0,ι I 0] 114)) 53 #[θ none 0 0];simp only[aC]at hX hY hF;have HG:=U hG;have HX:=U hX;have HY:=U hY;have HF:=U hF;clear hG hX hY hF h hv hi;have q0:(0:Int)<=p:=by omega
 have q1:(p:Int)<=36:=by omega
 refine callsIn_of_wp_marks func91 rfl trivial ?_ rfl;simp only[ntmps91,List.size_toArray,List.length_cons,List.length_nil,Nat.reduceAdd,Nat.reduceSub,Array.replicate_succ,Array.replicate_zero,List.push_toArray,List.append_toArray,List.nil_append,List.cons_append]
 gi_wp2_with fail
 refine⟨trivial,?_⟩;refine(callsIn_wide.2 (MA.o _)).mono ?_;rintro e w1 ⟨rfl,b1⟩;have hB1:=HB0.o.trans (b1.mono HB0.o.size);have hG:=HG.o.later b1;have hX:=HX.o.later b1;have Dv:=U hG;have jv:=U hX;have jI:=U (HY.o.later b1);have Yg:=U (HF.o.later b1);have H1:=U (H.o.later hB1);have B1:=U hB1;have G0:=hG.cell 0;have G1:=hG.cell 1;have G2:=hG.cell 2;simp only[au,av,ay]at G0 G1 G2;have Gl:=hG.lt;have X0:=hX.cell 0;have X1:=hX.cell 1;have X2:=hX.cell 2;have X3:=hX.cell 3;have X4:=hX.cell 4;have X5:=hX.cell 5;have X6:=hX.cell 6;have X7:=hX.cell 7;simp only[au,av,ay]at X0 X1 X2 X3 X4 X5 X6 X7;have Xl:=hX.lt;clear hG hX hB1 b1 HG HX HY HF HB0 MA
 gi_wp2_with fail
 refine⟨trivial,?_⟩;refine(callsIn_wide.2 (TD.o _ H1.o)).mono ?_;rintro e w2 ⟨g,cap,rfl,hg,hc,hR,b2⟩;obtain⟨cs2,hR2,hR2c⟩:=hR;have hB2:=B1.o.trans (b2.mono B1.o.size);have hX:=jv.o.later b2;have HG2:=U (Dv.o.later b2);have fU:=U hX;have dH:=U (jI.o.later b2);have OA:=U (Yg.o.later b2);have H2:=U (H1.o.later b2);have B2:=U hB2;have Fl:=Yg.o.lt;have hR2l:=hR2.lt;clear hX hB2 b2 Dv jv jI Yg TD H1 G0 G1 G2 Gl X0 X1 X2 X3 X4 X5 X6 X7 Xl
 gi_wp2_with fail
 refine⟨trivial,?_⟩;refine(callsIn_wide.2 (Fa ⟨w.heap.size+1,3,none⟩ 4 4 p _)).mono ?_;rintro e w3 ⟨rfl,rfl⟩;have hB3:=(B2.o.alloc B2.o.size (aH #[θ (some ⟨w.heap.size+1,3,none⟩) 4 4] 53)).alloc (by have:=B2.o.size;simp;omega) (aH #[ι J p] 3);have h3:=(((aj _ w2).alloc (ah _) (aH #[θ (some ⟨w.heap.size+1,3,none⟩) 4 4] 53)).alloc (by simp) (aH #[ι J p] 3));have hlB:=(aN.new w2 53 #[θ (some ⟨w.heap.size+1,3,none⟩) 4 4]).alloc (aH #[ι J p] 3);have hfB:=aN.new (w2.alloc (aH #[θ (some ⟨w.heap.size+1,3,none⟩) 4 4] 53)) 3 #[ι J p];rw[aC]at hfB;have hsz3:((w2.alloc (aH #[θ (some ⟨w.heap.size+1,3,none⟩) 4 4] 53)).alloc (aH #[ι J p] 3)).heap.size=w2.heap.size+2:=by simp
 have HG3:=U (HG2.o.later h3);have TO:=U (fU.o.later h3);have xX:=U (dH.o.later h3);have zE:=U (OA.o.later h3);have H3:=U (H2.o.later h3);have hR3:=U (hR2.later h3);have hB3:=U hB3;have Fl2:=OA.o.lt;clear h3 HG2 fU dH OA H2
 gi_wp2_with fail
 generalize (w2.alloc (aH #[θ (some ⟨w.heap.size+1,3,none⟩) 4 4] 53)).alloc (aH #[ι J p] 3)=w3 at*
 refine lN rfl (by omega) (gf:=232) (lb:=#[G (some ⟨w2.heap.size+1,0,none⟩),w2.heap.size]) rfl trivial (enters_of func232 (by kernel_rfl) rfl)
  (Fb (4-1) (by omega) ⟨w.heap.size+1,3,114,#[ι aF kind,ι I links,ι F size,ι I d0,ι I d1,ι I d2,ι I d3,ι I ind],[d0,d1,d2,d3],p⟩ (λk hk=>by
   match k,hk with
   |0,_|1,_|2,_|3,_=>rfl) 4 p (by simp) (by omega) (by simp) w3 (w2.heap.size+1) w2.heap.size hfB hlB TO.o (by have:=B2.o.size;simp;omega) (by have:=B2.o.size;simp;omega))
  (λpre x W l o o' hl ho hc hN=>⟨hN.1,hN.2.1,hN.2.2.1,hN.2.2.2.1,pU ho hc hN.2.2.2.2⟩)
  (λxs W l o o' hl ho hc hN=>⟨hN.1,pU ho hc hN.2⟩)
  (λX Y hT=>Fe hT (by have:=B2.o.size;simp;omega))
  CI.trans
  (λW l o o' _ hl ho _=>RH W l o o' hl ho)
  (aj _ _) (λ_=>rfl)
  (λpre W=>wP (w.heap.size+1+1+1) (w2.heap.size+2) (pre.map λk=>[d0,d1,d2,d3].getD k 0) W/\aN W w.heap.size 23 #[ι J E.i,ι J E.bl,ι J E.j]/\aN W (w.heap.size+1+1) 114 #[ι aF 0,ι I 0,ι F 0,ι I 0,ι I 0,ι I 0,ι I 0,ι I 0]/\aN W g 111 cs2/\w2.heap.size+2<=W.heap.size/\Below w.heap.size w W)
  (λ_ _ _=>False)
  ?own (λ_ _ _ _ _ hs _ _=>hs) ?rel (λ_ _ _ _ h _=>h) ?start ?a1 ?assign ?body ?done ?stop
 case assign=>
  intro l x W K hK;have HK:=U hK;clear hK
  dsimp only[Dd]
  gi_wp2
  exact HK.o
 case own=>
  rintro pre W W' row ⟨h1,h2,h3,h4,h5,h6⟩ hg hr;have hB2:=B2.o.size;exact⟨h1.own hg hr,mG h2 hg hr,mG h3 hg hr,mG h4 hg hr,aD h5 hg.size,h6.grown hg h6.size (λk e=>by have:=(hr k e).1;omega)⟩
 case rel=>
  rintro pre X Y ⟨h1,h2,h3,h4,h5,h6⟩ hT;have hB2:=B2.o.size;simp only at hT;exact⟨h1.qR hT (by omega) (by omega),(hT.block _ h2.lt (by omega)).trans h2,(hT.block _ h3.lt (by omega)).trans h3,(hT.block _ h4.lt (by omega)).trans h4,aD h5 hT.size,hT.below (λc hc=>by omega) h6 h6.size⟩
 case start=>exact⟨⟨_,zE.o,World.ownsRow_nil _ _ _ _⟩,HG3.o,xX.o,hR3.o,by omega,hB3.o⟩
 case stop=>
  rintro D c pre W _ h _;exact h.elim
 case body=>
  rintro l pre k W ⟨⟨v,hv,hrow⟩,hGW,hYW,hRW,hzW,hBW⟩ ⟨hlt,hge,hnz,hpre,uw⟩
  have hpl:pre.length<=36:=by
   rw[hpre];have:=uf [d0,d1,d2,d3] p (k-p);simp only[List.length_cons,List.length_nil]at hlt;simp only at this⊢;omega
  have hB2:=B2.o.size;have cv:=hv.cell 0;have fv:=hv.free 0;have vl:=hv.lt;simp only[au,av]at cv;have hfs:∀xs:List Nat,(xs.map λk=>[d0,d1,d2,d3].getD k 0)++[[d0,d1,d2,d3][k]?.getD 0]=(xs++[k]).map λk=>[d0,d1,d2,d3].getD k 0:=λxs=>by rw[List.map_append];rfl
  have hfs:=U (hfs pre);have hpm:(pre.map λk=>[d0,d1,d2,d3].getD k 0).length<=36:=by rw[List.length_map];exact hpl
  clear hpre uw hnz
  generalize [d0,d1,d2,d3][k]?.getD 0=b at*
  generalize (pre.map λk=>[d0,d1,d2,d3].getD k 0)=fr at*
  gi_wp2_with (gi_at_builtin;refine wpListIn_append_own _ rfl _ _ 53 rfl (w2.heap.size+2) 111 i0 (ι I 0) 1 2 underlying53 hi0 hz0 hz1 hz2 rfl (by decide) _ _ _ rfl (hrow.alloc _) ⟨W.heap.size,0,none⟩ 1 1 [ι I b] rfl rfl (World.news_of_block (aN.new _ 111 #[ι I b])) (by intro u hu;simp at hu;subst hu;rfl) (by unfold maxLen;omega) (by omega) (by simp;omega) ?_)
  intro v' W2 hown2 hgrow2 _
  obtain⟨g',cap',rfl⟩:∃g' cap',v'=θ (some ⟨g',0,none⟩) (fr.length+1) cap':=by
   rcases hown2.2 with⟨_,e0⟩|⟨g',cap',cur',rfl,_⟩
   ·omega
   ·exact⟨_,_,rfl⟩
  obtain⟨hv2,AF⟩:=BU hv hrow (by omega) hgrow2 hown2;have hK3:=AF.kp (b:=w.heap.size+1) (fB:=w2.heap.size+1) (lB:=w2.heap.size) (t:=114) hrow (by omega) (by omega) (by omega) (by omega);have hG3:=AF.keep hrow hGW (by omega) (.inl (by omega));have Do:=AF.keep hrow hYW (by omega) (.inl (by omega));have hR4:=AF.keep hrow hRW (by omega) (.inl (by omega))
  have hB4:=AF.qR.below (n:=w.heap.size) (λc hc=>by
   rcases hc with rfl|hc
   ·omega
   ·have:=(mF hrow hc.symm).1;omega) hBW hBW.size
  have P:=U (And.intro (AF.keeps (w2.heap.size+2)) (And.intro hK3 (And.intro AF.held (And.intro hG3 (And.intro Do (And.intro hR4 (And.intro (aD hzW AF.qR.size) hB4)))))));have c3:=hv2.cell 0;have f3:=hv2.free 0;have l3:=hv2.lt;simp only[au,av]at c3;rw[hfs.o]at P;clear hv hrow hGW hYW hRW hzW hBW hv2 hgrow2 hown2 AF hK3 hG3 Do hR4 hB4 cv fv vl
  gi_wp2
  exact P.o
 case done=>
  rintro DD ys W hD ⟨hys,uw⟩ ⟨⟨v,hv,hrow⟩,hGW,hYW,hRW,hzW,hBW⟩ hK;simp only at hys uw;have hx4:([d0,d1,d2,d3]:List Nat).length-p=4-p:=rfl;rw[hx4]at hys uw;have TZ:aN W (w.heap.size+1) 114 _:=uw;rw[hcd.o]at TZ
  obtain⟨ao,Ds,hva⟩:∃ao Ds,v=θ ao (ys.map λk=>[d0,d1,d2,d3].getD k 0).length Ds:=by
   rcases hrow.2 with⟨rfl,e0⟩|⟨g,cap,cur,rfl,_⟩
   ·exact⟨none,0,by rw[e0]⟩
   ·exact⟨_,_,rfl⟩
  have hfd:(ys.map λk=>[d0,d1,d2,d3].getD k 0)=zf ⟨kind,links,size,d0,d1,d2,d3,ind⟩ p:=by
   rw[hys]
   rfl
  have hfl:(zf ⟨kind,links,size,d0,d1,d2,d3,ind⟩ p).length<=4:=by
   unfold zf;rw[List.length_map];exact aD (uf _ _ _) (by omega)
  rw[hfd]at hrow hva;obtain⟨Ji,hfr1⟩:∃l,zf ⟨kind,links,size,d0,d1,d2,d3,ind⟩ p=l:=⟨_,rfl⟩;rw[hfr1]at hrow hva hfl;clear uw hys hx4 hfd;subst hva;have cv:=hv.cell 0;have fv:=hv.free 0;have vl:=hv.lt;simp only[au,av]at cv;have hln1:Ji.length<=9223372036854775807:=by omega
  have hp4:(p:Int)-4<=1000:=by omega
  have HV:=U hv;have HRW:=U hrow;have HGW:=U hGW;have HYW:=U hYW;have HRc:=U hRW;have HXW:=U TZ;have HBW:=U hBW;clear hv hrow hGW hYW hRW TZ hBW
  gi_wp2_with fail
  refine⟨trivial,?_⟩;refine(callsIn_wide.2 (Fa ⟨g,0,none⟩ 32 cap ((p:Int)-4) _)).mono ?_;rintro e w5 ⟨rfl,rfl⟩;have hBW2:=HBW.o.size;have hDl:=(Array.getElem?_eq_some_iff.1 hK).1;have MU:=U ((HBW.o.alloc HBW.o.size (aH #[θ (some g) 32 cap] 53)).alloc (by simp;omega) (aH #[ι J ((p:Int)-4)] 3));have h5:=(((aj _ W).alloc (ah _) (aH #[θ (some g) 32 cap] 53)).alloc (by simp) (aH #[ι J ((p:Int)-4)] 3));have hlB2:=(aN.new W 53 #[θ (some g) 32 cap]).alloc (aH #[ι J ((p:Int)-4)] 3);have hfB2:=aN.new (W.alloc (aH #[θ (some g) 32 cap] 53)) 3 #[ι J ((p:Int)-4)];rw[aC]at hfB2;have hsz5:((W.alloc (aH #[θ (some g) 32 cap] 53)).alloc (aH #[ι J ((p:Int)-4)] 3)).heap.size=W.heap.size+2:=by simp
  have HG5:=U (HGW.o.later h5);have jD:=U (HXW.o.later h5);have Fh:=U (HYW.o.later h5);have HV5:=U (HV.o.later h5);have hR5:=U (HRc.o.later h5);have HRW5:=U ((HRW.o.alloc (aH #[θ (some g) 32 cap] 53)).alloc (aH #[ι J ((p:Int)-4)] 3));have HK5:=U ((h5.block DD hDl).trans hK);have hgW:g<W.heap.size:=by omega
  clear h5 HGW HXW HYW HV HRc HRW HBW cv fv vl
  gi_wp2_with fail
  generalize (W.alloc (aH #[θ (some g) 32 cap] 53)).alloc (aH #[ι J ((p:Int)-4)] 3)=w5 at*
  have hlB5:aN w5 W.heap.size 53 #[θ (some g) vs.length cap]:=by rw[hvl];exact hlB2
  refine lN rfl (by omega) (gf:=232) (lb:=#[G (some ⟨W.heap.size+1,0,none⟩),W.heap.size]) rfl trivial (enters_of func232 (by kernel_rfl) rfl)
   (Fb (4-1) (by omega) ⟨g,0,111,cs2,vs,p-4⟩ (λk hk=>by show cs2[0+k]? =_;rw[Nat.zero_add];exact hR2c k hk) cap ((p:Int)-4) (by simp only;omega) (by omega) (by simp only;omega) w5 (W.heap.size+1) W.heap.size hfB2 hlB5 hR5.o (by simp only;omega) (by simp only;omega))
   (λpre x W l o o' hl ho hc hN=>⟨hN.1,hN.2.1,hN.2.2.1,hN.2.2.2.1,pU ho hc hN.2.2.2.2⟩)
   (λxs W l o o' hl ho hc hN=>⟨hN.1,pU ho hc hN.2⟩)
   (λX Y hT=>Fe hT (by simp only;omega))
   CI.trans
   (λW l o o' _ hl ho _=>RH W l o o' hl ho)
   (aj _ _) (λ_=>rfl)
   (λpre W=>wP (w.heap.size+1+1+1) (w2.heap.size+2) (Ji++pre.map λk=>vs.getD k 0) W/\aN W w.heap.size 23 #[ι J E.i,ι J E.bl,ι J E.j]/\aN W (w.heap.size+1+1) 114 #[ι aF 0,ι I 0,ι F 0,ι I 0,ι I 0,ι I 0,ι I 0,ι I 0]/\aN W (w.heap.size+1) 114 (jY ⟨kind,links,size,d0,d1,d2,d3,ind⟩ p).cells/\w2.heap.size+2<=W.heap.size/\Below w.heap.size w W/\W.heap[DD]? =some (.deferred (some [])))
   (λ_ _ _=>False)
   ?DA (λ_ _ _ _ _ hs _ _=>hs) ?rel2 (λ_ _ _ _ h _=>h) ?Up ?a2 ?assign2 ?body2 ?done2 ?stop2
  case assign2=>
   intro l x W K hK;have HK:=U hK;clear hK
   dsimp only[Dd]
   gi_wp2
   exact HK.o
  case DA=>
   rintro pre X Y row ⟨h1,h2,h3,h4,h5,h6,h7⟩ hg hr;exact⟨h1.own hg hr,mG h2 hg hr,mG h3 hg hr,mG h4 hg hr,aD h5 hg.size,h6.grown hg h6.size (λk e=>by have:=(hr k e).1;omega),(hg.block DD (Array.getElem?_eq_some_iff.1 h7).1 (λe=>by have:=(hr DD e.symm).1;omega)).trans h7⟩
  case rel2=>
   rintro pre X Y ⟨h1,h2,h3,h4,h5,h6,h7⟩ hT;simp only at hT;exact⟨h1.qR hT (by omega) (by omega),(hT.block _ h2.lt (by omega)).trans h2,(hT.block _ h3.lt (by omega)).trans h3,(hT.block _ h4.lt (by omega)).trans h4,aD h5 hT.size,hT.below (λc hc=>by omega) h6 h6.size,(hT.block DD (Array.getElem?_eq_some_iff.1 h7).1 (by omega)).trans h7⟩
  case Up=>exact⟨⟨_,HV5.o,by rw[List.map_nil,List.append_nil];exact HRW5.o⟩,HG5.o,Fh.o,jD.o,by omega,MU.o,HK5.o⟩
  case stop2=>
   rintro D c pre W _ h _;exact h.elim
  case body2=>
   rintro l pre k V ⟨⟨v,hv,hrow⟩,hGV,hYV,zI,hzV,hBV,hKV⟩ ⟨hlt,hge,hnz,hpre,hRV⟩
   have hpl:pre.length<=36:=by
    rw[hpre];have:=uf vs (p-4) (k-(p-4));simp only at this hlt⊢;omega
   have cv:=hv.cell 0;have fv:=hv.free 0;have vl:=hv.lt;simp only[au,av]at cv;have hfs:∀xs:List Nat,(Ji++xs.map λk=>vs.getD k 0)++[vs[k]?.getD 0]=Ji++(xs++[k]).map λk=>vs.getD k 0:=λxs=>by rw[List.map_append,List.append_assoc];rfl
   have hfs:=U (hfs pre);have hpm:(Ji++pre.map λk=>vs.getD k 0).length<=40:=by rw[List.length_append,List.length_map];omega
   clear hpre hRV hnz
   generalize vs[k]?.getD 0=b at*
   generalize (Ji++pre.map λk=>vs.getD k 0)=fr at*
   gi_wp2_with (gi_at_builtin;refine wpListIn_append_own _ rfl _ _ 53 rfl (w2.heap.size+2) 111 i0 (ι I 0) 1 2 underlying53 hi0 hz0 hz1 hz2 rfl (by decide) _ _ _ rfl (hrow.alloc _) ⟨V.heap.size,0,none⟩ 1 1 [ι I b] rfl rfl (World.news_of_block (aN.new _ 111 #[ι I b])) (by intro u hu;simp at hu;subst hu;rfl) (by unfold maxLen;omega) (by omega) (by simp;omega) ?_)
   intro v' V2 hown2 hgrow2 _
   obtain⟨g',cap',rfl⟩:∃g' cap',v'=θ (some ⟨g',0,none⟩) (fr.length+1) cap':=by
    rcases hown2.2 with⟨_,e0⟩|⟨g',cap',cur',rfl,_⟩
    ·omega
    ·exact⟨_,_,rfl⟩
   obtain⟨hv2,AF⟩:=BU hv hrow (by omega) hgrow2 hown2;have hK3:=AF.kp (b:=g) (fB:=W.heap.size+1) (lB:=W.heap.size) (t:=111) hrow (by omega) (by omega) (by omega) (by omega);have hG3:=AF.keep hrow hGV (by omega) (.inl (by omega));have Do:=AF.keep hrow hYV (by omega) (.inl (by omega));have Oc:=AF.keep hrow zI (by omega) (.inl (by omega))
   have hB4:=AF.qR.below (n:=w.heap.size) (λc hc=>by
    rcases hc with rfl|hc
    ·omega
    ·have:=(mF hrow hc.symm).1;omega) hBV hBV.size
   have P:=U (And.intro (AF.keeps (W.heap.size+2)) (And.intro hK3 (And.intro AF.held (And.intro hG3 (And.intro Do (And.intro Oc (And.intro (aD hzV AF.qR.size) (And.intro hB4 ((AF.keeps 0).same DD _ (aB _) hKV rfl)))))))));have c3:=hv2.cell 0;have f3:=hv2.free 0;have l3:=hv2.lt;simp only[au,av]at c3;rw[hfs.o]at P;clear hv hrow hGV hYV zI hzV hBV hv2 hgrow2 hown2 AF hK3 hG3 Do Oc hB4 cv fv vl
   gi_wp2
   exact P.o
  case done2=>
   rintro tZ zs V hD2 ⟨hzs,hRV⟩ ⟨⟨v,hv,hrow⟩,hGV,hYV,zI,hzV,hBV,hKV⟩ hK2;simp only at hzs hRV;rw[hvl]at hzs hRV
   have hfv:(zs.map λk=>vs.getD k 0)=pR vs p:=by
    rw[hzs]
    rfl
   have hfvl:(pR vs p).length<=32:=by
    unfold pR;rw[List.length_map];exact aD (uf _ _ _) (by omega)
   have hRT:=UY hvl hR2c hRV;rw[hfv]at hrow;clear hzs hRV hfv;obtain⟨lA,hfr2⟩:∃l,pR vs p=l:=⟨_,rfl⟩;rw[hfr2]at hrow hfvl;obtain⟨e0,e1,e2,e3,hcy⟩:∃e0 e1 e2 e3,jY ⟨kind,links,size,d0,d1,d2,d3,ind⟩ p=⟨kind,links,size,e0,e1,e2,e3,ind⟩:=⟨_,_,_,_,rfl⟩;rw[hcy]at zI;unfold aP.cells at zI;simp only at zI
   obtain⟨ao2,Zg,hva⟩:∃ao Ds,v=θ ao (Ji++lA).length Ds:=by
    rcases hrow.2 with⟨rfl,e0⟩|⟨g,cap,cur,rfl,_⟩
    ·exact⟨none,0,by rw[e0]⟩
    ·exact⟨_,_,rfl⟩
   subst hva;have cv:=hv.cell 0;have fv:=hv.free 0;have vl:=hv.lt;simp only[au,av]at cv;have X0:=zI.cell 0;have X1:=zI.cell 1;have X2:=zI.cell 2;have X3:=zI.cell 3;have X4:=zI.cell 4;have X5:=zI.cell 5;have X6:=zI.cell 6;have X7:=zI.cell 7;simp only[au,av,ay]at X0 X1 X2 X3 X4 X5 X6 X7;have Xl:=zI.lt;have F0:=zI.free 0;have F1:=zI.free 1;have F2:=zI.free 2;have F3:=zI.free 3;have F4:=zI.free 4;have F5:=zI.free 5;have F6:=zI.free 6;have F7:=zI.free 7;have HV:=U hv;have HRW:=U hrow;have HGV:=U hGV;have Lt:=U hYV;have HXV:=U zI;have DB:=U hBV;have HRT:=U hRT;have UM:=U hKV;have UG:=U hK2;have No:DD≠tZ:=by omega
   clear hv hrow hGV hYV zI hBV hRT hK hK2 hKV;have hFr1:=U hfr1
   by_cases hA:ind≠0/\p<=4
   ·have t1:((ind:Int)!=0)=true:=by simp;omega
    have t2:(p:Int)<=4:=by omega
    have t3:p<=4:=hA.2;have t4:decide (p<=4)=true:=by simpa using t3
    have t5:ind≠0:=hA.1;have hpm:(Ji++lA).length<=40:=by rw[List.length_append];omega
    obtain⟨fr,hfr⟩:∃l,Ji++lA=l:=⟨_,rfl⟩;rw[hfr]at HRW HV cv hpm
    gi_wp2_with (gi_at_builtin;refine wpListIn_append_own _ rfl _ _ 53 rfl (w2.heap.size+2) 111 i0 (ι I 0) 1 2 underlying53 hi0 hz0 hz1 hz2 rfl (by decide) _ _ _ rfl (HRW.o.alloc _) ⟨V.heap.size,0,none⟩ 1 1 [ι I ind] rfl rfl (World.news_of_block (aN.new _ 111 #[ι I ind])) (by intro u hu;simp at hu;subst hu;rfl) (by unfold maxLen;omega) (by omega) (by simp;omega) ?_)
    intro v' V2 hown2 hgrow2 _
    obtain⟨g',cap',rfl⟩:∃g' cap',v'=θ (some ⟨g',0,none⟩) (fr.length+1) cap':=by
     rcases hown2.2 with⟨_,e0⟩|⟨g',cap',cur',rfl,_⟩
     ·omega
     ·exact⟨_,_,rfl⟩
    obtain⟨hv2,AF⟩:=BU HV.o HRW.o (by omega) hgrow2 hown2;have Oc:=AF.keep HRW.o HXV.o (by omega) (.inl (by omega));have Do:=AF.keep HRW.o Lt.o (by omega) (.inl (by omega));have hX2:aN V2 (w.heap.size+1) 114 _:=(heap_setCell_other V2 ⟨w.heap.size+1+1+1,0,none⟩ (w.heap.size+1) (θ (some g') (fr.length+1) cap') (show w.heap.size+1≠w.heap.size+1+1+1 by omega)).symm.trans Oc;have hY2:aN V2 (w.heap.size+1+1) 114 _:=(heap_setCell_other V2 ⟨w.heap.size+1+1+1,0,none⟩ (w.heap.size+1+1) (θ (some g') (fr.length+1) cap') (show w.heap.size+1+1≠w.heap.size+1+1+1 by omega)).symm.trans Do
    have Ps:=U ((AF.qR.below (n:=w.heap.size) (λc hc=>by
     rcases hc with rfl|hc
     ·omega
     ·have:=(mF HRW.o hc.symm).1;omega) DB.o DB.o.size).setCell (p:=⟨w.heap.size+1,7,none⟩) (by simp) (ι I 0))
    have HF4:=U ((hv2.set 0 (θ (some g') (fr.length+1) cap')).other (c:=w.heap.size+1) (i:=7) (ι I 0) (by omega));have wQ:=U (Do.other (c:=w.heap.size+1) (i:=7) (ι I 0) (by omega));have HR4:=U (ownsRow_setCell_below (ownsRow_setCell_below hown2 (a:=⟨w.heap.size+1+1+1,0,none⟩) (by show w.heap.size+1+1+1<_;omega) (θ (some g') (fr.length+1) cap')) (a:=⟨w.heap.size+1,7,none⟩) (by show w.heap.size+1<_;omega) (ι I 0));have HD4:=U ((heap_setCell_other (V2.setCell ⟨w.heap.size+1+1+1,0,none⟩ (θ (some g') (fr.length+1) cap')) ⟨w.heap.size+1,7,none⟩ DD (ι I 0) (show DD≠w.heap.size+1 by omega)).trans ((AF.keeps 0).same DD _ (aB _) UM.o rfl));have HD5:=U ((heap_setCell_other (V2.setCell ⟨w.heap.size+1+1+1,0,none⟩ (θ (some g') (fr.length+1) cap')) ⟨w.heap.size+1,7,none⟩ tZ (ι I 0) (show tZ≠w.heap.size+1 by omega)).trans ((AF.keeps 0).same tZ _ (aB _) UG.o rfl));have c3:=hv2.cell 0;have f3:=hv2.free 0;have l3:=hv2.lt;simp only[au,av]at c3;have P0:=hX2.cell 0;have P1:=hX2.cell 1;have P2:=hX2.cell 2;have P3:=hX2.cell 3;have P4:=hX2.cell 4;have P5:=hX2.cell 5;have P6:=hX2.cell 6;have P7:=hX2.cell 7;simp only[au,av,ay]at P0 P1 P2 P3 P4 P5 P6 P7;have Pl:=hX2.lt;have G0:=hX2.free 0;have G1:=hX2.free 1;have G2:=hX2.free 2;have G3:=hX2.free 3;have G4:=hX2.free 4;have G5:=hX2.free 5;have G6:=hX2.free 6;have G7:=hX2.free 7;have Y0:=hY2.cell 0;have Y1:=hY2.cell 1;have Y2:=hY2.cell 2;have Y3:=hY2.cell 3;have Y4:=hY2.cell 4;have Y5:=hY2.cell 5;have Y6:=hY2.cell 6;have Y7:=hY2.cell 7;simp only[au,av,ay]at Y0 Y1 Y2 Y3 Y4 Y5 Y6 Y7;have Yl:=hY2.lt;have J0:=hY2.free 0;have J1:=hY2.free 1;have J2:=hY2.free 2;have J3:=hY2.free 3;have J4:=hY2.free 4;have J5:=hY2.free 5;have J6:=hY2.free 6;have J7:=hY2.free 7;clear hX2 hY2 Oc Do AF hv2 hown2 hgrow2 X0 X1 X2 X3 X4 X5 X6 X7 Xl F0 F1 F2 F3 F4 F5 F6 F7 cv fv vl
    gi_wp2_with fail
    gi_region
    gi_wp2
    have HR5:Hid (((V2.setCell ⟨w.heap.size+1+1+1,0,none⟩ (θ (some g') (fr.length+1) cap')).setCell ⟨w.heap.size+1,7,none⟩ (ι I 0)).ownsRow (w2.heap.size+2) 111 1 (θ (some g') (fr.length+1) cap') (fr++[ind]).length ((fr++[ind]).map iE)):=U (by rw[List.length_append,List.map_append];exact HR4.o);obtain⟨t1,t2,tY,tF,tR,tB⟩:=sj (n:=w.heap.size) (DD:=DD) (tZ:=tZ) (v0:=ι aF kind) (v1:=ι I links) (v2:=ι F size) (v3:=ι I e0) (v4:=ι I e1) (v5:=ι I e2) (v6:=ι I e3) (v7:=ι I 0) wQ.o HF4.o (by omega) HD4.o HD5.o No ⟨by omega,by omega,by omega,by omega⟩ HR5.o ⟨by omega,by omega⟩ _ (.inr rfl);unfold dG at t1 t2 tY tF tR tB;refine⟨by simp,.inl ⟨_,_,rfl,run_takeDeferred t1,?_⟩⟩;refine⟨by simp,.inl ⟨_,_,rfl,run_takeDeferred t2,?_⟩⟩;have k0:=tY.cell 0;have k1:=tY.cell 1;have k2:=tY.cell 2;have k3:=tY.cell 3;have k4:=tY.cell 4;have k5:=tY.cell 5;have k6:=tY.cell 6;have k7:=tY.cell 7;have k9:=tF.cell 0;simp only[au,av,ay]at k0 k1 k2 k3 k4 k5 k6 k7 k9;refine⟨τ #[γ #[ι aF kind,ι I links,ι F size,ι I e0,ι I e1,ι I e2,ι I e3,ι I 0],θ (some g') (fr.length+1) cap',ι J 0],?_,?_⟩
    ·simp[results,f91,go_sem,k0,k1,k2,k3,k4,k5,k6,k7,k9]
    ·exact .inl ⟨_,rfl,mY tR (by omega),Wr.same H.o (Ps.o.trans tB),λ_=>Ps.o.trans tB⟩
   ·by_cases hBz:lA=[]
    ·subst hBz
     have su:=Lt.o;have Y0:=su.cell 0;have Y1:=su.cell 1;have Y2:=su.cell 2;have Y3:=su.cell 3;have Y4:=su.cell 4;have Y5:=su.cell 5;have Y6:=su.cell 6;have Y7:=su.cell 7;simp only[au,av,ay]at Y0 Y1 Y2 Y3 Y4 Y5 Y6 Y7;have Yl:=su.lt;have J0:=su.free 0;have J1:=su.free 1;have J2:=su.free 2;have J3:=su.free 3;have J4:=su.free 4;have J5:=su.free 5;have J6:=su.free 6;have J7:=su.free 7
     rcases Nat.eq_zero_or_pos ind with h0|h0
     ·subst h0
      gi_wp2_with fail
      gi_region
      gi_wp2
      rw[List.append_nil]at HRW;obtain⟨t1,t2,tY,tF,tR,tB⟩:=sj (n:=w.heap.size) (DD:=DD) (tZ:=tZ) (v0:=ι aF kind) (v1:=ι I links) (v2:=ι F size) (v3:=ι I e0) (v4:=ι I e1) (v5:=ι I e2) (v6:=ι I e3) (v7:=ι I 0) Lt.o HV.o (by omega) UM.o UG.o No ⟨by omega,by omega,by omega,by omega⟩ HRW.o ⟨by omega,by omega⟩ _ (.inr rfl);unfold dG at t1 t2 tY tF tR tB;refine⟨by simp,.inl ⟨_,_,rfl,run_takeDeferred t1,?_⟩⟩;refine⟨by simp,.inl ⟨_,_,rfl,run_takeDeferred t2,?_⟩⟩;have k0:=tY.cell 0;have k1:=tY.cell 1;have k2:=tY.cell 2;have k3:=tY.cell 3;have k4:=tY.cell 4;have k5:=tY.cell 5;have k6:=tY.cell 6;have k7:=tY.cell 7;have k9:=tF.cell 0;simp only[au,av,ay]at k0 k1 k2 k3 k4 k5 k6 k7 k9;refine⟨τ #[γ #[ι aF kind,ι I links,ι F size,ι I e0,ι I e1,ι I e2,ι I e3,ι I 0],θ ao2 Ji.length Zg,ι J 0],?_,?_⟩
      ·simp[results,f91,go_sem,k0,k1,k2,k3,k4,k5,k6,k7,k9]
      ·exact .inl ⟨_,rfl,mY tR (by omega),Wr.same H.o (DB.o.trans tB),λ_=>DB.o.trans tB⟩
     ·have t1:((ind:Int)!=0)=true:=by simp;omega
      have t2:¬(p:Int)<=4:=by omega
      have t3:¬p<=4:=by omega
      have t4:decide (p<=4)=false:=by simpa using t3
      gi_wp2_with fail
      gi_region
      gi_wp2
      rw[List.append_nil]at HRW;obtain⟨t1,t2,tY,tF,tR,tB⟩:=sj (n:=w.heap.size) (DD:=DD) (tZ:=tZ) (v0:=ι aF kind) (v1:=ι I links) (v2:=ι F size) (v3:=ι I e0) (v4:=ι I e1) (v5:=ι I e2) (v6:=ι I e3) (v7:=ι I ind) Lt.o HV.o (by omega) UM.o UG.o No ⟨by omega,by omega,by omega,by omega⟩ HRW.o ⟨by omega,by omega⟩ _ (.inr rfl);unfold dG at t1 t2 tY tF tR tB;refine⟨by simp,.inl ⟨_,_,rfl,run_takeDeferred t1,?_⟩⟩;refine⟨by simp,.inl ⟨_,_,rfl,run_takeDeferred t2,?_⟩⟩;have k0:=tY.cell 0;have k1:=tY.cell 1;have k2:=tY.cell 2;have k3:=tY.cell 3;have k4:=tY.cell 4;have k5:=tY.cell 5;have k6:=tY.cell 6;have k7:=tY.cell 7;have k9:=tF.cell 0;simp only[au,av,ay]at k0 k1 k2 k3 k4 k5 k6 k7 k9;refine⟨τ #[γ #[ι aF kind,ι I links,ι F size,ι I e0,ι I e1,ι I e2,ι I e3,ι I ind],θ ao2 Ji.length Zg,ι J 0],?_,?_⟩
      ·simp[results,f91,go_sem,k0,k1,k2,k3,k4,k5,k6,k7,k9]
      ·exact .inl ⟨_,rfl,mY tR (by omega),Wr.same H.o (DB.o.trans tB),λ_=>DB.o.trans tB⟩
    ·have h0:ind≠0:=λe=>hBz (by rw[<-hfr2,hno.o e];exact uV p)
     have t1:((ind:Int)!=0)=true:=by simp;omega
     have t2:¬(p:Int)<=4:=by omega
     have t3:¬p<=4:=by omega
     have t4:decide (p<=4)=false:=by simpa using t3
     have t5:0<lA.length:=List.length_pos_iff.2 hBz;have hpm:(Ji++lA).length<=40:=by rw[List.length_append];omega
     have t6:Ji.length<(Ji++lA).length:=by rw[List.length_append];omega
     have t7:(Ji.length:Int)<((Ji++lA).length:Nat):=by omega
     have t8:(((Ji++lA).length:Nat):Int)<=9223372036854775807:=by omega
     rw[hcy]at TL;simp only at TL;obtain⟨fr,hfr⟩:∃l,Ji++lA=l:=⟨_,rfl⟩;rw[hfr]at HRW HV cv hpm t6 t7 t8;have HIV:=U (H.o.later DB.o)
     have zC:E.T.m<w.heap.size:=by
          obtain⟨f,nn,g1,_⟩:=H.o;exact g1.tj.tx.map.lt
     have DG:=HGV.o;have G0:=DG.cell 0;have G1:=DG.cell 1;have G2:=DG.cell 2;simp only[au,av,ay]at G0 G1 G2;have Gl:=DG.lt
     gi_wp2_with fail
     refine⟨trivial,?_⟩;refine(callsIn_wide.2 (TL.o V _ HIV.o h0 (by omega) (.inr ⟨g,cap,by rw[iw,hvl],HRT.o⟩))).mono ?_;rintro e V4 (⟨rfl,GW⟩|⟨rfl,GF⟩)
     ·have T4:=GW.2
      have Va:=(T4.block _ HV.o.lt (by omega)).trans HV.o;have lE:aN V4 (w.heap.size+1) 114 _:=(T4.block _ HXV.o.lt (by omega)).trans HXV.o;have qI:aN V4 (w.heap.size+1+1) 114 _:=(T4.block _ Lt.o.lt (by omega)).trans Lt.o;have Va:aN V4 (w.heap.size+1+1+1) 53 #[_]:=Va;have HR4:=U (wL HRW.o T4 (by omega));have HD4:=U ((T4.block DD (Array.getElem?_eq_some_iff.1 UM.o).1 (by omega)).trans UM.o);have HD5:=U ((T4.block tZ (Array.getElem?_eq_some_iff.1 UG.o).1 (by omega)).trans UG.o);have HF4:=U Va;have wQ:=U qI;have sw:=U (GW.pre (w0:=w) DB.o);have c3:=Va.cell 0;have f3:=Va.free 0;have l3:=Va.lt;simp only[au,av]at c3;clear X0 X1 X2 X3 X4 X5 X6 X7 Xl F0 F1 F2 F3 F4 F5 F6 F7 cv fv vl G0 G1 G2 Gl;have P0:=lE.cell 0;have P1:=lE.cell 1;have P2:=lE.cell 2;have P3:=lE.cell 3;have P4:=lE.cell 4;have P5:=lE.cell 5;have P6:=lE.cell 6;have P7:=lE.cell 7;simp only[au,av,ay]at P0 P1 P2 P3 P4 P5 P6 P7;have Pl:=lE.lt;have Y0:=qI.cell 0;have Y1:=qI.cell 1;have Y2:=qI.cell 2;have Y3:=qI.cell 3;have Y4:=qI.cell 4;have Y5:=qI.cell 5;have Y6:=qI.cell 6;have Y7:=qI.cell 7;simp only[au,av,ay]at Y0 Y1 Y2 Y3 Y4 Y5 Y6 Y7;have Yl:=qI.lt;have J0:=qI.free 0;have J1:=qI.free 1;have J2:=qI.free 2;have J3:=qI.free 3;have J4:=qI.free 4;have J5:=qI.free 5;have J6:=qI.free 6;have J7:=qI.free 7;clear lE qI Va T4 GW
      gi_wp2_with fail
      gi_region
      gi_wp2
      obtain⟨t1,t2,tY,tF,tR,tB⟩:=sj (n:=w.heap.size) (DD:=DD) (tZ:=tZ) (v0:=ι aF kind) (v1:=ι I links) (v2:=ι F size) (v3:=ι I e0) (v4:=ι I e1) (v5:=ι I e2) (v6:=ι I e3) (v7:=ι I ind) wQ.o HF4.o (by omega) HD4.o HD5.o No ⟨by omega,by omega,by omega,by omega⟩ HR4.o ⟨by omega,by omega⟩ _ (.inr rfl);unfold dG at t1 t2 tY tF tR tB;refine⟨by simp,.inl ⟨_,_,rfl,run_takeDeferred t1,?_⟩⟩;refine⟨by simp,.inl ⟨_,_,rfl,run_takeDeferred t2,?_⟩⟩;have k0:=tY.cell 0;have k1:=tY.cell 1;have k2:=tY.cell 2;have k3:=tY.cell 3;have k4:=tY.cell 4;have k5:=tY.cell 5;have k6:=tY.cell 6;have k7:=tY.cell 7;have k9:=tF.cell 0;simp only[au,av,ay]at k0 k1 k2 k3 k4 k5 k6 k7 k9;refine⟨τ #[γ #[ι aF kind,ι I links,ι F size,ι I e0,ι I e1,ι I e2,ι I e3,ι I ind],θ ao2 fr.length Zg,ι J 0],?_,?_⟩
      ·simp[results,f91,go_sem,k0,k1,k2,k3,k4,k5,k6,k7,k9]
      ·exact .inl ⟨_,rfl,mY tR (by omega),Wr.via H.o sw.o tB,λh=>by rcases h with h|h;exact absurd h.2 t3;exact absurd (hfr2.symm.trans h) hBz⟩
     ·have T4:=GF.2
      have Va:aN V4 (w.heap.size+1+1+1) 53 #[_]:=(T4.block _ HV.o.lt (by omega)).trans HV.o;have qI:aN V4 (w.heap.size+1+1) 114 _:=(T4.block _ Lt.o.lt (by omega)).trans Lt.o;have HD4:=U ((T4.block DD (Array.getElem?_eq_some_iff.1 UM.o).1 (by omega)).trans UM.o);have HD5:=U ((T4.block tZ (Array.getElem?_eq_some_iff.1 UG.o).1 (by omega)).trans UG.o);have HF4:=U Va;have wQ:=U qI;have sw:=U (GF.pre (w0:=w) DB.o);have c3:=Va.cell 0;have f3:=Va.free 0;have l3:=Va.lt;simp only[au,av]at c3;clear X0 X1 X2 X3 X4 X5 X6 X7 Xl F0 F1 F2 F3 F4 F5 F6 F7 cv fv vl G0 G1 G2 Gl;have Y0:=qI.cell 0;have Y1:=qI.cell 1;have Y2:=qI.cell 2;have Y3:=qI.cell 3;have Y4:=qI.cell 4;have Y5:=qI.cell 5;have Y6:=qI.cell 6;have Y7:=qI.cell 7;simp only[au,av,ay]at Y0 Y1 Y2 Y3 Y4 Y5 Y6 Y7;have Yl:=qI.lt;have J0:=qI.free 0;have J1:=qI.free 1;have J2:=qI.free 2;have J3:=qI.free 3;have J4:=qI.free 4;have J5:=qI.free 5;have J6:=qI.free 6;have J7:=qI.free 7;clear qI Va T4 GF
      gi_wp2
      have HR4:=U (World.ownsRow_nil V4 (w2.heap.size+2) 111 1);obtain⟨t1,t2,tY,tF,tR,tB⟩:=sj (n:=w.heap.size) (DD:=DD) (tZ:=tZ) (v0:=ι aF 0) (v1:=ι I 0) (v2:=ι F 0) (v3:=ι I 0) (v4:=ι I 0) (v5:=ι I 0) (v6:=ι I 0) (v7:=ι I 0) wQ.o HF4.o (by omega) HD4.o HD5.o No ⟨by omega,by omega,by omega,by omega⟩ (fr:=[]) HR4.o ⟨by omega,by omega⟩ _ (.inl rfl);unfold dG at t1 t2 tY tF tR tB;refine⟨by simp,.inl ⟨_,_,rfl,run_takeDeferred t1,?_⟩⟩;refine⟨by simp,.inl ⟨_,_,rfl,run_takeDeferred t2,?_⟩⟩;have k0:=tY.cell 0;have k1:=tY.cell 1;have k2:=tY.cell 2;have k3:=tY.cell 3;have k4:=tY.cell 4;have k5:=tY.cell 5;have k6:=tY.cell 6;have k7:=tY.cell 7;have k9:=tF.cell 0;simp only[au,av,ay]at k0 k1 k2 k3 k4 k5 k6 k7 k9;refine⟨τ #[γ #[ι aF 0,ι I 0,ι F 0,ι I 0,ι I 0,ι I 0,ι I 0,ι I 0],θ none 0 0,ι J 4],?_,?_⟩
      ·simp[results,f91,go_sem,k0,k1,k2,k3,k4,k5,k6,k7,k9]
      ·exact .inr ⟨rfl,Fu.via sw.o tB⟩
end
end
