/- Lemmas. -/
import Derived.Test.YtpendnmmgjlmfaaGreatDoorM04
import Derived.Test.YtpendnmmgjlmfaaGreatDoorM09
set_option linter.unusedVariables false
set_option linter.unusedSimpArgs false
namespace Go.Proofs.YtpendnmmgjlmfaaGreatDoor
open Go.Proofs.Tryz
open IntKind renaming u16→I,i64→J,u32→F,u8→aF
open Value renaming pointer→G,int->ι,string->σ,tuple->τ,slice->θ,agg->γ
open Ending renaming returned→aG
open Obj renaming cells→aH
set_option maxRecDepth 100000
set_option maxHeartbeats 4000000
namespace qX
open Go.RowKit Go.Shelf Go.Maps Oct Geo
theorem fZ (x:aP) (w:World) (hx:x.Ok):Calls prog 123 #[x.val] w λe w'=>e=aG (ι J 0)/\Below w.heap.size w w':=by
 rcases hx with rfl|h
 ·exact Nr w
 ·exact Ns x w h
theorem kF {W:World} {g:Nat} {t:TypeId} {cs:List Value} (h:aN W g t cs.toArray):∀b,some (⟨g,0,none⟩:Addr)=some b->∀j u,cs[j]? =some u->W.cell? (b.add j)=some u:=λb e j u hu=>by
 cases e;exact World.news_of_block h j u hu
theorem aN.at_ {W:World} {N:Nat} {t:TypeId} {cs:Array Value} (h:W.heap.size=N):aN (W.alloc (aH cs t)) N t cs:=by
 rw[<-h];exact aN.new W t cs
theorem XI {W:World} {base n g cap:Nat} {t:TypeId} {xs:List Value} {l:List Nat} (h:W.ownsRow base t 1 (θ (some g) n cap) n xs) (e:xs=l.map iE):∀i (hi:i<l.length),W.cell? ⟨g,0+i,none⟩=some (ι I l[i]):=λi hi=>by
 subst e;obtain⟨cur,h1,h2,_⟩:=zL h;rw[Nat.zero_add,h1.cell i];refine h2 i _ ?_;rw[List.getElem?_map,List.getElem?_eq_getElem hi]
 rfl
def lJ (V:World) (b:Nat) (cs:Array Value) (W:World):Prop:=Below V.heap.size V W/\aN W b 114 cs
theorem lJ.to {V W W':World} {b:Nat} {cs:Array Value} {v0 v1 v2 v7:Value} (h:W.cell? b=some v0/\W.cell? ⟨b,1,none⟩=some v1/\W.cell? ⟨b,2,none⟩=some v2/\W.cell? ⟨b,7,none⟩=some v7/\lJ V b cs W) (hb:Below W.heap.size W W'):
 W'.cell? b=some v0/\W'.cell? ⟨b,1,none⟩=some v1/\W'.cell? ⟨b,2,none⟩=some v2/\W'.cell? ⟨b,7,none⟩=some v7/\lJ V b cs W':=
 ⟨(hb.cell (p:=⟨b,0,none⟩) h.2.2.2.2.2.lt).trans h.1,(hb.cell (p:=⟨b,1,none⟩) h.2.2.2.2.2.lt).trans h.2.1,(hb.cell (p:=⟨b,2,none⟩) h.2.2.2.2.2.lt).trans h.2.2.1,(hb.cell (p:=⟨b,7,none⟩) h.2.2.2.2.2.lt).trans h.2.2.2.1,h.2.2.2.2.1.trans (hb.mono h.2.2.2.2.1.size),h.2.2.2.2.2.later hb⟩
theorem lJ.grown {V W W':World} {b:Nat} {cs:Array Value} {v0 v1 v2 v7:Value} (hg:W.grownBy W' none) (h:W.cell? b=some v0/\W.cell? ⟨b,1,none⟩=some v1/\W.cell? ⟨b,2,none⟩=some v2/\W.cell? ⟨b,7,none⟩=some v7/\lJ V b cs W):
 W'.cell? b=some v0/\W'.cell? ⟨b,1,none⟩=some v1/\W'.cell? ⟨b,2,none⟩=some v2/\W'.cell? ⟨b,7,none⟩=some v7/\lJ V b cs W':=lJ.to h (dK hg)
theorem lJ.later {V W W':World} {b:Nat} {cs:Array Value} {v0 v1 v2 v7:Value} (hb:Below W.heap.size W W') (h:W.cell? b=some v0/\W.cell? ⟨b,1,none⟩=some v1/\W.cell? ⟨b,2,none⟩=some v2/\W.cell? ⟨b,7,none⟩=some v7/\lJ V b cs W):
 W'.cell? b=some v0/\W'.cell? ⟨b,1,none⟩=some v1/\W'.cell? ⟨b,2,none⟩=some v2/\W'.cell? ⟨b,7,none⟩=some v7/\lJ V b cs W':=lJ.to h hb
theorem Oo {V W:World} {b:Nat} {k0 k1 k2 d0 d1 d2 d3 i:Value} {A0 A1 A2 A3:Prop} (h:A0/\A1/\A2/\A3/\lJ V b #[k0,k1,k2,d0,d1,d2,d3,i] W):∀p,some (⟨b,3,none⟩:Addr)=some p->∀j u,[d0,d1,d2,d3][j]? =some u->W.cell? (p.add j)=some u:=λp e j u hu=>by
 cases e;have hc:=h.2.2.2.2.2
 match j,hu with
 |0,hu=>exact(hc.cell 3).trans hu
 |1,hu=>exact(hc.cell 4).trans hu
 |2,hu=>exact(hc.cell 5).trans hu
 |3,hu=>exact(hc.cell 6).trans hu
theorem GZ (x:aP) (w:World) (hx:x.Ok):Calls prog 66 #[x.val] w λe w'=>e=aG (τ #[σ (jL x),ι J 0])/\Below w.heap.size w w':=by
 obtain⟨i0,hi,hz0,hz1,hz2⟩:=info_parts rA;have CK:=U (λW=>fZ x W hx);have PD:=U (λW=>Qs (B (cK x.nums)) 32 W (by rw[aV,gK];simp[aP.nums]) (by omega));have PT:=U (λb o cap W hb hc=>qj x.nums b o cap W (by simp[aP.nums]) (Ok.tH hx) hb hc);have hsz:=Ok.tJ hx;have hnl:=Ok.tH hx
 have HE:=U (show B (L (B (cK x.nums))++oz (32-(B (cK x.nums)).size))=jL x by
  unfold jL;rw[iy,aV,gK]
  rfl)
 clear hx;obtain⟨kind,links,size,d0,d1,d2,d3,ind⟩:=x;simp only at hsz;have k1:kind<65536:=hnl kind (by simp[aP.nums]);have k2:links<65536:=hnl links (by simp[aP.nums]);clear hnl
 have HN:=U (show[Value.int I kind,ι I links,ι I size,ι I 0]++[Value.int I d0,ι I d1,ι I d2,ι I d3,ι I ind]=(aP.nums ⟨kind,links,size,d0,d1,d2,d3,ind⟩).map iE by
  have e1:size%65536=size:=by omega
  have e2:size/65536=0:=by omega
  simp only[aP.nums,e1,e2]
  rfl)
 unfold aP.val at*;have hX:=aN.new w 114 (aP.cells ⟨kind,links,size,d0,d1,d2,d3,ind⟩);have HB:=U ((aj _ w).alloc (ah _) (aH (aP.cells ⟨kind,links,size,d0,d1,d2,d3,ind⟩) 114));unfold aP.cells at hX HB;simp only at hX HB CK;have HX:=U hX;have X:=hX.cell;have Xl:=hX.lt;clear hX
 go_enter func66,ntmps66
 go_wp2_with fail;refine(CK.o _).mono ?_;rintro e w1 ⟨rfl,b1⟩;have hX:=HX.o.later b1;have HB1:=U (HB.o.trans (b1.mono HB.o.size));have jv:=U hX;clear X Xl b1;have Y:=hX.cell;have Yl:=hX.lt;clear hX;have u0:IntKind.u16.wrap (kind:Int)=kind:=wrap_u16 kind k1;have u1:IntKind.u16.wrap (size:Int)=size:=wrap_u16 size (by omega);have u2:(size:Int)/65536=0:=by omega
 have u3:IntKind.u16.wrap 0=0:=by decide
 go_wp2_with fail
 go_region_held3 (λW=>W.cell? w.heap.size=some (ι aF kind)/\W.cell? ⟨w.heap.size,1,none⟩=some (ι I links)/\W.cell? ⟨w.heap.size,2,none⟩=some (ι F size)/\W.cell? ⟨w.heap.size,7,none⟩=some (ι I ind)/\lJ w1 w.heap.size #[ι aF kind,ι I links,ι F size,ι I d0,ι I d1,ι I d2,ι I d3,ι I ind] W)
  (first|exact lJ.later (by assumption) (by assumption)|exact lJ.grown (by assumption) (by assumption)|exact lJ.to (by assumption) ((aj _ _).alloc (ah _) _)|exact⟨(Y 0),(Y 1),(Y 2),(Y 7),aj _ _,jv.o⟩|exact⟨(Y 0),(Y 1),(Y 2),(Y 7),(aj _ _).drew,jv.o.drew⟩)
  (first
   |(refine step_append_grows (by rfl) (.tmp 25) (.tmp 28) 53 (by rfl) 111 i0 (ι I 0) 1 2 underlying53 hi hz0 hz1 hz2 rfl (by decide) (some ⟨w.heap.size,3,none⟩) 4 4 [ι I d0,ι I d1,ι I d2,ι I d3] (by rfl) (by simp) rfl (Oo (by assumption)) _ 1 1 [ι I ind] (by rfl) rfl (by first|exact World.news_of_block (aN.at_ (by simp))|exact World.news_of_block (aN.alloc (aN.at_ (by simp)) _)) (λu hu=>by simp at hu;subst hu;rfl) (by decide) (by unfold maxLen;omega) (by omega) ?_;intro v2 w2 hown2 hg2;obtain⟨g2,cap2,rfl,hlt2⟩:=Ar hown2 (by decide))
   |(refine step_append_grows (by rfl) (.tmp 23) (.tmp 29) 53 (by rfl) 111 i0 (ι I 0) 1 2 underlying53 hi hz0 hz1 hz2 rfl (by decide) (some ⟨_,0,none⟩) 4 4 [ι I kind,ι I links,ι I size,ι I 0] (by rfl) (by simp) rfl (by first|exact kF (aN.at_ (by simp))|exact kF (aN.drew (aN.at_ (by simp)))|exact kF (aN.kept (aN.drew (aN.at_ (by simp))) hg2 (by simp))|exact kF (aN.kept (aN.drew (aN.alloc (aN.at_ (by simp)) _)) hg2 (by simp))|exact kF (aN.kept (aN.at_ (by simp)) hg2 (by simp))|exact kF (aN.kept (aN.alloc (aN.at_ (by simp)) _) hg2 (by simp))) _ 5 cap2 [ι I d0,ι I d1,ι I d2,ι I d3,ι I ind] (by rfl) rfl (by first|exact hown2.cells (g:=g2) rfl|exact(hown2.alloc _).cells (g:=g2) rfl) (λu hu=>by simp at hu;rcases hu with rfl|rfl|rfl|rfl|rfl<;>rfl) (by decide) (by unfold maxLen;omega) (by omega) ?_;intro v3 w3 hown3 hg3;obtain⟨g3,cap3,rfl,hlt3⟩:=Ar hown3 (by decide))
   |(go_at_call 124;refine(PT.o g3 0 cap3 _ hlt3 (XI hown3 HN.o)).mono ?_;rintro e w4 ⟨rfl,b4⟩))
 all_goals
  rename_i hS
  have HB5:=U (HB1.o.trans (hS.2.2.2.2.1.mono HB1.o.size));clear hS;go_wp2_with fail;refine(PD.o _).mono ?_;rintro e w5 ⟨rfl,b5⟩;have Ky:=U (HB5.o.trans (b5.mono HB5.o.size));clear b5
  go_wp2
  go_ret2;exact⟨by rw[HE.o];rfl,Ky.o⟩
def dG (W:World) (n:Nat) (v0 v1 v2 v3 v4 v5 v6 v7:Value):World:=(((((((W.setCell ⟨n,0,none⟩ v0).setCell ⟨n,1,none⟩ v1).setCell ⟨n,2,none⟩ v2).setCell ⟨n,3,none⟩ v3).setCell ⟨n,4,none⟩ v4).setCell ⟨n,5,none⟩ v5).setCell ⟨n,6,none⟩ v6).setCell ⟨n,7,none⟩ v7
theorem fK {W:World} {n:Nat} {t:TypeId} {a0 a1 a2 a3 a4 a5 a6 a7:Value} (h:aN W n t #[a0,a1,a2,a3,a4,a5,a6,a7]) (v0 v1 v2 v3 v4 v5 v6 v7:Value):aN (dG W n v0 v1 v2 v3 v4 v5 v6 v7) n t #[v0,v1,v2,v3,v4,v5,v6,v7]:=by
 have h0:=(((((((h.set 0 v0).set 1 v1).set 2 v2).set 3 v3).set 4 v4).set 5 v5).set 6 v6).set 7 v7;simp only[List.setIfInBounds_toArray,List.set_cons_zero,List.set_cons_succ]at h0;exact h0
theorem iX {W:World} {n g:Nat} {t:TypeId} {cs:Array Value} {v0 v1 v2 v3 v4 v5 v6 v7:Value} (h:aN W g t cs) (hne:n≠g):aN (dG W n v0 v1 v2 v3 v4 v5 v6 v7) g t cs:=
 (((((((h.other v0 hne.symm).other v1 hne.symm).other v2 hne.symm).other v3 hne.symm).other v4 hne.symm).other v5 hne.symm).other v6 hne.symm).other v7 hne.symm
theorem aX {w W:World} {b n:Nat} {v0 v1 v2 v3 v4 v5 v6 v7:Value} (h:Below b w W) (hn:b<=n):Below b w (dG W n v0 v1 v2 v3 v4 v5 v6 v7):=by
 unfold dG
 repeat(refine Below.setCell ?_ hn _)
 exact h
theorem EH {W:World} {base n:Nat} {t:TypeId} {v:Value} {xs:List Value} (h:W.ownsRow base t 1 v n xs) (hn:0<n):∃g cap,v=θ (some ⟨g,0,none⟩) n cap/\g<W.heap.size/\n<=cap:=by
 rcases h.2 with⟨rfl,h0⟩|⟨g',cap',cur,rfl,hb,hg,hnc,hcm,hcs,ht⟩
 ·omega
 ·exact⟨g',cap',rfl,(Array.getElem?_eq_some_iff.1 hg).1,hnc⟩
theorem sX (x:aP) (w:World) (hx:x.Ok):Calls prog 90 #[σ (jL x)] w λe w'=>e=aG (τ #[x.val,ι J 0])/\Below w.heap.size w w':=by
 have GO:=U (λW=>Qu (x.nums++List.replicate 7 0) W (by simp[aP.nums]) (λv hv=>by
  rcases List.mem_append.1 hv with h|h
  ·exact Ok.tH hx v h
  ·have:=List.eq_of_mem_replicate h;omega))
 have PU:=U (λW=>GZ x W hx);have hsz:=Ok.tJ hx;have hnl:=Ok.tH hx;have XJ:=jF x
 have ex:(jL x).extract 0 32=B (cK (x.nums++List.replicate 7 0)):=by
  rw[<-XJ,ByteArray.extract_zero_size];unfold jL;rw[Ws]
 have hk8:x.kind<256:=by rcases hx with rfl|h;exact(by decide:(0:Nat)<256);have:=h.kind;omega
 clear hx
 generalize jL x=s at*
 generalize B (cK (x.nums++List.replicate 7 0))=s32 at*
 obtain⟨kind,links,size,d0,d1,d2,d3,ind⟩:=x;simp only at hsz;have k1:kind<65536:=hnl kind (by simp[aP.nums])
 have k8:IntKind.u8.wrap (kind:Int)=kind:=by
  have:kind<256:=hk8
  simp[IntKind.wrap,IntKind.bits,IntKind.signed]
  omega
 have or0:bits .or F (size:Int) 0=size:=(u32_or_nat size 0 (by omega) (by omega)).trans (by simp);clear hnl hk8;unfold aP.val at*;have HB:=U ((aj _ w).alloc (ah _) (aH #[ι aF 0,ι I 0,ι F 0,ι I 0,ι I 0,ι I 0,ι I 0,ι I 0] 114));have HX:=U (aN.new w 114 #[ι aF 0,ι I 0,ι F 0,ι I 0,ι I 0,ι I 0,ι I 0,ι I 0])
 go_enter func90,ntmps90
 go_wp2_with fail;refine(GO.o _).mono ?_;rintro e w1 ⟨v,rfl,hown,b1⟩;have hown:w1.ownsRow _ 111 1 v 16 [iE kind,iE links,iE (size%65536),iE (size/65536),iE d0,iE d1,iE d2,iE d3,iE ind,iE 0,iE 0,iE 0,iE 0,iE 0,iE 0,iE 0]:=hown;rw[show size%65536=size by omega,show size/65536=0 by omega]at hown;obtain⟨g,cap,rfl,hgl,hcap⟩:=EH hown (by decide);obtain⟨cur,hcur,hget,hge⟩:=zL hown;have C0:w1.cell? g=some (ι I kind):=(hcur.cell 0).trans (hget 0 _ rfl);have C1:w1.cell? ⟨g,1,none⟩=some (ι I links):=(hcur.cell 1).trans (hget 1 _ rfl);have C2:w1.cell? ⟨g,2,none⟩=some (ι I size):=(hcur.cell 2).trans (hget 2 _ rfl);have C3:w1.cell? ⟨g,3,none⟩=some (ι I 0):=(hcur.cell 3).trans (hget 3 _ rfl);have C8:w1.cell? ⟨g,8,none⟩=some (ι I ind):=(hcur.cell 8).trans (hget 8 _ rfl);have HCUR:=U hcur;have tA:=U hget;have hX:=HX.o.later b1;have jv:=U hX;have X0:=hX.cell 0;have X1:=hX.cell 1;have X2:=hX.cell 2;have X3:=hX.cell 3;have X4:=hX.cell 4;have X5:=hX.cell 5;have X6:=hX.cell 6;have X7:=hX.cell 7;simp only[au,av,ay]at X0 X1 X2 X3 X4 X5 X6 X7;have Xl:=hX.lt;have F0:=hX.free 0;have F1:=hX.free 1;have F2:=hX.free 2;have F3:=hX.free 3;have F4:=hX.free 4;have F5:=hX.free 5;have F6:=hX.free 6;have F7:=hX.free 7;have HB1:=U (HB.o.trans (b1.mono HB.o.size))
 have hgw:w.heap.size≠g:=λe=>by
  have h1:aN w1 g 111 cur:=hcur;rw[<-e]at h1
  injection (Option.some.inj ((show w1.heap[w.heap.size]? =_ from h1).symm.trans hX))with _ e3
  exact absurd e3 (by decide)
 clear hX hcur hget hown b1 hge;have u0:IntKind.u8.wrap (kind:Int)=kind:=k8;have u1:IntKind.u32.wrap (size:Int)=size:=by simp[IntKind.wrap,IntKind.bits,IntKind.signed];omega
 have u2:IntKind.u32.wrap 0=0:=by decide
 have ub:bits .or F (size:Int) 0=size:=or0;go_wp2_with fail;refine wp_region_still_tail 21 (by kernel_rfl) (by kernel_rfl) ?_;simp only[List.take_succ_cons,List.take_zero,List.drop_succ_cons,List.drop_zero];change wpStill _ _ w1.drew _ _ _;have D0:w1.drew.cell? g=some (ι I kind):=C0;have D1:w1.drew.cell? ⟨g,1,none⟩=some (ι I links):=C1;have D2:w1.drew.cell? ⟨g,2,none⟩=some (ι I size):=C2;have D3:w1.drew.cell? ⟨g,3,none⟩=some (ι I 0):=C3;have D8:w1.drew.cell? ⟨g,8,none⟩=some (ι I ind):=C8
 generalize w1.drew=W3 at*
 repeat still_step
 refine wpStill_nil ?_;change wpList _ _ _ _ _ w1.drew;have Oq:=U jv.o.drew;have Ps:=U HB1.o.drew;have HC4:=U HCUR.o.drew;have Xd:w.heap.size<w1.drew.heap.size:=Xl;clear X0 X1 X2 X3 X4 X5 X6 X7 Xl F0 F1 F2 F3 F4 F5 F6 F7 C0 C1 C2 C3 C8 D0 D1 D2 D3 D8 jv HB1 HCUR u0 u1 u2 ub
 generalize w1.drew=W4 at*
 have hX:=Oq.o;have X0:=hX.cell 0;have X1:=hX.cell 1;have X2:=hX.cell 2;have X3:=hX.cell 3;have X4:=hX.cell 4;have X5:=hX.cell 5;have X6:=hX.cell 6;have X7:=hX.cell 7;simp only[au,av,ay]at X0 X1 X2 X3 X4 X5 X6 X7;have Xl:=hX.lt;have F0:=hX.free 0;have F1:=hX.free 1;have F2:=hX.free 2;have F3:=hX.free 3;have F4:=hX.free 4;have F5:=hX.free 5;have F6:=hX.free 6;have F7:=hX.free 7;clear hX;go_wp2_with fail;have h5:=fK Oq.o (ι aF kind) (ι I links) (ι F size) (ι I 0) (ι I 0) (ι I 0) (ι I 0) (ι I ind);have VW:aN (dG W4 w.heap.size (ι aF kind) (ι I links) (ι F size) (ι I 0) (ι I 0) (ι I 0) (ι I 0) (ι I ind)) g 111 cur:=iX HC4.o hgw;have hb5:Below w.heap.size w (dG W4 w.heap.size (ι aF kind) (ι I links) (ι F size) (ι I 0) (ι I 0) (ι I 0) (ι I 0) (ι I ind)):=aX Ps.o (ah _);unfold dG at h5 VW hb5;clear X0 X1 X2 X3 X4 X5 X6 X7 Xl F0 F1 F2 F3 F4 F5 F6 F7 Xd Oq Ps HC4;have hl5:=h5.lt;have hg5:=VW.lt
 generalize ((((((((W4.setCell ⟨w.heap.size,0,none⟩ (ι aF kind)).setCell ⟨w.heap.size,1,none⟩ (ι I links)).setCell ⟨w.heap.size,2,none⟩ (ι F size)).setCell ⟨w.heap.size,3,none⟩ (ι I 0)).setCell ⟨w.heap.size,4,none⟩ (ι I 0)).setCell ⟨w.heap.size,5,none⟩ (ι I 0)).setCell ⟨w.heap.size,6,none⟩ (ι I 0)).setCell ⟨w.heap.size,7,none⟩ (ι I ind))=W5 at*
 have jD:=U h5.drew;have VX:=U VW.drew;have HB5:=U hb5.drew;clear h5 VW hb5;have p4:(4:Int)<=cap:=by omega
 have p8:(8:Int)<=cap:=by omega
 have n4:4<=cap:=by omega
 have n8:8<=cap:=by omega
 have n44:¬cap=4:=by omega
 refine wp_region_still_tail 4 (by kernel_rfl) (by kernel_rfl) ?_;simp only[List.take_succ_cons,List.take_zero,List.drop_succ_cons,List.drop_zero]
 repeat still_step
 refine wpStill_nil ?_;change wpList _ _ _ _ _ W5.drew
 have hds:∀j u,[Value.int I d0,ι I d1,ι I d2,ι I d3][j]? =some u->W5.drew.cell? (Addr.add ⟨g,4,none⟩ j)=some u:=λj u hu=>by
  match j,hu with
  |0,hu=>exact(VX.o.cell 4).trans (tA.o 4 _ hu)
  |1,hu=>exact(VX.o.cell 5).trans (tA.o 5 _ hu)
  |2,hu=>exact(VX.o.cell 6).trans (tA.o 6 _ hu)
  |3,hu=>exact(VX.o.cell 7).trans (tA.o 7 _ hu)
 refine wpList_copy_splice rfl (.tmp 36) (.tmp 38) 53 53 rfl 111 underlying53 (by kernel_rfl) (some ⟨w.heap.size,3,none⟩) (some ⟨g,4,none⟩) 4 4 4 (cap-4) rfl rfl w.heap.size 3 [ι aF kind,ι I links,ι F size,ι I 0,ι I 0,ι I 0,ι I 0,ι I ind] 114 jD.o [ι I d0,ι I d1,ι I d2,ι I d3] rfl (λ_=>⟨rfl,_,rfl,hds⟩) (by simp) (λu hu=>by simp at hu;rcases hu with rfl|rfl|rfl|rfl<;>rfl) w.heap.size w HB5.o (ah _) ?_;intro w6 hg6 hb6;have hX:aN w6 w.heap.size 114 #[ι aF kind,ι I links,ι F size,ι I d0,ι I d1,ι I d2,ι I d3,ι I ind]:=hg6.o;have HX6:=U hX;have Ky:=U hb6;have X0:=hX.cell 0;have X1:=hX.cell 1;have X2:=hX.cell 2;have X3:=hX.cell 3;have X4:=hX.cell 4;have X5:=hX.cell 5;have X6:=hX.cell 6;have X7:=hX.cell 7;simp only[au,av,ay]at X0 X1 X2 X3 X4 X5 X6 X7;have Xl:=hX.lt;have F0:=hX.free 0;have F1:=hX.free 1;have F2:=hX.free 2;have F3:=hX.free 3;have F4:=hX.free 4;have F5:=hX.free 5;have F6:=hX.free 6;have F7:=hX.free 7;clear hX hg6 hb6 hds;go_wp2_with fail;refine(PU.o _).mono ?_;rintro e w7 ⟨rfl,b7⟩;have hX:=HX6.o.later b7;have tD:=U (Ky.o.trans (b7.mono Ky.o.size));have HX7:=U hX;clear X0 X1 X2 X3 X4 X5 X6 X7 Xl F0 F1 F2 F3 F4 F5 F6 F7 b7;have Y0:=hX.cell 0;have Y1:=hX.cell 1;have Y2:=hX.cell 2;have Y3:=hX.cell 3;have Y4:=hX.cell 4;have Y5:=hX.cell 5;have Y6:=hX.cell 6;have Y7:=hX.cell 7;simp only[au,av,ay]at Y0 Y1 Y2 Y3 Y4 Y5 Y6 Y7;have Yl:=hX.lt;have G0:=hX.free 0;have G1:=hX.free 1;have G2:=hX.free 2;have G3:=hX.free 3;have G4:=hX.free 4;have G5:=hX.free 5;have G6:=hX.free 6;have G7:=hX.free 7;clear hX
 go_wp2
 have h9:=fK HX7.o (ι aF kind) (ι I links) (ι F size) (ι I d0) (ι I d1) (ι I d2) (ι I d3) (ι I ind);have kT:Below w.heap.size w (dG w7 w.heap.size (ι aF kind) (ι I links) (ι F size) (ι I d0) (ι I d1) (ι I d2) (ι I d3) (ι I ind)):=aX tD.o (ah _);unfold dG at h9 kT;have k0:=h9.cell 0;have k1:=h9.cell 1;have k2:=h9.cell 2;have k3:=h9.cell 3;have k4:=h9.cell 4;have k5:=h9.cell 5;have k6:=h9.cell 6;have k7:=h9.cell 7;simp only[au,av,ay]at k0 k1 k2 k3 k4 k5 k6 k7;exact bodyPost_ret (v:=τ #[γ #[ι aF kind,ι I links,ι F size,ι I d0,ι I d1,ι I d2,ι I d3,ι I ind],ι J 0]) (by simp[results,results90,go_sem,k0,k1,k2,k3,k4,k5,k6,k7]) rfl ⟨rfl,kT⟩
end qX
namespace Ap
open Go.RowKit Go.Shelf Dev qX
open Re (Rw dX)
theorem zD (w:World) (c1 c2:Array Value) (t1 t2:TypeId):aN ((w.alloc (aH c1 t1)).alloc (aH c2 t2)) w.heap.size t1 c1/\aN ((w.alloc (aH c1 t1)).alloc (aH c2 t2)) (w.heap.size+1) t2 c2/\Below w.heap.size w ((w.alloc (aH c1 t1)).alloc (aH c2 t2))/\((w.alloc (aH c1 t1)).alloc (aH c2 t2)).heap.size=w.heap.size+1+1:=by
 refine⟨(aN.new w t1 c1).alloc _,?_,((aj _ _).alloc (ah _) _).alloc (by simp) _,by simp⟩;have:=aN.new (w.alloc (aH c1 t1)) t2 c2
 rwa [aC]at this
theorem He (w:World) (c1 c2 c3:Array Value) (t1 t2 t3:TypeId):aN (((w.alloc (aH c1 t1)).alloc (aH c2 t2)).alloc (aH c3 t3)) w.heap.size t1 c1/\aN (((w.alloc (aH c1 t1)).alloc (aH c2 t2)).alloc (aH c3 t3)) (w.heap.size+1) t2 c2/\aN (((w.alloc (aH c1 t1)).alloc (aH c2 t2)).alloc (aH c3 t3)) (w.heap.size+1+1) t3 c3/\Below w.heap.size w (((w.alloc (aH c1 t1)).alloc (aH c2 t2)).alloc (aH c3 t3)):=by
 obtain⟨h1,h2,h3,h4⟩:=zD w c1 c2 t1 t2;refine⟨h1.alloc _,h2.alloc _,?_,h3.alloc (by rw[h4];omega) _⟩;have:=aN.new ((w.alloc (aH c1 t1)).alloc (aH c2 t2)) t3 c3
 rwa [h4]at this
def LvR (S:Nat->Prop) (Q:Prop) (ino:Nat) (R:World->Prop) (w:World) (e:Ending) (w':World):Prop:=∃(u:Nat) (c:Int),e=aG (τ #[ι F u,ι J c])/\aR S w w'/\(c=0->u=ino->R w')/\(c≠0\/u≠ino->Q)
def Rd (v:Value) (w:World) (e:Ending) (w':World):Prop:=e=aG v/\Below w.heap.size w w'
section
variable {m M n:Nat} {Q:Prop} {A B C:World->Prop} {w:World} {x:aP}
theorem Rs.below {S:Nat->Prop} {w0:World} {e:Ending} {w':World} (h:Rs S Q B w e w') (hb:Below w0.heap.size w0 w) (hS:∀c,S c->c=m\/w0.heap.size<=c):Rs (λc=>c=m) Q B w0 e w':=by
 obtain⟨c,e,t,h⟩:=h;refine⟨c,e,⟨t.os.trans hb.os,t.tape.trans hb.tape,t.output.trans hb.output,aD hb.size t.size,λk hk hs=>?_⟩,h⟩;exact(t.block k (aA hk hb.size) (λq=>(hS k q).elim hs (λq=>by omega))).trans (hb.block k hk)
theorem Kz (dir ino:Nat) (nm:ByteArray) (op:∀W,A W->Calls prog 261 #[M,ι F dir,σ nm] W (LvR (λc=>c=m) Q ino B W)) (sA:qY m A) (hA:A w):
 Calls prog 188 #[γ #[M],ι F dir,σ nm,ι F ino] w (Rs (λc=>c=m) Q B w):=by
 have hb:=(aj w.heap.size w).alloc (ah _) (aH #[M] 144);have O:=U (op _ (sA.1 _ _ hA hb));have HB:=U hb;clear op sA hA hb
 go_enter func188,ntmps188
 go_wp2_with fail;refine ak O.o ?_;rintro e w1 ⟨u,c,rfl,t,h1,h2⟩;have T:=U ((aR.of_below HB.o).trans t);clear t
 by_cases hc:c=0
 ·subst hc
  by_cases hu:u=ino
  ·have H:=U (h1 rfl hu)
   subst hu;clear h1 h2;go_wp2_with fail;refine(iT _ _).mono ?_;rintro e w2 ⟨rfl,rfl⟩
   go_wp2
   go_ret;exact⟨0,rfl,T.o,λ_=>H.o,λq=>absurd rfl q⟩
  ·have H:=U (h2 (.inr hu))
   have tk:((u:Int)!=(ino:Int))=true:=by simp;omega
   clear h1 h2;go_wp2_with fail;refine(jC _ _).mono ?_;rintro e w2 ⟨rfl,rfl⟩
   go_wp2
   go_ret;exact⟨2,rfl,T.o,(λq=>by cases q),λ_=>H.o⟩
 ·have H:=U (h2 (.inl hc))
  have tk:(c !=0)=true:=by simp;omega
  clear h1 h2
  go_wp2
  go_ret;exact⟨c,rfl,T.o,λq=>absurd q hc,λ_=>H.o⟩
theorem XK (RZ:∀W,A W->Calls prog 197 #[M,ι F n,ι F 0] W (Rs (λc=>c=m) Q B W)) (GV:∀W,B W->Calls prog 271 #[M,ι F n] W (Rs (λc=>c=m) Q C W)) (sA:qY m A) (hA:A w):
 Calls prog 207 #[γ #[M],ι F n] w (Rs (λc=>c=m) Q C w):=by
 have hm:=sA.2 _ hA;have X:=U (And.intro RZ (And.intro GV (And.intro sA hA)));clear RZ GV sA hA
 go_enter func207,ntmps207
 go_wp2_with fail;obtain⟨h1,h2,h3,hb⟩:=He w #[M] #[ι F n] #[.func (.func 269) #[] #[w.heap.size,G (some ⟨w.heap.size+1,0,none⟩)],.func (.func 270) #[] #[w.heap.size,G (some ⟨w.heap.size+1,0,none⟩)]] 144 42 82;have hA:=X.o.2.2.1.1 _ _ X.o.2.2.2 hb;refine(jr (λc=>c=m) _ Q [(_,B),(_,C)] A _ h3 (by omega) (by simp) ⟨rB rfl X.o.1 h1 (by omega) h2 (by omega),Xp rfl X.o.2.1 h1 (by omega) h2 (by omega),trivial⟩ hA).mono ?_;rintro e w1 ⟨c,rfl,h⟩;have H:=U (Rs.pre ⟨c,rfl,h⟩ (aR.of_below hb));clear h h1 h2 h3 hb hA X hm
 go_wp2
 go_ret;exact H.o
end
def QO (W:World) (n:Nat) (x:aP):World:=dG W n (ι aF x.kind) (ι I x.links) (ι F x.size) (ι I x.d0) (ι I x.d1) (ι I x.d2) (ι I x.d3) (ι I x.ind)
theorem xP {W:World} {n:Nat} {t:TypeId} {a0 a1 a2 a3 a4 a5 a6 a7:Value} (x:aP) (h:aN W n t #[a0,a1,a2,a3,a4,a5,a6,a7]):aN (QO W n x) n t x.cells:=fK h _ _ _ _ _ _ _ _
theorem yR {w W:World} {b n:Nat} (x:aP) (h:Below b w W) (hn:b<=n):Below b w (QO W n x):=aX h hn
section
variable {m M n:Nat} {Q:Prop} {A B C:World->Prop} {w:World} {x:aP}
theorem QS (hx:x.kind=1) (IN:∀W,A W->Calls prog 48 #[M,ι F n] W (Rd (τ #[x.val,ι J 0]) W)) (sA:qY m A) (hA:A w):
 Calls prog 196 #[γ #[M],ι F n] w (Rd (τ #[x.val,ι J 0]) w):=by
 have tk:((x.kind:Int)==2)=false:=by rw[hx];rfl
 obtain⟨h1,h2,hb,hz⟩:=zD w #[M] #[ι aF 0,ι I 0,ι F 0,ι I 0,ι I 0,ι I 0,ι I 0,ι I 0] 144 114;have O:=U (IN _ (sA.1 _ _ hA hb));have HB:=U hb;have H2:=U h2;clear IN sA hA hb h1 h2 hz hx;unfold aP.val at*
 go_enter func196,ntmps196
 go_wp2_with fail;refine ak O.o ?_;rintro e w1 ⟨rfl,b1⟩;have hY:=(H2.o.later b1).alloc (aH x.cells 114);have HY:=U hY;have Y:=hY.cell;have aL:=hY.free;have Yl:=hY.lt;have B1:=U ((HB.o.trans (b1.mono HB.o.size)).alloc (aD HB.o.size b1.size) (aH x.cells 114));clear b1 hY;unfold aP.cells at*;go_wp2_with fail;refine(iT _ _).mono ?_;rintro e w2 ⟨rfl,rfl⟩
 go_wp2
 have h9:=xP x HY.o;have kT:=yR x B1.o (n:=w.heap.size+1) (by omega);have k:=h9.cell;unfold QO dG at h9 kT k;unfold aP.cells at k;exact bodyPost_ret (v:=τ #[x.val,ι J 0]) (by simp[results,results196,go_sem,k,aP.val]) rfl ⟨rfl,kT⟩
theorem QT (hx:x.kind=1) (h0:1<=x.links) (h2:x.links<=200) (IN:∀W,A W->Calls prog 48 #[M,ι F n] W (Rd (τ #[x.val,ι J 0]) W)) (SI:∀W,A W->Calls prog 177 #[M,ι F n,({x with links:=x.links-1}:aP).val] W (Rs (λc=>c=m) Q B W)) (sA:qY m A) (hA:A w):
 Calls prog 190 #[γ #[M],ι F n,ι aF 1] w (Rs (λc=>c=m) Q B w):=by
 have tk:((x.kind:Int)!=1)=false:=by rw[hx];rfl
 have tl:((x.links:Int)==0)=false:=by simp;omega
 have tw:IntKind.u16.wrap ((x.links:Int)-1)=(x.links-1:Nat):=by rw[show(x.links:Int)-1=((x.links-1:Nat):Int)by omega];exact IntWalk.u16_in _ (by omega)
 obtain⟨h1,h3,hb,hz⟩:=zD w #[M] #[ι F n] 144 42;have hA1:=sA.1 _ _ hA hb;have O:=U (IN _ hA1);have HB:=U hb;have HM:=U h1;have HN:=U h3;have SB:=U (And.intro sA hA1);have SO:=U SI;clear IN sA hA hb h1 h3 hz hx h0 h2 hA1 SI;unfold aP.val at*
 go_enter func190,ntmps190
 go_wp2_with fail;refine ak O.o ?_;rintro e w1 ⟨rfl,b1⟩;have K:=(HM.o.later b1).cell;have Kl:=(HM.o.later b1).lt;have N:=(HN.o.later b1).cell;have Nl:=(HN.o.later b1).lt;have B1:=U b1;clear b1;go_wp2_with fail;refine(iT _ _).mono ?_;rintro e w2 ⟨rfl,rfl⟩;go_wp2_with fail;obtain⟨_,_,hb2,_⟩:=zD w1 #[ι aF x.kind,ι I (x.links-1:Nat),ι F x.size,ι I x.d0,ι I x.d1,ι I x.d2,ι I x.d3,ι I x.ind] #[ι J 0] 114 35;have B2:=U (HB.o.trans ((B1.o.trans (hb2.mono B1.o.size)).mono HB.o.size));refine ak (SO.o _ (SB.o.1.1 _ _ (SB.o.1.1 _ _ SB.o.2 B1.o) hb2)) ?_;rintro e w3 ⟨c,rfl,h⟩;have H:=U (Rs.pre ⟨c,rfl,h⟩ (aR.of_below B2.o));clear h hb2
 go_wp2
 go_ret;exact H.o
theorem XM {S:Nat->Prop} {xb:Nat} {s:ByteArray} (LI:∀W,Calls prog 95 #[σ s] W λe w'=>∃(p:Option Addr) (k c:Nat),e=aG (θ p k c)/\Below W.heap.size W w') (hX:aN w xb 9 #[σ s]) (hx:¬S xb) (sA:qY m A):uq S True w A A (.func (.func 263) #[] #[xb]):=by
 refine⟨_,_,rfl,λW=>enters_of func263 (by kernel_rfl) rfl _ W,λW t hA=>?_⟩;have X:=(aW hX t hx).cell;have O:=U LI;have HA:=U (And.intro sA hA);clear LI sA hA hX t
 go_enter func263,ntmps263
 go_wp2_with fail;refine ak (O.o _) ?_;rintro e w1 ⟨p,k,c,rfl,b1⟩;have B1:=U b1;clear b1
 by_cases hk:k=0
 ·subst hk
  go_wp2_with fail;refine(iT _ _).mono ?_;rintro e w2 ⟨rfl,rfl⟩
  go_wp2
  go_ret;exact⟨0,rfl,aR.of_below B1.o,λ_=>HA.o.1.1 _ _ HA.o.2 B1.o,λ_=>trivial⟩
 ·have tk:decide ((0:Int)<(k:Int))=true:=by simp;omega
  have tk2:decide (0<k)=true:=by simp;omega
  go_wp2_with fail;refine(jC _ _).mono ?_;rintro e w2 ⟨rfl,rfl⟩
  go_wp2
  go_ret;exact⟨182,rfl,aR.of_below B1.o,(λq=>by cases q),λ_=>trivial⟩
theorem tE (hx:x.kind=2) (IN:∀W,A W->Calls prog 48 #[M,ι F n] W (Rd (τ #[x.val,ι J 0]) W)) (TX:∀W,A W->Calls prog 94 #[M,ι F n] W λe w'=>∃s:ByteArray,e=aG (τ #[σ s,ι J 0])/\s.size<=4096/\Below W.heap.size W w') (LI:∀(s:ByteArray) W,s.size<=4096->Calls prog 95 #[σ s] W λe w'=>∃(p:Option Addr) (k c:Nat),e=aG (θ p k c)/\Below W.heap.size W w') (RZ:∀W,A W->Calls prog 197 #[M,ι F n,ι F 0] W (Rs (λc=>c=m) True B W)) (GV:∀W,B W->Calls prog 271 #[M,ι F n] W (Rs (λc=>c=m) True C W)) (sA:qY m A) (hA:A w):
 Calls prog 190 #[γ #[M],ι F n,ι aF 2] w (Rs (λc=>c=m) True C w):=by
 have tk:((x.kind:Int)!=2)=false:=by rw[hx];rfl
 obtain⟨h1,h3,hb,hz⟩:=zD w #[M] #[ι F n] 144 42;have hA1:=sA.1 _ _ hA hb;have hm:=sA.2 _ hA;have O:=U (IN _ hA1);have HB:=U hb;have HM:=U h1;have HN:=U h3;have SB:=U (And.intro sA hA1);have OP:=U (And.intro TX (And.intro LI (And.intro RZ GV)));clear IN sA hA hb h1 h3 hz hx hA1 TX LI RZ GV;unfold aP.val at*
 go_enter func190,ntmps190
 go_wp2_with fail;refine ak O.o ?_;rintro e w1 ⟨rfl,b1⟩;have K:=(HM.o.later b1).cell;have Kl:=(HM.o.later b1).lt;have N:=(HN.o.later b1).cell;have Nl:=(HN.o.later b1).lt;have B1:=U b1;clear b1;go_wp2_with fail;refine(iT _ _).mono ?_;rintro e w2 ⟨rfl,rfl⟩;go_wp2_with fail;obtain⟨_,h4,hb2,h5⟩:=zD w1 x.cells #[ι J 0] 114 35;have hA2:=SB.o.1.1 _ _ (SB.o.1.1 _ _ SB.o.2 B1.o) hb2;refine ak (OP.o.1 _ hA2) ?_;rintro e w3 ⟨s,rfl,hs,b3⟩;have E3:=U (h4.later b3);have Ec:=E3.o.cell;have Ef:=E3.o.free;have El:=E3.o.lt;have K3:=(((HM.o.later B1.o).later hb2).later b3).cell;have B3:=U b3;have B2:=U hb2;have HS:=U hs;clear b3 hb2 hs hA2 h4 h5 K Kl N Nl;go_wp2_with fail;have BE:Below w1.heap.size w1 (w3.setCell ⟨w1.heap.size+1,0,none⟩ (ι J 0)):=(B2.o.trans (B3.o.mono B2.o.size)).setCell (by simp) _;obtain⟨h6,h7,hb6,_⟩:=zD (w3.setCell ⟨w1.heap.size+1,0,none⟩ (ι J 0)) #[σ s] #[.func (.func 262) #[] #[G (some ⟨w1.heap.size+1,0,none⟩)],.func (.func 263) #[] #[w3.heap.size],.func (.func 264) #[] #[w.heap.size,G (some ⟨w.heap.size+1,0,none⟩)]] 9 82;have BE6:=BE.trans (hb6.mono BE.size);have z3:(w3.setCell ⟨w1.heap.size+1,0,none⟩ (ι J 0)).heap.size=w3.heap.size:=World.size_setCell _ _ _;have hE6:aN (w3.setCell ⟨w1.heap.size+1,0,none⟩ (ι J 0)) (w1.heap.size+1) 35 #[ι J 0]:=E3.o.set 0 _;have hE7:=hE6.later hb6;rw[z3]at h6 h7;have z1:=B1.o.size;have z2:=B2.o.size;have z4:=B3.o.size;have z5:=HM.o.lt;have z6:=HN.o.lt;have A6:=SB.o.1.1 _ _ (SB.o.1.1 _ _ SB.o.2 B1.o) BE6;have BW:=HB.o.trans ((B1.o.trans (BE6.mono B1.o.size)).mono HB.o.size);refine(jr (λc=>c=m) _ True [(_,A),(_,A),(_,C)] A _ h7 (by omega) (by simp) ⟨Pe hE7 (by omega) SB.o.1,XM (λW=>OP.o.2.1 s W HS.o) h6 (by omega) SB.o.1,Xo rfl (λW hA=>XK OP.o.2.2.1 OP.o.2.2.2 SB.o.1 hA) ((HM.o.later B1.o).later BE6) (by omega) ((HN.o.later B1.o).later BE6) (by omega),trivial⟩ A6).mono ?_;rintro e w5 ⟨c,rfl,h⟩;have H:=U (Rs.pre ⟨c,rfl,h⟩ (aR.of_below BW));clear h h6 h7 hb6 BE BE6 z3 hE6 hE7 A6 BW z1 z2 z4 z5 z6
 go_wp2
 go_ret;exact H.o
end
theorem aR.set1 {S:Nat->Prop} {w:World} {c i:Nat} (v:Value) (hc:S c):aR S w (w.setCell ⟨c,i,none⟩ v):=Dev.aR.set v hc
section
variable {m M n:Nat} {Q:Prop} {A B C aM aL:World->Prop} {w:World} {x:aP} {r:Rw}
theorem QU (TK:∀W,A W->Calls prog 175 #[M,ι F r.ino] W (Rs (λc=>c=m) Q B W)) (ST:∀W,B W->Calls prog 177 #[M,ι F r.ino,γ #[ι aF r.kind,ι I 1,ι F 0,ι I 0,ι I 0,ι I 0,ι I 0,ι I 0]] W (Rs (λc=>c=m) Q C W)) (EN:∀W,C W->Calls prog 179 #[M,ι F r.dir,σ r.name,ι F r.ino] W (Rs (λc=>c=m) Q aM W)) (sA:qY m A) (hA:A w):
 Calls prog 107 #[γ #[M],γ (dX r)] w (Rs (λc=>c=m) Q aM w):=by
 have hm:=sA.2 _ hA;have X:=U (And.intro TK (And.intro ST EN));obtain⟨h1,h2,h3,hb⟩:=He w #[M] (dX r) #[.func (.func 174) #[] #[w.heap.size,G (some ⟨w.heap.size+1,0,none⟩)],.func (.func 176) #[] #[w.heap.size,G (some ⟨w.heap.size+1,0,none⟩)],.func (.func 178) #[] #[w.heap.size,G (some ⟨w.heap.size+1,0,none⟩)]] 144 44 82;have hA1:=sA.1 _ _ hA hb;have SA:=U sA;have Y:=U (And.intro h1 (And.intro h2 (And.intro h3 (And.intro hb hA1))));clear TK ST EN sA hA h1 h2 h3 hb hA1;unfold dX at*
 go_enter func107,ntmps107
 go_wp2_with fail;obtain⟨h1,h2,h3,hb,hA1⟩:=Y.o;refine(jr (λc=>c=m) _ Q [(_,B),(_,C),(_,aM)] A _ h3 (by omega) (by simp) ⟨Xk (r:=r) rfl X.o.1 h1 (by omega) h2 (by omega),pZ (r:=r) rfl X.o.2.1 h1 (by omega) h2 (by omega),Uc (r:=r) rfl X.o.2.2 h1 (by omega) h2 (by omega),trivial⟩ hA1).mono ?_;rintro e w5 ⟨c,rfl,h⟩;have H:=U (Rs.pre ⟨c,rfl,h⟩ (aR.of_below hb));clear h
 go_wp2
 go_ret;exact H.o
theorem EI (LV:∀W,A W->Calls prog 188 #[γ #[M],ι F r.dir,σ r.name,ι F r.ino] W (Rs (λc=>c=m) Q B W)) (GO:∀W,B W->Calls prog 190 #[γ #[M],ι F r.ino,ι aF r.kind] W (Rs (λc=>c=m) Q C W)) (sA:qY m A) (hA:A w):
 Calls prog 109 #[γ #[M],γ (dX r)] w (Rs (λc=>c=m) Q C w):=by
 have hm:=sA.2 _ hA;have X:=U (And.intro LV GO);obtain⟨h1,h2,h3,hb⟩:=He w #[M] (dX r) #[.func (.func 187) #[] #[w.heap.size,G (some ⟨w.heap.size+1,0,none⟩)],.func (.func 189) #[] #[w.heap.size,G (some ⟨w.heap.size+1,0,none⟩)]] 144 44 82;have hA1:=sA.1 _ _ hA hb;have SA:=U sA;have Y:=U (And.intro h1 (And.intro h2 (And.intro h3 (And.intro hb hA1))));clear LV GO sA hA h1 h2 h3 hb hA1;unfold dX at*
 go_enter func109,ntmps109
 go_wp2_with fail;obtain⟨h1,h2,h3,hb,hA1⟩:=Y.o;refine(jr (λc=>c=m) _ Q [(_,B),(_,C)] A _ h3 (by omega) (by simp) ⟨Ud (r:=r) rfl X.o.1 h1 (by omega) h2 (by omega),OS (r:=r) rfl X.o.2 h1 (by omega) h2 (by omega),trivial⟩ hA1).mono ?_;rintro e w5 ⟨c,rfl,h⟩;have H:=U (Rs.pre ⟨c,rfl,h⟩ (aR.of_below hb));clear h
 go_wp2
 go_ret;exact H.o
theorem XO {S:Nat->Prop} {mb rb:Nat} (h0:r.old=0) (hR:aN w rb 44 (dX r)) (hr:¬S rb) (sA:qY m A):uq S Q w A A (.func (.func 192) #[] #[rb,mb]):=by
 refine⟨_,_,rfl,λW=>enters_of func192 (by kernel_rfl) rfl _ W,λW t hA=>?_⟩;have R:=(aW hR t hr).cell;have HA:=U (And.intro sA hA);unfold dX at R;rw[h0]at R;clear sA hA hR t h0
 go_enter func192,ntmps192
 go_wp2
 go_ret;exact⟨0,rfl,aR.of_below (aj _ _),λ_=>HA.o.1.1 _ _ HA.o.2 (aj _ _),λq=>absurd rfl q⟩
theorem XP {mb rb:Nat} (h0:r.old≠0) (LV:∀W,A W->Calls prog 188 #[γ #[M],ι F r.bV,σ r.name2,ι F r.old] W (Rs (λc=>c=m) Q B W)) (GO:∀W,B W->Calls prog 190 #[γ #[M],ι F r.old,ι aF r.kind] W (Rs (λc=>c=m) Q C W)) (hM:aN w mb 144 #[M]) (hmb:mb≠m) (hR:aN w rb 44 (dX r)) (hr:rb≠m) (sA:qY m A):uq (λc=>c=m) Q w A C (.func (.func 192) #[] #[rb,mb]):=by
 refine⟨_,_,rfl,λW=>enters_of func192 (by kernel_rfl) rfl _ W,λW t hA=>?_⟩;have hR2:=aW hR t hr;have hM2:=aW hM t hmb;have R:=hR2.cell;have Rl:=hR2.lt;have Kl:=hM2.lt;have X:=U (And.intro LV (And.intro GO (And.intro (sA.2 _ hA) (And.intro sA (And.intro hA (And.intro hR2 hM2))))));have tk:((r.old:Int)==0)=false:=by simp;omega
 unfold dX at R;clear sA hA hR hM t h0 LV GO hR2 hM2
 go_enter func192,ntmps192
 go_wp2_with fail;obtain⟨LV,GO,hm,sA,hA,hR2,hM2⟩:=X.o;have hb:=(aj W.heap.size W).alloc (ah _) (aH #[.func (.func 193) #[] #[mb,rb],.func (.func 194) #[] #[mb,rb]] 82);refine(jr (λc=>c=m) _ Q [(_,B),(_,C)] A _ (aN.new W _ _) (by omega) (by simp) ⟨Oe (r:=r) rfl LV (hM2.alloc _) hmb (hR2.alloc _) hr,qS (r:=r) rfl GO (hM2.alloc _) hmb (hR2.alloc _) hr,trivial⟩ (sA.1 _ _ hA hb)).mono ?_;rintro e w5 ⟨c,rfl,h⟩;have H:=U (Rs.pre ⟨c,rfl,h⟩ (aR.of_below hb));clear h
 go_wp2
 go_ret;exact H.o
theorem KA (h0:r.old=r.ino) (sA:qY m A) (hA:A w):Calls prog 110 #[γ #[M],γ (dX r)] w (Rs (λc=>c=m) Q A w):=by
 obtain⟨h1,h2,hb,_⟩:=zD w #[M] (dX r) 144 44;have HA:=U (And.intro (sA.1 _ _ hA hb) hb);clear h1 h2 hb sA hA;unfold dX at*;rw[h0]at*;clear h0
 go_enter func110,ntmps110
 go_wp2
 go_ret;exact⟨0,rfl,aR.of_below HA.o.2,λ_=>HA.o.1,λq=>absurd rfl q⟩
theorem KC (LV:∀W,A W->Calls prog 188 #[γ #[M],ι F r.dir,σ r.name,ι F r.ino] W (Rs (λc=>c=m) Q B W)) (EN:∀W,B W->Calls prog 179 #[M,ι F r.bV,σ r.name2,ι F r.ino] W (Rs (λc=>c=m) Q aM W)) (sB:qY m B) (sA:qY m A) (hA:A w) (h0:r.old≠r.ino) (h00:r.old=0):
 Calls prog 110 #[γ #[M],γ (dX r)] w (Rs (λc=>c=m) Q aM w):=by
 have hm:=sA.2 _ hA;have X:=U (And.intro LV (And.intro EN sB));obtain⟨h1,h2,h3,hb⟩:=He w #[M] (dX r) #[.func (.func 191) #[] #[w.heap.size,G (some ⟨w.heap.size+1,0,none⟩)],.func (.func 192) #[] #[G (some ⟨w.heap.size+1,0,none⟩),w.heap.size],.func (.func 195) #[] #[w.heap.size,G (some ⟨w.heap.size+1,0,none⟩)]] 144 44 82;have hA1:=sA.1 _ _ hA hb;have SA:=U sA;have Y:=U (And.intro h1 (And.intro h2 (And.intro h3 (And.intro hb hA1))));clear LV EN sB sA hA h1 h2 h3 hb hA1;unfold dX at*;have tk:((r.old:Int)==(r.ino:Int))=false:=by simp;omega
 have HO:=U h00;clear h0 h00
 go_enter func110,ntmps110
 go_wp2_with fail;obtain⟨h1,h2,h3,hb,hA1⟩:=Y.o;refine(jr (λc=>c=m) _ Q [(_,B),(_,B),(_,aM)] A _ h3 (by omega) (by simp) ⟨Bc (r:=r) rfl X.o.1 h1 (by omega) h2 (by omega),XO (m:=m) HO.o h2 (by omega) X.o.2.2,Bb (r:=r) rfl X.o.2.1 h1 (by omega) h2 (by omega),trivial⟩ hA1).mono ?_;rintro e w5 ⟨c,rfl,h⟩;have H:=U (Rs.pre ⟨c,rfl,h⟩ (aR.of_below hb));clear h
 go_wp2
 go_ret;exact H.o
theorem KE (LV:∀W,A W->Calls prog 188 #[γ #[M],ι F r.dir,σ r.name,ι F r.ino] W (Rs (λc=>c=m) Q B W)) (LO:∀W,B W->Calls prog 188 #[γ #[M],ι F r.bV,σ r.name2,ι F r.old] W (Rs (λc=>c=m) Q C W)) (GO:∀W,C W->Calls prog 190 #[γ #[M],ι F r.old,ι aF r.kind] W (Rs (λc=>c=m) Q aM W)) (EN:∀W,aM W->Calls prog 179 #[M,ι F r.bV,σ r.name2,ι F r.ino] W (Rs (λc=>c=m) Q aL W)) (sB:qY m B) (sA:qY m A) (hA:A w) (h0:r.old≠r.ino) (h00:r.old≠0):
 Calls prog 110 #[γ #[M],γ (dX r)] w (Rs (λc=>c=m) Q aL w):=by
 have hm:=sA.2 _ hA;have X:=U (And.intro LV (And.intro LO (And.intro GO (And.intro EN sB))));obtain⟨h1,h2,h3,hb⟩:=He w #[M] (dX r) #[.func (.func 191) #[] #[w.heap.size,G (some ⟨w.heap.size+1,0,none⟩)],.func (.func 192) #[] #[G (some ⟨w.heap.size+1,0,none⟩),w.heap.size],.func (.func 195) #[] #[w.heap.size,G (some ⟨w.heap.size+1,0,none⟩)]] 144 44 82;have hA1:=sA.1 _ _ hA hb;have SA:=U sA;have Y:=U (And.intro h1 (And.intro h2 (And.intro h3 (And.intro hb hA1))));clear LV LO GO EN sB sA hA h1 h2 h3 hb hA1;unfold dX at*;have tk:((r.old:Int)==(r.ino:Int))=false:=by simp;omega
 have HO:=U h00;clear h0 h00
 go_enter func110,ntmps110
 go_wp2_with fail;obtain⟨h1,h2,h3,hb,hA1⟩:=Y.o;refine(jr (λc=>c=m) _ Q [(_,B),(_,aM),(_,aL)] A _ h3 (by omega) (by simp) ⟨Bc (r:=r) rfl X.o.1 h1 (by omega) h2 (by omega),XP (r:=r) HO.o X.o.2.1 X.o.2.2.1 h1 (by omega) h2 (by omega) X.o.2.2.2.2,Bb (r:=r) rfl X.o.2.2.2.1 h1 (by omega) h2 (by omega),trivial⟩ hA1).mono ?_;rintro e w5 ⟨c,rfl,h⟩;have H:=U (Rs.pre ⟨c,rfl,h⟩ (aR.of_below hb));clear h
 go_wp2
 go_ret;exact H.o
theorem QV (p q:Nat) (hp:r.page=p) (zB:p<36) (hq:q=p*64+64) (hx:x.kind=1) (IN:∀W,A W->Calls prog 48 #[M,ι F r.ino] W (Rd (τ #[x.val,ι J 0]) W)) (R0:∀v:Nat,v=max x.size q->∀W,A W->Calls prog 197 #[M,ι F r.ino,ι F v] W (Rs (λc=>c=m) Q B W)) (SP:∀W,B W->Calls prog 201 #[M,ι F r.ino,ι J r.page,σ r.data] W (Rs (λc=>c=m) Q C W)) (R1:∀W,C W->Calls prog 197 #[M,ι F r.ino,ι F r.size] W (Rs (λc=>c=m) Q aM W)) (sA:qY m A) (hA:A w):
 Calls prog 112 #[γ #[M],γ (dX r)] w (Rs (λc=>c=m) Q aM w):=by
 have hm:=sA.2 _ hA;have X:=U (And.intro R0 (And.intro SP R1));obtain⟨h1,h2,hb,_⟩:=zD w #[M] (dX r) 144 44;have hA1:=sA.1 _ _ hA hb;have IR:=U (QS (n:=r.ino) hx IN sA hA1);have SA:=U sA;have hK:=h1.cell;have hR:=h2.cell;have Y:=U (And.intro h1 (And.intro h2 (And.intro hb hA1)));clear R0 SP R1 sA hA h1 h2 hb hA1 IN hK hR;unfold dX aP.val at*;have HP:=U (And.intro hp (And.intro zB hq));clear hp zB hq hx
 go_enter func112,ntmps112
 go_wp2_with fail;refine ak IR.o ?_;rintro e w1 ⟨rfl,b1⟩;obtain⟨h1,h2,hb0,hA1⟩:=Y.o;have h1:=h1.later b1;have h2:=h2.later b1;have hb1:=hb0.trans (b1.mono hb0.size);have hA1:=SA.o.1 _ _ hA1 b1;have K:=h1.cell;have R:=h2.cell;have Kl:=h1.lt;have Rl:=h2.lt;have Y2:=U (And.intro h1 (And.intro h2 (And.intro hb1 hA1)));clear h1 h2 hb0 hA1 b1 hb1;unfold dX at R;go_wp2_with fail;obtain⟨h1,h2,hb1,hA1⟩:=Y2.o;obtain⟨g1,g2,g3,gb⟩:=He w1 x.cells #[ι J 0] #[.func (.func 198) #[] #[G (some ⟨w1.heap.size+1,0,none⟩)],.func (.func 199) #[] #[w.heap.size,G (some ⟨w.heap.size+1,0,none⟩),w1.heap.size],.func (.func 200) #[] #[w.heap.size,G (some ⟨w.heap.size+1,0,none⟩)],.func (.func 202) #[] #[w.heap.size,G (some ⟨w.heap.size+1,0,none⟩)]] 114 35 82;have hb:=hb1.trans (gb.mono hb1.size);have k1:=h1.later gb;have k2:=h2.later gb;have hA2:=SA.o.1 _ _ hA1 gb;have z1:=h1.lt;have z2:=h2.lt;refine(jr (λc=>c=m) _ Q [(_,A),(_,B),(_,C),(_,aM)] A _ g3 (by omega) (by simp) ⟨Pc g2 (by omega) SA.o,Ue (r:=r) p q HP.o.1 HP.o.2.1 HP.o.2.2 rfl X.o.1 k1 (by omega) k2 (by omega) g1 (by omega),Xm (r:=r) rfl X.o.2.1 k1 (by omega) k2 (by omega),Xn (r:=r) rfl X.o.2.2 k1 (by omega) k2 (by omega),trivial⟩ hA2).mono ?_;rintro e w5 ⟨c,rfl,h⟩;have H:=U (Rs.pre ⟨c,rfl,h⟩ (aR.of_below hb));clear h
 go_wp2
 go_ret;exact H.o
theorem QW (hx:x.kind=1) (hl:x.links=0) (IN:∀W,A W->Calls prog 48 #[M,ι F r.ino] W (Rd (τ #[x.val,ι J 0]) W)) (RZ:∀W,A W->Calls prog 197 #[M,ι F r.ino,ι F 0] W (Rs (λc=>c=m) Q B W)) (GV:∀W,B W->Calls prog 271 #[M,ι F r.ino] W (Rs (λc=>c=m) Q C W)) (sA:qY m A) (hA:A w):
 Calls prog 113 #[γ #[M],γ (dX r)] w (Rs (λc=>c=m) Q C w):=by
 have hm:=sA.2 _ hA;have X:=U (And.intro RZ GV);obtain⟨h1,h2,hb,_⟩:=zD w #[M] (dX r) 144 44;have hA1:=sA.1 _ _ hA hb;have IR:=U (IN _ hA1);have SA:=U sA;have hK:=h1.cell;have hR:=h2.cell;have Y:=U (And.intro h1 (And.intro h2 (And.intro hb hA1)));clear RZ GV sA hA h1 h2 hb hA1 IN hK hR;unfold dX aP.val at*;have HX:=U (And.intro hx hl);clear hx hl
 go_enter func113,ntmps113
 go_wp2_with fail;refine ak IR.o ?_;rintro e w1 ⟨rfl,b1⟩;obtain⟨h1,h2,hb0,hA1⟩:=Y.o;have h1:=h1.later b1;have h2:=h2.later b1;have hb1:=hb0.trans (b1.mono hb0.size);have hA1:=SA.o.1 _ _ hA1 b1;have K:=h1.cell;have R:=h2.cell;have Kl:=h1.lt;have Rl:=h2.lt;have Y2:=U (And.intro h1 (And.intro h2 (And.intro hb1 hA1)));clear h1 h2 hb0 hA1 b1 hb1;unfold dX at R;go_wp2_with fail;obtain⟨h1,h2,hb1,hA1⟩:=Y2.o;obtain⟨g1,g2,g3,gb⟩:=He w1 x.cells #[ι J 0] #[.func (.func 203) #[] #[G (some ⟨w1.heap.size+1,0,none⟩)],.func (.func 204) #[] #[w1.heap.size],.func (.func 205) #[] #[w1.heap.size],.func (.func 206) #[] #[w.heap.size,G (some ⟨w.heap.size+1,0,none⟩)]] 114 35 82;have hb:=hb1.trans (gb.mono hb1.size);have k1:=h1.later gb;have k2:=h2.later gb;have hA2:=SA.o.1 _ _ hA1 gb;have z1:=h1.lt;have z2:=h2.lt;refine(jr (λc=>c=m) _ Q [(_,A),(_,A),(_,A),(_,C)] A _ g3 (by omega) (by simp) ⟨Pd g2 (by omega) SA.o,Og (λW t _=>aW g1 t (by omega)) (by rw[HX.o.1];decide) SA.o,Oh (λW t _=>aW g1 t (by omega)) HX.o.1 HX.o.2 SA.o,qT (r:=r) rfl (λW hA=>XK X.o.1 X.o.2 SA.o hA) k1 (by omega) k2 (by omega),trivial⟩ hA2).mono ?_;rintro e w5 ⟨c,rfl,h⟩;have H:=U (Rs.pre ⟨c,rfl,h⟩ (aR.of_below hb));clear h
 go_wp2
 go_ret;exact H.o
theorem tG {w1 w2:World} {mb rb:Nat} (hl:x.links<200) (op:∀W,Below w1.heap.size w1 W->Calls prog 177 #[M,ι F r.ino,({x with links:=x.links+1}:aP).val] W (Rs (λc=>c=m) Q B W)) (hm:m<w1.heap.size) (hM:aN w2 mb 144 #[M]) (hmb:mb≠m/\mb≠w1.heap.size) (hR:aN w2 rb 44 (dX r)) (hr:rb≠m/\rb≠w1.heap.size):uq (λc=>c=m\/c=w1.heap.size) Q w2 (λW=>Below w1.heap.size w1 W/\aN W w1.heap.size 114 x.cells) B (.func (.func 185) #[] #[w1.heap.size,mb,rb]):=by
 refine⟨_,_,rfl,λW=>enters_of func185 (by kernel_rfl) rfl _ W,λW t hA=>?_⟩;have hR2:=aW hR t (by omega);have hM2:=aW hM t (by omega);have R:=hR2.cell;have Rl:=hR2.lt;have K:=hM2.cell;have Kl:=hM2.lt;have X:=hA.2.cell;have aL:=hA.2.free;have Xl:=hA.2.lt;have hB:=hA.1.setCell (p:=⟨w1.heap.size,1,none⟩) (ah _) (ι I (x.links+1:Nat));have O:=U (op _ hB);have tw:IntKind.u16.wrap ((x.links:Int)+1)=(x.links+1:Nat):=by rw[show(x.links:Int)+1=((x.links+1:Nat):Int)by omega];exact IntWalk.u16_in _ (by omega)
 have NE:=U (And.intro hmb hr);have n1:¬mb=w1.heap.size:=hmb.2;have n2:¬rb=w1.heap.size:=hr.2;clear hB op hA hR2 hM2 hR hM t hmb hr;unfold dX at R;unfold aP.cells at X;unfold aP.val at O
 go_enter func185,ntmps185
 go_wp2_with fail;refine ak O.o ?_;rintro e w5 ⟨c,rfl,t,h⟩;have H:=U (Rs.pre (Rs.wide ⟨c,rfl,t,h⟩ (λ_ q=>.inl q)) (aR.set1 (S:=λc=>c=m\/c=w1.heap.size) (w:=W) (c:=w1.heap.size) (i:=1) (ι I (x.links+1:Nat)) (.inr rfl)));clear h t
 go_wp2
 go_ret;exact H.o
theorem tI (hx:x.kind=1) (hl:x.links<200) (IN:∀W,A W->Calls prog 48 #[M,ι F r.ino] W (Rd (τ #[x.val,ι J 0]) W)) (SI:∀W,A W->Calls prog 177 #[M,ι F r.ino,({x with links:=x.links+1}:aP).val] W (Rs (λc=>c=m) Q B W)) (EN:∀W,B W->Calls prog 179 #[M,ι F r.dir,σ r.name,ι F r.ino] W (Rs (λc=>c=m) Q C W)) (sA:qY m A) (hA:A w):
 Calls prog 108 #[γ #[M],γ (dX r)] w (Rs (λc=>c=m) Q C w):=by
 have hm:=sA.2 _ hA;have X:=U (And.intro SI EN);obtain⟨h1,h2,hb,_⟩:=zD w #[M] (dX r) 144 44;have hA1:=sA.1 _ _ hA hb;have IR:=U (IN _ hA1);have SA:=U sA;have hK:=h1.cell;have hR:=h2.cell;have Y:=U (And.intro h1 (And.intro h2 (And.intro hb hA1)));clear SI EN sA hA h1 h2 hb hA1 IN hK hR;unfold dX aP.val at*;have HX:=U (And.intro hx hl);clear hx hl
 go_enter func108,ntmps108
 go_wp2_with fail;refine ak IR.o ?_;rintro e w1 ⟨rfl,b1⟩;obtain⟨h1,h2,hb0,hA1⟩:=Y.o;have h1:=h1.later b1;have h2:=h2.later b1;have hb1:=hb0.trans (b1.mono hb0.size);have hA1:=SA.o.1 _ _ hA1 b1;have K:=h1.cell;have R:=h2.cell;have Kl:=h1.lt;have Rl:=h2.lt;have Y2:=U (And.intro h1 (And.intro h2 (And.intro hb1 hA1)));clear h1 h2 hb0 hA1 b1 hb1;unfold dX at R;go_wp2_with fail;obtain⟨h1,h2,hb1,hA1⟩:=Y2.o;obtain⟨g1,g2,g3,gb⟩:=He w1 x.cells #[ι J 0] #[.func (.func 180) #[] #[G (some ⟨w1.heap.size+1,0,none⟩)],.func (.func 181) #[] #[w1.heap.size],.func (.func 183) #[] #[w1.heap.size],.func (.func 184) #[] #[w1.heap.size],.func (.func 185) #[] #[w1.heap.size,w.heap.size,G (some ⟨w.heap.size+1,0,none⟩)],.func (.func 186) #[] #[w.heap.size,G (some ⟨w.heap.size+1,0,none⟩)]] 114 35 82;have hb:=hb1.trans (gb.mono hb1.size);have k1:=h1.later gb;have k2:=h2.later gb;have hA2:=SA.o.1 _ _ hA1 gb;have z1:=h1.lt;have z2:=h2.lt;have SL:qY m (λW=>Below w1.heap.size w1 W/\aN W w1.heap.size 114 x.cells):=⟨λW W' h hb=>⟨h.1.trans (hb.mono h.1.size),h.2.later hb⟩,λW h=>aA (SA.o.2 _ hA1) h.1.size⟩;refine(jr (λc=>c=m\/c=w1.heap.size) _ Q [(_,(λW=>Below w1.heap.size w1 W/\aN W w1.heap.size 114 x.cells)),(_,(λW=>Below w1.heap.size w1 W/\aN W w1.heap.size 114 x.cells)),(_,(λW=>Below w1.heap.size w1 W/\aN W w1.heap.size 114 x.cells)),(_,(λW=>Below w1.heap.size w1 W/\aN W w1.heap.size 114 x.cells)),(_,B),(_,C)] (λW=>Below w1.heap.size w1 W/\aN W w1.heap.size 114 x.cells) _ g3 (by omega) (by simp) ⟨Pa g2 (by omega) SL,pz (λW _ h=>h.2) (by rw[HX.o.1];decide) SL,vO (λW _ h=>h.2) HX.o.1 SL,Uf (λW _ h=>h.2) HX.o.2 SL,tG (r:=r) HX.o.2 (λW hW=>X.o.1 W (SA.o.1 _ _ hA1 hW)) (SA.o.2 _ hA1) k1 (by omega) k2 (by omega),Od (r:=r) (.inl rfl) X.o.2 k1 (by omega) k2 (by omega),trivial⟩ ⟨gb,g1⟩).mono ?_;rintro e w5 ⟨c,rfl,h⟩;have H:=U (Rs.below (Rs.pre ⟨c,rfl,h⟩ (aR.of_below gb)) hb1 (λc q=>q.imp id (λq=>by have:=hb1.size;omega)));clear h
 go_wp2
 go_ret;exact H.o
theorem tM (hx:x.kind=1) (IN:∀W,A W->Calls prog 48 #[M,ι F r.ino] W (Rd (τ #[x.val,ι J 0]) W)) (RZ:∀W,A W->Calls prog 197 #[M,ι F r.ino,ι F r.size] W (Rs (λc=>c=m) Q B W)) (sA:qY m A) (hA:A w):
 Calls prog 111 #[γ #[M],γ (dX r)] w (Rs (λc=>c=m) Q B w):=by
 obtain⟨h1,h2,hb,_⟩:=zD w #[M] (dX r) 144 44;have hA1:=sA.1 _ _ hA hb;have IR:=U (QS (n:=r.ino) hx IN sA hA1);have SA:=U (And.intro sA RZ);have Y:=U (And.intro h1 (And.intro h2 (And.intro hb hA1)));clear RZ sA hA h1 h2 hb hA1 IN hx;unfold dX aP.val at*
 go_enter func111,ntmps111
 go_wp2_with fail;refine ak IR.o ?_;rintro e w1 ⟨rfl,b1⟩;obtain⟨h1,h2,hb0,hA1⟩:=Y.o;have K:=(h1.later b1).cell;have R:=(h2.later b1).cell;have Kl:=(h1.later b1).lt;have Rl:=(h2.later b1).lt;have gb:=(aj w1.heap.size w1).alloc (ah _) (aH x.cells 114);have HB:=U ((hb0.trans (b1.mono hb0.size)).trans (gb.mono (hb0.trans (b1.mono hb0.size)).size));have O:=U (SA.o.2 _ (SA.o.1.1 _ _ (SA.o.1.1 _ _ hA1 b1) gb));clear h1 h2 hb0 hA1 b1 gb;unfold dX at R;unfold aP.cells at*;go_wp2_with fail;refine ak O.o ?_;rintro e w5 ⟨c,rfl,h⟩;have H:=U (Rs.pre ⟨c,rfl,h⟩ (aR.of_below HB.o));clear h
 go_wp2
 go_ret;exact H.o
end
