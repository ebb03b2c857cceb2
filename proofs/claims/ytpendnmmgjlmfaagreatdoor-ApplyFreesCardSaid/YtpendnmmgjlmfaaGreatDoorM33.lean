/- Lemmas. -/
import Derived.Test.YtpendnmmgjlmfaaGreatDoorM32
set_option linter.unusedVariables false
set_option linter.unusedSimpArgs false
namespace Go.Proofs.YtpendnmmgjlmfaaGreatDoor
open Go.RowKit Go.Shelf Go.Maps
open Go.Proofs.Tryz
open IntKind renaming u16→I,i64→J,u32→F,u8→aF
open Value renaming pointer→G,int->ι,string->σ
open Ending renaming returned→aG
open Obj renaming cells→aH
set_option maxRecDepth 100000
set_option maxHeartbeats 4000000
namespace lC
open Oct Dev mU Tx Geo qX Bm
def vX (s:ByteArray) (tt:Nat):ByteArray:=s.extract 0 tt++zS.extract tt 64
theorem Vf {s:ByteArray} {tt:Nat} (h:s.size=64) (ht:tt<=64):(vX s tt).size=64:=by
 have hz:zS.size=64:=by unfold zS;rw[aV,List.length_replicate]
 unfold vX;simp only[ByteArray.size_append,ByteArray.size_extract,h,hz];omega
section
variable {E:Im} {D D':aZ} {Z:Nat->Prop} {Q:Prop}
theorem DP (b:Nat) (s:ByteArray) (w:World) (hs:Small E) (h:IS w E D Z) (h1:1<=b) (hb:b<=E.bl) (h64:s.size=64) (hz:Z (dq E b)) (hQ:fV E Z->Q):
 Calls prog 268 #[E.M,ι I b,σ s] w λe w'=>∃c:Int,e=aG (ι J c)/\((c=0/\Wr E (upd D (dq E b) s) Z w w')\/(c=4/\Fu E Q w w')):=
 (YU b s w hs h h1 hb h64 hz hQ).mono λe w' h=>by
  rcases h with⟨rfl,g⟩|⟨rfl,g⟩
  ·exact⟨0,rfl,.inl ⟨rfl,g⟩⟩
  ·exact⟨4,rfl,.inr ⟨rfl,g⟩⟩
theorem Ca (n p b:Nat) (x y:aP) (s:ByteArray) (w:World) (hs:Small E) (h:IS w E D Z) (h1:1<=n) (hn:n<=E.i) (hx:dZ E D n x) (ho:x.Ok) (hk:x.kind≠0) (hp:p*64<x.size) (h64:s.size=64) (hy:y.Ok) (hb1:1<=b) (hb2:b<=E.bl)
 (lL:Z (tq E n)) (hzb:Z (dq E b)) (hQ:fV E Z->Q) (HM:∀W,IS W E D Z->Calls prog 267 #[E.M,x.val,ι J p] W (jA E D' Z Q y b W)):
 Calls prog 201 #[E.M,ι F n,ι J p,σ s] w (Out (ι J 0) (ι J 4) (Wr E (upd (dI E D' n y) (dq E b) (vX s (min 64 (x.size-p*64)))) Z w) (Fu E Q w)):=by
 have hsz:=Ok.tJ ho;have TH:=jw n x w hs h h1 hn hx ho;rw[if_neg hk]at TH;have TH:=U TH;have HM:=U HM;have SI:=U (λW (h:IS W E D' Z)=>jg n y W hs h h1 hn hy lL hQ);have PU:=U (λW (h:IS W E (dI E D' n y) Z)=>DP b (vX s (min 64 (x.size-p*64))) W hs h hb1 hb2 (Vf h64 (by omega)) hzb hQ);have H:=U h;have zC:=sD h;have hzs:zS.size=64:=by unfold zS;rw[aV,List.length_replicate]
 clear h hx ho hk lL hzb hQ hy
 generalize upd (dI E D' n y) (dq E b) (vX s (min 64 (x.size-p*64)))=D3 at*
 unfold vX at PU;have ZE:Hid (∀W,Calls prog 65 #[] W λe w'=>e=aG (σ zS)/\Below W.heap.size W w'):=U (λW=>rz W)
 generalize zS=zs at*
 generalize dI E D' n y=D2 at*
 unfold jA at HM;obtain⟨kind,links,size,d0,d1,d2,d3,ind⟩:=x;obtain⟨yk,yl,ys,y0,y1,y2,y3,yi⟩:=y;simp only at hp hsz PU;obtain⟨tt,hto⟩:∃tt,min 64 (size-p*64)=tt:=⟨_,rfl⟩;rw[hto]at PU;have ht1:tt<=64:=by omega
 unfold aP.val at*;have q1:¬(p:Int)<0:=by omega
 have q2:¬(36:Int)<=p:=by omega
 have q3:¬36<=p:=by omega
 have q4:((s.size:Int)!=64)=false:=by simp;omega
 have q5:¬(size:Int)<=(p:Int)*64:=by omega
 go_enter func201,ntmps201
 go_wp2_with fail;refine TH.o.mono ?_;rintro e w1 ⟨rfl,b1⟩;have hX:=aN.new w1 114 #[ι aF kind,ι I links,ι F size,ι I d0,ι I d1,ι I d2,ι I d3,ι I ind];have hB1:=b1.alloc b1.size (aH #[ι aF kind,ι I links,ι F size,ι I d0,ι I d1,ι I d2,ι I d3,ι I ind] 114);have H1:=U (H.o.later hB1);have jv:=U hX;have B1:=U hB1;have hw1:=b1.size;have X:=hX.cell;have Xl:=hX.lt;clear hX hB1 b1;go_wp2_with fail;refine(HM.o _ H1.o).mono ?_;rintro e w2 (⟨rfl,GW⟩|⟨⟨v,u,rfl,⟨zk,zl,zz,z0,z1,z2,z3,zi⟩,rfl⟩,GF⟩)
 ·have fU:=U (show aN w2 w1.heap.size 114 _ from(GW.2.block _ jv.o.lt (by omega)).trans jv.o)
  have HW2:=U (GW.pre (w0:=w) B1.o);have hY:=aN.new w2 114 #[ι aF yk,ι I yl,ι F ys,ι I y0,ι I y1,ι I y2,ι I y3,ι I yi];have hB2:=(aj w2.heap.size w2).alloc (ah _) (aH #[ι aF yk,ι I yl,ι F ys,ι I y0,ι I y1,ι I y2,ι I y3,ι I yi] 114);have HW3:=U (HW2.o.post hB2);have TO:=U (fU.o.later hB2);clear GW X Xl hB2;have Y:=hY.cell;have Yl:=hY.lt;clear hY;go_wp2_with fail;refine(SI.o _ HW3.o.1).mono ?_;rintro e w4 (⟨rfl,GW⟩|⟨rfl,GW⟩)
  ·have hX:=(show aN w4 w1.heap.size 114 _ from(GW.2.block _ TO.o.lt (by omega)).trans TO.o)
   have sw:=U (GW.then_ HW3.o);clear GW Y Yl;have X:=hX.cell;have Xl:=hX.lt;clear hX;go_wp2_with fail;have mt:min (64:Int) ((size:Int)-(p:Int)*64)=((tt:Nat):Int):=by omega
   rw[mt];have r0:(0:Int)<=tt:=by omega
   have r1:(tt:Int)<=64:=by omega
   have r2:(tt:Int)<=s.size:=by omega
   have r3:tt<=s.size:=by omega
   have r4:(tt:Int)<=zs.size:=by omega
   have r5:tt<=zs.size:=by omega
   have r6:(s.extract 0 tt).size+(zs.extract tt zs.size).size<=100000:=by simp;omega
   have r7:(s.extract 0 tt).size+(zs.extract tt 64).size<=100000:=by simp;omega
   have HD4:=U (sw.o.post (aj w4.heap.size w4).drew);clear X Xl mt
   go_region_law (first|(go_simp;go_at_call 65;refine(ZE.o _).mono ?_;rintro e w5 ⟨rfl,b5⟩;have Iz:=U (HD4.o.post b5))|(go_simp;go_at_call 268;refine(PU.o _ Iz.o.1).mono ?_;rintro e w6 ⟨c,rfl,hc⟩))
   all_goals
    have HC:=U hc;clear hc
    go_wp2
    go_ret
    rcases HC.o with⟨rfl,g⟩|⟨rfl,g⟩
    ·exact .inl ⟨rfl,g.then_ Iz.o⟩
    ·exact .inr ⟨rfl,g.then_ Iz.o⟩
  ·have sw:=U (GW.then_ HW3.o)
   clear GW Y Yl
   go_wp2
   go_ret;exact .inr ⟨rfl,sw.o⟩
 ·have HW2:=U (GF.pre (w0:=w) B1.o)
  have HW3:=U (HW2.o.post ((aj w2.heap.size w2).alloc (ah _) (aH #[ι aF zk,ι I zl,ι F zz,ι I z0,ι I z1,ι I z2,ι I z3,ι I zi] 114)));clear GF X Xl
  go_wp2
  go_ret;exact .inr ⟨rfl,HW3.o⟩
end
def oK (E:Im) (D:aZ) (b fm:Nat):aZ:=if b=0 then D else upd D (dq E b) (iC (D (dq E b)) fm (zS.extract fm 64))
section
variable {E:Im} {D:aZ} {Z:Nat->Prop} {Q:Prop}
theorem Vg (i at_:Nat) (t:ByteArray) (w:World) (h:IS w E D Z) (hj:E.j<=256) (hi:i<E.hard.length) (hs:at_+t.size<=64) (hz:Z i) (hQ:fV E Z->Q):
 Calls prog 258 #[E.T.p,ι J i,ι J at_,σ t] w λe w'=>∃c:Int,e=aG (ι J c)/\((c=0/\Wr E (upd D i (iC (D i) at_ t)) Z w w')\/(c=4/\Fu E Q w w')):=
 (Kw i at_ t w h hj hi hs hz hQ).mono λe w' h=>by
  rcases h with⟨rfl,g⟩|⟨rfl,g⟩
  ·exact⟨0,rfl,.inl ⟨rfl,g⟩⟩
  ·exact⟨4,rfl,.inr ⟨rfl,g⟩⟩
theorem Cb {x:aP} {vs:List Nat} {bl:Nat} (hi:mX bl x) (hv:∀v∈vs,v<=bl) (p:Nat):aT x vs p<=bl:=by
 unfold aT
 have hm:∀u∈nE x vs,u<=bl:=λu hu=>by
  obtain⟨g0,g1,g2,g3,g4⟩:=hi;simp only[nE,List.mem_cons]at hu
  rcases hu with rfl|rfl|rfl|rfl|hu
  ·exact g0
  ·exact g1
  ·exact g2
  ·exact g3
  ·exact hv u hu
 rw[List.getD_eq_getElem?_getD];cases he:(nE x vs)[p]?with
 |none=>simp
 |some u=>exact hm u (List.mem_of_getElem? he)
theorem Zj (p fm:Nat) (x:aP) (vs:List Nat) (w:World) (hs:Small E) (h:IS w E D Z) (hi:mX E.bl x) (hv:dS E D x.ind vs) (hp:p<36) (hf:fm<=64) (hz:aT x vs p≠0->Z (dq E (aT x vs p))) (hQ:fV E Z->Q):
 Calls prog 266 #[E.M,x.val,ι J p,ι J fm] w λe w'=>∃c:Int,e=aG (ι J c)/\((c=0/\Wr E (oK E D (aT x vs p) fm) Z w w')\/(c=4/\Fu E Q w w')):=by
 have hj:=hs.hj;have hbl:=hs.hb;have hl4:=h.Uq;have hlen:=h.len;have hpb:=Cb hi hv.lt p;have GE:=U (λW (h:IS W E D Z)=>rZ x vs p W hs h hi hv hp);have H:=U h;clear h hi hv
 generalize aT x vs p=b at*
 obtain⟨kind,links,size,d0,d1,d2,d3,ind⟩:=x;have ZE:Hid (∀W,Calls prog 65 #[] W λe w'=>e=aG (σ zS)/\Below W.heap.size W w'):=U (λW=>rz W);have hzs:zS.size=64:=by unfold zS;rw[aV,List.length_replicate]
 unfold oK;have HB0:=U ((aj _ w).alloc (ah _) (aH #[ι aF kind,ι I links,ι F size,ι I d0,ι I d1,ι I d2,ι I d3,ι I ind] 114));have hX:=aN.new w 114 #[ι aF kind,ι I links,ι F size,ι I d0,ι I d1,ι I d2,ι I d3,ι I ind];have H1:=U (H.o.later HB0.o);have hM:=H1.o.img;have X:=hX.cell;have Xl:=hX.lt;have M:=hM.cell;have Ml:=hM.lt;clear hX hM;unfold dw aP.val at*
 by_cases hb0:b=0
 ·subst hb0
  generalize zS=zs at*
  go_enter func266,ntmps266
  go_wp2_with fail
  go_region_held3 (λW=>W.cell? E.M=some E.T.p/\W.cell? ⟨E.M,1,none⟩=some (ι J E.i)/\W.cell? ⟨E.M,2,none⟩=some (ι J E.bl)/\W.cell? ⟨E.M,3,none⟩=some (ι J E.j)/\W.cell? w.heap.size=some (ι aF kind)/\W.cell? ⟨w.heap.size,1,none⟩=some (ι I links)/\W.cell? ⟨w.heap.size,2,none⟩=some (ι F size)/\W.cell? ⟨w.heap.size,3,none⟩=some (ι I d0)/\W.cell? ⟨w.heap.size,4,none⟩=some (ι I d1)/\W.cell? ⟨w.heap.size,5,none⟩=some (ι I d2)/\W.cell? ⟨w.heap.size,6,none⟩=some (ι I d3)/\W.cell? ⟨w.heap.size,7,none⟩=some (ι I ind)/\gF (w.alloc (aH #[ι aF kind,ι I links,ι F size,ι I d0,ι I d1,ι I d2,ι I d3,ι I ind] 114)) W)
   (first|exact oJ Ml Xl (by assumption) (by assumption)|exact⟨(M 0),(M 1),(M 2),(M 3),(X 0),(X 1),(X 2),(X 3),(X 4),(X 5),(X 6),(X 7),(aj _ _).drew⟩|exact⟨(M 0),(M 1),(M 2),(M 3),(X 0),(X 1),(X 2),(X 3),(X 4),(X 5),(X 6),(X 7),aj _ _⟩)
   (first|(go_at_call 235;refine(GE.o _ (H1.o.later (dx (by assumption)))).mono ?_;rintro e w9 ⟨rfl,b9⟩))
  rename_i hS
  have B9:=U (HB0.o.trans ((dx hS).mono HB0.o.size));clear hS M Ml X Xl
  go_wp2
  go_ret;exact⟨0,rfl,.inl ⟨rfl,Wr.same H.o B9.o⟩⟩
 ·have t1:((b:Int)==0)=false:=by simp;omega
  have BL:=U (λW=>Geo.mo E.i E.bl E.j b W hs.may (by omega) hpb);unfold dw at BL;rw[show cB E.i E.bl E.j 5+b-1=dq E b from rfl]at BL;have hq:=ze hs hlen (b:=b) (by omega) hpb;have PA:=U (λW (h:IS W E D Z)=>Vg (dq E b) fm (zS.extract fm 64) W h (by omega) hq (by simp[hzs];omega) (hz hb0) hQ);rw[if_neg hb0];obtain⟨D2,hD2⟩:∃d,upd D (dq E b) (iC (D (dq E b)) fm (zS.extract fm 64))=d:=⟨_,rfl⟩;rw[hD2]at PA⊢;clear hD2 hz
  generalize zS=zs at*
  generalize dq E b=q at*
  have r0:(0:Int)<=fm:=by omega
  have r1:(fm:Int)<=64:=by omega
  have r2:(fm:Int)<=zs.size:=by omega
  have r3:fm<=zs.size:=by omega
  go_enter func266,ntmps266
  go_wp2_with fail
  go_region_held3 (λW=>W.cell? E.M=some E.T.p/\W.cell? ⟨E.M,1,none⟩=some (ι J E.i)/\W.cell? ⟨E.M,2,none⟩=some (ι J E.bl)/\W.cell? ⟨E.M,3,none⟩=some (ι J E.j)/\W.cell? w.heap.size=some (ι aF kind)/\W.cell? ⟨w.heap.size,1,none⟩=some (ι I links)/\W.cell? ⟨w.heap.size,2,none⟩=some (ι F size)/\W.cell? ⟨w.heap.size,3,none⟩=some (ι I d0)/\W.cell? ⟨w.heap.size,4,none⟩=some (ι I d1)/\W.cell? ⟨w.heap.size,5,none⟩=some (ι I d2)/\W.cell? ⟨w.heap.size,6,none⟩=some (ι I d3)/\W.cell? ⟨w.heap.size,7,none⟩=some (ι I ind)/\gF (w.alloc (aH #[ι aF kind,ι I links,ι F size,ι I d0,ι I d1,ι I d2,ι I d3,ι I ind] 114)) W)
   (first|exact oJ Ml Xl (by assumption) (by assumption)|exact⟨(M 0),(M 1),(M 2),(M 3),(X 0),(X 1),(X 2),(X 3),(X 4),(X 5),(X 6),(X 7),(aj _ _).drew⟩|exact⟨(M 0),(M 1),(M 2),(M 3),(X 0),(X 1),(X 2),(X 3),(X 4),(X 5),(X 6),(X 7),aj _ _⟩)
   (first|(go_at_call 235;refine(GE.o _ (H1.o.later (dx (by assumption)))).mono ?_;rintro e w9 ⟨rfl,b9⟩))
  rename_i hS
  have B9:=U (HB0.o.trans ((dx hS).mono HB0.o.size));have H9:=U (H.o.later B9.o);have hM:=H9.o.img;clear hS M Ml X Xl;have M:=hM.cell;have Ml:=hM.lt;clear hM;go_wp2_with fail;refine(BL.o _).mono ?_;rintro e w2 ⟨rfl,b2⟩;have B2:=U (B9.o.trans (b2.mono B9.o.size));have H2:=U (H.o.later B2.o);have hM:=H2.o.img;have BD:=U (B2.o.trans ((aj w2.heap.size w2).drew.mono B2.o.size));clear b2 M Ml;have M:=hM.cell;have Ml:=hM.lt;clear hM;go_wp2_with fail
  go_region_law (first|(go_simp;go_at_call 65;refine(ZE.o _).mono ?_;rintro e w5 ⟨rfl,b5⟩;have B5:=U (BD.o.trans (b5.mono BD.o.size));have H5:=U (H.o.later B5.o);have hN:=H5.o.img;have N0:=hN.cell 0;have Nl:=hN.lt;simp only[au,av]at N0)|(go_simp;go_at_call 258;refine(PA.o _ H5.o).mono ?_;rintro e w6 ⟨c,rfl,hc⟩))
  all_goals
   have HC:=U hc;clear hc
   go_wp2
   go_ret
   rcases HC.o with⟨rfl,g⟩|⟨rfl,g⟩
   ·exact⟨0,rfl,.inl ⟨rfl,g.pre B5.o⟩⟩
   ·exact⟨4,rfl,.inr ⟨rfl,g.pre B5.o⟩⟩
end
