/- Lemmas. -/
import Derived.Test.YtpendnmmgjlmfaaGreatDoorM31
set_option linter.unusedVariables false
set_option linter.unusedSimpArgs false
namespace Go.Proofs.YtpendnmmgjlmfaaGreatDoor
open Go.RowKit Go.Shelf Go.Maps
open Go.Proofs.Tryz
open IntKind renaming u16→I,i64→J,u32→F,u8→aF
open Value renaming pointer→G,int->ι,tuple->τ,agg->γ
open Ending renaming returned→aG
open Obj renaming cells→aH
set_option maxRecDepth 100000
set_option maxHeartbeats 4000000
namespace lC
open Oct Dev mU Tx Geo qX Bm
section
variable {E:Im} {D:aZ} {Z:Nat->Prop} {Q:Prop}
def jA (E:Im) (D':aZ) (Z:Nat->Prop) (Q:Prop) (y:aP) (b:Nat) (w:World) (e:Ending) (w':World):Prop:=
 (e=aG (τ #[y.val,ι I b,ι J 0])/\Wr E D' Z w w')\/((∃v u:Value,e=aG (τ #[v,u,ι J 4])/\∃z:aP,v=z.val)/\Fu E Q w w')
theorem Ve (p:Nat) (x:aP) (vs:List Nat) (w:World) (hs:Small E) (h:IS w E D Z) (hi:mX E.bl x) (hv:dS E D x.ind vs) (hp:p<36) (hb:aT x vs p≠0) (hn:p<4\/x.ind≠0):
 Calls prog 267 #[E.M,x.val,ι J p] w (jA E D Z Q x (aT x vs p) w):=by
 have GE:=U (λW (h:IS W E D Z)=>rZ x vs p W hs h hi hv hp);have ND:=jJ x p
 have hnd:(decide (4<=p)&&decide (x.ind=0))=false:=by
  rcases hn with h1|h1
  iterate 2
   ·simp;omega
 have ND:=U (λW=>ND W hp);rw[hnd]at ND;have H:=U h;clear h hi hv hnd;unfold jA
 generalize aT x vs p=b at*
 obtain⟨kind,links,size,d0,d1,d2,d3,ind⟩:=x;have t1:((b:Int)!=0)=true:=by simp;omega
 have HB0:=U (((aj _ w).alloc (ah _) (aH #[ι aF kind,ι I links,ι F size,ι I d0,ι I d1,ι I d2,ι I d3,ι I ind] 114)).alloc (by simp) (aH #[ι aF 0,ι I 0,ι F 0,ι I 0,ι I 0,ι I 0,ι I 0,ι I 0] 114));have HX:=U ((aN.new w 114 #[ι aF kind,ι I links,ι F size,ι I d0,ι I d1,ι I d2,ι I d3,ι I ind]).alloc (aH #[ι aF 0,ι I 0,ι F 0,ι I 0,ι I 0,ι I 0,ι I 0,ι I 0] 114));have hY:=aN.new (w.alloc (aH #[ι aF kind,ι I links,ι F size,ι I d0,ι I d1,ι I d2,ι I d3,ι I ind] 114)) 114 #[ι aF 0,ι I 0,ι F 0,ι I 0,ι I 0,ι I 0,ι I 0,ι I 0];rw[aC]at hY;have HY:=U hY;have H1:=U (H.o.later HB0.o);clear hY;unfold dw aP.val at*
 go_enter func267,ntmps267
 go_wp2_with fail;refine(ND.o _).mono ?_;rintro e w1 ⟨rfl,b1⟩;have B1:=U (HB0.o.trans (b1.mono HB0.o.size));have H2:=U (H1.o.later b1);have jI:=U (HY.o.later b1);have jv:=U (HX.o.later b1);have hX:=jv.o;have hM:=H2.o.img;clear b1;have X:=hX.cell;have Xl:=hX.lt;have M:=hM.cell;have Ml:=hM.lt;clear hX hM;go_wp2_with fail
 go_region_held3 (λW=>W.cell? E.M=some E.T.p/\W.cell? ⟨E.M,1,none⟩=some (ι J E.i)/\W.cell? ⟨E.M,2,none⟩=some (ι J E.bl)/\W.cell? ⟨E.M,3,none⟩=some (ι J E.j)/\W.cell? w.heap.size=some (ι aF kind)/\W.cell? ⟨w.heap.size,1,none⟩=some (ι I links)/\W.cell? ⟨w.heap.size,2,none⟩=some (ι F size)/\W.cell? ⟨w.heap.size,3,none⟩=some (ι I d0)/\W.cell? ⟨w.heap.size,4,none⟩=some (ι I d1)/\W.cell? ⟨w.heap.size,5,none⟩=some (ι I d2)/\W.cell? ⟨w.heap.size,6,none⟩=some (ι I d3)/\W.cell? ⟨w.heap.size,7,none⟩=some (ι I ind)/\gF w1 W)
  (first|exact oJ Ml Xl (by assumption) (by assumption)|exact⟨(M 0),(M 1),(M 2),(M 3),(X 0),(X 1),(X 2),(X 3),(X 4),(X 5),(X 6),(X 7),(aj _ _).drew⟩|exact⟨(M 0),(M 1),(M 2),(M 3),(X 0),(X 1),(X 2),(X 3),(X 4),(X 5),(X 6),(X 7),aj _ _⟩)
  (first|(go_at_call 235;refine(GE.o _ (H2.o.later (dx (by assumption)))).mono ?_;rintro e w9 ⟨rfl,b9⟩))
 rename_i hS
 have kT:=dx hS;have zP:=U (jv.o.later kT);have Dw:=U (jI.o.later kT);have B9:=U (B1.o.trans (kT.mono B1.o.size));have hX:=zP.o;have hY:=Dw.o;clear hS kT M Ml X Xl;have X:=hX.cell;have Xl:=hX.lt;have Y:=hY.cell;have Yl:=hY.lt;have J0:=hY.free 0;have J1:=hY.free 1;have J2:=hY.free 2;have J3:=hY.free 3;have J4:=hY.free 4;have J5:=hY.free 5;have J6:=hY.free 6;have J7:=hY.free 7;clear hX hY
 go_wp2
 have BB:=aX (n:=w.heap.size+1) (v0:=ι aF kind) (v1:=ι I links) (v2:=ι F size) (v3:=ι I d0) (v4:=ι I d1) (v5:=ι I d2) (v6:=ι I d3) (v7:=ι I ind) B9.o (by omega);have h9:=fK (Dw.o) (ι aF kind) (ι I links) (ι F size) (ι I d0) (ι I d1) (ι I d2) (ι I d3) (ι I ind);unfold dG at h9;have k:=h9.cell;exact bodyPost_ret (v:=τ #[γ #[ι aF kind,ι I links,ι F size,ι I d0,ι I d1,ι I d2,ι I d3,ι I ind],ι I b,ι J 0]) (by simp[results,results267,go_sem,(k 0),(k 1),(k 2),(k 3),(k 4),(k 5),(k 6),(k 7)]) rfl (.inl ⟨rfl,Wr.same H.o BB⟩)
theorem Lu (kind links size d0 d1 d2 d3 ind p b:Nat):∃y0 y1 y2 y3,gy ⟨kind,links,size,d0,d1,d2,d3,ind⟩ p b=⟨kind,links,size,y0,y1,y2,y3,ind⟩:=by
 match p with
 |0|1|2|3|n+4=>exact⟨_,_,_,_,rfl⟩
theorem DM (p b:Nat) (x:aP) (vs:List Nat) (w:World) (hs:Small E) (h:IS w E D Z) (hi:mX E.bl x) (hv:dS E D x.ind vs) (hp:p<4) (hb:aT x vs p=0) (hL:eO (D (fr E 3)) (E.bl+1:Nat) false=(b,true)) (hb1:1<=b) (hb2:b<=E.bl) (hz3:Z (fr E 3)) (hz:Z (dq E b)) (hQ:fV E Z->Q):
 Calls prog 267 #[E.M,x.val,ι J p] w (jA E (fM E D b) Z Q (gy x p b) b w):=by
 have GE:=U (λW (h:IS W E D Z)=>rZ x vs p W hs h hi hv (by omega));have BK:=U (λW (h:IS W E D Z)=>rX b W hs h hL hb1 hb2 hz3 hz hQ);have SL:=U (λW=>TE (E:=E) x p b W hs hi hb2 hp);have ND:=jJ x p;have hnd:(decide (4<=p)&&decide (x.ind=0))=false:=by simp;omega
 have ND:=U (λW=>ND W (by omega));rw[hnd]at ND;rw[hb]at GE;have H:=U h;have zC:=sD h;clear h hi hv hnd hL hz3 hz hQ hb;unfold jA
 generalize fM E D b=D2 at*
 obtain⟨kind,links,size,d0,d1,d2,d3,ind⟩:=x;obtain⟨y0,y1,y2,y3,hy⟩:=Lu kind links size d0 d1 d2 d3 ind p b;rw[hy]at SL⊢;have HB0:=U (((aj _ w).alloc (ah _) (aH #[ι aF kind,ι I links,ι F size,ι I d0,ι I d1,ι I d2,ι I d3,ι I ind] 114)).alloc (by simp) (aH #[ι aF 0,ι I 0,ι F 0,ι I 0,ι I 0,ι I 0,ι I 0,ι I 0] 114));have HX:=U ((aN.new w 114 #[ι aF kind,ι I links,ι F size,ι I d0,ι I d1,ι I d2,ι I d3,ι I ind]).alloc (aH #[ι aF 0,ι I 0,ι F 0,ι I 0,ι I 0,ι I 0,ι I 0,ι I 0] 114));have hY:=aN.new (w.alloc (aH #[ι aF kind,ι I links,ι F size,ι I d0,ι I d1,ι I d2,ι I d3,ι I ind] 114)) 114 #[ι aF 0,ι I 0,ι F 0,ι I 0,ι I 0,ι I 0,ι I 0,ι I 0];rw[aC]at hY;have HY:=U hY;have H1:=U (H.o.later HB0.o);clear hY;unfold dw aP.val at*
 go_enter func267,ntmps267
 go_wp2_with fail;refine(ND.o _).mono ?_;rintro e w1 ⟨rfl,b1⟩;have B1:=U (HB0.o.trans (b1.mono HB0.o.size));have H2:=U (H1.o.later b1);have jI:=U (HY.o.later b1);have jv:=U (HX.o.later b1);have hX:=jv.o;have hM:=H2.o.img;clear b1;have X0:=hX.cell 0;have X1:=hX.cell 1;have X2:=hX.cell 2;have X3:=hX.cell 3;have X4:=hX.cell 4;have X5:=hX.cell 5;have X6:=hX.cell 6;have X7:=hX.cell 7;simp only[au,av,ay]at X0 X1 X2 X3 X4 X5 X6 X7;have Xl:=hX.lt;have M0:=hM.cell 0;have M1:=hM.cell 1;have M2:=hM.cell 2;have M3:=hM.cell 3;simp only[au,av,ay]at M0 M1 M2 M3;have Ml:=hM.lt;clear hX hM;go_wp2_with fail
 go_region_held3 (λW=>W.cell? E.M=some E.T.p/\W.cell? ⟨E.M,1,none⟩=some (ι J E.i)/\W.cell? ⟨E.M,2,none⟩=some (ι J E.bl)/\W.cell? ⟨E.M,3,none⟩=some (ι J E.j)/\W.cell? w.heap.size=some (ι aF kind)/\W.cell? ⟨w.heap.size,1,none⟩=some (ι I links)/\W.cell? ⟨w.heap.size,2,none⟩=some (ι F size)/\W.cell? ⟨w.heap.size,3,none⟩=some (ι I d0)/\W.cell? ⟨w.heap.size,4,none⟩=some (ι I d1)/\W.cell? ⟨w.heap.size,5,none⟩=some (ι I d2)/\W.cell? ⟨w.heap.size,6,none⟩=some (ι I d3)/\W.cell? ⟨w.heap.size,7,none⟩=some (ι I ind)/\gF w1 W)
  (first|exact oJ Ml Xl (by assumption) (by assumption)|exact⟨M0,M1,M2,M3,X0,X1,X2,X3,X4,X5,X6,X7,(aj _ _).drew⟩|exact⟨M0,M1,M2,M3,X0,X1,X2,X3,X4,X5,X6,X7,aj _ _⟩)
  (first|(go_at_call 235;refine(GE.o _ (H2.o.later (dx (by assumption)))).mono ?_;rintro e w9 ⟨rfl,b9⟩))
 rename_i hS
 have kT:=dx hS;have zP:=U (jv.o.later kT);have Dw:=U (jI.o.later kT);have B9:=U (B1.o.trans (kT.mono B1.o.size));have H9:=U (H2.o.later kT);clear hS kT M0 M1 M2 M3 Ml X0 X1 X2 X3 X4 X5 X6 X7 Xl;go_wp2_with fail;refine(BK.o _ H9.o).mono ?_;rintro e w2 (⟨rfl,GW⟩|⟨rfl,GW⟩)
 ·have fU:=U (show aN w2 w.heap.size 114 _ from(GW.2.block _ zP.o.lt (by omega)).trans zP.o)
  have dH:=U (show aN w2 (w.heap.size+1) 114 _ from(GW.2.block _ Dw.o.lt (by omega)).trans Dw.o);have HW2:=U (GW.pre (w0:=w) B9.o);have hX:=fU.o;have hM:=HW2.o.1.img;have Oq:=U (aN.drew fU.o);have wQ:=U (aN.drew dH.o);have sw:=U (HW2.o.post (aj w2.heap.size w2).drew);clear GW;have X0:=hX.cell 0;have X1:=hX.cell 1;have X2:=hX.cell 2;have X3:=hX.cell 3;have X4:=hX.cell 4;have X5:=hX.cell 5;have X6:=hX.cell 6;have X7:=hX.cell 7;simp only[au,av,ay]at X0 X1 X2 X3 X4 X5 X6 X7;have Xl:=hX.lt;have M0:=hM.cell 0;have M1:=hM.cell 1;have M2:=hM.cell 2;have M3:=hM.cell 3;simp only[au,av,ay]at M0 M1 M2 M3;have Ml:=hM.lt;clear hX hM;go_wp2_with fail
  go_region_law (go_simp;refine(SL.o _).mono ?_;rintro e w5 ⟨rfl,b5⟩;have jD:=Oq.o.later b5;have Fh:=U (wQ.o.later b5);have Iz:=U (sw.o.post b5);have hY:=Fh.o;have P0:=jD.cell 0;have P1:=jD.cell 1;have P2:=jD.cell 2;have P3:=jD.cell 3;have P4:=jD.cell 4;have P5:=jD.cell 5;have P6:=jD.cell 6;have P7:=jD.cell 7;have F0:=jD.free 0;have F1:=jD.free 1;have F2:=jD.free 2;have F3:=jD.free 3;have F4:=jD.free 4;have F5:=jD.free 5;have F6:=jD.free 6;have F7:=jD.free 7;have Pl:=jD.lt;have Y0:=hY.cell 0;have Y1:=hY.cell 1;have Y2:=hY.cell 2;have Y3:=hY.cell 3;have Y4:=hY.cell 4;have Y5:=hY.cell 5;have Y6:=hY.cell 6;have Y7:=hY.cell 7;have J0:=hY.free 0;have J1:=hY.free 1;have J2:=hY.free 2;have J3:=hY.free 3;have J4:=hY.free 4;have J5:=hY.free 5;have J6:=hY.free 6;have J7:=hY.free 7;have Yl:=hY.lt;simp only[au,av,ay]at P0 P1 P2 P3 P4 P5 P6 P7 Y0 Y1 Y2 Y3 Y4 Y5 Y6 Y7)
  all_goals
   go_wp2
   have BB:=aX (n:=w.heap.size+1) (v0:=ι aF kind) (v1:=ι I links) (v2:=ι F size) (v3:=ι I y0) (v4:=ι I y1) (v5:=ι I y2) (v6:=ι I y3) (v7:=ι I ind) (aX (n:=w.heap.size) (v0:=ι aF kind) (v1:=ι I links) (v2:=ι F size) (v3:=ι I y0) (v4:=ι I y1) (v5:=ι I y2) (v6:=ι I y3) (v7:=ι I ind) (aj w.heap.size w5) (by omega)) (by omega);have h9:=fK (iX (n:=w.heap.size) (v0:=ι aF kind) (v1:=ι I links) (v2:=ι F size) (v3:=ι I y0) (v4:=ι I y1) (v5:=ι I y2) (v6:=ι I y3) (v7:=ι I ind) Fh.o (by omega)) (ι aF kind) (ι I links) (ι F size) (ι I y0) (ι I y1) (ι I y2) (ι I y3) (ι I ind);unfold dG at h9;have k0:=h9.cell 0;have k1:=h9.cell 1;have k2:=h9.cell 2;have k3:=h9.cell 3;have k4:=h9.cell 4;have k5:=h9.cell 5;have k6:=h9.cell 6;have k7:=h9.cell 7;simp only[au,av,ay]at k0 k1 k2 k3 k4 k5 k6 k7;exact bodyPost_ret (v:=τ #[γ #[ι aF kind,ι I links,ι F size,ι I y0,ι I y1,ι I y2,ι I y3,ι I ind],ι I b,ι J 0]) (by simp[results,results267,go_sem,k0,k1,k2,k3,k4,k5,k6,k7]) rfl (.inl ⟨rfl,Wr.via H.o Iz.o BB⟩)
 ·have fU:=(show aN w2 w.heap.size 114 _ from(GW.2.block _ zP.o.lt (by omega)).trans zP.o)
  have dH:=(show aN w2 (w.heap.size+1) 114 _ from(GW.2.block _ Dw.o.lt (by omega)).trans Dw.o);have HW2:=U (GW.pre (w0:=w) B9.o);have xX:=U dH;clear GW;have X0:=fU.cell 0;have X1:=fU.cell 1;have X2:=fU.cell 2;have X3:=fU.cell 3;have X4:=fU.cell 4;have X5:=fU.cell 5;have X6:=fU.cell 6;have X7:=fU.cell 7;simp only[au,av,ay]at X0 X1 X2 X3 X4 X5 X6 X7;have Xl:=fU.lt;have Y0:=dH.cell 0;have Y1:=dH.cell 1;have Y2:=dH.cell 2;have Y3:=dH.cell 3;have Y4:=dH.cell 4;have Y5:=dH.cell 5;have Y6:=dH.cell 6;have Y7:=dH.cell 7;simp only[au,av,ay]at Y0 Y1 Y2 Y3 Y4 Y5 Y6 Y7;have Yl:=dH.lt;have J0:=dH.free 0;have J1:=dH.free 1;have J2:=dH.free 2;have J3:=dH.free 3;have J4:=dH.free 4;have J5:=dH.free 5;have J6:=dH.free 6;have J7:=dH.free 7;clear fU dH
  go_wp2
  have BB:=aX (n:=w.heap.size+1) (v0:=ι aF kind) (v1:=ι I links) (v2:=ι F size) (v3:=ι I d0) (v4:=ι I d1) (v5:=ι I d2) (v6:=ι I d3) (v7:=ι I ind) (aj w.heap.size w2) (by omega);have h9:=fK (xX.o) (ι aF kind) (ι I links) (ι F size) (ι I d0) (ι I d1) (ι I d2) (ι I d3) (ι I ind);unfold dG at h9;have k0:=h9.cell 0;have k1:=h9.cell 1;have k2:=h9.cell 2;have k3:=h9.cell 3;have k4:=h9.cell 4;have k5:=h9.cell 5;have k6:=h9.cell 6;have k7:=h9.cell 7;simp only[au,av,ay]at k0 k1 k2 k3 k4 k5 k6 k7;exact bodyPost_ret (v:=τ #[γ #[ι aF kind,ι I links,ι F size,ι I d0,ι I d1,ι I d2,ι I d3,ι I ind],ι I 0,ι J 4]) (by simp[results,results267,go_sem,k0,k1,k2,k3,k4,k5,k6,k7]) rfl (.inr ⟨⟨_,_,rfl,⟨kind,links,size,d0,d1,d2,d3,ind⟩,rfl⟩,Fu.via HW2.o BB⟩)
end
