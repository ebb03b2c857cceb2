/- Lemmas. -/
import Derived.Test.YtpendnmmgjlmfaaGreatDoorM32
import Derived.Deep.CutBlock
import Derived.Deep.CutRange
set_option linter.unusedVariables false
set_option linter.unusedSimpArgs false
namespace Go.Proofs.YtpendnmmgjlmfaaGreatDoor
open Go.RowKit Go.Shelf Go.Maps
open Go.Proofs.Tryz
open IntKind renaming u16→I,i64→J,u32→F,u8→aF
open Value renaming pointer→G,int->ι,tuple->τ,agg->γ
open Ending renaming returned→aG
open Obj renaming cells→aH
set_option maxRecDepth 100000
set_option maxHeartbeats 4000000
namespace lC
open Oct Dev mU Tx Geo qX Bm
section
variable {E:Im} {D:aZ} {Z:Nat->Prop} {Q:Prop}
theorem aN.lq {W W':World} {m b:Nat} {t:TypeId} {cs:Array Value} (h:aN W b t cs) (hT:aR (λc=>c=m) W W') (hb:b≠m):aN W' b t cs:=(hT.block _ h.lt hb).trans h
theorem RV (x:aP) (vs:List Nat) (p b:Nat) (w:World) (hs:Small E) (h:IS w E D Z) (hi:mX E.bl x) (hv:dS E D x.ind vs) (hb:b<=E.bl) (h1:1<=x.ind) (h4:4<=p) (hp:p<36) (hz:Z (dq E x.ind)) (hQ:fV E Z->Q):
 Calls prog 313 #[E.T.p,dw E.i E.bl E.j,x.val,ι J p,ι I b] w λe w'=>∃a0 a1 a2 a3 a4 a5 a6 a7 c:Nat,e=aG (τ #[γ #[ι aF a0,ι I a1,ι F a2,ι I a3,ι I a4,ι I a5,ι I a6,ι I a7],ι J c])/\aR (λc=>c=E.T.m) w w'/\
  ((c=0/\x=⟨a0,a1,a2,a3,a4,a5,a6,a7⟩/\Wr E (upd D (dq E x.ind) (dQ (vs.set (p-4) b))) Z w w')\/(c=4/\Fu E Q w w')):=by
 refine(UB x vs p b w hs h hi hv hb h1 h4 hp hz hQ).mono ?_;rintro e w' (⟨rfl,hw⟩|⟨rfl,hf⟩)
 ·obtain⟨k,l,s,d0,d1,d2,d3,n⟩:=x
  exact⟨k,l,s,d0,d1,d2,d3,n,0,rfl,hw.2,.inl ⟨rfl,rfl,hw⟩⟩
 ·exact⟨0,0,0,0,0,0,0,0,4,rfl,hf.2,.inr ⟨rfl,hf⟩⟩
theorem LH {D0 D3:aZ} {w V W:World} {x:aP} {b c a0 a1 a2 a3 a4 a5 a6 a7:Nat} (h0:IS w E D0 Z) (hc:(c=0/\x=⟨a0,a1,a2,a3,a4,a5,a6,a7⟩/\Wr E D3 Z w V)\/(c=4/\Fu E Q w V)) (hb:Below w.heap.size V W):
 jA E D3 Z Q x b w (aG (τ #[γ #[ι aF a0,ι I a1,ι F a2,ι I a3,ι I a4,ι I a5,ι I a6,ι I a7],ι I b,ι J c])) W:=by
 rcases hc with⟨rfl,rfl,hw⟩|⟨rfl,hf⟩
 ·exact .inl ⟨rfl,Wr.via h0 hw hb⟩
 ·exact .inr ⟨⟨_,_,rfl,⟨a0,a1,a2,a3,a4,a5,a6,a7⟩,rfl⟩,Fu.via hf hb⟩
theorem Ex (p b:Nat) (x:aP) (vs:List Nat) (w:World) (hs:Small E) (h:IS w E D Z) (hi:mX E.bl x) (hv:dS E D x.ind vs) (hv2:dS E (fM E D b) x.ind vs) (h4:4<=p) (hp:p<36) (hn:1<=x.ind) (hzn:Z (dq E x.ind)) (hb:aT x vs p=0) (hL:eO (D (fr E 3)) (E.bl+1:Nat) false=(b,true)) (hb1:1<=b) (hb2:b<=E.bl) (hz3:Z (fr E 3)) (hz:Z (dq E b)) (hQ:fV E Z->Q):
 Calls prog 267 #[E.M,x.val,ι J p] w (jA E (upd (fM E D b) (dq E x.ind) (dQ (vs.set (p-4) b))) Z Q x b w):=by
 have GE:=U (λW (h:IS W E D Z)=>rZ x vs p W hs h hi hv hp);have BK:=U (λW (h:IS W E D Z)=>rX b W hs h hL hb1 hb2 hz3 hz hQ);have SL:=U (λW (h:IS W E (fM E D b) Z)=>RV x vs p b W hs h hi hv2 hb2 hn h4 hp hzn hQ);have ND:=jJ x p;have hnd:(decide (4<=p)&&decide (x.ind=0))=false:=by simp;omega
 have ND:=U (λW=>ND W hp);rw[hnd]at ND;rw[hb]at GE;have H:=U h;have zC:=sD h;clear h hi hv hv2 hnd hL hz3 hz hQ hb
 generalize upd (fM E D b) (dq E x.ind) (dQ (vs.set (p-4) b))=D3 at*
 generalize fM E D b=D2 at*
 clear hzn hn;obtain⟨kind,links,size,d0,d1,d2,d3,ind⟩:=x;have HB0:=U (((aj _ w).alloc (ah _) (aH #[ι aF kind,ι I links,ι F size,ι I d0,ι I d1,ι I d2,ι I d3,ι I ind] 114)).alloc (by simp) (aH #[ι aF 0,ι I 0,ι F 0,ι I 0,ι I 0,ι I 0,ι I 0,ι I 0] 114));have HX:=U ((aN.new w 114 #[ι aF kind,ι I links,ι F size,ι I d0,ι I d1,ι I d2,ι I d3,ι I ind]).alloc (aH #[ι aF 0,ι I 0,ι F 0,ι I 0,ι I 0,ι I 0,ι I 0,ι I 0] 114));have hY:=aN.new (w.alloc (aH #[ι aF kind,ι I links,ι F size,ι I d0,ι I d1,ι I d2,ι I d3,ι I ind] 114)) 114 #[ι aF 0,ι I 0,ι F 0,ι I 0,ι I 0,ι I 0,ι I 0,ι I 0];rw[aC]at hY;have HY:=U hY;have H1:=U (H.o.later HB0.o);clear hY;unfold dw aP.val at*
 go_enter func267,ntmps267
 go_wp2_with fail;refine(ND.o _).mono ?_;rintro e w1 ⟨rfl,b1⟩;have B1:=U (HB0.o.trans (b1.mono HB0.o.size));have H2:=U (H1.o.later b1);have jI:=U (HY.o.later b1);have jv:=U (HX.o.later b1);have hX:=jv.o;have hM:=H2.o.img;clear b1;have X0:=hX.cell 0;have X1:=hX.cell 1;have X2:=hX.cell 2;have X3:=hX.cell 3;have X4:=hX.cell 4;have X5:=hX.cell 5;have X6:=hX.cell 6;have X7:=hX.cell 7;simp only[au,av,ay]at X0 X1 X2 X3 X4 X5 X6 X7;have Xl:=hX.lt;have M0:=hM.cell 0;have M1:=hM.cell 1;have M2:=hM.cell 2;have M3:=hM.cell 3;simp only[au,av,ay]at M0 M1 M2 M3;have Ml:=hM.lt;clear hX hM;go_wp2_with fail
 go_region_held3 (λW=>W.cell? E.M=some E.T.p/\W.cell? ⟨E.M,1,none⟩=some (ι J E.i)/\W.cell? ⟨E.M,2,none⟩=some (ι J E.bl)/\W.cell? ⟨E.M,3,none⟩=some (ι J E.j)/\W.cell? w.heap.size=some (ι aF kind)/\W.cell? ⟨w.heap.size,1,none⟩=some (ι I links)/\W.cell? ⟨w.heap.size,2,none⟩=some (ι F size)/\W.cell? ⟨w.heap.size,3,none⟩=some (ι I d0)/\W.cell? ⟨w.heap.size,4,none⟩=some (ι I d1)/\W.cell? ⟨w.heap.size,5,none⟩=some (ι I d2)/\W.cell? ⟨w.heap.size,6,none⟩=some (ι I d3)/\W.cell? ⟨w.heap.size,7,none⟩=some (ι I ind)/\gF w1 W)
  (first|exact oJ Ml Xl (by assumption) (by assumption)|exact⟨M0,M1,M2,M3,X0,X1,X2,X3,X4,X5,X6,X7,(aj _ _).drew⟩|exact⟨M0,M1,M2,M3,X0,X1,X2,X3,X4,X5,X6,X7,aj _ _⟩)
  (first|(go_at_call 235;refine(GE.o _ (H2.o.later (dx (by assumption)))).mono ?_;rintro e w9 ⟨rfl,b9⟩))
 rename_i hS
 have kT:=dx hS;have zP:=U (jv.o.later kT);have Dw:=U (jI.o.later kT);have B9:=U (B1.o.trans (kT.mono B1.o.size));have H9:=U (H2.o.later kT);clear hS kT M0 M1 M2 M3 Ml X0 X1 X2 X3 X4 X5 X6 X7 Xl;go_wp2_with fail;refine(BK.o _ H9.o).mono ?_;rintro e w2 (⟨rfl,GW⟩|⟨rfl,GW⟩)
 ·have fU:=U (show aN w2 w.heap.size 114 _ from(GW.2.block _ zP.o.lt (by omega)).trans zP.o)
  have dH:=U (show aN w2 (w.heap.size+1) 114 _ from(GW.2.block _ Dw.o.lt (by omega)).trans Dw.o);have HW2:=U (GW.pre (w0:=w) B9.o);have hX:=fU.o;have hM:=HW2.o.1.img;have Oq:=U (aN.drew fU.o);have wQ:=U (aN.drew dH.o);have sw:=U (HW2.o.post (aj w2.heap.size w2).drew);clear GW;have X0:=hX.cell 0;have X1:=hX.cell 1;have X2:=hX.cell 2;have X3:=hX.cell 3;have X4:=hX.cell 4;have X5:=hX.cell 5;have X6:=hX.cell 6;have X7:=hX.cell 7;simp only[au,av,ay]at X0 X1 X2 X3 X4 X5 X6 X7;have Xl:=hX.lt;have M0:=hM.cell 0;have M1:=hM.cell 1;have M2:=hM.cell 2;have M3:=hM.cell 3;simp only[au,av,ay]at M0 M1 M2 M3;have Ml:=hM.lt;clear hX hM;go_wp2_with fail
  go_region_law (go_simp;refine(SL.o _ sw.o.1).mono ?_;rintro e w5 ⟨a0,a1,a2,a3,a4,a5,a6,a7,c,rfl,ht,hc⟩;have jD:=aN.lq Oq.o ht (by omega);have Fh:=U (aN.lq wQ.o ht (by omega));have VX:=U (hc.imp (λq=>And.imp_right (And.imp_right (λg=>Wr.then_ g sw.o)) q) (And.imp_right (λg=>Fu.then_ g sw.o)));have hY:=Fh.o;have P0:=jD.cell 0;have P1:=jD.cell 1;have P2:=jD.cell 2;have P3:=jD.cell 3;have P4:=jD.cell 4;have P5:=jD.cell 5;have P6:=jD.cell 6;have P7:=jD.cell 7;have F0:=jD.free 0;have F1:=jD.free 1;have F2:=jD.free 2;have F3:=jD.free 3;have F4:=jD.free 4;have F5:=jD.free 5;have F6:=jD.free 6;have F7:=jD.free 7;have Pl:=jD.lt;have Y0:=hY.cell 0;have Y1:=hY.cell 1;have Y2:=hY.cell 2;have Y3:=hY.cell 3;have Y4:=hY.cell 4;have Y5:=hY.cell 5;have Y6:=hY.cell 6;have Y7:=hY.cell 7;have J0:=hY.free 0;have J1:=hY.free 1;have J2:=hY.free 2;have J3:=hY.free 3;have J4:=hY.free 4;have J5:=hY.free 5;have J6:=hY.free 6;have J7:=hY.free 7;have Yl:=hY.lt;simp only[au,av,ay]at P0 P1 P2 P3 P4 P5 P6 P7 Y0 Y1 Y2 Y3 Y4 Y5 Y6 Y7;clear hY hc ht)
  all_goals
   go_wp2
   have BB:=aX (n:=w.heap.size+1) (v0:=ι aF a0) (v1:=ι I a1) (v2:=ι F a2) (v3:=ι I a3) (v4:=ι I a4) (v5:=ι I a5) (v6:=ι I a6) (v7:=ι I a7) (aX (n:=w.heap.size) (v0:=ι aF a0) (v1:=ι I a1) (v2:=ι F a2) (v3:=ι I a3) (v4:=ι I a4) (v5:=ι I a5) (v6:=ι I a6) (v7:=ι I a7) (aj w.heap.size w5) (by omega)) (by omega);have h9:=fK (iX (n:=w.heap.size) (v0:=ι aF a0) (v1:=ι I a1) (v2:=ι F a2) (v3:=ι I a3) (v4:=ι I a4) (v5:=ι I a5) (v6:=ι I a6) (v7:=ι I a7) Fh.o (by omega)) (ι aF a0) (ι I a1) (ι F a2) (ι I a3) (ι I a4) (ι I a5) (ι I a6) (ι I a7);unfold dG at h9;have k0:=h9.cell 0;have k1:=h9.cell 1;have k2:=h9.cell 2;have k3:=h9.cell 3;have k4:=h9.cell 4;have k5:=h9.cell 5;have k6:=h9.cell 6;have k7:=h9.cell 7;simp only[au,av,ay]at k0 k1 k2 k3 k4 k5 k6 k7;exact bodyPost_ret (v:=τ #[γ #[ι aF a0,ι I a1,ι F a2,ι I a3,ι I a4,ι I a5,ι I a6,ι I a7],ι I b,ι J c]) (by simp[results,results267,go_sem,k0,k1,k2,k3,k4,k5,k6,k7]) rfl (LH H.o VX.o BB)
 ·have fU:=(show aN w2 w.heap.size 114 _ from(GW.2.block _ zP.o.lt (by omega)).trans zP.o)
  have dH:=(show aN w2 (w.heap.size+1) 114 _ from(GW.2.block _ Dw.o.lt (by omega)).trans Dw.o);have HW2:=U (GW.pre (w0:=w) B9.o);have xX:=U dH;clear GW;have X0:=fU.cell 0;have X1:=fU.cell 1;have X2:=fU.cell 2;have X3:=fU.cell 3;have X4:=fU.cell 4;have X5:=fU.cell 5;have X6:=fU.cell 6;have X7:=fU.cell 7;simp only[au,av,ay]at X0 X1 X2 X3 X4 X5 X6 X7;have Xl:=fU.lt;have Y0:=dH.cell 0;have Y1:=dH.cell 1;have Y2:=dH.cell 2;have Y3:=dH.cell 3;have Y4:=dH.cell 4;have Y5:=dH.cell 5;have Y6:=dH.cell 6;have Y7:=dH.cell 7;simp only[au,av,ay]at Y0 Y1 Y2 Y3 Y4 Y5 Y6 Y7;have Yl:=dH.lt;have J0:=dH.free 0;have J1:=dH.free 1;have J2:=dH.free 2;have J3:=dH.free 3;have J4:=dH.free 4;have J5:=dH.free 5;have J6:=dH.free 6;have J7:=dH.free 7;clear fU dH
  go_wp2
  have BB:=aX (n:=w.heap.size+1) (v0:=ι aF kind) (v1:=ι I links) (v2:=ι F size) (v3:=ι I d0) (v4:=ι I d1) (v5:=ι I d2) (v6:=ι I d3) (v7:=ι I ind) (aj w.heap.size w2) (by omega);have h9:=fK (xX.o) (ι aF kind) (ι I links) (ι F size) (ι I d0) (ι I d1) (ι I d2) (ι I d3) (ι I ind);unfold dG at h9;have k0:=h9.cell 0;have k1:=h9.cell 1;have k2:=h9.cell 2;have k3:=h9.cell 3;have k4:=h9.cell 4;have k5:=h9.cell 5;have k6:=h9.cell 6;have k7:=h9.cell 7;simp only[au,av,ay]at k0 k1 k2 k3 k4 k5 k6 k7;exact bodyPost_ret (v:=τ #[γ #[ι aF kind,ι I links,ι F size,ι I d0,ι I d1,ι I d2,ι I d3,ι I ind],ι I 0,ι J 4]) (by simp[results,results267,go_sem,k0,k1,k2,k3,k4,k5,k6,k7]) rfl (.inr ⟨⟨_,_,rfl,⟨kind,links,size,d0,d1,d2,d3,ind⟩,rfl⟩,Fu.via HW2.o BB⟩)
end
section
variable {E:Im} {D:aZ} {Z:Nat->Prop} {Q:Prop}
theorem Fv (x:aP) (b:Nat) (w:World) (hs:Small E) (h:IS w E D Z) (hi:mX E.bl x) (h1:1<=b) (hb:b<=E.bl) (h0:x.ind=0) (hz:Z (dq E b)) (hQ:fV E Z->Q):
 Calls prog 312 #[E.T.p,dw E.i E.bl E.j,x.val,ι I b] w λe w'=>∃a0 a1 a2 a3 a4 a5 a6 a7 c:Nat,e=aG (τ #[γ #[ι aF a0,ι I a1,ι F a2,ι I a3,ι I a4,ι I a5,ι I a6,ι I a7],ι J c])/\aR (λc=>c=E.T.m) w w'/\
  ((c=0/\({x with ind:=b}:aP)=⟨a0,a1,a2,a3,a4,a5,a6,a7⟩/\Wr E (upd D (dq E b) (dQ [])) Z w w')\/(c=4/\Fu E Q w w')):=by
 refine(Zi x b w hs h hi h1 hb h0 hz hQ).mono ?_;rintro e w' (⟨rfl,hw⟩|⟨rfl,hf⟩)
 ·obtain⟨k,l,s,d0,d1,d2,d3,n⟩:=x
  exact⟨k,l,s,d0,d1,d2,d3,b,0,rfl,hw.2,.inl ⟨rfl,rfl,hw⟩⟩
 ·exact⟨0,0,0,0,0,0,0,0,4,rfl,hf.2,.inr ⟨rfl,hf⟩⟩
theorem Ce {D0 D2:aZ} {w w6 W7:World} {X Y:Nat} {xx:aP} {c a0 a1 a2 a3 a4 a5 a6 a7:Nat} {v0 v1 v2 v3 v4 v5 v6 v7:Value} {ys:Array Value} (h0:IS w E D0 Z) (hX:aN w6 X 114 #[v0,v1,v2,v3,v4,v5,v6,v7]) (hY:aN w6 Y 114 ys) (hXY:X≠Y) (hXw:w.heap.size<=X)
 (hc:(c=0/\xx=⟨a0,a1,a2,a3,a4,a5,a6,a7⟩/\Wr E D2 Z w w6)\/(c=4/\Fu E Q w w6)) (h7:dG w6 X (ι aF a0) (ι I a1) (ι F a2) (ι I a3) (ι I a4) (ι I a5) (ι I a6) (ι I a7)=W7):
 ∃(y:aP) (c':Nat),Value.int J c=ι J c'/\aN W7 X 114 y.cells/\aN W7 Y 114 ys/\((c'=0/\y=xx/\Wr E D2 Z w W7)\/(c'=4/\Fu E Q w W7)):=by
 have hb:Below w.heap.size w6 W7:=by
  rw[<-h7];exact aX (aj _ _) hXw
 refine⟨⟨a0,a1,a2,a3,a4,a5,a6,a7⟩,c,rfl,by rw[<-h7];exact fK hX _ _ _ _ _ _ _ _,by rw[<-h7];exact iX hY hXY,?_⟩
 rcases hc with⟨e,g1,g2⟩|⟨e,g⟩
 ·exact .inl ⟨e,g1.symm,Wr.via h0 g2 hb⟩
 ·exact .inr ⟨e,Fu.via g hb⟩
theorem Zr (p ind b:Nat) (x:aP) (w:World) (D2:aZ) (hs:Small E) (h:IS w E D Z) (hi:mX E.bl x) (h0:x.ind=0) (h4:4<=p) (hp:p<36) (hL1:eO (D (fr E 3)) (E.bl+1:Nat) false=(ind,true)) (hn1:1<=ind) (hn2:ind<=E.bl) (hD2:upd (fM E D ind) (dq E ind) (dQ [])=D2)
 (hv1:dS E D2 ind (List.replicate 32 0)) (hv2:dS E (fM E D2 b) ind (List.replicate 32 0)) (hL2:eO (D2 (fr E 3)) (E.bl+1:Nat) false=(b,true)) (hb1:1<=b) (hb2:b<=E.bl) (hz3:Z (fr E 3)) (hzn:Z (dq E ind)) (hz:Z (dq E b)) (hQ:fV E Z->Q):
 Calls prog 267 #[E.M,x.val,ι J p] w (jA E (upd (fM E D2 b) (dq E ind) (dQ ((List.replicate 32 0).set (p-4) b))) Z Q {x with ind:=ind} b w):=by
 have hi1:mX E.bl {x with ind:=ind}:=⟨hi.1,hi.2.1,hi.2.2.1,hi.2.2.2.1,hn2⟩
 have hpb:aT {x with ind:=ind} (List.replicate 32 0) p=0:=by
  obtain⟨hl,e⟩:=rY (x:={x with ind:=ind}) (vs:=List.replicate 32 0) h4 (by simp) hp;rw[e];exact List.getElem_replicate _
 have BK1:=U (λW (h:IS W E D Z)=>rX ind W hs h hL1 hn1 hn2 hz3 hzn hQ);have BG:=U (λW (h:IS W E (fM E D ind) Z)=>Fv x ind W hs h hi hn1 hn2 h0 hzn hQ);rw[hD2]at BG;have GE:=U (λW (h:IS W E D2 Z)=>rZ {x with ind:=ind} (List.replicate 32 0) p W hs h hi1 hv1 hp);have BK:=U (λW (h:IS W E D2 Z)=>rX b W hs h hL2 hb1 hb2 hz3 hz hQ);have SL:=U (λW (h:IS W E (fM E D2 b) Z)=>RV {x with ind:=ind} (List.replicate 32 0) p b W hs h hi1 hv2 hb2 hn1 h4 hp hzn hQ);have ND:=jJ x p;have hnd:(decide (4<=p)&&decide (x.ind=0))=true:=by simp;omega
 have ND:=U (λW=>ND W hp);rw[hnd]at ND;rw[hpb]at GE;have H:=U h;have zC:=sD h;simp only at SL;clear h hi hi1 hv1 hv2 hnd hL1 hL2 hz3 hz hQ hpb hD2 hzn
 generalize upd (fM E D2 b) (dq E ind) (dQ ((List.replicate 32 0).set (p-4) b))=D4 at*
 generalize fM E D2 b=D3 at*
 generalize fM E D ind=D1 at*
 obtain⟨kind,links,size,d0,d1,d2,d3,uX⟩:=x;clear h0;have HB0:=U (((aj _ w).alloc (ah _) (aH #[ι aF kind,ι I links,ι F size,ι I d0,ι I d1,ι I d2,ι I d3,ι I uX] 114)).alloc (by simp) (aH #[ι aF 0,ι I 0,ι F 0,ι I 0,ι I 0,ι I 0,ι I 0,ι I 0] 114));have HX:=U ((aN.new w 114 #[ι aF kind,ι I links,ι F size,ι I d0,ι I d1,ι I d2,ι I d3,ι I uX]).alloc (aH #[ι aF 0,ι I 0,ι F 0,ι I 0,ι I 0,ι I 0,ι I 0,ι I 0] 114));have hY:=aN.new (w.alloc (aH #[ι aF kind,ι I links,ι F size,ι I d0,ι I d1,ι I d2,ι I d3,ι I uX] 114)) 114 #[ι aF 0,ι I 0,ι F 0,ι I 0,ι I 0,ι I 0,ι I 0,ι I 0];rw[aC]at hY;have HY:=U hY;have H1:=U (H.o.later HB0.o);clear hY;unfold dw aP.val at*
 go_enter func267,ntmps267
 go_wp2_with fail;refine(ND.o _).mono ?_;rintro e w1 ⟨rfl,b1⟩;have B1:=U (HB0.o.trans (b1.mono HB0.o.size));have H2:=U (H1.o.later b1);have jI:=U (HY.o.later b1);have jv:=U (HX.o.later b1);have hX:=jv.o;have hM:=H2.o.img;clear b1;have X0:=hX.cell 0;have X1:=hX.cell 1;have X2:=hX.cell 2;have X3:=hX.cell 3;have X4:=hX.cell 4;have X5:=hX.cell 5;have X6:=hX.cell 6;have X7:=hX.cell 7;simp only[au,av,ay]at X0 X1 X2 X3 X4 X5 X6 X7;have Xl:=hX.lt;have M0:=hM.cell 0;have M1:=hM.cell 1;have M2:=hM.cell 2;have M3:=hM.cell 3;simp only[au,av,ay]at M0 M1 M2 M3;have Ml:=hM.lt;clear hX hM;go_wp2_with fail;refine(BK1.o _ H2.o).mono ?_;rintro e w3 (⟨rfl,GW⟩|⟨rfl,GW⟩)
 ·have fU:=U (show aN w3 w.heap.size 114 _ from(GW.2.block _ jv.o.lt (by omega)).trans jv.o)
  have dH:=U (show aN w3 (w.heap.size+1) 114 _ from(GW.2.block _ jI.o.lt (by omega)).trans jI.o);have HW2:=U (GW.pre (w0:=w) B1.o);have hX:=fU.o;have hM:=HW2.o.1.img;have Oq:=U (aN.drew fU.o);have wQ:=U (aN.drew dH.o);have sw:=U (HW2.o.post (aj w3.heap.size w3).drew);clear GW M0 M1 M2 M3 Ml X0 X1 X2 X3 X4 X5 X6 X7 Xl;have X0:=hX.cell 0;have X1:=hX.cell 1;have X2:=hX.cell 2;have X3:=hX.cell 3;have X4:=hX.cell 4;have X5:=hX.cell 5;have X6:=hX.cell 6;have X7:=hX.cell 7;simp only[au,av,ay]at X0 X1 X2 X3 X4 X5 X6 X7;have Xl:=hX.lt;have M0:=hM.cell 0;have M1:=hM.cell 1;have M2:=hM.cell 2;have M3:=hM.cell 3;simp only[au,av,ay]at M0 M1 M2 M3;have Ml:=hM.lt;clear hX hM
  go_upto_region 5 with fail
  go_cut [10]from 13 (λe10 wx=>∃(y:aP) (c:Nat),e10=ι J c/\aN wx w.heap.size 114 y.cells/\aN wx (w.heap.size+1) 114 #[ι aF 0,ι I 0,ι F 0,ι I 0,ι I 0,ι I 0,ι I 0,ι I 0]/\((c=0/\y=⟨kind,links,size,d0,d1,d2,d3,ind⟩/\Wr E D2 Z w wx)\/(c=4/\Fu E Q w wx)))
  case first=>
   go_region_law (go_simp;refine(BG.o _ sw.o.1).mono ?_;rintro e w5 ⟨a0,a1,a2,a3,a4,a5,a6,a7,c,rfl,ht,hc⟩;have om:=aN.lq Oq.o ht (by omega);have jD:=U om;have Fh:=U (aN.lq wQ.o ht (by omega));have VX:=U (hc.imp (λq=>And.imp_right (And.imp_right (λg=>Wr.then_ g sw.o)) q) (And.imp_right (λg=>Fu.then_ g sw.o)));have P0:=om.cell 0;have P1:=om.cell 1;have P2:=om.cell 2;have P3:=om.cell 3;have P4:=om.cell 4;have P5:=om.cell 5;have P6:=om.cell 6;have P7:=om.cell 7;have F0:=om.free 0;have F1:=om.free 1;have F2:=om.free 2;have F3:=om.free 3;have F4:=om.free 4;have F5:=om.free 5;have F6:=om.free 6;have F7:=om.free 7;have Pl:=om.lt;simp only[au,av,ay]at P0 P1 P2 P3 P4 P5 P6 P7;clear om hc ht)
   all_goals
    go_wp2_with fail
    go_meet
    exact Ce H.o jD.o Fh.o (by omega) (ah _) VX.o rfl
  case rest=>
   obtain⟨y,c,rfl,Vh,qZ,hcc⟩:=hcut;clear M0 M1 M2 M3 Ml X0 X1 X2 X3 X4 X5 X6 X7 Xl HX HY jv jI fU dH Oq wQ HW2 sw B1 HB0 H1 H2
   rcases hcc with⟨rfl,rfl,hW⟩|⟨rfl,hF⟩
   ·have jv:Hid (aN wc w.heap.size 114 #[ι aF kind,ι I links,ι F size,ι I d0,ι I d1,ι I d2,ι I d3,ι I ind]):=U Vh
    have jI:=U qZ;have HW1:=U hW;have H2:=U hW.1;have hX:=jv.o;have hM:=H2.o.img;clear Vh qZ hW;have X0:=hX.cell 0;have X1:=hX.cell 1;have X2:=hX.cell 2;have X3:=hX.cell 3;have X4:=hX.cell 4;have X5:=hX.cell 5;have X6:=hX.cell 6;have X7:=hX.cell 7;simp only[au,av,ay]at X0 X1 X2 X3 X4 X5 X6 X7;have Xl:=hX.lt;have M0:=hM.cell 0;have M1:=hM.cell 1;have M2:=hM.cell 2;have M3:=hM.cell 3;simp only[au,av,ay]at M0 M1 M2 M3;have Ml:=hM.lt;clear hX hM;go_wp2_with fail
    go_region_held3 (λW=>W.cell? E.M=some E.T.p/\W.cell? ⟨E.M,1,none⟩=some (ι J E.i)/\W.cell? ⟨E.M,2,none⟩=some (ι J E.bl)/\W.cell? ⟨E.M,3,none⟩=some (ι J E.j)/\W.cell? w.heap.size=some (ι aF kind)/\W.cell? ⟨w.heap.size,1,none⟩=some (ι I links)/\W.cell? ⟨w.heap.size,2,none⟩=some (ι F size)/\W.cell? ⟨w.heap.size,3,none⟩=some (ι I d0)/\W.cell? ⟨w.heap.size,4,none⟩=some (ι I d1)/\W.cell? ⟨w.heap.size,5,none⟩=some (ι I d2)/\W.cell? ⟨w.heap.size,6,none⟩=some (ι I d3)/\W.cell? ⟨w.heap.size,7,none⟩=some (ι I ind)/\gF wc W)
     (first|exact oJ Ml Xl (by assumption) (by assumption)|exact⟨M0,M1,M2,M3,X0,X1,X2,X3,X4,X5,X6,X7,(aj _ _).drew⟩|exact⟨M0,M1,M2,M3,X0,X1,X2,X3,X4,X5,X6,X7,aj _ _⟩)
     (first|(go_at_call 235;refine(GE.o _ (H2.o.later (dx (by assumption)))).mono ?_;rintro e w9 ⟨rfl,b9⟩))
    rename_i hS
    have kT:=dx hS;have zP:=U (jv.o.later kT);have Dw:=U (jI.o.later kT);have HW9:=U (HW1.o.post kT);clear hS kT M0 M1 M2 M3 Ml X0 X1 X2 X3 X4 X5 X6 X7 Xl;go_wp2_with fail;refine(BK.o _ HW9.o.1).mono ?_;rintro e w2 (⟨rfl,GW⟩|⟨rfl,GW⟩)
    ·have fU:=U (show aN w2 w.heap.size 114 _ from(GW.2.block _ zP.o.lt (by omega)).trans zP.o)
     have dH:=U (show aN w2 (w.heap.size+1) 114 _ from(GW.2.block _ Dw.o.lt (by omega)).trans Dw.o);have HW2:=U (GW.then_ HW9.o);have hX:=fU.o;have hM:=HW2.o.1.img;have Oq:=U (aN.drew fU.o);have wQ:=U (aN.drew dH.o);have sw:=U (HW2.o.post (aj w2.heap.size w2).drew);clear GW;have X0:=hX.cell 0;have X1:=hX.cell 1;have X2:=hX.cell 2;have X3:=hX.cell 3;have X4:=hX.cell 4;have X5:=hX.cell 5;have X6:=hX.cell 6;have X7:=hX.cell 7;simp only[au,av,ay]at X0 X1 X2 X3 X4 X5 X6 X7;have Xl:=hX.lt;have M0:=hM.cell 0;have M1:=hM.cell 1;have M2:=hM.cell 2;have M3:=hM.cell 3;simp only[au,av,ay]at M0 M1 M2 M3;have Ml:=hM.lt;clear hX hM;go_wp2_with fail
     go_region_law (go_simp;refine(SL.o _ sw.o.1).mono ?_;rintro e w5 ⟨a0,a1,a2,a3,a4,a5,a6,a7,c,rfl,ht,hc⟩;have jD:=aN.lq Oq.o ht (by omega);have Fh:=U (aN.lq wQ.o ht (by omega));have VX:=U (hc.imp (λq=>And.imp_right (And.imp_right (λg=>Wr.then_ g sw.o)) q) (And.imp_right (λg=>Fu.then_ g sw.o)));have hY:=Fh.o;have P0:=jD.cell 0;have P1:=jD.cell 1;have P2:=jD.cell 2;have P3:=jD.cell 3;have P4:=jD.cell 4;have P5:=jD.cell 5;have P6:=jD.cell 6;have P7:=jD.cell 7;have F0:=jD.free 0;have F1:=jD.free 1;have F2:=jD.free 2;have F3:=jD.free 3;have F4:=jD.free 4;have F5:=jD.free 5;have F6:=jD.free 6;have F7:=jD.free 7;have Pl:=jD.lt;have Y0:=hY.cell 0;have Y1:=hY.cell 1;have Y2:=hY.cell 2;have Y3:=hY.cell 3;have Y4:=hY.cell 4;have Y5:=hY.cell 5;have Y6:=hY.cell 6;have Y7:=hY.cell 7;have J0:=hY.free 0;have J1:=hY.free 1;have J2:=hY.free 2;have J3:=hY.free 3;have J4:=hY.free 4;have J5:=hY.free 5;have J6:=hY.free 6;have J7:=hY.free 7;have Yl:=hY.lt;simp only[au,av,ay]at P0 P1 P2 P3 P4 P5 P6 P7 Y0 Y1 Y2 Y3 Y4 Y5 Y6 Y7;clear hY hc ht)
     all_goals
      go_wp2
      have BB:=aX (n:=w.heap.size+1) (v0:=ι aF a0) (v1:=ι I a1) (v2:=ι F a2) (v3:=ι I a3) (v4:=ι I a4) (v5:=ι I a5) (v6:=ι I a6) (v7:=ι I a7) (aX (n:=w.heap.size) (v0:=ι aF a0) (v1:=ι I a1) (v2:=ι F a2) (v3:=ι I a3) (v4:=ι I a4) (v5:=ι I a5) (v6:=ι I a6) (v7:=ι I a7) (aj w.heap.size w5) (by omega)) (by omega);have h9:=fK (iX (n:=w.heap.size) (v0:=ι aF a0) (v1:=ι I a1) (v2:=ι F a2) (v3:=ι I a3) (v4:=ι I a4) (v5:=ι I a5) (v6:=ι I a6) (v7:=ι I a7) Fh.o (by omega)) (ι aF a0) (ι I a1) (ι F a2) (ι I a3) (ι I a4) (ι I a5) (ι I a6) (ι I a7);unfold dG at h9;have k0:=h9.cell 0;have k1:=h9.cell 1;have k2:=h9.cell 2;have k3:=h9.cell 3;have k4:=h9.cell 4;have k5:=h9.cell 5;have k6:=h9.cell 6;have k7:=h9.cell 7;simp only[au,av,ay]at k0 k1 k2 k3 k4 k5 k6 k7;exact bodyPost_ret (v:=τ #[γ #[ι aF a0,ι I a1,ι F a2,ι I a3,ι I a4,ι I a5,ι I a6,ι I a7],ι I b,ι J c]) (by simp[results,results267,go_sem,k0,k1,k2,k3,k4,k5,k6,k7]) rfl (LH H.o VX.o BB)
    ·have fU:=(show aN w2 w.heap.size 114 _ from(GW.2.block _ zP.o.lt (by omega)).trans zP.o)
     have dH:=(show aN w2 (w.heap.size+1) 114 _ from(GW.2.block _ Dw.o.lt (by omega)).trans Dw.o);have HW2:=U (GW.then_ HW9.o);have xX:=U dH;clear GW;have X0:=fU.cell 0;have X1:=fU.cell 1;have X2:=fU.cell 2;have X3:=fU.cell 3;have X4:=fU.cell 4;have X5:=fU.cell 5;have X6:=fU.cell 6;have X7:=fU.cell 7;simp only[au,av,ay]at X0 X1 X2 X3 X4 X5 X6 X7;have Xl:=fU.lt;have Y0:=dH.cell 0;have Y1:=dH.cell 1;have Y2:=dH.cell 2;have Y3:=dH.cell 3;have Y4:=dH.cell 4;have Y5:=dH.cell 5;have Y6:=dH.cell 6;have Y7:=dH.cell 7;simp only[au,av,ay]at Y0 Y1 Y2 Y3 Y4 Y5 Y6 Y7;have Yl:=dH.lt;have J0:=dH.free 0;have J1:=dH.free 1;have J2:=dH.free 2;have J3:=dH.free 3;have J4:=dH.free 4;have J5:=dH.free 5;have J6:=dH.free 6;have J7:=dH.free 7;clear fU dH
     go_wp2
     have BB:=aX (n:=w.heap.size+1) (v0:=ι aF kind) (v1:=ι I links) (v2:=ι F size) (v3:=ι I d0) (v4:=ι I d1) (v5:=ι I d2) (v6:=ι I d3) (v7:=ι I ind) (aj w.heap.size w2) (by omega);have h9:=fK (xX.o) (ι aF kind) (ι I links) (ι F size) (ι I d0) (ι I d1) (ι I d2) (ι I d3) (ι I ind);unfold dG at h9;have k0:=h9.cell 0;have k1:=h9.cell 1;have k2:=h9.cell 2;have k3:=h9.cell 3;have k4:=h9.cell 4;have k5:=h9.cell 5;have k6:=h9.cell 6;have k7:=h9.cell 7;simp only[au,av,ay]at k0 k1 k2 k3 k4 k5 k6 k7;exact bodyPost_ret (v:=τ #[γ #[ι aF kind,ι I links,ι F size,ι I d0,ι I d1,ι I d2,ι I d3,ι I ind],ι I 0,ι J 4]) (by simp[results,results267,go_sem,k0,k1,k2,k3,k4,k5,k6,k7]) rfl (.inr ⟨⟨_,_,rfl,⟨kind,links,size,d0,d1,d2,d3,ind⟩,rfl⟩,Fu.via HW2.o BB⟩)
   ·obtain⟨a0,a1,a2,a3,a4,a5,a6,a7⟩:=y
    have hX:aN wc w.heap.size 114 #[ι aF a0,ι I a1,ι F a2,ι I a3,ι I a4,ι I a5,ι I a6,ι I a7]:=Vh;have jI:=U qZ;have HF:=U hF;clear Vh hF;have X0:=hX.cell 0;have X1:=hX.cell 1;have X2:=hX.cell 2;have X3:=hX.cell 3;have X4:=hX.cell 4;have X5:=hX.cell 5;have X6:=hX.cell 6;have X7:=hX.cell 7;simp only[au,av,ay]at X0 X1 X2 X3 X4 X5 X6 X7;have Xl:=hX.lt;have Y0:=qZ.cell 0;have Y1:=qZ.cell 1;have Y2:=qZ.cell 2;have Y3:=qZ.cell 3;have Y4:=qZ.cell 4;have Y5:=qZ.cell 5;have Y6:=qZ.cell 6;have Y7:=qZ.cell 7;simp only[au,av,ay]at Y0 Y1 Y2 Y3 Y4 Y5 Y6 Y7;have Yl:=qZ.lt;have J0:=qZ.free 0;have J1:=qZ.free 1;have J2:=qZ.free 2;have J3:=qZ.free 3;have J4:=qZ.free 4;have J5:=qZ.free 5;have J6:=qZ.free 6;have J7:=qZ.free 7;clear hX qZ
    go_wp2
    have BB:=aX (n:=w.heap.size+1) (v0:=ι aF a0) (v1:=ι I a1) (v2:=ι F a2) (v3:=ι I a3) (v4:=ι I a4) (v5:=ι I a5) (v6:=ι I a6) (v7:=ι I a7) (aj w.heap.size wc) (by omega);have h9:=fK (jI.o) (ι aF a0) (ι I a1) (ι F a2) (ι I a3) (ι I a4) (ι I a5) (ι I a6) (ι I a7);unfold dG at h9;have k0:=h9.cell 0;have k1:=h9.cell 1;have k2:=h9.cell 2;have k3:=h9.cell 3;have k4:=h9.cell 4;have k5:=h9.cell 5;have k6:=h9.cell 6;have k7:=h9.cell 7;simp only[au,av,ay]at k0 k1 k2 k3 k4 k5 k6 k7;exact bodyPost_ret (v:=τ #[γ #[ι aF a0,ι I a1,ι F a2,ι I a3,ι I a4,ι I a5,ι I a6,ι I a7],ι I 0,ι J 4]) (by simp[results,results267,go_sem,k0,k1,k2,k3,k4,k5,k6,k7]) rfl (.inr ⟨⟨_,_,rfl,⟨a0,a1,a2,a3,a4,a5,a6,a7⟩,rfl⟩,Fu.via HF.o BB⟩)
 ·have fU:=(show aN w3 w.heap.size 114 _ from(GW.2.block _ jv.o.lt (by omega)).trans jv.o)
  have dH:=(show aN w3 (w.heap.size+1) 114 _ from(GW.2.block _ jI.o.lt (by omega)).trans jI.o);have HW2:=U (GW.pre (w0:=w) B1.o);have xX:=U dH;clear GW M0 M1 M2 M3 Ml X0 X1 X2 X3 X4 X5 X6 X7 Xl;have X0:=fU.cell 0;have X1:=fU.cell 1;have X2:=fU.cell 2;have X3:=fU.cell 3;have X4:=fU.cell 4;have X5:=fU.cell 5;have X6:=fU.cell 6;have X7:=fU.cell 7;simp only[au,av,ay]at X0 X1 X2 X3 X4 X5 X6 X7;have Xl:=fU.lt;have Y0:=dH.cell 0;have Y1:=dH.cell 1;have Y2:=dH.cell 2;have Y3:=dH.cell 3;have Y4:=dH.cell 4;have Y5:=dH.cell 5;have Y6:=dH.cell 6;have Y7:=dH.cell 7;simp only[au,av,ay]at Y0 Y1 Y2 Y3 Y4 Y5 Y6 Y7;have Yl:=dH.lt;have J0:=dH.free 0;have J1:=dH.free 1;have J2:=dH.free 2;have J3:=dH.free 3;have J4:=dH.free 4;have J5:=dH.free 5;have J6:=dH.free 6;have J7:=dH.free 7;clear fU dH
  go_wp2
  have BB:=aX (n:=w.heap.size+1) (v0:=ι aF kind) (v1:=ι I links) (v2:=ι F size) (v3:=ι I d0) (v4:=ι I d1) (v5:=ι I d2) (v6:=ι I d3) (v7:=ι I uX) (aj w.heap.size w3) (by omega);have h9:=fK (xX.o) (ι aF kind) (ι I links) (ι F size) (ι I d0) (ι I d1) (ι I d2) (ι I d3) (ι I uX);unfold dG at h9;have k0:=h9.cell 0;have k1:=h9.cell 1;have k2:=h9.cell 2;have k3:=h9.cell 3;have k4:=h9.cell 4;have k5:=h9.cell 5;have k6:=h9.cell 6;have k7:=h9.cell 7;simp only[au,av,ay]at k0 k1 k2 k3 k4 k5 k6 k7;exact bodyPost_ret (v:=τ #[γ #[ι aF kind,ι I links,ι F size,ι I d0,ι I d1,ι I d2,ι I d3,ι I uX],ι I 0,ι J 4]) (by simp[results,results267,go_sem,k0,k1,k2,k3,k4,k5,k6,k7]) rfl (.inr ⟨⟨_,_,rfl,⟨kind,links,size,d0,d1,d2,d3,uX⟩,rfl⟩,Fu.via HW2.o BB⟩)
end
