/- Lemmas. -/
import Derived.Test.YtpendnmmgjlmfaaGreatDoorM37
set_option linter.unusedVariables false
set_option linter.unusedSimpArgs false
namespace Go.Proofs.YtpendnmmgjlmfaaGreatDoor
open Go.RowKit Go.Shelf Go.Maps
open Go.Proofs.Tryz
open IntKind renaming u16→I,i64→J,u32→F,u8→aF
open Value renaming pointer→G,int->ι,tuple->τ,agg->γ
open Ending renaming returned→aG
open Obj renaming cells→aH
set_option maxRecDepth 100000
set_option maxHeartbeats 4000000
namespace lC
open Oct Dev mU Tx Geo qX Bm
section
variable {E:Im} {D:aZ} {Z:Nat->Prop} {Q:Prop}
theorem Fw (p:Nat) (x:aP) (vs:List Nat) (w:World) (hs:Small E) (h:IS w E D Z) (hi:mX E.bl x) (hv:dS E D x.ind vs) (hp:p<36) (hn:p<4\/x.ind≠0) (hb:aT x vs p=0) (hL:(eO (D (fr E 3)) (E.bl+1:Nat) false).2=false):
 Calls prog 267 #[E.M,x.val,ι J p] w λe w'=>(∃v u:Value,e=aG (τ #[v,u,ι J 4])/\∃z:aP,v=z.val)/\Below w.heap.size w w':=by
 have GE:=U (λW (h:IS W E D Z)=>rZ x vs p W hs h hi hv hp);have BK:=U (λW (h:IS W E D Z)=>qh W hs h hL);have ND:=jJ x p
 have hnd:(decide (4<=p)&&decide (x.ind=0))=false:=by
  rcases hn with h1|h1
  iterate 2
   ·simp;omega
 have ND:=U (λW=>ND W hp);rw[hnd]at ND;rw[hb]at GE;have H:=U h;clear h hi hv hnd hL hb hn;obtain⟨kind,links,size,d0,d1,d2,d3,ind⟩:=x;have HB0:=U (((aj _ w).alloc (ah _) (aH #[ι aF kind,ι I links,ι F size,ι I d0,ι I d1,ι I d2,ι I d3,ι I ind] 114)).alloc (by simp) (aH #[ι aF 0,ι I 0,ι F 0,ι I 0,ι I 0,ι I 0,ι I 0,ι I 0] 114));have HX:=U ((aN.new w 114 #[ι aF kind,ι I links,ι F size,ι I d0,ι I d1,ι I d2,ι I d3,ι I ind]).alloc (aH #[ι aF 0,ι I 0,ι F 0,ι I 0,ι I 0,ι I 0,ι I 0,ι I 0] 114));have hY:=aN.new (w.alloc (aH #[ι aF kind,ι I links,ι F size,ι I d0,ι I d1,ι I d2,ι I d3,ι I ind] 114)) 114 #[ι aF 0,ι I 0,ι F 0,ι I 0,ι I 0,ι I 0,ι I 0,ι I 0];rw[aC]at hY;have HY:=U hY;have H1:=U (H.o.later HB0.o);clear hY;unfold dw aP.val at*
 go_enter func267,ntmps267
 go_wp2_with fail;refine(ND.o _).mono ?_;rintro e w1 ⟨rfl,b1⟩;have B1:=U (HB0.o.trans (b1.mono HB0.o.size));have H2:=U (H1.o.later b1);have jI:=U (HY.o.later b1);have jv:=U (HX.o.later b1);have hX:=jv.o;have hM:=H2.o.img;clear b1;have X:=hX.cell;have Xl:=hX.lt;have M:=hM.cell;have Ml:=hM.lt;clear hX hM;go_wp2_with fail
 go_region_held3 (λW=>W.cell? E.M=some E.T.p/\W.cell? ⟨E.M,1,none⟩=some (ι J E.i)/\W.cell? ⟨E.M,2,none⟩=some (ι J E.bl)/\W.cell? ⟨E.M,3,none⟩=some (ι J E.j)/\W.cell? w.heap.size=some (ι aF kind)/\W.cell? ⟨w.heap.size,1,none⟩=some (ι I links)/\W.cell? ⟨w.heap.size,2,none⟩=some (ι F size)/\W.cell? ⟨w.heap.size,3,none⟩=some (ι I d0)/\W.cell? ⟨w.heap.size,4,none⟩=some (ι I d1)/\W.cell? ⟨w.heap.size,5,none⟩=some (ι I d2)/\W.cell? ⟨w.heap.size,6,none⟩=some (ι I d3)/\W.cell? ⟨w.heap.size,7,none⟩=some (ι I ind)/\gF w1 W)
  (first|exact oJ Ml Xl (by assumption) (by assumption)|exact⟨(M 0),(M 1),(M 2),(M 3),(X 0),(X 1),(X 2),(X 3),(X 4),(X 5),(X 6),(X 7),(aj _ _).drew⟩|exact⟨(M 0),(M 1),(M 2),(M 3),(X 0),(X 1),(X 2),(X 3),(X 4),(X 5),(X 6),(X 7),aj _ _⟩)
  (first|(go_at_call 235;refine(GE.o _ (H2.o.later (dx (by assumption)))).mono ?_;rintro e w9 ⟨rfl,b9⟩))
 rename_i hS
 have kT:=dx hS;have zP:=U (jv.o.later kT);have Dw:=U (jI.o.later kT);have B9:=U (B1.o.trans (kT.mono B1.o.size));have H9:=U (H2.o.later kT);clear hS kT M Ml X Xl;go_wp2_with fail;refine(BK.o _ H9.o).mono ?_;rintro e w2 ⟨rfl,b2⟩;have B2:=U (B9.o.trans (b2.mono B9.o.size));have fU:=zP.o.later b2;have dH:=Dw.o.later b2;have xX:=U dH;clear b2;have X:=fU.cell;have Xl:=fU.lt;have Y:=dH.cell;have Yl:=dH.lt;have J0:=dH.free 0;have J1:=dH.free 1;have J2:=dH.free 2;have J3:=dH.free 3;have J4:=dH.free 4;have J5:=dH.free 5;have J6:=dH.free 6;have J7:=dH.free 7;clear fU dH
 go_wp2
 have BB:=aX (n:=w.heap.size+1) (v0:=ι aF kind) (v1:=ι I links) (v2:=ι F size) (v3:=ι I d0) (v4:=ι I d1) (v5:=ι I d2) (v6:=ι I d3) (v7:=ι I ind) B2.o (by omega);have h9:=fK (xX.o) (ι aF kind) (ι I links) (ι F size) (ι I d0) (ι I d1) (ι I d2) (ι I d3) (ι I ind);unfold dG at h9;have k:=h9.cell;exact bodyPost_ret (v:=τ #[γ #[ι aF kind,ι I links,ι F size,ι I d0,ι I d1,ι I d2,ι I d3,ι I ind],ι I 0,ι J 4]) (by simp[results,results267,go_sem,(k 0),(k 1),(k 2),(k 3),(k 4),(k 5),(k 6),(k 7)]) rfl ⟨⟨_,_,rfl,⟨kind,links,size,d0,d1,d2,d3,ind⟩,rfl⟩,BB⟩
theorem Po (p:Nat) (x:aP) (w:World) (hs:Small E) (h:IS w E D Z) (hp:p<36) (h4:4<=p) (h0:x.ind=0) (hL:(eO (D (fr E 3)) (E.bl+1:Nat) false).2=false):
 Calls prog 267 #[E.M,x.val,ι J p] w λe w'=>(∃v u:Value,e=aG (τ #[v,u,ι J 4])/\∃z:aP,v=z.val)/\Below w.heap.size w w':=by
 have BK:=U (λW (h:IS W E D Z)=>qh W hs h hL);have ND:=jJ x p;have hnd:(decide (4<=p)&&decide (x.ind=0))=true:=by simp;omega
 have ND:=U (λW=>ND W hp);rw[hnd]at ND;have H:=U h;clear h hnd hL h4 h0;obtain⟨kind,links,size,d0,d1,d2,d3,ind⟩:=x;have HB0:=U (((aj _ w).alloc (ah _) (aH #[ι aF kind,ι I links,ι F size,ι I d0,ι I d1,ι I d2,ι I d3,ι I ind] 114)).alloc (by simp) (aH #[ι aF 0,ι I 0,ι F 0,ι I 0,ι I 0,ι I 0,ι I 0,ι I 0] 114));have HX:=U ((aN.new w 114 #[ι aF kind,ι I links,ι F size,ι I d0,ι I d1,ι I d2,ι I d3,ι I ind]).alloc (aH #[ι aF 0,ι I 0,ι F 0,ι I 0,ι I 0,ι I 0,ι I 0,ι I 0] 114));have hY:=aN.new (w.alloc (aH #[ι aF kind,ι I links,ι F size,ι I d0,ι I d1,ι I d2,ι I d3,ι I ind] 114)) 114 #[ι aF 0,ι I 0,ι F 0,ι I 0,ι I 0,ι I 0,ι I 0,ι I 0];rw[aC]at hY;have HY:=U hY;have H1:=U (H.o.later HB0.o);clear hY;unfold dw aP.val at*
 go_enter func267,ntmps267
 go_wp2_with fail;refine(ND.o _).mono ?_;rintro e w1 ⟨rfl,b1⟩;have B1:=U (HB0.o.trans (b1.mono HB0.o.size));have H2:=U (H1.o.later b1);have jI:=U (HY.o.later b1);have jv:=U (HX.o.later b1);clear b1;go_wp2_with fail;refine(BK.o _ H2.o).mono ?_;rintro e w2 ⟨rfl,b2⟩;have B2:=U (B1.o.trans (b2.mono B1.o.size));have fU:=jv.o.later b2;have dH:=jI.o.later b2;have xX:=U dH;clear b2;have X:=fU.cell;have Xl:=fU.lt;have Y:=dH.cell;have Yl:=dH.lt;have J0:=dH.free 0;have J1:=dH.free 1;have J2:=dH.free 2;have J3:=dH.free 3;have J4:=dH.free 4;have J5:=dH.free 5;have J6:=dH.free 6;have J7:=dH.free 7;clear fU dH
 go_wp2
 have BB:=aX (n:=w.heap.size+1) (v0:=ι aF kind) (v1:=ι I links) (v2:=ι F size) (v3:=ι I d0) (v4:=ι I d1) (v5:=ι I d2) (v6:=ι I d3) (v7:=ι I ind) B2.o (by omega);have h9:=fK (xX.o) (ι aF kind) (ι I links) (ι F size) (ι I d0) (ι I d1) (ι I d2) (ι I d3) (ι I ind);unfold dG at h9;have k:=h9.cell;exact bodyPost_ret (v:=τ #[γ #[ι aF kind,ι I links,ι F size,ι I d0,ι I d1,ι I d2,ι I d3,ι I ind],ι I 0,ι J 4]) (by simp[results,results267,go_sem,(k 0),(k 1),(k 2),(k 3),(k 4),(k 5),(k 6),(k 7)]) rfl ⟨⟨_,_,rfl,⟨kind,links,size,d0,d1,d2,d3,ind⟩,rfl⟩,BB⟩
end
section
variable {E:Im} {D:aZ} {Z:Nat->Prop} {Q:Prop}
theorem Dz (p ind:Nat) (x:aP) (w:World) (D2:aZ) (hs:Small E) (h:IS w E D Z) (hi:mX E.bl x) (h0:x.ind=0) (h4:4<=p) (hp:p<36) (hL1:eO (D (fr E 3)) (E.bl+1:Nat) false=(ind,true)) (hn1:1<=ind) (hn2:ind<=E.bl) (hD2:upd (fM E D ind) (dq E ind) (dQ [])=D2)
 (hv1:dS E D2 ind (List.replicate 32 0)) (hL2:(eO (D2 (fr E 3)) (E.bl+1:Nat) false).2=false) (hz3:Z (fr E 3)) (hzn:Z (dq E ind)):
 Calls prog 267 #[E.M,x.val,ι J p] w λe w'=>(∃v u:Value,e=aG (τ #[v,u,ι J 4])/\∃z:aP,v=z.val)/\Fu E True w w':=by
 have hi1:mX E.bl {x with ind:=ind}:=⟨hi.1,hi.2.1,hi.2.2.1,hi.2.2.2.1,hn2⟩
 have hpb:aT {x with ind:=ind} (List.replicate 32 0) p=0:=by
  obtain⟨hl,e⟩:=rY (x:={x with ind:=ind}) (vs:=List.replicate 32 0) h4 (by simp) hp;rw[e];exact List.getElem_replicate _
 have BK1:=U (λW (h:IS W E D Z)=>rX (Q:=True) ind W hs h hL1 hn1 hn2 hz3 hzn (λ_=>trivial));have BG:=U (λW (h:IS W E (fM E D ind) Z)=>Fv (Q:=True) x ind W hs h hi hn1 hn2 h0 hzn (λ_=>trivial));rw[hD2]at BG;have GE:=U (λW (h:IS W E D2 Z)=>rZ {x with ind:=ind} (List.replicate 32 0) p W hs h hi1 hv1 hp);have BK:=U (λW (h:IS W E D2 Z)=>qh W hs h hL2);have ND:=jJ x p;have hnd:(decide (4<=p)&&decide (x.ind=0))=true:=by simp;omega
 have ND:=U (λW=>ND W hp);rw[hnd]at ND;rw[hpb]at GE;have H:=U h;have zC:=sD h;clear h hi hi1 hv1 hnd hL1 hL2 hz3 hpb hD2 hzn
 generalize fM E D ind=D1 at*
 obtain⟨kind,links,size,d0,d1,d2,d3,uX⟩:=x;clear h0;have HB0:=U (((aj _ w).alloc (ah _) (aH #[ι aF kind,ι I links,ι F size,ι I d0,ι I d1,ι I d2,ι I d3,ι I uX] 114)).alloc (by simp) (aH #[ι aF 0,ι I 0,ι F 0,ι I 0,ι I 0,ι I 0,ι I 0,ι I 0] 114));have HX:=U ((aN.new w 114 #[ι aF kind,ι I links,ι F size,ι I d0,ι I d1,ι I d2,ι I d3,ι I uX]).alloc (aH #[ι aF 0,ι I 0,ι F 0,ι I 0,ι I 0,ι I 0,ι I 0,ι I 0] 114));have hY:=aN.new (w.alloc (aH #[ι aF kind,ι I links,ι F size,ι I d0,ι I d1,ι I d2,ι I d3,ι I uX] 114)) 114 #[ι aF 0,ι I 0,ι F 0,ι I 0,ι I 0,ι I 0,ι I 0,ι I 0];rw[aC]at hY;have HY:=U hY;have H1:=U (H.o.later HB0.o);clear hY;unfold dw aP.val at*
 go_enter func267,ntmps267
 go_wp2_with fail;refine(ND.o _).mono ?_;rintro e w1 ⟨rfl,b1⟩;have B1:=U (HB0.o.trans (b1.mono HB0.o.size));have H2:=U (H1.o.later b1);have jI:=U (HY.o.later b1);have jv:=U (HX.o.later b1);have hX:=jv.o;have hM:=H2.o.img;clear b1;have X:=hX.cell;have Xl:=hX.lt;have M:=hM.cell;have Ml:=hM.lt;clear hX hM;go_wp2_with fail;refine(BK1.o _ H2.o).mono ?_;rintro e w3 (⟨rfl,GW⟩|⟨rfl,GW⟩)
 ·have fU:=U (show aN w3 w.heap.size 114 _ from(GW.2.block _ jv.o.lt (by omega)).trans jv.o)
  have dH:=U (show aN w3 (w.heap.size+1) 114 _ from(GW.2.block _ jI.o.lt (by omega)).trans jI.o);have HW2:=U (GW.pre (w0:=w) B1.o);have hX:=fU.o;have hM:=HW2.o.1.img;have Oq:=U (aN.drew fU.o);have wQ:=U (aN.drew dH.o);have sw:=U (HW2.o.post (aj w3.heap.size w3).drew);clear GW M Ml X Xl;have X:=hX.cell;have Xl:=hX.lt;have M:=hM.cell;have Ml:=hM.lt;clear hX hM
  go_upto_region 5 with fail
  go_cut [10]from 13 (λe10 wx=>∃(y:aP) (c:Nat),e10=ι J c/\aN wx w.heap.size 114 y.cells/\aN wx (w.heap.size+1) 114 #[ι aF 0,ι I 0,ι F 0,ι I 0,ι I 0,ι I 0,ι I 0,ι I 0]/\((c=0/\y=⟨kind,links,size,d0,d1,d2,d3,ind⟩/\Wr E D2 Z w wx)\/(c=4/\Fu E True w wx)))
  case first=>
   go_region_law (go_simp;refine(BG.o _ sw.o.1).mono ?_;rintro e w5 ⟨a0,a1,a2,a3,a4,a5,a6,a7,c,rfl,ht,hc⟩;have om:=aN.lq Oq.o ht (by omega);have jD:=U om;have Fh:=U (aN.lq wQ.o ht (by omega));have VX:=U (hc.imp (λq=>And.imp_right (And.imp_right (λg=>Wr.then_ g sw.o)) q) (And.imp_right (λg=>Fu.then_ g sw.o)));have P0:=om.cell 0;have P1:=om.cell 1;have P2:=om.cell 2;have P3:=om.cell 3;have P4:=om.cell 4;have P5:=om.cell 5;have P6:=om.cell 6;have P7:=om.cell 7;have F0:=om.free 0;have F1:=om.free 1;have F2:=om.free 2;have F3:=om.free 3;have F4:=om.free 4;have F5:=om.free 5;have F6:=om.free 6;have F7:=om.free 7;have Pl:=om.lt;simp only[au,av,ay]at P0 P1 P2 P3 P4 P5 P6 P7;clear om hc ht)
   all_goals
    go_wp2_with fail
    go_meet
    exact Ce H.o jD.o Fh.o (by omega) (ah _) VX.o rfl
  case rest=>
   obtain⟨y,c,rfl,Vh,qZ,hcc⟩:=hcut;clear M Ml X Xl HX HY jv jI fU dH Oq wQ HW2 sw B1 HB0 H1 H2
   rcases hcc with⟨rfl,rfl,hW⟩|⟨rfl,hF⟩
   ·have jv:Hid (aN wc w.heap.size 114 #[ι aF kind,ι I links,ι F size,ι I d0,ι I d1,ι I d2,ι I d3,ι I ind]):=U Vh
    have jI:=U qZ;have HW1:=U hW;have H2:=U hW.1;have hX:=jv.o;have hM:=H2.o.img;clear Vh qZ hW;have X:=hX.cell;have Xl:=hX.lt;have M:=hM.cell;have Ml:=hM.lt;clear hX hM;go_wp2_with fail
    go_region_held3 (λW=>W.cell? E.M=some E.T.p/\W.cell? ⟨E.M,1,none⟩=some (ι J E.i)/\W.cell? ⟨E.M,2,none⟩=some (ι J E.bl)/\W.cell? ⟨E.M,3,none⟩=some (ι J E.j)/\W.cell? w.heap.size=some (ι aF kind)/\W.cell? ⟨w.heap.size,1,none⟩=some (ι I links)/\W.cell? ⟨w.heap.size,2,none⟩=some (ι F size)/\W.cell? ⟨w.heap.size,3,none⟩=some (ι I d0)/\W.cell? ⟨w.heap.size,4,none⟩=some (ι I d1)/\W.cell? ⟨w.heap.size,5,none⟩=some (ι I d2)/\W.cell? ⟨w.heap.size,6,none⟩=some (ι I d3)/\W.cell? ⟨w.heap.size,7,none⟩=some (ι I ind)/\gF wc W)
     (first|exact oJ Ml Xl (by assumption) (by assumption)|exact⟨(M 0),(M 1),(M 2),(M 3),(X 0),(X 1),(X 2),(X 3),(X 4),(X 5),(X 6),(X 7),(aj _ _).drew⟩|exact⟨(M 0),(M 1),(M 2),(M 3),(X 0),(X 1),(X 2),(X 3),(X 4),(X 5),(X 6),(X 7),aj _ _⟩)
     (first|(go_at_call 235;refine(GE.o _ (H2.o.later (dx (by assumption)))).mono ?_;rintro e w9 ⟨rfl,b9⟩))
    rename_i hS
    have kT:=dx hS;have zP:=U (jv.o.later kT);have Dw:=U (jI.o.later kT);have HW9:=U (HW1.o.post kT);clear hS kT M Ml X Xl;go_wp2_with fail;refine(BK.o _ HW9.o.1).mono ?_;rintro e w2 ⟨rfl,b2⟩;have HT2:=U ((Fu.of_below (E:=E) (Q:=True) trivial b2).then_ HW9.o);have fU:=zP.o.later b2;have dH:=Dw.o.later b2;have xX:=U dH;clear b2;have X:=fU.cell;have Xl:=fU.lt;have Y:=dH.cell;have Yl:=dH.lt;have J0:=dH.free 0;have J1:=dH.free 1;have J2:=dH.free 2;have J3:=dH.free 3;have J4:=dH.free 4;have J5:=dH.free 5;have J6:=dH.free 6;have J7:=dH.free 7;clear fU dH
    go_wp2
    have BB:=aX (n:=w.heap.size+1) (v0:=ι aF kind) (v1:=ι I links) (v2:=ι F size) (v3:=ι I d0) (v4:=ι I d1) (v5:=ι I d2) (v6:=ι I d3) (v7:=ι I ind) (aj w.heap.size w2) (by omega);have h9:=fK (xX.o) (ι aF kind) (ι I links) (ι F size) (ι I d0) (ι I d1) (ι I d2) (ι I d3) (ι I ind);unfold dG at h9;have k:=h9.cell;exact bodyPost_ret (v:=τ #[γ #[ι aF kind,ι I links,ι F size,ι I d0,ι I d1,ι I d2,ι I d3,ι I ind],ι I 0,ι J 4]) (by simp[results,results267,go_sem,(k 0),(k 1),(k 2),(k 3),(k 4),(k 5),(k 6),(k 7)]) rfl ⟨⟨_,_,rfl,⟨kind,links,size,d0,d1,d2,d3,ind⟩,rfl⟩,Fu.via HT2.o BB⟩
   ·obtain⟨a0,a1,a2,a3,a4,a5,a6,a7⟩:=y
    have hX:aN wc w.heap.size 114 #[ι aF a0,ι I a1,ι F a2,ι I a3,ι I a4,ι I a5,ι I a6,ι I a7]:=Vh;have jI:=U qZ;have HF:=U hF;clear Vh hF;have X:=hX.cell;have Xl:=hX.lt;have Y:=qZ.cell;have Yl:=qZ.lt;have J0:=qZ.free 0;have J1:=qZ.free 1;have J2:=qZ.free 2;have J3:=qZ.free 3;have J4:=qZ.free 4;have J5:=qZ.free 5;have J6:=qZ.free 6;have J7:=qZ.free 7;clear hX qZ
    go_wp2
    have BB:=aX (n:=w.heap.size+1) (v0:=ι aF a0) (v1:=ι I a1) (v2:=ι F a2) (v3:=ι I a3) (v4:=ι I a4) (v5:=ι I a5) (v6:=ι I a6) (v7:=ι I a7) (aj w.heap.size wc) (by omega);have h9:=fK (jI.o) (ι aF a0) (ι I a1) (ι F a2) (ι I a3) (ι I a4) (ι I a5) (ι I a6) (ι I a7);unfold dG at h9;have k:=h9.cell;exact bodyPost_ret (v:=τ #[γ #[ι aF a0,ι I a1,ι F a2,ι I a3,ι I a4,ι I a5,ι I a6,ι I a7],ι I 0,ι J 4]) (by simp[results,results267,go_sem,(k 0),(k 1),(k 2),(k 3),(k 4),(k 5),(k 6),(k 7)]) rfl ⟨⟨_,_,rfl,⟨a0,a1,a2,a3,a4,a5,a6,a7⟩,rfl⟩,Fu.via HF.o BB⟩
 ·have fU:=(show aN w3 w.heap.size 114 _ from(GW.2.block _ jv.o.lt (by omega)).trans jv.o)
  have dH:=(show aN w3 (w.heap.size+1) 114 _ from(GW.2.block _ jI.o.lt (by omega)).trans jI.o);have HW2:=U (GW.pre (w0:=w) B1.o);have xX:=U dH;clear GW M Ml X Xl;have X:=fU.cell;have Xl:=fU.lt;have Y:=dH.cell;have Yl:=dH.lt;have J0:=dH.free 0;have J1:=dH.free 1;have J2:=dH.free 2;have J3:=dH.free 3;have J4:=dH.free 4;have J5:=dH.free 5;have J6:=dH.free 6;have J7:=dH.free 7;clear fU dH
  go_wp2
  have BB:=aX (n:=w.heap.size+1) (v0:=ι aF kind) (v1:=ι I links) (v2:=ι F size) (v3:=ι I d0) (v4:=ι I d1) (v5:=ι I d2) (v6:=ι I d3) (v7:=ι I uX) (aj w.heap.size w3) (by omega);have h9:=fK (xX.o) (ι aF kind) (ι I links) (ι F size) (ι I d0) (ι I d1) (ι I d2) (ι I d3) (ι I uX);unfold dG at h9;have k:=h9.cell;exact bodyPost_ret (v:=τ #[γ #[ι aF kind,ι I links,ι F size,ι I d0,ι I d1,ι I d2,ι I d3,ι I uX],ι I 0,ι J 4]) (by simp[results,results267,go_sem,(k 0),(k 1),(k 2),(k 3),(k 4),(k 5),(k 6),(k 7)]) rfl ⟨⟨_,_,rfl,⟨kind,links,size,d0,d1,d2,d3,uX⟩,rfl⟩,Fu.via HW2.o BB⟩
end
