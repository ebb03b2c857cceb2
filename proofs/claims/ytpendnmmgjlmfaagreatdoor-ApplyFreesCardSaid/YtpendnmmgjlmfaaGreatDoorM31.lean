/- Lemmas. -/
import Derived.Test.YtpendnmmgjlmfaaGreatDoorM30
set_option linter.unusedVariables false
set_option linter.unusedSimpArgs false
namespace Go.Proofs.YtpendnmmgjlmfaaGreatDoor
open Go.RowKit Go.Shelf Go.Maps
open Go.Proofs.Tryz
open IntKind renaming u16→I,i64→J,u32→F,u8→aF
open Value renaming pointer→G,int->ι,string->σ,tuple->τ,slice->θ,agg->γ
open Ending renaming returned→aG
open Obj renaming cells→aH
set_option maxRecDepth 100000
set_option maxHeartbeats 4000000
namespace Bm
open Oct Dev mU Tx Geo qX lC
section
variable {E:Im} {D:aZ} {Z:Nat->Prop} {Q:Prop}
theorem UB (x:aP) (vs:List Nat) (p b:Nat) (w:World) (hs:Small E) (h:IS w E D Z) (hi:mX E.bl x) (hv:dS E D x.ind vs) (hb:b<=E.bl) (h1:1<=x.ind) (h4:4<=p) (hp:p<36) (hz:Z (dq E x.ind)) (hQ:fV E Z->Q):
 Calls prog 313 #[E.T.p,dw E.i E.bl E.j,x.val,ι J p,ι I b] w (Out (τ #[x.val,ι J 0]) (τ #[dY.val,ι J 4]) (Wr E (upd D (dq E x.ind) (dQ (vs.set (p-4) b))) Z w) (Fu E Q w)):=by
 have hbl:=hs.hb;have hvl:=hv.len;have MA:=U (λW=>xY E.i E.bl E.j b E.T.p x true W hs.may hi hb);have ND:=U (λW=>jJ x p W hp);have TD:=U (λW (h:IS W E D Z)=>Ip x vs W hs h hi.2.2.2.2 hv)
 have TL:=U (λW sl (h:IS W E D Z) (hsl:Iq W (vs.set (p-4) b) sl)=>Ir x (vs.set (p-4) b) sl W hs h h1 hi.2.2.2.2 (by rw[List.length_set];omega) (λu hu=>by
  rcases List.mem_or_eq_of_mem_set hu with hu|rfl
  ·have:=hv.lt u hu;omega
  ·omega) hsl hz hQ)
 have hni:decide (x.ind=0)=false:=by simp;omega
 rw[hni,Bool.and_false]at ND;obtain⟨kind,links,size,d0,d1,d2,d3,ind⟩:=x;simp only at h1 hz TL
 generalize upd D (dq E ind) (dQ (vs.set (p-4) b))=D2 at*
 have HB0:=U ((((aj _ w).alloc (ah _) (aH #[ι J E.i,ι J E.bl,ι J E.j] 23)).alloc (by simp) (aH #[ι aF kind,ι I links,ι F size,ι I d0,ι I d1,ι I d2,ι I d3,ι I ind] 114)).alloc (by simp;omega) (aH #[ι aF 0,ι I 0,ι F 0,ι I 0,ι I 0,ι I 0,ι I 0,ι I 0] 114));have HG:=U (((aN.new w 23 #[ι J E.i,ι J E.bl,ι J E.j]).alloc (aH #[ι aF kind,ι I links,ι F size,ι I d0,ι I d1,ι I d2,ι I d3,ι I ind] 114)).alloc (aH #[ι aF 0,ι I 0,ι F 0,ι I 0,ι I 0,ι I 0,ι I 0,ι I 0] 114));have hX:=aN.new (w.alloc (aH #[ι J E.i,ι J E.bl,ι J E.j] 23)) 114 #[ι aF kind,ι I links,ι F size,ι I d0,ι I d1,ι I d2,ι I d3,ι I ind];rw[aC]at hX;have HX:=U (hX.alloc (aH #[ι aF 0,ι I 0,ι F 0,ι I 0,ι I 0,ι I 0,ι I 0,ι I 0] 114));have hY:=aN.new ((w.alloc (aH #[ι J E.i,ι J E.bl,ι J E.j] 23)).alloc (aH #[ι aF kind,ι I links,ι F size,ι I d0,ι I d1,ι I d2,ι I d3,ι I ind] 114)) 114 #[ι aF 0,ι I 0,ι F 0,ι I 0,ι I 0,ι I 0,ι I 0,ι I 0];rw[aC,aC]at hY;have HY:=U hY;have H0:=U h;have H:=U (h.later (Below.mono HB0.o (ah _)));clear hX hY hi h hv hni;unfold dw aP.val at*;have q0:(0:Int)<=p:=by omega
 have q1:(p:Int)<36:=by omega
 have q2:¬(p:Int)<4:=by omega
 have q3:decide (p<4)=false:=by simp;omega
 have q4:(0:Int)<=(p:Int)-4:=by omega
 have q5:(p:Int)-4<32:=by omega
 have q6:((p:Int)-4).toNat=p-4:=by omega
 go_enter func313,ntmps313
 go_wp2_with fail;refine(MA.o _).mono ?_;rintro e w1 ⟨rfl,b1⟩;have Dv:=U (HG.o.later b1);have jv:=U (HX.o.later b1);have jI:=U (HY.o.later b1);have H1:=U (H.o.later b1);have B1:=U (HB0.o.trans (b1.mono HB0.o.size));have hX:=jv.o;clear b1;have X:=hX.cell;have Xl:=hX.lt;clear hX;go_wp2_with fail;refine(ND.o _).mono ?_;rintro e w2 ⟨rfl,b2⟩;have HG2:=U (Dv.o.later b2);have fU:=U (jv.o.later b2);have dH:=U (jI.o.later b2);have H2:=U (H1.o.later b2);have B2:=U (B1.o.trans (b2.mono B1.o.size));have hX:=fU.o;have hG:=HG2.o;clear b2 X Xl;have X:=hX.cell;have Xl:=hX.lt;have aM:=hG.cell;have Gl:=hG.lt;clear hX hG;go_wp2_with fail;refine(TD.o _ H2.o).mono ?_;rintro e w3 ⟨g,cap,rfl,hg,hc,hR,b3⟩;have HR3:=U (hR.set (p-4) b);have hrl:=hR.lt;have c0:=hR.cell (p-4) (by omega);have f0:=hR.free (p-4);have hge:w.heap.size+2<g:=by have:=dH.o.lt;omega
 have HG3:=U ((HG2.o.later b3).other (c:=g) (i:=p-4) (ι I b) (by omega));have TO:=U ((fU.o.later b3).other (c:=g) (i:=p-4) (ι I b) (by omega));have xX:=U ((dH.o.later b3).other (c:=g) (i:=p-4) (ι I b) (by omega));have B3:=U ((B2.o.trans (b3.mono B2.o.size)).setCell (p:=⟨g,p-4,none⟩) (by show w.heap.size<=g;omega) (ι I b));have H3:=U (H0.o.later B3.o);have hX:=(fU.o.later b3);have hG:=(HG2.o.later b3);have hY:=(dH.o.later b3);clear b3 hR X Xl aM Gl;have X:=hX.cell;have Xl:=hX.lt;have aM:=hG.cell;have Gl:=hG.lt;clear hX hG hY;go_wp2_with fail;refine(TL.o _ _ H3.o (.inr ⟨g,cap,by rw[List.length_set,hvl],HR3.o⟩)).mono ?_;rintro e w4 (⟨rfl,GW⟩|⟨rfl,GW⟩)
 ·have zC:E.T.m<w.heap.size:=by
   obtain⟨f,nn,g1,_⟩:=H0.o;exact g1.tj.tx.map.lt
  have hX:aN w4 (w.heap.size+1) 114 #[ι aF kind,ι I links,ι F size,ι I d0,ι I d1,ι I d2,ι I d3,ι I ind]:=(GW.2.block _ TO.o.lt (by omega)).trans TO.o;have hY:aN w4 (w.heap.size+1+1) 114 #[ι aF 0,ι I 0,ι F 0,ι I 0,ι I 0,ι I 0,ι I 0,ι I 0]:=(GW.2.block _ xX.o.lt (by omega)).trans xX.o;have wQ:=U hY;have sw:=U (GW.pre (w0:=w) B3.o);clear GW X Xl aM Gl;have X:=hX.cell;have Xl:=hX.lt;have Y:=hY.cell;have Yl:=hY.lt;have J0:=hY.free 0;have J1:=hY.free 1;have J2:=hY.free 2;have J3:=hY.free 3;have J4:=hY.free 4;have J5:=hY.free 5;have J6:=hY.free 6;have J7:=hY.free 7;clear hX hY
  go_wp2
  have BB:=aX (n:=w.heap.size+1+1) (v0:=ι aF kind) (v1:=ι I links) (v2:=ι F size) (v3:=ι I d0) (v4:=ι I d1) (v5:=ι I d2) (v6:=ι I d3) (v7:=ι I ind) (aj w.heap.size w4) (by omega);have h9:=fK (wQ.o) (ι aF kind) (ι I links) (ι F size) (ι I d0) (ι I d1) (ι I d2) (ι I d3) (ι I ind);unfold dG at h9;have k:=h9.cell;exact bodyPost_ret (v:=τ #[γ #[ι aF kind,ι I links,ι F size,ι I d0,ι I d1,ι I d2,ι I d3,ι I ind],ι J 0]) (by simp[results,results313,go_sem,(k 0),(k 1),(k 2),(k 3),(k 4),(k 5),(k 6),(k 7)]) rfl (.inl ⟨rfl,Wr.via H0.o sw.o BB⟩)
 ·have zC:E.T.m<w.heap.size:=by
   obtain⟨f,nn,g1,_⟩:=H0.o;exact g1.tj.tx.map.lt
  have hY:aN w4 (w.heap.size+1+1) 114 #[ι aF 0,ι I 0,ι F 0,ι I 0,ι I 0,ι I 0,ι I 0,ι I 0]:=(GW.2.block _ xX.o.lt (by omega)).trans xX.o;have wQ:=U hY;have sw:=U (GW.pre (w0:=w) B3.o);clear GW X Xl aM Gl;have Y:=hY.cell;have Yl:=hY.lt;have J0:=hY.free 0;have J1:=hY.free 1;have J2:=hY.free 2;have J3:=hY.free 3;have J4:=hY.free 4;have J5:=hY.free 5;have J6:=hY.free 6;have J7:=hY.free 7;clear hY
  go_wp2
  have BB:=aX (n:=w.heap.size+1+1) (v0:=ι aF 0) (v1:=ι I 0) (v2:=ι F 0) (v3:=ι I 0) (v4:=ι I 0) (v5:=ι I 0) (v6:=ι I 0) (v7:=ι I 0) (aj w.heap.size w4) (by omega);have h9:=fK (wQ.o) (ι aF 0) (ι I 0) (ι F 0) (ι I 0) (ι I 0) (ι I 0) (ι I 0) (ι I 0);unfold dG at h9;have k:=h9.cell;exact bodyPost_ret (v:=τ #[γ #[ι aF 0,ι I 0,ι F 0,ι I 0,ι I 0,ι I 0,ι I 0,ι I 0],ι J 4]) (by simp[results,results313,go_sem,(k 0),(k 1),(k 2),(k 3),(k 4),(k 5),(k 6),(k 7)]) rfl (.inr ⟨rfl,Fu.via sw.o BB⟩)
theorem UI (x:aP) (vs:List Nat) (w:World) (hs:Small E) (h:IS w E D Z) (hi:mX E.bl x) (hv:dS E D x.ind vs):
 Calls prog 49 #[E.T.p,dw E.i E.bl E.j,x.val] w λe w'=>∃v,e=aG (τ #[v,ι J 0])/\Lr w.heap.size (bF x vs 0) v w'/\Below w.heap.size w w':=by
 have CU:=U (λW (h:IS W E D Z)=>(callsIn_wide (n:=4)).1 (Zf (Q:=False) x vs 0 W hs h hi hv (by omega) (λ_ h=>by omega) (λh=>by omega)))
 have hsame:Iw x vs 0:=by
  by_cases h0:x.ind=0
  ·right
   rw[hv.no h0];exact uV 0
  ·exact .inl ⟨h0,by omega⟩
 have HSM:=U hsame;unfold Iy at CU
 generalize bF x vs 0=fr at*
 generalize Iw x vs 0=same at*
 generalize gI E D x vs 0=D2 at*
 generalize bf x 0=y at*
 obtain⟨kind,links,size,d0,d1,d2,d3,ind⟩:=x;obtain⟨Lw,Zh,Ly,y0,y1,y2,y3,yind⟩:=y;have HB0:=U (((aj _ w).alloc (ah _) (aH #[ι J E.i,ι J E.bl,ι J E.j] 23)).alloc (by simp) (aH #[ι aF kind,ι I links,ι F size,ι I d0,ι I d1,ι I d2,ι I d3,ι I ind] 114));have hs0:((w.alloc (aH #[ι J E.i,ι J E.bl,ι J E.j] 23)).alloc (aH #[ι aF kind,ι I links,ι F size,ι I d0,ι I d1,ι I d2,ι I d3,ι I ind] 114)).heap.size=w.heap.size+2:=by simp
 have H:=U (h.later (Below.mono HB0.o (ah _)));clear hi h hv hsame;unfold dw aP.val at*
 go_enter func49,ntmps49
 go_wp2_with fail;refine(CU.o _ H.o).mono ?_;rintro e w1 (⟨v,rfl,ho,hw,hb⟩|⟨rfl,⟨hf,_⟩,_⟩)
 ·have b1:=hb HSM.o
  rw[hs0]at b1;have B1:=U ((HB0.o.trans (b1.mono (by omega))).alloc (aD HB0.o.size b1.size) (aH #[ι aF Lw,ι I Zh,ι F Ly,ι I y0,ι I y1,ι I y2,ι I y3,ι I yind] 114));have HO:=U (mY (b':=w.heap.size) (World.ownsRow.alloc ho (aH #[ι aF Lw,ι I Zh,ι F Ly,ι I y0,ι I y1,ι I y2,ι I y3,ι I yind] 114)) (by omega))
  obtain⟨ao,cap,rfl⟩:∃ao cap,v=θ ao fr.length cap:=by
   rcases ho.2 with⟨rfl,e0⟩|⟨g,cap,cur,rfl,_⟩
   ·exact⟨none,0,by rw[e0]⟩
   ·exact⟨_,_,rfl⟩
  clear ho hw hb b1
  go_wp2
  go_ret2;exact⟨_,rfl,HO.o,B1.o⟩
 ·exact hf.elim
end
end Bm
namespace lC
open Oct Dev mU Tx Geo
theorem Ph {B b:Nat} {w W:World} {t:TypeId} {v:Value} (h:Below B w W) (hX:aN W b t #[v]):Below B w (W.setCell ⟨b,0,none⟩ v):=by
 refine h.trans ⟨rfl,rfl,rfl,by simp[World.setCell],λk hk=>?_⟩
 by_cases e:k=b
 ·subst e
  exact(aN.set hX 0 v).trans hX.symm
 ·exact heap_setCell_other W ⟨b,0,none⟩ k v e
def gF (V W:World):Prop:=Below V.heap.size V W
theorem gF.later {V W W':World} {a0 a1 a2:Addr} {v0 v1 v2:Value} (l0:a0.block<V.heap.size) (l1:a1.block<V.heap.size) (l2:a2.block<V.heap.size) (hb:Below W.heap.size W W') (h:W.cell? a0=some v0/\W.cell? a1=some v1/\W.cell? a2=some v2/\gF V W):
 W'.cell? a0=some v0/\W'.cell? a1=some v1/\W'.cell? a2=some v2/\gF V W':=
 ⟨(hb.cell (aA l0 h.2.2.2.size)).trans h.1,(hb.cell (aA l1 h.2.2.2.size)).trans h.2.1,(hb.cell (aA l2 h.2.2.2.size)).trans h.2.2.1,h.2.2.2.trans (hb.mono h.2.2.2.size)⟩
theorem gF.get {V W:World} {A B C:Prop} (h:A/\B/\C/\gF V W):Below V.heap.size V W:=h.2.2.2
section
variable {E:Im} {D:aZ} {Z:Nat->Prop} {Q:Prop}
theorem RO (p N am ae:Nat) (w:World) (hs:Small E) (h:IS w E D Z) (hp:p=2\/p=3) (hN:N<=100) (hm:aN w am 32 #[E.M]) (he:aN w ae 35 #[ι J 0]):
 Calls prog 43 #[ι J p,ι J N,am,ae] w λe w'=>e=aG (ι J ((N:Int)+1-(countB (D (fr E p)) ((N:Int)+1):Nat)))/\Below w.heap.size w w':=by
 have hsz:=h.sec (jo hs h hp);have PA:=U (vT p w hs h hp);have CO:=U (λW=>Vb (D (fr E p)) ((N:Int)+1) W (by omega))
 have hcb:countB (D (fr E p)) ((N:Int)+1)<=512:=by
  have h1:=RQ ((N:Int)+1) (upto (fq (D (fr E p))) (8*(D (fr E p)).size));rw[nN]at h1;unfold countB;omega
 clear h
 generalize countB (D (fr E p)) ((N:Int)+1)=cc at*
 generalize D (fr E p)=s at*
 generalize fr E p=q at*
 have HE:=U he;have M0:=hm.cell 0;have Ml:=hm.lt;simp only[au,av]at M0
 go_enter func43,ntmps43
 go_wp2_with fail;refine PA.o.mono ?_;rintro e w1 ⟨rfl,b1⟩;have HE1:=U (HE.o.later b1);have B1:=U (Ph b1 HE1.o);have E0:=HE1.o.cell 0;have F0:=HE1.o.free 0;have El:=HE1.o.lt;simp only[au,av]at E0;clear b1;go_wp2_with fail;refine(CO.o _).mono ?_;rintro e w2 ⟨rfl,b2⟩;have B2:=U (B1.o.trans (b2.mono B1.o.size));clear b2
 go_wp2
 go_ret;exact⟨rfl,B2.o⟩
theorem DH (w:World) (hs:Small E) (h:IS w E D Z):
 Calls prog 15 #[E.M] w λe w'=>e=aG (τ #[ι J ((E.i:Int)+1-(countB (D (fr E 2)) ((E.i:Int)+1):Nat)),ι J ((E.bl:Int)+1-(countB (D (fr E 3)) ((E.bl:Int)+1):Nat)),ι J 0])/\Below w.heap.size w w':=by
 have hi:=hs.hi;have hb:=hs.hb;have LF2:=λW h1 h2 h3=>RO (E:=E) (D:=D) (Z:=Z) 2 E.i w.heap.size (w.heap.size+1) W hs h1 (.inl rfl) (by omega) h2 h3;have LF3:=λW h1 h2 h3=>RO (E:=E) (D:=D) (Z:=Z) 3 E.bl w.heap.size (w.heap.size+1) W hs h1 (.inr rfl) (by omega) h2 h3;rw[show((2:Nat):Int)=2 from rfl]at LF2;rw[show((3:Nat):Int)=3 from rfl]at LF3;have LF2:=U LF2;have LF3:=U LF3;have HB0:=U (((aj _ w).alloc (ah _) (aH #[E.M] 32)).alloc (by simp) (aH #[ι J 0] 35));have HM:=U ((aN.new w 32 #[E.M]).alloc (aH #[ι J 0] 35));have HE:=aN.new (w.alloc (aH #[E.M] 32)) 35 #[ι J 0];rw[aC]at HE;have HE:=U HE;have H:=U (h.later HB0.o);have hX:=H.o.img;clear h;have X:=hX.cell;have Xl:=hX.lt;clear hX;have M0:=HM.o.cell 0;have Ml:=HM.o.lt;simp only[au,av]at M0
 go_enter func15,ntmps15
 go_wp2_with fail
 go_region_held3 (λW=>W.cell? w.heap.size=some E.M/\W.cell? ⟨E.M,1,none⟩=some (ι J E.i)/\W.cell? ⟨E.M,2,none⟩=some (ι J E.bl)/\gF ((w.alloc (aH #[E.M] 32)).alloc (aH #[ι J 0] 35)) W)
  (first|exact gF.later Ml Xl Xl (by assumption) (by assumption)|exact⟨M0,(X 1),(X 2),(aj _ _).drew⟩|exact⟨M0,(X 1),(X 2),aj _ _⟩)
  (first
   |(go_at_call 43;with_reducible refine(LF2.o _ (H.o.later (gF.get (by assumption))) (HM.o.later (gF.get (by assumption))) (HE.o.later (gF.get (by assumption)))).mono ?_;rintro e w9 ⟨rfl,b9⟩)
   |(go_at_call 43;with_reducible refine(LF3.o _ (H.o.later (gF.get (by assumption))) (HM.o.later (gF.get (by assumption))) (HE.o.later (gF.get (by assumption)))).mono ?_;rintro e w9 ⟨rfl,b9⟩))
 rename_i hS
 have BS:=gF.get hS;have B4:=U (HB0.o.trans (BS.mono HB0.o.size));have HE4:=U (HE.o.later BS);have hX:=HE4.o;have V:=hX.cell;have Vl:=hX.lt;have F0:=hX.free 0;clear hX hS BS
 go_wp2
 have k0:=(HE4.o.set 0 (ι J 0)).cell 0;exact bodyPost_ret (v:=τ #[ι J ((E.i:Int)+1-(countB (D (fr E 2)) ((E.i:Int)+1):Nat)),ι J ((E.bl:Int)+1-(countB (D (fr E 3)) ((E.bl:Int)+1):Nat)),ι J 0]) (by simp[results,results15,go_sem,k0]) rfl ⟨rfl,B4.o.setCell (by simp) _⟩
end
open qX Bm
theorem oJ {V W W':World} {M X:Nat} {m0 m1 m2 m3 x0 x1 x2 x3 x4 x5 x6 x7:Value} (lM:M<V.heap.size) (lX:X<V.heap.size) (hb:Below W.heap.size W W') (h:W.cell? M=some m0/\W.cell? ⟨M,1,none⟩=some m1/\W.cell? ⟨M,2,none⟩=some m2/\W.cell? ⟨M,3,none⟩=some m3/\W.cell? X=some x0/\W.cell? ⟨X,1,none⟩=some x1/\W.cell? ⟨X,2,none⟩=some x2/\W.cell? ⟨X,3,none⟩=some x3/\W.cell? ⟨X,4,none⟩=some x4/\W.cell? ⟨X,5,none⟩=some x5/\W.cell? ⟨X,6,none⟩=some x6/\W.cell? ⟨X,7,none⟩=some x7/\gF V W):W'.cell? M=some m0/\W'.cell? ⟨M,1,none⟩=some m1/\W'.cell? ⟨M,2,none⟩=some m2/\W'.cell? ⟨M,3,none⟩=some m3/\W'.cell? X=some x0/\W'.cell? ⟨X,1,none⟩=some x1/\W'.cell? ⟨X,2,none⟩=some x2/\W'.cell? ⟨X,3,none⟩=some x3/\W'.cell? ⟨X,4,none⟩=some x4/\W'.cell? ⟨X,5,none⟩=some x5/\W'.cell? ⟨X,6,none⟩=some x6/\W'.cell? ⟨X,7,none⟩=some x7/\gF V W':=by
 obtain⟨h0,h1,h2,h3,h4,h5,h6,h7,h8,h9,h10,h11,hk⟩:=h;have hz:=hk.size;have kM:∀i,W'.cell? ⟨M,i,none⟩=W.cell? ⟨M,i,none⟩:=λi=>hb.cell (p:=⟨M,i,none⟩) (aA lM hz);have kX:∀i,W'.cell? ⟨X,i,none⟩=W.cell? ⟨X,i,none⟩:=λi=>hb.cell (p:=⟨X,i,none⟩) (aA lX hz);exact⟨(kM 0).trans h0,(kM 1).trans h1,(kM 2).trans h2,(kM 3).trans h3,(kX 0).trans h4,(kX 1).trans h5,(kX 2).trans h6,(kX 3).trans h7,(kX 4).trans h8,(kX 5).trans h9,(kX 6).trans h10,(kX 7).trans h11,Below.trans hk (hb.mono hz)⟩
theorem dx {V W:World} {M X:Nat} {m0 m1 m2 m3 x0 x1 x2 x3 x4 x5 x6 x7:Value} (h:W.cell? M=some m0/\W.cell? ⟨M,1,none⟩=some m1/\W.cell? ⟨M,2,none⟩=some m2/\W.cell? ⟨M,3,none⟩=some m3/\W.cell? X=some x0/\W.cell? ⟨X,1,none⟩=some x1/\W.cell? ⟨X,2,none⟩=some x2/\W.cell? ⟨X,3,none⟩=some x3/\W.cell? ⟨X,4,none⟩=some x4/\W.cell? ⟨X,5,none⟩=some x5/\W.cell? ⟨X,6,none⟩=some x6/\W.cell? ⟨X,7,none⟩=some x7/\gF V W):Below V.heap.size V W:=by
 obtain⟨_,_,_,_,_,_,_,_,_,_,_,_,hk⟩:=h;exact hk
section
variable {E:Im} {D:aZ} {Z:Nat->Prop} {Q:Prop}
theorem Vd (n:Nat) (x:aP) (vs:List Nat) (w:World) (hs:Small E) (h:IS w E D Z) (h1:1<=n) (hn:n<=E.i) (hx:dZ E D n x) (ho:x.Ok) (hi:mX E.bl x) (hv:dS E D x.ind vs):
 Calls prog 17 #[E.M,ι F n] w λe w'=>∃v,e=aG (τ #[v,ι J 0])/\Lr w.heap.size (bF x vs 0) v w'/\Below w.heap.size w w':=by
 have IN:=U (wO n x w hs h h1 hn hx ho);have AL:=U (λW (h:IS W E D Z)=>UI x vs W hs h hi hv)
 generalize bF x vs 0=fr at*
 have H:=U h;clear h hx ho hi hv;obtain⟨kind,links,size,d0,d1,d2,d3,ind⟩:=x;unfold dw aP.val at*
 go_enter func17,ntmps17
 go_wp2_with fail;refine IN.o.mono ?_;rintro e w1 ⟨rfl,b1⟩;have hX:=aN.new w1 114 #[ι aF kind,ι I links,ι F size,ι I d0,ι I d1,ι I d2,ι I d3,ι I ind];have hB1:=b1.alloc b1.size (aH #[ι aF kind,ι I links,ι F size,ι I d0,ι I d1,ι I d2,ι I d3,ι I ind] 114);have H1:=U (H.o.later hB1);have hM:=H1.o.img;have B1:=U hB1;have X:=hX.cell;have Xl:=hX.lt;have M:=hM.cell;have Ml:=hM.lt;clear hX hM hB1;go_wp2_with fail
 go_region_held3 (λW=>W.cell? E.M=some E.T.p/\W.cell? ⟨E.M,1,none⟩=some (ι J E.i)/\W.cell? ⟨E.M,2,none⟩=some (ι J E.bl)/\W.cell? ⟨E.M,3,none⟩=some (ι J E.j)/\W.cell? w1.heap.size=some (ι aF kind)/\W.cell? ⟨w1.heap.size,1,none⟩=some (ι I links)/\W.cell? ⟨w1.heap.size,2,none⟩=some (ι F size)/\W.cell? ⟨w1.heap.size,3,none⟩=some (ι I d0)/\W.cell? ⟨w1.heap.size,4,none⟩=some (ι I d1)/\W.cell? ⟨w1.heap.size,5,none⟩=some (ι I d2)/\W.cell? ⟨w1.heap.size,6,none⟩=some (ι I d3)/\W.cell? ⟨w1.heap.size,7,none⟩=some (ι I ind)/\gF (w1.alloc (aH #[ι aF kind,ι I links,ι F size,ι I d0,ι I d1,ι I d2,ι I d3,ι I ind] 114)) W)
  (first|exact oJ Ml Xl (by assumption) (by assumption)|exact⟨(M 0),(M 1),(M 2),(M 3),(X 0),(X 1),(X 2),(X 3),(X 4),(X 5),(X 6),(X 7),(aj _ _).drew⟩|exact⟨(M 0),(M 1),(M 2),(M 3),(X 0),(X 1),(X 2),(X 3),(X 4),(X 5),(X 6),(X 7),aj _ _⟩)
  (first|(go_at_call 49;refine(AL.o _ (H1.o.later (dx (by assumption)))).mono ?_;rintro e w9 ⟨v,rfl,ho,b9⟩;have HO:=U (mY (b':=w.heap.size) ho (aD B1.o.size (Below.size (dx (by assumption)))))))
 rename_i hS
 have B9:=U (B1.o.trans ((dx hS).mono B1.o.size));clear hS
 go_wp2
 go_ret2;exact⟨v,rfl,HO.o,B9.o⟩
theorem sD {w:World} (h:IS w E D Z):E.T.m<w.heap.size:=by
 obtain⟨f,nn,g1,_⟩:=h;exact g1.tj.tx.map.lt
theorem RU (n p:Nat) (x:aP) (vs:List Nat) (w:World) (hs:Small E) (h:IS w E D Z) (h1:1<=n) (hn:n<=E.i) (hx:dZ E D n x) (ho:x.Ok) (hk:x.kind≠0) (hi:mX E.bl x) (hv:dS E D x.ind vs) (hp:p<36):
 Calls prog 156 #[E.M,ι F n,ι J p] w λe w'=>e=aG (τ #[σ (if aT x vs p=0 then zS else D (dq E (aT x vs p))),ι J 0])/\Below w.heap.size w w':=by
 have hbl:=hs.hb;have TH:=jw n x w hs h h1 hn hx ho;rw[if_neg hk]at TH;have TH:=U TH;have GE:=U (λW (h:IS W E D Z)=>rZ x vs p W hs h hi hv hp)
 have hpb:aT x vs p<=E.bl:=by
  unfold aT
  have hm:∀u∈nE x vs,u<=E.bl:=λu hu=>by
   obtain⟨g0,g1,g2,g3,g4⟩:=hi;simp only[nE,List.mem_cons]at hu
   rcases hu with rfl|rfl|rfl|rfl|hu
   ·exact g0
   ·exact g1
   ·exact g2
   ·exact g3
   ·exact hv.lt u hu
  rw[List.getD_eq_getElem?_getD];cases he:(nE x vs)[p]?with
  |none=>simp
  |some u=>exact hm u (List.mem_of_getElem? he)
 have H:=U h;have hlen:=h.len;clear h hx ho hi hv hk
 generalize aT x vs p=b at*
 obtain⟨kind,links,size,d0,d1,d2,d3,ind⟩:=x;have ZE:Hid (∀W,Calls prog 65 #[] W λe w'=>e=aG (σ zS)/\Below W.heap.size W w'):=U (λW=>rz W)
 generalize zS=zs at*
 unfold dw aP.val at*
 go_enter func156,ntmps156
 go_wp2_with fail;refine TH.o.mono ?_;rintro e w1 ⟨rfl,b1⟩;have hX:=aN.new w1 114 #[ι aF kind,ι I links,ι F size,ι I d0,ι I d1,ι I d2,ι I d3,ι I ind];have hB1:=b1.alloc b1.size (aH #[ι aF kind,ι I links,ι F size,ι I d0,ι I d1,ι I d2,ι I d3,ι I ind] 114);have H1:=U (H.o.later hB1);have hM:=H1.o.img;have B1:=U hB1;have X:=hX.cell;have Xl:=hX.lt;have M:=hM.cell;have Ml:=hM.lt;clear hX hM hB1;go_wp2_with fail
 go_region_held3 (λW=>W.cell? E.M=some E.T.p/\W.cell? ⟨E.M,1,none⟩=some (ι J E.i)/\W.cell? ⟨E.M,2,none⟩=some (ι J E.bl)/\W.cell? ⟨E.M,3,none⟩=some (ι J E.j)/\W.cell? w1.heap.size=some (ι aF kind)/\W.cell? ⟨w1.heap.size,1,none⟩=some (ι I links)/\W.cell? ⟨w1.heap.size,2,none⟩=some (ι F size)/\W.cell? ⟨w1.heap.size,3,none⟩=some (ι I d0)/\W.cell? ⟨w1.heap.size,4,none⟩=some (ι I d1)/\W.cell? ⟨w1.heap.size,5,none⟩=some (ι I d2)/\W.cell? ⟨w1.heap.size,6,none⟩=some (ι I d3)/\W.cell? ⟨w1.heap.size,7,none⟩=some (ι I ind)/\gF (w1.alloc (aH #[ι aF kind,ι I links,ι F size,ι I d0,ι I d1,ι I d2,ι I d3,ι I ind] 114)) W)
  (first|exact oJ Ml Xl (by assumption) (by assumption)|exact⟨(M 0),(M 1),(M 2),(M 3),(X 0),(X 1),(X 2),(X 3),(X 4),(X 5),(X 6),(X 7),(aj _ _).drew⟩|exact⟨(M 0),(M 1),(M 2),(M 3),(X 0),(X 1),(X 2),(X 3),(X 4),(X 5),(X 6),(X 7),aj _ _⟩)
  (first|(go_at_call 235;refine(GE.o _ (H1.o.later (dx (by assumption)))).mono ?_;rintro e w9 ⟨rfl,b9⟩))
 rename_i hS
 have B9:=U (B1.o.trans ((dx hS).mono B1.o.size));have H9:=U (H.o.later B9.o);have hM:=H9.o.img;clear hS M Ml X Xl;have M:=hM.cell;have Ml:=hM.lt;clear hM
 by_cases hb0:b=0
 ·subst hb0
  go_wp2_with fail;refine(ZE.o _).mono ?_;rintro e w2 ⟨rfl,b2⟩;have B2:=U (B9.o.trans (b2.mono B9.o.size));clear b2
  go_wp2
  go_ret2;exact⟨rfl,B2.o⟩
 ·have t1:((b:Int)==0)=false:=by simp;omega
  have BL:=U (λW=>Geo.mo E.i E.bl E.j b W hs.may (by omega) hpb);unfold dw at BL;rw[show cB E.i E.bl E.j 5+b-1=dq E b from rfl]at BL;have hq:=ze hs hlen (b:=b) (by omega) hpb;have RD:=U (λW (h:IS W E D Z)=>GY (dq E b) W h hq);obtain⟨sb,hsb⟩:∃s,D (dq E b)=s:=⟨_,rfl⟩;rw[hsb]at RD;obtain⟨q,hqq⟩:∃q,dq E b=q:=⟨_,rfl⟩;rw[hqq]at RD BL;go_wp2_with fail;refine(BL.o _).mono ?_;rintro e w2 ⟨rfl,b2⟩;have B2:=U (B9.o.trans (b2.mono B9.o.size));have H2:=U (H.o.later B2.o);have hM:=H2.o.img;clear b2 M Ml;have M:=hM.cell;have Ml:=hM.lt;clear hM;go_wp2_with fail;refine(RD.o _ H2.o).mono ?_;rintro e w3 ⟨rfl,b3⟩;have B3:=U (B2.o.trans (b3.mono B2.o.size));clear b3
  go_wp2
  go_ret2;exact⟨by first|rfl|(rw[<-hsb,hqq];rfl),B3.o⟩
end
end lC
namespace Bm
open Oct Dev mU Tx Geo qX lC
section
variable {E:Im} {D:aZ} {Z:Nat->Prop} {Q:Prop}
theorem Zi (x:aP) (b:Nat) (w:World) (hs:Small E) (h:IS w E D Z) (hi:mX E.bl x) (h1:1<=b) (hb:b<=E.bl) (h0:x.ind=0) (hz:Z (dq E b)) (hQ:fV E Z->Q):
 Calls prog 312 #[E.T.p,dw E.i E.bl E.j,x.val,ι I b] w (Out (τ #[({x with ind:=b}:aP).val,ι J 0]) (τ #[dY.val,ι J 4]) (Wr E (upd D (dq E b) (dQ [])) Z w) (Fu E Q w)):=by
 have hbl:=hs.hb;have MA:=U (λW=>xY E.i E.bl E.j b E.T.p x true W hs.may hi hb);have TL:=U (λW (h:IS W E D Z)=>Ir {x with ind:=b} [] (θ none 0 0) W hs h h1 hb (by simp) (λu hu=>by cases hu) (.inl ⟨rfl,rfl⟩) hz hQ);obtain⟨kind,links,size,d0,d1,d2,d3,ind⟩:=x;simp only at h0 hz TL
 generalize upd D (dq E b) (dQ [])=D2 at*
 have HB0:=U ((((aj _ w).alloc (ah _) (aH #[ι J E.i,ι J E.bl,ι J E.j] 23)).alloc (by simp) (aH #[ι aF kind,ι I links,ι F size,ι I d0,ι I d1,ι I d2,ι I d3,ι I ind] 114)).alloc (by simp;omega) (aH #[ι aF 0,ι I 0,ι F 0,ι I 0,ι I 0,ι I 0,ι I 0,ι I 0] 114));have HG:=U (((aN.new w 23 #[ι J E.i,ι J E.bl,ι J E.j]).alloc (aH #[ι aF kind,ι I links,ι F size,ι I d0,ι I d1,ι I d2,ι I d3,ι I ind] 114)).alloc (aH #[ι aF 0,ι I 0,ι F 0,ι I 0,ι I 0,ι I 0,ι I 0,ι I 0] 114));have hX:=aN.new (w.alloc (aH #[ι J E.i,ι J E.bl,ι J E.j] 23)) 114 #[ι aF kind,ι I links,ι F size,ι I d0,ι I d1,ι I d2,ι I d3,ι I ind];rw[aC]at hX;have HX:=U (hX.alloc (aH #[ι aF 0,ι I 0,ι F 0,ι I 0,ι I 0,ι I 0,ι I 0,ι I 0] 114));have hY:=aN.new ((w.alloc (aH #[ι J E.i,ι J E.bl,ι J E.j] 23)).alloc (aH #[ι aF kind,ι I links,ι F size,ι I d0,ι I d1,ι I d2,ι I d3,ι I ind] 114)) 114 #[ι aF 0,ι I 0,ι F 0,ι I 0,ι I 0,ι I 0,ι I 0,ι I 0];rw[aC,aC]at hY;have HY:=U hY;have H0:=U h;clear hX hY hi h;unfold dw aP.val at*;have t1:((b:Int)!=0)=true:=by simp;omega
 have t2:((ind:Int)==0)=true:=by simp;omega
 have t3:decide ((ind:Int)=0)=true:=by simp;omega
 clear h0
 go_enter func312,ntmps312
 go_wp2_with fail;refine(MA.o _).mono ?_;rintro e w1 ⟨rfl,b1⟩;have Dv:=U (HG.o.later b1);have jv:=U (HX.o.later b1);have jI:=U (HY.o.later b1);have B1:=U ((HB0.o.trans (b1.mono HB0.o.size)).setCell (p:=⟨w.heap.size+1,7,none⟩) (by show w.heap.size<=w.heap.size+1;omega) (ι I b));have H1:=U (H0.o.later B1.o);have HG2:=U (Dv.o.other (c:=w.heap.size+1) (i:=7) (ι I b) (by omega));have fU:=U (jv.o.set 7 (ι I b));have dH:=U (jI.o.other (c:=w.heap.size+1) (i:=7) (ι I b) (by omega));have hX:=jv.o;have hG:=Dv.o;clear b1;have X:=hX.cell;have Xl:=hX.lt;have I0:=hX.free 0;have I1:=hX.free 1;have I2:=hX.free 2;have I3:=hX.free 3;have I4:=hX.free 4;have I5:=hX.free 5;have I6:=hX.free 6;have I7:=hX.free 7;have aM:=hG.cell;have Gl:=hG.lt;clear hX hG;go_wp2_with fail;refine(TL.o _ H1.o).mono ?_;rintro e w4 (⟨rfl,GW⟩|⟨rfl,GW⟩)
 ·have zC:E.T.m<w.heap.size:=by
   obtain⟨f,nn,g1,_⟩:=H0.o;exact g1.tj.tx.map.lt
  have hX:aN w4 (w.heap.size+1) 114 #[ι aF kind,ι I links,ι F size,ι I d0,ι I d1,ι I d2,ι I d3,ι I b]:=(GW.2.block _ fU.o.lt (by omega)).trans fU.o;have hY:aN w4 (w.heap.size+1+1) 114 #[ι aF 0,ι I 0,ι F 0,ι I 0,ι I 0,ι I 0,ι I 0,ι I 0]:=(GW.2.block _ dH.o.lt (by omega)).trans dH.o;have wQ:=U hY;have sw:=U (GW.pre (w0:=w) B1.o);clear GW X Xl aM Gl I0 I1 I2 I3 I4 I5 I6 I7;have X:=hX.cell;have Xl:=hX.lt;have Y:=hY.cell;have Yl:=hY.lt;have J0:=hY.free 0;have J1:=hY.free 1;have J2:=hY.free 2;have J3:=hY.free 3;have J4:=hY.free 4;have J5:=hY.free 5;have J6:=hY.free 6;have J7:=hY.free 7;clear hX hY
  go_wp2
  have BB:=aX (n:=w.heap.size+1+1) (v0:=ι aF kind) (v1:=ι I links) (v2:=ι F size) (v3:=ι I d0) (v4:=ι I d1) (v5:=ι I d2) (v6:=ι I d3) (v7:=ι I b) (aj w.heap.size w4) (by omega);have h9:=fK (wQ.o) (ι aF kind) (ι I links) (ι F size) (ι I d0) (ι I d1) (ι I d2) (ι I d3) (ι I b);unfold dG at h9;have k:=h9.cell;exact bodyPost_ret (v:=τ #[γ #[ι aF kind,ι I links,ι F size,ι I d0,ι I d1,ι I d2,ι I d3,ι I b],ι J 0]) (by simp[results,results312,go_sem,(k 0),(k 1),(k 2),(k 3),(k 4),(k 5),(k 6),(k 7)]) rfl (.inl ⟨rfl,Wr.via H0.o sw.o BB⟩)
 ·have zC:E.T.m<w.heap.size:=by
   obtain⟨f,nn,g1,_⟩:=H0.o;exact g1.tj.tx.map.lt
  have hY:aN w4 (w.heap.size+1+1) 114 #[ι aF 0,ι I 0,ι F 0,ι I 0,ι I 0,ι I 0,ι I 0,ι I 0]:=(GW.2.block _ dH.o.lt (by omega)).trans dH.o;have wQ:=U hY;have sw:=U (GW.pre (w0:=w) B1.o);clear GW X Xl aM Gl I0 I1 I2 I3 I4 I5 I6 I7;have Y:=hY.cell;have Yl:=hY.lt;have J0:=hY.free 0;have J1:=hY.free 1;have J2:=hY.free 2;have J3:=hY.free 3;have J4:=hY.free 4;have J5:=hY.free 5;have J6:=hY.free 6;have J7:=hY.free 7;clear hY
  go_wp2
  have BB:=aX (n:=w.heap.size+1+1) (v0:=ι aF 0) (v1:=ι I 0) (v2:=ι F 0) (v3:=ι I 0) (v4:=ι I 0) (v5:=ι I 0) (v6:=ι I 0) (v7:=ι I 0) (aj w.heap.size w4) (by omega);have h9:=fK (wQ.o) (ι aF 0) (ι I 0) (ι F 0) (ι I 0) (ι I 0) (ι I 0) (ι I 0) (ι I 0);unfold dG at h9;have k:=h9.cell;exact bodyPost_ret (v:=τ #[γ #[ι aF 0,ι I 0,ι F 0,ι I 0,ι I 0,ι I 0,ι I 0,ι I 0],ι J 4]) (by simp[results,results312,go_sem,(k 0),(k 1),(k 2),(k 3),(k 4),(k 5),(k 6),(k 7)]) rfl (.inr ⟨rfl,Fu.via sw.o BB⟩)
end
