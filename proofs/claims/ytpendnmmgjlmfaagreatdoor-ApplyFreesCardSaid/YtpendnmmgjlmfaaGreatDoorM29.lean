/- Lemmas. -/
import Derived.Test.YtpendnmmgjlmfaaGreatDoorM28
import Derived.Laws.OwnMore
import Derived.Below
import Derived.RangeFuncOwn
set_option linter.unusedVariables false
set_option linter.unusedSimpArgs false
namespace Go.Proofs.YtpendnmmgjlmfaaGreatDoor
open Go.RowKit Go.Shelf Go.Maps
open Go.Proofs.Tryz
open IntKind renaming u16→I,i64→J,u32→F,u8→aF
open Value renaming pointer→G,int->ι,string->σ,tuple->τ,slice->θ,agg->γ
open Ending renaming returned→aG
open Obj renaming cells→aH
set_option maxRecDepth 100000
set_option maxHeartbeats 2000000
namespace Bm
open Oct Dev mU Tx Geo qX lC
def jy (W:World) (g:Nat) (l:List Nat):Prop:=∃cs:Array Value,aN W g 111 cs/\∀i (h:i<l.length),cs[i]? =some (ι I l[i])
theorem jy.lt {W:World} {g:Nat} {l:List Nat} (h:jy W g l):g<W.heap.size:=by
 obtain⟨cs,h1,_⟩:=h;exact h1.lt
theorem jy.cell {W:World} {g:Nat} {l:List Nat} (h:jy W g l) (i:Nat) (hi:i<l.length):W.cell? ⟨g,i,none⟩=some (ι I l[i]):=by
 obtain⟨cs,h1,h2⟩:=h;exact(h1.cell i).trans (h2 i hi)
theorem jy.free {W:World} {g:Nat} {l:List Nat} (h:jy W g l) (i:Nat):W.frozen? ⟨g,i,none⟩=false:=by
 obtain⟨cs,h1,_⟩:=h;exact h1.free i
theorem jy.later {W W':World} {g:Nat} {l:List Nat} (h:jy W g l) (hb:Below W.heap.size W W'):jy W' g l:=by
 obtain⟨cs,h1,h2⟩:=h;exact⟨cs,h1.later hb,h2⟩
theorem jy.set {W:World} {g:Nat} {l:List Nat} (h:jy W g l) (i v:Nat):jy (W.setCell ⟨g,i,none⟩ (ι I v)) g (l.set i v):=by
 obtain⟨cs,h1,h2⟩:=h;refine⟨_,h1.set i _,λj hj=>?_⟩;rw[List.length_set]at hj;rw[Array.getElem?_setIfInBounds]
 by_cases e:i=j
 ·subst e
  have hs:i<cs.size:=(Array.getElem?_eq_some_iff.1 (h2 i hj)).1;rw[if_pos rfl,if_pos hs]
  simp
 ·rw[if_neg e,h2 j hj]
  simp[List.getElem_set,e]
theorem jy.YV {W:World} {base n:Nat} {v:Value} {l:List Nat} (h:W.ownsRow base 111 1 v n (l.map iE)) (hn:0<n):∃g cap,v=θ (some ⟨g,0,none⟩) n cap/\base<=g/\n<=cap/\jy W g l:=by
 obtain⟨g,cap,rfl,_,hc⟩:=EH h hn;obtain⟨cur,h1,h2,h3⟩:=zL h;refine⟨g,cap,rfl,h3,hc,cur,h1,λi hi=>h2 i _ ?_⟩;rw[List.getElem?_map,List.getElem?_eq_getElem hi]
 rfl
theorem YW (vs:List Nat) (w:World) (hl:vs.length=32) (hv:∀v∈vs,v<65536):
 Calls prog 231 #[σ (B (cK vs))] w λe w'=>∃g cap,e=aG (τ #[θ (some ⟨g,0,none⟩) 32 cap,ι J 0])/\w.heap.size<=g/\32<=cap/\jy w' g vs/\Below w.heap.size w w':=by
 have GO:=U (λW=>Qu vs W (by omega) hv);have hz:(B (cK vs)).size=64:=by rw[aV,gK];omega
 rw[hl]at GO;clear hv
 generalize B (cK vs)=s at*
 have z1:¬(s.size:Int)<64:=by omega
 have z2:¬(64:Int)<s.size:=by omega
 have z3:¬s.size<64:=by omega
 have z4:¬64<s.size:=by omega
 go_enter func231,ntmps231
 go_wp2_with fail;refine(GO.o _).mono ?_;rintro e w1 ⟨v,rfl,hown,b1⟩;obtain⟨g,cap,rfl,hg,hc,hrow⟩:=jy.YV hown (by omega);have R:=U hrow;have B1:=U b1;clear hrow b1 hown
 go_wp2
 go_ret2;exact⟨g,cap,rfl,hg,hc,R.o,B1.o⟩
structure dS (E:Im) (D:aZ) (ind:Nat) (vs:List Nat):Prop where
 len:vs.length=32
 lt:∀v∈vs,v<=E.bl
 no:ind=0->vs=List.replicate 32 0
 has:ind≠0->D (dq E ind)=B (cK vs)
theorem YX (w:World):∃w',(Instr.makeSlice 53 (ι J 32) (ι J 32)).run prog w=.ok (θ (some w.heap.size) 32 32) w'/\jy w' w.heap.size (List.replicate 32 0)/\Below w.heap.size w w':=by
 obtain⟨i0,hi,hz0,hz1,hz2⟩:=info_parts rA;have h:=run_make (P:=prog) w 53 111 i0 (ι I 0) underlying53 hi hz0 J J 32 32 (by omega) (Int.le_refl _) (by rw[hz2];omega) (by omega);refine⟨_,h,⟨_,aN.new w 111 _,λi hi2=>?_⟩,(aj _ _).alloc (ah _) _⟩;rw[List.length_replicate]at hi2;rw[hz1,List.getElem_replicate];have e:(madeCells (Value.int I 0).cells ((32:Int).toNat*1))=#[ι I 0,ι I 0,ι I 0,ι I 0,ι I 0,ι I 0,ι I 0,ι I 0,ι I 0,ι I 0,ι I 0,ι I 0,ι I 0,ι I 0,ι I 0,ι I 0,ι I 0,ι I 0,ι I 0,ι I 0,ι I 0,ι I 0,ι I 0,ι I 0,ι I 0,ι I 0,ι I 0,ι I 0,ι I 0,ι I 0,ι I 0,ι I 0]:=by kernel_rfl
 rw[e]
 match i,hi2 with
 |0,_|1,_|2,_|3,_|4,_|5,_|6,_|7,_|8,_|9,_|10,_|11,_|12,_|13,_|14,_|15,_|16,_|17,_|18,_|19,_|20,_|21,_|22,_|23,_|24,_|25,_|26,_|27,_|28,_|29,_|30,_|31,_=>rfl
 |n+32,h=>exact absurd h (by omega)
section
variable {E:Im} {D:aZ} {Z:Nat->Prop} {Q:Prop}
theorem Ip (x:aP) (vs:List Nat) (w:World) (hs:Small E) (h:IS w E D Z) (hb:x.ind<=E.bl) (hv:dS E D x.ind vs):
 Calls prog 150 #[E.T.p,dw E.i E.bl E.j,x.val] w λe w'=>∃g cap,e=aG (τ #[θ (some ⟨g,0,none⟩) 32 cap,ι J 0])/\w.heap.size<=g/\32<=cap/\jy w' g vs/\Below w.heap.size w w':=by
 have hbl:=hs.hb;obtain⟨hl,hlt,hno,hhas⟩:=hv;obtain⟨kind,links,size,d0,d1,d2,d3,ind⟩:=x;simp only at hb hno hhas;have HB0:=U (((aj _ w).alloc (ah _) (aH #[ι J E.i,ι J E.bl,ι J E.j] 23)).alloc (by simp) (aH #[ι aF kind,ι I links,ι F size,ι I d0,ι I d1,ι I d2,ι I d3,ι I ind] 114));have hG:=((aN.new w 23 #[ι J E.i,ι J E.bl,ι J E.j]).alloc (aH #[ι aF kind,ι I links,ι F size,ι I d0,ι I d1,ι I d2,ι I d3,ι I ind] 114));have hX:=aN.new (w.alloc (aH #[ι J E.i,ι J E.bl,ι J E.j] 23)) 114 #[ι aF kind,ι I links,ι F size,ι I d0,ι I d1,ι I d2,ι I d3,ι I ind];rw[aC]at hX;have HP:=U (h.later HB0.o);have X:=hX.cell;have Xl:=hX.lt;have aM:=hG.cell;have Gl:=hG.lt;clear hX hG
 by_cases h0:ind=0
 ·have e0:=hno h0
  subst h0 e0;obtain⟨w9,hmk,hrow,b9⟩:=YX ((w.alloc (aH #[ι J E.i,ι J E.bl,ι J E.j] 23)).alloc (aH #[ι aF kind,ι I links,ι F size,ι I d0,ι I d1,ι I d2,ι I d3,ι I 0] 114));simp only[aC]at hrow;have R:=U hrow;have B9:=U (HB0.o.trans (b9.mono HB0.o.size));clear hrow b9 hno hhas;unfold dw aP.val
  go_enter func150,ntmps150
  go_wp2
  go_ret2;exact⟨_,_,rfl,by omega,ah _,R.o,B9.o⟩
 ·have hi0:((ind:Int)==0)=false:=by simp;omega
  have hd:=hhas h0;have hq:=ze hs h.len (b:=ind) (by omega) hb;have BL:=U (λW=>Geo.mo E.i E.bl E.j ind W hs.may (by omega) hb);have RD:=U (λW (h:IS W E D Z)=>GY (dq E ind) W h hq);have TN:=U (λW=>YW vs W hl (λv hv=>by have:=hlt v hv;omega));unfold dw at BL;rw[show cB E.i E.bl E.j 5+ind-1=dq E ind from rfl]at BL;rw[hd]at RD
  generalize dq E ind=q at*
  generalize B (cK vs)=s at*
  unfold dw aP.val;clear hno hhas hd
  go_enter func150,ntmps150
  go_wp2_with fail;refine(BL.o _).mono ?_;rintro e w1 ⟨rfl,b1⟩;have B1:=U (HB0.o.trans (b1.mono HB0.o.size));have H1:=U (HP.o.later b1);clear b1 X Xl aM Gl;go_wp2_with fail;refine(RD.o _ H1.o).mono ?_;rintro e w2 ⟨rfl,b2⟩;have B2:=U (B1.o.trans (b2.mono B1.o.size));clear b2;go_wp2_with fail;refine(TN.o _).mono ?_;rintro e w3 ⟨g,cap,rfl,hg,hc,R,b3⟩;have R:=U R;have hg:=U (aD B2.o.size hg);have B3:=U (B2.o.trans (b3.mono B2.o.size));clear b3
  go_wp2
  go_ret2;exact⟨g,cap,rfl,hg.o,hc,R.o,B3.o⟩
end
def Iq (W:World) (l:List Nat) (v:Value):Prop:=(l=[]/\v=θ none 0 0)\/∃g cap,v=θ (some ⟨g,0,none⟩) l.length cap/\jy W g l
theorem Iq.later {W W':World} {l:List Nat} {v:Value} (h:Iq W l v) (hb:Below W.heap.size W W'):Iq W' l v:=by
 rcases h with h|⟨g,cap,h1,h2⟩
 ·exact .inl h
 ·exact .inr ⟨g,cap,h1,h2.later hb⟩
theorem CE (w:World):Calls prog 124 #[θ none 0 0] w λe w'=>e=aG (σ (B (cK [])))/\Below w.heap.size w w':=by
 go_enter func124,ntmps124
 go_wp2_with fail;refine wp_loop_rounds 1 ?_;rw[rounds_succ]
 go_wp2
 go_ret;exact⟨rfl,aj _ _⟩
theorem Ts (l:List Nat) (v:Value) (w:World) (hl:l.length<=64) (hv:∀v∈l,v<65536) (h:Iq w l v):Calls prog 124 #[v] w λe w'=>e=aG (σ (B (cK l)))/\Below w.heap.size w w':=by
 rcases h with⟨rfl,rfl⟩|⟨g,cap,rfl,hr⟩
 ·exact CE w
 ·exact qj l g 0 cap w hl hv hr.lt (λi hi=>by rw[Nat.zero_add];exact hr.cell i hi)
def dQ (l:List Nat):ByteArray:=B (cK l++oz (64-2*l.length))
theorem Pb {l:List Nat} (h:l.length<=32):(dQ l).size=64:=by
 unfold dQ;rw[aV,List.length_append,gK,mJ];omega
theorem uU {l:List Nat} (h:l.length=32):dQ l=B (cK l):=by
 unfold dQ;rw[h];show B (cK l++[])=_;rw[List.append_nil]
theorem UR:dQ []=B (cK (List.replicate 32 0)):=by
 rw[Am]
 rfl
theorem YZ (l:List Nat) (v:Value) (w:World) (hl:l.length<=32) (hv:∀v∈l,v<65536) (h:Iq w l v):
 Calls prog 233 #[v] w λe w'=>e=aG (τ #[σ (dQ l),ι J 0])/\Below w.heap.size w w':=by
 have PU:=U (Ts l v w (by omega) hv h);have PD:=U (λW=>Qs (B (cK l)) 64 W (by rw[aV,gK];omega) (by omega));rw[show B (L (B (cK l))++oz (64-(B (cK l)).size))=dQ l by rw[iy,aV,gK];rfl]at PD
 generalize dQ l=s2 at*
 generalize B (cK l)=s1 at*
 have q1:¬(32:Int)<l.length:=by omega
 have q2:¬32<l.length:=by omega
 rcases h with⟨rfl,rfl⟩|⟨g,cap,rfl,hr⟩
 ·go_enter func233,ntmps233
  go_wp2_with fail;refine PU.o.mono ?_;rintro e w1 ⟨rfl,b1⟩;have B1:=U b1;go_wp2_with fail;refine(PD.o _).mono ?_;rintro e w2 ⟨rfl,b2⟩;have B2:=U (B1.o.trans (b2.mono B1.o.size));clear b1 b2
  go_wp2
  go_ret2;exact⟨rfl,B2.o⟩
 ·have R:=U hr
  clear hr
  go_enter func233,ntmps233
  go_wp2_with fail;refine PU.o.mono ?_;rintro e w1 ⟨rfl,b1⟩;have B1:=U b1;go_wp2_with fail;refine(PD.o _).mono ?_;rintro e w2 ⟨rfl,b2⟩;have B2:=U (B1.o.trans (b2.mono B1.o.size));clear b1 b2
  go_wp2
  go_ret2;exact⟨rfl,B2.o⟩
section
variable {E:Im} {D:aZ} {Z:Nat->Prop} {Q:Prop}
theorem Ir (x:aP) (l:List Nat) (v:Value) (w:World) (hs:Small E) (h:IS w E D Z) (h1:1<=x.ind) (hb:x.ind<=E.bl) (hl:l.length<=32) (hv:∀v∈l,v<65536) (hsl:Iq w l v) (hz:Z (dq E x.ind)) (hQ:fV E Z->Q):
 Calls prog 152 #[E.T.p,dw E.i E.bl E.j,x.val,v] w (Out (ι J 0) (ι J 4) (Wr E (upd D (dq E x.ind) (dQ l)) Z w) (Fu E Q w)):=by
 have hbl:=hs.hb;have hj:=hs.hj;have hq:=ze hs h.len h1 hb;have hl4:=h.Uq;obtain⟨kind,links,size,d0,d1,d2,d3,ind⟩:=x;simp only at h1 hb hz hq⊢;have BL:=U (λW=>Geo.mo E.i E.bl E.j ind W hs.may h1 hb);have TN:=U (λW (h:Iq W l v)=>YZ l v W hl hv h);have WR:=U (λW (h:IS W E D Z)=>Bh (dq E ind) (dQ l) W h (by omega) hq (Pb hl) hz hQ);unfold dw at BL;rw[show cB E.i E.bl E.j 5+ind-1=dq E ind from rfl]at BL
 generalize upd D (dq E ind) (dQ l)=D2 at*
 generalize dq E ind=q at*
 generalize dQ l=s at*
 have HB0:=U (((aj _ w).alloc (ah _) (aH #[ι J E.i,ι J E.bl,ι J E.j] 23)).alloc (by simp) (aH #[ι aF kind,ι I links,ι F size,ι I d0,ι I d1,ι I d2,ι I d3,ι I ind] 114));have hG:=((aN.new w 23 #[ι J E.i,ι J E.bl,ι J E.j]).alloc (aH #[ι aF kind,ι I links,ι F size,ι I d0,ι I d1,ι I d2,ι I d3,ι I ind] 114));have hX:=aN.new (w.alloc (aH #[ι J E.i,ι J E.bl,ι J E.j] 23)) 114 #[ι aF kind,ι I links,ι F size,ι I d0,ι I d1,ι I d2,ι I d3,ι I ind];rw[aC]at hX;have HP:=U (h.later HB0.o);have HS:=U (hsl.later (Below.mono HB0.o (ah _)));have X0:=hX.cell 0;have X1:=hX.cell 1;have X2:=hX.cell 2;have X3:=hX.cell 3;have X4:=hX.cell 4;have X5:=hX.cell 5;have X6:=hX.cell 6;have X7:=hX.cell 7;simp only[au,av,ay]at X0 X1 X2 X3 X4 X5 X6 X7;have Xl:=hX.lt;have G0:=hG.cell 0;have G1:=hG.cell 1;have G2:=hG.cell 2;simp only[au,av,ay]at G0 G1 G2;have Gl:=hG.lt;clear hX hG h hz hQ hsl;unfold dw aP.val
 go_enter func152,ntmps152
 go_wp2_with fail;refine(BL.o _).mono ?_;rintro e w1 ⟨rfl,b1⟩;have B1:=U (HB0.o.trans (b1.mono HB0.o.size));have H1:=U (HP.o.later b1);have HS1:=U (HS.o.later b1);clear b1 X0 X1 X2 X3 X4 X5 X6 X7 Xl G0 G1 G2 Gl;go_wp2_with fail;refine(TN.o _ HS1.o).mono ?_;rintro e w2 ⟨rfl,b2⟩;have B2:=U (B1.o.trans (b2.mono B1.o.size));have H2:=U (H1.o.later b2);clear b2;go_wp2_with fail;refine(WR.o _ H2.o).mono ?_;rintro e w3 (⟨rfl,aM⟩|⟨rfl,aM⟩)
 ·have aM:=U (aM.pre B2.o)
  go_wp2
  go_ret;exact .inl ⟨rfl,aM.o⟩
 ·have aM:=U (aM.pre B2.o)
  go_wp2
  go_ret;exact .inr ⟨rfl,aM.o⟩
end
def nE (x:aP) (vs:List Nat):List Nat:=x.d0::x.d1::x.d2::x.d3::vs
def aT (x:aP) (vs:List Nat) (p:Nat):Nat:=(nE x vs).getD p 0
def gy (x:aP):Nat->Nat->aP
 |0,b=>{x with d0:=b}
 |1,b=>{x with d1:=b}
 |2,b=>{x with d2:=b}
 |3,b=>{x with d3:=b}
 |_,_=>x
theorem rY {x:aP} {vs:List Nat} {p:Nat} (h4:4<=p) (hl:vs.length=32) (hp:p<36):∃h:p-4<vs.length,aT x vs p=vs[p-4]:=by
 refine⟨by omega,?_⟩;obtain⟨q,rfl⟩:∃q,p=q+4:=⟨p-4,by omega⟩;unfold aT nE;have e:q+4-4=q:=by omega
 simp only[List.getD_cons_succ];rw[List.getD_eq_getElem?_getD,List.getElem?_eq_getElem (by omega)]
 simp
section
variable {E:Im} {D:aZ} {Z:Nat->Prop} {Q:Prop}
theorem Tu (x:aP) (vs:List Nat) (p:Nat) (w:World) (hs:Small E) (hi:mX E.bl x) (hp:p<4):
 Calls prog 235 #[E.T.p,dw E.i E.bl E.j,x.val,ι J p] w λe w'=>e=aG (τ #[ι I (aT x vs p),ι J 0])/\Below w.heap.size w w':=by
 have MA:=U (λW=>xY E.i E.bl E.j 0 E.T.p x true W hs.may hi (by omega));obtain⟨kind,links,size,d0,d1,d2,d3,ind⟩:=x;have HB0:=U (((aj _ w).alloc (ah _) (aH #[ι J E.i,ι J E.bl,ι J E.j] 23)).alloc (by simp) (aH #[ι aF kind,ι I links,ι F size,ι I d0,ι I d1,ι I d2,ι I d3,ι I ind] 114));have hX:=aN.new (w.alloc (aH #[ι J E.i,ι J E.bl,ι J E.j] 23)) 114 #[ι aF kind,ι I links,ι F size,ι I d0,ι I d1,ι I d2,ι I d3,ι I ind];rw[aC]at hX;have HX:=U hX;clear hX hi;unfold dw aP.val at*
 match p,hp with
 |0,_|1,_|2,_|3,_=>
  go_enter func235,ntmps235
  go_wp2_with fail;refine(MA.o _).mono ?_;rintro e w1 ⟨rfl,b1⟩;have hX:=HX.o.later b1;have B1:=U (HB0.o.trans (b1.mono HB0.o.size));clear b1;have X:=hX.cell;have Xl:=hX.lt;clear hX
  go_wp2
  go_ret2;exact⟨rfl,B1.o⟩
theorem Ty (x:aP) (vs:List Nat) (p:Nat) (w:World) (hs:Small E) (h:IS w E D Z) (hi:mX E.bl x) (hv:dS E D x.ind vs) (h4:4<=p) (hp:p<36):
 Calls prog 235 #[E.T.p,dw E.i E.bl E.j,x.val,ι J p] w λe w'=>e=aG (τ #[ι I (aT x vs p),ι J 0])/\Below w.heap.size w w':=by
 have MA:=U (λW=>xY E.i E.bl E.j 0 E.T.p x true W hs.may hi (by omega));obtain⟨hq,hpg⟩:=rY (x:=x) h4 hv.len hp;rw[hpg];have TD:=U (λW (h:IS W E D Z)=>Ip x vs W hs h hi.2.2.2.2 hv);have hq2:=hv.len;obtain⟨kind,links,size,d0,d1,d2,d3,ind⟩:=x;have HB0:=U (((aj _ w).alloc (ah _) (aH #[ι J E.i,ι J E.bl,ι J E.j] 23)).alloc (by simp) (aH #[ι aF kind,ι I links,ι F size,ι I d0,ι I d1,ι I d2,ι I d3,ι I ind] 114));have HG:=U ((aN.new w 23 #[ι J E.i,ι J E.bl,ι J E.j]).alloc (aH #[ι aF kind,ι I links,ι F size,ι I d0,ι I d1,ι I d2,ι I d3,ι I ind] 114));have hX:=aN.new (w.alloc (aH #[ι J E.i,ι J E.bl,ι J E.j] 23)) 114 #[ι aF kind,ι I links,ι F size,ι I d0,ι I d1,ι I d2,ι I d3,ι I ind];rw[aC]at hX;have HX:=U hX;have HP:=U (h.later HB0.o);clear hX hi h hv hpg;unfold dw aP.val at*;have q0:(0:Int)<=p:=by omega
 have q1:(p:Int)<36:=by omega
 have q2:¬(p:Int)<4:=by omega
 have q3:decide (p<4)=false:=by simp;omega
 have q4:(0:Int)<=(p:Int)-4:=by omega
 have q5:(p:Int)-4<32:=by omega
 have q6:((p:Int)-4).toNat=p-4:=by omega
 go_enter func235,ntmps235
 go_wp2_with fail;refine(MA.o _).mono ?_;rintro e w1 ⟨rfl,b1⟩;have hX:=HX.o.later b1;have hG:=HG.o.later b1;have H1:=U (HP.o.later b1);have B1:=U (HB0.o.trans (b1.mono HB0.o.size));clear b1;have X:=hX.cell;have Xl:=hX.lt;have aM:=hG.cell;have Gl:=hG.lt;clear hX hG;go_wp2_with fail;refine(TD.o _ H1.o).mono ?_;rintro e w2 ⟨g,cap,rfl,hg,hc,R,b2⟩;have c1:=R.cell (p-4) hq;have gl:=R.lt;have B2:=U (B1.o.trans (b2.mono B1.o.size));clear b2 R hg hc X Xl aM Gl
 go_wp2
 go_ret2;exact⟨rfl,B2.o⟩
theorem rZ (x:aP) (vs:List Nat) (p:Nat) (w:World) (hs:Small E) (h:IS w E D Z) (hi:mX E.bl x) (hv:dS E D x.ind vs) (hp:p<36):
 Calls prog 235 #[E.T.p,dw E.i E.bl E.j,x.val,ι J p] w λe w'=>e=aG (τ #[ι I (aT x vs p),ι J 0])/\Below w.heap.size w w':=by
 by_cases h4:p<4
 ·exact Tu x vs p w hs hi h4
 ·exact Ty x vs p w hs h hi hv (by omega) hp
theorem TE (x:aP) (p b:Nat) (w:World) (hs:Small E) (hi:mX E.bl x) (hb:b<=E.bl) (hp:p<4):
 Calls prog 313 #[E.T.p,dw E.i E.bl E.j,x.val,ι J p,ι I b] w λe w'=>e=aG (τ #[(gy x p b).val,ι J 0])/\Below w.heap.size w w':=by
 have MA:=U (λW=>xY E.i E.bl E.j b E.T.p x true W hs.may hi hb);obtain⟨kind,links,size,d0,d1,d2,d3,ind⟩:=x;have HB0:=U ((((aj _ w).alloc (ah _) (aH #[ι J E.i,ι J E.bl,ι J E.j] 23)).alloc (by simp) (aH #[ι aF kind,ι I links,ι F size,ι I d0,ι I d1,ι I d2,ι I d3,ι I ind] 114)).alloc (by simp;omega) (aH #[ι aF 0,ι I 0,ι F 0,ι I 0,ι I 0,ι I 0,ι I 0,ι I 0] 114));have hX:=aN.new (w.alloc (aH #[ι J E.i,ι J E.bl,ι J E.j] 23)) 114 #[ι aF kind,ι I links,ι F size,ι I d0,ι I d1,ι I d2,ι I d3,ι I ind];rw[aC]at hX;have HX:=U (hX.alloc (aH #[ι aF 0,ι I 0,ι F 0,ι I 0,ι I 0,ι I 0,ι I 0,ι I 0] 114));have hY:=aN.new ((w.alloc (aH #[ι J E.i,ι J E.bl,ι J E.j] 23)).alloc (aH #[ι aF kind,ι I links,ι F size,ι I d0,ι I d1,ι I d2,ι I d3,ι I ind] 114)) 114 #[ι aF 0,ι I 0,ι F 0,ι I 0,ι I 0,ι I 0,ι I 0,ι I 0];rw[aC,aC]at hY;have HY:=U hY;clear hX hY hi;unfold dw aP.val at*
 match p,hp with
 |0,_=>
  go_enter func313,ntmps313
  go_wp2_with fail;refine(MA.o _).mono ?_;rintro e w1 ⟨rfl,b1⟩;have hX:=HX.o.later b1;have hY:=HY.o.later b1;have jv:=U hX;have jI:=U hY;have B1:=U (HB0.o.trans (b1.mono HB0.o.size));clear b1;have X:=hX.cell;have Xl:=hX.lt;have F0:=hX.free 0;have F1:=hX.free 1;have F2:=hX.free 2;have F3:=hX.free 3;have F4:=hX.free 4;have F5:=hX.free 5;have F6:=hX.free 6;have F7:=hX.free 7;have Y:=hY.cell;have Yl:=hY.lt;have J0:=hY.free 0;have J1:=hY.free 1;have J2:=hY.free 2;have J3:=hY.free 3;have J4:=hY.free 4;have J5:=hY.free 5;have J6:=hY.free 6;have J7:=hY.free 7;clear hX hY
  go_wp2
  have BB:=aX (n:=w.heap.size+1+1) (v0:=ι aF kind) (v1:=ι I links) (v2:=ι F size) (v3:=ι I b) (v4:=ι I d1) (v5:=ι I d2) (v6:=ι I d3) (v7:=ι I ind) (B1.o.setCell (p:=⟨w.heap.size+1,3,none⟩) (by simp) (ι I b)) (by omega);have h9:=fK (jI.o.other (c:=w.heap.size+1) (i:=3) (ι I b) (by omega)) (ι aF kind) (ι I links) (ι F size) (ι I b) (ι I d1) (ι I d2) (ι I d3) (ι I ind);unfold dG at h9;have k:=h9.cell;exact bodyPost_ret (v:=τ #[γ #[ι aF kind,ι I links,ι F size,ι I b,ι I d1,ι I d2,ι I d3,ι I ind],ι J 0]) (by simp[results,results313,go_sem,(k 0),(k 1),(k 2),(k 3),(k 4),(k 5),(k 6),(k 7)]) rfl ⟨rfl,BB⟩
 |1,_=>
  go_enter func313,ntmps313
  go_wp2_with fail;refine(MA.o _).mono ?_;rintro e w1 ⟨rfl,b1⟩;have hX:=HX.o.later b1;have hY:=HY.o.later b1;have jv:=U hX;have jI:=U hY;have B1:=U (HB0.o.trans (b1.mono HB0.o.size));clear b1;have X:=hX.cell;have Xl:=hX.lt;have F0:=hX.free 0;have F1:=hX.free 1;have F2:=hX.free 2;have F3:=hX.free 3;have F4:=hX.free 4;have F5:=hX.free 5;have F6:=hX.free 6;have F7:=hX.free 7;have Y:=hY.cell;have Yl:=hY.lt;have J0:=hY.free 0;have J1:=hY.free 1;have J2:=hY.free 2;have J3:=hY.free 3;have J4:=hY.free 4;have J5:=hY.free 5;have J6:=hY.free 6;have J7:=hY.free 7;clear hX hY
  go_wp2
  have BB:=aX (n:=w.heap.size+1+1) (v0:=ι aF kind) (v1:=ι I links) (v2:=ι F size) (v3:=ι I d0) (v4:=ι I b) (v5:=ι I d2) (v6:=ι I d3) (v7:=ι I ind) (B1.o.setCell (p:=⟨w.heap.size+1,4,none⟩) (by simp) (ι I b)) (by omega);have h9:=fK (jI.o.other (c:=w.heap.size+1) (i:=4) (ι I b) (by omega)) (ι aF kind) (ι I links) (ι F size) (ι I d0) (ι I b) (ι I d2) (ι I d3) (ι I ind);unfold dG at h9;have k:=h9.cell;exact bodyPost_ret (v:=τ #[γ #[ι aF kind,ι I links,ι F size,ι I d0,ι I b,ι I d2,ι I d3,ι I ind],ι J 0]) (by simp[results,results313,go_sem,(k 0),(k 1),(k 2),(k 3),(k 4),(k 5),(k 6),(k 7)]) rfl ⟨rfl,BB⟩
 |2,_=>
  go_enter func313,ntmps313
  go_wp2_with fail;refine(MA.o _).mono ?_;rintro e w1 ⟨rfl,b1⟩;have hX:=HX.o.later b1;have hY:=HY.o.later b1;have jv:=U hX;have jI:=U hY;have B1:=U (HB0.o.trans (b1.mono HB0.o.size));clear b1;have X:=hX.cell;have Xl:=hX.lt;have F0:=hX.free 0;have F1:=hX.free 1;have F2:=hX.free 2;have F3:=hX.free 3;have F4:=hX.free 4;have F5:=hX.free 5;have F6:=hX.free 6;have F7:=hX.free 7;have Y:=hY.cell;have Yl:=hY.lt;have J0:=hY.free 0;have J1:=hY.free 1;have J2:=hY.free 2;have J3:=hY.free 3;have J4:=hY.free 4;have J5:=hY.free 5;have J6:=hY.free 6;have J7:=hY.free 7;clear hX hY
  go_wp2
  have BB:=aX (n:=w.heap.size+1+1) (v0:=ι aF kind) (v1:=ι I links) (v2:=ι F size) (v3:=ι I d0) (v4:=ι I d1) (v5:=ι I b) (v6:=ι I d3) (v7:=ι I ind) (B1.o.setCell (p:=⟨w.heap.size+1,5,none⟩) (by simp) (ι I b)) (by omega);have h9:=fK (jI.o.other (c:=w.heap.size+1) (i:=5) (ι I b) (by omega)) (ι aF kind) (ι I links) (ι F size) (ι I d0) (ι I d1) (ι I b) (ι I d3) (ι I ind);unfold dG at h9;have k:=h9.cell;exact bodyPost_ret (v:=τ #[γ #[ι aF kind,ι I links,ι F size,ι I d0,ι I d1,ι I b,ι I d3,ι I ind],ι J 0]) (by simp[results,results313,go_sem,(k 0),(k 1),(k 2),(k 3),(k 4),(k 5),(k 6),(k 7)]) rfl ⟨rfl,BB⟩
 |3,_=>
  go_enter func313,ntmps313
  go_wp2_with fail;refine(MA.o _).mono ?_;rintro e w1 ⟨rfl,b1⟩;have hX:=HX.o.later b1;have hY:=HY.o.later b1;have jv:=U hX;have jI:=U hY;have B1:=U (HB0.o.trans (b1.mono HB0.o.size));clear b1;have X:=hX.cell;have Xl:=hX.lt;have F0:=hX.free 0;have F1:=hX.free 1;have F2:=hX.free 2;have F3:=hX.free 3;have F4:=hX.free 4;have F5:=hX.free 5;have F6:=hX.free 6;have F7:=hX.free 7;have Y:=hY.cell;have Yl:=hY.lt;have J0:=hY.free 0;have J1:=hY.free 1;have J2:=hY.free 2;have J3:=hY.free 3;have J4:=hY.free 4;have J5:=hY.free 5;have J6:=hY.free 6;have J7:=hY.free 7;clear hX hY
  go_wp2
  have BB:=aX (n:=w.heap.size+1+1) (v0:=ι aF kind) (v1:=ι I links) (v2:=ι F size) (v3:=ι I d0) (v4:=ι I d1) (v5:=ι I d2) (v6:=ι I b) (v7:=ι I ind) (B1.o.setCell (p:=⟨w.heap.size+1,6,none⟩) (by simp) (ι I b)) (by omega);have h9:=fK (jI.o.other (c:=w.heap.size+1) (i:=6) (ι I b) (by omega)) (ι aF kind) (ι I links) (ι F size) (ι I d0) (ι I d1) (ι I d2) (ι I b) (ι I ind);unfold dG at h9;have k:=h9.cell;exact bodyPost_ret (v:=τ #[γ #[ι aF kind,ι I links,ι F size,ι I d0,ι I d1,ι I d2,ι I b,ι I ind],ι J 0]) (by simp[results,results313,go_sem,(k 0),(k 1),(k 2),(k 3),(k 4),(k 5),(k 6),(k 7)]) rfl ⟨rfl,BB⟩
end
def gN (cs:Array Value) (o a:Nat):Nat->Array Value
 |0=>cs
 |k+1=>(gN cs o a k).setIfInBounds (o+(a+k)) (ι I 0)
theorem BQ (cs:Array Value) (o a:Nat):∀k,(gN cs o a k).size=cs.size
 |0=>rfl
 |k+1=>by simp[gN,BQ cs o a k]
theorem xZ (cs:Array Value) (o a:Nat):∀(k i:Nat),(gN cs o a k)[i]? =if o+a<=i/\i<o+a+k/\i<cs.size then some (ι I 0)else cs[i]?
 |0,i=>by
  rw[if_neg (by omega)]
  rfl
 |k+1,i=>by
  rw[gN,Array.getElem?_setIfInBounds,BQ,xZ cs o a k i]
  by_cases e:o+(a+k)=i
  ·subst e
   rw[if_pos rfl]
   by_cases hs:o+(a+k)<cs.size
   ·rw[if_pos hs,if_pos (by omega)]
   ·rw[if_neg hs,if_neg (by omega),Array.getElem?_eq_none (by omega)]
  ·rw[if_neg e]
   by_cases hc:o+a<=i/\i<o+a+k/\i<cs.size
   ·rw[if_pos hc,if_pos (by omega)]
   ·rw[if_neg hc,if_neg (by omega)]
def UW (l:List Nat) (a m:Nat):List Nat:=(List.range' a m).filter λk=>l.getD k 0 !=0
theorem Lm (l:List Nat) (a m:Nat):UW l a (m+1)=UW l a m++if l.getD (a+m) 0=0 then[]else[a+m]:=by
 unfold UW;rw[List.range'_1_concat,List.filter_append]
 congr 1
 by_cases h:l.getD (a+m) 0=0
 ·rw[if_pos h,List.filter_cons_of_neg (by simpa using h)]
  rfl
 ·rw[if_neg h,List.filter_cons_of_pos (by simpa using h)]
  rfl
structure Za where
 b:Nat
 o:Nat
 t:TypeId
 cs:Array Value
 l:List Nat
 a:Nat
def Za.Ok (r:Za):Prop:=∀i (h:i<r.l.length),r.cs[r.o+i]? =some (ι I r.l[i])
def CI (S:Nat->TypeId->Prop) (X Y:World):Prop:=∀c t cs,S c t->aN X c t cs->aN Y c t cs
theorem CI.trans {S:Nat->TypeId->Prop} {X Y Z:World} (h:CI S X Y) (g:CI S Y Z):CI S X Z:=λc t cs hc hs=>g c t cs hc (h c t cs hc hs)
def Zb (b:Nat) (t:TypeId) (fB lB:Nat) (c:Nat) (u:TypeId):Prop:=(c=b/\u=t)\/(c=fB/\u=3)\/(c=lB/\u=53)
def NxT (r:Za) (pre:List Nat) (x:Nat) (W:World):Prop:=x<r.l.length/\r.a<=x/\r.l.getD x 0≠0/\pre=UW r.l r.a (x-r.a)/\aN W r.b r.t (gN r.cs r.o r.a (x-r.a+1))
def FinT (r:Za) (xs:List Nat) (W:World):Prop:=xs=UW r.l r.a (r.l.length-r.a)/\aN W r.b r.t (gN r.cs r.o r.a (r.l.length-r.a))
def Dd (l:List Nat) (x:Nat):Array Value:=#[ι I (l.getD x 0:Nat)]
theorem Fa (a:Addr) (n cap:Nat) (f:Int) (w:World):Calls prog 151 #[θ (some a) n cap,ι J f] w λe w'=>e=aG (.func (.func 232) #[] #[G (some ⟨w.heap.size+1,0,none⟩),w.heap.size])/\(w.alloc (aH #[θ (some a) n cap] 53)).alloc (aH #[ι J f] 3)=w':=by
 go_enter func151,ntmps151
 go_wp2
 go_ret;exact⟨rfl,rfl⟩
theorem Fb (n:Nat) (hn:1<=n) (r:Za) (hr:r.Ok) (cap:Nat) (f:Int) (ha:r.a=f.toNat) (hf:f<=1000) (hl:r.l.length<=1000) (w:World) (fB lB:Nat) (hF:aN w fB 3 #[ι J f]) (hL:aN w lB 53 #[θ (some ⟨r.b,r.o,none⟩) r.l.length cap]) (hR:aN w r.b r.t r.cs) (hbl:r.b≠lB) (hbf:r.b≠fB):
 RG Fence.wide n prog 232 #[fB,lB] (Dd r.l) (aR (λc=>c=r.b)) (CI (Zb r.b r.t fB lB)) (NxT r) (FinT r) w:=by
 intro l aK Jx W hW hJ hJx hY h0;have hF0:=hF.later hW;have hL0:=hL.later hW;have hR0:=hR.later hW;have f0:=hF0.cell 0;have fl:=hF0.lt;simp only[au,av]at f0;refine callsIn_of_wp func232 rfl trivial ?_ rfl;simp only[ntmps232,List.size_toArray,List.length_cons,List.length_nil,Nat.reduceAdd,Nat.reduceSub,Array.replicate_succ,Array.replicate_zero,List.push_toArray,List.append_toArray,List.nil_append,List.cons_append];have hln:r.l.length<=9223372036854775807:=by omega
 have hka:r.a<=1000:=by omega
 clear hF0 hF hL hR
 gi_wp2
 clear f0 fl;have mx:max f 0=((r.a:Nat):Int):=by rw[ha];omega
 gi_loopw [4] (λc wr=>∃k:Nat,r.a<=k/\(k<=r.l.length\/k=r.a)/\c=ι J k/\aK (UW r.l r.a (k-r.a)) wr/\aN wr r.b r.t (gN r.cs r.o r.a (k-r.a))/\aN wr lB 53 #[θ (some ⟨r.b,r.o,none⟩) r.l.length cap]) (λc _=>r.l.length-(intOf c).toNat)
 case atStart=>exact⟨r.a,ah _,.inr rfl,by rw[mx],by rw[Nat.sub_self];exact h0,by rw[Nat.sub_self];exact hR0,hL0⟩
 case round=>
  obtain⟨k,hk,hk2,rfl,hJk,hRk,hLk⟩:=hrel;clear h0 hR0 hL0 mx
  by_cases hlt:k<r.l.length
  ·have L0:=hLk.cell 0
   have Ll:=hLk.lt;simp only[au,av]at L0;have c1:wr.cell? ⟨r.b,r.o+k,none⟩=some (ι I (r.l[k]:Nat)):=(hRk.cell _).trans (by rw[xZ,if_neg (by omega)];exact hr k hlt);have f1:=hRk.free (r.o+k);have bl:=hRk.lt;have q0:(0:Int)<=k:=by omega
   have q1:(k:Int)<r.l.length:=by omega
   have e1:r.a+(k-r.a)=k:=by omega
   have e2:k+1-r.a=k-r.a+1:=by omega
   have hgd:r.l.getD k 0=r.l[k]:=by rw[List.getD_eq_getElem?_getD,List.getElem?_eq_getElem hlt];rfl
   have hR3:aN (wr.setCell ⟨r.b,r.o+k,none⟩ (ι I 0)) r.b r.t (gN r.cs r.o r.a (k-r.a+1)):=by
    have h:=hRk.set (r.o+k) (ι I 0);rw[gN,e1];exact h
   have hL3:=U (hLk.other (c:=r.b) (i:=r.o+k) (ι I 0) hbl.symm);have hJ3:=hJ _ _ _ hJk (aR.set (S:=λc=>c=r.b) (c:=r.b) (i:=r.o+k) (ι I 0) rfl);have HR3:=U hR3;have hns:=Lm r.l r.a (k-r.a);rw[e1,hgd]at hns;clear hRk hLk hJk
   by_cases hz:r.l[k]=0
   ·have hz2:((r.l[k]:Nat):Int)=0:=by omega
    rw[if_pos hz,List.append_nil]at hns;rw[hz2]at c1;have HJ3:=U hJ3;clear hJ3 hR3 hY hJ hJx
    gi_wp2
    refine⟨(λf h=>by cases h),?_⟩
    gi_wp2
    go_roundw
    case rel=>exact⟨k+1,by omega,.inl (by omega),by simp,by rw[e2,hns];exact HJ3.o,by rw[e2];exact HR3.o,hL3.o⟩
    case measure=>simp[intOf];omega
   ·have hz2:(((r.l[k]:Nat):Int)!=0)=true:=by simp;omega
    rw[if_neg hz]at hns;obtain⟨fn,tmps,assign,body,hy,hRn⟩:=hY _ k _ hJ3 ⟨hlt,hk,by rw[hgd];exact hz,rfl,hR3⟩;unfold Dd at hy;rw[hgd]at hy;clear hJ3 hR3
    generalize r.l[k]=x at*
    gi_wp2
    refine hRn.mono ?_;rintro e W4 (⟨rfl,hJ4,hk4⟩|⟨rfl,hJx4⟩)
    ·have hR4:=U (hk4 _ _ _ (.inl ⟨rfl,rfl⟩) HR3.o)
     have hL4:=U (hk4 _ _ _ (.inr (.inr ⟨rfl,rfl⟩)) hL3.o);have HJ4:=U hJ4;clear hJ4 hk4
     gi_wp2
     go_roundw
     case rel=>exact⟨k+1,by omega,.inl (by omega),by simp,by rw[e2,hns];exact HJ4.o,by rw[e2];exact hR4.o,hL4.o⟩
     case measure=>first|omega|(simp[Go.RowKit.intOf];omega)|(show r.l.length-((k:Int)+1).toNat<r.l.length-(k:Int).toNat;omega)
    ·gi_wp2
     refine bodyPost_ret (results_none rfl _ _ _) rfl ?_;exact⟨⟨_,rfl⟩,.inr ⟨_,hJx4⟩⟩
  ·have L0:=hLk.cell 0
   have Ll:=hLk.lt;simp only[au,av]at L0;have q1:¬(k:Int)<r.l.length:=by omega
   have e1:k-r.a=r.l.length-r.a:=by omega
   rw[e1]at hRk hJk;have HR:=U hRk;have HJ:=U hJk;clear hRk hJk hY hJ hJx hLk
   gi_wp2
   go_end0;exact⟨⟨_,rfl⟩,.inl ⟨_,⟨rfl,HR.o⟩,HJ.o⟩⟩
def iI (x:aP):List Nat:=[x.d0,x.d1,x.d2,x.d3]
def jY (x:aP) (p:Nat):aP:=
 {x with d0:=if p<=0 then 0 else x.d0,d1:=if p<=1 then 0 else x.d1,d2:=if p<=2 then 0 else x.d2,d3:=if p<=3 then 0 else x.d3}
def lK (vs:List Nat) (p:Nat):List Nat:=vs.mapIdx λk v=>if p<=k+4 then 0 else v
def zf (x:aP) (p:Nat):List Nat:=(UW (iI x) p (4-p)).map λk=>(iI x).getD k 0
def pR (vs:List Nat) (p:Nat):List Nat:=(UW vs (p-4) (32-(p-4))).map λk=>vs.getD k 0
theorem Iu (x:aP) (p:Nat):gN x.cells 3 p (4-p)=(jY x p).cells:=by
 match p with
 |0|1|2|3=>rfl
 |p+4=>
  have e:4-(p+4)=0:=by omega
  rw[e];unfold jY aP.cells gN;simp only;rw[if_neg (by omega),if_neg (by omega),if_neg (by omega),if_neg (by omega)]
theorem iw (vs:List Nat) (p:Nat):(lK vs p).length=vs.length:=by simp[lK]
theorem mE {vs:List Nat} {p k:Nat} (h:k<vs.length):(lK vs p)[k]'(by rw[iw];exact h)=if p<=k+4 then 0 else vs[k]:=by
 simp[lK]
theorem UY {W:World} {g p:Nat} {vs:List Nat} {cs:Array Value} (hl:vs.length=32) (hc:∀i (h:i<vs.length),cs[i]? =some (ι I vs[i])) (h:aN W g 111 (gN cs 0 (p-4) (32-(p-4)))):jy W g (lK vs p):=by
 refine⟨_,h,λi hi=>?_⟩;rw[iw]at hi;have hs:i<cs.size:=(Array.getElem?_eq_some_iff.1 (hc i hi)).1;rw[xZ,mE hi]
 by_cases hp:p<=i+4
 ·rw[if_pos hp,if_pos (by omega)]
  rfl
 ·rw[if_neg hp,if_neg (by omega)]
  exact hc i hi
def wP (FB B:Nat) (fr:List Nat) (W:World):Prop:=∃v,aN W FB 53 #[v]/\W.ownsRow B 111 1 v fr.length (fr.map iE)
theorem mF {W:World} {base n o:Nat} {t:TypeId} {v:Value} {xs:List Value} (h:W.ownsRow base t 1 v n xs) (ho:v.ownBlock=some o):base<=o/\∃cur,aN W o t cur:=by
 rcases h.2 with⟨rfl,_⟩|⟨g,cap,cur,rfl,hb,hg,_⟩
 ·cases ho
 ·simp only[Value.ownBlock,Option.some.injEq]at ho
  subst ho;exact⟨hb,cur,hg⟩
theorem wP.own {B0 FB B:Nat} {fr:List Nat} {W W':World} {row:Option Nat} (h:wP FB B fr W) (hg:W.grownBy W' row) (hr:∀r,row=some r->B0<=r/\∃o:Obj,W.heap[r]? =some o/\o.isCells=false):wP FB B fr W':=by
 obtain⟨v,h1,h2⟩:=h;refine⟨v,h1.kept hg (λe=>?_),h2.kept hg ?_⟩
 ·obtain⟨_,o,ho,hc⟩:=hr FB e.symm
  rw[show W.heap[FB]? =_ from h1]at ho;cases ho;cases hc
 ·rcases h2.2 with⟨rfl,_⟩|⟨g,cap,cur,rfl,_,hgb,_⟩
  ·exact .inl rfl
  ·refine .inr (λe=>?_)
   obtain⟨_,o,ho,hc⟩:=hr g e.symm;rw[hgb]at ho;cases ho;cases hc
theorem wP.qR {FB B b:Nat} {fr:List Nat} {W W':World} (h:wP FB B fr W) (hT:aR (λc=>c=b) W W') (h1:FB≠b) (h2:b<B):wP FB B fr W':=by
 obtain⟨v,h3,h4⟩:=h;refine⟨v,(hT.block _ h3.lt h1).trans h3,h4.1,?_⟩
 rcases h4.2 with h5|⟨g,cap,cur,rfl,hb,hgb,h6⟩
 ·exact .inl h5
 ·exact .inr ⟨g,cap,cur,rfl,hb,(hT.block g (Array.getElem?_eq_some_iff.1 hgb).1 (by omega)).trans hgb,h6⟩
structure Zc (FB B:Nat) (fr:List Nat) (v:Value) (W W3:World):Prop where
 held:wP FB B fr W3
 qR:aR (λc=>c=FB\/some c=v.ownBlock) W W3
 keeps:∀bb,KeepsFrom bb W W3
theorem BU {W W2:World} {FB B b:Nat} {v v':Value} {fr:List Nat} (hv:aN W FB 53 #[v]) (hrow:W.ownsRow B 111 1 v fr.length (fr.map iE)) (hFB:FB<B)
 (hg:(W.alloc (aH #[ι I b] 111)).grownBy W2 v.ownBlock) (ho:W2.ownsRow B 111 1 v' (fr.length+1) (fr.map iE++[ι I b])):
 aN W2 FB 53 #[v]/\Zc FB B (fr++[b]) v W (W2.setCell ⟨FB,0,none⟩ v'):=by
 have hne:some FB≠v.ownBlock:=λe=>by have:=(mF hrow e.symm).1;omega
 have h2:aN W2 FB 53 #[v]:=(hv.alloc _).kept hg hne;have T1:aR (λc=>c=FB\/some c=v.ownBlock) W W2:=(aR.of_below ((aj _ W).alloc (ah _) _)).trans (aR.grown hg (λr e=>.inr e.symm));refine⟨h2,⟨⟨v',h2.set 0 v',?_⟩,T1.trans (aR.set _ (.inl rfl)),λbb=>?_⟩⟩
 ·rw[List.length_append,List.map_append]
  exact ownsRow_setCell_below ho (a:=⟨FB,0,none⟩) hFB _
 ·refine KeepsFrom.trans (Y:=W2) ⟨T1.size,λk o _ hk hc=>(T1.block k (Array.getElem?_eq_some_iff.1 hk).1 ?_).trans hk⟩ ((KeepsOthers.setCell _ _ _).from _)
  rintro(rfl|e)
  ·rw[show W.heap[k]? =_ from hv]at hk
   cases hk;cases hc
  ·obtain⟨_,cur,hcur⟩:=mF hrow e.symm
   rw[show W.heap[k]? =_ from hcur]at hk;cases hk;cases hc
theorem Zc.keep {FB B:Nat} {fr zZ:List Nat} {v:Value} {W W3:World} (h:Zc FB B fr v W W3) (hrow:W.ownsRow B 111 1 v zZ.length (zZ.map iE)) {c:Nat} {t:TypeId} {cs:Array Value} (hs:aN W c t cs) (hc:c≠FB) (hb:c<B\/t≠111):aN W3 c t cs:=by
 refine(h.qR.block c hs.lt ?_).trans hs;rintro(e|e)
 ·exact hc e
 ·obtain⟨h1,cur,hcur⟩:=mF hrow e.symm
  rcases hb with hb|hb
  ·omega
  ·have h2:W.heap[c]? =_:=hcur
   rw[show W.heap[c]? =_ from hs]at h2;cases h2;exact hb rfl
theorem Zc.kp {FB B:Nat} {fr zZ:List Nat} {v:Value} {W W3:World} {b fB lB:Nat} {t:TypeId} (h:Zc FB B fr v W W3) (hrow:W.ownsRow B 111 1 v zZ.length (zZ.map iE)) (h1:b≠FB) (h2:b<B) (h3:fB≠FB) (h4:lB≠FB):CI (Zb b t fB lB) W W3:=by
 rintro c u cs (⟨rfl,rfl⟩|⟨rfl,rfl⟩|⟨rfl,rfl⟩) hs
 ·exact h.keep hrow hs h1 (.inl h2)
 ·exact h.keep hrow hs h3 (.inr (by decide))
 ·exact h.keep hrow hs h4 (.inr (by decide))
theorem RH {b fB lB:Nat} {t:TypeId} (W:World) (l:Nat) (o o':Obj) (hl:W.heap[l]? =some o) (ho:o.isCells=false):CI (Zb b t fB lB) W (W.putObj l o'):=λc u cs _ hs=>
 (World.putObj_heap_other (λe=>by subst e;rw[show W.heap[_]? =_ from hs]at hl;cases hl;cases ho)).trans hs
theorem pU {W:World} {l c:Nat} {o o':Obj} {t:TypeId} {cs:Array Value} (hl:W.heap[l]? =some o) (ho:o.isCells=false) (hs:aN W c t cs):aN (W.putObj l o') c t cs:=
 (World.putObj_heap_other (λe=>by subst e;rw[show W.heap[_]? =_ from hs]at hl;cases hl;cases ho)).trans hs
theorem Fe {W W':World} {b n:Nat} (h:aR (λc=>c=b) W W') (hb:b<n):KeepsFrom n W W':=⟨h.size,λc o hc ho _=>(h.block c (Array.getElem?_eq_some_iff.1 ho).1 (by omega)).trans ho⟩
theorem mG {B b:Nat} {t:TypeId} {cs:Array Value} {W W':World} {row:Option Nat} (h:aN W b t cs) (hg:W.grownBy W' row) (hr:∀r,row=some r->B<=r/\∃o:Obj,W.heap[r]? =some o/\o.isCells=false):aN W' b t cs:=
 h.kept hg (λe=>by
  obtain⟨_,o,ho,hc⟩:=hr b e.symm;rw[show W.heap[b]? =_ from h]at ho;cases ho;cases hc)
theorem De {w V W:World} {b:dN} {hard hard0:List ByteArray} {k k0:Nat} (h0:bY w b hard0 (λ_=>none) k0) (h:bY V b hard (λ_=>none) k) (hb:Below w.heap.size V W):bY W b hard (λ_=>none) k:=by
 obtain⟨⟨cap0,_,g1⟩,g2,g3,_,_,_⟩:=h0;obtain⟨⟨cap,c1,h1⟩,h2,h3,h4,h5,h6⟩:=h;exact⟨⟨cap,c1,(hb.block _ g1.lt).trans h1⟩,h2.block (hb.block _ g2.lt),h3.block (hb.block _ g3.lt),(λx e hx=>by cases hx),h5,(λx e hx=>by cases hx)⟩
theorem RI {W:World} {base n size l:Nat} {o o':Obj} {e:TypeId} {v:Value} {xs:List Value} (h:W.ownsRow base e size v n xs) (hl:W.heap[l]? =some o) (ho:o.isCells=false):(W.putObj l o').ownsRow base e size v n xs:=by
 refine⟨h.1,?_⟩
 rcases h.2 with h5|⟨g,cap,cur,rfl,hb,hgb,h6⟩
 ·exact .inl h5
 ·exact .inr ⟨g,cap,cur,rfl,hb,(World.putObj_heap_other (λe=>by subst e;rw[hgb]at hl;cases hl;cases ho)).trans hgb,h6⟩
theorem IS.via {w V W:World} {E:Im} {D D0:aZ} {Z Z0:Nat->Prop} (h0:IS w E D0 Z0) (h:IS V E D Z) (hb:Below w.heap.size V W):IS W E D Z:=by
 obtain⟨f0,n0,g1,_⟩:=h0;obtain⟨f,nn,h1,h2⟩:=h;obtain⟨gg,_,gj⟩:=g1.tj.MZ;obtain⟨gh,hg,hj⟩:=h1.tj.MZ;refine⟨f,nn,⟨(hb.block _ g1.img.lt).trans h1.img,⟨⟨(hb.block _ g1.tj.tx.tx.lt).trans h1.tj.tx.tx,h1.tj.tx.map.block (hb.block _ g1.tj.tx.map.lt),De g1.tj.tx.dev h1.tj.tx.dev hb⟩,⟨gh,hg,(hb.block _ (aN.lt gj)).trans hj⟩,h1.tj.ne⟩,h1.len,h1.sec,h1.few⟩,h2⟩
theorem RJ {S:Nat->Prop} {w V W:World} (h:aR S w V) (hb:Below w.heap.size V W):aR S w W:=⟨hb.os.trans h.os,hb.tape.trans h.tape,hb.output.trans h.output,aD h.size hb.size,λc hc hs=>(hb.block c hc).trans (h.block c hc hs)⟩
theorem Wr.via {w V W:World} {E:Im} {D D0:aZ} {Z Z0:Nat->Prop} (h0:IS w E D0 Z0) (h:Wr E D Z w V) (hb:Below w.heap.size V W):Wr E D Z w W:=⟨IS.via h0 h.1 hb,RJ h.2 hb⟩
theorem Fu.via {w V W:World} {E:Im} {Q:Prop} (h:Fu E Q w V) (hb:Below w.heap.size V W):Fu E Q w W:=⟨⟨h.1.1,λq=>by
 obtain⟨D,Z,h1⟩:=h.1.2 q;obtain⟨D0,Z0,h0⟩:=q;exact⟨D,Z,IS.via h0 h1 hb⟩⟩,RJ h.2 hb⟩
theorem Wr.same {w W:World} {E:Im} {D:aZ} {Z:Nat->Prop} (h0:IS w E D Z) (hb:Below w.heap.size w W):Wr E D Z w W:=⟨h0.later hb,aR.of_below hb⟩
theorem Pf {W:World} {n c:Nat} {v0 v1 v2 v3 v4 v5 v6 v7:Value} (h:c≠n):(dG W n v0 v1 v2 v3 v4 v5 v6 v7).heap[c]? =W.heap[c]? :=by
 have k:∀(X:World) (i:Nat) (v:Value),(X.setCell ⟨n,i,none⟩ v).heap[c]? =X.heap[c]? :=λX i v=>heap_setCell_other X ⟨n,i,none⟩ c v h;unfold dG;rw[k,k,k,k,k,k,k,k]
theorem Lp {X W:World} {FB c:Nat} {vF:Value} (h:X.setCell ⟨FB,0,none⟩ vF=W\/(X.setCell ⟨FB,0,none⟩ vF).drew=W) (hc:c≠FB):W.heap[c]? =X.heap[c]? :=by
 rcases h with rfl|rfl<;>exact heap_setCell_other X ⟨FB,0,none⟩ c vF hc
theorem UZ {X W:World} {FB:Nat} {u vF:Value} {t:TypeId} (h:X.setCell ⟨FB,0,none⟩ vF=W\/(X.setCell ⟨FB,0,none⟩ vF).drew=W) (hF:aN X FB t #[u]):aN W FB t #[vF]:=by
 rcases h with rfl|rfl
 ·exact hF.set 0 vF
 ·exact aN.drew (hF.set 0 vF)
theorem Pg {X W V:World} {n FB:Nat} {vF:Value} (h:X.setCell ⟨FB,0,none⟩ vF=W\/(X.setCell ⟨FB,0,none⟩ vF).drew=W) (hb:Below n V X) (hn:n<=FB):Below n V W:=by
 rcases h with rfl|rfl
 ·exact hb.setCell (p:=⟨FB,0,none⟩) hn vF
 ·exact(hb.setCell (p:=⟨FB,0,none⟩) hn vF).drew
theorem Ze {X W:World} {base n size FB:Nat} {e:TypeId} {v vF:Value} {xs:List Value} (h:X.setCell ⟨FB,0,none⟩ vF=W\/(X.setCell ⟨FB,0,none⟩ vF).drew=W) (ho:X.ownsRow base e size v n xs) (hb:FB<base):W.ownsRow base e size v n xs:=by
 rcases h with rfl|rfl<;>exact ownsRow_setCell_below ho (a:=⟨FB,0,none⟩) hb vF
theorem Fg {W:World} {base m size n:Nat} {e:TypeId} {v v0 v1 v2 v3 v4 v5 v6 v7:Value} {xs:List Value} (ho:W.ownsRow base e size v m xs) (hb:n<base):(dG W n v0 v1 v2 v3 v4 v5 v6 v7).ownsRow base e size v m xs:=by
 have k:∀(X:World) (i:Nat) (u:Value),X.ownsRow base e size v m xs->(X.setCell ⟨n,i,none⟩ u).ownsRow base e size v m xs:=λX i u h=>ownsRow_setCell_below h (a:=⟨n,i,none⟩) hb u;unfold dG;exact k _ _ _ (k _ _ _ (k _ _ _ (k _ _ _ (k _ _ _ (k _ _ _ (k _ _ _ (k _ _ _ ho)))))))
theorem sj {n Y FB DD tZ B:Nat} {V:World} {a0 a1 a2 a3 a4 a5 a6 a7 u vF v0 v1 v2 v3 v4 v5 v6 v7:Value} {fr:List Nat} (hY:aN V Y 114 #[a0,a1,a2,a3,a4,a5,a6,a7]) (hF:aN V FB 53 #[u]) (hYF:Y≠FB)
 (h1:V.heap[DD]? =some (.deferred (some []))) (h2:V.heap[tZ]? =some (.deferred (some []))) (hne:DD≠tZ) (hn:n<=Y/\n<=FB/\n<=DD/\n<=tZ) (hrow:V.ownsRow B 111 1 vF fr.length (fr.map iE)) (hB:FB<B/\Y<B) (W:World) (hW:(dG V Y v0 v1 v2 v3 v4 v5 v6 v7).setCell ⟨FB,0,none⟩ vF=W\/((dG V Y v0 v1 v2 v3 v4 v5 v6 v7).setCell ⟨FB,0,none⟩ vF).drew=W):
 W.heap[tZ]? =some (.deferred (some []))/\(W.putObj tZ (.deferred none)).heap[DD]? =some (.deferred (some []))/\
  aN ((W.putObj tZ (.deferred none)).putObj DD (.deferred none)) Y 114 #[v0,v1,v2,v3,v4,v5,v6,v7]/\aN ((W.putObj tZ (.deferred none)).putObj DD (.deferred none)) FB 53 #[vF]/\
  ((W.putObj tZ (.deferred none)).putObj DD (.deferred none)).ownsRow B 111 1 vF fr.length (fr.map iE)/\Below n V ((W.putObj tZ (.deferred none)).putObj DD (.deferred none)):=by
 have d1:DD≠Y/\DD≠FB:=⟨(λe=>by rw[e,show V.heap[Y]? =_ from hY]at h1;cases h1),(λe=>by rw[e,show V.heap[FB]? =_ from hF]at h1;cases h1)⟩;have d2:tZ≠Y/\tZ≠FB:=⟨(λe=>by rw[e,show V.heap[Y]? =_ from hY]at h2;cases h2),(λe=>by rw[e,show V.heap[FB]? =_ from hF]at h2;cases h2)⟩
 have kb:∀c,c≠Y->c≠FB->W.heap[c]? =V.heap[c]? :=λc c1 c2=>by
  have e1:(dG V Y v0 v1 v2 v3 v4 v5 v6 v7).heap[c]? =V.heap[c]? :=Pf c1;exact(Lp hW c2).trans e1
 have w2:W.heap[tZ]? =some (.deferred (some [])):=(kb _ d2.1 d2.2).trans h2;have w1:W.heap[DD]? =some (.deferred (some [])):=(kb _ d1.1 d1.2).trans h1;have p1:(W.putObj tZ (.deferred none)).heap[DD]? =some (.deferred (some [])):=(World.putObj_heap_other hne).trans w1;have sY:aN W Y 114 #[v0,v1,v2,v3,v4,v5,v6,v7]:=(Lp hW hYF).trans (fK hY v0 v1 v2 v3 v4 v5 v6 v7);have sF:aN W FB 53 #[vF]:=UZ hW (iX hF hYF);have bW:Below n V W:=Pg hW (aX (aj n V) hn.1) hn.2.1;have rW:W.ownsRow B 111 1 vF fr.length (fr.map iE):=Ze hW (Fg hrow hB.2) hB.1;have hr2:=RI rW w2 rfl (o':=.deferred none);have s2:=λ{c:Nat} {t:TypeId} {cs:Array Value} (h:aN W c t cs)=>pU (o':=.deferred none) w2 rfl h;have s1:=λ{c:Nat} {t:TypeId} {cs:Array Value} (h:aN (W.putObj tZ (.deferred none)) c t cs)=>pU (o':=.deferred none) p1 rfl h;refine⟨w2,p1,s1 (s2 sY),s1 (s2 sF),RI hr2 p1 rfl,?_⟩;have q1:Below n W (W.putObj tZ (.deferred none)):=⟨rfl,rfl,rfl,by simp,λk hk=>World.putObj_heap_other (by omega)⟩;have q2:Below n (W.putObj tZ (.deferred none)) ((W.putObj tZ (.deferred none)).putObj DD (.deferred none)):=⟨rfl,rfl,rfl,by simp,λk hk=>World.putObj_heap_other (by omega)⟩;exact(bW.trans q1).trans q2
theorem mY {W:World} {b b' size n:Nat} {e:TypeId} {v:Value} {xs:List Value} (h:W.ownsRow b e size v n xs) (hb:b'<=b):W.ownsRow b' e size v n xs:=by
 refine⟨h.1,?_⟩
 rcases h.2 with h5|⟨g,cap,cur,rfl,h6,h7⟩
 ·exact .inl h5
 ·exact .inr ⟨g,cap,cur,rfl,aD hb h6,h7⟩
theorem wL {W W':World} {base size n b:Nat} {e:TypeId} {v:Value} {xs:List Value} (h:W.ownsRow base e size v n xs) (hT:aR (λc=>c=b) W W') (hb:b<base):W'.ownsRow base e size v n xs:=by
 refine⟨h.1,?_⟩
 rcases h.2 with h5|⟨g,cap,cur,rfl,h6,h7,h8⟩
 ·exact .inl h5
 ·exact .inr ⟨g,cap,cur,rfl,h6,(hT.block g (Array.getElem?_eq_some_iff.1 h7).1 (by omega)).trans h7,h8⟩
theorem uV (p:Nat):pR (List.replicate 32 0) p=[]:=by
 have h:UW (List.replicate 32 0) (p-4) (32-(p-4))=[]:=by
  unfold UW;refine List.filter_eq_nil_iff.2 (λk _=>?_);rw[List.getD_eq_getElem?_getD,List.getElem?_replicate]
  split<;>simp
 unfold pR;rw[h]
 rfl
theorem uf (l:List Nat) (a m:Nat):(UW l a m).length<=m:=by
 have h:=List.length_filter_le (λk=>l.getD k 0 !=0) (List.range' a m);rw[List.length_range']at h;exact h
