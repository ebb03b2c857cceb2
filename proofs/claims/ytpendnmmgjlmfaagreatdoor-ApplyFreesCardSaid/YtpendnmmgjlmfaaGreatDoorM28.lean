/- Lemmas. -/
import Derived.Test.YtpendnmmgjlmfaaGreatDoorM11
import Derived.Test.YtpendnmmgjlmfaaGreatDoorM12
set_option linter.unusedVariables false
set_option linter.unusedSimpArgs false
namespace Go.Proofs.YtpendnmmgjlmfaaGreatDoor
open Go.RowKit Go.Shelf Go.Maps
open Go.Proofs.Tryz
open IntKind renaming u16→I,i64→J,u32→F,u8→aF
open Value renaming pointer→G,int->ι,string->σ,bool->ν,tuple->τ,agg->γ
open Ending renaming returned→aG
open Obj renaming cells→aH
set_option maxRecDepth 100000
set_option maxHeartbeats 2000000
namespace lC
open Oct Dev mU Tx Geo
theorem Ij (s:ByteArray) (n:Nat) (h:s.size=n):s.extract 0 n=s:=by
 subst h;exact ByteArray.extract_zero_size
section
variable {E:Im} {D:aZ} {Z:Nat->Prop} {Q:Prop}
theorem jo {w:World} {p:Nat} (hs:Small E) (h:IS w E D Z) (hp:p=2\/p=3):fr E p<E.hard.length:=by
 have hv:=hs.vals;rw[h.len];rcases hp with rfl|rfl<;>omega
theorem Lq (p n:Nat) (w:World) (hs:Small E) (h:IS w E D Z) (hp:p=2\/p=3) (hn:n<512):
 Calls prog 47 #[E.M,ι J p,ι J n] w λe w'=>e=aG (τ #[ν (dn (D (fr E p)) n),ι J 0])/\Below w.heap.size w w':=by
 have hsz:=h.sec (jo hs h hp);have PA:=U (vT p w hs h hp);have GE:=U (λW=>CD (D (fr E p)) n W (by omega) (by omega));clear h
 generalize D (fr E p)=s at*
 generalize fr E p=q at*
 go_enter func47,ntmps47
 go_wp2_with fail;refine PA.o.mono ?_;rintro e w1 ⟨rfl,b1⟩;go_wp2_with fail;refine(GE.o _).mono ?_;rintro e w9 ⟨rfl,rfl⟩
 go_wp2
 go_ret2;exact⟨rfl,b1⟩
theorem zY (p n:Nat) (on:Bool) (w:World) (hs:Small E) (h:IS w E D Z) (hp:p=2\/p=3) (hn:n<512) (hz:Z (fr E p)) (hQ:fV E Z->Q):
 Calls prog 257 #[E.M,ι J p,ι J n,ν on] w (Out (ι J 0) (ι J 4) (Wr E (upd D (fr E p) (gV (D (fr E p)) n on)) Z w) (Fu E Q w)):=by
 have hj:=hs.hj;have hlt:=jo hs h hp;have hsz:=h.sec hlt;have hl:=h.Uq;have PA:=U (vT p w hs h hp);have SE:=U (λW=>QM (D (fr E p)) n on W (by omega) (by omega));have hz2:(gV (D (fr E p)) n on).size=64:=by rw[jG];exact hsz
 have WR:=U (λW (h:IS W E D Z)=>Bh (fr E p) (gV (D (fr E p)) n on) W h (by omega) hlt hz2 hz hQ);have H:=U h;clear h hz hQ
 generalize gV (D (fr E p)) n on=s2 at*
 generalize D (fr E p)=s at*
 generalize fr E p=q at*
 go_enter func257,ntmps257
 go_wp2_with fail;refine PA.o.mono ?_;rintro e w1 ⟨rfl,b1⟩;go_wp2_with fail;refine(SE.o _).mono ?_;rintro e w2 ⟨rfl,b2⟩;have B2:=U (b1.trans (b2.mono b1.size));clear b1 b2;have d0:(n:Int)/512=0:=by omega
 go_wp2_with fail;have ex:=Ij s2 64 hz2;have hX:=(H.o.later B2.o).img;have hX:=hX.drew;have V:=hX.cell;have Vl:=hX.lt;clear hX;have wz0:IntKind.i64.wrap (q:Int)=q:=IntWalk.i64_in _ (by omega);have wz1:IntKind.i64.wrap ((q:Int)+0)=q:=IntWalk.i64_in _ (by omega);have u0:IntKind.i64.wrap 0=0:=by decide
 have u1:IntKind.i64.wrap 1=1:=by decide
 have u2:IntKind.i64.wrap 64=64:=by decide
 have u3:IntKind.i64.wrap (1*64)=64:=by decide
 have ez:(0:Int).toNat=0:=rfl;have e6:(64:Int).toNat=64:=rfl;refine wp_region_still_tail 15 (by kernel_rfl) (by kernel_rfl) ?_;simp only[List.take_succ_cons,List.take_zero,List.drop_succ_cons,List.drop_zero];change wpStill _ _ w2.drew _ _ _
 generalize w2.drew=W3 at*
 repeat still_step
 refine wpStill_nil ?_;change wpList _ _ _ _ _ w2.drew;have WR2:=U (WR.o _ (H.o.later B2.o.drew));have HB3:=U B2.o.drew
 generalize w2.drew=W4 at*
 go_wp2_with fail;refine WR2.o.mono ?_;rintro e w5 (⟨rfl,G5⟩|⟨rfl,G5⟩)
 ·have G5:=U (G5.pre HB3.o)
  go_wp2
  go_ret;exact .inl ⟨rfl,G5.o⟩
 ·have G5:=U (G5.pre HB3.o)
  go_wp2
  go_ret;exact .inr ⟨rfl,G5.o⟩
theorem BP (n:Nat) (w:World) (hs:Small E) (h:IS w E D Z) (h1:1<=n) (hn:n<=E.i):
 Calls prog 16 #[E.M,ι F n] w λe w'=>e=aG (τ #[ν (dn (D (fr E 2)) n),ι J 0])/\Below w.heap.size w w':=by
 have hi:=hs.hi;have IN:=U (λW=>Geo.xB E.i E.bl E.j n W hs.may h1 hn);have IS_:=U (λW (h:IS W E D Z)=>Lq 2 n W hs h (.inl rfl) (by omega));unfold dw at IN
 generalize dn (D (fr E 2)) n=bb at*
 have H:=U h;have hX:=h.img;have X:=hX.cell;have Xl:=hX.lt;clear hX h
 go_enter func16,ntmps16
 go_wp2_with fail;refine(IN.o _).mono ?_;rintro e w1 ⟨rfl,b1⟩;have B1:=U b1;clear b1;go_wp2_with fail;refine(IS_.o _ (H.o.later B1.o)).mono ?_;rintro e w2 ⟨rfl,b2⟩
 go_wp2
 go_ret2;exact⟨rfl,B1.o.trans (b2.mono B1.o.size)⟩
theorem RF (n:Nat) (w:World) (hs:Small E) (h:IS w E D Z) (h1:1<=n) (hn:n<=E.i) (hb:dn (D (fr E 2)) n=false) (hz:Z (fr E 2)) (hQ:fV E Z->Q):
 Calls prog 175 #[E.M,ι F n] w (Out (ι J 0) (ι J 4) (Wr E (upd D (fr E 2) (gV (D (fr E 2)) n true)) Z w) (Fu E Q w)):=by
 have hi:=hs.hi;have TK:=U (BP n w hs h h1 hn);rw[hb]at TK;have MK:=U (λW (h:IS W E D Z)=>zY 2 n true W hs h (.inl rfl) (by omega) hz hQ);have H:=U h
 generalize upd D (fr E 2) (gV (D (fr E 2)) n true)=f2 at*
 clear h hb hz hQ
 go_enter func175,ntmps175
 go_wp2_with fail;refine TK.o.mono ?_;rintro e w1 ⟨rfl,b1⟩;have H2:=U (H.o.later b1);have B1:=U b1;clear b1;go_wp2_with fail;refine(MK.o _ H2.o).mono ?_;rintro e w2 (⟨rfl,aM⟩|⟨rfl,aM⟩)
 ·have aM:=U (aM.pre B1.o)
  go_wp2
  go_ret;exact .inl ⟨rfl,aM.o⟩
 ·have aM:=U (aM.pre B1.o)
  go_wp2
  go_ret;exact .inr ⟨rfl,aM.o⟩
theorem Du (n:Nat) (w:World) (hs:Small E) (h:IS w E D Z) (h1:1<=n) (hn:n<=E.bl):
 Calls prog 309 #[E.M,ι I n] w λe w'=>e=aG (τ #[ν (dn (D (fr E 3)) n),ι J 0])/\Below w.heap.size w w':=by
 have hi:=hs.hb;have IN:=U (λW=>Geo.mo E.i E.bl E.j n W hs.may h1 hn);have IS_:=U (λW (h:IS W E D Z)=>Lq 3 n W hs h (.inr rfl) (by omega));unfold dw at IN
 generalize dn (D (fr E 3)) n=bb at*
 have H:=U h;have hX:=h.img;have X:=hX.cell;have Xl:=hX.lt;clear hX h
 go_enter func309,ntmps309
 go_wp2_with fail;refine(IN.o _).mono ?_;rintro e w1 ⟨rfl,b1⟩;have B1:=U b1;clear b1;go_wp2_with fail;refine(IS_.o _ (H.o.later B1.o)).mono ?_;rintro e w2 ⟨rfl,b2⟩
 go_wp2
 go_ret2;exact⟨rfl,B1.o.trans (b2.mono B1.o.size)⟩
theorem Ik (n:Nat) (w:World) (hs:Small E) (h:IS w E D Z) (h1:1<=n) (hn:n<=E.bl) (hb:dn (D (fr E 3)) n=true) (hz:Z (fr E 3)) (hQ:fV E Z->Q):
 Calls prog 265 #[E.M,ι I n] w (Out (ι J 0) (ι J 4) (Wr E (upd D (fr E 3) (gV (D (fr E 3)) n false)) Z w) (Fu E Q w)):=by
 have hi:=hs.hb;have TK:=U (Du n w hs h h1 hn);rw[hb]at TK;have MK:=U (λW (h:IS W E D Z)=>zY 3 n false W hs h (.inr rfl) (by omega) hz hQ);have H:=U h
 generalize upd D (fr E 3) (gV (D (fr E 3)) n false)=f2 at*
 clear h hb hz hQ
 go_enter func265,ntmps265
 go_wp2_with fail;refine TK.o.mono ?_;rintro e w1 ⟨rfl,b1⟩;have H2:=U (H.o.later b1);have B1:=U b1;clear b1;go_wp2_with fail;refine(MK.o _ H2.o).mono ?_;rintro e w2 (⟨rfl,aM⟩|⟨rfl,aM⟩)
 ·have aM:=U (aM.pre B1.o)
  go_wp2
  go_ret;exact .inl ⟨rfl,aM.o⟩
 ·have aM:=U (aM.pre B1.o)
  go_wp2
  go_ret;exact .inr ⟨rfl,aM.o⟩
end
open qX
def tq (E:Im) (n:Nat):Nat:=fr E 4+(n-1)/2
def zH (n:Nat):Nat:=(n-1)%2*32
def dZ (E:Im) (D:aZ) (n:Nat) (x:aP):Prop:=(D (tq E n)).extract (zH n) (zH n+32)=jL x
def dI (E:Im) (D:aZ) (n:Nat) (x:aP):aZ:=upd D (tq E n) (iC (D (tq E n)) (zH n) (jL x))
section
variable {E:Im} {D:aZ} {Z:Nat->Prop} {Q:Prop}
theorem pQ {n:Nat} (hs:Small E) (hl:E.hard.length=(mI E.i E.bl E.j).sum) (h1:1<=n) (hn:n<=E.i):tq E n<E.hard.length:=by
 have hv:=hs.vals;unfold tq;rw[hl];omega
theorem OZ (s t:ByteArray) (a:Nat) (h:a+t.size<=s.size):(iC s a t).extract a (a+t.size)=t:=by
 apply iL
 rw[lG,iy];unfold iC;rw[dA,dA,lG,lG];simp only[iy,List.drop_zero,Nat.sub_zero];have h1:(List.take a (L s)).length=a:=by rw[List.length_take,bZ];omega
 rw[List.append_assoc,List.drop_append_of_le_length (by omega),List.drop_of_length_le (by omega),List.nil_append,Nat.add_sub_cancel_left,List.take_append_of_le_length (by rw[bZ];omega)];exact List.take_of_length_le (by rw[bZ];omega)
theorem Io (s t:ByteArray) (a b c:Nat) (h:a+t.size<=s.size) (hc:c<=a):(iC s a t).extract b c=s.extract b c:=by
 apply iL
 rw[lG,lG,iy,iy];unfold iC;rw[dA,dA,lG,lG];simp only[iy,List.drop_zero,Nat.sub_zero]
 apply List.ext_getElem?
 intro k;simp only[List.getElem?_take,List.getElem?_drop]
 by_cases hk:k<c-b
 ·rw[if_pos hk,if_pos hk,List.append_assoc,List.getElem?_append_left (by rw[List.length_take,bZ];omega),List.getElem?_take,if_pos (by omega)]
 ·rw[if_neg hk,if_neg hk]
theorem Lj (s t:ByteArray) (a b c:Nat) (h:a+t.size<=s.size) (hb:a+t.size<=b):(iC s a t).extract b c=s.extract b c:=by
 apply iL
 rw[lG,lG,iy,iy];unfold iC;rw[dA,dA,lG,lG];simp only[iy,List.drop_zero,Nat.sub_zero]
 apply List.ext_getElem?
 intro k;simp only[List.getElem?_take,List.getElem?_drop]
 by_cases hk:k<c-b
 ·rw[if_pos hk,if_pos hk,List.getElem?_append_right (by rw[List.length_append,List.length_take,bZ,bZ];omega),List.length_append,List.length_take,bZ,bZ]
  simp only[List.getElem?_take,List.getElem?_drop]
  by_cases h3:b+k-(min a s.size+t.size)<s.size-(a+t.size)
  ·rw[if_pos h3]
   congr 1
   omega
  ·rw[if_neg h3,List.getElem?_eq_none (by rw[bZ];omega)]
 ·rw[if_neg hk,if_neg hk]
theorem lg {n:Nat} {x:aP} (h:(D (tq E n)).size=64):dZ E (dI E D n x) n x:=by
 unfold dZ dI;rw[upd_same];have e:=OZ (D (tq E n)) (jL x) (zH n) (by rw[jF,h];unfold zH;omega);rw[jF]at e;exact e
theorem jX {n m:Nat} {x y:aP} (h:(D (tq E n)).size=64) (h1:1<=n) (h2:1<=m) (hne:n≠m) (hy:dZ E D m y):dZ E (dI E D n x) m y:=by
 unfold dZ dI at*
 by_cases hq:tq E m=tq E n
 ·rw[hq,upd_same]
  rw[hq]at hy;have hz:=jF x
  by_cases hlt:zH n<zH m
  ·rw[Lj _ _ _ _ _ (by rw[hz,h];unfold zH;omega) (by rw[hz];unfold zH at*;omega)]
   exact hy
  ·rw[Io _ _ _ _ _ (by rw[hz,h];unfold zH;omega) (by unfold zH tq at*;omega)]
   exact hy
 ·rw[upd_ne _ _ hq]
  exact hy
theorem dZ.upd {n q:Nat} {x:aP} {s:ByteArray} (h:dZ E D n x) (hq:tq E n≠q):dZ E (upd D q s) n x:=by
 unfold dZ at*;rw[upd_ne _ _ hq];exact h
theorem bU {n q:Nat} {x:aP} (hq:q≠tq E n):dI E D n x q=D q:=upd_ne _ _ hq
theorem wO (n:Nat) (x:aP) (w:World) (hs:Small E) (h:IS w E D Z) (h1:1<=n) (hn:n<=E.i) (hx:dZ E D n x) (ho:x.Ok):
 Calls prog 48 #[E.M,ι F n] w λe w'=>e=aG (τ #[x.val,ι J 0])/\Below w.heap.size w w':=by
 have hlt:=pQ hs h.len h1 hn;have hl:=h.Uq;have hsz:=h.sec hlt;have IN:=U (λW=>Geo.xB E.i E.bl E.j n W hs.may h1 hn);have RD:=U (λW (h:IS W E D Z)=>GY (tq E n) W h hlt);have GE:=U (λW=>sX x W ho);unfold dw at IN;rw[show cB E.i E.bl E.j 4+(n-1)/2=tq E n from rfl,show(n-1)%2*32=zH n from rfl]at IN;have ht:zH n<=32:=by unfold zH;omega
 unfold dZ at hx;have H:=U h;have hX:=h.img;have X:=hX.cell;have Xl:=hX.lt;clear hX h ho;obtain⟨kind,links,size,d0,d1,d2,d3,ind⟩:=x
 generalize jL ⟨kind,links,size,d0,d1,d2,d3,ind⟩=s32 at*
 unfold aP.val at*
 generalize D (tq E n)=s at*
 generalize tq E n=q at*
 generalize zH n=o at*
 have HB0:=U ((aj _ w).alloc (ah _) (aH #[ι aF 0,ι I 0,ι F 0,ι I 0,ι I 0,ι I 0,ι I 0,ι I 0] 114));have iS:=U (aN.new w 114 #[ι aF 0,ι I 0,ι F 0,ι I 0,ι I 0,ι I 0,ι I 0,ι I 0]);have q1:(o:Int)<=64:=by omega
 have q2:(o:Int)+32<=s.size:=by omega
 have q3:o+32<=s.size:=by omega
 have q4:o+32<=64:=by omega
 go_enter func48,ntmps48
 go_wp2_with fail;refine(IN.o _).mono ?_;rintro e w1 ⟨rfl,b1⟩;have B1:=U (HB0.o.trans (b1.mono HB0.o.size));have H1:=U (H.o.later B1.o);have jI:=U (iS.o.later b1);have hX:=H1.o.img;have Y:=hX.cell;have Yl:=hX.lt;clear hX b1 X Xl;go_wp2_with fail;refine(RD.o _ H1.o).mono ?_;rintro e w2 ⟨rfl,b2⟩;have B2:=U (B1.o.trans (b2.mono B1.o.size));have dH:=U (jI.o.later b2);clear b2 Y Yl;go_wp2_with fail;refine(GE.o _).mono ?_;rintro e w3 ⟨rfl,b3⟩;have B3:=U (B2.o.trans (b3.mono B2.o.size));have xX:=U (dH.o.later b3);have hX:=xX.o;clear b3;have X:=hX.cell;have Xl:=hX.lt;have F0:=hX.free 0;have F1:=hX.free 1;have F2:=hX.free 2;have F3:=hX.free 3;have F4:=hX.free 4;have F5:=hX.free 5;have F6:=hX.free 6;have F7:=hX.free 7;clear hX
 go_wp2
 have h9:=fK xX.o (ι aF kind) (ι I links) (ι F size) (ι I d0) (ι I d1) (ι I d2) (ι I d3) (ι I ind);have kT:Below w.heap.size w (dG w3 w.heap.size (ι aF kind) (ι I links) (ι F size) (ι I d0) (ι I d1) (ι I d2) (ι I d3) (ι I ind)):=aX B3.o (ah _);unfold dG at h9 kT;have k:=h9.cell;exact bodyPost_ret (v:=τ #[γ #[ι aF kind,ι I links,ι F size,ι I d0,ι I d1,ι I d2,ι I d3,ι I ind],ι J 0]) (by simp[results,results48,go_sem,(k 0),(k 1),(k 2),(k 3),(k 4),(k 5),(k 6),(k 7)]) rfl ⟨rfl,kT⟩
theorem jg (n:Nat) (x:aP) (w:World) (hs:Small E) (h:IS w E D Z) (h1:1<=n) (hn:n<=E.i) (ho:x.Ok) (hz:Z (tq E n)) (hQ:fV E Z->Q):
 Calls prog 177 #[E.M,ι F n,x.val] w (Out (ι J 0) (ι J 4) (Wr E (dI E D n x) Z w) (Fu E Q w)):=by
 have hj:=hs.hj;have hlt:=pQ hs h.len h1 hn;have hl:=h.Uq;have IN:=U (λW=>Geo.xB E.i E.bl E.j n W hs.may h1 hn);have PU:=U (λW=>GZ x W ho);have PA:=U (λW (h:IS W E D Z)=>Kw (tq E n) (zH n) (jL x) W h (by omega) hlt (by rw[jF];unfold zH;omega) hz hQ);unfold dw at IN;rw[show cB E.i E.bl E.j 4+(n-1)/2=tq E n from rfl,show(n-1)%2*32=zH n from rfl]at IN;unfold dI;have ht:zH n<=32:=by unfold zH;omega
 have H:=U h;have hX:=h.img;have X:=hX.cell;have Xl:=hX.lt;clear hX h hz hQ
 generalize upd D (tq E n) (iC (D (tq E n)) (zH n) (jL x))=D2 at*
 generalize tq E n=q at*
 generalize zH n=o at*
 unfold aP.val at*;obtain⟨kind,links,size,d0,d1,d2,d3,ind⟩:=x
 generalize jL ⟨kind,links,size,d0,d1,d2,d3,ind⟩=s32 at*
 have HB0:=U ((aj _ w).alloc (ah _) (aH #[ι aF kind,ι I links,ι F size,ι I d0,ι I d1,ι I d2,ι I d3,ι I ind] 114));have iS:=U (aN.new w 114 #[ι aF kind,ι I links,ι F size,ι I d0,ι I d1,ι I d2,ι I d3,ι I ind])
 go_enter func177,ntmps177
 go_wp2_with fail;refine(IN.o _).mono ?_;rintro e w1 ⟨rfl,b1⟩;have B1:=U (HB0.o.trans (b1.mono HB0.o.size));have jI:=iS.o.later b1;have H1:=U (H.o.later B1.o);have X:=jI.cell;have Xl:=jI.lt;clear jI b1;go_wp2_with fail;refine(PU.o _).mono ?_;rintro e w2 ⟨rfl,b2⟩;have B2:=U (B1.o.trans (b2.mono B1.o.size));have H2:=U (H.o.later B2.o);have hX:=H2.o.img;clear X Xl b2;have X:=hX.cell;have Xl:=hX.lt;clear hX;go_wp2_with fail;refine(PA.o _ H2.o).mono ?_;rintro e w3 (⟨rfl,aM⟩|⟨rfl,aM⟩)
 ·have aM:=U (aM.pre B2.o)
  go_wp2
  go_ret;exact .inl ⟨rfl,aM.o⟩
 ·have aM:=U (aM.pre B2.o)
  go_wp2
  go_ret;exact .inr ⟨rfl,aM.o⟩
end
def dq (E:Im) (b:Nat):Nat:=fr E 5+b-1
theorem ze {E:Im} {b:Nat} (hs:Small E) (hl:E.hard.length=(mI E.i E.bl E.j).sum) (h1:1<=b) (hb:b<=E.bl):dq E b<E.hard.length:=by
 have hv:=hs.vals;unfold dq;rw[hl];omega
section
variable {E:Im} {D:aZ} {Z:Nat->Prop} {Q:Prop}
theorem jw (n:Nat) (x:aP) (w:World) (hs:Small E) (h:IS w E D Z) (h1:1<=n) (hn:n<=E.i) (hx:dZ E D n x) (ho:x.Ok):
 Calls prog 154 #[E.M,ι F n] w λe w'=>e=aG (τ #[x.val,ι J (if x.kind=0 then 3 else 0)])/\Below w.heap.size w w':=by
 have IN:=U (λW (h:IS W E D Z)=>wO n x W hs h h1 hn hx ho);have H:=U h;clear h hx ho;obtain⟨kind,links,size,d0,d1,d2,d3,ind⟩:=x;unfold aP.val at*;have HB0:=U ((aj _ w).alloc (ah _) (aH #[ι aF 0,ι I 0,ι F 0,ι I 0,ι I 0,ι I 0,ι I 0,ι I 0] 114));have iS:=U (aN.new w 114 #[ι aF 0,ι I 0,ι F 0,ι I 0,ι I 0,ι I 0,ι I 0,ι I 0]);have HP:=U (H.o.later HB0.o)
 by_cases hk:kind=0
 ·subst hk
  go_enter func154,ntmps154
  go_wp2_with fail;refine(IN.o _ HP.o).mono ?_;rintro e w1 ⟨rfl,b1⟩;have B1:=U ((HB0.o.trans (b1.mono HB0.o.size)).alloc (aD HB0.o.size b1.size) (aH #[ι aF 0,ι I links,ι F size,ι I d0,ι I d1,ι I d2,ι I d3,ι I ind] 114));have jI:=U ((iS.o.later b1).alloc (aH #[ι aF 0,ι I links,ι F size,ι I d0,ι I d1,ι I d2,ι I d3,ι I ind] 114));have hX:=jI.o;clear b1;have X:=hX.cell;have Xl:=hX.lt;have F0:=hX.free 0;have F1:=hX.free 1;have F2:=hX.free 2;have F3:=hX.free 3;have F4:=hX.free 4;have F5:=hX.free 5;have F6:=hX.free 6;have F7:=hX.free 7;clear hX
  go_wp2
  have h9:=fK jI.o (ι aF 0) (ι I links) (ι F size) (ι I d0) (ι I d1) (ι I d2) (ι I d3) (ι I ind);have kT:=aX (v0:=ι aF 0) (v1:=ι I links) (v2:=ι F size) (v3:=ι I d0) (v4:=ι I d1) (v5:=ι I d2) (v6:=ι I d3) (v7:=ι I ind) B1.o (ah _);unfold dG at h9 kT;have k:=h9.cell;exact bodyPost_ret (v:=τ #[γ #[ι aF 0,ι I links,ι F size,ι I d0,ι I d1,ι I d2,ι I d3,ι I ind],ι J 3]) (by simp[results,results154,go_sem,(k 0),(k 1),(k 2),(k 3),(k 4),(k 5),(k 6),(k 7)]) rfl ⟨rfl,kT⟩
 ·have hk0:((kind:Int)==0)=false:=by simp;omega
  go_enter func154,ntmps154
  go_wp2_with fail;refine(IN.o _ HP.o).mono ?_;rintro e w1 ⟨rfl,b1⟩;have B1:=U ((HB0.o.trans (b1.mono HB0.o.size)).alloc (aD HB0.o.size b1.size) (aH #[ι aF kind,ι I links,ι F size,ι I d0,ι I d1,ι I d2,ι I d3,ι I ind] 114));have jI:=U ((iS.o.later b1).alloc (aH #[ι aF kind,ι I links,ι F size,ι I d0,ι I d1,ι I d2,ι I d3,ι I ind] 114));have hX:=jI.o;clear b1;have X:=hX.cell;have Xl:=hX.lt;have F0:=hX.free 0;have F1:=hX.free 1;have F2:=hX.free 2;have F3:=hX.free 3;have F4:=hX.free 4;have F5:=hX.free 5;have F6:=hX.free 6;have F7:=hX.free 7;clear hX
  go_wp2
  have h9:=fK jI.o (ι aF kind) (ι I links) (ι F size) (ι I d0) (ι I d1) (ι I d2) (ι I d3) (ι I ind);have kT:=aX (v0:=ι aF kind) (v1:=ι I links) (v2:=ι F size) (v3:=ι I d0) (v4:=ι I d1) (v5:=ι I d2) (v6:=ι I d3) (v7:=ι I ind) B1.o (ah _);unfold dG at h9 kT;have k:=h9.cell;exact bodyPost_ret (v:=τ #[γ #[ι aF kind,ι I links,ι F size,ι I d0,ι I d1,ι I d2,ι I d3,ι I ind],ι J 0]) (by simp[results,results154,go_sem,(k 0),(k 1),(k 2),(k 3),(k 4),(k 5),(k 6),(k 7)]) rfl ⟨by simp[hk],kT⟩
theorem YU (b:Nat) (s:ByteArray) (w:World) (hs:Small E) (h:IS w E D Z) (h1:1<=b) (hb:b<=E.bl) (h64:s.size=64) (hz:Z (dq E b)) (hQ:fV E Z->Q):
 Calls prog 268 #[E.M,ι I b,σ s] w (Out (ι J 0) (ι J 4) (Wr E (upd D (dq E b) s) Z w) (Fu E Q w)):=by
 have hj:=hs.hj;have hlt:=ze hs h.len h1 hb;have hl:=h.Uq;have BL:=U (λW=>Geo.mo E.i E.bl E.j b W hs.may h1 hb);have WR:=U (λW (h:IS W E D Z)=>Bh (dq E b) s W h (by omega) hlt h64 hz hQ);unfold dw at BL;rw[show cB E.i E.bl E.j 5+b-1=dq E b from rfl]at BL
 generalize dq E b=q at*
 have H:=U h;have hX:=h.img;have X:=hX.cell;have Xl:=hX.lt;clear hX h hz hQ
 go_enter func268,ntmps268
 go_wp2_with fail;refine(BL.o _).mono ?_;rintro e w1 ⟨rfl,b1⟩;have B1:=U b1;have H1:=U (H.o.later B1.o);have hX:=H1.o.img;clear X Xl b1;have X:=hX.cell;have Xl:=hX.lt;clear hX;go_wp2_with fail;refine(WR.o _ H1.o).mono ?_;rintro e w3 (⟨rfl,aM⟩|⟨rfl,aM⟩)
 ·have aM:=U (aM.pre B1.o)
  go_wp2
  go_ret;exact .inl ⟨rfl,aM.o⟩
 ·have aM:=U (aM.pre B1.o)
  go_wp2
  go_ret;exact .inr ⟨rfl,aM.o⟩
def fM (E:Im) (D:aZ) (b:Nat):aZ:=upd (upd D (fr E 3) (gV (D (fr E 3)) b true)) (dq E b) zS
theorem rX (b:Nat) (w:World) (hs:Small E) (h:IS w E D Z) (hL:eO (D (fr E 3)) (E.bl+1:Nat) false=(b,true)) (h1:1<=b) (hb:b<=E.bl) (hz3:Z (fr E 3)) (hz:Z (dq E b)) (hQ:fV E Z->Q):
 Calls prog 311 #[E.M] w (Out (τ #[ι I b,ι J 0]) (τ #[ι I 0,ι J 4]) (Wr E (fM E D b) Z w) (Fu E Q w)):=by
 have hbl:=hs.hb;have hsz:=h.sec (jo hs h (.inr rfl));have PA:=U (vT 3 w hs h (.inr rfl));have LE:=U (λW=>EZ (D (fr E 3)) (E.bl+1:Nat) false W (by omega));rw[hL]at LE;have MK:=U (λW (h:IS W E D Z)=>zY 3 b true W hs h (.inr rfl) (by omega) hz3 hQ);have PU:=U (λW (h:IS W E (upd D (fr E 3) (gV (D (fr E 3)) b true)) Z)=>YU b zS W hs h h1 hb rfl hz hQ);unfold fM;have H:=U h;clear h hL hz hz3 hQ
 generalize upd (upd D (fr E 3) (gV (D (fr E 3)) b true)) (dq E b) zS=D2 at*
 generalize upd D (fr E 3) (gV (D (fr E 3)) b true)=D1 at*
 generalize D (fr E 3)=s at*
 generalize fr E 3=q at*
 have ub:IntKind.u16.wrap (b:Int)=b:=wrap_u16 b (by omega);have ul:((E.bl+1:Nat):Int)=(E.bl:Int)+1:=by push_cast;rfl
 rw[ul]at LE;clear ul
 go_enter func311,ntmps311
 go_wp2_with fail;refine PA.o.mono ?_;rintro e w1 ⟨rfl,b1⟩;have B1:=U b1;have H1:=U (H.o.later B1.o);have hX:=H1.o.img;clear b1;have X:=hX.cell;have Xl:=hX.lt;clear hX;go_wp2_with fail;refine(LE.o _).mono ?_;rintro e w2 ⟨rfl,b2⟩;have B2:=U (B1.o.trans (b2.mono B1.o.size));have H2:=U (H.o.later B2.o);clear b2 X Xl;go_wp2_with fail;refine(MK.o _ H2.o).mono ?_;rintro e w3 (⟨rfl,aM⟩|⟨rfl,aM⟩)
 ·have aM:=U (aM.pre B2.o)
  go_wp2_with fail;refine(rz _).mono ?_;rintro e w4 ⟨rfl,b4⟩;have G4:=U (aM.o.post b4);clear b4;go_wp2_with fail;refine(PU.o _ G4.o.1).mono ?_;rintro e w5 (⟨rfl,G5⟩|⟨rfl,G5⟩)
  ·have G5:=U (G5.then_ G4.o)
   go_wp2
   go_ret2;exact .inl ⟨rfl,G5.o⟩
  ·have G5:=U (G5.then_ G4.o)
   go_wp2
   go_ret2;exact .inr ⟨rfl,G5.o⟩
 ·have aM:=U (aM.pre B2.o)
  go_wp2
  go_ret2;exact .inr ⟨rfl,aM.o⟩
theorem qh (w:World) (hs:Small E) (h:IS w E D Z) (hL:(eO (D (fr E 3)) (E.bl+1:Nat) false).2=false):
 Calls prog 311 #[E.M] w λe w'=>e=aG (τ #[ι I 0,ι J 4])/\Below w.heap.size w w':=by
 have hbl:=hs.hb;have hsz:=h.sec (jo hs h (.inr rfl));have PA:=U (vT 3 w hs h (.inr rfl));have LE:=U (λW=>EZ (D (fr E 3)) (E.bl+1:Nat) false W (by omega));rw[hL]at LE;have H:=U h;clear h hL
 generalize (eO (D (fr E 3)) (E.bl+1:Nat) false).1=b at*
 generalize D (fr E 3)=s at*
 generalize fr E 3=q at*
 have ul:((E.bl+1:Nat):Int)=(E.bl:Int)+1:=by push_cast;rfl
 rw[ul]at LE;clear ul
 go_enter func311,ntmps311
 go_wp2_with fail;refine PA.o.mono ?_;rintro e w1 ⟨rfl,b1⟩;have B1:=U b1;have H1:=U (H.o.later B1.o);have hX:=H1.o.img;clear b1;have X:=hX.cell;have Xl:=hX.lt;clear hX;go_wp2_with fail;refine(LE.o _).mono ?_;rintro e w2 ⟨rfl,b2⟩;have B2:=U (B1.o.trans (b2.mono B1.o.size));clear b2 X Xl
 go_wp2
 go_ret2;exact⟨rfl,B2.o⟩
end
end lC
namespace Bm
open Oct Dev mU Tx Geo qX lC
theorem Tm (a b c d:Value) (w:World):(Instr.index 112 (γ #[a,b,c,d]) (ι J 0)).run prog w=.ok a w/\(Instr.index 112 (γ #[a,b,c,d]) (ι J 1)).run prog w=.ok b w/\(Instr.index 112 (γ #[a,b,c,d]) (ι J 2)).run prog w=.ok c w/\(Instr.index 112 (γ #[a,b,c,d]) (ι J 3)).run prog w=.ok d w:=⟨by kernel_rfl,by kernel_rfl,by kernel_rfl,by kernel_rfl⟩
theorem To (i bl j b aM:Nat) (w:World) (hbl:bl<=100000) (hb:b<=bl) (hG:aN w aM 23 #[ι J i,ι J bl,ι J j]):
 Calls prog 229 #[ι I b,aM] w λe w'=>e=aG (ν true)/\w=w':=by
 have X:=hG.cell;have Xl:=hG.lt;clear hG;have wb:IntKind.i64.wrap (b:Int)=b:=IntWalk.i64_in _ (by omega)
 go_enter func229,ntmps229
 go_wp2
 go_ret;exact⟨by first|(simp;done)|(simp;omega),rfl⟩
def mX (bl:Nat) (x:aP):Prop:=x.d0<=bl/\x.d1<=bl/\x.d2<=bl/\x.d3<=bl/\x.ind<=bl
theorem xY (i bl j b T:Nat) (x:aP) (is_:Bool) (w:World) (hm:iR i bl j=true) (hx:mX bl x) (hb:b<=bl):
 Calls prog 149 #[T,dw i bl j,x.val,ι I b,ν is_] w λe w'=>e=aG (ι J (if is_ then 0 else 2))/\Below w.heap.size w w':=by
 have MY:=U (λW=>iN i bl j W);rw[hm]at MY;have hbl:bl<=100000:=by simp[iR,CY]at hm;omega
 obtain⟨h0,h1,h2,h3,h4⟩:=hx;obtain⟨kind,links,size,d0,d1,d2,d3,ind⟩:=x;simp only at h0 h1 h2 h3 h4;have HF:=U (λb aM W (hb:b<=bl) hG=>To i bl j b aM W hbl hb hG);have HB0:=U (((aj _ w).alloc (ah _) (aH #[ι J i,ι J bl,ι J j] 23)).alloc (by simp) (aH #[ι aF kind,ι I links,ι F size,ι I d0,ι I d1,ι I d2,ι I d3,ι I ind] 114));have HG:=U ((aN.new w 23 #[ι J i,ι J bl,ι J j]).alloc (aH #[ι aF kind,ι I links,ι F size,ι I d0,ι I d1,ι I d2,ι I d3,ι I ind] 114));have HX:=aN.new (w.alloc (aH #[ι J i,ι J bl,ι J j] 23)) 114 #[ι aF kind,ι I links,ι F size,ι I d0,ι I d1,ι I d2,ι I d3,ι I ind];rw[aC]at HX;have HX:=U HX;have Z:=U (Tm (ι I d0) (ι I d1) (ι I d2) (ι I d3));have z0:=λW=>(Z.o W).1;have z1:=λW=>(Z.o W).2.1;have z2:=λW=>(Z.o W).2.2.1;have z3:=λW=>(Z.o W).2.2.2;unfold dw aP.val at*
 go_enter func149,ntmps149
 go_wp2_with fail;refine(MY.o _).mono ?_;rintro e w1 ⟨rfl,b1⟩;have hX:=HX.o.later b1;have Dv:=U (HG.o.later b1);have HB1:=U (HB0.o.trans (b1.mono HB0.o.size));clear b1;have X:=hX.cell;have Xl:=hX.lt;clear hX;go_wp2_with fail;refine(HF.o b _ _ hb Dv.o).mono ?_;rintro e w9 ⟨rfl,rfl⟩;go_wp2_with fail;refine(HF.o ind _ _ h4 Dv.o).mono ?_;rintro e w9 ⟨rfl,rfl⟩;cases is_ with
 |true=>
  go_wp2_with fail;refine wp_loop_rounds 5 ?_;rw[rounds_succ];go_wp2_with fail;refine(HF.o d0 _ _ h0 Dv.o).mono ?_;rintro e w9 ⟨rfl,rfl⟩;go_wp2_with fail;rw[rounds_succ];go_wp2_with fail;refine(HF.o d1 _ _ h1 Dv.o).mono ?_;rintro e w9 ⟨rfl,rfl⟩;go_wp2_with fail;rw[rounds_succ];go_wp2_with fail;refine(HF.o d2 _ _ h2 Dv.o).mono ?_;rintro e w9 ⟨rfl,rfl⟩;go_wp2_with fail;rw[rounds_succ];go_wp2_with fail;refine(HF.o d3 _ _ h3 Dv.o).mono ?_;rintro e w9 ⟨rfl,rfl⟩;go_wp2_with fail;rw[rounds_succ]
  go_wp2
  go_ret;exact⟨rfl,HB1.o⟩
 |false=>
  go_wp2_with fail;refine wp_loop_rounds 5 ?_;rw[rounds_succ]
  go_wp2
  rw[rounds_succ]
  go_wp2
  rw[rounds_succ]
  go_wp2
  rw[rounds_succ]
  go_wp2
  rw[rounds_succ]
  go_wp2
  go_ret;exact⟨rfl,HB1.o⟩
theorem jJ (x:aP) (p:Nat) (w:World) (hp:p<36):
 Calls prog 310 #[x.val,ι J p] w λe w'=>e=aG (ν (decide (4<=p)&&decide (x.ind=0)))/\Below w.heap.size w w':=by
 obtain⟨kind,links,size,d0,d1,d2,d3,ind⟩:=x;unfold aP.val;have HB0:=U ((aj _ w).alloc (ah _) (aH #[ι aF kind,ι I links,ι F size,ι I d0,ι I d1,ι I d2,ι I d3,ι I ind] 114));have hX:=aN.new w 114 #[ι aF kind,ι I links,ι F size,ι I d0,ι I d1,ι I d2,ι I d3,ι I ind];have X:=hX.cell;have Xl:=hX.lt;clear hX
 by_cases h4:4<=p
 ·have t4:decide (4<=p)=true:=by simpa using h4
  have q4:(4:Int)<=p:=by omega
  have q5:(p:Int)<36:=by omega
  by_cases hi:ind=0
  ·subst hi
   go_enter func310,ntmps310
   go_wp2
   go_ret;exact⟨by simp[h4],HB0.o⟩
  ·have hi0:((ind:Int)==0)=false:=by simp;omega
   go_enter func310,ntmps310
   go_wp2
   go_ret;exact⟨by simp[h4,hi],HB0.o⟩
 ·have t4:decide (4<=p)=false:=by simpa using h4
  have q4:¬(4:Int)<=p:=by omega
  go_enter func310,ntmps310
  go_wp2
  go_ret;exact⟨by simp[h4],HB0.o⟩
