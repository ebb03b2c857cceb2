/- Lemmas. -/
import Derived.Test.YtpendnmmgjlmfaaGreatDoorM33
import Derived.Deep.CutBlock
import Derived.Deep.CutRange
set_option linter.unusedVariables false
set_option linter.unusedSimpArgs false
namespace Go.Proofs.YtpendnmmgjlmfaaGreatDoor
open Go.RowKit Go.Shelf Go.Maps
open Go.Proofs.Tryz
open IntKind renaming u16→I,i64→J,u32→F,u8→aF
open Value renaming pointer→G,int->ι,tuple->τ,slice->θ
open Ending renaming returned→aG
open Obj renaming cells→aH
set_option maxRecDepth 100000
set_option maxHeartbeats 8000000
namespace lC
open Oct Dev mU Tx Geo qX Bm
def Cc (E:Im) (D:aZ) (b:Nat):aZ:=upd D (fr E 3) (gV (D (fr E 3)) b false)
def iO (E:Im) (D:aZ) (l:List Nat):aZ:=l.foldl (Cc E) D
theorem Pj (E:Im) (D:aZ) (l:List Nat) (b:Nat):iO E D (l++[b])=Cc E (iO E D l) b:=by
 unfold iO;rw[List.foldl_append]
 rfl
def cutV (x:aP) (vs:List Nat) (p:Nat):List Nat:=if x.ind≠0/\p<=4 then List.replicate 32 0 else lK vs p
def sized (y:aP) (s:Nat):aP:={y with size:=s}
def uW (y:aP) (vs:List Nat) (s:Nat):Nat:=if s%64=0 then 0 else aT y vs (s/64)
def Dx (E:Im) (D:aZ) (n:Nat) (x:aP) (vs:List Nat) (s:Nat):aZ:=
 dI E (oK E (iO E (gI E D x vs (aQ s)) (bF x vs (aQ s))) (uW (sized (bf x (aQ s)) s) (cutV x vs (aQ s)) s) (s%64)) n (sized (bf x (aQ s)) s)
section
variable {E:Im} {D:aZ} {Z:Nat->Prop} {Q:Prop}
theorem DQ (x:aP) (vs:List Nat) (p:Nat) (w:World) (hs:Small E) (h:IS w E D Z) (hi:mX E.bl x) (hv:dS E D x.ind vs) (hp:p<=36) (hz:x.ind≠0->4<p->Z (dq E x.ind)) (hQ:fV E Z->Q):
 Calls prog 91 #[E.T.p,dw E.i E.bl E.j,x.val,ι J p] w λe w'=>∃(y:aP) (v:Value) (c:Int),e=aG (τ #[y.val,v,ι J c])/\((c=0/\y=bf x p/\Lr w.heap.size (bF x vs p) v w'/\Wr E (gI E D x vs p) Z w w')\/(c=4/\Fu E Q w w')):=
 ((callsIn_wide (n:=4)).1 (Zf x vs p w hs h hi hv hp hz (λ_=>hQ))).mono λe w' h=>by
   rcases h with⟨v,rfl,g1,g2,_⟩|⟨rfl,g⟩
   ·exact⟨_,v,0,rfl,.inl ⟨rfl,rfl,g1,g2⟩⟩
   ·exact⟨dY,θ none 0 0,4,rfl,.inr ⟨rfl,g⟩⟩
theorem UP {w w':World} {c:Int} {A B:Prop} {D':aZ} (h:(c=0/\A/\B/\Wr E D' Z w w')\/(c=4/\Fu E Q w w')):aR (λc=>c=E.T.m) w w':=by
 rcases h with⟨_,_,_,g⟩|⟨_,g⟩
 ·exact g.2
 ·exact g.2
theorem Zk {w W w6 W7:World} {X pg:Nat} {x y:aP} {vs:List Nat} {v:Value} {c:Int} {a0 a1 a2 a3 a4 a5 a6 a7:Value} (h0:IS w E D Z) (hX:aN w6 X 114 #[a0,a1,a2,a3,a4,a5,a6,a7]) (hB:Below w.heap.size w W) (hXw:w.heap.size<=X) (uw:X+1<=W.heap.size)
 (hc:(c=0/\y=bf x pg/\Lr W.heap.size (bF x vs pg) v w6/\Wr E (gI E D x vs pg) Z W w6)\/(c=4/\Fu E Q W w6))
 (h7:dG w6 X (ι aF y.kind) (ι I y.links) (ι F y.size) (ι I y.d0) (ι I y.d1) (ι I y.d2) (ι I y.d3) (ι I y.ind)=W7):
 ∃(y':aP) (c':Int),Value.pointer (some ⟨X,0,none⟩)=G (some ⟨X,0,none⟩)/\Value.int J c=ι J c'/\aN W7 X 114 y'.cells/\((c'=0/\y'=bf x pg/\Lr (X+1) (bF x vs pg) v W7/\Wr E (gI E D x vs pg) Z w W7)\/(c'=4/\Fu E Q w W7)):=by
 have hb:Below w.heap.size w6 W7:=by
  rw[<-h7];exact aX (aj _ _) hXw
 refine⟨y,c,rfl,rfl,by rw[<-h7];exact fK hX _ _ _ _ _ _ _ _,?_⟩
 rcases hc with⟨e,g1,g2,g3⟩|⟨e,g⟩
 ·refine .inl ⟨e,g1,?_,Wr.via h0 (g3.pre hB) hb⟩
  rw[<-h7];exact Fg (mY g2 uw) (by omega)
 ·exact .inr ⟨e,Fu.via (g.pre hB) hb⟩
theorem yc (n s:Nat) (x:aP) (vs:List Nat) (w:World) (hs:Small E) (h:IS w E D Z) (h1:1<=n) (hn:n<=E.i) (hx:dZ E D n x) (ho:x.Ok) (hk:x.kind≠0) (hi:mX E.bl x) (hv:dS E D x.ind vs)
 (hsz:s<=2304) (hd:x.kind=2->s%64=0) (hfr:∀k (hk:k<(bF x vs (aQ s)).length),1<=(bF x vs (aQ s))[k]/\(bF x vs (aQ s))[k]<=E.bl/\dn ((iO E (gI E D x vs (aQ s)) ((bF x vs (aQ s)).take k)) (fr E 3)) (bF x vs (aQ s))[k]=true)
 (hy:(sized (bf x (aQ s)) s).Ok) (hyi:mX E.bl (bf x (aQ s))) (hyv:dS E (iO E (gI E D x vs (aQ s)) (bF x vs (aQ s))) (bf x (aQ s)).ind (cutV x vs (aQ s)))
 (hz3:Z (fr E 3)) (lL:Z (tq E n)) (hzd:∀b,1<=b->b<=E.bl->(b=x.ind\/b=uW (sized (bf x (aQ s)) s) (cutV x vs (aQ s)) s)->Z (dq E b)) (hQ:fV E Z->Q):
 Calls prog 197 #[E.M,ι F n,ι F s] w (Out (ι J 0) (ι J 4) (Wr E (Dx E D n x vs s) Z w) (Fu E Q w)):=by
 have hpg:aQ s<=36:=by unfold aQ;omega
 have TH:=jw n x w hs h h1 hn hx ho;rw[if_neg hk]at TH;have TH:=U TH;have PG:=U (λW=>oU s W (by omega));have CU:=U (λW (h:IS W E D Z)=>DQ x vs (aQ s) W hs h hi hv hpg (λh0 _=>hzd x.ind (by omega) hi.2.2.2.2 (.inl rfl)) hQ);have H:=U h;have zC:=sD h;obtain⟨kind,links,size,d0,d1,d2,d3,ind⟩:=x;have HD:=U hd
 have hk2:(((kind:Int)==2)&&((s:Int)%64 !=0))=false:=by
  by_cases h2:kind=2
  ·have:=hd h2
   simp;omega
  ·simp;omega
 have q1:¬(2304:Int)<s:=by omega
 have q2:¬2304<s:=by omega
 unfold dw aP.val at*;clear h hx ho hk hi hv hd
 go_enter func197,ntmps197
 go_wp2_with fail;refine TH.o.mono ?_;rintro e w1 ⟨rfl,b1⟩;have hX:=aN.new w1 114 #[ι aF kind,ι I links,ι F size,ι I d0,ι I d1,ι I d2,ι I d3,ι I ind];have hB1:=b1.alloc b1.size (aH #[ι aF kind,ι I links,ι F size,ι I d0,ι I d1,ι I d2,ι I d3,ι I ind] 114);have H1:=U (H.o.later hB1);have hM:=H1.o.img;have jv:=U hX;have B1:=U hB1;have hw1:=b1.size;have X:=hX.cell;have Xl:=hX.lt;have M:=hM.cell;have Ml:=hM.lt;clear hX hM hB1 b1
 go_upto_block 0 with fail
 go_cut [7,8]from 15 (λq8 e8 wx=>q8=G (some ⟨w1.heap.size,0,none⟩)/\e8=ι J 0/\wx=w1.alloc (aH #[ι aF kind,ι I links,ι F size,ι I d0,ι I d1,ι I d2,ι I d3,ι I ind] 114))
 case first=>
  by_cases hkd:kind=2
  ·subst hkd
   have h64:=HD.o rfl;go_wp2_with fail
   go_meet
   case rel=>exact⟨rfl,rfl,rfl⟩
  ·have t1:((kind:Int)==2)=false:=by simp;omega
   go_wp2_with fail
   go_meet
   case rel=>exact⟨rfl,rfl,rfl⟩
 case rest=>
  obtain⟨rfl,rfl,rfl⟩:=hcut;have BD:=U (B1.o.trans ((aj (w1.alloc (aH #[ι aF kind,ι I links,ι F size,ι I d0,ι I d1,ι I d2,ι I d3,ι I ind] 114)).heap.size (w1.alloc (aH #[ι aF kind,ι I links,ι F size,ι I d0,ι I d1,ι I d2,ι I d3,ι I ind] 114))).drew.mono B1.o.size));have HID:=U (H.o.later BD.o);have HXD:=U (aN.drew jv.o);have hszw:(w1.alloc (aH #[ι aF kind,ι I links,ι F size,ι I d0,ι I d1,ι I d2,ι I d3,ι I ind] 114)).heap.size=w1.heap.size+1:=by simp
  go_upto_region 7 with fail
  go_cut [7,8,9]from 15 (λq7 e8 v9 wx=>∃(y:aP) (c:Int),q7=G (some ⟨w1.heap.size,0,none⟩)/\e8=ι J c/\aN wx w1.heap.size 114 y.cells/\((c=0/\y=bf ⟨kind,links,size,d0,d1,d2,d3,ind⟩ (aQ s)/\Lr (w1.heap.size+1) (bF ⟨kind,links,size,d0,d1,d2,d3,ind⟩ vs (aQ s)) v9 wx/\Wr E (gI E D ⟨kind,links,size,d0,d1,d2,d3,ind⟩ vs (aQ s)) Z w wx)\/(c=4/\Fu E Q w wx)))
  case first=>
   go_region_law (first|(go_simp;go_at_call 155;refine(PG.o _).mono ?_;rintro e w5 ⟨rfl,rfl⟩)|(go_simp;go_at_call 91;refine(CU.o _ HID.o).mono ?_;rintro e w6 ⟨y,v,c,rfl,hc⟩;have pK:aN w6 w1.heap.size 114 #[ι aF kind,ι I links,ι F size,ι I d0,ι I d1,ι I d2,ι I d3,ι I ind]:=(aR.block (UP hc) _ HXD.o.lt (by omega)).trans HXD.o;have HX6:=U pK;have P0:=pK.cell 0;have P1:=pK.cell 1;have P2:=pK.cell 2;have P3:=pK.cell 3;have P4:=pK.cell 4;have P5:=pK.cell 5;have P6:=pK.cell 6;have P7:=pK.cell 7;have F0:=pK.free 0;have F1:=pK.free 1;have F2:=pK.free 2;have F3:=pK.free 3;have F4:=pK.free 4;have F5:=pK.free 5;have F6:=pK.free 6;have F7:=pK.free 7;have Pl:=pK.lt;have HC:=U hc;simp only[au,av,ay]at P0 P1 P2 P3 P4 P5 P6 P7;clear pK hc))
   all_goals
    go_wp2_with fail
    go_meet
    exact Zk H.o HX6.o BD.o hw1 (Nat.le_of_eq hszw.symm) HC.o rfl
  case rest=>
   obtain⟨y,c,rfl,rfl,Vh,hcc⟩:=hcut;clear jv HXD HID BD B1 hszw M Ml X Xl H1
   rcases hcc with⟨rfl,hyc,hown,hW⟩|⟨rfl,hF⟩
   ·obtain⟨zZ,Eg⟩:∃l,bF ⟨kind,links,size,d0,d1,d2,d3,ind⟩ vs (aQ s)=l:=⟨_,rfl⟩
    obtain⟨D1,hD1⟩:∃d,gI E D ⟨kind,links,size,d0,d1,d2,d3,ind⟩ vs (aQ s)=d:=⟨_,rfl⟩;obtain⟨vs1,UT⟩:∃d,cutV ⟨kind,links,size,d0,d1,d2,d3,ind⟩ vs (aQ s)=d:=⟨_,rfl⟩;have hfin:=U (show Dx E D n ⟨kind,links,size,d0,d1,d2,d3,ind⟩ vs s=dI E (oK E (iO E D1 zZ) (uW (sized y s) vs1 s) (s%64)) n (sized y s)by unfold Dx;rw[hyc,hD1,Eg,UT]);rw[<-hyc]at hy hyi hyv hzd;rw[Eg]at hown hfr hyv;rw[hD1]at hW hfr hyv;rw[UT]at hyv hzd
    have hfl:zZ.length<=40:=by
     rw[<-Eg];unfold bF zf pR;have e1:=uf (iI ⟨kind,links,size,d0,d1,d2,d3,ind⟩) (aQ s) (4-aQ s);have e2:=uf vs (aQ s-4) (32-(aQ s-4));simp only[List.length_append,List.length_map]
     split<;>simp<;>omega
    obtain⟨ao,cap,rfl⟩:∃ao cap,u9=θ ao zZ.length cap:=by
     rcases hown.2 with⟨rfl,e0⟩|⟨g,cap,cur,rfl,_⟩
     ·exact⟨none,0,by rw[e0]⟩
     ·exact⟨_,_,rfl⟩
    clear hyc Eg hD1 UT CU PG;have HR0:=U (And.intro Vh (And.intro hW hown));have HFR:=U hfr;have hfi:(zZ.length:Int)<=9223372036854775807:=by omega
    clear Vh hW hown hfr;go_wp2_with fail
    go_loopw [58] (λc wr=>∃k:Nat,k<=zZ.length/\c=ι J k/\aN wr w1.heap.size 114 y.cells/\Wr E (iO E D1 (zZ.take k)) Z w wr/\Lr (w1.heap.size+1) zZ (θ ao zZ.length cap) wr) (λc _=>zZ.length-(intOf c).toNat)
    case atStart=>exact⟨0,aB _,rfl,HR0.o.1,HR0.o.2.1,HR0.o.2.2⟩
    case round=>
     obtain⟨k,hkl,rfl,Dj,AM,hOr⟩:=hrel
     by_cases hlt:k<zZ.length
     ·obtain⟨g,cap',e,hge,hcc,hR⟩:=jy.YV hOr (by omega)
      injection e with e1 e2 e3
      subst e1 e3;have c1:=hR.cell k hlt;have gl:=hR.lt;obtain⟨f1,f2,f3⟩:=HFR.o k hlt;have GB:=U (Ik (Q:=Q) zZ[k] wr hs AM.1 f1 f2 f3 hz3 hQ);have hsn:iO E D1 (zZ.take (k+1))=Cc E (iO E D1 (zZ.take k)) zZ[k]:=by rw[List.take_add_one,List.getElem?_eq_getElem hlt];exact Pj E D1 _ _
      have Js:=U hsn;have HXr:=U Dj;have HWr:=U AM;have HOr:=U hOr;have q0:(0:Int)<=k:=by omega
      have q3:(k:Int)<zZ.length:=by omega
      have hgeW:=HWr.o.2.size;clear Dj AM hOr hsn hR f1 f2 f3
      generalize zZ[k]=b at*
      go_wp2_with fail;refine GB.o.mono ?_;rintro e w5 (⟨rfl,aM⟩|⟨rfl,aM⟩)
      ·have jD:=U (show aN w5 w1.heap.size 114 y.cells from(aM.2.block _ HXr.o.lt (by omega)).trans HXr.o)
       have HO5:=U (wL HOr.o aM.2 (by omega));have Iz:=U (aM.then_ HWr.o);clear aM;go_wp2_with fail;go_roundw
       case rel=>exact⟨k+1,by omega,rfl,jD.o,by rw[Js.o];exact Iz.o,HO5.o⟩
       case measure=>simp[intOf];omega
      ·have Iz:=U (aM.then_ HWr.o)
       clear aM
       go_wp2
       go_ret;exact .inr ⟨rfl,Iz.o⟩
     ·obtain rfl:k=zZ.length:=by omega
      rw[List.take_length]at AM;obtain⟨yk,yl,yz,y0,y1,y2,y3,yi⟩:=y;unfold aP.cells at Dj;unfold sized at*;simp only at Dj hy hyi hyv hzd
      generalize iO E D1 zZ=D2 at*
      have HWS:=U (Wr.via H.o AM ((aj w.heap.size wr).setCell (p:=⟨w1.heap.size,2,none⟩) hw1 (ι F s)));have X:=Dj.cell;have Xl:=Dj.lt;have F0:=Dj.free 0;have F1:=Dj.free 1;have F2:=Dj.free 2;have F3:=Dj.free 3;have F4:=Dj.free 4;have F5:=Dj.free 5;have F6:=Dj.free 6;have F7:=Dj.free 7;have HXS:=U (Dj.set 2 (ι F s));have hlt9:w1.heap.size<wr.heap.size:=Xl;clear AM hOr HR0 Dj
      by_cases h64:s%64=0
      ·have t1:(s:Int)%64=0:=by omega
       have hz:uW ⟨yk,yl,s,y0,y1,y2,y3,yi⟩ vs1 s=0:=if_pos h64;rw[hz]at hfin;have SI:=U (jg (Q:=Q) n ⟨yk,yl,s,y0,y1,y2,y3,yi⟩ _ hs HWS.o.1 h1 hn hy lL hQ);unfold aP.val at SI;go_wp2_with fail;refine SI.o.mono ?_;rintro e w5 (⟨rfl,aM⟩|⟨rfl,aM⟩)
       ·have Iz:=U (aM.then_ HWS.o)
        clear aM
        go_wp2
        go_ret;exact .inl ⟨rfl,by rw[hfin.o];exact Iz.o⟩
       ·have Iz:=U (aM.then_ HWS.o)
        clear aM
        go_wp2
        go_ret;exact .inr ⟨rfl,Iz.o⟩
      ·have t1:((s:Int)%64 !=0)=true:=by simp;omega
       have hz:uW ⟨yk,yl,s,y0,y1,y2,y3,yi⟩ vs1 s=aT ⟨yk,yl,s,y0,y1,y2,y3,yi⟩ vs1 (s/64):=if_neg h64;have e1:((s/64:Nat):Int)=(s:Int)/64:=by omega
       have e2:((s%64:Nat):Int)=(s:Int)%64:=by omega
       have hyi2:mX E.bl ⟨yk,yl,s,y0,y1,y2,y3,yi⟩:=hyi;have BLK:=Zj (Q:=Q) (s/64) (s%64) ⟨yk,yl,s,y0,y1,y2,y3,yi⟩ vs1 _ hs HWS.o.1 hyi2 hyv (by omega) (by omega) (λh0=>hzd _ (by omega) (Cb hyi2 hyv.lt _) (.inr hz.symm)) hQ;rw[e1,e2]at BLK;rw[hz]at hfin;have BLK:=U BLK;have SI:=U (λW D' (h:IS W E D' Z)=>jg (Q:=Q) n ⟨yk,yl,s,y0,y1,y2,y3,yi⟩ W hs h h1 hn hy lL hQ);unfold aP.val at SI BLK
       generalize aT ⟨yk,yl,s,y0,y1,y2,y3,yi⟩ vs1 (s/64)=pb at*
       clear hz hzd e1 e2;go_wp2_with fail;refine BLK.o.mono ?_;rintro e w5 ⟨c,rfl,hc⟩
       rcases hc with⟨rfl,aM⟩|⟨rfl,aM⟩
       ·have om:aN w5 w1.heap.size 114 _:=(aM.2.block _ HXS.o.lt (by omega)).trans HXS.o
        simp only[List.setIfInBounds_toArray,List.set_cons_zero,List.set_cons_succ]at om;have Iz:=U (aM.then_ HWS.o);clear aM X Xl F0 F1 F2 F3 F4 F5 F6 F7;have X:=om.cell;have Xl:=om.lt;clear om;go_wp2_with fail;refine(SI.o _ _ Iz.o.1).mono ?_;rintro e w6 (⟨rfl,aM⟩|⟨rfl,aM⟩)
        ·have HW6:=U (aM.then_ Iz.o)
         clear aM
         go_wp2
         go_ret;exact .inl ⟨rfl,by rw[hfin.o];exact HW6.o⟩
        ·have HW6:=U (aM.then_ Iz.o)
         clear aM
         go_wp2
         go_ret;exact .inr ⟨rfl,HW6.o⟩
       ·have Iz:=U (aM.then_ HWS.o)
        clear aM
        go_wp2
        go_ret;exact .inr ⟨rfl,Iz.o⟩
   ·have HF:=U hF
    clear hF Vh
    go_wp2
    go_ret;exact .inr ⟨rfl,HF.o⟩
end
