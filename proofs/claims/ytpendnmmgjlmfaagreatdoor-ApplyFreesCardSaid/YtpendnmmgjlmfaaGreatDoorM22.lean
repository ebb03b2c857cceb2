/- Lemmas. -/
import Derived.Test.YtpendnmmgjlmfaaGreatDoorM20
import Derived.Test.YtpendnmmgjlmfaaGreatDoorM15
import Derived.Test.YtpendnmmgjlmfaaGreatDoorM11
set_option linter.unusedVariables false
set_option linter.unusedSimpArgs false
namespace Go.Proofs.YtpendnmmgjlmfaaGreatDoor
open Go.RowKit Go.Shelf Go.Maps
open Go.Proofs.Tryz
open IntKind renaming i64→J
open Value renaming pointer→G,int->ι,string->σ,bool->ν,tuple->τ,slice->θ,agg->γ
open Ending renaming returned→aG
open Obj renaming cells→aH
set_option maxRecDepth 100000
set_option maxHeartbeats 4000000
namespace mU
open Oct Dev Wz
theorem jU {w W:World} {n:Nat} (h:Below n w W):∀m,Below n w (W.drewN m)
 |0=>h
 |m+1=>(jU h m).drew
theorem RW (b:dN) (hard:List ByteArray) (P:Wait) (k:Nat) (W:World) (m:Nat) (h:DV W b hard P k):Calls prog 60 #[b.p] (W.drewN m) λe w'=>e=aG (ι J hard.length)/\w'=W.drewN m:=by
 obtain⟨pd,h1,_⟩:=h;refine(qx _ (h1.later (jU (aj _ _) m))).mono ?_;rintro e w' ⟨rfl,rfl⟩;exact⟨rfl,rfl⟩
structure Fits (hard:List ByteArray) (fr n:Nat) (l:Puts):Prop where
 lt:∀x∈l,x.1<hard.length
 size:∀x∈l,x.2.size=64
 out:∀x∈l,x.1<fr\/fr+n<=x.1
 len:l.length<=fH n
theorem Be (j g fr n lF cap k:Nat) (l:Puts) (b:dN) (hard:List ByteArray) (P:Wait) (w:World) (hJ:eF w j b fr n lF) (hL:jc w g l) (hg:g<w.heap.size) (hD:DV w b hard P k) (hf:Fits hard fr n l) (hl4:l.length<=4096) (hn:n<=4096) (hfr:fr<=4096):
 Calls prog 139 #[j,θ (some g) l.length cap] w λe w'=>e=aG (ι J 0)/\Below w.heap.size w w':=by
 have hhl:=hD.len;have HJ:=U hJ;have HL:=U hL;have HD:=U hD;have MX:=U (λW (h:Below w.heap.size w W)=>GQ j b fr n lF W (aN.later HJ.o h) (by omega));unfold eF at hJ;clear hJ hL hD
 go_enter func139,ntmps139
 go_wp2_with fail
 go_loopw [11] (λc wr=>∃q:Nat,q<=l.length/\c=ι J q/\Below w.heap.size w wr) (λc _=>l.length-(intOf c).toNat)
 case atStart=>exact⟨0,aB _,rfl,aj _ _⟩
 case round=>
  obtain⟨q,hq,rfl,hB⟩:=hrel;have MR:=U hB
  by_cases hlt:q<l.length
  ·have Rq:=HL.o.later hg hB
   obtain⟨c0,c1⟩:=Rq q hlt;have m1:=hf.lt _ (List.getElem_mem hlt);have m2:=hf.size _ (List.getElem_mem hlt)
   generalize l[q]=x at*
   obtain⟨xs,xd⟩:=x;simp only at c0 c1 m1 m2;have pK:=aN.new wr 171 #[ι J xs,σ xd];have gR:=hB.alloc hB.size (aH #[ι J xs,σ xd] 171);have Ru:aN _ j 167 _:=aN.later HJ.o gR;have LN:=U (λm=>RW b hard P k _ m (HD.o.later gR));have Ky:=U gR;have Y:=pK.cell;have Yl:=pK.lt;have aK:=Ru.cell;have Jl:=Ru.lt;have q0:(0:Int)<=q:=by omega
   have q3:(q:Int)<l.length:=by omega
   have t1:decide ((xs:Int)<0)=false:=by simp
   have t2:decide ((hard.length:Int)<=(xs:Int))=false:=by simp;omega
   have t2b:decide (hard.length<=xs)=false:=by simp;omega
   have t3:((xd.size:Int)!=64)=false:=by simp;omega
   clear Rq pK hB gR Ru
   go_upto_region 4 with fail
   go_quiet ((go_at_call 60;exact Calls.quiet_of_same (LN.o _)))
   have tD:=U (jU Ky.o nq);go_wp2_with fail;go_roundw
   case rel=>exact⟨q+1,by omega,by go_num,tD.o⟩
   case measure=>simp[intOf];omega
  ·obtain rfl:q=l.length:=by omega
   clear hB;go_wp2_with fail
   go_loopw [37] (λc wr=>∃q:Nat,q<=l.length/\c=ι J q/\Below w.heap.size w wr) (λc _=>l.length-(intOf c).toNat)
   case atStart=>exact⟨0,aB _,rfl,MR.o⟩
   case round=>
    obtain⟨q,hq,rfl,hB⟩:=hrel;have MR:=U hB
    by_cases hlt:q<l.length
    ·have Rq:=HL.o.later hg hB
     obtain⟨c0,c1⟩:=Rq q hlt;have m1:=hf.lt _ (List.getElem_mem hlt);have m2:=hf.out _ (List.getElem_mem hlt)
     generalize l[q]=x at*
     obtain⟨xs,xd⟩:=x;simp only at c0 c1 m1 m2;have pK:=aN.new wr 171 #[ι J xs,σ xd];have gR:=hB.alloc hB.size (aH #[ι J xs,σ xd] 171);have Ru:aN _ j 167 _:=aN.later HJ.o gR;have Ky:=U gR;have Y:=pK.cell;have Yl:=pK.lt;have aK:=Ru.cell;have Jl:=Ru.lt;have q0:(0:Int)<=q:=by omega
     have q3:(q:Int)<l.length:=by omega
     clear Rq pK hB gR Ru
     rcases Nat.lt_or_ge xs fr with hx|hx
     ·have t1:decide ((fr:Int)<=(xs:Int))=false:=by simp;omega
      have t2:decide (fr<=xs)=false:=by simp;omega
      go_upto_region 10 with fail
      go_quiet (fail)
      have tD:=U (jU Ky.o nq);go_wp2_with fail;go_roundw
      case rel=>exact⟨q+1,by omega,by go_num,tD.o⟩
      case measure=>simp[intOf];omega
     ·have t1:(fr:Int)<=(xs:Int):=by omega
      have t2:decide ((xs:Int)<(fr:Int)+(n:Int))=false:=by simp;omega
      go_upto_region 10 with fail
      go_quiet (fail)
      have tD:=U (jU Ky.o nq);go_wp2_with fail;go_roundw
      case rel=>exact⟨q+1,by omega,by go_num,tD.o⟩
      case measure=>simp[intOf];omega
    ·obtain rfl:q=l.length:=by omega
     have ML:=hf.len;have MX2:=U (MX.o _ MR.o);have t1:decide ((fH n:Int)<(l.length:Int))=false:=by simp;omega
     clear hB;go_wp2_with fail;refine MX2.o.mono ?_;rintro e w9 ⟨rfl,rfl⟩
     go_wp2
     go_ret;exact⟨rfl,MR.o⟩
def KW (hard:List ByteArray) (fr:Nat) (l:Puts):List ByteArray:=Ow hard (rU noW (fr+1) (dJ l))
def KY (hard:List ByteArray) (fr gen:Nat) (l:Puts):List ByteArray:=Ow (KW hard fr l) (zF noW fr (mV gen l.length))
def Hz (hard:List ByteArray) (fr gen:Nat) (l:Puts):List ByteArray:=Ow (KY hard fr gen l) (lZ noW l)
def KZ (hard:List ByteArray) (fr gen:Nat) (l:Puts):List ByteArray:=Ow (Hz hard fr gen l) (zF noW fr (mV gen 0))
theorem Bi (hard:List ByteArray) (fr gen:Nat) (l:Puts):(KW hard fr l).length=hard.length/\(KY hard fr gen l).length=hard.length/\(Hz hard fr gen l).length=hard.length/\(KZ hard fr gen l).length=hard.length:=by
 unfold KZ Hz KY KW;simp only[nY,and_self]
def S3 (b:dN) (c:Nat):Prop:=c=b.p\/c=b.m\/c=b.g
def Stp (w:World) (b:dN) (d:Nat) (fv:Array Value) (hard:List ByteArray) (P:Wait) (k:Nat) (W:World):Prop:=aN W d 82 fv/\DV W b hard P k/\aR (S3 b) w W
theorem Ia {b:dN} {W W':World} (h:aR (λc=>c=b.p\/c=b.m) W W'):aR (S3 b) W W':=h.mono (λc e=>e.elim .inl (λq=>.inr (.inl q)))
theorem Sa {b:dN} {W W':World} (h:aR (λc=>c=b.g\/c=b.m) W W'):aR (S3 b) W W':=h.mono (λc e=>e.elim (λq=>.inr (.inr q)) (λq=>.inr (.inl q)))
theorem Stp.next {w:World} {b:dN} {d:Nat} {fv:Array Value} {hard JT:List ByteArray} {P P':Wait} {k k':Nat} {W W':World} (h:Stp w b d fv hard P k W) (hD:DV W' b JT P' k') (T:aR (S3 b) W W'):Stp w b d fv JT P' k' W':=by
 obtain⟨h1,h2,h3⟩:=h;have n:=h2.ne h1 (by decide) (by decide);exact⟨aN.qR h1 T (λe=>e.elim n.1 (λe=>e.elim n.2.1 n.2.2)),hD,h3.trans T⟩
section
variable {w W:World} {b:dN} {d k wk j g fr n lF gen cap:Nat} {fv:Array Value} {hard:List ByteArray} {P:Wait} {l:Puts}
theorem Stp.flush (h:Stp w b d fv hard P k W) (hk:k<=1099511627776):Calls prog 68 #[b.p] W λe W'=>e=aG (ι J 0)/\Stp w b d fv (Ow hard P) noW k W':=by
 refine(XW W h.2.1 hk).mono ?_;rintro e W' ⟨rfl,g1,g2⟩;exact⟨rfl,h.next g1 (Sa g2)⟩
def fvs (wk:Nat) (b:dN):Array Value:=#[.func (.func 140) #[wk] #[],.func (.func 68) #[b.p] #[],.func (.func 141) #[wk] #[],.func (.func 68) #[b.p] #[],.func (.func 135) #[wk] #[],.func (.func 68) #[b.p] #[],.func (.func 136) #[wk] #[],.func (.func 68) #[b.p] #[]]
def La (w:World) (b:dN) (d wk fr gen k:Nat) (hard:List ByteArray) (l:Puts):Nat->World->Prop
 |0=>Stp w b d (fvs wk b) hard noW k
 |1=>Stp w b d (fvs wk b) hard (rU noW (fr+1) (dJ l)) (k+(dJ l).length)
 |2=>Stp w b d (fvs wk b) (KW hard fr l) noW (k+(dJ l).length)
 |3=>Stp w b d (fvs wk b) (KW hard fr l) (zF noW fr (mV gen l.length)) (k+(dJ l).length+1)
 |4=>Stp w b d (fvs wk b) (KY hard fr gen l) noW (k+(dJ l).length+1)
 |5=>Stp w b d (fvs wk b) (KY hard fr gen l) (lZ noW l) (k+(dJ l).length+1+l.length)
 |6=>Stp w b d (fvs wk b) (Hz hard fr gen l) noW (k+(dJ l).length+1+l.length)
 |7=>Stp w b d (fvs wk b) (Hz hard fr gen l) (zF noW fr (mV gen 0)) (k+(dJ l).length+1+l.length+1)
 |8=>Stp w b d (fvs wk b) (KZ hard fr gen l) noW (k+(dJ l).length+1+l.length+1)
 |_=>λ_=>False
theorem EU {q:Nat} (h:La w b d wk fr gen k hard l q W):aN W d 82 (fvs wk b):=by
 match q,h with
 |0,h|1,h|2,h|3,h|4,h|5,h|6,h|7,h|8,h=>exact h.1
 |q+9,h=>exact h.elim
theorem Bk (w:World) (hJ:eF w j b fr n lF) (hW:rT w wk j gen g l.length cap) (hL:jc w g l) (hg:g<w.heap.size) (hgn:g≠b.p/\g≠b.m/\g≠b.g) (hd:(l.map Prod.fst).Nodup) (hf:Fits hard fr n l) (h16:hard.length<=4096) (hrow:1+(dJ l).length<=n) (hfr:fr+n<=hard.length) (hgen:gen<18446744073709551616) (hk:k+30000<1099511627776) (hl4:l.length<=4096) (hr8:(dJ l).length<=8192) (nJ:j≠b.p/\j≠b.m/\j≠b.g) (nW:wk≠b.p/\wk≠b.m/\wk≠b.g) (h0:La w b d wk fr gen k hard l 0 W):
 Calls prog 134 #[θ (some d) 8 8] W λe W'=>e=aG (ι J 0)/\La w b d wk fr gen k hard l 8 W':=by
 obtain⟨e1,e2,e3,e4⟩:=Bi hard fr gen l;have jW:∀{V:World},aR (S3 b) w V->eF V j b fr n lF:=λ{V} T=>aN.qR (show aN w j 167 _ from hJ) T (λe=>e.elim nJ.1 (λe=>e.elim nJ.2.1 nJ.2.2));have wW:∀{V:World},aR (S3 b) w V->rT V wk j gen g l.length cap:=λ{V} T=>aN.qR (show aN w wk 246 _ from hW) T (λe=>e.elim nW.1 (λe=>e.elim nW.2.1 nW.2.2));have lW:∀{V:World},aR (S3 b) w V->jc V g l:=λ{V} T=>hL.qR T hg (λe=>e.elim hgn.1 (λe=>e.elim hgn.2.1 hgn.2.2));have gW:∀{V:World},aR (S3 b) w V->g<V.heap.size:=λ{V} T=>aA hg T.size;have yZ:∀(q i:Nat) (v:Value) (V:World),(fvs wk b)[i]? =some v->La w b d wk fr gen k hard l q V->V.cell? ⟨d,i,none⟩=some v:=λq i v V hv h=>((EU h).cell i).trans hv;refine run_8 d wk b.p (La w b d wk fr gen k hard l) W h0 (λq V h=>(EU h).lt) (λV h=>yZ 0 0 _ V rfl h) (λV h=>yZ 1 1 _ V rfl h) (λV h=>yZ 2 2 _ V rfl h) (λV h=>yZ 3 3 _ V rfl h) (λV h=>yZ 4 4 _ V rfl h) (λV h=>yZ 5 5 _ V rfl h) (λV h=>yZ 6 6 _ V rfl h) (λV h=>yZ 7 7 _ V rfl h) ?_ ?_ ?_ ?_ ?_ ?_ ?_ ?_
 ·intro V h
  refine(OM wk j g fr n lF gen cap k l b hard V (jW h.2.2) (wW h.2.2) (lW h.2.2) (gW h.2.2) ⟨hgn.1,hgn.2.1⟩ h.2.1 (λx hx=>⟨by have:=hf.lt x hx;omega,hf.size x hx⟩) hl4 hrow hfr (by omega)).mono ?_;rintro e V' ⟨rfl,g1,g2⟩;exact⟨rfl,Stp.next h g1 (Ia g2)⟩
 ·intro V h
  exact Stp.flush h (by omega)
 ·intro V h
  refine(Yq wk j g fr n lF gen l.length cap (k+(dJ l).length) b (KW hard fr l) noW V (jW h.2.2) (wW h.2.2) h.2.1 (by rw[e1];omega) rfl hgen (by omega) (by omega) ⟨nJ.1,nJ.2.1⟩ ⟨nW.1,nW.2.1⟩).mono ?_;rintro e V' ⟨rfl,g1,g2⟩;exact⟨rfl,Stp.next h g1 (Ia g2)⟩
 ·intro V h
  exact Stp.flush h (by omega)
 ·intro V h
  refine(Hu wk j g fr n lF gen cap (k+(dJ l).length+1) l b (KY hard fr gen l) noW V (jW h.2.2) (wW h.2.2) (lW h.2.2) (gW h.2.2) ⟨hgn.1,hgn.2.1⟩ h.2.1 hd (λx hx=>⟨by rw[e2];exact hf.lt x hx,rfl,hf.size x hx⟩) hl4 (by omega)).mono ?_;rintro e V' ⟨rfl,g1,g2⟩;exact⟨rfl,Stp.next h g1 (Ia g2)⟩
 ·intro V h
  exact Stp.flush h (by omega)
 ·intro V h
  refine(Yt wk j g fr n lF gen l.length cap (k+(dJ l).length+1+l.length) b (Hz hard fr gen l) noW V (jW h.2.2) (wW h.2.2) h.2.1 (by rw[e3];omega) rfl hgen (by omega) ⟨nJ.1,nJ.2.1⟩ ⟨nW.1,nW.2.1⟩).mono ?_;rintro e V' ⟨rfl,g1,g2⟩;exact⟨rfl,Stp.next h g1 (Ia g2)⟩
 ·intro V h
  exact Stp.flush h (by omega)
end
theorem OQ (j g fr n gen cap k:Nat) (l:Puts) (b:dN) (hard:List ByteArray) (w:World) (hJ:eF w j b fr n gen) (hL:jc w g l) (hg:g<w.heap.size) (hgn:g≠b.p/\g≠b.m/\g≠b.g) (hD:DV w b hard noW k) (hd:(l.map Prod.fst).Nodup) (hf:Fits hard fr n l) (hn:n<=256) (hfr:fr+n<=hard.length) (hrow:1+(dJ l).length<=n) (hgen:gen+1<18446744073709551616) (hk:k+30000<1099511627776) (hl4:l.length<=256):
 Calls prog 73 #[j,θ (some g) l.length cap] w λe w'=>e=aG (τ #[ι .u64 (gen+1:Nat),ι J 0])/\eF w' j b fr n (gen+1)/\DV w' b (KZ hard fr (gen+1) l) noW (k+(dJ l).length+1+l.length+1)/\aR (λc=>S3 b c\/c=j) w w':=by
 have hhl:=hD.len;have nJ:=hD.ne (show aN w j 167 _ from hJ) (by decide) (by decide);have WY:=U (Be j g fr n gen cap k l b hard noW w hJ hL hg hD hf (by omega) (by omega) (by omega));have HJ:=U hJ;have HL:=U hL;have HD:=U hD;unfold eF at hJ;have jl:=hJ.lt;clear hJ hL hD
 go_enter func73,ntmps73
 go_wp2_with fail;refine WY.o.mono ?_;rintro e w1 ⟨rfl,b1⟩;have gS:aN w1 j 167 _:=aN.later HJ.o b1;have B1:=U b1;have ge:((gen+1:Nat):Int)=(gen:Int)+1:=by omega
 have hg64:(gen:Int)+1<18446744073709551616:=by omega
 have B2:Below w.heap.size w (w1.alloc (aH #[j,ι .u64 ((gen:Int)+1),θ (some g) l.length cap] 246)).drew:=(b1.alloc b1.size _).drew;have hJ2:aN (w1.alloc (aH #[j,ι .u64 ((gen:Int)+1),θ (some g) l.length cap] 246)).drew j 167 _:=aN.drew (gS.alloc (aH #[j,ι .u64 ((gen:Int)+1),θ (some g) l.length cap] 246));have hW2:aN (w1.alloc (aH #[j,ι .u64 ((gen:Int)+1),θ (some g) l.length cap] 246)).drew w1.heap.size 246 #[j,ι .u64 ((gen:Int)+1),θ (some g) l.length cap]:=aN.drew (aN.new w1 _ _);have aJ:=gS.cell;have Il:=gS.lt;clear gS b1
 go_upto_region 7 with fail
 generalize (w1.alloc (aH #[j,ι .u64 ((gen:Int)+1),θ (some g) l.length cap] 246))=wA at*
 refine wp_region_still_tail 28 (by kernel_rfl) (by kernel_rfl) ?_;simp only[List.take_succ_cons,List.take_zero,List.drop_succ_cons,List.drop_zero];have hz:({heap:=wA.heap,tape:=wA.tape,drawn:=wA.drawn+1,os:=wA.os,output:=wA.output}:World)=wA.drew:=rfl;simp only[hz];clear hz
 generalize wA.drew=w2 at*
 have aK:=hJ2.cell;have Jl:=hJ2.lt;have HW2:=U hW2;have HJ2:=U hJ2;have HB2:=U B2;clear hJ2 hW2 B2 aJ
 repeat still_step
 refine wpStill_nil ?_
 have hWk:rT w2 w1.heap.size j (gen+1) g l.length cap:=by
  unfold rT;rw[ge];exact HW2.o
 have nW:=(HD.o.later HB2.o).ne HW2.o (by decide) (by decide);have RN:=U (Bk (wk:=w1.heap.size) (d:=w2.heap.size) (k:=k) (gen:=gen+1) (lF:=gen) (cap:=cap) (W:=w2.alloc (aH (fvs w1.heap.size b) 82)) w2 HJ2.o hWk (HL.o.later hg HB2.o) (aA hg HB2.o.size) hgn hd hf hhl hrow hfr (by omega) hk (by omega) (by omega) ⟨nJ.1,nJ.2.1,nJ.2.2⟩ ⟨nW.1,nW.2.1,nW.2.2⟩ ⟨aN.new w2 _ _,(HD.o.later HB2.o).later ((aj _ w2).alloc (ah _) _),aR.of_below ((aj _ w2).alloc (ah _) _)⟩);unfold fvs at RN;clear hWk;go_wp2_with fail;refine RN.o.mono ?_;rintro e w9 ⟨rfl,h9⟩;have T9:=U h9.2.2;have D9:=U h9.2.1;have Bx:=aN.qR HJ2.o T9.o (λe=>e.elim nJ.1 (λe=>e.elim nJ.2.1 nJ.2.2));have hW9:=aN.qR HW2.o T9.o (λe=>e.elim nW.1 (λe=>e.elim nW.2.1 nW.2.2));have HJ9:=U Bx;have aJ:=Bx.cell;have Il:=Bx.lt;have F0:=Bx.free 0;have F1:=Bx.free 1;have F2:=Bx.free 2;have F3:=Bx.free 3;have F4:=Bx.free 4;have V:=hW9.cell;have Vl:=hW9.lt;clear h9 Bx hW9 RN aK
 go_wp2
 go_ret2;have TS:aR (λc=>c=j) w9 (w9.setCell ⟨j,3,none⟩ (ι .u64 ((gen:Int)+1))):=aR.set _ rfl;refine⟨by rw[ge];rfl,?_,DV.box D9.o HJ9.o (by decide) (by decide) TS,(aR.of_below HB2.o).trans ((T9.o.mono (λc e=>.inl e)).trans (TS.mono (λc e=>.inr e)))⟩;unfold eF;rw[ge];exact HJ9.o.set 3 _
end mU
namespace Tx
open Go.Sort Oct Dev mU
section
attribute [local go_sem] Oper.semAt_some
abbrev Kv:=Int×ByteArray
def putCells (l:List Kv):List Value:=l.flatMap λx=>[ι J x.1,σ x.2]
theorem Dr (l:List Kv) (x:Kv):putCells (l++[x])=putCells l++[ι J x.1,σ x.2]:=by simp[putCells]
theorem wm:∀(l:List Kv) (j:Nat) (h:j<l.length),(putCells l)[j*2]? =some (ι J (l[j]'h).1)/\(putCells l)[j*2+1]? =some (σ (l[j]'h).2)
 |x::r,0,_=>⟨rfl,rfl⟩
 |x::r,j+1,h=>by
  have e:putCells (x::r)=ι J x.1::σ x.2::putCells r:=rfl;have e1:(j+1)*2=j*2+1+1:=by omega
  have ih:=wm r j (by simpa using h);rw[e,e1];simp only[ay,List.getElem_cons_succ];exact ih
theorem Yw:(prog.info? 171).map (λi=>(i.zero,i.size,i.bytes))=some (some (γ #[ι J 0,σ ⟨#[]⟩]),2,24):=by kernel_rfl
def HeldP (bl base:Nat) (l:List Kv) (W:World):Prop:=∃v,Boxed W bl 168 v/\W.ownsRow base 171 2 v l.length (putCells l)
theorem rV {B base n size:Nat} {e:TypeId} {v:Value} {xs:List Value} {W W':World} {row:Option Nat} (h:W.ownsRow base e size v n xs) (hg:W.grownBy W' row) (hr:∀r,row=some r->B<=r/\∃o:Obj,W.heap[r]? =some o/\o.isCells=false):W'.ownsRow base e size v n xs:=by
 refine h.kept hg ?_
 rcases h.2 with⟨rfl,_⟩|⟨g,cap,cur,rfl,_,hgb,_⟩
 ·exact .inl rfl
 ·refine .inr (λe=>?_)
  obtain⟨_,o,ho,hc⟩:=hr g e.symm;rw[hgb]at ho;cases ho;cases hc
theorem By {W:World} {base g cap:Nat} {l:Puts} {n:Nat} (h:W.ownsRow base 171 2 (θ (some g) n cap) n (putCells (l.map λx=>((x.1:Int),x.2)))) (hn:n=l.length):jc W g l:=by
 intro j hj
 rcases h.2 with⟨e,_⟩|⟨g',cap',cur,e,hb,hg,hnc,hcm,hcs,ht⟩
 ·cases e
 ·injection e with e1 e2 e3
  injection e1 with e1
  injection e1 with e1
  subst e1;have hS:aN W g 171 cur:=hg;have hj2:j<(l.map λx=>((x.1:Int),x.2)).length:=by rw[List.length_map];exact hj
  obtain⟨p1,p2⟩:=wm _ j hj2;rw[List.getElem_map]at p1 p2
  have hc:∀i v,(putCells (l.map λx=>((x.1:Int),x.2)))[i]? =some v->i<n*2->cur[i]? =some v:=λi v hv hi=>by
   rw[<-ht,List.getElem?_take,if_pos hi]at hv
   simpa using hv
  exact⟨(hS.cell _).trans (hc _ _ p1 (by omega)),(hS.cell _).trans (hc _ _ p2 (by omega))⟩
theorem BC {f:Wrote} {pre:List Kv} {N:Nat} (hn:(pre.map Prod.fst).Nodup) (hf:∀y∈pre,f y.1=some y.2) (hd:∀x s,f x=some s->∃q:Nat,x=q/\q<N):pre.length<=N:=by
 have h1:(pre.map λy=>y.1.toNat).Nodup:=by
  have h2:(pre.map λy=>y.1.toNat)=(pre.map Prod.fst).map Int.toNat:=by rw[List.map_map];rfl
  rw[h2];refine List.pairwise_map.2 (hn.imp_of_mem λ{a c} ha hc hne e=>hne ?_);obtain⟨y,hy,rfl⟩:=List.mem_map.1 ha;obtain⟨z,hz,rfl⟩:=List.mem_map.1 hc;obtain⟨p,hp,_⟩:=hd _ _ (hf y hy);obtain⟨q,hq,_⟩:=hd _ _ (hf z hz);omega
 have h3:=List.Nodup.length_le_of_subset h1 (l₂:=List.range N) (λq hq=>by
  obtain⟨y,hy,rfl⟩:=List.mem_map.1 hq;obtain⟨p,hp,hp2⟩:=hd _ _ (hf y hy);rw[List.mem_range];omega)
 rw[List.length_map,List.length_range]at h3;exact h3
theorem BT {j fr n gen:Nat} {b:dN} (w:World) (h:eF w j b fr n gen):Calls prog 72 #[j] w λe w'=>e=aG (ι .u64 gen)/\w=w':=by
 have X:=aN.cell h;have Xl:=aN.lt h;clear h
 go_enter func72,ntmps72
 go_wp2
 go_ret;exact⟨rfl,rfl⟩
def ComA (w:World) (T:xL) (b:dN) (hard:List ByteArray) (k fr n gen:Nat) (f:Wrote) (e:Ending) (w':World):Prop:=∃(l:Puts) (g2 k2:Nat) (EW:List ByteArray),e=aG (τ #[ι .u64 g2,ι J 0])/\(l.map Prod.fst).Nodup/\(∀q s,(q,s)∈l↔f (q:Nat)=some s)/\eF w' T.j b fr n g2/\bY w' b EW (λ_=>none) k2/\aR (λc=>(S3 b c\/c=T.j)\/c=T.p) w w'/\(l=[]/\g2=gen/\EW=hard/\k2=k\/g2=gen+1/\EW=KZ hard fr (gen+1) l/\k2=k+(dJ l).length+1+l.length+1)
theorem Ib {T:xL} {b:dN} {hard:List ByteArray} {k fr n nn gen:Nat} {f:Wrote} (w:World) (h:GJ w T b hard k f nn) (hJ:eF w T.j b fr n gen) (hmm:T.m≠b.m) (hnn:nn<=10000) (hd:∀x s,f x=some s->∃q:Nat,x=q/\q<hard.length/\s.size=64/\(q<fr\/fr+n<=q)) (hmax:∀ss,KeysOf (fG f) ss->ss.length<=fH n) (hn:n<=256) (hfr:fr+n<=hard.length) (hrow':∀m,m<=fH n->1+((2*m+63)/64+m)<=n) (hgen:gen+1<18446744073709551616) (hk:k+30000<1099511627776):
 Calls prog 33 #[T.p] w λe w'=>ComA w T b hard k fr n gen f e w':=by
 have HT:=U h;have HJ:=U hJ;have OP:=U (mR w h);have hX:=h.tx;clear h hJ;refine(callsIn_wide (n:=6)).1 ?_;refine callsIn_of_wp_marks func33 rfl trivial ?_ rfl;simp only[ntmps33,List.size_toArray,List.length_cons,List.length_nil,Nat.reduceAdd,Nat.reduceSub,Array.replicate_succ,Array.replicate_zero,List.push_toArray,List.append_toArray,List.nil_append,List.cons_append]
 gi_wp2_with fail
 refine⟨trivial,?_⟩;refine(callsIn_wide.2 OP.o).mono ?_;rintro e w1 ⟨rfl,rfl⟩
 gi_wp2_with fail
 obtain⟨i0,hi,hz0,hz1,hz2⟩:=info_parts Yw;have zC:=HT.o.map.lt;have QL:=hX.lt;have kO:=Boxed.new w 168 (θ none 0 0);have hX0:=hX.alloc (aH #[θ none 0 0] 168);have hM0:=HT.o.map.alloc (aH #[θ none 0 0] 168);have hB0:Below w.heap.size w (w.alloc (aH #[θ none 0 0] 168)):=(aj _ w).alloc (ah _) _;have hW1:(w.alloc (aH #[θ none 0 0] 168)).heap.size=w.heap.size+1:=aC _ _;have hlen:=HT.o.dev.len
 generalize w.alloc (aH #[θ none 0 0] 168)=W0 at*
 refine uy rfl (by omega) (gf:=71) (lp:=#[T.p]) rfl trivial (enters_of func71 (by kernel_rfl) rfl)
  (XE (6-1) (by omega) W0 _ _ _ hX0 hM0 (by omega) (λx s hx=>by obtain⟨q,hq,hq2,_⟩:=hd x s hx;exact⟨q,hq,by omega⟩))
  (λX Y h=>⟨h.size,λc o _ ho _=>(h.block c (Array.getElem?_eq_some_iff.1 ho).1 (by simp)).trans ho⟩)
  (λ{X Y Z} h g=>⟨λc cs hc hs=>g.1 c cs hc (h.1 c cs hc hs),λcs hs=>g.2.1 cs (h.2.1 cs hs),g.2.2.trans h.2.2⟩)
  (λW l o o' hl0 hl ho _=>⟨λc cs _ hs=>(World.putObj_heap_other (λe=>by subst e;rw[show W.heap[_]? =_ from hs]at hl;cases hl;cases ho)).trans hs,λcs hs=>(World.putObj_heap_other (λe=>by subst e;rw[show W.heap[_]? =_ from hs]at hl;cases hl;cases ho)).trans hs,World.putObj_heap_other (by omega)⟩)
  (aj _ _) (λ_=>rfl)
  (λpre W=>HeldP w.heap.size (w.heap.size+1) pre W/\((w.heap.size+1<=W.heap.size/\Below w.heap.size w W)/\((pre.map Prod.fst).Nodup/\∀y∈pre,f y.1=some y.2))) (λ_ _ _=>False)
  (OwnFrom.and (λpre W W' row hs hg hr=>by
   obtain⟨v,h1,h2⟩:=hs;exact⟨v,Dir.gP h1 hg hr,rV h2 hg hr⟩) (OwnFrom.and (OwnFrom.and (Dir.rM _) (ownFrom_below (ah _) (by omega))) (λ_ _ _ _ hs _ _=>hs)))
  (λ_ _ _ _ _ hs _ _=>hs)
  (λs X Y ⟨⟨v,h1,h2⟩,⟨hz,hB⟩,hp⟩ hr=>⟨⟨v,h1.kept hr (by simp),rV (B:=0) h2 hr (λr e=>by cases e)⟩,⟨aD hz hr.size,hB.grown hr hB.size (λr e=>by cases e)⟩,hp⟩) (λ_ _ _ _ h _=>h)
  ⟨⟨_,kO,World.ownsRow_nil _ _ _ _⟩,⟨by omega,hB0⟩,List.nodup_nil,λy hy=>by cases hy⟩
  (λx=>{tmps:=#[G (some ⟨T.p,0,none⟩),undef,ι .u64 0,ι J 0,ι J 0,G (some ⟨w.heap.size,0,none⟩),ι J x.1,σ x.2,G (some ⟨T.p,0,none⟩),ι J 0,ι J 0,ν false,undef,G (some ⟨T.p,0,none⟩),.func (.func 71) #[G (some ⟨T.p,0,none⟩)] #[],ι J x.1,σ x.2,undef,undef,undef,undef,undef,undef,undef,undef,undef,undef,undef,undef,undef,undef,undef,undef,undef,undef,undef,undef,undef,undef,undef,undef,undef],defers:=[]}) ?assign ?body ?done ?stop
 case assign=>
  intro l x W K hK
  gi_wp2
  exact hK
 case stop=>
  rintro D q pre W _ _ h _;exact h.elim
 case body=>
  rintro l pre x W ⟨⟨v,hv,hrow⟩,⟨hz,hB⟩,hpn,hpf⟩ ⟨hx1,hx2⟩;obtain⟨xk,xs⟩:=x;simp only at hx1 hx2;have cv:=hv.cell;have fv:=hv.frozen;have lv:=hv.lt;have hvl:∀g,v.ownBlock=some g->w.heap.size+1<=g:=λg e=>(hrow.lt g e).1;have HVL:=U hvl;have hpl:pre.length<=hard.length:=BC hpn hpf (λx s hx=>by obtain⟨q,hq,hq2,_⟩:=hd x s hx;exact⟨q,hq,hq2⟩);clear hvl
  dsimp only
  gi_wp2_with (gi_at_builtin;refine wpListIn_append_own _ rfl _ _ 168 rfl (w.heap.size+1) 171 i0 (γ #[ι J 0,σ ⟨#[]⟩]) 2 24 underlying168 hi hz0 hz1 hz2 rfl (by decide) _ _ _ rfl (hrow.alloc _) ⟨W.heap.size,0,none⟩ 1 1 [ι J xk,σ xs] rfl rfl ?c1 ?c2 (by unfold maxLen;omega) (by omega) (by simp;omega) ?_)
  case c1=>
   intro j u hu;have e:((⟨W.heap.size,0,none⟩:Addr).add j)=⟨W.heap.size,j,none⟩:=by unfold Addr.add;simp;omega
   rw[e,(aN.new W 171 #[ι J xk,σ xs]).cell j]
   simpa using hu
  case c2=>
   intro u hu;simp only[List.mem_cons,List.not_mem_nil,or_false]at hu
   rcases hu with rfl|rfl<;>rfl
  intro v' W2 hown2 hgrow2 _
  obtain⟨g',cap',rfl,hg'⟩:∃g' cap',v'=θ (some ⟨g',0,none⟩) (pre.length+1) cap'/\w.heap.size+1<=g':=by
   rcases hown2.2 with⟨_,e0⟩|⟨g',cap',cur',rfl,hg,_⟩
   ·omega
   ·exact⟨g',cap',rfl,hg⟩
  have hne:∀x,x<w.heap.size+1->some x≠v.ownBlock:=λx hx e=>by have:=HVL.o _ e.symm;omega
  have hv2:Boxed W2 w.heap.size 168 v:=(hv.alloc _).kept hgrow2 (hne _ (by omega));have c3:=hv2.cell;have f3:=hv2.frozen;have l3:=hv2.lt;have hB2:Below w.heap.size w W2:=(hB.alloc hB.size _).grown hgrow2 (by have:=hB.size;simp;omega) (λk e=>by have:=HVL.o _ e;omega)
  have hkeep:∀c,c<W.heap.size->some c≠v.ownBlock->W2.heap[c]? =W.heap[c]? :=λc hc hcv=>
   (hgrow2.block c (by simp;omega) hcv).trans (Below.heap_alloc _ _ _ hc)
  have hk2:KeepsFrom W0.heap.size W W2:=by
   refine⟨aD (by simp) hgrow2.size,λq o hk0 hk ho=>?_⟩;refine(hkeep q (Array.getElem?_eq_some_iff.1 hk).1 (λe=>?_)).trans hk
   rcases hrow.2 with⟨rfl,_⟩|⟨g,cap,cur,rfl,_,hgb,_⟩
   ·simp[Value.ownBlock]at e
   ·simp only[Value.ownBlock,Option.some.injEq]at e
    subst e;rw[hgb]at hk;cases hk;cases ho
  have hkp:KpT W0.heap.size T W W2:=by
   refine⟨λc cs hc hs=>?_,λcs hs=>?_,?_⟩
   ·refine(hkeep c hs.lt (λe=>?_)).trans hs
    rcases hrow.2 with⟨rfl,_⟩|⟨g,cap,cur,rfl,_,hgb,_⟩
    ·simp[Value.ownBlock]at e
    ·simp only[Value.ownBlock,Option.some.injEq]at e
     subst e;rw[show W.heap[c]? =_ from hs]at hgb;cases hgb
   ·exact(hkeep _ hs.lt (hne _ (by omega))).trans hs
   ·exact hkeep _ (by have:=hB.size;omega) (hne _ (by omega))
  have hsz2:w.heap.size+1<=W2.heap.size:=aD hz (aD (by simp) hgrow2.size);have HO2:=U hown2;have UG:=U hk2;have HP2:=U hkp;have HB2:=U hB2;have Se:=U hv2;clear hgrow2 hown2 hne hv2 hB2 hkp hk2 hkeep hv hrow hB cv fv hg'
  gi_wp2
  refine⟨UG.o.trans ((KeepsOthers.setCell _ _ _).from _),?_,⟨⟨_,Se.o.set _,?_⟩,⟨aD hsz2 (KeepsWalks.setCell W2 _ _).size,HB2.o.setCell (p:=⟨w.heap.size,0,none⟩) (ah _) _⟩,?_,?_⟩⟩
  ·exact⟨λc cs hc hs=>(HP2.o.1 c cs hc hs).other _ (by omega),λcs hs=>(HP2.o.2.1 cs hs).other _ (by omega),(heap_setCell_other W2 ⟨w.heap.size,0,none⟩ T.m _ (λe=>by have e:T.m=w.heap.size:=e;omega)).trans HP2.o.2.2⟩
  ·rw[Dr,List.length_append]
   exact ownsRow_setCell_below HO2.o (a:=⟨w.heap.size,0,none⟩) (by show w.heap.size<w.heap.size+1;omega) _
  ·rw[List.map_append,List.nodup_append]
   refine⟨hpn,by simp,λa ha c hc e=>?_⟩;simp only[List.map_cons,List.map_nil,List.mem_singleton]at hc;rw[e,hc]at ha;exact hx2 ha
  ·intro y hy
   rcases List.mem_append.1 hy with q|q
   ·exact hpf y q
   ·rw[List.mem_singleton.1 q]
    exact hx1
 case done=>
  rintro D xs W hD ⟨hks,JP⟩ ⟨⟨v,hv,hrow⟩,⟨hz,hB⟩,_,_⟩ hK
  obtain⟨l,hl⟩:∃l:Puts,xs=l.map λx=>((x.1:Int),x.2):=⟨xs.map λy=>(y.1.toNat,y.2),by
   rw[List.map_map]
   have e:∀y∈xs,((λx:Nat×ByteArray=>((x.1:Int),x.2))∘λy:Kv=>(y.1.toNat,y.2)) y=y:=λy hy=>by
    obtain⟨q,hq,_⟩:=hd _ _ (JP y hy);obtain⟨y1,y2⟩:=y;simp only at hq;subst hq
    rfl
   exact(List.map_id xs).symm.trans (List.map_congr_left (λy hy=>(e y hy).symm))⟩
  subst hl;rw[List.length_map]at hrow;have hlf:∀q s,(q,s)∈l->f (q:Nat)=some s:=λq s hq=>JP ((q:Int),s) (List.mem_map.2 ⟨(q,s),hq,rfl⟩)
  have hnd:(l.map Prod.fst).Nodup:=by
   have h2:=hks.1;rw[List.map_map]at h2;refine List.pairwise_map.2 ((List.pairwise_map.1 h2).imp λ{a c} hne e=>hne ?_);show((a.1:Nat):Int)=(c.1:Nat);rw[e]
  have hfl:∀q s,f (q:Nat)=some s->(q,s)∈l:=λq s hq=>by
   have hm:=(hks.2 (q:Int)).2 (by unfold fG;rw[hq];rfl);rw[List.map_map]at hm;obtain⟨x,hx,he⟩:=List.mem_map.1 hm;have he:(x.1:Int)=q:=he;have hf2:=hlf x.1 x.2 hx;have e1:x.1=q:=by omega
   rw[e1,hq]at hf2;have e2:s=x.2:=Option.some.inj hf2;rw[<-e1,e2];exact hx
  have hlm:l.length<=fH n:=by
   have:=hmax _ hks;rw[List.length_map,List.length_map]at this;exact this
  have TS:aR (λc=>c=T.p) W (W.setCell ⟨T.p,3,none⟩ (ν true)):=aR.set _ rfl;have uw:aN W T.p 100 _:=hX.later hB;have hJW:aN W T.j 167 _:=aN.later HJ.o hB;have VU:=HT.o.dev.later hB;have njp:T.j≠T.p:=OJ hJW uw (by decide);have gS:eF (W.setCell ⟨T.p,3,none⟩ (ν true)) T.j b fr n gen:=aN.qR hJW TS njp;have hX1:aN (W.setCell ⟨T.p,3,none⟩ (ν true)) T.p 100 #[b.p,T.j,.map (some T.m),ν true]:=uw.set 3 _;have hK1:(W.setCell ⟨T.p,3,none⟩ (ν true)).heap[D]? =some (.deferred (some [])):=(heap_setCell_other W ⟨T.p,3,none⟩ D _ (λe=>by have e:D=T.p:=e;omega)).trans hK
  by_cases h0l:l=[]
  ·subst h0l
   obtain⟨p,cap,rfl⟩:∃p cap,v=θ p 0 cap:=by
    rcases hrow.2 with⟨rfl,_⟩|⟨g,cap,cur,rfl,_⟩
    ·exact⟨none,0,rfl⟩
    ·exact⟨_,cap,rfl⟩
   have hv1:Boxed (W.setCell ⟨T.p,3,none⟩ (ν true)) w.heap.size 168 (θ p 0 cap):=(heap_setCell_other W ⟨T.p,3,none⟩ w.heap.size _ (λe=>by have e:w.heap.size=T.p:=e;omega)).trans hv;have c5:=hv1.cell;have X:=uw.cell;have aL:=uw.free;have Xl:=uw.lt;have Y:=hX1.cell;have cv:=hv.cell;have lv:=hv.lt;have GN:=U (BT _ gS);have HJ1:=U gS;have HD1:=U (bY.box VU uw (by decide) (by decide) TS);have HB:=U hB;have HL:=U (And.intro hnd (And.intro hlf hfl));clear hX hX1 uw gS hv1 hrow hJW VU hnd hlf hfl
   dsimp only
   gi_wp2_with fail
   refine⟨trivial,?_⟩;refine(callsIn_wide.2 GN.o).mono ?_;rintro e w9 ⟨rfl,rfl⟩
   gi_wp2
   refine⟨by simp,.inl ⟨_,_,rfl,run_takeDeferred hK1,?_⟩⟩
   have nD:∀c,(S3 b c\/c=T.j)->c<w.heap.size:=λc e=>by
    have dv:=HT.o.dev;obtain⟨cp,_,hdv⟩:=dv.dev;have d1:=hdv.lt;have d2:=dv.map.lt;have d3:=dv.row.lt;have d4:=(show aN w T.j 167 _ from HJ.o).lt
    rcases e with(e|e|e)|e<;>omega
   have TD:aR (λc=>c=D) (W.setCell ⟨T.p,3,none⟩ (ν true)) ((W.setCell ⟨T.p,3,none⟩ (ν true)).putObj D (.deferred none)):=aR.grown (grownBy_putObj' _ _ _) (λr e=>(Option.some.inj e).symm);refine⟨τ #[ι .u64 gen,ι J 0],?_,[],gen,k,hard,rfl,HL.o.1,λq s=>⟨HL.o.2.1 q s,HL.o.2.2 q s⟩,?_,?_,?_,.inl ⟨rfl,rfl,rfl,rfl⟩⟩
   ·simp[results,f33,go_sem]
   ·exact aN.qR (show aN _ T.j 167 _ from HJ1.o) TD (λe=>by have:=nD _ (.inr rfl);omega)
   ·exact HD1.o.grown (grownBy_putObj' _ _ _) (B:=w.heap.size) (nD _ (.inl (.inr (.inl rfl)))) (λr e=>by cases e;exact⟨by omega,_,hK1,rfl⟩)
   ·have T1:aR (λc=>(S3 b c\/c=T.j)\/c=T.p) w (W.setCell ⟨T.p,3,none⟩ (ν true)):=(aR.of_below HB.o).trans (aR.mono (aR.set (S:=λc=>c=T.p) _ rfl) (λc e=>.inr e))
    exact Hy (T1.trans (aR.of_below (aj _ _))) (TD.mono (λc e=>.inl e)) (by omega)
  have h0l:0<l.length:=List.length_pos_iff.2 h0l;have hmr:=hrow' l.length hlm;have hrr:1+(dJ l).length<=n:=by rw[yY];exact hmr
  obtain⟨g,cap,rfl,hbase⟩:∃g cap,v=θ (some ⟨g,0,none⟩) l.length cap/\w.heap.size+1<=g:=by
   rcases hrow.2 with⟨_,e0⟩|⟨g,cap,cur,rfl,hg,_⟩
   ·omega
   ·exact⟨g,cap,rfl,hg⟩
  have hP:=By hrow rfl;have hgl:g<W.heap.size:=(hrow.lt g rfl).2;have hP1:jc (W.setCell ⟨T.p,3,none⟩ (ν true)) g l:=hP.qR TS hgl (by omega);have hD1:DV (W.setCell ⟨T.p,3,none⟩ (ν true)) b hard noW k:=IT (bY.box VU uw (by decide) (by decide) TS);have hv1:Boxed (W.setCell ⟨T.p,3,none⟩ (ν true)) w.heap.size 168 (θ (some g) l.length cap):=(heap_setCell_other W ⟨T.p,3,none⟩ w.heap.size _ (λe=>by have e:w.heap.size=T.p:=e;omega)).trans hv;have c5:=hv1.cell;have HV1:=U hv1
  have nG:g≠b.p/\g≠b.m/\g≠b.g:=by
   have:=HT.o.dev;obtain⟨cp,_,hdv⟩:=this.dev;have d1:=hdv.lt;have d2:=this.map.lt;have d3:=this.row.lt;exact⟨by omega,by omega,by omega⟩
  have CM:=U (λW2 (hb2:Below (W.setCell ⟨T.p,3,none⟩ (ν true)).heap.size (W.setCell ⟨T.p,3,none⟩ (ν true)) W2)=>OQ T.j g fr n gen cap k l b hard W2 (aN.later (show aN _ T.j 167 _ from gS) hb2) (hP1.later (by simpa[World.setCell]using hgl) hb2) (aA (by simpa[World.setCell]using hgl) hb2.size) nG (hD1.later hb2) hnd ⟨λx hx=>by obtain⟨q,hq,hq2,_⟩:=hd _ _ (hlf x.1 x.2 hx);omega,λx hx=>by obtain⟨q,hq,_,hq3,_⟩:=hd _ _ (hlf x.1 x.2 hx);exact hq3,λx hx=>by obtain⟨q,hq,_,_,hq4⟩:=hd _ _ (hlf x.1 x.2 hx);omega,hlm⟩ hn hfr hrr hgen hk (by omega));have HB:=U hB;have HXW:=U uw;have X0:=uw.cell 0;have X1:=uw.cell 1;have X2:=uw.cell 2;have X3:=uw.cell 3;simp only[au,av,ay]at X0 X1 X2 X3;have Xl:=uw.lt;have F0:=uw.free 0;have F1:=uw.free 1;have F2:=uw.free 2;have F3:=uw.free 3;have cv:=hv.cell;have lv:=hv.lt;have l0:((l.length:Int)==0)=false:=beq_eq_false_iff_ne.2 (by omega);have Y0:=hX1.cell 0;have Y1:=hX1.cell 1;have Y2:=hX1.cell 2;have Y3:=hX1.cell 3;simp only[au,av,ay]at Y0 Y1 Y2 Y3;have Yl:=hX1.lt;clear hX hX1 uw gS hP1 hD1 hv1 hrow hP hJW VU
  dsimp only
  gi_wp2_with fail
  refine wpIn_mono (Q:=NoPanic _) ?_ NoPanic.imp
  gi_region_with (first|(refine⟨trivial,?_⟩;refine(callsIn_wide.2 (CM.o _ (aj _ _).drew)).mono ?_;rintro e w9 ⟨rfl,hj9,Yr,t9⟩;have HJ9:=U hj9;have AK:=U Yr;have HT9:=U t9;clear hj9 Yr t9))
  all_goals
   have nD:∀c,(S3 b c\/c=T.j)->c<w.heap.size:=λc e=>by
    have dv:=HT.o.dev;obtain⟨cp,_,hdv⟩:=dv.dev;have d1:=hdv.lt;have d2:=dv.map.lt;have d3:=dv.row.lt;have d4:=(show aN w T.j 167 _ from HJ.o).lt
    rcases e with(e|e|e)|e<;>omega
   have hK9:w9.heap[D]? =some (.deferred (some [])):=(HT9.o.block D (Array.getElem?_eq_some_iff.1 hK1).1 (λe=>by have:=nD _ e;omega)).trans hK1;refine NoPanic.normal ?_
   gi_wp2
   refine⟨by simp,.inl ⟨_,_,rfl,run_takeDeferred hK9,?_⟩⟩;have TD:aR (λc=>c=D) w9 (w9.putObj D (.deferred none)):=aR.grown (grownBy_putObj' _ _ _) (λr e=>(Option.some.inj e).symm);refine⟨τ #[ι .u64 (gen+1:Nat),ι J 0],?_,l,gen+1,_,_,rfl,hnd,λq s=>⟨hlf q s,hfl q s⟩,?_,?_,?_,.inr ⟨rfl,rfl,rfl⟩⟩
   ·simp[results,f33,go_sem]
   ·exact aN.qR (show aN w9 T.j 167 _ from HJ9.o) TD (λe=>by have:=nD _ (.inr rfl);omega)
   ·exact AK.o.bare.grown (grownBy_putObj' _ _ _) (B:=w.heap.size) (nD _ (.inl (.inr (.inl rfl)))) (λr e=>by cases e;exact⟨by omega,_,hK9,rfl⟩)
   ·have T1:aR (λc=>(S3 b c\/c=T.j)\/c=T.p) w (W.setCell ⟨T.p,3,none⟩ (ν true)):=(aR.of_below HB.o).trans (aR.mono (aR.set (S:=λc=>c=T.p) _ rfl) (λc e=>.inr e))
    exact Hy (T1.trans ((aR.of_below ((aj _ _).drew)).trans (HT9.o.mono (λc e=>.inl e)))) (TD.mono (λc e=>.inl e)) (by omega)
end
end Tx
namespace mU
open Oct Dev Wz
theorem OT (hard:List ByteArray) (P:Wait) (q:Nat):(Ow hard P)[q]? =hard[q]?.map λs=>(P q).getD s:=by
 unfold Ow;rw[List.getElem?_mapIdx]
theorem BA {hard:List ByteArray} {P:Wait} {q:Nat} (h:P q=none):(Ow hard P)[q]? =hard[q]? :=by
 rw[OT,h];cases hard[q]?<;>rfl
theorem Lb {q:Nat} {s:ByteArray}:∀(l:Puts) (P:Wait),(l.map Prod.fst).Nodup->(q,s)∈l->lZ P l q=some s
 |x::r,P,hn,hm=>by
  have e:lZ P (x::r)=lZ (zF P x.1 x.2) r:=rfl;rw[List.map_cons,List.nodup_cons]at hn
  rcases List.mem_cons.1 hm with h|h
  ·subst h
   rw[e,zX r _ (λy hy he=>hn.1 (List.mem_map.2 ⟨y,hy,he⟩))];exact if_pos rfl
  ·rw[e]
   exact Lb r _ hn.2 h
theorem BV {hard:List ByteArray} {fr gen q:Nat} {l:Puts} (hq:q<fr\/fr+1+(dJ l).length<=q) (hn:(l.map Prod.fst).Nodup):(KZ hard fr gen l)[q]? =hard[q]?.map λs=>(lZ noW l q).getD s:=by
 have e1:(KW hard fr l)[q]? =hard[q]? :=BA (by rw[Hw _ _ _ _ (by omega)];rfl);have e2:(KY hard fr gen l)[q]? =hard[q]? :=(BA (if_neg (by omega))).trans e1
 have e3:(Hz hard fr gen l)[q]? =hard[q]?.map λs=>(lZ noW l q).getD s:=by
  unfold Hz;rw[OT,e2]
 exact(BA (if_neg (by omega))).trans e3
theorem Lc {q:Nat} {s:ByteArray}:∀(l:List ByteArray) (P:Wait) (a:Nat),rU P a l q=some s->P q=some s\/s∈l
 |[],P,a,h=>.inl h
 |x::r,P,a,h=>by
  have e:rU P a (x::r)=rU (zF P a x) (a+1) r:=rfl;rw[e]at h
  rcases Lc r _ _ h with h2|h2
  ·unfold zF at h2
   split at h2
   ·exact .inr (by rw[Option.some.inj h2];exact List.mem_cons_self ..)
   ·exact .inl h2
  ·exact .inr (List.mem_cons_of_mem _ h2)
theorem Le {q:Nat} {s:ByteArray}:∀(l:Puts) (P:Wait),lZ P l q=some s->P q=some s\/∃x∈l,x.2=s
 |[],P,h=>.inl h
 |x::r,P,h=>by
  have e:lZ P (x::r)=lZ (zF P x.1 x.2) r:=rfl;rw[e]at h
  rcases Le r _ h with h2|⟨y,hy,h2⟩
  ·unfold zF at h2
   split at h2
   ·exact .inr ⟨x,List.mem_cons_self ..,Option.some.inj h2⟩
   ·exact .inl h2
  ·exact .inr ⟨y,List.mem_cons_of_mem _ hy,h2⟩
def wo (hard:List ByteArray):Prop:=∀(q:Nat) (s:ByteArray),hard[q]? =some s->s.size=64
theorem Ic {hard:List ByteArray} {P:Wait} (h:wo hard) (hP:∀q s,P q=some s->s.size=64):wo (Ow hard P):=λq s hs=>by
 rw[OT]at hs;cases e:hard[q]?with
 |none=>rw[e]at hs;cases hs
 |some t=>
  rw[e]at hs;have hs:(P q).getD t=s:=Option.some.inj hs;cases e2:P q with
  |none=>rw[e2]at hs;rw[<-hs];exact h q t e
  |some u=>rw[e2]at hs;rw[<-hs];exact hP q u e2
theorem UH {s:ByteArray} (h:s.size<=64):(kW s 64).size=64:=by
 unfold kW;rw[aV,List.length_append,List.length_replicate,bZ];omega
theorem BY {hard:List ByteArray} {fr gen:Nat} {l:Puts} (h:wo hard) (hl:∀x∈l,x.2.size=64):wo (KZ hard fr gen l):=by
 have hu:∀(s:ByteArray),s.size=64->∀q t,zF noW fr s q=some t->t.size=64:=λs hs q t ht=>by
  unfold zF at ht
  split at ht
  ·rw[<-Option.some.inj ht]
   exact hs
  ·cases ht
 refine Ic (Ic (Ic (Ic h ?_) (hu _ (qC _ _))) ?_) (hu _ (qC _ _))
 ·intro q s hs
  rcases Lc _ _ _ hs with h2|h2
  ·cases h2
  ·unfold dJ at h2
   rcases List.mem_append.1 h2 with h3|h3
   ·obtain⟨c,hc,rfl⟩:=List.mem_map.1 h3
    exact UH (by rw[aV];exact uR 64 (by omega) _ _ c hc)
   ·obtain⟨x,hx,rfl⟩:=List.mem_map.1 h3
    exact hl x hx
 ·intro q s hs
  rcases Le _ _ hs with h2|⟨x,hx,rfl⟩
  ·cases h2
  ·exact hl x hx
end mU
namespace lC
open Go.Sort Oct Dev mU Tx Geo
def ISx (W:World) (E:Im) (D:aZ) (Ls:List Nat):Prop:=
 ∃f nn,xO W E f nn/\(∀q,q<E.hard.length->iG f E.hard q=D q)/\Ls.Nodup/\nn=Ls.length/\(∀q∈Ls,q<E.hard.length)/\∀x:Int,(f x).isSome=true↔∃q∈Ls,x=(q:Nat)
section
variable {E:Im} {D:aZ} {Z:Nat->Prop} {Ls:List Nat} {W W':World}
theorem ISx.is (h:ISx W E D Ls):IS W E D (λq=>q∈Ls):=by
 obtain⟨f,nn,h1,h2,h3,h4,h5,h6⟩:=h;exact⟨f,nn,h1,h2,λx hx=>by obtain⟨q,hq,e⟩:=(h6 x).1 hx;exact⟨q,e,h5 q hq,hq⟩⟩
theorem IS.just (h:IS W E D Z):∃Ls,ISx W E D Ls/\(∀q∈Ls,Z q)/\∀m ty,(Builtin.len_ #[98] ty #[.map (some E.T.m)]).run prog (W.drewN m)=.ok (ι J Ls.length) (W.drewN m):=by
 obtain⟨f,nn,h1,h2,h3⟩:=h;obtain⟨ss,hk,hT,hlen⟩:=h1.tj.keys;have hm:∀a∈ss,∃q:Nat,a=q/\q<E.hard.length/\Z q:=λa ha=>h3 a (by have:=(hk.2 a).1 ha;unfold fG at this;simpa using this);have hl:(ss.map Int.toNat).length=ss.length:=List.length_map ..;refine⟨ss.map Int.toNat,⟨f,ss.length,⟨h1.img,hT,h1.len,h1.sec,h1.few⟩,h2,?_,hl.symm,?_,?_⟩,?_,by rw[hl];exact hlen⟩
 ·refine List.pairwise_map.2 (hk.1.imp_of_mem λ{a c} ha hc hne e=>hne ?_)
  obtain⟨p,rfl,_⟩:=hm a ha;obtain⟨q,rfl,_⟩:=hm c hc;have e2:p=q:=by simpa using e
  rw[e2]
 ·intro q hq
  obtain⟨a,ha,rfl⟩:=List.mem_map.1 hq;obtain⟨p,rfl,hp,_⟩:=hm a ha
  simpa using hp
 ·intro x
  constructor
  ·intro hx
   obtain⟨q,rfl,_⟩:=h3 x hx;have hs:(q:Int)∈ss:=(hk.2 _).2 (by unfold fG;simpa using hx);exact⟨q,List.mem_map.2 ⟨_,hs,by simp⟩,rfl⟩
  ·rintro⟨q,hq,rfl⟩
   obtain⟨a,ha,rfl⟩:=List.mem_map.1 hq;obtain⟨p,rfl,_⟩:=hm a ha;have:=(hk.2 _).1 ha;unfold fG at this
   simpa using this
 ·intro q hq
  obtain⟨a,ha,rfl⟩:=List.mem_map.1 hq;obtain⟨p,rfl,_,hp⟩:=hm a ha
  simpa using hp
theorem ISx.few (h:ISx W E D Ls):Ls.length<=fH E.j:=by
 obtain⟨f,nn,h1,_,h3,_,_,h6⟩:=h;obtain⟨ss,hk,hl⟩:=h1.few
 have:=List.Nodup.length_le_of_subset (l₁:=Ls.map λq:Nat=>(q:Int)) (l₂:=ss) (List.pairwise_map.2 (h3.imp λ{a c} hne e=>hne (Int.ofNat.inj e))) (λa ha=>by
  obtain⟨q,hq,rfl⟩:=List.mem_map.1 ha;refine(hk.2 _).2 ?_;have:=(h6 (q:Int)).2 ⟨q,hq,rfl⟩;unfold fG
  simpa using this)
 rw[List.length_map]at this;omega
structure Kept (W:World) (E:Im) (D:aZ) (hard:List ByteArray) (k g:Nat):Prop where
 MZ:eF W E.T.j E.b 1 E.j g
 gen:g<=k
 dev:bY W E.b hard (λ_=>none) k
 le:k<=E.k+600
 len:hard.length=E.hard.length
 all:wo hard
 at_:∀q,fr E 2<=q->q<E.hard.length->hard.getD q ⟨#[]⟩=D q
theorem UJ (w:World) (hs:Small E) (h:ISx w E D Ls) (hl:Ls.length<=fH E.j) (hz:∀q∈Ls,fr E 2<=q) (hmost:fH E.j<=250) (hrow:∀m,m<=fH E.j->1+((2*m+63)/64+m)<=E.j) (h64:wo E.hard) (hk:E.k+30000<1099511627776):
 Calls prog 33 #[E.T.p] w λe w'=>∃(g:Nat) (hard:List ByteArray) (k:Nat),e=aG (τ #[ι .u64 g,ι J 0])/\Kept w' E D hard k g/\aR (λc=>(S3 E.b c\/c=E.T.j)\/c=E.T.p) w w':=by
 obtain⟨f,nn,h1,h2,h3,h4,h5,h6⟩:=h;obtain⟨gen,hg,hJ⟩:=h1.tj.MZ;have hv:=hs.vals;have hjj:=hs.hj;have hlen:=h1.len;have hsome:∀x s,f x=some s->∃q∈Ls,x=(q:Nat):=λx s hx=>(h6 x).1 (by rw[hx];rfl)
 have hD:∀(q:Nat) s,f q=some s->q<E.hard.length/\D q=s:=λq s hx=>by
  obtain⟨p,hp,e⟩:=hsome _ _ hx;have e:q=p:=by omega
  subst e;have h7:=h5 q hp;have h8:=h2 q h7;unfold iG at h8;rw[hx]at h8;exact⟨h7,h8.symm⟩
 have hsz:∀(q:Nat) s,f q=some s->s.size=64:=λq s hx=>by
  obtain⟨a,c⟩:=hD q s hx;rw[<-c,<-h2 q a];exact h1.sec q a
 refine(Ib (fr:=1) (n:=E.j) (gen:=gen) w h1.tj.tx hJ h1.tj.ne (by omega) ?_ ?_ (by omega) (by omega) hrow (by omega) hk).mono ?_
 ·intro x s hx
  obtain⟨q,hq,rfl⟩:=hsome x s hx;exact⟨q,rfl,(hD q s hx).1,hsz q s hx,.inr (by have:=hz q hq;omega)⟩
 ·intro ss hk
  have h7:=List.Nodup.length_le_of_subset hk.1 (l₂:=Ls.map λq=>((q:Nat):Int)) (λa ha=>by
   obtain⟨q,hq,e⟩:=(h6 a).1 (by have:=(hk.2 a).1 ha;unfold fG at this;simpa using this);exact List.mem_map.2 ⟨q,hq,e.symm⟩)
  rw[List.length_map]at h7;omega
 ·rintro e w' ⟨l,g2,k2,EW,rfl,n1,n2,n3,n4,n5,⟨rfl,rfl,rfl,rfl⟩|⟨rfl,rfl,rfl⟩⟩
  ·refine⟨_,_,_,rfl,⟨n3,hg,n4,by omega,rfl,h64,λq hq hql=>?_⟩,n5⟩
   rw[<-h2 q hql];unfold iG;cases e:f q with
   |some s=>exact absurd ((n2 q s).2 e) (by simp)
   |none=>rfl
  have hll:l.length<=Ls.length:=by
   have h7:=List.Nodup.length_le_of_subset n1 (l₂:=Ls) (λq hq=>by
    obtain⟨x,hx,rfl⟩:=List.mem_map.1 hq;obtain⟨p,hp,e⟩:=hsome _ _ ((n2 x.1 x.2).1 hx);have e:x.1=p:=by omega
    rw[e];exact hp)
   rwa [List.length_map]at h7
  have hr:=yY l;have hro:=hrow l.length (by omega);refine⟨gen+1,_,_,rfl,⟨n3,by omega,n4,by omega,?_,?_,?_⟩,n5⟩
  ·unfold KZ Hz KY KW
   rw[nY,nY,nY,nY]
  ·exact BY h64 (λx hx=>hsz x.1 x.2 ((n2 x.1 x.2).1 hx))
  ·intro q hq hql
   rw[List.getD_eq_getElem?_getD,BV (.inr (by omega)) n1,<-h2 q hql];unfold iG;cases e:f q with
   |some s=>
    rw[Lb l noW n1 ((n2 q s).2 e),List.getElem?_eq_getElem hql]
    rfl
   |none=>
    rw[zX l noW (λx hx he=>by
     have:=(n2 x.1 x.2).1 hx;rw[he,e]at this;cases this),List.getElem?_eq_getElem hql,List.getD_eq_getElem?_getD,List.getElem?_eq_getElem hql]
    rfl
end
