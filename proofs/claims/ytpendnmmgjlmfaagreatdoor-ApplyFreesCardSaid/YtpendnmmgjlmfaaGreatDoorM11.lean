/- Lemmas. -/
import Derived.Test.YtpendnmmgjlmfaaGreatDoorM10
set_option linter.unusedVariables false
set_option linter.unusedSimpArgs false
namespace Go.Proofs.YtpendnmmgjlmfaaGreatDoor
open Go.Proofs.Tryz
open IntKind renaming i64→J
open Value renaming pointer→G,int->ι,string->σ,bool->ν,tuple->τ
open Ending renaming returned→aG
open Obj renaming cells→aH
set_option maxRecDepth 100000
set_option maxHeartbeats 2000000
namespace Tx
open Go.RowKit Go.Shelf Go.Maps Oct Dev mU
theorem XF (fr len0 len1:Nat) (a0 a1 a2:Addr) (s t:ByteArray) (w:World) (h0:w.cell? a0=some (ι J fr)) (h1:w.cell? a1=some (σ s)) (h2:w.cell? a2=some (σ t)) (hf:fr+t.size<=s.size) (hs:s.size=64):
 Calls prog 304 #[G (some a0),G (some a1),G (some a2)] w λe w'=>e=aG (ν true)/\w=w':=by
 go_enter func304,ntmps304
 go_wp2
 go_ret;have q:((t.size:Int)<=64-(fr:Int)):=by omega
 exact⟨by simp[q],rfl⟩
def iC (s:ByteArray) (fr:Nat) (t:ByteArray):ByteArray:=s.extract 0 fr++t++s.extract (fr+t.size) s.size
theorem yQ {s t:ByteArray} {fr:Nat} (h:fr+t.size<=s.size):(iC s fr t).size=s.size:=by
 simp[iC,ByteArray.size_append,ByteArray.size_extract]
 omega
section
variable {T:xL} {b:dN} {hard:List ByteArray} {k nn fr n:Nat} {f:Wrote}
theorem XH (i at_:Nat) (t:ByteArray) (w:World) (h:TJ w T b hard k f nn fr n) (hi:i<hard.length) (h64:(iG f hard i).size=64) (hs:at_+t.size<=64) (hn:n<=256) (hd:∀x:Int,(f x).isSome=true->∃q:Nat,x=q/\q<hard.length):
 Calls prog 258 #[T.p,ι J i,ι J at_,σ t] w (Out (ι J 0) (ι J 4) (λw'=>(∃GX,TJ w' T b hard k (ni f i (iC (iG f hard i) at_ t)) GX fr n/\(QH f n->QH (ni f i (iC (iG f hard i) at_ t)) n))/\aR (λc=>c=T.m) w w') (λw'=>NoRoom f i n/\Below w.heap.size w w')):=by
 have OP:=U (λW (h:TJ W T b hard k f nn fr n)=>mR W h.tx);have RD:=U (λW (h:TJ W T b hard k f nn fr n)=>rG i W h.tx hi);have WR:=(λW (h:TJ W T b hard k f nn fr n)=>Kj i (iC (iG f hard i) at_ t) W h hi ((yQ (by omega)).trans h64) hn hd);have FI:=U (λ(a0 a1 a2:Addr) W h0 h1 h2=>XF at_ 0 0 a0 a1 a2 (iG f hard i) t W h0 h1 h2 (by omega) h64);have H:=U h;have hX:=h.tx.tx;have Xl:=hX.lt;clear hX h
 generalize hq:iG f hard i=s0 at*
 unfold iC at WR⊢;have WR:=U WR
 go_enter func258,ntmps258
 go_wp2_with fail;refine(OP.o _ (H.o.later ?_)).mono ?_
 ·exact((aj _ w).alloc (ah _) _).alloc (by simp) _
 rintro e w9 ⟨rfl,rfl⟩;have B0:=U (((aj _ w).alloc (ah _) (aH #[ι J at_] 3)).alloc (by simp) (aH #[σ t] 9));have Z0:=(aN.new w 3 #[ι J at_]).alloc (aH #[σ t] 9);have Z1:=aN.new (w.alloc (aH #[ι J at_] 3)) 9 #[σ t];rw[aC]at Z1;have Z0:=U Z0;have Z1:=U Z1;go_wp2_with fail;refine(RD.o _ (H.o.later B0.o)).mono ?_;rintro e w1 ⟨rfl,b1⟩;have B1:=U (B0.o.trans (b1.mono (by simp;omega)));have Y0:=aN.later Z0.o b1;have Y1:=aN.later Z1.o b1;have Y2:=aN.new w1 9 #[σ s0];have Y0:=Y0.alloc (aH #[σ s0] 9);have Y1:=Y1.alloc (aH #[σ s0] 9);have B2:=U (B1.o.alloc B1.o.size (aH #[σ s0] 9));have H2:=U (H.o.later B2.o);have c0:=Y0.cell 0;have c1:=Y1.cell 0;have c2:=Y2.cell 0;have l0:=Y0.lt;have l1:=Y1.lt;have l2:=Y2.lt;simp only[au,av]at c0 c1 c2;have FI2:=U (FI.o _ _ _ _ c0 c2 c1);clear b1 Z0 Z1 Y0 Y1 Y2;go_wp2_with fail;refine FI2.o.mono ?_;rintro e w9 ⟨rfl,rfl⟩;go_wp2_with fail;have B3:=U B2.o.drew;have D0:World.cell? (World.drew (w1.alloc (aH #[σ s0] 9))) ⟨w.heap.size,0,none⟩=some (ι J at_):=c0;have D1:World.cell? (World.drew (w1.alloc (aH #[σ s0] 9))) ⟨w.heap.size+1,0,none⟩=some (σ t):=c1;have D2:World.cell? (World.drew (w1.alloc (aH #[σ s0] 9))) ⟨w1.heap.size,0,none⟩=some (σ s0):=c2;have e0:w.heap.size<(World.drew (w1.alloc (aH #[σ s0] 9))).heap.size:=l0;have e1:w.heap.size+1<(World.drew (w1.alloc (aH #[σ s0] 9))).heap.size:=l1;have e2:w1.heap.size<(World.drew (w1.alloc (aH #[σ s0] 9))).heap.size:=l2;have q0:at_<=s0.size:=by omega
 have q1:at_+t.size<=s0.size:=by omega
 have p0:(0:Int)<=at_:=by omega
 have p1:(at_:Int)<=s0.size:=by omega
 have p2:(0:Int)<=(at_:Int)+t.size:=by omega
 have p3:(at_:Int)+t.size<=s0.size:=by omega
 have p4:(at_:Int)<=64:=by omega
 have p5:(at_:Int)+t.size<=64:=by omega
 have p6:at_<=64:=by omega
 have wz:IntKind.i64.wrap ((at_:Int)+(t.size:Int))=(at_:Int)+(t.size:Int):=IntWalk.i64_in _ (by omega);have wn:((at_:Int)+(t.size:Int)).toNat=at_+t.size:=by omega
 have e64:s0.extract (at_+t.size) 64=s0.extract (at_+t.size) s0.size:=by rw[h64]
 have z2:¬9223372036854775807<at_+t.size:=by omega
 have z3:¬9223372036854775807<at_+t.size+(64-(at_+t.size)):=by omega
 have z0:(s0.extract 0 at_).size+t.size<=64:=by simp;omega
 have z1:(s0.extract 0 at_++t).size+(s0.extract (at_+t.size) s0.size).size<=64:=by simp;omega
 refine wp_region_still_tail 14 (by kernel_rfl) (by kernel_rfl) ?_;simp only[List.take_succ_cons,List.take_zero,List.drop_succ_cons,List.drop_zero];change wpStill _ _ (World.drew (w1.alloc (aH #[σ s0] 9))) _ _ _
 generalize World.drew (w1.alloc (aH #[σ s0] 9))=W3 at*
 repeat still_step
 refine wpStill_nil ?_;change wpList _ _ _ _ _ (World.drew (w1.alloc (aH #[σ s0] 9)));have WR2:=U (WR.o _ (H2.o.later (aj _ (w1.alloc (aH #[σ s0] 9))).drew));clear WR;have B3:=U B2.o.drew
 generalize World.drew (w1.alloc (aH #[σ s0] 9))=W4 at*
 go_wp2_with fail;refine WR2.o.mono ?_;rintro e w5 (⟨rfl,J5,T5⟩|⟨rfl,F5,b5⟩)
 ·have J5:=U J5
  have T5:=U ((aR.of_below B3.o).trans T5)
  go_wp2
  go_ret;exact .inl ⟨rfl,J5.o,T5.o⟩
 ·have F5:=U F5
  have b5:=U (B3.o.trans (b5.mono B3.o.size))
  go_wp2
  go_ret;exact .inr ⟨rfl,F5.o,b5.o⟩
end
end Tx
namespace lC
open Go.RowKit Go.Shelf Go.Maps Oct Dev mU Tx Geo
structure Im where
 M:Nat
 T:xL
 b:dN
 hard:List ByteArray
 k:Nat
 i:Nat
 bl:Nat
 j:Nat
structure Small (E:Im):Prop where
 may:iR E.i E.bl E.j=true
 hi:E.i<=30
 hb:E.bl<=60
 hj:E.j<=60
theorem Small.num2 {E:Im} (h:Small E):oP E.i E.bl E.j 2=1:=by
 have h0:=h.hi;show nK (E.i+1) 512=1;unfold nK;omega
theorem Small.num3 {E:Im} (h:Small E):oP E.i E.bl E.j 3=1:=by
 have h0:=h.hb;show nK (E.bl+1) 512=1;unfold nK;omega
def fr (E:Im) (p:Nat):Nat:=cB E.i E.bl E.j p
structure xO (W:World) (E:Im) (f:Wrote) (nn:Nat):Prop where
 img:aN W E.M 104 #[E.T.p,ι J E.i,ι J E.bl,ι J E.j]
 tj:TJ W E.T E.b E.hard E.k f nn 1 E.j
 len:E.hard.length=(mI E.i E.bl E.j).sum
 sec:∀q,q<E.hard.length->(iG f E.hard q).size=64
 few:QH f E.j
theorem xO.later {W W':World} {E:Im} {f:Wrote} {nn:Nat} (h:xO W E f nn) (hb:Below W.heap.size W W'):xO W' E f nn:=⟨h.img.later hb,h.tj.later hb,h.len,h.sec,h.few⟩
theorem sL (E:Im):fr E 0=0/\fr E 1=1/\fr E 2=1+E.j/\fr E 3=1+E.j+nK (E.i+1) 512/\fr E 4=1+E.j+nK (E.i+1) 512+nK (E.bl+1) 512/\fr E 5=1+E.j+nK (E.i+1) 512+nK (E.bl+1) 512+nK E.i 2/\(mI E.i E.bl E.j).sum=1+E.j+nK (E.i+1) 512+nK (E.bl+1) 512+nK E.i 2+E.bl:=by
 unfold fr cB mI
 simp
 omega
theorem Small.vals {E:Im} (h:Small E):fr E 1=1/\fr E 2=1+E.j/\fr E 3=2+E.j/\fr E 4=3+E.j/\fr E 5=3+E.j+(E.i+1)/2/\(mI E.i E.bl E.j).sum=3+E.j+(E.i+1)/2+E.bl/\2<=E.i/\8<=E.bl/\40<=E.j:=by
 obtain⟨h0,h1,h2,h3,h4,h5,h6⟩:=sL E;have q2:nK (E.i+1) 512=1:=h.num2;have q3:nK (E.bl+1) 512=1:=h.num3;have q4:nK E.i 2=(E.i+1)/2:=by unfold nK;omega
 have hm:=h.may
 have hm2:2<=E.i/\8<=E.bl/\40<=E.j:=by
  simp only[iR,CY,Bool.and_eq_true,decide_eq_true_eq]at hm;omega
 omega
def Kr (wr:World) (p0 p1:Addr) (v0 v1:Option Value) (W:World):Prop:=Below wr.heap.size wr W/\W.cell? p0=v0/\W.cell? p1=v1
theorem Kr.keep {wr W W':World} {p0 p1:Addr} {v0 v1:Option Value} (h0:p0.block<wr.heap.size) (h1:p1.block<wr.heap.size) (h:Kr wr p0 p1 v0 v1 W) (b9:Below W.heap.size W W'):Kr wr p0 p1 v0 v1 W':=by
 have hs:=h.1.size;exact⟨h.1.trans (b9.mono hs),(b9.cell (aA h0 hs)).trans h.2.1,(b9.cell (aA h1 hs)).trans h.2.2⟩
theorem jN (E:Im) (f:Wrote) (nn p:Nat) (w:World) (hs:Small E) (h:xO w E f nn) (hp:p=2\/p=3):
 Calls prog 44 #[E.M,ι J p] w λe w'=>e=aG (τ #[σ (iG f E.hard (fr E p)),ι J (fr E p),ι J 0])/\Below w.heap.size w w':=by
 have hn:oP E.i E.bl E.j p=1:=by rcases hp with rfl|rfl;exact hs.num2;exact hs.num3
 have hv:=hs.vals;have hlt:fr E p<E.hard.length:=by rw[h.len];rcases hp with rfl|rfl<;>omega
 have hl:=h.tj.tx.dev.len;have PT:=λW=>Geo.jN E.i E.bl E.j p W hs.may (by omega);rw[hn,show((1:Nat):Int)=1 from rfl]at PT;have PT:=U PT;have RD:=U (λW (h:xO W E f nn)=>Tx.rG (fr E p) W h.tj.tx hlt);have hsz:=h.sec _ hlt;have H:=U h;have hX:=h.img;unfold dw at PT;rw[show cB E.i E.bl E.j p=fr E p from rfl]at PT
 generalize iG f E.hard (fr E p)=s at*
 generalize fr E p=q at*
 have X:=hX.cell;have Xl:=hX.lt;clear hX h hv hn
 go_enter func44,ntmps44
 go_wp2_with fail;refine(PT.o _).mono ?_;rintro e w1 ⟨rfl,b1⟩;have hB2:=b1.alloc b1.size (aH #[ι J q,ι J 1] 76);have hI2:=H.o.later hB2;have hY:=aN.new w1 76 #[ι J q,ι J 1];have hX:=hI2.img;have Z:=hX.cell;have Zl:=hX.lt;have Y:=hY.cell;have Yl:=hY.lt;have hY:=U hY;have hB2:=U hB2;have hI2:=U hI2;clear hX b1;go_wp2_with fail;refine wp_loop_rounds 2 ?_;rw[rounds_succ];go_wp2_with fail;have wz0:IntKind.i64.wrap (q:Int)=q:=IntWalk.i64_in _ (by omega);have wz1:IntKind.i64.wrap ((q:Int)+0)=q:=IntWalk.i64_in _ (by omega);have wz2:(q:Int)+0=q:=by omega
 go_region_held3 (λW=>Below (World.alloc w1 (aH #[ι J q,ι J 1] 76)).heap.size (World.alloc w1 (aH #[ι J q,ι J 1] 76)) W/\W.cell? E.M=some E.T.p/\W.cell? w1.heap.size=some (ι J q))
  (first|exact Kr.keep Zl Yl (by assumption) b9|exact⟨(aj _ _).drew,(Z 0),(Y 0)⟩|exact⟨aj _ _,(Z 0),(Y 0)⟩)
  (first|(go_at_call 87;refine(RD.o _ (hI2.o.later (And.left (by assumption)))).mono ?_;rintro e w9 ⟨rfl,b9⟩))
 rename_i hS
 have P0:=hS.2.2;have Ps:=U (hB2.o.trans (hS.1.mono hB2.o.size));have Pl:w1.heap.size<w9.heap.size:=aA Yl hS.1.size;clear hS;go_wp2_with fail;rw[rounds_succ];go_wp2_with fail
 go_quiet (fail)
 have E0:=U (show(⟨#[]⟩:ByteArray)++s=s from ByteArray.empty_append)
 go_wp2
 go_ret3
 refine⟨?_,Ps.o.trans (Go.below_drewN (aj _ _) _)⟩;show Ending.returned (τ #[σ ((⟨#[]⟩:ByteArray)++s),ι J (q:Int),ι J 0])=_;rw[E0.o]
theorem tO (T:xL) (b:dN) (hard:List ByteArray) (k i bl j nn:Nat) (f:Wrote) (w:World) (h:TJ w T b hard k f nn 1 j) (hm:iR i bl j=true) (hl:hard.length=(mI i bl j).sum) (hs:∀q,q<hard.length->(iG f hard q).size=64) (hF:QH f j):
 Calls prog 14 #[T.p,dw i bl j] w λe w'=>∃M:Nat,e=aG (τ #[G (some ⟨M,0,none⟩),ι J 0])/\w.heap.size<=M/\xO w' ⟨M,T,b,hard,k,i,bl,j⟩ f nn/\Below w.heap.size w w':=by
 have MY:=U (λW=>iN i bl j W);rw[hm]at MY;unfold dw at*;have HB0:=U ((aj _ w).alloc (ah _) (aH #[ι J i,ι J bl,ι J j] 23));have HT:=U h;clear h
 go_enter func14,ntmps14
 go_wp2_with fail;refine(MY.o _).mono ?_;rintro e w1 ⟨rfl,b1⟩;have hX:=(aN.new w 23 #[ι J i,ι J bl,ι J j]).later b1;have X:=hX.cell;have Xl:=hX.lt;have hB1:=U ((HB0.o.trans (b1.mono (by simp))).alloc (by have:=b1.size;simp at this⊢;omega) (aH #[T.p,ι J i,ι J bl,ι J j] 104));have hN:=U (aN.new w1 104 #[T.p,ι J i,ι J bl,ι J j]);have hM:=U (show w.heap.size<=w1.heap.size by have:=b1.size;simp at this;omega);clear b1 hX
 go_wp2
 go_ret2;exact⟨w1.heap.size,rfl,hM.o,⟨hN.o,HT.o.later hB1.o,hl,hs,hF⟩,hB1.o⟩
end lC
section
open Go.RowKit Go.Shelf
def lI (s:ByteArray) (on:Bool) (f:Nat):Nat->ByteArray
 |0=>s
 |n+1=>gV (lI s on f n) (f+n) on
theorem qy (s:ByteArray) (on:Bool) (f:Nat):∀n,(lI s on f n).size=s.size
 |0=>rfl
 |n+1=>by rw[lI,jG,qy s on f n]
theorem Kt (s:ByteArray) (f t:Nat) (on:Bool) (w:World) (hs:s.size<=1099511627776) (hft:f<=t) (ht:t<=8*s.size):
 Calls prog 64 #[σ s,ι J f,ι J t,ν on] w λe w'=>e=aG (τ #[σ (lI s on f (t-f)),ι J 0])/\Below w.heap.size w w':=by
 have t1:decide ((f:Int)<0)=false:=by simp
 have t2:decide ((t:Int)<(f:Int))=false:=by simp;omega
 have t4:decide (t<f)=false:=by simp;omega
 have t5:decide (8*s.size<t)=false:=by simp;omega
 have t3:decide (8*(s.size:Int)<(t:Int))=false:=by simp;omega
 go_enter func64,ntmps64
 go_wp2_with fail
 go_loopw [0,10] (λv c wr=>∃m:Nat,f+m<=t/\c=ι J ((f+m:Nat):Int)/\v=σ (lI s on f m)/\Below w.heap.size w wr) (λ_ c _=>t-(RowKit.intOf c).toNat)
 case atStart=>exact⟨0,by omega,rfl,rfl,aj _ _⟩
 case round=>
  obtain⟨m,hm,rfl,rfl,hB⟩:=hrel
  by_cases hlt:f+m<t
  ·have q1:((f+m:Nat):Int)<t:=by omega
   have hz:=qy s on f m;have SE:=U (λW=>QM (lI s on f m) (f+m) on W (by omega) (by omega));have E:=U (show gV (lI s on f m) (f+m) on=lI s on f (m+1)from rfl)
   generalize lI s on f m=s0 at*
   have HB:=U hB
   generalize hq:f+m=q at*
   go_wp2_with fail;refine(SE.o _).mono ?_;rintro e w1 ⟨rfl,b1⟩;go_wp2_with fail;exact⟨⟨m+1,by omega,by(congr 1;omega),by rw[E.o],HB.o.trans (b1.mono HB.o.size)⟩,by simp[RowKit.intOf];omega⟩
  ·obtain rfl:m=t-f:=by omega
   have q1:¬((f+(t-f):Nat):Int)<t:=by omega
   go_wp2
   go_ret2;exact⟨rfl,hB⟩
end
namespace lC
open Go.RowKit Go.Shelf Go.Maps Oct Dev mU Tx Geo
theorem EB (f:Wrote) (hard:List ByteArray) (i q:Nat) (s:ByteArray):iG (ni f i s) hard q=if q=i then s else iG f hard q:=by
 unfold iG ni
 by_cases e:q=i
 ·subst e
  simp
 ·have e2:¬(q:Int)=(i:Int):=by omega
  simp[e,e2]
theorem xO.wrote {W W':World} {E:Im} {f:Wrote} {nn GX q:Nat} {s:ByteArray} (h:xO W E f nn) (hJ:TJ W' E.T E.b E.hard E.k (ni f q s) GX 1 E.j) (hF:QH f E.j->QH (ni f q s) E.j) (hT:aR (λc=>c=E.T.m) W W') (hz:s.size=64):xO W' E (ni f q s) GX:=by
 refine⟨?_,hJ,h.len,λx hx=>?_,hF h.few⟩
 ·exact(hT.block _ h.img.lt (h.tj.tx.map.ne h.img)).trans h.img
 ·rw[EB]
  by_cases e:x=q
  ·rw[if_pos e]
   exact hz
  ·rw[if_neg e]
   exact h.sec x hx
def fV (E:Im) (Z:Nat->Prop):Prop:=∃L:List Nat,L.Nodup/\(∀q∈L,Z q)/\fH E.j<L.length
theorem fV.no {E:Im} {Z:Nat->Prop} (h:fV E Z) (M:List Nat) (hM:∀q,Z q->q∈M) (hl:M.length<=fH E.j):False:=by
 obtain⟨L,h1,h2,h3⟩:=h;have:=List.Nodup.length_le_of_subset h1 (λq hq=>hM q (h2 q hq));omega
abbrev aZ:=Nat->ByteArray
def upd (D:aZ) (i:Nat) (s:ByteArray):aZ:=λq=>if q=i then s else D q
theorem upd_same (D:aZ) (i:Nat) (s:ByteArray):upd D i s i=s:=if_pos rfl
theorem upd_ne (D:aZ) {i q:Nat} (s:ByteArray) (h:q≠i):upd D i s q=D q:=if_neg h
def IS (W:World) (E:Im) (D:aZ) (Z:Nat->Prop):Prop:=
 ∃f nn,xO W E f nn/\(∀q,q<E.hard.length->iG f E.hard q=D q)/\∀x:Int,(f x).isSome=true->∃q:Nat,x=q/\q<E.hard.length/\Z q
section
variable {E:Im} {D:aZ} {Z:Nat->Prop} {Q:Prop} {W W':World}
theorem IS.later (h:IS W E D Z) (hb:Below W.heap.size W W'):IS W' E D Z:=by
 obtain⟨f,nn,h1,h2⟩:=h;exact⟨f,nn,h1.later hb,h2⟩
theorem IS.mono (h:IS W E D Z) {Z':Nat->Prop} (hz:∀q,Z q->Z' q):IS W E D Z':=by
 obtain⟨f,nn,h1,h2,h3⟩:=h;exact⟨f,nn,h1,h2,λx hx=>by obtain⟨q,e,hl,hq⟩:=h3 x hx;exact⟨q,e,hl,hz q hq⟩⟩
theorem IS.sec (h:IS W E D Z) {q:Nat} (hq:q<E.hard.length):(D q).size=64:=by
 obtain⟨f,nn,h1,h2,h3⟩:=h;rw[<-h2 q hq];exact h1.sec q hq
theorem IS.len (h:IS W E D Z):E.hard.length=(mI E.i E.bl E.j).sum:=by
 obtain⟨f,nn,h1,_⟩:=h;exact h1.len
theorem IS.Uq (h:IS W E D Z):E.hard.length<=4096:=by
 obtain⟨f,nn,h1,_⟩:=h;exact h1.tj.tx.dev.len
theorem IS.img (h:IS W E D Z):aN W E.M 104 #[E.T.p,ι J E.i,ι J E.bl,ι J E.j]:=by
 obtain⟨f,nn,h1,_⟩:=h;exact h1.img
def Wr (E:Im) (D':aZ) (Z:Nat->Prop) (w w':World):Prop:=IS w' E D' Z/\aR (λc=>c=E.T.m) w w'
def Shown (E:Im) (W:World):Prop:=∃D Z,IS W E D Z
theorem Shown.later (h:Shown E W) (hb:Below W.heap.size W W'):Shown E W':=by
 obtain⟨D,Z,h⟩:=h;exact⟨D,Z,h.later hb⟩
def Fu (E:Im) (Q:Prop) (w w':World):Prop:=(Q/\(Shown E w->Shown E w'))/\aR (λc=>c=E.T.m) w w'
theorem Wr.pre {w0 w w':World} {D':aZ} (h:Wr E D' Z w w') (hb:Below w0.heap.size w0 w):Wr E D' Z w0 w':=⟨h.1,(aR.of_below hb).trans h.2⟩
theorem Fu.pre {w0 w w':World} (h:Fu E Q w w') (hb:Below w0.heap.size w0 w):Fu E Q w0 w':=⟨⟨h.1.1,λq=>h.1.2 (q.later hb)⟩,(aR.of_below hb).trans h.2⟩
theorem Wr.then_ {w0 w w':World} {D' D1:aZ} (h:Wr E D' Z w w') (h0:Wr E D1 Z w0 w):Wr E D' Z w0 w':=⟨h.1,h0.2.trans h.2⟩
theorem Fu.then_ {w0 w w':World} {D1:aZ} (h:Fu E Q w w') (h0:Wr E D1 Z w0 w):Fu E Q w0 w':=⟨⟨h.1.1,λ_=>h.1.2 ⟨_,_,h0.1⟩⟩,h0.2.trans h.2⟩
theorem Wr.post {w w' w2:World} {D':aZ} (h:Wr E D' Z w w') (hb:Below w'.heap.size w' w2):Wr E D' Z w w2:=⟨h.1.later hb,h.2.trans (aR.of_below hb)⟩
theorem Fu.post {w w' w2:World} (h:Fu E Q w w') (hb:Below w'.heap.size w' w2):Fu E Q w w2:=⟨⟨h.1.1,λq=>(h.1.2 q).later hb⟩,h.2.trans (aR.of_below hb)⟩
theorem Fu.of_below {w w':World} (q:Q) (hb:Below w.heap.size w w'):Fu E Q w w':=⟨⟨q,λh=>h.later hb⟩,aR.of_below hb⟩
theorem GY (i:Nat) (w:World) (h:IS w E D Z) (hi:i<E.hard.length):Calls prog 87 #[E.T.p,ι J i] w λe w'=>e=aG (τ #[σ (D i),ι J 0])/\Below w.heap.size w w':=by
 obtain⟨f,nn,h1,h2,h3⟩:=h;have h4:=Tx.rG i w h1.tj.tx hi;rw[h2 i hi]at h4;exact h4
theorem Ku {f:Wrote} {nn GX i:Nat} {s:ByteArray} {w w':World} (h1:xO w E f nn) (h2:∀q,q<E.hard.length->iG f E.hard q=D q) (h3:∀x:Int,(f x).isSome=true->∃q:Nat,x=q/\q<E.hard.length/\Z q)
 (hi:i<E.hard.length) (hz:Z i) (hs:s.size=64) (r1:TJ w' E.T E.b E.hard E.k (ni f i s) GX 1 E.j/\(QH f E.j->QH (ni f i s) E.j)) (r2:aR (λc=>c=E.T.m) w w'):Wr E (upd D i s) Z w w':=by
 refine⟨⟨ni f i s,_,h1.wrote r1.1 r1.2 r2 hs,λq hq=>?_,λx hx=>?_⟩,r2⟩
 ·rw[EB]
  unfold upd
  by_cases e:q=i
  ·rw[if_pos e,if_pos e]
  ·rw[if_neg e,if_neg e]
   exact h2 q hq
 ·unfold ni at hx
  by_cases e:x=(i:Int)
  ·exact⟨i,e,hi,hz⟩
  ·rw[if_neg e]at hx
   exact h3 x hx
theorem EG {f:Wrote} {i:Nat} (h3:∀x:Int,(f x).isSome=true->∃q:Nat,x=q/\q<E.hard.length/\Z q) (hz:Z i) (h:NoRoom f i E.j):fV E Z:=by
 obtain⟨hf,ss,hk,hl⟩:=h
 have hm:∀a∈ss,∃q:Nat,a=q/\Z q:=λa ha=>by
  obtain⟨q,e,_,hq⟩:=h3 a (by have:=(hk.2 a).1 ha;unfold fG at this;simpa using this);exact⟨q,e,hq⟩
 refine⟨i::ss.map Int.toNat,List.nodup_cons.2 ⟨?_,?_⟩,?_,by simp;omega⟩
 ·intro hc
  obtain⟨a,ha,e⟩:=List.mem_map.1 hc;obtain⟨q,rfl,_⟩:=hm a ha;have e2:q=i:=by simpa using e
  subst e2;have:=(hk.2 _).1 ha;unfold fG at this;rw[hf]at this;cases this
 ·refine List.pairwise_map.2 (hk.1.imp_of_mem λ{a c} ha hc hne e=>hne ?_)
  obtain⟨p,rfl,_⟩:=hm a ha;obtain⟨q,rfl,_⟩:=hm c hc;have e2:p=q:=by simpa using e
  rw[e2]
 ·intro q hq
  rcases List.mem_cons.1 hq with rfl|hq
  ·exact hz
  ·obtain⟨a,ha,rfl⟩:=List.mem_map.1 hq
   obtain⟨p,rfl,hp⟩:=hm a ha
   simpa using hp
theorem Bh (i:Nat) (s:ByteArray) (w:World) (h:IS w E D Z) (hj:E.j<=256) (hi:i<E.hard.length) (hs:s.size=64) (hz:Z i) (hQ:fV E Z->Q):
 Calls prog 234 #[E.T.p,ι J i,σ s] w (Out (ι J 0) (ι J 4) (Wr E (upd D i s) Z w) (Fu E Q w)):=by
 obtain⟨f,nn,h1,h2,h3⟩:=h;refine(Kj i s w h1.tj hi hs hj (λx hx=>by obtain⟨q,e,hl,_⟩:=h3 x hx;exact⟨q,e,hl⟩)).mono ?_;rintro e w' (⟨rfl,⟨GX,r1⟩,r2⟩|⟨rfl,r1,r2⟩)
 ·exact .inl ⟨rfl,Ku h1 h2 h3 hi hz hs r1 r2⟩
 ·exact .inr ⟨rfl,Fu.of_below (hQ (EG h3 hz r1)) r2⟩
theorem Kw (i at_:Nat) (t:ByteArray) (w:World) (h:IS w E D Z) (hj:E.j<=256) (hi:i<E.hard.length) (hs:at_+t.size<=64) (hz:Z i) (hQ:fV E Z->Q):
 Calls prog 258 #[E.T.p,ι J i,ι J at_,σ t] w (Out (ι J 0) (ι J 4) (Wr E (upd D i (iC (D i) at_ t)) Z w) (Fu E Q w)):=by
 have h64:=h.sec hi;obtain⟨f,nn,h1,h2,h3⟩:=h;have P:=XH i at_ t w h1.tj hi (by rw[h2 i hi];exact h64) hs hj (λx hx=>by obtain⟨q,e,hl,_⟩:=h3 x hx;exact⟨q,e,hl⟩);rw[h2 i hi]at P;refine P.mono ?_;rintro e w' (⟨rfl,⟨GX,r1⟩,r2⟩|⟨rfl,r1,r2⟩)
 ·exact .inl ⟨rfl,Ku h1 h2 h3 hi hz ((yQ (by omega)).trans h64) r1 r2⟩
 ·exact .inr ⟨rfl,Fu.of_below (hQ (EG h3 hz r1)) r2⟩
theorem vT (p:Nat) (w:World) (hs:Small E) (h:IS w E D Z) (hp:p=2\/p=3):
 Calls prog 44 #[E.M,ι J p] w λe w'=>e=aG (τ #[σ (D (fr E p)),ι J (fr E p),ι J 0])/\Below w.heap.size w w':=by
 obtain⟨f,nn,h1,h2,h3⟩:=h;have hv:=hs.vals;have hlt:fr E p<E.hard.length:=by rw[h1.len];rcases hp with rfl|rfl<;>omega
 have P:=jN E f nn p w hs h1 hp;rw[h2 _ hlt]at P;exact P
end
