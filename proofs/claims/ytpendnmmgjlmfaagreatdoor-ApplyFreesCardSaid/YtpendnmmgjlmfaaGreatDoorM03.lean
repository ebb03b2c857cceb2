/- Lemmas. -/
import Derived.Test.YtpendnmmgjlmfaaGreatDoorM56
import Derived.Test.YtpendnmmgjlmfaaGreatDoorM02
import Derived.Deep.RegionWith
import Derived.Deep.Cut
import Derived.Laws.CopyOwn
set_option linter.unusedVariables false
set_option linter.unusedSimpArgs false
namespace Go.Proofs.YtpendnmmgjlmfaaGreatDoor
open Go.Proofs.Tryz
open IntKind renaming u16→I,i64→J,u32→F,u8→aF
open Ending renaming returned→aG
open Obj renaming cells→aH
set_option maxRecDepth 100000
set_option maxHeartbeats 4000000
open Value renaming int->ι,string->σ,bool->ν,tuple->τ,slice->θ,agg->γ
namespace Geo
open Go.RowKit Go.Shelf Oct
def dw (i b j:Int):Value:=γ #[ι J i,ι J b,ι J j]
def CY (v a b:Int):Bool:=decide (a<=v)&&decide (v<=b)
def iR (i b j:Int):Bool:=(CY i 2 256&&CY b 8 1024)&&CY j 40 256
theorem Ni (v a b:Int) (w:World):Calls prog 20 #[ι J v,ι J a,ι J b] w λe w'=>e=aG (ν (CY v a b))/\w=w':=by
 unfold CY
 go_enter func20,ntmps20
 by_cases h:a<=v
 ·have h1:decide (a<=v)=true:=by simpa using h
  go_wp2
  go_ret
  simp[h]
 ·have h1:decide (a<=v)=false:=by simpa using h
  go_wp2
  go_ret
  simp[h]
theorem iN (i b j:Int) (w:World):Calls prog 5 #[dw i b j] w λe w'=>e=aG (ν (iR i b j))/\Below w.heap.size w w':=by
 unfold iR dw;have I0:=U (λW=>Ni i 2 256 W);have I1:=U (λW=>Ni b 8 1024 W);have I2:=U (λW=>Ni j 40 256 W);have X:=aN.new w 23 #[ι J i,ι J b,ι J j];have X0:=X.cell 0;have X1:=X.cell 1;have X2:=X.cell 2;have hlx:=X.lt;simp only[au,av,ay]at X0 X1 X2;clear X;obtain⟨a0,h0⟩:∃x,CY i 2 256=x:=⟨_,rfl⟩;obtain⟨a1,h1⟩:∃x,CY b 8 1024=x:=⟨_,rfl⟩;obtain⟨a2,h2⟩:∃x,CY j 40 256=x:=⟨_,rfl⟩;rw[h0]at I0⊢;rw[h1]at I1⊢;rw[h2]at I2⊢;clear h0 h1 h2;have HB:Hid (Below w.heap.size w (w.alloc (aH #[ι J i,ι J b,ι J j] 23))):=U ((aj _ w).alloc (ah _) _)
 go_enter func5,ntmps5
 cases a0
 ·go_wp2_with fail
  refine(I0.o _).mono ?_;rintro e w1 ⟨rfl,rfl⟩
  go_wp2
  go_ret;exact⟨rfl,HB.o⟩
 ·cases a1
  ·go_wp2_with fail
   refine(I0.o _).mono ?_;rintro e w1 ⟨rfl,rfl⟩;go_wp2_with fail;refine(I1.o _).mono ?_;rintro e w1 ⟨rfl,rfl⟩
   go_wp2
   go_ret;exact⟨rfl,HB.o⟩
  ·go_wp2_with fail
   refine(I0.o _).mono ?_;rintro e w1 ⟨rfl,rfl⟩;go_wp2_with fail;refine(I1.o _).mono ?_;rintro e w1 ⟨rfl,rfl⟩;go_wp2_with fail;refine(I2.o _).mono ?_;rintro e w1 ⟨rfl,rfl⟩
   go_wp2
   go_ret;exact⟨by simp,HB.o⟩
def nK (n k:Nat):Nat:=(n+k-1)/k
theorem Nj (n k:Nat) (w:World) (hn:n<=100000) (hk:1<=k) (hk2:k<=100000):Calls prog 120 #[ι J n,ι J k] w λe w'=>e=aG (ι J (nK n k))/\w=w':=by
 unfold nK;have a5:(n+k-1)/k<=n+k-1:=Nat.div_le_self _ _;have a1:(n:Int)+(k:Int)-1=((n+k-1:Nat):Int):=by omega
 have a2:((n+k-1:Nat):Int)/(k:Int)=(((n+k-1)/k:Nat):Int):=(Int.natCast_ediv _ _).symm
 generalize (n+k-1)/k=m at*
 have a6:n+k-1<=200000:=by omega
 generalize n+k-1=q at*
 have a3:(k:Int)≠0:=by omega
 have a4:((k:Int)==0)=false:=by simpa using a3
 go_enter func120,ntmps120
 go_wp2
 go_ret;exact⟨rfl,rfl⟩
def mI (i b j:Nat):List Nat:=[1,j,nK (i+1) 512,nK (b+1) 512,nK i 2,b]
def szV (i b j:Nat):Value:=γ #[ι J 1,ι J j,ι J (nK (i+1) 512),ι J (nK (b+1) 512),ι J (nK i 2),ι J b]
theorem DX (i b j:Nat) (w:World) (hi:i<=256) (hb:b<=1024) (hj:j<=256):Calls prog 59 #[dw i b j] w λe w'=>e=aG (szV i b j)/\Below w.heap.size w w':=by
 unfold dw szV;have I0:∀W,Calls prog 120 #[ι J ((i:Int)+1),ι J 512] W λe w'=>e=aG (ι J (nK (i+1) 512))/\w'=W:=λW=>(Nj (i+1) 512 W (by omega) (by omega) (by omega)).mono λe w' ⟨h1,h2⟩=>⟨h1,h2.symm⟩;have I1:∀W,Calls prog 120 #[ι J ((b:Int)+1),ι J 512] W λe w'=>e=aG (ι J (nK (b+1) 512))/\w'=W:=λW=>(Nj (b+1) 512 W (by omega) (by omega) (by omega)).mono λe w' ⟨h1,h2⟩=>⟨h1,h2.symm⟩;have I2:∀W,Calls prog 120 #[ι J (i:Int),ι J 2] W λe w'=>e=aG (ι J (nK i 2))/\w'=W:=λW=>(Nj i 2 W (by omega) (by omega) (by omega)).mono λe w' ⟨h1,h2⟩=>⟨h1,h2.symm⟩;have wz0:IntKind.i64.wrap ((i:Int)+1)=(i:Int)+1:=IntWalk.i64_in _ (by omega);have wz1:IntKind.i64.wrap ((b:Int)+1)=(b:Int)+1:=IntWalk.i64_in _ (by omega)
 generalize nK (i+1) 512=u0 at*
 generalize nK (b+1) 512=u1 at*
 generalize nK i 2=u2 at*
 have X:=aN.new w 23 #[ι J i,ι J b,ι J j];have X0:=X.cell 0;have X1:=X.cell 1;have X2:=X.cell 2;have hlx:=X.lt;simp only[au,av,ay]at X0 X1 X2;clear X
 go_enter func59,ntmps59
 go_wp2_with fail;have Y:=(aN.new w 23 #[ι J i,ι J b,ι J j]).alloc (aH #[ι J 0,ι J 0,ι J 0,ι J 0,ι J 0,ι J 0] 152);have Z:=aN.new (w.alloc (aH #[ι J i,ι J b,ι J j] 23)) 152 #[ι J 0,ι J 0,ι J 0,ι J 0,ι J 0,ι J 0];have HB:=U (((aj _ w).alloc (ah _) (aH #[ι J i,ι J b,ι J j] 23)).alloc (by simp) (aH #[ι J 0,ι J 0,ι J 0,ι J 0,ι J 0,ι J 0] 152));obtain⟨W2,hW2⟩:∃x,(w.alloc (aH #[ι J i,ι J b,ι J j] 23)).alloc (aH #[ι J 0,ι J 0,ι J 0,ι J 0,ι J 0,ι J 0] 152)=x:=⟨_,rfl⟩;rw[hW2]at Y Z HB;rw[hW2];clear hW2 X0 X1 X2 hlx;have X0:=Y.cell 0;have X1:=Y.cell 1;have X2:=Y.cell 2;have hlx:=Y.lt;have hlz:=Z.lt;simp only[au,av,ay]at X0 X1 X2;refine wp_region_still_tail 16 (by kernel_rfl) (by kernel_rfl) ?_;simp only[List.take_succ_cons,List.take_zero,List.drop_succ_cons,List.drop_zero];change wpStill _ _ W2.drew _ _ _;have D0:W2.drew.cell? w.heap.size=some (ι J i):=X0;have D1:W2.drew.cell? ⟨w.heap.size,1,none⟩=some (ι J b):=X1;have D2:W2.drew.cell? ⟨w.heap.size,2,none⟩=some (ι J j):=X2;have hld:w.heap.size<W2.drew.heap.size:=hlx;have Zd:aN W2.drew (w.alloc (aH #[ι J i,ι J b,ι J j] 23)).heap.size 152 #[ι J 0,ι J 0,ι J 0,ι J 0,ι J 0,ι J 0]:=Z;have HBd:=U (HB.o.drew)
 generalize W2.drew=W3 at*
 repeat still_step
 still_call (I0 _)
 repeat still_step
 still_call (I1 _)
 repeat still_step
 still_call (I2 _)
 repeat still_step
 refine wpStill_nil ?_;change wpList _ _ _ _ _ W2.drew;have HBd:=HB.o.drew;have Zd:aN W2.drew (w.alloc (aH #[ι J i,ι J b,ι J j] 23)).heap.size 152 #[ι J 0,ι J 0,ι J 0,ι J 0,ι J 0,ι J 0]:=Z;rw[aC]at Zd;clear Z hlz D0 D1 D2 hld X0 X1 X2 Y
 generalize W2.drew=W3 at*
 have z0:=Zd.cell 0;have z1:=Zd.cell 1;have z2:=Zd.cell 2;have z3:=Zd.cell 3;have z4:=Zd.cell 4;have z5:=Zd.cell 5;have f0:=Zd.free 0;have f1:=Zd.free 1;have f2:=Zd.free 2;have f3:=Zd.free 3;have f4:=Zd.free 4;have f5:=Zd.free 5;have hlz:=Zd.lt;simp only[au,av,ay]at z0 z1 z2 z3 z4 z5
 go_wp2
 have aL:=((((((Zd.set 0 (ι J 1)).set 1 (ι J j)).set 2 (ι J u0)).set 3 (ι J u1)).set 4 (ι J u2)).set 5 (ι J b));have k0:=aL.cell 0;have k1:=aL.cell 1;have k2:=aL.cell 2;have k3:=aL.cell 3;have k4:=aL.cell 4;have k5:=aL.cell 5;exact bodyPost_ret (v:=γ #[ι J 1,ι J j,ι J u0,ι J u1,ι J u2,ι J b]) (by simp[results,results59,go_sem,k0,k1,k2,k3,k4,k5]) rfl ⟨rfl,by(repeat(refine Below.setCell ?_ (by simp) _));exact HBd⟩
theorem yJ (i b j:Nat) (w:World) (hm:iR i b j=true):Calls prog 28 #[dw i b j] w λe w'=>e=aG (ι J ((mI i b j).sum:Nat))/\Below w.heap.size w w':=by
 have hr:i<=256/\b<=1024/\j<=256:=by simp[iR,CY]at hm;omega
 have MY:=U (λW=>iN i b j W);rw[hm]at MY;have SZ:=U (λW=>DX i b j W hr.1 hr.2.1 hr.2.2);unfold szV at SZ;unfold mI;have e0:nK (i+1) 512<=1000:=by unfold nK;omega
 have e1:nK (b+1) 512<=2000:=by unfold nK;omega
 have e2:nK i 2<=1000:=by unfold nK;omega
 generalize nK (i+1) 512=u0 at*
 generalize nK (b+1) 512=u1 at*
 generalize nK i 2=u2 at*
 obtain⟨hi,hb,hj⟩:=hr;have HB0:=U ((aj _ w).alloc (ah _) (aH #[ι J i,ι J b,ι J j] 23));unfold dw at*
 go_enter func28,ntmps28
 go_wp2_with fail;refine(MY.o _).mono ?_;rintro e w1 ⟨rfl,b1⟩;have hX:=(aN.new w 23 #[ι J i,ι J b,ι J j]).later b1;have hB1:=HB0.o.trans (b1.mono (by simp));have X:=hX.cell;have Xl:=hX.lt;go_wp2_with fail;refine(SZ.o _).mono ?_;rintro e w2 ⟨rfl,b2⟩;have hB2:=hB1.trans (b2.mono hB1.size);have HB2:=U hB2;clear X Xl hX b1 b2 hB1 hB2;go_wp2_with fail;have i0:∀W,(Instr.index 152 (γ #[ι J 1,ι J j,ι J u0,ι J u1,ι J u2,ι J b]) (ι J 0)).run prog W=.ok (ι J 1) W:=λ_=>by kernel_rfl
 have i1:∀W,(Instr.index 152 (γ #[ι J 1,ι J j,ι J u0,ι J u1,ι J u2,ι J b]) (ι J 1)).run prog W=.ok (ι J j) W:=λ_=>by kernel_rfl
 have i2:∀W,(Instr.index 152 (γ #[ι J 1,ι J j,ι J u0,ι J u1,ι J u2,ι J b]) (ι J 2)).run prog W=.ok (ι J u0) W:=λ_=>by kernel_rfl
 have i3:∀W,(Instr.index 152 (γ #[ι J 1,ι J j,ι J u0,ι J u1,ι J u2,ι J b]) (ι J 3)).run prog W=.ok (ι J u1) W:=λ_=>by kernel_rfl
 have i4:∀W,(Instr.index 152 (γ #[ι J 1,ι J j,ι J u0,ι J u1,ι J u2,ι J b]) (ι J 4)).run prog W=.ok (ι J u2) W:=λ_=>by kernel_rfl
 have i5:∀W,(Instr.index 152 (γ #[ι J 1,ι J j,ι J u0,ι J u1,ι J u2,ι J b]) (ι J 5)).run prog W=.ok (ι J b) W:=λ_=>by kernel_rfl
 refine wp_loop_rounds 7 ?_;rw[rounds_succ]
 go_wp2
 rw[rounds_succ]
 go_wp2
 rw[rounds_succ]
 go_wp2
 rw[rounds_succ]
 go_wp2
 rw[rounds_succ]
 go_wp2
 rw[rounds_succ]
 go_wp2
 rw[rounds_succ]
 go_wp2
 go_ret;exact⟨by simp;omega,HB2.o⟩
theorem MT (i b j:Nat):(mI i b j).length=6:=rfl
theorem Jr {i b j:Nat} (hi:i<=256) (hb:b<=1024) (hj:j<=256):∀x∈mI i b j,x<=2000:=by
 intro x hx;simp only[mI,List.mem_cons,List.not_mem_nil,or_false,nK]at hx
 rcases hx with h|h|h|h|h|h<;>omega
theorem DY:∀(l:List Nat),(∀x∈l,x<=2000)->l.sum<=l.length*2000
 |[],_=>by simp
 |x::r,h=>by
  have h1:=h x (by simp);have h2:=DY r (λy hy=>h y (by simp[hy]));simp only[List.sum_cons,List.length_cons];omega
def cB (i b j p:Nat):Nat:=((mI i b j).take p).sum
def oP (i b j p:Nat):Nat:=(mI i b j).getD p 0
theorem Nk {i b j p:Nat} (hp:p<6):cB i b j (p+1)=cB i b j p+oP i b j p:=by
 unfold cB oP;have hl:p<(mI i b j).length:=hp;rw[List.take_add_one,List.sum_append,List.getElem?_eq_getElem hl,List.getD_eq_getElem?_getD,List.getElem?_eq_getElem hl]
 simp
theorem vH {i b j:Nat} (hi:i<=256) (hb:b<=1024) (hj:j<=256) (p:Nat):oP i b j p<=2000:=by
 unfold oP
 by_cases hp:p<(mI i b j).length
 ·rw[List.getD_eq_getElem?_getD,List.getElem?_eq_getElem hp]
  exact Jr hi hb hj _ (List.getElem_mem hp)
 ·rw[List.getD_eq_getElem?_getD,List.getElem?_eq_none (by omega)]
  simp
theorem oQ {i b j:Nat} (hi:i<=256) (hb:b<=1024) (hj:j<=256) (p:Nat):cB i b j p<=12000:=by
 have h1:=DY ((mI i b j).take p) (λx hx=>Jr hi hb hj x (List.mem_of_mem_take hx));have h2:((mI i b j).take p).length<=6:=by rw[List.length_take,MT];omega
 unfold cB;omega
def Gi (i b j:Nat):Array Value:=#[ι J 1,ι J j,ι J (nK (i+1) 512),ι J (nK (b+1) 512),ι J (nK i 2),ι J b]
theorem Qr {i b j p:Nat} (hp:p<6):(Gi i b j)[p]? =some (ι J (oP i b j p)):=by
 match p,hp with
 |0,_|1,_|2,_|3,_|4,_|5,_=>rfl
def mS (i b j p:Nat) (w w2:World) (k:Value) (wr:World):Prop:=
 ∃m:Nat,m<=p/\k=ι J m/\aN wr (w.heap.size+1) 76 #[ι J (cB i b j m),ι J 0]/\aN wr w2.heap.size 152 (Gi i b j)/\Below w.heap.size w wr
theorem jN (i b j p:Nat) (w:World) (hm:iR i b j=true) (hp:p<6):Calls prog 29 #[dw i b j,ι J p] w λe w'=>e=aG (τ #[γ #[ι J (cB i b j p),ι J (oP i b j p)],ι J 0])/\Below w.heap.size w w':=by
 have hr:i<=256/\b<=1024/\j<=256:=by simp[iR,CY]at hm;omega
 have MY:=U (λW=>iN i b j W);rw[hm]at MY;have SZ:=U (λW=>DX i b j W hr.1 hr.2.1 hr.2.2);have FB:=U (λm=>oQ hr.1 hr.2.1 hr.2.2 m);have NB:=U (λm=>vH hr.1 hr.2.1 hr.2.2 m);unfold szV at SZ;have d0:decide ((p:Int)<0)=false:=by simp
 have d1:decide ((p:Int)>=6)=false:=by simp;omega
 have d2:decide ((6:Int)<=p)=false:=by simp;omega
 have HB0:=U (((aj _ w).alloc (ah _) (aH #[ι J i,ι J b,ι J j] 23)).alloc (by simp) (aH #[ι J 0,ι J 0] 76));unfold dw at*
 go_enter func29,ntmps29
 go_wp2_with fail;refine(MY.o _).mono ?_;rintro e w1 ⟨rfl,b1⟩;have hX:=((aN.new w 23 #[ι J i,ι J b,ι J j]).alloc (aH #[ι J 0,ι J 0] 76)).later b1;have hS:=(aN.new (w.alloc (aH #[ι J i,ι J b,ι J j] 23)) 76 #[ι J 0,ι J 0]).later b1;rw[aC]at hS;have hB1:=HB0.o.trans (b1.mono (by simp;omega));have X:=hX.cell;have Xl:=hX.lt;go_wp2_with fail;refine(SZ.o _).mono ?_;rintro e w2 ⟨rfl,b2⟩;have hB2:=hB1.trans (b2.mono hB1.size);have hS2:=hS.later b2;clear X Xl hX b1 hB1 hS b2;have HS:=U hS2;have HB2:=U hB2;clear hS2 hB2;go_wp2_with fail;have hne:w.heap.size+1≠w2.heap.size:=Nat.ne_of_lt HS.o.lt;have hle:w.heap.size<=w2.heap.size:=by have:=HS.o.lt;omega
 go_loopw [7,23] (λ_ k wr=>mS i b j p w w2 k wr) (λ_ k _=>p-(RowKit.intOf k).toNat)
 case atStart=>
  refine⟨0,aB _,rfl,?_,?_,?_⟩
  ·exact HS.o.alloc _
  ·unfold Gi
   exact aN.new _ _ _
  ·exact HB2.o.alloc hle _
 case round=>
  obtain⟨m,hmp,rfl,hS,hL,hB⟩:=hrel
  by_cases hlt:m<p
  ·have mT:=FB.o m
   have hnb:=NB.o m;have HF:Hid (cB i b j (m+1)=cB i b j m+oP i b j m):=U (Nk (by omega));have L0:wr.cell? ⟨w2.heap.size,m,none⟩=some (ι J (oP i b j m)):=(hL.cell m).trans (Qr (by omega))
   generalize cB i b j m=fm at*
   generalize oP i b j m=nm at*
   have S:=hS.cell;have Sl:=hS.lt;have F0:=hS.free 0;have F1:=hS.free 1;have q0:(0:Int)<=(m:Int):=by omega
   have q1:(m:Int)<6:=by omega
   have q2:(m:Int)<(p:Int):=by omega
   have hLl:=hL.lt;have HS2:=U hS;have HL2:=U hL;have MR:=U hB;clear hS hL hB;go_wp2_with fail;go_region
   go_wp2
   refine⟨⟨m+1,by omega,rfl,?_,?_,?_⟩,by simp[RowKit.intOf];omega⟩
   ·rw[HF.o,Int.natCast_add]
    exact aN.set HS2.o.drew 0 _
   ·exact aN.other HL2.o.drew _ hne.symm
   ·exact Below.setCell MR.o.drew (Nat.le_succ _) _
  ·obtain rfl:m=p:=by omega
   have mT:=FB.o m;have hnb:=NB.o m;have L0:wr.cell? ⟨w2.heap.size,m,none⟩=some (ι J (oP i b j m)):=(hL.cell m).trans (Qr (by omega));obtain⟨fm,hfm⟩:∃x,cB i b j m=x:=⟨_,rfl⟩;obtain⟨nm,hnm⟩:∃x,oP i b j m=x:=⟨_,rfl⟩;rw[hfm]at hS mT;rw[hnm]at L0 hnb;have S:=hS.cell;have Sl:=hS.lt;have F0:=hS.free 0;have F1:=hS.free 1;have q0:(0:Int)<=(m:Int):=by omega
   have q1:(m:Int)<6:=by omega
   have hLl:=hL.lt;have HS2:=U hS;have MR:=U hB;clear hS hL hB
   go_wp2
   have aL:=((HS2.o.set 1 (ι J nm)).set 0 (ι J fm)).set 1 (ι J nm);have k0:=aL.cell 0;have k1:=aL.cell 1;exact bodyPost_ret (v:=τ #[γ #[ι J fm,ι J nm],ι J 0]) (by simp[results,results29,go_sem,k0,k1]) rfl ⟨by rw[hfm,hnm],by(repeat(refine Below.setCell ?_ (Nat.le_succ _) _));exact MR.o⟩
theorem xB (i b j n:Nat) (w:World) (hm:iR i b j=true) (h1:1<=n) (h2:n<=i):Calls prog 46 #[dw i b j,ι F n] w λe w'=>e=aG (τ #[ι J (cB i b j 4+(n-1)/2:Nat),ι J ((n-1)%2*32:Nat),ι J 0])/\Below w.heap.size w w':=by
 have hr:i<=256/\b<=1024/\j<=256:=by simp[iR,CY]at hm;omega
 have PT:=U (λW=>jN i b j 4 W hm (by omega));have mT:=oQ hr.1 hr.2.1 hr.2.2 4;have hnb:=vH hr.1 hr.2.1 hr.2.2 4
 generalize cB i b j 4=fm at*
 generalize oP i b j 4=nm at*
 have HB0:=U ((aj _ w).alloc (ah _) (aH #[ι J i,ι J b,ι J j] 23));unfold dw at*
 go_enter func46,ntmps46
 go_wp2_with fail;refine(PT.o _).mono ?_;rintro e w1 ⟨rfl,b1⟩;have hX:=(aN.new w 23 #[ι J i,ι J b,ι J j]).later b1;have hB1:=U ((HB0.o.trans (b1.mono (by simp))).alloc (by have:=b1.size;simp at this⊢;omega) (aH #[ι J fm,ι J nm] 76));have X:=hX.cell;have Xl:=hX.lt;clear b1 hX
 go_wp2
 go_ret3
 refine⟨?_,hB1.o⟩;have e1:(fm:Int)+((n:Int)-1)*32/64=((fm+(n-1)/2:Nat):Int):=by omega
 have e2:((n:Int)-1)*32%64=(((n-1)%2*32:Nat):Int):=by omega
 show Ending.returned (τ #[ι J ((fm:Int)+((n:Int)-1)*32/64),ι J (((n:Int)-1)*32%64),ι J 0])=_;rw[e1,e2]
theorem Nn (i b j n:Nat) (w:World) (hm:iR i b j=true) (hn:n<4294967296) (hb:n<1\/i<n):Calls prog 46 #[dw i b j,ι F n] w λe w'=>e=aG (τ #[ι J 0,ι J 0,ι J 2])/\Below w.heap.size w w':=by
 have hr:i<=256/\b<=1024/\j<=256:=by simp[iR,CY]at hm;omega
 have PT:=U (λW=>jN i b j 4 W hm (by omega));have mT:=oQ hr.1 hr.2.1 hr.2.2 4;have hnb:=vH hr.1 hr.2.1 hr.2.2 4
 generalize cB i b j 4=fm at*
 generalize oP i b j 4=nm at*
 have HB0:=U ((aj _ w).alloc (ah _) (aH #[ι J i,ι J b,ι J j] 23));unfold dw at*
 by_cases hz:n=0
 ·subst hz
  go_enter func46,ntmps46
  go_wp2_with fail;refine(PT.o _).mono ?_;rintro e w1 ⟨rfl,b1⟩;have hX:=(aN.new w 23 #[ι J i,ι J b,ι J j]).later b1;have hB1:=U ((HB0.o.trans (b1.mono (by simp))).alloc (by have:=b1.size;simp at this⊢;omega) (aH #[ι J fm,ι J nm] 76));have X:=hX.cell;have Xl:=hX.lt;clear b1 hX
  go_wp2
  go_ret3
  exact⟨rfl,hB1.o⟩
 ·have h1:1<=n:=by omega
  have h2:i<n:=by omega
  clear hb hz
  go_enter func46,ntmps46
  go_wp2_with fail;refine(PT.o _).mono ?_;rintro e w1 ⟨rfl,b1⟩;have hX:=(aN.new w 23 #[ι J i,ι J b,ι J j]).later b1;have hB1:=U ((HB0.o.trans (b1.mono (by simp))).alloc (by have:=b1.size;simp at this⊢;omega) (aH #[ι J fm,ι J nm] 76));have X:=hX.cell;have Xl:=hX.lt;clear b1 hX
  go_wp2
  go_ret3
  exact⟨rfl,hB1.o⟩
theorem mo (i b j n:Nat) (w:World) (hm:iR i b j=true) (h1:1<=n) (h2:n<=b):Calls prog 230 #[dw i b j,ι I n] w λe w'=>e=aG (τ #[ι J (cB i b j 5+n-1:Nat),ι J 0])/\Below w.heap.size w w':=by
 have hr:i<=256/\b<=1024/\j<=256:=by simp[iR,CY]at hm;omega
 have PT:=U (λW=>jN i b j 5 W hm (by omega));have mT:=oQ hr.1 hr.2.1 hr.2.2 5;have hnb:=vH hr.1 hr.2.1 hr.2.2 5
 generalize cB i b j 5=fm at*
 generalize oP i b j 5=nm at*
 have HB0:=U ((aj _ w).alloc (ah _) (aH #[ι J i,ι J b,ι J j] 23));unfold dw at*
 go_enter func230,ntmps230
 go_wp2_with fail;refine(PT.o _).mono ?_;rintro e w1 ⟨rfl,b1⟩;have hX:=(aN.new w 23 #[ι J i,ι J b,ι J j]).later b1;have hB1:=U ((HB0.o.trans (b1.mono (by simp))).alloc (by have:=b1.size;simp at this⊢;omega) (aH #[ι J fm,ι J nm] 76));have X:=hX.cell;have Xl:=hX.lt;clear b1 hX
 go_wp2
 go_ret2;refine⟨?_,hB1.o⟩;have e1:(fm:Int)+(n:Int)-1=((fm+n-1:Nat):Int):=by omega
 show Ending.returned (τ #[ι J ((fm:Int)+(n:Int)-1),ι J 0])=_;rw[e1]
theorem qh (i b j n:Nat) (w:World) (hm:iR i b j=true) (hn:n<65536) (hb:n<1\/b<n):Calls prog 230 #[dw i b j,ι I n] w λe w'=>e=aG (τ #[ι J 0,ι J 2])/\Below w.heap.size w w':=by
 have hr:i<=256/\b<=1024/\j<=256:=by simp[iR,CY]at hm;omega
 have PT:=U (λW=>jN i b j 5 W hm (by omega));have mT:=oQ hr.1 hr.2.1 hr.2.2 5;have hnb:=vH hr.1 hr.2.1 hr.2.2 5
 generalize cB i b j 5=fm at*
 generalize oP i b j 5=nm at*
 have HB0:=U ((aj _ w).alloc (ah _) (aH #[ι J i,ι J b,ι J j] 23));unfold dw at*
 by_cases hz:n=0
 ·subst hz
  go_enter func230,ntmps230
  go_wp2_with fail;refine(PT.o _).mono ?_;rintro e w1 ⟨rfl,b1⟩;have hX:=(aN.new w 23 #[ι J i,ι J b,ι J j]).later b1;have hB1:=U ((HB0.o.trans (b1.mono (by simp))).alloc (by have:=b1.size;simp at this⊢;omega) (aH #[ι J fm,ι J nm] 76));have X:=hX.cell;have Xl:=hX.lt;clear b1 hX
  go_wp2
  go_ret2;exact⟨rfl,hB1.o⟩
 ·have h1:1<=n:=by omega
  have h2:b<n:=by omega
  clear hb hz
  go_enter func230,ntmps230
  go_wp2_with fail;refine(PT.o _).mono ?_;rintro e w1 ⟨rfl,b1⟩;have hX:=(aN.new w 23 #[ι J i,ι J b,ι J j]).later b1;have hB1:=U ((HB0.o.trans (b1.mono (by simp))).alloc (by have:=b1.size;simp at this⊢;omega) (aH #[ι J fm,ι J nm] 76));have X:=hX.cell;have Xl:=hX.lt;clear b1 hX
  go_wp2
  go_ret2;exact⟨rfl,hB1.o⟩
def oz (n:Nat):List UInt8:=List.replicate n 0
theorem mJ (n:Nat):(oz n).length=n:=by simp[oz]
theorem Aj (n:Nat) (w:World):(convert 122 9 (θ (some w.heap.size) n n)).run prog (w.alloc (aH (madeCells #[ι aF 0] n) 5))=.ok (σ (B (oz n))) (w.alloc (aH (madeCells #[ι aF 0] n) 5)):=by
 have r0:=World.rowIs_made w (ι aF 0) n 5;have h:=vv (w.alloc (aH (madeCells #[ι aF 0] n) 5)) w.heap.size n (oz n) _ (by rw[mJ];exact r0) (λj hj=>by simp[oz]);rw[mJ]at h;exact h
def Np:List UInt8:=[108,117,110,101,116,116,101,49]
def ru (i b j:Nat):List UInt8:=Np++eu i 4++eu b 4++eu j 4++oz 44
theorem SV (i b j:Nat) (w:World) (hm:iR i b j=true):Calls prog 63 #[dw i b j] w λe w'=>e=aG (τ #[σ (B (ru i b j)),ι J 0])/\Below w.heap.size w w':=by
 have hr:i<=256/\b<=1024/\j<=256:=by simp[iR,CY]at hm;omega
 obtain⟨hi,hb,hj⟩:=hr;have MY:=U (λW=>iN i b j W);rw[hm]at MY;have N0:=U (λW=>uG i 4 W (by omega) (by omega));have N1:=U (λW=>uG b 4 W (by omega) (by omega));have N2:=U (λW=>uG j 4 W (by omega) (by omega));have HB0:=U ((aj _ w).alloc (ah _) (aH #[ι J i,ι J b,ι J j] 23));unfold dw at*
 go_enter func63,ntmps63
 go_wp2_with fail;refine(MY.o _).mono ?_;rintro e w1 ⟨rfl,b1⟩;have hX:=(aN.new w 23 #[ι J i,ι J b,ι J j]).later b1;have hB1:=HB0.o.trans (b1.mono (by simp));have X:=hX.cell;have Xl:=hX.lt;have hV:=aN.new w1 3 #[ι J i,ι J b,ι J j];have hB2:=hB1.alloc hB1.size (aH #[ι J i,ι J b,ι J j] 3);clear hX b1;obtain⟨t0,ht0⟩:∃x,B (eu i 4)=x:=⟨_,rfl⟩;obtain⟨t1,ht1⟩:∃x,B (eu b 4)=x:=⟨_,rfl⟩;obtain⟨t2,ht2⟩:∃x,B (eu j 4)=x:=⟨_,rfl⟩;rw[ht0]at N0;rw[ht1]at N1;rw[ht2]at N2;have hs0:t0.size=4:=by rw[<-ht0,aV,cu]
 have hs1:t1.size=4:=by rw[<-ht1,aV,cu]
 have hs2:t2.size=4:=by rw[<-ht2,aV,cu]
 have MS:(⟨#[108,117,110,101,116,116,101,49]⟩:ByteArray).size=8:=rfl;have hs3:(B (oz 44)).size=44:=by rw[aV,mJ]
 have c0:(⟨#[108,117,110,101,116,116,101,49]⟩:ByteArray).size+t0.size<=256:=by omega
 have c1:((⟨#[108,117,110,101,116,116,101,49]⟩:ByteArray)++t0).size+t1.size<=256:=by rw[ByteArray.size_append];omega
 have c2:((⟨#[108,117,110,101,116,116,101,49]⟩:ByteArray)++t0++t1).size+t2.size<=256:=by rw[ByteArray.size_append,ByteArray.size_append];omega
 have c3:((⟨#[108,117,110,101,116,116,101,49]⟩:ByteArray)++t0++t1++t2).size=20:=by rw[ByteArray.size_append,ByteArray.size_append,ByteArray.size_append];omega
 have c4:((⟨#[108,117,110,101,116,116,101,49]⟩:ByteArray)++t0++t1++t2).size+(B (oz 44)).size<=256:=by omega
 go_wp2_with fail;clear hB1 X Xl;refine wp_loop_rounds 4 ?_;rw[rounds_succ];have V:=hV.cell;have Vl:=hV.lt;go_wp2_with fail;refine(N0.o _).mono ?_;rintro e w2 ⟨rfl,b2⟩;have hV2:=hV.later b2;have hB3:=hB2.trans (b2.mono hB2.size);clear V Vl hV b2 hB2;have V:=hV2.cell;have Vl:=hV2.lt;go_wp2_with fail;rw[rounds_succ];go_wp2_with fail;refine(N1.o _).mono ?_;rintro e w3 ⟨rfl,b3⟩;have hV3:=hV2.later b3;have hB4:=hB3.trans (b3.mono hB3.size);clear V Vl hV2 b3 hB3;have V:=hV3.cell;have Vl:=hV3.lt;go_wp2_with fail;rw[rounds_succ];go_wp2_with fail;refine(N2.o _).mono ?_;rintro e w4 ⟨rfl,b4⟩;have hV4:=hV3.later b4;have MU:=hB4.trans (b4.mono hB4.size);clear V Vl hV3 b4 hB4;have hmk:(Instr.makeSlice 122 (ι J 44) (ι J 44)).run prog w4=.ok (θ (some w4.heap.size) 44 44) (w4.alloc (aH (madeCells #[ι aF 0] 44) 5)):=oO 44 (by omega) w4;have hzz:=Aj 44 w4;go_wp2_with fail;rw[rounds_succ];have HF:=U (MU.alloc MU.size (aH (madeCells #[ι aF 0] 44) 5))
 have HE:Hid ((⟨#[108,117,110,101,116,116,101,49]⟩:ByteArray)++t0++t1++t2++B (oz 44)=B (ru i b j)):=U (by
  rw[<-ht0,<-ht1,<-ht2,show(⟨#[108,117,110,101,116,116,101,49]⟩:ByteArray)=B Np from rfl,dA,dA,dA,dA]
  rfl)
 clear MU ht0 ht1 ht2
 go_wp2
 go_ret2;refine⟨?_,HF.o⟩;rw[<-HE.o]
 rfl
end Geo
namespace qX
open Go.RowKit Go.Shelf Oct Geo
theorem rz (w:World):Calls prog 65 #[] w λe w'=>e=aG (σ (B (oz 64)))/\Below w.heap.size w w':=by
 have hmk:(Instr.makeSlice 122 (ι J 64) (ι J 64)).run prog w=.ok (θ (some w.heap.size) 64 64) (w.alloc (aH (madeCells #[ι aF 0] 64) 5)):=oO 64 (by omega) w;have hzz:=Aj 64 w
 go_enter func65,ntmps65
 go_wp2
 go_ret;exact⟨rfl,(aj _ _).alloc (ah _) _⟩
def aQ (s:Nat):Nat:=(s+63)/64
theorem oU (s:Nat) (w:World) (hs:s<4294967296):Calls prog 155 #[ι F s] w λe w'=>e=aG (ι J (aQ s))/\w=w':=by
 go_enter func155,ntmps155
 go_wp2
 go_ret;refine⟨?_,rfl⟩;have e1:((s:Int)+64-1)/64=((aQ s:Nat):Int):=by unfold aQ;omega
 show Ending.returned (ι J (((s:Int)+64-1)/64))=_;rw[e1]
theorem Qs (s:ByteArray) (n:Nat) (w:World) (hs:s.size<=n) (hn:n<=100000):Calls prog 125 #[σ s,ι J n] w λe w'=>e=aG (σ (B (L s++oz (n-s.size))))/\Below w.heap.size w w':=by
 have e1:(n:Int)-(s.size:Int)=((n-s.size:Nat):Int):=by omega
 have hmk:=oO (n-s.size) (by omega) w;have hzz:=Aj (n-s.size) w;have hz:s.size+(B (oz (n-s.size))).size<=100000:=by rw[aV,mJ];omega
 have E:=U (show s++B (oz (n-s.size))=B (L s++oz (n-s.size))by rw[dA];rfl)
 go_enter func125,ntmps125
 go_wp2
 go_ret;refine⟨?_,(aj _ _).alloc (ah _) _⟩;rw[<-E.o]
 rfl
def cK (l:List Nat):List UInt8:=l.flatMap λv=>eu v 2
theorem gK:∀l:List Nat,(cK l).length=2*l.length
 |[]=>rfl
 |v::r=>by
  have:=gK r;simp only[cK,List.flatMap_cons,List.length_append,cu,List.length_cons]at this⊢;omega
theorem Ak (l:List Nat) (v:Nat):cK (l++[v])=cK l++eu v 2:=by simp[cK]
theorem qj (l:List Nat) (b o cap:Nat) (w:World) (hl:l.length<=64) (hv:∀v∈l,v<65536) (hb:b<w.heap.size) (hc:∀i (h:i<l.length),w.cell? ⟨b,o+i,none⟩=some (ι I l[i])):
 Calls prog 124 #[θ (some ⟨b,o,none⟩) l.length cap] w λe w'=>e=aG (σ (B (cK l)))/\Below w.heap.size w w':=by
 have HC:=U hc;have HV:=U hv;clear hc hv
 go_enter func124,ntmps124
 go_wp2_with fail
 go_loopw [2,4,5,6,9] (λs _ _ _ c wr=>∃m:Nat,m<=l.length/\c=ι J m/\s=σ (B (cK (l.take m)))/\Below w.heap.size w wr) (λ_ _ _ _ c _=>l.length-(RowKit.intOf c).toNat)
 case atStart=>exact⟨0,aB _,rfl,rfl,aj _ _⟩
 case round=>
  obtain⟨m,hm,rfl,rfl,hB⟩:=hrel
  by_cases hlt:m<l.length
  ·have q0:(0:Int)<=m:=by omega
   have q1:(m:Int)<l.length:=by omega
   have c1:=(hB.cell (p:=⟨b,o+m,none⟩) hb).trans (HC.o m hlt);have hbl:b<wr.heap.size:=aA hb hB.size;have hvm:=HV.o l[m] (List.getElem_mem hlt);have NU:=U (λW=>uG l[m] 2 W (by omega) (by omega));have hz:(B (cK (l.take m))).size+(B (eu l[m] 2)).size<=300:=by rw[aV,aV,cu,gK,List.length_take];omega
   have E:=U (show B (cK (l.take m))++B (eu l[m] 2)=B (cK (l.take (m+1)))by rw[dA,List.take_add_one,List.getElem?_eq_getElem hlt];rw[show(some l[m]).toList=[l[m]]from rfl,Ak];rfl)
   generalize B (cK (l.take m))=s0 at*
   generalize B (eu l[m] 2)=t0 at*
   have HB:=U hB;go_wp2_with fail;refine(NU.o _).mono ?_;rintro e w1 ⟨rfl,b1⟩;go_wp2_with fail;exact⟨⟨m+1,by omega,rfl,by rw[E.o],HB.o.trans (b1.mono HB.o.size)⟩,by simp[RowKit.intOf];omega⟩
  ·obtain rfl:m=l.length:=by omega
   go_wp2
   go_ret;refine⟨?_,hB⟩;show Ending.returned (σ (B (cK (l.take l.length))))=_;rw[List.take_length]
structure aP where
 kind:Nat
 links:Nat
 size:Nat
 d0:Nat
 d1:Nat
 d2:Nat
 d3:Nat
 ind:Nat
def aP.val (x:aP):Value:=γ #[ι aF x.kind,ι I x.links,ι F x.size,ι I x.d0,ι I x.d1,ι I x.d2,ι I x.d3,ι I x.ind]
def aP.cells (x:aP):Array Value:=#[ι aF x.kind,ι I x.links,ι F x.size,ι I x.d0,ι I x.d1,ι I x.d2,ι I x.d3,ι I x.ind]
def aP.row (x:aP):List Nat:=[x.d0,x.d1,x.d2,x.d3,x.ind]
def aP.nums (x:aP):List Nat:=[x.kind,x.links,x.size%65536,x.size/65536,x.d0,x.d1,x.d2,x.d3,x.ind]
def jL (x:aP):ByteArray:=B (cK x.nums++oz 14)
def Qt (n:Nat) (l:List Nat):Prop:=∀k v,l[k]? =some v->v≠0->k<n/\∀j,j<k->l[j]?≠some v
def dY:aP:=⟨0,0,0,0,0,0,0,0⟩
structure aP.Used (x:aP):Prop where
 kind:x.kind=1\/x.kind=2
 links:x.links<=200
 size:x.size<=2304
 dir:x.kind=2->x.size%64=0
 row:Qt (aQ x.size) x.row
 lt:∀v∈x.row,v<65536
def aP.Ok (x:aP):Prop:=x=dY\/x.Used
theorem SX (a b:List Nat):cK (a++b)=cK a++cK b:=by simp[cK]
theorem SY (n:Nat):eu 0 n=List.replicate n 0:=by
 induction n with
 |zero=>rfl
 |succ n ih=>rw[DT,ih,List.replicate_succ'];simp
theorem Am (n:Nat):cK (List.replicate n 0)=oz (2*n):=by
 induction n with
 |zero=>rfl
 |succ n ih=>
  rw[List.replicate_succ',Ak,ih,SY];unfold oz;rw[List.replicate_append_replicate]
  rfl
theorem Ao:∀(l:List Nat) (k:Nat),(cK l).drop (2*k)=cK (l.drop k)
 |l,0=>by simp
 |[],k+1=>by simp[cK]
 |v::r,k+1=>by
  have h:=Ao r k;have e:cK (v::r)=eu v 2++cK r:=rfl;rw[e,List.drop_succ_cons,<-h,List.drop_append,cu];have e2:(eu v 2).drop (2*(k+1))=[]:=List.drop_eq_nil_of_le (by rw[cu];omega);rw[e2,List.nil_append]
  congr 1
theorem Nq (v:Nat) (r:List Nat):(cK (v::r)).take 2=eu v 2:=by
 have e:cK (v::r)=eu v 2++cK r:=rfl;rw[e,List.take_append_of_le_length (by rw[cu];omega),List.take_of_length_le (by rw[cu];omega)]
theorem Ta {v:Nat} (h:v<65536):ku (eu v 2)=v:=by
 rw[tC];exact Nat.mod_eq_of_lt h
theorem Ws (x:aP):cK x.nums++oz 14=cK (x.nums++List.replicate 7 0):=by
 rw[SX,Am]
theorem jF (x:aP):(jL x).size=32:=by
 unfold jL;rw[aV,List.length_append,gK,mJ]
 rfl
theorem Used.tH {x:aP} (h:x.Used):∀v∈x.nums,v<65536:=by
 intro v hv;have h1:=h.lt;have h2:=h.links;have h3:=h.size;have h4:=h.kind;unfold aP.nums at hv;unfold aP.row at h1;simp only[List.mem_cons,List.not_mem_nil,or_false]at hv h1
 rcases hv with rfl|rfl|rfl|rfl|rfl|rfl|rfl|rfl|rfl
 iterate 4
  ·omega
 iterate 5
  ·exact h1 _ (by simp)
theorem Ok.tH {x:aP} (h:x.Ok):∀v∈x.nums,v<65536:=by
 rcases h with rfl|h
 ·intro v hv
  simp[aP.nums,dY]at hv
  omega
 ·exact Used.tH h
theorem Ok.tJ {x:aP} (h:x.Ok):x.size<=2304:=by
 rcases h with rfl|h
 ·simp[dY]
 ·exact h.size
end qX
namespace Geo
open Go.RowKit Go.Shelf Oct
theorem lG (s:ByteArray) (a b:Nat):s.extract a b=B (((L s).drop a).take (b-a)):=by
 rw[<-SN (s.extract a b)]
 congr 1
 show(s.extract a b).data.toList=_;rw[ByteArray.data_extract];simp only[Array.toList_extract,List.extract_eq_take_drop]
 rfl
theorem Tc (i b j:Nat):(ru i b j).length=64:=by simp[ru,Np,cu,mJ]
end Geo
namespace qX
open Go.RowKit Go.Shelf Oct Geo
theorem Wt {W:World} {base g size n:Nat} {t:TypeId} {v:Value} {xs:List Value} (h:W.ownsRow base t size v n xs) (hg:v.ownBlock=some g):base<=g:=by
 rcases h.2 with⟨rfl,_⟩|⟨g',cap,cur,rfl,hb,_⟩
 ·simp[Value.ownBlock]at hg
 ·have e:g'=g:=by simpa[Value.ownBlock]using hg
  omega
def iE (n:Nat):Value:=ι I n
theorem rA:(prog.info? 111).map (λi=>(i.zero,i.size,i.bytes))=some (some (ι I 0),1,2):=by kernel_rfl
theorem wrap_u16 (n:Nat) (h:n<65536):IntKind.u16.wrap (n:Int)=n:=by
 simp[IntKind.wrap,IntKind.bits,IntKind.signed]
 omega
theorem Qu (vs:List Nat) (w:World) (hl:vs.length<=64) (hv:∀v∈vs,v<65536):
 Calls prog 148 #[σ (B (cK vs))] w λe w'=>∃v,e=aG v/\w'.ownsRow w.heap.size 111 1 v vs.length (vs.map iE)/\Below w.heap.size w w':=by
 obtain⟨i0,hi,hz0,hz1,hz2⟩:=info_parts rA;have HV:=U hv;clear hv
 go_enter func148,ntmps148
 go_wp2_with fail
 go_loopw [0,2,3,4] (λs l _ _ wr=>∃m:Nat,m<=vs.length/\s=σ (B (cK (vs.drop m)))/\wr.ownsRow w.heap.size 111 1 l m ((vs.take m).map iE)/\Below w.heap.size w wr) (λs _ _ _ _=>match s with|σ b=>b.size|_=>0)
 case atStart=>exact⟨0,aB _,rfl,World.ownsRow_nil _ _ _ _,aj _ _⟩
 case round=>
  obtain⟨m,hm,rfl,hown,hB⟩:=hrel;have hsz:(B (cK (vs.drop m))).size=2*(vs.length-m):=by rw[aV,gK,List.length_drop]
  by_cases hlt:m<vs.length
  ·have hvm:=HV.o vs[m] (List.getElem_mem hlt)
   have e1:(B (cK (vs.drop m))).extract 0 2=B (eu vs[m] 2):=by
    rw[lG,iy,List.drop_zero,List.drop_eq_getElem_cons hlt];exact congrArg B (Nq _ _)
   have e2:(B (cK (vs.drop m))).extract 2 (B (cK (vs.drop m))).size=B (cK (vs.drop (m+1))):=by
    rw[lG,iy,hsz];have e:=Ao (vs.drop m) 1;rw[List.drop_drop]at e;rw[show 2*1=2 from rfl]at e;rw[e,List.take_of_length_le (by rw[gK,List.length_drop];omega)]
   have GE:=U (λW=>Wn (B (eu vs[m] 2)) W (by rw[aV,cu];omega));rw[iy,Ta hvm]at GE;have wz:=wrap_u16 vs[m] hvm;have hge:2<=(B (cK (vs.drop m))).size:=by omega
   obtain⟨s2,hs2⟩:∃s,B (cK (vs.drop (m+1)))=s:=⟨_,rfl⟩;rw[hs2]at e2;have E2:=U hs2;have HB:=U hB
   have hsn:(vs.take (m+1)).map iE=(vs.take m).map iE++[iE vs[m]]:=by
    rw[List.take_add_one,List.getElem?_eq_getElem hlt,List.map_append]
    rfl
   obtain⟨xs,hxs⟩:∃s,(vs.take m).map iE=s:=⟨_,rfl⟩;rw[hxs]at hsn hown;have HO:=U hown;have Js:=U hsn;have HS2:=U (show s2.size<(B (cK (vs.drop m))).size by rw[<-hs2,hsz,aV,gK,List.length_drop];omega);have HBs:=U hB.size;clear hown hB hsn hsz hxs hs2
   generalize B (cK (vs.drop m))=s1 at*
   generalize vs[m]=x at*
   go_wp2_with fail;refine(GE.o _).mono ?_;rintro e w9 ⟨rfl,rfl⟩
   go_wp2_with (at_builtin;refine wpList_append_own _ rfl _ _ 53 rfl w.heap.size 111 i0 (ι I 0) 1 2 underlying53 hi hz0 hz1 hz2 rfl (by decide) _ _ _ rfl (HO.o.alloc _) ⟨wr.heap.size,0,none⟩ 1 1 [iE x] rfl rfl ?c1 ?c2 (by unfold maxLen;omega) (by omega) (by have:=HBs.o;simp;omega) ?_)
   case c1=>exact World.news_of_block (aN.new wr 111 #[iE x])
   case c2=>intro u hu;simp at hu;subst hu;rfl
   intro v1 w1 hown1 hg1 hne1;have HO1:=U hown1;have HB1:=U ((HB.o.alloc HBs.o (aH #[iE x] 111)).grown hg1 (by have:=HBs.o;simp;omega) (λg hg=>Wt HO.o hg));clear hown1 hg1 hne1;go_wp2_with fail;go_roundw
   case rel=>exact⟨m+1,by omega,by rw[E2.o],by rw[Js.o];exact HO1.o,HB1.o⟩
   case measure=>exact HS2.o
  ·obtain rfl:m=vs.length:=by omega
   have h0:(B (cK (vs.drop vs.length))).size=0:=by rw[hsz];omega
   rw[List.take_length]at hown;have HO:=U hown;have HB:=U hB;clear hown hB hsz
   generalize B (cK (vs.drop vs.length))=s1 at*
   go_wp2_with fail;go_ret;exact⟨_,rfl,HO.o,HB.o⟩
