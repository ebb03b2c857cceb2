/- Lemmas. -/
import Derived.Test.YtpendnmmgjlmfaaGreatDoorM31
set_option linter.unusedVariables false
set_option linter.unusedSimpArgs false
namespace Go.Proofs.YtpendnmmgjlmfaaGreatDoor
open Go.RowKit Go.Shelf Go.Maps
open Go.Proofs.Tryz
open IntKind renaming u16→I,i64→J,u32→F,u8→aF
open Value renaming pointer→G,int->ι,string->σ,tuple->τ,agg->γ
open Ending renaming returned→aG
open Obj renaming cells→aH
set_option maxRecDepth 100000
set_option maxHeartbeats 2000000
namespace lC
open Oct Dev mU Tx Geo qX Bm
section
variable {E:Im} {D:aZ} {Z:Nat->Prop} {Q:Prop}
theorem Vp (n:Nat) (w:World) (hs:Small E) (h:IS w E D Z) (hn:n<4294967296) (hb:n<1\/E.i<n):
 Calls prog 48 #[E.M,ι F n] w λe w'=>e=aG (τ #[γ #[ι aF 0,ι I 0,ι F 0,ι I 0,ι I 0,ι I 0,ι I 0,ι I 0],ι J 2])/\Below w.heap.size w w':=by
 have IN:=U (λW=>Geo.Nn E.i E.bl E.j n W hs.may hn hb);unfold dw at IN;have H:=U h;have hX:=h.img;have X:=hX.cell;have Xl:=hX.lt;clear hX h;have HB0:=U ((aj _ w).alloc (ah _) (aH #[ι aF 0,ι I 0,ι F 0,ι I 0,ι I 0,ι I 0,ι I 0,ι I 0] 114));have iS:=U (aN.new w 114 #[ι aF 0,ι I 0,ι F 0,ι I 0,ι I 0,ι I 0,ι I 0,ι I 0]);clear hb
 go_enter func48,ntmps48
 go_wp2_with fail;refine(IN.o _).mono ?_;rintro e w1 ⟨rfl,b1⟩;have B1:=U (HB0.o.trans (b1.mono HB0.o.size));have jI:=U (iS.o.later b1);have hY:=jI.o;clear b1 X Xl;have Y:=hY.cell;have Yl:=hY.lt;have F0:=hY.free 0;have F1:=hY.free 1;have F2:=hY.free 2;have F3:=hY.free 3;have F4:=hY.free 4;have F5:=hY.free 5;have F6:=hY.free 6;have F7:=hY.free 7;clear hY
 go_wp2
 have BB:=aX (v0:=ι aF 0) (v1:=ι I 0) (v2:=ι F 0) (v3:=ι I 0) (v4:=ι I 0) (v5:=ι I 0) (v6:=ι I 0) (v7:=ι I 0) B1.o (ah _);have h9:=fK (jI.o) (ι aF 0) (ι I 0) (ι F 0) (ι I 0) (ι I 0) (ι I 0) (ι I 0) (ι I 0);unfold dG at h9;have k:=h9.cell;exact bodyPost_ret (v:=τ #[γ #[ι aF 0,ι I 0,ι F 0,ι I 0,ι I 0,ι I 0,ι I 0,ι I 0],ι J 2]) (by simp[results,results48,go_sem,(k 0),(k 1),(k 2),(k 3),(k 4),(k 5),(k 6),(k 7)]) rfl ⟨rfl,BB⟩
theorem yh (n:Nat) (w:World) (hs:Small E) (h:IS w E D Z) (hn:n<4294967296) (hb:n<1\/E.i<n):
 Calls prog 154 #[E.M,ι F n] w λe w'=>e=aG (τ #[γ #[ι aF 0,ι I 0,ι F 0,ι I 0,ι I 0,ι I 0,ι I 0,ι I 0],ι J 2])/\Below w.heap.size w w':=by
 have IN:=U (λW (h:IS W E D Z)=>Vp n W hs h hn hb);have H:=U h;clear h hb;have HB0:=U ((aj _ w).alloc (ah _) (aH #[ι aF 0,ι I 0,ι F 0,ι I 0,ι I 0,ι I 0,ι I 0,ι I 0] 114));have iS:=U (aN.new w 114 #[ι aF 0,ι I 0,ι F 0,ι I 0,ι I 0,ι I 0,ι I 0,ι I 0]);have HP:=U (H.o.later HB0.o)
 go_enter func154,ntmps154
 go_wp2_with fail;refine(IN.o _ HP.o).mono ?_;rintro e w1 ⟨rfl,b1⟩;have B1:=U ((HB0.o.trans (b1.mono HB0.o.size)).alloc (aD HB0.o.size b1.size) (aH #[ι aF 0,ι I 0,ι F 0,ι I 0,ι I 0,ι I 0,ι I 0,ι I 0] 114));have jI:=U ((iS.o.later b1).alloc (aH #[ι aF 0,ι I 0,ι F 0,ι I 0,ι I 0,ι I 0,ι I 0,ι I 0] 114));have hX:=jI.o;clear b1;have X:=hX.cell;have Xl:=hX.lt;have F0:=hX.free 0;have F1:=hX.free 1;have F2:=hX.free 2;have F3:=hX.free 3;have F4:=hX.free 4;have F5:=hX.free 5;have F6:=hX.free 6;have F7:=hX.free 7;clear hX
 go_wp2
 have BB:=aX (v0:=ι aF 0) (v1:=ι I 0) (v2:=ι F 0) (v3:=ι I 0) (v4:=ι I 0) (v5:=ι I 0) (v6:=ι I 0) (v7:=ι I 0) B1.o (ah _);have h9:=fK (jI.o) (ι aF 0) (ι I 0) (ι F 0) (ι I 0) (ι I 0) (ι I 0) (ι I 0) (ι I 0);unfold dG at h9;have k:=h9.cell;exact bodyPost_ret (v:=τ #[γ #[ι aF 0,ι I 0,ι F 0,ι I 0,ι I 0,ι I 0,ι I 0,ι I 0],ι J 2]) (by simp[results,results154,go_sem,(k 0),(k 1),(k 2),(k 3),(k 4),(k 5),(k 6),(k 7)]) rfl ⟨rfl,BB⟩
theorem LJ (n:Nat) (p:Int) (s:ByteArray) (w:World) (hs:Small E) (h:IS w E D Z) (hn:n<4294967296) (hb:n<1\/E.i<n):
 Calls prog 201 #[E.M,ι F n,ι J p,σ s] w λe w'=>e=aG (ι J 2)/\Below w.heap.size w w':=by
 have TH:=U (λW (h:IS W E D Z)=>yh n W hs h hn hb);have H:=U h;clear h hb
 go_enter func201,ntmps201
 go_wp2_with fail;refine(TH.o _ H.o).mono ?_;rintro e w1 ⟨rfl,b1⟩;have B1:=U (b1.alloc b1.size (aH #[ι aF 0,ι I 0,ι F 0,ι I 0,ι I 0,ι I 0,ι I 0,ι I 0] 114));clear b1
 go_wp2
 go_ret;exact⟨rfl,B1.o⟩
theorem Pp (n s:Nat) (w:World) (hs:Small E) (h:IS w E D Z) (hn:n<4294967296) (hb:n<1\/E.i<n):
 Calls prog 197 #[E.M,ι F n,ι F s] w λe w'=>e=aG (ι J 2)/\Below w.heap.size w w':=by
 have TH:=U (λW (h:IS W E D Z)=>yh n W hs h hn hb);have H:=U h;clear h hb
 go_enter func197,ntmps197
 go_wp2_with fail;refine(TH.o _ H.o).mono ?_;rintro e w1 ⟨rfl,b1⟩;have B1:=U (b1.alloc b1.size (aH #[ι aF 0,ι I 0,ι F 0,ι I 0,ι I 0,ι I 0,ι I 0,ι I 0] 114));clear b1
 go_wp2
 go_ret;exact⟨rfl,B1.o⟩
end
section
variable {E:Im} {D:aZ} {Z:Nat->Prop} {Q:Prop}
theorem IE (n:Nat) (p:Int) (s:ByteArray) (x:aP) (w:World) (hs:Small E) (h:IS w E D Z) (h1:1<=n) (hn:n<=E.i) (hx:dZ E D n x) (ho:x.Ok) (hk:x.kind=0):
 Calls prog 201 #[E.M,ι F n,ι J p,σ s] w λe w'=>e=aG (ι J 3)/\Below w.heap.size w w':=by
 have TH:=jw n x w hs h h1 hn hx ho;rw[if_pos hk]at TH;have TH:=U TH;obtain⟨kind,links,size,d0,d1,d2,d3,ind⟩:=x;clear h hx ho hk;unfold aP.val at*
 go_enter func201,ntmps201
 go_wp2_with fail;refine TH.o.mono ?_;rintro e w1 ⟨rfl,b1⟩;have B1:=U (b1.alloc b1.size (aH #[ι aF kind,ι I links,ι F size,ι I d0,ι I d1,ι I d2,ι I d3,ι I ind] 114));clear b1
 go_wp2
 go_ret;exact⟨rfl,B1.o⟩
theorem LM (n:Nat) (s:Nat) (x:aP) (w:World) (hs:Small E) (h:IS w E D Z) (h1:1<=n) (hn:n<=E.i) (hx:dZ E D n x) (ho:x.Ok) (hk:x.kind=0):
 Calls prog 197 #[E.M,ι F n,ι F s] w λe w'=>e=aG (ι J 3)/\Below w.heap.size w w':=by
 have TH:=jw n x w hs h h1 hn hx ho;rw[if_pos hk]at TH;have TH:=U TH;obtain⟨kind,links,size,d0,d1,d2,d3,ind⟩:=x;clear h hx ho hk;unfold aP.val at*
 go_enter func197,ntmps197
 go_wp2_with fail;refine TH.o.mono ?_;rintro e w1 ⟨rfl,b1⟩;have B1:=U (b1.alloc b1.size (aH #[ι aF kind,ι I links,ι F size,ι I d0,ι I d1,ι I d2,ι I d3,ι I ind] 114));clear b1
 go_wp2
 go_ret;exact⟨rfl,B1.o⟩
theorem LP (n:Nat) (p:Int) (s:ByteArray) (x:aP) (w:World) (hs:Small E) (h:IS w E D Z) (h1:1<=n) (hn:n<=E.i) (hx:dZ E D n x) (ho:x.Ok) (hk:x.kind≠0) (h64:s.size=64) (hb:p<0\/36<=p\/(x.size:Int)<=p*64):
 Calls prog 201 #[E.M,ι F n,ι J p,σ s] w λe w'=>e=aG (ι J 2)/\Below w.heap.size w w':=by
 have hsz:=Ok.tJ ho;have TH:=jw n x w hs h h1 hn hx ho;rw[if_neg hk]at TH;have TH:=U TH;obtain⟨kind,links,size,d0,d1,d2,d3,ind⟩:=x;simp only at hb hsz hk;clear h hx ho;unfold aP.val at*;have q4:((s.size:Int)!=64)=false:=by simp;omega
 by_cases c1:p<0
 ·clear hb
  go_enter func201,ntmps201
  go_wp2_with fail;refine TH.o.mono ?_;rintro e w1 ⟨rfl,b1⟩;have B1:=U (b1.alloc b1.size (aH #[ι aF kind,ι I links,ι F size,ι I d0,ι I d1,ι I d2,ι I d3,ι I ind] 114));clear b1
  go_wp2
  go_ret;exact⟨rfl,B1.o⟩
 ·by_cases c2:36<=p
  ·clear hb
   go_enter func201,ntmps201
   go_wp2_with fail;refine TH.o.mono ?_;rintro e w1 ⟨rfl,b1⟩;have B1:=U (b1.alloc b1.size (aH #[ι aF kind,ι I links,ι F size,ι I d0,ι I d1,ι I d2,ι I d3,ι I ind] 114));clear b1
   go_wp2
   go_ret;exact⟨rfl,B1.o⟩
  ·have q5:(size:Int)<=p*64:=by omega
   clear hb
   go_enter func201,ntmps201
   go_wp2_with fail;refine TH.o.mono ?_;rintro e w1 ⟨rfl,b1⟩;have B1:=U (b1.alloc b1.size (aH #[ι aF kind,ι I links,ι F size,ι I d0,ι I d1,ι I d2,ι I d3,ι I ind] 114));clear b1
   go_wp2
   go_ret;exact⟨rfl,B1.o⟩
theorem Pq (n:Nat) (s:Nat) (x:aP) (w:World) (hs:Small E) (h:IS w E D Z) (h1:1<=n) (hn:n<=E.i) (hx:dZ E D n x) (ho:x.Ok) (hk:x.kind≠0) (hs32:s<4294967296) (hb:2304<s\/(x.kind=2/\s%64≠0)):
 Calls prog 197 #[E.M,ι F n,ι F s] w λe w'=>e=aG (ι J 2)/\Below w.heap.size w w':=by
 have hsz:=Ok.tJ ho;have TH:=jw n x w hs h h1 hn hx ho;rw[if_neg hk]at TH;have TH:=U TH;obtain⟨kind,links,size,d0,d1,d2,d3,ind⟩:=x;simp only at hb hsz hk;clear h hx ho;unfold aP.val at*
 by_cases c1:2304<s
 ·have q1:(2304:Int)<s:=by omega
  clear hb
  go_enter func197,ntmps197
  go_wp2_with fail;refine TH.o.mono ?_;rintro e w1 ⟨rfl,b1⟩;have B1:=U (b1.alloc b1.size (aH #[ι aF kind,ι I links,ι F size,ι I d0,ι I d1,ι I d2,ι I d3,ι I ind] 114));clear b1
  go_wp2
  go_ret;exact⟨rfl,B1.o⟩
 ·obtain⟨rfl,hm⟩:kind=2/\s%64≠0:=by omega
  have q1:¬(2304:Int)<s:=by omega
  have q2:((s:Int)%64 !=0)=true:=by simp;omega
  have q3:((s:Int).tmod 64 !=0)=true:=by
   rw[Int.tmod_eq_emod_of_nonneg (by omega)];exact q2
  clear hb
  go_enter func197,ntmps197
  go_wp2_with fail;refine TH.o.mono ?_;rintro e w1 ⟨rfl,b1⟩;have B1:=U (b1.alloc b1.size (aH #[ι aF 2,ι I links,ι F size,ι I d0,ι I d1,ι I d2,ι I d3,ι I ind] 114));clear b1
  go_wp2
  go_ret;exact⟨rfl,B1.o⟩
end
section
variable {E:Im} {D:aZ} {Z:Nat->Prop} {Q:Prop}
theorem LQ (n:Nat) (w:World) (hs:Small E) (h:IS w E D Z) (hn:n<4294967296) (hb:n<1\/E.i<n):
 Calls prog 94 #[E.M,ι F n] w λe w'=>e=aG (τ #[σ ⟨#[]⟩,ι J 2])/\Below w.heap.size w w':=by
 have TH:=U (yh n w hs h hn hb);clear h hb
 go_enter func94,ntmps94
 go_wp2_with fail;refine TH.o.mono ?_;rintro e w1 ⟨rfl,b1⟩;have B1:=U (b1.alloc b1.size (aH #[ι aF 0,ι I 0,ι F 0,ι I 0,ι I 0,ι I 0,ι I 0,ι I 0] 114));clear b1
 go_wp2
 go_ret2;exact⟨rfl,B1.o⟩
theorem Fx (n:Nat) (x:aP) (w:World) (hs:Small E) (h:IS w E D Z) (h1:1<=n) (hn:n<=E.i) (hx:dZ E D n x) (ho:x.Ok) (hk:x.kind=0):
 Calls prog 94 #[E.M,ι F n] w λe w'=>e=aG (τ #[σ ⟨#[]⟩,ι J 3])/\Below w.heap.size w w':=by
 have TH:=jw n x w hs h h1 hn hx ho;rw[if_pos hk]at TH;have TH:=U TH;obtain⟨kind,links,size,d0,d1,d2,d3,ind⟩:=x;clear h hx ho hk;unfold aP.val at*
 go_enter func94,ntmps94
 go_wp2_with fail;refine TH.o.mono ?_;rintro e w1 ⟨rfl,b1⟩;have B1:=U (b1.alloc b1.size (aH #[ι aF kind,ι I links,ι F size,ι I d0,ι I d1,ι I d2,ι I d3,ι I ind] 114));clear b1
 go_wp2
 go_ret2;exact⟨rfl,B1.o⟩
theorem Fy (n:Nat) (x:aP) (w:World) (hs:Small E) (h:IS w E D Z) (h1:1<=n) (hn:n<=E.i) (hx:dZ E D n x) (ho:x.Ok) (hk:x.kind≠0) (h2:x.kind≠2):
 Calls prog 94 #[E.M,ι F n] w λe w'=>e=aG (τ #[σ ⟨#[]⟩,ι J 180])/\Below w.heap.size w w':=by
 have TH:=jw n x w hs h h1 hn hx ho;rw[if_neg hk]at TH;have TH:=U TH;obtain⟨kind,links,size,d0,d1,d2,d3,ind⟩:=x;have t1:((kind:Int)!=2)=true:=by simp at h2⊢;omega
 clear h hx ho hk h2;unfold aP.val at*
 go_enter func94,ntmps94
 go_wp2_with fail;refine TH.o.mono ?_;rintro e w1 ⟨rfl,b1⟩;have B1:=U (b1.alloc b1.size (aH #[ι aF kind,ι I links,ι F size,ι I d0,ι I d1,ι I d2,ι I d3,ι I ind] 114));clear b1
 go_wp2
 go_ret2;exact⟨rfl,B1.o⟩
theorem Cg (n c:Nat) (nm:ByteArray) (ino:Nat) (w:World) (hc:c≠0) (h:Calls prog 94 #[E.M,ι F n] w λe w'=>e=aG (τ #[σ ⟨#[]⟩,ι J c])/\Below w.heap.size w w'):
 Calls prog 179 #[E.M,ι F n,σ nm,ι F ino] w λe w'=>e=aG (ι J c)/\Below w.heap.size w w':=by
 have TX:=U h;have t1:((c:Int)!=0)=true:=by simp;omega
 clear h
 go_enter func179,ntmps179
 go_wp2_with fail;refine TX.o.mono ?_;rintro e w1 ⟨rfl,b1⟩;have B1:=U b1;clear b1
 go_wp2
 go_ret;exact⟨rfl,B1.o⟩
theorem Ci (n c:Nat) (nm:ByteArray) (w:World) (hc:c≠0) (h:Calls prog 94 #[E.M,ι F n] w λe w'=>e=aG (τ #[σ ⟨#[]⟩,ι J c])/\Below w.heap.size w w'):
 Calls prog 261 #[E.M,ι F n,σ nm] w λe w'=>e=aG (τ #[ι F 0,ι J c])/\Below w.heap.size w w':=by
 have TX:=U h;have t1:((c:Int)!=0)=true:=by simp;omega
 clear h
 go_enter func261,ntmps261
 go_wp2_with fail;refine TX.o.mono ?_;rintro e w1 ⟨rfl,b1⟩;have B1:=U b1;clear b1
 go_wp2
 go_ret2;exact⟨rfl,B1.o⟩
end
theorem dB (b:ByteArray):b.toList=L b:=ByteArray.toList_eq b
def chunk (s:ByteArray) (k:Nat):ByteArray:=s.extract (k*64) ((k+1)*64)
theorem Cj (M n:Nat) (a b:ByteArray) (w:World) (P:Nat->World->Prop) (aL:World->Prop) (ha:a.size<=100000) (hb:b.size<=100000)
 (hl:∀k W W',P k W->Below W.heap.size W W'->P k W')
 (h0:a.size<b.size->Calls prog 197 #[M,ι F n,ι F b.size] w (Out (ι J 0) (ι J 4) (P 0) aL)) (h1:¬a.size<b.size->P 0 w)
 (hS:∀k,k<b.size/64->∀W,P k W->(((k+1)*64<=a.size/\chunk a k=chunk b k)->P (k+1) W)/\(¬((k+1)*64<=a.size/\chunk a k=chunk b k)->Calls prog 201 #[M,ι F n,ι J k,σ (chunk b k)] W (Out (ι J 0) (ι J 4) (P (k+1)) aL))):
 Calls prog 260 #[M,ι F n,σ a,σ b] w (Out (ι J 0) (ι J 4) (P (b.size/64)) aL):=by
 have HL:=U hl;have HS:=U hS;have q0:(b.size:Int)<=4294967295:=by omega
 have q1:(0:Int)<=b.size:=by omega
 clear hl hS
 go_enter func260,ntmps260
 go_upto_if 18 with fail
 go_cut [9]from 14 (λ_ wx=>P 0 wx)
 case first=>
  by_cases hab:a.size<b.size
  ·have R:=U (h0 hab)
   have c1:(a.size:Int)<b.size:=by omega
   clear h0 h1;go_wp2_with fail;refine R.o.mono ?_;rintro e w1 (⟨rfl,g⟩|⟨rfl,g⟩)
   ·have aM:=U g
    clear g
    go_wp2
    go_meet
    case rel=>exact aM.o
   ·have aM:=U g
    clear g
    go_wp2
    go_ret;exact .inr ⟨rfl,aM.o⟩
  ·have R:=U (h1 hab)
   have c1:¬(a.size:Int)<b.size:=by omega
   clear h0 h1;go_wp2_with fail
   go_meet
   case rel=>exact R.o
 case rest=>
  have aM:=U hcut;clear hcut h0 h1;go_wp2_with fail
  go_loopw [31] (λc wr=>∃k:Nat,k<=b.size/64/\c=ι J k/\P k wr) (λc _=>b.size/64-(intOf c).toNat)
  case atStart=>exact⟨0,aB _,rfl,aM.o⟩
  case round=>
   obtain⟨k,hk,rfl,hP⟩:=hrel;have HP:=U hP;clear hP
   by_cases hlt:k<b.size/64
   ·have r0:(k:Int)<(b.size:Int)/64:=by omega
    have n0:(0:Int)<=(k:Int)*64:=by omega
    have n1:(k:Int)*64<=((k:Int)+1)*64:=by omega
    have n2:((k:Int)+1)*64<=(b.size:Int):=by omega
    have n3:(0:Int)<=((k:Int)+1)*64:=by omega
    have n4:(k:Int)*64<=(b.size:Int):=by omega
    have m1:((k:Int)*64).toNat=k*64:=by omega
    have m2:(((k:Int)+1)*64).toNat=(k+1)*64:=by omega
    have hst:=HS.o k hlt wr HP.o
    by_cases hT:(k+1)*64<=a.size
    ·have n5:((k:Int)+1)*64<=(a.size:Int):=by omega
     have n6:(k:Int)*64<=(a.size:Int):=by omega
     by_cases hE:chunk a k=chunk b k
     ·have PN:=U (hst.1 ⟨hT,hE⟩)
      have e1:a.extract (k*64) ((k+1)*64)=b.extract (k*64) ((k+1)*64):=hE;clear hst hE;go_wp2_with fail;go_region;go_wp2_with fail;exact⟨⟨k+1,by omega,rfl,HL.o _ _ _ PN.o (aj _ _).drew⟩,by simp[intOf];omega⟩
     ·have SP:=U ((HS.o k hlt wr.drew (HL.o _ _ _ HP.o (aj _ _).drew)).2 (λh=>hE h.2))
      have e1:¬a.extract (k*64) ((k+1)*64)=b.extract (k*64) ((k+1)*64):=hE
      have e2:((a.extract (k*64) ((k+1)*64)).toList==(b.extract (k*64) ((k+1)*64)).toList)=false:=by
       rw[dB,dB];have e3:L (a.extract (k*64) ((k+1)*64))≠L (b.extract (k*64) ((k+1)*64)):=λh=>e1 (iL h)
       simpa using e3
      clear hst hE;unfold chunk at SP;clear e1;go_wp2_with fail;go_region;go_wp2_with fail;refine SP.o.mono ?_;rintro e w2 (⟨rfl,g⟩|⟨rfl,g⟩)
      ·have G2:=U g
       clear g;go_wp2_with fail;exact⟨⟨k+1,by omega,rfl,G2.o⟩,by simp[intOf];omega⟩
      ·have G2:=U g
       clear g
       go_wp2
       go_ret;exact .inr ⟨rfl,G2.o⟩
    ·have SP:=U ((HS.o k hlt wr.drew (HL.o _ _ _ HP.o (aj _ _).drew)).2 (λh=>hT h.1))
     have n5:¬((k:Int)+1)*64<=(a.size:Int):=by omega
     have n6:decide (((k:Int)+1)*64<=(a.size:Int))=false:=decide_eq_false n5;clear n5 hst hT;unfold chunk at SP;go_wp2_with fail;go_region;go_wp2_with fail;refine SP.o.mono ?_;rintro e w2 (⟨rfl,g⟩|⟨rfl,g⟩)
     ·have G2:=U g
      clear g;go_wp2_with fail;exact⟨⟨k+1,by omega,rfl,G2.o⟩,by simp[intOf];omega⟩
     ·have G2:=U g
      clear g
      go_wp2
      go_ret;exact .inr ⟨rfl,G2.o⟩
   ·obtain rfl:k=b.size/64:=by omega
    go_wp2
    go_ret;exact .inl ⟨rfl,HP.o⟩
