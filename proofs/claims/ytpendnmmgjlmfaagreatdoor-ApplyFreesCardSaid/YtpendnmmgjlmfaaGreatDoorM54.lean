/- Lemmas. -/
import Derived.Test.YtpendnmmgjlmfaaGreatDoorB0
import Derived.Laws.BitsAllLaws
import Derived.WalkKit
import Derived.Test.YtpendnmmgjlmfaaGreatDoorProg
import Derived.WalkSpells
import Derived.WalkLawsBesides
import Derived.Lib.Hide
import Derived.StillTailTactics
import Derived.Laws.IdiomStrings
import Derived.RangeFuncNested
import Derived.RangeFuncBound
import Derived.RangeFuncCalls
import Derived.RangeFuncLeaves
import Derived.Shelf.Abstract
import Derived.Shelf.RegionOpen
import Derived.OwnWalkIn
import Derived.TacticsInMore
import Derived.LoopNIn
import Derived.LoopIn
import Derived.RegionTactic
set_option linter.unusedVariables false
set_option linter.unusedSimpArgs false
namespace Go.Proofs.YtpendnmmgjlmfaaGreatDoor
open Go.Proofs.Tryz
open IntKind renaming i64→J,u8→aF
open Value renaming pointer→G,int->ι,string->σ,bool->ν,tuple->τ,slice->θ
open Ending renaming returned→aG
open Obj renaming cells→aH
set_option maxRecDepth 100000
set_option maxHeartbeats 2000000
section
theorem kK (s:ByteArray):s.data.toList.length=s.size:=rfl
def mZ (s:ByteArray) (j:Nat):UInt8:=s.data.toList.getD j 0
def dn (s:ByteArray) (k:Nat):Bool:=(mZ s (k/8)).toNat.testBit (k%8)
def zw (b j:Nat) (on:Bool):Nat:=if on then b|||2^j else b&&& (255-2^j)
def CQ (b:UInt8) (j:Nat) (on:Bool):UInt8:=UInt8.ofNat (zw b.toNat j on)
def gV (s:ByteArray) (k:Nat) (on:Bool):ByteArray:=⟨(s.data.toList.set (k/8) (CQ (mZ s (k/8)) (k%8) on)).toArray⟩
def Gd (b:Int) (k:Nat) (on:Bool):Int:=if on then bits .or aF b (2^(k%8)%256)else bits .andNot aF b (2^(k%8)%256)
theorem pow8:∀j:Nat,j<8->2^j<256/\0<2^j:=by decide
theorem MG (b j:Nat) (on:Bool) (hb:b<256) (hj:j<8):zw b j on<256:=by
 have hp:=(pow8 j hj).1;unfold zw;cases on
 ·exact Nat.lt_of_le_of_lt Nat.and_le_left hb
 ·exact Nat.or_lt_two_pow (n:=8) hb hp
theorem Hx:∀j:Nat,j<8->∀i:Nat,i<8->(255-2^j).testBit i=!decide (i=j):=by decide
theorem VI (b j i:Nat) (on:Bool) (hj:j<8) (hi:i<8):(zw b j on).testBit i=if i=j then on else b.testBit i:=by
 unfold zw;cases on
 ·have h:=Hx j hj i hi
  simp only[Bool.false_eq_true,if_false,Nat.testBit_and,h]
  by_cases e:i=j<;>simp[e]
 ·simp only[if_true,Nat.testBit_or,Nat.testBit_two_pow]
  by_cases e:i=j
  ·simp[e]
  ·have:¬j=i:=λh=>e h.symm
   simp[e,this]
theorem eE (b:UInt8) (k:Nat) (on:Bool):Gd (b.toNat:Int) k on=((CQ b (k%8) on).toNat:Int):=by
 have hj:k%8<8:=Nat.mod_lt _ (by decide);have hb:b.toNat<256:=b.toNat_lt;have hp:=(pow8 (k%8) hj).1
 have e1:((2:Int)^(k%8)%256)=((2^(k%8):Nat):Int):=by
  have:((2:Int)^(k%8))=((2^(k%8):Nat):Int):=by norm_cast
  rw[this]
  generalize (2:Nat)^(k%8)=p at hp⊢
  omega
 have e2:(CQ b (k%8) on).toNat=zw b.toNat (k%8) on:=by
  unfold CQ;rw[UInt8.toNat_ofNat'];exact Nat.mod_eq_of_lt (MG _ _ _ hb hj)
 rw[e2];unfold Gd zw;rw[e1];cases on
 ·simp only[Bool.false_eq_true,if_false]
  exact u8_andNot_nat _ _ hb hp
 ·simp only[if_true]
  exact u8_or_nat _ _ hb hp
theorem jG (s:ByteArray) (k:Nat) (on:Bool):(gV s k on).size=s.size:=by
 rw[<-kK,<-kK]
 simp[gV]
theorem zx (s:ByteArray) (k j:Nat) (on:Bool) (h:k<8*s.size):
 mZ (gV s k on) j=if j=k/8 then CQ (mZ s (k/8)) (k%8) on else mZ s j:=by
 have hk:k/8<s.data.toList.length:=by
  have:=kK s;omega
 unfold mZ gV
 by_cases e:j=k/8
 ·subst e
  simp only[List.getD_eq_getElem?_getD,if_true];rw[List.getElem?_set_self hk]
  rfl
 ·simp only[List.getD_eq_getElem?_getD,if_neg e]
  rw[List.getElem?_set_ne (λh=>e h.symm)]
theorem MH (b:UInt8) (j:Nat) (on:Bool) (hj:j<8):(CQ b j on).toNat=zw b.toNat j on:=by
 unfold CQ;rw[UInt8.toNat_ofNat'];exact Nat.mod_eq_of_lt (MG _ _ _ b.toNat_lt hj)
theorem fE (s:ByteArray) (k i:Nat) (on:Bool) (h:k<8*s.size):dn (gV s k on) i=if i=k then on else dn s i:=by
 have hj:k%8<8:=Nat.mod_lt _ (by decide);have hi:i%8<8:=Nat.mod_lt _ (by decide);unfold dn;rw[zx s k _ on h]
 by_cases e:i/8=k/8
 ·rw[if_pos e,MH _ _ _ hj,VI _ _ _ _ hj hi,e]
  by_cases e2:i%8=k%8
  ·have:i=k:=by omega
   simp[this]
  ·have:¬i=k:=λh=>e2 (by rw[h])
   simp[e2,this]
 ·have:¬i=k:=λh=>e (by rw[h])
  simp[e,this]
theorem qM (s:ByteArray) (j:Nat) (h:j<s.size):mZ s j=s[j]:=by
 have l1:=kK s;unfold mZ;rw[List.getD_eq_getElem?_getD,List.getElem?_eq_getElem (by omega)]
 rfl
theorem Sw (b:UInt8) (j:Nat):(bits BinOp.and IntKind.u8 ((b.toNat:Int)/2^j) 1==1)=b.toNat.testBit j:=by
 have hb:b.toNat<256:=b.toNat_lt
 have e1:((b.toNat:Int)/2^j)=((b.toNat/2^j:Nat):Int):=by
  have:((2:Int)^j)=((2^j:Nat):Int):=by norm_cast
  rw[this];norm_cast
 have hlt:b.toNat/2^j<256:=Nat.lt_of_le_of_lt (Nat.div_le_self _ _) hb;rw[e1,show(1:Int)=((1:Nat):Int)from rfl,u8_and_nat _ _ hlt (by decide),nat_mask1,Nat.testBit_eq_decide_div_mod_eq];rw[Bool.eq_iff_iff];simp only[beq_iff_eq,decide_eq_true_eq];omega
open Go.RowKit
theorem Qm {P:Program} (w:World) (src dst e:TypeId) (s:ByteArray) (hs:P.underlying src=some .string) (hd:P.underlying dst=some (.slice e)) (he:P.underlying e=some (.int aF)):
 ∃(W:World) (cap:Nat),(convert src dst (σ s)).run P w=.ok (θ (some w.heap.size) s.size cap) W/\Below w.heap.size w W/\W.heap.size=w.heap.size+1/\
  (∀j (h:j<s.size),W.cell? ⟨w.heap.size,j,none⟩=some (ι aF s[j].toNat))/\(∀j,j<s.size->W.frozen? ⟨w.heap.size,j,none⟩=false):=by
 have hl:=kK s
 have hlt:∀(C:Nat) j,j<s.size->j<(bytesRow s C).size:=by
  intro C j h
  simp[bytesRow];omega
 refine⟨_,_,run_bytes_of_string w src dst e s hs hd he,?_,?_,?_,?_⟩
 ·exact(aj _ w).drew.alloc (ah _) _
 ·simp
 ·intro j h
  have h1:=World.cell?_alloc_mark w.drew (bytesRow s (grownCap w s.size 0 e)) e ((bytesRow s (grownCap w s.size 0 e)).size,(bytesRow s (grownCap w s.size 0 e)).size+1) j;rw[show w.drew.heap.size=w.heap.size from rfl]at h1;rw[h1]
  simp[bytesRow,Array.getElem?_append,h]
  rfl
 ·intro j h
  have h1:=hlt (grownCap w s.size 0 e) j h
  simp[World.frozen?,World.alloc,World.drew, -World.alloc_eq, -World.drew_eq]
  omega
theorem Sy (s:ByteArray) (i:Int) (w:World) (hs:s.size<=1099511627776) (h0:0<=i) (h1:i<8*s.size):
 Calls prog 147 #[σ s,ι J i] w λe w'=>e=aG (ν true)/\w=w':=by
 have h0':decide (0<=i)=true:=by simpa using h0
 go_enter func147,ntmps147
 go_wp2
 go_ret;exact⟨rfl,rfl⟩
theorem CD (s:ByteArray) (k:Nat) (w:World) (hs:s.size<=1099511627776) (h1:k<8*s.size):
 Calls prog 89 #[σ s,ι J k] w λe w'=>e=aG (τ #[ν (dn s k),ι J 0])/\w=w':=by
 have hlt:k/8<s.size:=by omega
 have HF:=U (show(bits BinOp.and IntKind.u8 ((s[k/8].toNat:Int)/2^(k%8)) 1==1)=dn s k by rw[Sw];unfold dn;rw[qM s _ hlt])
 go_enter func89,ntmps89
 go_wp2_with (go_at_call 147;refine(Sy _ _ _ hs (by omega) (by omega)).mono ?_;rintro e w' ⟨rfl,rfl⟩)
 go_ret2;refine⟨?_,rfl⟩;rw[<-HF.o]
 rfl
theorem eI (b:Int) (k:Nat) (on:Bool) (p q:Addr) (w:World) (hp:w.cell? p=some (ι J k)) (hq:w.cell? q=some (ν on)):
 Calls prog 213 #[ι aF b,G (some p),G (some q)] w λe w'=>e=aG (ι aF (Gd b k on))/\w'=w:=by
 cases on
 iterate 2
  ·go_enter func213,ntmps213
   go_wp2
   go_ret;exact⟨rfl,rfl⟩
theorem eJ (W:World) (B cap:Nat) (s:ByteArray) (k:Nat) (on:Bool) (h1:k<8*s.size)
 (hcell:∀j (h:j<s.size),W.cell? ⟨B,j,none⟩=some (ι aF s[j].toNat)) (hlt:k/8<s.size):
 (convert 122 9 (θ (some B) s.size cap)).run prog (W.setCell ⟨B,k/8,none⟩ (ι aF (Gd s[k/8].toNat k on))).drew=
  .ok (σ (gV s k on)) (W.setCell ⟨B,k/8,none⟩ (ι aF (Gd s[k/8].toNat k on))).drew:=by
 have hz:(gV s k on).data.toList.length=s.size:=by rw[kK,jG]
 have h:=run_convert_bytes_back (P:=prog) (W.setCell ⟨B,k/8,none⟩ (ι aF (Gd s[k/8].toNat k on))).drew 122 9 5 ⟨B,0,none⟩ cap (gV s k on).data.toList underlying122 underlying5 underlying9 ?_
 ·rw[hz]at h
  rw[h]
 ·intro j hj
  have hj':j<s.size:=by omega
  have e1:((⟨B,0,none⟩:Addr).add j)=⟨B,j,none⟩:=by unfold Addr.add;simp;omega
  have e2:(gV s k on).data.toList[j]=mZ (gV s k on) j:=by
   unfold mZ;rw[List.getD_eq_getElem?_getD,List.getElem?_eq_getElem hj];rfl
  rw[e1,e2,zx s k j on h1];show(W.setCell ⟨B,k/8,none⟩ _).cell? _=_
  by_cases e:j=k/8
  ·subst e
   rw[if_pos rfl,World.cell?_setCell_same' _ _ _ (by rw[hcell _ hlt];rfl),qM s _ hlt,eE]
  ·have hne:(⟨B,k/8,none⟩:Addr)≠⟨B,j,none⟩:=λh=>e (by injection h with _ h2 _;exact h2.symm)
   rw[if_neg e,World.cell?_setCell_other (h:=hne),hcell j hj',qM s _ hj']
theorem QM (s:ByteArray) (k:Nat) (on:Bool) (w:World) (hs:s.size<=1099511627776) (h1:k<8*s.size):
 Calls prog 122 #[σ s,ι J k,ν on] w λe w'=>e=aG (τ #[σ (gV s k on),ι J 0])/\Below w.heap.size w w':=by
 obtain⟨W,cap,hconv,hB,hz,hcell,hfr⟩:=Qm (P:=prog) ((w.alloc (aH #[ι J k] 3)).alloc (aH #[ν on] 4)) 9 122 5 s underlying9 underlying122 underlying5;have hlt:k/8<s.size:=by omega
 have hp:W.cell? w.heap.size=some (ι J k):=by
  rw[hB.cell (p:=⟨w.heap.size,0,none⟩) (by simp;omega)];simp
 have hq:W.cell? ⟨w.heap.size+1,0,none⟩=some (ν on):=by
  rw[hB.cell (p:=⟨w.heap.size+1,0,none⟩) (by simp)];simp
 have hc:=hcell (k/8) hlt;have hf:=hfr (k/8) hlt;have hback:=eJ W _ cap s k on h1 hcell hlt;have HB:=U (show Below w.heap.size w W from(((aj _ w).alloc (ah _) _).alloc (by simp) _).trans (hB.mono (by simp;omega)));simp only[aC]at hc hf hconv hback;clear hcell hfr hz hB;have d1:0<=(k:Int)/8:=by omega
 have d2:(k:Int)/8<s.size:=by omega
 have d3:((k:Int)/8).toNat=k/8:=by omega
 have d0:IntKind.i64.wrap ((k:Int)/8)=(k:Int)/8:=IntWalk.i64_in _ (by omega)
 go_enter func122,ntmps122
 go_wp2_with (go_at_call 147;refine(Sy _ _ _ hs (by omega) (by omega)).mono ?_;rintro e w' ⟨rfl,rfl⟩)
 refine wp_region_still_tail 11 (by kernel_rfl) (by kernel_rfl) ?_;simp only[List.take_succ_cons,List.take_zero,List.drop_succ_cons,List.drop_zero]
 iterate 9 still_step
 still_call (eI _ k on _ _ _ (by simpa using hp) (by simpa using hq))
 still_step
 refine wpStill_nil ?_
 go_wp2
 go_ret2;exact⟨rfl,(HB.o.setCell (by simp;omega) _).drew⟩
open Go.Shelf
section
attribute [local go_sem] Oper.semAt_some
def upto {α:Type} (f:Nat->α) (k:Nat):List α:=(List.range k).map f
theorem tK {α:Type} (f:Nat->α) (k:Nat):upto f (k+1)=upto f k++[f k]:=by simp[upto,List.range_succ]
theorem nN {α:Type} (f:Nat->α) (k:Nat):(upto f k).length=k:=by simp[upto]
def eP (B:Nat) (t:TypeId) (W W':World):Prop:=∀v,Boxed W B t v->Boxed W' B t v
theorem eP.refl (B:Nat) (t:TypeId) (W:World):eP B t W W:=λ_ h=>h
theorem kD {B:Nat} {t:TypeId} {X Y Z:World} (h:eP B t X Y) (k:eP B t Y Z):eP B t X Z:=λv hv=>k v (h v hv)
theorem kE {B:Nat} {t:TypeId} {w:World} (hB:B<w.heap.size) (W:World) (l:Nat) (o o':Obj) (hl:w.heap.size<=l) (_:W.heap[l]? =some o) (_:o.isCells=false) (_:o.isWalk=false):eP B t W (W.putObj l o'):=
 λ_ hv=>hv.kept (grownBy_putObj' W l o') (λe=>by cases e;omega)
def fq (s:ByteArray) (k:Nat):Nat×Bool:=(k,dn s k)
theorem HU (aL:Fence) (n:Nat) (h8:aL.fn 146) (hro:aL.round=none) (hn:1<=n) (l Bs:Nat) (s:ByteArray) (hs:s.size<=1099511627776) (aK Jx:List (Nat×Bool)->World->Prop)
 (hY:∀pre x W,aK pre W->pre.length<8*s.size->YieldAt aL (n-1) prog l #[ι J (x.1:Int),ν x.2] W λe W'=>
  (e=aG (ν true)/\aK (pre++[x]) W'/\eP Bs 9 W W')\/(e=aG (ν false)/\Jx (pre++[x]) W'))
 (W:World) (zM:Boxed W Bs 9 (σ s)) (h0:aK [] W):
 CallsIn aL n prog 146 #[.func (.yield l) #[] #[],Bs] W λe W'=>(∃v,e=aG v)/\
  ((∃ys,ys=upto (fq s) (8*s.size)/\aK ys W')\/(∃pre,(∃k,k<=8*s.size/\pre=upto (fq s) k)/\Jx pre W')):=by
 have hc0:=zM.cell;refine callsIn_of_wp func146 rfl h8 ?_ hro;simp only[ntmps146,List.size_toArray,List.length_cons,List.length_nil,Nat.reduceAdd,Nat.reduceSub,Array.replicate_succ,Array.replicate_zero,List.push_toArray,List.append_toArray,List.nil_append,List.cons_append]
 gi_wp2
 gi_loopw [7] (λi wr=>∃k:Nat,k<=8*s.size/\i=ι J k/\aK (upto (fq s) k) wr/\Boxed wr Bs 9 (σ s))
  (λi _=>8*s.size-(RowKit.intOf i).toNat)
 case atStart=>exact⟨0,aB _,rfl,h0,zM⟩
 case round=>
  obtain⟨k,hk,rfl,hJs,hnx⟩:=hrel;have hcx:=hnx.cell
  by_cases hlt:k<8*s.size
  ·have hlt2:k/8<s.size:=by omega
   have HF:(bits BinOp.and IntKind.u8 ((s[k/8].toNat:Int)/2^(k%8)) 1==1)=dn s k:=by rw[Sw];unfold dn;rw[qM s _ hlt2]
   obtain⟨fn,tmps,assign,body,hy,hR⟩:=hY _ (k,dn s k) wr hJs (by rw[nN];exact hlt)
   dsimp only at hy
   rw[<-HF]at hy;clear HF zM hc0
   gi_wp2
   refine hR.mono ?_;rintro e W3 (⟨rfl,hJ3,hk3⟩|⟨rfl,hJx3⟩)
   ·gi_wp2
    go_roundw
    case rel=>exact⟨k+1,by omega,by simp,by rw[tK];exact hJ3,hk3 _ hnx⟩
    case measure=>simp[RowKit.intOf];omega
   ·gi_wp2
    refine bodyPost_ret (results_none rfl _ _ _) rfl ?_;exact⟨⟨_,rfl⟩,.inr ⟨_,⟨k+1,by omega,(tK _ _).symm⟩,hJx3⟩⟩
  ·obtain rfl:k=8*s.size:=by omega
   gi_wp2
   go_end0;exact⟨⟨_,rfl⟩,.inl ⟨_,rfl,hJs⟩⟩
theorem all_in (aL:Fence) (n:Nat) (h6:aL.fn 88) (hro:aL.round=none) (s:ByteArray) (w:World):
 CallsIn aL n prog 88 #[σ s] w λe w'=>e=aG (.func (.func 146) #[] #[w.heap.size])/\w.alloc (aH #[σ s] 9)=w':=by
 refine callsIn_of_wp func88 rfl h6 ?_ hro;simp only[ntmps88,List.size_toArray,List.length_cons,List.length_nil,Nat.reduceAdd,Nat.reduceSub,Array.replicate_succ,Array.replicate_zero,List.push_toArray,List.append_toArray,List.nil_append,List.cons_append]
 gi_wp2
 go_ret;exact⟨rfl,rfl⟩
theorem all_stops (aL:Fence) (n:Nat) (h8:aL.fn 146) (hro:aL.round=none) (hn:1<=n) (Bs:Nat) (s:ByteArray) (hs:s.size<=1099511627776) (w:World) (zM:Boxed w Bs 9 (σ s)):
 SeqStopsK aL n prog 146 #[Bs] (λx:Nat×Bool=>#[Value.int J (x.1:Int),Value.bool x.2]) (eP Bs 9) (λys=>ys=upto (fq s) (8*s.size))
  (λpre=>∃k,k<=8*s.size/\pre=upto (fq s) k) (8*s.size) w:=λl aK Jx W hW _ _ hY h0=>
 HU aL n h8 hro hn l Bs s hs aK Jx hY W ((hW.block Bs zM.lt).trans zM) h0
def II (n:Int) (l:List (Nat×Bool)):Nat:=(l.filter λx=>x.2&&decide ((x.1:Int)<n)).length
theorem VJ (n:Int) (l:List (Nat×Bool)) (x:Nat×Bool):II n (l++[x])=II n l+if x.2&&decide ((x.1:Int)<n)then 1 else 0:=by
 unfold II;rw[List.filter_append]
 by_cases h:(x.2&&decide ((x.1:Int)<n))<;>simp[h]
theorem RQ (n:Int) (l:List (Nat×Bool)):II n l<=l.length:=List.length_filter_le _ _
def countB (s:ByteArray) (n:Int):Nat:=II n (upto (fq s) (8*s.size))
theorem eK (aL:Fence) (n:Nat) (h58:aL.fn 45) (h77:aL.fn 88) (h89:aL.fn 146) (hro:aL.round=none) (hn:3<=n) (s:ByteArray) (m:Int) (w:World) (hs:s.size<=1099511627776):
 CallsIn aL n prog 45 #[σ s,ι J m] w λe w'=>e=aG (ι J (countB s m))/\Below w.heap.size w w':=by
 have h1:1<=n:=by omega
 refine callsIn_of_wp_marks func45 rfl h58 ?_ hro;simp only[ntmps45,List.size_toArray,List.length_cons,List.length_nil,Nat.reduceAdd,Nat.reduceSub,Array.replicate_succ,Array.replicate_zero,List.push_toArray,List.append_toArray,List.nil_append,List.cons_append]
 gi_wp2_with (gi_at_call 88;refine(all_in aL (n-1) h77 hro _ _).mono ?_;rintro e w' ⟨rfl,rfl⟩)
 have bM:=Boxed.new w 3 (ι J m);have bS:=Boxed.new (w.alloc (aH #[ι J m] 3)) 3 (ι J 0);have bT:=Boxed.new ((w.alloc (aH #[ι J m] 3)).alloc (aH #[ι J 0] 3)) 9 (σ s);rw[aC]at bS bT;rw[aC]at bT;have hB0:Below w.heap.size w (((w.alloc (aH #[ι J m] 3)).alloc (aH #[ι J 0] 3)).alloc (aH #[σ s] 9)):=(((aj _ w).alloc (ah _) _).alloc (by simp) _).alloc (by simp;omega) _
 refine wpIn_rangeFunc_ownG hro h1 (gf:=146) (lb:=#[G (some ⟨w.heap.size+1+1,0,none⟩)]) rfl h89 (enters_of func146 (by kernel_rfl) rfl)
  (all_stops aL (n-1) h89 hro (by omega) (w.heap.size+1+1) s hs _ bT) kD (kE (by simp)) (aj _ _) (λ_=>rfl)
  (λpre W=>(Boxed W w.heap.size 3 (ι J m)/\Boxed W (w.heap.size+1) 3 (ι J (II m pre)))/\Below w.heap.size w W)
  (λ_ _ _=>False)
  (OwnFrom.and (OwnFrom.and (Own.from (boxed_own _ _ _) _) (Own.from (boxed_own _ _ _) _)) (ownFrom_below (ah _) (by simp;omega)))
  (λ_ _ _ _ _ hs _ _=>hs)
  ⟨⟨(bM.alloc _).alloc _,bS.alloc _⟩,hB0⟩
  (λx=>{tmps:=#[σ s,ι J m,undef,G (some ⟨w.heap.size,0,none⟩),G (some ⟨w.heap.size+1,0,none⟩),ι J (x.1:Int),ν x.2,σ s,.func (.func 146) #[] #[G (some ⟨w.heap.size+1+1,0,none⟩)],ι J (x.1:Int),ν x.2,undef,undef,undef,undef,undef,undef,undef,undef,undef],defers:=[]}) ?assign ?body ?done ?stop
 case assign=>
  intro l x W K hK
  gi_wp2
  exact hK
 case body=>
  rintro l pre ⟨k,b⟩ W ⟨⟨hM,hS⟩,hB⟩ hlen;have cM:=hM.cell;have cS:=hS.cell;have fS:=hS.frozen;have hle:=RQ m pre;have hsn:=VJ m pre (k,b);cases b
  ·simp at hsn
   have HS:=U hsn;clear hsn
   gi_wp2
   exact⟨KeepsFrom.refl _ _,eP.refl _ _ _,⟨hM,by rw[HS.o];exact hS⟩,hB⟩
  ·by_cases hlt:(k:Int)<m
   ·simp[hlt]at hsn
    have HS:=U hsn;clear hsn
    gi_wp2
    have eS:((II m (pre++[(k,true)]):Nat):Int)=(II m pre:Int)+1:=by rw[HS.o];simp
    refine⟨(KeepsOthers.setCell _ _ _).from _,λv hv=>hv.other (by omega) _,⟨hM.other (by omega) _,?_⟩,hB.setCell (p:=⟨w.heap.size+1,0,none⟩) (by simp) _⟩;rw[eS];exact hS.set _
   ·have hlt':decide ((k:Int)<m)=false:=by simpa using hlt
    simp[hlt]at hsn
    have HS:=U hsn;clear hsn hlt
    gi_wp2
    exact⟨KeepsFrom.refl _ _,eP.refl _ _ _,⟨hM,by rw[HS.o];exact hS⟩,hB⟩
 case done=>
  rintro D ys W hD rfl ⟨⟨hM,hS⟩,hB⟩ hK
  replace hS:Boxed W (w.heap.size+1) 3 (ι J (countB s m)):=hS
  have cS:=hS.cell;have fS:=hS.frozen
  gi_wp2
  have hK':=(KeepsOthers.setCell W ⟨w.heap.size+1,0,none⟩ (ι J (countB s m))).same D _ hK rfl;refine⟨by simp,.inl ⟨_,_,rfl,run_takeDeferred hK',?_⟩⟩;have VW:=cell_kept (hS.set (ι J (countB s m))).cell (grownBy_putObj' _ D (.deferred none)) (λr e=>by cases e;exact⟨_,hK',rfl⟩);refine⟨ι J (countB s m),?_,rfl,(hB.setCell (p:=⟨w.heap.size+1,0,none⟩) (by simp) _).trans (belowK_b (w:=w) (ah _) _ D _ _ (by simp at hD;omega) hK' rfl rfl)⟩
  simp[results,f45,go_sem,VW]
 case stop=>
  rintro D c pre W _ _ h _;exact h.elim
theorem Vb (s:ByteArray) (m:Int) (w:World) (hs:s.size<=1099511627776):
 Calls prog 45 #[σ s,ι J m] w λe w'=>e=aG (ι J (countB s m))/\Below w.heap.size w w':=
 callsIn_wide.1 (eK Fence.wide 3 trivial trivial trivial rfl (ah _) s m w hs)
theorem qF {aL:Fence} (HW:Hid (aL=Fence.wide)) {n:Nat} {P:Program} {c:Code} {Q:Exit->Act->World->Prop} {a:Act} {w:World} (h:c.wpIn aL n P (Exit.noGoto Q) a w):(Code.scope c).wpIn aL n P Q a w:=by
 have e:=HW.o;subst e;exact wpIn_wide.2 (wp_scope_straight (wpIn_wide.1 h))
theorem vW {aL:Fence} (HW:Hid (aL=Fence.wide)) {n l:Nat} {P:Program} {Q:Exit->Act->World->Prop} {a:Act} {w:World} (h:Q .normal a w):(Code.label l).wpIn aL n P Q a w:=by
 have e:=HW.o;subst e;exact wpIn_wide.2 (wp_label h)
theorem lY {aL:Fence} (HW:Hid (aL=Fence.wide)) {n:Nat} {P:Program} {c:Code} {Q:Exit->Act->World->Prop} {a:Act} {w:World} (h:c.wp P Q a w):c.wpIn aL n P Q a w:=by
 have e:=HW.o;subst e;exact wpIn_wide.2 h
def oL (m:Int) (on:Bool) (x:Nat×Bool):Prop:=(x.1:Int)<m/\x.2≠on
def Ini (m:Int) (on:Bool) (pre:List (Nat×Bool)):Prop:=∀p∈pre,oL m on p
def Id (m:Int) (on:Bool) (c:Code) (pre:List (Nat×Bool)):Prop:=c=.exit 0/\∃Dk last,pre=Dk++[last]/\(∀p∈Dk,oL m on p)/\¬oL m on last
def gJ (m:Int) (on:Bool):List (Nat×Bool)->Nat×Bool
 |[]=>(0,false)
 |x::l=>if m<=x.1 then(0,false)else if x.2=on then(x.1,true)else gJ m on l
theorem jK (m:Int) (on:Bool):∀(Dk l:List (Nat×Bool)),(∀p∈Dk,oL m on p)->gJ m on (Dk++l)=gJ m on l
 |[],_,_=>rfl
 |x::Dk,l,h=>by
  have hx:=h x (by simp);unfold oL at hx;rw[List.cons_append,gJ,if_neg (by omega),if_neg hx.2];exact jK m on Dk l (λp hp=>h p (by simp[hp]))
theorem zm (m:Int) (on:Bool) (x:Nat×Bool) (l:List (Nat×Bool)) (h:¬oL m on x):gJ m on (x::l)=gJ m on [x]:=by
 unfold oL at h;rw[gJ,gJ]
 by_cases h1:m<=x.1
 ·rw[if_pos h1,if_pos h1]
 ·by_cases h2:x.2=on
  ·rw[if_neg h1,if_neg h1,if_pos h2,if_pos h2]
  ·exact(h ⟨by omega,h2⟩).elim
theorem Qn {α:Type} (f:Nat->α) {k m:Nat} (h:k<=m):∃r,upto f m=upto f k++r:=by
 refine⟨(upto f m).drop k,?_⟩
 have:upto f k=(upto f m).take k:=by
  unfold upto;rw[<-List.map_take,List.take_range,Nat.min_eq_left h]
 rw[this,List.take_append_drop]
theorem eM {m:Int} {on:Bool} {pre:List (Nat×Bool)} {k:Nat} {b:Bool} (h:Ini m on pre) (hk:(k:Int)<m) (hb:¬b=on):Ini m on (pre++[(k,b)]):=by
 intro p hp'
 rcases List.mem_append.1 hp' with h1|h1
 ·exact h p h1
 ·simp at h1
  subst h1;exact⟨hk,hb⟩
def eO (s:ByteArray) (m:Int) (on:Bool):Nat×Bool:=gJ m on (upto (fq s) (8*s.size))
theorem eN (aL:Fence) (n:Nat) (HW:Hid (aL=Fence.wide)) (h58:aL.fn 329) (h77:aL.fn 88) (h89:aL.fn 146) (hro:aL.round=none) (hn:3<=n) (s:ByteArray) (m:Int) (on:Bool) (w:World) (hs:s.size<=1099511627776):
 CallsIn aL n prog 329 #[σ s,ι J m,ν on] w λe w'=>e=aG (τ #[ι J (eO s m on).1,ν (eO s m on).2])/\Below w.heap.size w w':=by
 have h1:1<=n:=by omega
 refine callsIn_of_wp_marks func329 rfl h58 ?_ hro;simp only[ntmps329,List.size_toArray,List.length_cons,List.length_nil,Nat.reduceAdd,Nat.reduceSub,Array.replicate_succ,Array.replicate_zero,List.push_toArray,List.append_toArray,List.nil_append,List.cons_append]
 gi_wp2
 refine qF HW ?_
 gi_wp2
 refine vW HW ?_
 gi_wp2_with (gi_at_call 88;refine(all_in aL (n-1) h77 hro _ _).mono ?_;rintro e w' ⟨rfl,rfl⟩)
 have bM:=Boxed.new w 3 (ι J m);have bO:=Boxed.new (w.alloc (aH #[ι J m] 3)) 4 (ν on);have bI:=Boxed.new ((w.alloc (aH #[ι J m] 3)).alloc (aH #[ν on] 4)) 3 (ι J 0);have bJ:=Boxed.new (((w.alloc (aH #[ι J m] 3)).alloc (aH #[ν on] 4)).alloc (aH #[ι J 0] 3)) 4 (ν false);have bT:=Boxed.new ((((w.alloc (aH #[ι J m] 3)).alloc (aH #[ν on] 4)).alloc (aH #[ι J 0] 3)).alloc (aH #[ν false] 4)) 9 (σ s);have hB0:Below w.heap.size w (((((w.alloc (aH #[ι J m] 3)).alloc (aH #[ν on] 4)).alloc (aH #[ι J 0] 3)).alloc (aH #[ν false] 4)).alloc (aH #[σ s] 9)):=(((((aj _ w).alloc (ah _) _).alloc (by simp) _).alloc (by simp;omega) _).alloc (by simp;omega) _).alloc (by simp;omega) _;simp only[aC]at bO bI bJ bT
 refine wpIn_rangeFunc_ownG hro h1 (gf:=146) (lb:=#[G (some ⟨w.heap.size+1+1+1+1,0,none⟩)]) rfl h89 (enters_of func146 (by kernel_rfl) rfl)
  (all_stops aL (n-1) h89 hro (by omega) (w.heap.size+1+1+1+1) s hs _ bT) kD (kE (by simp)) (aj _ _) (λ_=>rfl)
  (λpre W=>(Ini m on pre/\Boxed W w.heap.size 3 (ι J m)/\Boxed W (w.heap.size+1) 4 (ν on)/\Boxed W (w.heap.size+1+1) 3 (ι J 0)/\Boxed W (w.heap.size+1+1+1) 4 (ν false))/\Below w.heap.size w W)
  (λc pre W=>(Id m on c pre/\Boxed W (w.heap.size+1+1) 3 (ι J (gJ m on pre).1)/\Boxed W (w.heap.size+1+1+1) 4 (ν (gJ m on pre).2))/\Below w.heap.size w W)
  (OwnFrom.and (OwnFrom.and (ownFrom_pure _ _) (OwnFrom.and (Own.from (boxed_own _ _ _) _) (OwnFrom.and (Own.from (boxed_own _ _ _) _) (OwnFrom.and (Own.from (boxed_own _ _ _) _) (Own.from (boxed_own _ _ _) _))))) (ownFrom_below (ah _) (by simp;omega)))
  (λc=>OwnFrom.and (OwnFrom.and (ownFrom_pure _ _) (OwnFrom.and (Own.from (boxed_own _ _ _) _) (Own.from (boxed_own _ _ _) _))) (ownFrom_below (ah _) (by simp;omega)))
  ⟨⟨λp hp=>by simp at hp,(((bM.alloc _).alloc _).alloc _).alloc _,((bO.alloc _).alloc _).alloc _,(bI.alloc _).alloc _,bJ.alloc _⟩,hB0⟩
  (λx=>{tmps:=#[σ s,ι J m,ν on,undef,G (some ⟨w.heap.size,0,none⟩),G (some ⟨w.heap.size+1,0,none⟩),G (some ⟨w.heap.size+1+1,0,none⟩),G (some ⟨w.heap.size+1+1+1,0,none⟩),ι J (x.1:Int),ν x.2,σ s,.func (.func 146) #[] #[G (some ⟨w.heap.size+1+1+1+1,0,none⟩)],ι J (x.1:Int),ν x.2,undef,undef,undef,undef,undef,undef,undef,undef,undef],defers:=[]}) ?assign ?body ?done ?stop
 case assign=>
  intro l x W K hK
  gi_wp2
  exact hK
 case body=>
  rintro l pre ⟨k,b⟩ W ⟨⟨hp,hM,hO,hI,hJ⟩,hB⟩ hlen;have cM:=hM.cell;have cO:=hO.cell;have cI:=hI.cell;have fI:=hI.frozen;have cJ:=hJ.cell;have fJ:=hJ.frozen;have HP:=U hp;clear hp;have HL:=U (jK m on pre [(k,b)] HP.o)
  by_cases hlt:m<=(k:Int)
  ·have hd:decide (m<=(k:Int))=true:=by simpa using hlt
   gi_wp2
   have eL:gJ m on (pre++[(k,b)])=(0,false):=by rw[HL.o,gJ,if_pos hlt]
   exact⟨KeepsFrom.refl _ _,⟨⟨rfl,pre,(k,b),rfl,HP.o,λh=>by unfold oL at h;simp at h;omega⟩,by rw[eL];exact hI,by rw[eL];exact hJ⟩,hB⟩
  ·have hd:decide (m<=(k:Int))=false:=by simpa using hlt
   by_cases hb:b=on
   ·have hb':(b==on)=true:=by simpa using hb
    have HE:=U hb;clear hb
    gi_wp2
    have eL:gJ m on (pre++[(k,b)])=(k,true):=by rw[HL.o,gJ,if_neg (Int.not_le.2 hlt),if_pos HE.o]
    refine⟨((KeepsOthers.setCell _ _ _).trans (KeepsOthers.setCell _ _ _)).from _,⟨⟨rfl,pre,(k,b),rfl,HP.o,λh=>by unfold oL at h;exact h.2 HE.o⟩,?_,?_⟩,(hB.setCell (p:=⟨w.heap.size+1+1,0,none⟩) (by simp;omega) _).setCell (p:=⟨w.heap.size+1+1+1,0,none⟩) (by simp;omega) _⟩
    ·rw[eL];exact(hI.set _).other (by omega) _
    ·rw[eL];exact(hJ.other (by omega) _).set _
   ·have hb':(b==on)=false:=by simpa using hb
    have HE:=U hb;clear hb
    gi_wp2
    refine⟨KeepsFrom.refl _ _,eP.refl _ _ _,⟨?_,hM,hO,hI,hJ⟩,hB⟩;exact eM HP.o (by omega) HE.o
 case done=>
  rintro D ys W hD rfl ⟨⟨hp,hM,hO,hI,hJ⟩,hB⟩ hK
  have eL:eO s m on=(0,false):=by
   have:=jK m on _ [] hp;rw[List.append_nil]at this;unfold eO;rw[this,gJ]
  gi_wp2
  have cI:=hI.cell;have fI:=hI.frozen;have cJ:=hJ.cell;have fJ:=hJ.frozen;refine lY HW ?_;go_region
  gi_wp2
  have hI2:Boxed ((W.setCell ⟨w.heap.size+1+1,0,none⟩ (ι J 0)).setCell ⟨w.heap.size+1+1+1,0,none⟩ (ν false)).drew (w.heap.size+1+1) 3 (ι J 0):=(hI.set _).other (by omega) _;have hJ2:Boxed ((W.setCell ⟨w.heap.size+1+1,0,none⟩ (ι J 0)).setCell ⟨w.heap.size+1+1+1,0,none⟩ (ν false)).drew (w.heap.size+1+1+1) 4 (ν false):=(hJ.other (by omega) _).set _;have hB2:Below w.heap.size w ((W.setCell ⟨w.heap.size+1+1,0,none⟩ (ι J 0)).setCell ⟨w.heap.size+1+1+1,0,none⟩ (ν false)).drew:=((hB.setCell (p:=⟨w.heap.size+1+1,0,none⟩) (by simp;omega) _).setCell (p:=⟨w.heap.size+1+1+1,0,none⟩) (by simp;omega) _).drew;have hK2:((W.setCell ⟨w.heap.size+1+1,0,none⟩ (ι J 0)).setCell ⟨w.heap.size+1+1+1,0,none⟩ (ν false)).drew.heap[D]? =some (.deferred (some [])):=((KeepsOthers.setCell W ⟨w.heap.size+1+1,0,none⟩ (ι J 0)).trans (KeepsOthers.setCell _ ⟨w.heap.size+1+1+1,0,none⟩ (ν false))).same D _ hK rfl;refine⟨by simp,.inl ⟨_,_,rfl,run_takeDeferred hK2,?_⟩⟩;have c5:=cell_kept hI2.cell (grownBy_putObj' _ D (.deferred none)) (λr e=>by cases e;exact⟨_,hK2,rfl⟩);have c6:=cell_kept hJ2.cell (grownBy_putObj' _ D (.deferred none)) (λr e=>by cases e;exact⟨_,hK2,rfl⟩);refine⟨τ #[ι J 0,ν false],?_,(by rw[eL];try rfl),hB2.trans (belowK_b (w:=w) (ah _) _ D _ _ (by simp at hD;omega) hK2 rfl rfl)⟩
  simp[results,f329,go_sem,c5,c6]
 case stop=>
  rintro D c pre W hD ⟨k,hk,rfl⟩ ⟨⟨⟨rfl,Dk,last,e1,e2,e3⟩,hI,hJ⟩,hB⟩ hK
  have eL:eO s m on=gJ m on (upto (fq s) k):=by
   obtain⟨r,hr⟩:=Qn (fq s) hk;unfold eO;rw[hr,e1,List.append_assoc,jK m on Dk _ e2,jK m on Dk _ e2,List.singleton_append,zm m on last r e3]
  generalize gJ m on (upto (fq s) k)=q at*
  obtain⟨i,j⟩:=q;clear e1 e2 e3
  gi_wp2
  have cI:=hI.cell;have fI:=hI.frozen;have cJ:=hJ.cell;have fJ:=hJ.frozen;refine lY HW ?_;go_region
  gi_wp2
  have hI2:Boxed ((W.setCell ⟨w.heap.size+1+1,0,none⟩ (ι J i)).setCell ⟨w.heap.size+1+1+1,0,none⟩ (ν j)).drew (w.heap.size+1+1) 3 (ι J i):=(hI.set _).other (by omega) _;have hJ2:Boxed ((W.setCell ⟨w.heap.size+1+1,0,none⟩ (ι J i)).setCell ⟨w.heap.size+1+1+1,0,none⟩ (ν j)).drew (w.heap.size+1+1+1) 4 (ν j):=(hJ.other (by omega) _).set _;have hB2:Below w.heap.size w ((W.setCell ⟨w.heap.size+1+1,0,none⟩ (ι J i)).setCell ⟨w.heap.size+1+1+1,0,none⟩ (ν j)).drew:=((hB.setCell (p:=⟨w.heap.size+1+1,0,none⟩) (by simp;omega) _).setCell (p:=⟨w.heap.size+1+1+1,0,none⟩) (by simp;omega) _).drew;have hK2:((W.setCell ⟨w.heap.size+1+1,0,none⟩ (ι J i)).setCell ⟨w.heap.size+1+1+1,0,none⟩ (ν j)).drew.heap[D]? =some (.deferred (some [])):=((KeepsOthers.setCell W ⟨w.heap.size+1+1,0,none⟩ (ι J i)).trans (KeepsOthers.setCell _ ⟨w.heap.size+1+1+1,0,none⟩ (ν j))).same D _ hK rfl;refine⟨by simp,.inl ⟨_,_,rfl,run_takeDeferred hK2,?_⟩⟩;have c5:=cell_kept hI2.cell (grownBy_putObj' _ D (.deferred none)) (λr e=>by cases e;exact⟨_,hK2,rfl⟩);have c6:=cell_kept hJ2.cell (grownBy_putObj' _ D (.deferred none)) (λr e=>by cases e;exact⟨_,hK2,rfl⟩);refine⟨τ #[ι J i,ν j],?_,(by rw[eL];try rfl),hB2.trans (belowK_b (w:=w) (ah _) _ D _ _ (by simp at hD;omega) hK2 rfl rfl)⟩
  simp[results,f329,go_sem,c5,c6]
theorem EZ (s:ByteArray) (m:Int) (on:Bool) (w:World) (hs:s.size<=1099511627776):
 Calls prog 329 #[σ s,ι J m,ν on] w λe w'=>e=aG (τ #[ι J (eO s m on).1,ν (eO s m on).2])/\Below w.heap.size w w':=
 callsIn_wide.1 (eN Fence.wide 3 (U rfl) trivial trivial trivial rfl (ah _) s m on w hs)
end
