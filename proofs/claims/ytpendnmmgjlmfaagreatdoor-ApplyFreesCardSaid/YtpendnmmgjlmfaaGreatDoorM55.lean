/- Lemmas. -/
import Derived.Test.YtpendnmmgjlmfaaGreatDoorM56
import Derived.Test.YtpendnmmgjlmfaaGreatDoorM02
import Derived.Great.Walk
import Derived.Laws.Tables
import Derived.Test.YtpendnmmgjlmfaaGreatDoorZShelf
import Derived.Laws.RangeAny
import Derived.Laws.RangeString
import Derived.Lib.Bytealg
set_option linter.unusedVariables false
set_option linter.unusedSimpArgs false
namespace Go.Proofs.YtpendnmmgjlmfaaGreatDoor
open Go.Proofs.Tryz
open IntKind renaming i64→J,u32→F
open Value renaming pointer→G,int->ι,string->σ,bool->ν,agg->γ
open Ending renaming returned→aG
open Obj renaming cells→aH
set_option maxRecDepth 100000
set_option maxHeartbeats 1000000
namespace Wz
open Go.RowKit Go.Shelf Oct Go.Great
def nL:Array Value:=Array.replicate 256 (ι F 0)
theorem Qw (ρ:Operand->Value) (o:Oper) (w:World) (ho:o.op=.alloc 365):(execOp ρ o).run prog w=.ok (.value (G (some ⟨w.heap.size,0,none⟩))) (w.alloc (aH nL 365)):=by
 unfold execOp;rw[ho]
 kernel_rfl
def vJ (x:Int):Nat->Int
 |0=>x
 |n+1=>if(bits .and F (vJ x n) 1==1)=true then bits .xor F (vJ x n/2) 3988292384 else vJ x n/2
def ou (m j:Nat):Value:=if j<m then ι F (vJ j 8)else ι F 0
def TabRel (w:World) (c:Value) (wr:World):Prop:=∃m:Nat,m<=256/\c=ι J m/\wr.rowIs w.heap.size 365 256 (ou m)/\Below w.heap.size w wr
theorem VK (w:World):(w.alloc (aH nL 365)).rowIs w.heap.size 365 256 (ou 0):=by
 have h:=World.rowIs_alloc w nL 365 (ou 0) (λi hi=>by
  unfold nL at hi⊢;rw[Array.size_replicate]at hi;rw[Array.getElem?_replicate,if_pos hi]
  rfl)
 rw[show nL.size=256 from Array.size_replicate]at h;exact h
def lT:Array Value:=((List.range 256).map λj=>Value.int F (vJ (j:Nat) 8)).toArray
theorem oV:lT.size=256:=by simp[lT]
theorem Jy (j:Nat) (h:j<256):lT[j]? =some (ι F (vJ j 8)):=by simp[lT,h]
theorem Jw:lT.all (·.oneCell')=true:=by
 rw[Array.all_eq_true_iff_forall_mem];intro v hv;simp only[lT,List.mem_toArray,List.mem_map]at hv;obtain⟨j,_,rfl⟩:=hv
 rfl
theorem If {W:World} {b:Nat} (h:W.rowIs b 365 256 (ou 256)):aN W b 365 lT:=by
 obtain⟨c,hg,hs,hc⟩:=h
 have e:c=lT:=by
  apply Array.ext_getElem?
  intro i
  by_cases hi:i<256
  ·rw[hc i hi,Jy i hi]
   unfold ou;rw[if_pos hi]
  ·rw[Array.getElem?_eq_none (by omega),Array.getElem?_eq_none (by rw[oV];omega)]
 rw[e]at hg;exact hg
theorem VL {W:World} {b m:Nat} (hr:W.rowIs b 365 256 (ou m)):(W.setCell ⟨b,m,none⟩ (ι F (vJ m 8))).rowIs b 365 256 (ou (m+1)):=
 (hr.set m _).congr (λj _=>by
  unfold ou
  by_cases e:j=m
  ·subst e;rw[if_pos rfl,if_pos (by omega)]
  ·rw[if_neg e]
   by_cases e2:j<m
   ·rw[if_pos e2,if_pos (by omega)]
   ·rw[if_neg e2,if_neg (by omega)])
theorem aN.setRow {W:World} {b:Nat} {t:TypeId} {cs:Array Value} (h:aN W b t cs) (ds:Array Value):aN (W.setRow b ds) b t ds:=setRow_heap W b cs ds t (0,0) h
theorem below_setRow {n b:Nat} {w W:World} (h:Below n w W) (hb:n<=b) (ds:Array Value):Below n w (W.setRow b ds):=
 ⟨h.os,h.tape,h.output,by simp;exact h.size,λk hk=>(setRow_other W b k ds (by omega)).trans (h.block k hk)⟩
theorem Gm:(prog.info? 365).map (·.size)=some 256:=by kernel_rfl
theorem Sz:prog.underlying 365=some (.array 256 42):=by kernel_rfl
theorem Tn (w:World):Calls prog 337 #[] w λe w'=>e=aG (γ lT)/\Below w.heap.size w w':=by
 have HS:=U (VK w);have HB:=U ((aj _ w).alloc (ah _) (aH nL 365))
 go_enter func337,ntmps337
 go_wp2_with (refine wpList_runTo rfl _ rfl _ _ (Qw _ _ _ rfl) ?_)
 go_loopw [1,2,3] (λ_ _ c wr=>TabRel w c wr) (λ_ _ c _=>256-(RowKit.intOf c).toNat)
 case atStart=>exact⟨0,aB _,rfl,HS.o,HB.o⟩
 case round=>
  obtain⟨m,hm,rfl,hr,hB⟩:=hrel
  by_cases hlt:m<256
  ·have q0:(m:Int)<256:=by omega
   have q9:(0:Int)<=m:=by omega
   have hc:=hr.cell hlt;have hf:=hr.frozen m;have RS:=U (VL hr);have MR:=U hB;clear hr hB;go_wp2_with fail
   go_loopw [2,8] (λx c wz=>∃q:Nat,q<=8/\c=ι J q/\x=ι F (vJ m q)/\wz=wr) (λ_ c _=>8-(RowKit.intOf c).toNat)
   case atStart=>exact⟨0,aB _,rfl,rfl,rfl⟩
   case round=>
    obtain⟨q,hq,rfl,rfl,rfl⟩:=hrel
    by_cases hq2:q<8
    ·have q1:(q:Int)<8:=by omega
     go_wp2_with fail
     ·rename_i hb
      exact⟨⟨q+1,by omega,rfl,by show _=Value.int F (vJ m (q+1));rw[vJ,if_pos hb],trivial⟩,by simp[RowKit.intOf];omega⟩
     ·rename_i hb
      exact⟨⟨q+1,by omega,rfl,by show _=Value.int F (vJ m (q+1));rw[vJ,if_neg (by rw[hb];simp)],trivial⟩,by simp[RowKit.intOf];omega⟩
    ·obtain rfl:q=8:=by omega
     go_wp2_with fail;exact⟨⟨m+1,by omega,rfl,RS.o,MR.o.setCell (ah _) _⟩,by simp[RowKit.intOf];omega⟩
  ·obtain rfl:m=256:=by omega
   have hT:=If hr;have MR:=U hB;clear hr hB
   go_wp2_with (first|(refine wpList_load_row rfl _ _ rfl w.heap.size rfl _ lT (0,0) _ hT Sz rfl (by rw[oV];exact Gm) ?_)|(refine wpList_store_row rfl _ _ _ rfl w.heap.size lT rfl rfl _ lT hT (by rw[oV];exact Gm) rfl Jw ?_))
   exact bodyPost_ret (v:=γ lT) (results_cell_row results337 _ _ w.heap.size 365 lT (0,0) _ rfl (aN.setRow hT lT) Sz rfl (by rw[oV];exact Gm)) rfl ⟨rfl,below_setRow MR.o (ah _) _⟩
end Wz
namespace Path
open Go.RowKit Oct
def isName (l:List UInt8):Bool:=decide (1<=l.length)&&decide (l.length<=27)&&!(l==[46])&&!(l==[46,46])&&l.all (λc=>!(c==47)&&!(c==0))
def DJ (r:Nat):Bool:=r==47||r==0
def oG (c:UInt8):Bool:=c==47||c==0
theorem eQ (s:ByteArray) (i:Nat) (h:i<s.size):s.get! i=s[i]:=by
 simp[ByteArray.get!,getElem!_pos,h]
 rfl
theorem MI (s:ByteArray) (i k:Nat) (h1:1<=k) (h2:k<(Utf8.decode s i).2):i+k<s.size/\(s.get! (i+k)).toNat/64=2:=by
 have hk:k=1\/k=2\/k=3\/4<=k:=by omega
 simp only[Utf8.decode]at h2
 rcases hk with rfl|rfl|rfl|hk
 all_goals
  repeat' split at h2
  all_goals
   simp only[Bool.and_eq_true,decide_eq_true_eq,beq_iff_eq]at*;omega
theorem yF (c:UInt8):oG c=DJ c.toNat:=by
 unfold oG DJ;rw[Bool.eq_iff_iff];simp only[Bool.or_eq_true,beq_iff_eq]
 constructor
 ·rintro(rfl|rfl)
  ·exact .inl rfl
  ·exact .inr rfl
 ·rintro(h|h)
  ·exact .inl (UInt8.toNat_inj.1 h)
  ·exact .inr (UInt8.toNat_inj.1 h)
theorem Je (s:ByteArray):∀(f pos:Nat),s.size<=pos+f->(0<=Lib.idxFuncFrom DJ true s f pos↔∃j,∃h:j<s.size,pos<=j/\oG s[j]=true)
 |0,pos,hf=>by
  constructor
  ·intro h;simp[Lib.idxFuncFrom]at h
  ·rintro⟨j,hj,h1,_⟩;omega
 |f+1,pos,hf=>by
  unfold Lib.idxFuncFrom
  by_cases hp:pos<s.size
  ·rw[if_pos hp]
   by_cases ha:(s[pos]'hp).toNat<128
   ·rw[decode_ascii s pos hp ha]
    by_cases hb:oG s[pos]=true
    ·rw[if_pos (by rw[<-yF];exact hb)]
     exact⟨λ_=>⟨pos,hp,ah _,hb⟩,λ_=>by omega⟩
    ·rw[if_neg (by rw[<-yF];exact hb),Je s f (pos+1) (by omega)]
     constructor
     ·rintro⟨j,hj,h1,h2⟩;exact⟨j,hj,by omega,h2⟩
     ·rintro⟨j,hj,h1,h2⟩
      refine⟨j,hj,?_,h2⟩
      rcases Nat.eq_or_lt_of_le h1 with e|e
      ·subst e;exact(hb h2).elim
      ·omega
   ·have hd:=decode_high s pos hp (by omega)
    rw[if_neg (by
      intro e;unfold DJ at e;simp only[Bool.or_eq_true,beq_iff_eq]at e;omega),Je s f _ (by omega)]
    constructor
    ·rintro⟨j,hj,h1,h2⟩;exact⟨j,hj,by omega,h2⟩
    ·rintro⟨j,hj,h1,h2⟩
     refine⟨j,hj,?_,h2⟩
     rcases Nat.lt_or_ge j (pos+(Utf8.decode s pos).2)with e|e
     ·exfalso
      rw[yF]at h2;unfold DJ at h2;simp only[Bool.or_eq_true,beq_iff_eq]at h2
      rcases Nat.eq_or_lt_of_le h1 with e1|e1
      ·subst e1;omega
      ·have hc:=MI s pos (j-pos) (by omega) (by omega)
       have ej:pos+(j-pos)=j:=by omega
       rw[ej,eQ s j hj]at hc;omega
     ·exact e
  ·rw[if_neg hp]
   constructor
   ·intro h;simp at h
   ·rintro⟨j,hj,h1,_⟩;omega
theorem Jf (s:ByteArray):decide (0<=Lib.idxFunc DJ true s)=(L s).any oG:=by
 rw[Bool.eq_iff_iff,decide_eq_true_eq];unfold Lib.idxFunc;rw[Je s s.size 0 (by omega),List.any_eq_true]
 constructor
 ·rintro⟨j,hj,_,h⟩
  exact⟨s[j],List.getElem_mem (l:=L s) (by rw[bZ];exact hj),h⟩
 ·rintro⟨c,hc,h⟩
  obtain⟨j,hj,rfl⟩:=List.getElem_of_mem hc;exact⟨j,by rw[bZ]at hj;exact hj,aB _,h⟩
theorem Is (x:Nat) (w:World):Calls prog 171 #[ι .i32 x] w λe w'=>e=aG (ν (DJ x))/\w=w':=by
 by_cases h:x=47
 ·subst h
  go_enter func171,ntmps171
  go_wp2
  go_ret;exact⟨rfl,rfl⟩
 ·have e1:((x:Int)==47)=false:=by simp;omega
  have e2:DJ x=((x:Int)==0):=by
   unfold DJ;rw[Bool.eq_iff_iff];simp only[Bool.or_eq_true,beq_iff_eq];omega
  have E2:=U e2;clear e2
  go_enter func171,ntmps171
  go_wp2
  go_ret;refine⟨?_,rfl⟩;rw[E2.o]
  rfl
theorem dB (s:ByteArray):s.toList=L s:=ByteArray.toList_eq s
theorem VN (s:ByteArray) (w:World) (h0:0<s.size) (h27:s.size<=27) (h1:(s.toList==[46])=false) (h2:(s.toList==[46,46])=false) (b:Bool) (hb:(L s).any oG=b):
 Calls prog 105 #[σ s] w λe w'=>e=aG (ι J (if b then 2 else 0))/\Below w.heap.size w w':=by
 have hne:=vw h0;have hd:decide (27<s.size)=false:=by simp;omega
 have hd':decide (27<(s.size:Int))=false:=by simp;omega
 have hc:=strings_ContainsFunc 171 #[] (enters_of func171 (by kernel_rfl) rfl) DJ s w (λW x _=>(Is x W).mono λe w' h=>⟨h.1,0,h.2.symm⟩);rw[Jf,hb]at hc;have HC:=U hc;clear hc hb
 go_enter func105,ntmps105
 go_wp2_with fail;refine(HC.o).mono ?_;rintro e w1 ⟨rfl,b1⟩;cases b
 iterate 2
  ·go_wp2
   go_ret;exact⟨rfl,b1⟩
theorem VO (s:ByteArray) (w:World) (hs:s.size<=maxLen) (h:27<s.size):
 Calls prog 105 #[σ s] w λe w'=>e=aG (ι J 2)/\Below w.heap.size w w':=by
 unfold maxLen at hs;have hne:=vw (s:=s) (by omega)
 go_enter func105,ntmps105
 go_wp2
 go_ret;exact⟨rfl,aj _ _⟩
theorem Qo (w:World):
 Calls prog 105 #[σ ⟨#[]⟩] w λe w'=>e=aG (ι J 2)/\Below w.heap.size w w':=by
 go_enter func105,ntmps105
 go_wp2
 go_ret;exact⟨rfl,aj _ _⟩
theorem eR (w:World):
 Calls prog 105 #[σ ⟨#[46]⟩] w λe w'=>e=aG (ι J 2)/\Below w.heap.size w w':=by
 go_enter func105,ntmps105
 go_wp2
 go_ret;exact⟨rfl,aj _ _⟩
theorem VP (w:World):
 Calls prog 105 #[σ ⟨#[46,46]⟩] w λe w'=>e=aG (ι J 2)/\Below w.heap.size w w':=by
 go_enter func105,ntmps105
 go_wp2
 go_ret;exact⟨rfl,aj _ _⟩
def oZ (l:List UInt8):Int:=if isName l then 0 else 2
theorem yV (l:List UInt8):l.all (λc=>!(c==47)&&!(c==0))=!(l.any oG):=by
 rw[List.not_any_eq_all_not]
 congr 1
 funext c
 unfold oG
 simp
theorem AU (s:ByteArray) (w:World) (hs:s.size<=maxLen):
 Calls prog 105 #[σ s] w λe w'=>e=aG (ι J (oZ (L s)))/\Below w.heap.size w w':=by
 have hl:=bZ s
 by_cases h0:s.size=0
 ·rw[Ah h0];exact Qo w
 ·by_cases h27:27<s.size
  ·have e:oZ (L s)=2:=by
    unfold oZ isName;have:decide ((L s).length<=27)=false:=by simp;omega
    rw[this];simp
   rw[e];exact VO s w hs h27
  ·by_cases h1:L s=[46]
   ·have e:s=⟨#[46]⟩:=iL h1
    rw[e];exact eR w
   ·by_cases h2:L s=[46,46]
    ·have e:s=⟨#[46,46]⟩:=iL h2
     rw[e];exact VP w
    ·have h:=VN s w (by omega) (by omega) (by rw[dB];simpa using h1) (by rw[dB];simpa using h2) _ rfl
     have e:oZ (L s)=(if(L s).any oG then 2 else 0):=by
      unfold oZ isName;rw[yV];have a1:decide (1<=(L s).length)=true:=by simp;omega
      have a2:decide ((L s).length<=27)=true:=by simp;omega
      have a3:(L s==[46])=false:=by simpa using h1
      have a4:(L s==[46,46])=false:=by simpa using h2
      rw[a1,a2,a3,a4];cases (L s).any oG<;>rfl
     rw[e];exact h
def It (n:List UInt8):Prop:=∀c∈n,c≠47
theorem sV {n:List UInt8} (h:isName n=true):It n/\n≠[]/\1<=n.length/\n.length<=27:=by
 unfold isName at h;simp only[Bool.and_eq_true,decide_eq_true_eq,List.all_eq_true]at h;refine⟨λc hc e=>?_,λe=>?_,h.1.1.1.1,h.1.1.1.2⟩
 ·have:=(h.2 c hc).1
  rw[e]at this
  simp at this
 ·have:=h.1.1.1.1
  rw[e]at this
  simp at this
end Path
namespace Dir
open Oct Path
abbrev bC:=List UInt8×Nat
def gZ:List UInt8:=List.replicate 32 0
def xQ (e:bC):List UInt8:=eu e.2 4++(UInt8.ofNat e.1.length::e.1)
def slotL (e:bC):List UInt8:=xQ e++List.replicate (32-(xQ e).length) 0
def may (e:bC):Bool:=decide (e.2≠0)&&isName e.1
def dV (e:bC):List UInt8:=if e.2=0 then gZ else slotL e
def Nb (e:bC):Prop:=e=([],0)\/(may e=true/\e.2<4294967296)
def Bp (t:List UInt8):Nat:=(t.getD 4 0).toNat
def qO (t:List UInt8):bC:=((t.drop 5).take (Bp t),ku (t.take 4))
def iY (t:List UInt8):Option bC:=
 if t=gZ then some ([],0)
 else if 27<Bp t then none
 else if may (qO t)=true/\slotL (qO t)=t then some (qO t)else none
def oC (t:List UInt8):bC:=(iY t).getD ([],1)
def gT (s:List UInt8) (k:Nat):List UInt8:=(s.drop (32*k)).take 32
def bX (s:List UInt8):List bC:=(List.range (s.length/32)).map λk=>oC (gT s k)
theorem rJ {n:List UInt8} (h:isName n=true):1<=n.length/\n.length<=27:=⟨(sV h).2.2.1,(sV h).2.2.2⟩
theorem je {e:bC} (h:may e=true):e.2≠0/\isName e.1=true:=by
 simp only[may,Bool.and_eq_true,decide_eq_true_eq]at h;exact h
theorem QX (e:bC):(xQ e).length=5+e.1.length:=by simp[xQ,cu];omega
theorem KM {e:bC} (h:may e=true):(slotL e).length=32:=by
 have:=(rJ (je h).2).2;unfold slotL;rw[List.length_append,List.length_replicate,QX];omega
theorem Bu:gZ.length=32:=by simp[gZ]
theorem zR {e:bC} (h:Nb e) (h0:e.2≠0):may e=true/\e.2<4294967296:=by
 rcases h with rfl|h
 ·exact absurd rfl h0
 ·exact h
theorem eV {e:bC} (h:Nb e) (h0:e.2=0):e=([],0):=by
 rcases h with h|h
 ·exact h
 ·exact absurd h0 (je h.1).1
theorem tT {e:bC} (h:Nb e):(dV e).length=32:=by
 unfold dV
 by_cases h0:e.2=0
 ·rw[if_pos h0];exact Bu
 ·rw[if_neg h0];exact KM (zR h h0).1
theorem Gf (e:bC):(slotL e).take 4=eu e.2 4:=by
 unfold slotL xQ;rw[List.append_assoc,List.take_append_of_le_length (by rw[cu];exact ah _),List.take_of_length_le (by rw[cu];exact ah _)]
theorem Gg (e:bC):(slotL e).drop 4=UInt8.ofNat e.1.length::(e.1++List.replicate (32-(xQ e).length) 0):=by
 unfold slotL xQ;rw[List.append_assoc,List.drop_append_of_le_length (by rw[cu];exact ah _),List.drop_of_length_le (by rw[cu];exact ah _)]
 rfl
theorem CR {e:bC} (h:e.1.length<=27):Bp (slotL e)=e.1.length:=by
 have h1:(slotL e).getD 4 0=((slotL e).drop 4).getD 0 0:=by simp[List.getD_eq_getElem?_getD]
 unfold Bp;rw[h1,Gg]
 simp[UInt8.toNat_ofNat']
 omega
theorem Qp {e:bC} (h:e.1.length<=27) (h2:e.2<4294967296):qO (slotL e)=e:=by
 obtain⟨n,i⟩:=e
 have hd:(slotL (n,i)).drop 5=n++List.replicate (32-(xQ (n,i)).length) 0:=by
  have:(slotL (n,i)).drop 5=((slotL (n,i)).drop 4).drop 1:=by rw[List.drop_drop]
  rw[this,Gg]
  rfl
 unfold qO;rw[CR h,Gf,hd,tC];simp only[List.take_left'];rw[Nat.mod_eq_of_lt (by simpa using h2)]
theorem Jg {e:bC} (h:e.2≠0) (h2:e.2<4294967296):slotL e≠gZ:=λhe=>by
 have h1:ku ((slotL e).take 4)=e.2:=by rw[Gf,tC,Nat.mod_eq_of_lt (by simpa using h2)]
 rw[he]at h1;exact h h1.symm
theorem VQ {e:bC} (h:may e=true) (h2:e.2<4294967296):iY (slotL e)=some e:=by
 obtain⟨m1,m2⟩:=je h;have hn:=(rJ m2).2;unfold iY;rw[if_neg (Jg m1 h2),CR hn,if_neg (by omega),Qp hn h2,if_pos ⟨h,rfl⟩]
theorem EP:iY gZ=some ([],0):=by unfold iY;rw[if_pos rfl]
theorem eW {e:bC} (h:Nb e):iY (dV e)=some e:=by
 unfold dV
 by_cases h0:e.2=0
 ·rw[if_pos h0,eV h h0];exact EP
 ·rw[if_neg h0];exact VQ (zR h h0).1 (zR h h0).2
theorem rH {t:List UInt8} {e:bC} (h:iY t=some e):Nb e/\dV e=t:=by
 unfold iY at h
 split at h
 ·rename_i ht
  simp only[Option.some.injEq]at h;subst h;exact⟨.inl rfl,ht.symm⟩
 ·split at h
  ·cases h
  ·split at h
   ·rename_i h1 h2 h3
    simp only[Option.some.injEq]at h;subst h;refine⟨.inr ⟨h3.1,?_⟩,?_⟩
    ·have:=zK (t.take 4)
     have hl:(t.take 4).length<=4:=List.length_take_le _ _;have:(256:Nat)^(t.take 4).length<=256^4:=Nat.pow_le_pow_right (by decide) hl;show ku (t.take 4)<4294967296;omega
    ·unfold dV
     rw[if_neg (je h3.1).1];exact h3.2
   ·cases h
def dW (es:List bC):List UInt8:=es.flatMap dV
theorem qb (e:bC) (es:List bC):dW (e::es)=dV e++dW es:=rfl
theorem sP (a b:List bC):dW (a++b)=dW a++dW b:=List.flatMap_append
theorem kg:∀{es:List bC},(∀e∈es,Nb e)->(dW es).length=32*es.length
 |[],_=>rfl
 |e::es,h=>by
  rw[qb,List.length_append,tT (h e (by simp)),kg (λx hx=>h x (by simp[hx])),List.length_cons];omega
theorem MJ:∀{es:List bC} (h:∀e∈es,Nb e) (k:Nat) (hk:k<es.length),gT (dW es) k=dV es[k]
 |e::es,h,0,_=>by
  unfold gT;rw[qb,Nat.mul_zero,List.drop_zero,List.take_append_of_le_length (by rw[tT (h e (by simp))];exact ah _),List.take_of_length_le (by rw[tT (h e (by simp))];exact ah _)]
  rfl
 |e::es,h,k+1,hk=>by
  have he:=tT (h e (by simp));have:=MJ (es:=es) (λx hx=>h x (List.mem_cons_of_mem _ hx)) k (by simpa using hk);unfold gT at this⊢;rw[qb,show 32*(k+1)=(dV e).length+32*k by omega,List.drop_length_add_append,this]
  rfl
theorem Iv {e:bC} (h:Nb e):oC (dV e)=e:=by unfold oC;rw[eW h];rfl
theorem yx {es:List bC} (h:∀e∈es,Nb e):bX (dW es)=es:=by
 unfold bX;rw[kg h,Nat.mul_div_cancel_left _ (by decide)]
 apply List.ext_getElem (by simp)
 intro k h1 h2;simp only[List.getElem_map,List.getElem_range];rw[MJ h k h2,Iv (h _ (List.getElem_mem _))]
theorem vk {α β:Type} {f g:α->List β}:∀{l:List α},(∀x∈l,f x=g x)->l.flatMap f=l.flatMap g
 |[],_=>rfl
 |x::l,h=>by
  rw[List.flatMap_cons,List.flatMap_cons,h x (by simp),vk (λy hy=>h y (List.mem_cons_of_mem _ hy))]
theorem CS:∀(n:Nat) (s:List UInt8),s.length=32*n->s=(List.range n).flatMap (gT s)
 |0,s,h=>by simpa using h
 |n+1,s,h=>by
  rw[List.range_succ,List.flatMap_append,List.flatMap_singleton];have h1:(s.take (32*n)).length=32*n:=by rw[List.length_take];omega
  have h2:=CS n (s.take (32*n)) h1
  have h3:∀k∈List.range n,gT (s.take (32*n)) k=gT s k:=λk hk=>by
   have:=List.mem_range.1 hk;unfold gT;rw[List.drop_take,List.take_take]
   congr 1
   omega
  rw[vk h3]at h2;rw[<-h2];unfold gT;rw[List.take_of_length_le (l:=s.drop (32*n)) (by rw[List.length_drop];omega),List.take_append_drop]
theorem VR {s:List UInt8} (h:s.length%32=0) (hb:∀e∈bX s,e≠([],1)):(∀e∈bX s,Nb e)/\dW (bX s)=s:=by
 have key:∀k,k<s.length/32->iY (gT s k)=some (oC (gT s k)):=λk hk=>by
  have hm:oC (gT s k)∈bX s:=List.mem_map_of_mem (List.mem_range.2 hk);have:=hb _ hm;unfold oC at this⊢;cases hr:iY (gT s k)with
  |none=>rw[hr]at this;exact absurd rfl this
  |some e=>rfl
 refine⟨λe he=>?_,?_⟩
 ·obtain⟨k,hk,rfl⟩:=List.mem_map.1 he
  exact(rH (key k (List.mem_range.1 hk))).1
 ·have hl:s.length=32*(s.length/32):=by omega
  unfold dW bX;rw[List.flatMap_map];refine Eq.trans ?_ (CS _ s hl).symm
  apply vk
  intro k hk;exact(rH (key k (List.mem_range.1 hk))).2
def live (es:List bC):List bC:=es.filter λe=>decide (e.2≠0)
def names (es:List bC):List (List UInt8):=(live es).map Prod.fst
def dh (s:List UInt8):Int:=
 if s.length%64≠0\/2304<s.length then 7 else if([],1)∈bX s then 7 else if(names (bX s)).Nodup then 0 else 9
structure Dir (es:List bC):Prop where
 ok:∀e∈es,Nb e
 even:es.length%2=0
 le:es.length<=72
 nodup:(names es).Nodup
theorem okE_ne {e:bC} (h:Nb e):e≠([],1):=λhe=>by
 subst he
 rcases h with h|h
 ·cases h
 ·have:=(je h.1).2
  exact absurd this (by decide)
theorem yw {es:List bC} (h:Dir es):dh (dW es)=0:=by
 unfold dh;rw[yx h.ok,kg h.ok,if_neg (by have:=h.even;have:=h.le;omega),if_neg (λhm=>okE_ne (h.ok _ hm) rfl),if_pos h.nodup]
theorem rO {s:List UInt8} (h:dh s=0):Dir (bX s)/\dW (bX s)=s/\s.length=32*(bX s).length:=by
 unfold dh at h
 split at h
 ·cases h
 ·split at h
  ·cases h
  ·split at h
   ·rename_i h1 h2 h3
    obtain⟨k1,k2⟩:=VR (s:=s) (by omega) (λe he e1=>h2 (e1▸he));have hl:(bX s).length=s.length/32:=by simp[bX]
    exact⟨⟨k1,by omega,by omega,h3⟩,k2,by omega⟩
   ·cases h
def hit (n:List UInt8) (e:bC):Bool:=decide (e.2≠0/\e.1=n)
def eU (n:List UInt8) (es:List bC):Option Nat:=es.findIdx? (hit n)
def uD (es:List bC):Option Nat:=es.findIdx? λe=>decide (e.2=0)
def gU (n:List UInt8) (es:List bC):Nat:=match eU n es with|some k=>(es.getD k ([],0)).2|none=>0
theorem mq {n:List UInt8} {es:List bC} {k:Nat} (h:eU n es=some k):∃hk:k<es.length,(es[k]'hk).2≠0/\(es[k]'hk).1=n:=by
 obtain⟨hk,h1,_⟩:=List.findIdx?_eq_some_iff_getElem.1 h;have:hit n es[k]=true:=h1;simp only[hit,decide_eq_true_eq]at this;exact⟨hk,this⟩
theorem yG {n:List UInt8} {es:List bC} (h:eU n es=none):∀e∈es,e.2≠0->e.1≠n:=λe he h0 h1=>by
 have:=List.findIdx?_eq_none_iff.1 h e he
 simp[hit,h0,h1]at this
theorem FU {es:List bC} {k:Nat} (h:uD es=some k):∃hk:k<es.length,(es[k]'hk).2=0:=by
 obtain⟨hk,h1,_⟩:=List.findIdx?_eq_some_iff_getElem.1 h;exact⟨hk,by simpa using h1⟩
theorem VT {es:List bC} (h:(names es).Nodup):∀{j k:Nat} (hj:j<es.length) (hk:k<es.length),(es[j]'hj).2≠0->(es[k]'hk).2≠0->(es[j]'hj).1=(es[k]'hk).1->j=k:=by
 induction es with
 |nil=>intro j k hj;simp at hj
 |cons e r ih=>
  have hr:(names r).Nodup:=by
   unfold names live at h⊢
   by_cases h0:e.2≠0
   ·rw[List.filter_cons_of_pos (by simpa using h0),List.map_cons]at h
    exact(List.nodup_cons.1 h).2
   ·rw[List.filter_cons_of_neg (by simpa using h0)]at h
    exact h
  have hd:e.2≠0->∀x∈r,x.2≠0->x.1≠e.1:=λh0 x hx hx0 hxe=>by
   unfold names live at h;rw[List.filter_cons_of_pos (by simpa using h0),List.map_cons]at h;refine(List.nodup_cons.1 h).1 ?_;rw[<-hxe];exact List.mem_map_of_mem (List.mem_filter.2 ⟨hx,by simpa using hx0⟩)
  intro j k hj hk hj0 hk0 hjk
  match j,k with
  |0,0=>rfl
  |0,k+1=>exact absurd hjk.symm (hd hj0 _ (List.getElem_mem _) hk0)
  |j+1,0=>exact absurd hjk (hd hk0 _ (List.getElem_mem _) hj0)
  |j+1,k+1=>
   have:=ih hr (by simpa using hj) (by simpa using hk) hj0 hk0 hjk;omega
theorem IA {n:List UInt8} {es:List bC} (h:(names es).Nodup) {k:Nat} (hk:k<es.length) (h0:(es[k]'hk).2≠0) (h1:(es[k]'hk).1=n):eU n es=some k:=by
 cases hf:eU n es with
 |none=>exact absurd h1 (yG hf _ (List.getElem_mem hk) h0)
 |some j=>
  obtain⟨hj,j0,j1⟩:=mq hf;rw[VT h hj hk j0 h0 (j1.trans h1.symm)]
theorem yH {n:List UInt8} {es:List bC}:n∈names es↔∃e∈es,e.2≠0/\e.1=n:=by
 unfold names live;simp only[List.mem_map,List.mem_filter,decide_eq_true_eq]
 constructor
 ·rintro⟨e,⟨a,b⟩,c⟩;exact⟨e,a,b,c⟩
 ·rintro⟨e,a,b,c⟩;exact⟨e,⟨a,b⟩,c⟩
theorem fL {n:List UInt8} {es:List bC}:(eU n es).isSome=decide (n∈names es):=by
 cases hf:eU n es with
 |none=>
  have:¬(n∈names es):=λhm=>by
   obtain⟨e,a,b,c⟩:=yH.1 hm;exact yG hf e a b c
  simp[this]
 |some k=>
  obtain⟨hk,a,b⟩:=mq hf;have:n∈names es:=yH.2 ⟨_,List.getElem_mem hk,a,b⟩
  simp[this]
def uO (s:List UInt8) (k:Nat) (t:List UInt8):List UInt8:=s.take (32*k)++t++s.drop (32*(k+1))
theorem Sg {es:List bC} (h:∀e∈es,Nb e) {e:bC} (he:Nb e) {k:Nat} (hk:k<es.length):uO (dW es) k (dV e)=dW (es.set k e):=by
 have e1:es=es.take k++es[k]::es.drop (k+1):=by rw[List.getElem_cons_drop,List.take_append_drop]
 have l1:(dW (es.take k)).length=32*k:=by
  rw[kg (λx hx=>h x (List.mem_of_mem_take hx)),List.length_take,Nat.min_eq_left (by omega)]
 have l2:(dV es[k]).length=32:=tT (h _ (List.getElem_mem hk))
 have e2:dW es=dW (es.take k)++(dV es[k]++dW (es.drop (k+1))):=by
  rw[<-qb,<-sP,<-e1]
 have e3:es.set k e=es.take k++e::es.drop (k+1):=by rw[List.set_eq_take_append_cons_drop,if_pos hk]
 unfold uO;rw[e3,sP,qb,e2];rw[List.take_append_of_le_length (by omega),List.take_of_length_le (by omega)];rw[show 32*(k+1)=(dW (es.take k)).length+32 by omega,List.drop_length_add_append,List.drop_append_of_le_length (by omega),List.drop_of_length_le (by omega),List.nil_append,List.append_assoc]
def Cy (n:List UInt8) (i:Nat) (es:List bC):Int×List bC:=
 if may (n,i)=false then(2,[])else match eU n es with
 |some _=>(9,[])
 |none=>match uD es with
  |some k=>(0,es.set k (n,i))
  |none=>if 72<=es.length then(4,[])else(0,es++[(n,i),([],0)])
def aY (n:List UInt8) (i:Nat) (es:List bC):Int×List bC:=
 if i=0 then(2,[])else match eU n es with
 |none=>(3,[])
 |some k=>(0,es.set k (n,i))
def IQ (n:List UInt8) (es:List bC):Int×List bC:=
 match eU n es with
 |none=>(3,[])
 |some k=>(0,es.set k ([],0))
theorem xg {m:List UInt8}:∀{es:List bC} {k:Nat} {e:bC} (hk:k<es.length) (h1:hit m (es[k]'hk)=false) (h2:hit m e=false),eU m (es.set k e)=eU m es
 |x::r,0,e,_,h1,h2=>by
  simp only[List.getElem_cons_zero]at h1;unfold eU;rw[List.set_cons_zero,List.findIdx?_cons,List.findIdx?_cons,h1,h2]
 |x::r,k+1,e,hk,h1,h2=>by
  have:=xg (m:=m) (es:=r) (k:=k) (e:=e) (by simpa using hk) (by simpa using h1) h2;unfold eU at this⊢;rw[List.set_cons_succ,List.findIdx?_cons,List.findIdx?_cons,this]
theorem MN {m:List UInt8} {es:List bC} {k:Nat} (h:eU m es=some k):∃hk:k<es.length,hit m (es[k]'hk)=true:=by
 obtain⟨hk,h1,_⟩:=List.findIdx?_eq_some_iff_getElem.1 h;exact⟨hk,h1⟩
theorem SG {m:List UInt8} {es:List bC} {k:Nat} {e:bC} (hk:k<es.length) (h1:hit m (es[k]'hk)=false) (h2:hit m e=false):gU m (es.set k e)=gU m es:=by
 unfold gU;rw[xg hk h1 h2];cases hf:eU m es with
 |none=>rfl
 |some j=>
  obtain⟨hj,hh⟩:=MN hf;have hne:k≠j:=λe=>by subst e;rw[h1]at hh;cases hh
  simp only[List.getD_eq_getElem?_getD,List.getElem?_set_ne hne]
theorem MP {m:List UInt8} {es r:List bC} (h:∀e∈r,hit m e=false):eU m (es++r)=eU m es:=by
 unfold eU;rw[List.findIdx?_append];have:List.findIdx? (hit m) r=none:=List.findIdx?_eq_none_iff.2 h;rw[this];cases List.findIdx? (hit m) es<;>rfl
theorem ID {m:List UInt8} {es r:List bC} (h:∀e∈r,hit m e=false):gU m (es++r)=gU m es:=by
 unfold gU;rw[MP h];cases hf:eU m es with
 |none=>rfl
 |some j=>
  obtain⟨hj,hh⟩:=MN hf;simp only[List.getD_eq_getElem?_getD,List.getElem?_append_left hj]
theorem fN {n:List UInt8} {es:List bC} (h:(names es).Nodup) {k:Nat} (hk:k<es.length) (h0:(es[k]'hk).2≠0) (h1:(es[k]'hk).1=n):gU n es=(es[k]'hk).2:=by
 unfold gU;rw[IA h hk h0 h1];simp only[List.getD_eq_getElem?_getD,List.getElem?_eq_getElem hk,Option.getD_some]
theorem wV {n:List UInt8} {es:List bC} (h:eU n es=none):gU n es=0:=by unfold gU;rw[h]
theorem Mi {n:List UInt8} {es:List bC} {k:Nat} (h:eU n es=some k):∃hk:k<es.length,gU n es=(es[k]'hk).2/\gU n es≠0:=by
 obtain⟨hk,h0,_⟩:=mq h
 have e:gU n es=(es[k]'hk).2:=by
  unfold gU;rw[h];simp only[List.getD_eq_getElem?_getD,List.getElem?_eq_getElem hk,Option.getD_some]
 exact⟨hk,e,by rw[e];exact h0⟩
theorem tu (m:List UInt8) {e:bC} (h:e.2=0):hit m e=false:=by simp[hit,h]
theorem qc {m:List UInt8} {e:bC} (h:e.1≠m):hit m e=false:=by simp[hit,h]
theorem MQ {es:List bC} {k:Nat} (hk:k<es.length) (e:bC):es=es.take k++es[k]::es.drop (k+1)/\es.set k e=es.take k++e::es.drop (k+1):=by
 refine⟨by rw[List.getElem_cons_drop,List.take_append_drop],?_⟩;rw[List.set_eq_take_append_cons_drop,if_pos hk]
theorem kG (a b:List bC):names (a++b)=names a++names b:=by simp[names,live]
theorem qD {e:bC} (h:e.2=0) (r:List bC):names (e::r)=names r:=by simp[names,live,h]
theorem qE {e:bC} (h:e.2≠0) (r:List bC):names (e::r)=e.1::names r:=by simp[names,live,h]
theorem jf (es:List bC):(live es).length=(names es).length:=by simp[names]
theorem Gh {α:Type} {a b:List α} {x:α} (h:(a++b).Nodup) (hx:x∉a++b):(a++x::b).Nodup:=by
 have p:(a++x::b).Perm (x::(a++b)):=List.perm_middle;exact p.nodup_iff.2 (List.nodup_cons.2 ⟨hx,h⟩)
theorem ZL {n:List UInt8} {i:Nat} {es es':List bC} (d:Dir es) (hi:i<4294967296) (h:Cy n i es=(0,es')):
 Dir es'/\(live es').length=(live es).length+1/\gU n es=0/\gU n es'=i/\i≠0/\(∀m,m≠n->gU m es'=gU m es/\eU m es'=eU m es)/\((∃k,k<es.length/\es'=es.set k (n,i)/\uD es=some k)\/(uD es=none/\es'=es++[(n,i),([],0)])):=by
 unfold Cy at h
 by_cases hm:may (n,i)=true
 ·rw[if_neg (by simp[hm])]at h
  obtain⟨h0,hn⟩:=je hm;have okN:Nb (n,i):=.inr ⟨hm,hi⟩;cases hf:eU n es with
  |some k=>rw[hf]at h;simp at h
  |none=>
   rw[hf]at h;simp only at h
   have hnn:n∉names es:=λhc=>by
     obtain⟨e,a,b,c⟩:=yH.1 hc;exact yG hf e a b c
   cases hq:uD es with
   |some k=>
    rw[hq]at h;simp only[Prod.mk.injEq,true_and]at h;subst h;obtain⟨hk,hz⟩:=FU hq;obtain⟨s1,s2⟩:=MQ hk (n,i);have e1:names es=names (es.take k)++names (es.drop (k+1)):=by rw[s1,kG,qD hz];rw[<-s1]
    have e2:names (es.set k (n,i))=names (es.take k)++n::names (es.drop (k+1)):=by rw[s2,kG,qE h0]
    have hnd:(names (es.set k (n,i))).Nodup:=by
     rw[e2];exact Gh (e1▸d.nodup) (e1▸hnn)
    refine⟨⟨λe he=>?_,by simpa using d.even,by simpa using d.le,hnd⟩,?_,wV hf,?_,h0,λm hmn=>⟨SG hk (tu m hz) (qc (by simpa using Ne.symm hmn)),xg hk (tu m hz) (qc (by simpa using Ne.symm hmn))⟩,.inl ⟨k,hk,rfl,rfl⟩⟩
    ·rcases List.mem_or_eq_of_mem_set he with h1|h1
     ·exact d.ok e h1
     ·rw[h1];exact okN
    ·rw[jf,jf,e1,e2];simp;omega
    ·have:=fN (n:=n) hnd (k:=k) (by simpa using hk) (by simpa using h0) (by simp)
     simpa using this
   |none=>
    rw[hq]at h;simp only at h
    split at h
    ·simp at h
    ·rename_i hl
     simp only[Prod.mk.injEq,true_and]at h;subst h;have e2:names (es++[(n,i),([],0)])=names es++[n]:=by rw[kG,qE h0,qD rfl];rfl
     have hnd:(names (es++[(n,i),([],0)])).Nodup:=by
      rw[e2];exact Gh (by simpa using d.nodup) (by simpa using hnn)
     have hoth:∀m,m≠n->∀e∈[((n,i):bC),([],0)],hit m e=false:=λm hmn e he=>by
      simp only[List.mem_cons,List.not_mem_nil,or_false]at he
      rcases he with rfl|rfl
      ·exact qc (by simpa using Ne.symm hmn)
      ·exact tu m rfl
     refine⟨⟨λe he=>?_,by have:=d.even;simp;omega,by have:=d.even;simp;omega,hnd⟩,?_,wV hf,?_,h0,λm hmn=>⟨ID (hoth m hmn),MP (hoth m hmn)⟩,.inr ⟨rfl,rfl⟩⟩
     ·rcases List.mem_append.1 he with h1|h1
      ·exact d.ok e h1
      ·simp only[List.mem_cons,List.not_mem_nil,or_false]at h1
       rcases h1 with rfl|rfl
       ·exact okN
       ·exact .inl rfl
     ·rw[jf,jf,e2];simp
     ·have:=fN (n:=n) hnd (k:=es.length) (by simp) (by simpa using h0) (by simp)
      simpa using this
 ·rw[if_pos (by simpa using hm)]at h
  simp at h
theorem ZN {n:List UInt8} {es es':List bC} (d:Dir es) (h:IQ n es=(0,es')):
 Dir es'/\(live es).length=(live es').length+1/\gU n es'=0/\gU n es≠0/\(∀m,m≠n->gU m es'=gU m es/\eU m es'=eU m es)/\(∃k,eU n es=some k/\k<es.length/\es'=es.set k ([],0)):=by
 unfold IQ at h;cases hf:eU n es with
 |none=>rw[hf]at h;simp at h
 |some k=>
  rw[hf]at h;simp only[Prod.mk.injEq,true_and]at h;subst h;obtain⟨hk,k0,k1⟩:=mq hf;obtain⟨s1,s2⟩:=MQ hk ([],0);have e1:names es=names (es.take k)++n::names (es.drop (k+1)):=by rw[s1,kG,qE k0,k1];rw[<-s1]
  have e2:names (es.set k ([],0))=names (es.take k)++names (es.drop (k+1)):=by rw[s2,kG,qD rfl]
  have hp:(n::(names (es.take k)++names (es.drop (k+1)))).Nodup:=by
   have p:(names (es.take k)++n::names (es.drop (k+1))).Perm (n::(names (es.take k)++names (es.drop (k+1)))):=List.perm_middle;exact p.nodup_iff.1 (e1▸d.nodup)
  obtain⟨hnn,hnd⟩:=List.nodup_cons.1 hp;refine⟨⟨λe he=>?_,by simpa using d.even,by simpa using d.le,by rw[e2];exact hnd⟩,?_,?_,(Mi hf).2.2,λm hmn=>⟨SG hk (qc (by rw[k1];exact Ne.symm hmn)) (tu m rfl),xg hk (qc (by rw[k1];exact Ne.symm hmn)) (tu m rfl)⟩,⟨k,rfl,hk,rfl⟩⟩
  ·rcases List.mem_or_eq_of_mem_set he with h1|h1
   ·exact d.ok e h1
   ·rw[h1];exact .inl rfl
  ·rw[jf,jf,e1,e2];simp;omega
  ·refine wV ?_
   have hq:=fL (n:=n) (es:=es.set k ([],0));rw[e2,show decide (n∈names (es.take k)++names (es.drop (k+1)))=false by simpa using hnn]at hq;cases hz:eU n (es.set k ([],0))with
   |none=>rfl
   |some j=>rw[hz]at hq;cases hq
