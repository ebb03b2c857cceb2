/- Lemmas. -/
import Derived.Test.YtpendnmmgjlmfaaGreatDoorB0
import Derived.Laws.BitsAllLaws
import Derived.WalkKit
import Derived.IntWalk
import Derived.Test.YtpendnmmgjlmfaaGreatDoorProg
import Derived.WalkSpells
import Derived.WalkLawsBesides
import Derived.Lib.Hide
import Derived.Laws.IdiomStrings
import Derived.Deep.OwnRows
import Derived.Laws.MakeOwn
import Derived.Deep.QuietTactic
import Derived.BigQuiet
import Derived.Deep.AppendLies
import Derived.Deep.RegionLaw
set_option linter.unusedVariables false
set_option linter.unusedSimpArgs false
namespace Go.Proofs.YtpendnmmgjlmfaaGreatDoor
open Go.Proofs.Tryz
open IntKind renaming i64→J,u8→aF
open Ending renaming returned→aG
open Obj renaming cells→aH
set_option maxRecDepth 100000
set_option maxHeartbeats 1000000
open Value renaming int->ι,string->σ,tuple->τ,slice->θ
namespace Oct
def B (l:List UInt8):ByteArray:=⟨l.toArray⟩
def L (s:ByteArray):List UInt8:=s.data.toList
theorem iy (l:List UInt8):L (B l)=l:=rfl
theorem SN (s:ByteArray):B (L s)=s:=rfl
theorem bZ (s:ByteArray):(L s).length=s.size:=rfl
theorem aV (l:List UInt8):(B l).size=l.length:=rfl
theorem iL {s t:ByteArray} (h:L s=L t):s=t:=by rw[<-SN s,<-SN t,h]
def ku:List UInt8->Nat
 |[]=>0
 |b::l=>b.toNat+256*ku l
def eu (v n:Nat):List UInt8:=(List.range n).map λk=>UInt8.ofNat (v/256^k%256)
theorem cu (v n:Nat):(eu v n).length=n:=by simp[eu]
theorem DT (v n:Nat):eu v (n+1)=eu v n++[UInt8.ofNat (v/256^n%256)]:=by simp[eu,List.range_succ]
theorem zK:∀l:List UInt8,ku l<256^l.length
 |[]=>by simp[ku]
 |b::l=>by
  have h:=zK l;have hb:=b.toNat_lt;rw[List.length_cons,Nat.pow_succ,ku];omega
theorem yI:∀(l r:List UInt8),ku (l++r)=ku l+256^l.length*ku r
 |[],r=>by simp[ku]
 |b::l,r=>by
  rw[List.cons_append,ku,ku,yI l r,List.length_cons,Nat.pow_succ,Nat.mul_add,Nat.mul_comm (256^l.length) 256,Nat.mul_assoc];omega
theorem DU (l:List UInt8) (b:UInt8):ku (l++[b])=ku l+256^l.length*b.toNat:=by rw[yI];simp[ku]
theorem tC (v:Nat):∀n,ku (eu v n)=v%256^n
 |0=>by simp[eu,ku,Nat.mod_one]
 |n+1=>by
  have hb:(UInt8.ofNat (v/256^n%256)).toNat=v/256^n%256:=by
   rw[UInt8.toNat_ofNat'];exact Nat.mod_eq_of_lt (Nat.mod_lt _ (by decide))
  rw[DT,DU,tC v n,cu,hb,Nat.pow_succ];exact(Nat.mod_mul).symm
theorem Af (l:List UInt8) (i:Nat) (h:i<l.length):ku (l.take (i+1))=ku (l.take i)+256^i*l[i].toNat:=by
 have hl:(l.take i).length=i:=by simp;omega
 rw[List.take_succ_eq_append_getElem h,DU,hl]
theorem Ag (k:Nat):(256:Nat)^k=2^(8*k):=by rw[Nat.pow_mul]
theorem Qq (a:Nat) (h:a<18446744073709551616):IntKind.u64.wrap (a:Int)=(a:Int):=by
 simp[IntKind.wrap,IntKind.bits,IntKind.signed];omega
theorem mA (k:Nat) (h:k<=8):(256:Nat)^k<=18446744073709551616:=by
 have:=Nat.pow_le_pow_right (show 0<256 by decide) h
 simpa using this
theorem get_at (s:ByteArray) (k:Nat) (h:k<s.size):s[k]=(L s)[k]'(by rw[bZ];exact h):=rfl
theorem Wm (V b k:Nat) (hV:V<256^k) (hb:b<256) (h8:k<8):
 bits BinOp.or IntKind.u64 (V:Int) (IntKind.u64.wrap (IntKind.u64.wrap (b:Int)*2^(8*k)))=((V+256^k*b:Nat):Int):=by
 have hp:(256:Nat)^(k+1)<=18446744073709551616:=mA _ (by omega);rw[Nat.pow_succ]at hp
 have hx:b*256^k<18446744073709551616:=by
  have h0:0<(256:Nat)^k:=Nat.pow_pos (by decide);have:b*256^k<256*256^k:=Nat.mul_lt_mul_of_pos_right hb h0;omega
 have e1:IntKind.u64.wrap (IntKind.u64.wrap (b:Int)*2^(8*k))=((b*256^k:Nat):Int):=by
  rw[Qq _ (by omega)];have:((b:Int)*2^(8*k))=((b*256^k:Nat):Int):=by rw[Ag];norm_cast
  rw[this,Qq _ hx]
 rw[e1,u64_or_nat _ _ (by omega) hx]
 congr 1
 rw[Nat.or_comm,nat_join (8*k) _ _ (by rw[Ag];exact Nat.mul_mod_left _ _) (by rw[<-Ag];exact hV),Nat.add_comm,Nat.mul_comm]
theorem mB (s:ByteArray) (k:Nat) (h:k<s.size) (h8:s.size<=8):
 bits BinOp.or IntKind.u64 (ku ((L s).take k):Int) (IntKind.u64.wrap (IntKind.u64.wrap (s[k].toNat:Int)*2^(8*k)))=(ku ((L s).take (k+1)):Int):=by
 have hl:k<(L s).length:=by rw[bZ];exact h
 have hV:=zK ((L s).take k);have hlen:((L s).take k).length=k:=by simp;omega
 rw[hlen]at hV;rw[Af _ _ hl,<-get_at s k h];exact Wm _ _ _ hV s[k].toNat_lt (by omega)
theorem Jk (a b:List UInt8):B a++B b=B (a++b):=by
 unfold B;rw[ByteArray.mk_append_mk]
theorem dA (s t:ByteArray):s++t=B (L s++L t):=by rw[<-Jk,SN,SN]
open Go.RowKit
theorem Wn (s:ByteArray) (w:World) (h:s.size<=8):
 Calls prog 218 #[σ s] w λe w'=>e=aG (τ #[ι .u64 (ku (L s)),ι J 0])/\w=w':=by
 have hd:decide (8<s.size)=false:=by simp;omega
 have hd':decide (8<(s.size:Int))=false:=by simp;omega
 go_enter func218,ntmps218
 go_wp2
 go_loop [2,10] (λv i=>∃k:Nat,k<=s.size/\i=ι J k/\v=ι .u64 (ku ((L s).take k))) (λ_ i=>s.size-(RowKit.intOf i).toNat)
 case atStart=>exact⟨0,aB _,rfl,rfl⟩
 case round=>
  obtain⟨k,hk,rfl,rfl⟩:=hrel
  by_cases hlt:k<s.size
  ·have HS:=U (mB s k hlt h)
   go_wp2
   go_round
   case rel=>exact⟨k+1,by omega,by go_num,by rw[HS.o]⟩
   case measure=>simp[RowKit.intOf];omega
  ·go_wp2
   go_ret2;refine⟨?_,rfl⟩;rw[List.take_of_length_le (by rw[bZ];omega)]
   rfl
theorem mC:(prog.info? 5).map (λi=>(i.zero,i.size,i.bytes))=some (some (ι aF 0),1,1):=by kernel_rfl
theorem oO (n:Nat) (hn:n<=1099511627776) (w:World):(Instr.makeSlice 122 (ι J (n:Int)) (ι J (n:Int))).run prog w=
 .ok (θ (some w.heap.size) n n) (w.alloc (aH (madeCells #[ι aF 0] n) 5)):=by
 obtain⟨i0,hi,hz0,hz1,hz2⟩:=info_parts mC;have h:=run_make (P:=prog) w 122 5 i0 (ι aF 0) underlying122 hi hz0 J J (n:Int) (n:Int) (by omega) (Int.le_refl _) (by rw[hz2];omega) (by omega)
 simpa[hz1,Value.cells]using h
theorem vv (w:World) (b cap:Nat) (l:List UInt8) (f:Nat->Value) (hr:w.rowIs b 5 l.length f) (hf:∀j (h:j<l.length),f j=ι aF (l[j].toNat:Int)):
 (convert 122 9 (θ (some b) l.length cap)).run prog w=.ok (σ (B l)) w:=
 run_convert_bytes_back w 122 9 5 ⟨b,0,none⟩ cap l underlying122 underlying5 underlying9 (λj hj=>by
  have e1:((⟨b,0,none⟩:Addr).add j)=⟨b,j,none⟩:=by unfold Addr.add;simp;omega
  rw[e1,hr.cell hj,hf j hj])
def nH (v k:Nat) (j:Nat):Value:=if j<k then ι aF ((v/256^j%256:Nat):Int)else ι aF 0
theorem Jm (v n j:Nat) (h:j<(eu v n).length):nH v n j=ι aF ((eu v n)[j].toNat:Int):=by
 have hj:j<n:=by rw[cu]at h;exact h
 unfold nH;rw[if_pos hj];simp only[eu,List.getElem_map,List.getElem_range];rw[UInt8.toNat_ofNat',Nat.mod_eq_of_lt (Nat.mod_lt _ (by decide))]
theorem byte_of (v k:Nat):IntKind.u8.wrap ((v:Int)/2^(8*k))=((v/256^k%256:Nat):Int):=by
 have e:((v:Int)/2^(8*k))=((v/256^k:Nat):Int):=by rw[Ag];norm_cast
 rw[e,IntKind.wrap_u8']
 generalize v/256^k=x
 omega
theorem SQ {W:World} {b v k n:Nat} (hr:W.rowIs b 5 n (nH v k)):(W.setCell ⟨b,k,none⟩ (ι aF (IntKind.u8.wrap ((v:Int)/2^(8*k))))).rowIs b 5 n (nH v (k+1)):=
 (hr.set k _).congr (λj _=>by
  unfold nH
  by_cases e:j=k
  ·subst e;rw[if_pos rfl,if_pos (by omega),byte_of]
  ·rw[if_neg e]
   by_cases e2:j<k
   ·rw[if_pos e2,if_pos (by omega)]
   ·rw[if_neg e2,if_neg (by omega)])
theorem uG (v n:Nat) (w:World) (hn:n<=8) (hv:v<256^n):
 Calls prog 121 #[ι .u64 v,ι J n] w λe w'=>e=aG (τ #[σ (B (eu v n)),ι J 0])/\Below w.heap.size w w':=by
 have hmk:=λW=>oO n (by omega) W;have t1:decide ((n:Int)<0)=false:=by simp
 have t2:decide (8<n)=false:=by simp;omega
 have hz:((v:Int)/2^(8*n))=0:=by
  have e:((v:Int)/2^(8*n))=((v/256^n:Nat):Int):=by rw[Ag];norm_cast
  rw[e,Nat.div_eq_of_lt hv];rfl
 clear hv;have t2':decide (8<(n:Int))=false:=by simp;omega
 have r0:=World.rowIs_made w (ι aF 0) n 5;have R0:=U (r0.congr (g:=nH v 0) (λj _=>by simp[nH]));clear r0;have B0:=U ((aj w.heap.size w).alloc (ah _) (aH (madeCells #[ι aF 0] n) 5));have t3:(decide (n<8)=false/\decide ((n:Int)<8)=false)\/(decide (n<8)=true/\decide ((n:Int)<8)=true):=by simp;omega
 rcases t3 with⟨t3,t4⟩|⟨t3,t4⟩
 all_goals
  go_enter func121,ntmps121
  go_wp2
  have HZ:=U hz;clear hz
  go_loopw [28] (λi wr=>∃k:Nat,k<=n/\i=ι J k/\wr.rowIs w.heap.size 5 n (nH v k)/\Below w.heap.size w wr) (λi _=>n-(RowKit.intOf i).toNat)
  case atStart=>exact⟨0,aB _,rfl,R0.o,B0.o⟩
  case round=>
   obtain⟨k,hk,rfl,hr,hB⟩:=hrel
   by_cases hlt:k<n
   ·have hc:=hr.cell hlt
    have hf:=hr.frozen k;have RS:=U (SQ hr);clear hr
    go_wp2
    go_roundw
    case rel=>exact⟨k+1,by omega,by go_num,RS.o,hB.setCell (by simp) _⟩
    case measure=>simp[RowKit.intOf];omega
   ·obtain rfl:k=n:=by omega
    have hback:=vv wr w.heap.size k (eu v k) _ (by rw[cu];exact hr) (λj h=>Jm v k j h);rw[cu]at hback;clear hr
    go_wp2
    go_ret2;exact⟨rfl,hB⟩
theorem mL (W:World) (x:Int) (h0:0<=x) (h1:x<256):(convert 122 9 (θ (some W.heap.size) 1 1)).run prog (W.alloc (aH #[ι aF x] 5))=
 .ok (σ (B [UInt8.ofNat x.toNat])) (W.alloc (aH #[ι aF x] 5)):=by
 have h:=vv (W.alloc (aH #[ι aF x] 5)) W.heap.size 1 [UInt8.ofNat x.toNat] (λ_=>ι aF x) (World.rowIs_alloc W #[ι aF x] 5 _ (λi hi=>by
  have:i=0:=by simp at hi;omega
  subst this;rfl)) (λj hj=>by
  have:j=0:=by simp at hj;omega
  subst this;simp only[List.getElem_cons_zero];rw[UInt8.toNat_ofNat',Nat.mod_eq_of_lt (by omega)]
  congr 1;omega)
 exact h
theorem mH (s:ByteArray) (n:Nat):s.extract 0 n=B ((L s).take n):=by
 apply iL
 rw[iy];unfold L;obtain⟨⟨l⟩⟩:=s;rw[ByteArray.extract_mk]
 simp
theorem nI (s:ByteArray) (n:Nat):s.extract n s.size=B ((L s).drop n):=by
 apply iL
 rw[iy];unfold L;have h:=bZ s;unfold L at h;obtain⟨⟨l⟩⟩:=s;rw[ByteArray.extract_mk]
 simp
 rw[List.take_of_length_le]
 simp at h⊢
 omega
theorem below_drewN (w:World) (m B:Nat):Below B w (w.drewN m):=⟨rfl,rfl,rfl,ah _,λ_ _=>rfl⟩
theorem vw {s:ByteArray} (h:0<s.size):s.toList.isEmpty=false:=by
 have e:s.toList=s.data.toList:=ByteArray.toList_eq s;have e2:=bZ s;unfold L at e2;rw[e];cases hl:s.data.toList with
 |nil=>rw[hl]at e2;simp at e2;omega
 |cons a l=>rfl
theorem Ah {s:ByteArray} (h:s.size=0):s=⟨#[]⟩:=iL (List.eq_nil_of_length_eq_zero (by rw[bZ];exact h))
theorem Wo (s:ByteArray) (w:World) (h:s.size<=255):
 Calls prog 326 #[σ s] w λe w'=>e=aG (τ #[σ (B (UInt8.ofNat s.size::L s)),ι J 0])/\Below w.heap.size w w':=by
 have hone:=mL w (s.size:Int) (by omega) (by omega);have hz:(B [UInt8.ofNat s.size]).size+s.size<=256:=by rw[aV];simp;omega
 have E:=U (show B [UInt8.ofNat s.size]++s=B (UInt8.ofNat s.size::L s)by rw[dA];rfl)
 go_enter func326,ntmps326
 go_wp2
 go_ret2;refine⟨?_,(aj _ _).alloc (ah _) _⟩;rw[<-E.o]
 rfl
def jh (n:Nat):Nat->List UInt8->List (List UInt8)
 |0,_=>[]
 |f+1,l=>if l.length=0 then[]else l.take n::jh n f (l.drop n)
def chunks (n:Nat) (l:List UInt8):List (List UInt8):=jh n l.length l
theorem qg (n:Nat) (hn:1<=n):∀(f g:Nat) (l:List UInt8),l.length<=f->l.length<=g->jh n f l=jh n g l
 |0,0,_,_,_=>rfl
 |0,g+1,l,h1,_=>by
  have:l.length=0:=by omega
  simp[jh,this]
 |f+1,0,l,_,h2=>by
  have:l.length=0:=by omega
  simp[jh,this]
 |f+1,g+1,l,h1,h2=>by
  rw[jh,jh]
  by_cases h:l.length=0
  ·rw[if_pos h,if_pos h]
  ·rw[if_neg h,if_neg h,qg n hn f g (l.drop n) (by rw[List.length_drop];omega) (by rw[List.length_drop];omega)]
theorem Nh (n:Nat):chunks n []=[]:=rfl
theorem Jo (n:Nat) (hn:1<=n) (l:List UInt8) (h:l.length≠0):chunks n l=l.take n::chunks n (l.drop n):=by
 unfold chunks;rw[<-qg n hn (l.length-1+1) l.length l (by omega) (by omega),jh,if_neg h,qg n hn (l.length-1) (l.drop n).length (l.drop n) (by rw[List.length_drop];omega) (ah _)]
def vC (s:ByteArray) (n:Nat) (ps:List ByteArray) (t:ByteArray):Prop:=ps.map L++chunks n (L t)=chunks n (L s)/\ps.length+t.size<=s.size
theorem CZ (s:ByteArray) (n:Nat):vC s n [] s:=⟨rfl,by simp⟩
theorem vE {s t:ByteArray} {n:Nat} {ps:List ByteArray} (hn:1<=n) (h:vC s n ps t) (h0:0<t.size) (k:Nat) (hk:k=min n t.size):vC s n (ps++[t.extract 0 k]) (t.extract k t.size):=by
 have hl:=bZ t
 have e1:(L t).take k=(L t).take n:=by
  rw[hk]
  rcases Nat.le_total n t.size with h1|h1
  ·rw[Nat.min_eq_left h1]
  ·rw[Nat.min_eq_right h1,List.take_of_length_le (by omega),List.take_of_length_le (by omega)]
 have e2:(L t).drop k=(L t).drop n:=by
  rw[hk]
  rcases Nat.le_total n t.size with h1|h1
  ·rw[Nat.min_eq_left h1]
  ·rw[Nat.min_eq_right h1,List.drop_of_length_le (by omega),List.drop_of_length_le (by omega)]
 refine⟨?_,?_⟩
 ·rw[<-h.1,Jo n hn (L t) (by omega),List.map_append,List.append_assoc,nI,mH,iy,e2]
  simp only[List.map_cons,List.map_nil,List.singleton_append,iy,e1]
 ·have h2:=h.2
  rw[nI,aV,List.length_drop,List.length_append,bZ];simp only[List.length_singleton];omega
theorem Jp {s:ByteArray} {n:Nat} {ps:List ByteArray} (h:vC s n ps ⟨#[]⟩):ps=(chunks n (L s)).map B:=by
 have e:=h.1;have:L ⟨#[]⟩=[]:=rfl;rw[this,Nh,List.append_nil]at e;rw[<-e,List.map_map];have:(B∘L)=id:=by funext x;rfl
 rw[this,List.map_id]
def Strs (w:World) (v:Value) (ps:List ByteArray):Prop:=
 (v=θ none 0 0/\ps=[])\/(∃b off cap,v=θ (some ⟨b,off,none⟩) ps.length cap/\(ps.length<=8796093022208/\ps.length<=cap)/\b<w.heap.size/\∀j (h:j<ps.length),w.cell? ⟨b,off+j,none⟩=some (σ ps[j]))\/∃a cap,v=θ (some a) 0 cap/\ps=[]
theorem Wp {w:World} {base:Nat} {v:Value} {ps:List ByteArray} (h:w.ownsRow base 9 1 v ps.length (ps.map Value.string)) (hl:ps.length<=8796093022208):Strs w v ps:=by
 have h0:=h
 rcases h.2 with⟨e,e0⟩|⟨g,cap,cur,rfl,hb,hg,hcap,_⟩
 ·exact .inl ⟨e,List.eq_nil_of_length_eq_zero e0⟩
 ·refine .inr (.inl ⟨g,0,cap,rfl,⟨hl,hcap⟩,(Array.getElem?_eq_some_iff.1 hg).1,λj hj=>?_⟩)
  have:=World.ownsRow.cellAt h0 j (by omega);rw[Nat.zero_add,this]
  simp[hj]
theorem vG:(prog.info? 9).map (λi=>(i.zero,i.size,i.bytes))=some (some (σ ⟨#[]⟩),1,16):=by kernel_rfl
def Ai:Value->Nat
 |σ t=>t.size
 |_=>0
theorem Jq {w:World} {base:Nat} {v:Value} {ps:List ByteArray} {x:ByteArray} (h:w.ownsRow base 9 1 v (ps.length+1) (ps.map Value.string++[σ x])):w.ownsRow base 9 1 v (ps++[x]).length ((ps++[x]).map Value.string):=by
 simpa using h
theorem MD (t:ByteArray):t.extract 0 t.size=t:=by rw[mH,List.take_of_length_le (by rw[bZ];exact ah _),SN]
theorem mN (t:ByteArray):t.extract t.size t.size=ByteArray.empty:=by rw[nI,List.drop_of_length_le (by rw[bZ];exact ah _)];rfl
def DW (s:ByteArray) (n:Nat) (w:World) (e:Ending) (w':World):Prop:=
 ∃v,e=aG (τ #[v,ι J 0])/\Strs w' v ((chunks n (L s)).map B)/\Below w.heap.size w w'
theorem Wq (s:ByteArray) (n:Nat) (w:World) (hs:s.size<=16384) (hn:1<=n) (hn2:n<=9223372036854775807):
 Calls prog 228 #[σ s,ι J n] w (DW s n w):=by
 obtain⟨i0,hi,hz0,hz1,hz2⟩:=info_parts vG;have h1:decide ((n:Int)<1)=false:=by simp;omega
 have h1':decide (n<1)=false:=by simp;omega
 go_enter func228,ntmps228
 go_wp2
 go_loopw [0,4] (λa v wr=>∃(t:ByteArray) (ps:List ByteArray),a=σ t/\wr.ownsRow w.heap.size 9 1 v ps.length (ps.map Value.string)/\vC s n ps t/\Below w.heap.size w wr) (λa _ _=>Ai a)
 case atStart=>exact⟨s,[],rfl,World.ownsRow_nil _ _ _ _,CZ s n,aj _ _⟩
 case round=>
  obtain⟨t,ps,rfl,hown,hsp,hB⟩:=hrel
  by_cases h0:0<t.size
  ·have hne:=vw h0
   have hle:=hsp.2
   by_cases hmin:n<=t.size
   ·have HS:=U (vE hn hsp h0 n (by omega))
    clear hsp;have q1:(0:Int)<=(n:Int):=by omega
    have q2:(n:Int)<=(t.size:Int):=by omega
    have z:Ai (σ (t.extract n t.size))<Ai (σ t):=by
     show(t.extract n t.size).size<t.size;rw[nI,aV,List.length_drop,bZ];omega
    have HZ:=U z;clear z
    go_wp2
    go_region_law ((refine step_append_lies _ rfl _ _ 148 rfl w.heap.size 9 i0 (σ ⟨#[]⟩) 1 16 underlying148 hi hz0 hz1 hz2 rfl (by decide) _ ps.length (ps.map Value.string) rfl ((hown.alloc _).drew) ⟨wr.heap.size,0,none⟩ 1 1 [σ (t.extract 0 n)] rfl rfl (cell_one_new _ _ _) (by simp[Value.oneCell']) (by decide) (by unfold maxLen;omega) (by omega) (by have:=hB.size;simp;omega) _ rfl ?_;intro g cap w1 hown1 hgrow hat hlt))
    have hB1:Below w.heap.size w w1:=Below.grown (hB.alloc hB.size (aH #[σ (t.extract 0 n)] 9)).drew hgrow (by have:=hB.size;simp;omega) (λk e=>(hown.lt k e).1)
    go_wp2
    go_roundw
    case rel=>((repeat apply Exists.intro);exact⟨⟨_,_,rfl,Jq hown1,HS.o,hB1⟩,rfl⟩)
    case measure=>exact HZ.o
   ·have HS:=U (vE hn hsp h0 t.size (by omega))
    clear hsp;have q1:(0:Int)<=(t.size:Int):=by omega
    have q2:(t.size:Int)<=(t.size:Int):=by omega
    have z:Ai (σ (t.extract t.size t.size))<Ai (σ t):=by
     show(t.extract t.size t.size).size<t.size;rw[nI,aV,List.length_drop,bZ];omega
    have HZ:=U z;clear z;have x1:=MD t;have x2:=mN t;rw[x1,x2]at HS;rw[x2]at HZ;clear x1 x2
    go_wp2
    go_region_law ((refine step_append_lies _ rfl _ _ 148 rfl w.heap.size 9 i0 (σ ⟨#[]⟩) 1 16 underlying148 hi hz0 hz1 hz2 rfl (by decide) _ ps.length (ps.map Value.string) rfl ((hown.alloc _).drew) ⟨wr.heap.size,0,none⟩ 1 1 [σ t] rfl rfl (cell_one_new _ _ _) (by simp[Value.oneCell']) (by decide) (by unfold maxLen;omega) (by omega) (by have:=hB.size;simp;omega) _ rfl ?_;intro g cap w1 hown1 hgrow hat hlt))
    have hB1:Below w.heap.size w w1:=Below.grown (hB.alloc hB.size (aH #[σ t] 9)).drew hgrow (by have:=hB.size;simp;omega) (λk e=>(hown.lt k e).1)
    go_wp2
    go_roundw
    case rel=>((repeat apply Exists.intro);exact⟨⟨_,_,rfl,Jq hown1,HS.o,hB1⟩,rfl⟩)
    case measure=>exact HZ.o
  ·have e:=Ah (s:=t) (by omega)
   subst e;have HE:=U (Jp hsp);have hle:=hsp.2;clear hsp
   go_wp2
   go_ret2;refine⟨_,rfl,?_,hB⟩;rw[<-HE.o];exact Wp hown (by have:=hs;omega)
