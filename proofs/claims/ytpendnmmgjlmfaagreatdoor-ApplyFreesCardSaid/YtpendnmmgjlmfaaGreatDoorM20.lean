/- Lemmas. -/
import Derived.Test.YtpendnmmgjlmfaaGreatDoorM14
import Derived.Deep.RegionLawGrows
import Derived.Deep.CutBlock
import Derived.Deep.CutRange
set_option linter.unusedVariables false
set_option linter.unusedSimpArgs false
namespace Go.Proofs.YtpendnmmgjlmfaaGreatDoor
open Go.RowKit Go.Shelf Go.Maps
open Go.Proofs.Tryz
open IntKind renaming i64→J
open Value renaming pointer→G,int->ι,string->σ,slice->θ
open Ending renaming returned→aG
open Obj renaming cells→aH
set_option maxRecDepth 100000
set_option maxHeartbeats 2000000
namespace mU
open Oct Dev Wz
def rT (W:World) (wk j gen g len cap:Nat):Prop:=aN W wk 246 #[j,ι .u64 gen,θ (some g) len cap]
theorem keepW {w W W':World} {j wk g len cap fr gen:Nat} {b:dN} (hjl:j<w.heap.size) (hwl:wk<w.heap.size)
 (h:W.cell? j=some b.p/\W.cell? ⟨j,1,none⟩=some (ι J fr)/\W.cell? wk=some j/\W.cell? ⟨wk,1,none⟩=some (ι .u64 gen)/\W.cell? ⟨wk,2,none⟩=some (θ (some g) len cap)/\aR (λc=>c=b.p\/c=b.m) w W) (T:aR (λc=>c=b.p\/c=b.m) W W') (hj:j≠b.p/\j≠b.m) (hw:wk≠b.p/\wk≠b.m):
 W'.cell? j=some b.p/\W'.cell? ⟨j,1,none⟩=some (ι J fr)/\W'.cell? wk=some j/\W'.cell? ⟨wk,1,none⟩=some (ι .u64 gen)/\W'.cell? ⟨wk,2,none⟩=some (θ (some g) len cap)/\aR (λc=>c=b.p\/c=b.m) w W':=by
 obtain⟨h1,h2,h3,h4,h5,h6⟩:=h;have ej:W'.heap[j]? =W.heap[j]? :=T.block _ (aA hjl h6.size) (λe=>e.elim hj.1 hj.2);have ew:W'.heap[wk]? =W.heap[wk]? :=T.block _ (aA hwl h6.size) (λe=>e.elim hw.1 hw.2);exact⟨(jd ej).trans h1,(jd ej).trans h2,(jd ew).trans h3,(jd ew).trans h4,(jd ew).trans h5,h6.trans T⟩
theorem Yq (wk j g fr n lF gen len cap k:Nat) (b:dN) (hard:List ByteArray) (P:Wait) (w:World) (hJ:eF w j b fr n lF) (hW:rT w wk j gen g len cap) (hD:DV w b hard P k) (hfr:fr<hard.length) (hP:P fr=none) (hg:gen<18446744073709551616) (hl:len<65536) (hk:k<1099511627776) (hj:j≠b.p/\j≠b.m) (hw:wk≠b.p/\wk≠b.m):
 Calls prog 141 #[wk] w λe w'=>e=aG (ι J 0)/\DV w' b hard (zF P fr (mV gen len)) (k+1)/\aR (λc=>c=b.p\/c=b.m) w w':=by
 have HE:=U (λW=>KL gen len W hg hl);have WR:=U (λW (h:DV W b hard P k)=>vU (hard:=hard) (P:=P) fr (mV gen len) W h hfr hP (qC _ _) hk);unfold eF at hJ;unfold rT at hW;have HD:=U hD;have aK:=hJ.cell;have Jl:=hJ.lt;have X:=hW.cell;have Xl:=hW.lt;clear hJ hW hD
 generalize mV gen len=hd at*
 go_enter func141,ntmps141
 go_wp2_with fail
 go_region_held3 (λW=>W.cell? j=some b.p/\W.cell? ⟨j,1,none⟩=some (ι J fr)/\W.cell? wk=some j/\W.cell? ⟨wk,1,none⟩=some (ι .u64 gen)/\W.cell? ⟨wk,2,none⟩=some (θ (some g) len cap)/\aR (λc=>c=b.p\/c=b.m) w W)
  (first|exact keepW Jl Xl (by assumption) (aR.of_below b9) hj hw|exact keepW Jl Xl (by assumption) t9 hj hw|exact⟨(aK 0),(aK 1),(X 0),(X 1),(X 2),aR.of_below (aj _ _).drew⟩|exact⟨(aK 0),(aK 1),(X 0),(X 1),(X 2),aR.of_below (aj _ _)⟩)
  (first
   |(go_at_call 221;refine(HE.o _).mono ?_;rintro e w9 ⟨rfl,b9⟩;have AK:=U (HD.o.later ((aj _ w).drew.trans b9)))
   |(go_at_call 67;refine(WR.o _ AK.o).mono ?_;rintro e w9 ⟨rfl,Yr,t9⟩))
 rename_i hS
 have T9:=hS.2.2.2.2.2;clear hS
 go_wp2
 go_ret;exact⟨rfl,Yr,T9⟩
theorem Yt (wk j g fr n lF gen len cap k:Nat) (b:dN) (hard:List ByteArray) (P:Wait) (w:World) (hJ:eF w j b fr n lF) (hW:rT w wk j gen g len cap) (hD:DV w b hard P k) (hfr:fr<hard.length) (hP:P fr=none) (hg:gen<18446744073709551616) (hk:k<1099511627776) (hj:j≠b.p/\j≠b.m) (hw:wk≠b.p/\wk≠b.m):
 Calls prog 136 #[wk] w λe w'=>e=aG (ι J 0)/\DV w' b hard (zF P fr (mV gen 0)) (k+1)/\aR (λc=>c=b.p\/c=b.m) w w':=by
 have HE:=U (λW=>KL gen 0 W hg (by omega));have WR:=U (λW (h:DV W b hard P k)=>vU (hard:=hard) (P:=P) fr (mV gen 0) W h hfr hP (qC _ _) hk);unfold eF at hJ;unfold rT at hW;have HD:=U hD;have aK:=hJ.cell;have Jl:=hJ.lt;have X:=hW.cell;have Xl:=hW.lt;clear hJ hW hD
 generalize mV gen 0=hd at*
 go_enter func136,ntmps136
 go_wp2_with fail
 go_region_held3 (λW=>W.cell? j=some b.p/\W.cell? ⟨j,1,none⟩=some (ι J fr)/\W.cell? wk=some j/\W.cell? ⟨wk,1,none⟩=some (ι .u64 gen)/\W.cell? ⟨wk,2,none⟩=some (θ (some g) len cap)/\aR (λc=>c=b.p\/c=b.m) w W)
  (first|exact keepW Jl Xl (by assumption) (aR.of_below b9) hj hw|exact keepW Jl Xl (by assumption) t9 hj hw|exact⟨(aK 0),(aK 1),(X 0),(X 1),(X 2),aR.of_below (aj _ _).drew⟩|exact⟨(aK 0),(aK 1),(X 0),(X 1),(X 2),aR.of_below (aj _ _)⟩)
  (first
   |(go_at_call 221;refine(HE.o _).mono ?_;rintro e w9 ⟨rfl,b9⟩;have AK:=U (HD.o.later ((aj _ w).drew.trans b9)))
   |(go_at_call 67;refine(WR.o _ AK.o).mono ?_;rintro e w9 ⟨rfl,Yr,t9⟩))
 rename_i hS
 have T9:=hS.2.2.2.2.2;clear hS
 go_wp2
 go_ret;exact⟨rfl,Yr,T9⟩
theorem OJ {W:World} {c d:Nat} {t t':TypeId} {cs cs':Array Value} (h:aN W c t cs) (h':aN W d t' cs') (ht:t≠t'):c≠d:=λe=>by
 subst e;have h1:W.heap[c]? =some (aH cs t (0,0)):=h;have h2:W.heap[c]? =some (aH cs' t' (0,0)):=h';rw[h1]at h2;cases h2;exact ht rfl
theorem bY.box {W W':World} {b:dN} {hard:List ByteArray} {pd:iF} {k c:Nat} {t:TypeId} {cs:Array Value} (h:bY W b hard pd k) (hX:aN W c t cs) (h1:t≠9) (h2:t≠150) (T:aR (λx=>x=c) W W'):bY W' b hard pd k:=by
 have hX':W.heap[c]? =some (aH cs t (0,0)):=hX;have key:∀(d:Nat) (cs':Array Value) (t':TypeId),t≠t'->W.heap[d]? =some (aH cs' t' (0,0))->W'.heap[d]? =W.heap[d]? :=λd cs' t' ht hd=>T.block d (Array.getElem?_eq_some_iff.1 hd).1 (λe=>OJ hX hd ht e.symm);obtain⟨⟨cap,g0,g1⟩,g2,g3,g4,g5,g6⟩:=h
 have str:∀{g:Nat} {l:List ByteArray},eZ W g l->eZ W' g l:=λhs=>by
  obtain⟨cs',c1,c2⟩:=hs;exact⟨cs',(key _ _ _ h1 c1).trans c1,c2⟩
 refine⟨⟨cap,g0,(key _ _ _ h2 g1).trans g1⟩,str g2,g3.block (T.block _ g3.lt (λe=>g3.ne hX' e.symm)),λx e hx=>⟨str (g4 x e hx).1,(g4 x e hx).2⟩,g5,g6⟩
theorem DV.box {W W':World} {b:dN} {hard:List ByteArray} {P:Wait} {k c:Nat} {t:TypeId} {cs:Array Value} (h:DV W b hard P k) (hX:aN W c t cs) (h1:t≠9) (h2:t≠150) (T:aR (λx=>x=c) W W'):DV W' b hard P k:=by
 obtain⟨pd,g1,g2⟩:=h;exact⟨pd,bY.box g1 hX h1 h2 T,g2⟩
theorem DV.ne {W:World} {b:dN} {hard:List ByteArray} {P:Wait} {k c:Nat} {t:TypeId} {cs:Array Value} (h:DV W b hard P k) (hX:aN W c t cs) (h1:t≠9) (h2:t≠150):c≠b.p/\c≠b.m/\c≠b.g:=by
 obtain⟨pd,g1,_⟩:=h;have hX':W.heap[c]? =some (aH cs t (0,0)):=hX;obtain⟨cap,_,gd⟩:=g1.dev;obtain⟨cs',c1,_⟩:=g1.row;exact⟨OJ hX gd h2,g1.map.ne hX',OJ hX c1 h1⟩
theorem Yu (n:Nat) (h:n<=100000):IntKind.i64.wrap (n:Int)=n:=by
 have h1:(2:Int)^IntKind.i64.bits=18446744073709551616:=by decide
 have h2:(2:Int)^(IntKind.i64.bits-1)=9223372036854775808:=by decide
 unfold IntKind.wrap;rw[h1,h2];simp only[];rw[Int.emod_eq_of_lt (by omega) (by omega),if_neg];intro q
 simp at q
 omega
theorem vZ {S:Nat->Prop} {W W':World} (T:aR S W W') {c i:Nat} (hl:c<W.heap.size) (hn:¬S c) {v:Value} (h:W.cell? ⟨c,i,none⟩=some v):W'.cell? ⟨c,i,none⟩=some v:=(jd (T.block _ hl hn)).trans h
theorem aN.qR {S:Nat->Prop} {W W':World} {c:Nat} {t:TypeId} {cs:Array Value} (h:aN W c t cs) (T:aR S W W') (hn:¬S c):aN W' c t cs:=(T.block _ h.lt hn).trans h
theorem keepR {w W W':World} {at_ wb wk j:Nat} {va:Value} {b:dN} (la:at_<w.heap.size) (lb:wb<w.heap.size) (lw:wk<w.heap.size) (lj:j<w.heap.size)
 (h:W.cell? at_=some va/\W.cell? wb=some wk/\W.cell? wk=some j/\W.cell? j=some b.p/\aR (λc=>c=b.p\/c=b.m) w W) (T:aR (λc=>c=b.p\/c=b.m) W W')
 (na:at_≠b.p/\at_≠b.m) (nb:wb≠b.p/\wb≠b.m) (nw:wk≠b.p/\wk≠b.m) (nj:j≠b.p/\j≠b.m):
 W'.cell? at_=some va/\W'.cell? wb=some wk/\W'.cell? wk=some j/\W'.cell? j=some b.p/\aR (λc=>c=b.p\/c=b.m) w W':=by
 obtain⟨h1,h2,h3,h4,h5⟩:=h;have hs:=h5.size;exact⟨vZ T (by omega) (λe=>e.elim na.1 na.2) h1,vZ T (by omega) (λe=>e.elim nb.1 nb.2) h2,vZ T (by omega) (λe=>e.elim nw.1 nw.2) h3,vZ T (by omega) (λe=>e.elim nj.1 nj.2) h4,h5.trans T⟩
theorem qj (at_ wb wk j g fr n lF gen len cap k Na:Nat) (s:ByteArray) (b:dN) (hard:List ByteArray) (P:Wait) (w:World) (hA:aN w at_ 3 #[ι J Na]) (hWB:aN w wb 244 #[wk]) (hJ:eF w j b fr n lF) (hW:rT w wk j gen g len cap) (hD:DV w b hard P k) (hat:Na<hard.length) (hP:P Na=none) (hs:s.size<=64) (hk:k<1099511627776):
 Calls prog 225 #[σ s,at_,wb] w λe w'=>e=aG (ι J 0)/\DV w' b hard (zF P Na (kW s 64)) (k+1)/\aN w' at_ 3 #[ι J (Na+1:Nat)]/\aR (λc=>c=at_\/c=b.p\/c=b.m) w w':=by
 have hlen:=hD.len;have PD:=U (λW=>XU s 64 W (by omega) hs)
 have h64:(kW s 64).size=64:=by
  unfold kW;rw[aV,List.length_append,List.length_replicate,bZ];omega
 have WR:=U (λW (h:DV W b hard P k)=>vU (hard:=hard) (P:=P) Na (kW s 64) W h hat hP h64 hk)
 generalize kW s 64=ps at*
 unfold eF at hJ;unfold rT at hW;have nA:=hD.ne hA (by decide) (by decide);have nB:=hD.ne hWB (by decide) (by decide);have nW:=hD.ne hW (by decide) (by decide);have nJ:=hD.ne hJ (by decide) (by decide);have eAB:wb≠at_:=OJ hWB hA (by decide);have eAW:wk≠at_:=OJ hW hA (by decide);have eAJ:j≠at_:=OJ hJ hA (by decide);have HA:=U hA;have HB:=U hWB;have HJ:=U hJ;have HW:=U hW;have HD:=U hD;clear hA hWB hJ hW hD
 go_enter func225,ntmps225
 go_wp2_with fail;refine(PD.o _).mono ?_;rintro e w1 ⟨rfl,b1⟩;have hA1:=HA.o.later b1;have HA1:=U hA1;have A0:=hA1.cell 0;simp only[au,av,ay]at A0;have Al:=hA1.lt;have F0:=hA1.free 0;have T2:aR (λc=>c=at_) w1 (w1.setCell ⟨at_,0,none⟩ (ι J ((Na:Int)+1))):=aR.set _ rfl;have hA2:aN (w1.setCell ⟨at_,0,none⟩ (ι J ((Na:Int)+1))) at_ 3 #[ι J ((Na:Int)+1)]:=hA1.set 0 _;have hB2:=aN.qR (HB.o.later b1) T2 eAB;have hW2:=aN.qR (HW.o.later b1) T2 eAW;have hJ2:=aN.qR (HJ.o.later b1) T2 eAJ;have HA2:=U hA2;have HD2:=U (DV.box (HD.o.later b1) hA1 (by decide) (by decide) T2);have HT2:=U ((aR.of_below (S:=λc=>c=at_\/c=b.p\/c=b.m) b1).trans (T2.mono (λc e=>.inl e)));have P0:=hA2.cell 0;simp only[au,av,ay]at P0;have Pl:=hA2.lt;have Q0:=hB2.cell 0;simp only[au,av,ay]at Q0;have Ql:=hB2.lt;have X0:=hW2.cell 0;have X1:=hW2.cell 1;have X2:=hW2.cell 2;simp only[au,av,ay]at X0 X1 X2;have Xl:=hW2.lt;have J0:=hJ2.cell 0;have J1:=hJ2.cell 1;have J2:=hJ2.cell 2;have J3:=hJ2.cell 3;have J4:=hJ2.cell 4;simp only[au,av,ay]at J0 J1 J2 J3 J4;have Jl:=hJ2.lt;clear hA1 hA2 hB2 hW2 hJ2 T2 b1;obtain⟨w2,hw2⟩:∃W,w1.setCell ⟨at_,0,none⟩ (ι J ((Na:Int)+1))=W:=⟨_,rfl⟩;rw[hw2]at HA2 HD2 HT2 P0 Q0 X0 X1 X2 J0 J1 J2 J3 J4 Pl Ql Xl Jl;have e0:IntKind.i64.wrap (Na:Int)=Na:=Yu Na (by omega);go_wp2_with fail
 go_region_held3 (λW=>W.cell? at_=some (ι J ((Na:Int)+1))/\W.cell? wb=some wk/\W.cell? wk=some j/\W.cell? j=some b.p/\aR (λc=>c=b.p\/c=b.m) w2 W)
  (first|exact keepR Pl Ql Xl Jl (by assumption) t9 ⟨nA.1,nA.2.1⟩ ⟨nB.1,nB.2.1⟩ ⟨nW.1,nW.2.1⟩ ⟨nJ.1,nJ.2.1⟩|exact⟨P0,Q0,X0,J0,aR.of_below (aj _ _).drew⟩|exact⟨P0,Q0,X0,J0,aR.of_below (aj _ _)⟩)
  (first
   |(go_at_call 67;with_reducible refine(WR.o _ (HD2.o.later (aj _ _).drew)).mono ?_;rintro e w9 ⟨rfl,Yr,t9⟩))
 clear e0
 rename_i hS
 obtain⟨h1,_,_,_,h5⟩:=hS
 go_wp2
 go_ret;refine⟨rfl,Yr,?_,HT2.o.trans (h5.mono (λc e=>.inr e))⟩;have e1:((Na+1:Nat):Int)=(Na:Int)+1:=by omega
 rw[e1];exact aN.qR HA2.o h5 (λe=>e.elim nA.1 nA.2.1)
def lZ (P:Wait) (l:Puts):Wait:=l.foldl (λP x=>zF P x.1 x.2) P
theorem UE (P:Wait) (l:Puts) (x:Nat×ByteArray):lZ P (l++[x])=zF (lZ P l) x.1 x.2:=by
 unfold lZ;rw[List.foldl_append]
 rfl
theorem zX {q:Nat}:∀(l:Puts) (P:Wait),(∀x∈l,x.1≠q)->lZ P l q=P q
 |[],P,_=>rfl
 |x::l,P,h=>by
  have e:lZ P (x::l)=lZ (zF P x.1 x.2) l:=rfl;rw[e,zX l _ (λy hy=>h y (List.mem_cons_of_mem _ hy))];exact if_neg (Ne.symm (h x (List.mem_cons_self ..)))
theorem keepL {w W W':World} {xb wk j:Nat} {v0 v1:Value} {b:dN} (lx:xb<w.heap.size) (lw:wk<w.heap.size) (lj:j<w.heap.size)
 (h:W.cell? xb=some v0/\W.cell? ⟨xb,1,none⟩=some v1/\W.cell? wk=some j/\W.cell? j=some b.p/\aR (λc=>c=b.p\/c=b.m) w W) (T:aR (λc=>c=b.p\/c=b.m) W W')
 (nx:xb≠b.p/\xb≠b.m) (nw:wk≠b.p/\wk≠b.m) (nj:j≠b.p/\j≠b.m):
 W'.cell? xb=some v0/\W'.cell? ⟨xb,1,none⟩=some v1/\W'.cell? wk=some j/\W'.cell? j=some b.p/\aR (λc=>c=b.p\/c=b.m) w W':=by
 obtain⟨h1,h2,h3,h4,h5⟩:=h;have hs:=h5.size;exact⟨vZ T (by omega) (λe=>e.elim nx.1 nx.2) h1,vZ T (by omega) (λe=>e.elim nx.1 nx.2) h2,vZ T (by omega) (λe=>e.elim nw.1 nw.2) h3,vZ T (by omega) (λe=>e.elim nj.1 nj.2) h4,h5.trans T⟩
theorem jc.qR {S:Nat->Prop} {W W':World} {g:Nat} {l:Puts} (h:jc W g l) (T:aR S W W') (hl:g<W.heap.size) (hn:¬S g):jc W' g l:=h.block (T.block _ hl hn)
theorem Hu (wk j g fr n lF gen cap k:Nat) (l:Puts) (b:dN) (hard:List ByteArray) (P:Wait) (w:World) (hJ:eF w j b fr n lF) (hW:rT w wk j gen g l.length cap) (hL:jc w g l) (hg:g<w.heap.size) (hgn:g≠b.p/\g≠b.m) (hD:DV w b hard P k) (hd:(l.map Prod.fst).Nodup) (hl:∀x∈l,x.1<hard.length/\P x.1=none/\x.2.size=64) (hlen:l.length<=4096) (hk:k+4096<1099511627776):
 Calls prog 135 #[wk] w λe w'=>e=aG (ι J 0)/\DV w' b hard (lZ P l) (k+l.length)/\aR (λc=>c=b.p\/c=b.m) w w':=by
 unfold eF at hJ;unfold rT at hW;have hhl:=hD.len;have nW:=hD.ne hW (by decide) (by decide);have nJ:=hD.ne hJ (by decide) (by decide);have HJ:=U hJ;have HW:=U hW;have HD:=U hD;have HL:=U hL;have X:=hW.cell;have Xl:=hW.lt;clear hJ hW hD hL
 go_enter func135,ntmps135
 go_wp2_with fail
 go_loopw [11] (λc wr=>∃q:Nat,q<=l.length/\c=ι J q/\DV wr b hard (lZ P (l.take q)) (k+q)/\aR (λc=>c=b.p\/c=b.m) w wr) (λc _=>l.length-(intOf c).toNat)
 case atStart=>exact⟨0,aB _,rfl,HD.o,aR.of_below (aj _ _)⟩
 case round=>
  obtain⟨q,hq,rfl,gC,hTr⟩:=hrel
  by_cases hlt:q<l.length
  ·have Rq:=HL.o.qR hTr hg (λe=>e.elim hgn.1 hgn.2)
   obtain⟨c0,c1⟩:=Rq q hlt;obtain⟨m1,m2,m3⟩:=hl _ (List.getElem_mem hlt)
   have gO:lZ P (l.take q) l[q].1=none:=by
    rw[zX _ _ (λx hx e=>?_)]
    ·exact m2
    ·obtain⟨i,hi,rfl⟩:=List.mem_iff_getElem.1 hx
     rw[List.length_take]at hi;rw[List.getElem_take]at e;have hp:=List.pairwise_iff_getElem.1 hd i q (by rw[List.length_map];omega) (by rw[List.length_map];exact hlt) (by omega);rw[List.getElem_map,List.getElem_map]at hp;exact hp e
   have hsn:lZ P (l.take (q+1))=zF (lZ P (l.take q)) l[q].1 l[q].2:=by rw[List.take_succ_eq_append_getElem hlt,UE]
   have WR:=U (λW (h:DV W b hard (lZ P (l.take q)) (k+q))=>vU l[q].1 l[q].2 W h m1 gO m3 (by omega));rw[<-hsn]at WR
   generalize hP1:lZ P (l.take (q+1))=P1 at*
   have HP1:=U hP1;clear hP1
   generalize lZ P (l.take q)=P0 at*
   generalize l[q]=x at*
   obtain⟨xs,xd⟩:=x;simp only at c0 c1 m1 m3 WR;have AM:=aN.qR HW.o hTr (λe=>e.elim nW.1 nW.2.1);have hJr:=aN.qR HJ.o hTr (λe=>e.elim nJ.1 nJ.2.1);have pK:=aN.new wr 171 #[ι J xs,σ xd];have hD6:=gC.later ((aj _ wr).alloc (ah _) (aH #[ι J xs,σ xd] 171));have Rt:=hTr.trans (aR.of_below ((aj _ wr).alloc (ah _) (aH #[ι J xs,σ xd] 171)));have AN:=AM.alloc (aH #[ι J xs,σ xd] 171);have Ru:=hJr.alloc (aH #[ι J xs,σ xd] 171);have nX:=hD6.ne pK (by decide) (by decide);have HD6:=U hD6;have HT6:=U Rt;have Y:=pK.cell;have Yl:=pK.lt;have V:=AN.cell;have Vl:=AN.lt;have aK:=Ru.cell;have Jl:=Ru.lt;have q0:(0:Int)<=q:=by omega
   have q3:(q:Int)<l.length:=by omega
   clear Rq pK hD6 Rt AN Ru AM hJr gC hTr gO hsn m2
   go_upto_region 4 with fail
   go_region_held3 (λW=>W.cell? wr.heap.size=some (ι J xs)/\W.cell? ⟨wr.heap.size,1,none⟩=some (σ xd)/\W.cell? wk=some j/\W.cell? j=some b.p/\aR (λc=>c=b.p\/c=b.m) (wr.alloc (aH #[ι J xs,σ xd] 171)) W)
    (first|exact keepL Yl Vl Jl (by assumption) t9 ⟨nX.1,nX.2.1⟩ ⟨nW.1,nW.2.1⟩ ⟨nJ.1,nJ.2.1⟩|exact⟨(Y 0),(Y 1),(V 0),(aK 0),aR.of_below (aj _ _).drew⟩|exact⟨(Y 0),(Y 1),(V 0),(aK 0),aR.of_below (aj _ _)⟩)
    (first
     |(go_at_call 67;with_reducible refine(WR.o _ (HD6.o.later (aj _ _).drew)).mono ?_;rintro e w9 ⟨rfl,Yr,t9⟩))
   rename_i hS
   obtain⟨_,_,_,_,h5⟩:=hS;have AK:=U Yr;have HT9:=U (HT6.o.trans h5);clear Yr h5 t9 Y V aK;go_wp2_with fail;go_roundw
   case rel=>exact⟨q+1,by omega,by go_num,by rw[<-Nat.add_assoc,HP1.o];exact AK.o,HT9.o⟩
   case measure=>simp[intOf];omega
  ·obtain rfl:q=l.length:=by omega
   rw[List.take_length]at gC;have AK:=U gC;have HT9:=U hTr;clear gC hTr
   go_wp2
   go_ret;exact⟨rfl,AK.o,HT9.o⟩
def iH (l:Puts):List UInt8:=l.flatMap λx=>eu x.1 2
theorem OL (l:Puts) (x:Nat×ByteArray):iH (l++[x])=iH l++eu x.1 2:=by simp[iH]
theorem xU (l:Puts):(iH l).length=2*l.length:=by
 induction l with
 |nil=>rfl
 |cons x r ih=>
  have e:iH (x::r)=eu x.1 2++iH r:=rfl;rw[e,List.length_append,cu,ih,List.length_cons];omega
def dJ (l:Puts):List ByteArray:=(chunks 64 (iH l)).map (λc=>kW (B c) 64)++l.map Prod.snd
def rU (P:Wait) (a:Nat):List ByteArray->Wait
 |[]=>P
 |s::r=>rU (zF P a s) (a+1) r
theorem ET:∀(l:List ByteArray) (P:Wait) (a:Nat) (s:ByteArray),rU P a (l++[s])=zF (rU P a l) (a+l.length) s
 |[],P,a,s=>rfl
 |x::r,P,a,s=>by
  have e:rU P a (x::r++[s])=rU (zF P a x) (a+1) (r++[s]):=rfl;rw[e,ET r,List.length_cons];have e2:rU P a (x::r)=rU (zF P a x) (a+1) r:=rfl;rw[e2]
  congr 1
  omega
theorem Hw:∀(l:List ByteArray) (P:Wait) (a q:Nat),(q<a\/a+l.length<=q)->rU P a l q=P q
 |[],P,a,q,_=>rfl
 |x::r,P,a,q,h=>by
  have e:rU P a (x::r)=rU (zF P a x) (a+1) r:=rfl;rw[List.length_cons]at h;rw[e,Hw r _ _ q (by omega)];exact if_neg (by omega)
theorem uR (n:Nat) (hn:1<=n):∀(f:Nat) (l:List UInt8),∀c∈jh n f l,c.length<=n
 |0,l,c,h=>by cases h
 |f+1,l,c,h=>by
  rw[jh]at h
  split at h
  ·cases h
  ·rcases List.mem_cons.1 h with rfl|h
   ·rw[List.length_take]
    omega
   ·exact uR n hn f _ c h
theorem yX (n:Nat) (hn:1<=n):∀(f:Nat) (l:List UInt8),l.length<=f->(jh n f l).length=(l.length+n-1)/n
 |0,l,h=>by
  have e:l.length=0:=by omega
  rw[e];show 0=_;rw[Nat.div_eq_of_lt (by omega)]
 |f+1,l,h=>by
  rw[jh]
  by_cases e:l.length=0
  ·rw[if_pos e,e]
   show 0=_;rw[Nat.div_eq_of_lt (by omega)]
  ·rw[if_neg e,List.length_cons,yX n hn f _ (by rw[List.length_drop];omega),List.length_drop]
   rcases Nat.lt_or_ge l.length n with q|q
   ·have e1:l.length-n+n-1=n-1:=by omega
    have e2:l.length+n-1=(l.length-1)+n:=by omega
    rw[e1,Nat.div_eq_of_lt (by omega),e2,Nat.add_div_right _ (by omega),Nat.div_eq_of_lt (by omega)]
   ·have e2:l.length+n-1=(l.length-n+n-1)+n:=by omega
    rw[e2,Nat.add_div_right _ (by omega)]
theorem yY (l:Puts):(dJ l).length=(2*l.length+63)/64+l.length:=by
 unfold dJ chunks;rw[List.length_append,List.length_map,List.length_map,yX 64 (by omega) _ _ (ah _),xU]
 rfl
theorem UF {s:ByteArray} (h:s.size=64):kW s 64=s:=by
 unfold kW;rw[h];show B (L s++[])=s;rw[List.append_nil,SN]
theorem Hy {S:Nat->Prop} {w X Y:World} {a:Nat} (h:aR S w X) (g:aR (λc=>c=a\/S c) X Y) (ha:w.heap.size<=a):aR S w Y:=
 ⟨g.os.trans h.os,g.tape.trans h.tape,g.output.trans h.output,aD h.size g.size,λc hc hs=>(g.block c (aA hc h.size) (λe=>e.elim (λq=>by omega) hs)).trans (h.block c hc hs)⟩
theorem Rv {W:World} {c d i:Nat} {t:TypeId} {cs:Array Value} {v:Value} (hX:aN W c t cs) (h:W.cell? ⟨d,i,none⟩=some v) (hv:∀k:Nat,cs[k]?≠some v):d≠c:=λe=>by
 subst e;rw[hX.cell i]at h;exact hv i h
def wh (w:World) (b:dN) (hard:List ByteArray) (k fr wk:Nat) (rows:List ByteArray) (W:World):Prop:=
 DV W b hard (rU noW (fr+1) rows) (k+rows.length)/\aN W (w.heap.size+1) 3 #[ι J (fr+1+rows.length:Nat)]/\aN W w.heap.size 244 #[wk]/\aR (λc=>c=b.p\/c=b.m) w W
theorem wh.later {w W W':World} {b:dN} {hard:List ByteArray} {k fr wk:Nat} {rows:List ByteArray} (h:wh w b hard k fr wk rows W) (hb:Below W.heap.size W W'):wh w b hard k fr wk rows W':=⟨h.1.later hb,h.2.1.later hb,h.2.2.1.later hb,h.2.2.2.trans (aR.of_below hb)⟩
theorem Yv (wk j g fr n lF gen len cap k:Nat) (rows:List ByteArray) (s:ByteArray) (b:dN) (hard:List ByteArray) (w W:World) (hJ:eF w j b fr n lF) (hW:rT w wk j gen g len cap) (nW:wk≠b.p/\wk≠b.m) (nJ:j≠b.p/\j≠b.m) (h:wh w b hard k fr wk rows W) (hs:s.size<=64) (hr:fr+1+rows.length<hard.length) (hk:k+rows.length<1099511627776):
 Calls prog 225 #[σ s,G (some ⟨w.heap.size+1,0,none⟩),w.heap.size] W λe W'=>e=aG (ι J 0)/\wh w b hard k fr wk (rows++[kW s 64]) W'/\aR (λc=>c=w.heap.size+1\/c=b.p\/c=b.m) W W':=by
 obtain⟨h1,h2,h3,h4⟩:=h;unfold eF at hJ;unfold rT at hW;have hJ2:eF W j b fr n lF:=aN.qR hJ h4 (λe=>e.elim nJ.1 nJ.2);have hW2:rT W wk j gen g len cap:=aN.qR hW h4 (λe=>e.elim nW.1 nW.2);have hne:w.heap.size≠w.heap.size+1:=by omega
 have n3:=h1.ne h3 (by decide) (by decide);refine(qj (w.heap.size+1) w.heap.size wk j g fr n lF gen len cap (k+rows.length) (fr+1+rows.length) s b hard _ W h2 h3 hJ2 hW2 h1 hr (by rw[Hw _ _ _ _ (.inr (ah _))];rfl) hs hk).mono ?_;rintro e W' ⟨rfl,g1,g2,g3⟩;refine⟨rfl,⟨?_,?_,aN.qR h3 g3 (λe=>e.elim hne (λe=>e.elim n3.1 n3.2.1)),Hy h4 g3 (by omega)⟩,g3⟩
 ·rw[ET,List.length_append]
  exact g1
 ·rw[List.length_append]
  exact g2
theorem OM (wk j g fr n lF gen cap k:Nat) (l:Puts) (b:dN) (hard:List ByteArray) (w:World) (hJ:eF w j b fr n lF) (hW:rT w wk j gen g l.length cap) (hL:jc w g l) (hg:g<w.heap.size) (hgn:g≠b.p/\g≠b.m) (hD:DV w b hard noW k) (hl:∀x∈l,x.1<65536/\x.2.size=64) (hlen:l.length<=4096) (hn:1+(dJ l).length<=n) (hfr:fr+n<=hard.length) (hk:k+20000<1099511627776):
 Calls prog 140 #[wk] w λe w'=>e=aG (ι J 0)/\DV w' b hard (rU noW (fr+1) (dJ l)) (k+(dJ l).length)/\aR (λc=>c=b.p\/c=b.m) w w':=by
 unfold eF at hJ;unfold rT at hW;have hhl:=hD.len;have nW:=hD.ne hW (by decide) (by decide);have nJ:=hD.ne hJ (by decide) (by decide);have HJ:=U hJ;have HW:=U hW;have HL:=U hL;have hX1:=aN.new w 244 #[wk];have hX2:=hX1.alloc (aH #[ι J ((fr:Int)+1)] 3);have hA2:=aN.new (w.alloc (aH #[wk] 244)) 3 #[ι J ((fr:Int)+1)];rw[aC]at hA2;have hB2:=((aj _ w).alloc (ah _) (aH #[wk] 244)).alloc (by simp) (aH #[ι J ((fr:Int)+1)] 3);have fU:=U hX2;have HA2:=U hA2;have HB2:=U hB2;have HD:=U hD;have X0:=hX1.cell 0;simp only[au,av,ay]at X0;have Xl:=hX1.lt;have V0:=hW.cell 0;have V1:=hW.cell 1;have V2:=hW.cell 2;simp only[au,av,ay]at V0 V1 V2;have Vl:=hW.lt;have J0:=hJ.cell 0;have J1:=hJ.cell 1;have J2:=hJ.cell 2;have J3:=hJ.cell 3;have J4:=hJ.cell 4;simp only[au,av,ay]at J0 J1 J2 J3 J4;have Jl:=hJ.lt;clear hJ hW hD hL hX1 hX2 hA2 hB2;have NU:=U (λ(x:Nat) W (h:x<65536)=>Hg x 2 W (by omega) (by simpa using h))
 go_enter func140,ntmps140
 go_wp2_with fail
 go_loopw [5,30] (λt c wr=>∃q:Nat,q<=l.length/\c=ι J q/\t=σ (B (iH (l.take q)))/\Below ((w.alloc (aH #[wk] 244)).alloc (aH #[ι J ((fr:Int)+1)] 3)).heap.size ((w.alloc (aH #[wk] 244)).alloc (aH #[ι J ((fr:Int)+1)] 3)) wr) (λ_ c _=>l.length-(intOf c).toNat)
 case atStart=>exact⟨0,aB _,rfl,rfl,aj _ _⟩
 case round=>
  obtain⟨q,hq,rfl,rfl,hB⟩:=hrel;have MR:=U (HB2.o.trans (hB.mono HB2.o.size));have HBq:=U hB;have hBq:=hB;clear hB
  by_cases hlt:q<l.length
  ·have Rq:=HL.o.later hg MR.o
   obtain⟨c0,c1⟩:=Rq q hlt;obtain⟨m1,m2⟩:=hl _ (List.getElem_mem hlt);have hsn:iH (l.take (q+1))=iH (l.take q)++eu l[q].1 2:=by rw[List.take_succ_eq_append_getElem hlt,OL]
   have Js:=U hsn
   have hz:(B (iH (l.take q))).size<=8192:=by
    rw[aV,xU,List.length_take];omega
   have z2:(B (eu l[q].1 2)).size=2:=by rw[aV,cu]
   have AP:Hid (B (iH (l.take q))++B (eu l[q].1 2)=B (iH (l.take (q+1)))):=U (by rw[dA,iy,iy,hsn]);have NX:=U (λW=>NU.o l[q].1 W m1)
   generalize B (iH (l.take q))=s0 at*
   generalize B (eu l[q].1 2)=ns at*
   generalize l[q]=x at*
   obtain⟨xs,xd⟩:=x;simp only at c0 c1 m1 m2 NX;have pK:=aN.new wr 171 #[ι J xs,σ xd];have Ky:=U (HBq.o.alloc HBq.o.size (aH #[ι J xs,σ xd] 171));have Y0:=pK.cell 0;have Y1:=pK.cell 1;simp only[au,av,ay]at Y0 Y1;have Yl:=pK.lt;have q0:(0:Int)<=q:=by omega
   have q3:(q:Int)<l.length:=by omega
   clear Rq pK hsn Js hBq;go_wp2_with fail;refine(NX.o _).mono ?_;rintro e w7 ⟨rfl,b7⟩;have tD:=U (Ky.o.trans (b7.mono Ky.o.size));clear b7;go_wp2_with fail;go_roundw
   case rel=>exact⟨q+1,by omega,by go_num,by rw[AP.o],tD.o⟩
   case measure=>simp[intOf];omega
  ·obtain rfl:q=l.length:=by omega
   rw[List.take_length];have SP:=U (λW=>Wq (B (iH l)) 64 W (by rw[aV,xU];omega) (by omega) (by omega));unfold DW at SP;rw[iy]at SP;clear HBq NU
   generalize B (iH l)=sl at*
   go_wp2_with fail;refine(SP.o _).mono ?_;rintro e w5 ⟨v,rfl,hS,b5⟩;obtain⟨ps,hps⟩:∃ps,(chunks 64 (iH l)).map B=ps:=⟨_,rfl⟩;rw[hps]at hS
   have hp64:∀s∈ps,s.size<=64:=λs hs=>by
    rw[<-hps]at hs;obtain⟨c,hc,rfl⟩:=List.mem_map.1 hs;rw[aV];exact uR 64 (by omega) _ _ c hc
   have hrows:dJ l=ps.map (λs=>kW s 64)++l.map Prod.snd:=by
    unfold dJ;rw[<-hps,List.map_map]
    rfl
   obtain⟨ao,cap2,rfl,hcell⟩:∃ao cap2,v=θ ao ps.length cap2/\(ps.length=0\/∃d o,ao=some ⟨d,o,none⟩/\d<w5.heap.size/\∀j (h:j<ps.length),w5.cell? ⟨d,o+j,none⟩=some (σ ps[j])):=by
    rcases hS with⟨rfl,rfl⟩|⟨d,o,c,rfl,_,h1,h2⟩|⟨a,c,rfl,rfl⟩
    ·exact⟨none,0,rfl,.inl rfl⟩
    ·exact⟨_,c,rfl,.inr ⟨d,o,rfl,h1,h2⟩⟩
    ·exact⟨_,c,rfl,.inl rfl⟩
   have AW:=MR.o.trans (b5.mono MR.o.size);have hP5:wh w b hard k fr wk [] w5:=⟨(HD.o.later AW),HA2.o.later (hBq.trans (b5.mono hBq.size)),fU.o.later (hBq.trans (b5.mono hBq.size)),aR.of_below AW⟩;have HP5:=U hP5;have HB5:=U AW;have HRW:=U hrows;have hpl:(ps.map (λs=>kW s 64)).length+l.length=(dJ l).length:=by rw[hrows,List.length_append,List.length_map,List.length_map]
   rw[List.length_map]at hpl;have PS:=U (λ(rows:List ByteArray) (s:ByteArray) W (h:wh w b hard k fr wk rows W) (hs:s.size<=64) (hr:rows.length<(dJ l).length)=>Yv wk j g fr n lF gen l.length cap k rows s b hard w W HJ.o HW.o ⟨nW.1,nW.2.1⟩ ⟨nJ.1,nJ.2.1⟩ h hs (by omega) (by omega));have HC:=U hcell;have HP64:=U hp64;clear hS b5 hcell hps AW hP5 hrows hp64 SP X0 Xl V0 V1 V2 Vl J0 J1 J2 J3 J4 Jl;go_wp2_with fail
   go_loopw [48] (λc wr=>∃q:Nat,q<=ps.length/\c=ι J q/\wh w b hard k fr wk ((ps.take q).map (λs=>kW s 64)) wr/\(ps.length=0\/∃d o,ao=some ⟨d,o,none⟩/\d<wr.heap.size/\∀j (h:j<ps.length),wr.cell? ⟨d,o+j,none⟩=some (σ ps[j]))) (λc _=>ps.length-(intOf c).toNat)
   case atStart=>exact⟨0,aB _,rfl,HP5.o,HC.o⟩
   case round=>
    obtain⟨q,hq,rfl,hPr,hcr⟩:=hrel;have HPr:=U hPr
    by_cases hlt:q<ps.length
    ·obtain⟨d,o,rfl,hdl,hcs⟩:=hcr.resolve_left (by omega)
     have c0:=hcs q hlt;have hsn:(ps.take (q+1)).map (λs=>kW s 64)=(ps.take q).map (λs=>kW s 64)++[kW ps[q] 64]:=by rw[List.take_succ_eq_append_getElem hlt,List.map_append];rfl
     have ml:((ps.take q).map (λs=>kW s 64)).length=q:=by rw[List.length_map,List.length_take];omega
     have PQ:=PS.o _ ps[q] wr HPr.o (HP64.o _ (List.getElem_mem hlt)) (by rw[ml];omega);rw[<-hsn]at PQ
     have nd1:d≠w.heap.size+1:=Rv hPr.2.1 c0 (λk e=>by
      match k with
      |0=>cases e
      |k+1=>cases e)
     obtain⟨cap0,_,hdv⟩:=hPr.1.dev
     have nd2:d≠b.p:=Rv hdv c0 (λk e=>by
      unfold gM at e
      match k with
      |0|1|2|3|4|5=>cases e
      |k+6=>cases e)
     have nd3:d≠b.m:=λe=>by
      obtain⟨pd,hpd,_⟩:=hPr.1;obtain⟨es,ck,hm⟩:=hpd.map.isMap;rw[e]at c0;unfold World.cell? at c0;rw[hm]at c0;cases c0
     have PQ:=U PQ;have HCS:=U hcs;have q0:(0:Int)<=q:=by omega
     have q3:(q:Int)<ps.length:=by omega
     clear hPr hcr hcs hsn
     generalize ps[q]=s at*
     go_wp2_with fail;refine PQ.o.mono ?_;rintro e w7 ⟨rfl,hP7,t7⟩;have HP7:=U hP7;have HC7:=U (λj (h:j<ps.length)=>vZ (i:=o+j) t7 hdl (λe=>e.elim nd1 (λe=>e.elim nd2 nd3)) (HCS.o j h));have hd7:=aA hdl t7.size;clear hP7 t7;go_wp2_with fail;go_roundw
     case rel=>exact⟨q+1,by omega,by go_num,HP7.o,.inr ⟨d,o,rfl,hd7,HC7.o⟩⟩
     case measure=>simp[intOf];omega
    ·obtain rfl:q=ps.length:=by omega
     rw[List.take_length]at HPr;have hp1:(ps.map (λs=>kW s 64)).length=ps.length:=List.length_map ..
     generalize ps.map (λs=>kW s 64)=Rx at*
     clear hPr hcr HC HP5;have HP6:=HPr.o;have pK:=HP6.2.2.1;have AN:aN wr wk 246 #[j,ι .u64 gen,θ (some g) l.length cap]:=aN.qR HW.o HP6.2.2.2 (λe=>e.elim nW.1 nW.2.1);have X0:=pK.cell 0;simp only[au,av,ay]at X0;have Xl:=pK.lt;have V0:=AN.cell 0;have V1:=AN.cell 1;have V2:=AN.cell 2;simp only[au,av,ay]at V0 V1 V2;have Vl:=AN.lt;clear HP6 pK AN;go_wp2_with fail
     go_loopw [64] (λc wq=>∃q:Nat,q<=l.length/\c=ι J q/\wh w b hard k fr wk (Rx++(l.take q).map Prod.snd) wq) (λc _=>l.length-(intOf c).toNat)
     case atStart=>exact⟨0,aB _,rfl,by simpa using HPr.o⟩
     case round=>
      obtain⟨q,hq,rfl,gO⟩:=hrel;have HPq:=U gO
      by_cases hlt:q<l.length
      ·have Rq:=HL.o.qR gO.2.2.2 hg (λe=>e.elim hgn.1 hgn.2)
       obtain⟨c0,c1⟩:=Rq q hlt;obtain⟨_,m2⟩:=hl _ (List.getElem_mem hlt)
       have hsn:Rx++(l.take (q+1)).map Prod.snd=(Rx++(l.take q).map Prod.snd)++[kW l[q].2 64]:=by
        rw[UF m2,List.take_succ_eq_append_getElem hlt,List.map_append,List.append_assoc]
        rfl
       have ml:(Rx++(l.take q).map Prod.snd).length=ps.length+q:=by rw[List.length_append,List.length_map,List.length_take,hp1];omega
       have hPq6:=gO.later ((aj _ wr).alloc (ah _) (aH #[ι J l[q].1,σ l[q].2] 171));have PQ:=PS.o _ l[q].2 _ hPq6 (by omega) (by rw[ml];omega);rw[<-hsn]at PQ;have PQ:=U PQ;have hX7:=aN.new wr 171 #[ι J l[q].1,σ l[q].2];have Y0:=hX7.cell 0;have Y1:=hX7.cell 1;simp only[au,av,ay]at Y0 Y1;have Yl:=hX7.lt;have q0:(0:Int)<=q:=by omega
       have q3:(q:Int)<l.length:=by omega
       clear Rq gO hsn hX7 hPq6
       generalize l[q]=x at*
       obtain⟨xs,xd⟩:=x;simp only at c0 c1 m2 Y0 Y1;go_wp2_with fail;refine PQ.o.mono ?_;rintro e w7 ⟨rfl,hP7,t7⟩;have HP7:=U hP7;clear hP7 t7;go_wp2_with fail;go_roundw
       case rel=>exact⟨q+1,by omega,by go_num,HP7.o⟩
       case measure=>simp[intOf];omega
      ·obtain rfl:q=l.length:=by omega
       rw[List.take_length,<-HRW.o]at gO;have HP9:=U gO;clear gO HPq
       go_wp2
       go_ret;exact⟨rfl,HP9.o.1,HP9.o.2.2.2⟩
theorem run_8 (d wk p:Nat) (R:Nat->World->Prop) (w:World) (hR:R 0 w) (hl:∀q W,R q W->d<W.heap.size) (c0:∀W,R 0 W->W.cell? d=some (.func (.func 140) #[wk] #[])) (c1:∀W,R 1 W->W.cell? ⟨d,1,none⟩=some (.func (.func 68) #[p] #[])) (c2:∀W,R 2 W->W.cell? ⟨d,2,none⟩=some (.func (.func 141) #[wk] #[])) (c3:∀W,R 3 W->W.cell? ⟨d,3,none⟩=some (.func (.func 68) #[p] #[])) (c4:∀W,R 4 W->W.cell? ⟨d,4,none⟩=some (.func (.func 135) #[wk] #[])) (c5:∀W,R 5 W->W.cell? ⟨d,5,none⟩=some (.func (.func 68) #[p] #[])) (c6:∀W,R 6 W->W.cell? ⟨d,6,none⟩=some (.func (.func 136) #[wk] #[])) (c7:∀W,R 7 W->W.cell? ⟨d,7,none⟩=some (.func (.func 68) #[p] #[])) (h0:∀W,R 0 W->Calls prog 140 #[wk] W λe W'=>e=aG (ι J 0)/\R 1 W') (h1:∀W,R 1 W->Calls prog 68 #[p] W λe W'=>e=aG (ι J 0)/\R 2 W') (h2:∀W,R 2 W->Calls prog 141 #[wk] W λe W'=>e=aG (ι J 0)/\R 3 W') (h3:∀W,R 3 W->Calls prog 68 #[p] W λe W'=>e=aG (ι J 0)/\R 4 W') (h4:∀W,R 4 W->Calls prog 135 #[wk] W λe W'=>e=aG (ι J 0)/\R 5 W') (h5:∀W,R 5 W->Calls prog 68 #[p] W λe W'=>e=aG (ι J 0)/\R 6 W') (h6:∀W,R 6 W->Calls prog 136 #[wk] W λe W'=>e=aG (ι J 0)/\R 7 W') (h7:∀W,R 7 W->Calls prog 68 #[p] W λe W'=>e=aG (ι J 0)/\R 8 W'):
 Calls prog 134 #[θ (some d) 8 8] w λe w'=>e=aG (ι J 0)/\R 8 w':=by
 have C0:=U c0;have H0:=U h0;have C1:=U c1;have H1:=U h1;have C2:=U c2;have H2:=U h2;have C3:=U c3;have H3:=U h3;have C4:=U c4;have H4:=U h4;have C5:=U c5;have H5:=U h5;have C6:=U c6;have H6:=U h6;have C7:=U c7;have H7:=U h7;have HR:=U hR;have HL:=U hl;clear c0 c1 c2 c3 c4 c5 c6 c7 h0 h1 h2 h3 h4 h5 h6 h7 hR hl
 go_enter func134,ntmps134
 go_wp2_with fail
 go_step3
 go_wp2_with fail
 go_step3
 go_wp2_with fail
 go_loopw [2,7] (λe c wr=>∃q:Nat,q<=8/\c=ι J q/\e=ι J 0/\R q wr) (λ_ c _=>8-(intOf c).toNat)
 case atStart=>exact⟨0,by omega,rfl,rfl,HR.o⟩
 case round=>
  obtain⟨q,hq,rfl,rfl,hr⟩:=hrel
  rcases(by omega:q=0\/q=1\/q=2\/q=3\/q=4\/q=5\/q=6\/q=7\/q=8)with rfl|rfl|rfl|rfl|rfl|rfl|rfl|rfl|rfl
  ·have x0:=C0.o _ hr
   have K:=U (H0.o _ hr);have xl:=HL.o _ _ hr;clear hr;go_wp2_with fail;refine K.o.mono ?_;rintro e w7 ⟨rfl,h7⟩;have H7:=U h7;clear h7;go_wp2_with fail;go_roundw
   case rel=>exact⟨1,by omega,by go_num,rfl,H7.o⟩
   case measure=>simp[intOf]
  ·have x0:=C1.o _ hr
   have K:=U (H1.o _ hr);have xl:=HL.o _ _ hr;clear hr;go_wp2_with fail;refine K.o.mono ?_;rintro e w7 ⟨rfl,h7⟩;have H7:=U h7;clear h7;go_wp2_with fail;go_roundw
   case rel=>exact⟨2,by omega,by go_num,rfl,H7.o⟩
   case measure=>simp[intOf]
  ·have x0:=C2.o _ hr
   have K:=U (H2.o _ hr);have xl:=HL.o _ _ hr;clear hr;go_wp2_with fail;refine K.o.mono ?_;rintro e w7 ⟨rfl,h7⟩;have H7:=U h7;clear h7;go_wp2_with fail;go_roundw
   case rel=>exact⟨3,by omega,by go_num,rfl,H7.o⟩
   case measure=>simp[intOf]
  ·have x0:=C3.o _ hr
   have K:=U (H3.o _ hr);have xl:=HL.o _ _ hr;clear hr;go_wp2_with fail;refine K.o.mono ?_;rintro e w7 ⟨rfl,h7⟩;have H7:=U h7;clear h7;go_wp2_with fail;go_roundw
   case rel=>exact⟨4,by omega,by go_num,rfl,H7.o⟩
   case measure=>simp[intOf]
  ·have x0:=C4.o _ hr
   have K:=U (H4.o _ hr);have xl:=HL.o _ _ hr;clear hr;go_wp2_with fail;refine K.o.mono ?_;rintro e w7 ⟨rfl,h7⟩;have H7:=U h7;clear h7;go_wp2_with fail;go_roundw
   case rel=>exact⟨5,by omega,by go_num,rfl,H7.o⟩
   case measure=>simp[intOf]
  ·have x0:=C5.o _ hr
   have K:=U (H5.o _ hr);have xl:=HL.o _ _ hr;clear hr;go_wp2_with fail;refine K.o.mono ?_;rintro e w7 ⟨rfl,h7⟩;have H7:=U h7;clear h7;go_wp2_with fail;go_roundw
   case rel=>exact⟨6,by omega,by go_num,rfl,H7.o⟩
   case measure=>simp[intOf]
  ·have x0:=C6.o _ hr
   have K:=U (H6.o _ hr);have xl:=HL.o _ _ hr;clear hr;go_wp2_with fail;refine K.o.mono ?_;rintro e w7 ⟨rfl,h7⟩;have H7:=U h7;clear h7;go_wp2_with fail;go_roundw
   case rel=>exact⟨7,by omega,by go_num,rfl,H7.o⟩
   case measure=>simp[intOf]
  ·have x0:=C7.o _ hr
   have K:=U (H7.o _ hr);have xl:=HL.o _ _ hr;clear hr;go_wp2_with fail;refine K.o.mono ?_;rintro e w7 ⟨rfl,h7⟩;have H7:=U h7;clear h7;go_wp2_with fail;go_roundw
   case rel=>exact⟨8,by omega,by go_num,rfl,H7.o⟩
   case measure=>simp[intOf]
  ·have H7:=U hr
   clear hr
   go_wp2
   rw[Exit.noGoto_ret];go_ret;exact⟨rfl,H7.o⟩
