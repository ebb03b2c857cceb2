/- Lemmas. -/
import Derived.Test.YtpendnmmgjlmfaaGreatDoorM17
import Derived.Lib.SliceRun
set_option linter.unusedVariables false
set_option linter.unusedSimpArgs false
namespace Go.Proofs.YtpendnmmgjlmfaaGreatDoor
open Go.RowKit Go.Shelf Go.Maps
open Go.Proofs.Tryz
open IntKind renaming i64→J,u32→F,u8→aF
open Value renaming pointer→G,int->ι,string->σ,bool->ν,tuple->τ,slice->θ,agg->γ
open Ending renaming returned→aG
open Obj renaming cells→aH
set_option maxRecDepth 100000
set_option maxHeartbeats 8000000
namespace Tr
open Oct Path Go.Great
section
variable {E:TL} {room q:Nat} {S:T}
theorem Lh (wz:World) (x k:Nat) (hk1:(S.n x).kind=1) (hk:k<36) (v1 v2 v3 v4:Value) (b:Nat)
 (h1:dL True (dU ([x].any λx=>(S.n x).kind==0) 3) v1 wz) (h2:dL ((S.n x).kind≠0) (dU ((S.n x).kind==2) 181) v2 wz) (h3:dL True (dU (decide ((k:Int)<0)||decide (36<=(k:Int))) 2) v3 wz) (h4:dL True 0 v4 wz)
 (hb:aN wz b 82 #[v1,v2,v3,v4]):
 Calls prog 54 #[E.t,θ (some b) 4 4] wz λe w'=>e=aG (ι J 0)/\Below wz.heap.size wz w':=by
 refine(xG E.t b [v1,v2,v3,v4] [dU ((S.n x).kind==0) 3,dU ((S.n x).kind==2) 181,dU (decide ((k:Int)<0)||decide (36<=(k:Int))) 2,0] wz (by simp) (by simp) hb ?_).mono ?_
 ·intro i hi
  match i,hi with
  |0,_=>simpa using h1.weak (λ_=>trivial)
  |1,_=>exact h2.weak (λhz=>by rw[hk1];decide)
  |2,_=>exact h3.weak (λ_=>trivial)
  |3,_=>exact h4.weak (λ_=>trivial)
  |i+4,hi=>exact absurd hi (by simp)
 ·rintro e w' ⟨rfl,hb⟩
  refine⟨?_,hb⟩;have a1:¬(k:Int)<0:=by omega
  have a2:¬(36:Int)<=k:=by omega
  simp[dU,iV,hk1,a1,a2]
theorem YR (w:World) (b:Nat) (v:Nm) (d:ByteArray) (hv:v.length=64) (hd:d.size<=64) (h:aN w b 329 (arr v)):
 ∃w',(∀ty,(Builtin.copy_ #[122,9] ty #[θ (some b) 64 64,σ d]).run prog w=.ok (ι J d.size) w')/\aN w' b 329 (arr (L d++v.drop (L d).length))/\(∀n,n<=b->Below n w w'):=by
 have hr:=λty=>Lib.run_copy_row_string (P:=prog) w 122 9 ty 5 b 0 64 64 d (arr v) 329 underlying122 (by kernel_rfl) h hd (by rw[pI];omega)
 have e:((arr v).toList.take 0++Lib.byteCells d.data.toList++(arr v).toList.drop (0+d.size)).toArray=arr (L d++v.drop (L d).length):=by
  unfold arr
  simp[Lib.byteCells,JH,L,List.map_drop]
 rw[e]at hr;exact⟨_,hr,aN.setRow h _,λn hn=>below_setRow (aj _ _) hn _⟩
theorem YS (wz:World) (hT:aU wz E room q S) (x k:Nat) (d:ByteArray) (hx:x<4294967296) (hk1:(S.n x).kind=1) (vY:k<36) (hd1:d.size≠0) (hd:d.size<=64):
 Calls prog 247 #[E.t,ι F x,ι J k,σ d] wz λe w'=>e=aG (ι J 0)/\aU w' E room q (KS S x (wr (S.n x).data k (L d)))/\aR E.O wz w':=by
 have HT:=U hT;have D1:=U (And.intro hd1 hd);have K0:=U (show(S.n x).kind≠0 by omega);have K1:=U hk1;obtain⟨S',hS⟩:∃S',KS S x (wr (S.n x).data k (L d))=S':=⟨_,rfl⟩;rw[hS];have SS:=U hS;clear hT hd1 hk1 hS
 go_enter func247,ntmps247
 go_wp2_with fail;have A0:=U ((aj wz.heap.size wz).alloc (ah _) (aH #[σ d] 9));have X0:=U (aN.new wz 9 #[σ d]);have T0:=U (HT.o.alloc (aH #[σ d] 9));have SZ1:=U (show(wz.alloc (aH #[σ d] 9)).heap.size=wz.heap.size+1 by simp);refine ak (pz (n:=0) (xs:=[x]) ⟨wz.heap.size+1,rfl,aB _,by simpa using aN.new (wz.alloc (aH #[σ d] 9)) 42 #[ι F x]⟩ (aB _) (T0.o.alloc _) (by simpa using hx) (by simp)) ?_;rintro e w3 ⟨u3,rfl,hu3,hb3⟩;have B3:=U (((aj (wz.alloc (aH #[σ d] 9)).heap.size (wz.alloc (aH #[σ d] 9))).alloc (ah _) (aH #[ι F x] 42)).trans (hb3.mono (by simp)));have C3:=U hu3;obtain⟨f3,l3,rfl,_⟩:=hu3;have T3:=U (T0.o.later B3.o);have X3:=U (X0.o.later B3.o);clear hb3;go_wp2_with fail;refine ak (vO T3.o hx) ?_;rintro e w4 ⟨u4,rfl,hu4,hb4⟩;have B4:=U hb4;have C4:=U hu4;obtain⟨f4,l4,rfl,_⟩:=hu4;have T4:=U (T3.o.later B4.o);have X4:=U (X3.o.later B4.o);clear hb4;go_wp2_with fail;refine ak (TW (k:Int)) ?_;rintro e w5 ⟨u5,rfl,hu5,hb5⟩;have B5:=U hb5;have C5:=U hu5;obtain⟨f5,l5,rfl,_⟩:=hu5;have T5:=U (T4.o.later B5.o);have X5:=U (X4.o.later B5.o);clear hb5;have AL:=U ((aj w5.heap.size w5).alloc (ah _) (aH #[.func (.func f3) #[] l3,.func (.func f4) #[] l4,.func (.func f5) #[] l5,.func (.func 292) #[] #[wz.heap.size]] 82));have B45:=U (B4.o.trans (B5.o.mono B4.o.size))
 have CK:=U (Lh (E:=E) (S:=S) (w5.alloc (aH #[.func (.func f3) #[] l3,.func (.func f4) #[] l4,.func (.func f5) #[] l5,.func (.func 292) #[] #[wz.heap.size]] 82)) x k K1.o vY _ _ _ _ w5.heap.size
  ((C3.o.later B45.o).later AL.o) ((C4.o.later B5.o).later AL.o) (C5.o.later AL.o) (⟨_,_,rfl,(λW=>enters_of func292 (by kernel_rfl) rfl _ W),λW hW _=>UD _ d D1.o.1 D1.o.2 W ((X5.o.alloc _).later hW)⟩) (aN.new w5 _ _))
 have Tb:=U ((B3.o.trans (B45.o.mono B3.o.size)).trans (AL.o.mono (by have:=B3.o.size;have:=B45.o.size;omega)));have T6:=U (T5.o.alloc (aH #[.func (.func f3) #[] l3,.func (.func f4) #[] l4,.func (.func f5) #[] l5,.func (.func 292) #[] #[wz.heap.size]] 82));have X6:=U (X5.o.alloc (aH #[.func (.func f3) #[] l3,.func (.func f4) #[] l4,.func (.func f5) #[] l5,.func (.func 292) #[] #[wz.heap.size]] 82));clear C3 C4 C5 T3 T4 T5 B3 B4 B5 B45 AL X3 X4 X5;go_wp2_with fail;refine ak CK.o ?_;rintro e w6 ⟨rfl,hb6⟩;have B6:=U (A0.o.trans ((Tb.o.trans (hb6.mono Tb.o.size)).mono (by have:=SZ1.o;omega)));have T7:=U (T6.o.later hb6);have X7:=U (X6.o.later hb6);clear hb6 CK Tb T6 X6 T0 X0 A0;have LI:=T7.o.jQ hx K0.o;have hY:=T7.o.top;have Y0:=hY.cell 0;have Y1:=hY.cell 1;simp only[au,av,ay]at Y0 Y1;have Yl:=hY.lt;have hV:=T7.o.nd x K0.o;have V0:=hV.cell 0;have V1:=hV.cell 1;have V2:=hV.cell 2;have V3:=hV.cell 3;have V4:=hV.cell 4;have V5:=hV.cell 5;have V6:=hV.cell 6;simp only[au,av,ay]at V0 V1 V2 V3 V4 V5 V6;have Vl:=hV.lt;clear hY hV;have PG:=T7.o.page K0.o (k:=k) vY;obtain⟨sz,hsz⟩:∃sz,(S.n x).data.length=sz:=⟨_,rfl⟩;rw[hsz]at V2;have SZ:=U hsz;clear hsz;obtain⟨pv,hpv⟩:∃pv,aT (S.n x).data k=pv:=⟨_,rfl⟩;rw[hpv]at PG;have PL:=U (show pv.length=64 by rw[<-hpv,fQ]);have PV:=U hpv;have PS:=U (show(arr pv).size=64 by rw[pI,PL.o]);clear hpv
 go_wp2_with (first
  |(refine wpList_runTo rfl _ rfl _ _ (zW _ _ _ rfl) ?_)
  |(refine wpList_store_row rfl _ _ _ rfl w6.heap.size (arr pv) rfl rfl _ gN (aN.new w6 329 gN) (by rw[PS.o];exact xS) (by rw[PS.o];exact Array.size_replicate) (zV pv) ?_
    obtain⟨w7,hw7,YE,hB7⟩:=Rj w6 pv;rw[<-hw7];have A7:=U YE;have B7:=U (B6.o.trans (hB7.mono B6.o.size));have H7:=U hB7;have T8:=U (T7.o.later hB7);have X8:=U (X7.o.later hB7);have Al:=YE.lt;have S7:=U (show wz.heap.size<w6.heap.size from X7.o.lt);clear YE hB7 hw7))
 obtain⟨w8,hcp,hA8,hb8⟩:=YR w7.drew w6.heap.size pv d PL.o D1.o.2 A7.o;have sl:=λw=>Rg w w6.heap.size;have hx8:=X8.o;have D0:=hx8.cell 0;simp only[au,av,ay]at D0;have Dl:=hx8.lt;clear hx8;have B8:=U (B7.o.drew.trans (hb8 _ B6.o.size));have H8:=U (H7.o.drew.trans (hb8 _ (ah _)));have T9:=U (T7.o.later H8.o);have X9:=U (X7.o.later H8.o);have A9:=U hA8;clear hA8 hb8 T8 X8 B7 H7 A7;go_region;clear hcp sl D0 Dl;clear LI PG V0 V1 V2 V3 V4 V5 V6 Vl Y0 Y1 Yl Al;obtain⟨v',hv'⟩:∃v',L d++pv.drop (L d).length=v':=⟨_,rfl⟩;rw[hv']at A9;have V9:=U hv';clear hv';have PW:=U (WK (S.n x).data k · (L d) D1.o.2);have L9:=U (show v'.length=64 by rw[<-V9.o,List.length_append,List.length_drop,PL.o];have h:(L d).length=d.size:=rfl;have:=D1.o.2;omega);have Ln:=U T9.o.drew;obtain⟨w9,hput,hpg,htn⟩:=Ln.o.AG K0.o vY v' (wr (S.n x).data k (L d)) (by rw[PW.o k,if_pos rfl,PV.o,V9.o]) (λy hy=>by rw[PW.o y,if_neg hy]);have PG9:=U hpg;have TN:=U htn;have A9s:=U (show(arr v').size=64 by rw[pI,L9.o]);have hV:=Ln.o.nd x K0.o;have V0:=hV.cell 0;have V1:=hV.cell 1;have V2:=hV.cell 2;have V3:=hV.cell 3;have V4:=hV.cell 4;have V5:=hV.cell 5;have V6:=hV.cell 6;simp only[au,av,ay]at V0 V1 V2 V3 V4 V5 V6;have Vl:=hV.lt;have hA:=A9.o.drew;have Al:=hA.lt;clear hV hpg htn hA;go_wp2_with fail;refine gq (by kernel_rfl) (λ|0=>some 43|1=>some 44|2=>some 45|3=>some 46|4=>some 47|5=>some 48|6=>none|_=>none) (λa=>∃x43 x44 x45 x46 x47 x48:Value,a=⟨#[G (some ⟨E.t,0,none⟩),ι F x,ι J k,σ d,undef,undef,undef,G (some ⟨wz.heap.size,0,none⟩),ι J 0,ι J 0,G (some ⟨E.P x,0,none⟩),G (some ⟨w6.heap.size,0,none⟩),G (some ⟨E.t,0,none⟩),G (some ⟨E.t,0,none⟩),ι F x,θ (some ⟨wz.heap.size+1,0,none⟩) 1 1,.func (.func f3) #[] l3,G (some ⟨E.t,0,none⟩),ι F x,.func (.func f4) #[] l4,ι J k,.func (.func f5) #[] l5,.func (.func 292) #[] #[G (some ⟨wz.heap.size,0,none⟩)],θ (some ⟨w5.heap.size,0,none⟩) 4 4,ι J 0,ι J 0,ν false,undef,G (some ⟨E.t,0,none⟩),G (some ⟨E.t,0,none⟩),G (some ⟨E.t,1,none⟩),.map (some E.m),ι F x,G (some ⟨E.P x,0,none⟩),G (some ⟨E.P x,0,none⟩),G (some ⟨E.P x,0,none⟩),G (some ⟨E.P x,4,none⟩),.map (some (E.B x)),ι J k,γ (arr pv),θ (some ⟨w6.heap.size,0,none⟩) 64 64,σ d,ι J d.size,x43,x44,x45,x46,x47,x48,undef,undef,undef,undef,undef,undef,undef,undef,undef,undef,undef,undef,undef,undef,undef,undef],[]⟩) (λbg W=>(bg 6=false->W=w8.drew)/\(bg 6=true->W=w9)) (λ_ _ _=>True) (λ|0=>(λv w=>v=Value.pointer (some ⟨E.P x,0,none⟩))|1=>(λv w=>v=Value.pointer (some ⟨E.P x,0,none⟩))|2=>(λv w=>v=Value.pointer (some ⟨E.P x,4,none⟩))|3=>(λv w=>v=Value.map (some (E.B x)))|4=>(λv w=>v=Value.int J k)|5=>(λv w=>v=Value.agg (arr v'))|6=>(λv w=>True)|_=>(λ_ _=>True)) (by kernel_rfl) ?st (by kernel_rfl) ?AA ⟨_,_,_,_,_,_,rfl⟩ ?G0 ?step ?done
 case st=>
  intro i j v w1 w2 hi hj hij hw hp hs;have hi:i<7:=hi
  match j,hp with
  |0,hp|1,hp|2,hp|3,hp|4,hp|5,hp|6,hp=>exact hp
  |j+7,_=>exact trivial
 case AA=>
  rintro i a v hi ⟨_,_,_,_,_,_,rfl⟩
  match i,hi with
  |0,_|1,_|2,_|3,_|4,_|5,_|6,_=>exact⟨⟨_,_,_,_,_,_,rfl⟩,λt h=>by cases h<;>exact of_decide_eq_true rfl⟩
  |i+7,hi=>exact absurd hi (by simp)
 case G0=>exact⟨λ_=>rfl,λh=>(by cases h)⟩
 case step=>
  rintro i a w1 bg hi ⟨x43,x44,x45,x46,x47,x48,rfl⟩ hl hcl hG hp;refine gu (λK hK=>?_)
  match i,hi with
  |0,_=>
   obtain⟨hA,_⟩:=hG;have h6:bg 6=false:=Bool.eq_false_iff.2 λh6=>by have:=hcl 6 0 (by show(6:Nat)<7;decide) h6 (by kernel_rfl);rw[hl]at this;cases this
   obtain rfl:=hA h6;refine aO (by rfl) rfl ?_;go_simp;exact hK _ _ ⟨_,rfl,⟨λ_=>rfl,λh=>absurd h (by show¬(if 6=0 then true else bg 6)=true;rw[if_neg (by decide),h6];decide)⟩,trivial,rfl⟩
  |1,_=>
   obtain⟨hA,_⟩:=hG;have h6:bg 6=false:=Bool.eq_false_iff.2 λh6=>by have:=hcl 6 1 (by show(6:Nat)<7;decide) h6 (by kernel_rfl);rw[hl]at this;cases this
   obtain rfl:=hA h6;obtain rfl:x43=_:=hp 0 (by kernel_rfl);refine aO (by rfl) rfl ?_;go_simp;exact hK _ _ ⟨_,rfl,⟨λ_=>rfl,λh=>absurd h (by show¬(if 6=1 then true else bg 6)=true;rw[if_neg (by decide),h6];decide)⟩,trivial,rfl⟩
  |2,_=>
   obtain⟨hA,_⟩:=hG;have h6:bg 6=false:=Bool.eq_false_iff.2 λh6=>by have:=hcl 6 2 (by show(6:Nat)<7;decide) h6 (by kernel_rfl);rw[hl]at this;cases this
   obtain rfl:=hA h6;obtain rfl:x44=_:=hp 1 (by kernel_rfl);refine aO (by rfl) rfl ?_;go_simp;exact hK _ _ ⟨_,rfl,⟨λ_=>rfl,λh=>absurd h (by show¬(if 6=2 then true else bg 6)=true;rw[if_neg (by decide),h6];decide)⟩,trivial,rfl⟩
  |3,_=>
   obtain⟨hA,_⟩:=hG;have h6:bg 6=false:=Bool.eq_false_iff.2 λh6=>by have:=hcl 6 3 (by show(6:Nat)<7;decide) h6 (by kernel_rfl);rw[hl]at this;cases this
   obtain rfl:=hA h6;obtain rfl:x45=_:=hp 2 (by kernel_rfl);refine aO (by rfl) rfl ?_;go_simp;exact hK _ _ ⟨_,rfl,⟨λ_=>rfl,λh=>absurd h (by show¬(if 6=3 then true else bg 6)=true;rw[if_neg (by decide),h6];decide)⟩,trivial,rfl⟩
  |4,_=>
   obtain⟨hA,_⟩:=hG;have h6:bg 6=false:=Bool.eq_false_iff.2 λh6=>by have:=hcl 6 4 (by show(6:Nat)<7;decide) h6 (by kernel_rfl);rw[hl]at this;cases this
   obtain rfl:=hA h6;refine aO (by rfl) rfl ?_;go_simp;exact hK _ _ ⟨_,rfl,⟨λ_=>rfl,λh=>absurd h (by show¬(if 6=4 then true else bg 6)=true;rw[if_neg (by decide),h6];decide)⟩,trivial,rfl⟩
  |5,_=>
   obtain⟨hA,_⟩:=hG;have h6:bg 6=false:=Bool.eq_false_iff.2 λh6=>by have:=hcl 6 5 (by show(6:Nat)<7;decide) h6 (by kernel_rfl);rw[hl]at this;cases this
   obtain rfl:=hA h6;refine aO (by rfl) rfl ?_;refine wp_load_row _ _ rfl w6.heap.size rfl 329 (arr v') (0,0) _ A9.o Ri rfl (by rw[A9s.o];exact xS) ?_;exact hK _ _ ⟨_,rfl,⟨λ_=>rfl,λh=>absurd h (by show¬(if 6=5 then true else bg 6)=true;rw[if_neg (by decide),h6];decide)⟩,trivial,rfl⟩
  |6,_=>
   obtain⟨hA,_⟩:=hG;obtain rfl:=hA hl;obtain rfl:x46=_:=hp 3 (by kernel_rfl);obtain rfl:x47=_:=hp 4 (by kernel_rfl);obtain rfl:x48=_:=hp 5 (by kernel_rfl);refine aO (by rfl) rfl ?_;go_simp;exact hK _ _ ⟨undef,rfl,⟨λh=>absurd h (by show¬(if 6=6 then true else bg 6)=false;rw[if_pos rfl];decide),λ_=>rfl⟩,trivial,trivial⟩
  |i+7,hi=>exact absurd hi (by simp)
 case done=>
  rintro a zU bg hl ⟨x43,x44,x45,x46,x47,x48,rfl⟩ ⟨_,hG⟩ hp;obtain rfl:=hG (hl 6 (by show(6:Nat)<7;decide));clear hp hl;clear hput V0 V1 V2 V3 V4 V5 V6 Vl Al
  have nBP:E.P x≠E.B x:=λe=>by
   obtain⟨g,h⟩:=Ln.o.pg x K0.o;exact h.2.ne (Ln.o.nd x K0.o) e
  have nXB:wz.heap.size≠E.B x:=λe=>by
   obtain⟨g,h⟩:=Ln.o.pg x K0.o;exact h.2.ne X9.o.drew e
  have N9:=U (show aN zU (E.P x) 136 _ from(bL TN.o nBP).trans (Ln.o.nd x K0.o));have X10:=U (show aN zU wz.heap.size 9 #[σ d]from(bL TN.o nXB).trans X9.o.drew);clear nBP nXB;have hV:=N9.o;have V0:=hV.cell 0;have V1:=hV.cell 1;have V2:=hV.cell 2;have V3:=hV.cell 3;have V4:=hV.cell 4;have V5:=hV.cell 5;have V6:=hV.cell 6;simp only[au,av,ay]at V0 V1 V2 V3 V4 V5 V6;have Vl:=hV.lt;rw[SZ.o]at V2;have F2:=hV.free 2;have hX:=X10.o;have U0:=hX.cell 0;simp only[au,av,ay]at U0;have Ul:=hX.lt;clear hV hX;have wr1:IntKind.u32.wrap ((k:Int)*64+d.size)=(k:Int)*64+d.size:=by simp[IntKind.wrap,IntKind.bits,IntKind.signed];omega
  go_wp2_with fail;go_region;go_wp2_with fail;go_ret;have hl:(wr (S.n x).data k (L d)).length=max sz (k*64+d.size):=by rw[Tq,SZ.o];rfl
  have hz:sz<=2304:=by rw[<-SZ.o];exact T7.o.dt x
  have hd2:=D1.o.2;have hM:((max sz (k*64+d.size):Nat):Int)=max (sz:Int) ((k:Int)*64+d.size):=by omega
  obtain⟨g,g1,g2⟩:=PG9.o;have nBP:E.B x≠E.P x:=λe=>g2.ne N9.o e.symm;have o:=Ln.o.own;refine⟨rfl,?_,?_⟩
  ·rw[<-SS.o]
   refine Ln.o.bytes K0.o _ (by rw[hl];omega) ⟨g,g1,(g2.other _ nBP).drew⟩ ?_ ?_
   ·have h:=(N9.o.set 2 (ι F (max (sz:Int) ((k:Int)*64+d.size)))).drew
    rw[hl,hM]
    simpa using h
   ·intro b h1 h2 _
    exact(heap_setCell_other zU _ b _ h1).trans (bL TN.o h2)
  ·exact(aR.of B6.o).trans ((aR.of H8.o).trans (aR.drew.trans ((aR.turned TN.o (o.2.2 x K0.o).2.2).trans ((aR.cell (o.2.2 x K0.o).1).trans aR.drew))))
end
section
variable {E:TL} {room q:Nat} {S:T}
theorem UO (w:World) (b l:Nat) (v:Nm) (hv:v.length=64) (hl:l<64) (h:aN w b 329 (arr v)):
 ∃w',(∀ty,(Builtin.clear_ #[122] ty #[.slice (some ⟨b,l,none⟩) (64-l) (64-l)]).run prog w=.ok (τ #[]) w')/\aN w' b 329 (arr (v.take l++List.replicate (64-l) 0))/\(∀n,n<=b->Below n w w'):=by
 have hr:=λty=>Lib.run_clear_slice (P:=prog) w 122 5 ty (.int aF 0) underlying122 (λw=>by kernel_rfl) rfl rfl b l (64-l) (64-l) (by omega) (λj hj=>by rw[h.cell (l+j),Rh];simp;omega) (λj hj=>h.free (l+j))
 have h1:=run_storeCells_cells (P:=prog) b l (List.replicate (64-l) (Value.int aF 0)) 0 w (λj hj=>by
  simp at hj
  rw[h.cell,Rh];simp;omega) (λj hj=>h.free _) (λx hx=>by rw[List.eq_of_mem_replicate hx];rfl)
 have h2:=run_storeCells_at prog b l 329 (List.replicate (64-l) (Value.int aF 0)) 0 (arr v) w h (by simp[pI];omega) (λx hx=>by rw[List.eq_of_mem_replicate hx];rfl)
 have e1:w.setCells b l (List.replicate (64-l) (Value.int aF 0))=w.setRow b (arr (v.take l++List.replicate (64-l) 0)):=by
  have h3:=h1.symm.trans h2;simp only[Nat.add_zero,Result.ok.injEq,true_and]at h3;rw[h3]
  congr 1
  unfold arr
  simp[List.map_take,List.map_drop,JH]
  omega
 rw[e1]at hr;exact⟨_,hr,aN.setRow h _,λn hn=>below_setRow (aj _ _) hn _⟩
structure YT (data:Nm) (s:Nm) (g0 g:Nat->Option Nm) (left:Lit->Bool):Prop where
 old:∀k:Nat,left (.int J (k:Int))=true->g k=g0 k
 new:∀k:Nat,left (.int J (k:Int))=false->(∀v,g k=some v->v=aT s k/\k<36)/\(g k=none->aT s k=zero64)
theorem OU {data:Nm} {n k:Nat} (h:aT data k=zero64):aT (jq data n) k=zero64:=by
 rw[qm,h];unfold zero64;rw[List.take_replicate,List.replicate_append_replicate]
 congr 1
 omega
theorem OV (data:Nm) {n k:Nat} (h:n<=k*64):aT (jq data n) k=zero64:=by
 rw[qm,show n-k*64=0 by omega]
 rfl
theorem OX (data:Nm) {n k:Nat} (h:k*64+64<=n):aT (jq data n) k=aT data k:=by
 rw[qm,show 64-(n-k*64)=0 by omega,List.take_of_length_le (by rw[fQ];omega)]
 simp
theorem Cs {g:Nat->Option Nm} {z:Int} {v:Value} (h:eB J (Ee g) (.int J z)=some v):∃(k:Nat) (u:Nm),z=k/\g k=some u/\v=.agg (arr u):=by
 unfold eB at h
 dsimp only at h
 by_cases hz:IntKind.i64=IntKind.i64/\0<=z
 ·rw[if_pos hz]at h
  unfold Ee at h;cases hg:g z.toNat with
  |none=>rw[hg]at h;cases h
  |some u=>
   rw[hg]at h;exact⟨z.toNat,u,(Int.toNat_of_nonneg hz.2).symm,hg,(Option.some.inj h).symm⟩
 ·rw[if_neg hz]at h;cases h
theorem Below.grown {a b:World} (h:Below a.heap.size a b):a.grownBy b none:=⟨h.os,h.tape,h.output,h.size,λi hi _=>h.block i hi⟩
theorem Li (a k:Nat):(Lit.int J (a:Int)).sameKey (.int J (k:Int))=decide (a=k):=by
 unfold Lit.sameKey
 by_cases h:a=k
 ·simp[h]
 ·simp[h];omega
theorem YT.step {data s:Nm} {g0 g g':Nat->Option Nm} {left:Lit->Bool} (h:YT data s g0 g left) (k:Nat) (ho:∀y,y≠k->g' y=g y) (hn:(∀v,g' k=some v->v=aT s k/\k<36)/\(g' k=none->aT s k=zero64)):
 YT data s g0 g' (λz=>left z&&!z.sameKey (.int J (k:Int))):=by
 refine⟨λy hy=>?_,λy hy=>?_⟩
 ·simp only[Li,Bool.and_eq_true,Bool.not_eq_true',decide_eq_false_iff_not]at hy
  rw[ho y hy.2];exact h.old y hy.1
 ·by_cases e:y=k
  ·subst e;exact hn
  ·rw[ho y e]
   refine h.new y ?_
   simpa only[Li,e,decide_false,Bool.not_false,Bool.and_true]using hy
theorem CA {g:Nat->Option Nm} {k:Nat}:(λy=>if y=k then none else Ee g y)=Ee (λy=>if y=k then none else g y):=by
 funext y
 unfold Ee
 by_cases e:y=k
 ·simp only[e,if_true];rfl
 ·simp only[e,if_false]
theorem aU.pgl {W:World} (h:aU W E room q S) {x:Nat} (hk:(S.n x).kind≠0):E.B x<W.heap.size:=by
 obtain⟨g,_,h2⟩:=h.pg x hk;exact h2.lt
theorem Ii (wz:World) (x:Nat) (hk1:(S.n x).kind=1) (v1 v2 v3:Value) (b:Nat)
 (h1:dL True (dU ([x].any λx=>(S.n x).kind==0) 3) v1 wz) (h2:dL ((S.n x).kind≠0) (dU ((S.n x).kind==2) 181) v2 wz) (h3:dL True 0 v3 wz)
 (hb:aN wz b 82 #[v1,v2,v3]):
 Calls prog 54 #[E.t,.slice (some b) 3 3] wz λe w'=>e=aG (.int J 0)/\Below wz.heap.size wz w':=by
 refine(xG E.t b [v1,v2,v3] [dU ((S.n x).kind==0) 3,dU ((S.n x).kind==2) 181,0] wz (by simp) (by simp) hb ?_).mono ?_
 ·intro i hi
  match i,hi with
  |0,_=>simpa using h1.weak (λ_=>trivial)
  |1,_=>exact h2.weak (λhz=>by rw[hk1];decide)
  |2,_=>exact h3.weak (λ_=>trivial)
  |i+3,hi=>exact absurd hi (by simp)
 ·rintro e w' ⟨rfl,hb⟩
  exact⟨by simp[dU,iV,hk1],hb⟩
theorem UQ (wz:World) (hT:aU wz E room q S) (x n:Nat) (hx:x<4294967296) (hk1:(S.n x).kind=1) (hn:n<=2304):
 Calls prog 248 #[E.t,.int F x,.int F n] wz λe w'=>e=aG (.int J 0)/\aU w' E room q (KS S x (jq (S.n x).data n))/\aR E.O wz w':=by
 have HT:=U hT;have K0:=U (show(S.n x).kind≠0 by omega);have K1:=U hk1;obtain⟨S',hS⟩:∃S',KS S x (jq (S.n x).data n)=S':=⟨_,rfl⟩;rw[hS];have SS:=U hS;clear hT hk1 hS
 go_enter func248,ntmps248
 go_wp2_with fail;have A0:=U ((aj wz.heap.size wz).alloc (ah _) (aH #[.int F n] 42));have X0:=U (aN.new wz 42 #[.int F n]);have T0:=U (HT.o.alloc (aH #[.int F n] 42));have SZ1:=U (show(wz.alloc (aH #[.int F n] 42)).heap.size=wz.heap.size+1 by simp);refine ak (pz (n:=0) (xs:=[x]) ⟨wz.heap.size+1,rfl,aB _,by simpa using aN.new (wz.alloc (aH #[.int F n] 42)) 42 #[.int F x]⟩ (aB _) (T0.o.alloc _) (by simpa using hx) (by simp)) ?_;rintro e w3 ⟨u3,rfl,hu3,hb3⟩;have B3:=U (((aj (wz.alloc (aH #[.int F n] 42)).heap.size (wz.alloc (aH #[.int F n] 42))).alloc (ah _) (aH #[.int F x] 42)).trans (hb3.mono (by simp)));have C3:=U hu3;obtain⟨f3,l3,rfl,_⟩:=hu3;have T3:=U (T0.o.later B3.o);have X3:=U (X0.o.later B3.o);clear hb3;go_wp2_with fail;refine ak (vO T3.o hx) ?_;rintro e w5 ⟨u5,rfl,hu5,hb5⟩;have B5:=U hb5;have C5:=U hu5;obtain⟨f5,l5,rfl,_⟩:=hu5;have T5:=U (T3.o.later B5.o);have X5:=U (X3.o.later B5.o);clear hb5;have AL:=U ((aj w5.heap.size w5).alloc (ah _) (aH #[.func (.func f3) #[] l3,.func (.func f5) #[] l5,.func (.func 293) #[] #[wz.heap.size]] 82))
 have CK:=U (Ii (E:=E) (S:=S) (w5.alloc (aH #[.func (.func f3) #[] l3,.func (.func f5) #[] l5,.func (.func 293) #[] #[wz.heap.size]] 82)) x K1.o _ _ _ w5.heap.size
  ((C3.o.later B5.o).later AL.o) (C5.o.later AL.o) (⟨_,_,rfl,(λW=>enters_of func293 (by kernel_rfl) rfl _ W),λW hW _=>by
    have:=JU wz.heap.size n W ((X5.o.alloc _).later hW);have e0:decide (2304<n)=false:=by simpa using hn
    rw[e0]at this;exact this⟩) (aN.new w5 _ _))
 have Tb:=U ((B3.o.trans (B5.o.mono B3.o.size)).trans (AL.o.mono (by have:=B3.o.size;have:=B5.o.size;omega)));have T6:=U (T5.o.alloc (aH #[.func (.func f3) #[] l3,.func (.func f5) #[] l5,.func (.func 293) #[] #[wz.heap.size]] 82));have X6:=U (X5.o.alloc (aH #[.func (.func f3) #[] l3,.func (.func f5) #[] l5,.func (.func 293) #[] #[wz.heap.size]] 82));clear C3 C5 T3 T5 B3 B5 AL X3 X5;go_wp2_with fail;refine ak CK.o ?_;rintro e w6 ⟨rfl,hb6⟩;have B6:=U (A0.o.trans ((Tb.o.trans (hb6.mono Tb.o.size)).mono (by have:=SZ1.o;omega)));have T7:=U (T6.o.later hb6);have X7:=U (X6.o.later hb6);clear hb6 CK Tb T6 X6 T0 X0 A0;have LI:=T7.o.jQ hx K0.o;have hY:=T7.o.top;have Y:=hY.cell;have Yl:=hY.lt;have hV:=T7.o.nd x K0.o;have V:=hV.cell;have Vl:=hV.lt;clear hY hV;obtain⟨g0,hg0,hB0⟩:=T7.o.pg x K0.o;obtain⟨w7,cnt0,Lo,hrun,hR0,hl0,hgr,hsz⟩:=hB0.range Nz underlying134;have G0:=U hg0;have R0:=U hR0;have L0:=U hl0;have GR:=U hgr;have SZ7:=U hsz;clear hg0 hB0 hR0 hl0 hgr hsz;go_wp2_with fail;have TC0:aR (λb=>b=E.B x) w6 w7:=⟨GR.o.os,GR.o.tape,GR.o.output,by rw[SZ7.o];omega,λb hb _=>GR.o.block b hb (by simp)⟩
 have M0:YT (S.n x).data (jq (S.n x).data n) g0 g0 Lo:=by
  refine⟨λk _=>rfl,λk hk=>⟨λv hv=>?_,λhv=>OU (G0.o.no k hv)⟩⟩;have h:=L0.o (.int J k) ⟨.int J k,WM (by have:=(G0.o.is k v hv).2;omega)⟩;rw[hk,jO,Ee,hv]at h;cases h
 have START:=U (And.intro R0.o (And.intro M0 TC0));clear TC0 M0 LI V Vl Y Yl;clear hrun
 go_loopw [9] (λ_ wr=>∃g left cnt,gX wr 3 (E.B x) w6.heap.size 36 (eB J (Ee g)) left cnt/\YT (S.n x).data (jq (S.n x).data n) g0 g left/\aR (λb=>b=E.B x) w6 wr) (λ_ wr=>wr.rangeLeft (E.B x) w6.heap.size)
 case atStart=>exact⟨g0,Lo,cnt0,START.o⟩
 case round=>
  obtain⟨g,left,cnt,hR,hM,hC⟩:=hrel;have HM:=U hM;have HC:=U hC;have OLD:∀b,b<w6.heap.size->b≠E.B x->wr.heap[b]? =w6.heap[b]? :=λb h1 h2=>HC.o.block b h1 h2;obtain⟨gB,_,hBx⟩:=T7.o.pg x K0.o;have nPB:E.P x≠E.B x:=λe=>hBx.ne (T7.o.nd x K0.o) e;have nXB:wz.heap.size≠E.B x:=λe=>hBx.ne X7.o e;have N9:=U (show aN wr (E.P x) 136 _ from(OLD _ (T7.o.nd x K0.o).lt nPB).trans (T7.o.nd x K0.o));have X9:=U (show aN wr wz.heap.size 42 #[.int F n]from(OLD _ X7.o.lt nXB).trans X7.o);have NB:=U (And.intro nPB nXB);clear hM hC OLD hBx nPB nXB;have RR:=U hR
  rcases hR.next Nz 0 with⟨rfl,hlf,hrun⟩|⟨key,v,kl,w8,cnt',hkey,hlk,hf,hrun,hR8,hlt,hgr,hsz,hen⟩
  ·have LF:=U hlf
   have hV:=N9.o;have V:=hV.cell;have Vl:=hV.lt;have F2:=hV.free 2;have hX:=X9.o;have aI:=hX.cell;have Ul:=hX.lt;clear hlf hV hX hR;go_wp2_with fail;go_ret;have o:=T7.o.own;have hB:=RR.o.On;have nBP:E.B x≠E.P x:=λe=>NB.o.1 e.symm;refine⟨rfl,?_,?_⟩
   ·rw[<-SS.o]
    refine T7.o.bytes K0.o _ (by rw[nR];exact hn) ⟨g,⟨λy v hv=>(HM.o.new y (LF.o _)).1 v hv,λy hy=>(HM.o.new y (LF.o _)).2 hy⟩,hB.other _ nBP⟩ ?_ ?_
    ·have h:=N9.o.set 2 (.int F n)
     rw[nR]
     simpa using h
    ·intro b h1 h2 h3
     exact(heap_setCell_other wr _ b _ h1).trans (HC.o.block b h3 h2)
   ·exact(aR.of B6.o).trans ((HC.o.mono (λi _ e=>by rw[e];exact(o.2.2 x K0.o).2.2)).trans (aR.cell (o.2.2 x K0.o).1))
  ·obtain⟨z,rfl,rfl,hwf⟩:=Maps.keyOf_int_inv underlying3 hkey
   obtain⟨k,u,rfl,hgk,rfl⟩:=Cs hf;have vY:=(G0.o.is k u (by rw[<-HM.o.old k hlk];exact hgk)).2;have hu:=(G0.o.is k u (by rw[<-HM.o.old k hlk];exact hgk)).1;have UU:=U hu;have GK:=U hgk;have G8:=U hgr;have S8:=U hsz;have CN:=U hlt;have UL:=U (show u.length=64 by rw[hu,fQ]);have US:=U (show(arr u).size=64 by rw[pI,UL.o]);obtain⟨zU,hw10,hA10,OY⟩:=Rj w8 u;have A10:=U hA10;have HW:=U hw10;have CC:=U (show aR (λb=>b=E.B x) w6 zU from⟨OY.os.trans (hgr.os.trans HC.o.os),OY.tape.trans (hgr.tape.trans HC.o.tape),OY.output.trans (hgr.output.trans HC.o.output),aD HC.o.size (aD hgr.size OY.size),λb h1 h2=>(OY.block b (by have:=hgr.size;have:=HC.o.size;omega)).trans ((hgr.block b (by have:=HC.o.size;omega) (by simp;omega)).trans (HC.o.block b h1 h2))⟩);have Th:=U (hR8.kept (Below.grown OY) (by simp) (by simp));have N10:=U (show aN zU (E.P x) 136 _ from(CC.o.block _ (T7.o.nd x K0.o).lt NB.o.1).trans (T7.o.nd x K0.o));have X10:=U (show aN zU wz.heap.size 42 #[.int F n]from(CC.o.block _ X7.o.lt NB.o.2).trans X7.o);have hV:=N10.o;have V:=hV.cell;have Vl:=hV.lt;have hX:=X10.o;have aI:=hX.cell;have Ul:=hX.lt;clear hu hgk hR8 hgr hsz hR hf hkey hlk hV hX hA10 OY hlt hwf hw10;have K36:=U vY
   rcases(by omega:n<=k*64\/(¬n<=k*64/\n<k*64+64)\/(¬n<=k*64/\¬n<k*64+64))with c1|⟨c1,c2⟩|⟨c1,c2⟩
   ·have t1:(n:Int)-(k:Int)*64<=0:=by omega
    obtain⟨w11,cnt2,hdel,hR11,hle,htn⟩:=Th.o.drop Nz underlying134 (WM (x:=k) (by omega)) 0;have R11:=U hR11;have LE:=U hle;have TN:=U htn;have C1:=U c1;clear hR11 hle htn c1 Th
    go_wp2_with (first
     |(refine wpList_runTo rfl _ rfl _ _ (zW _ _ _ rfl) ?_)
     |(refine wpList_store_row rfl _ _ _ rfl w8.heap.size (arr u) rfl rfl _ gN (aN.new w8 329 gN) (by rw[US.o];exact xS) (by rw[US.o];exact Array.size_replicate) (zV u) ?_
       rw[<-HW.o]))
    go_roundw
    case rel=>
     rw[Maps.strike_twice]at R11;exact⟨λy=>if y=k then none else g y,_,cnt2,by have h:=R11.o;rw[JG,CA]at h;exact h,HM.o.step k (λy hy=>by simp[hy]) ⟨λv hv=>by simp at hv,λ_=>OV _ C1.o⟩,CC.o.trans (aR.turned TN.o rfl)⟩
    case measure=>rw[R11.o.left_eq,RR.o.left_eq];have:=LE.o;have:=CN.o;omega
   ·have t1:¬(n:Int)-(k:Int)*64<=0:=by omega
    have t2:(n:Int)-(k:Int)*64<64:=by omega
    have C1:=U (And.intro c1 c2);obtain⟨l,hl⟩:∃l:Nat,n-k*64=l:=⟨_,rfl⟩;have l64:l<64:=by omega
    have el:(n:Int)-(k:Int)*64=(l:Int):=by omega
    obtain⟨w12,hclr,Tl,hB12⟩:=UO zU w8.heap.size l u UL.o l64 A10.o;have SZ10:=U (show zU.heap.size=w8.heap.size+1 by rw[HW.o];simp);have HL:=U hl;obtain⟨v',hv'⟩:∃v',u.take l++List.replicate (64-l) 0=v':=⟨_,rfl⟩;rw[hv']at Tl;have PV:=U (show v'=aT (jq (S.n x).data n) k by rw[<-hv',qm,HL.o,<-UU.o]);have L12:=U (show v'.length=64 by rw[PV.o,fQ]);have A12s:=U (show(arr v').size=64 by rw[pI,L12.o]);have A12:=U Tl;have BW:=U (hB12 w8.heap.size (ah _));have Wlt:=U (show w6.heap.size<=w8.heap.size from aD HC.o.size G8.o.size);have C12:=U (show aR (λb=>b=E.B x) w6 w12 from⟨BW.o.os.trans CC.o.os,BW.o.tape.trans CC.o.tape,BW.o.output.trans CC.o.output,aD CC.o.size BW.o.size,λb h1 h2=>(BW.o.block b (aA h1 Wlt.o)).trans (CC.o.block b h1 h2)⟩);have R12:=U (Th.o.kept (row:=some w8.heap.size) ⟨BW.o.os,BW.o.tape,BW.o.output,BW.o.size,λi h1 h2=>BW.o.block i (by have:=SZ10.o;simp at h2;omega)⟩ (by have:=T7.o.pgl K0.o;have:=Wlt.o;simp;omega) (by have:=Th.o.lt;have:=RR.o.lt;have:=G8.o.size;simp;omega));have R12d:=U (R12.o.kept (row:=none) (W':=w12.drew) ⟨rfl,rfl,rfl,ah _,λ_ _ _=>rfl⟩ (by simp) (by simp));obtain⟨w13,hput,hR13,htn⟩:=R12d.o.again Nz underlying134 (WM (x:=k) (by omega)) (by rw[jO,Ee,GK.o];rfl) (.agg (arr v'));have R13:=U hR13;have TN:=U htn;have N12:=U (show aN w12.drew (E.P x) 136 _ from((C12.o.block _ (T7.o.nd x K0.o).lt NB.o.1).trans (T7.o.nd x K0.o)));clear Tl hB12 hR13 htn hv' c1 c2 hl Th;have sl:=λw=>Yk w w8.heap.size l l64
    go_wp2_with (first
     |(refine wpList_runTo rfl _ rfl _ _ (zW _ _ _ rfl) ?_)
     |(refine wpList_store_row rfl _ _ _ rfl w8.heap.size (arr u) rfl rfl _ gN (aN.new w8 329 gN) (by rw[US.o];exact xS) (by rw[US.o];exact Array.size_replicate) (zV u) ?_
       rw[<-HW.o]))
    clear hclr sl V Vl aI Ul t1 t2 el;have hV:=N12.o;have V:=hV.cell;have Vl:=hV.lt;clear hV;refine gq (by kernel_rfl) (λ|0=>some 60|1=>some 61|2=>some 62|3=>some 63|4=>some 64|5=>some 65|6=>none|_=>none) (λa=>∃x60 x61 x62 x63 x64 x65:Value,a=⟨#[Value.pointer (some {block:=E.t,off:=0}),Value.int IntKind.u32 ↑x,Value.int IntKind.u32 ↑n,undef,undef,Value.pointer (some {block:=wz.heap.size,off:=0}),Value.int IntKind.i64 0,Value.int IntKind.i64 0,Value.pointer (some {block:=E.P x,off:=0}),Value.int IntKind.i64 ↑k,Value.pointer (some {block:=w8.heap.size,off:=0}),Value.int IntKind.i64 ↑l,Value.pointer (some {block:=E.t,off:=0}),Value.pointer (some {block:=E.t,off:=0}),Value.int IntKind.u32 ↑x,Value.slice (some {block:=wz.heap.size+1,off:=0}) 1 1,Value.func (Fn.func f3) #[] l3,Value.pointer (some {block:=E.t,off:=0}),Value.int IntKind.u32 ↑x,Value.func (Fn.func f5) #[] l5,Value.func (Fn.func 293) #[] #[Value.pointer (some {block:=wz.heap.size,off:=0})],Value.slice (some {block:=w5.heap.size,off:=0}) 3 3,Value.int IntKind.i64 0,Value.int IntKind.i64 0,Value.bool false,undef,Value.pointer (some {block:=E.t,off:=0}),Value.pointer (some {block:=E.t,off:=0}),Value.pointer (some {block:=E.t,off:=1}),Value.map (some E.m),Value.int IntKind.u32 ↑x,Value.pointer (some {block:=E.P x,off:=0}),Value.pointer (some {block:=E.P x,off:=0}),Value.pointer (some {block:=E.P x,off:=0}),Value.pointer (some {block:=E.P x,off:=4}),Value.map (some (E.B x)),Value.pointer (some {block:=w6.heap.size,off:=0}),Value.tuple #[Value.bool true,Value.int IntKind.i64 ↑k,Value.agg (arr u)],Value.bool true,Value.tuple #[Value.int IntKind.i64 ↑k,Value.agg (arr u)],Value.int IntKind.i64 ↑k,Value.agg (arr u),Value.int IntKind.u32 ↑n,Value.int IntKind.i64 ↑n,Value.int IntKind.i64 ↑k,Value.int IntKind.i64 (↑k*64),Value.int IntKind.i64 ↑l,Value.bool false,Value.int IntKind.i64 ↑l,Value.bool false,u50,u51,u52,u53,u54,Value.bool true,Value.int IntKind.i64 ↑l,Value.bool true,Value.int IntKind.i64 ↑l,Value.slice (some {block:=w8.heap.size,off:=l}) (64-l) (64-l),x60,x61,x62,x63,x64,x65,undef,undef,undef,undef,undef],[]⟩) (λbg W=>(bg 6=false->W=w12.drew)/\(bg 6=true->W=w13)) (λ_ _ _=>True) (λ|0=>(λv w=>v=Value.pointer (some ⟨E.P x,0,none⟩))|1=>(λv w=>v=Value.pointer (some ⟨E.P x,0,none⟩))|2=>(λv w=>v=Value.pointer (some ⟨E.P x,4,none⟩))|3=>(λv w=>v=Value.map (some (E.B x)))|4=>(λv w=>v=Value.int J k)|5=>(λv w=>v=Value.agg (arr v'))|6=>(λv w=>True)|_=>(λ_ _=>True)) (by kernel_rfl) ?st (by kernel_rfl) ?AA ⟨_,_,_,_,_,_,rfl⟩ ?G0 ?step ?done
    case st=>
     intro i j v w1 w2 hi hj hij hw hp hs;have hi:i<7:=hi
     match j,hp with
     |0,hp|1,hp|2,hp|3,hp|4,hp|5,hp|6,hp=>exact hp
     |j+7,_=>exact trivial
    case AA=>
     rintro i a v hi ⟨_,_,_,_,_,_,rfl⟩
     match i,hi with
     |0,_|1,_|2,_|3,_|4,_|5,_|6,_=>exact⟨⟨_,_,_,_,_,_,rfl⟩,λt h=>by cases h<;>exact of_decide_eq_true rfl⟩
     |i+7,hi=>exact absurd hi (by simp)
    case G0=>exact⟨λ_=>rfl,λh=>(by cases h)⟩
    case step=>
     rintro i a w1 bg hi ⟨x60,x61,x62,x63,x64,x65,rfl⟩ hl hcl hG hp;refine gu (λK hK=>?_)
     match i,hi with
     |0,_=>
      obtain⟨hA,_⟩:=hG;have h6:bg 6=false:=Bool.eq_false_iff.2 λh6=>by have:=hcl 6 0 (by show(6:Nat)<7;decide) h6 (by kernel_rfl);rw[hl]at this;cases this
      obtain rfl:=hA h6;refine aO (by rfl) rfl ?_;go_simp;exact hK _ _ ⟨_,rfl,⟨λ_=>rfl,λh=>absurd h (by show¬(if 6=0 then true else bg 6)=true;rw[if_neg (by decide),h6];decide)⟩,trivial,rfl⟩
     |1,_=>
      obtain⟨hA,_⟩:=hG;have h6:bg 6=false:=Bool.eq_false_iff.2 λh6=>by have:=hcl 6 1 (by show(6:Nat)<7;decide) h6 (by kernel_rfl);rw[hl]at this;cases this
      obtain rfl:=hA h6;obtain rfl:x60=_:=hp 0 (by kernel_rfl);refine aO (by rfl) rfl ?_;go_simp;exact hK _ _ ⟨_,rfl,⟨λ_=>rfl,λh=>absurd h (by show¬(if 6=1 then true else bg 6)=true;rw[if_neg (by decide),h6];decide)⟩,trivial,rfl⟩
     |2,_=>
      obtain⟨hA,_⟩:=hG;have h6:bg 6=false:=Bool.eq_false_iff.2 λh6=>by have:=hcl 6 2 (by show(6:Nat)<7;decide) h6 (by kernel_rfl);rw[hl]at this;cases this
      obtain rfl:=hA h6;obtain rfl:x61=_:=hp 1 (by kernel_rfl);refine aO (by rfl) rfl ?_;go_simp;exact hK _ _ ⟨_,rfl,⟨λ_=>rfl,λh=>absurd h (by show¬(if 6=2 then true else bg 6)=true;rw[if_neg (by decide),h6];decide)⟩,trivial,rfl⟩
     |3,_=>
      obtain⟨hA,_⟩:=hG;have h6:bg 6=false:=Bool.eq_false_iff.2 λh6=>by have:=hcl 6 3 (by show(6:Nat)<7;decide) h6 (by kernel_rfl);rw[hl]at this;cases this
      obtain rfl:=hA h6;obtain rfl:x62=_:=hp 2 (by kernel_rfl);refine aO (by rfl) rfl ?_;go_simp;exact hK _ _ ⟨_,rfl,⟨λ_=>rfl,λh=>absurd h (by show¬(if 6=3 then true else bg 6)=true;rw[if_neg (by decide),h6];decide)⟩,trivial,rfl⟩
     |4,_=>
      obtain⟨hA,_⟩:=hG;have h6:bg 6=false:=Bool.eq_false_iff.2 λh6=>by have:=hcl 6 4 (by show(6:Nat)<7;decide) h6 (by kernel_rfl);rw[hl]at this;cases this
      obtain rfl:=hA h6;refine aO (by rfl) rfl ?_;go_simp;exact hK _ _ ⟨_,rfl,⟨λ_=>rfl,λh=>absurd h (by show¬(if 6=4 then true else bg 6)=true;rw[if_neg (by decide),h6];decide)⟩,trivial,rfl⟩
     |5,_=>
      obtain⟨hA,_⟩:=hG;have h6:bg 6=false:=Bool.eq_false_iff.2 λh6=>by have:=hcl 6 5 (by show(6:Nat)<7;decide) h6 (by kernel_rfl);rw[hl]at this;cases this
      obtain rfl:=hA h6;refine aO (by rfl) rfl ?_;refine wp_load_row _ _ rfl w8.heap.size rfl 329 (arr v') (0,0) _ A12.o Ri rfl (by rw[A12s.o];exact xS) ?_;exact hK _ _ ⟨_,rfl,⟨λ_=>rfl,λh=>absurd h (by show¬(if 6=5 then true else bg 6)=true;rw[if_neg (by decide),h6];decide)⟩,trivial,rfl⟩
     |6,_=>
      obtain⟨hA,_⟩:=hG;obtain rfl:=hA hl;obtain rfl:x63=_:=hp 3 (by kernel_rfl);obtain rfl:x64=_:=hp 4 (by kernel_rfl);obtain rfl:x65=_:=hp 5 (by kernel_rfl);refine aO (by rfl) rfl ?_;go_simp;exact hK _ _ ⟨undef,rfl,⟨λh=>absurd h (by show¬(if 6=6 then true else bg 6)=false;rw[if_pos rfl];decide),λ_=>rfl⟩,trivial,trivial⟩
     |i+7,hi=>exact absurd hi (by simp)
    case done=>
     rintro a RB bg hl ⟨x60,x61,x62,x63,x64,x65,rfl⟩ ⟨_,hG⟩ hp;obtain rfl:=hG (hl 6 (by show(6:Nat)<7;decide));clear hp hl hput V Vl;go_wp2_with fail;go_roundw
     case rel=>
      exact⟨λy=>if y=k then some v' else g y,_,⟨cnt',by have h:=R13.o;rw[dP,Rn]at h;exact h⟩,HM.o.step k (λy hy=>by simp[hy]) ⟨λv hv=>by simp only[if_true,Option.some.injEq]at hv;subst hv;exact⟨PV.o,K36.o⟩,λhv=>by simp at hv⟩,C12.o.trans (aR.drew.trans (aR.turned TN.o rfl))⟩
     case measure=>rw[R13.o.left_eq,RR.o.left_eq];have:=CN.o;omega
   ·have t1:¬(n:Int)-(k:Int)*64<=0:=by omega
    have t2:¬(n:Int)-(k:Int)*64<64:=by omega
    have C1:=U (And.intro c1 c2);clear c1 c2
    go_wp2_with (first
     |(refine wpList_runTo rfl _ rfl _ _ (zW _ _ _ rfl) ?_)
     |(refine wpList_store_row rfl _ _ _ rfl w8.heap.size (arr u) rfl rfl _ gN (aN.new w8 329 gN) (by rw[US.o];exact xS) (by rw[US.o];exact Array.size_replicate) (zV u) ?_
       rw[<-HW.o]))
    go_roundw
    case rel=>
     exact⟨g,_,cnt',Th.o,HM.o.step k (λy hy=>rfl) ⟨λv hv=>by
      rw[GK.o]at hv;obtain rfl:=Option.some.inj hv;exact⟨by rw[OX _ (by have:=C1.o;omega)];exact UU.o,K36.o⟩,λhv=>by rw[GK.o]at hv;cases hv⟩,CC.o⟩
    case measure=>rw[Th.o.left_eq,RR.o.left_eq];have:=CN.o;omega
end
