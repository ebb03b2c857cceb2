/- Lemmas. -/
import Derived.Test.YtpendnmmgjlmfaaGreatDoorM12
import Derived.Test.YtpendnmmgjlmfaaGreatDoorM18
import Derived.Test.YtpendnmmgjlmfaaGreatDoorM19
set_option linter.unusedVariables false
set_option linter.unusedSimpArgs false
namespace Go.Proofs.YtpendnmmgjlmfaaGreatDoor
open Go.RowKit Go.Shelf Go.Maps
open Go.Proofs.Tryz
open IntKind renaming i64→J,u32→F,u8→aF
open Value renaming pointer→G
open Ending renaming returned→aG
open Obj renaming cells→aH
set_option maxRecDepth 100000
set_option maxHeartbeats 4000000
namespace Ap
open Dev qX
open Re (Rw dX JI rD vL May KV Bz)
open Tr (eB dP jO aO)
def dv (f:Nat):Value:=.agg #[.func (.func f) #[] #[]]
def dF (o:Nat):Nat:=if o=1 then 107 else if o=2 then 108 else if o=3 then 109 else if o=4 then 110 else if o=5 then 111 else if o=6 then 112 else 113
def Pt (y:Nat):Option Value:=if 1<=y/\y<=7 then some (dv (dF y))else none
theorem Vq (w:World):Calls prog 57 #[] w λe w'=>∃b,e=aG (.map (some b))/\cZ w' 5 b 7 (eB aF Pt)/\w.heap.size<=b/\Below w.heap.size w w':=by
 have hmm:=@run_makeMap prog;have h0:=cZ.new w 5;rw[vL aF]at h0;have B0:Tr.aR (λc=>w.heap.size<=c) w (w.alloc (.map #[] 0)):=Tr.aR.of ((aj w.heap.size w).alloc (ah _) (.map #[] 0));obtain⟨w0,hw0⟩:∃w0,w.alloc (.map #[] 0)=w0:=⟨_,rfl⟩;rw[hw0]at h0 B0;obtain⟨w1,r1,h1,t1⟩:=h0.put JI underlying141 (by decide) (show keyOf prog 5 (.int aF 1)=some (.int aF 1)from rD (x:=1) (by omega)) (dv 107);change cZ w1 _ _ _ (lU (eB aF _) (.int aF ((1:Nat):Int)) _)at h1;rw[dP]at h1;have B1:=B0.trans (Tr.aR.turned t1 (ah _));obtain⟨w2,r2,h2,t2⟩:=h1.put JI underlying141 (by decide) (show keyOf prog 5 (.int aF 2)=some (.int aF 2)from rD (x:=2) (by omega)) (dv 108);change cZ w2 _ _ _ (lU (eB aF _) (.int aF ((2:Nat):Int)) _)at h2;rw[dP]at h2;have B2:=B1.trans (Tr.aR.turned t2 (ah _));obtain⟨w3,r3,h3,t3⟩:=h2.put JI underlying141 (by decide) (show keyOf prog 5 (.int aF 3)=some (.int aF 3)from rD (x:=3) (by omega)) (dv 109);change cZ w3 _ _ _ (lU (eB aF _) (.int aF ((3:Nat):Int)) _)at h3;rw[dP]at h3;have B3:=B2.trans (Tr.aR.turned t3 (ah _));obtain⟨w4,r4,h4,t4⟩:=h3.put JI underlying141 (by decide) (show keyOf prog 5 (.int aF 4)=some (.int aF 4)from rD (x:=4) (by omega)) (dv 110);change cZ w4 _ _ _ (lU (eB aF _) (.int aF ((4:Nat):Int)) _)at h4;rw[dP]at h4;have B4:=B3.trans (Tr.aR.turned t4 (ah _));obtain⟨w5,r5,h5,t5⟩:=h4.put JI underlying141 (by decide) (show keyOf prog 5 (.int aF 5)=some (.int aF 5)from rD (x:=5) (by omega)) (dv 111);change cZ w5 _ _ _ (lU (eB aF _) (.int aF ((5:Nat):Int)) _)at h5;rw[dP]at h5;have B5:=B4.trans (Tr.aR.turned t5 (ah _));obtain⟨w6,r6,h6,t6⟩:=h5.put JI underlying141 (by decide) (show keyOf prog 5 (.int aF 6)=some (.int aF 6)from rD (x:=6) (by omega)) (dv 112);change cZ w6 _ _ _ (lU (eB aF _) (.int aF ((6:Nat):Int)) _)at h6;rw[dP]at h6;have B6:=B5.trans (Tr.aR.turned t6 (ah _));obtain⟨w7,r7,h7,t7⟩:=h6.put JI underlying141 (by decide) (show keyOf prog 5 (.int aF 7)=some (.int aF 7)from rD (x:=7) (by omega)) (dv 113);change cZ w7 _ _ _ (lU (eB aF _) (.int aF ((7:Nat):Int)) _)at h7;rw[dP]at h7;have B7:=B6.trans (Tr.aR.turned t7 (ah _))
 have hd:(λy=>if y=7 then some (dv 113)else if y=6 then some (dv 112)else if y=5 then some (dv 111)else if y=4 then some (dv 110)else if y=3 then some (dv 109)else if y=2 then some (dv 108)else if y=1 then some (dv 107)else none:Nat->Option Value)=Pt:=by
  funext y
  unfold Pt dF
  repeat' split
  all_goals first|rfl|omega
 have HV:=U (show cZ w7 5 w.heap.size 7 (eB aF Pt)by rw[<-hd];exact h7);have BB:=U (Tr.aR.below B7 λi hi=>⟨hi,Nat.not_le.2 hi⟩);have HW:=U hw0;clear h0 h1 h2 h3 h4 h5 h6 h7 t1 t2 t3 t4 t5 t6 t7 B0 B1 B2 B3 B4 B5 B6 B7 hd;unfold dv at*;rw[<-HW.o]at r1;clear hw0
 go_enter func57,ntmps57
 go_wp2_with fail;go_ret;exact⟨_,rfl,HV.o,ah _,BB.o⟩
theorem Zt {W:World} {b o:Nat} (h:cZ W 5 b 7 (eB aF Pt)) (ho:1<=o/\o<=7):(Instr.lookup 141 (.map (some b)) (.int aF o) false).run prog W=.ok (dv (dF o)) W:=by
 have hz:(zeroValue 140).run prog W=.ok (.agg #[.nilFunc]) W:=by kernel_rfl
 rw[h.look JI underlying141 hz (rD (x:=o) (by omega)),jO];unfold Pt;rw[if_pos ho]
 rfl
theorem Vc {o:Nat} (h:1<=o/\o<=7):∀(v u:Value) (W:World),(callFunc (dF o) #[v,u]).run prog W=.ok (.enter (dF o) #[v,u]) W:=by
 obtain⟨h1,h2⟩:=h;intro v u W
 match o,h1,h2 with
 |1,_,_=>exact enters_of func107 (by kernel_rfl) rfl _ W
 |2,_,_=>exact enters_of func108 (by kernel_rfl) rfl _ W
 |3,_,_=>exact enters_of func109 (by kernel_rfl) rfl _ W
 |4,_,_=>exact enters_of func110 (by kernel_rfl) rfl _ W
 |5,_,_=>exact enters_of func111 (by kernel_rfl) rfl _ W
 |6,_,_=>exact enters_of func112 (by kernel_rfl) rfl _ W
 |7,_,_=>exact enters_of func113 (by kernel_rfl) rfl _ W
section
variable {m M:Nat} {Q:Prop} {A B:World->Prop} {r:Rw}
theorem EE (v:Value) (w:World) (hv:v=.agg (dX r)):Calls prog 26 #[G none,v] w λe w'=>e=aG (.int J 1)/\Below w.heap.size w w':=by
 subst hv;unfold dX
 go_enter func26,ntmps26
 go_wp2
 go_ret;exact⟨rfl,(aj _ _).alloc (ah _) _⟩
theorem Zu (wz:World) (hm:May r.rc) (hpg:0<=r.page) (DO:∀W,A W->Calls prog (dF r.op) #[.agg #[M],.agg (dX r)] W (Rs (λc=>c=m) Q B W)) (sA:qY m A) (sB:qY m B) (hA:A wz):
 Calls prog 26 #[M,.agg (dX r)] wz (Rs (λc=>c=m) Q B wz):=by
 have hop:1<=r.op/\r.op<=7:=hm.op;have DO:=U (And.intro DO sB);have CK:=U (λW=>KV r.rc hm W);have HF:=U (Vc hop);have HMm:=U (sA.2 _ hA);have SA:=U sA;have HA:=U hA;have BX:=U (aN.new wz 44 (dX r));have EQ:=Bz hpg;unfold Re.kZ at CK;rw[<-EQ]at CK;clear sA hA hm hpg EQ sB;unfold dX at CK;unfold dX
 go_enter func26,ntmps26
 have hX0:=BX.o.cell;have hl0:=BX.o.lt;unfold dX at hX0;go_wp2_with fail;refine ak (CK.o _) ?_;rintro e w1 ⟨rfl,hb⟩;have hX:=BX.o.later hb;have B1:=U (((aj _ wz).alloc (ah _) (aH (dX r) 44)).trans (hb.mono (by simp)));have X1:=U hX;clear hX hb BX CK hX0 hl0;go_wp2_with fail;refine gq (by kernel_rfl) (λ|0=>some 12|1=>some 13|2=>some 14|3=>some 15|4=>some 16|5=>some 17|6=>some 18|7=>some 19|8=>some 20|9=>some 4|_=>none) (λa=>∃x4 Ep Er Es NV NY NZ x18 Oa x20:Value,a=⟨#[M,.agg #[.int .u64 r.stamp,.int aF r.op,.int F r.dir,.string r.name,.int F r.ino,.int aF r.kind,.int F r.bV,.string r.name2,.int F r.old,.int F r.size,.int J r.page,.string r.data],undef,wz.heap.size,x4,.bool false,M,.bool false,.bool false,.agg #[.int .u64 r.stamp,.int aF r.op,.int F r.dir,.string r.name,.int F r.ino,.int aF r.kind,.int F r.bV,.string r.name2,.int F r.old,.int F r.size,.int J r.page,.string r.data],.int J 0,.bool false,Ep,Er,Es,NV,NY,NZ,x18,Oa,x20],[]⟩) (λbg W=>bg 8=false->Below wz.heap.size wz W/\aN W wz.heap.size 44 (dX r)) (λi w1 w2=>if i=8 then aR (λc=>c=m) w1 w2 else Below w1.heap.size w1 w2) (λ|0=>(λv w=>∃b,v=Value.map (some b)/\wz.heap.size<=b/\cZ w 5 b 7 (eB aF Pt))|1=>(λv w=>v=Value.pointer (some ⟨wz.heap.size,1,none⟩))|2=>(λv w=>v=Value.int aF r.op)|3=>(λv w=>v=dv (dF r.op))|4=>(λv w=>v=Value.func (.func (dF r.op)) #[] #[])|5=>(λv w=>v=Value.pointer (some ⟨M,0,none⟩))|6=>(λv w=>v=Value.agg #[M])|7=>(λv w=>v=Value.agg (dX r))|8=>(λv w=>∃c:Int,v=Value.int J c/\aR (λc=>c=m) wz w/\(c=0->B w)/\(c≠0->Q))|9=>(λv w=>∃c:Int,v=Value.int J c/\aR (λc=>c=m) wz w/\(c=0->B w)/\(c≠0->Q))|_=>(λ_ _=>True)) (by kernel_rfl) ?stb (by kernel_rfl) ?AA ⟨_,_,_,_,_,_,_,_,_,_,rfl⟩ ?G0 ?step ?done
 case stb=>
  intro i j v w1 w2 hi hj hij hw hp hs;have hi:i<10:=hi
  match j,hp with
  |0,hp=>
   obtain⟨b,e1,e2,e3⟩:=hp
   by_cases h8:i=8
   ·rw[if_pos h8]at hs
    exact⟨b,e1,e2,e3.block (hs.block b e3.lt (λq=>by have:=HMm.o;omega))⟩
   ·rw[if_neg h8]at hs
    exact⟨b,e1,e2,e3.later hs⟩
  |1,hp|2,hp|3,hp|4,hp|5,hp|6,hp|7,hp=>exact hp
  |8,hp=>
   obtain⟨c,e1,e2,e3,e4⟩:=hp;rw[if_neg hij]at hs;exact⟨c,e1,e2.trans (aR.of_below hs),λq=>DO.o.2.1 _ _ (e3 q) hs,e4⟩
  |9,hp=>
   obtain⟨c,e1,e2,e3,e4⟩:=hp;have h8:i≠8:=λq=>by subst q;have e:false=true:=hw.symm.trans (by kernel_rfl);cases e
   rw[if_neg h8]at hs;exact⟨c,e1,e2.trans (aR.of_below hs),λq=>DO.o.2.1 _ _ (e3 q) hs,e4⟩
  |j+10,_=>exact trivial
 case AA=>
  rintro i a v hi ⟨_,_,_,_,_,_,_,_,_,_,rfl⟩
  match i,hi with
  |0,_|1,_|2,_|3,_|4,_|5,_|6,_|7,_|8,_|9,_=>exact⟨⟨_,_,_,_,_,_,_,_,_,_,rfl⟩,λt h=>by cases h<;>exact of_decide_eq_true rfl⟩
  |i+10,hi=>exact absurd hi (by simp)
 case G0=>exact λ_=>⟨B1.o.drew,X1.o.later (aj _ _).drew⟩
 case step=>
  rintro i a w1 bg hi ⟨x4,Ep,Er,Es,NV,NY,NZ,x18,Oa,x20,rfl⟩ hl hcl hG hp;refine gu (λK hK=>?_)
  match i,hi with
  |0,_=>
   have MS:bg 8=false:=by
    cases h8:bg 8 with
    |false=>rfl
    |true=>exact absurd (hcl 8 0 (by show 8<10;decide) h8 (by kernel_rfl)) (by rw[hl];decide)
   obtain⟨hb,hr⟩:=hG MS;refine aO (by rfl) rfl ?_;go_simp;refine ak (Vq w1) ?_;rintro e w2 ⟨b,rfl,k1,k2,k3⟩;exact hK _ _ ⟨_,rfl,λ_=>⟨hb.trans (k3.mono hb.size),hr.later k3⟩,k3,b,rfl,aD hb.size k2,k1⟩
  |1,_=>
   have MS:bg 8=false:=by
    cases h8:bg 8 with
    |false=>rfl
    |true=>exact absurd (hcl 8 1 (by show 8<10;decide) h8 (by kernel_rfl)) (by rw[hl];decide)
   obtain⟨hb,hr⟩:=hG MS;have hlz:=hr.lt;refine aO (by rfl) rfl ?_;go_simp;exact hK _ _ ⟨_,rfl,λ_=>⟨hb,hr⟩,aj _ _,rfl⟩
  |2,_=>
   have MS:bg 8=false:=by
    cases h8:bg 8 with
    |false=>rfl
    |true=>exact absurd (hcl 8 2 (by show 8<10;decide) h8 (by kernel_rfl)) (by rw[hl];decide)
   obtain⟨hb,hr⟩:=hG MS;obtain rfl:Er=_:=hp 1 (by kernel_rfl);have c1:=hr.cell;unfold dX at c1;have hlz:=hr.lt;refine aO (by rfl) rfl ?_;go_simp;exact hK _ _ ⟨_,rfl,λ_=>⟨hb,hr⟩,aj _ _,rfl⟩
  |3,_=>
   have MS:bg 8=false:=by
    cases h8:bg 8 with
    |false=>rfl
    |true=>exact absurd (hcl 8 3 (by show 8<10;decide) h8 (by kernel_rfl)) (by rw[hl];decide)
   obtain⟨hb,hr⟩:=hG MS;obtain⟨b,e12,hbz,hv⟩:=hp 0 (by kernel_rfl);change Ep=_ at e12;subst e12;obtain rfl:Es=_:=hp 2 (by kernel_rfl);have hk:=Zt hv hop;refine aO (by rfl) rfl ?_;go_simp;exact hK _ _ ⟨_,rfl,λ_=>⟨hb,hr⟩,aj _ _,rfl⟩
  |4,_=>
   have MS:bg 8=false:=by
    cases h8:bg 8 with
    |false=>rfl
    |true=>exact absurd (hcl 8 4 (by show 8<10;decide) h8 (by kernel_rfl)) (by rw[hl];decide)
   obtain⟨hb,hr⟩:=hG MS;obtain rfl:NV=_:=hp 3 (by kernel_rfl);unfold dv;refine aO (by rfl) rfl ?_;go_simp;exact hK _ _ ⟨_,rfl,λ_=>⟨hb,hr⟩,aj _ _,rfl⟩
  |5,_=>
   have MS:bg 8=false:=by
    cases h8:bg 8 with
    |false=>rfl
    |true=>exact absurd (hcl 8 5 (by show 8<10;decide) h8 (by kernel_rfl)) (by rw[hl];decide)
   obtain⟨hb,hr⟩:=hG MS;refine aO (by rfl) rfl ?_;go_simp;exact hK _ _ ⟨_,rfl,λ_=>⟨hb,hr⟩,aj _ _,rfl⟩
  |6,_=>
   have MS:bg 8=false:=by
    cases h8:bg 8 with
    |false=>rfl
    |true=>exact absurd (hcl 8 6 (by show 8<10;decide) h8 (by kernel_rfl)) (by rw[hl];decide)
   obtain⟨hb,hr⟩:=hG MS;obtain rfl:NZ=_:=hp 5 (by kernel_rfl);refine aO (by rfl) rfl ?_;go_simp;exact hK _ _ ⟨_,rfl,λ_=>⟨hb,hr⟩,aj _ _,rfl⟩
  |7,_=>
   have MS:bg 8=false:=by
    cases h8:bg 8 with
    |false=>rfl
    |true=>exact absurd (hcl 8 7 (by show 8<10;decide) h8 (by kernel_rfl)) (by rw[hl];decide)
   obtain⟨hb,hr⟩:=hG MS;have c1:=hr.cell;unfold dX at c1;have hlz:=hr.lt;refine aO (by rfl) rfl ?_;go_simp;exact hK _ _ ⟨_,rfl,λ_=>⟨hb,hr⟩,aj _ _,rfl⟩
  |8,_=>
   obtain⟨hb,hr⟩:=hG hl;obtain rfl:NY=_:=hp 4 (by kernel_rfl);obtain rfl:x18=_:=hp 6 (by kernel_rfl);obtain rfl:Oa=_:=hp 7 (by kernel_rfl);refine aO (by rfl) rfl ?_;have hf:=HF.o;go_simp;refine ak (DO.o.1 w1 (SA.o.1 _ _ HA.o hb)) ?_;rintro e w2 ⟨c,rfl,t,k1,k2⟩;exact hK _ _ ⟨_,rfl,λq=>absurd q (by simp),by rw[if_pos rfl];exact t,c,rfl,(aR.of_below hb).trans t,k1,k2⟩
  |9,_=>
   obtain⟨c,e20,h8⟩:=hp 8 (by kernel_rfl);change x20=_ at e20;subst e20;refine aO (by rfl) rfl ?_;go_simp;exact hK _ _ ⟨_,rfl,λq=>hG (by simpa using q),aj _ _,c,rfl,h8⟩
  |i+10,hi=>exact absurd hi (by simp)
 case done=>
  rintro a w2 bg hl ⟨x4,Ep,Er,Es,NV,NY,NZ,x18,Oa,x20,rfl⟩ h0 hp;obtain⟨c,e4,h9⟩:=hp 9 (by decide);change x4=_ at e4;subst e4;have PP:=U h9;clear h0 h9 hp;go_wp2_with fail;go_ret;exact⟨c,rfl,PP.o⟩
end
