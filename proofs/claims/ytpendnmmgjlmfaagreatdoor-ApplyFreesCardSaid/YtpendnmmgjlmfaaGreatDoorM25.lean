/- Lemmas. -/
import Derived.Test.YtpendnmmgjlmfaaGreatDoorM24
set_option linter.unusedVariables false
set_option linter.unusedSimpArgs false
namespace Go.Proofs.YtpendnmmgjlmfaaGreatDoor
open Go.RowKit Go.Shelf Go.Maps
open Go.Proofs.Tryz
open IntKind renaming i64→J,u32→F,u8→aF
open Value renaming pointer→G,int->ι,string->σ,bool->ν,tuple->τ,slice->θ,agg->γ
open Ending renaming returned→aG
open Obj renaming cells→aH
set_option maxRecDepth 100000
set_option maxHeartbeats 400000
namespace Re
open Oct Path Tr
section
variable {R g room q:Nat} {S:T} {es:Nat->List bC} {pa:Nat->Option Addr} {ca:Nat->Nat}
noncomputable def Dt (S:T) (tt:Nat) (s:Nm) (o:Nat):T:=if o=0 then S else mO ⟨S.n,aY S.l tt s 0⟩ o
noncomputable def zG (S:T) (dir:Nat) (s:Nm) (tt:Nat) (s2:Nm) (x o:Nat):T:=if o=x then S else⟨(Dt S tt s2 o).n,aY (aY (Dt S tt s2 o).l dir s 0) tt s2 x⟩
def renP (S:T) (tt x o:Nat):Prop:=(S.n tt).kind=2/\((S.n x).kind=2->¬yL S x tt)/\(o≠0->o≠x->(S.n o).kind=(S.n x).kind/\∀t,S.l o t=0)
theorem uT (S:T) (x:Nat):(mO S x).l=S.l:=by
 unfold mO
 split<;>rfl
theorem EY {S:T} {x y:Nat} (h:y≠x):(mO S x).n y=S.n y:=by
 unfold mO
 split
 ·simp[aS,h]
 ·rfl
theorem YA (wz:World) (h:ko wz R g room q S es pa ca) (hI:Inv room S) (dir tt x:Nat) (hd:dir<4294967296) (ht:tt<4294967296) (s s2:ByteArray) (hs:s.size<=maxLen) (hs2:s2.size<=maxLen) (hn:isName (L s)=true) (hn2:isName (L s2)=true) (hq:q<1000)
 (hdk:(S.n dir).kind=2) (hx:S.l dir (L s)=x) (hx0:x≠0):
 Calls prog 83 #[R,ι F dir,σ s,ι F tt,σ s2] wz
  (bQ g wz (renP S tt x (S.l tt (L s2))) λw'=>jM w' R g room (q+1) (zG S dir (L s) tt (L s2) x (S.l tt (L s2)))):=by
 have NM:=U (mD s wz hs);rw[hn]at NM;have NM2:=U (mD s2 wz hs2);rw[hn2]at NM2;have H:=U h;have HI:=U hI;have HS:=U (And.intro hs hs2);have TD:=U (kP wz h dir hd);rw[hdk]at TD;have TT:=U (kP wz h tt ht);obtain⟨d1,d2⟩:=h.rng dir (by omega);have KD:=U (kH wz h dir d1 d2);rw[hdk]at KD;have LK:=U (uS wz h dir hd s hs hn);rw[show BF S dir (L s)=0 by unfold BF;rw[if_neg (by omega),if_pos hdk,if_neg (by rw[hx];exact hx0)],show Lf S dir (L s)=x by unfold Lf;rw[if_pos hdk,hx]]at LK;have LK2:=U (uS wz h tt ht s2 hs2 hn2);have hxk:=(hI.ent dir (L s) (by rw[hx];exact hx0)).1;rw[hx]at hxk;obtain⟨x1,x2⟩:=h.rng x hxk;have KX:=U (kH wz h x x1 x2);have HDK:=U hdk;have HX:=U hx;have HX0:=U hx0;have HXK:=U hxk;have kx:(S.n x).kind=1\/(S.n x).kind=2:=by have:=h.kd x;omega
 obtain⟨o,ho⟩:∃o,S.l tt (L s2)=o:=⟨_,rfl⟩;rw[ho];have HO:=U ho;clear h hI hs hs2 hn hn2 hdk hx hxk ho
 go_enter func83,ntmps83
 go_wp2_with fail;refine ak NM.o ?_;rintro e w' ⟨rfl,rfl⟩;go_wp2_with fail;refine ak NM2.o ?_;rintro e w' ⟨rfl,rfl⟩;go_wp2_with fail;refine ak TD.o ?_;rintro e w' ⟨rfl,rfl⟩;go_wp2_with fail;refine ak TT.o ?_;rintro e w' ⟨rfl,rfl⟩
 by_cases YB:(S.n tt).kind=0
 ·rw[YB]
  go_wp2_with fail;go_ret;exact bQ.no (by decide) (Tr.aR.refl _ _) (λp=>by have h1:(S.n tt).kind=2:=p.1;omega)
 have t4:((S.n tt).kind==0)=false:=by simpa using YB
 rw[t4];obtain⟨k1,k2⟩:=H.o.rng tt YB;have KT:=U (kH w' H.o tt k1 k2);have HTK0:=U YB;clear t4 YB;go_wp2_with fail;refine ak KD.o ?_;rintro e w' ⟨rfl,rfl⟩;go_wp2_with fail;refine ak KT.o ?_;rintro e w' ⟨rfl,rfl⟩
 by_cases htk:(S.n tt).kind=2
 case neg=>
  have NP:=U htk;have t5:(((S.n tt).kind:Int)!=2)=true:=by simp;omega
  clear htk;go_wp2_with fail;go_ret;exact bQ.no (by decide) (Tr.aR.refl _ _) (λp=>NP.o p.1)
 rw[htk];have Kx:=U htk;clear htk;go_wp2_with fail;refine ak LK.o ?_;rintro e w' ⟨rfl,rfl⟩;go_wp2_with fail;refine ak KX.o ?_;rintro e w' ⟨rfl,rfl⟩;have LE:Hid (BF S tt (L s2)=(if o=0 then 3 else 0)/\Lf S tt (L s2)=o):=U (by unfold BF Lf;rw[if_neg HTK0.o,if_pos Kx.o,if_pos Kx.o,HO.o];exact⟨rfl,rfl⟩);rw[LE.o.1,LE.o.2]at LK2
 have DE1:=U (λ(W:World) (S':T) (q':Nat) (hA:jM W R g room q' S') (hl:S'.l dir (L s)≠0)=>(show Calls prog 143 #[G (some ⟨R,0,none⟩),ι F dir,σ s] W λe w'=>e=aG (τ #[])/\jM w' R g room q' ⟨S'.n,aY S'.l dir (L s) 0⟩/\Tr.aR (λb=>b=g) W w' from by
  obtain⟨es',pa',ca',hM⟩:=hA;exact RA W hM dir (dir-1) (by omega) (by omega) s HS.o.1 hl))
 have DE2:=U (λ(ho:o≠0)=>RA w' H.o tt (tt-1) (by omega) (by omega) s2 HS.o.2 (by rw[HO.o];exact ho))
 have AD:=U (λ(W:World) (S':T) (q':Nat) (hq':q'<1000) (hA:jM W R g room q' S') (hl:S'.l tt (L s2)=0)=>(show Calls prog 76 #[G (some ⟨R,0,none⟩),ι F tt,σ s2,ι F x] W λe w'=>e=aG (τ #[])/\jM w' R g room (q'+1) ⟨S'.n,aY S'.l tt (L s2) x⟩/\Tr.aR (λb=>b=g) W w' from by
  obtain⟨es',pa',ca',hM⟩:=hA;exact Ry W hM tt (tt-1) (by omega) (by omega) s2 HS.o.2 x x1 hl hq'))
 rcases kx with kx|kx
 ·have YC:=U kx
  rw[kx];clear kx;go_wp2_with fail;refine ak LK2.o ?_;rintro e w' ⟨rfl,rfl⟩
  by_cases ho0:o=0
  ·subst ho0
   have hox:¬(0:Nat)=x:=λe=>HX0.o e.symm;have BO:Hid ((⟨S.n,aY (aY S.l dir (L s) 0) tt (L s2) x⟩:T)=zG S dir (L s) tt (L s2) x 0):=U (by unfold zG Dt;rw[if_neg hox,if_pos rfl]);have L1:Hid (S.l dir (L s)≠0):=U (by rw[HX.o];exact HX0.o);have L2:Hid (aY S.l dir (L s) 0 tt (L s2)=0):=U (by unfold aY;split;rfl;exact HO.o);rw[if_pos rfl];clear hox;go_wp2_with fail;refine ak (DE1.o _ _ _ ⟨es,pa,ca,H.o⟩ L1.o) ?_;rintro e w6 ⟨rfl,YD,Rt⟩;have A6:=U YD;have T6:=U Rt;clear YD Rt;go_wp2_with fail;refine ak (AD.o _ _ _ hq A6.o L2.o) ?_;rintro e w7 ⟨rfl,YE,SJ⟩;go_wp2_with fail;go_ret;refine bQ.yes (((Tr.aR.refl (λb=>b=g) w').trans T6.o).trans SJ) ⟨Kx.o,(λe=>by have:=YC.o;omega),λe=>absurd rfl e⟩ ?_;exact BO.o▸YE
  by_cases hox:o=x
  ·subst hox
   have YF:o≠0:=HX0.o;rw[if_neg YF];clear YF;go_wp2_with fail;refine ak KX.o ?_;rintro e w' ⟨rfl,rfl⟩;rw[YC.o];go_wp2_with fail;go_ret;refine bQ.yes (Tr.aR.refl _ _) ⟨Kx.o,(λe=>by have:=YC.o;omega),λ_ e=>absurd rfl e⟩ ?_;unfold zG;rw[if_pos rfl];exact jM.mono ⟨es,pa,ca,H.o⟩ (Nat.le_succ _) hq
  have KB:Hid (¬o=x):=U hox;have Lk:Hid (o≠0):=U ho0;have tn:((o:Int)==x)=false:=by simp;omega
  have hok:=(HI.o.ent tt (L s2) (by rw[HO.o];exact ho0)).1;rw[HO.o]at hok;obtain⟨o1,o2⟩:=H.o.rng o hok;have KO:=U (kH w' H.o o o1 o2);have HOK:=U hok;rw[if_neg ho0];clear hok ho0 hox;go_wp2_with fail;refine ak KO.o ?_;rintro e w' ⟨rfl,rfl⟩
  by_cases hk2:(S.n o).kind=2
  ·have NP:=U hk2
   rw[hk2];clear hk2;go_wp2_with fail;go_ret;exact bQ.no (by decide) (Tr.aR.refl _ _) (λp=>by have h1:=(p.2.2 Lk.o KB.o).1;rw[NP.o,YC.o]at h1;cases h1)
  ·have SR:Hid ((S.n o).kind=1):=U (by have:=H.o.kd o;have:=HOK.o;omega)
   have EMP:Hid (∀t,S.l o t=0):=U (λt=>HI.o.vo o t hk2);rw[SR.o];clear hk2
   have Su:Hid (∀t,aY S.l tt (L s2) 0 o t=0):=U (λt=>by
    unfold aY
    split
    ·rfl
    ·exact EMP.o t)
   have NDT:Hid (¬(dir=tt/\L s=L s2)):=U (λe=>KB.o (by rw[<-HO.o,<-HX.o,e.1,e.2]));have BO:Hid ((⟨(mO ⟨S.n,aY S.l tt (L s2) 0⟩ o).n,aY (aY (mO ⟨S.n,aY S.l tt (L s2) 0⟩ o).l dir (L s) 0) tt (L s2) x⟩:T)=zG S dir (L s) tt (L s2) x o):=U (by unfold zG Dt;rw[if_neg KB.o,if_neg Lk.o]);have L1:Hid ((mO ⟨S.n,aY S.l tt (L s2) 0⟩ o).l dir (L s)≠0):=U (by rw[uT];unfold aY;simp only;rw[if_neg NDT.o,HX.o];exact HX0.o);have L2:Hid (aY (mO ⟨S.n,aY S.l tt (L s2) 0⟩ o).l dir (L s) 0 tt (L s2)=0):=U (by rw[uT];unfold aY;split;rfl;simp);go_wp2_with fail;refine ak (DE2.o Lk.o) ?_;rintro e w2 ⟨rfl,⟨es',pa',ca',hM⟩,hT⟩;have FR:=U (BH w2 hM o o1 o2 Su.o);have T2:=U hT;clear hM hT;go_wp2_with fail;refine ak FR.o ?_;rintro e w3 ⟨rfl,hA3,fY⟩;have A3:=U hA3;have T3:=U (T2.o.trans fY);clear hA3 fY;go_wp2_with fail;refine ak (DE1.o _ _ _ A3.o L1.o) ?_;rintro e w6 ⟨rfl,YD,Rt⟩;have A6:=U YD;have T6:=U Rt;clear YD Rt;go_wp2_with fail;refine ak (AD.o _ _ _ hq A6.o L2.o) ?_;rintro e w7 ⟨rfl,YE,SJ⟩;go_wp2_with fail;go_ret;refine bQ.yes ((T3.o.trans T6.o).trans SJ) ⟨Kx.o,(λe=>by have:=YC.o;omega),λ_ _=>⟨by rw[YC.o,SR.o],EMP.o⟩⟩ ?_;exact BO.o▸YE
 ·have YC:=U kx
  rw[kx];clear kx;obtain⟨rk,Rr⟩:=HI.o.CV;obtain⟨N,hN⟩:=KR rk room
  by_cases hbel:yL S x tt
  ·have BL:=U (Rk w' H.o HI.o rk Rr N hN tt N x x1 x2 (by omega) true (by simp[hbel]))
   have NP:=U hbel;clear Rr hN hbel;go_wp2_with fail;refine ak BL.o ?_;rintro e w' ⟨rfl,rfl⟩;go_wp2_with fail;go_ret;exact bQ.no (by decide) (Tr.aR.refl _ _) (λp=>p.2.1 YC.o NP.o)
  ·have BL:=U (Rk w' H.o HI.o rk Rr N hN tt N x x1 x2 (by omega) false (by simp[hbel]))
   have HBL:=U hbel;clear Rr hN hbel;go_wp2_with fail;refine ak BL.o ?_;rintro e w' ⟨rfl,rfl⟩;go_wp2_with fail;refine ak LK2.o ?_;rintro e w' ⟨rfl,rfl⟩
   by_cases ho0:o=0
   ·subst ho0
    have hox:¬(0:Nat)=x:=λe=>HX0.o e.symm;have BO:Hid ((⟨S.n,aY (aY S.l dir (L s) 0) tt (L s2) x⟩:T)=zG S dir (L s) tt (L s2) x 0):=U (by unfold zG Dt;rw[if_neg hox,if_pos rfl]);have L1:Hid (S.l dir (L s)≠0):=U (by rw[HX.o];exact HX0.o);have L2:Hid (aY S.l dir (L s) 0 tt (L s2)=0):=U (by unfold aY;split;rfl;exact HO.o);rw[if_pos rfl];clear hox;go_wp2_with fail;refine ak (DE1.o _ _ _ ⟨es,pa,ca,H.o⟩ L1.o) ?_;rintro e w6 ⟨rfl,YD,Rt⟩;have A6:=U YD;have T6:=U Rt;clear YD Rt;go_wp2_with fail;refine ak (AD.o _ _ _ hq A6.o L2.o) ?_;rintro e w7 ⟨rfl,YE,SJ⟩;go_wp2_with fail;go_ret;refine bQ.yes (((Tr.aR.refl (λb=>b=g) w').trans T6.o).trans SJ) ⟨Kx.o,(λ_=>HBL.o),λe=>absurd rfl e⟩ ?_;exact BO.o▸YE
   by_cases hox:o=x
   ·subst hox
    have YF:o≠0:=HX0.o;rw[if_neg YF];clear YF;go_wp2_with fail;refine ak KX.o ?_;rintro e w' ⟨rfl,rfl⟩;rw[YC.o];go_wp2_with fail;go_ret;refine bQ.yes (Tr.aR.refl _ _) ⟨Kx.o,(λ_=>HBL.o),λ_ e=>absurd rfl e⟩ ?_;unfold zG;rw[if_pos rfl];exact jM.mono ⟨es,pa,ca,H.o⟩ (Nat.le_succ _) hq
   have KB:Hid (¬o=x):=U hox;have Lk:Hid (o≠0):=U ho0;have tn:((o:Int)==x)=false:=by simp;omega
   have hok:=(HI.o.ent tt (L s2) (by rw[HO.o];exact ho0)).1;rw[HO.o]at hok;obtain⟨o1,o2⟩:=H.o.rng o hok;have KO:=U (kH w' H.o o o1 o2);have HOK:=U hok;rw[if_neg ho0];clear hok ho0 hox;go_wp2_with fail;refine ak KO.o ?_;rintro e w' ⟨rfl,rfl⟩
   by_cases hk2:(S.n o).kind=2
   ·have SR:Hid ((S.n o).kind=2):=U hk2
    rw[hk2];obtain⟨i,hoi⟩:∃i,o=i+1:=⟨o-1,by omega⟩;have hi:i<room:=by omega
    have hrm:=H.o.rm.2;have w1:=jH hoi (by omega);have h0:=H.o.nC;have LI:Hid (dz (S.l o) (es i)):=U (by rw[hoi];exact H.o.rows.bg i hi);obtain⟨c0,c1,c2,c3,f⟩:=H.o.ig hoi hi;have NMX:=U (H.o.rows.nm o);clear hk2 hoi c0 c2 c3 f
    by_cases hz:es i=[]
    ·have EMP:Hid (∀t,S.l o t=0):=U (λt=>Classical.byContradiction λht=>by
      have:=(LI.o.2 (B t,S.l o t)).2 ⟨by rw[iy],ht,(NMX.o t ht).2.2⟩;rw[hz]at this;cases this)
     rw[hz]at c1;rw[List.length_nil]at c1;clear hz
     have Su:Hid (∀t,aY S.l tt (L s2) 0 o t=0):=U (λt=>by
      unfold aY
      split
      ·rfl
      ·exact EMP.o t)
     have NDT:Hid (¬(dir=tt/\L s=L s2)):=U (λe=>KB.o (by rw[<-HO.o,<-HX.o,e.1,e.2]));have BO:Hid ((⟨(mO ⟨S.n,aY S.l tt (L s2) 0⟩ o).n,aY (aY (mO ⟨S.n,aY S.l tt (L s2) 0⟩ o).l dir (L s) 0) tt (L s2) x⟩:T)=zG S dir (L s) tt (L s2) x o):=U (by unfold zG Dt;rw[if_neg KB.o,if_neg Lk.o]);have L1:Hid ((mO ⟨S.n,aY S.l tt (L s2) 0⟩ o).l dir (L s)≠0):=U (by rw[uT];unfold aY;simp only;rw[if_neg NDT.o,HX.o];exact HX0.o);have L2:Hid (aY (mO ⟨S.n,aY S.l tt (L s2) 0⟩ o).l dir (L s) 0 tt (L s2)=0):=U (by rw[uT];unfold aY;split;rfl;simp);go_wp2_with fail;refine ak (DE2.o Lk.o) ?_;rintro e w2 ⟨rfl,⟨es',pa',ca',hM⟩,hT⟩;have FR:=U (BH w2 hM o o1 o2 Su.o);have T2:=U hT;clear hM hT;go_wp2_with fail;refine ak FR.o ?_;rintro e w3 ⟨rfl,hA3,fY⟩;have A3:=U hA3;have T3:=U (T2.o.trans fY);clear hA3 fY;go_wp2_with fail;refine ak (DE1.o _ _ _ A3.o L1.o) ?_;rintro e w6 ⟨rfl,YD,Rt⟩;have A6:=U YD;have T6:=U Rt;clear YD Rt;go_wp2_with fail;refine ak (AD.o _ _ _ hq A6.o L2.o) ?_;rintro e w7 ⟨rfl,YE,SJ⟩;go_wp2_with fail;go_ret;refine bQ.yes ((T3.o.trans T6.o).trans SJ) ⟨Kx.o,(λ_=>HBL.o),λ_ _=>⟨by rw[YC.o,SR.o],EMP.o⟩⟩ ?_;exact BO.o▸YE
    ·have NP:Hid (¬∀t,S.l o t=0):=U (λhno=>by
      obtain⟨e,he⟩:=List.exists_mem_of_ne_nil _ hz;have:=(LI.o.2 e).1 he;exact this.2.1 (this.1.symm.trans (hno _)))
     have hlen:0<(es i).length:=List.length_pos_iff.2 hz;obtain⟨n,hn⟩:∃n,(es i).length=n:=⟨_,rfl⟩;rw[hn]at c1 hlen;have t2:(0:Int)<n:=by omega
     clear hz hn;go_wp2_with fail;go_ret;exact bQ.no (by decide) (Tr.aR.refl _ _) (λp=>NP.o (p.2.2 Lk.o KB.o).2)
   ·have SR:Hid ((S.n o).kind=1):=U (by have:=H.o.kd o;have:=HOK.o;omega)
    rw[SR.o];clear hk2;go_wp2_with fail;go_ret;exact bQ.no (by decide) (Tr.aR.refl _ _) (λp=>by have h1:=(p.2.2 Lk.o KB.o).1;rw[SR.o,YC.o]at h1;cases h1)
end
section
variable {R g room q:Nat} {S:T}
def Mem (a b:Nd):Prop:=a.kind=b.kind/\a.data=b.data/\a.held=b.held
theorem Mem.rfl' (a:Nd):Mem a a:=⟨rfl,rfl,rfl⟩
theorem jM.mem {W:World} {S':T} (h:jM W R g room q S) (hl:S'.l=S.l) (hn:∀x,Mem (S'.n x) (S.n x)):jM W R g room q S':=h.congr hl hn
theorem xW (hI:Inv room S) {d x:Nat} {s:Nm} (hx:S.l d s=x) (hx0:x≠0) (y:Nat):Mem (aS S.n x (lose (S.n x)) y) ((mO ⟨S.n,aY S.l d s 0⟩ x).n y):=by
 obtain⟨hk,h1⟩:=hI.ent d s (by rw[hx];exact hx0);rw[hx]at hk h1
 by_cases hyx:y=x
 ·subst hyx
  rw[bE];have hk2:=hI.k2 y;have hcase:(S.n y).kind=1\/(S.n y).kind=2:=by omega
  rcases hcase with hk1|hk1
  ·have hc:=(hI.cnt y hk1).del (N:=S.n) hx (Ne.symm hx0)
   have hz:=hc.zero
   have el:lose (S.n y)=if(S.n y).held=0/\(S.n y).links-1=0 then Nd.no else{S.n y with links:=(S.n y).links-1}:=by
    unfold lose zA;rw[if_neg (by omega)]
   rw[el]
   by_cases hh:(S.n y).held=0
   ·by_cases hl:(S.n y).links-1=0
    ·rw[wI ⟨h1,hz.1 hl,hh⟩,if_pos ⟨hh,hl⟩]
     simp only[bE];exact Mem.rfl' _
    ·rw[wu (λq=>hl (hz.2 q.2.1)),if_neg (λq=>hl q.2)]
     exact⟨rfl,rfl,rfl⟩
   ·rw[wu (S:=⟨S.n,aY S.l d s 0⟩) (λq=>hh q.2.2),if_neg (λq=>hh q.1)]
    exact⟨rfl,rfl,rfl⟩
  ·have hn:¬gA ⟨S.n,aY S.l d s 0⟩ y:=by
    rintro⟨d',s',he⟩;simp only[aY]at he
    split at he
    ·exact hx0 he.symm
    ·rename_i hne
     have e1:=hI.one d s (by rw[hx];exact hk1);have e2:=hI.one d' s' (by rw[he];exact hk1);rw[hx]at e1;rw[he]at e2;have ed:d'=d:=by omega
     subst ed;have:=hI.kS d' s s' (by rw[hx];exact hk1) (by rw[hx,he]);exact hne ⟨rfl,this.symm⟩
   rw[wI ⟨h1,hn,(hI.dr y hk1).1⟩];unfold lose;rw[if_pos hk1];simp only[bE];exact Mem.rfl' _
 ·rw[bq _ _ hyx,EY hyx]
  exact Mem.rfl' _
theorem ren_l (S:T) (dir tt x o:Nat) (s s2:Nm):aY (aY (Dt S tt s2 o).l dir s 0) tt s2 x=aY (aY S.l dir s 0) tt s2 x:=by
 unfold Dt
 split
 ·rfl
 ·rw[uT]
  funext a b
  simp only[aY]
  grind
theorem ren_n (hI:Inv room S) (tt x o:Nat) (s2:Nm) (ho:S.l tt s2=o) (hox:o≠x) (v:Nd) (hv:Mem v (S.n x)) (y:Nat):Mem (aS (if o=0 then S.n else aS S.n o (lose (S.n o))) x v y) ((Dt S tt s2 o).n y):=by
 unfold Dt
 by_cases h0:o=0
 ·rw[if_pos h0,if_pos h0]
  by_cases e:y=x
  ·subst e;rw[bE];exact hv
  ·rw[bq _ _ e];exact Mem.rfl' _
 ·rw[if_neg h0,if_neg h0]
  by_cases e:y=x
  ·subst e
   rw[bE,EY (λq=>hox q.symm)];exact hv
  ·rw[bq _ _ e]
   exact xW hI ho h0 y
theorem tX (hI:Inv room S) {es:Nat->List bC} (hr:xD room S es) {x:Nat} (hk:(S.n x).kind=1):iK x es room=(S.n x).links:=
 (hr.cnt (by have:=hI.rng x (by omega);omega)).uniq (hI.cnt x hk)
end
section
variable {R g room q:Nat} {S:T} {es:Nat->List bC} {pa:Nat->Option Addr} {ca:Nat->Nat}
def Ih (S:T) (es:Nat->List bC) (room x:Nat):Value:=if(S.n x).kind=0 then γ #[ι F 0,ι aF 0,ι J 0,ι F 0]else γ #[ι F x,ι aF (S.n x).kind,ι J (oI S es x room),ι F (S.n x).data.length]
theorem YG (wz:World) (h:ko wz R g room q S es pa ca) (x:Nat) (hx32:x<4294967296):
 Calls prog 41 #[R,ι F x] wz λe w'=>e=aG (τ #[Ih S es room x,ι J (if(S.n x).kind=0 then 3 else 0:Nat)])/\Below wz.heap.size wz w':=by
 have H:=U h;have TH:=U (λW hb=>kP W (h.later hb) x hx32);have hg0:=h.ny;have hR0:=h.top.lt;clear h
 go_enter func41,ntmps41
 go_wp2_with fail;have B1:=U ((aj _ wz).alloc (ah _) (aH #[ι F 0,ι aF 0,ι J 0,ι F 0] 68));have X0:=U (aN.new wz 68 #[ι F 0,ι aF 0,ι J 0,ι F 0]);refine ak (TH.o _ B1.o) ?_;rintro e w' ⟨rfl,rfl⟩
 by_cases hk:(S.n x).kind=0
 ·have HK:=U hk
  rw[hk];clear hk;go_wp2_with fail;have h9:=QC X0.o (ι F 0) (ι aF 0) (ι J 0) (ι F 0);have K0:=h9.cell 0;have K1:=h9.cell 1;have K2:=h9.cell 2;have K3:=h9.cell 3;simp only[au,av,ay]at K0 K1 K2 K3;have Kl:=h9.lt;exact bodyPost_ret (v:=τ #[γ #[ι F 0,ι aF 0,ι J 0,ι F 0],ι J 3]) (by simp[results,results41,go_sem,K0,K1,K2,K3]) rfl ⟨by simp[Ih,HK.o],(aj _ wz).alloc (ah _) _⟩
 ·have HK:=U hk
  obtain⟨x1,x2⟩:=H.o.rng x hk;have LK:=U (λW hb=>Rm W (H.o.later hb) x x1 x2);obtain⟨i,hx⟩:∃i,x=i+1:=⟨x-1,by omega⟩;have hi:i<room:=by omega
  have hrm:=H.o.rm.2;have w1:=jH hx (by omega);have h0:=H.o.nC;obtain⟨c0,c1,c2,c3,f⟩:=H.o.ig hx hi;have hdt:=H.o.dt x;have t4:((S.n x).kind==0)=false:=by simpa using hk
  rw[t4];obtain⟨ln,hln⟩:∃ln,(S.n x).data.length=ln:=⟨_,rfl⟩;have sB:(B (S.n x).data).size=ln:=by rw[aV,hln]
  rw[hln]at hdt;have t6:IntKind.u32.wrap (ln:Int)=ln:=by simp[IntKind.wrap,IntKind.bits,IntKind.signed];omega
  have HLN:=U hln;clear t4 hk hx f hln;go_wp2_with fail;have BW:=U (((aj wz.heap.size wz).alloc (ah _) (aH #[ι F 0,ι aF 0,ι J 0,ι F 0] 68)).alloc (by simp) (aH #[ι aF (S.n x).kind,θ (pa i) (es i).length (ca i),σ (B (S.n x).data),ι J (S.n x).held] 90));have XS:=U (X0.o.alloc (aH #[ι aF (S.n x).kind,θ (pa i) (es i).length (ca i),σ (B (S.n x).data),ι J (S.n x).held] 90));have XN:Hid (aN ((wz.alloc (aH #[ι F 0,ι aF 0,ι J 0,ι F 0] 68)).alloc (aH #[ι aF (S.n x).kind,θ (pa i) (es i).length (ca i),σ (B (S.n x).data),ι J (S.n x).held] 90)) (wz.heap.size+1) 90 #[ι aF (S.n x).kind,θ (pa i) (es i).length (ca i),σ (B (S.n x).data),ι J (S.n x).held]):=U (by simpa using aN.new (wz.alloc (aH #[ι F 0,ι aF 0,ι J 0,ι F 0] 68)) 90 #[ι aF (S.n x).kind,θ (pa i) (es i).length (ca i),σ (B (S.n x).data),ι J (S.n x).held])
  generalize (wz.alloc (aH #[ι F 0,ι aF 0,ι J 0,ι F 0] 68)).alloc (aH #[ι aF (S.n x).kind,θ (pa i) (es i).length (ca i),σ (B (S.n x).data),ι J (S.n x).held] 90)=W0 at BW XS XN⊢
  have T6:=U t6;have SB:=U sB;clear t6 sB h0 c0 c1 c2 c3 w1;refine gq (by kernel_rfl) (λ|0=>some 20|1=>some 21|2=>some 22|3=>some 23|4=>some 24|5=>some 25|6=>some 26|7=>some 27|8=>some 28|9=>some 29|10=>some 30|11=>none|12=>some 5|_=>none) (λa=>∃x5 x20 x21 Ob x23 x24 x25 MW x27 x28 x29 x30:Value,a=⟨#[G (some ⟨R,0,none⟩),ι F x,undef,undef,G (some ⟨wz.heap.size,0,none⟩),x5,G (some ⟨wz.heap.size+1,0,none⟩),G (some ⟨R,0,none⟩),ι F x,ν true,ν false,undef,G (some ⟨R,0,none⟩),G (some ⟨R,0,none⟩),G (some ⟨R,0,none⟩),θ (some ⟨g,0,none⟩) room room,ι F x,ι F i,G (some ⟨g,i*4,none⟩),γ #[ι aF (S.n x).kind,θ (pa i) (es i).length (ca i),σ (B (S.n x).data),ι J (S.n x).held],x20,x21,Ob,x23,x24,x25,MW,x27,x28,x29,x30],[]⟩) (λbg w=>(bg 11=false->w=W0.drew)/\(bg 11=true->aN w wz.heap.size 68 #[ι F x,ι aF (S.n x).kind,ι J (oI S es x room),ι F ln]/\Below wz.heap.size wz w)) (λ_ _ _=>True) (λ|0=>(λv w=>v=ι F x)|1=>(λv w=>v=G (some ⟨wz.heap.size+1,0,none⟩))|2=>(λv w=>v=ι aF (S.n x).kind)|3=>(λv w=>v=G (some ⟨R,0,none⟩))|4=>(λv w=>v=ι F x)|5=>(λv w=>v=ι J (oI S es x room))|6=>(λv w=>v=G (some ⟨wz.heap.size+1,2,none⟩))|7=>(λv w=>v=σ (B (S.n x).data))|8=>(λv w=>v=ι J ln)|9=>(λv w=>v=ι F ln)|10=>(λv w=>v=γ #[ι F x,ι aF (S.n x).kind,ι J (oI S es x room),ι F ln])|11=>(λv w=>v=undef)|12=>(λv w=>v=ι J 0)|_=>(λ_ _=>True)) (by kernel_rfl) ?stb (by kernel_rfl) ?AA ⟨_,_,_,_,_,_,_,_,_,_,_,_,rfl⟩ ?G0 ?step ?done
  case stb=>
   intro i j v w1 w2 hi hj hij hw hp hs;have hi:i<13:=hi
   match j,hp with
   |0,hp|1,hp|2,hp|3,hp|4,hp|5,hp|6,hp|7,hp|8,hp|9,hp|10,hp|11,hp|12,hp=>exact hp
   |j+13,_=>exact trivial
  case AA=>
   rintro i a v hi ⟨_,_,_,_,_,_,_,_,_,_,_,_,rfl⟩
   match i,hi with
   |0,_|1,_|2,_|3,_|4,_|5,_|6,_|7,_|8,_|9,_|10,_|11,_|12,_=>exact⟨⟨_,_,_,_,_,_,_,_,_,_,_,_,rfl⟩,λt h=>by cases h<;>exact of_decide_eq_true rfl⟩
   |i+13,hi=>exact absurd hi (by simp)
  case G0=>exact⟨λ_=>rfl,λqq=>by cases qq⟩
  case step=>
   rintro i a w1 bg hi ⟨x5,x20,x21,Ob,x23,x24,x25,MW,x27,x28,x29,x30,rfl⟩ hl hcl hG hp;refine gu (λK hK=>?_)
   match i,hi with
   |0,_|1,_|3,_|4,_|6,_=>
    have h11:bg 11=false:=iq hcl hl (by decide:11<13) (by kernel_rfl);obtain rfl:=hG.1 h11;refine aO (by rfl) rfl ?_;go_simp;exact hK _ _ ⟨_,rfl,⟨λ_=>rfl,λqq=>by change bg 11=true at qq;rw[h11]at qq;cases qq⟩,trivial,rfl⟩
   |2,_=>
    have h11:bg 11=false:=iq hcl hl (by decide:11<13) (by kernel_rfl);obtain rfl:=hG.1 h11;have hs:=XN.o.drew;have X0:=hs.cell 0;have X1:=hs.cell 1;have X2:=hs.cell 2;have X3:=hs.cell 3;simp only[au,av,ay]at X0 X1 X2 X3;have Xl:=hs.lt;have Xl:=hs.lt;clear hs;obtain rfl:x21=_:=hp 1 (by kernel_rfl);refine aO (by rfl) rfl ?_;go_simp;exact hK _ _ ⟨_,rfl,⟨λ_=>rfl,λqq=>by change bg 11=true at qq;rw[h11]at qq;cases qq⟩,trivial,rfl⟩
   |5,_=>
    have h11:bg 11=false:=iq hcl hl (by decide:11<13) (by kernel_rfl);obtain rfl:=hG.1 h11;obtain rfl:x23=_:=hp 3 (by kernel_rfl);obtain rfl:x24=_:=hp 4 (by kernel_rfl);refine aO (by rfl) rfl ?_;go_simp;refine ak (LK.o _ BW.o.drew) ?_;rintro e w2 ⟨rfl,rfl⟩;exact hK _ _ ⟨_,rfl,⟨λ_=>rfl,λqq=>by change bg 11=true at qq;rw[h11]at qq;cases qq⟩,trivial,rfl⟩
   |7,_=>
    have h11:bg 11=false:=iq hcl hl (by decide:11<13) (by kernel_rfl);obtain rfl:=hG.1 h11;have hs:=XN.o.drew;have X0:=hs.cell 0;have X1:=hs.cell 1;have X2:=hs.cell 2;have X3:=hs.cell 3;simp only[au,av,ay]at X0 X1 X2 X3;have Xl:=hs.lt;have Xl:=hs.lt;clear hs;obtain rfl:MW=_:=hp 6 (by kernel_rfl);refine aO (by rfl) rfl ?_;go_simp;exact hK _ _ ⟨_,rfl,⟨λ_=>rfl,λqq=>by change bg 11=true at qq;rw[h11]at qq;cases qq⟩,trivial,rfl⟩
   |8,_=>
    have h11:bg 11=false:=iq hcl hl (by decide:11<13) (by kernel_rfl);obtain rfl:=hG.1 h11;have sB:=SB.o;obtain rfl:x27=_:=hp 7 (by kernel_rfl);refine aO (by rfl) rfl ?_;go_simp;exact hK _ _ ⟨_,rfl,⟨λ_=>rfl,λqq=>by change bg 11=true at qq;rw[h11]at qq;cases qq⟩,trivial,rfl⟩
   |9,_=>
    have h11:bg 11=false:=iq hcl hl (by decide:11<13) (by kernel_rfl);obtain rfl:=hG.1 h11;have t6:=T6.o;obtain rfl:x28=_:=hp 8 (by kernel_rfl);refine aO (by rfl) rfl ?_;go_simp;exact hK _ _ ⟨_,rfl,⟨λ_=>rfl,λqq=>by change bg 11=true at qq;rw[h11]at qq;cases qq⟩,trivial,rfl⟩
   |10,_=>
    have h11:bg 11=false:=iq hcl hl (by decide:11<13) (by kernel_rfl);obtain rfl:=hG.1 h11;obtain rfl:x20=_:=hp 0 (by kernel_rfl);obtain rfl:Ob=_:=hp 2 (by kernel_rfl);obtain rfl:x25=_:=hp 5 (by kernel_rfl);obtain rfl:x29=_:=hp 9 (by kernel_rfl);refine aO (by rfl) rfl ?_;go_simp;exact hK _ _ ⟨_,rfl,⟨λ_=>rfl,λqq=>by change bg 11=true at qq;rw[h11]at qq;cases qq⟩,trivial,rfl⟩
   |11,_=>
    obtain rfl:x30=_:=hp 10 (by kernel_rfl);have h11:=hl;obtain rfl:=hG.1 h11;have hs:=XS.o;have X0:=hs.cell 0;have X1:=hs.cell 1;have X2:=hs.cell 2;have X3:=hs.cell 3;simp only[au,av,ay]at X0 X1 X2 X3;have Xl:=hs.lt;have F0:=hs.free 0;have F1:=hs.free 1;have F2:=hs.free 2;have F3:=hs.free 3;have Xl:=hs.lt;have FB:=(QC hs (ι F x) (ι aF (S.n x).kind) (ι J (oI S es x room)) (ι F ln)).drew;have FL:=(rF BW.o (ah wz.heap.size) (ι F x) (ι aF (S.n x).kind) (ι J (oI S es x room)) (ι F ln)).drew;have HFB:=U FB;have HFL:=U FL;clear hs FB FL;refine aO (by rfl) rfl ?_;go_simp;exact hK _ _ ⟨undef,rfl,⟨(λqq=>by cases qq),λ_=>⟨HFB.o,HFL.o⟩⟩,trivial,rfl⟩
   |12,_=>
    refine aO (by rfl) rfl ?_;go_simp;exact hK _ _ ⟨_,rfl,⟨λqq=>hG.1 qq,λqq=>hG.2 qq⟩,trivial,rfl⟩
   |i+13,hi=>exact absurd hi (by simp)
  case done=>
   rintro a w8 bg hl ⟨x5,x20,x21,Ob,x23,x24,x25,MW,x27,x28,x29,x30,rfl⟩ hG hp;obtain⟨hA,hB⟩:=hG.2 (hl 11 (by decide));obtain rfl:x5=_:=hp 12 (by decide);have HB:=U hB;have K0:=hA.cell 0;have K1:=hA.cell 1;have K2:=hA.cell 2;have K3:=hA.cell 3;simp only[au,av,ay]at K0 K1 K2 K3;have Kl:=hA.lt;clear hp hG hl hA hB;go_wp2_with fail;exact bodyPost_ret (v:=τ #[γ #[ι F x,ι aF (S.n x).kind,ι J (oI S es x room),ι F ln],ι J 0]) (by simp[results,results41,go_sem,K0,K1,K2,K3]) rfl ⟨by simp[Ih,HK.o,HLN.o],HB.o⟩
end
section
variable {R g room q:Nat} {S:T} {es:Nat->List bC} {pa:Nat->Option Addr} {ca:Nat->Nat}
theorem jV {s:Nm} (h:isName s=true):(B s).size<=maxLen:=by
 have:s.length<=27:=by
  unfold isName at h
  simp at h
  omega
 rw[aV];unfold maxLen;omega
theorem YH (wz:World) (h:ko wz R g room q S es pa ca) (hI:Inv room S) (r:Rc) (hm:May r) (ho:r.op=3):
 Calls prog 37 #[R,kZ r] wz (bQ g wz (Ok room r S) λw'=>jM w' R g room q (next r S)):=by
 obtain⟨m1,m2,m3⟩:=hm.ent (by rw[ho];rfl);have mk:=hm.JS (by rw[ho];rfl);have mi:=hm.ino;have HM3:=U m3;have LK:=U (λW hb=>uS W (h.later hb) r.dir (by omega) (B r.name) (jV m3) m3);have UN:=U (λW hb=>Yy W (h.later hb) hI r.dir (by omega) (B r.name) (jV m3) m3);have RM:=U (λW hb=>Cp W (h.later hb) hI r.dir (by omega) (B r.name) (jV m3) m3);rw[iy]at LK UN RM;have HI:=U hI;have HO:=U ho;have B0:=U ((aj wz.heap.size wz).alloc (ah _) (aH (recC r) 44));have hg:=h.ny;have hR:=h.top.lt;clear h hm ho m3 hI;unfold kZ recC;unfold recC at B0
 go_enter func37,ntmps37
 go_wp2_with fail;refine ak (LK.o _ B0.o) ?_;rintro e w2 ⟨rfl,rfl⟩
 by_cases he:BF S r.dir r.name=0
 ·obtain⟨h2,hl,hv⟩:=Ig he
  rw[he,hv];obtain⟨x,hx⟩:∃x,S.l r.dir r.name=x:=⟨_,rfl⟩;rw[hx]at hl⊢;simp only[hx]at UN RM;have H2:=U h2;have HX:=U hx;have HL:=U hl;clear he hv h2 hx hl
  by_cases hxi:x=r.ino
  ·have SW:=U hxi
   rw[hxi];clear hxi
   rcases mk with mk|mk
   ·have MK:=U mk
    have kb:((r.kind:Int)==2)=false:=by rw[mk];rfl
    clear mk;go_wp2_with fail;refine ak (UN.o _ B0.o) ?_;rintro e w3 ⟨v,er,rfl,hT,hf,hv⟩;have HF:=U hf;have HV:=U hv;have HT:=U hT;clear hf hT hv;go_wp2_with fail;go_ret;refine⟨er,rfl,(Tr.aR.of B0.o).trans HT.o,λe0=>?_,λok=>HV.o (by rw[JB HO.o]at ok;obtain⟨q1,q2,q3,q4,q5⟩:=ok;exact⟨H2.o,HL.o,by rw[SW.o,q4,MK.o]⟩)⟩;obtain⟨⟨p1,p2,p3⟩,p4⟩:=HF.o e0;have hx:S.l r.dir r.name=r.ino:=by rw[HX.o,SW.o]
    have hi0:r.ino≠0:=by omega
    rw[SW.o]at p3 p4;refine⟨?_,?_⟩
    ·rw[JB HO.o]
     exact⟨H2.o,hx,hi0,by rw[p3,MK.o],λt=>HI.o.vo _ t (by omega)⟩
    ·show jM w3 R g room q (next r S)
     rw[Ay HO.o];refine p4.mem ?_ λy=>xW HI.o hx hi0 y;rw[uT]
   ·have MK:=U mk
    have kb:((r.kind:Int)==2)=true:=by rw[mk];rfl
    clear mk;go_wp2_with fail;refine ak (RM.o _ B0.o) ?_;rintro e w3 ⟨v,er,rfl,hT,hf,hv⟩;have HF:=U hf;have HV:=U hv;have HT:=U hT;clear hf hT hv;go_wp2_with fail;go_ret;refine⟨er,rfl,(Tr.aR.of B0.o).trans HT.o,λe0=>?_,λok=>HV.o (by rw[JB HO.o]at ok;obtain⟨q1,q2,q3,q4,q5⟩:=ok;exact⟨H2.o,HL.o,by rw[SW.o,q4,MK.o],by rw[SW.o];exact q5⟩)⟩;obtain⟨⟨p1,p2,p3,p5⟩,p4⟩:=HF.o e0;have hx:S.l r.dir r.name=r.ino:=by rw[HX.o,SW.o]
    have hi0:r.ino≠0:=by omega
    rw[SW.o]at p3 p4 p5;refine⟨?_,?_⟩
    ·rw[JB HO.o]
     exact⟨H2.o,hx,hi0,by rw[p3,MK.o],p5⟩
    ·show jM w3 R g room q (next r S)
     rw[Ay HO.o];refine p4.mem ?_ λy=>xW HI.o hx hi0 y;rw[uT]
  ·have NP:=U hxi
   have t1:((x:Int)!=r.ino)=true:=by simp;omega
   clear hxi mk;go_wp2_with fail;go_ret;exact bQ.no (by decide) (Tr.aR.of B0.o) (λok=>by rw[JB HO.o]at ok;obtain⟨q1,q2,q3,q4,q5⟩:=ok;exact NP.o (HX.o.symm.trans q2))
 ·have t1:((BF S r.dir r.name:Int)!=0)=true:=by simp;omega
  have HE:=U he;clear he mk;go_wp2_with fail;go_ret;exact bQ.no HE.o (Tr.aR.of B0.o) (λok=>by rw[JB HO.o]at ok;obtain⟨q1,q2,q3,q4,q5⟩:=ok;exact HE.o (wM q1 (by rw[q2];exact q3)))
theorem YI (wz:World) (h:ko wz R g room q S es pa ca) (hI:Inv room S) (hq:q<1000) (r:Rc) (hm:May r) (ho:r.op=4):
 Calls prog 38 #[R,kZ r] wz (bQ g wz (Ok room r S) λw'=>jM w' R g room (q+1) (next r S)):=by
 obtain⟨m1,m2,m3⟩:=hm.ent (by rw[ho];rfl);have mk:=hm.JS (by rw[ho];rfl);obtain⟨n1,n2,n3,n4⟩:=hm.gE (by rw[ho];rfl);have mi:=hm.ino;have LK:=U (λW hb=>uS W (h.later hb) r.dir (by omega) (B r.name) (jV m3) m3);have LK2:=U (λW hb=>uS W (h.later hb) r.bV (by omega) (B r.name2) (jV n3) n3);have RN:=U (λW hb hdk hx=>YA W (h.later hb) hI r.dir r.bV r.ino (by omega) (by omega) (B r.name) (B r.name2) (jV m3) (jV n3) m3 n3 hq hdk hx (by omega));rw[iy]at LK LK2;simp only[iy]at RN;have H:=U h;have HI:=U hI;have HO:=U ho;have HMK:=U mk;have B0:=U ((aj wz.heap.size wz).alloc (ah _) (aH (recC r) 44));have X0:=U (aN.new wz 44 (recC r));have hg:=h.ny;have hR:=h.top.lt;clear h hm ho m3 n3 hI mk;unfold kZ recC;unfold recC at B0 X0
 go_enter func38,ntmps38
 go_wp2_with fail;refine ak (LK.o _ B0.o) ?_;rintro e w2 ⟨rfl,rfl⟩
 by_cases he:BF S r.dir r.name=0
 ·obtain⟨h2,hl,hv⟩:=Ig he
  rw[he,hv];obtain⟨x,hx⟩:∃x,S.l r.dir r.name=x:=⟨_,rfl⟩;rw[hx]at hl⊢;have H2:=U h2;have HX:=U hx;have HL:=U hl;have hk:=(HI.o.ent r.dir r.name (by rw[hx];exact hl)).1;rw[hx]at hk;obtain⟨x1,x2⟩:=H.o.rng x hk;have hrm:=H.o.rm.2;have ST:=U (λW hb=>YG W (H.o.later hb) x (by omega));rw[show Ih S es room x=γ #[ι F x,ι aF (S.n x).kind,ι J (oI S es x room),ι F (S.n x).data.length]by unfold Ih;rw[if_neg hk],if_neg hk]at ST;clear he hv h2 hx hl hk;go_wp2_with fail;refine ak (ST.o _ B0.o) ?_;rintro e w3 ⟨rfl,hb⟩;have B3:=U (B0.o.trans (hb.mono B0.o.size));have X3:=X0.o.later hb;have hl3:=hb.size;have hX3l:=X3.lt;have C:=X3.cell;have Cl:=X3.lt;have XX:=U X3;clear X3 hb;go_wp2_with fail;have B4:=U (B3.o.alloc B3.o.size (aH #[ι F x,ι aF (S.n x).kind,ι J (oI S es x room),ι F (S.n x).data.length] 68));refine ak (LK2.o _ B4.o) ?_;rintro e w4 ⟨rfl,rfl⟩
  by_cases hxi:x=r.ino
  ·subst hxi
   by_cases hkk:(S.n r.ino).kind=r.kind
   ·have HKK:=U hkk
    have tk:(((S.n r.ino).kind:Int)!=r.kind)=false:=by rw[hkk];simp
    clear hkk
    by_cases hold:Lf S r.bV r.name2=r.old
    ·have HOLD:=U hold
     rw[hold];clear hold;go_wp2_with fail;refine ak (RN.o _ B4.o H2.o HX.o) ?_;rintro e w5 ⟨er,rfl,hT,hf,hv⟩;have HF:=U hf;have HV:=U hv;have HT:=U hT;clear hf hT hv;go_wp2_with fail;go_ret;refine⟨er,rfl,(Tr.aR.of B4.o).trans HT.o,λe0=>?_,λok=>HV.o (by rw[JC HO.o]at ok;obtain⟨q1,q2,q3,q4,q5,q6,q7,q8⟩:=ok;exact⟨q5,λk=>q7 (by rw[<-q4];exact k),by rw[q6];exact λa b=>⟨by rw[(q8 a b).1,q4],(q8 a b).2⟩⟩)⟩;obtain⟨⟨p1,p2,p3⟩,p4⟩:=HF.o e0;have hold:S.l r.bV r.name2=r.old:=by have:=HOLD.o;unfold Lf at this;rw[if_pos p1]at this;exact this
     have hi0:r.ino≠0:=by omega
     rw[hold]at p3 p4;rw[HKK.o]at p2 p3;refine⟨?_,?_⟩
     ·rw[JC HO.o]
      exact⟨H2.o,HX.o,hi0,HKK.o,p1,hold,p2,p3⟩
     ·show jM w5 R g room (q+1) (next r S)
      rw[Gp HO.o];unfold zG at p4
      by_cases hoi:r.old=r.ino
      ·rw[if_pos hoi]at p4⊢
       exact p4
      ·rw[if_neg hoi]at p4⊢
       refine p4.mem ?_ λy=>ren_n HI.o r.bV r.ino r.old r.name2 hold hoi _ ?_ y
       ·exact(ren_l S r.dir r.bV r.ino r.old r.name r.name2).symm
       ·split
        ·exact⟨rfl,rfl,rfl⟩
        ·exact Mem.rfl' _
    ·have NP:=U hold
     have t1:((Lf S r.bV r.name2:Int)!=r.old)=true:=by simp;omega
     clear hold;go_wp2_with fail;go_ret;exact bQ.no (by decide) (Tr.aR.of B4.o) (λok=>by rw[JC HO.o]at ok;obtain⟨q1,q2,q3,q4,q5,q6,q7,q8⟩:=ok;exact NP.o (by unfold Lf;rw[if_pos q5];exact q6))
   ·have NP:=U hkk
    have t1:(((S.n r.ino).kind:Int)!=r.kind)=true:=by simp;omega
    clear hkk;go_wp2_with fail;go_ret;exact bQ.no (by decide) (Tr.aR.of B4.o) (λok=>by rw[JC HO.o]at ok;obtain⟨q1,q2,q3,q4,q5,q6,q7,q8⟩:=ok;exact NP.o q4)
  ·have NP:=U hxi
   have t1:((x:Int)!=r.ino)=true:=by simp;omega
   clear hxi;go_wp2_with fail;go_ret;exact bQ.no (by decide) (Tr.aR.of B4.o) (λok=>by rw[JC HO.o]at ok;obtain⟨q1,q2,q3,q4,q5,q6,q7,q8⟩:=ok;exact NP.o (HX.o.symm.trans q2))
 ·have t1:((BF S r.dir r.name:Int)!=0)=true:=by simp;omega
  have HE:=U he;clear he;go_wp2_with fail;go_ret;exact bQ.no HE.o (Tr.aR.of B0.o) (λok=>by rw[JC HO.o]at ok;obtain⟨q1,q2,q3,q4,q5,q6,q7,q8⟩:=ok;exact HE.o (wM q1 (by rw[q2];exact q3)))
end
