/- Lemmas. -/
import Derived.Test.YtpendnmmgjlmfaaGreatDoorM35
import Derived.Test.YtpendnmmgjlmfaaGreatDoorM14
set_option linter.unusedVariables false
set_option linter.unusedSimpArgs false
namespace Go.Proofs.YtpendnmmgjlmfaaGreatDoor
open Go.RowKit Go.Shelf Go.Maps
open Go.Proofs.Tryz
open IntKind renaming u16→I,i64→J,u32→F,u8→aF
open Value renaming pointer→G,tuple->τ
open Ending renaming returned→aG
open Obj renaming cells→aH
set_option maxRecDepth 100000
set_option maxHeartbeats 4000000
namespace lC
open Go.Sort Oct Dev mU Tx Geo qX
theorem LC {w wr wx w':World} {i bl j P M m bk cap:Nat} {b:dN} {hard:List ByteArray} {pd:iF} (hp:b.p<w.heap.size) (hm:b.m<w.heap.size) (hP:w.heap.size<=P) (hM:w.heap.size<=M)
 (h1:UV i bl j m pd) (h2:aN wr P 155 #[.map (some M)]) (h3:dM wr sG M 4 (sH i bl j)) (h4:aR (λc=>c=b.p\/c=b.m) w wr)
 (hx:Below wr.heap.size wr wx) (hD:bY w' b hard (Df pd m (bk,cap,fmtS i bl j m)) (m+1)) (hT:aR (λc=>c=b.p\/c=b.m) wx w'):Pm w i bl j P M b hard (m+1) w':=by
 have h2':=h2.later hx;have h3':=h3.later hx;exact⟨_,hD,Zn h1,(hT.block _ h2'.lt (by omega)).trans h2',h3'.block (hT.block _ h3'.lt (by omega)),(h4.trans (aR.of_below hx)).trans hT⟩
def qV (i bl j:Nat):List ByteArray:=(List.range (mI i bl j).sum).map (fmtS i bl j)
theorem Zq (i bl j:Nat):(qV i bl j).length=(mI i bl j).sum:=by simp[qV]
theorem Pn (i bl j:Nat) (b:dN) (hard:List ByteArray) (w:World) (hm:iR i bl j=true) (hD:bY w b hard (λ_=>none) 0) (hl:hard.length=(mI i bl j).sum) (hR:iJ w):
 Calls prog 30 #[b.p,dw i bl j] w λe w'=>e=aG (.int J 0)/\bY w' b (qV i bl j) (λ_=>none) (mI i bl j).sum/\aR (λc=>c=b.p\/c=b.m\/c=b.g) w w':=by
 have h4096:=hD.len;have hr:i<=256/\bl<=1024/\j<=256:=by simp[iR,CY]at hm;omega
 have f2:=oQ hr.1 hr.2.1 hr.2.2 2
 have hfs:cB i bl j 2<=(mI i bl j).sum/\cB i bl j 3<=(mI i bl j).sum/\cB i bl j 4<=(mI i bl j).sum:=by
  unfold cB mI
  simp
 obtain⟨n,hn⟩:∃n,(mI i bl j).sum=n:=⟨_,rfl⟩;unfold qV;rw[hn]at hl hfs⊢;have MY:=U (λW=>iN i bl j W);rw[hm]at MY;have LN:=U (λW (hb:Below w.heap.size w W)=>qx W (hD.later hb));have SC:=U (λW=>yJ i bl j W hm);have SU:=U (λW=>SV i bl j W hm);have ZE:Hid (∀W,Calls prog 65 #[] W λe w'=>e=aG (.string zS)/\Below W.heap.size W w'):=U (λW=>rz W);have F2:Hid (∀W,Calls prog 64 #[.string zS,.int J 0,.int J 2,.bool true] W λe w'=>e=aG (τ #[.string IC,.int J 0])/\Below W.heap.size W w'):=U (λW=>Kt zS 0 2 true W (by rw[jZ];omega) (by omega) (by rw[jZ];omega));have F1:Hid (∀W,Calls prog 64 #[.string zS,.int J 0,.int J 1,.bool true] W λe w'=>e=aG (τ #[.string IB,.int J 0])/\Below W.heap.size W w'):=U (λW=>Kt zS 0 1 true W (by rw[jZ];omega) (by omega) (by rw[jZ];omega))
 have PI:Hid (∀W,Calls prog 66 #[.agg #[.int aF 2,.int I 1,.int F 0,.int I 0,.int I 0,.int I 0,.int I 0,.int I 0]] W λe w'=>e=aG (τ #[.string (jL eX),.int J 0])/\Below W.heap.size W w'):=U (λW=>GZ eX W (.inr ⟨.inr rfl,by decide,by decide,λ_=>rfl,λk v hk hv=>by
  match k,hk with
  |0,hk|1,hk|2,hk|3,hk|4,hk=>cases hk;exact absurd rfl hv,by decide⟩))
 have HD:=U hD;have HR:=U hR;rw[hl]at LN;rw[hn]at SC;have hmm:=@run_makeMap prog;unfold dw at*;clear hD hR
 go_enter func30,ntmps30
 have HB0:=U ((aj _ w).alloc (ah _) (aH #[.int J i,.int J bl,.int J j] 23));go_wp2_with fail;refine(MY.o _).mono ?_;rintro e w1 ⟨rfl,b1⟩;have Dv:=U ((aN.new w 23 #[.int J i,.int J bl,.int J j]).later b1);have B1:=U (HB0.o.trans (b1.mono HB0.o.size));have hX:=Dv.o;have X:=hX.cell;have Xl:=hX.lt;clear hX b1;go_wp2_with fail
 go_region_held3 (λW=>W.cell? w.heap.size=some (.int J i)/\W.cell? ⟨w.heap.size,1,none⟩=some (.int J bl)/\W.cell? ⟨w.heap.size,2,none⟩=some (.int J j)/\gF w1 W)
  (first|exact gF.later Xl Xl Xl (by assumption) (by assumption)|assumption|exact⟨(X 0),(X 1),(X 2),(aj _ _).drew⟩|exact⟨(X 0),(X 1),(X 2),aj _ _⟩)
  (first
   |(go_at_call 60;refine(LN.o _ (B1.o.trans ((gF.get (by assumption)).mono B1.o.size))).mono ?_;rintro e w9 ⟨rfl,rfl⟩)
   |(go_at_call 28;refine(SC.o _).mono ?_;rintro e w9 ⟨rfl,b9⟩))
 rename_i hS
 have BS:=gF.get hS;have HG2:=U (Dv.o.later BS);have B2:=U (B1.o.trans (BS.mono B1.o.size));clear hS BS X Xl;have hX:=HG2.o;have X:=hX.cell;have Xl:=hX.lt;clear hX
 have HM0:=U (show pV w i bl j w.heap.size (w9.heap.size+1) w9.heap.size 0 (λ_=>none) ((w9.alloc (.map #[] 0)).alloc (aH #[.map (some w9.heap.size)] 155))from by
  have h1:=aN.new (w9.alloc (.map #[] 0)) 155 #[.map (some w9.heap.size)];rw[aC]at h1;exact⟨(HG2.o.alloc _).alloc _,h1,(dM.new w9 sG).alloc _,(B2.o.alloc B2.o.size _).alloc (by have:=B2.o.size;simp;omega) _,B2.o.size⟩)
 have LY:=U (λq s W nn f (h:pV w i bl j w.heap.size (w9.heap.size+1) w9.heap.size nn f W) (hq:q<=4096) (hn:nn<1000)=>UX (q:=q) (s:=s) h hq hn);have FI:=U (λp W nn f (h:pV w i bl j w.heap.size (w9.heap.size+1) w9.heap.size nn f W) (hp:p<6)=>Zp (p:=p) h hm hp);have RS:=U (show jL eX++zS.extract 32 64=qP from rfl);have z32:(jL eX).size=32:=jF _;have z64:zS.size=64:=jZ;have PN:=U (λ(q:Nat) (h:(sH i bl j q).isSome=false)=>(Fp h).2);have FS:=U (show qw (qw (qw (qw (λ_=>none) (0:Nat) (qU (B (ru i bl j)))) (cB i bl j 2:Nat) (qU IC)) (cB i bl j 3:Nat) (qU IB)) (cB i bl j 4:Nat) (qU qP)=sH i bl j from rfl);have WT:=U (λm W pd (h:bY W b hard pd m) (hm:m<hard.length) (hp:pd m=none)=>Et m (fmtS i bl j m) W h hm hp (yg i bl j m) (by omega))
 generalize jL eX=sR at*
 generalize qP=sT at*
 generalize IC=sW at*
 generalize IB=sO at*
 generalize zS=sZ at*
 generalize B (ru i bl j)=sU at*
 go_wp2_with fail;refine(SU.o _).mono ?_;rintro e w3 ⟨rfl,b3⟩;have H3:=U (HM0.o.later b3);clear b3 X Xl HM0;go_wp2_with fail;refine(ZE.o _).mono ?_;rintro e w4 ⟨rfl,b4⟩;have H4:=U (H3.o.later b4);clear b4 H3;go_wp2_with fail;refine(F2.o _).mono ?_;rintro e w5 ⟨rfl,b5⟩;have H5:=U (H4.o.later b5);clear b5 H4;go_wp2_with fail;refine(ZE.o _).mono ?_;rintro e w6 ⟨rfl,b6⟩;have H6:=U (H5.o.later b6);clear b6 H5;go_wp2_with fail;refine(F1.o _).mono ?_;rintro e w7 ⟨rfl,b7⟩;have H7:=U (H6.o.later b7);clear b7 H6;obtain⟨Rl,R0,R1,R2,R3,R4,R5,R6,R7⟩:=HR.o.later H7.o.lS;go_wp2_with fail;refine(PI.o _).mono ?_;rintro e w8 ⟨rfl,b8⟩;have H8:=U (H7.o.later b8);clear b8 H7 Rl R0 R1 R2 R3 R4 R5 R6 R7;go_wp2_with fail;refine(LY.o 0 sU _ _ _ H8.o (by omega) (by omega)).mono ?_;rintro e wA ⟨rfl,hA⟩;have HA:=U hA;clear hA H8;go_wp2_with fail;refine(FI.o 2 _ _ _ HA.o (by omega)).mono ?_;rintro e wB ⟨rfl,hB⟩;have HB:=U hB;clear hB HA;go_wp2_with fail;refine(LY.o (cB i bl j 2) sW _ _ _ HB.o (by omega) (by omega)).mono ?_;rintro e wC ⟨rfl,hC⟩;have HC:=U hC;clear hC HB;go_wp2_with fail;refine(FI.o 3 _ _ _ HC.o (by omega)).mono ?_;rintro e wD ⟨rfl,hD⟩;have HD:=U hD;clear hD HC;go_wp2_with fail;refine(LY.o (cB i bl j 3) sO _ _ _ HD.o (by omega) (by omega)).mono ?_;rintro e wE ⟨rfl,hE⟩;have HE:=U hE;clear hE HD;go_wp2_with fail;refine(FI.o 4 _ _ _ HE.o (by omega)).mono ?_;rintro e wF ⟨rfl,hF⟩;have HF:=U hF;clear hF HE;go_wp2_with fail;refine(ZE.o _).mono ?_;rintro e wG ⟨rfl,bG⟩;have HG:=U (HF.o.later bG);clear bG HF;go_wp2_with fail;refine(LY.o (cB i bl j 4) (sR++sZ.extract 32 64) _ _ _ HG.o (by omega) (by omega)).mono ?_;rintro e wH ⟨rfl,hH⟩;rw[RS.o,FS.o]at hH;have HH:=U hH;clear hH HG;go_wp2_with fail;refine(LN.o _ HH.o.lS).mono ?_;rintro e wX ⟨rfl,rfl⟩;go_wp2_with fail;obtain⟨capX,_,hdX⟩:=HD.o.dev;have hpl:=hdX.lt;have hml:=HD.o.map.lt;have hPl:w.heap.size<=w9.heap.size+1:=by have:=B2.o.size;omega
 have hMl:w.heap.size<=w9.heap.size:=B2.o.size;have ST:=U (λm wr wx w' bk cap pd h1 h2 h3 h4 hx hD hT=>LC (w:=w) (wr:=wr) (wx:=wx) (w':=w') (i:=i) (bl:=bl) (j:=j) (P:=w9.heap.size+1) (M:=w9.heap.size) (m:=m) (bk:=bk) (cap:=cap) (b:=b) (hard:=hard) (pd:=pd) hpl hml hPl hMl h1 h2 h3 h4 hx hD hT);have R0:=U (show Pm w i bl j (w9.heap.size+1) w9.heap.size b hard 0 wH from⟨_,HD.o.later HH.o.lS,Zm i bl j,HH.o.put,HH.o.map,aR.of_below HH.o.lS⟩);clear hdX HH hmm FS RS LY FI SU F1 F2 PI MY SC HR Dv HG2 B1 B2 HB0 hfs f2 hPl hMl z32
 generalize w9.heap.size+1=P at*
 generalize w9.heap.size=M at*
 go_loopw [80] (λc wr=>∃m:Nat,m<=n/\c=.int J m/\Pm w i bl j P M b hard m wr) (λc _=>n-(intOf c).toNat)
 case atStart=>exact⟨0,aB _,rfl,R0.o⟩
 case round=>
  obtain⟨m,hmn,rfl,pd,hDm,hw,hPm,hMm,hT⟩:=hrel
  by_cases hlt:m<n
  ·have q0:(m:Int)<n:=by omega
   have hlk:=Zo hMm m (by omega);have hpd:=Ek hw;have P0:=hPm.cell 0;have Pl:=hPm.lt;simp only[au,av]at P0;have HDm:=U hDm;have HW:=U hw;have HPm:=U hPm;have HMm:=U hMm;have HTm:=U hT;have W1:=U (WT.o m);have S1:=U (ST.o m);clear hDm hw hPm hMm hT;cases hps:(sH i bl j m).isSome with
   |true=>
    rw[hps]at hlk;simp only[if_true]at hlk
    generalize fmtS i bl j m=sm at*
    go_wp2_with fail;refine(W1.o _ pd (HDm.o.later ((aj _ wr).alloc (ah _) _)) (by omega) hpd).mono ?_;rintro e w8 ⟨rfl,bk,cap,h8,T8⟩;go_wp2_with fail;go_roundw
    case rel=>exact⟨m+1,by omega,rfl,S1.o _ _ _ bk cap pd HW.o HPm.o HMm.o HTm.o ((aj _ wr).alloc (ah _) _) h8 T8⟩
    case measure=>simp[intOf];omega
   |false=>
    rw[hps]at hlk;have em:=PN.o m hps;simp only[Bool.false_eq_true,if_false]at hlk;rw[em]at W1 S1;go_wp2_with fail;refine(ZE.o _).mono ?_;rintro e w7 ⟨rfl,b7⟩;have hY:=(aN.new wr 156 #[.string ⟨#[]⟩]).later b7;have B7:=U ((((aj _ wr).alloc (ah _) (aH #[.string ⟨#[]⟩] 156)).trans (b7.mono (by simp))).setCell (p:=⟨wr.heap.size,0,none⟩) (ah _) (.string sZ));have Y:=hY.cell;have Yl:=hY.lt;have F0:=hY.free 0;clear hY b7;go_wp2_with fail;refine(W1.o _ pd (HDm.o.later B7.o) (by omega) hpd).mono ?_;rintro e w8 ⟨rfl,bk,cap,h8,T8⟩;go_wp2_with fail;go_roundw
    case rel=>exact⟨m+1,by omega,rfl,S1.o _ _ _ bk cap pd HW.o HPm.o HMm.o HTm.o B7.o h8 T8⟩
    case measure=>simp[intOf];omega
  ·obtain rfl:m=n:=by omega
   have FL:=U (EM wr hDm (by omega));have HW:=U hw;have HTm:=U hT;clear hDm hw hPm hMm hT R0;go_wp2_with fail;refine FL.o.mono ?_;rintro e w8 ⟨rfl,ss,hk,h8,T8⟩;obtain⟨e1,e2⟩:=flushed hk HW.o hl;rw[e1,e2]at h8;have H8:=U h8;have T9:=U ((HTm.o.mono (T:=λc=>c=b.p\/c=b.m\/c=b.g) (λc hc=>by rcases hc with h|h<;>simp[h])).trans (T8.mono (λc hc=>by rcases hc with h|h<;>simp[h])));clear h8 T8 e1 e2 hk
   go_wp2
   go_ret;exact⟨rfl,H8.o,T9.o⟩
