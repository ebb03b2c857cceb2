/- Lemmas. -/
import Derived.Test.YtpendnmmgjlmfaaGreatDoorM48
set_option linter.unusedVariables false
set_option linter.unusedSimpArgs false
namespace Go.Proofs.YtpendnmmgjlmfaaGreatDoor
open Go.RowKit Go.Shelf Go.Maps
open Go.Proofs.Tryz
open IntKind renaming i64→J,u32→F
open Ending renaming returned→aG
open Obj renaming cells→aH
set_option maxRecDepth 100000
set_option maxHeartbeats 4000000
open Value renaming int->ι,bool->ν,slice->θ
namespace Ap
open Oct Dev mU Tx Geo qX Bm lC
open Re (Rw dX Bz Ae qW)
section
variable {E:Im} {D:aZ} {ino:Nat->aP} {vs:Nat->List Nat} {S:Tr.T}
theorem eC {n:Nat} {l:List Tr.Rc} {S:Tr.T} (hI:Tr.Inv n S) (hH:Hd S) (hp:Tr.qN n l S):∀i r,l[i]? =some r->Tr.Inv n (Tr.run (l.take i) S)/\Hd (Tr.run (l.take i) S)/\Tr.Ok n r (Tr.run (l.take i) S)/\Tr.run (l.take (i+1)) S=Tr.next r (Tr.run (l.take i) S):=by
 induction l generalizing S with
 |nil=>intro i r h;cases h
 |cons a l ih=>
  intro i r h;obtain⟨m,o,p⟩:=hp;cases i with
  |zero=>cases h;exact⟨hI,hH,o,by cases l<;>rfl⟩
  |succ i=>exact ih (Tr.JD hI m o) (Hd.next hI m hH o) p i r h
theorem Sv:Hd Tr.eX:=λx h=>by
 show(Tr.aS _ 1 _ x).held=1;change(Tr.aS _ 1 _ x).kind=1 at h;unfold Tr.aS at*
 split at h
 ·cases h
 ·cases h
theorem PDs.free (o:bP E D ino vs) (t:Tie E (kl S) D ino) {n:Nat} (h1:1<=n) (hn:n<=E.i) (h0:(S.n n).kind=0):blks (ino n) (vs n)=[]:=by
 have e0:ino n=dY:=(o.ok n h1 hn).resolve_right λu=>by have:=u.kind;have e:=(t.2 n h1 hn).2;rw[show(ino n).kind=(S.n n).kind from congrArg Prod.fst e]at this;omega
 have hv:=o.ind n h1 hn;have:=hv.no (by rw[e0];rfl);rw[e0,this];exact IK.1
theorem keepB {w W W2:World} {P:Prop} (b:Below w.heap.size w W) (h:Below W.heap.size W W2/\P):Below w.heap.size w W2:=b.trans (h.1.mono b.size)
end
theorem lP (i bl j:Nat) (wz:World) (rs:List Rw) (hIn:∀r∈rs,r.In) (p:Option Addr) (cap:Nat) (hR:Ae wz p rs) (hl:rs.length<=9223372036854775807) (IF:iJ wz) (hA:∀W,iJ W->Calls prog 8 #[] W λe w'=>e=aG (ν true)/\Below W.heap.size W w') (hm:iR i bl j=true) (hi:i<=30) (hb:bl<=60) (hj:j<=60):
 Calls prog 3 #[dw i bl j,θ p rs.length cap] wz λe w'=>e=aG (ν true)/\Below wz.heap.size wz w':=by
 have h2:2<=i:=by simp[iR,CY]at hm;omega
 have AL:=U hA;have B0:=U ((aj wz.heap.size wz).alloc (ah _) (aH #[ι J i,ι J bl,ι J j] 23));have G0:=U (aN.new wz 23 #[ι J i,ι J bl,ι J j]);have LG:=U (Re.LW _ rs p cap (hR.later B0.o) hl);have MY:=U (λW=>Geo.iN i bl j W);have LA:=U (λW=>lC.FH i bl j W);rw[hm]at MY;rw[decide_eq_false (by omega)]at LA;have PL:=U (λW hb (h1:rs.length<=100)=>Re.Fd W rs hIn p cap (hR.later hb) h1 i h2 (by omega));have DK:=U (λW h=>LZ i bl j W hm hi hb hj h);have HR:=U hR;have Mz:=U IF;have HIN:=U hIn;obtain⟨n,hn⟩:∃n,rs.length=n:=⟨_,rfl⟩;rw[hn]at hl LG PL⊢;have HN:=U hn;have HJ:=U (And.intro h2 (And.intro hi (And.intro hb hj)));clear hR IF hIn hn hA hm hi hb hj h2;unfold dw at*
 go_enter func3,ntmps3
 go_wp2_with fail;refine ak LG.o ?_;rintro e w1 ⟨⟨b,rfl,h60⟩,hb⟩;have B1:=U (B0.o.trans (hb.mono B0.o.size));have hG:=G0.o.later hb;have G1:=U hG;have X:=hG.cell;have Xl:=hG.lt;clear hb hG LG G0;cases b
 case true=>
  clear X Xl;go_wp2_with fail;refine ak (AL.o _ (Mz.o.later B1.o)) ?_;rintro e w9 ⟨rfl,hb⟩;have B9:=U (B1.o.trans (hb.mono B1.o.size));clear hb;go_wp2_with fail;go_ret;exact⟨rfl,B9.o⟩
 have N60:=U (h60 rfl);clear h60;go_wp2_with fail;refine ak (MY.o _) ?_;rintro e w2 ⟨rfl,hb⟩;have B2:=U (B1.o.trans (hb.mono B1.o.size));have hG:=G1.o.later hb;have G2:=U hG;clear X Xl;have X:=hG.cell;have Xl:=hG.lt;clear hb hG MY B1 G1;go_wp2_with fail;refine ak (LA.o _) ?_;rintro e w3 ⟨rfl,hb⟩;have B3:=U (B2.o.trans (hb.mono B2.o.size));have hG:=G2.o.later hb;have G3:=U hG;clear X Xl;have X:=hG.cell;have Xl:=hG.lt;clear hb hG LA B2 G2;go_wp2_with fail;refine ak (PL.o _ B3.o (by have:=N60.o;omega)) ?_;rintro e w4 ⟨b,rfl,hb,hB⟩;have B4:=U (B3.o.trans (hB.mono B3.o.size));have hG:=G3.o.later hB;have G4:=U hG;have HB:=U hb;clear X Xl;have X:=hG.cell;have Xl:=hG.lt;clear hb hB hG PL B3 G3;cases b
 ·clear X Xl
  go_wp2_with fail;refine ak (AL.o _ (Mz.o.later B4.o)) ?_;rintro e w9 ⟨rfl,hb⟩;have B9:=U (B4.o.trans (hb.mono B4.o.size));clear hb;go_wp2_with fail;go_ret;exact⟨rfl,B9.o⟩
 have PP:=U (HB.o rfl);clear HB;go_wp2_with fail;refine ak (DK.o _ (Mz.o.later B4.o)) ?_;rintro e w5 ⟨E,rfl,hD⟩;obtain rfl:=hD.ei;obtain rfl:=hD.eb;obtain rfl:=hD.ej;have B5:=U (B4.o.trans (hD.lS.mono B4.o.size));have hG:=G4.o.later hD.lS;have G5:=U hG
 have S5:Hid (∀c,S0 E c->w4.heap.size<=c):=U λc hc=>by
  have:=hD.DA
  rcases hc with(h|h|h)|h<;>omega
 have gw:=G4.o.lt;have gz:=B4.o.size
 have S6:Hid (∀c,S0 E c->wz.heap.size<=c/\c≠wz.heap.size):=U λc hc=>by
  have:=S5.o c hc;omega
 have SM:=U hD.small
 have hpy:=IZ (kk:=E.k) (Q:=True) (P:=λq=>PD E (kl (Tr.run ((rs.take q).map Rw.rc) Tr.eX))) SM.o rs n HN.o (by have:=N60.o;omega) p cap (λq=>cG SM.o) (λq r hr=>by
  have hq:(rs.map Rw.rc)[q]? =some r.rc:=by rw[List.getElem?_map,hr];rfl
  obtain⟨a1,a2,a3,a4⟩:=eC (Re.sJ HJ.o.1) Sv PP.o.2 q _ hq;have hmm:=PP.o.1 r (List.mem_of_getElem? hr);have:=cH SM.o (HIN.o r (List.mem_of_getElem? hr)) hmm.1 hmm.2 (by rw[<-List.map_take]at a1;exact a1) (by rw[<-List.map_take]at a2;exact a2) (by rw[<-List.map_take]at a3;exact a3);rw[<-List.map_take,<-List.map_take]at a4;rw[a4];exact this) w5 (by have:=hD.ek;have:=hD.dev.len;have e:E.hard.length=(mI E.i E.bl E.j).sum:=hD.is.len;omega) (by rw[List.take_zero];exact cY hD) (λW t=>HR.o.later (t.below (λc hc=>(S6.o c hc).1) B5.o B5.o.size))
 have PY:=U hpy;clear hD gw gz hpy X Xl DK B4 G4 S5;have X:=hG.cell;have Xl:=hG.lt;clear hG;unfold dw at PY;go_wp2_with fail;refine ak PY.o ?_;rintro e w6 ⟨q,c,rfl,hq,hd,t,_⟩;have B6:=U (t.below (λc hc=>(S6.o c hc).1) B5.o B5.o.size);have hG:aN w6 wz.heap.size 23 #[ι J E.i,ι J E.bl,ι J E.j]:=(t.block _ Xl λhc=>(S6.o _ hc).2 rfl).trans G5.o;have G6:=U hG;have D6:=U hd;clear t hd PY X Xl B5 G5 S6;have X:=hG.cell;have Xl:=hG.lt;clear hG;have tq0:¬((q:Int)<0):=by omega
 have tq1:¬((n:Int)<q):=by omega
 have NW:=U (Re.LR w6 E.i (by have:=HJ.o;omega) (by have:=HJ.o;omega));go_wp2_with fail;refine ak NW.o ?_;rintro e w7 ⟨rfl,hA,hb⟩;have B7:=U hb;have A7:=U hA;have B67:=U B6.o;have IV:=U (Re.sJ HJ.o.1);have RP:=U (λqi r (hr:rs[qi]? =some r)=>eC (Re.sJ HJ.o.1) Sv PP.o.2 qi r.rc (by rw[List.getElem?_map,hr];rfl));clear hA hb NW X Xl;go_wp2_with fail
 go_loopw [12] (λs12 wr=>∃k:Nat,k<=q/\s12=ι J k/\Re.jM wr (w6.heap.size+1) w6.heap.size E.i k (Tr.run ((rs.take k).map Rw.rc) Tr.eX)/\Below w6.heap.size w6 wr) (λs12 _=>q-(intOf s12).toNat)
 case atStart=>exact⟨0,aB _,rfl,by rw[List.take_zero];exact A7.o,B7.o⟩
 case round=>
  obtain⟨k,hk,rfl,hA,hB⟩:=hrel;have AA:=U hA;have BB:=U hB;clear hA hB
  rcases Nat.lt_or_ge k q with hlt|hge
  ·have t1:(k:Int)<q:=by omega
   have t2:(0:Int)<=k:=by omega
   have t3:(k:Int)<n:=by omega
   obtain⟨r,hr⟩:∃r,rs[k]? =some r:=⟨_,List.getElem?_eq_getElem (by rw[HN.o];omega)⟩;have MM:=U (PP.o.1 r (List.mem_of_getElem? hr));obtain⟨a1,a2,a3,a4⟩:=RP.o k r hr;rw[<-List.map_take]at a1 a3 a4;rw[<-List.map_take]at a4;have P22:=U (Re.YQ wr AA.o a1 (by have:=N60.o;omega) r.rc MM.o.1);have OK:=U (And.intro a3 a4);obtain⟨g,o,rfl,hg,hc⟩:=(HR.o.later (B6.o.trans (BB.o.mono B6.o.size))) k r hr;have d0:=hc 0 _ rfl;have d1:=hc 1 _ rfl;have d2:=hc 2 _ rfl;have d3:=hc 3 _ rfl;have d4:=hc 4 _ rfl;have d5:=hc 5 _ rfl;have d6:=hc 6 _ rfl;have d7:=hc 7 _ rfl;have d8:=hc 8 _ rfl;have d9:=hc 9 _ rfl;have RX:=hc 10 _ rfl;have RY:=hc 11 _ rfl;simp only[Nat.add_zero]at d0;clear hc hr a1 a2 a3 a4;unfold Re.kZ at P22;rw[<-Bz MM.o.2]at P22;unfold dX at P22;go_wp2_with fail;refine ak P22.o ?_;rintro e w8 ⟨er,rfl,hT,hf,h0⟩;obtain⟨_,hA⟩:=hf (h0 OK.o.1);rw[<-OK.o.2]at hA;have NX:=U (And.intro hA (Re.Fz BB.o hT (ah _) BB.o.size));clear hT hf h0 hA d0 d1 d2 d3 d4 d5 d6 d7 d8 d9 RX RY;go_wp2_with fail;go_roundw
   case rel=>exact⟨k+1,by omega,by go_num,NX.o.1,NX.o.2⟩
   case measure=>simp[intOf];omega
  ·obtain rfl:k=q:=by omega
   obtain⟨S,hS⟩:∃S,Tr.run ((rs.take k).map Rw.rc) Tr.eX=S:=⟨_,rfl⟩;rw[hS]at D6;have hA:=AA.o;rw[hS]at hA;obtain⟨hard,kk,gg,hd⟩:=D6.o.later BB.o;have BG:=U (IY hd);have Nf:=U hd;have GR:=U (G6.o.later BB.o);have BR:=U (B6.o.trans (BB.o.mono B6.o.size));have AR:=U hA;have I30:=U HJ.o.2.1;clear hS hd hA AA BB B7 A7 B67 IV RP D6 G6 B6 PP tq0 tq1 hge hk hq N60 HN HR HIN hl;go_wp2_with fail;refine ak BG.o ?_;rintro e w8 ⟨T,rfl,hTj,QL,zC,hT,b8⟩;have NI:=U (cD SM.o T Nf.o.len Nf.o.all hT);have hG:=GR.o.later b8;have G8:=U hG;have B8:=U (BR.o.trans (b8.mono BR.o.size));have A8:=U (AR.o.later b8);have X:=hG.cell;have Xl:=hG.lt;clear hT b8 hG hTj QL zC BG GR BR AR;unfold dw at NI;go_wp2_with fail;refine ak NI.o ?_;rintro e w9 ⟨M,rfl,hI,b9⟩;have G9:=U (G8.o.later b9);have B9:=U (B8.o.trans (b9.mono B8.o.size));have A9:=U (A8.o.later b9);have SF:Small (wZ E M T hard kk):=⟨SM.o.may,SM.o.hi,SM.o.hb,SM.o.hj⟩;have HSF:=U SF;obtain⟨ino,vs,ow,ti⟩:=Mu SM.o Nf.o.p M T hard kk;have OW:=U ow;have TI:=U ti;have FR:=U (DH w9 SF hI);rw[Hs SF (hI.sec (jo SF hI (.inl rfl))) ti,ow.left SF (hI.sec (jo SF hI (.inr rfl)))]at FR;have HI:=U hI;clear hI b9 ow ti SF X Xl NI B8 A8 G8 Nf;go_wp2_with fail;refine ak FR.o ?_;rintro e zU ⟨rfl,b10⟩;obtain⟨es,pa,ca,hm⟩:=A9.o.later b10;have G10:=U (G9.o.later b10);have B10:=U (B9.o.trans (b10.mono B9.o.size));have HI10:=U (HI.o.later b10);have RM:=U hm;have TL:=U (Re.Sq S E.i);have AQ:=U OW.o.allLe;clear b10 hm FR G9 B9 A9 HI;go_wp2_with fail
   go_loopw [20,21] (λn m wr=>∃k:Nat,1<=k/\k<=E.i+1/\m=ι F k/\n=ι J (gH ino vs (k-1)).length/\Below zU.heap.size zU wr) (λ_ m _=>40-(intOf m).toNat)
   case atStart=>exact⟨1,ah _,by omega,rfl,rfl,aj _ _⟩
   case round=>
    obtain⟨k,h1,hk,rfl,rfl,hB⟩:=hrel;have BB:=U hB;have hG:=G10.o.later hB;have GG:=U hG;have X:=hG.cell;have Xl:=hG.lt;have i30:=I30.o;clear hB hG
    rcases Nat.lt_or_ge E.i k with hge|hle
    ·obtain rfl:k=E.i+1:=by omega
     rw[Nat.add_sub_cancel];have hall:=AQ.o;have htl:=TL.o;have A18:=U (λW (h:Below zU.heap.size zU W)=>Re.all18 W (RM.o.later h) (by omega));obtain⟨ta,hta⟩:∃ta,(qW S E.i).length=ta:=⟨_,rfl⟩;obtain⟨ba,hba⟩:∃ba,(gH ino vs E.i).length=ba:=⟨_,rfl⟩;have hbl:=SM.o.hb;rw[hta]at htl A18
     replace hall:(gH ino vs E.i).length<=E.bl:=hall
     rw[hba]at hall;simp only[hta,hba];have c1:¬((E.i+1:Nat):Int)<=(E.i:Int):=by omega
     have w32:IntKind.u32.wrap (E.i:Int)=E.i:=IntWalk.u32_in _ (by omega);have wa:IntKind.i64.wrap ((E.i:Int)-ta)=(E.i:Int)-ta:=IntWalk.i64_in _ (by omega);have wb:IntKind.i64.wrap ((E.bl:Int)-ba)=(E.bl:Int)-ba:=IntWalk.i64_in _ (by omega);have za:((E.i:Int)-ta==(E.i:Int)-ta)=true:=by simp
     have zb:((E.bl:Int)-ba==(E.bl:Int)-ba)=true:=by simp
     have X0:=X 0;have X1:=X 1;simp only[au,av,ay]at X0 X1;have BL:=U (B10.o.trans (BB.o.mono B10.o.size));clear GG hta hba;go_wp2_with fail
     go_region_held3 (λW=>Below wr.heap.size wr W/\W.cell? wz.heap.size=some (ι J E.i)/\W.cell? ⟨wz.heap.size,1,none⟩=some (ι J E.bl))
      (first|exact Kr.keep Xl Xl (by assumption) b19|exact⟨(aj _ _).drew,X0,X1⟩|exact⟨aj _ _,X0,X1⟩)
      (first|(go_at_call 19;refine ak (A18.o _ (keepB BB.o (by assumption))) ?_;rintro e w19 ⟨p19,c19,rfl,b19⟩)|(go_at_call 8;refine ak (AL.o _ (Mz.o.later (BL.o.trans (Below.mono (And.left (by assumption)) BL.o.size)))) ?_;rintro e w19 ⟨rfl,b19⟩))
     rename_i hS
     have BZ:=U (BL.o.trans (hS.1.mono BL.o.size));clear hS X0 X1 X Xl;go_wp2_with fail;go_ret;exact⟨rfl,BZ.o⟩
    ·have c1:(k:Int)<=(E.i:Int):=by omega
     have w32:IntKind.u32.wrap (E.i:Int)=E.i:=IntWalk.u32_in _ (by omega);have w33:IntKind.u32.wrap ((k:Int)+1)=((k+1:Nat):Int):=by rw[IntWalk.u32_in _ (by omega)];push_cast;rfl
     obtain⟨t,ht⟩:∃t,decide ((S.n k).kind≠0)=t:=⟨_,rfl⟩;have TK:=U (λW (h:Below zU.heap.size zU W)=>BP k W HSF.o (HI10.o.later h) h1 hle);rw[(TI.o.2 k h1 hle).1,show decide ((kl S k).1≠0)=t from ht]at TK;have BK:=U (λW (h:Below zU.heap.size zU W)=>Vd k (ino k) (vs k) W HSF.o (HI10.o.later h) h1 hle (OW.o.is k h1 hle) (OW.o.ok k h1 hle) (OW.o.ing k h1 hle) (OW.o.ind k h1 hle));have TH:=U (λW (h:Below zU.heap.size zU W)=>Re.kP W (RM.o.later h) k (by omega));rw[show(!((S.n k).kind==0))=t by rw[<-ht];by_cases q:(S.n k).kind=0<;>simp[q]]at TH;have zA:=λh0:(S.n k).kind=0=>PDs.free OW.o TI.o h1 hle h0
     have hF:(gH ino vs k).length=(gH ino vs (k-1)).length+(blks (ino k) (vs k)).length:=by
      obtain⟨k,rfl⟩:∃m,k=m+1:=⟨k-1,by omega⟩;rw[Nat.add_sub_cancel,<-List.length_append]
      rfl
     have hFb:(gH ino vs k).length<=60:=aD (Ms _ k E.i hle) (aD AQ.o SM.o.hb);obtain⟨l,hl⟩:∃l,(blks (ino k) (vs k)).length=l:=⟨_,rfl⟩;have hl0:t=false->l=0:=λe=>by rw[<-hl,zA (by simpa[e]using ht)];rfl
     obtain⟨aL,hf⟩:∃aL,(gH ino vs (k-1)).length=aL:=⟨_,rfl⟩;rw[hf,hl]at hF;rw[hF]at hFb;rw[hf];have HF:=U hF;have HL:=U hl;have wl:IntKind.i64.wrap ((aL:Int)+l)=((aL+l:Nat):Int):=by rw[IntWalk.i64_in _ (by omega)];push_cast;rfl
     clear zA hf hl hF ht;go_wp2_with fail;refine ak (TK.o _ BB.o) ?_;rintro e w11 ⟨rfl,b11⟩;have B11:=U (BB.o.trans (b11.mono BB.o.size));clear b11 X Xl TK;go_wp2_with fail;refine ak (BK.o _ B11.o) ?_;rintro e w12 ⟨v,rfl,hO,b12⟩
     obtain⟨ao,ca,rfl⟩:∃ao ca,v=θ ao l ca:=by
      have e:(bF (ino k) (vs k) 0).length=l:=HL.o
      rcases hO.2 with⟨rfl,e0⟩|⟨g,ca,cur,rfl,_⟩
      ·exact⟨none,0,by rw[<-e,e0]⟩
      ·exact⟨_,ca,by rw[e]⟩
     have B12:=U (B11.o.trans (b12.mono B11.o.size));clear hO b12 BK B11;cases t
     ·obtain rfl:=hl0 rfl
      go_wp2_with fail;refine ak (TH.o _ B12.o) ?_;rintro e w13 ⟨rfl,rfl⟩;go_wp2_with fail;go_roundw
      case rel=>exact⟨k+1,by omega,by omega,by go_num,by rw[Nat.add_sub_cancel,HF.o];simp,B12.o⟩
      case measure=>simp[intOf];omega
     ·clear hl0
      go_wp2_with fail;refine ak (TH.o _ B12.o) ?_;rintro e w13 ⟨rfl,rfl⟩;go_wp2_with fail;go_roundw
      case rel=>exact⟨k+1,by omega,by omega,by go_num,by rw[Nat.add_sub_cancel,HF.o];simp,B12.o⟩
      case measure=>simp[intOf];omega
theorem Wi (i bl j:Int) (wz:World) (rs:List Rw) (p:Option Addr) (cap:Nat) (hR:Ae wz p rs) (hl:rs.length<=9223372036854775807) (IF:iJ wz) (hA:∀W,iJ W->Calls prog 8 #[] W λe w'=>e=aG (ν true)/\Below W.heap.size W w') (hbad:iR i bl j=false\/(60<bl\/30<i\/60<j)):
 Calls prog 3 #[dw i bl j,θ p rs.length cap] wz λe w'=>e=aG (ν true)/\Below wz.heap.size wz w':=by
 have AL:=U hA;have B0:=U ((aj wz.heap.size wz).alloc (ah _) (aH #[ι J i,ι J bl,ι J j] 23));have G0:=U (aN.new wz 23 #[ι J i,ι J bl,ι J j]);have LG:=U (Re.LW _ rs p cap (hR.later B0.o) hl);have MY:=U (λW=>Geo.iN i bl j W);have LA:=U (λW=>lC.FH i bl j W);have Mz:=U IF
 generalize hm:iR i bl j=mb at*
 generalize hq:decide (60<bl\/30<i\/60<j)=lb at*
 have HB:Hid (mb=false\/lb=true):=U (hbad.imp_right λh=>by rw[<-hq];exact decide_eq_true h);obtain⟨n,hn⟩:∃n,rs.length=n:=⟨_,rfl⟩;rw[hn]at LG hl⊢;clear hR IF hA hn hm hq hbad;unfold dw at*
 go_enter func3,ntmps3
 go_wp2_with fail;refine ak LG.o ?_;rintro e w1 ⟨⟨b,rfl,h60⟩,hb⟩;have B1:=U (B0.o.trans (hb.mono B0.o.size));have hG:=G0.o.later hb;have G1:=U hG;have X:=hG.cell;have Xl:=hG.lt;clear hb hG LG G0 h60;cases b
 case true=>
  clear X Xl;go_wp2_with fail;refine ak (AL.o _ (Mz.o.later B1.o)) ?_;rintro e w9 ⟨rfl,hb⟩;have B9:=U (B1.o.trans (hb.mono B1.o.size));clear hb;go_wp2_with fail;go_ret;exact⟨rfl,B9.o⟩
 go_wp2_with fail;refine ak (MY.o _) ?_;rintro e w2 ⟨rfl,hb⟩;have B2:=U (B1.o.trans (hb.mono B1.o.size));have hG:=G1.o.later hb;clear X Xl;have X:=hG.cell;have Xl:=hG.lt;clear hb hG MY B1 G1;cases mb
 ·clear X Xl
  go_wp2_with fail;refine ak (AL.o _ (Mz.o.later B2.o)) ?_;rintro e w9 ⟨rfl,hb⟩;have B9:=U (B2.o.trans (hb.mono B2.o.size));clear hb;go_wp2_with fail;go_ret;exact⟨rfl,B9.o⟩
 ·obtain rfl:lb=true:=HB.o.resolve_left (by decide)
  go_wp2_with fail;refine ak (LA.o _) ?_;rintro e w3 ⟨rfl,hb⟩;have B3:=U (B2.o.trans (hb.mono B2.o.size));clear hb X Xl;go_wp2_with fail;refine ak (AL.o _ (Mz.o.later B3.o)) ?_;rintro e w9 ⟨rfl,hb⟩;have B9:=U (B3.o.trans (hb.mono B3.o.size));clear hb;go_wp2_with fail;go_ret;exact⟨rfl,B9.o⟩
