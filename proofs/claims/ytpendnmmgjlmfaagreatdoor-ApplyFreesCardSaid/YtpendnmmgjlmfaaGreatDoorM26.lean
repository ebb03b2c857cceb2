/- Lemmas. -/
import Derived.Test.YtpendnmmgjlmfaaGreatDoorM25
set_option linter.unusedVariables false
set_option linter.unusedSimpArgs false
namespace Go.Proofs.YtpendnmmgjlmfaaGreatDoor
open Go.RowKit Go.Shelf Go.Maps
open Go.Proofs.Tryz
open IntKind renaming i64→J,u32→F,u8→aF
open Value renaming pointer→G,int->ι,agg->γ
open Obj renaming cells→aH
set_option maxRecDepth 100000
set_option maxHeartbeats 400000
namespace Re
open Oct Path Tr
section
variable {R g room q:Nat} {S:T} {es:Nat->List bC} {pa:Nat->Option Addr} {ca:Nat->Nat}
theorem YJ (wz:World) (h:ko wz R g room q S es pa ca) (hI:Inv room S) (hq:q<1000) (r:Rc) (hm:May r) (ho:r.op=1):
 Calls prog 12 #[R,kZ r] wz (bQ g wz (Ok room r S) λw'=>jM w' R g room (q+1) (next r S)):=by
 have mi:=hm.ino;have hrm:=h.rm.2;have hg:=h.ny;have hR:=h.top.lt;have H:=U h;have HI:=U hI;have HO:=U ho;have B0:=U ((aj wz.heap.size wz).alloc (ah _) (aH (recC r) 44));have X0:=U (aN.new wz 44 (recC r));obtain⟨m1,m2,m3⟩:=hm.ent (by rw[ho];rfl);have mk:=hm.JS (by rw[ho];rfl);have MA:=U (λW hb=>Yz W (h.later hb) hI r.dir r.ino r.kind (by omega) mi.1 mi.2 mk (B r.name) (jV m3) m3 hq);rw[iy]at MA;have HMK:=U mk;unfold kZ recC;unfold recC at B0 X0;rw[ho]at B0 X0⊢;clear h hm hI ho
 go_enter func12,ntmps12
 go_wp2_with fail;refine ak (MA.o _ B0.o) ?_;rintro e w2 ⟨er,rfl,hT,hf,hv⟩;have HF:=U hf;have HV:=U hv;have HT:=U hT;have X2:=aR.box hT X0.o (λe=>by omega);have C:=X2.cell;have Cl:=X2.lt;have XL:=X2.lt;have XX:=U X2;have hsz:=hT.size;clear hf hT X2 hv
 by_cases e0:er=0
 ·subst e0
  obtain⟨⟨p1,p2,p3,p4⟩,es2,pa2,ca2,p5⟩:=HF.o rfl
  rcases HMK.o with mk|mk
  ·have hn0:((⟨aS S.n r.ino ⟨r.kind,1,0,0,[]⟩,aY S.l r.dir r.name r.ino⟩:T).n r.ino).held=0:=by simp[aS]
   have HD:=U (Sf w2 p5 r.ino (by omega) hn0);have kb:((r.kind:Int)==1)=true:=by rw[mk];rfl
   have OKP:Hid (Ok room r S):=U (by rw[WI HO.o];exact⟨p1,p2,p3,mi.1,p4⟩);have MK:=U mk;clear hn0 mk p1 p2 p3 p4 p5;go_wp2_with fail;refine ak HD.o ?_;rintro e w3 ⟨er,rfl,hT,hf,hv⟩;have OA:=U hf;have Se:=U hv;have HT2:=U hT;clear hf hT hv;go_wp2_with fail;go_ret;refine⟨er,rfl,((Tr.aR.of B0.o).trans HT.o).trans HT2.o,λe0=>?_,λok=>Se.o (by simp only[bE];exact MK.o)⟩;obtain⟨_,hA⟩:=OA.o e0;refine⟨OKP.o,?_⟩;show jM w3 R g room (q+1) (next r S);rw[Aw HO.o];refine hA.mem rfl λy=>?_
   by_cases e:y=r.ino
   ·subst e
    simp only[bE];rw[if_pos MK.o];exact⟨rfl,rfl,rfl⟩
   ·simp only[bq _ _ e]
    exact Mem.rfl' _
  ·have kb:((r.kind:Int)==1)=false:=by rw[mk];rfl
   have OKP:Hid (Ok room r S):=U (by rw[WI HO.o];exact⟨p1,p2,p3,mi.1,p4⟩);have P5:Hid (jM w2 R g room (q+1) ⟨aS S.n r.ino ⟨r.kind,1,0,0,[]⟩,aY S.l r.dir r.name r.ino⟩):=U ⟨_,_,_,p5⟩;have MK:=U mk;clear mk p1 p2 p3 p4 p5;go_wp2_with fail;go_ret;refine bQ.yes ((Tr.aR.of B0.o).trans HT.o) OKP.o ?_;rw[Aw HO.o];refine P5.o.mem rfl λy=>?_
   by_cases e:y=r.ino
   ·subst e
    simp only[bE];rw[if_neg (by rw[MK.o];decide)];exact⟨rfl,rfl,rfl⟩
   ·simp only[bq _ _ e]
    exact Mem.rfl' _
 ·have t1:((er:Int)==0)=false:=by simp;omega
  have HE:=U e0;clear e0;go_wp2_with fail;go_ret;exact bQ.no HE.o ((Tr.aR.of B0.o).trans HT.o) (λok=>by rw[WI HO.o]at ok;obtain⟨q1,q2,q3,q4,q5⟩:=ok;exact HE.o (HV.o ⟨q1,q2,q3,q5⟩))
theorem YK (wz:World) (h:ko wz R g room q S es pa ca) (hI:Inv room S) (hq:q<1000) (r:Rc) (hm:May r) (ho:r.op=2):
 Calls prog 12 #[R,kZ r] wz (bQ g wz (Ok room r S) λw'=>jM w' R g room (q+1) (next r S)):=by
 have mi:=hm.ino;have hrm:=h.rm.2;have hg:=h.ny;have hR:=h.top.lt;have H:=U h;have HI:=U hI;have HO:=U ho;have B0:=U ((aj wz.heap.size wz).alloc (ah _) (aH (recC r) 44));have X0:=U (aN.new wz 44 (recC r));obtain⟨m1,m2,m3⟩:=hm.ent (by rw[ho];rfl);have LN:=U (λW hb=>Sx W (h.later hb) hI r.dir r.ino (by omega) mi.1 mi.2 (B r.name) (jV m3) m3 hq);rw[iy]at LN;unfold kZ recC;unfold recC at B0 X0;rw[ho]at B0 X0⊢;clear h hm hI ho
 go_enter func12,ntmps12
 go_wp2_with fail;refine ak (LN.o _ B0.o) ?_;rintro e w2 ⟨er,rfl,hT,hf,hv⟩;have HF:=U hf;have HV:=U hv;have HT:=U hT;clear hf hT hv;go_wp2_with fail;go_ret;refine⟨er,rfl,(Tr.aR.of B0.o).trans HT.o,λe0=>?_,λok=>HV.o (by rw[oR HO.o]at ok;obtain⟨q1,q2,q3,q4⟩:=ok;exact⟨q1,q2,q3,by rw[tX HI.o H.o.rows q3];exact q4⟩)⟩;have hF:=HF.o e0;obtain⟨⟨p1,p2,p3,p4⟩,hA⟩:=hF;refine⟨?_,?_⟩
 ·rw[oR HO.o]
  exact⟨p1,p2,p3,by rw[<-tX HI.o H.o.rows p3];exact p4⟩
 ·show jM w2 R g room (q+1) (next r S)
  rw[Gn HO.o];refine hA.mem rfl λy=>?_
  by_cases e:y=r.ino
  ·subst e
   simp only[bE];exact⟨rfl,rfl,rfl⟩
  ·simp only[bq _ _ e]
   exact Mem.rfl' _
theorem YL (wz:World) (h:ko wz R g room q S es pa ca) (hI:Inv room S) (hq:q<1000) (r:Rc) (hm:May r) (ho:r.op=3):
 Calls prog 12 #[R,kZ r] wz (bQ g wz (Ok room r S) λw'=>jM w' R g room (q+1) (next r S)):=by
 have mi:=hm.ino;have hrm:=h.rm.2;have hg:=h.ny;have hR:=h.top.lt;have H:=U h;have HI:=U hI;have HO:=U ho;have B0:=U ((aj wz.heap.size wz).alloc (ah _) (aH (recC r) 44));have X0:=U (aN.new wz 44 (recC r));have UN:=U (λW hb=>YH W (h.later hb) hI r hm ho);unfold kZ recC at UN;rw[ho]at UN;unfold kZ recC;unfold recC at B0 X0;rw[ho]at B0 X0⊢;clear h hm hI ho
 go_enter func12,ntmps12
 go_wp2_with fail;refine ak (UN.o _ B0.o) ?_;rintro e w2 ⟨er,rfl,hT,hf,hv⟩;have HF:=U hf;have HV:=U hv;have HT:=U hT;clear hf hT hv;go_wp2_with fail;go_ret;refine⟨er,rfl,(Tr.aR.of B0.o).trans HT.o,λe0=>?_,λok=>HV.o ok⟩;have hF:=HF.o e0;exact⟨hF.1,jM.mono hF.2 (Nat.le_succ _) hq⟩
theorem YM (wz:World) (h:ko wz R g room q S es pa ca) (hI:Inv room S) (hq:q<1000) (r:Rc) (hm:May r) (ho:r.op=4):
 Calls prog 12 #[R,kZ r] wz (bQ g wz (Ok room r S) λw'=>jM w' R g room (q+1) (next r S)):=by
 have mi:=hm.ino;have hrm:=h.rm.2;have hg:=h.ny;have hR:=h.top.lt;have H:=U h;have HI:=U hI;have HO:=U ho;have B0:=U ((aj wz.heap.size wz).alloc (ah _) (aH (recC r) 44));have X0:=U (aN.new wz 44 (recC r));have UN:=U (λW hb=>YI W (h.later hb) hI hq r hm ho);unfold kZ recC at UN;rw[ho]at UN;unfold kZ recC;unfold recC at B0 X0;rw[ho]at B0 X0⊢;clear h hm hI ho
 go_enter func12,ntmps12
 go_wp2_with fail;refine ak (UN.o _ B0.o) ?_;rintro e w2 ⟨er,rfl,hT,hf,hv⟩;have HF:=U hf;have HV:=U hv;have HT:=U hT;clear hf hT hv;go_wp2_with fail;go_ret;refine⟨er,rfl,(Tr.aR.of B0.o).trans HT.o,λe0=>?_,λok=>HV.o ok⟩;have hF:=HF.o e0;exact hF
theorem YN (wz:World) (h:ko wz R g room q S es pa ca) (hI:Inv room S) (hq:q<1000) (r:Rc) (hm:May r) (ho:r.op=5):
 Calls prog 12 #[R,kZ r] wz (bQ g wz (Ok room r S) λw'=>jM w' R g room (q+1) (next r S)):=by
 have mi:=hm.ino;have hrm:=h.rm.2;have hg:=h.ny;have hR:=h.top.lt;have H:=U h;have HI:=U hI;have HO:=U ho;have B0:=U ((aj wz.heap.size wz).alloc (ah _) (aH (recC r) 44));have X0:=U (aN.new wz 44 (recC r));have ms:=hm.siz (by rw[ho];rfl);have RS:=U (λW hb=>Lg W (h.later hb) r.ino (by omega) r.size ms);unfold kZ recC;unfold recC at B0 X0;rw[ho]at B0 X0⊢;clear h hm hI ho
 go_enter func12,ntmps12
 go_wp2_with fail;refine ak (RS.o _ B0.o) ?_;rintro e w2 ⟨er,rfl,hT,hf,hv⟩;have HF:=U hf;have HV:=U hv;have HT:=U hT;clear hf hT hv;go_wp2_with fail;go_ret;refine⟨er,rfl,(Tr.aR.of B0.o).trans HT.o,λe0=>?_,λok=>HV.o (by rw[oS HO.o]at ok;exact ok)⟩;have hF:=HF.o e0;refine⟨?_,?_⟩
 ·rw[oS HO.o];exact hF.1
 ·show jM w2 R g room (q+1) (next r S)
  rw[Gq HO.o];exact jM.mono hF.2 (Nat.le_succ _) hq
theorem YO (wz:World) (h:ko wz R g room q S es pa ca) (hI:Inv room S) (hq:q<1000) (r:Rc) (hm:May r) (ho:r.op=6):
 Calls prog 12 #[R,kZ r] wz (bQ g wz (Ok room r S) λw'=>jM w' R g room (q+1) (next r S)):=by
 have mi:=hm.ino;have hrm:=h.rm.2;have hg:=h.ny;have hR:=h.top.lt;have H:=U h;have HI:=U hI;have HO:=U ho;have B0:=U ((aj wz.heap.size wz).alloc (ah _) (aH (recC r) 44));have X0:=U (aN.new wz 44 (recC r));have ms:=hm.siz (by rw[ho];rfl);obtain⟨mp,md⟩:=hm.dat (by rw[ho];rfl);have WR:=U (λW hb=>Cd W (h.later hb) r.ino (by omega) r.page mp (B r.data) (by rw[aV];exact md));rw[iy]at WR;unfold kZ recC;unfold recC at B0 X0;rw[ho]at B0 X0⊢;clear h hm hI ho
 go_enter func12,ntmps12
 go_wp2_with fail;refine ak (WR.o _ B0.o) ?_;rintro e w2 ⟨er,rfl,hT,hf,hv⟩;have HF:=U hf;have HV:=U hv;have HT:=U hT;have X2:=aR.box hT X0.o (λe=>by omega);have C:=X2.cell;have Cl:=X2.lt;have XL:=X2.lt;have XX:=U X2;have hsz:=hT.size;clear hf hT X2 hv
 by_cases e0:er=0
 ·subst e0
  obtain⟨p1,es2,pa2,ca2,p5⟩:=HF.o rfl;have RS:=U (Lg w2 p5 r.ino (by omega) r.size ms);have P1:=U p1;clear p1 p5;go_wp2_with fail;refine ak RS.o ?_;rintro e w3 ⟨er,rfl,hT,hf,hv⟩;have OA:=U hf;have Se:=U hv;have HT2:=U hT;clear hf hT hv;go_wp2_with fail;go_ret;refine⟨er,rfl,((Tr.aR.of B0.o).trans HT.o).trans HT2.o,λe0=>?_,λok=>Se.o (by simp only[bE];exact P1.o)⟩;obtain⟨_,hA⟩:=OA.o e0;refine⟨by rw[oT HO.o];exact P1.o,?_⟩;show jM w3 R g room (q+1) (next r S);rw[Gs HO.o];refine jM.mono ?_ (Nat.le_succ _) hq;refine hA.mem rfl λy=>?_
  by_cases e:y=r.ino
  ·subst e
   simp only[bE];exact⟨rfl,rfl,rfl⟩
  ·simp only[bq _ _ e]
   exact Mem.rfl' _
 ·have t1:((er:Int)!=0)=true:=by simp;omega
  have HE:=U e0;clear e0;go_wp2_with fail;go_ret;exact bQ.no HE.o ((Tr.aR.of B0.o).trans HT.o) (λok=>by rw[oT HO.o]at ok;exact HE.o (HV.o ok))
theorem YP (wz:World) (h:ko wz R g room q S es pa ca) (hI:Inv room S) (hq:q<1000) (r:Rc) (hm:May r) (ho:r.op=7):
 Calls prog 12 #[R,kZ r] wz (bQ g wz (Ok room r S) λw'=>jM w' R g room (q+1) (next r S)):=by
 have mi:=hm.ino;have hrm:=h.rm.2;have hg:=h.ny;have hR:=h.top.lt;have H:=U h;have HI:=U hI;have HO:=U ho;have B0:=U ((aj wz.heap.size wz).alloc (ah _) (aH (recC r) 44));have X0:=U (aN.new wz 44 (recC r));have ST:=U (λW hb=>YG W (h.later hb) r.ino (by omega));unfold kZ recC;unfold recC at B0 X0;rw[ho]at B0 X0⊢;clear h hm hI ho
 go_enter func12,ntmps12
 go_wp2_with fail;refine ak (ST.o _ B0.o) ?_;rintro e w3 ⟨rfl,hb⟩;have B3:=U (B0.o.trans (hb.mono B0.o.size));have X3:=X0.o.later hb;have hl3:=hb.size;have C:=X3.cell;have Cl:=X3.lt;have XL:=X3.lt;have XX:=U X3;clear X3 hb
 by_cases hk:(S.n r.ino).kind=0
 ·rw[show Ih S es room r.ino=γ #[ι F 0,ι aF 0,ι J 0,ι F 0]by unfold Ih;rw[if_pos hk],if_pos hk]
  have NP:=U hk;clear hk;go_wp2_with fail;go_ret;exact bQ.no (by decide) (Tr.aR.of (B3.o.alloc B3.o.size _)) (λok=>by rw[Nw HO.o]at ok;obtain⟨q1,q2,q3⟩:=ok;have:=NP.o;omega)
 ·obtain⟨x1,x2⟩:=H.o.rng r.ino hk
  rw[show Ih S es room r.ino=γ #[ι F r.ino,ι aF (S.n r.ino).kind,ι J (oI S es r.ino room),ι F (S.n r.ino).data.length]by unfold Ih;rw[if_neg hk],if_neg hk];obtain⟨ln,hln⟩:∃ln,oI S es r.ino room=ln:=⟨_,rfl⟩;rw[hln];have B4:=U (B3.o.alloc B3.o.size (aH #[ι F r.ino,ι aF (S.n r.ino).kind,ι J ln,ι F (S.n r.ino).data.length] 68));have HLN:=U hln;have HK:=U hk;clear hln hk
  rcases Nat.eq_zero_or_pos ln with e|hpos
  ·subst e
   have hk1:(S.n r.ino).kind=1:=by
    have:=H.o.kd r.ino;have:=HK.o;have h2:=HLN.o;unfold oI at h2
    split at h2
    ·cases h2
    ·omega
   have hl0:(S.n r.ino).links=0:=by
    have h2:=HLN.o;unfold oI at h2;rw[if_neg (by omega)]at h2;rw[<-tX HI.o H.o.rows hk1];exact h2
   have DR:=U (λW hb=>Sh W (H.o.later hb) r.ino (by omega) (λt=>HI.o.vo r.ino t (by omega)));have UM:=U hk1;have HL0:=U hl0;clear hk1 hl0;go_wp2_with fail;refine ak (DR.o _ B4.o) ?_;rintro e w5 ⟨er,rfl,hT,hf,hv⟩;have HF:=U hf;have HV:=U hv;have HT:=U hT;clear hf hT hv;go_wp2_with fail;go_ret;refine⟨er,rfl,(Tr.aR.of B4.o).trans HT.o,λe0=>?_,λok=>HV.o (by rw[Nw HO.o]at ok;obtain⟨q1,q2,q3⟩:=ok;exact⟨HK.o,q3⟩)⟩;obtain⟨⟨p1,p2⟩,hA⟩:=HF.o e0;refine⟨by rw[Nw HO.o];exact⟨UM.o,HL0.o,p2⟩,?_⟩;show jM w5 R g room (q+1) (next r S);rw[Gt HO.o];have hh:=H.o.hd r.ino;have hx1:r.ino≠1:=λe=>by have:=HI.o.root.1;rw[<-e,UM.o]at this;cases this
   have hn:¬gA S r.ino:=(HI.o.cnt r.ino UM.o).zero.1 HL0.o;have hf:mO ⟨aS S.n r.ino {S.n r.ino with held:=0},S.l⟩ r.ino=⟨aS (aS S.n r.ino {S.n r.ino with held:=0}) r.ino Nd.no,S.l⟩:=wI (S:=⟨aS S.n r.ino {S.n r.ino with held:=0},S.l⟩) ⟨hx1,hn,by simp[aS]⟩;rw[hf]at hA;refine jM.mono ?_ (Nat.le_succ _) hq;refine hA.mem rfl λy=>?_
   by_cases e:y=r.ino
   ·subst e
    simp only[bE];unfold zA;rw[if_pos ⟨by show(S.n r.ino).held-1=0;omega,HL0.o⟩];exact Mem.rfl' _
   ·simp only[bq _ _ e]
    exact Mem.rfl' _
  ·have NP:=U hpos
   have t1:(0:Int)<ln:=by omega
   go_wp2_with fail;go_ret;exact bQ.no (by decide) (Tr.aR.of B4.o) (λok=>by rw[Nw HO.o]at ok;obtain⟨q1,q2,q3⟩:=ok;have h2:=HLN.o;unfold oI at h2;rw[if_neg (by omega),tX HI.o H.o.rows q1,q2]at h2;have:=NP.o;omega)
theorem YQ (wz:World) (hA:jM wz R g room q S) (hI:Inv room S) (hq:q<1000) (r:Rc) (hm:May r):
 Calls prog 12 #[R,kZ r] wz (bQ g wz (Ok room r S) λw'=>jM w' R g room (q+1) (next r S)):=by
 obtain⟨es,pa,ca,h⟩:=hA;obtain⟨o1,o2⟩:=hm.op
 rcases(by omega:r.op=1\/r.op=2\/r.op=3\/r.op=4\/r.op=5\/r.op=6\/r.op=7)with ho|ho|ho|ho|ho|ho|ho
 ·exact YJ wz h hI hq r hm ho
 ·exact YK wz h hI hq r hm ho
 ·exact YL wz h hI hq r hm ho
 ·exact YM wz h hI hq r hm ho
 ·exact YN wz h hI hq r hm ho
 ·exact YO wz h hI hq r hm ho
 ·exact YP wz h hI hq r hm ho
end
