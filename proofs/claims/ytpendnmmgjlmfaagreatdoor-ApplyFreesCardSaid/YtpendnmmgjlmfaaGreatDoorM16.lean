/- Lemmas. -/
import Derived.Test.YtpendnmmgjlmfaaGreatDoorM15
set_option linter.unusedVariables false
set_option linter.unusedSimpArgs false
namespace Go.Proofs.YtpendnmmgjlmfaaGreatDoor
open Go.Proofs.Tryz
open IntKind renaming i64→J,u32→F
open Value renaming pointer→G,int->ι,string->σ,bool->ν,tuple->τ,agg->γ
open Ending renaming returned→aG
open Obj renaming cells→aH
set_option maxRecDepth 100000
set_option maxHeartbeats 4000000
namespace Dir
open Go.RowKit Go.Shelf Oct Path
section
theorem qG (w:World) (n:Nat):Below n w w.drew:=⟨rfl,rfl,rfl,ah _,λ_ _=>rfl⟩
attribute [local go_sem] Oper.semAt_some
def rP (s n:List UInt8) (i:Nat):List UInt8×Int:=
 if dh s=0 then(if may (n,i)=true then(if(dR s n).2.2=true then([],9)else match uD (bX s)with
  |some k=>(uO s k (slotL (n,i)),0)
  |none=>if 2304<=s.length then([],4)else(s++slotL (n,i)++gZ,0))else([],2))else([],dh s)
theorem zT (e:Int) (w:World):Calls prog 305 #[ι J e] w λq w'=>q=aG (τ #[σ ⟨#[]⟩,ι J e])/\w=w':=by
 go_enter func305,ntmps305
 go_wp2
 go_ret2;exact⟨rfl,rfl⟩
theorem Bv {s:ByteArray} {k:Nat} (h:(bn s k).2=0):k<s.size/32:=by
 by_cases hk:k<s.size/32
 ·exact hk
 ·exfalso
  have hl:(gT (L s) k).length<32:=by
   unfold gT;rw[List.length_take,List.length_drop,bZ];omega
  unfold bn oC at h;cases hr:iY (gT (L s) k)with
  |none=>rw[hr]at h;simp at h
  |some e=>
   obtain⟨h1,h2⟩:=rH hr;have:=tT h1;rw[h2]at this;omega
theorem Dm {s:ByteArray} (h:∀k∈List.range (s.size/32),(bn s k).2≠0):uD (bX (L s))=none:=by
 refine List.findIdx?_eq_none_iff.2 (λe he=>?_);rw[<-jT]at he;obtain⟨k,hk,rfl⟩:=List.mem_map.1 he
 simpa using h k hk
theorem Dn {s:ByteArray} {k:Nat} (hh:(bn s k).2=0) (h:∀j,j<k->(bn s j).2≠0):uD (bX (L s))=some k:=by
 have hk:=Bv hh;have hl:(bX (L s)).length=s.size/32:=by rw[<-jT];simp[lD]
 have hg:∀j (hj:j<(bX (L s)).length),(bX (L s))[j]=bn s j:=λj hj=>by simp[<-jT,lD]
 refine List.findIdx?_eq_some_iff_getElem.2 ⟨by omega,by rw[hg];simpa using hh,λj hj=>?_⟩;rw[hg]
 simpa using h j hj
structure AS (w W:World) (s nm:ByteArray) (i:Nat):Prop where
 bS:Boxed W w.heap.size 9 (σ s)
 rS:Boxed W (w.heap.size+1) 9 (σ ⟨#[]⟩)
 rE:Boxed W (w.heap.size+1+1) 35 (ι J 0)
 y:aN W (w.heap.size+1+1+1) 202 #[σ nm,ι F i]
 lS:Below w.heap.size w W
theorem AS.lt {w W:World} {s nm:ByteArray} {i:Nat} (h:AS w W s nm i):w.heap.size+1+1+1<W.heap.size:=h.y.lt
theorem AS.later {w W W':World} {s nm:ByteArray} {i:Nat} (h:AS w W s nm i) (b:Below W.heap.size W W'):AS w W' s nm i:=
 ⟨(b.block _ h.bS.lt).trans h.bS,(b.block _ h.rS.lt).trans h.rS,(b.block _ h.rE.lt).trans h.rE,h.y.later b,h.lS.trans (b.mono (by have:=h.lt;omega))⟩
theorem AS.start (w:World) (s nm:ByteArray) (i:Nat):AS w ((((w.alloc (aH #[σ s] 9)).alloc (aH #[σ ⟨#[]⟩] 9)).alloc (aH #[ι J 0] 35)).alloc (aH #[σ nm,ι F i] 202)) s nm i:=by
 have h1:=Boxed.new w 9 (σ s);have h2:=Boxed.new (w.alloc (aH #[σ s] 9)) 9 (σ ⟨#[]⟩);have h3:=Boxed.new ((w.alloc (aH #[σ s] 9)).alloc (aH #[σ ⟨#[]⟩] 9)) 35 (ι J 0);have h4:=aN.new (((w.alloc (aH #[σ s] 9)).alloc (aH #[σ ⟨#[]⟩] 9)).alloc (aH #[ι J 0] 35)) 202 #[σ nm,ι F i];simp only[aC]at h2 h3 h4;exact⟨((h1.alloc _).alloc _).alloc _,(h2.alloc _).alloc _,h3.alloc _,h4,((((aj _ w).alloc (ah _) _).alloc (by simp) _).alloc (by simp;omega) _).alloc (by simp;omega) _⟩
theorem PH {β:Type} {B:Nat} {w:World} {s nm:ByteArray} {i:Nat} (hB:w.heap.size<=B):OwnFrom B (λ(_:β) W=>AS w W s nm i):=λ_ W W' row h hg hr=>
 ⟨gP h.bS hg hr,gP h.rS hg hr,gP h.rE hg hr,kR h.y hg hr,h.lS.grown hg h.lS.size (λk e=>by have:=(hr k e).1;omega)⟩
def AB (w W W1:World) (s nm:ByteArray) (i:Nat):Prop:=AS w W1 s nm i/\Below W.heap.size W W1
theorem AB.later {w W W1 W2:World} {s nm:ByteArray} {i:Nat} (h:AB w W W1 s nm i) (b:Below W1.heap.size W1 W2):AB w W W2 s nm i:=⟨h.1.later b,h.2.trans (b.mono h.2.size)⟩
theorem AB.keeps {w W W1:World} {s nm:ByteArray} {i:Nat} (h:AB w W W1 s nm i):KeepsOthers W W1:=KeepsOthers.of_grownBy (jS h.2) (λj o e=>by cases e)
theorem AS.fin {w W:World} {s nm:ByteArray} {i:Nat} (h:AS w W s nm i) (r:ByteArray) (e:Int):
 Boxed ((W.setCell ⟨w.heap.size+1,0,none⟩ (σ r)).setCell ⟨w.heap.size+1+1,0,none⟩ (ι J e)) (w.heap.size+1) 9 (σ r)/\
 Boxed ((W.setCell ⟨w.heap.size+1,0,none⟩ (σ r)).setCell ⟨w.heap.size+1+1,0,none⟩ (ι J e)) (w.heap.size+1+1) 35 (ι J e)/\
 Below w.heap.size w ((W.setCell ⟨w.heap.size+1,0,none⟩ (σ r)).setCell ⟨w.heap.size+1+1,0,none⟩ (ι J e)):=
 ⟨(h.rS.set _).other (by omega) _,(h.rE.other (by omega) _).set _,(h.lS.setCell (p:=⟨w.heap.size+1,0,none⟩) (by show w.heap.size<=w.heap.size+1;omega) _).setCell (p:=⟨w.heap.size+1+1,0,none⟩) (by show w.heap.size<=w.heap.size+1+1;omega) _⟩
theorem PJ (n:Nat) (hn:4<=n) (s nm:ByteArray) (i:Nat) (w:World) (hs:s.size<=maxLen) (hnm:nm.size<=maxLen) (ce:Int) (hce:dh (L s)=ce) (h0:ce≠0):CallsIn Fence.wide n prog 259 #[σ s,σ nm,ι F i] w λq w'=>q=aG (τ #[σ ⟨#[]⟩,ι J ce])/\Below w.heap.size w w':=by
 have CK:=U (λW=>fZ s W hs);have NA:=U (λW=>zT ce W);rw[hce]at CK;have q1:(ce !=0)=true:=by simpa using h0
 have q2:(ce==0)=false:=by simpa using h0
 clear h0 hce hs;refine callsIn_of_wp_marks func259 rfl trivial ?_ rfl;simp only[ntmps259,List.size_toArray,List.length_cons,List.length_nil,Nat.reduceAdd,Nat.reduceSub,Array.replicate_succ,Array.replicate_zero,List.push_toArray,List.append_toArray,List.nil_append,List.cons_append]
 gi_wp2_with fail
 refine⟨trivial,(λh=>by cases h),?_⟩;refine(callsIn_wide.2 (CK.o _)).mono ?_;rintro e w5 ⟨rfl,b5⟩;have g5:=(AS.start w s nm i).later b5;clear b5;have pas:=g5.bS.cell;have par:=g5.rS.cell;have Uw:=g5.rS.frozen;have pae:=g5.rE.cell;have Ux:=g5.rE.frozen;have Dp:=g5.y.cell 0;have Dq:=g5.y.cell 1;have pal:=g5.lt;simp only[au,av,ay]at Dp Dq
 gi_wp2_with fail
 refine⟨trivial,(λh=>by cases h),?_⟩;refine(callsIn_wide.2 (NA.o _)).mono ?_;rintro e w6 ⟨rfl,rfl⟩
 gi_wp2
 obtain⟨f1,f2,f3⟩:=g5.fin ⟨#[]⟩ ce;have c5:=f1.cell;have c6:=f2.cell;refine⟨τ #[σ ⟨#[]⟩,ι J ce],?_,rfl,f3⟩
 simp[results,f259,go_sem,c5,c6]
theorem vA (n:Nat) (hn:4<=n) (s nm:ByteArray) (i:Nat) (w:World) (hs:s.size<=maxLen) (hnm:nm.size<=maxLen) (hce:dh (L s)=0) (hm:may (L nm,i)=false):CallsIn Fence.wide n prog 259 #[σ s,σ nm,ι F i] w λq w'=>q=aG (τ #[σ ⟨#[]⟩,ι J 2])/\Below w.heap.size w w':=by
 have CK:=U (λW=>fZ s W hs);rw[hce]at CK;have MY:=U (λW=>iN nm i W hnm);rw[hm]at MY;have NA:=U (λW=>zT 2 W);clear hce hs hm;refine callsIn_of_wp_marks func259 rfl trivial ?_ rfl;simp only[ntmps259,List.size_toArray,List.length_cons,List.length_nil,Nat.reduceAdd,Nat.reduceSub,Array.replicate_succ,Array.replicate_zero,List.push_toArray,List.append_toArray,List.nil_append,List.cons_append]
 gi_wp2_with fail
 refine⟨trivial,(λh=>by cases h),?_⟩;refine(callsIn_wide.2 (CK.o _)).mono ?_;rintro e w5 ⟨rfl,b5⟩;have g5:=(AS.start w s nm i).later b5;clear b5;have pas:=g5.bS.cell;have par:=g5.rS.cell;have Uw:=g5.rS.frozen;have pae:=g5.rE.cell;have Ux:=g5.rE.frozen;have Dp:=g5.y.cell 0;have Dq:=g5.y.cell 1;have pal:=g5.lt;simp only[au,av,ay]at Dp Dq
 gi_wp2_with fail
 refine⟨trivial,(λh=>by cases h),?_⟩;refine(callsIn_wide.2 (MY.o _)).mono ?_;rintro e w6 ⟨rfl,b6⟩;have g6:=g5.later b6;clear pas par Uw pae Ux Dp Dq pal;clear b6 g5;have pbs:=g6.bS.cell;have pbr:=g6.rS.cell;have xF:=g6.rS.frozen;have pbe:=g6.rE.cell;have xN:=g6.rE.frozen;have Oy:=g6.y.cell 0;have Oz:=g6.y.cell 1;have pbl:=g6.lt;simp only[au,av,ay]at Oy Oz
 gi_wp2_with fail
 refine⟨trivial,(λh=>by cases h),?_⟩;refine(callsIn_wide.2 (NA.o _)).mono ?_;rintro e w7 ⟨rfl,rfl⟩
 gi_wp2
 obtain⟨f1,f2,f3⟩:=g6.fin ⟨#[]⟩ 2;have c5:=f1.cell;have c6:=f2.cell;refine⟨τ #[σ ⟨#[]⟩,ι J 2],?_,rfl,f3⟩
 simp[results,f259,go_sem,c5,c6]
theorem Ye (n:Nat) (hn:4<=n) (s nm:ByteArray) (i:Nat) (w:World) (hs:s.size<=maxLen) (hnm:nm.size<=maxLen) (hce:dh (L s)=0) (hm:may (L nm,i)=true) (hq:(dR (L s) (L nm)).2.2=true):CallsIn Fence.wide n prog 259 #[σ s,σ nm,ι F i] w λq w'=>q=aG (τ #[σ ⟨#[]⟩,ι J 9])/\Below w.heap.size w w':=by
 have CK:=U (λW=>fZ s W hs);rw[hce]at CK;have MY:=U (λW=>iN nm i W hnm);rw[hm]at MY;have NA:=U (λW=>zT 9 W);have FD:=U (λW=>Bt s nm W hs hnm);rw[hq]at FD
 generalize (dR (L s) (L nm)).1=fi at*
 generalize (dR (L s) (L nm)).2.1=fk at*
 clear hce hs hm hq;refine callsIn_of_wp_marks func259 rfl trivial ?_ rfl;simp only[ntmps259,List.size_toArray,List.length_cons,List.length_nil,Nat.reduceAdd,Nat.reduceSub,Array.replicate_succ,Array.replicate_zero,List.push_toArray,List.append_toArray,List.nil_append,List.cons_append]
 gi_wp2_with fail
 refine⟨trivial,(λh=>by cases h),?_⟩;refine(callsIn_wide.2 (CK.o _)).mono ?_;rintro e w5 ⟨rfl,b5⟩;have g5:=(AS.start w s nm i).later b5;clear b5;have pas:=g5.bS.cell;have par:=g5.rS.cell;have Uw:=g5.rS.frozen;have pae:=g5.rE.cell;have Ux:=g5.rE.frozen;have Dp:=g5.y.cell 0;have Dq:=g5.y.cell 1;have pal:=g5.lt;simp only[au,av,ay]at Dp Dq
 gi_wp2_with fail
 refine⟨trivial,(λh=>by cases h),?_⟩;refine(callsIn_wide.2 (MY.o _)).mono ?_;rintro e w6 ⟨rfl,b6⟩;have g6:=g5.later b6;clear pas par Uw pae Ux Dp Dq pal;clear b6 g5;have pbs:=g6.bS.cell;have pbr:=g6.rS.cell;have xF:=g6.rS.frozen;have pbe:=g6.rE.cell;have xN:=g6.rE.frozen;have Oy:=g6.y.cell 0;have Oz:=g6.y.cell 1;have pbl:=g6.lt;simp only[au,av,ay]at Oy Oz
 gi_wp2_with fail
 refine⟨trivial,(λh=>by cases h),?_⟩;refine(callsIn_wide.2 (FD.o _)).mono ?_;rintro e w7 ⟨rfl,b7⟩;have g7:=g6.later b7;clear pbs pbr xF pbe xN Oy Oz pbl;clear b7 g6;have pcs:=g7.bS.cell;have pcr:=g7.rS.cell;have pcrf:=g7.rS.frozen;have pce:=g7.rE.cell;have pcef:=g7.rE.frozen;have xT:=g7.y.cell 0;have yW:=g7.y.cell 1;have pcl:=g7.lt;simp only[au,av,ay]at xT yW
 gi_wp2_with fail
 refine⟨trivial,(λh=>by cases h),?_⟩;refine(callsIn_wide.2 (NA.o _)).mono ?_;rintro e w8 ⟨rfl,rfl⟩
 gi_wp2
 obtain⟨f1,f2,f3⟩:=g7.fin ⟨#[]⟩ 9;have c5:=f1.cell;have c6:=f2.cell;refine⟨τ #[σ ⟨#[]⟩,ι J 9],?_,rfl,f3⟩
 simp[results,f259,go_sem,c5,c6]
theorem Yf (n:Nat) (hn:4<=n) (s nm:ByteArray) (i:Nat) (w:World) (hs:s.size<=maxLen) (hnm:nm.size<=maxLen) (hce:dh (L s)=0) (hm:may (L nm,i)=true) (XJ:i<4294967296) (hq:(dR (L s) (L nm)).2.2=false) (r:List UInt8×Int) (hr:rP (L s) (L nm) i=r):CallsIn Fence.wide n prog 259 #[σ s,σ nm,ι F i] w λq w'=>q=aG (τ #[σ (B r.1),ι J r.2])/\Below w.heap.size w w':=by
 have CK:=U (λW=>fZ s W hs);rw[hce]at CK;have MY:=U (λW=>iN nm i W hnm);rw[hm]at MY;have FD:=U (λW=>Bt s nm W hs hnm);rw[hq]at FD;obtain⟨d1,d2,d3⟩:=rO hce;have hle:=d1.le;rw[bZ]at d3;have hsz:s.size<=2304:=by omega
 have hnm27:nm.size<=27:=by have:=(rJ (je hm).2).2;rw[bZ]at this;exact this
 have SA:=U (λW=>tQ s W);have SL:=U (λW=>KH nm i W hnm27 XJ);have FR:=U (λW=>pq W);have hslz:(B (slotL (L nm,i))).size=32:=by rw[aV,KM hm]
 have HR:Hid (r=(match uD (bX (L s))with|some k=>(uO (L s) k (slotL (L nm,i)),0)|none=>if 2304<=(L s).length then([],4)else(L s++slotL (L nm,i)++gZ,0))):=U (by
  rw[<-hr];unfold rP;rw[if_pos hce,if_pos hm,if_neg (by rw[hq];simp)])
 generalize (dR (L s) (L nm)).1=fi at*
 generalize (dR (L s) (L nm)).2.1=fk at*
 clear hce hm hq d1 d2 d3 hle hr;refine callsIn_of_wp_marks func259 rfl trivial ?_ rfl;simp only[ntmps259,List.size_toArray,List.length_cons,List.length_nil,Nat.reduceAdd,Nat.reduceSub,Array.replicate_succ,Array.replicate_zero,List.push_toArray,List.append_toArray,List.nil_append,List.cons_append]
 gi_wp2_with fail
 refine⟨trivial,(λh=>by cases h),?_⟩;refine(callsIn_wide.2 (CK.o _)).mono ?_;rintro e w5 ⟨rfl,b5⟩;have g5:=(AS.start w s nm i).later b5;clear b5;have pas:=g5.bS.cell;have par:=g5.rS.cell;have Uw:=g5.rS.frozen;have pae:=g5.rE.cell;have Ux:=g5.rE.frozen;have Dp:=g5.y.cell 0;have Dq:=g5.y.cell 1;have pal:=g5.lt;simp only[au,av,ay]at Dp Dq
 gi_wp2_with fail
 refine⟨trivial,(λh=>by cases h),?_⟩;refine(callsIn_wide.2 (MY.o _)).mono ?_;rintro e w6 ⟨rfl,b6⟩;have g6:=g5.later b6;clear pas par Uw pae Ux Dp Dq pal;clear b6 g5;have pbs:=g6.bS.cell;have pbr:=g6.rS.cell;have xF:=g6.rS.frozen;have pbe:=g6.rE.cell;have xN:=g6.rE.frozen;have Oy:=g6.y.cell 0;have Oz:=g6.y.cell 1;have pbl:=g6.lt;simp only[au,av,ay]at Oy Oz
 gi_wp2_with fail
 refine⟨trivial,(λh=>by cases h),?_⟩;refine(callsIn_wide.2 (FD.o _)).mono ?_;rintro e w7 ⟨rfl,b7⟩;have g7:=g6.later b7;clear pbs pbr xF pbe xN Oy Oz pbl;clear b7 g6;have pcs:=g7.bS.cell;have pcr:=g7.rS.cell;have pcrf:=g7.rS.frozen;have pce:=g7.rE.cell;have pcef:=g7.rE.frozen;have xT:=g7.y.cell 0;have yW:=g7.y.cell 1;have pcl:=g7.lt;simp only[au,av,ay]at xT yW
 gi_wp2_with fail
 refine⟨trivial,(λh=>by cases h),?_⟩;refine(callsIn_wide.2 (SA.o _)).mono ?_;rintro e w8 ⟨rfl,rfl⟩
 gi_wp2_with fail
 have bS:=Boxed.new w7 9 (σ s);have G7:=U g7;have hl7:=g7.lt;clear pcs pcr pcrf pce pcef xT yW pcl;clear g7
 refine wpIn_rangeFunc_ownH rfl (by omega) (gf:=236) (lb:=#[w7.heap.size]) rfl trivial (enters_of func236 (by kernel_rfl) rfl)
  (nZ (n-1) (by omega) w7.heap.size s (by omega) _ bS) kD (kE (by simp)) (aj _ _) (λ_=>rfl)
  (λpre W=>(∀k∈pre,(bn s k).2≠0)/\(AS w W s nm i/\w7.heap.size+1<=W.heap.size))
  (λc pre W=>(c=.ret/\∃Dk k,pre=Dk++[k]/\(∀j∈Dk,(bn s j).2≠0)/\(bn s k).2=0)/\((∃k,pre.getLast? =some k/\Boxed W (w.heap.size+1) 9 (σ (B (uO (L s) k (slotL (L nm,i)))))/\Boxed W (w.heap.size+1+1) 35 (ι J 0))/\Below w.heap.size w W))
  (OwnFrom.and (ownFrom_pure _ _) (OwnFrom.and (PH (by simp;omega)) (rM _)))
  (λc=>OwnFrom.and (ownFrom_pure _ _) (OwnFrom.and (λpre W W' row hs hg hr=>by
   obtain⟨k,h1,h2,h3⟩:=hs;exact⟨k,h1,gP h2 hg hr,gP h3 hg hr⟩) (ownFrom_below (ah _) (by simp;omega))))
  ⟨λp hp=>by simp at hp,G7.o.later ((aj _ _).alloc (ah _) _),by simp⟩
  (λk a' W=>∃b,w7.heap.size+1<=b/\aN W b 202 #[σ (B (bn s k).1),ι F (bn s k).2]/\a'={tmps:=#[σ s,σ nm,ι F i,G (some ⟨w.heap.size,0,none⟩),undef,undef,G (some ⟨w.heap.size+1,0,none⟩),G (some ⟨w.heap.size+1+1,0,none⟩),.func (.func 305) #[] #[],G (some ⟨w.heap.size+1+1+1,0,none⟩),ι J 0,ι F fi,ι J fk,ν false,ι J (k:Int),G (some ⟨b,0,none⟩),σ nm,ι F i,γ #[σ nm,ι F i],σ s,ι J 0,ι J 0,ν false,undef,undef,undef,undef,undef,γ #[σ nm,ι F i],ν true,ν false,undef,undef,undef,undef,τ #[ι F fi,ι J fk,ν false],σ s,σ nm,τ #[ι F fi,ι J fk,ν false],ι F fi,ι J fk,ν false,ν false,undef,undef,undef,undef,σ s,.func (.func 236) #[] #[G (some ⟨w7.heap.size,0,none⟩)],ι J (k:Int),γ #[σ (B (bn s k).1),ι F (bn s k).2],undef,undef,undef,undef,undef,undef,undef,undef,undef,undef,undef,undef,undef,undef,undef,undef,undef,undef,undef,undef,undef],defers:=[]})
  (λk a'=>λ_ W W' row hs hg hr=>by
   obtain⟨b,h1,h2,h3⟩:=hs;exact⟨b,h1,kR h2 hg hr,h3⟩) ?assign ?body ?done ?stop
 case assign=>
  rintro l pre k W K ⟨hp,hA,hz⟩ hK;rw[show iZ (L s) k=(k,bn s k)from rfl]
  dsimp only[kY]
  have HK:=U hK;clear hK
  gi_wp2
  exact HK.o _ _ ((KeepsOthers.alloc _ _).from _) (λv hv=>hv.alloc _) ⟨hp,hA.later ((aj _ _).alloc (ah _) _),by simp;omega⟩ ⟨W.heap.size,hz,aN.new _ _ _,rfl⟩
 case body=>
  rintro l pre k a' W hl hloop ⟨hp,hA,hz⟩ ⟨b,hb,hS,rfl⟩ hlen;have c0:=hS.cell 0;have c1:=hS.cell 1;simp only[au,av,ay]at c0 c1;have hlt:=hS.lt;have HFB:Hid ((bn s k).2=0->k<s.size/32):=U Bv
  have Js:Hid ((bn s k).2≠0->∀q∈pre++[k],(bn s q).2≠0):=U (λhk q hq=>by
   rcases List.mem_append.1 hq with h1|h1
   ·exact hp q h1
   ·simp only[List.mem_cons,List.not_mem_nil,or_false]at h1
    rw[h1];exact hk)
  have HP:=U hp;clear hl hloop hp hlen bS CK MY FD SA;obtain⟨Ho,PM⟩:∃x,(bn s k).1=x:=⟨_,rfl⟩;obtain⟨j,hj⟩:∃x,(bn s k).2=x:=⟨_,rfl⟩;rw[PM]at c0;rw[hj]at c1;rw[PM,hj];have HJ:=U hj;clear hj PM
  by_cases h0:j=0
  ·subst h0
   have hkb:=HFB.o HJ.o;have PT:=U (λV=>qj s (B (slotL (L nm,i))) k V (by omega) (by omega) (by omega));rw[iy]at PT;obtain⟨res,hres⟩:∃x,B (uO (L s) k (slotL (L nm,i)))=x:=⟨_,rfl⟩;obtain⟨sl,hsl⟩:∃x,B (slotL (L nm,i))=x:=⟨_,rfl⟩;rw[hres,hsl]at PT;rw[hsl]at SL;have PR:=U hres;have gD:=hA.later (qG W W.heap.size);clear hres hsl hkb;have dl:=gD.lt;have pds:=gD.bS.cell;have pdr:=gD.rS.cell;have pdrf:=gD.rS.frozen;have pde:=gD.rE.cell;have pdef:=gD.rE.frozen;have QP:=gD.y.cell 0;have QQ:=gD.y.cell 1;have pdl:=gD.lt;simp only[au,av,ay]at QP QQ
   gi_wp2_with fail
   gi_region_with (first|(refine⟨trivial,(λh=>by cases h),?_⟩;refine(CallsIn.inRound l (callsIn_wide.2 (SL.o _))).mono ?_;rintro e w9 ⟨rfl,b9⟩;have g9:=gD.later b9;have hbw:=(qG W W.heap.size).trans b9;have pes:=g9.bS.cell;have per:=g9.rS.cell;have perf:=g9.rS.frozen;have pee:=g9.rE.cell;have peef:=g9.rE.frozen;have pey0:=g9.y.cell 0;have pey1:=g9.y.cell 1;have pel:=g9.lt;simp only[au,av,ay]at pey0 pey1;clear b9)|(refine⟨trivial,(λh=>by cases h),?_⟩;refine(CallsIn.inRound l (callsIn_wide.2 (PT.o _))).mono ?_;rintro e zU ⟨rfl,n10,rfl⟩;have g10:=g9.later (Oct.below_drewN w9 n10 _);have pfs:=g10.bS.cell;have pfr:=g10.rS.cell;have pfrf:=g10.rS.frozen;have pfe:=g10.rE.cell;have pfef:=g10.rE.frozen;have pfy0:=g10.y.cell 0;have pfy1:=g10.y.cell 1;have pfl:=g10.lt;simp only[au,av,ay]at pfy0 pfy1))
   all_goals
    obtain⟨f1,f2,f3⟩:=g10.fin res 0;have Yg:=U f1;have OA:=U f2;have zE:=U f3;have HKF:=U ((KeepsOthers.of_grownBy (jS (hbw.trans (Oct.below_drewN w9 n10 _))) (λj o e=>by cases e)).trans ((KeepsOthers.setCell _ ⟨w.heap.size+1,0,none⟩ (σ res)).trans (KeepsOthers.setCell _ ⟨w.heap.size+1+1,0,none⟩ (ι J 0))));clear f1 f2 f3 hbw g10 g9 gD hA
    gi_wp2
    exact⟨HKF.o.from _,⟨⟨rfl,pre,k,rfl,HP.o,HJ.o⟩,⟨k,by simp,by rw[PR.o];exact Yg.o,OA.o⟩,zE.o⟩⟩
  ·have t0:((j:Int)==0)=false:=by simp;omega
   have t1:(j==0)=false:=by simp;omega
   have E3:=U (Js.o (by rw[HJ.o];exact h0));clear h0
   gi_wp2
   exact⟨KeepsFrom.refl _ _,eP.refl _ _ _,⟨E3.o,hA,hz⟩⟩
 case done=>
  rintro D ys W hD rfl ⟨hp,hA,hz⟩ hK;have hrf:=Dm hp;have hR2:=HR.o;rw[hrf]at hR2;have HR2:=U hR2;have HK:=U hK;clear hp hrf hR2 CK MY FD SA bS hK;have pgs:=hA.bS.cell;have pgr:=hA.rS.cell;have pgrf:=hA.rS.frozen;have pge:=hA.rE.cell;have pgef:=hA.rE.frozen;have pgy0:=hA.y.cell 0;have pgy1:=hA.y.cell 1;have pgl:=hA.lt;simp only[au,av,ay]at pgy0 pgy1
  by_cases hfull:2304<=s.size
  ·have t0:decide ((2304:Int)<=(s.size:Int))=true:=by simp;omega
   have t1:decide (2304<=s.size)=true:=by simp;omega
   have NA:=U (λV=>zT 4 V);have HR3:Hid (r=([],4)):=U (by rw[HR2.o,if_pos (show 2304<=(L s).length from hfull)]);clear hfull
   gi_wp2_with fail
   refine⟨trivial,(λh=>by cases h),?_⟩;refine(callsIn_wide.2 (NA.o _)).mono ?_;rintro e w9 ⟨rfl,rfl⟩;obtain⟨f1,f2,f3⟩:=hA.fin ⟨#[]⟩ 4;have Yg:=U f1;have OA:=U f2;have zE:=U f3;clear f1 f2 f3 hA
   gi_wp2
   have hK2:=((KeepsOthers.setCell W ⟨w.heap.size+1,0,none⟩ (σ ⟨#[]⟩)).trans (KeepsOthers.setCell _ ⟨w.heap.size+1+1,0,none⟩ (ι J 4))).same D _ HK.o rfl;refine⟨by simp,.inl ⟨_,_,rfl,run_takeDeferred hK2,?_⟩⟩;have c5:=cell_kept Yg.o.cell (grownBy_putObj' _ D (.deferred none)) (λr e=>by cases e;exact⟨_,hK2,rfl⟩);have c6:=cell_kept OA.o.cell (grownBy_putObj' _ D (.deferred none)) (λr e=>by cases e;exact⟨_,hK2,rfl⟩);refine⟨τ #[σ ⟨#[]⟩,ι J 4],?_,by rw[HR3.o];rfl,zE.o.trans (belowK_b (w:=w) (ah _) _ D _ _ (by simp at hD;omega) hK2 rfl rfl)⟩
   simp[results,f259,go_sem,c5,c6]
  ·have t0:decide ((2304:Int)<=(s.size:Int))=false:=by simp;omega
   have t1:decide (2304<=s.size)=false:=by simp;omega
   obtain⟨sl,hsl⟩:∃x,B (slotL (L nm,i))=x:=⟨_,rfl⟩;obtain⟨fr,hfr⟩:∃x,B gZ=x:=⟨_,rfl⟩;have hfz:fr.size=32:=by rw[<-hfr,aV,Bu]
   have HR3:Hid (r=(L (s++sl++fr),0)):=U (by
    rw[HR2.o,if_neg (show¬2304<=(L s).length from hfull),<-hsl,<-hfr,dA,dA,iy,iy,iy,iy])
   rw[hsl]at SL hslz;rw[hfr]at FR;have z1:s.size+sl.size<=3000:=by omega
   have z2:(s++sl).size<=3000:=by rw[dA,aV,List.length_append,bZ,bZ];omega
   have z3:fr.size<=40:=by omega
   have z4:sl.size<=40:=by omega
   have gD:=hA.later (qG W W.heap.size);clear hfull hsl hfr hfz hslz;have pds:=gD.bS.cell;have pdr:=gD.rS.cell;have pdrf:=gD.rS.frozen;have pde:=gD.rE.cell;have pdef:=gD.rE.frozen;have QP:=gD.y.cell 0;have QQ:=gD.y.cell 1;have pdl:=gD.lt;simp only[au,av,ay]at QP QQ
   gi_wp2_with fail
   have ab0:AB w W W.drew s nm i:=⟨gD,qG W _⟩
   gi_region_with (first|(refine⟨trivial,(λh=>by cases h),?_⟩;refine(callsIn_wide.2 (SL.o _)).mono ?_;rintro e w9 ⟨rfl,b9⟩;have VY:=AB.later (w:=w) (W:=W) (s:=s) (nm:=nm) (i:=i) (by assumption) b9;have pjs:=VY.1.bS.cell;have pjr:=VY.1.rS.cell;have pjrf:=VY.1.rS.frozen;have pje:=VY.1.rE.cell;have pjef:=VY.1.rE.frozen;have pjy0:=VY.1.y.cell 0;have pjy1:=VY.1.y.cell 1;have pjl:=VY.1.lt;simp only[au,av,ay]at pjy0 pjy1;clear b9)|(refine⟨trivial,(λh=>by cases h),?_⟩;refine(callsIn_wide.2 (FR.o _)).mono ?_;rintro e w9 ⟨rfl,b9⟩;have VZ:=AB.later (w:=w) (W:=W) (s:=s) (nm:=nm) (i:=i) (by assumption) b9;have pks:=VZ.1.bS.cell;have pkr:=VZ.1.rS.cell;have pkrf:=VZ.1.rS.frozen;have pke:=VZ.1.rE.cell;have pkef:=VZ.1.rE.frozen;have pky0:=VZ.1.y.cell 0;have pky1:=VZ.1.y.cell 1;have pkl:=VZ.1.lt;simp only[au,av,ay]at pky0 pky1;clear b9))
   all_goals
    first
    |(obtain⟨f1,f2,f3⟩:=VY.1.fin (s++sl++fr) 0
      have JP:=VY.keeps.trans ((KeepsOthers.setCell _ ⟨w.heap.size+1,0,none⟩ (σ (s++sl++fr))).trans (KeepsOthers.setCell _ ⟨w.heap.size+1+1,0,none⟩ (ι J 0)));have Yg:=U f1;have OA:=U f2;have zE:=U f3;have HKF:=U JP;clear f1 f2 f3 JP ab0 VY VZ
      gi_wp2
      have hK2:=HKF.o.same D _ HK.o rfl;refine⟨by simp,.inl ⟨_,_,rfl,run_takeDeferred hK2,?_⟩⟩;have c5:=cell_kept Yg.o.cell (grownBy_putObj' _ D (.deferred none)) (λr e=>by cases e;exact⟨_,hK2,rfl⟩);have c6:=cell_kept OA.o.cell (grownBy_putObj' _ D (.deferred none)) (λr e=>by cases e;exact⟨_,hK2,rfl⟩);refine⟨τ #[σ (s++sl++fr),ι J 0],?_,by rw[HR3.o];rfl,zE.o.trans (belowK_b (w:=w) (ah _) _ D _ _ (by simp at hD;omega) hK2 rfl rfl)⟩
      simp[results,f259,go_sem,c5,c6])
    |(obtain⟨f1,f2,f3⟩:=VZ.1.fin (s++sl++fr) 0
      have JP:=VZ.keeps.trans ((KeepsOthers.setCell _ ⟨w.heap.size+1,0,none⟩ (σ (s++sl++fr))).trans (KeepsOthers.setCell _ ⟨w.heap.size+1+1,0,none⟩ (ι J 0)));have Yg:=U f1;have OA:=U f2;have zE:=U f3;have HKF:=U JP;clear f1 f2 f3 JP ab0 VY VZ
      gi_wp2
      have hK2:=HKF.o.same D _ HK.o rfl;refine⟨by simp,.inl ⟨_,_,rfl,run_takeDeferred hK2,?_⟩⟩;have c5:=cell_kept Yg.o.cell (grownBy_putObj' _ D (.deferred none)) (λr e=>by cases e;exact⟨_,hK2,rfl⟩);have c6:=cell_kept OA.o.cell (grownBy_putObj' _ D (.deferred none)) (λr e=>by cases e;exact⟨_,hK2,rfl⟩);refine⟨τ #[σ (s++sl++fr),ι J 0],?_,by rw[HR3.o];rfl,zE.o.trans (belowK_b (w:=w) (ah _) _ D _ _ (by simp at hD;omega) hK2 rfl rfl)⟩
      simp[results,f259,go_sem,c5,c6])
 case stop=>
  rintro D c pre W hD ⟨m,hm,rfl⟩ ⟨⟨rfl,Dk,k,e1,e2,e3⟩,⟨k2,hk2,hS,hE⟩,hB⟩ hK;obtain⟨rfl,rfl⟩:=Br e1;obtain rfl:k2=k:=by rw[e1]at hk2;simpa using hk2.symm
  have hf:=Dn (s:=s) (k:=k2) e3 (λj hj=>e2 j (List.mem_range.2 hj));have HR3:Hid (r=(uO (L s) k2 (slotL (L nm,i)),0)):=U (by rw[HR.o,hf]);obtain⟨res,hres⟩:∃x,B (uO (L s) k2 (slotL (L nm,i)))=x:=⟨_,rfl⟩;rw[hres]at hS;have PR:=U hres;clear hf e1 e2 e3 hk2 hres;have cS:=hS.cell;have cE:=hE.cell
  gi_wp2
  refine⟨by simp,.inl ⟨_,_,rfl,run_takeDeferred hK,?_⟩⟩;have c5:=cell_kept hS.cell (grownBy_putObj' _ D (.deferred none)) (λr e=>by cases e;exact⟨_,hK,rfl⟩);have c6:=cell_kept hE.cell (grownBy_putObj' _ D (.deferred none)) (λr e=>by cases e;exact⟨_,hK,rfl⟩);refine⟨τ #[σ res,ι J 0],?_,by rw[HR3.o,<-PR.o],hB.trans (belowK_b (w:=w) (ah _) _ D _ _ (by simp at hD;omega) hK rfl rfl)⟩
  simp[results,f259,go_sem,c5,c6]
theorem Ra (s nm:ByteArray) (i:Nat) (w:World) (hs:s.size<=maxLen) (hnm:nm.size<=maxLen) (hi:i<4294967296):
 Calls prog 259 #[σ s,σ nm,ι F i] w λq w'=>q=aG (τ #[σ (B (rP (L s) (L nm) i).1),ι J (rP (L s) (L nm) i).2])/\Below w.heap.size w w':=by
 by_cases hce:dh (L s)=0
 ·cases hm:may (L nm,i)with
  |false=>
   have e:rP (L s) (L nm) i=([],2):=by unfold rP;rw[if_pos hce,if_neg (by rw[hm];simp)]
   rw[e];exact(callsIn_wide (n:=4)).1 (vA 4 (ah _) s nm i w hs hnm hce hm)
  |true=>
   cases hq:(dR (L s) (L nm)).2.2 with
   |true=>
    have e:rP (L s) (L nm) i=([],9):=by unfold rP;rw[if_pos hce,if_pos hm,if_pos hq]
    rw[e];exact(callsIn_wide (n:=4)).1 (Ye 4 (ah _) s nm i w hs hnm hce hm hq)
   |false=>exact(callsIn_wide (n:=4)).1 (Yf 4 (ah _) s nm i w hs hnm hce hm hi hq _ rfl)
 ·have e:rP (L s) (L nm) i=([],dh (L s)):=by unfold rP;rw[if_neg hce]
  rw[e];exact(callsIn_wide (n:=4)).1 (PJ 4 (ah _) s nm i w hs hnm _ rfl hce)
end
