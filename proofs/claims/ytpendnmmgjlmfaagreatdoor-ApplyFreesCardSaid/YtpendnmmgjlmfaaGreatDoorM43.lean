/- Lemmas. -/
import Derived.Test.YtpendnmmgjlmfaaGreatDoorM36
import Derived.Test.YtpendnmmgjlmfaaGreatDoorM34
set_option linter.unusedVariables false
set_option linter.unusedSimpArgs false
namespace Go.Proofs.YtpendnmmgjlmfaaGreatDoor
open Go.RowKit Go.Shelf Go.Maps
open Go.Proofs.Tryz
open IntKind renaming u16→I,i64→J,u32→F,u8→aF
open Value renaming pointer→G,int->ι,string->σ,bool->ν,tuple->τ,agg->γ
open Ending renaming returned→aG
open Obj renaming cells→aH
set_option maxRecDepth 100000
set_option maxHeartbeats 4000000
namespace lC
open Oct Dev mU Tx Geo qX Bm
theorem Vt (w:World):Calls prog 22 #[] w λe w'=>e=aG (γ #[ι J 8,ι J 16,ι J 40])/\Below w.heap.size w w':=by
 go_enter func22,ntmps22
 go_wp2
 have h9:=aN.new w 23 #[ι J 8,ι J 16,ι J 40];have k:=h9.cell;exact bodyPost_ret (v:=γ #[ι J 8,ι J 16,ι J 40]) (by simp[results,results22,go_sem,(k 0),(k 1),(k 2)]) rfl ⟨rfl,(aj _ _).alloc (ah _) _⟩
theorem FH (i bl j:Int) (w:World):Calls prog 6 #[dw i bl j] w λe w'=>e=aG (ν (decide (60<bl\/30<i\/60<j)))/\Below w.heap.size w w':=by
 have hX:=aN.new w 23 #[ι J i,ι J bl,ι J j];have X:=hX.cell;have Xl:=hX.lt;clear hX;unfold dw
 by_cases h0:60<bl
 ·have t0:decide (60<bl)=true:=by simpa using h0
  go_enter func6,ntmps6
  go_wp2
  go_ret;exact⟨by simp[h0],(aj _ _).alloc (ah _) _⟩
 ·have t0:decide (60<bl)=false:=by simpa using h0
  by_cases h1:30<i
  ·have t1:decide (30<i)=true:=by simpa using h1
   go_enter func6,ntmps6
   go_wp2
   go_ret;exact⟨by simp[h0,h1],(aj _ _).alloc (ah _) _⟩
  ·have t1:decide (30<i)=false:=by simpa using h1
   go_enter func6,ntmps6
   go_wp2
   go_ret;exact⟨by simp[h0,h1],(aj _ _).alloc (ah _) _⟩
section
variable {E:Im} {D:aZ} {Z:Nat->Prop} {Q:Prop}
def xw (E:Im) (D:aZ) (x:aP) (vs:List Nat) (k:Nat):ByteArray:=if aT x vs k=0 then zS else D (dq E (aT x vs k))
def kr (E:Im) (D:aZ) (x:aP) (vs:List Nat):Nat->ByteArray
 |0=>⟨#[]⟩
 |k+1=>kr E D x vs k++xw E D x vs k
theorem Cm {w:World} (hs:Small E) (h:IS w E D Z) {x:aP} {vs:List Nat} (hi:mX E.bl x) (hv:dS E D x.ind vs) (k:Nat):(xw E D x vs k).size=64:=by
 unfold xw;have hz:zS.size=64:=by unfold zS;rw[aV,List.length_replicate]
 split
 ·exact hz
 ·exact h.sec (ze hs h.len (by omega) (Cb hi hv.lt k))
theorem Cn {w:World} (hs:Small E) (h:IS w E D Z) {x:aP} {vs:List Nat} (hi:mX E.bl x) (hv:dS E D x.ind vs):∀k,(kr E D x vs k).size=64*k
 |0=>rfl
 |k+1=>by rw[kr,ByteArray.size_append,Cn hs h hi hv k,Cm hs h hi hv k];omega
theorem Aa (n:Nat) (x:aP) (vs:List Nat) (w:World) (hs:Small E) (h:IS w E D Z) (h1:1<=n) (hn:n<=E.i) (hx:dZ E D n x) (ho:x.Ok) (hk:x.kind=2) (hi:mX E.bl x) (hv:dS E D x.ind vs):
 Calls prog 94 #[E.M,ι F n] w λe w'=>e=aG (τ #[σ (kr E D x vs (aQ x.size)),ι J 0])/\Below w.heap.size w w':=by
 have hsz:=Ok.tJ ho;have TH:=jw n x w hs h h1 hn hx ho;rw[if_neg (by omega)]at TH;have TH:=U TH;have PG:=U (λW=>oU x.size W (by omega));have PA:=U (λk W (hk2:k<36) (h:IS W E D Z)=>RU n k x vs W hs h h1 hn hx ho (by omega) hi hv hk2);have TS:=U (λk=>Cn hs h hi hv k);have PS:=U (λk=>Cm hs h hi hv k);have SU:=U (λk=>show kr E D x vs (k+1)=kr E D x vs k++xw E D x vs k from rfl);have HPG:Hid (∀k,(if aT x vs k=0 then zS else D (dq E (aT x vs k)))=xw E D x vs k):=U (λk=>rfl);have T0:kr E D x vs 0=⟨#[]⟩:=rfl;have H:=U h;have hpg:aQ x.size<=36:=by unfold aQ;omega
 clear h hx ho hi hv
 generalize kr E D x vs=tS at*
 generalize xw E D x vs=pS at*
 obtain⟨kind,links,size,d0,d1,d2,d3,ind⟩:=x;simp only at hk hpg PG;subst hk
 generalize aQ size=pg at*
 unfold aP.val at*
 go_enter func94,ntmps94
 go_wp2_with fail;refine TH.o.mono ?_;rintro e w1 ⟨rfl,b1⟩;have hX:=aN.new w1 114 #[ι aF 2,ι I links,ι F size,ι I d0,ι I d1,ι I d2,ι I d3,ι I ind];have hB1:=b1.alloc b1.size (aH #[ι aF 2,ι I links,ι F size,ι I d0,ι I d1,ι I d2,ι I d3,ι I ind] 114);have B1:=U hB1;have X:=hX.cell;have Xl:=hX.lt;clear hX hB1 b1;go_wp2_with fail;refine(PG.o _).mono ?_;rintro e w9 ⟨rfl,rfl⟩;go_wp2_with fail
 go_loopw [4,27] (λs c wr=>∃k:Nat,k<=pg/\c=ι J k/\s=σ (tS k)/\Below w.heap.size w wr) (λ_ c _=>pg-(intOf c).toNat)
 case atStart=>exact⟨0,aB _,rfl,by rw[T0],B1.o⟩
 case round=>
  obtain⟨k,hk,rfl,rfl,hB⟩:=hrel
  by_cases hlt:k<pg
  ·have q0:(k:Int)<pg:=by omega
   have PK:=PA.o k wr (by omega) (H.o.later hB);rw[HPG.o k]at PK;have PK:=U PK;have hz:(tS k).size+(pS k).size<=100000:=by rw[TS.o,PS.o];omega
   have SK:=U (SU.o k);have HB:=U hB;clear hB
   generalize tS k=s0 at*
   generalize pS k=p0 at*
   go_wp2_with fail;refine PK.o.mono ?_;rintro e w2 ⟨rfl,b2⟩;go_wp2_with fail;exact⟨⟨k+1,by omega,rfl,by rw[SK.o],HB.o.trans (b2.mono HB.o.size)⟩,by simp[intOf];omega⟩
  ·obtain rfl:k=pg:=by omega
   have HB:=U hB;clear hB
   go_wp2
   go_ret2;exact⟨rfl,HB.o⟩
end
end lC
section
def Pw (s:ByteArray) (n:Nat):Nat:=((List.range n).filter λk=>dn s k).length
theorem Co (s:ByteArray) (n:Nat) (h:n<=8*s.size):countB s (n:Int)=Pw s n:=by
 obtain⟨r,hr⟩:∃r,8*s.size=n+r:=⟨8*s.size-n,by omega⟩;unfold countB II upto Pw;rw[List.filter_map,List.length_map,hr,List.range_add,List.filter_append,List.length_append]
 have h2:(((List.range r).map (n+ ·)).filter ((λx:Nat×Bool=>x.2&&decide ((x.1:Int)<n))∘fq s))=[]:=by
  refine List.filter_eq_nil_iff.2 (λk hk=>?_);obtain⟨j,_,rfl⟩:=List.mem_map.1 hk;have e:decide (((n+j:Nat):Int)<n)=false:=decide_eq_false (by omega);intro hc;have hc2:(dn s (n+j)&&decide (((n+j:Nat):Int)<n))=true:=hc;rw[e,Bool.and_false]at hc2;cases hc2
 rw[h2,List.length_nil,Nat.add_zero]
 congr 1
 refine List.filter_congr (λk hk=>?_);have hk:=List.mem_range.1 hk
 simp[fq,hk]
theorem Vu {s:ByteArray} {m k:Nat} (hm:k<m) (hk:k<8*s.size) (h0:∀j,j<k->dn s j=true) (h1:dn s k=false):eO s (m:Int) false=(k,true):=by
 unfold eO;obtain⟨r,hr⟩:∃r,8*s.size=k+(r+1):=⟨8*s.size-k-1,by omega⟩
 have hsp:upto (fq s) (8*s.size)=upto (fq s) k++(fq s k::(List.range r).map λj=>fq s (k+(j+1))):=by
  unfold upto;rw[hr,List.range_add,List.map_append]
  congr 1
  rw[List.map_map,List.range_succ_eq_map,List.map_cons,List.map_map]
  rfl
 have hng:¬oL (m:Int) false (fq s k):=λh=>h.2 h1;rw[hsp,jK,zm _ _ _ _ hng]
 ·unfold gJ
  simp[fq,h1,hm]
 ·intro p hp
  unfold upto at hp;obtain⟨j,hj,rfl⟩:=List.mem_map.1 hp;have hj:=List.mem_range.1 hj;exact⟨by simp[fq];omega,by simp[fq,h0 j hj]⟩
theorem LX (n k:Nat):dn (Oct.B (List.replicate n 0)) k=false:=by
 unfold dn mZ
 have h:(Oct.B (List.replicate n 0)).data.toList.getD (k/8) 0=0:=by
  show(List.replicate n (0:UInt8)).toArray.toList.getD (k/8) 0=0;rw[List.toList_toArray,List.getD_eq_getElem?_getD,List.getElem?_replicate]
  split<;>rfl
 rw[h]
 simp
end
namespace lC
open Go.Sort Oct Dev mU Tx Geo qX
structure Px (w:World) (E:Im) (i bl j:Nat) (w':World):Prop where
 small:Small E
 ei:E.i=i
 eb:E.bl=bl
 ej:E.j=j
 hard:E.hard=qV i bl j
 is:IS w' E (fmtS i bl j) (λ_=>False)
 dev:bY w' E.b E.hard (λ_=>none) E.k
 own:w.heap.size<=E.T.m
 lS:Below w.heap.size w w'
 DA:w.heap.size<=E.b.p/\w.heap.size<=E.b.g/\w.heap.size<=E.b.m/\w.heap.size<=E.T.j/\w.heap.size<=E.T.p
 ek:E.k=(mI i bl j).sum
theorem LZ (i bl j:Nat) (w:World) (hm:iR i bl j=true) (hi:i<=30) (hb:bl<=60) (hj:j<=60) (hR:iJ w):
 Calls prog 9 #[dw i bl j] w λe w'=>∃E:Im,e=aG (τ #[E.b.p,E.T.j,E.T.p,E.M])/\Px w E i bl j w':=by
 have hv:=(Small.vals (E:=⟨0,⟨0,0,0⟩,⟨0,0,0⟩,[],0,i,bl,j⟩) ⟨hm,hi,hb,hj⟩);simp only[fr]at hv
 have h1z:fmtS i bl j 1=zS:=by
  unfold fmtS;rw[if_neg (by omega),if_neg (by omega),if_neg (by omega),if_neg (by omega)]
 have hn1:oP i bl j 1=j:=rfl;have SC:=U (λW=>yJ i bl j W hm);have PT:=U (λW=>Geo.jN i bl j 1 W hm (by omega));rw[hn1,hv.1]at PT;have hfl:=Zq i bl j
 have hf1:(qV i bl j)[1]? =some zS:=by
  unfold qV;rw[List.getElem?_map,List.getElem?_range (by omega)]
  simp[h1z]
 have FM:=U (λb W (hD:bY W b (List.replicate (mI i bl j).sum nV) (λ_=>none) 0) (hR:iJ W)=>Pn i bl j b _ W hm hD (by simp) hR);have NW:=U (λW=>Dev.tO (mI i bl j).sum W (by omega) (by omega));have OP:=U (λb k W hD=>Ur b (qV i bl j) k 1 j W hD (by omega) (by omega) (by rw[hfl];omega) hf1)
 have NI:=U (λT b k W h=>lC.tO T b (qV i bl j) k i bl j 0 (λ_=>none) W h hm hfl (λq hq=>by
  rw[hfl]at hq;unfold iG;simp only;unfold qV;rw[List.getD_eq_getElem?_getD,List.getElem?_map,List.getElem?_range hq];exact yg i bl j q) (Kh j))
 have HR:=U hR
 have FIN:=U (λ(T:xL) (b:dN) (k M:Nat) (W:World) (h:xO W ⟨M,T,b,qV i bl j,k,i,bl,j⟩ (λ_=>none) 0)=>(show IS W ⟨M,T,b,qV i bl j,k,i,bl,j⟩ (fmtS i bl j) (λ_=>False)from⟨_,_,h,λq hq=>by
  have hq2:q<(mI i bl j).sum:=by rw[<-hfl];exact hq
  unfold iG;simp only;unfold qV;rw[List.getD_eq_getElem?_getD,List.getElem?_map,List.getElem?_range hq2]
  rfl,λx hx=>by cases hx⟩))
 have hsm:∀(T:xL) (b:dN) (k M:Nat),Small ⟨M,T,b,qV i bl j,k,i,bl,j⟩:=λT b k M=>⟨hm,hi,hb,hj⟩;have HSM:=U hsm;unfold dw at*;clear hR h1z hn1 hf1 hfl hv hsm
 generalize hgn:(mI i bl j).sum=n at*
 have HB0:=U ((aj _ w).alloc (ah _) (aH #[ι J i,ι J bl,ι J j] 23));have HG0:=U (aN.new w 23 #[ι J i,ι J bl,ι J j])
 go_enter func9,ntmps9
 go_wp2_with fail;refine(SC.o _).mono ?_;rintro e w1 ⟨rfl,b1⟩;have Dv:=U (HG0.o.later b1);have B1:=U (HB0.o.trans (b1.mono HB0.o.size));clear b1;go_wp2_with fail;refine(NW.o _).mono ?_;rintro e w2 ⟨b,rfl,hD,hp,hg,hmm,b2⟩;have hpw:w.heap.size<=b.p:=aD B1.o.size hp;have hgw:w.heap.size<=b.g:=aD B1.o.size hg;have hmw:w.heap.size<=b.m:=aD B1.o.size hmm;have HG2:=U (Dv.o.later b2);have B2:=U (B1.o.trans (b2.mono B1.o.size));have HD2:=U hD;have hX:=HG2.o;have X:=hX.cell;have Xl:=hX.lt
 have hgne:w.heap.size≠b.p/\w.heap.size≠b.g/\w.heap.size≠b.m:=by
  have:=Dv.o.lt;omega
 clear b2 hD hX hp hg hmm;go_wp2_with fail;refine(PT.o _).mono ?_;rintro e w3 ⟨rfl,b3⟩;have HS3:=U (aN.new w3 76 #[ι J (1:Nat),ι J j]);have HB3:=U (b3.alloc b3.size (aH #[ι J (1:Nat),ι J j] 76));have HG3:=U (HG2.o.later HB3.o);have B3:=U (B2.o.trans (HB3.o.mono B2.o.size));have HD3:=U (HD2.o.later HB3.o)
 have hne3:w3.heap.size≠b.p/\w3.heap.size≠b.g/\w3.heap.size≠b.m:=by
  have h1:=HD2.o.row.lt;have h2:=HD2.o.map.lt;obtain⟨cap,_,h3⟩:=HD2.o.dev;have h3:=h3.lt;have h4:=b3.size;omega
 have hX:=HG2.o.later b3;clear X Xl b3;have X:=hX.cell;have Xl:=hX.lt;clear hX;go_wp2_with fail;refine(FM.o b _ HD3.o (HR.o.later B3.o)).mono ?_;rintro e w4 ⟨rfl,hD4,T4⟩;have B4:=U (T4.below (λc hc=>by rcases hc with rfl|rfl|rfl<;>assumption) B3.o B3.o.size);have HG4:Hid (aN w4 w.heap.size 23 #[ι J i,ι J bl,ι J j]):=U ((T4.block _ HG3.o.lt (by omega)).trans HG3.o);have HS4:=U ((T4.block w3.heap.size (by simp) (by omega)).trans HS3.o);have HD4:=U hD4;have hX:=HG4.o;have hY:aN w4 w3.heap.size 76 #[ι J (1:Nat),ι J j]:=HS4.o;clear X Xl hD4 T4;have X:=hX.cell;have Xl:=hX.lt;have Y:=hY.cell;have Yl:=hY.lt;clear hX hY;go_wp2_with fail;refine(OP.o b _ _ HD4.o).mono ?_;rintro e w5 ⟨jj,rfl,hjj,hJ,b5⟩;have B5:=U (B4.o.trans (b5.mono B4.o.size));have HG5:=U (HG4.o.later b5);have HD5:=U (HD4.o.later b5);have HJ5:=U hJ;clear hJ b5 X Xl Y Yl;go_wp2_with fail;refine(Ew jj _ HD5.o).mono ?_;rintro e w6 ⟨T,rfl,hTj,QL,zC,hTx,b6⟩;have B6:=U (B5.o.trans (b6.mono B5.o.size));have HG6:=U (HG5.o.later b6);have HD6:=U (HD5.o.later b6);have hne:T.m≠b.m:=by have:=HD5.o.map.lt;omega
 have Ru:eF w6 T.j b 1 j 0:=by
  rw[hTj];exact aN.later HJ5.o b6
 have HT6:=U (show TJ w6 T b (qV i bl j) n (λ_=>none) 0 1 j from⟨hTx,⟨0,aB _,Ru⟩,hne⟩);have zC:=aD B5.o.size zC;have QL:=aD B5.o.size QL;have hTjw:w.heap.size<=T.j:=by rw[hTj];exact aD B4.o.size hjj
 have hX:=HG6.o;clear hTx Ru b6;have X:=hX.cell;have Xl:=hX.lt;clear hX;go_wp2_with fail;refine(NI.o T b _ _ HT6.o).mono ?_;rintro e w7 ⟨M,rfl,hM,hI,b7⟩;have B7:=U (B6.o.trans (b7.mono B6.o.size));have HD7:=U (HD6.o.later b7);have HI7:=U hI;clear hI b7 X Xl
 go_wp2
 exact bodyPost_ret (v:=τ #[b.p,jj,T.p,M]) (by simp[results,results9,go_sem]) rfl ⟨⟨M,T,b,qV i bl j,n,i,bl,j⟩,by rw[hTj],⟨HSM.o T b n M,rfl,rfl,rfl,rfl,FIN.o T b n M _ HI7.o,HD7.o,zC,B7.o,⟨hpw,hgw,hmw,hTjw,QL⟩,hgn.symm⟩⟩
open Bm
def Ma:List Nat:=List.replicate 32 0
theorem Py (n:Nat) (l:List Nat) (h:∀v∈l,v=0):Qt n l:=λk v hk hv=>absurd (h v (List.mem_of_getElem? hk)) hv
theorem Zy:eX.Ok:=.inr ⟨.inr rfl,by decide,by decide,λ_=>rfl,Py _ _ (by decide),by decide⟩
theorem IJ (k:Nat):dn IC k=decide (k<2):=by
 have hz:zS.size=64:=jZ;unfold IC lI lI lI;rw[fE _ _ _ _ (by rw[jG,hz];omega),fE _ _ _ _ (by rw[hz];omega)];have h0:dn zS k=false:=LX 64 k;rw[h0]
 by_cases h1:k=0+1
 ·subst h1;rfl
 ·by_cases h2:k=0+0
  ·subst h2;rfl
  ·rw[if_neg h1,if_neg h2]
   simp;omega
theorem Sb (k:Nat):dn IB k=decide (k<1):=by
 have hz:zS.size=64:=jZ;unfold IB lI lI;rw[fE _ _ _ _ (by rw[hz];omega)];have h0:dn zS k=false:=LX 64 k;rw[h0]
 by_cases h2:k=0+0
 ·subst h2;rfl
 ·rw[if_neg h2]
  simp;omega
theorem Pz (E:Im) (D:aZ):dS E D 0 Ma:=⟨rfl,λv hv=>by rw[List.eq_of_mem_replicate hv];omega,λ_=>rfl,λh=>absurd rfl h⟩
theorem Fi (E:Im) (i bl j:Nat) (h:tq E 1=cB i bl j 4):dZ E (fmtS i bl j) 1 eX:=by
 unfold dZ;rw[h];have e:fmtS i bl j (cB i bl j 4)=qP:=by unfold fmtS;rw[if_pos rfl]
 rw[e];show qP.extract 0 32=jL eX;unfold qP;have hz:=jF eX
 apply iL
 rw[lG,dA];simp only[iy,List.drop_zero,Nat.sub_zero];rw[List.take_append_of_le_length (by rw[bZ];omega),List.take_of_length_le (by rw[bZ];omega)]
theorem PE (E:Im) (i bl j:Nat) (hs:Small E) (ei:E.i=i) (eb:E.bl=bl) (ej:E.j=j):fmtS i bl j (fr E 2)=IC/\fmtS i bl j (fr E 3)=IB/\tq E 1=cB i bl j 4:=by
 have hv:=hs.vals;have h2:fr E 2=cB i bl j 2:=by unfold fr;rw[ei,eb,ej]
 have h3:fr E 3=cB i bl j 3:=by unfold fr;rw[ei,eb,ej]
 have h4:fr E 4=cB i bl j 4:=by unfold fr;rw[ei,eb,ej]
 refine⟨?_,?_,?_⟩
 ·unfold fmtS
  rw[if_neg (by omega),if_neg (by omega),if_pos (by omega)]
 ·unfold fmtS
  rw[if_neg (by omega),if_pos (by omega)]
 ·unfold tq
  omega
theorem Cq (l:List Nat) (a:Nat):∀m,((UW l a m).map λk=>l.getD k 0)=((l.drop a).take m).filter (λv=>decide (v≠0))
 |0=>by simp[UW]
 |m+1=>by
  rw[Lm,List.map_append,Cq l a m,List.take_add_one,List.filter_append]
  congr 1
  rw[List.getElem?_drop];cases h:l[a+m]?with
  |none=>simp[List.getD,h]
  |some v=>
   by_cases hv:v=0
   iterate 2
    ·simp[List.getD,h,hv]
theorem Mc (x:aP) (p:Nat):zf x p=((iI x).drop p).filter (λv=>decide (v≠0)):=by
 unfold zf;rw[Cq,List.take_of_length_le]
 simp[iI]
theorem Cr {vs:List Nat} (p:Nat) (hl:vs.length=32):pR vs p=(vs.drop (p-4)).filter (λv=>decide (v≠0)):=by
 unfold pR;rw[Cq,List.take_of_length_le]
 simp[hl]
def blks (x:aP) (vs:List Nat):List Nat:=bF x vs 0
theorem iQ {x:aP} {vs:List Nat} (hl:vs.length=32):blks x vs=((iI x).filter (λv=>decide (v≠0))++vs.filter (λv=>decide (v≠0)))++if x.ind=0 then[]else[x.ind]:=by
 unfold blks bF;rw[Mc,Cr 0 hl]
 by_cases h:x.ind=0
 ·simp[h]
 ·simp[h]
theorem eY {x:aP} {vs:List Nat} (hl:vs.length=32) (b:Nat):b∈blks x vs↔b≠0/\(b∈iI x\/b∈vs\/b=x.ind):=by
 rw[iQ hl]
 by_cases h:x.ind=0
 ·simp only[h,if_true,List.append_nil,List.mem_append,List.mem_filter,decide_eq_true_eq]
  constructor
  ·rintro(⟨h1,h2⟩|⟨h1,h2⟩)
   ·exact⟨h2,.inl h1⟩
   ·exact⟨h2,.inr (.inl h1)⟩
  ·rintro⟨h1,h2|h2|h2⟩
   ·exact .inl ⟨h2,h1⟩
   ·exact .inr ⟨h2,h1⟩
   ·exact absurd h2 h1
 ·simp only[h,if_false,List.mem_append,List.mem_filter,decide_eq_true_eq,List.mem_singleton]
  constructor
  ·rintro((⟨h1,h2⟩|⟨h1,h2⟩)|h1)
   ·exact⟨h2,.inl h1⟩
   ·exact⟨h2,.inr (.inl h1)⟩
   ·exact⟨by rw[h1];exact h,.inr (.inr h1)⟩
  ·rintro⟨h1,h2|h2|h2⟩
   ·exact .inl (.inl ⟨h2,h1⟩)
   ·exact .inl (.inr ⟨h2,h1⟩)
   ·exact .inr h2
structure bP (E:Im) (D:aZ) (ino:Nat->aP) (vs:Nat->List Nat):Prop where
 is:∀n,1<=n->n<=E.i->dZ E D n (ino n)
 ok:∀n,1<=n->n<=E.i->(ino n).Ok
 ing:∀n,1<=n->n<=E.i->mX E.bl (ino n)
 ind:∀n,1<=n->n<=E.i->dS E D (ino n).ind (vs n)
 bit:∀b,1<=b->b<=E.bl->(dn (D (fr E 3)) b=true↔∃n,1<=n/\n<=E.i/\b∈blks (ino n) (vs n))
 zero:dn (D (fr E 3)) 0=true
 one:∀n m b,1<=n->n<=E.i->1<=m->m<=E.i->b∈blks (ino n) (vs n)->b∈blks (ino m) (vs m)->n=m
 once:∀n,1<=n->n<=E.i->(blks (ino n) (vs n)).Nodup
def dO {A:Type} (f:Nat->A) (n:Nat) (y:A):Nat->A:=λm=>if m=n then y else f m
theorem bH {A:Type} (f:Nat->A) (n:Nat) (y:A):dO f n y n=y:=if_pos rfl
theorem dD {A:Type} (f:Nat->A) {n m:Nat} (y:A) (h:m≠n):dO f n y m=f m:=if_neg h
theorem bP.step {E:Im} {D D':aZ} {ino:Nat->aP} {vs:Nat->List Nat} (h:bP E D ino vs) (n:Nat) (y:aP) (us:List Nat) (h1:1<=n) (hn:n<=E.i)
 (a1:dZ E D' n y) (a2:∀m,1<=m->m<=E.i->m≠n->dZ E D' m (ino m)) (b1:y.Ok) (b2:mX E.bl y) (b3:dS E D' y.ind us) (b4:∀m,1<=m->m<=E.i->m≠n->dS E D' (ino m).ind (vs m))
 (c:∀b,1<=b->b<=E.bl->(dn (D' (fr E 3)) b=true↔b∈blks y us\/(dn (D (fr E 3)) b=true/\b∉blks (ino n) (vs n)))) (d:dn (D' (fr E 3)) 0=true)
 (e:∀b∈blks y us,b∈blks (ino n) (vs n)\/(1<=b/\b<=E.bl/\dn (D (fr E 3)) b=false)) (f:(blks y us).Nodup):bP E D' (dO ino n y) (dO vs n us):=by
 have no:∀m b,1<=m->m<=E.i->m≠n->b∈blks y us->b∉blks (ino m) (vs m):=by
  intro m b m1 m2 mn hb hm
  rcases e b hb with h2|⟨g1,g2,h2⟩
  ·exact mn (h.one m n b m1 m2 h1 hn hm h2)
  ·have:=(h.bit b g1 g2).2 ⟨m,m1,m2,hm⟩
   rw[h2]at this;cases this
 refine⟨?_,?_,?_,?_,?_,d,?_,?_⟩
 ·intro m m1 m2
  by_cases q:m=n
  ·subst q;rw[bH];exact a1
  ·rw[dD _ _ q];exact a2 m m1 m2 q
 ·intro m m1 m2
  by_cases q:m=n
  ·subst q;rw[bH];exact b1
  ·rw[dD _ _ q];exact h.ok m m1 m2
 ·intro m m1 m2
  by_cases q:m=n
  ·subst q;rw[bH];exact b2
  ·rw[dD _ _ q];exact h.ing m m1 m2
 ·intro m m1 m2
  by_cases q:m=n
  ·subst q;rw[bH,bH];exact b3
  ·rw[dD _ _ q,dD _ _ q];exact b4 m m1 m2 q
 ·intro b g1 g2
  rw[c b g1 g2]
  constructor
  ·rintro(hb|⟨hb,hx⟩)
   ·exact⟨n,h1,hn,by rw[bH,bH];exact hb⟩
   ·obtain⟨m,m1,m2,hm⟩:=(h.bit b g1 g2).1 hb
    have q:m≠n:=λq=>hx (q▸hm);exact⟨m,m1,m2,by rw[dD _ _ q,dD _ _ q];exact hm⟩
  ·rintro⟨m,m1,m2,hm⟩
   by_cases q:m=n
   ·subst q
    rw[bH,bH]at hm;exact .inl hm
   ·rw[dD _ _ q,dD _ _ q]at hm
    exact .inr ⟨(h.bit b g1 g2).2 ⟨m,m1,m2,hm⟩,λhx=>q (h.one m n b m1 m2 h1 hn hm hx)⟩
 ·intro m k b m1 m2 k1 k2 hm hk
  by_cases q:m=n
  ·by_cases r:k=n
   ·rw[q,r]
   ·subst q
    rw[bH,bH]at hm;rw[dD _ _ r,dD _ _ r]at hk;exact absurd hk (no k b k1 k2 r hm)
  ·rw[dD _ _ q,dD _ _ q]at hm
   by_cases r:k=n
   ·subst r
    rw[bH,bH]at hk;exact absurd hm (no m b m1 m2 q hk)
   ·rw[dD _ _ r,dD _ _ r]at hk
    exact h.one m k b m1 m2 k1 k2 hm hk
 ·intro m m1 m2
  by_cases q:m=n
  ·subst q;rw[bH,bH];exact f
  ·rw[dD _ _ q,dD _ _ q];exact h.once m m1 m2
theorem Zz:jL dY=B (List.replicate 32 0):=by kernel_rfl
theorem z_ext (a:Nat) (h:a<=32):zS.extract a (a+32)=jL dY:=by
 rw[Zz]
 apply iL
 unfold zS;rw[lG];simp only[iy,List.drop_replicate,List.take_replicate]
 congr 1
 omega
theorem ZA:qP.extract 32 64=jL dY:=by kernel_rfl
theorem Fk (E:Im) (hs:Small E) (n:Nat) (h2:2<=n) (hn:n<=E.i):dZ E (fmtS E.i E.bl E.j) n dY:=by
 have hi:=hs.hi;have hb:=hs.hb;have hv:=hs.vals;have k2:cB E.i E.bl E.j 2=fr E 2:=rfl;have k3:cB E.i E.bl E.j 3=fr E 3:=rfl;have k4:cB E.i E.bl E.j 4=fr E 4:=rfl;unfold dZ
 by_cases hn2:n=2
 ·subst hn2
  have ht:tq E 2=cB E.i E.bl E.j 4:=by unfold tq fr;omega
  rw[ht];have e:fmtS E.i E.bl E.j (cB E.i E.bl E.j 4)=qP:=by unfold fmtS;rw[if_pos rfl]
  rw[e];exact ZA
 ·have e:fmtS E.i E.bl E.j (tq E n)=zS:=by
   have kt:tq E n=fr E 4+(n-1)/2:=rfl;unfold fmtS;rw[if_neg (by omega),if_neg (by omega),if_neg (by omega),if_neg (by omega)]
  rw[e];exact z_ext _ (by unfold zH;omega)
theorem IK:blks dY Ma=[]/\blks eX Ma=[]:=⟨by kernel_rfl,by kernel_rfl⟩
def wR:Nat->aP:=dO (λ_=>dY) 1 eX
theorem PO (n:Nat):blks (wR n) Ma=[]:=by
 unfold wR dO
 split
 ·exact IK.2
 ·exact IK.1
theorem Md (E:Im) (hs:Small E):bP E (fmtS E.i E.bl E.j) wR (λ_=>Ma):=by
 obtain⟨_,f3,f4⟩:=PE E E.i E.bl E.j hs rfl rfl rfl
 have hcase:∀n,wR n=eX\/wR n=dY:=λn=>by
  unfold wR dO
  split
  ·exact .inl rfl
  ·exact .inr rfl
 refine⟨?_,?_,?_,?_,?_,?_,?_,?_⟩
 ·intro n h1 hn
  by_cases q:n=1
  ·subst q
   exact Fi E E.i E.bl E.j f4
  ·have e:wR n=dY:=dD _ _ q
   rw[e];exact Fk E hs n (by omega) hn
 ·intro n h1 hn
  rcases hcase n with e|e<;>rw[e]
  ·exact Zy
  ·exact .inl rfl
 ·intro n h1 hn
  rcases hcase n with e|e<;>rw[e]<;>exact⟨aB _,aB _,aB _,aB _,aB _⟩
 ·intro n h1 hn
  rcases hcase n with e|e<;>rw[e]<;>exact Pz E _
 ·intro b g1 g2
  rw[f3,Sb]
  constructor
  ·intro h
   have h:=of_decide_eq_true h;omega
  ·rintro⟨n,_,_,hb⟩
   rw[PO]at hb;cases hb
 ·rw[f3,Sb]
  rfl
 ·intro n m b _ _ _ _ hb _
  rw[PO]at hb;cases hb
 ·intro n _ _
  rw[PO];exact List.nodup_nil
section
variable {E:Im} {D:aZ}
theorem qQ (hs:Small E) (n:Nat):tq E n≠fr E 3:=by
 have hv:=hs.vals;unfold tq;omega
theorem fP (hs:Small E) {b:Nat} (h:1<=b):dq E b≠fr E 3:=by
 have hv:=hs.vals;unfold dq;omega
theorem fu (hs:Small E) {b n:Nat} (h:1<=b) (h1:1<=n) (hn:n<=E.i):dq E b≠tq E n:=by
 have hv:=hs.vals;unfold dq tq;omega
theorem fF (hs:Small E) {a b:Nat} (ha:1<=a) (hb:1<=b) (h:dq E a=dq E b):a=b:=by
 unfold dq at h;omega
theorem gL {D':aZ} {ind:Nat} {vs:List Nat} (h:dS E D ind vs) (hd:ind≠0->D' (dq E ind)=D (dq E ind)):dS E D' ind vs:=⟨h.len,h.lt,h.no,λh0=>(hd h0).trans (h.has h0)⟩
theorem ZB {i j:Nat} {vs:List Nat} (h:dS E D j vs) (e:i=j):dS E D i vs:=by rw[e];exact h
theorem bP.dI {ino:Nat->aP} {vs:Nat->List Nat} (h:bP E D ino vs) (hs:Small E) (n:Nat) (y:aP) (h1:1<=n) (hn:n<=E.i) (hsz:(D (tq E n)).size=64) (hy:y.Ok) (hr:y.row=(ino n).row):bP E (dI E D n y) (dO ino n y) (dO vs n (vs n)):=by
 have hf:lC.dI E D n y (fr E 3)=D (fr E 3):=bU (qQ hs n).symm;have hq:∀k,k≠0->lC.dI E D n y (dq E k)=D (dq E k):=λk hk=>bU (fu hs (by omega) h1 hn);obtain⟨k,l,s,d0,d1,d2,d3,i⟩:=y
 have hb:blks ⟨k,l,s,d0,d1,d2,d3,i⟩ (vs n)=blks (ino n) (vs n):=by
  have hl:=(h.ind n h1 hn).len;rw[iQ hl,iQ hl]
  generalize ino n=x at*
  obtain⟨k',l',s',e0,e1,e2,e3,i'⟩:=x;simp only[aP.row,List.cons.injEq,and_true]at hr;obtain⟨rfl,rfl,rfl,rfl,rfl⟩:=hr
  rfl
 have hrow:d0=(ino n).d0/\d1=(ino n).d1/\d2=(ino n).d2/\d3=(ino n).d3/\i=(ino n).ind:=by simpa[aP.row]using hr
 refine h.step n _ (vs n) h1 hn (lg hsz) (λm m1 m2 q=>jX hsz h1 m1 (Ne.symm q) (h.is m m1 m2)) hy ?_ ?_ ?_ ?_ ?_ ?_ ?_
 ·have g:=h.ing n h1 hn
  unfold mX at g⊢;simp only;rw[hrow.1,hrow.2.1,hrow.2.2.1,hrow.2.2.2.1,hrow.2.2.2.2];exact g
 ·exact ZB (gL (h.ind n h1 hn) (λk0=>hq _ k0)) hrow.2.2.2.2
 ·intro m m1 m2 q
  exact gL (h.ind m m1 m2) (λk0=>hq _ k0)
 ·intro b g1 g2
  rw[hf,hb]
  constructor
  ·intro hbit
   by_cases hx:b∈blks (ino n) (vs n)
   ·exact .inl hx
   ·exact .inr ⟨hbit,hx⟩
  ·rintro(hx|⟨hx,_⟩)
   ·exact(h.bit b g1 g2).2 ⟨n,h1,hn,hx⟩
   ·exact hx
 ·rw[hf]
  exact h.zero
 ·intro b hx
  rw[hb]at hx;exact .inl hx
 ·rw[hb]
  exact h.once n h1 hn
end
section
variable {E:Im} {D:aZ} {ino:Nat->aP} {vs:Nat->List Nat}
theorem bP.PX (h:bP E D ino vs) (n b:Nat) (h1:1<=n) (hn:n<=E.i) (hb:b≠0) (hm:b∈iI (ino n)\/b∈vs n):∀m,1<=m->m<=E.i->(ino m).ind≠b:=by
 intro m m1 m2 e;have hl:=(h.ind n h1 hn).len;have b1:b∈blks (ino n) (vs n):=(eY hl b).2 ⟨hb,hm.elim .inl (λq=>.inr (.inl q))⟩;have b2:b∈blks (ino m) (vs m):=(eY (h.ind m m1 m2).len b).2 ⟨hb,.inr (.inr e.symm)⟩;obtain rfl:=h.one n m b h1 hn m1 m2 b1 b2;have hd:=h.once n h1 hn;rw[iQ hl]at hd;have h0:(ino n).ind≠0:=by rw[e];exact hb
 rw[if_neg h0,List.nodup_append]at hd;refine hd.2.2 b ?_ (ino n).ind (List.mem_singleton.2 rfl) e.symm;rw[List.mem_append,List.mem_filter,List.mem_filter]
 rcases hm with q|q
 ·exact .inl ⟨q,by simpa using hb⟩
 ·exact .inr ⟨q,by simpa using hb⟩
theorem bP.data (h:bP E D ino vs) (hs:Small E) (b:Nat) (s:ByteArray) (h1:1<=b) (hb:∀m,1<=m->m<=E.i->(ino m).ind≠b):bP E (upd D (dq E b) s) ino vs:=by
 have hf:upd D (dq E b) s (fr E 3)=D (fr E 3):=upd_ne _ _ (fP hs h1).symm;refine⟨λn n1 n2=>(h.is n n1 n2).upd (fu hs h1 n1 n2).symm,h.ok,h.ing,λn n1 n2=>gL (h.ind n n1 n2) (λk=>upd_ne _ _ (λe=>hb n n1 n2 (fF hs (by omega) h1 e))),?_,?_,h.one,h.once⟩
 ·rw[hf]
  exact h.bit
 ·rw[hf]
  exact h.zero
end
def nz (v:Nat):Bool:=decide (v≠0)
theorem set_perm:∀(l:List Nat) (p b:Nat),l[p]? =some 0->b≠0->((l.set p b).filter nz).Perm (b::l.filter nz)
 |[],p,b,h,hb=>by simp at h
 |v::r,0,b,h,hb=>by
  have h:v=0:=by simpa using h
  subst h;have e:nz b=true:=by simpa[nz]using hb
  have e0:nz 0=false:=rfl;rw[List.set_cons_zero,List.filter_cons,if_pos e,List.filter_cons,e0];exact List.Perm.refl _
 |v::r,p+1,b,h,hb=>by
  have ih:=set_perm r p b (by simpa using h) hb;rw[List.set_cons_succ,List.filter_cons,List.filter_cons]
  by_cases e:nz v=true
  ·rw[if_pos e,if_pos e]
   exact(ih.cons v).trans (List.Perm.swap b v _)
  ·rw[if_neg e,if_neg e]
   exact ih
theorem Fm {x:aP} {vs:List Nat} {p b:Nat} (hl:vs.length=32) (hp:p<4) (hz:aT x vs p=0) (hb:b≠0):(blks (gy x p b) vs).Perm (b::blks x vs):=by
 have h0:(iI x)[p]? =some 0:=by
  unfold aT nE at hz
  match p,hp with
  |0,_|1,_|2,_|3,_=>simpa[iI]using hz
 have h1:iI (gy x p b)=(iI x).set p b:=by
  match p,hp with
  |0,_|1,_|2,_|3,_=>rfl
 have h2:(gy x p b).ind=x.ind:=by
  match p,hp with
  |0,_|1,_|2,_|3,_=>rfl
 rw[iQ hl,iQ hl,h1,h2,List.append_assoc,List.append_assoc];exact(set_perm (iI x) p b h0 hb).append_right _
theorem Sc {x:aP} {vs:List Nat} {k b:Nat} (hl:vs.length=32) (hz:vs[k]? =some 0) (hb:b≠0):(blks x (vs.set k b)).Perm (b::blks x vs):=by
 rw[iQ (by rw[List.length_set];exact hl),iQ hl];refine List.Perm.trans ?_ (List.Perm.refl (b::((iI x).filter nz++vs.filter nz++if x.ind=0 then[]else[x.ind])));have h1:=(set_perm vs k b hz hb).append_left ((iI x).filter nz);have h2:=h1.append_right (if x.ind=0 then[]else[x.ind]);refine h2.trans ?_;rw[<-List.cons_append];exact List.Perm.append_right _ List.perm_middle
theorem ZC {x:aP} {vs:List Nat} {b:Nat} (hl:vs.length=32) (h0:x.ind=0) (hb:b≠0):(blks {x with ind:=b} vs).Perm (b::blks x vs):=by
 rw[iQ hl,iQ hl,if_pos h0,if_neg hb,List.append_nil];exact List.perm_append_comm
section
variable {E:Im} {D D':aZ} {ino:Nat->aP} {vs:Nat->List Nat}
theorem bP.take (h:bP E D ino vs) (n b:Nat) (y:aP) (us:List Nat) (h1:1<=n) (hn:n<=E.i) (hb1:1<=b) (hb2:b<=E.bl) (hp:(blks y us).Perm (b::blks (ino n) (vs n))) (hbit:dn (D (fr E 3)) b=false) (hsz:(D (fr E 3)).size=64) (h3:D' (fr E 3)=gV (D (fr E 3)) b true) (hbl:E.bl<=60)
 (a1:dZ E D' n y) (a2:∀m,1<=m->m<=E.i->m≠n->dZ E D' m (ino m)) (b1:y.Ok) (b2:mX E.bl y) (b3:dS E D' y.ind us) (b4:∀m,1<=m->m<=E.i->m≠n->dS E D' (ino m).ind (vs m)):bP E D' (dO ino n y) (dO vs n us):=by
 have hset:∀k,dn (D' (fr E 3)) k=if k=b then true else dn (D (fr E 3)) k:=λk=>by rw[h3];exact fE _ b k true (by omega)
 have hnot:b∉blks (ino n) (vs n):=λhx=>by
  have:=(h.bit b hb1 hb2).2 ⟨n,h1,hn,hx⟩;rw[hbit]at this;cases this
 refine h.step n y us h1 hn a1 a2 b1 b2 b3 b4 ?_ ?_ ?_ ?_
 ·intro k k1 k2
  rw[hset,hp.mem_iff,List.mem_cons]
  by_cases e:k=b
  ·simp[e]
  ·rw[if_neg e]
   constructor
   ·intro hk
    by_cases hx:k∈blks (ino n) (vs n)
    ·exact .inl (.inr hx)
    ·exact .inr ⟨hk,hx⟩
   ·rintro((q|q)|q)
    ·exact absurd q e
    ·exact(h.bit k k1 k2).2 ⟨n,h1,hn,q⟩
    ·exact q.1
 ·rw[hset,if_neg (by omega)]
  exact h.zero
 ·intro k hk
  rw[hp.mem_iff,List.mem_cons]at hk
  rcases hk with rfl|hk
  ·exact .inr ⟨hb1,hb2,hbit⟩
  ·exact .inl hk
 ·rw[hp.nodup_iff,List.nodup_cons]
  exact⟨hnot,h.once n h1 hn⟩
end
theorem jk {x:aP} {vs:List Nat} {p:Nat} (h:aT x vs p≠0):aT x vs p∈iI x\/aT x vs p∈vs:=by
 unfold aT at*
 have hm:(nE x vs).getD p 0∈nE x vs:=by
  rw[List.getD_eq_getElem?_getD]at*;cases e:(nE x vs)[p]?with
  |none=>rw[e]at h;exact absurd rfl h
  |some v=>exact List.mem_of_getElem? e
 have e:nE x vs=iI x++vs:=rfl;rw[e,List.mem_append]at hm;rw[e];exact hm
theorem PZ {x:aP} {p b bl:Nat} (hp:p<4) (g:mX bl x) (hb:b<=bl):mX bl (gy x p b):=by
 unfold mX at g⊢
 match p,hp with
 |0,_=>exact⟨hb,g.2⟩
 |1,_=>exact⟨g.1,hb,g.2.2⟩
 |2,_=>exact⟨g.1,g.2.1,hb,g.2.2.2⟩
 |3,_=>exact⟨g.1,g.2.1,g.2.2.1,hb,g.2.2.2.2⟩
theorem Qa {x:aP} {p b:Nat} (hp:p<4):(gy x p b).ind=x.ind:=by
 match p,hp with
 |0,_|1,_|2,_|3,_=>rfl
section
variable {E:Im} {D:aZ} {ino:Nat->aP} {vs:Nat->List Nat}
theorem oo (hs:Small E) {b:Nat} (h:1<=b):fM E D b (fr E 3)=gV (D (fr E 3)) b true:=by
 unfold fM;rw[upd_ne _ _ (fP hs h).symm];exact if_pos rfl
theorem eT (hs:Small E) {b q:Nat} (h3:q≠fr E 3) (h:q≠dq E b):fM E D b q=D q:=by
 unfold fM;rw[upd_ne _ _ h,upd_ne _ _ h3]
theorem bP.have_ (h:bP E D ino vs) (hs:Small E) (n p:Nat) (s:ByteArray) (h1:1<=n) (hn:n<=E.i) (hsz:(D (tq E n)).size=64) (hb:aT (ino n) (vs n) p≠0):
 bP E (upd (lC.dI E D n (ino n)) (dq E (aT (ino n) (vs n) p)) s) (dO ino n (ino n)) (dO vs n (vs n)):=by
 have g:=h.dI hs n (ino n) h1 hn hsz (h.ok n h1 hn) rfl;refine g.data hs _ s (by omega) ?_;have k:=g.PX n (aT (ino n) (vs n) p) h1 hn hb;rw[bH,bH]at k;exact k (jk hb)
theorem bP.lo (h:bP E D ino vs) (hs:Small E) (n p b:Nat) (s:ByteArray) (h1:1<=n) (hn:n<=E.i) (hsz:(D (tq E n)).size=64) (hs3:(D (fr E 3)).size=64) (hp:p<4) (hz:aT (ino n) (vs n) p=0) (hb1:1<=b) (hb2:b<=E.bl) (hbit:dn (D (fr E 3)) b=false) (hy:(gy (ino n) p b).Ok):
 bP E (upd (lC.dI E (fM E D b) n (gy (ino n) p b)) (dq E b) s) (dO ino n (gy (ino n) p b)) (dO vs n (vs n)):=by
 have hl:=(h.ind n h1 hn).len;have hnt:∀m,1<=m->m<=E.i->fM E D b (tq E m)=D (tq E m):=λm m1 m2=>eT hs (qQ hs m) (fu hs hb1 m1 m2).symm
 have hfree:∀m,1<=m->m<=E.i->(ino m).ind≠b:=λm m1 m2 e=>by
  have:=(h.bit b hb1 hb2).2 ⟨m,m1,m2,(eY (h.ind m m1 m2).len b).2 ⟨by omega,.inr (.inr e.symm)⟩⟩;rw[hbit]at this;cases this
 have hid:∀m,1<=m->m<=E.i->(ino m).ind≠0->upd (lC.dI E (fM E D b) n (gy (ino n) p b)) (dq E b) s (dq E (ino m).ind)=D (dq E (ino m).ind):=λm m1 m2 k=>by
  have hk:1<=(ino m).ind:=by omega
  have hne:dq E (ino m).ind≠dq E b:=λe=>hfree m m1 m2 (fF hs hk hb1 e);rw[upd_ne _ _ hne,bU (fu hs hk h1 hn),eT hs (fP hs hk) hne]
 have hnt':∀m,1<=m->m<=E.i->((fM E D b) (tq E m))=D (tq E m):=hnt;have hi:=Qa (x:=ino n) (b:=b) hp;refine h.take n b _ (vs n) h1 hn hb1 hb2 (Fm hl hp hz (by omega)) hbit hs3 ?_ hs.hb ?_ ?_ hy ?_ ?_ ?_
 ·rw[upd_ne _ _ (fP hs hb1).symm,bU (qQ hs n).symm,oo hs hb1]
 ·exact(lg (by rw[hnt n h1 hn];exact hsz)).upd (fu hs hb1 h1 hn).symm
 ·intro m m1 m2 q
  refine(jX (by rw[hnt n h1 hn];exact hsz) h1 m1 (Ne.symm q) ?_).upd (fu hs hb1 m1 m2).symm;have g:=h.is m m1 m2;unfold dZ at g⊢;rw[hnt m m1 m2];exact g
 ·exact PZ hp (h.ing n h1 hn) hb2
 ·exact ZB (gL (h.ind n h1 hn) (λk=>hid n h1 hn k)) hi
 ·exact λm m1 m2 q=>gL (h.ind m m1 m2) (λk=>hid m m1 m2 k)
end
theorem Ct (m:Int) (on:Bool) (k:Nat):∀l,gJ m on l=(k,true)->(k,on)∈l/\(k:Int)<m
 |[],h=>by simp[gJ]at h
 |x::l,h=>by
  rw[gJ]at h
  by_cases h1:m<=x.1
  ·rw[if_pos h1]at h
   simp at h
  ·rw[if_neg h1]at h
   by_cases h2:x.2=on
   ·rw[if_pos h2]at h
    have e:x.1=k:=(Prod.mk.inj h).1;refine⟨?_,by omega⟩;rw[<-e,<-h2];exact List.mem_cons_self ..
   ·rw[if_neg h2]at h
    obtain⟨a,b⟩:=Ct m on k l h;exact⟨List.mem_cons_of_mem _ a,b⟩
theorem Cu {s:ByteArray} {m k:Nat} (h:eO s (m:Int) false=(k,true)):k<m/\dn s k=false:=by
 obtain⟨a,b⟩:=Ct (m:Int) false k _ h;refine⟨by omega,?_⟩;unfold upto at a;rw[List.mem_map]at a;obtain⟨j,_,e⟩:=a;have e1:j=k:=(Prod.mk.inj e).1;have e2:dn s j=false:=(Prod.mk.inj e).2;rw[<-e1];exact e2
section
variable {E:Im} {D D':aZ} {ino:Nat->aP} {vs:Nat->List Nat}
theorem bP.takes (h:bP E D ino vs) (n:Nat) (l:List Nat) (y:aP) (us:List Nat) (h1:1<=n) (hn:n<=E.i) (hl:∀b∈l,1<=b/\b<=E.bl/\dn (D (fr E 3)) b=false) (hnd:l.Nodup) (hp:(blks y us).Perm (l++blks (ino n) (vs n))) (hset:∀k,dn (D' (fr E 3)) k=if k∈l then true else dn (D (fr E 3)) k)
 (a1:dZ E D' n y) (a2:∀m,1<=m->m<=E.i->m≠n->dZ E D' m (ino m)) (b1:y.Ok) (b2:mX E.bl y) (b3:dS E D' y.ind us) (b4:∀m,1<=m->m<=E.i->m≠n->dS E D' (ino m).ind (vs m)):bP E D' (dO ino n y) (dO vs n us):=by
 have hnot:∀b∈l,b∉blks (ino n) (vs n):=λb hb hx=>by
  have g:=hl b hb;have:=(h.bit b g.1 g.2.1).2 ⟨n,h1,hn,hx⟩;rw[g.2.2]at this;cases this
 refine h.step n y us h1 hn a1 a2 b1 b2 b3 b4 ?_ ?_ ?_ ?_
 ·intro k k1 k2
  rw[hset,hp.mem_iff,List.mem_append]
  by_cases e:k∈l
  ·simp[e]
  ·rw[if_neg e]
   constructor
   ·intro hk
    by_cases hx:k∈blks (ino n) (vs n)
    ·exact .inl (.inr hx)
    ·exact .inr ⟨hk,hx⟩
   ·rintro((q|q)|q)
    ·exact absurd q e
    ·exact(h.bit k k1 k2).2 ⟨n,h1,hn,q⟩
    ·exact q.1
 ·rw[hset,if_neg (λq=>by have:=(hl 0 q).1;omega)]
  exact h.zero
 ·intro k hk
  rw[hp.mem_iff,List.mem_append]at hk
  rcases hk with q|hk
  ·exact .inr (hl k q)
  ·exact .inl hk
 ·rw[hp.nodup_iff,List.nodup_append]
  exact⟨hnd,h.once n h1 hn,λa ha b hb e=>hnot a ha (e▸hb)⟩
theorem bP.free (h:bP E D ino vs) (b:Nat) (hb1:1<=b) (hb2:b<=E.bl) (hbit:dn (D (fr E 3)) b=false):∀m,1<=m->m<=E.i->b∉blks (ino m) (vs m):=λm m1 m2 hm=>by
 have:=(h.bit b hb1 hb2).2 ⟨m,m1,m2,hm⟩;rw[hbit]at this;cases this
theorem bP.Ab (h:bP E D ino vs) (b:Nat) (hb1:1<=b) (hb2:b<=E.bl) (hbit:dn (D (fr E 3)) b=false):∀m,1<=m->m<=E.i->(ino m).ind≠b:=λm m1 m2 e=>
 h.free b hb1 hb2 hbit m m1 m2 ((eY (h.ind m m1 m2).len b).2 ⟨by omega,.inr (.inr e.symm)⟩)
theorem bP.inds (h:bP E D ino vs) (n m:Nat) (h1:1<=n) (hn:n<=E.i) (m1:1<=m) (m2:m<=E.i) (hi:(ino n).ind≠0) (e:(ino m).ind=(ino n).ind):m=n:=
 h.one m n (ino n).ind m1 m2 h1 hn ((eY (h.ind m m1 m2).len _).2 ⟨hi,.inr (.inr e.symm)⟩) ((eY (h.ind n h1 hn).len _).2 ⟨hi,.inr (.inr rfl)⟩)
theorem bP.hi (h:bP E D ino vs) (hs:Small E) (n p b:Nat) (s:ByteArray) (D4:aZ) (hD:upd (fM E D b) (dq E (ino n).ind) (dQ ((vs n).set (p-4) b))=D4) (h1:1<=n) (hn:n<=E.i) (hsz:(D (tq E n)).size=64) (hs3:(D (fr E 3)).size=64) (h4:4<=p) (hp:p<36) (hi:(ino n).ind≠0) (hz:aT (ino n) (vs n) p=0) (hb1:1<=b) (hb2:b<=E.bl) (hbit:dn (D (fr E 3)) b=false):
 bP E (upd (lC.dI E D4 n (ino n)) (dq E b) s) (dO ino n (ino n)) (dO vs n ((vs n).set (p-4) b)):=by
 have hl:=(h.ind n h1 hn).len;have hfree:=h.Ab b hb1 hb2 hbit;have hi1:1<=(ino n).ind:=by omega
 have VV:∀m,1<=m->m<=E.i->D4 (tq E m)=D (tq E m):=λm m1 m2=>by
  rw[<-hD,upd_ne _ _ (fu hs hi1 m1 m2).symm,eT hs (qQ hs m) (fu hs hb1 m1 m2).symm]
 have h34:D4 (fr E 3)=gV (D (fr E 3)) b true:=by
  rw[<-hD,upd_ne _ _ (fP hs hi1).symm,oo hs hb1]
 have hd4:∀m,1<=m->m<=E.i->m≠n->(ino m).ind≠0->D4 (dq E (ino m).ind)=D (dq E (ino m).ind):=λm m1 m2 q k=>by
  have k1:1<=(ino m).ind:=by omega
  have e1:dq E (ino m).ind≠dq E (ino n).ind:=λe=>q (h.inds n m h1 hn m1 m2 hi (fF hs k1 hi1 e));have e2:dq E (ino m).ind≠dq E b:=λe=>hfree m m1 m2 (fF hs k1 hb1 e);rw[<-hD,upd_ne _ _ e1,eT hs (fP hs k1) e2]
 have hdn:D4 (dq E (ino n).ind)=dQ ((vs n).set (p-4) b):=by rw[<-hD,upd_same]
 clear hD;obtain⟨hq,hv⟩:=rY (x:=ino n) (vs:=vs n) h4 hl hp;have hz':(vs n)[p-4]? =some 0:=by rw[List.getElem?_eq_getElem hq,<-hv,hz]
 refine h.take n b (ino n) _ h1 hn hb1 hb2 (Sc hl hz' (by omega)) hbit hs3 ?_ hs.hb ?_ ?_ (h.ok n h1 hn) (h.ing n h1 hn) ?_ ?_
 ·rw[upd_ne _ _ (fP hs hb1).symm,bU (qQ hs n).symm,h34]
 ·exact(lg (by rw[VV n h1 hn];exact hsz)).upd (fu hs hb1 h1 hn).symm
 ·intro m m1 m2 q
  refine(jX (by rw[VV n h1 hn];exact hsz) h1 m1 (Ne.symm q) ?_).upd (fu hs hb1 m1 m2).symm;have g:=h.is m m1 m2;unfold dZ at g⊢;rw[VV m m1 m2];exact g
 ·have g:=h.ind n h1 hn
  refine⟨by rw[List.length_set];exact hl,λv hv=>?_,λk=>absurd k hi,λ_=>?_⟩
  ·rcases List.mem_or_eq_of_mem_set hv with q|q
   ·exact g.lt v q
   ·rw[q];exact hb2
  ·have e2:dq E (ino n).ind≠dq E b:=λe=>hfree n h1 hn (fF hs hi1 hb1 e)
   rw[upd_ne _ _ e2,bU (fu hs hi1 h1 hn),hdn,uU (by rw[List.length_set];exact hl)]
 ·intro m m1 m2 q
  refine gL (h.ind m m1 m2) (λk=>?_);have k1:1<=(ino m).ind:=by omega
  have e2:dq E (ino m).ind≠dq E b:=λe=>hfree m m1 m2 (fF hs k1 hb1 e);rw[upd_ne _ _ e2,bU (fu hs k1 h1 hn),hd4 m m1 m2 q k]
theorem bP.new (h:bP E D ino vs) (hs:Small E) (n p d b:Nat) (s:ByteArray) (D2 D4:aZ) (hD2:upd (fM E D d) (dq E d) (dQ [])=D2) (hD:upd (fM E D2 b) (dq E d) (dQ ((List.replicate 32 0).set (p-4) b))=D4) (h1:1<=n) (hn:n<=E.i) (hsz:(D (tq E n)).size=64) (hs3:(D (fr E 3)).size=64) (h4:4<=p) (hp:p<36) (hi:(ino n).ind=0) (hd1:1<=d) (hd2:d<=E.bl) (hdb:dn (D (fr E 3)) d=false) (hb1:1<=b) (hb2:b<=E.bl) (hbit:dn (D2 (fr E 3)) b=false) (hy:({ino n with ind:=d}:aP).Ok):
 bP E (upd (lC.dI E D4 n {ino n with ind:=d}) (dq E b) s) (dO ino n {ino n with ind:=d}) (dO vs n ((List.replicate 32 0).set (p-4) b)):=by
 have hl:=(h.ind n h1 hn).len;have hbl:=hs.hb;have hvz:vs n=List.replicate 32 0:=(h.ind n h1 hn).no hi;have h32:D2 (fr E 3)=gV (D (fr E 3)) d true:=by rw[<-hD2,upd_ne _ _ (fP hs hd1).symm,oo hs hd1]
 have Wa:∀k,dn (D2 (fr E 3)) k=if k=d then true else dn (D (fr E 3)) k:=λk=>by rw[h32];exact fE _ _ _ _ (by omega)
 have hbd:b≠d:=λe=>by
  rw[Wa,if_pos e]at hbit;cases hbit
 rw[Wa,if_neg hbd]at hbit;have mT:=h.Ab b hb1 hb2 hbit;have hfd:=h.Ab d hd1 hd2 hdb;have e2:dq E d≠dq E b:=λe=>hbd (fF hs hd1 hb1 e).symm
 have VV:∀m,1<=m->m<=E.i->D4 (tq E m)=D (tq E m):=λm m1 m2=>by
  rw[<-hD,upd_ne _ _ (fu hs hd1 m1 m2).symm,eT hs (qQ hs m) (fu hs hb1 m1 m2).symm,<-hD2,upd_ne _ _ (fu hs hd1 m1 m2).symm,eT hs (qQ hs m) (fu hs hd1 m1 m2).symm]
 have h34:D4 (fr E 3)=gV (D2 (fr E 3)) b true:=by
  rw[<-hD,upd_ne _ _ (fP hs hd1).symm,oo hs hb1]
 have hd4:∀m,1<=m->m<=E.i->(ino m).ind≠0->D4 (dq E (ino m).ind)=D (dq E (ino m).ind):=λm m1 m2 k=>by
  have k1:1<=(ino m).ind:=by omega
  have e1:dq E (ino m).ind≠dq E d:=λe=>hfd m m1 m2 (fF hs k1 hd1 e);have e3:dq E (ino m).ind≠dq E b:=λe=>mT m m1 m2 (fF hs k1 hb1 e);rw[<-hD,upd_ne _ _ e1,eT hs (fP hs k1) e3,<-hD2,upd_ne _ _ e1,eT hs (fP hs k1) e1]
 have hdn:D4 (dq E d)=dQ ((List.replicate 32 0).set (p-4) b):=by rw[<-hD,upd_same]
 have hk3:∀k,dn (D4 (fr E 3)) k=if k∈[b,d]then true else dn (D (fr E 3)) k:=λk=>by
  rw[h34,fE _ _ _ _ (by rw[h32,jG];omega),Wa];simp only[List.mem_cons,List.not_mem_nil,or_false]
  by_cases q:k=b
  ·rw[if_pos q,if_pos (.inl q)]
  ·by_cases r:k=d
   ·rw[if_neg q,if_pos r,if_pos (.inr r)]
   ·rw[if_neg q,if_neg r,if_neg (λt=>t.elim q r)]
 clear hD hD2;have hz':(List.replicate 32 0)[p-4]? =some 0:=by rw[List.getElem?_replicate,if_pos (by omega)]
 refine h.takes n [b,d] _ _ h1 hn ?_ (by simp[hbd]) ?_ ?_ ?_ ?_ hy ?_ ?_ ?_
 ·intro k hk
  simp only[List.mem_cons,List.not_mem_nil,or_false]at hk
  rcases hk with rfl|rfl
  ·exact⟨hb1,hb2,hbit⟩
  ·exact⟨hd1,hd2,hdb⟩
 ·refine(Sc (List.length_replicate ..) hz' (by omega)).trans ?_
  rw[hvz];exact(ZC (List.length_replicate ..) hi (by omega)).cons b
 ·intro k
  rw[upd_ne _ _ (fP hs hb1).symm,bU (qQ hs n).symm];exact hk3 k
 ·exact(lg (by rw[VV n h1 hn];exact hsz)).upd (fu hs hb1 h1 hn).symm
 ·intro m m1 m2 q
  refine(jX (by rw[VV n h1 hn];exact hsz) h1 m1 (Ne.symm q) ?_).upd (fu hs hb1 m1 m2).symm;have g:=h.is m m1 m2;unfold dZ at g⊢;rw[VV m m1 m2];exact g
 ·have g:=h.ing n h1 hn
  unfold mX at g⊢;exact⟨g.1,g.2.1,g.2.2.1,g.2.2.2.1,hd2⟩
 ·refine⟨by rw[List.length_set,List.length_replicate],λv hv=>?_,λk=>absurd k (show d≠0 by omega),λ_=>?_⟩
  ·rcases List.mem_or_eq_of_mem_set hv with q|q
   ·rw[List.eq_of_mem_replicate q];omega
   ·rw[q];exact hb2
  ·show(upd (lC.dI E D4 n _) (dq E b) s) (dq E d)=_
   rw[upd_ne _ _ e2,bU (fu hs hd1 h1 hn),hdn,uU (by rw[List.length_set,List.length_replicate])]
 ·intro m m1 m2 q
  refine gL (h.ind m m1 m2) (λk=>?_);have k1:1<=(ino m).ind:=by omega
  have e3:dq E (ino m).ind≠dq E b:=λe=>mT m m1 m2 (fF hs k1 hb1 e);rw[upd_ne _ _ e3,bU (fu hs k1 h1 hn),hd4 m m1 m2 k]
end
theorem Vv {n p b:Nat} {l:List Nat} (h:Qt n l) (hp:p<n) (hb:b∉l):Qt n (l.set p b):=by
 intro k v hk hv;rw[List.getElem?_set]at hk
 by_cases e:p=k
 ·subst e
  rw[if_pos rfl]at hk
  split at hk
  ·have hk:b=v:=by simpa using hk
   subst hk;refine⟨hp,λj hj=>?_⟩;rw[List.getElem?_set,if_neg (by omega)];exact λq=>hb (List.mem_of_getElem? q)
  ·cases hk
 ·rw[if_neg e]at hk
  have g:=h k v hk hv;refine⟨g.1,λj hj=>?_⟩;rw[List.getElem?_set]
  by_cases q:p=j
  ·rw[if_pos q]
   split
   ·exact λr=>hb (by have r:b=v:=(by simpa using r);rw[r];exact List.mem_of_getElem? hk)
   ·exact λr=>by cases r
  ·rw[if_neg q]
   exact g.2 j hj
