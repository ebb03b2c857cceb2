/- Lemmas. -/
import Derived.Test.YtpendnmmgjlmfaaGreatDoorM13
import Derived.Lib.BufferWrite
import Derived.Outline
set_option linter.unusedVariables false
set_option linter.unusedSimpArgs false
namespace Go.Proofs.YtpendnmmgjlmfaaGreatDoor
open Go.Proofs.Tryz
open IntKind renaming i64→J,u32→F,u8→aF
open Value renaming pointer→G,int->ι,string->σ,bool->ν,tuple->τ,agg->γ
open Ending renaming returned→aG
open Obj renaming cells→aH
set_option maxRecDepth 100000
set_option maxHeartbeats 1000000
namespace mU
open Go.RowKit Go.Shelf Oct Dev
theorem keep2 {wr W W':World} {j:Nat} {v0 v1:Option Value} (hb:j<wr.heap.size) (h:Below wr.heap.size wr W/\W.cell? j=v0/\W.cell? ⟨j,1,none⟩=v1) (b9:Below W.heap.size W W'):Below wr.heap.size wr W'/\W'.cell? j=v0/\W'.cell? ⟨j,1,none⟩=v1:=by
 have hs:=h.1.size;exact⟨h.1.trans (b9.mono hs),(b9.cell (p:=⟨j,0,none⟩) (aA hb hs)).trans h.2.1,(b9.cell (p:=⟨j,1,none⟩) (aA hb hs)).trans h.2.2⟩
theorem Hf (j:Nat) (b:dN) (hard:List ByteArray) (k fr n gen:Nat) (w:World) (hJ:eF w j b fr n gen) (hD:bY w b hard (λ_=>none) k) (hfr:fr<hard.length) (hz:hard[fr]=zS):
 Calls prog 69 #[j] w λe w'=>e=aG (ι J 0)/\eF w' j b fr n 0/\aR (λc=>c=j) w w':=by
 have RD:=U (λW (h:Below w.heap.size w W)=>Ey fr W (hD.later h) hfr rfl);rw[hz]at RD;have RZ:=U (λW=>Uk W);have HJ:=U hJ;have hX:=hJ;unfold eF at hX;have X:=hX.cell;have Xl:=hX.lt;clear hX hD hJ
 generalize zS=zs at*
 go_enter func69,ntmps69
 go_wp2_with fail
 go_region_held3 (λW=>Below w.heap.size w W/\W.cell? j=some b.p/\W.cell? ⟨j,1,none⟩=some (ι J fr))
  (first|exact keep2 Xl (by assumption) b9|exact⟨(aj _ _).drew,(X 0),(X 1)⟩|exact⟨aj _ _,(X 0),(X 1)⟩)
  (first|(go_at_call 130;refine(RD.o _ (And.left (by assumption))).mono ?_;rintro e w9 ⟨rfl,b9⟩))
 rename_i hS
 have b1:=hS.1;clear hS;go_wp2_with fail;refine(RZ.o _).mono ?_;rintro e w2 ⟨rfl,b2⟩;have hB2:=b1.trans (b2.mono b1.size);have hJ2:eF w2 j b fr n gen:=aN.below HJ.o Xl hB2;have hX2:=hJ2;unfold eF at hX2;have Y:=hX2.cell;have Yl:=hX2.lt;have F0:=hX2.free 0;have F1:=hX2.free 1;have F2:=hX2.free 2;have F3:=hX2.free 3;have F4:=hX2.free 4;have HJ2:=U hJ2;have HB2:=U hB2;clear hX2 hJ2 hB2 b1 b2
 go_wp2
 go_ret;refine⟨rfl,?_,(aR.of_below HB2.o).trans (aR.set _ rfl)⟩;have h:=HJ2.o;unfold eF at h⊢;exact aN.set h 3 _
theorem Ur (b:dN) (hard:List ByteArray) (k fr n:Nat) (w:World) (hD:bY w b hard (λ_=>none) k) (h4:4<=n) (hn:n<=256) (hfr:fr+n<=hard.length) (hz:hard[fr]? =some zS):
 Calls prog 31 #[b.p,ι J fr,ι J n] w λe w'=>∃j:Nat,e=aG (τ #[G (some ⟨j,0,none⟩),ι J 0])/\w.heap.size<=j/\eF w' j b fr n 0/\Below w.heap.size w w':=by
 have hlt:fr<hard.length:=by omega
 have hz2:hard[fr]=zS:=by
  rw[List.getElem?_eq_getElem hlt]at hz;exact Option.some.inj hz
 have hl:=hD.len;have LN:=U (qx w hD);have HB:=(aj _ w).alloc (ah _) (aH #[b.p,ι J fr,ι J n,ι .u64 0,ι J 0] 167);have RC:=U (Hf w.heap.size b hard k fr n 0 _ (aN.new w 167 #[b.p,ι J fr,ι J n,ι .u64 0,ι J 0]) (hD.later HB) hlt hz2);have HB:=U HB;have q1:¬(n:Int)<4:=by omega
 have q2:¬(256:Int)<n:=by omega
 have q3:¬(fr:Int)<0:=by omega
 have q4:¬(hard.length:Int)-n<fr:=by omega
 have q5:¬256<n:=by omega
 clear hD hz hz2
 go_enter func31,ntmps31
 go_wp2_with fail;refine(LN.o).mono ?_;rintro e w9 ⟨rfl,rfl⟩;go_wp2_with fail;refine RC.o.mono ?_;rintro e w1 ⟨rfl,J1,T1⟩;have J1:=U J1;have B1:=U (T1.below (n:=w.heap.size) (λc hc=>by omega) HB.o (by simp));clear T1
 go_wp2
 go_ret2;exact⟨w.heap.size,rfl,ah _,J1.o,B1.o⟩
end mU
namespace Oct
open Go.RowKit
def kW (s:ByteArray) (n:Nat):ByteArray:=B (L s++List.replicate (n-s.size) 0)
theorem kU:∀c:Nat,Lib.repeatL [0] c=List.replicate c (0:UInt8)
 |0=>rfl
 |c+1=>by rw[Lib.repeatL,kU c];rfl
theorem XT (s:ByteArray) (n:Nat):s++⟨(List.replicate (n-s.size) (0:UInt8)).toArray⟩=kW s n:=by
 rw[dA];rfl
theorem XU (s:ByteArray) (n:Nat) (w:World) (hn:n<=65536) (h:s.size<=n):
 Calls prog 226 #[σ s,ι J n] w λe w'=>e=aG (τ #[σ (kW s n),ι J 0])/\Below w.heap.size w w':=by
 have t1:decide ((n:Int)<0)=false:=by simp
 have t2:decide (65536<(n:Int))=false:=by simp;omega
 go_enter func226,ntmps226
 go_wp2_with fail;have e:((n:Int)-(s.size:Int))=((n-s.size:Nat):Int):=by omega
 rw[e]
 have hr:=strings_Repeat ⟨#[0]⟩ (n-s.size) w (by omega) (by
  have:(⟨#[0]⟩:ByteArray).size=1:=rfl;rw[this];omega)
 have e2:Lib.repeatL (⟨#[0]⟩:ByteArray).data.toList (n-s.size)=List.replicate (n-s.size) 0:=kU _;rw[e2]at hr;refine hr.mono ?_;rintro e w1 ⟨rfl,b1⟩;have EJ:=U (XT s n)
 have z:(⟨(List.replicate (n-s.size) (0:UInt8)).toArray⟩:ByteArray).size<=65536:=by
  have:=aV (List.replicate (n-s.size) (0:UInt8));unfold B at this;rw[this,List.length_replicate];omega
 generalize (⟨(List.replicate (n-s.size) (0:UInt8)).toArray⟩:ByteArray)=r at*
 have ER:=U e;clear e
 go_wp2
 go_ret2;refine⟨?_,b1⟩;rw[<-EJ.o]
 rfl
end Oct
namespace Dir
open Go.RowKit Oct Path
def zero32:Array Value:=#[ι aF 0,ι aF 0,ι aF 0,ι aF 0,ι aF 0,ι aF 0,ι aF 0,ι aF 0,ι aF 0,ι aF 0,ι aF 0,ι aF 0,ι aF 0,ι aF 0,ι aF 0,ι aF 0,ι aF 0,ι aF 0,ι aF 0,ι aF 0,ι aF 0,ι aF 0,ι aF 0,ι aF 0,ι aF 0,ι aF 0,ι aF 0,ι aF 0,ι aF 0,ι aF 0,ι aF 0,ι aF 0]
theorem pq (w:World):Calls prog 279 #[] w λe w'=>e=aG (σ (B gZ))/\Below w.heap.size w w':=by
 go_enter func279,ntmps279
 go_wp2_with fail
 have hr:=strings_Repeat ⟨#[0]⟩ 32 w (by omega) (by
  have:(⟨#[0]⟩:ByteArray).size=1:=rfl;rw[this];omega)
 have e2:Lib.repeatL (⟨#[0]⟩:ByteArray).data.toList 32=gZ:=kU 32;rw[e2]at hr;refine hr.mono ?_;rintro e w1 ⟨rfl,b1⟩
 generalize hf:(⟨gZ.toArray⟩:ByteArray)=f at*
 have HF:=U hf;clear hf hr e2
 go_wp2
 go_ret;exact⟨by rw[<-HF.o];rfl,b1⟩
theorem iN (nm:ByteArray) (i:Nat) (w:World) (hs:nm.size<=maxLen):Calls prog 280 #[γ #[σ nm,ι F i]] w λe w'=>e=aG (ν (may (L nm,i)))/\Below w.heap.size w w':=by
 by_cases h0:i=0
 ·subst h0
  go_enter func280,ntmps280
  go_wp2
  go_ret;exact⟨rfl,(aj _ _).alloc (ah _) _⟩
 ·have NM:=U (λW=>AU nm W hs)
  have t0:((i:Int)!=0)=true:=by simp;omega
  have t1:(i !=0)=true:=by simp;omega
  have E:Hid (may (L nm,i)=(oZ (L nm)==0)):=U (by
   unfold may oZ;cases isName (L nm)<;>simp[h0])
  generalize may (L nm,i)=mv at*
  generalize oZ (L nm)=ne at*
  clear h0
  go_enter func280,ntmps280
  go_wp2_with fail;refine(NM.o _).mono ?_;rintro e w1 ⟨rfl,b1⟩
  go_wp2
  go_ret;refine⟨?_,((aj _ w).alloc (ah _) _).trans (b1.mono (by simp))⟩;rw[E.o]
  rfl
theorem qj (s t:ByteArray) (k:Nat) (w:World) (hs:s.size<=100000) (ht:t.size<=100000) (hk:32*(k+1)<=s.size):Calls prog 307 #[σ s,ι J k,σ t] w λe w'=>e=aG (σ (B (uO (L s) k (L t))))/\∃n,w'=w.drewN n:=by
 have E:Hid (s.extract 0 (k*32)++t++s.extract ((k+1)*32) s.size=B (uO (L s) k (L t))):=U (by
  unfold uO;rw[mH,nI,dA,dA,iy,iy,iy,Nat.mul_comm k 32,Nat.mul_comm (k+1) 32])
 generalize B (uO (L s) k (L t))=res at*
 have w1:IntKind.i64.wrap ((k:Int)*32)=(k:Int)*32:=IntWalk.i64_in _ (by omega);have w2:IntKind.i64.wrap ((k:Int)+1)=(k:Int)+1:=IntWalk.i64_in _ (by omega);have w3:IntKind.i64.wrap (((k:Int)+1)*32)=((k:Int)+1)*32:=IntWalk.i64_in _ (by omega);have a1:(0:Int)<=(k:Int)*32:=by omega
 have a2:(k:Int)*32<=(s.size:Int):=by omega
 have a3:(0:Int)<=((k:Int)+1)*32:=by omega
 have a4:((k:Int)+1)*32<=(s.size:Int):=by omega
 have n1:((k:Int)*32).toNat=k*32:=by omega
 have n2:(((k:Int)+1)*32).toNat=(k+1)*32:=by omega
 have z1:(s.extract 0 (k*32)).size<=100000:=by rw[mH,aV,List.length_take,bZ];omega
 have z2:(s.extract 0 (k*32)++t).size<=200000:=by rw[dA,aV,List.length_append,bZ,bZ];omega
 have z3:(s.extract ((k+1)*32) s.size).size<=100000:=by rw[nI,aV,List.length_drop,bZ];omega
 clear hk
 go_enter func307,ntmps307
 go_wp2
 go_quiet (fail)
 go_wp2
 go_ret;exact⟨by rw[<-E.o];rfl,nq,rfl⟩
theorem KH (nm:ByteArray) (i:Nat) (w:World) (hs:nm.size<=27) (hi:i<4294967296):Calls prog 281 #[γ #[σ nm,ι F i]] w λe w'=>e=aG (σ (B (slotL (L nm,i))))/\Below w.heap.size w w':=by
 have NU:=U (λW=>uG i 4 W (by decide) (by simpa using hi));have TX:=U (λW=>Wo nm W (by omega))
 go_enter func281,ntmps281
 go_wp2_with fail;refine(NU.o _).mono ?_;rintro e w1 ⟨rfl,b1⟩;have k0:w1.cell? w.heap.size=some (σ nm):=(b1.cell (p:=⟨w.heap.size,0,none⟩) (by simp;omega)).trans (by go_keep)
 have kA:w1.heap[w.heap.size+1]? =some (aH zero32 356 (0,0)):=(b1.block _ (by simp)).trans (by
  have:=heap_alloc_new (w.alloc (aH #[σ nm,ι F i] 202)) (aH zero32 356);rw[aC]at this;exact this)
 have bb1:Below w.heap.size w w1:=(((aj _ w).alloc (ah _) _).alloc (by simp) _).trans (b1.mono (by simp;omega));clear b1 NU;go_wp2_with fail;refine(TX.o _).mono ?_;rintro e w2 ⟨rfl,b2⟩;have hl1:w.heap.size+1<w1.heap.size:=lt_of_block kA;have kB:w2.heap[w.heap.size+1]? =some (aH zero32 356 (0,0)):=(b2.block _ hl1).trans kA;have bb2:Below w.heap.size w w2:=bb1.trans (b2.mono (by omega));clear b2 bb1 kA k0 TX;have r1:(B (eu i 4)).size=4:=by rw[aV,cu]
 have r2:(B (UInt8.ofNat nm.size::L nm)).size<=28:=by rw[aV,List.length_cons,bZ];omega
 have ER:Hid (L (B (eu i 4)++B (UInt8.ofNat nm.size::L nm))=xQ (L nm,i)):=U (by rw[Jk,iy];rfl);have hlen:(xQ (L nm,i)).length<=32:=by rw[QX,bZ];omega
 have EL:Hid ((slotL (L nm,i)).length=32):=U (by
  unfold slotL;rw[List.length_append,List.length_replicate];omega)
 have ES:Hid (slotL (L nm,i)=xQ (L nm,i)++List.replicate (32-(xQ (L nm,i)).length) 0):=U rfl
 generalize hsl:slotL (L nm,i)=sl at*
 have HSL:=U hsl;clear hsl
 generalize xQ (L nm,i)=rw_ at*
 generalize B (eu i 4)=q1 at*
 generalize B (UInt8.ofNat nm.size::L nm)=q2 at*
 have hsz:(q1++q2).size=rw_.length:=by rw[<-bZ,ER.o]
 have HC:=Go.Lib.run_copy_row_string (P:=prog) w2 122 9 3 5 (w.heap.size+1) 0 32 32 (q1++q2) zero32 356 underlying122 (by kernel_rfl) kB (by omega) (by rw[hsz];show 0+_<=32;omega)
 have EC:(zero32.toList.take 0++Lib.byteCells (q1++q2).data.toList++zero32.toList.drop (0+(q1++q2).size)).toArray=(Lib.byteCells sl).toArray:=by
  rw[show(q1++q2).data.toList=L (q1++q2)from rfl,ER.o,hsz,List.take_zero,List.nil_append,Nat.zero_add];rw[show zero32.toList=Lib.byteCells (List.replicate 32 0)from rfl,ES.o];unfold Lib.byteCells;rw[<-List.map_drop,<-List.map_append,List.drop_replicate]
 rw[EC]at HC
 have HB:=run_convert_bytes_back (P:=prog) (w2.setRow (w.heap.size+1) (Lib.byteCells sl).toArray) 122 9 5 ⟨w.heap.size+1,0,none⟩ 32 sl underlying122 underlying5 underlying9 (λj hj=>by
  have e1:((⟨w.heap.size+1,0,none⟩:Addr).add j)=⟨w.heap.size+1,j,none⟩:=by unfold Addr.add;simp;omega
  rw[e1,cell_setRow_same _ _ _ _ _ _ _ kB]
  simp[Lib.byteCells,hj])
 rw[EL.o]at HB;have bb3:Below w.heap.size w (w2.setRow (w.heap.size+1) (Lib.byteCells sl).toArray):=below_setRow bb2 (by omega) _;clear EC kB hl1 bb2 hsz hlen
 go_wp2
 go_ret;exact⟨by rw[HSL.o];rfl,bb3⟩
def entV (e:bC):Value:=γ #[σ (B e.1),ι F e.2]
def EO (t:List UInt8):Value:=match iY t with
 |some e=>τ #[entV e,ν true]
 |none=>τ #[entV ([],0),ν false]
theorem uP {t:List UInt8} {e:bC} (h:iY t=some e):EO t=τ #[γ #[σ (B e.1),ι F e.2],ν true]:=by unfold EO;rw[h];rfl
theorem uQ {t:List UInt8} (h:iY t=none):EO t=τ #[γ #[σ ⟨#[]⟩,ι F 0],ν false]:=by unfold EO;rw[h];rfl
theorem Bj (w:World):Calls prog 237 #[σ (B gZ)] w λe w'=>e=aG (τ #[γ #[σ ⟨#[]⟩,ι F 0],ν true])/\Below w.heap.size w w':=by
 obtain⟨f,hf⟩:∃f,B gZ=f:=⟨_,rfl⟩;have FA:=U (λW=>pq W);rw[hf]at FA;rw[hf];clear hf
 go_enter func237,ntmps237
 go_wp2_with fail;refine(FA.o _).mono ?_;rintro e w1 ⟨rfl,b1⟩;have hB:aN w1 w.heap.size 202 #[σ ⟨#[]⟩,ι F 0]:=(aN.new w _ _).later b1;have c0:=hB.cell 0;have c1:=hB.cell 1;have f0:=hB.free 0;have f1:=hB.free 1;have hl:=hB.lt;have bb:Below w.heap.size w w1:=((aj _ w).alloc (ah _) _).trans (b1.mono (by simp));simp only[au,av,ay]at c0 c1;have HB:=U hB;clear b1 FA hB
 go_wp2
 exact bodyPost_ret (v:=τ #[γ #[σ ⟨#[]⟩,ι F 0],ν true]) (by simp[results,results237,go_sem,c0,c1]) rfl ⟨rfl,(bb.setCell (p:=⟨w.heap.size,0,none⟩) (ah _) _).setCell (p:=⟨w.heap.size,1,none⟩) (ah _) _⟩
theorem Bn (s:ByteArray) (w:World) (h4:4<s.size) (hs1:32<=s.size) (hs2:s.size<=32) (hf:L s≠gZ) (n:Nat) (hn:s[4].toNat=n) (h27:27<n):Calls prog 237 #[σ s] w λe w'=>e=aG (τ #[γ #[σ ⟨#[]⟩,ι F 0],ν false])/\Below w.heap.size w w':=by
 have n8:n<256:=by have:=s[4].toNat_lt;omega
 obtain⟨f,hf2⟩:∃f,B gZ=f:=⟨_,rfl⟩;have FA:=U (λW=>pq W)
 have q1:(s.toList==f.toList)=false:=by
  rw[<-hf2,dB,dB,iy]
  simpa using hf
 have q2:decide (s.toList=f.toList)=false:=by simpa using q1
 rw[hf2]at FA;clear hf hf2
 go_enter func237,ntmps237
 go_wp2_with fail;refine(FA.o _).mono ?_;rintro e w1 ⟨rfl,b1⟩;have hB:aN w1 w.heap.size 202 #[σ ⟨#[]⟩,ι F 0]:=(aN.new w _ _).later b1;have c0:=hB.cell 0;have c1:=hB.cell 1;have f0:=hB.free 0;have f1:=hB.free 1;have hl:=hB.lt;have bb:Below w.heap.size w w1:=((aj _ w).alloc (ah _) _).trans (b1.mono (by simp));simp only[au,av,ay]at c0 c1;clear b1 FA hB
 go_wp2
 exact bodyPost_ret (v:=τ #[γ #[σ ⟨#[]⟩,ι F 0],ν false]) (by simp[results,results237,go_sem,c0,c1]) rfl ⟨rfl,(bb.setCell (p:=⟨w.heap.size,0,none⟩) (ah _) _).setCell (p:=⟨w.heap.size,1,none⟩) (ah _) _⟩
theorem Bo (s:ByteArray) (w:World) (h4:4<s.size) (hs1:32<=s.size) (hs2:s.size<=32) (hf:L s≠gZ) (n:Nat) (hn:s[4].toNat=n) (h27:n<=27) (i:Nat) (hi:ku ((L s).take 4)=i) (XJ:i<4294967296) (mv sv:Bool) (hmv:may (((L s).drop 5).take n,i)=mv) (hsv:decide (slotL (((L s).drop 5).take n,i)=L s)=sv):
 Calls prog 237 #[σ s] w λe w'=>e=aG (if mv&&sv then τ #[γ #[σ (B (((L s).drop 5).take n)),ι F i],ν true]else τ #[γ #[σ ⟨#[]⟩,ι F 0],ν false])/\Below w.heap.size w w':=by
 have EX:Hid (s.extract 5 (5+n)=B (((L s).drop 5).take n)):=U (by
  apply iL
  show(s.extract 5 (5+n)).data.toList=_;rw[ByteArray.data_extract,Array.toList_extract,List.extract_eq_take_drop];rw[show 5+n-5=n by omega]
  rfl)
 have E4:Hid (s.extract 0 4=B ((L s).take 4)):=U (mH s 4);have GT:=U (λW=>Wn (B ((L s).take 4)) W (by rw[aV,List.length_take];omega));rw[iy,hi]at GT;have hnl:(B (((L s).drop 5).take n)).size<=27:=by rw[aV,List.length_take];omega
 have MY:=U (λW=>iN (B (((L s).drop 5).take n)) i W (by unfold maxLen;omega));have SL:=U (λW=>KH (B (((L s).drop 5).take n)) i W hnl XJ);rw[iy,hmv]at MY;rw[iy]at SL;have a1:(0:Int)<=5+(n:Int):=by omega
 have a2:(5:Int)<=5+(n:Int):=by omega
 have a3:5+(n:Int)<=(s.size:Int):=by omega
 have a4:(5+(n:Int)).toNat=5+n:=by omega
 have a5:(4:Int)<=(s.size:Int):=by omega
 have a6:4<=s.size:=by omega
 have a7:5+n<=s.size:=by omega
 obtain⟨sl,hsl⟩:∃x,B (slotL (((L s).drop 5).take n,i))=x:=⟨_,rfl⟩
 have p1:(sl.toList==s.toList)=sv:=by
  rw[<-hsl,dB,dB,iy,<-hsv];rw[Bool.eq_iff_iff];simp
 have p2:decide (sl.toList=s.toList)=sv:=by rw[<-p1,Bool.eq_iff_iff];simp
 have p3:(sl.toList !=s.toList)=!sv:=by rw[bne,p1]
 rw[hsl]at SL
 generalize hnm:B (((L s).drop 5).take n)=nm at*
 have HNM:=U hnm
 generalize hx4:B ((L s).take 4)=x4 at*
 clear hsl hnm hx4 hmv hsv hi;have n8:n<256:=by have:=s[4].toNat_lt;omega
 obtain⟨f,hf2⟩:∃f,B gZ=f:=⟨_,rfl⟩;have FA:=U (λW=>pq W)
 have q1:(s.toList==f.toList)=false:=by
  rw[<-hf2,dB,dB,iy]
  simpa using hf
 have q2:decide (s.toList=f.toList)=false:=by simpa using q1
 rw[hf2]at FA;clear hf hf2
 go_enter func237,ntmps237
 go_wp2_with fail;refine(FA.o _).mono ?_;rintro e w1 ⟨rfl,b1⟩;have hB:aN w1 w.heap.size 202 #[σ ⟨#[]⟩,ι F 0]:=(aN.new w _ _).later b1;have c0:=hB.cell 0;have c1:=hB.cell 1;have f0:=hB.free 0;have f1:=hB.free 1;have hl:=hB.lt;have bb:Below w.heap.size w w1:=((aj _ w).alloc (ah _) _).trans (b1.mono (by simp));simp only[au,av,ay]at c0 c1;clear b1 FA;go_wp2_with fail;rw[E4.o];refine(GT.o _).mono ?_;rintro e w2 ⟨rfl,rfl⟩;go_wp2_with fail;rw[EX.o];have hB2:aN ((w1.setCell ⟨w.heap.size,0,none⟩ (σ nm)).setCell ⟨w.heap.size,1,none⟩ (ι F i)) w.heap.size 202 #[σ nm,ι F i]:=(hB.set 0 (σ nm)).set 1 (ι F i);have bb2:Below w.heap.size w ((w1.setCell ⟨w.heap.size,0,none⟩ (σ nm)).setCell ⟨w.heap.size,1,none⟩ (ι F i)):=(bb.setCell (p:=⟨w.heap.size,0,none⟩) (ah _) _).setCell (p:=⟨w.heap.size,1,none⟩) (ah _) _;clear c0 c1 f0 f1 hl hB bb GT;refine(MY.o _).mono ?_;rintro e w3 ⟨rfl,b3⟩;have hB3:aN w3 w.heap.size 202 #[σ nm,ι F i]:=hB2.later b3;have bb3:Below w.heap.size w w3:=bb2.trans (b3.mono (Nat.le_of_lt hB2.lt));have c0:=hB3.cell 0;have c1:=hB3.cell 1;have f0:=hB3.free 0;have f1:=hB3.free 1;have hl:=hB3.lt;simp only[au,av,ay]at c0 c1;clear b3 hB2 bb2 MY;cases mv
 ·go_wp2
  exact bodyPost_ret (v:=τ #[γ #[σ ⟨#[]⟩,ι F 0],ν false]) (by simp[results,results237,go_sem,c0,c1]) rfl ⟨rfl,(bb3.setCell (p:=⟨w.heap.size,0,none⟩) (ah _) _).setCell (p:=⟨w.heap.size,1,none⟩) (ah _) _⟩
 ·go_wp2_with fail
  refine(SL.o _).mono ?_;rintro e w4 ⟨rfl,b4⟩;have hB4:aN w4 w.heap.size 202 #[σ nm,ι F i]:=hB3.later b4;have bb4:Below w.heap.size w w4:=bb3.trans (b4.mono (Nat.le_of_lt hB3.lt));clear c0 c1 f0 f1 hl hB3 bb3 b4 SL;have c0:=hB4.cell 0;have c1:=hB4.cell 1;have f0:=hB4.free 0;have f1:=hB4.free 1;have hl:=hB4.lt;simp only[au,av,ay]at c0 c1;clear hB4;cases sv
  ·go_wp2
   exact bodyPost_ret (v:=τ #[γ #[σ ⟨#[]⟩,ι F 0],ν false]) (by simp[results,results237,go_sem,c0,c1]) rfl ⟨rfl,(bb4.setCell (p:=⟨w.heap.size,0,none⟩) (ah _) _).setCell (p:=⟨w.heap.size,1,none⟩) (ah _) _⟩
  ·go_wp2
   exact bodyPost_ret (v:=τ #[γ #[σ nm,ι F i],ν true]) (by simp[results,results237,go_sem,c0,c1]) rfl ⟨rfl,(bb4.setCell (p:=⟨w.heap.size,0,none⟩) (ah _) _).setCell (p:=⟨w.heap.size,1,none⟩) (ah _) _⟩
theorem rG (s:ByteArray) (w:World) (hs:s.size=32):Calls prog 237 #[σ s] w λe w'=>e=aG (EO (L s))/\Below w.heap.size w w':=by
 by_cases hf:L s=gZ
 ·have e:s=B gZ:=iL (by rw[hf,iy])
  rw[e,iy,uP EP];exact Bj w
 ·have hn:s[4].toNat=Bp (L s):=by
   unfold Bp;rw[List.getD_eq_getElem?_getD,List.getElem?_eq_getElem (by rw[bZ];omega)]
   rfl
  by_cases h27:27<Bp (L s)
  ·have e:iY (L s)=none:=by unfold iY;rw[if_neg hf,if_pos h27]
   rw[uQ e];exact Bn s w (by omega) (by omega) (by omega) hf _ hn h27
  ·have hi:ku ((L s).take 4)<4294967296:=by
    have h1:=zK ((L s).take 4);have hl:((L s).take 4).length<=4:=List.length_take_le _ _;have:(256:Nat)^((L s).take 4).length<=256^4:=Nat.pow_le_pow_right (by decide) hl;omega
   refine(Bo s w (by omega) (by omega) (by omega) hf _ hn (by omega) _ rfl hi _ _ rfl rfl).mono ?_;rintro e w' ⟨rfl,b⟩;refine⟨?_,b⟩;show Ending.returned (if may (qO (L s))&&decide (slotL (qO (L s))=L s)then τ #[γ #[σ (B (qO (L s)).1),ι F (qO (L s)).2],ν true]else _)=_
   by_cases h:may (qO (L s))=true/\slotL (qO (L s))=L s
   ·have e:iY (L s)=some (qO (L s)):=by unfold iY;rw[if_neg hf,if_neg h27,if_pos h]
    rw[uP e,if_pos (by simp[h.1,h.2])]
   ·have e:iY (L s)=none:=by unfold iY;rw[if_neg hf,if_neg h27,if_neg h]
    rw[uQ e,if_neg (by simpa using h)]
open Go.Shelf
section
attribute [local go_sem] Oper.semAt_some
def iZ (s:List UInt8) (k:Nat):Nat×bC:=(k,oC (gT s k))
def kY (x:Nat×bC):Array Value:=#[ι J (x.1:Int),γ #[σ (B x.2.1),ι F x.2.2]]
theorem tP (s:ByteArray) (k:Nat):s.extract (k*32) ((k+1)*32)=B (gT (L s) k):=by
 apply iL
 show(s.extract (k*32) ((k+1)*32)).data.toList=_;rw[ByteArray.data_extract,Array.toList_extract,List.extract_eq_take_drop,iy];unfold gT;rw[show(k+1)*32-k*32=32 by omega,Nat.mul_comm k 32]
 rfl
theorem XV (s:ByteArray) (k:Nat) (h:k<s.size/32):(B (gT (L s) k)).size=32:=by
 rw[aV];unfold gT;rw[List.length_take,List.length_drop,bZ];omega
theorem Us (t:List UInt8):∃(e:bC) (b:Bool),EO t=τ #[γ #[σ (B e.1),ι F e.2],ν b]/\(b=true->oC t=e)/\(b=false->oC t=([],1)):=by
 cases h:iY t with
 |none=>exact⟨([],0),false,uQ h,λh=>(by cases h),λ_=>by unfold oC;rw[h];rfl⟩
 |some e=>exact⟨e,true,uP h,λ_=>by unfold oC;rw[h];rfl,λh=>by cases h⟩
theorem jS {W W':World} (h:Below W.heap.size W W'):W.grownBy W' none:=⟨h.os,h.tape,h.output,h.size,λk hk _=>h.block k hk⟩
theorem KJ (s:List UInt8) (k:Nat) {e:bC} (h:oC (gT s k)=e):iZ s k=(k,e):=by unfold iZ;rw[h]
theorem Ut (n:Nat) (hn:2<=n) (l Bs:Nat) (s:ByteArray) (hs:s.size<=1099511627776) (aK Jx:List Nat->World->Prop)
 (hJ:∀pre W W',aK pre W->W.grownBy W' none->aK pre W')
 (hY:∀pre x W,aK pre W->pre.length<s.size/32->YieldAt Fence.wide (n-1) prog l (kY (iZ (L s) x)) W λe W'=>
  (e=aG (ν true)/\aK (pre++[x]) W'/\eP Bs 9 W W')\/(e=aG (ν false)/\Jx (pre++[x]) W'))
 (W:World) (zM:Boxed W Bs 9 (σ s)) (h0:aK [] W):
 CallsIn Fence.wide n prog 236 #[.func (.yield l) #[] #[],Bs] W λe W'=>(∃v,e=aG v)/\
  ((∃ys,ys=List.range (s.size/32)/\aK ys W')\/(∃pre,(∃k,k<=s.size/32/\pre=List.range k)/\Jx pre W')):=by
 have hc0:=zM.cell;refine callsIn_of_wp func236 rfl trivial ?_ rfl;simp only[ntmps236,List.size_toArray,List.length_cons,List.length_nil,Nat.reduceAdd,Nat.reduceSub,Array.replicate_succ,Array.replicate_zero,List.push_toArray,List.append_toArray,List.nil_append,List.cons_append]
 gi_wp2
 gi_loopw [9] (λi wr=>∃k:Nat,k<=s.size/32/\i=ι J k/\aK (List.range k) wr/\Boxed wr Bs 9 (σ s))
  (λi _=>s.size/32-(RowKit.intOf i).toNat)
 case atStart=>exact⟨0,aB _,rfl,h0,zM⟩
 case round=>
  obtain⟨k,hk,rfl,hJs,hnx⟩:=hrel;have hcx:=hnx.cell
  by_cases hlt:k<s.size/32
  ·have HR:=U (λW=>rG (B (gT (L s) k)) W (XV s k hlt))
   obtain⟨e,b,hv,hb1,hb2⟩:=Us (gT (L s) k);rw[iy,hv]at HR;have EX:=U (tP s k);have w1:IntKind.i64.wrap ((k:Int)*32)=(k:Int)*32:=IntWalk.i64_in _ (by omega);have w2:IntKind.i64.wrap ((k:Int)+1)=(k:Int)+1:=IntWalk.i64_in _ (by omega);have w3:IntKind.i64.wrap (((k:Int)+1)*32)=((k:Int)+1)*32:=IntWalk.i64_in _ (by omega);have a1:(0:Int)<=(k:Int)*32:=by omega
   have a2:(k:Int)*32<=((k:Int)+1)*32:=by omega
   have a4:((k:Int)+1)*32<=(s.size:Int):=by omega
   have n1:((k:Int)*32).toNat=k*32:=by omega
   have n2:(((k:Int)+1)*32).toNat=(k+1)*32:=by omega
   have hlen:(List.range k).length<s.size/32:=by rw[List.length_range];exact hlt
   have tU:Hid (List.range (k+1)=List.range k++[k]):=U List.range_succ
   have HEN:Hid (iZ (L s) k=(k,if b then e else([],1))):=U (by
    cases b
    ·exact KJ (L s) k (hb2 rfl)
    ·exact KJ (L s) k (hb1 rfl))
   have hHY:Hid _:=U hY;have hHJ:Hid _:=U hJ;clear hv hb1 hb2 hY hJ hc0 zM h0;cases b
   ·have PB:Hid (iZ (L s) k=(k,(([],1):bC))):=HEN
    gi_wp2_with fail
    refine⟨trivial,(λh=>by cases h),?_⟩;rw[EX.o];refine(callsIn_wide.2 (HR.o _)).mono ?_;rintro q w4 ⟨rfl,b4⟩;have Ov:Boxed w4 Bs 9 (σ s):=(b4.block Bs hnx.lt).trans hnx;have hlt4:=Ov.lt;have hlt5:=hnx.lt;have PC:=b4.size;have g5:Below wr.heap.size wr (w4.alloc (aH #[σ ⟨#[]⟩,ι F 1] 202)):=b4.alloc PC _;have PF:Hid (Boxed (w4.alloc (aH #[σ ⟨#[]⟩,ι F 1] 202)) Bs 9 (σ s)):=U (Ov.alloc _);obtain⟨fn,tmps,assign,body,hy,hR⟩:=hHY.o _ k _ (hHJ.o _ _ _ hJs (jS g5)) hlen;rw[PB.o]at hy
    dsimp only[kY]at hy
    rw[show B []=(⟨#[]⟩:ByteArray)from rfl,show((1:Nat):Int)=1 from rfl]at hy;clear b4 g5 Ov
    gi_wp2
    refine⟨(λh=>by cases h),?_⟩;refine hR.mono ?_;rintro q W3 (⟨rfl,hJ3,hk3⟩|⟨rfl,hJx3⟩)
    ·gi_wp2
     go_roundw
     case rel=>exact⟨k+1,by omega,by simp,by rw[tU.o];exact hJ3,hk3 _ PF.o⟩
     case measure=>simp[RowKit.intOf];omega
    ·gi_wp2
     refine bodyPost_ret (results_none rfl _ _ _) rfl ?_;exact⟨⟨_,rfl⟩,.inr ⟨_,⟨k+1,by omega,tU.o.symm⟩,hJx3⟩⟩
   ·have PB:Hid (iZ (L s) k=(k,e)):=HEN
    gi_wp2_with fail
    refine⟨trivial,(λh=>by cases h),?_⟩;rw[EX.o];refine(callsIn_wide.2 (HR.o _)).mono ?_;rintro q w4 ⟨rfl,b4⟩;have Ov:Boxed w4 Bs 9 (σ s):=(b4.block Bs hnx.lt).trans hnx;have hlt4:=Ov.lt;have hlt5:=hnx.lt;have PC:=b4.size;have g5:Below wr.heap.size wr (w4.alloc (aH #[σ (B e.1),ι F e.2] 202)):=b4.alloc PC _;have PF:Hid (Boxed (w4.alloc (aH #[σ (B e.1),ι F e.2] 202)) Bs 9 (σ s)):=U (Ov.alloc _);obtain⟨fn,tmps,assign,body,hy,hR⟩:=hHY.o _ k _ (hHJ.o _ _ _ hJs (jS g5)) hlen;rw[PB.o]at hy
    dsimp only[kY]at hy
    clear b4 g5 Ov
    gi_wp2
    refine⟨(λh=>by cases h),?_⟩;refine hR.mono ?_;rintro q W3 (⟨rfl,hJ3,hk3⟩|⟨rfl,hJx3⟩)
    ·gi_wp2
     go_roundw
     case rel=>exact⟨k+1,by omega,by simp,by rw[tU.o];exact hJ3,hk3 _ PF.o⟩
     case measure=>simp[RowKit.intOf];omega
    ·gi_wp2
     refine bodyPost_ret (results_none rfl _ _ _) rfl ?_;exact⟨⟨_,rfl⟩,.inr ⟨_,⟨k+1,by omega,tU.o.symm⟩,hJx3⟩⟩
  ·obtain rfl:k=s.size/32:=by omega
   gi_wp2
   go_end0;exact⟨⟨_,rfl⟩,.inl ⟨_,rfl,hJs⟩⟩
end
end Dir
namespace mU
open Go.RowKit Go.Shelf Go.Maps Oct Dev Wz
abbrev Wait:=Nat->Option ByteArray
def noW:Wait:=λ_=>none
def DV (W:World) (b:dN) (hard:List ByteArray) (P:Wait) (k:Nat):Prop:=∃pd:iF,bY W b hard pd k/\∀i:Nat,(pd (i:Int)).map (λe=>e.2.2)=P i
def zF (P:Wait) (i:Nat) (s:ByteArray):Wait:=λy=>if y=i then some s else P y
def Ow (hard:List ByteArray) (P:Wait):List ByteArray:=hard.mapIdx λi s=>(P i).getD s
theorem nY (hard:List ByteArray) (P:Wait):(Ow hard P).length=hard.length:=by simp[Ow]
theorem tW (hard:List ByteArray) (P:Wait) (i:Nat) (h:i<hard.length):(Ow hard P)[i]'(by rw[nY];exact h)=(P i).getD hard[i]:=by simp[Ow]
section
variable {b:dN} {hard:List ByteArray} {P:Wait} {k:Nat}
theorem DV.later {W W':World} (h:DV W b hard P k) (hb:Below W.heap.size W W'):DV W' b hard P k:=by
 obtain⟨pd,h1,h2⟩:=h;exact⟨pd,h1.later hb,h2⟩
theorem DV.dev {W:World} (h:DV W b hard P k):∃cap,hard.length<=cap/\aN W b.p 150 (gM b hard.length cap k):=by
 obtain⟨pd,h1,_⟩:=h;exact h1.dev
theorem DV.len {W:World} (h:DV W b hard P k):hard.length<=4096:=by
 obtain⟨pd,h1,_⟩:=h;exact h1.len
theorem IT {W:World} (h:bY W b hard (λ_=>none) k):DV W b hard noW k:=⟨_,h,λ_=>rfl⟩
theorem DV.bare {W:World} (h:DV W b hard noW k):bY W b hard (λ_=>none) k:=by
 obtain⟨pd,h1,h2⟩:=h
 have e:pd=λ_=>none:=by
  funext x
  cases hx:pd x with
  |none=>rfl
  |some e=>
   obtain⟨i,rfl,_⟩:=h1.dom x e hx;have:=h2 i;rw[hx]at this;cases this
 rw[e]at h1;exact h1
theorem vU (i:Nat) (s:ByteArray) (w:World) (h:DV w b hard P k) (hi:i<hard.length) (hp:P i=none) (hs:s.size=64) (hk:k<1099511627776):
 Calls prog 67 #[b.p,ι J i,σ s] w λe w'=>e=aG (ι J 0)/\DV w' b hard (zF P i s) (k+1)/\aR (λc=>c=b.p\/c=b.m) w w':=by
 obtain⟨pd,h1,h2⟩:=h
 have h0:pd (i:Int)=none:=by
  have:=h2 i;rw[hp]at this;cases e:pd (i:Int)with
  |none=>rfl
  |some x=>rw[e]at this;cases this
 refine(Et i s w h1 hi h0 hs hk).mono ?_;rintro e w' ⟨rfl,bl,cap,g,t⟩;refine⟨rfl,⟨_,g,λy=>?_⟩,t⟩;unfold Df zF
 by_cases q:y=i
 ·rw[if_pos q,if_pos (by rw[q])]
  rfl
 ·rw[if_neg q,if_neg (by omega)]
  exact h2 y
theorem XW (w:World) (h:DV w b hard P k) (hk:k<=1099511627776):
 Calls prog 68 #[b.p] w λe w'=>e=aG (ι J 0)/\DV w' b (Ow hard P) noW k/\aR (λc=>c=b.g\/c=b.m) w w':=by
 obtain⟨pd,h1,h2⟩:=h;refine(EM w h1 hk).mono ?_;rintro e w' ⟨rfl,ss,hks,g,t⟩;refine⟨rfl,?_,t⟩
 have hmem:∀x:Int,x∉ss->pd x=none:=λx hx=>by
  cases e:pd x with
  |none=>rfl
  |some y=>exact absurd ((hks.2 x).2 (by unfold ng;rw[e];rfl)) hx
 have e1:jE pd ss=λ_=>none:=by
  funext y
  unfold jE
  by_cases q:y∈ss
  ·rw[if_pos q]
  ·rw[if_neg q,hmem y q]
 have e2:iD hard pd ss=Ow hard P:=by
  refine List.ext_getElem? (λi=>?_)
  by_cases hi:i<hard.length
  ·rw[qB (λx e hx=>by obtain⟨j,hj,_⟩:=h1.dom x e hx;exact⟨j,hj⟩) ss hard i hi,List.getElem?_eq_getElem (by rw[nY];exact hi),tW _ _ _ hi]
   have e3:(if(i:Int)∈ss then pd i else none)=pd i:=by
    by_cases q:(i:Int)∈ss
    ·rw[if_pos q]
    ·rw[if_neg q,hmem _ q]
   rw[e3,<-h2 i];cases pd (i:Int)<;>rfl
  ·rw[List.getElem?_eq_none (by rw[qA];omega),List.getElem?_eq_none (by rw[nY];omega)]
 rw[e1,e2]at g;exact IT g
end
theorem Hg (v n:Nat) (w:World) (hn:n<=8) (hv:v<256^n):Calls prog 227 #[ι .u64 v,ι J n] w λe w'=>e=aG (σ (B (eu v n)))/\Below w.heap.size w w':=by
 have NU:=U (uG v n w hn hv);clear hv
 go_enter func227,ntmps227
 go_wp2_with fail;refine NU.o.mono ?_;rintro e w1 ⟨rfl,b1⟩
 go_wp2
 go_ret;exact⟨rfl,b1⟩
def yS (gen c:Nat):List UInt8:=[108,117,110,106]++eu gen 8++eu c 2
def mV (gen c:Nat):ByteArray:=kW (B (jm (yS gen c))) 64
theorem qC (gen c:Nat):(mV gen c).size=64:=by
 unfold mV kW;rw[aV,List.length_append,List.length_replicate,iy]
 have e:(B (jm (yS gen c))).size=18:=by
  rw[aV];unfold jm yS
  simp[cu]
 rw[<-aV,e]
theorem yT:(⟨#[108,117,110,106]⟩:ByteArray).size=4:=rfl
theorem KL (gen c:Nat) (w:World) (hg:gen<18446744073709551616) (hc:c<65536):Calls prog 221 #[ι .u64 gen,ι J c] w λe w'=>e=aG (σ (mV gen c))/\Below w.heap.size w w':=by
 have N8:=U (λW=>Hg gen 8 W (by omega) (by simpa using hg));have N2:=U (λW=>Hg c 2 W (by omega) (by simpa using hc));have SE:=U (λW=>Km ((⟨#[108,117,110,106]⟩:ByteArray)++B (eu gen 8)++B (eu c 2)) W (by rw[ByteArray.size_append,ByteArray.size_append,aV,aV,cu,cu,yT];omega));have PD:=U (λW=>XU (B (jm (yS gen c))) 64 W (by omega) (by rw[aV];unfold jm yS;simp[cu]))
 have e:L ((⟨#[108,117,110,106]⟩:ByteArray)++B (eu gen 8)++B (eu c 2))=yS gen c:=by
  have e0:(⟨#[108,117,110,106]⟩:ByteArray)=B [108,117,110,106]:=rfl;rw[e0,dA,dA,iy,iy,iy,iy]
  rfl
 rw[e]at SE;rw[show kW (B (jm (yS gen c))) 64=mV gen c from rfl]at PD
 generalize B (jm (yS gen c))=sd at*
 generalize mV gen c=hd at*
 have z8:(B (eu gen 8)).size=8:=by rw[aV,cu]
 have z2:(B (eu c 2)).size=2:=by rw[aV,cu]
 have z4:=yT
 generalize B (eu gen 8)=n8 at*
 generalize B (eu c 2)=n2 at*
 clear e hg
 go_enter func221,ntmps221
 go_wp2_with fail;refine(N8.o _).mono ?_;rintro e w1 ⟨rfl,b1⟩;have B1:=U b1;clear b1;go_wp2_with fail;refine(N2.o _).mono ?_;rintro e w2 ⟨rfl,b2⟩;have B2:=U (B1.o.trans (b2.mono B1.o.size));clear b2;go_wp2_with fail;refine(SE.o _).mono ?_;rintro e w3 ⟨rfl,b3⟩;have B3:=U (B2.o.trans (b3.mono B2.o.size));clear b3;go_wp2_with fail;refine(PD.o _).mono ?_;rintro e w4 ⟨rfl,b4⟩;have B4:=U (B3.o.trans (b4.mono B3.o.size));clear b4
 go_wp2
 go_ret;exact⟨rfl,B4.o⟩
abbrev Puts:=List (Nat×ByteArray)
def jc (W:World) (g:Nat) (l:Puts):Prop:=∀j (h:j<l.length),W.cell? ⟨g,j*2,none⟩=some (ι J (l[j]'h).1)/\W.cell? ⟨g,j*2+1,none⟩=some (σ (l[j]'h).2)
theorem jc.later {W W':World} {g:Nat} {l:Puts} (h:jc W g l) (hg:g<W.heap.size) (hb:Below W.heap.size W W'):jc W' g l:=λj hj=>⟨(hb.cell (p:=⟨g,j*2,none⟩) hg).trans (h j hj).1,(hb.cell (p:=⟨g,j*2+1,none⟩) hg).trans (h j hj).2⟩
theorem jd {W W':World} {g i:Nat} (hb:W'.heap[g]? =W.heap[g]?):W'.cell? ⟨g,i,none⟩=W.cell? ⟨g,i,none⟩:=by
 unfold World.cell?;rw[hb]
theorem jc.block {W W':World} {g:Nat} {l:Puts} (h:jc W g l) (hb:W'.heap[g]? =W.heap[g]?):jc W' g l:=λj hj=>⟨(jd hb).trans (h j hj).1,(jd hb).trans (h j hj).2⟩
