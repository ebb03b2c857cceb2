/- Lemmas. -/
import Derived.Test.YtpendnmmgjlmfaaGreatDoorM09
import Derived.Test.YtpendnmmgjlmfaaGreatDoorM05
import Derived.Test.YtpendnmmgjlmfaaGreatDoorIter
import Derived.CallsIn
set_option linter.unusedVariables false
set_option linter.unusedSimpArgs false
namespace Go.Proofs.YtpendnmmgjlmfaaGreatDoor
open Go.Proofs.Tryz
open IntKind renaming i64→J,u32→F
open Value renaming pointer→G,int->ι,string->σ,tuple->τ
open Ending renaming returned→aG
open Obj renaming cells→aH
set_option maxRecDepth 100000
set_option maxHeartbeats 2000000
namespace Dev
open Go.RowKit Go.Shelf Go.Maps Oct
def nV:ByteArray:=B (List.replicate 64 0)
theorem kU (w:World):Calls prog 58 #[.string ⟨#[0]⟩,.int J 64] w λe w'=>e=aG (.string nV)/\Below w.heap.size w w':=by
 have h:=strings_Repeat ⟨#[0]⟩ 64 w (by decide) (by decide);rw[show(⟨(Lib.repeatL (⟨#[0]⟩:ByteArray).data.toList 64).toArray⟩:ByteArray)=nV from by kernel_rfl]at h;exact h
theorem uz {W W':World} {base:Nat} {e:TypeId} {sz:Nat} {v:Value} {n:Nat} {xs:List Value} (h:W.ownsRow base e sz v n xs) (hb:Below W.heap.size W W'):W'.ownsRow base e sz v n xs:=by
 obtain⟨h0,h1⟩:=h;refine⟨h0,?_⟩
 rcases h1 with h1|⟨g,cap,cur,rfl,hbs,hg,r⟩
 ·exact .inl h1
 ·exact .inr ⟨g,cap,cur,rfl,hbs,(hb.block g (Array.getElem?_eq_some_iff.1 hg).1).trans hg,r⟩
theorem Oj {W:World} {base:Nat} {e t:TypeId} {sz:Nat} {v:Value} {n p:Nat} {xs:List Value} {cs:Array Value} (h:W.ownsRow base e sz v n xs) (hX:aN W p t cs) (ht:e≠t):some p≠v.ownBlock:=λq=>by
 rcases h.2 with⟨rfl,_⟩|⟨g,cap,cur,rfl,hbs,hg,r⟩
 ·cases q
 ·have e2:p=g:=Option.some.inj q
  subst e2;rw[show W.heap[p]? =_ from hX]at hg;simp only[Option.some.injEq,Obj.cells.injEq]at hg;exact ht hg.2.1.symm
theorem Ui {W:World} {base:Nat} {v:Value} {n:Nat} {l:List ByteArray} (hn:0<n) (h:W.ownsRow base 9 1 v n (l.map .string)):∃g cap,v=.slice (some ⟨g,0,none⟩) n cap/\n<=cap/\base<=g/\eZ W g l:=by
 obtain⟨h0,h1⟩:=h
 rcases h1 with⟨_,rfl⟩|⟨g,cap,cur,rfl,hbs,hg,hnc,_,hcs,ht⟩
 ·omega
 ·refine⟨g,cap,rfl,hnc,hbs,cur,hg,λi hi=>?_⟩
  have hl:l.length=n:=by simpa using h0
  have h2:(cur.toList.take (n*1))[i]? =some (.string l[i]):=by rw[ht];simp[hi]
  rw[List.getElem?_take]at h2;rw[if_pos (by omega)]at h2
  simpa using h2
def kV (m:Nat) (v:Value):Array Value:=#[.bool false,.int J 0,.bool false,v,.map (some m),.int .u64 0]
def Xx (n:Nat) (w:World) (c:Value) (wr:World):Prop:=
 ∃(m:Nat) (v:Value),m<=n/\c=.int J m/\aN wr (w.heap.size+1) 150 (kV w.heap.size v)/\wr.ownsRow (w.heap.size+2) 9 1 v m ((List.replicate m nV).map .string)/\dM wr rowElem w.heap.size 0 (λ_=>none)/\Below w.heap.size w wr
theorem Di {W:World} {base:Nat} {e:TypeId} {sz:Nat} {v:Value} {n c i:Nat} {xs:List Value} (h:W.ownsRow base e sz v n xs) (u:Value) (hc:c<base):(W.setCell ⟨c,i,none⟩ u).ownsRow base e sz v n xs:=by
 obtain⟨h0,h1⟩:=h;refine⟨h0,?_⟩
 rcases h1 with h1|⟨g,cap,cur,rfl,hbs,hg,r⟩
 ·exact .inl h1
 ·exact .inr ⟨g,cap,cur,rfl,hbs,(heap_setCell_other W ⟨c,i,none⟩ g u (λe=>by have e2:g=c:=e;omega)).trans hg,r⟩
theorem Xy {n m g cap:Nat} {v:Value} {w wr w9 w1:World} (hlt:m<n) (hX1:aN w1 (w.heap.size+1) 150 (kV w.heap.size v))
 (hown1:w1.ownsRow (w.heap.size+2) 9 1 (.slice (some g) (m+1) cap) (m+1) ((List.replicate m nV).map .string++[.string nV]))
 (hI:dM wr rowElem w.heap.size 0 (λ_=>none)) (hB:Below w.heap.size w w9) (b9:Below wr.drew.heap.size wr.drew w9) (hgrow:(w9.alloc (aH #[.string nV] 9)).grownBy w1 v.ownBlock)
 (hgb:∀r,v.ownBlock=some r->w.heap.size+2<=r):Xx n w (.int J ((m:Int)+1)) (w1.setCell ⟨w.heap.size+1,3,none⟩ (.slice (some g) (m+1) cap)):=by
 refine⟨m+1,.slice (some g) (m+1) cap,by omega,rfl,?_,?_,?_,?_⟩
 ·unfold kV at hX1⊢
  exact aN.set hX1 3 _
 ·rw[List.replicate_succ',List.map_append]
  exact Di hown1 _ (by omega)
 ·exact(((hI.drew.later b9).alloc _).kept hgrow (λe=>by have:=hgb _ e.symm;omega)).other _ (by omega)
 ·exact((hB.alloc hB.size _).grown hgrow (by have:=hB.size;simp;omega) (λj e=>by have:=hgb _ e;omega)).setCell (by simp) _
theorem rI {n:Nat} {v:Value} {w wr:World} (hn:n<=4096) (h8:8<=n) (hX:aN wr (w.heap.size+1) 150 (kV w.heap.size v)) (hown:wr.ownsRow (w.heap.size+2) 9 1 v n ((List.replicate n nV).map .string))
 (hI:dM wr rowElem w.heap.size 0 (λ_=>none)):∃g,w.heap.size<=g/\bY wr ⟨w.heap.size+1,g,w.heap.size⟩ (List.replicate n nV) (λ_=>none) 0:=by
 obtain⟨g,cap,rfl,hnc,hge,hrow⟩:=Ui (by omega) hown;refine⟨g,by omega,⟨⟨cap,by simpa using hnc,?_⟩,hrow,hI,(λx e hx=>by cases hx),(by simpa using hn),(λx e hx=>by cases hx)⟩⟩;unfold gM;rw[List.length_replicate];exact hX
theorem tO (n:Nat) (w:World) (h8:8<=n) (hn:n<=4096):
 Calls prog 27 #[.int J n] w λe w'=>∃b:dN,e=aG (τ #[b.p,.int J 0])/\bY w' b (List.replicate n nV) (λ_=>none) 0/\w.heap.size<=b.p/\w.heap.size<=b.g/\w.heap.size<=b.m/\Below w.heap.size w w':=by
 have t1:decide ((n:Int)<8)=false:=by simp;omega
 have t2:decide ((4096:Int)<n)=false:=by simp;omega
 have t3:decide (4096<n)=false:=by simp;omega
 have hmm:=@run_makeMap prog;obtain⟨i0,hi0,hz0,hz1,hz2⟩:=info_parts vG
 go_enter func27,ntmps27
 go_wp2_with fail;clear hmm
 go_loopw [15] (λc wr=>Xx n w c wr) (λc _=>n-(intOf c).toNat)
 case atStart=>
  refine⟨0,.slice none 0 0,aB _,rfl,?_,⟨rfl,.inl ⟨rfl,rfl⟩⟩,(dM.new w rowElem).alloc _,((aj _ _).alloc (ah _) _).alloc (by simp) _⟩;have h:=aN.new (w.alloc (.map #[] 0)) 150 (kV w.heap.size (.slice none 0 0));rw[aC]at h;exact h
 case round=>
  obtain⟨m,v,hm,rfl,hX,hown,hI,hB⟩:=hrel
  by_cases hlt:m<n
  ·have q0:(m:Int)<n:=by omega
   have hne:=Oj hown hX (by decide);have hgb:∀r,v.ownBlock=some r->w.heap.size+2<=r:=λr e=>(hown.lt _ e).1;have HX:=U hX;have HOWN:=U hown;have HI:=U hI;have HB:=U hB;unfold kV at hX;have X:=hX.cell;have Xl:=hX.lt;clear hX hown hI hB;go_wp2_with fail
   go_region_law (first|(refine step_append_lies _ rfl (.tmp 21) (.tmp 23) 148 rfl (w.heap.size+2) 9 i0 (.string ⟨#[]⟩) 1 16 underlying148 hi0 hz0 hz1 hz2 rfl (by decide) v m _ rfl HOA.o ⟨w9.heap.size,0,none⟩ 1 1 [.string nV] rfl rfl ?q1 ?q2 (by decide) ?q3 ?q4 ?q5 _ rfl ?_;(case q1=>exact World.news_of_block (aN.new w9 9 #[.string nV]));(case q2=>(intro u hu;simp at hu;subst hu;rfl));(case q3=>(unfold maxLen;omega));(case q4=>omega);(case q5=>(have:=Of.o.size;have:=xal;simp at this⊢;omega));intro g cap w1 hown1 hgrow hat hlt9;have jv:=U (aN.kept XA.o hgrow hne);have y3:=jv.o.cell 3;have fy:=jv.o.free 3;have yl:=jv.o.lt;simp only[kV,au,av,ay]at y3)|(go_simp;refine(kU _).mono ?_;rintro e w9 ⟨rfl,b9⟩;have HB99:=U b9;have zP:=U (aN.later (aN.drew HX.o) b9);have Of:=U (HB.o.drew.trans (b9.mono HB.o.size));have XA:=U (zP.o.alloc (aH #[.string nV] 9));have HOA:=U (uz (uz (show wr.drew.ownsRow (w.heap.size+2) 9 1 v m _ from HOWN.o) b9) ((aj _ _).alloc (ah _) (aH #[.string nV] 9)));have x9:=zP.o.cell 3;have xl:=zP.o.lt;have xa:=XA.o.cell 3;have xal:=XA.o.lt;simp only[kV,au,av,ay]at x9 xa))
   all_goals(go_wp2_with fail;exact⟨Xy hlt jv.o hown1 HI.o Of.o HB99.o hgrow hgb,by simp[intOf];omega⟩)
  ·obtain rfl:m=n:=by omega
   obtain⟨g,hg,hD⟩:=rI hn h8 hX hown hI;have HD:=U hD;have HB:=U hB;clear hD hX hown hI hB
   go_wp2
   go_ret2;exact⟨⟨w.heap.size+1,g,w.heap.size⟩,rfl,HD.o,by simp,hg,ah _,HB.o⟩
open Go.Sort
theorem Kg (m:Nat):AnyZI.SortsIn prog sortedInt_ren Fence.wide m:=
 ⟨λblk off cap ss W hH hblk hsz=>callsIn_wide.2 (AnyM.slices_Sort_int sortInt blk off cap ss W hH hblk hsz),
  λp cap W=>callsIn_wide.2 (AnyM.slices_Sort_int_none sortInt p cap W)⟩
theorem Ol (mb:Option Nat) (W:World):CallsIn Fence.wide 5 prog 215 #[.map mb] W λe w'=>e=aG (.func (.func 274) #[] #[W.heap.size])/\w'=W.alloc (aH #[.map mb] 145):=
 AnyZI.keys_in keysDev Fence.wide 5 trivial rfl mb W
def KeysOf (f:Int->Option (DataW Unit)) (ss:List Int):Prop:=ss.Nodup/\∀x,x∈ss↔(f x).isSome=true
theorem uM {W:World} {R:lH} {b nn:Nat} {D:DataW Unit} {f:Int->Option (DataW Unit)} (hown:W.ownsMap prog 3 R b nn D) (hf:∀x:Int,has D (.int J x)=(f x).isSome) {ss:List Int} (hp:ss.Perm (intKeys D)):KeysOf f ss:=by
 obtain⟨es,hD,hpw,_⟩:=hown.entries (Maps.int_keyed underlying3);obtain⟨es',hD',hko⟩:=hown.keysOf;obtain rfl:es=es':=by rw[hD]at hD';simpa using hD'
 subst hD
 have hk:∀p∈es,∃x,p.1=.int J x:=λp hp=>by
  obtain⟨v,hv⟩:=hko p hp;obtain⟨x,_,hx,_⟩:=Maps.keyOf_i64 underlying3 hv;exact⟨x,hx⟩
 have e1:intKeys (DataW.map es)=es.map (λp=>Go.intOf p.1):=rfl;rw[e1]at hp;refine⟨hp.nodup_iff.2 ?_,λx=>?_⟩
 ·refine List.pairwise_map.2 (hpw.imp_of_mem λ{p q} hp' hq' hne e=>hne ?_)
  obtain⟨a,ha⟩:=hk p hp';obtain⟨c,hc⟩:=hk q hq';rw[ha,hc]at e⊢;exact congrArg _ e
 ·rw[hp.mem_iff,<-hf x,has_eq,List.any_eq_true,List.mem_map]
  constructor
  ·rintro⟨p,hp',rfl⟩
   obtain⟨a,ha⟩:=hk p hp';exact⟨p,hp',by rw[ha];simp[Lit.sameKey,Go.intOf]⟩
  ·rintro⟨p,hp',hs⟩
   obtain⟨a,ha⟩:=hk p hp';rw[ha]at hs;exact⟨p,hp',by rw[ha];simpa[Lit.sameKey,Go.intOf]using hs⟩
theorem GU {R:lH} (b nn:Nat) (f:Int->Option (DataW Unit)) (w:World) (h:dM w R b nn f) (hnn:nn<=1099511627776):
 CallsIn Fence.wide 5 prog 137 #[.func (.func 274) #[] #[w.heap.size]] (w.alloc (aH #[.map (some b)] 145)) λe w'=>∃(v:Value) (ss:List Int),e=aG v/\KeysOf f ss/\
  w'.ownsRow (w.alloc (aH #[.map (some b)] 145)).heap.size 3 1 v ss.length (ss.map encZ)/\Below (w.alloc (aH #[.map (some b)] 145)).heap.size (w.alloc (aH #[.map (some b)] 145)) w':=by
 obtain⟨D,hown,hf⟩:=h;have hbl:=hown.lt;have hsz:=hown.size_le
 have hseq:SeqGives Fence.wide 2 prog 274 #[w.heap.size] encZ (λss=>ss.Perm (intKeys D)) (Maps.size D) (w.alloc (aH #[.map (some b)] 145)):=
  AnyZI.keys_gives (ρ:=keysDev_ren) {keysDev with} Fence.wide _ trivial rfl (by omega) w.heap.size b nn D _ (by simp) (by simp) (by
   obtain⟨es,clock,hb,Ft,hs,hD⟩:=hown;exact⟨es,clock,(Below.heap_alloc _ _ b hbl).trans hb,Ft,hs,hD⟩)
 have cS:=AnyZI.sorted_in sortedInt Fence.wide 5 trivial trivial trivial trivial rfl (by omega) (Kg _) (enters_of func223 (by kernel_rfl) rfl) 274 #[w.heap.size] trivial (enters_of func274 (by kernel_rfl) rfl) _ _ (by unfold maxLen;omega) (by omega) _ hseq;refine CallsIn.mono cS ?_;rintro e w' ⟨v,ss,rfl,hp,hrow,_,hb⟩;refine⟨v,ss.mergeSort (λx y=>decide (x<=y)),rfl,uM hown (λx=>(hf x).1) ((List.mergeSort_perm _ _).trans hp),?_,hb⟩;rw[List.length_mergeSort];exact hrow
end Dev
namespace Tx
open Go.RowKit Go.Shelf Go.Maps Go.Sort Oct Dev mU
theorem Uj {W:World} {R:lH} {b nn:Nat} {f:Int->Option (DataW Unit)} (h:dM W R b nn f) {t e:TypeId} (ht:prog.underlying t=some (.map 3 e)):
 ∃ss:List Int,KeysOf f ss/\dM W R b ss.length f/\∀m ty,(Builtin.len_ #[t] ty #[.map (some b)]).run prog (W.drewN m)=.ok (.int J ss.length) (W.drewN m):=by
 obtain⟨D,h1,h2⟩:=h;have hk:=uM h1 (λx=>(h2 x).1) (List.Perm.refl (intKeys D))
 have hl:(intKeys D).length=Maps.size D:=by
  obtain⟨es,hD,_⟩:=h1.entries (Maps.int_keyed underlying3);subst hD;have e1:intKeys (DataW.map es)=es.map (λp=>Go.intOf p.1):=rfl;rw[e1,List.length_map]
  rfl
 refine⟨intKeys D,hk,⟨D,?_,h2⟩,λm ty=>?_⟩
 ·rw[hl]
  obtain⟨es,clock,hb,aL,hs,hD⟩:=h1;refine⟨es,clock,hb,aL,?_,hD⟩;rw[hD];show es.size<=List.length (List.foldr DataW.insert [] _);rw[length_sorted]
  simp
 ·rw[hl]
  exact World.ownsMap.len (w:=W.drewN m) h1 ht ty
section
variable {T:xL} {b:dN} {hard:List ByteArray} {k nn fr n:Nat} {f:Wrote}
theorem TJ.keys {W:World} (h:TJ W T b hard k f nn fr n):∃ss:List Int,KeysOf (fG f) ss/\TJ W T b hard k f ss.length fr n/\∀m ty,(Builtin.len_ #[98] ty #[.map (some T.m)]).run prog (W.drewN m)=.ok (.int J ss.length) (W.drewN m):=by
 obtain⟨ss,h1,h2,h3⟩:=Uj h.tx.map vQ;exact⟨ss,h1,⟨⟨h.tx.tx,h2,h.tx.dev⟩,h.MZ,h.ne⟩,h3⟩
theorem Om (i q:Nat) (s:ByteArray) (w:World) (h:TJ w T b hard k f nn fr n) (hi:i<hard.length) (hs:s.size=64) (hn:n<=256) (hf:f i=none) (hlen:∀m ty,(Builtin.len_ #[98] ty #[.map (some T.m)]).run prog (w.drewN m)=.ok (.int J q) (w.drewN m)) (hq:fH n<=q):
 Calls prog 234 #[T.p,.int J i,.string s] w λe w'=>e=aG (.int J 4)/\Below w.heap.size w w':=by
 have hl:=h.tx.dev.len;have OP:=U (mR w h.tx);have LN:=U (qx w h.tx.dev);obtain⟨gen,_,Xw⟩:=h.MZ;have MX:=U (λm=>GQ T.j b fr n gen (w.drewN m) (aN.below Xw (aN.lt Xw) (Go.below_drewN (aj _ _) _)) (by omega) |>.mono λe w' (h:_/\_)=>(⟨h.1,h.2.symm⟩:_/\w'=w.drewN m));have hlk:=GL h.tx i (by omega);have q0:decide ((i:Int)<0)=false:=by simp
 have q1:decide ((hard.length:Int)<=(i:Int))=false:=by simp;omega
 have q2:decide (hard.length<=i)=false:=by simp;omega
 have q3:((s.size:Int)!=64)=false:=by simp;omega
 have hX:=h.tx.tx;have X:=hX.cell;have Xl:=hX.lt;clear hX h;rw[hf]at hlk;simp only[Option.getD_none,Option.isSome_none]at hlk;have d5:decide (((fH n:Nat):Int)<=(q:Int))=true:=by simp;omega
 have d6:decide (fH n<=q)=true:=by simp;omega
 go_enter func234,ntmps234
 go_wp2_with fail;refine OP.o.mono ?_;rintro e w9 ⟨rfl,rfl⟩;go_wp2_with fail;refine LN.o.mono ?_;rintro e w9 ⟨rfl,rfl⟩;go_wp2_with fail
 go_quiet ((go_at_call 132;exact Calls.quiet_of_same (MX.o _)))
 go_wp2
 go_ret;exact⟨rfl,Go.below_drewN (aj _ _) _⟩
def Out (ok full:Value) (aM aL:World->Prop) (e:Ending) (w':World):Prop:=(e=aG ok/\aM w')\/(e=aG full/\aL w')
def NoRoom (f:Wrote) (i n:Nat):Prop:=f i=none/\∃ss:List Int,KeysOf (fG f) ss/\fH n<=ss.length
theorem rK {f:Wrote} {ss:List Int} {N:Nat} (h:KeysOf (fG f) ss) (hd:∀x:Int,(f x).isSome=true->∃q:Nat,x=q/\q<N):ss.length<=N:=by
 have h1:(ss.map Int.toNat).Nodup:=by
  refine List.pairwise_map.2 (h.1.imp_of_mem λ{a c} ha hc hne e=>hne ?_);obtain⟨p,rfl,_⟩:=hd a (by have:=(h.2 a).1 ha;unfold fG at this;simpa using this);obtain⟨q,rfl,_⟩:=hd c (by have:=(h.2 c).1 hc;unfold fG at this;simpa using this);have e2:p=q:=by simpa using e
  rw[e2]
 have h2:∀x∈ss.map Int.toNat,x∈List.range N:=λx hx=>by
  obtain⟨a,ha,rfl⟩:=List.mem_map.1 hx;obtain⟨p,rfl,hp⟩:=hd a (by have:=(h.2 a).1 ha;unfold fG at this;simpa using this)
  simpa using hp
 have h3:=List.Nodup.length_le_of_subset h1 h2
 simpa using h3
def QH (f:Wrote) (n:Nat):Prop:=∃ss:List Int,KeysOf (fG f) ss/\ss.length<=fH n
theorem Kh (n:Nat):QH (λ_=>none) n:=⟨[],⟨List.nodup_nil,λa=>by simp[fG]⟩,aB _⟩
theorem Ki (f:Wrote) (i:Nat) (s:ByteArray) (a:Int):(fG (ni f i s) a).isSome=true↔a=i\/(fG f a).isSome=true:=by
 unfold fG ni
 by_cases e:a=(i:Int)
 ·simp[e]
 ·simp[e]
theorem Xz {f:Wrote} {n i:Nat} {s:ByteArray} (hf:(f i).isSome=true) (h:QH f n):QH (ni f i s) n:=by
 obtain⟨ss,⟨h1,h2⟩,h3⟩:=h;refine⟨ss,⟨h1,λa=>?_⟩,h3⟩;rw[Ki,<-h2 a]
 constructor
 ·exact .inr
 ·rintro(rfl|q)
  ·rw[h2];unfold fG;simpa using hf
  ·exact q
theorem XB {f:Wrote} {n i:Nat} {s:ByteArray} {ss:List Int} (hf:(f i).isSome=false) (h:KeysOf (fG f) ss) (hl:ss.length<fH n):QH (ni f i s) n:=by
 refine⟨(i:Int)::ss,⟨List.nodup_cons.2 ⟨λhm=>?_,h.1⟩,λa=>?_⟩,hl⟩
 ·have:=(h.2 _).1 hm
  unfold fG at this;rw[Option.isSome_map]at this;rw[hf]at this;cases this
 ·rw[Ki,List.mem_cons,h.2 a]
theorem Kj (i:Nat) (s:ByteArray) (w:World) (h:TJ w T b hard k f nn fr n) (hi:i<hard.length) (hs:s.size=64) (hn:n<=256) (hd:∀x:Int,(f x).isSome=true->∃q:Nat,x=q/\q<hard.length):
 Calls prog 234 #[T.p,.int J i,.string s] w (Out (.int J 0) (.int J 4) (λw'=>(∃GX,TJ w' T b hard k (ni f i s) GX fr n/\(QH f n->QH (ni f i s) n))/\aR (λc=>c=T.m) w w') (λw'=>NoRoom f i n/\Below w.heap.size w w')):=by
 obtain⟨ss,h1,h2,h3⟩:=h.keys;have hle:=rK h1 hd;have hl:=h.tx.dev.len
 by_cases hk:(f i).isSome=true\/ss.length<fH n
 ·refine(Uh i s w h2 hi hs hn hk (by omega)).mono ?_
  rintro e w' ⟨rfl,r1,r2⟩;refine .inl ⟨rfl,⟨_,r1,λhF=>?_⟩,r2⟩;cases hf:(f i).isSome with
  |true=>exact Xz hf hF
  |false=>exact XB hf h1 (hk.resolve_left (by rw[hf];decide))
 ·have hf:f i=none:=by
   cases hf:f i with
   |none=>rfl
   |some x=>exact absurd (.inl (by rw[hf];rfl)) hk
  have hq:fH n<=ss.length:=by omega
  refine(Om i ss.length s w h2 hi hs hn hf h3 hq).mono ?_;rintro e w' ⟨rfl,r1⟩;exact .inr ⟨rfl,⟨hf,ss,h1,hq⟩,r1⟩
end
end Tx
namespace Wz
open Go.RowKit Go.Shelf Oct Go.Great
def Bd (l:List UInt8):Nat:=(bits .xor F IntKind.u32.max (nQ 4294967295 l)).toNat
theorem Kk (op:BinOp) (x y:Int):0<=bits op F x y/\bits op F x y<4294967296:=by
 have h:=wf_bits op F x y;simp only[Lit.wf,Bool.and_eq_true,decide_eq_true_eq]at h;have h1:0<=bits op F x y/\bits op F x y<=4294967295:=h;omega
theorem QI (l:List UInt8):Bd l<4294967296:=by
 have:=Kk .xor IntKind.u32.max (nQ 4294967295 l);unfold Bd;omega
theorem rL (l:List UInt8):bits .xor F IntKind.u32.max (nQ 4294967295 l)=(Bd l:Int):=by
 have:=Kk .xor IntKind.u32.max (nQ 4294967295 l);unfold Bd;omega
theorem rN (s:ByteArray) (b cap:Nat) (w:World) (hs:s.size<=1099511627776) (hb:w.cell? b=some (.string s)) (hbl:b<w.heap.size):
 Calls prog 314 #[.slice (some b) 1 cap] w λe w'=>e=aG (.int F (Bd (L s)))/\Below w.heap.size w w':=by
 have MO:=U (λW=>WC 4294967295 s W hs);have E:=U (rL (L s))
 generalize nQ 4294967295 (L s)=cc at*
 generalize Bd (L s)=sn at*
 go_enter func314,ntmps314
 go_wp2_with fail;refine wp_loop_rounds 2 ?_;rw[rounds_succ];go_wp2_with fail;refine(MO.o _).mono ?_;rintro e w1 ⟨rfl,b1⟩;go_wp2_with fail;rw[rounds_succ]
 go_wp2
 go_ret;refine⟨?_,b1⟩;rw[<-E.o]
 rfl
def jm (l:List UInt8):List UInt8:=l++eu (Bd l) 4
theorem Km (s:ByteArray) (w:World) (hs:s.size<=1073741824):Calls prog 275 #[.string s] w λe w'=>e=aG (.string (B (jm (L s))))/\Below w.heap.size w w':=by
 have SU:=U (λb cap W hb hl=>rN s b cap W (by omega) hb hl);have NU:=U (λW=>uG (Bd (L s)) 4 W (by omega) (QI _));have hsl:=QI (L s)
 have hE:s++B (eu (Bd (L s)) 4)=B (jm (L s)):=by
  rw[<-SN s,dA]
  rfl
 have HE:=U hE;clear hE;have hz:s.size+(B (eu (Bd (L s)) 4)).size<=1073741900:=by rw[aV,cu];omega
 generalize B (jm (L s))=sl at*
 generalize Bd (L s)=sn at*
 generalize B (eu sn 4)=t4 at*
 have hV:=aN.new w 9 #[.string s];have v0:=hV.cell 0;simp only[au,av]at v0;have vl:=hV.lt;have SU1:=U (SU.o _ 1 _ v0 vl);have HB:=U ((aj _ w).alloc (ah _) (aH #[.string s] 9));clear hV v0 vl SU
 go_enter func275,ntmps275
 go_wp2_with fail;refine SU1.o.mono ?_;rintro e w1 ⟨rfl,b1⟩;have hB1:=HB.o.trans (b1.mono (by simp));clear b1;go_wp2_with fail;refine(NU.o _).mono ?_;rintro e w2 ⟨rfl,b2⟩;have HB2:=U (hB1.trans (b2.mono hB1.size));clear hB1 b2
 go_wp2
 go_ret;refine⟨?_,HB2.o⟩;rw[<-HE.o]
 rfl
def XC (l:List UInt8):Option (List UInt8):=if jm (l.take (l.length-4))=l then some (l.take (l.length-4))else none
theorem mR (s:ByteArray) (w:World) (h4:4<=s.size) (hs:s.size<=1073741824):
 Calls prog 217 #[.string s] w λe w'=>e=aG (match XC (L s)with|some t=>τ #[.string (B t),.int J 0]|none=>τ #[.string ⟨#[]⟩,.int J 7])/\Below w.heap.size w w':=by
 have hx:s.extract 0 (s.size-4)=B ((L s).take ((L s).length-4)):=by
  rw[bZ,<-SN (s.extract 0 (s.size-4))]
  congr 1
  show(s.extract 0 (s.size-4)).data.toList=_;rw[ByteArray.data_extract];simp only[Array.toList_extract,List.extract_eq_take_drop,List.drop_zero,Nat.sub_zero]
  rfl
 unfold XC;obtain⟨t,ht⟩:∃x,(L s).take ((L s).length-4)=x:=⟨_,rfl⟩;rw[ht]at hx⊢;have htl:(B t).size<=1073741824:=by rw[aV,<-ht,List.length_take,bZ];omega
 have SE:=U (λW=>Km (B t) W htl);rw[iy]at SE;have g0:decide ((s.size:Int)<4)=false:=by simp;omega
 have g1:(s.size:Int)-4=((s.size-4:Nat):Int):=by omega
 have g2:s.size-4<=s.size:=by omega
 by_cases hq:jm t=L s
 ·rw[if_pos hq]
  have u1:((B (jm t)).toList !=s.toList)=false:=by rw[hq,SN];simp
  have u3:((B (jm t)).toList==s.toList)=true:=by rw[hq,SN];simp
  have u2:decide ((B (jm t)).toList=s.toList)=true:=by rw[hq,SN];simp
  clear hq
  generalize B (jm t)=st at*
  obtain⟨bt,hbt⟩:∃x,B t=x:=⟨_,rfl⟩;rw[hbt]at SE hx htl;have HBT:=U hbt;clear hbt
  go_enter func217,ntmps217
  go_wp2_with fail;refine(SE.o _).mono ?_;rintro e w1 ⟨rfl,b1⟩
  go_wp2
  go_ret2;have hbt:=HBT.o;subst hbt;exact⟨rfl,b1⟩
 ·rw[if_neg hq]
  have hq2:(B (jm t)).toList≠s.toList:=λe=>hq (by
   rw[ByteArray.toList_eq,ByteArray.toList_eq]at e;exact e)
  have u1:((B (jm t)).toList !=s.toList)=true:=by simpa using hq2
  have u3:((B (jm t)).toList==s.toList)=false:=by simpa using hq2
  have u2:decide ((B (jm t)).toList=s.toList)=false:=by simpa using hq2
  clear hq hq2
  generalize B (jm t)=st at*
  obtain⟨bt,hbt⟩:∃x,B t=x:=⟨_,rfl⟩;rw[hbt]at SE hx htl;have HBT:=U hbt;clear hbt
  go_enter func217,ntmps217
  go_wp2_with fail;refine(SE.o _).mono ?_;rintro e w1 ⟨rfl,b1⟩
  go_wp2
  go_ret2;have hbt:=HBT.o;subst hbt;exact⟨rfl,b1⟩
end Wz
namespace mU
open Go.RowKit Go.Shelf Oct
def zS:ByteArray:=B (List.replicate 64 0)
theorem Kn (n a b:Nat) (hb:b<=n):(B (List.replicate n 0)).extract a b=B (List.replicate (b-a) 0):=by
 rw[Geo.lG,iy,List.drop_replicate,List.take_replicate]
 congr 2
 omega
theorem Uk (w:World):Calls prog 131 #[σ zS] w λe w'=>e=aG (τ #[ι .u64 0,ι J 0])/\Below w.heap.size w w':=by
 have x0:zS.extract 0 18=B (List.replicate 18 0):=Kn 64 0 18 (by omega);have hz:zS.size=64:=by unfold zS;rw[aV];simp
 have hz18:(B (List.replicate 18 0)).size=18:=by rw[aV];simp
 have OP:=U (λW=>Wz.mR (B (List.replicate 18 0)) W (by omega) (by omega));rw[iy]at OP;have x1:(B (List.replicate 14 0)).extract 0 4=B (List.replicate 4 0):=Kn 14 0 4 (by omega);have hz14:(B (List.replicate 14 0)).size=14:=by rw[aV];simp
 have u1:((B (List.replicate 4 0)).toList !=(⟨#[108,117,110,106]⟩:ByteArray).toList)=true:=by
  rw[ByteArray.toList_eq,ByteArray.toList_eq]
  decide
 have u2:((B (List.replicate 4 0)).toList==(⟨#[108,117,110,106]⟩:ByteArray).toList)=false:=by
  rw[ByteArray.toList_eq,ByteArray.toList_eq]
  decide
 have u3:decide ((B (List.replicate 4 0)).toList=(⟨#[108,117,110,106]⟩:ByteArray).toList)=false:=by
  rw[ByteArray.toList_eq,ByteArray.toList_eq]
  decide
 have u4:((B (List.replicate 4 0)).toList==[108,117,110,106])=false:=by
  rw[ByteArray.toList_eq]
  decide
 have u5:((B (List.replicate 4 0)).toList !=[108,117,110,106])=true:=by
  rw[ByteArray.toList_eq]
  decide
 unfold Wz.XC at OP;rw[show(List.replicate 18 (0:UInt8)).take ((List.replicate 18 (0:UInt8)).length-4)=List.replicate 14 0 from rfl]at OP
 by_cases hq:Wz.jm (List.replicate 14 0)=List.replicate 18 0
 ·rw[if_pos hq]at OP
  simp only at OP;clear hq
  generalize B (List.replicate 18 0)=s18 at*
  generalize B (List.replicate 14 0)=s14 at*
  generalize B (List.replicate 4 0)=s4 at*
  generalize zS=zs at*
  go_enter func131,ntmps131
  go_wp2_with fail;refine(OP.o _).mono ?_;rintro e w1 ⟨rfl,b1⟩
  go_wp2
  go_ret2;exact⟨rfl,b1⟩
 ·rw[if_neg hq]at OP
  simp only at OP;clear hq
  generalize B (List.replicate 18 0)=s18 at*
  generalize zS=zs at*
  go_enter func131,ntmps131
  go_wp2_with fail;refine(OP.o _).mono ?_;rintro e w1 ⟨rfl,b1⟩
  go_wp2
  go_ret2;exact⟨rfl,b1⟩
end mU
namespace Dev
open Go.RowKit Go.Shelf Go.Maps Go.Sort
section
attribute [local go_sem] Oper.semAt_some
theorem Um (p:Nat) (w:World):Calls prog 128 #[p] w λe w'=>e=aG (.func (.func 214) #[] #[w.heap.size])/\w.alloc (aH #[p] 29)=w':=by
 go_enter func128,ntmps128
 go_wp2
 go_ret;exact⟨rfl,rfl⟩
def Lays (X Y:World):Prop:=X.grownBy Y none
def Ez (B:Nat) (X Y:World):Prop:=∀c t cs,B<=c->aN X c t cs->aN Y c t cs
def sC (f:Int->Option (DataW Unit)) (pre:List Int) (x:Int):Prop:=(f x).isSome=true/\x∉pre
theorem Bf {W W':World} (h:Below W.heap.size W W'):Lays W W':=⟨h.os,h.tape,h.output,h.size,λk hk _=>h.block k hk⟩
theorem xM {ss:List Int} {k:Nat} (hk:k<ss.length):ss.take (k+1)=ss.take k++[ss[k]]:=by
 rw[List.take_add_one,List.getElem?_eq_getElem hk]
 rfl
theorem Ko {ss:List Int} (h:ss.Nodup) {k:Nat} (hk:k<ss.length):ss[k]∉ss.take k:=λhm=>by
 have h1:(ss.take (k+1)).Nodup:=h.sublist (List.take_sublist _ _);rw[xM hk]at h1;exact(List.nodup_append.1 h1).2.2 _ hm _ (by simp) rfl
theorem QJ {cur:Array Value} {ss:List Int} (ht:cur.toList.take (ss.length*1)=ss.map encZ) {k:Nat} (hk:k<ss.length):cur[k]? =some (.int J ss[k]):=by
 have h2:(cur.toList.take (ss.length*1))[k]? =some (.int J ss[k]):=by rw[ht];simp[hk]
 rw[List.getElem?_take,if_pos (by omega)]at h2
 simpa using h2
theorem Un (n:Nat) (hn:1<=n) {b:dN} {hard:List ByteArray} {pd:iF} {k:Nat} (w:World) (Bs:Nat) (zM:Boxed w Bs 29 (G (some ⟨b.p,0,none⟩))) (hD:bY w b hard pd k) (hk:k<=1099511627776):
 XD Fence.wide n prog 214 #[Bs] (λx:Int=>#[.int J x]) Lays (Ez w.heap.size) (KeysOf (ng pd)) (λ_=>True) (sC (ng pd)) w:=by
 intro l aK Jx W hW hJ hJx hY h0;have VU:bY W b hard pd k:=hD.later hW;have hB0:Boxed W Bs 29 (G (some ⟨b.p,0,none⟩)):=(hW.block Bs zM.lt).trans zM;have hc0:=hB0.cell;have hl0:=hB0.lt;have KD:=U (λW=>callsIn_wide (n:=n-1) |>.2 (callsIn_wide.1 (Ol (some b.m) W)));have SD:=U (callsIn_wide (n:=n-1) |>.2 (callsIn_wide.1 (GU b.m k (ng pd) W VU.map hk)));obtain⟨cap0,hcap,hX⟩:=VU.dev;unfold gM at hX;have X:=hX.cell;have Xl:=hX.lt;have hsz:=hW.size;clear hX VU hB0 zM hD;refine callsIn_of_wp func214 rfl trivial ?_ rfl;simp only[ntmps214,List.size_toArray,List.length_cons,List.length_nil,Nat.reduceAdd,Nat.reduceSub,Array.replicate_succ,Array.replicate_zero,List.push_toArray,List.append_toArray,List.nil_append,List.cons_append]
 gi_wp2_with fail
 refine⟨trivial,(KD.o _).mono ?_⟩;rintro e w1 ⟨rfl,rfl⟩
 gi_wp2_with fail
 refine⟨trivial,SD.o.mono ?_⟩;rintro e w2 ⟨v,ss,rfl,hks,hrow,b2⟩;have hJ2:aK [] w2:=hJ _ _ _ h0 (Bf (((aj _ W).alloc (ah _) (aH #[.map (some b.m)] 145)).trans (b2.mono (by simp))));clear hc0 hl0 X Xl KD SD
 rcases hrow.2 with⟨rfl,hz⟩|⟨g,cap,cur,rfl,hbase,hg,hnc,hcm,hcs,ht⟩
 ·obtain rfl:=List.eq_nil_of_length_eq_zero hz
  gi_wp2
  gi_loopw [12] (λc wr=>c=.int J 0/\wr=w2) (λ_ _=>0)
  case atStart=>exact⟨rfl,rfl⟩
  case round=>
   obtain⟨rfl,rfl⟩:=hrel
   gi_wp2
   go_end0;exact⟨⟨_,rfl⟩,.inl ⟨[],hks,hJ2⟩⟩
 ·have hgB:w.heap.size<=g:=by simp at hbase;omega
  have hS0:aN w2 g 3 cur:=hg;have hlm:ss.length<=9223372036854775807:=by unfold maxLen at hcm;omega
  clear hrow hg b2 hbase
  gi_wp2
  gi_loopw [12] (λc wr=>∃q:Nat,q<=ss.length/\c=.int J q/\aK (ss.take q) wr/\aN wr g 3 cur) (λc _=>ss.length-(intOf c).toNat)
  case atStart=>exact⟨0,aB _,rfl,hJ2,hS0⟩
  case round=>
   obtain⟨q,hq,rfl,Pr,hS⟩:=hrel
   by_cases hlt:q<ss.length
   ·have c1:=(hS.cell q).trans (QJ ht hlt)
    have q0:(0:Int)<=q:=by omega
    have q1:(q:Int)<ss.length:=by omega
    have hSl:=hS.lt;have hSn:=hS;obtain⟨fn,tmps,assign,body,hy,hR⟩:=hY _ ss[q] wr Pr ⟨(hks.2 _).1 (List.getElem_mem hlt),Ko hks.1 hlt⟩;have HS:=U hSn;clear hS hSn
    gi_wp2
    refine hR.mono ?_;rintro e W3 (⟨rfl,hJ3,hk3⟩|⟨rfl,hJx3⟩)
    ·gi_wp2
     go_roundw
     case rel=>exact⟨q+1,by omega,by simp,by rw[xM hlt];exact hJ3,hk3 _ _ _ hgB HS.o⟩
     case measure=>first|omega|(simp[Go.RowKit.intOf];omega)|(show ss.length-((q:Int)+1).toNat<ss.length-(q:Int).toNat;omega)
    ·gi_wp2
     refine bodyPost_ret (results_none rfl _ _ _) rfl ?_;exact⟨⟨_,rfl⟩,.inr ⟨_,trivial,hJx3⟩⟩
   ·obtain rfl:q=ss.length:=by omega
    gi_wp2
    go_end0;rw[List.take_length]at Pr;exact⟨⟨_,rfl⟩,.inl ⟨ss,hks,Pr⟩⟩
end
theorem Uo (mb:Option Nat) (W:World):CallsIn Fence.wide 5 prog 138 #[.map mb] W λe w'=>e=aG (.func (.func 224) #[] #[W.heap.size])/\w'=W.alloc (aH #[.map mb] 98):=
 AnyZI.keys_in keysTx Fence.wide 5 trivial rfl mb W
theorem Kq {R:lH} (b nn:Nat) (f:Int->Option (DataW Unit)) (w:World) (h:dM w R b nn f) (hnn:nn<=1099511627776):
 CallsIn Fence.wide 5 prog 137 #[.func (.func 224) #[] #[w.heap.size]] (w.alloc (aH #[.map (some b)] 98)) λe w'=>∃(v:Value) (ss:List Int),e=aG v/\KeysOf f ss/\
  w'.ownsRow (w.alloc (aH #[.map (some b)] 98)).heap.size 3 1 v ss.length (ss.map encZ)/\Below (w.alloc (aH #[.map (some b)] 98)).heap.size (w.alloc (aH #[.map (some b)] 98)) w':=by
 obtain⟨D,hown,hf⟩:=h;have hbl:=hown.lt;have hsz:=hown.size_le
 have hseq:SeqGives Fence.wide 2 prog 224 #[w.heap.size] encZ (λss=>ss.Perm (intKeys D)) (Maps.size D) (w.alloc (aH #[.map (some b)] 98)):=
  AnyZI.keys_gives (ρ:=keysTx_ren) {keysTx with} Fence.wide _ trivial rfl (by omega) w.heap.size b nn D _ (by simp) (by simp) (by
   obtain⟨es,clock,hb,Ft,hs,hD⟩:=hown;exact⟨es,clock,(Below.heap_alloc _ _ b hbl).trans hb,Ft,hs,hD⟩)
 have cS:=AnyZI.sorted_in sortedInt Fence.wide 5 trivial trivial trivial trivial rfl (by omega) (Kg _) (enters_of func223 (by kernel_rfl) rfl) 224 #[w.heap.size] trivial (enters_of func224 (by kernel_rfl) rfl) _ _ (by unfold maxLen;omega) (by omega) _ hseq;refine CallsIn.mono cS ?_;rintro e w' ⟨v,ss,rfl,hp,hrow,_,hb⟩;refine⟨v,ss.mergeSort (λx y=>decide (x<=y)),rfl,uM hown (λx=>(hf x).1) ((List.mergeSort_perm _ _).trans hp),?_,hb⟩;rw[List.length_mergeSort];exact hrow
end Dev
namespace Tx
open Go.RowKit Go.Shelf Go.Maps Go.Sort Oct Dev mU
section
attribute [local go_sem] Oper.semAt_some
def KpT (B:Nat) (T:xL) (X Y:World):Prop:=(∀c cs,B<=c->aN X c 3 cs->aN Y c 3 cs)/\(∀cs,aN X T.p 100 cs->aN Y T.p 100 cs)/\Y.heap[T.m]? =X.heap[T.m]?
def SEach (f:Wrote) (xs:List (Int×ByteArray)):Prop:=KeysOf (fG f) (xs.map Prod.fst)/\∀x∈xs,f x.1=some x.2
def sE (f:Wrote) (pre:List (Int×ByteArray)) (x:Int×ByteArray):Prop:=f x.1=some x.2/\x.1∉pre.map Prod.fst
def Bg (f:Wrote) (x:Int):Int×ByteArray:=(x,(f x).getD ⟨#[]⟩)
theorem EA (f:Wrote) (l:List Int):(l.map (Bg f)).map Prod.fst=l:=by
 rw[List.map_map];exact List.map_id l
theorem XE (n:Nat) (hn:1<=n) {T:xL} {f:Wrote} {nn:Nat} (w:World) (v0 v1 v3:Value) (hX:aN w T.p 100 #[v0,v1,.map (some T.m),v3]) (hM:dM w GH T.m nn (fG f)) (hnn:nn<=1099511627776) (hdm:∀x s,f x=some s->∃i:Nat,x=i/\i<=4096):
 QK Fence.wide n prog 71 #[T.p] (λx:Int×ByteArray=>#[.int J x.1,.string x.2]) Lays (KpT w.heap.size T) (SEach f) (λ_=>True) (sE f) w:=by
 intro l aK Jx W hW hJ hJx hY h0;have uw:aN W T.p 100 _:=hX.later hW;have hMW:dM W GH T.m nn (fG f):=hM.later hW;have KD:=U (λW=>callsIn_wide (n:=n-1) |>.2 (callsIn_wide.1 (Uo (some T.m) W)));have SD:=U (callsIn_wide (n:=n-1) |>.2 (callsIn_wide.1 (Kq T.m nn (fG f) W hMW hnn)));have HXW:=U uw;have HMW:=U hMW;have X:=uw.cell;have Xl:=uw.lt;have hsz:=hW.size;have zC:=hM.lt;have QL:=hX.lt;clear uw hMW hX hM;refine callsIn_of_wp func71 rfl trivial ?_ rfl;simp only[ntmps71,List.size_toArray,List.length_cons,List.length_nil,Nat.reduceAdd,Nat.reduceSub,Array.replicate_succ,Array.replicate_zero,List.push_toArray,List.append_toArray,List.nil_append,List.cons_append]
 gi_wp2_with fail
 refine⟨trivial,(KD.o _).mono ?_⟩;rintro e w1 ⟨rfl,rfl⟩
 gi_wp2_with fail
 refine⟨trivial,SD.o.mono ?_⟩;rintro e w2 ⟨v,ss,rfl,hks,hrow,b2⟩;have hB2:=((aj _ W).alloc (ah _) (aH #[.map (some T.m)] 98)).trans (b2.mono (by simp));have hJ2:aK [] w2:=hJ _ _ _ h0 (Bf hB2);have fU:=U (show aN w2 T.p 100 _ from HXW.o.later hB2);have HM2:=U (HMW.o.later hB2);clear X Xl KD SD hB2
 rcases hrow.2 with⟨rfl,hz⟩|⟨g,cap,cur,rfl,hbase,hg,hnc,hcm,hcs,ht⟩
 ·obtain rfl:=List.eq_nil_of_length_eq_zero hz
  gi_wp2
  gi_loopw [13] (λc wr=>c=.int J 0/\wr=w2) (λ_ _=>0)
  case atStart=>exact⟨rfl,rfl⟩
  case round=>
   obtain⟨rfl,rfl⟩:=hrel
   gi_wp2
   go_end0;exact⟨⟨_,rfl⟩,.inl ⟨[],⟨hks,λx hx=>by cases hx⟩,hJ2⟩⟩
 ·have hgB:w.heap.size<=g:=by simp at hbase;omega
  have hS0:aN w2 g 3 cur:=hg;have hlm:ss.length<=9223372036854775807:=by unfold maxLen at hcm;omega
  clear hrow hg b2 hbase
  gi_wp2
  gi_loopw [13] (λc wr=>∃q:Nat,q<=ss.length/\c=.int J q/\aK ((ss.take q).map (Bg f)) wr/\aN wr g 3 cur/\aN wr T.p 100 #[v0,v1,.map (some T.m),v3]/\dM wr GH T.m nn (fG f)) (λc _=>ss.length-(intOf c).toNat)
  case atStart=>exact⟨0,aB _,rfl,hJ2,hS0,fU.o,HM2.o⟩
  case round=>
   obtain⟨q,hq,rfl,Pr,hS,Dj,hMr⟩:=hrel
   by_cases hlt:q<ss.length
   ·have c1:=(hS.cell q).trans (QJ ht hlt)
    have q0:(0:Int)<=q:=by omega
    have q1:(q:Int)<ss.length:=by omega
    have hSl:=hS.lt;have HS:=U hS;have HXr:=U Dj;have HMr:=U hMr
    obtain⟨s,hs⟩:∃s,f ss[q]=some s:=by
     have:=(hks.2 _).1 (List.getElem_mem hlt);unfold fG at this;cases e:f ss[q]with
     |none=>rw[e]at this;simp at this
     |some s=>exact⟨s,rfl⟩
    have hsn:(ss.take (q+1)).map (Bg f)=(ss.take q).map (Bg f)++[(ss[q],s)]:=by
     rw[xM hlt,List.map_append];unfold Bg
     simp[hs]
    obtain⟨i,hi,hi4⟩:=hdm _ _ hs;obtain⟨fn,tmps,assign,body,hy,hR⟩:=hY _ (ss[q],s) wr Pr ⟨hs,by rw[EA];exact Ko hks.1 hlt⟩
    have hlk:(Instr.lookup 98 (.map (some T.m)) (.int J ss[q]) false).run prog wr=.ok (.string s) wr:=by
     obtain⟨v,ps,hrun,hv⟩:=hMr.look vQ (Ke wr) (GI ⟨#[]⟩) ss[q] (by rw[hi];exact mQ i (by omega));unfold fG at hv;rw[hs]at hv;rw[hrun,Kc hv]
    have Js:=U hsn;have Y:=Dj.cell;have Yl:=Dj.lt;clear hS Dj hMr hsn
    generalize ss[q]=z at*
    subst hi
    gi_wp2
    refine hR.mono ?_;rintro e W3 (⟨rfl,hJ3,hk3⟩|⟨rfl,hJx3⟩)
    ·gi_wp2
     go_roundw
     case rel=>exact⟨q+1,by omega,by simp,by rw[Js.o];exact hJ3,hk3.1 _ _ hgB HS.o,hk3.2.1 _ HXr.o,HMr.o.block hk3.2.2⟩
     case measure=>first|omega|(simp[Go.RowKit.intOf];omega)|(show ss.length-((q:Int)+1).toNat<ss.length-(q:Int).toNat;omega)
    ·gi_wp2
     refine bodyPost_ret (results_none rfl _ _ _) rfl ?_;exact⟨⟨_,rfl⟩,.inr ⟨_,trivial,hJx3⟩⟩
   ·obtain rfl:q=ss.length:=by omega
    gi_wp2
    go_end0;rw[List.take_length]at Pr;refine⟨⟨_,rfl⟩,.inl ⟨ss.map (Bg f),⟨by rw[EA];exact hks,λx hx=>?_⟩,Pr⟩⟩;obtain⟨y,hy,rfl⟩:=List.mem_map.1 hx;have:=(hks.2 y).1 hy;unfold fG at this;unfold Bg;cases e:f y with
    |none=>rw[e]at this;simp at this
    |some s=>rfl
end
