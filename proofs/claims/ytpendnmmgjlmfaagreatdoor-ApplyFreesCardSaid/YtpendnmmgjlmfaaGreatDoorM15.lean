/- Lemmas. -/
import Derived.Test.YtpendnmmgjlmfaaGreatDoorM14
import Derived.StringKeys
set_option linter.unusedVariables false
set_option linter.unusedSimpArgs false
namespace Go.Proofs.YtpendnmmgjlmfaaGreatDoor
open Go.Proofs.Tryz
open IntKind renaming i64→J,u32→F
open Value renaming pointer→G,int->ι,string->σ,bool->ν,tuple->τ,agg->γ
open Ending renaming returned→aG
open Obj renaming cells→aH
set_option maxRecDepth 100000
set_option maxHeartbeats 4000000
namespace Dir
open Go.RowKit Go.Shelf Oct Path
section
attribute [local go_sem] Oper.semAt_some
def Ox (n:Int):DataW Unit:=.agg [.lit (.int J n)]
def zQ (v:Value):Option (DataW Unit×List MemPlace):=match v with
 | .agg cs=>match cs.toList with
   |[.int J n]=>some (Ox n,[])
   |_=>none
 |_=>none
theorem Bq (n:Int):zQ (.agg #[.int J n])=some (Ox n,[]):=rfl
theorem yU {v:Value} {n:Int} {ps:List MemPlace} (h:zQ v=some (Ox n,ps)):v=.agg #[.int J n]:=by
 unfold zQ at h
 split at h
 ·rename_i cs
  split at h
  ·rename_i m hm
   simp only[Ox,Option.some.injEq,Prod.mk.injEq,DataW.agg.injEq,List.cons.injEq,DataW.lit.injEq,Lit.int.injEq,true_and,and_true]at h;obtain⟨rfl,_⟩:=h
   congr 1
   exact Array.toList_inj.1 hm
  ·cases h
 ·cases h
def vV (W:World) (b n:Nat) (S:List (List UInt8)):Prop:=
 ∃D:DataW Unit,W.ownsMap prog 9 zQ b n D/\∀l,D.atKey (.string l) (Ox 0)=if l∈S then Ox 1 else Ox 0
theorem vV.kept {W W':World} {b n:Nat} {S:List (List UInt8)} {row:Option Nat} (h:vV W b n S) (hg:W.grownBy W' row) (hne:some b≠row):vV W' b n S:=by
 obtain⟨D,h1,h2⟩:=h;exact⟨D,h1.kept hg hne,h2⟩
theorem vV.new (W:World):vV (W.alloc (.map #[] 0)) W.heap.size 0 []:=⟨.map [],World.ownsMap_made _ _ _ _,λl=>rfl⟩
theorem vV.look {W:World} {b n:Nat} {S:List (List UInt8)} (h:vV W b n S) (s:ByteArray) (hs:s.size<=maxLen):
 (Instr.lookup 297 (.map (some b)) (.string s) false).run prog W=.ok (.agg #[.int J (if L s∈S then 1 else 0)]) W:=by
 obtain⟨D,h1,h2⟩:=h;obtain⟨v,ps,hrun,hv⟩:=h1.lookup (Maps.string_keyed underlying9) underlying297 (z:=.agg #[.int J 0]) (by kernel_rfl) (Bq 0) (WideMaps.keyOf_string_mk underlying9 hs);rw[show s.data.toList=L s from rfl,h2]at hv;rw[hrun]
 by_cases hm:L s∈S
 ·rw[if_pos hm]at hv⊢
  rw[yU hv]
 ·rw[if_neg hm]at hv⊢
  rw[yU hv]
theorem vV.put {W:World} {b n:Nat} {S:List (List UInt8)} (h:vV W b n S) (hn:n<maxLen) (s:ByteArray) (hs:s.size<=maxLen):
 ∃W',(Instr.mapUpdate 297 (.map (some b)) (.string s) (.agg #[.int J 1])).run prog W=.ok () W'/\vV W' b (n+1) (S++[L s])/\W.grownBy W' (some b):=by
 obtain⟨D,h1,h2⟩:=h;obtain⟨W',hrun,r1,r2⟩:=h1.update (Maps.string_keyed underlying9) underlying297 hn (WideMaps.keyOf_string_mk underlying9 hs) (Bq 1);refine⟨W',hrun,⟨_,r1,λl=>?_⟩,r2⟩;rw[show s.data.toList=L s from rfl]
 by_cases hl:l=L s
 ·subst hl
  rw[Maps.atKey_put_same h1.isMap (show WideAt.IsKeyLit (.string (L s))from trivial),if_pos (by simp)]
 ·rw[Maps.atKey_put_other (by simpa using hl),h2]
  by_cases hm:l∈S
  ·rw[if_pos hm,if_pos (by simp[hm])]
  ·rw[if_neg hm,if_neg (by simp[hm,hl])]
theorem tQ (s:ByteArray) (w:World):Calls prog 158 #[.string s] w λe w'=>e=aG (.func (.func 236) #[] #[w.heap.size])/\w.alloc (aH #[.string s] 9)=w':=by
 go_enter func158,ntmps158
 go_wp2
 go_ret;exact⟨rfl,rfl⟩
theorem nZ (n:Nat) (hn:2<=n) (Bs:Nat) (s:ByteArray) (hs:s.size<=1099511627776) (w:World) (zM:Boxed w Bs 9 (.string s)):
 SeqStopsK Fence.wide n prog 236 #[Bs] (λk=>kY (iZ (L s) k)) (eP Bs 9) (λys=>ys=List.range (s.size/32))
  (λpre=>∃k,k<=s.size/32/\pre=List.range k) (s.size/32) w:=λl aK Jx W hW hA _ hY h0=>
 Ut n hn l Bs s hs aK Jx (λpre W1 W2 h g=>hA pre W1 W2 none h g (λr e=>by cases e)) hY W ((hW.block Bs zM.lt).trans zM) h0
def bn (s:ByteArray) (k:Nat):bC:=oC (gT (L s) k)
def lD (s:ByteArray) (pre:List Nat):List bC:=pre.map (bn s)
theorem jT (s:ByteArray):lD s (List.range (s.size/32))=bX (L s):=rfl
theorem og (s:ByteArray) (pre:List Nat) (k:Nat):lD s (pre++[k])=lD s pre++[bn s k]:=by simp[lD]
theorem QY (t:List UInt8):(oC t).1.length<=27:=by
 unfold oC;cases h:iY t with
 |none=>simp
 |some e=>
  rcases(rH h).1 with h1|h1
  ·subst h1;simp
  ·exact(rJ (je h1.1).2).2
theorem uA {t:List UInt8} (h0:(oC t).2≠0) (h1:(oC t).1=[]):oC t=([],1):=by
 unfold oC at h0 h1⊢;cases h:iY t with
 |none=>rfl
 |some e=>
  rw[h]at h0 h1
  rcases(rH h).1 with h2|h2
  ·subst h2;exact absurd rfl h0
  ·have:=(rJ (je h2.1).2).1
   simp only[Option.getD_some]at h1;rw[h1]at this
   simp at this
def bad (e:bC):Prop:=e.2≠0/\e.1=[]
def pF (s:ByteArray) (pre:List Nat):List (List UInt8):=names (lD s pre)
def Hl (s:ByteArray) (pre:List Nat):Bool:=!decide (pF s pre).Nodup
theorem Uu {s:ByteArray} {pre:List Nat} {k:Nat} (h:(bn s k).2=0):pF s (pre++[k])=pF s pre:=by
 unfold pF;rw[og,kG,qD h]
 simp[names,live]
theorem Uv {s:ByteArray} {pre:List Nat} {k:Nat} (h:(bn s k).2≠0):pF s (pre++[k])=pF s pre++[(bn s k).1]:=by
 unfold pF;rw[og,kG,qE h]
 simp[names,live]
theorem XY {S:List (List UInt8)} {n:List UInt8}:(!decide (S++[n]).Nodup)=((!decide S.Nodup)||decide (n∈S)):=by
 have e:(S++[n]).Nodup↔S.Nodup/\n∉S:=by
  have p:(S++[n]).Perm (n::S):=List.perm_append_singleton n S;rw[p.nodup_iff,List.nodup_cons];exact And.comm
 by_cases h1:S.Nodup<;>by_cases h2:n∈S<;>simp[e,h1,h2]
theorem XZ (s:ByteArray) (pre:List Nat):(pF s pre).length<=pre.length:=by
 unfold pF;rw[<-jf];exact aD (List.length_filter_le _ _) (by simp[lD])
theorem Ya {β:Type} {B b:Nat} (hb:b<B) (f:β->List (List UInt8)):OwnFrom B (λs W=>vV W b (f s).length (f s)):=λs W W' row hs hg hr=>
 hs.kept hg (λe=>by have:=(hr b e.symm).1;omega)
theorem rM {β:Type} {B:Nat} (k:Nat):OwnFrom B (λ(_:β) W=>k<=W.heap.size):=λ_ _ _ _ h hg _=>aD h hg.size
theorem kR {B b:Nat} {t:TypeId} {cs:Array Value} {W W':World} {row:Option Nat} (h:aN W b t cs) (hg:W.grownBy W' row) (hr:∀r,row=some r->B<=r/\∃o:Obj,W.heap[r]? =some o/\o.isCells=false):aN W' b t cs:=
 h.kept hg (λe=>by
  obtain⟨_,o,ho,hc⟩:=hr b e.symm;rw[show W.heap[b]? =_ from h]at ho;cases ho;cases hc)
theorem Yb (n:Nat) (hn:4<=n) (s:ByteArray) (w:World) (hs:s.size<=1099511627776) (h64:s.size%64=0) (hle:s.size<=2304):
 CallsIn Fence.wide n prog 157 #[.string s] w λe w'=>e=aG (.int J (dh (L s)))/\Below w.heap.size w w':=by
 have t1:((s.size:Int)%64 !=0)=false:=by simp;omega
 have t2:decide ((2304:Int)<(s.size:Int))=false:=by simp;omega
 have t3:decide (2304<s.size)=false:=by simp;omega
 have SA:=U (λW=>tQ s W);refine callsIn_of_wp_marks func157 rfl trivial ?_ rfl;simp only[ntmps157,List.size_toArray,List.length_cons,List.length_nil,Nat.reduceAdd,Nat.reduceSub,Array.replicate_succ,Array.replicate_zero,List.push_toArray,List.append_toArray,List.nil_append,List.cons_append];have hmm:=@run_makeMap prog
 gi_wp2_with fail
 refine⟨trivial,(λh=>by cases h),?_⟩;refine(callsIn_wide.2 (SA.o _)).mono ?_;rintro e w' ⟨rfl,rfl⟩;clear hmm
 gi_wp2_with fail
 have bR:=Boxed.new w 35 (.int J 0);have bM:=vV.new (w.alloc (aH #[.int J 0] 35));have bN:=Boxed.new ((w.alloc (aH #[.int J 0] 35)).alloc (.map #[] 0)) 297 (.map (some (w.heap.size+1)));have bT:=Boxed.new (((w.alloc (aH #[.int J 0] 35)).alloc (.map #[] 0)).alloc (aH #[.map (some (w.heap.size+1))] 297)) 4 (.bool false);have bS:=Boxed.new ((((w.alloc (aH #[.int J 0] 35)).alloc (.map #[] 0)).alloc (aH #[.map (some (w.heap.size+1))] 297)).alloc (aH #[.bool false] 4)) 9 (.string s);have hB0:Below w.heap.size w (((((w.alloc (aH #[.int J 0] 35)).alloc (.map #[] 0)).alloc (aH #[.map (some (w.heap.size+1))] 297)).alloc (aH #[.bool false] 4)).alloc (aH #[.string s] 9)):=(((((aj _ w).alloc (ah _) _).alloc (by simp) _).alloc (by simp;omega) _).alloc (by simp;omega) _).alloc (by simp;omega) _;simp only[aC]at bM bN bT bS
 refine wpIn_rangeFunc_ownH rfl (by omega) (gf:=236) (lb:=#[G (some ⟨w.heap.size+1+1+1+1,0,none⟩)]) rfl trivial (enters_of func236 (by kernel_rfl) rfl)
  (nZ (n-1) (by omega) (w.heap.size+1+1+1+1) s hs _ bS) kD (kE (by simp)) (aj _ _) (λ_=>rfl)
  (λpre W=>((∀k∈pre,¬bad (bn s k))/\(Boxed W w.heap.size 35 (.int J 0)/\(Boxed W (w.heap.size+1+1) 297 (.map (some (w.heap.size+1)))/\Boxed W (w.heap.size+1+1+1) 4 (.bool (Hl s pre)))))/\(vV W (w.heap.size+1) (pF s pre).length (pF s pre)/\(w.heap.size+1+1+1+1+1<=W.heap.size/\Below w.heap.size w W)))
  (λc pre W=>((c=.ret/\∃k∈pre,bad (bn s k))/\Boxed W w.heap.size 35 (.int J 7))/\Below w.heap.size w W)
  (OwnFrom.and (OwnFrom.and (ownFrom_pure _ _) (OwnFrom.and (Own.from (boxed_own _ _ _) _) (OwnFrom.and (Own.from (boxed_own _ _ _) _) (Own.from (boxed_own _ _ _) _)))) (OwnFrom.and (Ya (by simp) _) (OwnFrom.and (rM _) (ownFrom_below (ah _) (by simp;omega)))))
  (λc=>OwnFrom.and (OwnFrom.and (ownFrom_pure _ _) (Own.from (boxed_own _ _ _) _)) (ownFrom_below (ah _) (by simp;omega)))
  ⟨⟨λp hp=>by simp at hp,(((bR.alloc _).alloc _).alloc _).alloc _,(bN.alloc _).alloc _,bT.alloc _⟩,((bM.kept (World.grownBy_alloc _ _ none) (by simp)).kept (World.grownBy_alloc _ _ none) (by simp)).kept (World.grownBy_alloc _ _ none) (by simp),by simp,hB0⟩
  (λk a' W=>∃b,w.heap.size+1+1+1+1+1<=b/\aN W b 202 #[.string (B (bn s k).1),.int F (bn s k).2]/\a'={tmps:=#[.string s,undef,G (some ⟨w.heap.size,0,none⟩),G (some ⟨w.heap.size+1+1,0,none⟩),G (some ⟨w.heap.size+1+1+1,0,none⟩),undef,G (some ⟨b,0,none⟩),.string s,.int J (s.size:Int),.int J ((s.size:Int)%64),.bool false,.bool false,.string s,.int J (s.size:Int),.bool false,.bool false,.map (some (w.heap.size+1)),.string s,.func (.func 236) #[] #[G (some ⟨w.heap.size+1+1+1+1,0,none⟩)],.int J (k:Int),.agg #[.string (B (bn s k).1),.int F (bn s k).2],undef,undef,undef,undef,undef,undef,undef,undef,undef,undef,undef,undef,undef,undef,undef,undef,undef,undef,undef,undef,undef,undef],defers:=[]})
  (λk a'=>λ_ W W' row hs hg hr=>by
   obtain⟨b,h1,h2,h3⟩:=hs;exact⟨b,h1,kR h2 hg hr,h3⟩) ?assign ?body ?done ?stop
 case assign=>
  rintro l pre k W K ⟨⟨hp,hR,hN,hT⟩,hM,hz,hB⟩ hK;rw[show iZ (L s) k=(k,bn s k)from rfl]
  dsimp only[kY]
  have HK:=U hK;clear hK
  gi_wp2
  exact HK.o _ _ ((KeepsOthers.alloc _ _).from _) (λv hv=>hv.alloc _) ⟨⟨hp,hR.alloc _,hN.alloc _,hT.alloc _⟩,hM.kept (World.grownBy_alloc _ _ none) (by simp),by simp;omega,hB.alloc (by omega) _⟩ ⟨W.heap.size,hz,aN.new _ _ _,rfl⟩
 case body=>
  rintro l pre k a' W hl hloop ⟨⟨hp,hR,hN,hT⟩,hM,hz,hB⟩ ⟨b,hb,hS,rfl⟩ hlen;have c0:=hS.cell 0;have c1:=hS.cell 1;simp only[au,av,ay]at c0 c1;have hlt:=hS.lt;have cR:=hR.cell;have fR:=hR.frozen;have cN:=hN.cell;have cT:=hT.cell;have fT:=hT.frozen;have hnl:=QY (gT (L s) k);rw[show oC (gT (L s) k)=bn s k from rfl]at hnl;have hml:=XZ s pre
  have Jn:∀q,¬bad (bn s k)->q∈pre++[k]->¬bad (bn s q):=λq hq hm=>by
   rcases List.mem_append.1 hm with h1|h1
   ·exact hp q h1
   ·simp only[List.mem_cons,List.not_mem_nil,or_false]at h1
    rw[h1];exact hq
  have Js:=U Jn;have HMF:Hid ((bn s k).2=0->pF s (pre++[k])=pF s pre):=U Uu;have HML:Hid ((bn s k).2≠0->pF s (pre++[k])=pF s pre++[(bn s k).1]):=U Uv;have HBD:Hid (bad (bn s k)↔(bn s k).2≠0/\(bn s k).1=[]):=U Iff.rfl;have HP:=U hp;clear hl hloop Jn hp hS SA bR bM bN bT bS hB0;obtain⟨Ho,hnm⟩:∃x,(bn s k).1=x:=⟨_,rfl⟩;obtain⟨i,hi⟩:∃x,(bn s k).2=x:=⟨_,rfl⟩;rw[hnm]at c0 hnl;rw[hi]at c1;rw[hnm,hi];have HN:=U hnm;have HI:=U hi;clear hnm hi
  by_cases h0:i=0
  ·subst h0
   have hm:=HMF.o HI.o;have hnb:¬bad (bn s k):=λh=>(HBD.o.1 h).1 HI.o;have E1:=U hm;have E2:Hid (Hl s (pre++[k])=Hl s pre):=U (by unfold Hl;rw[hm]);have E3:=U (λq hq=>Js.o q hnb hq);clear hm hnb
   gi_wp2
   exact⟨KeepsFrom.refl _ _,eP.refl _ _ _,⟨⟨E3.o,hR,hN,by rw[E2.o];exact hT⟩,by rw[E1.o];exact hM,hz,hB⟩⟩
  ·have t0:((i:Int)==0)=false:=by simp;omega
   have t0b:(i==0)=false:=by simp;omega
   have HI0:=U h0;clear h0
   by_cases hn:Ho=[]
   ·subst hn
    have HBB:Hid (bad (bn s k)):=U (HBD.o.2 ⟨by rw[HI.o];exact HI0.o,HN.o⟩);rw[show B []=(⟨#[]⟩:ByteArray)from rfl]at c0;rw[show B []=(⟨#[]⟩:ByteArray)from rfl]
    gi_wp2
    exact⟨(KeepsOthers.setCell _ _ _).from _,⟨⟨rfl,k,by simp,HBB.o⟩,hR.set _⟩,hB.setCell (p:=⟨w.heap.size,0,none⟩) (ah _) _⟩
   ·have n1:(B Ho).toList.isEmpty=false:=vw (by rw[aV];exact List.length_pos_iff.2 hn)
    have hnb:¬bad (bn s k):=λh=>hn (HN.o.symm.trans (HBD.o.1 h).2);have E3:=U (λq hq=>Js.o q hnb hq);have hm:=HML.o (by rw[HI.o];exact HI0.o);rw[HN.o]at hm
    have hd:Hl s (pre++[k])=(Hl s pre||decide (Ho∈pF s pre)):=by
     unfold Hl;rw[hm,XY]
    have E1:=U hm;have hsz:(B Ho).size<=maxLen:=by rw[aV];unfold maxLen;omega
    have LK:=U (hM.look (B Ho) hsz);rw[iy]at LK;obtain⟨d,hdd⟩:∃d,Hl s pre=d:=⟨_,rfl⟩;rw[hdd]at hd cT hT;obtain⟨d',Yc⟩:∃d',(d||decide (Ho∈pF s pre))=d':=⟨_,rfl⟩;rw[Yc]at hd;obtain⟨W2,hput,hM2,hg2⟩:=(hM.kept (grownBy_setCell' W (w.heap.size+1+1+1) (.bool d')) (λe=>by have:=Option.some.inj e;omega)).put (by unfold maxLen;omega) (B Ho) hsz;have E2:=U hd;have hR2:=U ((hR.other (B':=w.heap.size+1+1+1) (by omega) (.bool d')).kept hg2 (λe=>by have:=Option.some.inj e;omega));have hN2:=U ((hN.other (B':=w.heap.size+1+1+1) (by omega) (.bool d')).kept hg2 (λe=>by have:=Option.some.inj e;omega));have CW:Hid (Boxed W2 (w.heap.size+1+1+1) 4 (.bool (Hl s (pre++[k])))):=U (by rw[hd];exact(hT.set (.bool d')).kept hg2 (λe=>by have:=Option.some.inj e;omega));have HG2:=U hg2;have hX2:Hid (eP (w.heap.size+1+1+1+1) 9 W W2):=U (λv hv=>(hv.other (B':=w.heap.size+1+1+1) (by omega) (.bool d')).kept hg2 (λe=>by have:=Option.some.inj e;omega));have hB2:Hid (Below w.heap.size w W2):=U ((hB.setCell (p:=⟨w.heap.size+1+1+1,0,none⟩) (by show w.heap.size<=w.heap.size+1+1+1;omega) (.bool d')).grown hg2 (by simp;omega) (λj e=>by cases e;omega));have hZ2:Hid (w.heap.size+1+1+1+1+1<=W2.heap.size):=U (by have:=hg2.size;simp at this;omega);have hMM:Hid (vV W2 (w.heap.size+1) (pF s (pre++[k])).length (pF s (pre++[k]))):=U (by rw[iy]at hM2;rw[hm,List.length_append];exact hM2);clear hm hd hnb hdd hM hM2 hg2 hR hN hT hsz hB hz hml hnl hlen hn;have FIN:Hid _:=U (And.intro hX2.o (And.intro (And.intro E3.o (And.intro hR2.o (And.intro hN2.o CW.o))) (And.intro hMM.o (And.intro hZ2.o hB2.o))));have hf1:∀W,(Instr.field 299 (.agg #[.int J 1]) 0).run prog W=.ok (.int J 1) W:=λ_=>by kernel_rfl
    have hf0:∀W,(Instr.field 299 (.agg #[.int J 0]) 0).run prog W=.ok (.int J 0) W:=λ_=>by kernel_rfl
    by_cases hmem:Ho∈pF s pre
    ·rw[if_pos hmem]at LK
     have hdt:d'=true:=by rw[<-Yc];simp[hmem]
     subst hdt;have hlk:=LK.o;clear hmem Yc LK hX2 hB2 hZ2 hMM hR2 hN2 CW E3 hf0;cases d
     iterate 2
        ·gi_wp2
         exact⟨((KeepsOthers.setCell W ⟨w.heap.size+1+1+1,0,none⟩ _).from _).trans (KeepsFrom.of_grownBy HG2.o (λj e=>by cases e;simp)),FIN.o⟩
    ·rw[if_neg hmem]at LK
     have hdt:d'=d:=by rw[<-Yc];simp[hmem]
     subst hdt;have hlk:=LK.o;clear hmem Yc LK hX2 hB2 hZ2 hMM hR2 hN2 CW E3 hf1;cases d'
     iterate 2
        ·gi_wp2
         exact⟨((KeepsOthers.setCell W ⟨w.heap.size+1+1+1,0,none⟩ _).from _).trans (KeepsFrom.of_grownBy HG2.o (λj e=>by cases e;simp)),FIN.o⟩
 case done=>
  rintro D ys W hD rfl ⟨⟨hp,hR,hN,hT⟩,hM,hz,hB⟩ hK;have hT':Boxed W (w.heap.size+1+1+1) 4 (.bool (!decide (names (bX (L s))).Nodup)):=hT
  have hnb:([],1)∉bX (L s):=λhm=>by
   rw[<-jT]at hm;obtain⟨k,hk,he⟩:=List.mem_map.1 hm;exact hp k hk (by rw[he];exact⟨by decide,rfl⟩)
  have hE:dh (L s)=if(!decide (names (bX (L s))).Nodup)=true then 9 else 0:=by
   unfold dh;rw[if_neg (by rw[bZ];omega),if_neg hnb]
   by_cases h:(names (bX (L s))).Nodup<;>simp[h]
  have HE:=U hE
  generalize (!decide (names (bX (L s))).Nodup)=d at*
  clear hE hnb hT hp;have cR:=hR.cell;have fR:=hR.frozen;have cT:=hT'.cell;cases d
  ·gi_wp2
   have hK':=(KeepsOthers.setCell W ⟨w.heap.size,0,none⟩ (.int J 0)).same D _ hK rfl;refine⟨by simp,.inl ⟨_,_,rfl,run_takeDeferred hK',?_⟩⟩;have VW:=cell_kept (hR.set (.int J 0)).cell (grownBy_putObj' _ D (.deferred none)) (λr e=>by cases e;exact⟨_,hK',rfl⟩);refine⟨.int J 0,?_,by rw[HE.o];rfl,(hB.setCell (p:=⟨w.heap.size,0,none⟩) (ah _) _).trans (belowK_b (w:=w) (ah _) _ D _ _ (by simp at hD;omega) hK' rfl rfl)⟩
   simp[results,f157,go_sem,VW]
  ·gi_wp2
   have hK':=(KeepsOthers.setCell W ⟨w.heap.size,0,none⟩ (.int J 9)).same D _ hK rfl;refine⟨by simp,.inl ⟨_,_,rfl,run_takeDeferred hK',?_⟩⟩;have VW:=cell_kept (hR.set (.int J 9)).cell (grownBy_putObj' _ D (.deferred none)) (λr e=>by cases e;exact⟨_,hK',rfl⟩);refine⟨.int J 9,?_,by rw[HE.o];rfl,(hB.setCell (p:=⟨w.heap.size,0,none⟩) (ah _) _).trans (belowK_b (w:=w) (ah _) _ D _ _ (by simp at hD;omega) hK' rfl rfl)⟩
   simp[results,f157,go_sem,VW]
 case stop=>
  rintro D c pre W hD ⟨k,hk,rfl⟩ ⟨⟨⟨rfl,j,hj,hbj⟩,hR⟩,hB⟩ hK
  have hE:dh (L s)=7:=by
   unfold dh;rw[if_neg (by rw[bZ];omega),if_pos ?_];rw[<-jT];have:=uA hbj.1 hbj.2;refine List.mem_map.2 ⟨j,?_,this⟩;have:=List.mem_range.1 hj;exact List.mem_range.2 (by omega)
  have HE:=U hE;clear hE hbj;have cR:=hR.cell
  gi_wp2
  refine⟨by simp,.inl ⟨_,_,rfl,run_takeDeferred hK,?_⟩⟩;have VW:=cell_kept hR.cell (grownBy_putObj' _ D (.deferred none)) (λr e=>by cases e;exact⟨_,hK,rfl⟩);refine⟨.int J 7,?_,by rw[HE.o],hB.trans (belowK_b (w:=w) (ah _) _ D _ _ (by simp at hD;omega) hK rfl rfl)⟩
  simp[results,f157,go_sem,VW]
theorem fZ (s:ByteArray) (w:World) (hs:s.size<=maxLen):
 Calls prog 157 #[.string s] w λe w'=>e=aG (.int J (dh (L s)))/\Below w.heap.size w w':=by
 by_cases h64:s.size%64=0
 ·by_cases hle:s.size<=2304
  ·exact callsIn_wide.1 (Yb 4 (ah _) s w (by omega) h64 hle)
  ·have hE:dh (L s)=7:=by
    unfold dh;rw[if_pos (by rw[bZ];omega)]
   rw[hE];unfold maxLen at hs;have t1:((s.size:Int)%64 !=0)=false:=by simp;omega
   have t2:decide ((2304:Int)<(s.size:Int))=true:=by simp;omega
   have t3:decide (2304<s.size)=true:=by simp;omega
   clear hE h64 hle;refine(callsIn_wide (n:=4)).1 (callsIn_of_wp_marks func157 rfl trivial ?_ rfl);simp only[ntmps157,List.size_toArray,List.length_cons,List.length_nil,Nat.reduceAdd,Nat.reduceSub,Array.replicate_succ,Array.replicate_zero,List.push_toArray,List.append_toArray,List.nil_append,List.cons_append]
   gi_wp2
   refine⟨.int J 7,?_,rfl,(aj _ _).alloc (ah _) _⟩
   simp[results,f157,go_sem]
 ·have hE:dh (L s)=7:=by
   unfold dh;rw[if_pos (by rw[bZ];omega)]
  rw[hE];unfold maxLen at hs;have t1:((s.size:Int)%64 !=0)=true:=by simp;omega
  clear hE h64;refine(callsIn_wide (n:=4)).1 (callsIn_of_wp_marks func157 rfl trivial ?_ rfl);simp only[ntmps157,List.size_toArray,List.length_cons,List.length_nil,Nat.reduceAdd,Nat.reduceSub,Array.replicate_succ,Array.replicate_zero,List.push_toArray,List.append_toArray,List.nil_append,List.cons_append]
  gi_wp2
  refine⟨.int J 7,?_,rfl,(aj _ _).alloc (ah _) _⟩
  simp[results,f157,go_sem]
end
section
attribute [local go_sem] Oper.semAt_some
def dR (s n:List UInt8):Nat×Nat×Bool:=if dh s=0 then(match eU n (bX s)with|some k=>(((bX s).getD k ([],0)).2,k,true)|none=>(0,0,false))else(0,0,false)
theorem Hq {s:ByteArray} {n:List UInt8} (h:∀k∈List.range (s.size/32),hit n (bn s k)=false):eU n (bX (L s))=none:=by
 refine List.findIdx?_eq_none_iff.2 (λe he=>?_);rw[<-jT]at he;obtain⟨k,hk,rfl⟩:=List.mem_map.1 he;exact h k hk
theorem Hr {s:ByteArray} {n:List UInt8} {k:Nat} (hk:k<s.size/32) (hh:hit n (bn s k)=true) (h:∀j,j<k->hit n (bn s j)=false):eU n (bX (L s))=some k/\((bX (L s)).getD k ([],0))=bn s k:=by
 have hl:(bX (L s)).length=s.size/32:=by rw[<-jT];simp[lD]
 have hg:∀j (hj:j<(bX (L s)).length),(bX (L s))[j]=bn s j:=λj hj=>by simp[<-jT,lD]
 refine⟨List.findIdx?_eq_some_iff_getElem.2 ⟨by omega,by rw[hg];exact hh,λj hj=>?_⟩,?_⟩
 ·rw[hg,h j hj];simp
 ·rw[List.getD_eq_getElem?_getD,List.getElem?_eq_getElem (by omega),hg];rfl
theorem gP {B b:Nat} {t:TypeId} {v:Value} {W W':World} {row:Option Nat} (h:Boxed W b t v) (hg:W.grownBy W' row) (hr:∀r,row=some r->B<=r/\∃o:Obj,W.heap[r]? =some o/\o.isCells=false):Boxed W' b t v:=
 kR (cs:=#[v]) h hg hr
theorem Br {k:Nat} {Dk:List Nat} {j:Nat} (h:List.range k=Dk++[j]):k=j+1/\Dk=List.range j:=by
 cases k with
 |zero=>simp at h
 |succ m=>
  rw[List.range_succ]at h;obtain⟨h1,h2⟩:=List.append_inj' h rfl;simp only[List.cons.injEq,and_true]at h2;subst h2;exact⟨rfl,h1.symm⟩
theorem uB (n:Nat) (hn:4<=n) (s nm:ByteArray) (w:World) (hs:s.size<=1099511627776) (hce:dh (L s)=0) (hnm:nm.size<=maxLen):
 CallsIn Fence.wide n prog 306 #[σ s,σ nm] w λe w'=>e=aG (τ #[ι F (dR (L s) (L nm)).1,ι J (dR (L s) (L nm)).2.1,ν (dR (L s) (L nm)).2.2])/\Below w.heap.size w w':=by
 have SA:=U (λW=>tQ s W);have CK:=U (λW=>fZ s W (by unfold maxLen;omega));rw[hce]at CK;have HCE:=U hce;clear hce;refine callsIn_of_wp_marks func306 rfl trivial ?_ rfl;simp only[ntmps306,List.size_toArray,List.length_cons,List.length_nil,Nat.reduceAdd,Nat.reduceSub,Array.replicate_succ,Array.replicate_zero,List.push_toArray,List.append_toArray,List.nil_append,List.cons_append]
 gi_wp2_with fail
 refine qF (U rfl) ?_
 gi_wp2_with fail
 refine⟨trivial,(λh=>by cases h),?_⟩;refine(callsIn_wide.2 (CK.o _)).mono ?_;rintro e w5 ⟨rfl,b5⟩;have bN:=Boxed.new w 9 (σ nm);have bI:=Boxed.new (w.alloc (aH #[σ nm] 9)) 42 (ι F 0);have bA:=Boxed.new ((w.alloc (aH #[σ nm] 9)).alloc (aH #[ι F 0] 42)) 3 (ι J 0);have bB:=Boxed.new (((w.alloc (aH #[σ nm] 9)).alloc (aH #[ι F 0] 42)).alloc (aH #[ι J 0] 3)) 4 (ν false);have hB0:Below w.heap.size w ((((w.alloc (aH #[σ nm] 9)).alloc (aH #[ι F 0] 42)).alloc (aH #[ι J 0] 3)).alloc (aH #[ν false] 4)):=((((aj _ w).alloc (ah _) _).alloc (by simp) _).alloc (by simp;omega) _).alloc (by simp;omega) _;have kN:Boxed w5 w.heap.size 9 (σ nm):=(b5.block _ (by simp;omega)).trans (((bN.alloc _).alloc _).alloc _);have kI:Boxed w5 (w.heap.size+1) 42 (ι F 0):=(b5.block _ (by simp)).trans (by rw[aC]at bI;exact(bI.alloc _).alloc _);have kA:Boxed w5 (w.heap.size+1+1) 3 (ι J 0):=(b5.block _ (by simp)).trans (by rw[aC,aC]at bA;exact bA.alloc _);have kB:Boxed w5 (w.heap.size+1+1+1) 4 (ν false):=(b5.block _ (by simp)).trans (by rw[aC,aC,aC]at bB;exact bB);have MU:Below w.heap.size w w5:=hB0.trans (b5.mono (by simp;omega));have hz5:w.heap.size+1+1+1<w5.heap.size:=kB.lt;clear b5 bN bI bA bB hB0
 gi_wp2
 refine vW (U rfl) ?_
 gi_wp2_with fail
 refine⟨trivial,(λh=>by cases h),?_⟩;refine(callsIn_wide.2 (SA.o _)).mono ?_;rintro e w' ⟨rfl,rfl⟩
 gi_wp2_with fail
 have bS:=Boxed.new w5 9 (σ s)
 refine wpIn_rangeFunc_ownH rfl (by omega) (gf:=236) (lb:=#[w5.heap.size]) rfl trivial (enters_of func236 (by kernel_rfl) rfl)
  (nZ (n-1) (by omega) w5.heap.size s hs _ bS) kD (kE (by simp)) (aj _ _) (λ_=>rfl)
  (λpre W=>((∀k∈pre,hit (L nm) (bn s k)=false)/\(Boxed W w.heap.size 9 (σ nm)/\(Boxed W (w.heap.size+1) 42 (ι F 0)/\(Boxed W (w.heap.size+1+1) 3 (ι J 0)/\Boxed W (w.heap.size+1+1+1) 4 (ν false)))))/\(w5.heap.size+1<=W.heap.size/\Below w.heap.size w W))
  (λc pre W=>((c=.exit 0/\∃Dk k,pre=Dk++[k]/\(∀j∈Dk,hit (L nm) (bn s j)=false)/\hit (L nm) (bn s k)=true)/\(∃k,pre.getLast? =some k/\Boxed W (w.heap.size+1) 42 (ι F (bn s k).2)/\Boxed W (w.heap.size+1+1) 3 (ι J (k:Int))/\Boxed W (w.heap.size+1+1+1) 4 (ν true)))/\Below w.heap.size w W)
  (OwnFrom.and (OwnFrom.and (ownFrom_pure _ _) (OwnFrom.and (Own.from (boxed_own _ _ _) _) (OwnFrom.and (Own.from (boxed_own _ _ _) _) (OwnFrom.and (Own.from (boxed_own _ _ _) _) (Own.from (boxed_own _ _ _) _))))) (OwnFrom.and (rM _) (ownFrom_below (ah _) (by simp;omega))))
  (λc=>OwnFrom.and (OwnFrom.and (ownFrom_pure _ _) (λpre W W' row hs hg hr=>by
   obtain⟨k,h1,h2,h3,h4⟩:=hs;exact⟨k,h1,gP h2 hg hr,gP h3 hg hr,gP h4 hg hr⟩)) (ownFrom_below (ah _) (by simp;omega)))
  ⟨⟨λp hp=>by simp at hp,kN.alloc _,kI.alloc _,kA.alloc _,kB.alloc _⟩,by simp,MU.alloc (by omega) _⟩
  (λk a' W=>∃b,w5.heap.size+1<=b/\aN W b 202 #[σ (B (bn s k).1),ι F (bn s k).2]/\a'={tmps:=#[σ s,σ nm,undef,G (some ⟨w.heap.size,0,none⟩),G (some ⟨w.heap.size+1,0,none⟩),G (some ⟨w.heap.size+1+1,0,none⟩),G (some ⟨w.heap.size+1+1+1,0,none⟩),ι J (k:Int),G (some ⟨b,0,none⟩),σ s,ι J 0,ν false,σ s,.func (.func 236) #[] #[G (some ⟨w5.heap.size,0,none⟩)],ι J (k:Int),γ #[σ (B (bn s k).1),ι F (bn s k).2],undef,undef,undef,undef,undef,undef,undef,undef,undef,undef,undef,undef,undef,undef,undef],defers:=[]})
  (λk a'=>λ_ W W' row hs hg hr=>by
   obtain⟨b,h1,h2,h3⟩:=hs;exact⟨b,h1,kR h2 hg hr,h3⟩) ?assign ?body ?done ?stop
 case assign=>
  rintro l pre k W K ⟨⟨hp,hN,hI,hA,hT⟩,hz,hB⟩ hK;rw[show iZ (L s) k=(k,bn s k)from rfl]
  dsimp only[kY]
  have HK:=U hK;clear hK
  gi_wp2
  exact HK.o _ _ ((KeepsOthers.alloc _ _).from _) (λv hv=>hv.alloc _) ⟨⟨hp,hN.alloc _,hI.alloc _,hA.alloc _,hT.alloc _⟩,by simp;omega,hB.alloc (by omega) _⟩ ⟨W.heap.size,hz,aN.new _ _ _,rfl⟩
 case body=>
  rintro l pre k a' W hl hloop ⟨⟨hp,hN,hI,hA,hT⟩,hz,hB⟩ ⟨b,hb,hS,rfl⟩ hlen;have c0:=hS.cell 0;have c1:=hS.cell 1;simp only[au,av,ay]at c0 c1;have hlt:=hS.lt;have cN:=hN.cell;have cI:=hI.cell;have fI:=hI.frozen;have cA:=hA.cell;have fA:=hA.frozen;have cT:=hT.cell;have fT:=hT.frozen
  have Js:Hid (hit (L nm) (bn s k)=false->∀q∈pre++[k],hit (L nm) (bn s q)=false):=U (λhk q hq=>by
   rcases List.mem_append.1 hq with h1|h1
   ·exact hp q h1
   ·simp only[List.mem_cons,List.not_mem_nil,or_false]at h1
    rw[h1];exact hk)
  have HHT:Hid (hit (L nm) (bn s k)=decide ((bn s k).2≠0/\(bn s k).1=L nm)):=U rfl;have HP:=U hp;clear hl hloop hp hS SA CK hlen bS kN kI kA kB MU;obtain⟨Ho,hnm⟩:∃x,(bn s k).1=x:=⟨_,rfl⟩;obtain⟨i,hi⟩:∃x,(bn s k).2=x:=⟨_,rfl⟩;rw[hnm]at c0;rw[hi]at c1;rw[hnm,hi];have HNM:=U hnm;have HI:=U hi;clear hnm hi
  by_cases h0:i=0
  ·subst h0
   have E3:=U (Js.o (by rw[HHT.o,HI.o];simp))
   gi_wp2
   exact⟨KeepsFrom.refl _ _,eP.refl _ _ _,⟨⟨E3.o,hN,hI,hA,hT⟩,hz,hB⟩⟩
  ·have t0:((i:Int)!=0)=true:=by simp;omega
   have t0b:(i !=0)=true:=by simp;omega
   have HI0:=U h0;clear h0
   by_cases hn:Ho=L nm
   ·have q1:((B Ho).toList==nm.toList)=true:=by rw[dB,dB,iy,hn];simp
    have q2:decide ((B Ho).toList=nm.toList)=true:=by simpa using q1
    have HH:Hid (hit (L nm) (bn s k)=true):=U (by rw[HHT.o,HI.o,HNM.o];simp[HI0.o,hn]);clear hn
    gi_wp2
    refine⟨(((KeepsOthers.setCell _ _ _).trans (KeepsOthers.setCell _ _ _)).trans (KeepsOthers.setCell _ _ _)).from _,⟨⟨rfl,pre,k,rfl,HP.o,HH.o⟩,k,by simp,?_,?_,?_⟩,?_⟩
    ·rw[HI.o];exact((hI.set _).other (by omega) _).other (by omega) _
    ·exact((hA.other (by omega) _).set _).other (by omega) _
    ·exact((hT.other (by omega) _).other (by omega) _).set _
    ·exact((hB.setCell (p:=⟨w.heap.size+1,0,none⟩) (by simp) _).setCell (p:=⟨w.heap.size+1+1,0,none⟩) (by simp;omega) _).setCell (p:=⟨w.heap.size+1+1+1,0,none⟩) (by simp;omega) _
   ·have q1:((B Ho).toList==nm.toList)=false:=by rw[dB,dB,iy];simpa using hn
    have q2:decide ((B Ho).toList=nm.toList)=false:=by simpa using q1
    have E3:=U (Js.o (by rw[HHT.o,HI.o,HNM.o];simp[hn]));clear hn
    gi_wp2
    exact⟨KeepsFrom.refl _ _,eP.refl _ _ _,⟨⟨E3.o,hN,hI,hA,hT⟩,hz,hB⟩⟩
 case done=>
  rintro D ys W hD rfl ⟨⟨hp,hN,hI,hA,hT⟩,hz,hB⟩ hK;have eL:dR (L s) (L nm)=(0,0,false):=by unfold dR;rw[if_pos HCE.o,Hq hp]
  have HE:=U eL;clear eL hp
  gi_wp2
  have cI:=hI.cell;have fI:=hI.frozen;have cA:=hA.cell;have fA:=hA.frozen;have cT:=hT.cell;have fT:=hT.frozen;refine lY (U rfl) ?_;go_region
  gi_wp2
  have hI2:Boxed (((W.setCell ⟨w.heap.size+1,0,none⟩ (ι F 0)).setCell ⟨w.heap.size+1+1,0,none⟩ (ι J 0)).setCell ⟨w.heap.size+1+1+1,0,none⟩ (ν false)).drew (w.heap.size+1) 42 (ι F 0):=((hI.set _).other (by omega) _).other (by omega) _;have hA2:Boxed (((W.setCell ⟨w.heap.size+1,0,none⟩ (ι F 0)).setCell ⟨w.heap.size+1+1,0,none⟩ (ι J 0)).setCell ⟨w.heap.size+1+1+1,0,none⟩ (ν false)).drew (w.heap.size+1+1) 3 (ι J 0):=((hA.other (by omega) _).set _).other (by omega) _;have CW:Boxed (((W.setCell ⟨w.heap.size+1,0,none⟩ (ι F 0)).setCell ⟨w.heap.size+1+1,0,none⟩ (ι J 0)).setCell ⟨w.heap.size+1+1+1,0,none⟩ (ν false)).drew (w.heap.size+1+1+1) 4 (ν false):=((hT.other (by omega) _).other (by omega) _).set _;have hB2:Below w.heap.size w (((W.setCell ⟨w.heap.size+1,0,none⟩ (ι F 0)).setCell ⟨w.heap.size+1+1,0,none⟩ (ι J 0)).setCell ⟨w.heap.size+1+1+1,0,none⟩ (ν false)).drew:=(((hB.setCell (p:=⟨w.heap.size+1,0,none⟩) (by simp) _).setCell (p:=⟨w.heap.size+1+1,0,none⟩) (by simp;omega) _).setCell (p:=⟨w.heap.size+1+1+1,0,none⟩) (by simp;omega) _).drew;have hK2:(((W.setCell ⟨w.heap.size+1,0,none⟩ (ι F 0)).setCell ⟨w.heap.size+1+1,0,none⟩ (ι J 0)).setCell ⟨w.heap.size+1+1+1,0,none⟩ (ν false)).drew.heap[D]? =some (.deferred (some [])):=(((KeepsOthers.setCell W ⟨w.heap.size+1,0,none⟩ (ι F 0)).trans (KeepsOthers.setCell _ ⟨w.heap.size+1+1,0,none⟩ (ι J 0))).trans (KeepsOthers.setCell _ ⟨w.heap.size+1+1+1,0,none⟩ (ν false))).same D _ hK rfl;refine⟨by simp,.inl ⟨_,_,rfl,run_takeDeferred hK2,?_⟩⟩;have c5:=cell_kept hI2.cell (grownBy_putObj' _ D (.deferred none)) (λr e=>by cases e;exact⟨_,hK2,rfl⟩);have c6:=cell_kept hA2.cell (grownBy_putObj' _ D (.deferred none)) (λr e=>by cases e;exact⟨_,hK2,rfl⟩);have c7:=cell_kept CW.cell (grownBy_putObj' _ D (.deferred none)) (λr e=>by cases e;exact⟨_,hK2,rfl⟩);refine⟨τ #[ι F 0,ι J 0,ν false],?_,(by rw[HE.o];try rfl),hB2.trans (belowK_b (w:=w) (ah _) _ D _ _ (by simp at hD;omega) hK2 rfl rfl)⟩
  simp[results,f306,go_sem,c5,c6,c7]
 case stop=>
  rintro D c pre W hD ⟨m,hm,rfl⟩ ⟨⟨⟨rfl,Dk,k,e1,e2,e3⟩,k2,hk2,hI,hA,hT⟩,hB⟩ hK;obtain⟨rfl,rfl⟩:=Br e1;obtain rfl:k2=k:=by rw[e1]at hk2;simpa using hk2.symm
  have hf:=Hr (s:=s) (n:=L nm) (k:=k2) (by omega) e3 (λj hj=>e2 j (List.mem_range.2 hj));have eL:dR (L s) (L nm)=((bn s k2).2,k2,true):=by unfold dR;rw[if_pos HCE.o,hf.1];simp only[hf.2]
  have HE:=U eL;clear eL hf e1 e2 e3 hk2
  generalize (bn s k2).2=i at*
  gi_wp2
  have cI:=hI.cell;have fI:=hI.frozen;have cA:=hA.cell;have fA:=hA.frozen;have cT:=hT.cell;have fT:=hT.frozen;refine lY (U rfl) ?_;go_region
  gi_wp2
  have hI2:Boxed (((W.setCell ⟨w.heap.size+1,0,none⟩ (ι F i)).setCell ⟨w.heap.size+1+1,0,none⟩ (ι J (k2:Int))).setCell ⟨w.heap.size+1+1+1,0,none⟩ (ν true)).drew (w.heap.size+1) 42 (ι F i):=((hI.set _).other (by omega) _).other (by omega) _;have hA2:Boxed (((W.setCell ⟨w.heap.size+1,0,none⟩ (ι F i)).setCell ⟨w.heap.size+1+1,0,none⟩ (ι J (k2:Int))).setCell ⟨w.heap.size+1+1+1,0,none⟩ (ν true)).drew (w.heap.size+1+1) 3 (ι J (k2:Int)):=((hA.other (by omega) _).set _).other (by omega) _;have CW:Boxed (((W.setCell ⟨w.heap.size+1,0,none⟩ (ι F i)).setCell ⟨w.heap.size+1+1,0,none⟩ (ι J (k2:Int))).setCell ⟨w.heap.size+1+1+1,0,none⟩ (ν true)).drew (w.heap.size+1+1+1) 4 (ν true):=((hT.other (by omega) _).other (by omega) _).set _;have hB2:Below w.heap.size w (((W.setCell ⟨w.heap.size+1,0,none⟩ (ι F i)).setCell ⟨w.heap.size+1+1,0,none⟩ (ι J (k2:Int))).setCell ⟨w.heap.size+1+1+1,0,none⟩ (ν true)).drew:=(((hB.setCell (p:=⟨w.heap.size+1,0,none⟩) (by simp) _).setCell (p:=⟨w.heap.size+1+1,0,none⟩) (by simp;omega) _).setCell (p:=⟨w.heap.size+1+1+1,0,none⟩) (by simp;omega) _).drew;have hK2:(((W.setCell ⟨w.heap.size+1,0,none⟩ (ι F i)).setCell ⟨w.heap.size+1+1,0,none⟩ (ι J (k2:Int))).setCell ⟨w.heap.size+1+1+1,0,none⟩ (ν true)).drew.heap[D]? =some (.deferred (some [])):=(((KeepsOthers.setCell W ⟨w.heap.size+1,0,none⟩ (ι F i)).trans (KeepsOthers.setCell _ ⟨w.heap.size+1+1,0,none⟩ (ι J (k2:Int)))).trans (KeepsOthers.setCell _ ⟨w.heap.size+1+1+1,0,none⟩ (ν true))).same D _ hK rfl;refine⟨by simp,.inl ⟨_,_,rfl,run_takeDeferred hK2,?_⟩⟩;have c5:=cell_kept hI2.cell (grownBy_putObj' _ D (.deferred none)) (λr e=>by cases e;exact⟨_,hK2,rfl⟩);have c6:=cell_kept hA2.cell (grownBy_putObj' _ D (.deferred none)) (λr e=>by cases e;exact⟨_,hK2,rfl⟩);have c7:=cell_kept CW.cell (grownBy_putObj' _ D (.deferred none)) (λr e=>by cases e;exact⟨_,hK2,rfl⟩);refine⟨τ #[ι F i,ι J (k2:Int),ν true],?_,(by rw[HE.o];try rfl),hB2.trans (belowK_b (w:=w) (ah _) _ D _ _ (by simp at hD;omega) hK2 rfl rfl)⟩
  simp[results,f306,go_sem,c5,c6,c7]
theorem uC (n:Nat) (hn:4<=n) (s nm:ByteArray) (w:World) (hs:s.size<=maxLen) (ce:Int) (hce:dh (L s)=ce) (h0:ce≠0):
 CallsIn Fence.wide n prog 306 #[σ s,σ nm] w λe w'=>e=aG (τ #[ι F 0,ι J 0,ν false])/\Below w.heap.size w w':=by
 have CK:=U (λW=>fZ s W hs);rw[hce]at CK;have q1:(ce !=0)=true:=by simpa using h0
 have q2:(ce==0)=false:=by simpa using h0
 clear h0 hce hs;refine callsIn_of_wp_marks func306 rfl trivial ?_ rfl;simp only[ntmps306,List.size_toArray,List.length_cons,List.length_nil,Nat.reduceAdd,Nat.reduceSub,Array.replicate_succ,Array.replicate_zero,List.push_toArray,List.append_toArray,List.nil_append,List.cons_append]
 gi_wp2_with fail
 refine qF (U rfl) ?_
 gi_wp2_with fail
 refine⟨trivial,(λh=>by cases h),?_⟩;refine(callsIn_wide.2 (CK.o _)).mono ?_;rintro e w5 ⟨rfl,b5⟩;have bI:=Boxed.new (w.alloc (aH #[σ nm] 9)) 42 (ι F 0);have bA:=Boxed.new ((w.alloc (aH #[σ nm] 9)).alloc (aH #[ι F 0] 42)) 3 (ι J 0);have bB:=Boxed.new (((w.alloc (aH #[σ nm] 9)).alloc (aH #[ι F 0] 42)).alloc (aH #[ι J 0] 3)) 4 (ν false);have hB0:Below w.heap.size w ((((w.alloc (aH #[σ nm] 9)).alloc (aH #[ι F 0] 42)).alloc (aH #[ι J 0] 3)).alloc (aH #[ν false] 4)):=((((aj _ w).alloc (ah _) _).alloc (by simp) _).alloc (by simp;omega) _).alloc (by simp;omega) _;have kI:Boxed w5 (w.heap.size+1) 42 (ι F 0):=(b5.block _ (by simp)).trans (by rw[aC]at bI;exact(bI.alloc _).alloc _);have kA:Boxed w5 (w.heap.size+1+1) 3 (ι J 0):=(b5.block _ (by simp)).trans (by rw[aC,aC]at bA;exact bA.alloc _);have kB:Boxed w5 (w.heap.size+1+1+1) 4 (ν false):=(b5.block _ (by simp)).trans (by rw[aC,aC,aC]at bB;exact bB);have MU:Below w.heap.size w w5:=hB0.trans (b5.mono (by simp;omega));have cI:=kI.cell;have fI:=kI.frozen;have cA:=kA.cell;have fA:=kA.frozen;have cT:=kB.cell;have fT:=kB.frozen;have hlt:=kB.lt;clear b5 bI bA bB hB0
 gi_wp2
 rw[Exit.noGoto_ret];have hI2:Boxed (((w5.setCell ⟨w.heap.size+1,0,none⟩ (ι F 0)).setCell ⟨w.heap.size+1+1,0,none⟩ (ι J 0)).setCell ⟨w.heap.size+1+1+1,0,none⟩ (ν false)) (w.heap.size+1) 42 (ι F 0):=((kI.set _).other (by omega) _).other (by omega) _;have hA2:Boxed (((w5.setCell ⟨w.heap.size+1,0,none⟩ (ι F 0)).setCell ⟨w.heap.size+1+1,0,none⟩ (ι J 0)).setCell ⟨w.heap.size+1+1+1,0,none⟩ (ν false)) (w.heap.size+1+1) 3 (ι J 0):=((kA.other (by omega) _).set _).other (by omega) _;have CW:Boxed (((w5.setCell ⟨w.heap.size+1,0,none⟩ (ι F 0)).setCell ⟨w.heap.size+1+1,0,none⟩ (ι J 0)).setCell ⟨w.heap.size+1+1+1,0,none⟩ (ν false)) (w.heap.size+1+1+1) 4 (ν false):=((kB.other (by omega) _).other (by omega) _).set _;have c5:=hI2.cell;have c6:=hA2.cell;have c7:=CW.cell;refine⟨τ #[ι F 0,ι J 0,ν false],?_,rfl,((MU.setCell (p:=⟨w.heap.size+1,0,none⟩) (by simp) _).setCell (p:=⟨w.heap.size+1+1,0,none⟩) (by simp;omega) _).setCell (p:=⟨w.heap.size+1+1+1,0,none⟩) (by simp;omega) _⟩
 simp[results,f306,go_sem,c5,c6,c7]
theorem Bt (s nm:ByteArray) (w:World) (hs:s.size<=maxLen) (hnm:nm.size<=maxLen):
 Calls prog 306 #[σ s,σ nm] w λe w'=>e=aG (τ #[ι F (dR (L s) (L nm)).1,ι J (dR (L s) (L nm)).2.1,ν (dR (L s) (L nm)).2.2])/\Below w.heap.size w w':=by
 by_cases hce:dh (L s)=0
 ·have:=(rO hce).1.le
  have h2:=(rO hce).2.2;rw[bZ]at h2;exact(callsIn_wide (n:=4)).1 (uB 4 (ah _) s nm w (by omega) hce hnm)
 ·have hE:dR (L s) (L nm)=(0,0,false):=by unfold dR;rw[if_neg hce]
  rw[hE];exact(callsIn_wide (n:=4)).1 (uC 4 (ah _) s nm w hs _ rfl hce)
end
def xR (s n:List UInt8):List UInt8×Nat×Int:=
 if dh s=0 then(if(dR s n).2.2=true then(uO s (dR s n).2.1 gZ,(dR s n).1,0)else([],0,3))else([],0,dh s)
theorem Yd {s n:List UInt8} (h:(dR s n).2.2=true):dh s=0/\s.length<=2304/\eU n (bX s)=some (dR s n).2.1/\32*((dR s n).2.1+1)<=s.length/\isName n=true/\(dR s n).1=gU n (bX s):=by
 unfold dR at h⊢
 by_cases hc:dh s=0
 ·rw[if_pos hc]at h⊢
  obtain⟨d1,d2,d3⟩:=rO hc;cases hf:eU n (bX s)with
  |none=>rw[hf]at h;simp at h
  |some k=>
   obtain⟨hk,k0,k1⟩:=mq hf;have hle:=d1.le;refine⟨hc,by omega,rfl,by simp only;omega,?_,?_⟩
   ·have:=(je (zR (d1.ok _ (List.getElem_mem hk)) k0).1).2
    rw[k1]at this;exact this
   ·unfold gU
    rw[hf]
 ·rw[if_neg hc]at h
  simp at h
theorem QZ (s nm:ByteArray) (w:World) (hs:s.size<=maxLen) (hnm:nm.size<=maxLen):
 Calls prog 308 #[σ s,σ nm] w λe w'=>e=aG (τ #[σ (B (xR (L s) (L nm)).1),ι F (xR (L s) (L nm)).2.1,ι J (xR (L s) (L nm)).2.2])/\Below w.heap.size w w':=by
 have CK:=U (λW=>fZ s W hs);have FD:=U (λW=>Bt s nm W hs hnm)
 by_cases hc:dh (L s)=0
 ·have e0:xR (L s) (L nm)=(if(dR (L s) (L nm)).2.2=true then(uO (L s) (dR (L s) (L nm)).2.1 gZ,(dR (L s) (L nm)).1,0)else([],0,3)):=by unfold xR;rw[if_pos hc]
  rw[hc]at CK;cases hq:(dR (L s) (L nm)).2.2 with
  |false=>
   rw[hq]at e0;rw[e0,if_neg (by simp)];rw[hq]at FD
   generalize (dR (L s) (L nm)).1=fi at*
   generalize (dR (L s) (L nm)).2.1=fk at*
   clear e0 hc hq hs hnm
   go_enter func308,ntmps308
   go_wp2_with fail;refine(CK.o _).mono ?_;rintro e w1 ⟨rfl,b1⟩;go_wp2_with fail;refine(FD.o _).mono ?_;rintro e w2 ⟨rfl,b2⟩
   go_wp2
   go_ret3
   exact⟨rfl,b1.trans (b2.mono b1.size)⟩
  |true=>
   obtain⟨x1,hle,x3,hk,x5,x6⟩:=Yd hq;clear x1 x3 x5 x6;rw[hq]at e0;rw[e0,if_pos rfl];rw[hq]at FD;rw[bZ]at hle hk;have FR:=U (λW=>pq W);have PT:=U (λW=>qj s (B gZ) (dR (L s) (L nm)).2.1 W (by omega) (by rw[aV,Bu];omega) hk);rw[iy]at PT
   generalize (dR (L s) (L nm)).1=fi at*
   generalize (dR (L s) (L nm)).2.1=fk at*
   generalize B (uO (L s) fk gZ)=res at*
   generalize B gZ=fr at*
   clear e0 hc hq hs hnm hle hk
   go_enter func308,ntmps308
   go_wp2_with fail;refine(CK.o _).mono ?_;rintro e w1 ⟨rfl,b1⟩;go_wp2_with fail;refine(FD.o _).mono ?_;rintro e w2 ⟨rfl,b2⟩;go_wp2_with fail;refine(FR.o _).mono ?_;rintro e w3 ⟨rfl,b3⟩;go_wp2_with fail;refine(PT.o _).mono ?_;rintro e w4 ⟨rfl,n4,rfl⟩
   go_wp2
   go_ret3
   exact⟨rfl,(b1.trans ((b2.trans (b3.mono b2.size)).mono b1.size)).trans (Oct.below_drewN _ _ _)⟩
 ·have e0:xR (L s) (L nm)=([],0,dh (L s)):=by unfold xR;rw[if_neg hc]
  rw[e0];have q1:(dh (L s)!=0)=true:=by simpa using hc
  have q2:(dh (L s)==0)=false:=by simpa using hc
  generalize dh (L s)=ce at*
  clear e0 hc hs hnm FD
  go_enter func308,ntmps308
  go_wp2_with fail;refine(CK.o _).mono ?_;rintro e w1 ⟨rfl,b1⟩
  go_wp2
  go_ret3
  exact⟨rfl,b1⟩
