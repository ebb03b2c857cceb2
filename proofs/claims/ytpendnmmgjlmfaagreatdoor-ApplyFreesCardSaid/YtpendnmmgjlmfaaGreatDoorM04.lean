/- Lemmas. -/
import Derived.Test.YtpendnmmgjlmfaaGreatDoorM03
import Derived.Deep.RegionLawGrows
import Derived.DeepKeys
import Derived.Outline
set_option linter.unusedVariables false
set_option linter.unusedSimpArgs false
namespace Go.Proofs.YtpendnmmgjlmfaaGreatDoor
open Go.RowKit Go.Shelf Go.Maps
open Go.Proofs.Tryz
open IntKind renaming u16→I,i64→J,u32→F,u8→aF
open Ending renaming returned→aG
open Obj renaming cells→aH
set_option maxRecDepth 100000
set_option maxHeartbeats 4000000
namespace qX
open Oct Geo
theorem wf_u16 {n:Nat} (h:n<65536):(Lit.int I (n:Int)).wf=true:=by
 simp[Lit.wf,IntKind.min,IntKind.max,IntKind.bits,IntKind.signed]
 omega
theorem IM {a b c d:Nat} (ha:a<65536) (hb:b<65536) (hc:c<65536) (hd:d<65536):prog.keyLits 3 112 [.int I a,.int I b,.int I c,.int I d]=some [.int I a,.int I b,.int I c,.int I d]:=by
 have e1:prog.cellsOf 112=4:=by kernel_rfl
 have e2:prog.cellsOf 111=1:=by kernel_rfl
 simp[Program.keyLits,underlying112,underlying111,e1,e2,wf_u16 ha,wf_u16 hb,wf_u16 hc,wf_u16 hd,List.range_succ]
theorem nF {a b c d:Nat} (ha:a<65536) (hb:b<65536) (hc:c<65536) (hd:d<65536) (w:World):(binOp .eql 112 (.agg #[.int I a,.int I b,.int I c,.int I d]) (.agg #[.int I 0,.int I 0,.int I 0,.int I 0])).run prog w=.ok (.bool (decide (a=0/\b=0/\c=0/\d=0))) w:=by
 rw[run_eql_struct];obtain⟨r,hr,hiff⟩:=run_equalIn_deep (P:=prog) 9998 2 112 (by kernel_rfl) w 3 3 (.agg #[.int I a,.int I b,.int I c,.int I d]) (.agg #[.int I (0:Nat),.int I (0:Nat),.int I (0:Nat),.int I (0:Nat)]) _ _ (by kernel_rfl) (by kernel_rfl) (IM ha hb hc hd) (IM (by omega) (by omega) (by omega) (by omega))
 have e:r=decide (a=0/\b=0/\c=0/\d=0):=by
  rw[Bool.eq_iff_iff,hiff]
  simp
 rw[<-e];exact congrArg (λz:Result Bool=>z.andThen λb w'=>Result.ok (Value.bool b) w') hr
def Jt:lH:=λv=>match v with
 | .int J n=>some (.lit (.int J n),[])
 |_=>none
theorem Qv (n:Int):Jt (.int J n)=some (.lit (.int J n),[]):=rfl
theorem Wu {v:Value} {n:Int} {ps:List MemPlace} (h:Jt v=some (.lit (.int J n),ps)):v=.int J n:=by
 unfold Jt at h
 split at h
 ·simp only[Option.some.injEq,Prod.mk.injEq,DataW.lit.injEq,Lit.int.injEq,true_and]at h
  rw[h.1]
 ·cases h
def iK (l:List Nat) (x:Int):Nat:=l.countP (λv:Nat=>decide ((v:Int)=x))
def cntF (l:List Nat):Int->Option (DataW Unit):=λx=>if iK l x=0 then none else some (.lit (.int J (iK l x)))
theorem Wv (l:List Nat) (x:Int):(cntF l x).getD (.lit (.int J 0))=.lit (.int J (iK l x)):=by
 unfold cntF
 by_cases h:iK l x=0
 ·rw[if_pos h,h];rfl
 ·rw[if_neg h];rfl
theorem Td (l:List Nat) (v:Nat) (x:Int):iK (l++[v]) x=iK l x+if x=v then 1 else 0:=by
 unfold iK;rw[List.countP_append]
 by_cases h:x=v
 ·subst h;simp
 ·have h2:¬(v:Int)=x:=λe=>h e.symm
  simp[h,h2]
theorem Te (l:List Nat) (v:Nat):cntF (l++[v])=oA (cntF l) v (.lit (.int J (iK l v+1:Nat))):=by
 funext x
 unfold cntF oA;rw[Td]
 by_cases h:x=v
 ·subst h
  simp
 ·rw[if_neg h,if_neg h,Nat.add_zero]
theorem Tf {l:List Nat} {v:Nat} (h:∀j,j<l.length->l[j]?≠some v):iK l v=0:=by
 unfold iK;rw[List.countP_eq_zero];intro a ha;obtain⟨j,hj,rfl⟩:=List.mem_iff_getElem.1 ha;have:=h j hj;rw[List.getElem?_eq_getElem hj]at this;intro e;exact this (by rw[show l[j]=v by have e2:=of_decide_eq_true e;omega])
theorem Gj (l:List Nat) (x:Int):iK l x<=l.length:=List.countP_le_length
theorem DZ:prog.underlying 280=some (.map 111 3):=by kernel_rfl
theorem Ww (w:World):(zeroValue 3).run prog w=.ok (.int J 0) w:=by kernel_rfl
theorem Wx {W:World} {b nn:Nat} {l:List Nat} (h:kC W Jt b nn (cntF l)) (v:Nat) (hv:v<65536):
 (Instr.lookup 280 (.map (some b)) (.int I (v:Int)) false).run prog W=.ok (.int J (iK l v)) W:=by
 obtain⟨y,ps,hrun,hy⟩:=h.look DZ (Ww W) (Qv 0) v (wf_u16 hv);rw[Wv]at hy;rw[hrun,Wu hy]
theorem oB {W:World} {b nn:Nat} {l:List Nat} (h:kC W Jt b nn (cntF l)) (hn:nn<maxLen) (v:Nat) (hv:v<65536):
 ∃W',(Instr.mapUpdate 280 (.map (some b)) (.int I (v:Int)) (.int J (iK l v+1:Nat))).run prog W=.ok () W'/\kC W' Jt b (nn+1) (cntF (l++[v]))/\W.mapTurned W' b:=by
 obtain⟨W',hrun,r1,r2⟩:=h.put DZ hn v (wf_u16 hv) (Qv (iK l v+1:Nat));rw[<-Te]at r1;exact⟨W',hrun,r1,r2⟩
def Aq (V:World) (b:Nat) (cs:Array Value) (W:World):Prop:=Below V.heap.size V W/\aN W b 114 cs
theorem Aq.to {V W W':World} {b:Nat} {cs:Array Value} {v:Value} (h:W.cell? ⟨b,7,none⟩=some v/\Aq V b cs W) (hb:Below W.heap.size W W'):W'.cell? ⟨b,7,none⟩=some v/\Aq V b cs W':=
 ⟨(hb.cell (p:=⟨b,7,none⟩) h.2.2.lt).trans h.1,h.2.1.trans (hb.mono h.2.1.size),h.2.2.later hb⟩
theorem Ar {W:World} {base size n:Nat} {t:TypeId} {v:Value} {xs:List Value} (h:W.ownsRow base t size v n xs) (hn:0<n):∃g cap,v=.slice (some ⟨g,0,none⟩) n cap/\g<W.heap.size:=by
 obtain⟨g,cap,hv,_,hlt⟩:=h.form hn;exact⟨g,cap,hv,hlt⟩
theorem zL {W:World} {base n g cap:Nat} {t:TypeId} {xs:List Value} (h:W.ownsRow base t 1 (.slice (some g) n cap) n xs):∃cur:Array Value,aN W g t cur/\(∀(j:Nat) (u:Value),xs[j]? =some u->cur[j]? =some u)/\base<=g:=by
 rcases h.2 with⟨hv,_⟩|⟨g',cap',cur,hv,hb,hg,hnc,hcm,hcs,ht⟩
 ·cases hv
 ·cases hv
  refine⟨cur,hg,λj u hu=>?_,hb⟩;have h2:(cur.toList.take (n*1))[j]? =some u:=by rw[ht];exact hu
  rw[List.getElem?_take]at h2
  split at h2
  ·simpa using h2
  ·cases h2
theorem Wy:cntF []=λ_=>none:=by
 funext x
 rfl
theorem dK {W W':World} (h:W.grownBy W' none):Below W.heap.size W W':=(aj _ _).grown h (ah _) (λg e=>by cases e)
theorem Ju {V W:World} {b:Nat} {k0 k1 k2 d0 d1 d2 d3 i:Value} {A0:Prop} (h:A0/\Aq V b #[k0,k1,k2,d0,d1,d2,d3,i] W):∀p,some (⟨b,3,none⟩:Addr)=some p->∀j u,[d0,d1,d2,d3][j]? =some u->W.cell? (p.add j)=some u:=λp e j u hu=>by
 cases e;have hc:=h.2.2
 match j,hu with
 |0,hu=>exact(hc.cell 3).trans hu
 |1,hu=>exact(hc.cell 4).trans hu
 |2,hu=>exact(hc.cell 5).trans hu
 |3,hu=>exact(hc.cell 6).trans hu
theorem Nr (w:World):Calls prog 123 #[dY.val] w λe w'=>e=aG (.int J 0)/\Below w.heap.size w w':=by
 unfold aP.val dY;have hX:=aN.new w 114 (aP.cells dY);have HB:=U ((aj _ w).alloc (ah _) (aH (aP.cells dY) 114));unfold aP.cells dY at hX HB;simp only at hX;have X:=hX.cell;have Xl:=hX.lt;clear hX;have EQ:∀W,(binOp .eql 114 (.agg #[.int aF 0,.int I 0,.int F 0,.int I 0,.int I 0,.int I 0,.int I 0,.int I 0]) (.agg #[.int aF 0,.int I 0,.int F 0,.int I 0,.int I 0,.int I 0,.int I 0,.int I 0])).run prog W=.ok (.bool true) W:=λW=>by kernel_rfl
 go_enter func123,ntmps123
 go_wp2
 go_ret;exact⟨rfl,HB.o⟩
theorem Ns (x:aP) (w:World) (hx:x.Used):Calls prog 123 #[x.val] w λe w'=>e=aG (.int J 0)/\Below w.heap.size w w':=by
 obtain⟨i0,hi,hz0,hz1,hz2⟩:=info_parts rA;obtain⟨hk,hl,hz,hd,hr,hlt⟩:=hx;obtain⟨kind,links,size,d0,d1,d2,d3,ind⟩:=x;simp only at hk hl hz hd hr hlt;have PG:=U (λW=>oU size W (by omega));have EQ:=λW=>nF (hlt d0 (by simp[aP.row])) (hlt d1 (by simp[aP.row])) (hlt d2 (by simp[aP.row])) (hlt d3 (by simp[aP.row])) W;have FD:∀W,(Instr.field 114 (.agg #[.int aF 0,.int I 0,.int F 0,.int I 0,.int I 0,.int I 0,.int I 0,.int I 0]) 3).run prog W=.ok (.agg #[.int I 0,.int I 0,.int I 0,.int I 0]) W:=λW=>by kernel_rfl
 unfold aP.val;have q0:decide ((200:Int)<(links:Int))=false:=by simp;omega
 have q1:decide ((2304:Int)<(size:Int))=false:=by simp;omega
 have q2:decide (200<links)=false:=by simp;omega
 have q3:decide (2304<size)=false:=by simp;omega
 have HB:=U ((aj _ w).alloc (ah _) (aH (aP.cells ⟨kind,links,size,d0,d1,d2,d3,ind⟩) 114));have hX:=aN.new w 114 (aP.cells ⟨kind,links,size,d0,d1,d2,d3,ind⟩);unfold aP.cells at hX HB;have HX:=U hX;simp only at hX;have X:=hX.cell;have Xl:=hX.lt;clear hX;have HD:=U hd;have HR:=U hr;have HLT:=U hlt;clear hd hr hlt
 generalize hpg:aQ size=pg at*
 have hmm:=@run_makeMap prog;have NB:=U (λ(W:World) (v:Value) (h:W.heap.size=w.heap.size+2)=>(by rw[<-h];exact aN.new W _ _:aN (W.alloc (aH #[v] 111)) (w.heap.size+2) 111 #[v]));have f0:((kind:Int)==0)=false:=by rcases hk with rfl|rfl<;>rfl
 have hkk:(((kind:Int)!=1)=false/\((kind:Int)==2)=false)\/(((kind:Int)!=1)=true/\((kind:Int)!=2)=false/\((kind:Int)==2)=true/\(size:Int)%64=0):=by
  rcases hk with rfl|rfl
  ·exact .inl ⟨rfl,rfl⟩
  ·have h64:=HD.o rfl
   exact .inr ⟨rfl,rfl,rfl,by omega⟩
 have HB2:=U (HB.o.alloc HB.o.size (.map #[] 0));have HM:=U (kC.new (w.alloc (aH #[.int aF kind,.int I links,.int F size,.int I d0,.int I d1,.int I d2,.int I d3,.int I ind] 114)) Jt);have fU:=U (HX.o.alloc (.map #[] 0));rw[aC]at HM
 by_cases hall:(d0=0/\d1=0/\d2=0/\d3=0)/\ind=0
 ·rw[decide_eq_true hall.1]at EQ
  have g0:((ind:Int)==0)=true:=by rw[hall.2];rfl
  clear hall HX HM fU HB2 HR HLT
  rcases hkk with⟨f1,f2⟩|⟨f1,f2,f3,f4⟩
  all_goals
   go_enter func123,ntmps123
   go_wp2
   go_ret;exact⟨rfl,HB.o⟩
 have No:(decide (d0=0/\d1=0/\d2=0/\d3=0)=false)\/(decide (d0=0/\d1=0/\d2=0/\d3=0)=true/\((ind:Int)==0)=false):=by
  by_cases h:d0=0/\d1=0/\d2=0/\d3=0
  ·exact .inr ⟨decide_eq_true h,by simp;intro e;exact hall ⟨h,e⟩⟩
  ·exact .inl (decide_eq_false h)
 generalize decide (d0=0/\d1=0/\d2=0/\d3=0)=bD at*
 clear hall HX hk HD hpg
 rcases hkk with⟨f1,f2⟩|⟨f1,f2,f3,f4⟩<;>rcases No with rfl|⟨rfl,g0⟩
 all_goals
  go_enter func123,ntmps123
  go_wp2_with fail;refine(PG.o _).mono ?_;rintro e w9 ⟨rfl,rfl⟩;go_wp2_with fail
  go_region_held3 (λW=>W.cell? ⟨w.heap.size,7,none⟩=some (.int I ind)/\Aq ((w.alloc (aH #[.int aF kind,.int I links,.int F size,.int I d0,.int I d1,.int I d2,.int I d3,.int I ind] 114)).alloc (.map #[] 0)) w.heap.size #[.int aF kind,.int I links,.int F size,.int I d0,.int I d1,.int I d2,.int I d3,.int I ind] W)
   (first|exact Aq.to (by assumption) (dK (by assumption))|exact Aq.to (by assumption) ((aj _ _).alloc (ah _) _)|exact⟨fU.o.drew.cell 7,(aj _ _).drew,fU.o.drew⟩)
   ((refine step_append_grows (by rfl) (.tmp 56) (.tmp 59) 53 (by rfl) 111 i0 (.int I 0) 1 2 underlying53 hi hz0 hz1 hz2 rfl (by decide) (some ⟨w.heap.size,3,none⟩) 4 4 [.int I d0,.int I d1,.int I d2,.int I d3] (by rfl) (by simp) rfl (Ju (by assumption)) ⟨w.heap.size+2,0,none⟩ 1 1 [.int I ind] (by rfl) rfl (World.news_of_block (NB.o _ _ (by simp))) (λu hu=>by simp at hu;subst hu;rfl) (by decide) (by unfold maxLen;omega) (by omega) ?_;intro v2 w2 hown2 hg2;obtain⟨g2,cap2,rfl,hlt2⟩:=Ar hown2 (by decide)))
  rename_i hS
  have hB3:=HB2.o.trans (hS.2.1.mono HB2.o.size);have hM3:=HM.o.later hS.2.1;rw[<-Wy]at hM3;obtain⟨cur,hcur,hget,hge⟩:=zL hown2;have HG:=U hget;have HB3:=U hB3;have HM3:=U hM3;have HC3:=U hcur;clear hS hget hB3 hM3 hcur hown2 hg2 hge;go_wp2_with fail
  go_loopw [5,6,62] (λ_ _ c wr=>∃m:Nat,m<=5/\c=.int J m/\kC wr Jt (w.heap.size+1) m (cntF ([d0,d1,d2,d3,ind].take m))/\aN wr g2 111 cur/\Below w.heap.size w wr) (λ_ _ c _=>5-(Go.RowKit.intOf c).toNat)
  case atStart=>exact⟨0,by omega,rfl,HM3.o,HC3.o,HB3.o⟩
  case round=>
   obtain⟨m,hm,rfl,hU,hS,hB⟩:=hrel
   by_cases hlt:m<5
   ·obtain⟨v,hv⟩:∃v,[d0,d1,d2,d3,ind][m]? =some v:=⟨_,List.getElem?_eq_getElem (by simpa using hlt)⟩
    have hv16:v<65536:=HLT.o v (List.mem_of_getElem? hv);have hok:=HR.o m v hv
    have c1:wr.cell? ⟨g2,m,none⟩=some (.int I v):=(hS.cell m).trans (HG.o m _ (by
     have e:[Value.int I d0,.int I d1,.int I d2,.int I d3]++[Value.int I ind]=[d0,d1,d2,d3,ind].map (λn:Nat=>Value.int I n):=rfl;rw[e,List.getElem?_map,hv]
     rfl))
    have hsn:[d0,d1,d2,d3,ind].take (m+1)=[d0,d1,d2,d3,ind].take m++[v]:=by rw[List.take_add_one,hv];rfl
    have hlen:([d0,d1,d2,d3,ind].take m).length=m:=by simp;omega
    have hnone:v≠0->iK ([d0,d1,d2,d3,ind].take m) v=0:=λh0=>Tf (λj hj=>by
     rw[hlen]at hj;rw[List.getElem?_take,if_pos hj];exact(hok h0).2 j hj)
    have NF:v≠0->m<pg:=λh0=>(hok h0).1;have hcl:=Gj ([d0,d1,d2,d3,ind].take m) v;rw[hlen]at hcl;have hlk:=Wx hU v hv16;obtain⟨w3,hput,hU3,ht3⟩:=oB hU (by unfold maxLen;omega) v hv16;rw[<-hsn]at hU3;rw[show((iK ([d0,d1,d2,d3,ind].take m) v+1:Nat):Int)=(iK ([d0,d1,d2,d3,ind].take m) v:Int)+1 from by push_cast;rfl]at hput
    generalize iK ([d0,d1,d2,d3,ind].take m) v=cc at*
    obtain⟨l2,hl2⟩:∃l,[d0,d1,d2,d3,ind].take (m+1)=l:=⟨_,rfl⟩;rw[hl2]at hU3;have E2:=U hl2;clear hl2
    generalize [d0,d1,d2,d3,ind].take m=l1 at*
    have hS3:aN w3 g2 111 cur:=hS.kept ht3.grown (λe=>hU.ne hS (Option.some.inj e));have hB3:Below w.heap.size w w3:=hB.grown ht3.grown hB.size (λg e=>by cases e;omega);have HS3:=U hS3;have Of:=U hB3;have HU3:=U hU3;have HHS:=U hS;have hgl:=hS.lt;have q0:(0:Int)<=m:=by omega
    have q1:(m:Int)<5:=by omega
    clear hS hS3 hB hB3 hU hU3 hok hv hsn hlen ht3
    by_cases hv0:v=0
    ·subst hv0
     have hlk2:(Instr.lookup 280 (.map (some (w.heap.size+1))) (.int I 0) false).run prog wr=.ok (.int J cc) wr:=hlk;have hput2:(Instr.mapUpdate 280 (.map (some (w.heap.size+1))) (.int I 0) (.int J ((cc:Int)+1))).run prog wr=.ok () w3:=hput;clear hlk hput hnone NF;go_wp2_with fail;go_roundw
     case rel=>exact⟨m+1,by omega,by go_num,by rw[E2.o];exact HU3.o,HS3.o,Of.o⟩
     case measure=>simp[Go.RowKit.intOf];omega
    ·have e0:=hnone hv0
     have hp:=NF hv0;have e1:((v:Int)!=0)=true:=by simp;omega
     have e2:decide ((pg:Int)<=(m:Int))=false:=by simp;omega
     have e3:decide (pg<=m)=false:=by simp;omega
     have hlk2:(Instr.lookup 280 (.map (some (w.heap.size+1))) (.int I v) false).run prog wr=.ok (.int J 0) wr:=by rw[e0]at hlk;exact hlk
     have hput2:(Instr.mapUpdate 280 (.map (some (w.heap.size+1))) (.int I v) (.int J 1)).run prog wr=.ok () w3:=by rw[e0]at hput;exact hput
     clear hnone NF hlk hput e0 hcl;go_wp2_with fail;go_roundw
     case rel=>exact⟨m+1,by omega,by go_num,by rw[E2.o];exact HU3.o,HS3.o,Of.o⟩
     case measure=>simp[Go.RowKit.intOf];omega
   ·obtain rfl:m=5:=by omega
    have Of:=U hB;clear hU hS hB;go_wp2_with fail;go_ret;exact⟨rfl,Of.o⟩
