/- Lemmas. -/
import Derived.Test.YtpendnmmgjlmfaaGreatDoorM13
import Derived.Test.YtpendnmmgjlmfaaGreatDoorM31
import Derived.Test.YtpendnmmgjlmfaaGreatDoorCards
import Derived.Test.YtpendnmmgjlmfaaGreatDoorTie
import Derived.ProofKit
import Derived.ShutString
import Derived.ChangeOld
import Derived.SizedLaws
import Derived.Deep.DeepHandedRow
import Derived.Lib.LaidTab
import Derived.Lib.SmallJoins
import Derived.Laws.IdiomArrays
set_option linter.unusedVariables false
set_option linter.unusedSimpArgs false
namespace Go.Proofs.YtpendnmmgjlmfaaGreatDoor
open Go.RowKit Go.Shelf Go.Maps
open Go.Proofs.Tryz
open IntKind renaming u16→I,i64→J,u32→F,u8→aF
open Value renaming pointer→G,tuple->τ
open Ending renaming returned→aG
open Obj renaming cells→aH
set_option maxRecDepth 100000
namespace lC
open Go.Sort Oct Dev mU Tx Geo qX
def eX:aP:=⟨2,1,0,0,0,0,0,0⟩
def qP:ByteArray:=jL eX++zS.extract 32 64
def IB:ByteArray:=lI zS true 0 1
def IC:ByteArray:=lI zS true 0 2
def fmtS (i b j:Nat) (q:Nat):ByteArray:=
 if q=cB i b j 4 then qP else if q=cB i b j 3 then IB else if q=cB i b j 2 then IC else if q=0 then B (ru i b j)else zS
theorem jZ:zS.size=64:=by
 unfold zS;rw[aV,List.length_replicate]
theorem Pk:qP.size=64:=by
 unfold qP;rw[ByteArray.size_append,jF,ByteArray.size_extract,jZ]
 rfl
theorem Vi:IB.size=64:=(qy zS true 0 1).trans jZ
theorem Vj:IC.size=64:=(qy zS true 0 2).trans jZ
theorem yg (i b j q:Nat):(fmtS i b j q).size=64:=by
 unfold fmtS
 split
 ·exact Pk
 split
 ·exact Vi
 split
 ·exact Vj
 split
 ·rw[aV,Tc]
 ·exact jZ
def sG:lH:=λv=>match v with
 | .agg cs=>match cs.toList with
   |[.string s]=>some (.agg [.lit (.string (L s))],[])
   |_=>none
 |_=>none
theorem Lv (s:ByteArray):sG (.agg #[.string s])=some (.agg [.lit (.string (L s))],[]):=rfl
theorem Fj {v:Value} {s:ByteArray} {ps:List MemPlace} (h:sG v=some (.agg [.lit (.string (L s))],ps)):v=.agg #[.string s]:=by
 unfold sG at h
 split at h
 ·rename_i cs
  split at h
  ·rename_i t hm
   simp only[Option.some.injEq,Prod.mk.injEq,DataW.agg.injEq,List.cons.injEq,DataW.lit.injEq,Lit.string.injEq,and_true]at h;rw[<-iL h.1]
   congr 1
   exact Array.toList_inj.1 hm
  ·cases h
 ·cases h
def qU (s:ByteArray):DataW Unit:=.agg [.lit (.string (L s))]
def sH (i b j:Nat):Int->Option (DataW Unit):=
 qw (qw (qw (qw (λ_=>none) (0:Nat) (qU (B (ru i b j)))) (cB i b j 2:Nat) (qU IC)) (cB i b j 3:Nat) (qU IB)) (cB i b j 4:Nat) (qU qP)
theorem Lx (i b j q:Nat):((sH i b j q).getD (qU zS))=qU (fmtS i b j q)/\((sH i b j q).isSome=false->fmtS i b j q=zS):=by
 unfold sH qw fmtS;simp only[Int.natCast_inj]
 by_cases h4:q=cB i b j 4
 ·simp only[if_pos h4]
  exact⟨rfl,λh=>by cases h⟩
 by_cases h3:q=cB i b j 3
 ·simp only[if_neg h4,if_pos h3]
  exact⟨rfl,λh=>by cases h⟩
 by_cases h2:q=cB i b j 2
 ·simp only[if_neg h4,if_neg h3,if_pos h2]
  exact⟨rfl,λh=>by cases h⟩
 by_cases h0:q=0
 ·simp only[if_neg h4,if_neg h3,if_neg h2,if_pos h0]
  exact⟨rfl,λh=>by cases h⟩
 ·simp only[if_neg h4,if_neg h3,if_neg h2,if_neg h0]
  exact⟨rfl,λh=>trivial⟩
theorem Vk {i b j q:Nat} (h:(sH i b j q).isSome=true):(sH i b j q).getD (qU ⟨#[]⟩)=qU (fmtS i b j q):=by
 have h1:=(Lx i b j q).1;obtain⟨d,hd⟩:=Option.isSome_iff_exists.1 h;rw[hd]at h1⊢;exact h1
theorem Fp {i b j q:Nat} (h:(sH i b j q).isSome=false):(sH i b j q).getD (qU ⟨#[]⟩)=qU ⟨#[]⟩/\fmtS i b j q=zS:=by
 refine⟨?_,(Lx i b j q).2 h⟩;cases hp:sH i b j q with
 |none=>rfl
 |some d=>rw[hp]at h;cases h
def UV (i b j m:Nat) (pd:iF):Prop:=∀x:Int,(pd x).map (λe=>e.2.2)=if 0<=x/\x<m then some (fmtS i b j x.toNat)else none
theorem Zm (i b j:Nat):UV i b j 0 (λ_=>none):=λx=>by
 rw[if_neg (by omega)]
 rfl
theorem Ek {i b j m:Nat} {pd:iF} (h:UV i b j m pd):pd m=none:=by
 have h1:=h m;rw[if_neg (by omega)]at h1
 simpa using h1
theorem Zn {i b j m bl cap:Nat} {pd:iF} (h:UV i b j m pd):UV i b j (m+1) (Df pd m (bl,cap,fmtS i b j m)):=λx=>by
 unfold Df
 by_cases hx:x=m
 ·subst hx
  rw[if_pos rfl,if_pos (by omega)]
  rfl
 ·rw[if_neg hx,h x]
  by_cases hc:0<=x/\x<m
  ·rw[if_pos hc,if_pos (by omega)]
  ·rw[if_neg hc,if_neg (by omega)]
theorem flushed {i b j n:Nat} {pd:iF} {hard:List ByteArray} {ss:List Int} (hk:KeysOf (ng pd) ss) (h:UV i b j n pd) (hl:hard.length=n):jE pd ss=(λ_=>none)/\iD hard pd ss=(List.range n).map (fmtS i b j):=by
 have hmem:∀x,x∈ss↔(pd x).isSome=true:=λx=>by
  rw[hk.2 x];unfold ng
  simp
 have hdom:∀x e,pd x=some e->∃q:Nat,x=q:=λx e hx=>by
  have h1:=h x;rw[hx]at h1
  by_cases hc:0<=x/\x<n
  ·exact⟨x.toNat,by omega⟩
  ·rw[if_neg hc]at h1
   cases h1
 constructor
 ·funext y
  unfold jE
  by_cases hy:y∈ss
  ·rw[if_pos hy]
  ·rw[if_neg hy]
   have h2:=mt (hmem y).2 hy
   simpa using h2
 ·apply List.ext_getElem?
  intro q
  by_cases hq:q<hard.length
  ·rw[qB hdom ss hard q hq]
   have h1:=h q;rw[if_pos (by omega)]at h1
   have hs:(pd (q:Int)).isSome=true:=by
    cases hp:pd (q:Int)with
    |none=>rw[hp]at h1;cases h1
    |some e=>rfl
   rw[if_pos ((hmem _).2 hs)];obtain⟨e,he⟩:=Option.isSome_iff_exists.1 hs;rw[he]at h1⊢;have h3:e.2.2=fmtS i b j q:=by simpa using h1
   simp only[h3];rw[List.getElem?_map,List.getElem?_range (by omega)]
   rfl
  ·rw[List.getElem?_eq_none (by rw[qA];omega),List.getElem?_eq_none (by simp;omega)]
def iJ (w:World):Prop:=0<w.heap.size/\w.cell? ⟨0,0,none⟩=some (.int aF 2)/\w.cell? ⟨0,1,none⟩=some (.int I 1)/\w.cell? ⟨0,2,none⟩=some (.int F 0)/\w.cell? ⟨0,3,none⟩=some (.int I 0)/\w.cell? ⟨0,4,none⟩=some (.int I 0)/\w.cell? ⟨0,5,none⟩=some (.int I 0)/\w.cell? ⟨0,6,none⟩=some (.int I 0)/\w.cell? ⟨0,7,none⟩=some (.int I 0)
theorem iJ.below {w w':World} {n:Nat} (h:iJ w) (hn:0<n) (hb:Below n w w'):iJ w':=by
 obtain⟨h,h0,h1,h2,h3,h4,h5,h6,h7⟩:=h;have k:∀i,w'.cell? ⟨0,i,none⟩=w.cell? ⟨0,i,none⟩:=λi=>hb.cell (p:=⟨0,i,none⟩) hn;refine⟨aA h hb.size,?_⟩;rw[k,k,k,k,k,k,k,k];exact⟨h0,h1,h2,h3,h4,h5,h6,h7⟩
theorem iJ.later {w w':World} (h:iJ w) (hb:Below w.heap.size w w'):iJ w':=h.below h.1 hb
theorem Fq:prog.underlying 155=some (.map 3 156):=by kernel_rfl
theorem Vm (w:World):(zeroValue 156).run prog w=.ok (.agg #[.string ⟨#[]⟩]) w:=by kernel_rfl
theorem Zo {W:World} {M nn i bl j:Nat} (h:dM W sG M nn (sH i bl j)) (q:Nat) (hq:q<=4096):
 (Instr.lookup 155 (.map (some M)) (.int J (q:Int)) true).run prog W=.ok (τ #[.agg #[.string (if(sH i bl j q).isSome then fmtS i bl j q else⟨#[]⟩)],.bool (sH i bl j q).isSome]) W:=by
 obtain⟨v,ps,hrun,hv⟩:=h.look_ok Fq (Vm W) (Lv ⟨#[]⟩) q (mQ q (by omega));rw[hrun];cases hp:(sH i bl j q).isSome with
 |true=>
  have e1:=Vk hp;rw[show DataW.agg [.lit (.string (L ⟨#[]⟩))]=qU ⟨#[]⟩from rfl,e1]at hv;rw[Fj hv]
  rfl
 |false=>
  have e1:=(Fp hp).1;rw[show DataW.agg [.lit (.string (L ⟨#[]⟩))]=qU ⟨#[]⟩from rfl,e1]at hv;rw[Fj hv]
  rfl
theorem Hu (q:Nat) (s:ByteArray) (P M nn:Nat) (f:Int->Option (DataW Unit)) (w:World) (hP:aN w P 155 #[.map (some M)]) (hM:dM w sG M nn f) (hq:q<=4096) (hn:nn<1000):
 Calls prog 61 #[.int J q,.string s,P] w λe w'=>e=aG (τ #[])/\dM w' sG M (nn+1) (qw f q (qU s))/\aR (λc=>c=M) w w':=by
 obtain⟨w3,hput,QF,ht3⟩:=dM.put hM Fq (by unfold maxLen;omega) q (mQ q (by omega)) (Lv s);have T:=aR.grown (S:=λc=>c=M) ht3.grown (λr e=>(Option.some.inj e).symm);have P0:=hP.cell 0;have Pl:=hP.lt;simp only[au,av]at P0;clear hP hM ht3;have QF:=U QF;have T:=U T
 go_enter func61,ntmps61
 go_wp2
 go_end0;exact⟨rfl,QF.o,T.o⟩
theorem xK (i bl j p aM:Nat) (w:World) (hm:iR i bl j=true) (hp:p<6) (hG:aN w aM 23 #[.int J i,.int J bl,.int J j]):
 Calls prog 62 #[.int J p,aM] w λe w'=>e=aG (.int J (cB i bl j p))/\Below w.heap.size w w':=by
 have PT:=U (λW=>Geo.jN i bl j p W hm hp);unfold dw at PT
 generalize cB i bl j p=q at*
 generalize oP i bl j p=n at*
 have X:=hG.cell;have Xl:=hG.lt;clear hG
 go_enter func62,ntmps62
 go_wp2_with fail;refine(PT.o _).mono ?_;rintro e w1 ⟨rfl,b1⟩;have hY:=aN.new w1 76 #[.int J q,.int J n];have Y:=hY.cell;have Yl:=hY.lt;have B1:=U (b1.alloc b1.size (aH #[.int J q,.int J n] 76));clear b1 hY
 go_wp2
 go_ret;exact⟨rfl,B1.o⟩
structure pV (w:World) (i bl j aM P M nn:Nat) (f:Int->Option (DataW Unit)) (W:World):Prop where
 geo:aN W aM 23 #[.int J i,.int J bl,.int J j]
 put:aN W P 155 #[.map (some M)]
 map:dM W sG M nn f
 lS:Below w.heap.size w W
 ge:w.heap.size<=M
theorem pV.later {w W W':World} {i bl j aM P M nn:Nat} {f:Int->Option (DataW Unit)} (h:pV w i bl j aM P M nn f W) (hb:Below W.heap.size W W'):pV w i bl j aM P M nn f W':=
 ⟨h.geo.later hb,h.put.later hb,h.map.later hb,h.lS.trans (hb.mono h.lS.size),h.ge⟩
theorem pV.lay {w W W':World} {i bl j aM P M nn GX:Nat} {f f':Int->Option (DataW Unit)} (h:pV w i bl j aM P M nn f W) (hM:dM W' sG M GX f') (hT:aR (λc=>c=M) W W'):pV w i bl j aM P M GX f' W':=
 ⟨(hT.block _ h.geo.lt (h.map.ne h.geo)).trans h.geo,(hT.block _ h.put.lt (h.map.ne h.put)).trans h.put,hM,hT.below (λc hc=>by rw[hc];exact h.ge) h.lS h.lS.size,h.ge⟩
theorem UX {w W:World} {i bl j aM P M nn q:Nat} {f:Int->Option (DataW Unit)} {s:ByteArray} (h:pV w i bl j aM P M nn f W) (hq:q<=4096) (hn:nn<1000):
 Calls prog 61 #[.int J q,.string s,P] W λe W'=>e=aG (τ #[])/\pV w i bl j aM P M (nn+1) (qw f q (qU s)) W':=
 (Hu q s P M nn f W h.put h.map hq hn).mono λe W' ⟨h1,h2,h3⟩=>⟨h1,h.lay h2 h3⟩
theorem Zp {w W:World} {i bl j aM P M nn p:Nat} {f:Int->Option (DataW Unit)} (h:pV w i bl j aM P M nn f W) (hm:iR i bl j=true) (hp:p<6):
 Calls prog 62 #[.int J p,aM] W λe W'=>e=aG (.int J (cB i bl j p))/\pV w i bl j aM P M nn f W':=
 (xK i bl j p aM W hm hp h.geo).mono λe W' ⟨h1,h2⟩=>⟨h1,h.later h2⟩
def Pm (w:World) (i bl j P M:Nat) (b:dN) (hard:List ByteArray) (m:Nat) (wr:World):Prop:=
 ∃pd,bY wr b hard pd m/\UV i bl j m pd/\aN wr P 155 #[.map (some M)]/\dM wr sG M 4 (sH i bl j)/\aR (λc=>c=b.p\/c=b.m) w wr
open Go.Joins Go.ChangeShapes Go.WideShapes Go.ChangeAt Go.Deep
theorem Vn {H:Type} {enc:TypeId×Value->H} {P:Program} {w:World} {base fuel:Nat} {spare:Nat->Bool} {held:Bool} {t:TypeId} {f0 f1 f2:Field} {c0 c1 c2:Value} {x:DataW H×List MemPlace} (hs:P.underlying t=some (.struct #[f0,f1,f2])) (hone:oneCellFields P #[f0,f1,f2]=true) (h:DataW.trod enc P w base spare held fuel t [c0,c1,c2]=some x):
 ∃y0 y1 y2 n,x=(.agg [y0.1,y1.1,y2.1],y0.2++(y1.2++y2.2))/\DataW.trod enc P w base spare held n f0.type [c0]=some y0/\DataW.trod enc P w base spare held n f1.type [c1]=some y1/\DataW.trod enc P w base spare held n f2.type [c2]=some y2:=by
 obtain⟨y0,y1,y2,n,hx,_,t0,t1,t2⟩:=trod_struct3 hs h;obtain⟨o0,k0⟩:=hone_of hone 0 f0 rfl;obtain⟨o1,k1⟩:=hone_of hone 1 f1 rfl;obtain⟨o2,k2⟩:=hone_of hone 2 f2 rfl;exact⟨y0,y1,y2,n,hx,by simpa[o0,k0]using t0,by simpa[o1,k1]using t1,by simpa[o2,k2]using t2⟩
theorem Wj {H:Type} {enc:TypeId×Value->H} {W:World} {r:Reach} {b0 base:Nat} {spare:Nat->Bool} {held:Bool} {v:Value} {d:DataW H} {p:List MemPlace}
 (hv:Value.okWide prog W r b0 23 v) (h:DataW.Trod enc prog W base spare held 23 v d p):∃i b j:Int,v=dw i b j:=by
 obtain⟨cs,rfl,hsz⟩:=okWide_struct underlying23 hv;obtain⟨l⟩:=cs;have hC:prog.cellsOf 23=3:=by kernel_rfl
 match l,hsz.trans hC with
 |[c0,c1,c2],_=>
  obtain⟨fuel,hf⟩:=h;obtain⟨y0,y1,y2,n,hx,t0,t1,t2⟩:=Vn underlying23 (by kernel_rfl) hf;obtain⟨n0,e0,rfl,w0⟩:=DataW.trod_int underlying3 t0;obtain⟨n1,e1,rfl,w1⟩:=DataW.trod_int underlying3 t1;obtain⟨n2,e2,rfl,w2⟩:=DataW.trod_int underlying3 t2;simp only[List.cons.injEq,and_true]at e0 e1 e2;subst e0 e1 e2;exact⟨n0,n1,n2,rfl⟩
theorem own:ownKnob prog.godebug=none:=by kernel_rfl
theorem Lz:prog.globalNamed "lunette/image.root" =some 0:=by kernel_rfl
theorem Vo:(prog.globals[0]?).map (·.type)=some 114:=by kernel_rfl
theorem LB:prog.cellsOf 114=8:=by kernel_rfl
theorem sI {H:Type} {enc:TypeId×Value->H} {W:World} {base:Nat} {sp:Nat->Bool} {held:Bool} {fuel:Nat} {t:TypeId} {k:IntKind} {n:Int} {cs:List Value} {x:DataW H×List MemPlace}
 (ht:prog.underlying t=some (.int k)) (h:DataW.trod enc prog W base sp held fuel t cs=some x) (hx:x.1=.lit (.int k n)):cs=[.int k n]:=by
 obtain⟨m,rfl,rfl,_⟩:=DataW.trod_int ht h;simp only[DataW.lit.injEq,Lit.int.injEq,true_and]at hx;rw[hx]
theorem Dy {H:Type} {enc:TypeId×Value->H} {W:World} {base:Nat} {sp:Nat->Bool} {held:Bool} {fuel:Nat} {cs:List Value} {p:List MemPlace}
 (h:DataW.trod enc prog W base sp held fuel 114 cs=some (Rows.laid_lunette_image_root,p)):cs=[.int aF 2,.int I 1,.int F 0,.int I 0,.int I 0,.int I 0,.int I 0,.int I 0]:=by
 obtain⟨xs,n,_,hx,hl,hxl,hg⟩:=DataW.trod_struct underlying114 h;have hl:=hl.trans LB
 match cs,hl with
 |[c0,c1,c2,c3,c4,c5,c6,c7],_=>
  match xs,hxl with
  |[y0,y1,y2,y3,y4],_=>
   have hd:=congrArg Prod.fst hx;simp only[Rows.laid_lunette_image_root,List.map_cons,List.map_nil,DataW.agg.injEq,List.cons.injEq,and_true]at hd;obtain⟨d0,d1,d2,d3,d4⟩:=hd;have g0:[c0]=[.int aF 2]:=sI underlying5 (hg 0 _ rfl) d0.symm;have g1:[c1]=[.int I 1]:=sI underlying111 (hg 1 _ rfl) d1.symm;have g2:[c2]=[.int F 0]:=sI underlying42 (hg 2 _ rfl) d2.symm;have g4:[c7]=[.int I 0]:=sI underlying111 (hg 4 _ rfl) d4.symm;have h3:DataW.trod enc prog W base sp held n 112 [c3,c4,c5,c6]=some y3:=hg 3 _ rfl;obtain⟨z0,z1,z2,z3,m,rfl,t0,t1,t2,t3⟩:=trod_array4 underlying112 (by kernel_rfl) h3;simp only[DataW.agg.injEq,List.cons.injEq,and_true]at d3;obtain⟨b0,b1,b2,b3⟩:=d3;have a0:=sI underlying111 t0 b0.symm;have a1:=sI underlying111 t1 b1.symm;have a2:=sI underlying111 t2 b2.symm;have a3:=sI underlying111 t3 b3.symm;simp only[List.cons.injEq,and_true]at g0 g1 g2 g4 a0 a1 a2 a3;rw[g0,g1,g2,g4,a0,a1,a2,a3]
theorem lR {W:World} (h:laidMetH prog [("lunette/image.root",Rows.laid_lunette_image_root)] W):iJ W:=by
 have h':laidMet prog [("lunette/image.root",Rows.laid_lunette_image_root)] W:=h;obtain⟨ps,⟨g',t',cs,fuel,p,q,hg',ht',hvar,hd,_,_⟩,_⟩:=h';obtain rfl:=Option.some.inj (Lz.symm.trans hg');obtain rfl:=Option.some.inj (Vo.symm.trans ht');have hc:=λi=>World.var?_cell Lz hvar i;obtain⟨l⟩:=cs;have hcs:=Dy hd;have hcs:l=_:=hcs;subst hcs;refine⟨Nat.lt_of_le_of_lt (aB _) (World.block_lt_of_cell? _ _ (hc 0)),hc 0,hc 1,hc 2,hc 3,hc 4,hc 5,hc 6,hc 7⟩
noncomputable def xA (os:Os):World:=
 {World.holding prog os ⟨#[],#[],[]⟩with heap:=(World.holding prog os ⟨#[],#[],[]⟩).heap.modify 0 fun
  | aH _ t frozen=>aH #[.int aF 2,.int I 1,.int F 0,.int I 0,.int I 0,.int I 0,.int I 0,.int I 0] t frozen
  |o=>o}
