/- Lemmas. -/
import Derived.Test.YtpendnmmgjlmfaaGreatDoorM18
import Derived.Test.YtpendnmmgjlmfaaGreatDoorM26
import Derived.Deep.RegionWith
import Derived.ProofKit
import Derived.Deep.Slices
import Derived.Deep.Fields
import Derived.ChangeSame
import Derived.ChangeSlices
import Derived.SizedLaws
import Derived.OpenShut
import Derived.ChangeOld
import Derived.Below
set_option linter.unusedVariables false
set_option linter.unusedSimpArgs false
namespace Go.Proofs.YtpendnmmgjlmfaaGreatDoor
open Go.RowKit Go.Shelf Go.Maps
open Go.Proofs.Tryz
open IntKind renaming i64→J,u32→F,u8→aF
open Value renaming pointer→G,int->ι,string->σ,bool->ν,tuple->τ,slice->θ,agg->γ
open Ending renaming returned→aG
open Obj renaming cells→aH
set_option maxRecDepth 100000
set_option maxHeartbeats 4000000
namespace Re
open Oct Path Tr
theorem LU {w:World} {n q:Nat}:Below n w (w.drewN q):=⟨rfl,rfl,rfl,ah _,λ_ _=>rfl⟩
def Ae (W:World) (p:Option Addr) (rs:List Rw):Prop:=∀(i:Nat) (r:Rw),rs[i]? =some r->∃g o,p=some ⟨g,o,none⟩/\g<W.heap.size/\∀(j:Nat) (c:Value),(dX r)[j]? =some c->W.cell? ⟨g,o+i*12+j,none⟩=some c
theorem Ae.later {W W':World} {p:Option Addr} {rs:List Rw} (h:Ae W p rs) (hb:Below W.heap.size W W'):Ae W' p rs:=λi r hr=>by
 obtain⟨g,o,rfl,hg,hc⟩:=h i r hr;refine⟨g,o,rfl,aA hg hb.size,λj c hj=>?_⟩;rw[<-hc j c hj];unfold World.cell?;rw[hb.block g hg]
def ug (n:Nat) (wz:World) (e:Ending) (w':World):Prop:=(∃b,e=aG (ν b)/\(b=false->n<=60))/\Below wz.heap.size wz w'
theorem ug.of {n:Nat} {wz w':World} {b:Bool} (h:Below wz.heap.size wz w') (hn:b=false->n<=60):ug n wz (aG (ν b)) w':=⟨⟨b,rfl,hn⟩,h⟩
theorem LW (wz:World) (rs:List Rw) (p:Option Addr) (cap:Nat) (hR:Ae wz p rs) (hl:rs.length<=9223372036854775807):
 Calls prog 4 #[θ p rs.length cap] wz (ug rs.length wz):=by
 have HR:=U hR;obtain⟨n,hn⟩:∃n,rs.length=n:=⟨_,rfl⟩;rw[hn]at hl⊢;have HN:=U hn;clear hR hn
 go_enter func4,ntmps4
 go_wp2_with fail
 go_loopw [3,4] (λs3 s4 wr=>∃(z:Int) (i:Nat),s3=ι J z/\s4=ι J i/\i<=n/\i<=100/\Below wz.heap.size wz wr) (λs3 s4 _=>100-(intOf s4).toNat)
 case atStart=>exact⟨0,0,rfl,rfl,aB _,aB _,aj _ _⟩
 case round=>
  obtain⟨z,i,rfl,rfl,hi,hi2,hB⟩:=hrel;have B1:=U hB;clear hB
  rcases Nat.lt_or_ge i n with hlt|hge
  ·have t1:(i:Int)<n:=by omega
   rcases Nat.lt_or_ge i 100 with h1|h1
   ·have t2:(i:Int)<100:=by omega
    obtain⟨r,hr⟩:∃r,rs[i]? =some r:=⟨_,List.getElem?_eq_getElem (by rw[HN.o];exact hlt)⟩;obtain⟨g,o,rfl,hg,hc⟩:=(HR.o.later B1.o) i r hr;have c3:wr.cell? ⟨g,o+i*12+3,none⟩=some (σ r.name):=hc 3 _ rfl;have c7:wr.cell? ⟨g,o+i*12+7,none⟩=some (σ r.name2):=hc 7 _ rfl;have c11:wr.cell? ⟨g,o+i*12+11,none⟩=some (σ r.data):=hc 11 _ rfl;clear hc hr;go_wp2_with fail
    go_quiet (fail)
    go_wp2_with fail;go_roundw
    case rel=>exact⟨_,i+1,rfl,by go_num,by omega,by omega,B1.o.trans (Below.mono LU B1.o.size)⟩
    case measure=>simp[intOf];omega
   ·have t2:¬(i:Int)<100:=by omega
    have t3:decide ((i:Int)<100)=false:=decide_eq_false t2
    by_cases h60:60<n
    ·have t4:60<(n:Int):=by omega
     go_wp2_with fail;go_ret;exact ug.of B1.o (λq=>by cases q)
    ·omega
  ·have t1:¬(i:Int)<n:=by omega
   have t3:decide ((i:Int)<n)=false:=decide_eq_false t1
   by_cases h60:60<n
   ·have t4:60<(n:Int):=by omega
    go_wp2_with fail;go_ret;exact ug.of B1.o (λq=>by cases q)
   ·have t4:¬60<(n:Int):=by omega
    go_wp2_with fail;go_ret;exact ug.of B1.o (λ_=>by omega)
theorem of_no (o:Nat) (h:¬(1<=o/\o<=7)) (w:World):Calls prog 50 #[ι aF o] w λe w'=>e=aG (γ #[ν false,ν false,ν false,ν false,ν false])/\Below w.heap.size w w':=by
 have q1:¬(o:Int)=1:=by omega
 have q2:¬(o:Int)=2:=by omega
 have q3:¬(o:Int)=3:=by omega
 have q4:¬(o:Int)=4:=by omega
 have q5:¬(o:Int)=5:=by omega
 have q6:¬(o:Int)=6:=by omega
 clear h
 go_enter func50,ntmps50
 go_wp2_with fail;have X:=aN.new w 119 #[ν false,ν false,ν false,ν false,ν false];have k:=X.cell;exact bodyPost_ret (v:=γ #[ν false,ν false,ν false,ν false,ν false]) (by simp[results,results50,go_sem,(k 0),(k 1),(k 2),(k 3),(k 4)]) rfl ⟨rfl,(aj _ w).alloc (ah _) _⟩
theorem EV (stamp op dir ino kind bV old size:Nat) (name name2 data:ByteArray) (page:Int) (h:¬(1<=op/\op<=7)) (wz:World):
 Calls prog 21 #[γ (dX ⟨stamp,op,dir,name,ino,kind,bV,name2,old,size,page,data⟩)] wz (gQ ⟨stamp,op,dir,name,ino,kind,bV,name2,old,size,page,data⟩ wz):=by
 have OF:=U (of_no op h);unfold dX
 go_enter func21,ntmps21
 go_wp2_with fail;have hal:=(aj _ wz).alloc (ah _) (aH #[ι .u64 stamp,ι aF op,ι F dir,σ name,ι F ino,ι aF kind,ι F bV,σ name2,ι F old,ι F size,ι J page,σ data] 44);have X0:=aN.new wz 44 #[ι .u64 stamp,ι aF op,ι F dir,σ name,ι F ino,ι aF kind,ι F bV,σ name2,ι F old,ι F size,ι J page,σ data];refine ak (OF.o _) ?_;rintro e w2 ⟨rfl,hb⟩;have OH:=(aj _ w2).alloc (ah _) (aH #[ν false,ν false,ν false,ν false,ν false] 119);have hz:wz.heap.size<w2.heap.size:=by have:=hb.size;simp at this;omega
 have X:=(X0.later hb).later OH;have BB:=U ((hal.trans (hb.mono (by simp))).trans (OH.mono (by omega)));have A:=X.cell;have Al:=X.lt;clear X X0 hal OH hb hz OF
 rcases(by omega:op<1\/(¬op<1/\7<op))with h1|⟨h1,h2⟩
 ·have q1:(op:Int)<1:=by omega
  go_wp2_with fail;go_ret;exact gQ.no BB.o
 ·have q1:¬(op:Int)<1:=by omega
  have q2:7<(op:Int):=by omega
  go_wp2_with fail;go_ret;exact gQ.no BB.o
theorem Zv (r:Rw) (h:r.In) (wz:World):Calls prog 21 #[γ (dX r)] wz (gQ r wz):=by
 obtain⟨stamp,op,dir,name,ino,kind,bV,name2,old,size,page,data⟩:=r;obtain⟨hs,hn,hn2,_⟩:=h
 by_cases ho:1<=op/\op<=7
 ·exact AI stamp op dir ino kind bV old size name name2 data page ho hs hn hn2 wz
 ·exact EV stamp op dir ino kind bV old size name name2 data page ho wz
end Re
namespace Tr
open Oct Path
section
variable {E:TL} {room q:Nat} {S:T}
def IG:T:=⟨λ_=>Nd.no,λ_ _=>0⟩
def eX:T:=⟨aS (λ_=>Nd.no) 1 ⟨2,1,0,0,[]⟩,λ_ _=>0⟩
theorem Zw (w:World) (room:Nat) (hr:room<=256):aU ((w.alloc (.map #[] 0)).alloc (aH #[.int F room,.map (some w.heap.size)] 130)) ⟨w.heap.size+1,w.heap.size,id,id,id,λc=>w.heap.size<=c⟩ room 0 IG:=by
 have hno:∀x,¬(IG.n x).kind≠0:=λx h=>h rfl;refine{top:=?_,map:=?_,nd:=λx h=>absurd h (hno x),ent:=λx h=>absurd h (hno x),pg:=λx h=>absurd h (hno x),own:=⟨by show w.heap.size<=w.heap.size+1;omega,ah _,λx h=>absurd h (hno x)⟩,iP:=λx _ h=>absurd h (hno x),iA:=λx _ h=>absurd h (hno x),iB:=λx _ h=>absurd h (hno x),Tv:=λx _ h=>absurd h (hno x),iM:=λx h=>absurd h (hno x),rm:=hr,q8:=by omega,lk:=λx=>⟨by show(0:Nat)<=_;omega,by show(0:Nat)<=_;omega⟩,dt:=λx=>by show(0:Nat)<=_;omega}
 ·simpa using aN.new (w.alloc (.map #[] 0)) 130 _
 ·have e:eB F (jP ⟨w.heap.size+1,w.heap.size,id,id,id,λc=>w.heap.size<=c⟩ IG)=λ_=>none:=by
   funext k
   cases k with
   |int k z=>simp[eB,jP,IG,Nd.no]
   |_=>rfl
  rw[e];exact((cZ.new w _).alloc _).mono (by omega)
theorem tO (n:Nat) (w:World) (h2:2<=n) (VC:n<=256):
 Calls prog 92 #[.int J n] w λe w'=>∃E:TL,e=aG (τ #[E.t,.int J 0])/\aU w' E n 0 eX/\(∀c,E.O c->w.heap.size<=c)/\Below w.heap.size w w':=by
 have HE:=U (Zw w n VC);have BE:=U (((aj _ w).alloc (ah _) (.map #[] 0)).alloc (by simp) (aH #[.int F n,.map (some w.heap.size)] 130));have hc:=HE.o.top;have C:=hc.cell;have Cl:=hc.lt;clear hc;have w1:IntKind.u32.wrap (n:Int)=n:=by simp[IntKind.wrap,IntKind.bits,IntKind.signed];omega
 have hmm:=@run_makeMap prog
 go_enter func92,ntmps92
 go_wp2_with fail
 go_region_with ((first
  |(refine ak (En 2 (.inr rfl) _) ?_
    rintro e w2 ⟨p,a,b,rfl,aL⟩;have hT0:=HE.o.drew;obtain⟨W2,hrun,CW,hm⟩:=hT0.born (x:=1) aL (.inr rfl) rfl (by omega) (by omega) (λs=>rfl) (λy hy=>absurd rfl hy);have hrun2:(Instr.mapUpdate 128 (.map (some w.heap.size)) (.int F 1) (G (some ⟨p,0,none⟩))).run prog w2=.ok () W2:=hrun;clear hrun;have FB:=U aL;have FT:=U CW;have FM:=U hm;have cc:=(hT0.later aL.lS).top.cell 1;simp only[au,av,ay]at cc;have cl:=(hT0.later aL.lS).top.lt;clear aL CW hm hT0)))
 all_goals
  go_wp2_with fail;go_ret2;have hlo:=FB.o.lo;have tc:=aR.turned (O:=λc=>w.heap.size<=c) FM.o (ah _);refine⟨_,rfl,FT.o,λc hc=>?_,(BE.o.drew.trans (FB.o.lS.mono (by simp;omega))).trans (tc.below λi hi=>⟨?_,?_⟩)⟩
  ·simp at hlo
   rcases hc with hc|rfl|rfl|rfl
   ·exact hc
   all_goals omega
  ·have:=FB.o.lS.size
   simp at this
   omega
  ·show¬w.heap.size<=i
   omega
end
end Tr
namespace Re
open Oct Path Tr
section
variable {E:TL} {room q:Nat}
theorem sJ (h:2<=room):Inv room eX:=by
 have hn:∀x,x≠1->eX.n x=Nd.no:=λx hx=>by simp[eX,aS,hx]
 have h1:eX.n 1=⟨2,1,0,0,[]⟩:=rfl;have hk:∀x,(eX.n x).kind≠0->x=1:=λx hx=>Classical.byContradiction λe=>hx (by rw[hn x e];rfl);have hl:∀d s,eX.l d s=0:=λ_ _=>rfl;refine{k2:=λx=>?_,no:=λx hx=>?_,vo:=λ_ _ _=>rfl,fl:=λx hx=>?_,dr:=λx hx=>?_,rng:=λx hx=>?_,root:=⟨rfl,rfl⟩,ent:=λd s h=>absurd rfl h,one:=λd s h=>?_,kS:=λd s t h=>?_,upd:=λx hx h=>?_,hl:=λx hx=>?_,cnt:=λx hx=>?_,CV:=⟨λ_=>0,λx hx=>?_⟩}
 ·by_cases e:x=1
  ·subst e;rw[h1];decide
  ·rw[hn x e];decide
 ·by_cases e:x=1
  ·subst e;rw[h1]at hx;cases hx
  ·exact hn x e
 ·rw[hk x (by rw[hx];decide),h1]at hx;cases hx
 ·have e:=hk x (by rw[hx];decide);subst e;exact⟨rfl,rfl,rfl⟩
 ·have e:=hk x hx;omega
 iterate 2
  ·rw[hl,hn 0 (by decide)]at h;cases h
 ·exact absurd (hk x (by rw[hx];decide)) h
 iterate 2
  ·rw[hk x (by rw[hx];decide),h1]at hx;cases hx
 ·by_cases e:x=1
  ·subst e;exact absurd rfl hx
  ·rw[hn x e]at hx;exact absurd rfl hx
theorem Vr {α:Type} {l:List α} {i:Nat} {x:α} (h:l[i]? =some x):l.take (i+1)=l.take i++[x]:=by rw[List.take_add_one,h];rfl
end
section
variable {R g room q:Nat} {S:T} {es:Nat->List bC} {pa:Nat->Option Addr} {ca:Nat->Nat}
theorem Fc:(prog.info? 90).map (λi=>(i.zero,i.size,i.bytes))=some (some (γ #[ι aF 0,θ none 0 0,σ ⟨#[]⟩,ι J 0]),4,56):=by kernel_rfl
def z4:Array Value:=#[ι aF 0,θ none 0 0,σ ⟨#[]⟩,ι J 0]
theorem Pv (n:Nat) (hn:n<=1000) (w:World):(Instr.makeSlice 85 (ι J (n:Int)) (ι J (n:Int))).run prog w=
 .ok (θ (some w.heap.size) n n) (w.alloc (aH (madeCells z4 (n*4)) 90)):=by
 obtain⟨i0,hi,hz0,hz1,hz2⟩:=info_parts Fc;have h:=run_make (P:=prog) w 85 90 i0 _ underlying85 hi hz0 J J (n:Int) (n:Int) (by omega) (Int.le_refl _) (by rw[hz2];omega) (by omega)
 simpa[hz1,Value.cells,z4]using h
theorem made4 (n i j:Nat) (hi:i<n) (hj:j<4):(madeCells z4 (n*4))[i*4+j]? =z4[j]? :=by
 have h1:i*4+j<n*4:=by omega
 have h2:(i*4+j)%4=j:=by omega
 have h3:z4.size=4:=rfl
 simp[madeCells,h1,h3,h2]
 rw[getElem!_pos z4 j (by rw[h3];exact hj),Array.getElem?_eq_getElem (by rw[h3];exact hj)]
def noT:T:=⟨λ_=>Nd.no,λ_ _=>0⟩
theorem Vs (wz:World) (n:Nat) (h1:1<=n) (h2:n<=256):ko ((wz.alloc (aH (madeCells z4 (n*4)) 90)).alloc (aH #[θ (some wz.heap.size) n n] 87)) (wz.heap.size+1) wz.heap.size n 0 noT (λ_=>[]) (λ_=>none) (λ_=>0) where
 top:=by simpa using aN.new (wz.alloc (aH (madeCells z4 (n*4)) 90)) 87 #[θ (some wz.heap.size) n n]
 ne:=by omega
 tab:=by
  refine⟨_,(aN.new wz 90 (madeCells z4 (n*4))).alloc _,by rw[size_madeCells],λi hi j v hv=>?_⟩;have hj:j<4:=by have:=(List.getElem?_eq_some_iff.1 hv).1;simpa[ndC]using this
  rw[made4 n i j hi hj,<-hv]
  match j,hj with
  |0,_|1,_|2,_|3,_=>rfl
 row:=λ_ _=>.inl ⟨rfl,rfl,rfl⟩
 cap:=λ_ _=>⟨ah _,ah _⟩
 rows:=⟨λ_ _=>dz.nil _ (λ_=>rfl),λd s h=>absurd rfl h⟩
 rm:=⟨h1,h2⟩
 q1:=by omega
 dt:=λ_=>by show 0<=2304;omega
 hd:=λ_=>by show 0<=1;omega
 kd:=λ_=>by show 0<=2;omega
 rng:=λx h=>absurd rfl h
theorem LR (wz:World) (n:Nat) (h1:1<=n) (h2:n<=256):
 Calls prog 11 #[ι J n] wz λe w'=>e=aG (G (some ⟨wz.heap.size+1,0,none⟩))/\jM w' (wz.heap.size+1) wz.heap.size n 0 eX/\Below wz.heap.size wz w':=by
 have hmk:=Pv n (by omega) wz;have M:=Vs wz n h1 h2;have FIN:=U (M.put (i:=0) (by omega) ⟨2,1,0,0,[]⟩ (λ_ _=>0) [] none 0 0 ⟨ah _,by omega⟩ (λ_ _=>rfl) (dz.nil _ (λ_=>rfl)) (λs h=>absurd rfl h) (.inl ⟨rfl,rfl,rfl⟩) ⟨ah _,ah _⟩ (by show 2<=2;omega) (by show 0<=2304;omega) (by show 0<=1;omega));obtain⟨c0,c1,c2,c3,f⟩:=M.cells (i:=0) (by omega);have f0:=f 0;have f1:=f 1;have f2:=f 2;have f3:=f 3;have h0:=M.nC;have BB:=U (((aj wz.heap.size wz).alloc (ah _) (aH (madeCells z4 (n*4)) 90)).alloc (by simp) (aH #[θ (some wz.heap.size) n n] 87));have hg:=M.ny;have n1:(0:Int)<n:=by omega
 simp only[Nat.zero_mul,Nat.zero_add]at c0 c1 c2 c3;clear M f
 go_enter func11,ntmps11
 go_upto_region 2 with(fail)
 generalize (wz.alloc (aH (madeCells z4 (n*4)) 90)).alloc (aH #[θ (some wz.heap.size) n n] 87)=W0 at FIN BB c0 c1 c2 c3 f0 f1 f2 f3 h0 hg⊢
 go_wp2_with fail;go_ret;refine⟨rfl,⟨_,_,_,FIN.o⟩,?_⟩;exact BB.o.trans ((((aj _ _).setCell (p:=⟨wz.heap.size,0,none⟩) (ah _) _).setCell (p:=⟨wz.heap.size,1,none⟩) (ah _) _).setCell (p:=⟨wz.heap.size,2,none⟩) (ah _) _ |>.setCell (p:=⟨wz.heap.size,3,none⟩) (ah _) _)
end
theorem VM {r:Rc} (h:May r):Tr.May r:=⟨h.op.1,h.op.2,h.ino.1,λo=>h.JS (by rcases o with o|o|o<;>rw[o]<;>rfl)⟩
def zh (n:Nat) (rs:List Rw) (wz:World) (e:Ending) (w':World):Prop:=∃b,e=aG (ν b)/\(b=true->(∀r∈rs,May r.rc/\0<=r.page)/\qN n (rs.map Rw.rc) eX)/\Below wz.heap.size wz w'
theorem zh.no {n:Nat} {rs:List Rw} {wz w':World} (h:Below wz.heap.size wz w'):zh n rs wz (aG (ν false)) w':=⟨false,rfl,(λh=>by cases h),h⟩
theorem zh.yes {n:Nat} {rs:List Rw} {wz w':World} (hm:∀r∈rs,May r.rc/\0<=r.page) (hp:qN n (rs.map Rw.rc) eX) (h:Below wz.heap.size wz w'):zh n rs wz (aG (ν true)) w':=⟨true,rfl,(λ_=>⟨hm,hp⟩),h⟩
theorem Fz {g n:Nat} {w0 w w':World} (hb:Below n w0 w) (hT:Tr.aR (λb=>b=g) w w') (hg:n<=g) (hn:n<=w.heap.size):Below n w0 w':=
 hb.trans (hT.below λi hi=>⟨aA hi hn,λe=>by omega⟩)
structure VS (n:Nat) (rs:List Rw) (wz W:World) (R g i:Nat):Prop where
 a:jM W R g n i (run ((rs.take i).map Rw.rc) eX)
 p:qN n ((rs.take i).map Rw.rc) eX
 m:∀r∈rs.take i,May r.rc/\0<=r.page
 b:Below wz.heap.size wz W
theorem Fd (wz:World) (rs:List Rw) (hIn:∀r∈rs,r.In) (p:Option Addr) (cap:Nat) (hR:Ae wz p rs) (hl:rs.length<=100) (n:Nat) (h2:2<=n) (VC:n<=256):
 Calls prog 7 #[ι J n,θ p rs.length cap] wz (zh n rs wz):=by
 have HIN:=U hIn;have HR:=U hR;have NE:=U (LR wz n (by omega) VC);have IV:=U (sJ h2);obtain⟨m,hm⟩:∃m,rs.length=m:=⟨_,rfl⟩;rw[hm]at hl⊢;have HN:=U hm;clear hR hIn hm
 go_enter func7,ntmps7
 go_wp2_with fail;refine ak NE.o ?_;rintro e w1 ⟨rfl,hA,hB⟩;have P0:Hid (VS n rs wz w1 (wz.heap.size+1) wz.heap.size 0):=U ⟨by rw[List.take_zero];exact hA,by simp[qN],(λr hr=>by simp at hr),hB⟩;clear hA hB;go_wp2_with fail
 go_loopw [6] (λs6 wr=>∃i:Nat,i<=m/\s6=ι J i/\VS n rs wz wr (wz.heap.size+1) wz.heap.size i) (λs6 _=>m-(intOf s6).toNat)
 case atStart=>exact⟨0,aB _,rfl,P0.o⟩
 case round=>
  obtain⟨i,hi,rfl,hP⟩:=hrel;have PS:=U hP;clear hP
  rcases Nat.lt_or_ge i m with hlt|hge
  ·have t1:(i:Int)<m:=by omega
   obtain⟨r,hr⟩:∃r,rs[i]? =some r:=⟨_,List.getElem?_eq_getElem (by rw[HN.o];exact hlt)⟩;have HRI:=U hr;have MY:=U (λW=>Zv r (HIN.o r (List.mem_of_getElem? hr)) W);obtain⟨g,o,rfl,hg,hc⟩:=(HR.o.later PS.o.b) i r hr;have C0:Hid (∀W,Below wr.heap.size wr W->∀(j:Nat) (c:Value),(dX r)[j]? =some c->W.cell? ⟨g,o+i*12+j,none⟩=some c):=U (λW hb j c hj=>(hb.cell (p:=⟨g,o+i*12+j,none⟩) hg).trans (hc j c hj));unfold dX at MY;clear hc hr hg;have D:=C0.o wr (aj _ _);have d0:=D 0 _ rfl;have d1:=D 1 _ rfl;have d2:=D 2 _ rfl;have d3:=D 3 _ rfl;have d4:=D 4 _ rfl;have d5:=D 5 _ rfl;have d6:=D 6 _ rfl;have d7:=D 7 _ rfl;have d8:=D 8 _ rfl;have d9:=D 9 _ rfl;have RX:=D 10 _ rfl;have RY:=D 11 _ rfl;simp only[Nat.add_zero]at d0;clear D;go_wp2_with fail;refine ak (MY.o _) ?_;rintro e w2 ⟨b,rfl,hb,hB⟩;have HB:=U hb;have B2:=U hB;clear hb hB d0 d1 d2 d3 d4 d5 d6 d7 d8 d9 RX RY;cases b
   ·go_wp2_with fail
    go_ret;exact zh.no (PS.o.b.trans (B2.o.mono PS.o.b.size))
   ·obtain⟨hmay,hpg⟩:=HB.o rfl
    have B3:=U (PS.o.b.trans (B2.o.mono PS.o.b.size));have IV2:=U (oX IV.o PS.o.p);have PL:=U (YQ w2 (PS.o.a.later B2.o) IV2.o (by omega) r.rc hmay);unfold kZ at PL;rw[<-Bz hpg]at PL;unfold dX at PL;have MM:=U (And.intro hmay hpg);have D:=C0.o w2 B2.o;have d0:=D 0 _ rfl;have d1:=D 1 _ rfl;have d2:=D 2 _ rfl;have d3:=D 3 _ rfl;have d4:=D 4 _ rfl;have d5:=D 5 _ rfl;have d6:=D 6 _ rfl;have d7:=D 7 _ rfl;have d8:=D 8 _ rfl;have d9:=D 9 _ rfl;have RX:=D 10 _ rfl;have RY:=D 11 _ rfl;simp only[Nat.add_zero]at d0;clear D hmay hpg;go_wp2_with fail;refine ak PL.o ?_;rintro e w3 ⟨er,rfl,hT,hf,_⟩;have HF:=U hf;have B4:=U (Fz B3.o hT (ah _) B3.o.size);clear hf hT d0 d1 d2 d3 d4 d5 d6 d7 d8 d9 RX RY
    by_cases e0:er=0
    ·subst e0
     obtain⟨hok,hA⟩:=HF.o rfl;have e:rs.take (i+1)=rs.take i++[r]:=Vr HRI.o
     have NX:Hid (VS n rs wz w3 (wz.heap.size+1) wz.heap.size (i+1)):=U (by
      refine⟨?_,?_,?_,B4.o⟩
      ·rw[e,List.map_append,Ny]
       exact hA
      ·rw[e,List.map_append]
       exact Gu.2 ⟨PS.o.p,VM MM.o.1,hok,trivial⟩
      ·rw[e]
       intro x hx
       rcases List.mem_append.1 hx with hx|hx
       ·exact PS.o.m x hx
       ·rw[List.mem_singleton.1 hx];exact MM.o)
     clear hok hA e;go_wp2_with fail;go_roundw
     case rel=>exact⟨i+1,by omega,by go_num,NX.o⟩
     case measure=>simp[intOf];omega
    ·have t5:((er:Int)!=0)=true:=by simp;omega
     clear e0;go_wp2_with fail;go_ret;exact zh.no B4.o
  ·have e:i=m:=by omega
   subst e;have FP:=U PS.o.p;have FM:=U PS.o.m;rw[List.take_of_length_le (by rw[HN.o];exact ah _)]at FP FM;go_wp2_with fail;go_ret;exact zh.yes FM.o FP.o PS.o.b
open Go.ChangeShapes Go.WideShapes Go.Deep Go.ChangeAt
theorem sK {H:Type} {P:Program} {e:TypeId} {x:DataW H} {k:Nat}:∀{es:List (DataW H)},x∈es->k∈x.weights P e->k∈DataW.weightsAll P e es
 |y::r,h,hk=>by
  show k∈DataW.weights P e y++DataW.weightsAll P e r
  rcases List.mem_cons.1 h with h1|h1
  ·subst h1;exact List.mem_append_left _ hk
  ·exact List.mem_append_right _ (sK h1 hk)
theorem FC:prog.cellsOf 44=12:=by kernel_rfl
theorem sM {k:IntKind} {n:Int} (h:(Lit.int k n).wf=true):k.min<=n/\n<=k.max:=by
 simp only[Lit.wf,Bool.and_eq_true,decide_eq_true_eq]at h;exact h
theorem DC {W:World} {a:Addr} {v:Value} (h:W.cell? a=some v):a.block<W.heap.size/\a.spot=none:=by
 unfold World.cell? at h
 split at h
 ·rename_i hh
  refine⟨(Array.getElem?_eq_some_iff.1 hh).1,?_⟩;cases hs:a.spot with
  |none=>rfl
  |some z=>simp[hs]at h
 ·cases h
def Ff {H:Type} (x:Rw):DataW H:=.agg [.lit (.int .u64 x.stamp),.lit (.int aF x.op),.lit (.int F x.dir),.lit (.string (L x.name)),.lit (.int F x.ino),.lit (.int aF x.kind),.lit (.int F x.bV),.lit (.string (L x.name2)),.lit (.int F x.old),.lit (.int F x.size),.lit (.int J x.page),.lit (.string (L x.data))]
theorem Zx {H:Type} {enc:TypeId×Value->H} {W:World} {base fuel:Nat} {spare:Nat->Bool} {held:Bool} {cs:List Value} {x:DataW H×List MemPlace} (h:DataW.trod enc prog W base spare held fuel 44 cs=some x):
 ∃r:Rw,cs=(dX r).toList/\x.1=Ff r/\r.stamp<18446744073709551616:=by
 obtain⟨xs,n,_,rfl,hl,hlen,hf⟩:=DataW.trod_struct underlying44 h;rw[FC]at hl
 match cs,hl with
 |[c0,c1,c2,c3,c4,c5,c6,c7,c8,c9,c10,c11],_=>
 match xs,hlen with
 |[y0,y1,y2,y3,y4,y5,y6,y7,y8,y9,y10,y11],_=>
 have o8:prog.cellsOf 5=1:=by kernel_rfl
 have o32:prog.cellsOf 42=1:=by kernel_rfl
 have o64:prog.cellsOf 41=1:=by kernel_rfl
 have oi:prog.cellsOf 3=1:=by kernel_rfl
 have os:prog.cellsOf 9=1:=by kernel_rfl
 have t0:=hf 0 _ rfl;have t1:=hf 1 _ rfl;have t2:=hf 2 _ rfl;have t3:=hf 3 _ rfl;have t4:=hf 4 _ rfl;have t5:=hf 5 _ rfl;have t6:=hf 6 _ rfl;have t7:=hf 7 _ rfl;have t8:=hf 8 _ rfl;have t9:=hf 9 _ rfl;have t10:=hf 10 _ rfl;have t11:=hf 11 _ rfl;simp only[o8,o32,o64,oi,os,List.drop_zero,List.drop_succ_cons,List.take_succ_cons,List.take_zero,av,ay]at t0 t1 t2 t3 t4 t5 t6 t7 t8 t9 t10 t11;obtain⟨n0,e0,rfl,w0⟩:=DataW.trod_int underlying41 t0;obtain⟨n1,e1,rfl,w1⟩:=DataW.trod_int underlying5 t1;obtain⟨n2,e2,rfl,w2⟩:=DataW.trod_int underlying42 t2;obtain⟨s3,e3,rfl,w3⟩:=DataW.trod_string underlying9 t3;obtain⟨n4,e4,rfl,w4⟩:=DataW.trod_int underlying42 t4;obtain⟨n5,e5,rfl,w5⟩:=DataW.trod_int underlying5 t5;obtain⟨n6,e6,rfl,w6⟩:=DataW.trod_int underlying42 t6;obtain⟨s7,e7,rfl,w7⟩:=DataW.trod_string underlying9 t7;obtain⟨n8,e8,rfl,w8⟩:=DataW.trod_int underlying42 t8;obtain⟨n9,e9,rfl,w9⟩:=DataW.trod_int underlying42 t9;obtain⟨n10,e10,rfl,zU⟩:=DataW.trod_int underlying3 t10;obtain⟨s11,e11,rfl,w11⟩:=DataW.trod_string underlying9 t11;obtain rfl:=(List.cons.inj e0).1;obtain rfl:=(List.cons.inj e1).1;obtain rfl:=(List.cons.inj e2).1;obtain rfl:=(List.cons.inj e3).1;obtain rfl:=(List.cons.inj e4).1;obtain rfl:=(List.cons.inj e5).1;obtain rfl:=(List.cons.inj e6).1;obtain rfl:=(List.cons.inj e7).1;obtain rfl:=(List.cons.inj e8).1;obtain rfl:=(List.cons.inj e9).1;obtain rfl:=(List.cons.inj e10).1;obtain rfl:=(List.cons.inj e11).1;have r0:0<=n0/\n0<=18446744073709551615:=sM w0;have r1:0<=n1/\n1<=255:=sM w1;have r2:0<=n2/\n2<=4294967295:=sM w2;have r4:0<=n4/\n4<=4294967295:=sM w4;have r5:0<=n5/\n5<=255:=sM w5;have r6:0<=n6/\n6<=4294967295:=sM w6;have r8:0<=n8/\n8<=4294967295:=sM w8;have r9:0<=n9/\n9<=4294967295:=sM w9;obtain⟨m0,rfl⟩:=Int.eq_ofNat_of_zero_le r0.1;obtain⟨m1,rfl⟩:=Int.eq_ofNat_of_zero_le r1.1;obtain⟨m2,rfl⟩:=Int.eq_ofNat_of_zero_le r2.1;obtain⟨m4,rfl⟩:=Int.eq_ofNat_of_zero_le r4.1;obtain⟨m5,rfl⟩:=Int.eq_ofNat_of_zero_le r5.1;obtain⟨m6,rfl⟩:=Int.eq_ofNat_of_zero_le r6.1;obtain⟨m8,rfl⟩:=Int.eq_ofNat_of_zero_le r8.1;obtain⟨m9,rfl⟩:=Int.eq_ofNat_of_zero_le r9.1;exact⟨⟨m0,m1,m2,s3,m4,m5,m6,s7,m8,m9,n10,s11⟩,rfl,rfl,by show m0<_;omega⟩
theorem DN {H:Type} {enc:TypeId×Value->H} {W:World} {p:List MemPlace} {d:DataW H} {ds:List (DataW H)} {ts:List TypeId} {j:Nat} {a:Option Addr} {len cap:Nat}
 (h:DataW.Trod enc prog W 0 (λ_=>true) true 24 (.slice a len cap) d p)
 (hsz:(DataW.weightsEach prog ts ds).all (· <=reachBytes)=true) (ht:ts[j]? =some 24) (hd:ds[j]? =some d):
 ∃rs:List Rw,rs.length=len/\len<=cap/\len<=9223372036854775807/\Ae W a rs/\∀r∈rs,r.In:=by
 obtain⟨fuel,hf⟩:=h
 rcases open_slice underlying24 hf with⟨hcs,_⟩|⟨x,l,c,m,n,D,Pl,hcs,hb,hl,hm,hmm,hx,hi⟩
 ·simp[Value.cells]at hcs
  obtain⟨rfl,rfl,rfl⟩:=hcs;exact⟨[],rfl,ah _,by omega,λi r hr=>by simp at hr,by simp⟩
 ·simp[Value.cells]at hcs
  obtain⟨rfl,rfl,rfl⟩:=hcs;simp only[if_true]at hmm;subst hmm
  have key:∀i,∃s:Rw,i<len->(∀(k:Nat) (c:Value),(dX s)[k]? =some c->W.cell? (x.add (i*12+k))=some c)/\D i=Ff s/\s.stamp<18446744073709551616:=λi=>by
   by_cases hil:i<len
   ·obtain⟨cs',hc,ht'⟩:=hi i (by omega)
    rw[FC]at hc;obtain⟨_,hcl,hat⟩:=World.cells?_some hc;obtain⟨r,hr1,hr2,hr3⟩:=Zx ht';refine⟨r,λ_=>⟨λk c hk=>?_,hr2,hr3⟩⟩;have hk12:k<12:=by have:=(Array.getElem?_eq_some_iff.1 hk).1;simpa[dX]using this
    have:=hat k (by omega);rw[Go.Deep.add_add,hr1]at this;rw[this]
    simpa using hk
   ·exact⟨⟨0,0,0,⟨#[]⟩,0,0,0,⟨#[]⟩,0,0,0,⟨#[]⟩⟩,λh=>absurd h hil⟩
  obtain⟨f,hF⟩:=Classical.axiomOfChoice key;obtain⟨rfl,_⟩:=Prod.mk.inj hx;have hel:((List.range len).map f).length=len:=by simp
  refine⟨(List.range len).map f,hel,hl,by unfold maxLen at hm;omega,?_,?_⟩
  ·intro q r hr
   have hq:q<len:=by have:=(List.getElem?_eq_some_iff.1 hr).1;rw[hel]at this;exact this
   have er:r=f q:=by
    rw[List.getElem?_map,List.getElem?_range hq]at hr
    simpa using hr.symm
   subst er;have hc0:=(hF 0 (by omega)).1 0 _ rfl;obtain⟨b,off,spot⟩:=x;have e0:(⟨b,off,spot⟩:Addr).add (0*12+0)=⟨b,off,spot⟩:=by unfold Addr.add;simp
   rw[e0]at hc0;have hb2:=DC hc0;simp only at hb2;obtain⟨hb1,hs⟩:=hb2;subst hs;refine⟨b,off,rfl,hb1,λk c hk=>?_⟩;have:=(hF q hq).1 k c hk;have ea:(⟨b,off,none⟩:Addr).add (q*12+k)=⟨b,off+(q*12+k),none⟩:=by unfold Addr.add;split<;>simp_all
   rw[ea]at this;rw[Nat.add_assoc];exact this
  ·intro y hy
   obtain⟨q,hq,rfl⟩:=List.mem_map.1 hy;obtain⟨_,hD,hst⟩:=hF q (List.mem_range.1 hq)
   have big:∀k:Nat,k∈(Ff (H:=H) (f q)).weights prog 44->k<=maxLen:=λk hw=>by
    rw[<-hD]at hw
    have hmem:k∈(DataW.slice (List.map D (List.range len)) (List.map (λj=>D (len+j)) (List.range (m-len)))).weights prog 24:=by
       simp only[DataW.weights,underlying24];exact List.mem_cons_of_mem _ (List.mem_append_left _ (sK (List.mem_map_of_mem hq) hw))
    have:=List.all_eq_true.1 hsz _ (DataW.weights_mem_each ht hd _ hmem);have:=of_decide_eq_true this;unfold maxLen
    simp[reachBytes]at this
    omega
   refine⟨hst,big _ ?_,big _ ?_,big _ ?_⟩<;>
   ·simp only[Ff,DataW.weights,underlying44]
    simp[bZ,DataW.weights,DataW.weightsEach]
