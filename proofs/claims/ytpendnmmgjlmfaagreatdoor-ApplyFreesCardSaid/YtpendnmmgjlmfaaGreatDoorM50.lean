/- Lemmas. -/
import Derived.Test.YtpendnmmgjlmfaaGreatDoorM48
set_option linter.unusedVariables false
set_option linter.unusedSimpArgs false
namespace Go.Proofs.YtpendnmmgjlmfaaGreatDoor
open Go.RowKit Go.Shelf Go.Maps
open Go.Proofs.Tryz
open IntKind renaming i64→J,u32→F,u8→aF
open Value renaming pointer→G,int->ι,string->σ,bool->ν,tuple->τ,slice->θ,agg->γ
open Ending renaming returned→aG
open Obj renaming cells→aH
set_option maxRecDepth 100000
set_option maxHeartbeats 40000000
namespace Ap
open Oct Dev mU Tx Geo qX Bm lC Dir
section
variable {E:Im} {D:aZ} {es:List bC} {w0 w:World} {ino:Nat->aP} {vs:Nat->List Nat} {kk:Nat}
theorem alqA (x:Ax E) (hI:IS w E D (ZS E)) (f:CX E D ino vs Ng) (hx:(ino 2).kind=1/\(ino 2).size=64):AlQ (Ap.T1 64) w E.M:=by
 have hn:2<=E.i:=by rw[x.ei];decide
 intro W lb dm t O h mb ab l hm h2;refine(ZD (ab:=ab) l hm (by decide) h2 (ino 2) hx (if aT (ino 2) (vs 2) 0=0 then zS else D (dq E (aT (ino 2) (vs 2) 0))) ?_ (λW hb=>MB x (hI.later hb) f (by decide) hn) (λW hb=>RU 2 0 (ino 2) (vs 2) W x.small (hI.later hb) (by decide) hn (f.own.is 2 (by decide) hn) (f.own.ok 2 (by decide) hn) (by omega) (f.own.ing 2 (by decide) hn) (f.own.ind 2 (by decide) hn) (by decide)) (λW hb=>f.text W x.small (hI.later hb))).mono λe w' h=>h
 split
 ·rfl
 ·rename_i q
  have hb:=f.own.fD (by decide) hn (f.own.mg (by decide) hn q);exact hI.sec (ze x.small hI.len hb.1 hb.2)
theorem alqB (x:Ax E) (hI:IS w E D (ZS E)) (f:CX E D ino vs Wd):AlQ Ap.T0 w E.M:=by
 intro W lb dm t O h mb ab l hm h2;refine(Zs (ab:=ab) l hm (λW hb=>f.text W x.small (hI.later hb))).mono ?_;rintro e w' ⟨rfl,hb⟩;exact⟨rfl,O,1,h,l.later (λW h hb=>h.later hb) hb,Tr.aR.of hb,λc q=>.inl q⟩
theorem CP {TQ:Nat->(Nat->Prop)->World->Prop} {l2:Nat} (x:Ax E) (hd:zq E (zJ E es true 1 l2 64) kk w) (hTQ:∀t O W W',TQ t O W->Below W.heap.size W W'->TQ t O W') (AL:∀(E':Im) D ino vs W,Ax E'->IS W E' D (ZS E')->CX E' D ino vs es->(ino 2).kind=1/\(ino 2).size=64->AlQ TQ W E'.M):
 Calls prog 24 #[E.b.p,E.T.j,γ #[ι J 8,ι J 16,ι J 40]] w λe w'=>∃t O v,e=aG (τ #[G (some ⟨t,0,none⟩),v])/\TQ t O w'/\Below w.heap.size w w'/\(∀c,O c->w.heap.size<=c)/\(l2=0->∃g,v=θ (some ⟨g,0,none⟩) 1 1/\w'.cell? ⟨g,0,none⟩=some (ι F 2)/\g<w'.heap.size/\w.heap.size<=g):=by
 have G0:=U (aN.new w 23 #[ι J 8,ι J 16,ι J 40]);have B0:=U ((aj w.heap.size w).alloc (ah _) (aH #[ι J 8,ι J 16,ι J 40] 23));obtain⟨hard,k,g,hd⟩:=hd.later B0.o;have BG:=U (IY hd);have Nf:=U hd;have HX:=U (And.intro x (And.intro hTQ AL));have X:=G0.o.cell;have Xl:=G0.o.lt;clear hd x hTQ AL
 go_enter func24,ntmps24
 go_wp2_with fail;refine ak BG.o ?_;rintro e w1 ⟨T,rfl,hTj,QL,zC,hT,b1⟩;have NI:=U (cD HX.o.1.small T Nf.o.len Nf.o.all hT);unfold dw at NI;rw[HX.o.1.ei,HX.o.1.eb,HX.o.1.ej]at NI;have B1:=U (B0.o.trans (b1.mono B0.o.size));have G1:=U (G0.o.later b1);clear X Xl hT b1 hTj QL zC;have X:=G1.o.cell;have Xl:=G1.o.lt;go_wp2_with fail;refine ak NI.o ?_;rintro e w2 ⟨M,rfl,hI,b2⟩;have x2:Ax (wZ E M T hard k):=⟨⟨HX.o.1.small.may,HX.o.1.small.hi,HX.o.1.small.hb,HX.o.1.small.hj⟩,HX.o.1.ei,HX.o.1.eb,HX.o.1.ej⟩;have hI2:IS w2 (wZ E M T hard k) _ (ZS (wZ E M T hard k)):=hI.mono (λq h=>h.elim);obtain⟨ino,vs,f,hb,hx,h3⟩:=Jc HX.o.1.small Nf.o.p M T E.b hard k (λ_ _ _=>rfl);have LD:=U (cW x2 hI2 f l2 ⟨hx.1,hx.2.1⟩ h3 HX.o.2.1 (HX.o.2.2 _ _ _ _ _ x2 hI2 f ⟨hx.1,hx.2.2⟩));have B2:=U (B1.o.trans (b2.mono B1.o.size));have G2:=U (G1.o.later b2);clear X Xl hI b2 f hb hx h3 hI2 x2;have X:=G2.o.cell;have Xl:=G2.o.lt;go_wp2_with fail;refine ak LD.o ?_;rintro e w3 ⟨t,O,v,rfl,hT,b3,ho,hv⟩;have H3:=U (And.intro hT (And.intro (B2.o.trans (b3.mono B2.o.size)) (And.intro (λc q=>aD B2.o.size (ho c q)) (λq=>by obtain⟨g,e1,e2,e3,e4⟩:=hv q;exact⟨g,e1,e2,e3,aD B2.o.size e4⟩:l2=0->∃g,v=θ (some ⟨g,0,none⟩) 1 1/\w3.cell? ⟨g,0,none⟩=some (ι F 2)/\g<w3.heap.size/\w.heap.size<=g))));clear X Xl hT b3 hv ho;go_wp2_with fail;go_ret2;exact⟨t,O,v,rfl,H3.o⟩
end
open Re (Rw dX Ae)
theorem rw4 {W:World} {g:Nat} {cs:Array Value} (h:aN W g 44 cs) (hc:cs.toList=(dX q1++dX q2++dX q3++dX q4).toList):Ae W (some ⟨g,0,none⟩) [q1,q2,q3,q4]:=λi r hr=>⟨g,0,rfl,h.lt,λj c hj=>by
 rw[Nat.zero_add];refine(h.cell _).trans ?_;rw[show cs=dX q1++dX q2++dX q3++dX q4 from Array.ext' hc]
 match i,hr with
 |0,hr|1,hr|2,hr|3,hr=>
  cases hr
  match j,hj with
  |0,hj|1,hj|2,hj|3,hj|4,hj|5,hj|6,hj|7,hj|8,hj|9,hj|10,hj|11,hj=>exact hj
  |j+12,hj=>cases hj
 |i+4,hr=>cases hr⟩
theorem VH (w:World):Calls prog 23 #[] w λe w'=>∃g,e=aG (θ (some ⟨g,0,none⟩) 4 4)/\Ae w' (some ⟨g,0,none⟩) [q1,q2,q3,q4]/\w.heap.size<=g/\Below w.heap.size w w':=by
 have hmk:(Instr.makeSlice 122 (ι J 64) (ι J 64)).run prog w=.ok (θ (some w.heap.size) 64 64) (w.alloc (aH (madeCells #[ι aF 0] 64) 5)):=oO 64 (by decide) w;have hcv:=Re.BI 64 w;have b1:=(aj w.heap.size w).alloc (ah _) (aH (madeCells #[ι aF 0] 64) 5);have HB:=U b1
 go_enter func23,ntmps23
 generalize w.alloc (aH (madeCells #[ι aF 0] 64) 5)=w1 at*
 clear b1;go_wp2_with fail;go_ret;exact⟨_,rfl,rw4 (aN.new w1 _ _) rfl,HB.o.size,HB.o.alloc HB.o.size _⟩
theorem dC (j:Value) (w:World):Calls prog 10 #[G none,j,γ #[ι J 8,ι J 16,ι J 40],θ none 0 0] w λe w'=>e=aG (τ #[ι J 0,ι J 1])/\Below w.heap.size w w':=by
 go_enter func10,ntmps10
 go_wp2_with fail;go_ret2;exact⟨rfl,(aj _ _).alloc (ah _) _⟩
section
variable {E:Im} {w W:World} {g:Nat} {rs:List Rw} {kk:Nat}
theorem yE {S:Nat->Prop} (h:Ae w (some ⟨g,0,none⟩) rs) (t:Dev.aR S w W) (hg:¬S g):Ae W (some ⟨g,0,none⟩) rs:=λi r hr=>by
 obtain⟨g',o,e,hl,hc⟩:=h i r hr;cases e
 exact⟨g,0,rfl,aA hl t.size,λj c hj=>by
  have e:=t.block g hl hg;refine Eq.trans ?_ (hc j c hj);unfold World.cell?;rw[e]⟩
theorem Hv (h:Ae w (some ⟨g,0,none⟩) [q1,q2,q3,q4]):Ae w (some ⟨g,0,none⟩) [q1,q2]:=λi r hr=>h i r (by
 match i,hr with
 |0,hr|1,hr=>exact hr
 |i+2,hr=>cases hr)
theorem dE {r:Rw} (h:aN w g 44 (dX r)):Ae w (some ⟨g,0,none⟩) [r]:=λi r' hr=>by
 match i,hr with
 |0,hr=>
  cases hr;exact⟨g,0,rfl,h.lt,λj c hj=>by rw[Nat.zero_mul,Nat.add_zero,Nat.zero_add];exact(h.cell j).trans hj⟩
 |i+1,hr=>cases hr
theorem dT (x:Ax E) (hD:zq E (zJ E [] false 0 0 0) kk w) (hkk:kk<=800000) (p:Option Addr) (cap:Nat) (hR:∀W,Dev.aR (S0 E) w W->Ae W p [q1,q2]):
 Calls prog 10 #[E.b.p,E.T.j,γ #[ι J 8,ι J 16,ι J 40],θ p 2 cap] w λe w'=>e=aG (τ #[ι J 2,ι J 0])/\zq E (zJ E Ng true 1 1 64) (kk+1200) w'/\Dev.aR (S0 E) w w':=by
 have:=IZ (Q:=False) (P:=λi=>if i=0 then zJ E [] false 0 0 0 else if i=1 then zJ E Ng true 1 1 0 else zJ E Ng true 1 1 64) x.small [q1,q2] 2 rfl (by decide) p cap (λi=>by split;exact vg x.small;split;exact vg x.small;exact vg x.small) (λi r hr=>by
  match i,hr with
  |0,hr=>cases hr;exact one1 x
  |1,hr=>cases hr;exact kS x
  |i+2,hr=>cases hr) w hkk hD hR
 unfold dw at this;rw[x.ei,x.eb,x.ej]at this;refine this.mono ?_;rintro e w' ⟨q,c,rfl,hq,hd,t,h⟩;obtain⟨rfl,rfl⟩:=h.resolve_right id;exact⟨rfl,hd,t⟩
theorem MF {r:Rw} {P P':aZ->Prop} (x:Ax E) (hP:Ins E P) (hP':Ins E P') (h1:Mx E r False P P') (hD:zq E P kk w) (hkk:kk<=800000) (p:Option Addr) (cap:Nat) (hR:∀W,Dev.aR (S0 E) w W->Ae W p [r]):
 Calls prog 10 #[E.b.p,E.T.j,γ #[ι J 8,ι J 16,ι J 40],θ p 1 cap] w λe w'=>e=aG (τ #[ι J 1,ι J 0])/\zq E P' (kk+600) w'/\Dev.aR (S0 E) w w':=by
 have:=IZ (Q:=False) (P:=λi=>if i=0 then P else P') x.small [r] 1 rfl (by decide) p cap (λi=>by split;exact hP;exact hP') (λi r hr=>by
  match i,hr with
  |0,hr=>cases hr;exact h1
  |i+1,hr=>cases hr) w hkk hD hR
 unfold dw at this;rw[x.ei,x.eb,x.ej]at this;refine this.mono ?_;rintro e w' ⟨q,c,rfl,hq,hd,t,h⟩;obtain⟨rfl,rfl⟩:=h.resolve_right id;exact⟨rfl,hd,t⟩
theorem al_fmt (x:Ax E):zJ E [] false 0 0 0 (fmtS E.i E.bl E.j):=by
 obtain⟨f2,_,_⟩:=PE E E.i E.bl E.j x.small rfl rfl rfl;exact⟨wR,λ_=>Ma,GP x.small,by rw[f2,IJ];rfl,⟨rfl,rfl,rfl⟩,λn h1 _=>dD _ _ (by omega)⟩
end
theorem Gc {d t ty:Nat} {pos:String} {aft:Array Edge} {g:Option (Nat×Bool)} {a:Act} {w:World} {K:Act->World->Prop} {Q:Exit->Act->World->Prop} {c0 c1 c2 c3 c4 c5 c6 c7 c8 c9 c10 c11:Value} (hv:a.tmps[t]?.getD undef=γ #[c0,c1,c2,c3,c4,c5,c6,c7,c8,c9,c10,c11]) (h:K (a.put (some d) (θ (some w.heap.size) 1 1)) (w.alloc (aH #[c0,c1,c2,c3,c4,c5,c6,c7,c8,c9,c10,c11] 44))):
 Oper.wp prog ⟨some d,.buildSlice 24 1 #[(0,.tmp t)],ty,pos,aft,g⟩ a w K Q:=by
 go_simp;exact h
open Tr (aO)
theorem T1.other {n t:Nat} {O P:Nat->Prop} {w W:World} (h:T1 n t O w) (ht:Tr.aR P w W) (hp:∀c,O c->¬P c):T1 n t O W:=by
 obtain⟨S,hx,E,rfl,rfl,h,hlt⟩:=h;exact⟨S,hx,E,rfl,rfl,h.blocks λb hb ho=>ht.block b hb (hp b ho),λc hc=>aA (hlt c hc) ht.size⟩
theorem lO (w:World) (hR:iJ w):Calls prog 8 #[] w λe w'=>e=aG (ν true)/\Below w.heap.size w w':=by
 have HR:=U hR;have DK:=U (λW h=>LZ 8 16 40 W (by decide) (by decide) (by decide) (by decide) h);clear hR
 go_enter func8,ntmps8
 go_wp2_with fail;refine ak (lC.Vt _) ?_;rintro e w1 ⟨rfl,b1⟩;have G1:=U (aN.new w1 23 #[ι J 8,ι J 16,ι J 40]);have B1:=U (b1.alloc b1.size (aH #[ι J 8,ι J 16,ι J 40] 23));have X:=G1.o.cell;have Xl:=G1.o.lt;have z1:=b1.size;clear b1;unfold dw at DK;go_wp2_with fail;refine ak (DK.o _ (HR.o.later B1.o)) ?_;rintro e w2 ⟨E,rfl,hD⟩;have x:Ax E:=⟨hD.small,hD.ei,hD.eb,hD.ej⟩;have AX:=U x;have DS:=U (cX hD (vg hD.small) (al_fmt x));have B2:=U (B1.o.trans (hD.lS.mono B1.o.size));have G2:=U (G1.o.later hD.lS)
 have S5:Hid (∀c,S0 E c->w1.heap.size<c):=U λc hc=>by
  have h:=hD.DA
  simp at h
  rcases hc with(h|h|h)|h<;>omega
 have LT:=U (λc h=>DS.o.lt (c:=c) h);have KK:Hid (E.k<=100000):=U (by have:=hD.ek;have:=hD.dev.len;have e:E.hard.length=(mI E.i E.bl E.j).sum:=hD.is.len;have:=hD.ei;have:=hD.eb;have:=hD.ej;simp_all;omega);clear hD x X Xl DK;go_wp2_with fail;refine ak (VH _) ?_;rintro e w3 ⟨g,rfl,hr,hg,b3⟩;have NG:Hid (¬S0 E g):=U λq=>by have:=LT.o g q;omega
 have NB:Hid (¬S0 E w1.heap.size):=U λq=>Nat.lt_irrefl _ (S5.o _ q);have ZZ:=U (λc q=>aD z1 (Nat.le_of_lt (S5.o c q)));have R3:=U hr;have D3:=U (DS.o.later b3);have B3:=U (B2.o.trans (b3.mono B2.o.size));have G3:=U (G2.o.later b3);have X:=G3.o.cell;have Xl:=G3.o.lt;have LT3:=U (λc h=>aA (LT.o c h) b3.size);have PT:=U (dT AX.o (D3.o.later (aj _ _).drew) (by have:=KK.o;omega) (some ⟨g,0,none⟩) 4 (λW t=>yE (Hv (R3.o.later (aj _ _).drew)) t NG.o));clear b3 hr hg G2 B2 LT DS
 go_upto_region 6 with fail
 go_cut [7,8] (λs7 s8 wx=>s7=ι J 2/\s8=ι J 0/\zq E (zJ E Ng true 1 1 64) (E.k+1200) wx/\Dev.aR (S0 E) w3.drew wx)
 case first=>
  as_aux_lemma=>
   have X0:=X 0;have X1:=X 1;have X2:=X 2;simp only[au,av,ay]at X0 X1 X2;clear X
   go_region_with ((first
    |(refine ak PT.o ?_
      rintro e w5 ⟨rfl,hd,t⟩;have D5:=U (And.intro hd t);clear hd t)))
   all_goals
    go_wp2_with fail
    go_meet
    case rel=>exact⟨rfl,rfl,D5.o⟩
 case rest=>
  as_aux_lemma=>
   obtain⟨rfl,rfl,hd,t⟩:=hcut;obtain⟨w5,rfl⟩:∃w5,w5=wc:=⟨wc,rfl⟩;have D5:=U hd;have R5:=U (yE (R3.o.later (aj _ _).drew) t NG.o);have G5:Hid (aN w5 w1.heap.size 23 #[ι J 8,ι J 16,ι J 40]):=U ((t.block _ G3.o.lt NB.o).trans G3.o);have B5:=U (t.below ZZ.o B3.o.drew B3.o.drew.size);have LT5:=U (λc h=>aA (LT3.o c h) t.size);clear hd t D3 R3 G3 B3 LT3 X Xl PT;have X:=G5.o.cell;have Xl:=G5.o.lt;go_wp2_with fail;refine ak (CP AX.o D5.o (TQ:=Ap.T1 64) (λt O W W' h hb=>h.later hb) (λE' D ino vs W x' hI f hx=>alqA x' hI f hx)) ?_;rintro e w6 ⟨t,O,v,rfl,hT,b6,hO,_⟩;have T6:=U hT;have NO:Hid (∀c,O c->¬S0 E c):=U λc q h=>by have:=LT5.o c h;have:=hO c q;omega
   have D6:=U (D5.o.later b6);have R6:=U (R5.o.later b6);have G6:=U (G5.o.later b6);have B6:=U (B5.o.trans (b6.mono B5.o.size));have LT6:=U (λc h=>aA (LT5.o c h) b6.size);clear hT b6 hO X Xl D5 R5 G5 B5 LT5;obtain⟨_,_,e,hl,hc⟩:=R6.o 2 q3 rfl;cases e;have d0:w6.cell? ⟨g,24,none⟩=some (ι .u64 0):=hc 0 _ rfl;have d1:w6.cell? ⟨g,25,none⟩=some (ι aF 3):=hc 1 _ rfl;have d2:w6.cell? ⟨g,26,none⟩=some (ι F 1):=hc 2 _ rfl;have d3:w6.cell? ⟨g,27,none⟩=some (σ ⟨#[97]⟩):=hc 3 _ rfl;have d4:w6.cell? ⟨g,28,none⟩=some (ι F 2):=hc 4 _ rfl;have d5:w6.cell? ⟨g,29,none⟩=some (ι aF 1):=hc 5 _ rfl;have d6:w6.cell? ⟨g,30,none⟩=some (ι F 0):=hc 6 _ rfl;have d7:w6.cell? ⟨g,31,none⟩=some (σ ⟨#[]⟩):=hc 7 _ rfl;have d8:w6.cell? ⟨g,32,none⟩=some (ι F 0):=hc 8 _ rfl;have d9:w6.cell? ⟨g,33,none⟩=some (ι F 0):=hc 9 _ rfl;have RX:w6.cell? ⟨g,34,none⟩=some (ι J 0):=hc 10 _ rfl;have RY:w6.cell? ⟨g,35,none⟩=some (σ ⟨#[]⟩):=hc 11 _ rfl;have X:=G6.o.cell;have Xl:=G6.o.lt;have hl0:g<w6.heap.size:=hl;have PT:=U (λW (hb:Below w6.heap.size w6 W) b (h2:w6.heap.size<=b) (h3:aN W b 44 #[ι .u64 0,ι aF 3,ι F 1,σ ⟨#[97]⟩,ι F 2,ι aF 1,ι F 0,σ ⟨#[]⟩,ι F 0,ι F 0,ι J 0,σ ⟨#[]⟩])=>MF AX.o (vg AX.o.small) (vg AX.o.small) (one3 AX.o) (D6.o.later hb) (by have:=KK.o;omega) (some ⟨b,0,none⟩) 1 (λW t=>yE (g:=b) (dE (r:=q3) h3) t (λq=>by have:=LT6.o _ q;omega)));clear hc
   go_upto_region 8 with fail
   go_cut [11,12] (λs7 s8 wx=>s7=ι J 1/\s8=ι J 0/\zq E (zJ E Wd true 1 0 64) ((E.k+1200)+600) wx/\Dev.aR (S0 E) w6 wx)
   case first=>
    as_aux_lemma=>
     refine mM 13 (by kernel_rfl) (λi=>[some 59,some 60,some 61,some 62,some 63,some 64,some 65,some 66,some 58,some 67,some 68,some 11,some 12].getD i none) (λbg W=>Dev.aR (S0 E) w6 W/\(bg 7=false->Below w6.heap.size w6 W)/\(bg 7=true->zq E (zJ E Wd true 1 0 64) ((E.k+1200)+600) W)) (λi w1 w2=>Below w1.heap.size w1 w2\/i=7/\Dev.aR (S0 E) w1 w2) (λ|0=>λf _=>f 0=G (some ⟨E.b.p,0,none⟩)|1=>λf _=>f 1=G (some ⟨E.T.j,0,none⟩)|2=>λf _=>f 2=γ #[ι J 8,ι J 16,ι J 40]|3=>λf _=>f 3=θ (some g) 4 4|4=>λf _=>f 4=G (some ⟨g,24,none⟩)|5=>λf _=>f 5=γ #[ι .u64 0,ι aF 3,ι F 1,σ ⟨#[97]⟩,ι F 2,ι aF 1,ι F 0,σ ⟨#[]⟩,ι F 0,ι F 0,ι J 0,σ ⟨#[]⟩]|6=>λf W=>∃b:Nat,f 6=θ (some ⟨b,0,none⟩) 1 1/\w6.heap.size<=b/\aN W b 44 #[ι .u64 0,ι aF 3,ι F 1,σ ⟨#[97]⟩,ι F 2,ι aF 1,ι F 0,σ ⟨#[]⟩,ι F 0,ι F 0,ι J 0,σ ⟨#[]⟩]|7=>λf _=>f 7=τ #[ι J 1,ι J 0]|8=>λf _=>f 8=τ #[ι J 1,ι J 0]|9=>λf _=>f 9=ι J 1|10=>λf _=>f 10=ι J 0|11=>λf _=>f 11=ι J 1|12=>λf _=>f 12=ι J 0|_=>λ_ _=>True) (by kernel_rfl) (by kernel_rfl) (by kernel_rfl) (by kernel_rfl) ?st ?dep ⟨Dev.aR.of_below (aj _ _).drew,λ_=>(aj _ _).drew,λh=>by cases h⟩ ?step ?done
     case st=>
        intro i j f w1 w2 hi hj hij hw hp hs
        match j,hp with
        |0,hp|1,hp|2,hp|3,hp|4,hp|5,hp|7,hp|8,hp|9,hp|10,hp|11,hp|12,hp=>exact hp
        |6,hp=>
          obtain⟨b,h1,h2,h3⟩:=hp
          rcases hs with hb|⟨_,t⟩
          ·exact⟨b,h1,h2,h3.later hb⟩
          ·exact⟨b,h1,h2,(t.block _ h3.lt λq=>by have:=LT6.o _ q;omega).trans h3⟩
        |j+13,_=>trivial
     case dep=>
        intro j f g w hj hfg hp
        match j,hp,hfg with
        |0,hp,hfg|1,hp,hfg|2,hp,hfg|3,hp,hfg|4,hp,hfg|5,hp,hfg|6,hp,hfg|7,hp,hfg|8,hp,hfg|9,hp,hfg|10,hp,hfg|11,hp,hfg|12,hp,hfg=>have e:=hfg _ (by decide) (.inl rfl);simp only[e]at hp;exact hp
        |j+13,_,_=>trivial
     case step=>
        intro i x w1 bg hi hl hcl hG hp;refine gu (λK hK=>?_);simp only[puts,Act.put,List.setIfInBounds_toArray,List.set_cons_succ,List.set_cons_zero,List.getD_cons_succ,List.getD_cons_zero]at hK⊢
        match i,hi with
        |0,_|1,_|3,_=>
          refine aO (by rfl) rfl ?_;go_simp;exact hK _ _ ⟨_,rfl,⟨hG.1,λh=>hG.2.1 (by simpa using h),λh=>hG.2.2 (by simpa using h)⟩,.inl (aj _ _),rfl⟩
        |2,_=>
          have h7:bg 7=false:=by cases q:bg 7 with|false=>rfl|true=>exact absurd (hcl 7 2 (by decide) q (by kernel_rfl)) (by rw[hl];decide)
          have hb:=hG.2.1 h7;have y:=(G6.o.later hb).cell;have yl:=(G6.o.later hb).lt;refine aO (by rfl) rfl ?_;go_simp;exact hK _ _ ⟨_,rfl,⟨hG.1,λh=>hG.2.1 (by simpa using h),λh=>hG.2.2 (by simpa using h)⟩,.inl (aj _ _),rfl⟩
        |4,_=>
          have e:x 3=_:=hp 3 (by kernel_rfl);rw[e]at hK⊢;refine aO (by rfl) rfl ?_;go_simp;exact hK _ _ ⟨_,rfl,⟨hG.1,λh=>hG.2.1 (by simpa using h),λh=>hG.2.2 (by simpa using h)⟩,.inl (aj _ _),rfl⟩
        |5,_=>
          have e:x 4=_:=hp 4 (by kernel_rfl);rw[e]at hK⊢;have h7:bg 7=false:=by cases q:bg 7 with|false=>rfl|true=>exact absurd (hcl 7 5 (by decide) q (by kernel_rfl)) (by rw[hl];decide)
          have hb:=hG.2.1 h7;have k0:=(hb.cell (p:=⟨g,24,none⟩) hl0).trans d0;have k1:=(hb.cell (p:=⟨g,25,none⟩) hl0).trans d1;have k2:=(hb.cell (p:=⟨g,26,none⟩) hl0).trans d2;have k3:=(hb.cell (p:=⟨g,27,none⟩) hl0).trans d3;have k4:=(hb.cell (p:=⟨g,28,none⟩) hl0).trans d4;have k5:=(hb.cell (p:=⟨g,29,none⟩) hl0).trans d5;have k6:=(hb.cell (p:=⟨g,30,none⟩) hl0).trans d6;have k7:=(hb.cell (p:=⟨g,31,none⟩) hl0).trans d7;have k8:=(hb.cell (p:=⟨g,32,none⟩) hl0).trans d8;have k9:=(hb.cell (p:=⟨g,33,none⟩) hl0).trans d9;have k10:=(hb.cell (p:=⟨g,34,none⟩) hl0).trans RX;have k11:=(hb.cell (p:=⟨g,35,none⟩) hl0).trans RY;have kl:=aA hl0 hb.size;refine aO (by rfl) rfl ?_;go_simp;exact hK _ _ ⟨_,rfl,⟨hG.1,λh=>hG.2.1 (by simpa using h),λh=>hG.2.2 (by simpa using h)⟩,.inl (aj _ _),rfl⟩
        |6,_=>
          have h7:bg 7=false:=by cases q:bg 7 with|false=>rfl|true=>exact absurd (hcl 7 6 (by decide) q (by kernel_rfl)) (by rw[hl];decide)
          have hb:=hG.2.1 h7;have e:x 5=_:=hp 5 (by kernel_rfl);rw[e]at hK⊢;refine aO (by rfl) rfl ?_;refine Gc rfl ?_;exact hK _ _ ⟨_,rfl,⟨hG.1.trans (Dev.aR.of_below ((aj _ _).alloc (ah _) _)),λ_=>hb.alloc hb.size _,λh=>by simp[h7]at h⟩,.inl ((aj _ _).alloc (ah _) _),_,rfl,hb.size,aN.new w1 _ _⟩
        |7,_=>
          have e:x 0=_:=hp 0 (by kernel_rfl);rw[e]at hK⊢;have e:x 1=_:=hp 1 (by kernel_rfl);rw[e]at hK⊢;have e:x 2=_:=hp 2 (by kernel_rfl);rw[e]at hK⊢;have hb:=hG.2.1 hl;obtain⟨b,e,h2,h3⟩:=hp 6 (by kernel_rfl);rw[e]at hK⊢;refine aO (by rfl) rfl ?_;go_simp;refine ak (PT.o _ hb b h2 h3) ?_;rintro e w2 ⟨rfl,hd,t⟩;exact hK _ _ ⟨_,rfl,⟨hG.1.trans t,λh=>by simp at h,λ_=>hd⟩,.inr ⟨rfl,t⟩,rfl⟩
        |8,_=>
          have e:x 7=_:=hp 7 (by kernel_rfl);rw[e]at hK⊢;refine aO (by rfl) rfl ?_;go_simp;exact hK _ _ ⟨_,rfl,⟨hG.1,λh=>hG.2.1 (by simpa using h),λh=>hG.2.2 (by simpa using h)⟩,.inl (aj _ _),rfl⟩
        |9,_|10,_=>
          have e:x 8=_:=hp 8 (by kernel_rfl);rw[e]at hK⊢;refine aO (by rfl) rfl ?_;go_simp;exact hK _ _ ⟨_,rfl,⟨hG.1,λh=>hG.2.1 (by simpa using h),λh=>hG.2.2 (by simpa using h)⟩,.inl (aj _ _),rfl⟩
        |11,_=>
          have e:x 9=_:=hp 9 (by kernel_rfl);rw[e]at hK⊢;refine aO (by rfl) rfl ?_;go_simp;exact hK _ _ ⟨_,rfl,⟨hG.1,λh=>hG.2.1 (by simpa using h),λh=>hG.2.2 (by simpa using h)⟩,.inl (aj _ _),rfl⟩
        |12,_=>
          have e:x 10=_:=hp 10 (by kernel_rfl);rw[e]at hK⊢;refine aO (by rfl) rfl ?_;go_simp;exact hK _ _ ⟨_,rfl,⟨hG.1,λh=>hG.2.1 (by simpa using h),λh=>hG.2.2 (by simpa using h)⟩,.inl (aj _ _),rfl⟩
        |i+13,hi=>exact absurd hi (by simp)
     case done=>
        intro x w4 bg hl hG hp;simp only[puts,Act.put,List.setIfInBounds_toArray,List.set_cons_succ,List.set_cons_zero,List.getD_cons_succ,List.getD_cons_zero];have e11:x 11=_:=hp 11 (by decide);have e12:x 12=_:=hp 12 (by decide);rw[e11,e12];have D5:=U (And.intro (hG.2.2 (hl 7 (by decide))) hG.1);clear hG hp hl;go_wp2_with fail
        go_meet
        case rel=>exact⟨rfl,rfl,D5.o⟩
   case rest=>
    as_aux_lemma=>
     obtain⟨rfl,rfl,hd,t7⟩:=hcut;obtain⟨w7,rfl⟩:∃w7,w7=wc:=⟨wc,rfl⟩;have D7:=U hd;have T7:=U (T6.o.other ⟨t7.os,t7.tape,t7.output,t7.size,t7.block⟩ NO.o);have R7:=U (yE R6.o t7 NG.o);have G7:Hid (aN w7 w1.heap.size 23 #[ι J 8,ι J 16,ι J 40]):=U ((t7.block _ G6.o.lt NB.o).trans G6.o);have B7:=U (t7.below ZZ.o B6.o B6.o.size);have LT7:=U (λc h=>aA (LT6.o c h) t7.size);clear hd t7 D6 R6 G6 B6 LT6 T6 X Xl PT d0 d1 d2 d3 d4 d5 d6 d7 d8 d9 RX RY hl;have X:=G7.o.cell;have Xl:=G7.o.lt;go_wp2_with fail;refine ak (CP AX.o D7.o (TQ:=Ap.T0) (λt O W W' h hb=>h.later hb) (λE' D ino vs W x' hI f hx=>alqB x' hI f)) ?_;rintro e w8 ⟨u,O2,v2,rfl,hT,b8,hO,hv⟩;obtain⟨go,rfl,c0,cl,cg⟩:=hv rfl;have U8:=U hT;have NO2:Hid (∀c,O2 c->¬S0 E c):=U λc q h=>by have:=LT7.o c h;have:=hO c q;omega
     have NC:Hid (¬S0 E go):=U λh=>by have:=LT7.o _ h;omega
     have C8:=U (And.intro c0 cl);have D8:=U (D7.o.later b8);have R8:=U (R7.o.later b8);have G8:=U (G7.o.later b8);have T8:=U (T7.o.later b8);have B8:=U (B7.o.trans (b8.mono B7.o.size));have LT8:=U (λc h=>aA (LT7.o c h) b8.size);clear hT b8 hO X Xl D7 R7 G7 B7 LT7 T7 hv c0 cl cg;obtain⟨_,_,e,hl,hc⟩:=R8.o 3 q4 rfl;cases e;have d0:w8.cell? ⟨g,36,none⟩=some (ι .u64 0):=hc 0 _ rfl;have d1:w8.cell? ⟨g,37,none⟩=some (ι aF 7):=hc 1 _ rfl;have d2:w8.cell? ⟨g,38,none⟩=some (ι F 0):=hc 2 _ rfl;have d3:w8.cell? ⟨g,39,none⟩=some (σ ⟨#[]⟩):=hc 3 _ rfl;have d4:w8.cell? ⟨g,40,none⟩=some (ι F 2):=hc 4 _ rfl;have d5:w8.cell? ⟨g,41,none⟩=some (ι aF 0):=hc 5 _ rfl;have d6:w8.cell? ⟨g,42,none⟩=some (ι F 0):=hc 6 _ rfl;have d7:w8.cell? ⟨g,43,none⟩=some (σ ⟨#[]⟩):=hc 7 _ rfl;have d8:w8.cell? ⟨g,44,none⟩=some (ι F 0):=hc 8 _ rfl;have d9:w8.cell? ⟨g,45,none⟩=some (ι F 0):=hc 9 _ rfl;have RX:w8.cell? ⟨g,46,none⟩=some (ι J 0):=hc 10 _ rfl;have RY:w8.cell? ⟨g,47,none⟩=some (σ ⟨#[]⟩):=hc 11 _ rfl;have X:=G8.o.cell;have Xl:=G8.o.lt;have hl0:g<w8.heap.size:=hl;have PT:=U (λW (hb:Below w8.heap.size w8 W) b (h2:w8.heap.size<=b) (h3:aN W b 44 #[ι .u64 0,ι aF 7,ι F 0,σ ⟨#[]⟩,ι F 2,ι aF 0,ι F 0,σ ⟨#[]⟩,ι F 0,ι F 0,ι J 0,σ ⟨#[]⟩])=>MF AX.o (vg AX.o.small) (λ_ _ _ _=>trivial) (one4 AX.o) (D8.o.later hb) (by have:=KK.o;omega) (some ⟨b,0,none⟩) 1 (λW t=>yE (g:=b) (dE (r:=q4) h3) t (λq=>by have:=LT8.o _ q;omega)));clear hc
     go_upto_region 10 with fail
     go_cut [15,16] (λs7 s8 wx=>s7=ι J 1/\s8=ι J 0/\zq E (λ_=>True) ((E.k+1200+600)+600) wx/\Dev.aR (S0 E) w8 wx)
     case first=>
          as_aux_lemma=>
           refine mM 13 (by kernel_rfl) (λi=>[some 77,some 78,some 79,some 80,some 81,some 82,some 83,some 84,some 76,some 85,some 86,some 15,some 16].getD i none) (λbg W=>Dev.aR (S0 E) w8 W/\(bg 7=false->Below w8.heap.size w8 W)/\(bg 7=true->zq E (λ_=>True) ((E.k+1200+600)+600) W)) (λi w1 w2=>Below w1.heap.size w1 w2\/i=7/\Dev.aR (S0 E) w1 w2) (λ|0=>λf _=>f 0=G (some ⟨E.b.p,0,none⟩)|1=>λf _=>f 1=G (some ⟨E.T.j,0,none⟩)|2=>λf _=>f 2=γ #[ι J 8,ι J 16,ι J 40]|3=>λf _=>f 3=θ (some g) 4 4|4=>λf _=>f 4=G (some ⟨g,36,none⟩)|5=>λf _=>f 5=γ #[ι .u64 0,ι aF 7,ι F 0,σ ⟨#[]⟩,ι F 2,ι aF 0,ι F 0,σ ⟨#[]⟩,ι F 0,ι F 0,ι J 0,σ ⟨#[]⟩]|6=>λf W=>∃b:Nat,f 6=θ (some ⟨b,0,none⟩) 1 1/\w8.heap.size<=b/\aN W b 44 #[ι .u64 0,ι aF 7,ι F 0,σ ⟨#[]⟩,ι F 2,ι aF 0,ι F 0,σ ⟨#[]⟩,ι F 0,ι F 0,ι J 0,σ ⟨#[]⟩]|7=>λf _=>f 7=τ #[ι J 1,ι J 0]|8=>λf _=>f 8=τ #[ι J 1,ι J 0]|9=>λf _=>f 9=ι J 1|10=>λf _=>f 10=ι J 0|11=>λf _=>f 11=ι J 1|12=>λf _=>f 12=ι J 0|_=>λ_ _=>True) (by kernel_rfl) (by kernel_rfl) (by kernel_rfl) (by kernel_rfl) ?st ?dep ⟨Dev.aR.of_below (aj _ _).drew,λ_=>(aj _ _).drew,λh=>by cases h⟩ ?step ?done
           case st=>
          intro i j f w1 w2 hi hj hij hw hp hs
          match j,hp with
          |0,hp|1,hp|2,hp|3,hp|4,hp|5,hp|7,hp|8,hp|9,hp|10,hp|11,hp|12,hp=>exact hp
          |6,hp=>
            obtain⟨b,h1,h2,h3⟩:=hp
            rcases hs with hb|⟨_,t⟩
            ·exact⟨b,h1,h2,h3.later hb⟩
            ·exact⟨b,h1,h2,(t.block _ h3.lt λq=>by have:=LT8.o _ q;omega).trans h3⟩
          |j+13,_=>trivial
           case dep=>
          intro j f g w hj hfg hp
          match j,hp,hfg with
          |0,hp,hfg|1,hp,hfg|2,hp,hfg|3,hp,hfg|4,hp,hfg|5,hp,hfg|6,hp,hfg|7,hp,hfg|8,hp,hfg|9,hp,hfg|10,hp,hfg|11,hp,hfg|12,hp,hfg=>have e:=hfg _ (by decide) (.inl rfl);simp only[e]at hp;exact hp
          |j+13,_,_=>trivial
           case step=>
          intro i x w1 bg hi hl hcl hG hp;refine gu (λK hK=>?_);simp only[puts,Act.put,List.setIfInBounds_toArray,List.set_cons_succ,List.set_cons_zero,List.getD_cons_succ,List.getD_cons_zero]at hK⊢
          match i,hi with
          |0,_|1,_|3,_=>
            refine aO (by rfl) rfl ?_;go_simp;exact hK _ _ ⟨_,rfl,⟨hG.1,λh=>hG.2.1 (by simpa using h),λh=>hG.2.2 (by simpa using h)⟩,.inl (aj _ _),rfl⟩
          |2,_=>
            have h7:bg 7=false:=by cases q:bg 7 with|false=>rfl|true=>exact absurd (hcl 7 2 (by decide) q (by kernel_rfl)) (by rw[hl];decide)
            have hb:=hG.2.1 h7;have y:=(G8.o.later hb).cell;have yl:=(G8.o.later hb).lt;refine aO (by rfl) rfl ?_;go_simp;exact hK _ _ ⟨_,rfl,⟨hG.1,λh=>hG.2.1 (by simpa using h),λh=>hG.2.2 (by simpa using h)⟩,.inl (aj _ _),rfl⟩
          |4,_=>
            have e:x 3=_:=hp 3 (by kernel_rfl);rw[e]at hK⊢;refine aO (by rfl) rfl ?_;go_simp;exact hK _ _ ⟨_,rfl,⟨hG.1,λh=>hG.2.1 (by simpa using h),λh=>hG.2.2 (by simpa using h)⟩,.inl (aj _ _),rfl⟩
          |5,_=>
            have e:x 4=_:=hp 4 (by kernel_rfl);rw[e]at hK⊢;have h7:bg 7=false:=by cases q:bg 7 with|false=>rfl|true=>exact absurd (hcl 7 5 (by decide) q (by kernel_rfl)) (by rw[hl];decide)
            have hb:=hG.2.1 h7;have k0:=(hb.cell (p:=⟨g,36,none⟩) hl0).trans d0;have k1:=(hb.cell (p:=⟨g,37,none⟩) hl0).trans d1;have k2:=(hb.cell (p:=⟨g,38,none⟩) hl0).trans d2;have k3:=(hb.cell (p:=⟨g,39,none⟩) hl0).trans d3;have k4:=(hb.cell (p:=⟨g,40,none⟩) hl0).trans d4;have k5:=(hb.cell (p:=⟨g,41,none⟩) hl0).trans d5;have k6:=(hb.cell (p:=⟨g,42,none⟩) hl0).trans d6;have k7:=(hb.cell (p:=⟨g,43,none⟩) hl0).trans d7;have k8:=(hb.cell (p:=⟨g,44,none⟩) hl0).trans d8;have k9:=(hb.cell (p:=⟨g,45,none⟩) hl0).trans d9;have k10:=(hb.cell (p:=⟨g,46,none⟩) hl0).trans RX;have k11:=(hb.cell (p:=⟨g,47,none⟩) hl0).trans RY;have kl:=aA hl0 hb.size;refine aO (by rfl) rfl ?_;go_simp;exact hK _ _ ⟨_,rfl,⟨hG.1,λh=>hG.2.1 (by simpa using h),λh=>hG.2.2 (by simpa using h)⟩,.inl (aj _ _),rfl⟩
          |6,_=>
            have h7:bg 7=false:=by cases q:bg 7 with|false=>rfl|true=>exact absurd (hcl 7 6 (by decide) q (by kernel_rfl)) (by rw[hl];decide)
            have hb:=hG.2.1 h7;have e:x 5=_:=hp 5 (by kernel_rfl);rw[e]at hK⊢;refine aO (by rfl) rfl ?_;refine Gc rfl ?_;exact hK _ _ ⟨_,rfl,⟨hG.1.trans (Dev.aR.of_below ((aj _ _).alloc (ah _) _)),λ_=>hb.alloc hb.size _,λh=>by simp[h7]at h⟩,.inl ((aj _ _).alloc (ah _) _),_,rfl,hb.size,aN.new w1 _ _⟩
          |7,_=>
            have e:x 0=_:=hp 0 (by kernel_rfl);rw[e]at hK⊢;have e:x 1=_:=hp 1 (by kernel_rfl);rw[e]at hK⊢;have e:x 2=_:=hp 2 (by kernel_rfl);rw[e]at hK⊢;have hb:=hG.2.1 hl;obtain⟨b,e,h2,h3⟩:=hp 6 (by kernel_rfl);rw[e]at hK⊢;refine aO (by rfl) rfl ?_;go_simp;refine ak (PT.o _ hb b h2 h3) ?_;rintro e w2 ⟨rfl,hd,t⟩;exact hK _ _ ⟨_,rfl,⟨hG.1.trans t,λh=>by simp at h,λ_=>hd⟩,.inr ⟨rfl,t⟩,rfl⟩
          |8,_=>
            have e:x 7=_:=hp 7 (by kernel_rfl);rw[e]at hK⊢;refine aO (by rfl) rfl ?_;go_simp;exact hK _ _ ⟨_,rfl,⟨hG.1,λh=>hG.2.1 (by simpa using h),λh=>hG.2.2 (by simpa using h)⟩,.inl (aj _ _),rfl⟩
          |9,_|10,_=>
            have e:x 8=_:=hp 8 (by kernel_rfl);rw[e]at hK⊢;refine aO (by rfl) rfl ?_;go_simp;exact hK _ _ ⟨_,rfl,⟨hG.1,λh=>hG.2.1 (by simpa using h),λh=>hG.2.2 (by simpa using h)⟩,.inl (aj _ _),rfl⟩
          |11,_=>
            have e:x 9=_:=hp 9 (by kernel_rfl);rw[e]at hK⊢;refine aO (by rfl) rfl ?_;go_simp;exact hK _ _ ⟨_,rfl,⟨hG.1,λh=>hG.2.1 (by simpa using h),λh=>hG.2.2 (by simpa using h)⟩,.inl (aj _ _),rfl⟩
          |12,_=>
            have e:x 10=_:=hp 10 (by kernel_rfl);rw[e]at hK⊢;refine aO (by rfl) rfl ?_;go_simp;exact hK _ _ ⟨_,rfl,⟨hG.1,λh=>hG.2.1 (by simpa using h),λh=>hG.2.2 (by simpa using h)⟩,.inl (aj _ _),rfl⟩
          |i+13,hi=>exact absurd hi (by simp)
           case done=>
          intro x w4 bg hl hG hp;simp only[puts,Act.put,List.setIfInBounds_toArray,List.set_cons_succ,List.set_cons_zero,List.getD_cons_succ,List.getD_cons_zero];have e11:x 11=_:=hp 11 (by decide);have e12:x 12=_:=hp 12 (by decide);rw[e11,e12];have D5:=U (And.intro (hG.2.2 (hl 7 (by decide))) hG.1);clear hG hp hl;go_wp2_with fail
          go_meet
          case rel=>exact⟨rfl,rfl,D5.o⟩
     case rest=>
          as_aux_lemma=>
           obtain⟨rfl,rfl,hd,t9⟩:=hcut;obtain⟨w9,rfl⟩:∃w9,w9=wc:=⟨wc,rfl⟩;have T9:=U (T8.o.other ⟨t9.os,t9.tape,t9.output,t9.size,t9.block⟩ NO.o);have U9:=U (U8.o.other ⟨t9.os,t9.tape,t9.output,t9.size,t9.block⟩ NO2.o);have R9:=U (yE R8.o t9 NG.o);have G9:Hid (aN w9 w1.heap.size 23 #[ι J 8,ι J 16,ι J 40]):=U ((t9.block _ G8.o.lt NB.o).trans G8.o);have B9:=U (t9.below ZZ.o B8.o B8.o.size)
           have C9:Hid (w9.cell? go=some (ι F 2)/\go<w9.heap.size):=U ⟨by
            have e:=t9.block go C8.o.2 NC.o;refine Eq.trans ?_ C8.o.1;unfold World.cell?;rw[e],aA C8.o.2 t9.size⟩
           have ON:Hid (∀W,Calls prog 26 #[G none,γ #[ι .u64 0,ι aF 1,ι F 1,σ ⟨#[97]⟩,ι F 2,ι aF 1,ι F 0,σ ⟨#[]⟩,ι F 0,ι F 0,ι J 0,σ ⟨#[]⟩]] W λe w'=>e=aG (ι J 1)/\Below W.heap.size W w'):=U (λW=>EE (r:=q1) _ W rfl);clear hd t9 D8 R8 G8 B8 LT8 T8 U8 X Xl PT C8 d0 d1 d2 d3 d4 d5 d6 d7 d8 d9 RX RY hl hl0 NO NO2 NC NG S5 KK;go_wp2_with fail;refine ak (tstat T9.o) ?_;rintro e zU ⟨rfl,b10⟩;have b11:=b10.alloc b10.size (aH #[ι F 2,ι aF 1,ι J 1,ι F 64] 68);have U11:=U (U9.o.later b11);have S11:=U (aN.new zU 68 #[ι F 2,ι aF 1,ι J 1,ι F 64]);have B11:=U b11;clear b10 b11 T9 U9;go_wp2_with fail;refine ak (tnone U11.o) ?_;rintro e w12 ⟨rfl,b12⟩;have b13:=b12.alloc b12.size (aH #[ι F 0,ι aF 0,ι J 0,ι F 0] 68);have S13:=U (S11.o.later b13);have Mp:=U (B11.o.trans (b13.mono B11.o.size));clear b12 b13 U11 S11 B11;have G13:=G9.o.later Mp.o;have X:=G13.cell;have Xl:=G13.lt;clear G13;go_wp2_with fail;refine ak (dC _ _) ?_;rintro e RB ⟨rfl,b14⟩;have B14:=U (Mp.o.trans (b14.mono Mp.o.size));have S14:=S13.o.later b14;clear X Xl b14 Mp S13 G9;have X:=S14.cell;have Xl:=S14.lt;obtain⟨_,_,e,hl,hc⟩:=(R9.o.later B14.o) 0 q1 rfl;cases e;have c0:=(B14.o.cell (p:=⟨go,0,none⟩) C9.o.2).trans C9.o.1;have cl:=aA C9.o.2 B14.o.size;have d0:RB.cell? g=some (ι .u64 0):=hc 0 _ rfl;have d1:RB.cell? ⟨g,1,none⟩=some (ι aF 1):=hc 1 _ rfl;have d2:RB.cell? ⟨g,2,none⟩=some (ι F 1):=hc 2 _ rfl;have d3:RB.cell? ⟨g,3,none⟩=some (σ ⟨#[97]⟩):=hc 3 _ rfl;have d4:RB.cell? ⟨g,4,none⟩=some (ι F 2):=hc 4 _ rfl;have d5:RB.cell? ⟨g,5,none⟩=some (ι aF 1):=hc 5 _ rfl;have d6:RB.cell? ⟨g,6,none⟩=some (ι F 0):=hc 6 _ rfl;have d7:RB.cell? ⟨g,7,none⟩=some (σ ⟨#[]⟩):=hc 7 _ rfl;have d8:RB.cell? ⟨g,8,none⟩=some (ι F 0):=hc 8 _ rfl;have d9:RB.cell? ⟨g,9,none⟩=some (ι F 0):=hc 9 _ rfl;have RX:RB.cell? ⟨g,10,none⟩=some (ι J 0):=hc 10 _ rfl;have RY:RB.cell? ⟨g,11,none⟩=some (σ ⟨#[]⟩):=hc 11 _ rfl;have hl0:g<RB.heap.size:=hl;clear hc hl S14 R9 C9;go_wp2_with fail;refine ak (ON.o _) ?_;rintro e w15 ⟨rfl,b15⟩;have B15:=U (B9.o.trans ((B14.o.trans (b15.mono B14.o.size)).mono B9.o.size));clear b15 X Xl c0 cl;go_wp2_with fail;go_ret;exact⟨rfl,B15.o⟩
