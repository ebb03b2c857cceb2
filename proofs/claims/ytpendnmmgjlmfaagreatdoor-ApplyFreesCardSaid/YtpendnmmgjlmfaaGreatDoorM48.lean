/- Lemmas. -/
import Derived.Test.YtpendnmmgjlmfaaGreatDoorM47
import Derived.Laws.AppendOwn
import Derived.Laws.EntriesVeiled
set_option linter.unusedVariables false
set_option linter.unusedSimpArgs false
namespace Go.Proofs.YtpendnmmgjlmfaaGreatDoor
open Go.RowKit Go.Shelf Go.Maps
open Go.Proofs.Tryz
open IntKind renaming u16→I,i64→J,u32→F,u8→aF
open Value renaming pointer→G,int->ι,string->σ,tuple->τ,slice->θ
open Ending renaming returned→aG
open Obj renaming cells→aH
set_option maxRecDepth 100000
set_option maxHeartbeats 4000000
namespace Ap
open Oct Dev mU Tx Geo qX Bm lC Dir
open Tr (eB jO dP Db vK aO)
section
variable {E:Im} {D:aZ} {es:List bC} {w0 w:World} {M lb dm t nn:Nat} {O:Nat->Prop} {h:Nat->Bool}
def GrE (x:aP) (i:Nat) (w1 w2:World):Prop:=i≠12/\Below w1.heap.size w1 w2\/i=12/\∃(b:Nat) (y:aP),aN w1 b 114 y.cells/\w2=QO w1 b x
def EnA (w0:World) (M lb dm t:Nat) (O:Nat->Prop) (w w':World):Prop:=∃O' GX h',Ld w0 M (Ap.T1 64) lb dm t GX O' h' w'/\Tr.aR (λc=>O c\/c=dm) w w'/\∀c,O' c->O c\/w.heap.size<=c
theorem xE (l:Ld w0 M Ap.T0 lb dm t nn O h w) (hn:nn<maxLen) (h2:h 2=false) (x:aP) (hx:x.kind=1/\x.size=64) (s:ByteArray) (hs:s.size=64) (IN:∀W,Below w0.heap.size w0 W->Calls prog 48 #[M,.int F 2] W (Rd (τ #[x.val,.int J 0]) W)) (PG:∀W,Below w0.heap.size w0 W->Calls prog 156 #[M,.int F 2,.int J 0] W (Rd (τ #[.string s,.int J 0]) W)):
 Calls prog 96 #[lb,.int F 1,.agg #[.string ⟨#[97]⟩,.int F 2]] w λe w'=>e=aG (τ #[.bool false,.int J 0])/\EnA w0 M lb dm t O w w':=by
 have hb:=(aj w.heap.size w).alloc (ah _) (aH #[.string ⟨#[97]⟩,.int F 2] 202);have Y0:=aN.new w 202 #[.string ⟨#[97]⟩,.int F 2];have l1:=l.later (λW h hb=>h.later hb) hb;have HX:=U (And.intro hx (And.intro hs (And.intro IN (And.intro PG (And.intro hn h2)))));have HO:=U (λc (q:O c)=>l.tree.lt q);have HB:=U hb;have HY:=U Y0;have L1:=U l1;have X:=l1.box.cell;have Xl:=l1.box.lt;unfold Sn at X;have Y:=Y0.cell;have Yl:=Y0.lt;clear l l1 hb Y0 IN PG hs hx hn h2;have IN:=U HX.o.2.2.1
 go_enter func96,ntmps96
 go_wp2_with fail
 generalize w.alloc (aH #[.string ⟨#[97]⟩,.int F 2] 202)=wb at*
 refine mK (by kernel_rfl) (λ|0=>some 12|1=>some 13|2=>some 14|3=>some 15|4=>some 16|5=>some 17|6=>some 18|7=>some 19|8=>some 11|9=>some 20|10=>some 21|11=>some 8|12=>none|13=>some 9|_=>none) (λa=>∃x8 x9 QE Ep Er Es NV NY NZ x18 Oa x20 x21:Value,a=⟨#[G (some ⟨lb,0,none⟩),.int F 1,.agg #[.string ⟨#[97]⟩,.int F 2],undef,undef,G (some ⟨w.heap.size,0,none⟩),.bool false,.int J 0,x8,x9,undef,QE,Ep,Er,Es,NV,NY,NZ,x18,Oa,x20,x21,undef,undef,undef,undef,undef,undef,undef,undef,undef,undef,undef,undef,undef,undef,undef,undef,undef,undef,undef,undef,undef,undef,undef,undef,undef,undef,undef,undef,undef,undef,undef,undef,undef,undef,undef,undef,undef,undef,undef,undef,undef,undef,undef,undef,undef,undef,undef,undef,undef,undef,undef,undef,undef,undef,undef,undef,undef,undef,undef,undef,undef,undef,undef,undef,undef,undef],[]⟩) (λ_ W=>Below wb.heap.size wb W) (GrE x) (λ|0=>λf _=>f 0=G (some ⟨lb,0,none⟩)|1=>λf _=>f 1=G (some ⟨lb,0,none⟩)|2=>λf _=>f 2=G (some ⟨lb,0,none⟩)|3=>λf _=>f 3=G (some ⟨lb,0,none⟩)|4=>λf _=>f 4=G (some ⟨M,0,none⟩)|5=>λf _=>f 5=G (some ⟨w.heap.size,1,none⟩)|6=>λf _=>f 6=.int F 2|7=>λf _=>f 7=τ #[x.val,.int J 0]|8=>λf _=>f 8=τ #[x.val,.int J 0]|9=>λf _=>f 9=x.val|10=>λf _=>f 10=.int J 0|11=>λf W=>∃(b:Nat) (y:aP),f 11=G (some ⟨b,0,none⟩)/\wb.heap.size<=b/\aN W b 114 y.cells|12=>λf W=>∃b:Nat,f 11=G (some ⟨b,0,none⟩)/\wb.heap.size<=b/\aN W b 114 x.cells|13=>λf _=>f 13=.int J 0|_=>λ_ _=>True) (by kernel_rfl) ?st ?dep (by kernel_rfl) ?AA ⟨_,_,_,_,_,_,_,_,_,_,_,_,_,rfl⟩ ((aj _ _).drew) ?step ?done
 case st=>
  intro i j f w1 w2 hi hj hij hw hp hs
  match j,hp with
  |0,hp|1,hp|2,hp|3,hp|4,hp|5,hp|6,hp|7,hp|8,hp|9,hp|10,hp|13,hp=>exact hp
  |11,hp=>
   obtain⟨b,y,h1,h2,h3⟩:=hp
   rcases hs with⟨_,hb⟩|⟨_,b2,y2,h4,rfl⟩
   ·exact⟨b,y,h1,h2,h3.later hb⟩
   ·by_cases e:b=b2
    ·subst e;exact⟨b,x,h1,h2,xP x h3⟩
    ·exact⟨b,y,h1,h2,iX h3 (Ne.symm e)⟩
  |12,hp=>
   obtain⟨b,h1,h2,h3⟩:=hp
   rcases hs with⟨_,hb⟩|⟨e,_⟩
   ·exact⟨b,h1,h2,h3.later hb⟩
   ·exact absurd e hij
  |j+14,_=>trivial
 case dep=>
  intro j f g w hj hfg hp
  match j,hp,hfg with
  |0,hp,hfg|1,hp,hfg|2,hp,hfg|3,hp,hfg|4,hp,hfg|5,hp,hfg|6,hp,hfg|7,hp,hfg|8,hp,hfg|9,hp,hfg|10,hp,hfg|13,hp,hfg|11,hp,hfg=>have e:=hfg _ (by decide) (.inl rfl);simp only[e]at hp;exact hp
  |12,hp,hfg=>have e:=hfg 11 (by decide) (.inr (by kernel_rfl));simp only[e]at hp;exact hp
  |j+14,_,_=>trivial
 case AA=>
  rintro i a v hi ⟨_,_,_,_,_,_,_,_,_,_,_,_,_,rfl⟩
  match i,hi with
  |0,_|1,_|2,_|3,_|4,_|5,_|6,_|7,_|8,_|9,_|10,_|11,_|12,_|13,_=>exact⟨⟨_,_,_,_,_,_,_,_,_,_,_,_,_,rfl⟩,λt h=>by cases h<;>exact Nat.le_of_ble_eq_true rfl⟩
  |i+14,hi=>exact absurd hi (by simp)
 case step=>
  rintro i a w1 bg hi ⟨x8,x9,QE,Ep,Er,Es,NV,NY,NZ,x18,Oa,x20,x21,rfl⟩ hl hcl hG hp;refine gu (λK hK=>?_);have c0:=(hG.cell (p:=⟨lb,0,none⟩) Xl).trans (X 0);have c1:=(hG.cell (p:=⟨w.heap.size,1,none⟩) Yl).trans (Y 1);simp only[au,av,ay]at c0 c1;have l0:=aA Xl hG.size;have l1:=aA Yl hG.size
  match i,hi with
  |0,_|5,_=>
   refine aO (by rfl) rfl ?_;go_simp;exact hK _ _ ⟨_,rfl,hG,.inl ⟨by decide,aj _ _⟩,rfl⟩
  |1,_=>
   have e:=hp 0 (by kernel_rfl);change Ep=_ at e;subst e;refine aO (by rfl) rfl ?_;go_simp;exact hK _ _ ⟨_,rfl,hG,.inl ⟨by decide,aj _ _⟩,rfl⟩
  |2,_=>
   have e:=hp 1 (by kernel_rfl);change Er=_ at e;subst e;refine aO (by rfl) rfl ?_;go_simp;exact hK _ _ ⟨_,rfl,hG,.inl ⟨by decide,aj _ _⟩,rfl⟩
  |3,_=>
   have e:=hp 2 (by kernel_rfl);change Es=_ at e;subst e;refine aO (by rfl) rfl ?_;go_simp;exact hK _ _ ⟨_,rfl,hG,.inl ⟨by decide,aj _ _⟩,rfl⟩
  |4,_=>
   have e:=hp 3 (by kernel_rfl);change NV=_ at e;subst e;refine aO (by rfl) rfl ?_;go_simp;exact hK _ _ ⟨_,rfl,hG,.inl ⟨by decide,aj _ _⟩,rfl⟩
  |6,_=>
   have e:=hp 5 (by kernel_rfl);change NZ=_ at e;subst e;refine aO (by rfl) rfl ?_;go_simp;exact hK _ _ ⟨_,rfl,hG,.inl ⟨by decide,aj _ _⟩,rfl⟩
  |7,_=>
   have e:=hp 4 (by kernel_rfl);change NY=_ at e;subst e;have e:=hp 6 (by kernel_rfl);change x18=_ at e;subst e;refine aO (by rfl) rfl ?_;go_simp;refine ak (IN.o _ (L1.o.lS.trans (hG.mono L1.o.lS.size))) ?_;rintro e w2 ⟨rfl,b2⟩;exact hK _ _ ⟨_,rfl,hG.trans (b2.mono hG.size),.inl ⟨by decide,b2⟩,rfl⟩
  |8,_=>
   have e:=hp 7 (by kernel_rfl);change Oa=_ at e;subst e;refine aO (by rfl) rfl ?_;go_simp;exact hK _ _ ⟨_,rfl,hG,.inl ⟨by decide,aj _ _⟩,rfl⟩
  |9,_|10,_=>
   have e:=hp 8 (by kernel_rfl);change QE=_ at e;subst e;refine aO (by rfl) rfl ?_;go_simp;exact hK _ _ ⟨_,rfl,hG,.inl ⟨by decide,aj _ _⟩,rfl⟩
  |11,_=>
   refine aO (by rfl) rfl ?_;go_simp;exact hK _ _ ⟨_,rfl,hG.alloc hG.size _,.inl ⟨by decide,(aj _ _).alloc (ah _) _⟩,_,dY,rfl,hG.size,aN.new w1 _ _⟩
  |12,_=>
   obtain⟨b,y,e,h2,h3⟩:=hp 11 (by kernel_rfl);change x8=_ at e;subst e;have e:=hp 9 (by kernel_rfl);change x20=_ at e;subst e;have k:=h3.cell;have kf:=h3.free;have kl:=h3.lt;unfold aP.cells at k;refine aO (by rfl) rfl ?_;unfold aP.val;go_simp;exact hK _ _ ⟨undef,rfl,yR x hG h2,.inr ⟨rfl,b,y,h3,rfl⟩,b,rfl,h2,xP x h3⟩
  |13,_=>
   have e:=hp 10 (by kernel_rfl);change x21=_ at e;subst e;refine aO (by rfl) rfl ?_;go_simp;exact hK _ _ ⟨_,rfl,hG,.inl ⟨by decide,aj _ _⟩,rfl⟩
  |i+14,hi=>exact absurd hi (by simp)
 case done=>
  rintro a w4 bg hl ⟨x8,x9,QE,Ep,Er,Es,NV,NY,NZ,x18,Oa,x20,x21,rfl⟩ hG hp;obtain⟨b,e8,h2,h3⟩:=hp 12 (by decide);change x8=_ at e8;subst e8;have e:=hp 13 (by decide);change x9=_ at e;subst e;obtain⟨kind,links,size,d0,d1,d2,d3,ind⟩:=x;obtain⟨rfl,rfl⟩:kind=1/\size=64:=HX.o.1;have l4:=L1.o.later (λW h hb=>h.later hb) hG;have L4:=U l4;have HS:=U (zO l4 2 (by decide));rw[HX.o.2.2.2.2.2]at HS;have HZ:=U h3;have wQ:=U (HY.o.later hG);have B4:=U hG;have BB:=U h2;have Z:=h3.cell;have Zl:=h3.lt;clear X Xl Y Yl l4 hp hl h3 hG h2 IN;have Y:=wQ.o.cell;have Yl:=wQ.o.lt;unfold aP.cells at Z;go_wp2_with fail;refine ak HS.o ?_;rintro e w5 ⟨rfl,b5⟩;have l5:=(L4.o.later (λW h hb=>h.later hb) b5).later (λW h hb=>h.later hb) (aj _ _).drew;have HZ5:=U ((HZ.o.later b5).drew);have Fh:=U ((wQ.o.later b5).drew);have B5:=U ((B4.o.trans (b5.mono B4.o.size)).drew);obtain⟨W6,hrun,l6,t6⟩:=l5.put HX.o.2.2.2.2.1;have L6:=U l6;have T6:=U t6;have X:=l5.box.cell;have Xl:=l5.box.lt;unfold Sn at X;have n1:b≠dm:=l5.done.ne HZ5.o;have n2:w.heap.size≠dm:=l5.done.ne Fh.o;have HZ6:=U ((t6.block _ HZ5.o.lt n1).trans HZ5.o);have HY6:=U ((t6.block _ Fh.o.lt n2).trans Fh.o);clear l5 l6 t6 Y Yl Z Zl b5 HS n1 n2;have Y:=Fh.o.cell;have Yl:=Fh.o.lt;go_wp2_with fail;go_region;clear X Xl Y Yl hrun;have l6:=L6.o;have X:=l6.box.cell;have Xl:=l6.box.lt;unfold Sn at X;have hY:aN W6 w.heap.size 202 _:=HY6.o;have hZ:aN W6 b 114 _:=HZ6.o;have Y:=hY.cell;have Yl:=hY.lt;have Z:=hZ.cell;have Zl:=hZ.lt;unfold aP.cells at Z;have Ky:=U (And.intro hY hZ);clear l6 hY hZ HZ6 HY6;go_wp2_with fail
  go_still_tail 11,(by kernel_rfl)
  change wpList _ _ _ _ _ W6.drew;have B7:=U ((aj W6.heap.size W6).drew)
  generalize W6.drew=w7 at B7⊢
  have l7:=L6.o.later (λW h hb=>h.later hb) B7.o;have MK:=U (tmake l7.tree);have L7:=U l7;clear l7 X Xl Y Yl Z Zl;go_wp2_with fail;refine ak MK.o ?_;rintro e w8 ⟨rfl,t8,O8,ho8,hT8⟩;have l8:=L7.o.qR t8 ho8 hT8;have nO:∀c,w.heap.size<=c->¬O c:=λc hc q=>by have:=HO.o c q;omega
  have hY:aN w8 w.heap.size 202 _:=(t8.block _ (Ky.o.1.later B7.o).lt (nO _ (ah _))).trans (Ky.o.1.later B7.o);have hZ:aN w8 b 114 _:=(t8.block _ (Ky.o.2.later B7.o).lt (nO _ (by have:=HY.o.lt;have:=BB.o;omega))).trans (Ky.o.2.later B7.o);have PA:=U (oU l8 ⟨1,links,64,d0,d1,d2,d3,ind⟩ rfl s HX.o.2.1 HX.o.2.2.2.1);have T8:=U (And.intro t8 ho8);have L8:=U l8;have Y:=hY.cell;have Yl:=hY.lt;have Z:=hZ.cell;have Zl:=hZ.lt;unfold aP.cells at Z;unfold aP.val at PA;clear l8 t8 ho8 hT8 hY hZ MK;go_wp2_with fail;refine ak PA.o ?_;rintro e w9 ⟨rfl,t9,O9,ho9,hT9⟩;have L9:=U (L8.o.qR t9 ho9 hT9);have T9:=U (And.intro t9 ho9);clear t9 ho9 hT9 Y Yl Z Zl PA;go_wp2_with fail;go_ret2;have t1:Tr.aR (λc=>O c\/c=dm) w w5.drew:=Tr.aR.of (HB.o.trans (B5.o.mono HB.o.size));have t2:=pY t1 T6.o (λc _ q=>.inr q);have t3:=pY t2 (Tr.aR.of (O:=λ_=>False) B7.o) (λc _ q=>q.elim);have t4:=pY t3 T8.o.1 (λc _ q=>.inl q);have z3:=t3.size;have z4:=t4.size;have ho:∀c,O8 c->O c\/w.heap.size<=c:=λc q=>(T8.o.2 c q).imp_right λq=>by omega
  exact⟨rfl,O9,nn+1,_,L9.o,pY t4 T9.o.1 (λc hc q=>(ho c q).elim .inl λq=>by omega),λc q=>(T9.o.2 c q).elim (ho c) λq=>.inr (by omega)⟩
end
section
variable {E:Im} {D:aZ} {es:List bC} {w0 w:World} {M lb dm t nn mb ab:Nat} {O:Nat->Prop} {h:Nat->Bool}
theorem EnA.pre {W w':World} (hb:Below w.heap.size w W) (e:EnA w0 M lb dm t O W w'):EnA w0 M lb dm t O w w':=by
 obtain⟨O',GX,h',l,ht,ho⟩:=e;exact⟨O',GX,h',l,pY (Tr.aR.of hb) ht (λc _ q=>q),λc q=>(ho c q).imp_right λq=>aD hb.size q⟩
theorem listA (W:World):Calls prog 95 #[σ (B (dW Ng))] W λe w'=>∃g cap,e=aG (θ (some ⟨g,0,none⟩) 1 cap)/\(w'.cell? ⟨g,0,none⟩=some (σ ⟨#[97]⟩)/\w'.cell? ⟨g,1,none⟩=some (ι F 2)/\g<w'.heap.size)/\Below W.heap.size W w':=by
 have e:iH (L (B (dW Ng)))=[([97],2)]:=by rw[iy];decide+kernel
 refine(CF (B (dW Ng)) W (by decide)).mono ?_;rw[e];rintro e w' ⟨v,rfl,hv,hb⟩;have h0:=hv
 rcases hv.2 with⟨rfl,e⟩|⟨g,cap,cur,rfl,h1,h2,h3,h4,_⟩
 ·cases e
 ·exact⟨g,cap,rfl,⟨World.ownsRow.cellAt h0 0 (by decide),World.ownsRow.cellAt h0 1 (by decide),(Array.getElem?_eq_some_iff.1 h2).1⟩,hb⟩
theorem listB (W:World):Calls prog 95 #[σ (B (dW Wd))] W λe w'=>∃p cap,e=aG (θ p 0 cap)/\Below W.heap.size W w':=by
 have e:iH (L (B (dW Wd)))=[]:=by rw[iy];decide+kernel
 refine(CF (B (dW Wd)) W (by decide)).mono ?_;rw[e];rintro e w' ⟨v,rfl,hv,hb⟩
 rcases hv.2 with⟨rfl,e⟩|⟨g,cap,cur,rfl,_⟩
 ·exact⟨none,0,rfl,hb⟩
 ·exact⟨_,cap,rfl,hb⟩
theorem Zs (l:Ld w0 M Ap.T0 lb dm t nn O h w) (hm:aN w mb 194 #[lb]) (TX:∀W,Below w0.heap.size w0 W->Calls prog 94 #[M,ι F 1] W λe w'=>e=aG (τ #[σ (B (dW Wd)),ι J 0])/\Below W.heap.size W w'):
 Calls prog 93 #[ι F 1,mb,ab] w λe w'=>e=aG (ι J 0)/\Below w.heap.size w w':=by
 have TXX:=U (TX _ l.lS);have X:=l.box.cell;have Xl:=l.box.lt;unfold Sn at X;have Y:=hm.cell;have Yl:=hm.lt;clear l TX hm
 go_enter func93,ntmps93
 go_wp2_with fail;refine ak TXX.o ?_;rintro e w1 ⟨rfl,b1⟩;have B1:=U b1;clear b1;go_wp2_with fail;refine ak (listB _) ?_;rintro e w2 ⟨p,cap,rfl,b2⟩;have B2:=U (B1.o.trans (b2.mono B1.o.size));clear b2;go_wp2_with fail;refine wp_loop_rounds 1 ?_;rw[rounds_succ];go_wp2_with fail;go_ret;exact⟨rfl,B2.o⟩
theorem ZD (l:Ld w0 M Ap.T0 lb dm t nn O h w) (hm:aN w mb 194 #[lb]) (hn:nn<maxLen) (h2:h 2=false) (x:aP) (hx:x.kind=1/\x.size=64) (s:ByteArray) (hs:s.size=64) (IN:∀W,Below w0.heap.size w0 W->Calls prog 48 #[M,ι F 2] W (Rd (τ #[x.val,ι J 0]) W)) (PG:∀W,Below w0.heap.size w0 W->Calls prog 156 #[M,ι F 2,ι J 0] W (Rd (τ #[σ s,ι J 0]) W)) (TX:∀W,Below w0.heap.size w0 W->Calls prog 94 #[M,ι F 1] W λe w'=>e=aG (τ #[σ (B (dW Ng)),ι J 0])/\Below W.heap.size W w'):
 Calls prog 93 #[ι F 1,mb,ab] w λe w'=>e=aG (ι J 0)/\EnA w0 M lb dm t O w w':=by
 have TXX:=U (TX _ l.lS);have EN:=U (λW (hb:Below w.heap.size w W)=>xE (l.later (λW h hb=>h.later hb) hb) hn h2 x hx s hs IN PG);have HM:=U hm;have X:=l.box.cell;have Xl:=l.box.lt;unfold Sn at X;have Y:=hm.cell;have Yl:=hm.lt;clear l TX hm IN PG hx hs hn h2
 go_enter func93,ntmps93
 go_wp2_with fail;refine ak TXX.o ?_;rintro e w1 ⟨rfl,b1⟩;have B1:=U b1;clear b1;go_wp2_with fail;refine ak (listA _) ?_;rintro e w2 ⟨g,cap,rfl,⟨g0,g1,gl⟩,b2⟩;have B2:=U (B1.o.trans (b2.mono B1.o.size));clear X Xl Y Yl b2;have hM:=HM.o.later B2.o;have Y:=hM.cell;have Yl:=hM.lt;clear hM;go_wp2_with fail;refine wp_loop_rounds 2 ?_;rw[rounds_succ];go_wp2_with fail;refine ak (EN.o _ (B2.o.alloc B2.o.size _)) ?_;rintro e w3 ⟨rfl,he⟩;have HE:=U (he.pre (B2.o.alloc B2.o.size _));clear he Y Yl g0 g1 gl;go_wp2_with fail;rw[rounds_succ];go_wp2_with fail;go_ret;exact⟨rfl,HE.o⟩
end
end Ap
namespace Re
open Oct Path Tr
def qW (S:T) (n:Nat):List Nat:=(List.range n).filter λi=>decide ((S.n (i+1)).kind≠0)
theorem cU {S:T} {i:Nat} (h:(S.n (i+1)).kind≠0):qW S (i+1)=qW S i++[i]:=by
 unfold qW;rw[List.range_succ,List.filter_append]
 simp[h]
theorem Hk {S:T} {i:Nat} (h:(S.n (i+1)).kind=0):qW S (i+1)=qW S i:=by
 unfold qW;rw[List.range_succ,List.filter_append]
 simp[h]
theorem Sq (S:T) (n:Nat):(qW S n).length<=n:=by
 unfold qW;exact aD (List.length_filter_le _ _) (by simp)
theorem ME:(prog.info? 42).map (λi=>(i.zero,i.size,i.bytes))=some (some (ι F 0),1,4):=by kernel_rfl
def en32 (i:Nat):Value:=ι F ((i:Int)+1)
def AllR (n:Nat) (wz:World) (e:Ending) (w':World):Prop:=∃(p:Option Addr) (c:Nat),e=aG (θ p n c)/\Below wz.heap.size wz w'
theorem all18 {R g room q:Nat} {S:T} {es:Nat->List bC} {pa:Nat->Option Addr} {ca:Nat->Nat} (wz:World) (h:ko wz R g room q S es pa ca) (hr:room<=256):
 Calls prog 19 #[R] wz (AllR (qW S room).length wz):=by
 obtain⟨i0,hi0,hz0,hz1,hz2⟩:=info_parts ME;have H:=U h;have hg:=h.ny;have hR:=h.top.lt;clear h
 go_enter func19,ntmps19
 go_wp2_with fail
 go_loopw [3,4] (λv3 v4 wr=>∃i:Nat,i<=room/\v4=ι J i/\wr.ownsRow wz.heap.size 42 1 v3 (qW S i).length ((qW S i).map en32)/\Below wz.heap.size wz wr) (λ_ v4 _=>room-(intOf v4).toNat)
 case atStart=>exact⟨0,aB _,rfl,World.ownsRow_nil _ _ _ _,aj _ _⟩
 case round=>
  obtain⟨i,hi,rfl,hO,hB⟩:=hrel;have HO:=U hO;have HB:=U hB;have HW:=U (H.o.blocks hB.size (λb hb=>hB.block b hb));clear hO hB;have h0:=HW.o.nC;have hgw:=HW.o.ny;have hRw:=HW.o.top.lt
  rcases Nat.lt_or_ge i room with hlt|hge
  ·obtain⟨c0,c1,c2,c3,f⟩:=HW.o.cells hlt
   clear c1 c2 c3 f;have tlt:(i:Int)<room:=by omega
   have ti:(0:Int)<=i:=by omega
   by_cases hk:(S.n (i+1)).kind=0
   ·rw[hk]at c0
    have HE:=U (Hk hk);clear hk;go_wp2_with fail;go_roundw
    case rel=>exact⟨i+1,by omega,by go_num,by rw[HE.o];exact HO.o,HB.o⟩
    case measure=>simp[intOf];omega
   ·have tk:(((S.n (i+1)).kind:Int)!=0)=true:=by simp;omega
    have tw:IntKind.u32.wrap ((i:Int)+1)=(i:Int)+1:=IntWalk.u32_in _ (by omega);have HE:=U (cU hk);have hq:=Sq S i;have hrow:=HO.o;have hwl:=HB.o.size;clear hk
    go_wp2_with (at_builtin;refine wpList_append_own _ rfl _ _ 57 rfl wz.heap.size 42 i0 (ι F 0) 1 4 underlying57 hi0 hz0 hz1 hz2 rfl (by decide) _ _ _ rfl (hrow.alloc _) ⟨wr.heap.size,0,none⟩ 1 1 [ι F ((i:Int)+1)] rfl rfl ?c1 ?c2 (by unfold maxLen;omega) (by omega) (by simp;omega) ?_)
    case c1=>exact World.news_of_block (aN.new wr 42 #[ι F ((i:Int)+1)])
    case c2=>
     intro u hu;simp only[List.mem_cons,List.not_mem_nil,or_false]at hu;subst hu
     rfl
    intro v' w' hown hgrow _;have HN:=U hown;have HB2:=U ((HB.o.alloc HB.o.size _).grown hgrow (by simp;omega) (λr e=>(HO.o.lt r e).1));clear hown hgrow hrow;go_wp2_with fail;go_roundw
    case rel=>exact⟨i+1,by omega,by go_num,by rw[HE.o,List.length_append,List.map_append];exact HN.o,HB2.o⟩
    case measure=>simp[intOf];omega
  ·obtain rfl:i=room:=by omega
   have tge:¬(i:Int)<i:=by omega
   obtain⟨p,c,rfl⟩:∃p c,u3=θ p (qW S i).length c:=by
    rcases HO.o.2 with⟨rfl,e⟩|⟨g,cap,cur,rfl,_⟩
    ·exact⟨none,0,by rw[e]⟩
    ·exact⟨_,cap,rfl⟩
   go_wp2_with fail;go_ret;exact⟨p,c,rfl,HB.o⟩
end Re
namespace Ap
open Oct Dev mU Tx Geo qX Bm lC Dir
open Tr (eB jO dP Db vK)
section
variable {E:Im} {D:aZ} {es:List bC} {w0 w:World} {M lb dm t nn mb ab:Nat} {O:Nat->Prop} {h:Nat->Bool} {ino:Nat->aP} {vs:Nat->List Nat} {TQ:Nat->(Nat->Prop)->World->Prop}
def EnQ (TQ:Nat->(Nat->Prop)->World->Prop) (w0:World) (M lb dm t:Nat) (O:Nat->Prop) (w w':World):Prop:=∃O' GX h',Ld w0 M TQ lb dm t GX O' h' w'/\Tr.aR (λc=>O c\/c=dm) w w'/\∀c,O' c->O c\/w.heap.size<=c
def AlQ (TQ:Nat->(Nat->Prop)->World->Prop) (w0:World) (M:Nat):Prop:=∀W lb dm t O h mb (ab:Nat),Ld w0 M Ap.T0 lb dm t 1 O h W->aN W mb 194 #[lb]->h 2=false->Calls prog 93 #[.int F 1,mb,ab] W λe w'=>e=aG (.int J 0)/\EnQ TQ w0 M lb dm t O W w'
theorem Gb {base n:Nat} {v:Value} {xs:List Value} (h:w.ownsRow base 42 1 v n xs) (o:Obj):(w.alloc o).ownsRow base 42 1 v n xs:=World.ownsRow.alloc h o
def orp (l k:Nat):List Nat:=if l=0/\2<k then[2]else[]
theorem cV {l k:Nat} (h:¬(l=0/\2<k)):orp l k=[]:=if_neg h
theorem Hm {l k:Nat} (h:l=0/\2<k):orp l k=[2]:=if_pos h
theorem Ld.new {w1:World} (hT:Ap.T0 t O w1) (hO:∀c,O c->w0.heap.size<=c) (hb:Below w0.heap.size w0 w1):∃w2,(Instr.mapUpdate 196 (.map (some w1.heap.size)) (.int F 1) (.agg #[])).run prog (w1.alloc (.map #[] 0))=.ok () w2/\w2.heap.size=w1.heap.size+1/\Below w1.heap.size w1 w2/\∀W,aN W (w1.heap.size+1) 198 (Sn M t w1.heap.size)->Below w2.heap.size w2 W->Ld w0 M Ap.T0 (w1.heap.size+1) w1.heap.size t 1 O (λx=>x==1) W:=by
 have h0:=cZ.new w1 42;rw[Re.vL F]at h0;obtain⟨w2,r1,hV,tm⟩:=h0.put Db underlying196 (by decide) (show keyOf prog 42 (.int F 1)=some (.int F 1)from vK (x:=1) (by decide)) (.agg #[]);have hs:w2.heap.size=w1.heap.size+1:=by rw[Tr.yP tm];simp
 have tc:=pY (Tr.aR.of (O:=λc=>c=w1.heap.size) ((aj w1.heap.size w1).alloc (ah _) (.map #[] 0))) (Tr.aR.turned (O:=λc=>c=w1.heap.size) tm rfl) (λc _ q=>q);have b2:Below w1.heap.size w1 w2:=tc.below λc hc=>⟨hc,λq=>by omega⟩;change cZ w2 _ _ _ (lU (eB F _) (.int F ((1:Nat):Int)) _)at hV;rw[dP]at hV
 have e:(λy=>if y=1 then some (Value.agg #[])else none)=cQ (λx=>x==1):=by
  funext y
  unfold cQ
  by_cases q:y=1
  ·simp[q]
  ·simp[q]
 rw[e]at hV;have lt:=λc (q:O c)=>hT.lt q;have z1:=hb.size;refine⟨w2,r1,hs,b2,λW hB hb2=>⟨hb.trans ((b2.trans (hb2.mono b2.size)).mono hb.size),hO,(hT.later b2).later hb2,hB,hV.later hb2,by omega,by omega,λq=>by have:=lt _ q;omega,λq=>by have:=lt _ q;omega⟩⟩
theorem Sr (g n cap:Nat) (h:n<=cap) (w:World):Calls prog 97 #[.slice (some g) n cap] w λe w'=>e=aG (.slice (some g) n n)/\Below w.heap.size w w':=by
 have h1:(n:Int)<=cap:=by omega
 go_enter func97,ntmps97
 go_wp2
 go_ret;exact⟨rfl,aj _ _⟩
theorem Hn (w:World):Calls prog 97 #[.slice none 0 0] w λe w'=>e=aG (.slice none 0 0)/\Below w.heap.size w w':=by
 go_enter func97,ntmps97
 go_wp2
 go_ret;exact⟨rfl,aj _ _⟩
theorem cW (x:Ax E) (hI:IS w E D (ZS E)) (f:CX E D ino vs es) (l2:Nat) (hx:(ino 2).kind=1/\(ino 2).links=l2) (h3:∀n,3<=n->n<=E.i->ino n=dY) (hTQ:∀t O W W',TQ t O W->Below W.heap.size W W'->TQ t O W') (AL:AlQ TQ w E.M):
 Calls prog 53 #[E.M,.agg #[.int J 8,.int J 16,.int J 40]] w λe w'=>∃t O v,e=aG (τ #[G (some ⟨t,0,none⟩),v,.int J 0])/\TQ t O w'/\Below w.heap.size w w'/\(∀c,O c->w.heap.size<=c)/\(l2=0->∃g,v=.slice (some ⟨g,0,none⟩) 1 1/\w'.cell? ⟨g,0,none⟩=some (.int F 2)/\g<w'.heap.size/\w.heap.size<=g):=by
 have HI:=U hI;have HF:=U (And.intro x (And.intro f (And.intro hx (And.intro h3 AL))));have G0:=U (aN.new w 23 #[.int J 8,.int J 16,.int J 40]);have B0:=U ((aj w.heap.size w).alloc (ah _) (aH #[.int J 8,.int J 16,.int J 40] 23));have X:=G0.o.cell;have Xl:=G0.o.lt;have HTQ:=U hTQ;clear hI x f hx h3 AL hTQ;have hmm:=@run_makeMap prog
 go_enter func53,ntmps53
 go_wp2_with fail;refine ak (tnew _) ?_;rintro e w1 ⟨t,O,rfl,hT,hO,b1⟩;have B1:=U (B0.o.trans (b1.mono B0.o.size));obtain⟨w2,r1,z2,b2,hl⟩:=Ld.new (M:=E.M) (w0:=w) hT (λc q=>aD B0.o.size (hO c q)) B1.o;have B2:=U (B1.o.trans (b2.mono B1.o.size));have G2:=U ((G0.o.later b1).later b2);obtain⟨h1,h2,h3,b3⟩:=He w2 (Sn E.M t w1.heap.size) #[G (some ⟨w1.heap.size+1,0,none⟩)] #[.func (.func 93) #[] #[G (some ⟨w1.heap.size+1+1,0,none⟩),G (some ⟨w1.heap.size+1+1+1,0,none⟩)]] 198 194 92;rw[z2]at h1 h2 h3;have l3:=hl _ h1 b3;have LN:=U (λc (q:O c)=>And.intro (show w.heap.size<c by have:=hO c q;simp at this;omega) (hT.lt q));have AL:=U (HF.o.2.2.2.2 _ _ _ _ _ _ _ (w1.heap.size+1+1+1) l3 h2 rfl);have HM:=U h2;have B3:=U (B2.o.trans (b3.mono B2.o.size));have G3:=U (G2.o.later b3);have z1:=B1.o.size;have zg:w.heap.size<w1.heap.size:=(G0.o.later b1).lt;unfold Sn at AL;clear hT b1 b2 hl X Xl hO h1 h2 h3 b3 l3 G2 B2;go_wp2_with fail;refine ak AL.o ?_;rintro e w4 ⟨rfl,O4,n4,h4,l4,t4,ho4⟩;have hG:aN w4 w.heap.size 23 _:=(t4.block _ G3.o.lt (λq=>q.elim (λq=>by have:=(LN.o _ q).1;omega) (λq=>by omega))).trans G3.o;have hM:aN w4 (w1.heap.size+1+1) 194 _:=(t4.block _ HM.o.lt (λq=>q.elim (λq=>by have:=(LN.o _ q).2;omega) (λq=>by omega))).trans HM.o;have GM:=U (And.intro hG hM);have L4:=U l4;have X:=hG.cell;have Xl:=hG.lt;clear hG hM l4 t4 ho4 HM G3 AL;have NO:=U (World.ownsRow_nil w4 w4.heap.size 42 1);go_wp2_with fail
 go_loopw [4,5,42] (λs4 s5 s42 wr=>∃k:Nat,k<=9/\s42=.int F k/\s4=G (some ⟨t,0,none⟩)/\wr.ownsRow w4.heap.size 42 1 s5 (orp l2 k).length ((orp l2 k).map λn=>.int F (n:Nat))/\Below w4.heap.size w4 wr) (λ_ _ s42 _=>9-(intOf s42).toNat)
 case atStart=>exact⟨0,aB _,rfl,rfl,by rw[cV (by omega)];exact NO.o,aj _ _⟩
 case round=>
  obtain⟨k,hk,rfl,rfl,hO,hB⟩:=hrel;have OO:=U hO;have BB:=U hB;have hg:=GM.o.1.later hB;have hm:=GM.o.2.later hB;have hl:=L4.o.box.later hB;have X:=hg.cell;have Xl:=hg.lt;have Y:=hm.cell;have Yl:=hm.lt;have Z:=hl.cell;have Zl:=hl.lt;unfold Sn at Z;clear hO hB hg hm hl
  rcases Nat.lt_or_ge k 9 with hlt|hge
  ·have hi8:=HF.o.1.ei
   obtain⟨n,hn⟩:∃n,max k 1=n:=⟨_,rfl⟩;have n1:1<=n/\n<=8:=by omega
   have IN:=U (MB HF.o.1 (HI.o.later (L4.o.lS.trans (BB.o.mono L4.o.lS.size))) HF.o.2.1 n1.1 (by omega));have tm:max (k:Int) 1=n:=by omega
   have tl:(k:Int)<9:=by omega
   have tw:IntKind.u32.wrap ((k:Int)+1)=((k+1:Nat):Int):=by rw[IntWalk.u32_in _ (by omega)];push_cast;rfl
   unfold aP.val at IN
   by_cases hor:l2=0/\k=2
   ·obtain⟨rfl,rfl⟩:=hor
    obtain rfl:2=n:=hn;obtain⟨i0,hi0,hz0,hz1,hz2⟩:=info_parts Re.ME;have OE:=OO.o;rw[cV (by omega)]at OE;have OO2:=U OE;have HX:=HF.o.2.2.1;rw[HX.1,HX.2]at IN;clear OE HX
    generalize (ino 2).size=k3 at*
    generalize (ino 2).d0=k4 at*
    generalize (ino 2).d1=k5 at*
    generalize (ino 2).d2=k6 at*
    generalize (ino 2).d3=k7 at*
    generalize (ino 2).ind=k8 at*
    go_wp2_with fail;refine ak IN.o ?_;rintro e w5 ⟨rfl,b5⟩;have B5:=U ((BB.o.trans (b5.mono BB.o.size)).alloc (aD BB.o.size b5.size) (aH #[.int aF 1,.int I 0,.int F k3,.int I k4,.int I k5,.int I k6,.int I k7,.int I k8] 114));have hrow:=Gb (OO2.o.kept (row:=none) ⟨b5.os,b5.tape,b5.output,b5.size,λi hi _=>b5.block i hi⟩ (Classical.em _)) (aH #[.int aF 1,.int I 0,.int F k3,.int I k4,.int I k5,.int I k6,.int I k7,.int I k8] 114);have OO5:=U hrow;have zz:=B5.o.size
    simp at zz
    clear b5 X Xl Y Yl Z Zl
    go_wp2_with (at_builtin;refine wpList_append_own _ rfl _ _ 57 rfl w4.heap.size 42 i0 (.int F 0) 1 4 underlying57 hi0 hz0 hz1 hz2 rfl (by decide) _ _ _ rfl (hrow.alloc _) ⟨w5.heap.size+1,0,none⟩ 1 1 [.int F 2] rfl rfl ?c1 ?c2 (by unfold maxLen;decide) (by decide) (by simp;omega) ?_)
    case c1=>
     have h:=aN.new (w5.alloc (aH #[.int aF 1,.int I 0,.int F k3,.int I k4,.int I k5,.int I k6,.int I k7,.int I k8] 114)) 42 #[.int F 2];rw[aC]at h;exact World.news_of_block h
    case c2=>
     intro u hu;simp only[List.mem_cons,List.not_mem_nil,or_false]at hu;subst hu
     rfl
    intro v' w' hown hgrow _;have HN:=U hown;have HB2:=U ((B5.o.alloc B5.o.size _).grown hgrow (by simp;omega) (λr e=>(OO5.o.lt r e).1));clear hown hgrow hrow;go_wp2_with fail;go_roundw
    case rel=>exact⟨3,by omega,rfl,rfl,HN.o,HB2.o⟩
    case measure=>simp[intOf]
   ·have hk1:k=0\/(((ino n).kind:Int)==1)=false\/(((ino n).kind:Int)==1)=true/\(((ino n).links:Int)==0)=false:=by
     rcases(by omega:k=0\/n=1/\k≠0\/n=2\/3<=n)with q|⟨q,_⟩|q|q
     ·exact .inl q
     ·rw[q,HF.o.2.1.root.kind];exact .inr (.inl rfl)
     ·rw[q,HF.o.2.2.1.1,HF.o.2.2.1.2];exact .inr (.inr ⟨rfl,by simp;omega⟩)
     ·rw[HF.o.2.2.2.1 n q (by omega)];exact .inr (.inl rfl)
    have ho:orp l2 (k+1)=orp l2 k:=by unfold orp;congr 1;simp only[eq_iff_iff];omega
    have HO:=U ho;clear hn ho
    generalize (ino n).kind=k1 at*
    generalize (ino n).links=k2 at*
    generalize (ino n).size=k3 at*
    generalize (ino n).d0=k4 at*
    generalize (ino n).d1=k5 at*
    generalize (ino n).d2=k6 at*
    generalize (ino n).d3=k7 at*
    generalize (ino n).ind=k8 at*
    go_wp2_with fail;refine ak IN.o ?_;rintro e w5 ⟨rfl,b5⟩;have B5:=U (BB.o.trans (b5.mono BB.o.size));have OO5:=U (OO.o.kept (row:=none) ⟨b5.os,b5.tape,b5.output,b5.size,λi hi _=>b5.block i hi⟩ (Classical.em _));clear b5 X Xl Y Yl Z Zl;have NW:=U (And.intro (Gb OO5.o (aH #[.int aF k1,.int I k2,.int F k3,.int I k4,.int I k5,.int I k6,.int I k7,.int I k8] 114)) (B5.o.alloc B5.o.size (aH #[.int aF k1,.int I k2,.int F k3,.int I k4,.int I k5,.int I k6,.int I k7,.int I k8] 114)))
    rcases hk1 with rfl|hk1|⟨hk1,hk2⟩
    ·go_wp2_with fail
     go_roundw
     case rel=>exact⟨1,by omega,rfl,rfl,by rw[HO.o];exact NW.o.1,NW.o.2⟩
     case measure=>simp[intOf]
    iterate 2
        ·rcases Nat.eq_zero_or_pos k with rfl|hk0
         ·go_wp2_with fail
          go_roundw
          case rel=>exact⟨1,by omega,rfl,rfl,by rw[HO.o];exact NW.o.1,NW.o.2⟩
          case measure=>simp[intOf]
         ·have tp:(0:Int)<k:=by omega
          go_wp2_with fail;go_roundw
          case rel=>exact⟨k+1,by omega,by go_num,rfl,by rw[HO.o];exact NW.o.1,NW.o.2⟩
          case measure=>simp[intOf];omega
  ·obtain rfl:k=9:=by omega
   have HT:=U (HTQ.o _ _ _ _ L4.o.tree BB.o);have BZ:=U (L4.o.lS.trans (BB.o.mono L4.o.lS.size));have hO:=OO.o
   by_cases h0:l2=0
   ·subst h0
    rw[Hm (by omega)]at hO;have OO9:=U hO
    rcases hO.2 with⟨rfl,e⟩|⟨g,cap,cur,rfl,_,h2,h3,_⟩
    ·cases e
    ·have CL:=U (λW=>Sr g 1 cap h3 W)
     have C0:=U (And.intro (World.ownsRow.cellAt OO9.o 0 (by decide)) (Array.getElem?_eq_some_iff.1 h2).1);have C1:=U (aD L4.o.lS.size (OO9.o.lt g rfl).1);clear hO OO9 X Xl Y Yl Z Zl h2;go_wp2_with fail;refine ak (CL.o _) ?_;rintro e w9 ⟨rfl,b9⟩;have B9:=U b9;clear b9;go_wp2_with fail
     go_ret3
     exact⟨t,O4,_,rfl,HTQ.o _ _ _ _ HT.o B9.o,BZ.o.trans (B9.o.mono BZ.o.size),L4.o.own,⟨g,rfl,(B9.o.cell (p:=⟨g,0,none⟩) C0.o.2).trans C0.o.1,aA C0.o.2 B9.o.size,C1.o⟩⟩
   ·have H0:=U h0
    rcases hO.2 with⟨rfl,e⟩|⟨g,cap,cur,rfl,_,h2,h3,_⟩
    ·clear hO X Xl Y Yl Z Zl
     go_wp2_with fail;refine ak (Hn _) ?_;rintro e w9 ⟨rfl,b9⟩;have B9:=U b9;clear b9;go_wp2_with fail
     go_ret3
     exact⟨t,O4,_,rfl,HTQ.o _ _ _ _ HT.o B9.o,BZ.o.trans (B9.o.mono BZ.o.size),L4.o.own,λq=>absurd q H0.o⟩
    ·have CL:=U (λW=>Sr g _ cap h3 W)
     clear hO X Xl Y Yl Z Zl h2 h3;go_wp2_with fail;refine ak (CL.o _) ?_;rintro e w9 ⟨rfl,b9⟩;have B9:=U b9;clear b9;go_wp2_with fail
     go_ret3
     exact⟨t,O4,_,rfl,HTQ.o _ _ _ _ HT.o B9.o,BZ.o.trans (B9.o.mono BZ.o.size),L4.o.own,λq=>absurd q H0.o⟩
end
open Re (Rw dX qW)
section
variable {E:Im} {D:aZ} {ino:Nat->aP} {vs:Nat->List Nat} {S:Tr.T}
theorem Hp (hs:Small E):Tie E (kl Tr.eX) (fmtS E.i E.bl E.j) wR:=by
 obtain⟨f2,_,_⟩:=PE E E.i E.bl E.j hs rfl rfl rfl;refine⟨by rw[f2,IJ];rfl,λn h1 hn=>?_⟩;rw[f2,IJ]
 by_cases q:n=1
 ·subst q;exact⟨rfl,rfl⟩
 ·have e1:kl Tr.eX n=(0,0):=by
   show((Tr.aS _ 1 _ n).kind,(Tr.aS _ 1 _ n).links)=_;unfold Tr.aS;rw[if_neg q];rfl
  have e2:wR n=dY:=dD _ _ q;rw[e1,e2];exact⟨by simp;omega,rfl⟩
theorem cX {P:aZ->Prop} {w w':World} {i bl j:Nat} (h:Px w E i bl j w') (hP:Ins E P) (h0:P (fmtS E.i E.bl E.j)):zq E P E.k w':=by
 obtain⟨f,nn,h1,_⟩:=h.is;obtain⟨g,hg,hj⟩:=h1.tj.MZ;have hl:=h1.len;have he:E.hard=qV E.i E.bl E.j:=by rw[h.hard,h.ei,h.eb,h.ej]
 have hat:∀q,q<(mI E.i E.bl E.j).sum->E.hard[q]? =some (fmtS E.i E.bl E.j q):=λq hq=>by
  rw[he];unfold qV;rw[List.getElem?_map,List.getElem?_range hq]
  rfl
 refine⟨E.hard,E.k,g,hj,hg,h.dev,ah _,hl,λq s hq=>?_,hP (fmtS E.i E.bl E.j) _ h0 λq _ hq=>?_⟩
 ·have hlt:=(List.getElem?_eq_some_iff.1 hq).1
  rw[hat q (by omega)]at hq;rw[<-Option.some.inj hq];exact yg _ _ _ _
 ·rw[List.getD_eq_getElem?_getD,hat q hq]
  rfl
theorem cY {w w':World} {i bl j:Nat} (h:Px w E i bl j w'):zq E (PD E (kl Tr.eX)) E.k w':=cX h (cG h.small) ⟨wR,λ_=>Ma,Md E h.small,Hp h.small⟩
theorem Hs (hs:Small E) (h2:(D (fr E 2)).size=64) (t:Tie E (kl S) D ino):((E.i:Int)+1-(countB (D (fr E 2)) ((E.i:Int)+1):Nat))=(E.i:Int)-(qW S E.i).length:=by
 have hi:=hs.hi;have e:=Co (D (fr E 2)) (E.i+1) (by omega)
 have e2:Pw (D (fr E 2)) (E.i+1)=(qW S E.i).length+1:=by
  unfold Pw qW;rw[List.range_succ_eq_map,List.filter_cons_of_pos (by exact t.1),List.length_cons,List.filter_map,List.length_map]
  congr 2
  refine List.filter_congr λk hk=>?_;have:=(t.2 (k+1) (by omega) (by have:=List.mem_range.1 hk;omega)).1;exact this
 rw[e2]at e;rw[show((E.i:Int)+1)=((E.i+1:Nat):Int)by omega,e];omega
end
