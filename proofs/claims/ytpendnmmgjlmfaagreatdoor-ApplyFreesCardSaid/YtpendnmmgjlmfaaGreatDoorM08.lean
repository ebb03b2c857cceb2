/- Lemmas. -/
import Derived.Test.YtpendnmmgjlmfaaGreatDoorM07
set_option linter.unusedVariables false
set_option linter.unusedSimpArgs false
namespace Go.Proofs.YtpendnmmgjlmfaaGreatDoor
open Go.RowKit Go.Shelf Go.Maps
open Go.Proofs.Tryz
open IntKind renaming i64→J,u32→F,u8→aF
open Value renaming pointer→G
open Ending renaming returned→aG
set_option maxRecDepth 100000
set_option maxHeartbeats 4000000
namespace Tr
open Oct Path
section
variable {E:TL} {room q:Nat} {S:T}
theorem nU {b:Bool} {e:Nat} (h:dU b e=0) (he:e≠0):b=false:=by
 cases b with
 |false=>rfl
 |true=>exact absurd h he
theorem iW {e:Nat} {l:List Nat} (h:iV (e::l)=0):e=0/\iV l=0:=by
 unfold iV at h
 by_cases h0:e=0
 ·rw[if_pos h0]at h;exact⟨h0,h⟩
 ·rw[if_neg h0]at h;exact absurd h h0
theorem aU.boxed {W W':World} (h:aU W E room q S) (hm:W.mapTurned W' E.m) {b:Nat} {t:TypeId} {cs:Array Value} (hb:aN W b t cs):aN W' b t cs:=by
 obtain⟨es,clk,hmap⟩:=h.map.isMap;refine(bL hm λe=>?_).trans hb;unfold aN at hb;rw[e,hmap]at hb;cases hb
structure Ext (E E':TL) (n:Nat):Prop where
 t:E'.t=E.t
 old:∀c,E.O c->E'.O c
 new:∀c,E'.O c->E.O c\/n<=c
theorem Ext.refl (E:TL) (n:Nat):Ext E E n:=⟨rfl,λ_ h=>h,λ_ h=>.inl h⟩
theorem aR.ext {O O':Nat->Prop} {wz w w':World} (h1:aR O wz w) (h2:aR O' w w') (he:∀c,O' c->O c\/wz.heap.size<=c):aR O wz w':=
 ⟨h2.os.trans h1.os,h2.tape.trans h1.tape,h2.output.trans h1.output,aD h1.size h2.size,λi hi hn=>(h2.block i (aA hi h1.size) (λq=>(he i q).elim hn (by omega))).trans (h1.block i hi hn)⟩
def Did (wz w':World) (E:TL) (room q:Nat) (S':T):Prop:=∃E',Ext E E' wz.heap.size/\aU w' E' room q S'/\aR E.O wz w'
theorem Did.of {wz w':World} {S':T} (h:aU w' E room q S') (ht:aR E.O wz w'):Did wz w' E room q S':=⟨E,Ext.refl _ _,h,ht⟩
structure uL (w w':World) (k p a b:Nat):Prop where
 nd:aN w' p 136 #[.int aF k,.int J (k/2:Nat),.int F 0,.map (some a),.map (some b),.int J 0,.int F 0]
 ent:cZ w' 9 a 0 (λ_=>none)
 pg:cZ w' 3 b 0 (λ_=>none)
 lo:w.heap.size<=p/\w.heap.size<=a/\w.heap.size<=b
 ne:a≠b
theorem uL.stay {w w1 w2:World} {k p a b:Nat} (h:uL w w1 k p a b) (hs:iU w.heap.size w1 w2):uL w w2 k p a b:=
 ⟨mP h.nd h.lo.1 hs,h.ent.block (hs.2 a h.lo.2.1 h.ent.lt),h.pg.block (hs.2 b h.lo.2.2 h.pg.lt),h.lo,h.ne⟩
theorem uL.at_ {w w1:World} {k p a b:Nat} (h:uL w w1 k p a b) (hb:Below w.heap.size w w1):tN w w1 k p a b:=⟨h.nd,h.ent,h.pg,h.lo,h.ne,hb⟩
theorem tN.n {w0 w w1:World} {k p a b:Nat} (h:tN w w1 k p a b) (hs:w0.heap.size<=w.heap.size):uL w0 w1 k p a b:=⟨h.nd,h.ent,h.pg,⟨aD hs h.lo.1,aD hs h.lo.2.1,aD hs h.lo.2.2⟩,h.ne⟩
theorem JY {n:Nat} {w w':World} {b:Nat} (h:w.mapTurned w' b) (hb:b<n):iU n w w':=⟨by rw[yP h];exact ah _,λc hc _=>bL h (by omega)⟩
def vP (S:T) (room dir:Nat) (s:ByteArray) (kind ino:Nat):Nat:=iV [dU ([s].any λs=>!isName (L s)) 2,dU (kind !=1&&kind !=2) 2,dU (decide (ino<1)||decide (room<ino)) 2,dU ([dir].any λx=>(S.n x).kind==0) 3,dU ([dir].any λx=>!((S.n x).kind==2)) 180,dU (S.l dir (L s)!=0) 9,dU ((S.n ino).kind !=0) 9]
def JZ (S:T) (room dir:Nat) (s:ByteArray) (kind ino:Nat):T:=if vP S room dir s kind ino=0 then⟨aS S.n ino (gain ⟨kind,kind/2,0,0,[]⟩ dir),aY S.l dir (L s) ino⟩else S
theorem Xg {room dir:Nat} {s:ByteArray} {kind ino:Nat} (h:vP S room dir s kind ino=0):isName (L s)=true/\(kind=1\/kind=2)/\1<=ino/\ino<=room/\(S.n dir).kind=2/\S.l dir (L s)=0/\(S.n ino).kind=0:=by
 unfold vP at h;obtain⟨h1,h⟩:=iW h;obtain⟨h2,h⟩:=iW h;obtain⟨h3,h⟩:=iW h;obtain⟨h4,h⟩:=iW h;obtain⟨h5,h⟩:=iW h;obtain⟨h6,h⟩:=iW h;obtain⟨h7,h⟩:=iW h;have h1:=nU h1 (by decide);have h2:=nU h2 (by decide);have h3:=nU h3 (by decide);have h5:=nU h5 (by decide);have h6:=nU h6 (by decide);have h7:=nU h7 (by decide)
 simp at h1 h2 h3 h5 h6 h7
 exact⟨h1,by omega,by omega,by omega,h5,h6,h7⟩
theorem NT (wz:World) (hT:aU wz E room q S) (hI:Inv room S) (hq:q<100000) (dir:Nat) (s:ByteArray) (kind ino:Nat) (hs:s.size<=maxLen) (hd:dir<4294967296) (hino:ino<4294967296):
 Calls prog 161 #[E.t,.int F dir,.string s,.int aF kind,.int F ino] wz λe w'=>e=aG (.int J (vP S room dir s kind ino:Nat))/\Did wz w' E room (q+1) (JZ S room dir s kind ino):=by
 have HI:=U hI;have HQ:=U hq;clear hI hq
 go_enter func161,ntmps161
 go_wp2_with fail;refine Da (by kernel_rfl) (λ|0=>some 12|1=>some 13|2=>some 14|3=>some 15|4=>some 16|5=>some 17|6=>some 18|7=>some 19|8=>some 20|9=>some 21|10=>some 22|11=>some 23|12=>some 24|13=>some 25|14=>some 26|15=>some 27|16=>some 28|17=>some 29|18=>some 30|19=>some 31|20=>some 32|21=>some 33|22=>some 11|_=>none) (λa=>∃QE Ep Er Es NV NY NZ x18 Oa x20 x21 Ob x23 x24 x25 MW x27 x28 x29 x30 x31 x32 x33:Value,a=⟨#[G (some ⟨E.t,0,none⟩),.int F dir,.string s,.int aF kind,.int F ino,G (some ⟨wz.heap.size,0,none⟩),undef,undef,undef,G (some ⟨wz.heap.size+1,0,none⟩),.int J 0,QE,Ep,Er,Es,NV,NY,NZ,x18,Oa,x20,x21,Ob,x23,x24,x25,MW,x27,x28,x29,x30,x31,x32,x33,undef,undef,undef,undef,undef,undef,undef,undef,undef,undef,undef,undef,undef,undef,undef],[]⟩) (λbg W=>Below wz.heap.size wz W/\wz.heap.size+2<=W.heap.size/\aN W (wz.heap.size) 64 #[G (some ⟨E.t,0,none⟩)]/\aN W (wz.heap.size+1) 42 #[.int F ino]) (λi w1 w2=>Below w1.heap.size w1 w2) (λ|0=>(λv w=>v=Value.pointer (some ⟨E.t,0,none⟩))|1=>(λv w=>v=Value.string s)|2=>(λv w=>uo 0 9 ([s].map Value.string).toArray v w)|3=>(λv w=>dL (True) (dU ([s].any λs=>!isName (L s)) 2) v w)|4=>(λv w=>v=Value.int aF kind)|5=>(λv w=>dL (True) (dU (kind !=1&&kind !=2) 2) v w)|6=>(λv w=>dL (True) (dU (decide (ino<1)||decide (room<ino)) 2) v w)|7=>(λv w=>v=Value.pointer (some ⟨E.t,0,none⟩))|8=>(λv w=>v=Value.int F dir)|9=>(λv w=>uo 0 42 ([dir].map λx=>Value.int F (x:Nat)).toArray v w)|10=>(λv w=>dL (True) (dU ([dir].any λx=>(S.n x).kind==0) 3) v w)|11=>(λv w=>v=Value.pointer (some ⟨E.t,0,none⟩))|12=>(λv w=>v=Value.int F dir)|13=>(λv w=>uo 0 42 ([dir].map λx=>Value.int F (x:Nat)).toArray v w)|14=>(λv w=>dL (([dir].any λx=>(S.n x).kind==0)=false) (dU ([dir].any λx=>!((S.n x).kind==2)) 180) v w)|15=>(λv w=>v=Value.pointer (some ⟨E.t,0,none⟩))|16=>(λv w=>v=Value.int F dir)|17=>(λv w=>v=Value.string s)|18=>(λv w=>dL ((S.n dir).kind≠0) (dU (S.l dir (L s)!=0) 9) v w)|19=>(λv w=>dL (True) (dU ((S.n ino).kind !=0) 9) v w)|20=>(λv w=>∃v15 v17 v18 v22 v26 v30 v31:Value,uo 0 82 #[v15,v17,v18,v22,v26,v30,v31] v w/\dL (True) (dU ([s].any λs=>!isName (L s)) 2) v15 w/\dL (True) (dU (kind !=1&&kind !=2) 2) v17 w/\dL (True) (dU (decide (ino<1)||decide (room<ino)) 2) v18 w/\dL (True) (dU ([dir].any λx=>(S.n x).kind==0) 3) v22 w/\dL (([dir].any λx=>(S.n x).kind==0)=false) (dU ([dir].any λx=>!((S.n x).kind==2)) 180) v26 w/\dL ((S.n dir).kind≠0) (dU (S.l dir (L s)!=0) 9) v30 w/\dL (True) (dU ((S.n ino).kind !=0) 9) v31 w)|21=>(λv w=>v=Value.int J (vP S room dir s kind ino:Nat))|22=>(λv w=>v=Value.int J (vP S room dir s kind ino:Nat))|_=>(λ_ _=>True)) (by kernel_rfl) ?st (by kernel_rfl) ?AA ⟨_,_,_,_,_,_,_,_,_,_,_,_,_,_,_,_,_,_,_,_,_,_,_,rfl⟩ ?G0 ?step ?done
 case st=>
  intro i j v w1 w2 hi hj hij hw hp hs;have hi:i<23:=hi
  match j,hp with
  |0,hp|1,hp|4,hp|7,hp|8,hp|11,hp|12,hp|15,hp|16,hp|17,hp|21,hp|22,hp=>exact hp
  |2,hp|9,hp|13,hp=>
   exact hp.stay (iU.of hs)
  |3,hp|5,hp|6,hp|10,hp|14,hp|18,hp|19,hp=>
   exact hp.later hs
  |20,hp=>
   obtain⟨v15,v17,v18,v22,v26,v30,v31,a,b15,b17,b18,b22,b26,b30,b31⟩:=hp;exact⟨v15,v17,v18,v22,v26,v30,v31,a.stay (iU.of hs),b15.later hs,b17.later hs,b18.later hs,b22.later hs,b26.later hs,b30.later hs,b31.later hs⟩
  |j+23,_=>exact trivial
 case AA=>
  rintro i a v hi ⟨_,_,_,_,_,_,_,_,_,_,_,_,_,_,_,_,_,_,_,_,_,_,_,rfl⟩
  match i,hi with
  |0,_|1,_|2,_|3,_|4,_|5,_|6,_|7,_|8,_|9,_|10,_|11,_|12,_|13,_|14,_|15,_|16,_|17,_|18,_|19,_|20,_|21,_|22,_=>exact⟨⟨_,_,_,_,_,_,_,_,_,_,_,_,_,_,_,_,_,_,_,_,_,_,_,rfl⟩,λt h=>by cases h<;>exact of_decide_eq_true rfl⟩
  |i+23,hi=>exact absurd hi (by simp)
 case G0=>exact⟨(((aj _ _).alloc (ah _) _).alloc (by simp) _).drew,by simp,((aN.new wz _ _).alloc _).drew,by simpa using(aN.new (wz.alloc _) _ _).drew⟩
 case step=>
  rintro i a w1 bg hi ⟨QE,Ep,Er,Es,NV,NY,NZ,x18,Oa,x20,x21,Ob,x23,x24,x25,MW,x27,x28,x29,x30,x31,x32,x33,rfl⟩ hl hG hp;refine gu (λK hK=>?_)
  match i,hi with
  |0,_|7,_|11,_|15,_=>
   obtain⟨hb,hsz,h5,h9⟩:=hG;have c0:=h5.cell 0;simp only[au,av]at c0;have hl0:=h5.lt;refine aO (by rfl) rfl ?_;go_simp;exact hK _ _ ⟨_,rfl,⟨hb,hsz,h5,h9⟩,aj _ _,rfl⟩
  |1,_|4,_|8,_|12,_|16,_|17,_=>
   obtain⟨hb,hsz,h5,h9⟩:=hG;refine aO (by rfl) rfl ?_;go_simp;exact hK _ _ ⟨_,rfl,⟨hb,hsz,h5,h9⟩,aj _ _,rfl⟩
  |2,_=>
   obtain⟨hb,hsz,h5,h9⟩:=hG;obtain rfl:Er=_:=hp 1 (by kernel_rfl);refine aO (by rfl) rfl ?_;go_simp;exact hK _ _ ⟨_,rfl,⟨hb.alloc (by omega) _,by simp;omega,h5.alloc _,h9.alloc _⟩,(aj _ _).alloc (ah _) _,_,rfl,aB _,aN.new _ _ _⟩
  |3,_=>
   obtain⟨hb,hsz,h5,h9⟩:=hG;have e14:=hp 2 (by kernel_rfl);change uo _ _ _ Es _ at e14;refine aO (by rfl) rfl ?_;go_simp;have Dc:=hT.later hb;refine ak (TU (n:=0) e14 (aB _) (by simpa using hs) (by simp)) ?_;rintro e w2 ⟨u,rfl,hu,hbw⟩;exact hK _ _ ⟨_,rfl,⟨hb.trans (hbw.mono hb.size),by have:=hbw.size;omega,h5.later hbw,h9.later hbw⟩,hbw,hu⟩
  |5,_=>
   obtain⟨hb,hsz,h5,h9⟩:=hG;obtain rfl:NY=_:=hp 4 (by kernel_rfl);refine aO (by rfl) rfl ?_;go_simp;have Dc:=hT.later hb;refine ak (TV kind) ?_;rintro e w2 ⟨u,rfl,hu,hbw⟩;exact hK _ _ ⟨_,rfl,⟨hb.trans (hbw.mono hb.size),by have:=hbw.size;omega,h5.later hbw,h9.later hbw⟩,hbw,hu⟩
  |6,_=>
   obtain⟨hb,hsz,h5,h9⟩:=hG;refine aO (by rfl) rfl ?_;go_simp;exact hK _ _ ⟨_,rfl,⟨hb,hsz,h5,h9⟩,aj _ _,_,_,rfl,(λW=>enters_of func245 (by kernel_rfl) rfl _ W),λW hW hpre=>TR _ _ ino W ((hT.later hb).later hW) (h9.later hW) (h5.later hW)⟩
  |9,_=>
   obtain⟨hb,hsz,h5,h9⟩:=hG;obtain rfl:x20=_:=hp 8 (by kernel_rfl);refine aO (by rfl) rfl ?_;go_simp;exact hK _ _ ⟨_,rfl,⟨hb.alloc (by omega) _,by simp;omega,h5.alloc _,h9.alloc _⟩,(aj _ _).alloc (ah _) _,_,rfl,aB _,aN.new _ _ _⟩
  |10,_=>
   obtain⟨hb,hsz,h5,h9⟩:=hG;obtain rfl:Oa=_:=hp 7 (by kernel_rfl);have e21:=hp 9 (by kernel_rfl);change uo _ _ _ x21 _ at e21;refine aO (by rfl) rfl ?_;go_simp;have Dc:=hT.later hb;refine ak (pz (n:=0) e21 (aB _) Dc (by simpa using hd) (by simp)) ?_;rintro e w2 ⟨u,rfl,hu,hbw⟩;exact hK _ _ ⟨_,rfl,⟨hb.trans (hbw.mono hb.size),by have:=hbw.size;omega,h5.later hbw,h9.later hbw⟩,hbw,hu⟩
  |13,_=>
   obtain⟨hb,hsz,h5,h9⟩:=hG;obtain rfl:x24=_:=hp 12 (by kernel_rfl);refine aO (by rfl) rfl ?_;go_simp;exact hK _ _ ⟨_,rfl,⟨hb.alloc (by omega) _,by simp;omega,h5.alloc _,h9.alloc _⟩,(aj _ _).alloc (ah _) _,_,rfl,aB _,aN.new _ _ _⟩
  |14,_=>
   obtain⟨hb,hsz,h5,h9⟩:=hG;obtain rfl:x23=_:=hp 11 (by kernel_rfl);have e25:=hp 13 (by kernel_rfl);change uo _ _ _ x25 _ at e25;refine aO (by rfl) rfl ?_;go_simp;have Dc:=hT.later hb;refine ak (Xe (n:=0) e25 (aB _) Dc (by simpa using hd) (by simp)) ?_;rintro e w2 ⟨u,rfl,hu,hbw⟩;exact hK _ _ ⟨_,rfl,⟨hb.trans (hbw.mono hb.size),by have:=hbw.size;omega,h5.later hbw,h9.later hbw⟩,hbw,hu⟩
  |18,_=>
   obtain⟨hb,hsz,h5,h9⟩:=hG;obtain rfl:x27=_:=hp 15 (by kernel_rfl);obtain rfl:x28=_:=hp 16 (by kernel_rfl);obtain rfl:x29=_:=hp 17 (by kernel_rfl);refine aO (by rfl) rfl ?_;go_simp;have Dc:=hT.later hb;refine ak (TY Dc hd hs) ?_;rintro e w2 ⟨u,rfl,hu,hbw⟩;exact hK _ _ ⟨_,rfl,⟨hb.trans (hbw.mono hb.size),by have:=hbw.size;omega,h5.later hbw,h9.later hbw⟩,hbw,hu⟩
  |19,_=>
   obtain⟨hb,hsz,h5,h9⟩:=hG;refine aO (by rfl) rfl ?_;go_simp;exact hK _ _ ⟨_,rfl,⟨hb,hsz,h5,h9⟩,aj _ _,_,_,rfl,(λW=>enters_of func246 (by kernel_rfl) rfl _ W),λW hW hpre=>TG _ _ ino hino W ((hT.later hb).later hW) (h5.later hW) (h9.later hW)⟩
  |20,_=>
   obtain⟨hb,hsz,h5,h9⟩:=hG;have e15:=hp 3 (by kernel_rfl);change dL _ _ NV _ at e15;have e17:=hp 5 (by kernel_rfl);change dL _ _ NZ _ at e17;have e18:=hp 6 (by kernel_rfl);change dL _ _ x18 _ at e18;have e22:=hp 10 (by kernel_rfl);change dL _ _ Ob _ at e22;have e26:=hp 14 (by kernel_rfl);change dL _ _ MW _ at e26;have e30:=hp 18 (by kernel_rfl);change dL _ _ x30 _ at e30;have e31:=hp 19 (by kernel_rfl);change dL _ _ x31 _ at e31;obtain⟨f15,l15,rfl,r15⟩:=e15;obtain⟨f17,l17,rfl,r17⟩:=e17;obtain⟨f18,l18,rfl,r18⟩:=e18;obtain⟨f22,l22,rfl,r22⟩:=e22;obtain⟨f26,l26,rfl,r26⟩:=e26;obtain⟨f30,l30,rfl,r30⟩:=e30;obtain⟨f31,l31,rfl,r31⟩:=e31;refine aO (by rfl) rfl ?_;go_simp;exact hK _ _ ⟨_,rfl,⟨hb.alloc (by omega) _,by simp;omega,h5.alloc _,h9.alloc _⟩,(aj _ _).alloc (ah _) _,_,_,_,_,_,_,_,⟨_,rfl,aB _,aN.new _ _ _⟩,dL.later ⟨f15,l15,rfl,r15⟩ ((aj _ _).alloc (ah _) _),dL.later ⟨f17,l17,rfl,r17⟩ ((aj _ _).alloc (ah _) _),dL.later ⟨f18,l18,rfl,r18⟩ ((aj _ _).alloc (ah _) _),dL.later ⟨f22,l22,rfl,r22⟩ ((aj _ _).alloc (ah _) _),dL.later ⟨f26,l26,rfl,r26⟩ ((aj _ _).alloc (ah _) _),dL.later ⟨f30,l30,rfl,r30⟩ ((aj _ _).alloc (ah _) _),dL.later ⟨f31,l31,rfl,r31⟩ ((aj _ _).alloc (ah _) _)⟩
  |21,_=>
   obtain⟨hb,hsz,h5,h9⟩:=hG;obtain rfl:Ep=_:=hp 0 (by kernel_rfl);obtain⟨v15,v17,v18,v22,v26,v30,v31,⟨b9,he9,_,kT⟩,q15,q17,q18,q22,q26,q30,q31⟩:=hp 20 (by kernel_rfl);change x32=_ at he9;subst he9;refine aO (by rfl) rfl ?_;go_simp;refine ak (xG E.t b9 [v15,v17,v18,v22,v26,v30,v31] [dU ([s].any λs=>!isName (L s)) 2,dU (kind !=1&&kind !=2) 2,dU (decide (ino<1)||decide (room<ino)) 2,dU ([dir].any λx=>(S.n x).kind==0) 3,dU ([dir].any λx=>!((S.n x).kind==2)) 180,dU (S.l dir (L s)!=0) 9,dU ((S.n ino).kind !=0) 9] w1 (by simp) (by simp) kT ?cl) ?_
   case cl=>
     intro i hi
     match i,hi with
     |0,_=>exact q15.weak (λhz=>trivial)
     |1,_=>exact q17.weak (λhz=>trivial)
     |2,_=>exact q18.weak (λhz=>trivial)
     |3,_=>exact q22.weak (λhz=>trivial)
     |4,_=>exact q26.weak (λhz=>nU (hz 3 (by omega)) (by decide))
     |5,_=>exact q30.weak (λhz=>(by have h:=nU (hz 3 (by omega)) (by decide);simpa using h))
     |6,_=>exact q31.weak (λhz=>trivial)
     |i+7,hi=>exact absurd hi (by simp)
   rintro e w2 ⟨rfl,hbw⟩;exact hK _ _ ⟨_,rfl,⟨hb.trans (hbw.mono hb.size),by have:=hbw.size;omega,h5.later hbw,h9.later hbw⟩,hbw,rfl⟩
  |22,_=>
   obtain⟨hb,hsz,h5,h9⟩:=hG;obtain rfl:x33=_:=hp 21 (by kernel_rfl);refine aO (by rfl) rfl ?_;go_simp;exact hK _ _ ⟨_,rfl,⟨hb,hsz,h5,h9⟩,aj _ _,rfl⟩
  |i+23,hi=>exact absurd hi (by simp)
 case done=>
  rintro a w2 bg hl ⟨QE,Ep,Er,Es,NV,NY,NZ,x18,Oa,x20,x21,Ob,x23,x24,x25,MW,x27,x28,x29,x30,x31,x32,x33,rfl⟩ ⟨hb,hsz,h5,h9⟩ hp;obtain rfl:QE=_:=hp 22 (by simp);have HB:=U hb;have HT:=U (hT.later hb);have SZ:=U hsz;clear hp hb hsz hl hT
  by_cases h0:vP S room dir s kind ino=0
  ·have H0:=U h0
   have HK:=U (Xg h0);rw[h0];clear h0;go_wp2_with fail;refine gq (by kernel_rfl) (λ|0=>some 37|1=>some 38|2=>some 39|3=>some 40|4=>some 41|5=>some 42|6=>some 43|7=>none|_=>none) (λa=>∃x37 x38 x39 x40 x41 x42 x43:Value,a=⟨#[G (some ⟨E.t,0,none⟩),.int F dir,.string s,.int aF kind,.int F ino,G (some ⟨wz.heap.size,0,none⟩),undef,undef,undef,G (some ⟨wz.heap.size+1,0,none⟩),.int J 0,.int J 0,Ep,Er,Es,NV,NY,NZ,x18,Oa,x20,x21,Ob,x23,x24,x25,MW,x27,x28,x29,x30,x31,x32,x33,(.int J 0),(.bool false),undef,x37,x38,x39,x40,x41,x42,x43,undef,undef,undef,undef,undef],[]⟩) (λbg W=>(bg 7=false->Below w2.heap.size w2 W)/\(bg 7=true->∃p a b,aU W (E.add ino p a b) room q ⟨aS S.n ino ⟨kind,kind/2,0,0,[]⟩,S.l⟩/\aR E.O w2 W/\w2.heap.size<=p/\w2.heap.size<=a/\w2.heap.size<=b)/\aN W (wz.heap.size) 64 #[G (some ⟨E.t,0,none⟩)]/\aN W (wz.heap.size+1) 42 #[.int F ino]) (λi w1 w3=>iU w2.heap.size w1 w3) (λ|0=>(λv w=>v=Value.pointer (some ⟨E.t,0,none⟩))|1=>(λv w=>v=Value.pointer (some ⟨E.t,0,none⟩))|2=>(λv w=>v=Value.pointer (some ⟨E.t,1,none⟩))|3=>(λv w=>v=Value.map (some E.m))|4=>(λv w=>v=Value.int F ino)|5=>(λv w=>v=Value.int aF kind)|6=>(λv w=>∃p a b,v=Value.pointer (some ⟨p,0,none⟩)/\uL w2 w kind p a b)|7=>(λv w=>True)|_=>(λ_ _=>True)) (by kernel_rfl) ?st (by kernel_rfl) ?AA ⟨_,_,_,_,_,_,_,rfl⟩ ?G0 ?step ?done
   case st=>
    intro i j v w1 w2 hi hj hij hw hp hs;have hi:i<8:=hi
    match j,hp with
    |0,hp|1,hp|2,hp|3,hp|4,hp|5,hp=>exact hp
    |6,hp=>
     obtain⟨p,a,b,h1,h2⟩:=hp;exact⟨p,a,b,h1,h2.stay hs⟩
    |7,hp=>
     exact trivial
    |j+8,_=>exact trivial
   case AA=>
    rintro i a v hi ⟨_,_,_,_,_,_,_,rfl⟩
    match i,hi with
    |0,_|1,_|2,_|3,_|4,_|5,_|6,_|7,_=>exact⟨⟨_,_,_,_,_,_,_,rfl⟩,λt h=>by cases h<;>exact of_decide_eq_true rfl⟩
    |i+8,hi=>exact absurd hi (by simp)
   case G0=>exact⟨λ_=>(aj _ _).drew,λh=>(by cases h),h5.drew,h9.drew⟩
   case step=>
    rintro i a w1 bg hi ⟨x37,x38,x39,x40,x41,x42,x43,rfl⟩ hl hcl hG hp;refine gu (λK hK=>?_)
    match i,hi with
    |0,_=>
     obtain⟨hA,hC,h5,h9⟩:=hG
     have h7:bg 7=false:=by
          cases h7:bg 7 with
          |false=>rfl
          |true=>exact absurd (hcl 7 0 (by show(7:Nat)<8;decide) h7 (by kernel_rfl)) (by rw[hl];decide)
     have hb:=hA h7;have Dc:=HT.o.later hb;have c0:=h5.cell 0;simp only[au,av]at c0;have hl0:=h5.lt;refine aO (by rfl) rfl ?_;go_simp;exact hK _ _ ⟨_,rfl,⟨λh=>hb,λh=>absurd h (by show¬(if 7=0 then true else bg 7)=true;rw[if_neg (by decide),h7];decide),h5,h9⟩,iU.refl _ _,rfl⟩
    |1,_=>
     obtain⟨hA,hC,h5,h9⟩:=hG
     have h7:bg 7=false:=by
          cases h7:bg 7 with
          |false=>rfl
          |true=>exact absurd (hcl 7 1 (by show(7:Nat)<8;decide) h7 (by kernel_rfl)) (by rw[hl];decide)
     have hb:=hA h7;have Dc:=HT.o.later hb;obtain rfl:x37=_:=hp 0 (by kernel_rfl);have hY:=Dc.top;have c0:=hY.cell 0;have c1:=hY.cell 1;simp only[au,av,ay]at c0 c1;have hl0:=hY.lt;refine aO (by rfl) rfl ?_;go_simp;exact hK _ _ ⟨_,rfl,⟨λh=>hb,λh=>absurd h (by show¬(if 7=1 then true else bg 7)=true;rw[if_neg (by decide),h7];decide),h5,h9⟩,iU.refl _ _,rfl⟩
    |2,_=>
     obtain⟨hA,hC,h5,h9⟩:=hG
     have h7:bg 7=false:=by
          cases h7:bg 7 with
          |false=>rfl
          |true=>exact absurd (hcl 7 2 (by show(7:Nat)<8;decide) h7 (by kernel_rfl)) (by rw[hl];decide)
     have hb:=hA h7;have Dc:=HT.o.later hb;obtain rfl:x38=_:=hp 1 (by kernel_rfl);have hY:=Dc.top;have c0:=hY.cell 0;have c1:=hY.cell 1;simp only[au,av,ay]at c0 c1;have hl0:=hY.lt;refine aO (by rfl) rfl ?_;go_simp;exact hK _ _ ⟨_,rfl,⟨λh=>hb,λh=>absurd h (by show¬(if 7=2 then true else bg 7)=true;rw[if_neg (by decide),h7];decide),h5,h9⟩,iU.refl _ _,rfl⟩
    |3,_=>
     obtain⟨hA,hC,h5,h9⟩:=hG
     have h7:bg 7=false:=by
          cases h7:bg 7 with
          |false=>rfl
          |true=>exact absurd (hcl 7 3 (by show(7:Nat)<8;decide) h7 (by kernel_rfl)) (by rw[hl];decide)
     have hb:=hA h7;have Dc:=HT.o.later hb;obtain rfl:x39=_:=hp 2 (by kernel_rfl);have hY:=Dc.top;have c0:=hY.cell 0;have c1:=hY.cell 1;simp only[au,av,ay]at c0 c1;have hl0:=hY.lt;refine aO (by rfl) rfl ?_;go_simp;exact hK _ _ ⟨_,rfl,⟨λh=>hb,λh=>absurd h (by show¬(if 7=3 then true else bg 7)=true;rw[if_neg (by decide),h7];decide),h5,h9⟩,iU.refl _ _,rfl⟩
    |4,_=>
     obtain⟨hA,hC,h5,h9⟩:=hG
     have h7:bg 7=false:=by
          cases h7:bg 7 with
          |false=>rfl
          |true=>exact absurd (hcl 7 4 (by show(7:Nat)<8;decide) h7 (by kernel_rfl)) (by rw[hl];decide)
     have hb:=hA h7;have Dc:=HT.o.later hb;have c0:=h9.cell 0;simp only[au,av]at c0;have hl0:=h9.lt;refine aO (by rfl) rfl ?_;go_simp;exact hK _ _ ⟨_,rfl,⟨λh=>hb,λh=>absurd h (by show¬(if 7=4 then true else bg 7)=true;rw[if_neg (by decide),h7];decide),h5,h9⟩,iU.refl _ _,rfl⟩
    |5,_=>
     obtain⟨hA,hC,h5,h9⟩:=hG
     have h7:bg 7=false:=by
          cases h7:bg 7 with
          |false=>rfl
          |true=>exact absurd (hcl 7 5 (by show(7:Nat)<8;decide) h7 (by kernel_rfl)) (by rw[hl];decide)
     have hb:=hA h7;have Dc:=HT.o.later hb;refine aO (by rfl) rfl ?_;go_simp;exact hK _ _ ⟨_,rfl,⟨λh=>hb,λh=>absurd h (by show¬(if 7=5 then true else bg 7)=true;rw[if_neg (by decide),h7];decide),h5,h9⟩,iU.refl _ _,rfl⟩
    |6,_=>
     obtain⟨hA,hC,h5,h9⟩:=hG
     have h7:bg 7=false:=by
          cases h7:bg 7 with
          |false=>rfl
          |true=>exact absurd (hcl 7 6 (by show(7:Nat)<8;decide) h7 (by kernel_rfl)) (by rw[hl];decide)
     have hb:=hA h7;have Dc:=HT.o.later hb;obtain rfl:x42=_:=hp 5 (by kernel_rfl);refine aO (by rfl) rfl ?_;go_simp;refine ak (En kind HK.o.2.1 w1) ?_;rintro e w3 ⟨p,a,b,rfl,aL⟩;exact hK _ _ ⟨_,rfl,⟨λh=>hb.trans (aL.lS.mono hb.size),λh=>absurd h (by show¬(if 7=6 then true else bg 7)=true;rw[if_neg (by decide),h7];decide),h5.later aL.lS,h9.later aL.lS⟩,iU.of aL.lS,p,a,b,rfl,aL.n hb.size⟩
    |7,_=>
     obtain⟨hA,hC,h5,h9⟩:=hG;have hb:=hA hl;have Dc:=HT.o.later hb;obtain rfl:x40=_:=hp 3 (by kernel_rfl);obtain rfl:x41=_:=hp 4 (by kernel_rfl);obtain⟨p,a,b,e43,aL⟩:=hp 6 (by kernel_rfl);change x43=_ at e43;subst e43;obtain⟨W9,hrun,CW,hm⟩:=HT.o.born (aL.at_ hb) HK.o.2.1 HK.o.2.2.2.2.2.2 HK.o.2.2.1 HK.o.2.2.2.1 (λs=>HI.o.vo _ s (by rw[HK.o.2.2.2.2.2.2];decide)) HI.o.rng;have B5:=Dc.boxed hm h5;have B9:=Dc.boxed hm h9;have TT:=U (aR.turned hm HT.o.own.2.1);have SS:=U (JY (n:=w2.heap.size) hm HT.o.map.lt);have FF:=U aL.lo;have T2:=U CW;clear CW hm aL h5 h9 hC hA Dc;refine aO (by rfl) rfl ?_;go_simp;exact hK _ _ ⟨undef,rfl,⟨λh=>absurd h (by show¬(if 7=7 then true else bg 7)=false;rw[if_pos rfl];decide),λh=>⟨p,a,b,T2.o,(aR.of hb).trans TT.o,FF.o⟩,B5,B9⟩,SS.o,trivial⟩
    |i+8,hi=>exact absurd hi (by simp)
   case done=>
    rintro a w4 bg hl ⟨x37,x38,x39,x40,x41,x42,x43,rfl⟩ ⟨hA,hC,h5,h9⟩ hp;obtain⟨p,a,b,hT4,tc4,hp4,ha4,hb4⟩:=hC (hl 7 (by show(7:Nat)<8;decide));have X0:=h5.cell 0;have X1:=h9.cell 0;simp only[au,av]at X0 X1;have Xl0:=h5.lt;have Xl1:=h9.lt;have k0:ino≠dir:=λe=>by have h1:=HK.o.2.2.2.2.1;have h2:=HK.o.2.2.2.2.2.2;rw[e]at h2;omega
    have EN:=U (xE hT4 HQ.o dir ino s hs hd hino (by show(aS S.n ino _ dir).kind≠0;rw[bq _ _ (Ne.symm k0),HK.o.2.2.2.2.1];decide) (by show(aS S.n ino _ ino).kind≠0;rw[bE];have:=HK.o.2.1;show kind≠0;omega) (by have:=HK.o.2.2.1;omega) (by show(aS S.n ino _ ino).links<100000;rw[bE];have:=HK.o.2.1;show kind/2<100000;omega));have TC:=U tc4;have LO:=U (And.intro hp4 (And.intro ha4 hb4));have T4:=U hT4;clear hT4 tc4 hp4 ha4 hb4 hA hC hp hl h5 h9;go_wp2_with fail;refine ak EN.o ?_;rintro e w8 ⟨rfl,hT8,tc8⟩;have T8:=U hT8;have C8:=U tc8;clear hT8 tc8 EN;go_wp2_with fail;go_ret;have e9:=H0.o;have HX:Ext E (E.add ino p a b) wz.heap.size:=⟨rfl,λc h=>.inl h,λc h=>?_⟩
    rotate_left
    ·have:=LO.o
     have:=HB.o.size
     rcases h with h|rfl|rfl|rfl
     ·exact .inl h
     all_goals exact .inr (by omega)
    refine⟨by rw[e9];rfl,E.add ino p a b,HX,?_,?_⟩
    ·unfold JZ
     rw[if_pos e9];have h:=T8.o;rw[bE]at h;have e2:aS (aS S.n ino ⟨kind,kind/2,0,0,[]⟩) ino (gain ⟨kind,kind/2,0,0,[]⟩ dir)=aS S.n ino (gain ⟨kind,kind/2,0,0,[]⟩ dir):=by funext y;by_cases ey:y=ino<;>simp[aS,ey]
     rw[e2]at h;exact h
    ·exact aR.ext ((aR.of HB.o).trans TC.o) C8.o HX.new
  ·have t0:((vP S room dir s kind ino:Int)!=0)=true:=by simp;omega
   have H0:=U h0;clear h0;go_wp2_with fail;go_ret;exact⟨rfl,by unfold JZ;rw[if_neg H0.o];exact Did.of (HT.o.more (Nat.le_succ _) (by have:=HQ.o;omega)) (aR.of HB.o)⟩
end
