/- Lemmas. -/
import Derived.Test.YtpendnmmgjlmfaaGreatDoorM17
import Derived.Deep.RegionWith
import Derived.Deep.DeepCutAuto
set_option linter.unusedVariables false
set_option linter.unusedSimpArgs false
namespace Go.Proofs.YtpendnmmgjlmfaaGreatDoor
open Go.RowKit Go.Shelf Go.Maps
open Go.Proofs.Tryz
open IntKind renaming i64→J,u32→F,u8→aF
open Value renaming pointer→G,tuple->τ
open Ending renaming returned→aG
set_option maxRecDepth 100000
set_option maxHeartbeats 4000000
namespace Re
open Oct Path Tr
def kvC (w:Array UInt8) (a b c d e:Bool) (f:Nat):Array Value:=#[.string ⟨w⟩,.bool a,.bool b,.bool c,.bool d,.bool e,.func (.func f) #[] #[]]
inductive Ro:Nat->World->World->Prop
 |other {i:Nat} {w1 w2:World} (h9:i≠9) (h10:i≠10) (h:Below w1.heap.size w1 w2):Ro i w1 w2
 |nine {w1 w2:World} {p:Nat} {c0 c1 c2 c3 c4 c5 c6 d0 d1 d2 d3 d4 d5 d6:Value} (h1:aN w1 p 210 #[c0,c1,c2,c3,c4,c5,c6]) (h2:aN w2 p 210 #[d0,d1,d2,d3,d4,d5,d6]) (h:aR (λx=>x=p) w1 w2):Ro 9 w1 w2
 |ten {w1 w2:World} {q:Nat} {z z':Value} (h1:aN w1 q 4 #[z]) (h2:aN w2 q 4 #[z']) (h:aR (λx=>x=q) w1 w2):Ro 10 w1 w2
theorem RK:(prog.info? 210).map (·.size)=some 7:=by kernel_rfl
theorem OI (W:World) (b:Nat) (ds:Array Value):aR (λx=>x=b) W (W.setRow b ds):=⟨rfl,rfl,rfl,by simp,λk hk hn=>setRow_other W b k ds hn⟩
theorem rR {W:World} {a b:Nat} {t u:TypeId} {cs ds:Array Value} (h:aN W a t cs) (k:aN W b u ds) (hn:t≠u):a≠b:=by
 intro e;subst e;unfold aN at h k;rw[h]at k
 simp at k
 exact hn k.2
theorem kQ {W W':World} {a b:Nat} {t:TypeId} {cs:Array Value} (h:aN W a t cs) (hn:a≠b) (ht:aR (λx=>x=b) W W'):aN W' a t cs:=(ht.block a h.lt hn).trans h
theorem Ro.On {i:Nat} {w1 w2:World} (h:Ro i w1 w2) {kt:TypeId} {b nn:Nat} {f:Lit->Option Value} (hv:cZ w1 kt b nn f):cZ w2 kt b nn f:=by
 cases h with
 |other _ _ h=>exact hv.later h
 |nine h1 _ h=>exact hv.block (h.block b hv.lt λe=>hv.ne h1 e.symm)
 |ten h1 _ h=>exact hv.block (h.block b hv.lt λe=>hv.ne h1 e.symm)
theorem Ro.kind {i:Nat} {w1 w2:World} (h:Ro i w1 w2) {p:Nat} {c0 c1 c2 c3 c4 c5 c6:Value} (hp:aN w1 p 210 #[c0,c1,c2,c3,c4,c5,c6]):∃d0 d1 d2 d3 d4 d5 d6,aN w2 p 210 #[d0,d1,d2,d3,d4,d5,d6]:=by
 cases h with
 |other _ _ h=>exact⟨_,_,_,_,_,_,_,hp.later h⟩
 |@nine _ _ p' _ _ _ _ _ _ _ _ _ _ _ _ _ _ h1 h2 h=>
  by_cases e:p=p'
  ·subst e;exact⟨_,_,_,_,_,_,_,h2⟩
  ·exact⟨_,_,_,_,_,_,_,kQ hp e h⟩
 |ten h1 _ h=>exact⟨_,_,_,_,_,_,_,kQ hp (rR hp h1 (by decide)) h⟩
theorem Ro.bool {i:Nat} {w1 w2:World} (h:Ro i w1 w2) {q:Nat} {z:Value} (hp:aN w1 q 4 #[z]):∃z2,aN w2 q 4 #[z2]:=by
 cases h with
 |other _ _ h=>exact⟨_,hp.later h⟩
 |nine h1 _ h=>exact⟨_,kQ hp (rR hp h1 (by decide)) h⟩
 |@ten _ _ q' _ _ h1 h2 h=>
  by_cases e:q=q'
  ·subst e;exact⟨_,h2⟩
  ·exact⟨_,kQ hp e h⟩
theorem Ro.kind9 {i:Nat} {w1 w2:World} (h:Ro i w1 w2) (hi:i≠9) {p:Nat} {cs:Array Value} (hp:aN w1 p 210 cs):aN w2 p 210 cs:=by
 cases h with
 |other _ _ h=>exact hp.later h
 |nine=>exact absurd rfl hi
 |ten h1 _ h=>exact kQ hp (rR hp h1 (by decide)) h
theorem Ro.RT {i:Nat} {w1 w2:World} (h:Ro i w1 w2) (hi:i≠10) {p:Nat} {cs:Array Value} (hp:aN w1 p 4 cs):aN w2 p 4 cs:=by
 cases h with
 |other _ _ h=>exact hp.later h
 |nine h1 _ h=>exact kQ hp (rR hp h1 (by decide)) h
 |ten=>exact absurd rfl hi
theorem gG {P:Program} {ops:Array Oper} {Q:Exit->Act->World->Prop} {i:Nat} {o:Oper} {K:Act->World->Prop} {a:Act} {w:World} (ho:ops[i]? =some o) (hg:Region.wanted o (yielded ops a.tmps)=true) (h:o.wp P a w K Q):wpOp P ops Q i K a w:=by
 unfold wpOp;rw[ho];simp only[hg,if_true];exact .inl h
theorem pJ {P:Program} {ops:Array Oper} {Q:Exit->Act->World->Prop} {i:Nat} {o:Oper} {K:Act->World->Prop} {a:Act} {w:World} (ho:ops[i]? =some o) (hg:Region.wanted o (yielded ops a.tmps)=false) (h:K (a.put o.dst undef) w):wpOp P ops Q i K a w:=by
 unfold wpOp;rw[ho];simp only[hg];exact h
structure St (r:Rc) (p q:Nat) (s:Array UInt8) (g:Nat) (wz w:World):Prop where
 be:Below wz.heap.size wz w
 rc:aN w wz.heap.size 44 (recC r)
 kd:aN w p 210 (kvC s (oD r.op) (nk r.op) (nu r.op) (oF r.op) (pG r.op) g)
 is:aN w q 4 #[.bool true]
 qz:wz.heap.size<=q
theorem St.later {r:Rc} {p q:Nat} {s:Array UInt8} {g:Nat} {wz w w':World} (h:St r p q s g wz w) (hb:Below w.heap.size w w'):St r p q s g wz w':=
 ⟨h.be.trans (hb.mono h.be.size),h.rc.later hb,h.kd.later hb,h.is.later hb,h.qz⟩
theorem St.fits {r:Rc} {p q:Nat} {s:Array UInt8} {g:Nat} {wz w w':World} (h:St r p q s g wz w) (hq:aN w' q 4 #[.bool true]) (ht:aR (λx=>x=q) w w'):St r p q s g wz w':=
 ⟨h.be.trans (ht.below λi hi=>⟨aA hi h.be.size,λe=>by have:=h.qz;omega⟩),kQ h.rc (rR h.rc h.is (by decide)) ht,kQ h.kd (rR h.kd h.is (by decide)) ht,hq,h.qz⟩
theorem St.drew {r:Rc} {p q:Nat} {s:Array UInt8} {g:Nat} {wz w:World} (h:St r p q s g wz w):St r p q s g wz w.drew:=h.later (aj _ _).drew
theorem St.c6 {r:Rc} {p q:Nat} {s:Array UInt8} {g:Nat} {wz w:World} (h:St r p q s g wz w) {b:Bool} {d:Int} {n:ByteArray} (hb:oD r.op=b) (hd:(r.dir:Int)=d) (hn:B r.name=n):
 w.cell? ⟨p,1,none⟩=some (.bool b)/\w.cell? ⟨wz.heap.size,2,none⟩=some (.int F d)/\w.cell? ⟨wz.heap.size,3,none⟩=some (.string n)/\St r p q s g wz w:=by
 subst hb hd hn;exact⟨h.kd.cell 1,h.rc.cell 2,h.rc.cell 3,h⟩
theorem St.c8 {r:Rc} {p q:Nat} {s:Array UInt8} {g:Nat} {wz w:World} (h:St r p q s g wz w) {b:Bool} {d o:Int} {n:ByteArray} (hb:nu r.op=b) (hd:(r.bV:Int)=d) (hn:B r.name2=n) (ho:(r.old:Int)=o):
 w.cell? ⟨p,3,none⟩=some (.bool b)/\w.cell? ⟨wz.heap.size,6,none⟩=some (.int F d)/\w.cell? ⟨wz.heap.size,7,none⟩=some (.string n)/\w.cell? ⟨wz.heap.size,8,none⟩=some (.int F o)/\St r p q s g wz w:=by
 subst hb hd hn ho;exact⟨h.kd.cell 3,h.rc.cell 6,h.rc.cell 7,h.rc.cell 8,h⟩
theorem St.ck {r:Rc} {p q:Nat} {s:Array UInt8} {g:Nat} {wz w:World} (h:St r p q s g wz w) {b:Bool} {k:Int} (hb:nk r.op=b) (hk:(r.kind:Int)=k):
 w.cell? ⟨p,2,none⟩=some (.bool b)/\w.cell? ⟨wz.heap.size,5,none⟩=some (.int aF k):=by
 subst hb hk;exact⟨h.kd.cell 2,h.rc.cell 5⟩
theorem St.cs {r:Rc} {p q:Nat} {s:Array UInt8} {g:Nat} {wz w:World} (h:St r p q s g wz w) {b:Bool} {k:Int} (hb:oF r.op=b) (hk:(r.size:Int)=k):
 w.cell? ⟨p,4,none⟩=some (.bool b)/\w.cell? ⟨wz.heap.size,9,none⟩=some (.int F k):=by
 subst hb hk;exact⟨h.kd.cell 4,h.rc.cell 9⟩
theorem St.cd {r:Rc} {p q:Nat} {s:Array UInt8} {g:Nat} {wz w:World} (h:St r p q s g wz w) {b:Bool} {k:Int} {n:ByteArray} (hb:pG r.op=b) (hk:(r.page:Int)=k) (hn:B r.data=n):
 w.cell? ⟨p,5,none⟩=some (.bool b)/\w.cell? ⟨wz.heap.size,10,none⟩=some (.int J k)/\w.cell? ⟨wz.heap.size,11,none⟩=some (.string n):=by
 subst hb hk hn;exact⟨h.kd.cell 5,h.rc.cell 10,h.rc.cell 11⟩
theorem Ht (x:Nat) (w:World) (h1:1<=x) (h2:x<=256):Calls prog 103 #[.int F x] w λe w'=>e=aG (.bool true)/\w=w':=by
 have:=Rb x w
 rwa [show jL x=true by simp[jL,h1,h2]]at this
theorem Rp (w:World):Calls prog 103 #[.int F 0] w λe w'=>e=aG (.bool false)/\w=w':=Rb 0 w
theorem KU {s:Nm} (w:World) (h:isName s=true):Calls prog 104 #[.string (B s)] w λe w'=>e=aG (.bool true)/\Below w.heap.size w w':=by
 have h27:s.length<=27:=by unfold isName at h;simp only[Bool.and_eq_true,decide_eq_true_eq]at h;exact h.1.1.1.2
 have:=As (B s) w (by rw[aV];unfold maxLen;omega)
 rwa [iy,show(oZ s==0)=true by simp[oZ,h]]at this
theorem KV (r:Rc) (h:May r) (wz:World):Calls prog 56 #[kZ r] wz λe w'=>e=aG (.int J 0)/\Below wz.heap.size wz w':=by
 have HM:=U h;have hop:=h.op;clear h;unfold kZ recC
 go_enter func56,ntmps56
 go_wp2_with fail;refine mK (by kernel_rfl) (λ|0=>some 9|1=>some 10|2=>some 11|3=>some 12|4=>some 8|5=>some 13|6=>some 14|7=>some 3|8=>some 4|9=>none|10=>none|_=>none) (λa=>∃x3 x4 x8 x9 x10 QE Ep Er Es:Value,a=⟨#[Value.agg #[Value.int IntKind.u64 ↑r.stamp,Value.int IntKind.u8 ↑r.op,Value.int IntKind.u32 ↑r.dir,Value.string (B r.name),Value.int IntKind.u32 ↑r.ino,Value.int IntKind.u8 ↑r.kind,Value.int IntKind.u32 ↑r.bV,Value.string (B r.name2),Value.int IntKind.u32 ↑r.old,Value.int IntKind.u32 ↑r.size,Value.int IntKind.i64 ↑r.page,Value.string (B r.data)],Value.pointer (some {block:=wz.heap.size,off:=0}),Value.int IntKind.i64 0,x3,x4,undef,undef,undef,x8,x9,x10,QE,Ep,Er,Es,undef,undef,undef,undef,undef,undef,undef,undef,undef,undef,undef,undef,undef,undef,undef,undef,undef,undef,undef,undef,undef,undef,undef,undef,undef,undef,undef,undef,undef,undef,undef,undef,undef,undef,undef,undef,undef,undef,undef,undef,undef,undef,undef,undef,undef,undef,undef,undef,undef,undef,undef,undef,undef,undef,undef,undef,undef,undef,undef,undef,undef,undef,undef,undef,undef,undef,undef,undef,undef,undef,undef,undef,undef,undef,undef,undef,undef,undef,undef,undef,undef,undef,undef,undef,undef,undef,undef,undef,undef,undef,undef,undef,undef,undef,undef,undef,undef,undef,undef,undef,undef,undef,undef,undef,undef,undef,undef,undef,undef,undef,undef,undef,undef,undef,undef],[]⟩) (λbg W=>Below wz.heap.size wz W/\aN W wz.heap.size 44 (recC r)) (Ro) (λ|0=>(λf w=>∃b,f 0=Value.map (some b)/\cZ w 5 b 7 (eB aF Eh))|1=>(λf w=>f 1=Value.pointer (some ⟨wz.heap.size,1,none⟩))|2=>(λf w=>f 2=Value.int aF r.op)|3=>(λf w=>∃s g,f 3=Value.tuple #[kv s (oD r.op) (nk r.op) (nu r.op) (oF r.op) (pG r.op) g,.bool true])|4=>(λf w=>∃s g,f 4=Value.tuple #[kv s (oD r.op) (nk r.op) (nu r.op) (oF r.op) (pG r.op) g,.bool true])|5=>(λf w=>∃s g,f 5=kv s (oD r.op) (nk r.op) (nu r.op) (oF r.op) (pG r.op) g)|6=>(λf w=>f 6=Value.bool true)|7=>(λf w=>∃p c0 c1 c2 c3 c4 c5 c6,f 7=ptr p/\wz.heap.size<=p/\aN w p 210 #[c0,c1,c2,c3,c4,c5,c6])|8=>(λf w=>∃q z,f 8=ptr q/\wz.heap.size<=q/\aN w q 4 #[z])|9=>(λf w=>∃p s g,f 7=ptr p/\wz.heap.size<=p/\aN w p 210 (kvC s (oD r.op) (nk r.op) (nu r.op) (oF r.op) (pG r.op) g))|10=>(λf w=>∃q,f 8=ptr q/\wz.heap.size<=q/\aN w q 4 #[.bool true])|_=>(λ_ _=>True)) (by kernel_rfl) ?st ?dep (by kernel_rfl) ?AA ⟨_,_,_,_,_,_,_,_,_,rfl⟩ ?G0 ?step ?done
 case st=>
  intro i j v w1 w2 hi hj hij hw hp hs;have hi:i<11:=hi
  match j,hp with
  |0,hp=>
   obtain⟨b,h1,h2⟩:=hp;exact⟨b,h1,hs.On h2⟩
  |1,hp|2,hp|3,hp|4,hp|5,hp|6,hp=>exact hp
  |7,hp=>
   obtain⟨p,c0,c1,c2,c3,c4,c5,c6,h1,h2,h3⟩:=hp;obtain⟨d0,d1,d2,d3,d4,d5,d6,h4⟩:=hs.kind h3;exact⟨p,d0,d1,d2,d3,d4,d5,d6,h1,h2,h4⟩
  |8,hp=>
   obtain⟨q,z,h1,h2,h3⟩:=hp;obtain⟨z2,h4⟩:=hs.bool h3;exact⟨q,z2,h1,h2,h4⟩
  |9,hp=>
   obtain⟨p,s,g,h1,h2,h3⟩:=hp;exact⟨p,s,g,h1,h2,hs.kind9 (λe=>hij e) h3⟩
  |10,hp=>
   by_cases e:i=9
   ·subst e;exact absurd hw (by show¬gY _ 10 9=false;rw[show gY _ 10 9=true from by kernel_rfl];decide)
   ·obtain⟨q,h1,h2,h3⟩:=hp
    exact⟨q,h1,h2,hs.RT (λe=>hij e) h3⟩
  |j+11,_=>exact trivial
 case dep=>
  intro j f g w hj hfg hp;have hj:j<11:=hj
  match j,hp,hfg with
  |0,hp,hfg=>
   have hq:∃b,f 0=Value.map (some b)/\cZ w 5 b 7 (eB aF Eh):=hp;rw[hfg 0 (by show 0<11;decide) (by first|exact .inl rfl|exact .inr (by kernel_rfl))]at hq;exact hq
  |1,hp,hfg=>
   have hq:f 1=Value.pointer (some ⟨wz.heap.size,1,none⟩):=hp;rw[hfg 1 (by show 1<11;decide) (by first|exact .inl rfl|exact .inr (by kernel_rfl))]at hq;exact hq
  |2,hp,hfg=>
   have hq:f 2=Value.int aF r.op:=hp;rw[hfg 2 (by show 2<11;decide) (by first|exact .inl rfl|exact .inr (by kernel_rfl))]at hq;exact hq
  |3,hp,hfg=>
   have hq:∃s g,f 3=Value.tuple #[kv s (oD r.op) (nk r.op) (nu r.op) (oF r.op) (pG r.op) g,.bool true]:=hp;rw[hfg 3 (by show 3<11;decide) (by first|exact .inl rfl|exact .inr (by kernel_rfl))]at hq;exact hq
  |4,hp,hfg=>
   have hq:∃s g,f 4=Value.tuple #[kv s (oD r.op) (nk r.op) (nu r.op) (oF r.op) (pG r.op) g,.bool true]:=hp;rw[hfg 4 (by show 4<11;decide) (by first|exact .inl rfl|exact .inr (by kernel_rfl))]at hq;exact hq
  |5,hp,hfg=>
   have hq:∃s g,f 5=kv s (oD r.op) (nk r.op) (nu r.op) (oF r.op) (pG r.op) g:=hp;rw[hfg 5 (by show 5<11;decide) (by first|exact .inl rfl|exact .inr (by kernel_rfl))]at hq;exact hq
  |6,hp,hfg=>
   have hq:f 6=Value.bool true:=hp;rw[hfg 6 (by show 6<11;decide) (by first|exact .inl rfl|exact .inr (by kernel_rfl))]at hq;exact hq
  |7,hp,hfg=>
   have hq:∃p c0 c1 c2 c3 c4 c5 c6,f 7=ptr p/\wz.heap.size<=p/\aN w p 210 #[c0,c1,c2,c3,c4,c5,c6]:=hp;rw[hfg 7 (by show 7<11;decide) (by first|exact .inl rfl|exact .inr (by kernel_rfl))]at hq;exact hq
  |8,hp,hfg=>
   have hq:∃q z,f 8=ptr q/\wz.heap.size<=q/\aN w q 4 #[z]:=hp;rw[hfg 8 (by show 8<11;decide) (by first|exact .inl rfl|exact .inr (by kernel_rfl))]at hq;exact hq
  |9,hp,hfg=>
   have hq:∃p s g,f 7=ptr p/\wz.heap.size<=p/\aN w p 210 (kvC s (oD r.op) (nk r.op) (nu r.op) (oF r.op) (pG r.op) g):=hp;rw[hfg 7 (by show 7<11;decide) (by first|exact .inl rfl|exact .inr (by kernel_rfl))]at hq;exact hq
  |10,hp,hfg=>
   have hq:∃q,f 8=ptr q/\wz.heap.size<=q/\aN w q 4 #[.bool true]:=hp;rw[hfg 8 (by show 8<11;decide) (by first|exact .inl rfl|exact .inr (by kernel_rfl))]at hq;exact hq
  |j+11,_,_=>exact trivial
 case AA=>
  rintro i a v hi ⟨_,_,_,_,_,_,_,_,_,rfl⟩
  match i,hi with
  |0,_|1,_|2,_|3,_|4,_|5,_|6,_|7,_|8,_|9,_|10,_=>exact⟨⟨_,_,_,_,_,_,_,_,_,rfl⟩,λt h=>by cases h<;>exact of_decide_eq_true rfl⟩
  |i+11,hi=>exact absurd hi (by simp)
 case G0=>exact⟨((aj _ _).alloc (ah _) _).drew,(aN.new wz _ _).drew⟩
 case step=>
  rintro i a w1 bg hi ⟨x3,x4,x8,x9,x10,QE,Ep,Er,Es,rfl⟩ hl hcl hG hp;refine gu (λK hK=>?_)
  match i,hi with
  |0,_=>
   obtain⟨hb,hr⟩:=hG;refine aO (by rfl) rfl ?_;go_simp;refine ak (Tw w1) ?_;rintro e w2 ⟨b,rfl,h1,h2,h3⟩;exact hK _ _ ⟨_,rfl,⟨hb.trans (h3.mono hb.size),hr.later h3⟩,.other (by decide) (by decide) h3,b,rfl,h1⟩
  |1,_=>
   obtain⟨hb,hr⟩:=hG;have hlz:=hr.lt;refine aO (by rfl) rfl ?_;go_simp;exact hK _ _ ⟨_,rfl,⟨hb,hr⟩,.other (by decide) (by decide) (aj _ _),rfl⟩
  |2,_=>
   obtain⟨hb,hr⟩:=hG;obtain rfl:x10=_:=hp 1 (by kernel_rfl);have c1:=hr.cell 1;unfold recC at c1;simp only[au,av,ay]at c1;have hlz:=hr.lt;refine aO (by rfl) rfl ?_;go_simp;exact hK _ _ ⟨_,rfl,⟨hb,hr⟩,.other (by decide) (by decide) (aj _ _),rfl⟩
  |3,_=>
   obtain⟨hb,hr⟩:=hG;obtain⟨b,e9,hv⟩:=hp 0 (by kernel_rfl);change x9=_ at e9;subst e9;obtain rfl:QE=_:=hp 2 (by kernel_rfl);obtain⟨s,g,hk⟩:=Uy hv hop;refine aO (by rfl) rfl ?_;go_simp;exact hK _ _ ⟨_,rfl,⟨hb,hr⟩,.other (by decide) (by decide) (aj _ _),s,g,rfl⟩
  |4,_=>
   obtain⟨hb,hr⟩:=hG;obtain⟨s,g,e12⟩:=hp 3 (by kernel_rfl);change Ep=_ at e12;subst e12;refine aO (by rfl) rfl ?_;go_simp;exact hK _ _ ⟨_,rfl,⟨hb,hr⟩,.other (by decide) (by decide) (aj _ _),s,g,rfl⟩
  |5,_=>
   obtain⟨hb,hr⟩:=hG;obtain⟨s,g,e8⟩:=hp 4 (by kernel_rfl);change x8=_ at e8;subst e8;refine aO (by rfl) rfl ?_;go_simp;exact hK _ _ ⟨_,rfl,⟨hb,hr⟩,.other (by decide) (by decide) (aj _ _),s,g,rfl⟩
  |6,_=>
   obtain⟨hb,hr⟩:=hG;obtain⟨s,g,e8⟩:=hp 4 (by kernel_rfl);change x8=_ at e8;subst e8;refine aO (by rfl) rfl ?_;go_simp;exact hK _ _ ⟨_,rfl,⟨hb,hr⟩,.other (by decide) (by decide) (aj _ _),rfl⟩
  |7,_=>
   obtain⟨hb,hr⟩:=hG;refine aO (by rfl) rfl ?_;go_simp;exact hK _ _ ⟨_,rfl,⟨hb.alloc hb.size _,hr.alloc _⟩,.other (by decide) (by decide) ((aj _ _).alloc (ah _) _),w1.heap.size,_,_,_,_,_,_,_,rfl,hb.size,aN.new _ _ _⟩
  |8,_=>
   obtain⟨hb,hr⟩:=hG;refine aO (by rfl) rfl ?_;go_simp;exact hK _ _ ⟨_,rfl,⟨hb.alloc hb.size _,hr.alloc _⟩,.other (by decide) (by decide) ((aj _ _).alloc (ah _) _),w1.heap.size,_,rfl,hb.size,aN.new _ _ _⟩
  |9,_=>
   obtain⟨hb,hr⟩:=hG;obtain⟨p,c0,c1,c2,c3,c4,c5,c6,e3,hpz,h3⟩:=hp 7 (by kernel_rfl);change x3=_ at e3;subst e3;obtain⟨s,g,e13⟩:=hp 5 (by kernel_rfl);change Er=_ at e13;subst e13;refine aO (by rfl) rfl ?_;unfold ptr kv;refine wp_store_row _ _ _ rfl p (kvC s (oD r.op) (nk r.op) (nu r.op) (oF r.op) (pG r.op) g) rfl rfl _ _ h3 RK rfl (by kernel_rfl) ?_;exact hK _ _ ⟨undef,rfl,⟨hb.trans ((OI w1 p _).below λi hi=>⟨aA hi hb.size,λe=>by omega⟩),kQ hr (rR hr h3 (by decide)) (OI w1 p _)⟩,.nine h3 (aN.setRow h3 _) (OI w1 p _),p,s,g,rfl,hpz,aN.setRow h3 _⟩
  |10,_=>
   obtain⟨hb,hr⟩:=hG;obtain⟨q,z,e4,hqz,h4⟩:=hp 8 (by kernel_rfl);change x4=_ at e4;subst e4;obtain rfl:Es=_:=hp 6 (by kernel_rfl);have hV:=h4;have V0:=hV.cell 0;simp only[au,av,ay]at V0;have Vl:=hV.lt;have F0:=hV.free 0;clear hV;refine aO (by rfl) rfl ?_;unfold ptr;go_simp;exact hK _ _ ⟨undef,rfl,⟨hb.trans ((show aR (λx=>x=q) _ _ from aR.cell rfl).below λi hi=>⟨aA hi hb.size,λe=>by omega⟩),kQ hr (rR hr h4 (by decide)) (aR.cell rfl)⟩,.ten h4 (h4.set 0 _) (aR.cell rfl),q,rfl,hqz,h4.set 0 _⟩
  |i+11,hi=>exact absurd hi (by simp)
 case done=>
  rintro a w2 bg hl ⟨x3,x4,x8,x9,x10,QE,Ep,Er,Es,rfl⟩ ⟨hb,hr⟩ hp;obtain⟨p,s,g,e3,hpz,h3⟩:=hp 9 (by decide);change x3=_ at e3;subst e3;obtain⟨q,e4,hqz,h4⟩:=hp 10 (by decide);change x4=_ at e4;subst e4;clear hp;have S1:=U (show St r p q s g wz w2 from⟨hb,hr,h3,h4,hqz⟩);clear hb hr h3 h4;unfold ptr;have hR:=S1.o.rc;unfold recC at hR;have V0:=hR.cell 0;have V1:=hR.cell 1;have V2:=hR.cell 2;have V3:=hR.cell 3;have V4:=hR.cell 4;have V5:=hR.cell 5;have V6:=hR.cell 6;have V7:=hR.cell 7;have V8:=hR.cell 8;have V9:=hR.cell 9;have V10:=hR.cell 10;have V11:=hR.cell 11;simp only[au,av,ay]at V0 V1 V2 V3 V4 V5 V6 V7 V8 V9 V10 V11;have Vl:=hR.lt;have hP:=S1.o.kd;unfold kvC at hP;have K0:=hP.cell 0;have K1:=hP.cell 1;have K2:=hP.cell 2;have K3:=hP.cell 3;have K4:=hP.cell 4;have K5:=hP.cell 5;have K6:=hP.cell 6;simp only[au,av,ay]at K0 K1 K2 K3 K4 K5 K6;have Kl:=hP.lt;have hQ:=S1.o.is;have Z0:=hQ.cell 0;simp only[au,av,ay]at Z0;have Zl:=hQ.lt;clear hR hP hQ;go_wp2_with fail;refine ak (Ht r.ino w2 HM.o.ino.1 HM.o.ino.2) ?_;rintro e w9 ⟨rfl,rfl⟩;go_wp2_with fail;refine ak (ji q true true true false w2 S1.o.is) ?_;rintro e w3 ⟨rfl,q3,t3⟩;have S2:=U (S1.o.fits q3 t3);clear q3 t3 S1 V0 V1 V2 V3 V4 V5 V6 V7 V8 V9 V10 V11 Vl K0 K1 K2 K3 K4 K5 K6 Kl Z0 Zl;have hqz:=S2.o.is.lt;have hpz2:=S2.o.kd.lt;have hrz:=S2.o.rc.lt
  go_upto_region 6 with fail
  go_cut [] (λwx=>St r p q s g wz wx)
  case first=>
   as_aux_lemma=>
    cases hE:oD r.op
    ·have HC:=U (λW (h:St r p q s g wz W)=>h.c6 (b:=false) (d:=0) (n:=⟨#[]⟩) hE (by rw[(HM.o.noe hE).1];rfl) (by rw[(HM.o.noe hE).2];rfl))
     have HI:=U Rp;clear hE;refine jR 22 (λi=>some (22+i)) (λi=>[.func (.func 106) #[] #[G (some ⟨q,0,none⟩)],G (some ⟨p,1,none⟩),.bool false,.func (.func 103) #[] #[],G (some ⟨wz.heap.size,2,none⟩),.int F 0,.bool false,.bool false,undef,undef,undef,undef,.bool false,G (some ⟨wz.heap.size,2,none⟩),.int F 0,.bool true,.bool true,G (some ⟨wz.heap.size,3,none⟩),.string ⟨#[]⟩,.bool true,.bool true,τ #[]].getD i undef) (λW=>St r p q s g wz W) (S2.o.drew) (by kernel_rfl) (by kernel_rfl) (by kernel_rfl) (by kernel_rfl) (by kernel_rfl) ?step ?done
     case step=>
          intro i x w1 hi hG hp;refine gu (λK hK=>?_);simp only[puts,Act.put,List.setIfInBounds_toArray,List.set_cons_succ,List.set_cons_zero,Nat.reduceAdd]at hK⊢
          match i,hi with
          |0,_|1,_|3,_|4,_|13,_=>
           refine aO (by rfl) rfl ?_;go_simp;exact hK _ _ ⟨rfl,hG⟩
          |2,_=>
           rw[hp 1 (by kernel_rfl)]at hK⊢;obtain⟨C0,C1,C2,_⟩:=HC.o _ hG;have hl1:=hG.rc.lt;have hl2:=hG.kd.lt;refine aO (by rfl) rfl ?_;go_simp;exact hK _ _ ⟨rfl,hG⟩
          |5,_=>
           rw[hp 4 (by kernel_rfl)]at hK⊢;obtain⟨C0,C1,C2,_⟩:=HC.o _ hG;have hl1:=hG.rc.lt;have hl2:=hG.kd.lt;refine aO (by rfl) rfl ?_;go_simp;exact hK _ _ ⟨rfl,hG⟩
          |6,_=>
           rw[hp 3 (by kernel_rfl),hp 5 (by kernel_rfl)]at hK⊢;refine aO (by rfl) rfl ?_;go_simp;refine(HI.o _).mono ?_;rintro e w9 ⟨rfl,rfl⟩;exact hK _ _ ⟨rfl,hG⟩
          |7,_=>
           rw[hp 6 (by kernel_rfl)]at hK⊢;refine aO (by rfl) rfl ?_;go_simp;exact hK _ _ ⟨rfl,hG⟩
          |8,_|9,_|10,_|11,_=>
           rw[hp 7 (by kernel_rfl)]at hK⊢;exact pJ (by rfl) (by kernel_rfl) (hK _ _ ⟨rfl,hG⟩)
          |12,_=>
           rw[hp 7 (by kernel_rfl),hp 11 (by kernel_rfl)]at hK⊢;refine aO (by rfl) rfl ?_;go_simp;exact hK _ _ ⟨rfl,hG⟩
          |14,_=>
           rw[hp 13 (by kernel_rfl)]at hK⊢;obtain⟨C0,C1,C2,_⟩:=HC.o _ hG;have hl1:=hG.rc.lt;have hl2:=hG.kd.lt;refine aO (by rfl) rfl ?_;go_simp;exact hK _ _ ⟨rfl,hG⟩
          |15,_=>
           rw[hp 14 (by kernel_rfl)]at hK⊢;refine aO (by rfl) rfl ?_;go_simp;exact hK _ _ ⟨rfl,hG⟩
          |16,_=>
           rw[hp 15 (by kernel_rfl)]at hK⊢;refine aO (by rfl) rfl ?_;go_simp;exact hK _ _ ⟨rfl,hG⟩
          |17,_=>
           rw[hp 16 (by kernel_rfl)]at hK⊢;refine gG (by rfl) (by kernel_rfl) ?_;go_simp;exact hK _ _ ⟨rfl,hG⟩
          |18,_=>
           rw[hp 16 (by kernel_rfl),hp 17 (by kernel_rfl)]at hK⊢;obtain⟨C0,C1,C2,_⟩:=HC.o _ hG;have hl1:=hG.rc.lt;have hl2:=hG.kd.lt;refine gG (by rfl) (by kernel_rfl) ?_;go_simp;exact hK _ _ ⟨rfl,hG⟩
          |19,_=>
           rw[hp 16 (by kernel_rfl),hp 18 (by kernel_rfl)]at hK⊢;refine gG (by rfl) (by kernel_rfl) ?_;go_simp;exact hK _ _ ⟨rfl,hG⟩
          |20,_=>
           rw[hp 16 (by kernel_rfl),hp 19 (by kernel_rfl)]at hK⊢;refine aO (by rfl) rfl ?_;go_simp;exact hK _ _ ⟨rfl,hG⟩
          |21,_=>
           rw[hp 0 (by kernel_rfl),hp 2 (by kernel_rfl),hp 12 (by kernel_rfl),hp 20 (by kernel_rfl)]at hK⊢;refine aO (by rfl) rfl ?_;go_simp;refine(ji q true false false true _ (St.is hG)).mono ?_;rintro e w8 ⟨rfl,q8,t8⟩;exact hK _ _ ⟨rfl,hG.fits q8 t8⟩
          |i+22,hi=>exact absurd hi (by simp)
     case done=>
          intro w8 hG;have HS:=U hG;clear hG;simp only[puts,Act.put,List.setIfInBounds_toArray,List.set_cons_succ,List.set_cons_zero,Nat.reduceAdd];go_wp2_with fail
          go_meet
          case rel=>exact HS.o
    ·have HC:=U (λW (h:St r p q s g wz W)=>h.c6 (b:=true) (d:=r.dir) (n:=B r.name) hE rfl rfl)
     have HI:=U (λW=>Ht r.dir W (HM.o.ent hE).1 (HM.o.ent hE).2.1);have HN:=U (λW=>KU W (HM.o.ent hE).2.2);have n1:((r.dir:Int)==0)=false:=by have:=(HM.o.ent hE).1;simp;omega
     have n2:decide ((r.dir:Int)=0)=false:=by have:=(HM.o.ent hE).1;simp;omega
     clear hE;refine jR 22 (λi=>some (22+i)) (λi=>[.func (.func 106) #[] #[G (some ⟨q,0,none⟩)],G (some ⟨p,1,none⟩),.bool true,.func (.func 103) #[] #[],G (some ⟨wz.heap.size,2,none⟩),.int F r.dir,.bool true,.bool true,.func (.func 104) #[] #[],G (some ⟨wz.heap.size,3,none⟩),.string (B r.name),.bool true,.bool true,G (some ⟨wz.heap.size,2,none⟩),.int F r.dir,.bool false,.bool false,undef,undef,undef,.bool false,τ #[]].getD i undef) (λW=>St r p q s g wz W) (S2.o.drew) (by kernel_rfl) (by kernel_rfl) (by kernel_rfl) (by kernel_rfl) (by kernel_rfl) ?step ?done
     case step=>
          intro i x w1 hi hG hp;refine gu (λK hK=>?_);simp only[puts,Act.put,List.setIfInBounds_toArray,List.set_cons_succ,List.set_cons_zero,Nat.reduceAdd]at hK⊢
          match i,hi with
          |0,_|1,_|3,_|4,_|13,_=>
           refine aO (by rfl) rfl ?_;go_simp;exact hK _ _ ⟨rfl,hG⟩
          |2,_=>
           rw[hp 1 (by kernel_rfl)]at hK⊢;obtain⟨C0,C1,C2,_⟩:=HC.o _ hG;have hl1:=hG.rc.lt;have hl2:=hG.kd.lt;refine aO (by rfl) rfl ?_;go_simp;exact hK _ _ ⟨rfl,hG⟩
          |5,_=>
           rw[hp 4 (by kernel_rfl)]at hK⊢;obtain⟨C0,C1,C2,_⟩:=HC.o _ hG;have hl1:=hG.rc.lt;have hl2:=hG.kd.lt;refine aO (by rfl) rfl ?_;go_simp;exact hK _ _ ⟨rfl,hG⟩
          |6,_=>
           rw[hp 3 (by kernel_rfl),hp 5 (by kernel_rfl)]at hK⊢;refine aO (by rfl) rfl ?_;go_simp;refine(HI.o _).mono ?_;rintro e w9 ⟨rfl,rfl⟩;exact hK _ _ ⟨rfl,hG⟩
          |7,_=>
           rw[hp 6 (by kernel_rfl)]at hK⊢;refine aO (by rfl) rfl ?_;go_simp;exact hK _ _ ⟨rfl,hG⟩
          |8,_|9,_=>
           rw[hp 7 (by kernel_rfl)]at hK⊢;refine gG (by rfl) (by kernel_rfl) ?_;go_simp;exact hK _ _ ⟨rfl,hG⟩
          |10,_=>
           rw[hp 7 (by kernel_rfl),hp 9 (by kernel_rfl)]at hK⊢;obtain⟨C0,C1,C2,_⟩:=HC.o _ hG;have hl1:=hG.rc.lt;have hl2:=hG.kd.lt;refine gG (by rfl) (by kernel_rfl) ?_;go_simp;exact hK _ _ ⟨rfl,hG⟩
          |11,_=>
           rw[hp 7 (by kernel_rfl),hp 8 (by kernel_rfl),hp 10 (by kernel_rfl)]at hK⊢;refine gG (by rfl) (by kernel_rfl) ?_;go_simp;refine(HN.o _).mono ?_;rintro e w9 ⟨rfl,kT⟩;exact hK _ _ ⟨rfl,hG.later kT⟩
          |12,_=>
           rw[hp 7 (by kernel_rfl),hp 11 (by kernel_rfl)]at hK⊢;refine aO (by rfl) rfl ?_;go_simp;exact hK _ _ ⟨rfl,hG⟩
          |14,_=>
           rw[hp 13 (by kernel_rfl)]at hK⊢;obtain⟨C0,C1,C2,_⟩:=HC.o _ hG;have hl1:=hG.rc.lt;have hl2:=hG.kd.lt;refine aO (by rfl) rfl ?_;go_simp;exact hK _ _ ⟨rfl,hG⟩
          |15,_=>
           rw[hp 14 (by kernel_rfl)]at hK⊢;refine aO (by rfl) rfl ?_;go_simp;exact hK _ _ ⟨rfl,hG⟩
          |16,_=>
           rw[hp 15 (by kernel_rfl)]at hK⊢;refine aO (by rfl) rfl ?_;go_simp;exact hK _ _ ⟨rfl,hG⟩
          |17,_|18,_|19,_=>
           rw[hp 16 (by kernel_rfl)]at hK⊢;exact pJ (by rfl) (by kernel_rfl) (hK _ _ ⟨rfl,hG⟩)
          |20,_=>
           rw[hp 16 (by kernel_rfl),hp 19 (by kernel_rfl)]at hK⊢;refine aO (by rfl) rfl ?_;go_simp;exact hK _ _ ⟨rfl,hG⟩
          |21,_=>
           rw[hp 0 (by kernel_rfl),hp 2 (by kernel_rfl),hp 12 (by kernel_rfl),hp 20 (by kernel_rfl)]at hK⊢;refine aO (by rfl) rfl ?_;go_simp;refine(ji q true true true false _ (St.is hG)).mono ?_;rintro e w8 ⟨rfl,q8,t8⟩;exact hK _ _ ⟨rfl,hG.fits q8 t8⟩
          |i+22,hi=>exact absurd hi (by simp)
     case done=>
          intro w8 hG;have HS:=U hG;clear hG;simp only[puts,Act.put,List.setIfInBounds_toArray,List.set_cons_succ,List.set_cons_zero,Nat.reduceAdd];go_wp2_with fail
          go_meet
          case rel=>exact HS.o
  case rest=>
   as_aux_lemma=>
    have S3:=U hcut;clear hcut S2
    go_upto_region 7 with fail
    go_cut [] (λwx=>St r p q s g wz wx)
    case first=>
     as_aux_lemma=>
          have hlq:=S3.o.is.lt;have hlp:=S3.o.kd.lt;have hlr:=S3.o.rc.lt;cases hE:nk r.op
          ·obtain⟨c1,c2⟩:=S3.o.ck (k:=0) hE (by rw[HM.o.nok hE];rfl)
           clear hE;go_wp2_with fail;refine ak (ji q true false _ true _ S3.o.is) ?_;rintro e w8 ⟨rfl,q8,t8⟩;have HS:=U (S3.o.fits q8 t8);clear q8 t8;go_wp2_with fail
           go_meet
           case rel=>exact HS.o
          ·rcases HM.o.JS hE with hk|hk
           ·obtain⟨c1,c2⟩:=S3.o.ck (k:=1) hE (by rw[hk];rfl)
            clear hE hk;go_wp2_with fail;refine ak (ji q true true true _ _ S3.o.is) ?_;rintro e w8 ⟨rfl,q8,t8⟩;have HS:=U (S3.o.fits q8 t8);clear q8 t8;go_wp2_with fail
            go_meet
            case rel=>exact HS.o
           ·obtain⟨c1,c2⟩:=S3.o.ck (k:=2) hE (by rw[hk];rfl)
            clear hE hk;go_wp2_with fail;refine ak (ji q true true true _ _ S3.o.is) ?_;rintro e w8 ⟨rfl,q8,t8⟩;have HS:=U (S3.o.fits q8 t8);clear q8 t8;go_wp2_with fail
            go_meet
            case rel=>exact HS.o
    case rest=>
     as_aux_lemma=>
          have S4:=U hcut;clear hcut S3
          go_upto_region 8 with fail
          go_cut [] (λwx=>St r p q s g wz wx)
          case first=>
           as_aux_lemma=>
            cases hE:nu r.op
            ·have HC:=U (λW (h:St r p q s g wz W)=>h.c8 (b:=false) (d:=0) (o:=0) (n:=⟨#[]⟩) hE (by rw[(HM.o.nom hE).1];rfl) (by rw[(HM.o.nom hE).2.1];rfl) (by rw[(HM.o.nom hE).2.2];rfl))
             have HI:=U Rp;clear hE;refine jR 32 (λi=>some (59+i)) (λi=>[.func (.func 106) #[] #[G (some ⟨q,0,none⟩)],G (some ⟨p,3,none⟩),.bool false,.func (.func 103) #[] #[],G (some ⟨wz.heap.size,6,none⟩),.int F 0,.bool false,.bool false,undef,undef,undef,undef,.bool false,.bool false,undef,undef,undef,.bool false,G (some ⟨wz.heap.size,6,none⟩),.int F 0,.bool true,.bool true,G (some ⟨wz.heap.size,7,none⟩),.string ⟨#[]⟩,.bool true,.bool true,.bool true,G (some ⟨wz.heap.size,8,none⟩),.int F 0,.bool true,.bool true,τ #[]].getD i undef) (λW=>St r p q s g wz W) (S4.o.drew) (by kernel_rfl) (by kernel_rfl) (by kernel_rfl) (by kernel_rfl) (by kernel_rfl) ?step ?done
             case step=>
              intro i x w1 hi hG hp;refine gu (λK hK=>?_);simp only[puts,Act.put,List.setIfInBounds_toArray,List.set_cons_succ,List.set_cons_zero,Nat.reduceAdd]at hK⊢
              match i,hi with
              |0,_|1,_|3,_|4,_|18,_=>
               refine aO (by rfl) rfl ?_;go_simp;exact hK _ _ ⟨rfl,hG⟩
              |2,_=>
               rw[hp 1 (by kernel_rfl)]at hK⊢;obtain⟨C0,C1,C2,C3,_⟩:=HC.o _ hG;have hl1:=hG.rc.lt;have hl2:=hG.kd.lt;refine aO (by rfl) rfl ?_;go_simp;exact hK _ _ ⟨rfl,hG⟩
              |5,_=>
               rw[hp 4 (by kernel_rfl)]at hK⊢;obtain⟨C0,C1,C2,C3,_⟩:=HC.o _ hG;have hl1:=hG.rc.lt;have hl2:=hG.kd.lt;refine aO (by rfl) rfl ?_;go_simp;exact hK _ _ ⟨rfl,hG⟩
              |6,_=>
               rw[hp 3 (by kernel_rfl),hp 5 (by kernel_rfl)]at hK⊢;refine aO (by rfl) rfl ?_;go_simp;refine(HI.o _).mono ?_;rintro e w9 ⟨rfl,rfl⟩;exact hK _ _ ⟨rfl,hG⟩
              |7,_=>
               rw[hp 6 (by kernel_rfl)]at hK⊢;refine aO (by rfl) rfl ?_;go_simp;exact hK _ _ ⟨rfl,hG⟩
              |8,_|9,_|10,_|11,_=>
               rw[hp 7 (by kernel_rfl)]at hK⊢;exact pJ (by rfl) (by kernel_rfl) (hK _ _ ⟨rfl,hG⟩)
              |12,_=>
               rw[hp 7 (by kernel_rfl),hp 11 (by kernel_rfl)]at hK⊢;refine aO (by rfl) rfl ?_;go_simp;exact hK _ _ ⟨rfl,hG⟩
              |13,_=>
               rw[hp 12 (by kernel_rfl)]at hK⊢;refine aO (by rfl) rfl ?_;go_simp;exact hK _ _ ⟨rfl,hG⟩
              |14,_|15,_|16,_=>
               rw[hp 13 (by kernel_rfl)]at hK⊢;exact pJ (by rfl) (by kernel_rfl) (hK _ _ ⟨rfl,hG⟩)
              |17,_=>
               rw[hp 13 (by kernel_rfl),hp 16 (by kernel_rfl)]at hK⊢;refine aO (by rfl) rfl ?_;go_simp;exact hK _ _ ⟨rfl,hG⟩
              |19,_=>
               rw[hp 18 (by kernel_rfl)]at hK⊢;obtain⟨C0,C1,C2,C3,_⟩:=HC.o _ hG;have hl1:=hG.rc.lt;have hl2:=hG.kd.lt;refine aO (by rfl) rfl ?_;go_simp;exact hK _ _ ⟨rfl,hG⟩
              |20,_=>
               rw[hp 19 (by kernel_rfl)]at hK⊢;refine aO (by rfl) rfl ?_;go_simp;exact hK _ _ ⟨rfl,hG⟩
              |21,_=>
               rw[hp 20 (by kernel_rfl)]at hK⊢;refine aO (by rfl) rfl ?_;go_simp;exact hK _ _ ⟨rfl,hG⟩
              |22,_=>
               rw[hp 21 (by kernel_rfl)]at hK⊢;refine gG (by rfl) (by kernel_rfl) ?_;go_simp;exact hK _ _ ⟨rfl,hG⟩
              |23,_=>
               rw[hp 21 (by kernel_rfl),hp 22 (by kernel_rfl)]at hK⊢;obtain⟨C0,C1,C2,C3,_⟩:=HC.o _ hG;have hl1:=hG.rc.lt;have hl2:=hG.kd.lt;refine gG (by rfl) (by kernel_rfl) ?_;go_simp;exact hK _ _ ⟨rfl,hG⟩
              |24,_=>
               rw[hp 21 (by kernel_rfl),hp 23 (by kernel_rfl)]at hK⊢;refine gG (by rfl) (by kernel_rfl) ?_;go_simp;exact hK _ _ ⟨rfl,hG⟩
              |25,_=>
               rw[hp 21 (by kernel_rfl),hp 24 (by kernel_rfl)]at hK⊢;refine aO (by rfl) rfl ?_;go_simp;exact hK _ _ ⟨rfl,hG⟩
              |26,_=>
               rw[hp 25 (by kernel_rfl)]at hK⊢;refine aO (by rfl) rfl ?_;go_simp;exact hK _ _ ⟨rfl,hG⟩
              |27,_=>
               rw[hp 26 (by kernel_rfl)]at hK⊢;refine gG (by rfl) (by kernel_rfl) ?_;go_simp;exact hK _ _ ⟨rfl,hG⟩
              |28,_=>
               rw[hp 26 (by kernel_rfl),hp 27 (by kernel_rfl)]at hK⊢;obtain⟨C0,C1,C2,C3,_⟩:=HC.o _ hG;have hl1:=hG.rc.lt;have hl2:=hG.kd.lt;refine gG (by rfl) (by kernel_rfl) ?_;go_simp;exact hK _ _ ⟨rfl,hG⟩
              |29,_=>
               rw[hp 26 (by kernel_rfl),hp 28 (by kernel_rfl)]at hK⊢;refine gG (by rfl) (by kernel_rfl) ?_;go_simp;exact hK _ _ ⟨rfl,hG⟩
              |30,_=>
               rw[hp 26 (by kernel_rfl),hp 29 (by kernel_rfl)]at hK⊢;refine aO (by rfl) rfl ?_;go_simp;exact hK _ _ ⟨rfl,hG⟩
              |31,_=>
               rw[hp 0 (by kernel_rfl),hp 2 (by kernel_rfl),hp 17 (by kernel_rfl),hp 30 (by kernel_rfl)]at hK⊢;refine aO (by rfl) rfl ?_;go_simp;refine(ji q true false false true _ (St.is hG)).mono ?_;rintro e w8 ⟨rfl,q8,t8⟩;exact hK _ _ ⟨rfl,hG.fits q8 t8⟩
              |i+32,hi=>exact absurd hi (by simp)
             case done=>
              intro w8 hG;have HS:=U hG;clear hG;simp only[puts,Act.put,List.setIfInBounds_toArray,List.set_cons_succ,List.set_cons_zero,Nat.reduceAdd];go_wp2_with fail
              go_meet
              case rel=>exact HS.o
            ·have HC:=U (λW (h:St r p q s g wz W)=>h.c8 (b:=true) (d:=r.bV) (o:=r.old) (n:=B r.name2) hE rfl rfl rfl)
             have HI:=U (λW=>Ht r.bV W (HM.o.gE hE).1 (HM.o.gE hE).2.1);have HN:=U (λW=>KU W (HM.o.gE hE).2.2.1);have n1:((r.bV:Int)==0)=false:=by have:=(HM.o.gE hE).1;simp;omega
             have n2:decide ((r.bV:Int)=0)=false:=by have:=(HM.o.gE hE).1;simp;omega
             have n3:decide ((r.old:Int)<=256)=true:=by have:=(HM.o.gE hE).2.2.2;simp;omega
             clear hE;refine jR 32 (λi=>some (59+i)) (λi=>[.func (.func 106) #[] #[G (some ⟨q,0,none⟩)],G (some ⟨p,3,none⟩),.bool true,.func (.func 103) #[] #[],G (some ⟨wz.heap.size,6,none⟩),.int F r.bV,.bool true,.bool true,.func (.func 104) #[] #[],G (some ⟨wz.heap.size,7,none⟩),.string (B r.name2),.bool true,.bool true,.bool true,G (some ⟨wz.heap.size,8,none⟩),.int F r.old,.bool true,.bool true,G (some ⟨wz.heap.size,6,none⟩),.int F r.bV,.bool false,.bool false,undef,undef,undef,.bool false,.bool false,undef,undef,undef,.bool false,τ #[]].getD i undef) (λW=>St r p q s g wz W) (S4.o.drew) (by kernel_rfl) (by kernel_rfl) (by kernel_rfl) (by kernel_rfl) (by kernel_rfl) ?step ?done
             case step=>
              intro i x w1 hi hG hp;refine gu (λK hK=>?_);simp only[puts,Act.put,List.setIfInBounds_toArray,List.set_cons_succ,List.set_cons_zero,Nat.reduceAdd]at hK⊢
              match i,hi with
              |0,_|1,_|3,_|4,_|18,_=>
               refine aO (by rfl) rfl ?_;go_simp;exact hK _ _ ⟨rfl,hG⟩
              |2,_=>
               rw[hp 1 (by kernel_rfl)]at hK⊢;obtain⟨C0,C1,C2,C3,_⟩:=HC.o _ hG;have hl1:=hG.rc.lt;have hl2:=hG.kd.lt;refine aO (by rfl) rfl ?_;go_simp;exact hK _ _ ⟨rfl,hG⟩
              |5,_=>
               rw[hp 4 (by kernel_rfl)]at hK⊢;obtain⟨C0,C1,C2,C3,_⟩:=HC.o _ hG;have hl1:=hG.rc.lt;have hl2:=hG.kd.lt;refine aO (by rfl) rfl ?_;go_simp;exact hK _ _ ⟨rfl,hG⟩
              |6,_=>
               rw[hp 3 (by kernel_rfl),hp 5 (by kernel_rfl)]at hK⊢;refine aO (by rfl) rfl ?_;go_simp;refine(HI.o _).mono ?_;rintro e w9 ⟨rfl,rfl⟩;exact hK _ _ ⟨rfl,hG⟩
              |7,_=>
               rw[hp 6 (by kernel_rfl)]at hK⊢;refine aO (by rfl) rfl ?_;go_simp;exact hK _ _ ⟨rfl,hG⟩
              |8,_|9,_=>
               rw[hp 7 (by kernel_rfl)]at hK⊢;refine gG (by rfl) (by kernel_rfl) ?_;go_simp;exact hK _ _ ⟨rfl,hG⟩
              |10,_=>
               rw[hp 7 (by kernel_rfl),hp 9 (by kernel_rfl)]at hK⊢;obtain⟨C0,C1,C2,C3,_⟩:=HC.o _ hG;have hl1:=hG.rc.lt;have hl2:=hG.kd.lt;refine gG (by rfl) (by kernel_rfl) ?_;go_simp;exact hK _ _ ⟨rfl,hG⟩
              |11,_=>
               rw[hp 7 (by kernel_rfl),hp 8 (by kernel_rfl),hp 10 (by kernel_rfl)]at hK⊢;refine gG (by rfl) (by kernel_rfl) ?_;go_simp;refine(HN.o _).mono ?_;rintro e w9 ⟨rfl,kT⟩;exact hK _ _ ⟨rfl,hG.later kT⟩
              |12,_=>
               rw[hp 7 (by kernel_rfl),hp 11 (by kernel_rfl)]at hK⊢;refine aO (by rfl) rfl ?_;go_simp;exact hK _ _ ⟨rfl,hG⟩
              |13,_=>
               rw[hp 12 (by kernel_rfl)]at hK⊢;refine aO (by rfl) rfl ?_;go_simp;exact hK _ _ ⟨rfl,hG⟩
              |14,_=>
               rw[hp 13 (by kernel_rfl)]at hK⊢;refine gG (by rfl) (by kernel_rfl) ?_;go_simp;exact hK _ _ ⟨rfl,hG⟩
              |15,_=>
               rw[hp 13 (by kernel_rfl),hp 14 (by kernel_rfl)]at hK⊢;obtain⟨C0,C1,C2,C3,_⟩:=HC.o _ hG;have hl1:=hG.rc.lt;have hl2:=hG.kd.lt;refine gG (by rfl) (by kernel_rfl) ?_;go_simp;exact hK _ _ ⟨rfl,hG⟩
              |16,_=>
               rw[hp 13 (by kernel_rfl),hp 15 (by kernel_rfl)]at hK⊢;refine gG (by rfl) (by kernel_rfl) ?_;go_simp;exact hK _ _ ⟨rfl,hG⟩
              |17,_=>
               rw[hp 13 (by kernel_rfl),hp 16 (by kernel_rfl)]at hK⊢;refine aO (by rfl) rfl ?_;go_simp;exact hK _ _ ⟨rfl,hG⟩
              |19,_=>
               rw[hp 18 (by kernel_rfl)]at hK⊢;obtain⟨C0,C1,C2,C3,_⟩:=HC.o _ hG;have hl1:=hG.rc.lt;have hl2:=hG.kd.lt;refine aO (by rfl) rfl ?_;go_simp;exact hK _ _ ⟨rfl,hG⟩
              |20,_=>
               rw[hp 19 (by kernel_rfl)]at hK⊢;refine aO (by rfl) rfl ?_;go_simp;exact hK _ _ ⟨rfl,hG⟩
              |21,_=>
               rw[hp 20 (by kernel_rfl)]at hK⊢;refine aO (by rfl) rfl ?_;go_simp;exact hK _ _ ⟨rfl,hG⟩
              |22,_|23,_|24,_=>
               rw[hp 21 (by kernel_rfl)]at hK⊢;exact pJ (by rfl) (by kernel_rfl) (hK _ _ ⟨rfl,hG⟩)
              |25,_=>
               rw[hp 21 (by kernel_rfl),hp 24 (by kernel_rfl)]at hK⊢;refine aO (by rfl) rfl ?_;go_simp;exact hK _ _ ⟨rfl,hG⟩
              |26,_=>
               rw[hp 25 (by kernel_rfl)]at hK⊢;refine aO (by rfl) rfl ?_;go_simp;exact hK _ _ ⟨rfl,hG⟩
              |27,_|28,_|29,_=>
               rw[hp 26 (by kernel_rfl)]at hK⊢;exact pJ (by rfl) (by kernel_rfl) (hK _ _ ⟨rfl,hG⟩)
              |30,_=>
               rw[hp 26 (by kernel_rfl),hp 29 (by kernel_rfl)]at hK⊢;refine aO (by rfl) rfl ?_;go_simp;exact hK _ _ ⟨rfl,hG⟩
              |31,_=>
               rw[hp 0 (by kernel_rfl),hp 2 (by kernel_rfl),hp 17 (by kernel_rfl),hp 30 (by kernel_rfl)]at hK⊢;refine aO (by rfl) rfl ?_;go_simp;refine(ji q true true true false _ (St.is hG)).mono ?_;rintro e w8 ⟨rfl,q8,t8⟩;exact hK _ _ ⟨rfl,hG.fits q8 t8⟩
              |i+32,hi=>exact absurd hi (by simp)
             case done=>
              intro w8 hG;have HS:=U hG;clear hG;simp only[puts,Act.put,List.setIfInBounds_toArray,List.set_cons_succ,List.set_cons_zero,Nat.reduceAdd];go_wp2_with fail
              go_meet
              case rel=>exact HS.o
          case rest=>
           as_aux_lemma=>
            have S5:=U hcut;clear hcut S4
            go_upto_region 9 with fail
            go_cut [] (λwx=>St r p q s g wz wx)
            case first=>
             as_aux_lemma=>
              have hlq:=S5.o.is.lt;have hlp:=S5.o.kd.lt;have hlr:=S5.o.rc.lt;cases hE:oF r.op
              ·obtain⟨c1,c2⟩:=S5.o.cs (k:=0) hE (by rw[HM.o.nos hE];rfl)
               clear hE;go_wp2_with fail;refine ak (ji q true false _ true _ S5.o.is) ?_;rintro e w8 ⟨rfl,q8,t8⟩;have HS:=U (S5.o.fits q8 t8);clear q8 t8;go_wp2_with fail
               go_meet
               case rel=>exact HS.o
              ·obtain⟨c1,c2⟩:=S5.o.cs (k:=r.size) hE rfl
               have n1:decide ((2304:Int)<(r.size:Int))=false:=by have:=HM.o.siz hE;simp;omega
               clear hE;go_wp2_with fail;refine ak (ji q true true true _ _ S5.o.is) ?_;rintro e w8 ⟨rfl,q8,t8⟩;have HS:=U (S5.o.fits q8 t8);clear q8 t8;go_wp2_with fail
               go_meet
               case rel=>exact HS.o
            case rest=>
             as_aux_lemma=>
              have S6:=U hcut;clear hcut S5
              go_upto_region 10 with fail
              go_cut [] (λwx=>St r p q s g wz wx)
              case first=>
                   as_aux_lemma=>
                    have hlq:=S6.o.is.lt;have hlp:=S6.o.kd.lt;have hlr:=S6.o.rc.lt;cases hE:pG r.op
                    ·obtain⟨c1,c2,c3⟩:=S6.o.cd (k:=0) (n:=⟨#[]⟩) hE (by rw[(HM.o.nod hE).1];rfl) (by rw[(HM.o.nod hE).2];rfl)
                     clear hE;go_wp2_with fail;refine ak (ji q true false _ true _ S6.o.is) ?_;rintro e w8 ⟨rfl,q8,t8⟩;have HS:=U (S6.o.fits q8 t8);clear q8 t8;go_wp2_with fail
                     go_meet
                     case rel=>exact HS.o
                    ·obtain⟨h36,h64⟩:=HM.o.dat hE
                     obtain⟨c1,c2,c3⟩:=S6.o.cd (k:=r.page) (n:=B r.data) hE rfl rfl;have z64:((B r.data).size:Int)=64:=by rw[aV,h64];rfl
                     have n1:decide ((0:Int)<=(r.page:Int))=true:=by simp
                     have n2:decide ((r.page:Int)<36)=true:=by simp;omega
                     have n4:r.data≠[]:=λe=>by rw[e]at h64;cases h64
                     have n5:(r.data==[])=false:=by simpa using n4
                     have n6:decide (r.data=[])=false:=by simpa using n4
                     have n7:((B r.data).toList==[])=false:=by rw[dB,iy];simpa using n4
                     have n8:(B r.data).toList.isEmpty=false:=by rw[dB,iy];cases h:r.data with|nil=>exact absurd h n4|cons=>rfl
                     clear hE h36 h64
                     by_cases h0:r.page=0
                     ·have n9:((r.page:Int)==0)=true:=by rw[h0];rfl
                      have n10:decide ((r.page:Int)=0)=true:=by rw[h0];rfl
                      clear h0;go_wp2_with fail;refine ak (ji q true true true _ _ S6.o.is) ?_;rintro e w8 ⟨rfl,q8,t8⟩;have HS:=U (S6.o.fits q8 t8);clear q8 t8;go_wp2_with fail
                      go_meet
                      case rel=>exact HS.o
                     ·have n9:((r.page:Int)==0)=false:=by simp;omega
                      have n10:decide ((r.page:Int)=0)=false:=by simp;omega
                      clear h0;go_wp2_with fail;refine ak (ji q true true true _ _ S6.o.is) ?_;rintro e w8 ⟨rfl,q8,t8⟩;have HS:=U (S6.o.fits q8 t8);clear q8 t8;go_wp2_with fail
                      go_meet
                      case rel=>exact HS.o
              case rest=>
                   as_aux_lemma=>
                    have S7:=U hcut;have cq:=hcut.is.cell 0;have hlq:=hcut.is.lt;simp only[au,av]at cq;clear hcut S6;go_wp2_with fail;go_ret;exact⟨rfl,S7.o.be⟩
