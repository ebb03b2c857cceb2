/- Lemmas. -/
import Derived.Test.YtpendnmmgjlmfaaGreatDoorM54
import Derived.Deep.RegionHeld3
import Derived.Laws.Rows
import Derived.Maps.OwnSet
import Derived.Maps.OwnOps
import Derived.Maps.Views
import Derived.Lib.SlKeysI
import Derived.BigGuard
import Derived.RangeFuncWrites
import Derived.Deep.Quiet
set_option linter.unusedVariables false
set_option linter.unusedSimpArgs false
namespace Go.Proofs.YtpendnmmgjlmfaaGreatDoor
open Go.Proofs.Tryz
open IntKind renaming u16→I,i64→J,u32→F,u8→aF
open Value renaming pointer→G,int->ι,string->σ,bool->ν,tuple->τ
open Ending renaming returned→aG
open Obj renaming cells→aH
set_option maxRecDepth 100000
section
open Go.RowKit Go.Shelf
def aN (W:World) (b:Nat) (t:TypeId) (cs:Array Value):Prop:=W.heap[b]? =some (aH cs t (0,0))
theorem aN.lt {W:World} {b:Nat} {t:TypeId} {cs:Array Value} (h:aN W b t cs):b<W.heap.size:=(Array.getElem?_eq_some_iff.1 h).1
theorem aN.cell {W:World} {b:Nat} {t:TypeId} {cs:Array Value} (h:aN W b t cs) (i:Nat):W.cell? ⟨b,i,none⟩=cs[i]? :=by
 unfold aN at h
 simp[World.cell?,h]
theorem aN.free {W:World} {b:Nat} {t:TypeId} {cs:Array Value} (h:aN W b t cs) (i:Nat):W.frozen? ⟨b,i,none⟩=false:=by
 unfold aN at h
 simp[World.frozen?,h]
theorem aN.below {W W':World} {b n:Nat} {t:TypeId} {cs:Array Value} (h:aN W b t cs) (hn:b<n) (hb:Below n W W'):aN W' b t cs:=(hb.block b hn).trans h
theorem aN.later {W W':World} {b:Nat} {t:TypeId} {cs:Array Value} (h:aN W b t cs) (hb:Below W.heap.size W W'):aN W' b t cs:=h.below h.lt hb
theorem aN.new (W:World) (t:TypeId) (cs:Array Value):aN (W.alloc (aH cs t)) W.heap.size t cs:=World.alloc_heap_new W _
theorem aN.alloc {W:World} {b:Nat} {t:TypeId} {cs:Array Value} (h:aN W b t cs) (o:Obj):aN (W.alloc o) b t cs:=h.later ((aj _ _).alloc (ah _) o)
theorem aN.other {W:World} {b:Nat} {t:TypeId} {cs:Array Value} (h:aN W b t cs) {c i:Nat} (v:Value) (hc:b≠c):aN (W.setCell ⟨c,i,none⟩ v) b t cs:=(heap_setCell_other W ⟨c,i,none⟩ b v hc).trans h
theorem aN.set {W:World} {b:Nat} {t:TypeId} {cs:Array Value} (h:aN W b t cs) (i:Nat) (v:Value):aN (W.setCell ⟨b,i,none⟩ v) b t (cs.setIfInBounds i v):=heap_setCell_same W b i _ _ v h
theorem aN.drew {W:World} {b:Nat} {t:TypeId} {cs:Array Value} (h:aN W b t cs):aN W.drew b t cs:=h
theorem aN.kept {W W':World} {row:Option Nat} {b:Nat} {t:TypeId} {cs:Array Value} (h:aN W b t cs) (hg:W.grownBy W' row) (hne:some b≠row):aN W' b t cs:=(hg.block b h.lt hne).trans h
open Go.Maps
abbrev lH:=Value->Option (DataW Unit×List MemPlace)
def dM (W:World) (R:lH) (b nn:Nat) (f:Int->Option (DataW Unit)):Prop:=
 ∃D,W.ownsMap prog 3 R b nn D/\∀x:Int,has D (.int J x)=(f x).isSome/\∀z,D.atKey (.int J x) z=(f x).getD z
section
variable {W W':World} {R:lH} {b nn:Nat} {f:Int->Option (DataW Unit)}
theorem dM.lt (h:dM W R b nn f):b<W.heap.size:=by obtain⟨D,h1,_⟩:=h;exact h1.lt
theorem dM.kept {row:Option Nat} (h:dM W R b nn f) (hg:W.grownBy W' row) (hne:some b≠row):dM W' R b nn f:=by
 obtain⟨D,h1,h2⟩:=h;exact⟨D,h1.kept hg hne,h2⟩
theorem dM.block (h:dM W R b nn f) (hb:W'.heap[b]? =W.heap[b]?):dM W' R b nn f:=by
 obtain⟨D,⟨es,clock,h1,r⟩,h2⟩:=h;exact⟨D,⟨es,clock,hb.trans h1,r⟩,h2⟩
theorem dM.below {n:Nat} (h:dM W R b nn f) (hn:b<n) (hb:Below n W W'):dM W' R b nn f:=h.block (hb.block b hn)
theorem dM.later (h:dM W R b nn f) (hb:Below W.heap.size W W'):dM W' R b nn f:=h.below h.lt hb
theorem dM.alloc (h:dM W R b nn f) (o:Obj):dM (W.alloc o) R b nn f:=h.later ((aj _ _).alloc (ah _) o)
theorem dM.drew (h:dM W R b nn f):dM W.drew R b nn f:=h
theorem dM.other (h:dM W R b nn f) {c i:Nat} (v:Value) (hc:b≠c):dM (W.setCell ⟨c,i,none⟩ v) R b nn f:=h.block (heap_setCell_other W ⟨c,i,none⟩ b v hc)
theorem dM.isMap (h:dM W R b nn f):∃es clock,W.heap[b]? =some (.map es clock):=by
 obtain⟨D,⟨es,clock,h1,_⟩,_⟩:=h;exact⟨es,clock,h1⟩
theorem dM.ne (h:dM W R b nn f) {c:Nat} {t:TypeId} {cs:Array Value} {fr:Nat×Nat} (hc:W.heap[c]? =some (aH cs t fr)):c≠b:=λe=>by
 obtain⟨es,clock,h1⟩:=h.isMap;subst e;rw[hc]at h1;cases h1
theorem dM.new (W:World) (R:lH):dM (W.alloc (.map #[] 0)) R W.heap.size 0 (λ_=>none):=⟨.map [],World.ownsMap_made _ _ _ _,λx=>⟨rfl,λz=>rfl⟩⟩
theorem dM.look_ok (h:dM W R b nn f) {t e:TypeId} (ht:prog.underlying t=some (.map 3 e)) {z:Value} (hz:(zeroValue e).run prog W=.ok z W) {zd:DataW Unit} {zp:List MemPlace} (hzd:R z=some (zd,zp))
 (x:Int) (hx:(Lit.int J x).wf=true):∃v ps,(Instr.lookup t (.map (some b)) (.int J x) true).run prog W=.ok (τ #[v,.bool (f x).isSome]) W/\R v=some ((f x).getD zd,ps):=by
 obtain⟨D,h1,h2⟩:=h;obtain⟨v,ps,hrun,hv⟩:=h1.look_ok (Maps.int_keyed underlying3) ht hz hzd (Maps.keyOf_int_mk underlying3 hx);rw[(h2 x).1]at hrun;rw[(h2 x).2]at hv;exact⟨v,ps,hrun,hv⟩
theorem dM.look (h:dM W R b nn f) {t e:TypeId} (ht:prog.underlying t=some (.map 3 e)) {z:Value} (hz:(zeroValue e).run prog W=.ok z W) {zd:DataW Unit} {zp:List MemPlace} (hzd:R z=some (zd,zp))
 (x:Int) (hx:(Lit.int J x).wf=true):∃v ps,(Instr.lookup t (.map (some b)) (.int J x) false).run prog W=.ok v W/\R v=some ((f x).getD zd,ps):=by
 obtain⟨D,h1,h2⟩:=h;obtain⟨v,ps,hrun,hv⟩:=h1.lookup (Maps.int_keyed underlying3) ht hz hzd (Maps.keyOf_int_mk underlying3 hx);rw[(h2 x).2]at hv;exact⟨v,ps,hrun,hv⟩
def qw (f:Int->Option (DataW Unit)) (x:Int) (d:DataW Unit):Int->Option (DataW Unit):=λy=>if y=x then some d else f y
def Xr (f:Int->Option (DataW Unit)) (x:Int):Int->Option (DataW Unit):=λy=>if y=x then none else f y
theorem Jh {x y:Int} (h:y≠x):(Lit.int J y)≠.int J x:=λe=>h (by cases e;rfl)
theorem dM.put (h:dM W R b nn f) {t e:TypeId} (ht:prog.underlying t=some (.map 3 e)) (hn:nn<maxLen) (x:Int) (hx:(Lit.int J x).wf=true) {val:Value} {d:DataW Unit} {ps:List MemPlace} (hv:R val=some (d,ps)):
 ∃W',(Instr.mapUpdate t (.map (some b)) (.int J x) val).run prog W=.ok () W'/\dM W' R b (nn+1) (qw f x d)/\W.mapTurned W' b:=by
 obtain⟨D,h1,h2⟩:=h;obtain⟨W',hrun,r1,r2⟩:=h1.store (Maps.int_keyed underlying3) ht hn (Maps.keyOf_int_mk underlying3 hx) hv;refine⟨W',hrun,⟨_,r1,λy=>?_⟩,r2⟩;unfold qw
 by_cases hy:y=x
 ·subst hy
  rw[if_pos rfl];exact⟨Maps.has_put_same h1.isMap (show WideAt.IsKeyLit (.int J y)from trivial) _,λz=>Maps.atKey_put_same h1.isMap (show WideAt.IsKeyLit (.int J y)from trivial) _ _⟩
 ·rw[if_neg hy,Maps.has_put_other (Jh hy)]
  exact⟨(h2 y).1,λz=>by rw[Maps.atKey_put_other (Jh hy)];exact(h2 y).2 z⟩
theorem dM.del (h:dM W R b nn f) {t e:TypeId} (ht:prog.underlying t=some (.map 3 e)) (x:Int) (hx:(Lit.int J x).wf=true) (ty:TypeId):
 ∃W',(Builtin.delete_ #[t,3] ty #[.map (some b),.int J x]).run prog W=.ok (τ #[]) W'/\dM W' R b nn (Xr f x)/\W.mapTurned W' b:=by
 obtain⟨D,h1,h2⟩:=h;obtain⟨W',hrun,r1,r2⟩:=h1.drop (Maps.int_keyed underlying3) ht (Maps.keyOf_int_mk underlying3 hx) ty;refine⟨W',hrun,⟨_,r1,λy=>?_⟩,r2⟩;unfold Xr
 by_cases hy:y=x
 ·subst hy
  rw[if_pos rfl,Maps.has_del_same];exact⟨rfl,λz=>Maps.atKey_del_same z⟩
 ·rw[if_neg hy,Maps.has_del_other (Jh hy)]
  exact⟨(h2 y).1,λz=>by rw[Maps.atKey_del_other (Jh hy)];exact(h2 y).2 z⟩
end
end
namespace Dev
open Go.RowKit Go.Shelf Go.Maps
structure dN where
 p:Nat
 g:Nat
 m:Nat
def gM (b:dN) (n cap k:Nat):Array Value:=#[.bool false,.int J 0,.bool false,.slice (some b.g) n cap,.map (some b.m),.int .u64 k]
def eZ (W:World) (g:Nat) (l:List ByteArray):Prop:=∃cs:Array Value,W.heap[g]? =some (aH cs 9 (0,0))/\∀i (h:i<l.length),cs[i]? =some (.string l[i])
theorem eZ.lt {W:World} {g:Nat} {l:List ByteArray} (h:eZ W g l):g<W.heap.size:=by
 obtain⟨cs,h1,_⟩:=h;exact(Array.getElem?_eq_some_iff.1 h1).1
theorem eZ.cell {W:World} {g:Nat} {l:List ByteArray} (h:eZ W g l) (i:Nat) (hi:i<l.length):W.cell? ⟨g,i,none⟩=some (.string l[i]):=by
 obtain⟨cs,h1,h2⟩:=h;exact(aN.cell (t:=9) h1 i).trans (h2 i hi)
theorem eZ.free {W:World} {g:Nat} {l:List ByteArray} (h:eZ W g l) (i:Nat):W.frozen? ⟨g,i,none⟩=false:=by
 obtain⟨cs,h1,_⟩:=h;exact aN.free (t:=9) h1 i
theorem eZ.block {W W':World} {g:Nat} {l:List ByteArray} (h:eZ W g l) (hb:W'.heap[g]? =W.heap[g]?):eZ W' g l:=by
 obtain⟨cs,h1,h2⟩:=h;exact⟨cs,hb.trans h1,h2⟩
theorem eZ.set {W:World} {g:Nat} {l:List ByteArray} (h:eZ W g l) (i:Nat) (s:ByteArray):eZ (W.setCell ⟨g,i,none⟩ (.string s)) g (l.set i s):=by
 obtain⟨cs,h1,h2⟩:=h;refine⟨_,aN.set (t:=9) h1 i (.string s),λj hj=>?_⟩;rw[List.length_set]at hj;rw[Array.getElem?_setIfInBounds]
 by_cases e:i=j
 ·subst e
  have hs:i<cs.size:=(Array.getElem?_eq_some_iff.1 (h2 i hj)).1;rw[if_pos rfl,if_pos hs]
  simp
 ·rw[if_neg e,h2 j hj]
  simp[List.getElem_set,e]
def Dh (b c:Nat):DataW Unit:=.agg [.lit (.int J b),.lit (.int J c)]
def row0:DataW Unit:=.agg []
def rowElem:lH:=λv=>match v with
 | .agg cs=>match cs.toList with
   |[.slice none 0 0]=>some (row0,[])
   |[.slice (some ⟨b,0,none⟩) 1 c]=>some (Dh b c,[])
   |_=>none
 |_=>none
theorem mh:rowElem (.agg #[.slice none 0 0])=some (row0,[]):=rfl
theorem rowElem_mk (b c:Nat):rowElem (.agg #[.slice (some b) 1 c])=some (Dh b c,[]):=rfl
theorem xq {v:Value} {ps:List MemPlace} (h:rowElem v=some (row0,ps)):v=.agg #[.slice none 0 0]:=by
 unfold rowElem at h
 split at h
 ·rename_i cs
  split at h
  ·rename_i hm
   congr 1
   exact Array.toList_inj.1 hm
  ·simp[row0,Dh]at h
  ·cases h
 ·cases h
theorem rowElem_inv {v:Value} {b c:Nat} {ps:List MemPlace} (h:rowElem v=some (Dh b c,ps)):v=.agg #[.slice (some b) 1 c]:=by
 unfold rowElem at h
 split at h
 ·rename_i cs
  split at h
  ·simp[row0,Dh]at h
  ·rename_i b2 c2 hm
   simp only[Dh,Option.some.injEq,Prod.mk.injEq,DataW.agg.injEq,List.cons.injEq,DataW.lit.injEq,Lit.int.injEq,true_and,and_true]at h;have e1:b2=b:=by have:=h.1.1;omega
   have e2:c2=c:=by have:=h.1.2;omega
   subst e1 e2
   congr 1
   exact Array.toList_inj.1 hm
  ·cases h
 ·cases h
abbrev iF:=Int->Option (Nat×Nat×ByteArray)
def ng (pd:iF):Int->Option (DataW Unit):=λx=>(pd x).map λe=>Dh e.1 e.2.1
structure bY (W:World) (b:dN) (hard:List ByteArray) (pd:iF) (k:Nat):Prop where
 dev:∃cap,hard.length<=cap/\aN W b.p 150 (gM b hard.length cap k)
 row:eZ W b.g hard
 map:dM W rowElem b.m k (ng pd)
 rows:∀x e,pd x=some e->eZ W e.1 [e.2.2]/\e.1≠b.g
 len:hard.length<=4096
 dom:∀x e,pd x=some e->∃i:Nat,x=i/\i<hard.length
theorem bY.below {W W':World} {b:dN} {hard:List ByteArray} {pd:iF} {k n:Nat} (h:bY W b hard pd k) (hn:W.heap.size<=n) (hb:Below n W W'):bY W' b hard pd k:=by
 obtain⟨⟨cap,h0,h1⟩,h2,h3,h4,h5,h6⟩:=h;exact⟨⟨cap,h0,h1.below (aA h1.lt hn) hb⟩,h2.block (hb.block _ (aA h2.lt hn)),h3.below (aA h3.lt hn) hb,λx e hx=>⟨(h4 x e hx).1.block (hb.block _ (aA (h4 x e hx).1.lt hn)),(h4 x e hx).2⟩,h5,h6⟩
theorem bY.later {W W':World} {b:dN} {hard:List ByteArray} {pd:iF} {k:Nat} (h:bY W b hard pd k) (hb:Below W.heap.size W W'):bY W' b hard pd k:=h.below (ah _) hb
section
variable {b:dN} {hard:List ByteArray} {pd:iF} {k:Nat}
theorem qx (w:World) (h:bY w b hard pd k):Calls prog 60 #[b.p] w λe w'=>e=aG (.int J hard.length)/\w=w':=by
 obtain⟨⟨cap,hcap,hX⟩,_⟩:=h;unfold gM at hX;have X:=hX.cell;have Xl:=hX.lt;clear hX
 go_enter func60,ntmps60
 go_wp2
 go_ret;exact⟨rfl,rfl⟩
theorem xI (w:World) (h:bY w b hard pd k):Calls prog 126 #[b.p] w λe w'=>e=aG (.int J 0)/\w=w':=by
 obtain⟨⟨cap,hcap,hX⟩,_⟩:=h;unfold gM at hX;have X:=hX.cell;have Xl:=hX.lt;clear hX
 go_enter func126,ntmps126
 go_wp2
 go_ret;exact⟨rfl,rfl⟩
def Or (i:Int) (n:Nat):Bool:=decide (0<=i)&&decide (i<(n:Int))
theorem zO (i:Int) (w:World) (h:bY w b hard pd k):Calls prog 127 #[b.p,.int J i] w λe w'=>e=aG (.bool (Or i hard.length))/\w=w':=by
 have LN:=U (qx w h);unfold Or;clear h
 go_enter func127,ntmps127
 by_cases h0:0<=i
 ·have h1:decide (0<=i)=true:=by simpa using h0
  go_wp2_with fail;refine LN.o.mono ?_;rintro e w9 ⟨rfl,rfl⟩
  go_wp2
  go_ret;exact⟨by simp[h0],rfl⟩
 ·have h1:decide (0<=i)=false:=by simpa using h0
  go_wp2
  go_ret;exact⟨by simp[h0],rfl⟩
end
section
variable {b:dN} {hard:List ByteArray} {pd:iF} {k:Nat}
theorem QG {i n:Nat} (h:i<n):Or (i:Int) n=true:=by simp[Or,h]
theorem mQ (i:Nat) (h:i<=1099511627776):(Lit.int J (i:Int)).wf=true:=by
 simp only[Lit.wf,Bool.and_eq_true,decide_eq_true_eq];have e1:IntKind.i64.min= -9223372036854775808:=rfl;have e2:IntKind.i64.max=9223372036854775807:=rfl;rw[e1,e2];omega
theorem pE:prog.underlying 145=some (.map 3 235):=by kernel_rfl
theorem xu (w:World):(zeroValue 235).run prog w=.ok (.agg #[.slice none 0 0]) w:=by kernel_rfl
theorem xJ {w:World} (h:bY w b hard pd k) (i:Nat) (hi:i<=4096) (hp:pd i=none) (c:Bool):
 (Instr.lookup 145 (.map (some b.m)) (.int J (i:Int)) c).run prog w=.ok (if c then τ #[.agg #[.slice none 0 0],.bool false]else .agg #[.slice none 0 0]) w:=by
 have hf:ng pd (i:Int)=none:=by simp[ng,hp]
 cases c
 ·obtain⟨v,ps,hrun,hv⟩:=h.map.look pE (xu w) mh i (mQ i (by omega))
  rw[hf]at hv;rw[hrun,xq hv]
  rfl
 ·obtain⟨v,ps,hrun,hv⟩:=h.map.look_ok pE (xu w) mh i (mQ i (by omega))
  rw[hf]at hv hrun;rw[hrun,xq hv]
  rfl
theorem Ev {w:World} (h:bY w b hard pd k) (i:Nat) (hi:i<=4096) {e:Nat×Nat×ByteArray} (hp:pd i=some e) (c:Bool):
 (Instr.lookup 145 (.map (some b.m)) (.int J (i:Int)) c).run prog w=.ok (if c then τ #[.agg #[.slice (some e.1) 1 e.2.1],.bool true]else .agg #[.slice (some e.1) 1 e.2.1]) w:=by
 have hf:ng pd (i:Int)=some (Dh e.1 e.2.1):=by simp[ng,hp]
 cases c
 ·obtain⟨v,ps,hrun,hv⟩:=h.map.look pE (xu w) mh i (mQ i (by omega))
  rw[hf]at hv;rw[hrun,rowElem_inv hv]
  rfl
 ·obtain⟨v,ps,hrun,hv⟩:=h.map.look_ok pE (xu w) mh i (mQ i (by omega))
  rw[hf]at hv hrun;rw[hrun,rowElem_inv hv]
  rfl
theorem Ey (i:Nat) (w:World) (h:bY w b hard pd k) (hi:i<hard.length) (hp:pd i=none):Calls prog 130 #[b.p,.int J i] w λe w'=>e=aG (τ #[.string hard[i],.int J 0])/\Below w.heap.size w w':=by
 have hl:=h.len;have HA:=zO i w h;rw[QG hi]at HA;have HA:=U HA;have RE:=U (xI w h);have hc:=h.row.cell i hi;have hg:=h.row.lt;have hlk:=xJ h i (by omega) hp true;rw[if_pos rfl]at hlk;have q0:(0:Int)<=i:=by omega
 have q1:(i:Int)<hard.length:=by omega
 obtain⟨⟨cap,hcap,hX⟩,_⟩:=h;unfold gM at hX;have X:=hX.cell;have Xl:=hX.lt;clear hX
 generalize hard[i]=s at*
 go_enter func130,ntmps130
 go_wp2_with fail;refine RE.o.mono ?_;rintro e w9 ⟨rfl,rfl⟩;go_wp2_with fail;refine HA.o.mono ?_;rintro e w9 ⟨rfl,rfl⟩
 go_wp2
 go_ret2;exact⟨rfl,(aj _ _).alloc (ah _) _⟩
end
end Dev
section
open Go.RowKit Go.Shelf Go.Maps
def kC (W:World) (R:lH) (b nn:Nat) (f:Int->Option (DataW Unit)):Prop:=
 ∃D,W.ownsMap prog 111 R b nn D/\∀x:Int,has D (.int I x)=(f x).isSome/\∀z,D.atKey (.int I x) z=(f x).getD z
section
variable {W W':World} {R:lH} {b nn:Nat} {f:Int->Option (DataW Unit)}
theorem kC.lt (h:kC W R b nn f):b<W.heap.size:=by obtain⟨D,h1,_⟩:=h;exact h1.lt
theorem kC.block (h:kC W R b nn f) (hb:W'.heap[b]? =W.heap[b]?):kC W' R b nn f:=by
 obtain⟨D,⟨es,clock,h1,r⟩,h2⟩:=h;exact⟨D,⟨es,clock,hb.trans h1,r⟩,h2⟩
theorem kC.below {n:Nat} (h:kC W R b nn f) (hn:b<n) (hb:Below n W W'):kC W' R b nn f:=h.block (hb.block b hn)
theorem kC.later (h:kC W R b nn f) (hb:Below W.heap.size W W'):kC W' R b nn f:=h.below h.lt hb
theorem kC.isMap (h:kC W R b nn f):∃es clock,W.heap[b]? =some (.map es clock):=by
 obtain⟨D,⟨es,clock,h1,_⟩,_⟩:=h;exact⟨es,clock,h1⟩
theorem kC.ne (h:kC W R b nn f) {c:Nat} {t:TypeId} {cs:Array Value} {fr:Nat×Nat} (hc:W.heap[c]? =some (aH cs t fr)):c≠b:=λe=>by
 obtain⟨es,clock,h1⟩:=h.isMap;subst e;rw[hc]at h1;cases h1
theorem kC.new (W:World) (R:lH):kC (W.alloc (.map #[] 0)) R W.heap.size 0 (λ_=>none):=⟨.map [],World.ownsMap_made _ _ _ _,λx=>⟨rfl,λz=>rfl⟩⟩
theorem kC.look (h:kC W R b nn f) {t e:TypeId} (ht:prog.underlying t=some (.map 111 e)) {z:Value} (hz:(zeroValue e).run prog W=.ok z W) {zd:DataW Unit} {zp:List MemPlace} (hzd:R z=some (zd,zp))
 (x:Int) (hx:(Lit.int I x).wf=true):∃v ps,(Instr.lookup t (.map (some b)) (.int I x) false).run prog W=.ok v W/\R v=some ((f x).getD zd,ps):=by
 obtain⟨D,h1,h2⟩:=h;obtain⟨v,ps,hrun,hv⟩:=h1.lookup (Maps.int_keyed underlying111) ht hz hzd (Maps.keyOf_int_mk underlying111 hx);rw[(h2 x).2]at hv;exact⟨v,ps,hrun,hv⟩
def oA (f:Int->Option (DataW Unit)) (x:Int) (d:DataW Unit):Int->Option (DataW Unit):=λy=>if y=x then some d else f y
theorem SH {x y:Int} (h:y≠x):(Lit.int I y)≠.int I x:=λe=>h (by cases e;rfl)
theorem kC.put (h:kC W R b nn f) {t e:TypeId} (ht:prog.underlying t=some (.map 111 e)) (hn:nn<maxLen) (x:Int) (hx:(Lit.int I x).wf=true) {val:Value} {d:DataW Unit} {ps:List MemPlace} (hv:R val=some (d,ps)):
 ∃W',(Instr.mapUpdate t (.map (some b)) (.int I x) val).run prog W=.ok () W'/\kC W' R b (nn+1) (oA f x d)/\W.mapTurned W' b:=by
 obtain⟨D,h1,h2⟩:=h;obtain⟨W',hrun,r1,r2⟩:=h1.store (Maps.int_keyed underlying111) ht hn (Maps.keyOf_int_mk underlying111 hx) hv;refine⟨W',hrun,⟨_,r1,λy=>?_⟩,r2⟩;unfold oA
 by_cases hy:y=x
 ·subst hy
  rw[if_pos rfl];exact⟨Maps.has_put_same h1.isMap (show WideAt.IsKeyLit (.int I y)from trivial) _,λz=>Maps.atKey_put_same h1.isMap (show WideAt.IsKeyLit (.int I y)from trivial) _ _⟩
 ·rw[if_neg hy,Maps.has_put_other (SH hy)]
  exact⟨(h2 y).1,λz=>by rw[Maps.atKey_put_other (SH hy)];exact(h2 y).2 z⟩
end
section
def XD {α:Type} (aL:Fence) (n:Nat) (P:Program) (g:Nat) (lb:Array Value) (encs:α->Array Value) (Rel Kp:World->World->Prop) (S Sp:List α->Prop) (Nx:List α->α->Prop) (w:World):Prop:=
 ∀(l:Nat) (aK Jx:List α->World->Prop) (W:World),Below w.heap.size w W->(∀s X Y,aK s X->Rel X Y->aK s Y)->(∀s X Y,Jx s X->Rel X Y->Jx s Y)->
  (∀pre x W1,aK pre W1->Nx pre x->YieldAt aL (n-1) P l (encs x) W1 λe W'=>
   (e=aG (ν true)/\aK (pre++[x]) W'/\Kp W1 W')\/(e=aG (ν false)/\Jx (pre++[x]) W'))->
  aK [] W->
  CallsIn aL n P g (#[.func (.yield l) #[] #[]]++lb) W λe W'=>(∃v,e=aG v)/\((∃xs,S xs/\aK xs W')\/(∃pre,Sp pre/\Jx pre W'))
variable {aL:Fence} {n:Nat} {P:Program}
theorem uN {α:Type} {g:Operand} {ps:Array Tmp} {assign body:Code} {Q:Exit->Act->World->Prop} {a:Act} {w:World}
 (hro:aL.round=none) (h1:1<=n) {gf:Nat} {lb:Array Value} (hg:a.eval g=.func (.func gf) #[] lb) (hFg:aL.fn gf) (eg:∀args w,(callFunc gf args).run P w=.ok (.enter gf args) w)
 {encs:α->Array Value} {Rel Kp:World->World->Prop} {S Sp:List α->Prop} {Nx:List α->α->Prop} {w0:World} (hseq:XD aL (n-1) P gf lb encs Rel Kp S Sp Nx w0)
 (fW:∀X Y,Rel X Y->KeepsFrom w.heap.size X Y)
 (hKt:∀{X Y Z:World},Kp X Y->Kp Y Z->Kp X Z) (hKb:∀(W:World) (l:Nat) (o o':Obj),w.heap.size<=l->W.heap[l]? =some o->o.isCells=false->o.isWalk=false->Kp W (W.putObj l o')) (hb0:Below w0.heap.size w0 w) (hps:∀x,(encs x).size=ps.size)
 (aJ:List α->World->Prop) (Ix:Code->List α->World->Prop) (hI:OwnFrom w.heap.size aJ) (hIx:∀c,OwnFrom w.heap.size (Ix c))
 (hIr:∀s X Y,aJ s X->Rel X Y->aJ s Y) (fX:∀c s X Y,Ix c s X->Rel X Y->Ix c s Y) (h0:aJ [] w) (a₁:α->Act)
 (hassign:∀(l:Nat) (x:α) (W:World) (K:Act->World->Prop),K (a₁ x) W->
  assign.wpIn (aL.inRound l) (n-1-1) P (Exit.then K (λ_ _ _=>False)) {tmps:=(ps.zip (encs x)).foldl (λt (p,v)=>t.setIfInBounds p v) a.tmps,defers:=[]} W)
 (hbody:∀(l:Nat) (pre:List α) (x:α) (W:World),aJ pre W->Nx pre x->body.wpIn (aL.inRound l) (n-1-1) P (ownPostG w.heap.size Kp aJ Ix (pre++[x]) W) (a₁ x) W)
 (hdone:∀(D:Nat) (xs:List α) (W:World),w.heap.size<=D->S xs->aJ xs W->W.heap[D]? =some (.deferred (some []))->Q .normal {a with defers:={target:=.collected D,args:=#[]}::a.defers} W)
 (hstop:∀(D:Nat) (c:Code) (pre:List α) (W:World),w.heap.size<=D->Sp pre->Ix c pre W->W.heap[D]? =some (.deferred (some []))->c.wpIn aL n P Q {a with defers:={target:=.collected D,args:=#[]}::a.defers} W):
 (Code.rangeFunc g ps assign body).wpIn aL n P Q a w:=by
 refine wpIn_rangeFunc ?_;intro fn hfn;rw[hro]
 let D:=w.heap.size
 let R:=w.heap.size+1
 obtain⟨mk,hmk⟩:∃mk:LoopState->Option Code->Loop,mk=λst pe=>{state:=st,pending:=pe,fn,tmps:=a.tmps,params:=ps,assign,body,defers:=D}:=⟨_,rfl⟩;obtain⟨V,hV⟩:∃V,(w.alloc (.deferred (some []))).alloc (.loop (mk .ready none))=V:=⟨_,rfl⟩
 have vR:V.heap[R]? =some (.loop (mk .ready none)):=by
  rw[<-hV];have:=World.alloc_heap_new (w.alloc (.deferred (some []))) (.loop (mk .ready none))
  rwa [aC]at this
 have vD:V.heap[D]? =some (.deferred (some [])):=by
  rw[<-hV];exact(Below.heap_alloc _ _ _ (by simp[D])).trans (World.alloc_heap_new w _)
 have vI:aJ [] V:=by rw[<-hV];exact hI.alloc _ (hI.alloc _ h0)
 have vB:Below w0.heap.size w0 V:=by
  rw[<-hV];exact hb0.trans ((((aj _ w).alloc (ah _) _).alloc (by simp) _).mono hb0.size)
 refine⟨R,[{target:=.collected D,args:=#[]}],V,{target:=.fn (.func gf) lb,args:=#[.func (.yield R) #[] #[]]},V,gf,#[.func (.yield R) #[] #[]]++lb,V,?_,?_,?_,?_,λ_=>h1,?_⟩
 ·rw[<-hV,hmk];exact run_enterLoop_outer _ _ _ _ _
 ·simp only[resolve,hg]
  simp[go_sem]
 ·intro f' hf'
  simp[Target.leads]at hf'
  subst hf';exact hFg
 ·simp[invoke,go_sem,eg]
 ·
  have keep:∀{X Y:World} {k:Nat} {o:Obj},Rel X Y->D<=k->X.heap[k]? =some o->o.isCells=false->Y.heap[k]? =some o:=λhr hk hx ho=>(fW _ _ hr).same _ _ hk hx ho
  refine(hseq R (λpre W=>aJ pre W/\W.heap[R]? =some (.loop (mk .ready none))/\W.heap[D]? =some (.deferred (some [])))
   (λpre W=>∃c,Ix c pre W/\W.heap[R]? =some (.loop (mk .done (some c)))/\W.heap[D]? =some (.deferred (some [])))
   V vB (λs X Y h r=>⟨hIr s X Y h.1 r,keep r (by omega) h.2.1 rfl,keep r (ah _) h.2.2 rfl⟩)
   (λs X Y h r=>by
    obtain⟨c,hc,hl,hk⟩:=h;exact⟨c,fX c s X Y hc r,keep r (by omega) hl rfl,keep r (ah _) hk rfl⟩) ?_ ⟨vI,vR,vD⟩).mono ?_
  ·rintro pre x W ⟨hi,hl,hk⟩ hlen
   have hlt:R<W.heap.size:=(Array.getElem?_eq_some_iff.1 hl).1;have hy:=run_yield (P:=P) (args:=encs x) hl (by rw[hmk];exact hps x);rw[hmk]at hy;refine⟨fn,_,assign,body,hy,roundIn_of_wpIn hfn (hassign _ x W _ ⟨_,run_beginRound hl (by rw[hmk]),?_⟩)⟩;have bR:(W.putObj R (.loop {mk .ready none with state:=.busy})).heap[R]? =some (.loop {mk .ready none with state:=.busy}):=World.putObj_heap_same hlt;have bD:(W.putObj R (.loop {mk .ready none with state:=.busy})).heap[D]? =some (.deferred (some [])):=(World.putObj_heap_other (by omega)).trans hk;have bK:Kp W (W.putObj R (.loop {mk .ready none with state:=.busy})):=hKb _ _ _ _ (by omega) hl rfl rfl;refine wpIn_mono (hbody _ pre x _ (hI.putObj _ hi (by omega) hl rfl) hlen) ?_
   have fin:∀(jump:Option Code) (W3:World),KeepsFrom w.heap.size (W.putObj R (.loop {mk .ready none with state:=.busy})) W3->
    (Instr.endRound R jump).run P W3=.ok (ν jump.isNone) (W3.putObj R (.loop (mk (if jump.isNone then .ready else .done) jump)))/\
    W3.heap[R]? =some (.loop {mk .ready none with state:=.busy})/\
    (W3.putObj R (.loop (mk (if jump.isNone then .ready else .done) jump))).heap[R]? =some (.loop (mk (if jump.isNone then .ready else .done) jump))/\
    (W3.putObj R (.loop (mk (if jump.isNone then .ready else .done) jump))).heap[D]? =some (.deferred (some [])):=λjump W3 hk3=>by
    have c1:=hk3.same _ _ (by omega) bR rfl;have c2:=run_endRound (P:=P) jump c1;rw[hmk]at c2⊢;exact⟨c2,by rw[hmk]at c1;exact c1,World.putObj_heap_same (Array.getElem?_eq_some_iff.1 c1).1,(World.putObj_heap_other (by omega)).trans (hk3.same _ _ (ah _) bD rfl)⟩
   rintro e a3 W3 hp;cases e with
   |normal=>
    obtain⟨k3,p3,i3⟩:=hp;obtain⟨r3,l3,l4,d4⟩:=fin none W3 k3;exact⟨_,_,r3,.inl ⟨rfl,⟨hI.putObj _ i3 (by omega) l3 rfl,l4,d4⟩,hKt (hKt bK p3) (hKb _ _ _ _ (by omega) l3 rfl rfl)⟩⟩
   |ret=>
    obtain⟨k3,i3⟩:=hp;obtain⟨r3,l3,l4,d4⟩:=fin (some .ret) W3 k3;exact⟨_,_,r3,.inr ⟨rfl,.ret,(hIx _).putObj _ i3 (by omega) l3 rfl,l4,d4⟩⟩
   |exit id=>
    obtain⟨k3,i3⟩:=hp;obtain⟨r3,l3,l4,d4⟩:=fin (some (.exit id)) W3 k3;exact⟨_,_,r3,.inr ⟨rfl,.exit id,(hIx _).putObj _ i3 (by omega) l3 rfl,l4,d4⟩⟩
   |goto t=>
    obtain⟨k3,i3⟩:=hp;obtain⟨r3,l3,l4,d4⟩:=fin (some (.goto t)) W3 k3;exact⟨_,_,r3,.inr ⟨rfl,.goto t,(hIx _).putObj _ i3 (by omega) l3 rfl,l4,d4⟩⟩
   |panic ch=>exact hp.elim
   |outgrown=>exact hp.elim
  ·rintro e W2 ⟨⟨v,rfl⟩,(⟨xs,hS,hi,hl,hk⟩|⟨pre,hSp,c,hi,hl,hk⟩)⟩
   ·exact⟨none,_,by have:=run_endLoop (P:=P) hl (by rw[hmk];simp);rw[hmk]at this;exact this,hdone _ xs _ (ah _) hS (hI.putObj _ hi (by omega) hl rfl) ((World.putObj_heap_other (by omega)).trans hk)⟩
   ·exact⟨some c,_,by have:=run_endLoop (P:=P) hl (by rw[hmk];simp);rw[hmk]at this;exact this,hstop _ c pre _ (ah _) hSp ((hIx c).putObj _ hi (by omega) hl rfl) ((World.putObj_heap_other (by omega)).trans hk)⟩
end
section
def RG {α:Type} (aL:Fence) (n:Nat) (P:Program) (g:Nat) (lb:Array Value) (encs:α->Array Value) (Rel Kp:World->World->Prop) (Nx:List α->α->World->Prop) (Fin:List α->World->Prop) (w:World):Prop:=
 ∀(l:Nat) (aK Jx:List α->World->Prop) (W:World),Below w.heap.size w W->(∀s X Y,aK s X->Rel X Y->aK s Y)->(∀s X Y,Jx s X->Rel X Y->Jx s Y)->
  (∀pre x W1,aK pre W1->Nx pre x W1->YieldAt aL (n-1) P l (encs x) W1 λe W'=>
   (e=aG (ν true)/\aK (pre++[x]) W'/\Kp W1 W')\/(e=aG (ν false)/\Jx (pre++[x]) W'))->
  aK [] W->
  CallsIn aL n P g (#[.func (.yield l) #[] #[]]++lb) W λe W'=>(∃v,e=aG v)/\((∃xs,Fin xs W'/\aK xs W')\/(∃pre,Jx pre W'))
variable {aL:Fence} {n:Nat} {P:Program}
theorem lN {α:Type} {g:Operand} {ps:Array Tmp} {assign body:Code} {Q:Exit->Act->World->Prop} {a:Act} {w:World}
 (hro:aL.round=none) (h1:1<=n) {gf:Nat} {lb:Array Value} (hg:a.eval g=.func (.func gf) #[] lb) (hFg:aL.fn gf) (eg:∀args w,(callFunc gf args).run P w=.ok (.enter gf args) w)
 {encs:α->Array Value} {Rel Kp:World->World->Prop} {Nx:List α->α->World->Prop} {Fin:List α->World->Prop} {w0:World} (hseq:RG aL (n-1) P gf lb encs Rel Kp Nx Fin w0)
 (hN:∀(pre:List α) (x:α) (W:World) (l:Nat) (o o':Obj),w.heap.size<=l->W.heap[l]? =some o->o.isCells=false->Nx pre x W->Nx pre x (W.putObj l o'))
 (hF:∀(xs:List α) (W:World) (l:Nat) (o o':Obj),w.heap.size<=l->W.heap[l]? =some o->o.isCells=false->Fin xs W->Fin xs (W.putObj l o'))
 (fW:∀X Y,Rel X Y->KeepsFrom w.heap.size X Y)
 (hKt:∀{X Y Z:World},Kp X Y->Kp Y Z->Kp X Z) (hKb:∀(W:World) (l:Nat) (o o':Obj),w.heap.size<=l->W.heap[l]? =some o->o.isCells=false->o.isWalk=false->Kp W (W.putObj l o')) (hb0:Below w0.heap.size w0 w) (hps:∀x,(encs x).size=ps.size)
 (aJ:List α->World->Prop) (Ix:Code->List α->World->Prop) (hI:OwnFrom w.heap.size aJ) (hIx:∀c,OwnFrom w.heap.size (Ix c))
 (hIr:∀s X Y,aJ s X->Rel X Y->aJ s Y) (fX:∀c s X Y,Ix c s X->Rel X Y->Ix c s Y) (h0:aJ [] w) (a₁:α->Act)
 (hassign:∀(l:Nat) (x:α) (W:World) (K:Act->World->Prop),K (a₁ x) W->
  assign.wpIn (aL.inRound l) (n-1-1) P (Exit.then K (λ_ _ _=>False)) {tmps:=(ps.zip (encs x)).foldl (λt (p,v)=>t.setIfInBounds p v) a.tmps,defers:=[]} W)
 (hbody:∀(l:Nat) (pre:List α) (x:α) (W:World),aJ pre W->Nx pre x W->body.wpIn (aL.inRound l) (n-1-1) P (ownPostG w.heap.size Kp aJ Ix (pre++[x]) W) (a₁ x) W)
 (hdone:∀(D:Nat) (xs:List α) (W:World),w.heap.size<=D->Fin xs W->aJ xs W->W.heap[D]? =some (.deferred (some []))->Q .normal {a with defers:={target:=.collected D,args:=#[]}::a.defers} W)
 (hstop:∀(D:Nat) (c:Code) (pre:List α) (W:World),w.heap.size<=D->Ix c pre W->W.heap[D]? =some (.deferred (some []))->c.wpIn aL n P Q {a with defers:={target:=.collected D,args:=#[]}::a.defers} W):
 (Code.rangeFunc g ps assign body).wpIn aL n P Q a w:=by
 refine wpIn_rangeFunc ?_;intro fn hfn;rw[hro]
 let D:=w.heap.size
 let R:=w.heap.size+1
 obtain⟨mk,hmk⟩:∃mk:LoopState->Option Code->Loop,mk=λst pe=>{state:=st,pending:=pe,fn,tmps:=a.tmps,params:=ps,assign,body,defers:=D}:=⟨_,rfl⟩;obtain⟨V,hV⟩:∃V,(w.alloc (.deferred (some []))).alloc (.loop (mk .ready none))=V:=⟨_,rfl⟩
 have vR:V.heap[R]? =some (.loop (mk .ready none)):=by
  rw[<-hV];have:=World.alloc_heap_new (w.alloc (.deferred (some []))) (.loop (mk .ready none))
  rwa [aC]at this
 have vD:V.heap[D]? =some (.deferred (some [])):=by
  rw[<-hV];exact(Below.heap_alloc _ _ _ (by simp[D])).trans (World.alloc_heap_new w _)
 have vI:aJ [] V:=by rw[<-hV];exact hI.alloc _ (hI.alloc _ h0)
 have vB:Below w0.heap.size w0 V:=by
  rw[<-hV];exact hb0.trans ((((aj _ w).alloc (ah _) _).alloc (by simp) _).mono hb0.size)
 refine⟨R,[{target:=.collected D,args:=#[]}],V,{target:=.fn (.func gf) lb,args:=#[.func (.yield R) #[] #[]]},V,gf,#[.func (.yield R) #[] #[]]++lb,V,?_,?_,?_,?_,λ_=>h1,?_⟩
 ·rw[<-hV,hmk];exact run_enterLoop_outer _ _ _ _ _
 ·simp only[resolve,hg]
  simp[go_sem]
 ·intro f' hf'
  simp[Target.leads]at hf'
  subst hf';exact hFg
 ·simp[invoke,go_sem,eg]
 ·
  have keep:∀{X Y:World} {k:Nat} {o:Obj},Rel X Y->D<=k->X.heap[k]? =some o->o.isCells=false->Y.heap[k]? =some o:=λhr hk hx ho=>(fW _ _ hr).same _ _ hk hx ho
  refine(hseq R (λpre W=>aJ pre W/\W.heap[R]? =some (.loop (mk .ready none))/\W.heap[D]? =some (.deferred (some [])))
   (λpre W=>∃c,Ix c pre W/\W.heap[R]? =some (.loop (mk .done (some c)))/\W.heap[D]? =some (.deferred (some [])))
   V vB (λs X Y h r=>⟨hIr s X Y h.1 r,keep r (by omega) h.2.1 rfl,keep r (ah _) h.2.2 rfl⟩)
   (λs X Y h r=>by
    obtain⟨c,hc,hl,hk⟩:=h;exact⟨c,fX c s X Y hc r,keep r (by omega) hl rfl,keep r (ah _) hk rfl⟩) ?_ ⟨vI,vR,vD⟩).mono ?_
  ·rintro pre x W ⟨hi,hl,hk⟩ hlen
   have hlt:R<W.heap.size:=(Array.getElem?_eq_some_iff.1 hl).1;have hy:=run_yield (P:=P) (args:=encs x) hl (by rw[hmk];exact hps x);rw[hmk]at hy;refine⟨fn,_,assign,body,hy,roundIn_of_wpIn hfn (hassign _ x W _ ⟨_,run_beginRound hl (by rw[hmk]),?_⟩)⟩;have bR:(W.putObj R (.loop {mk .ready none with state:=.busy})).heap[R]? =some (.loop {mk .ready none with state:=.busy}):=World.putObj_heap_same hlt;have bD:(W.putObj R (.loop {mk .ready none with state:=.busy})).heap[D]? =some (.deferred (some [])):=(World.putObj_heap_other (by omega)).trans hk;have bK:Kp W (W.putObj R (.loop {mk .ready none with state:=.busy})):=hKb _ _ _ _ (by omega) hl rfl rfl;refine wpIn_mono (hbody _ pre x _ (hI.putObj _ hi (by omega) hl rfl) (hN _ _ _ _ _ _ (by omega) hl rfl hlen)) ?_
   have fin:∀(jump:Option Code) (W3:World),KeepsFrom w.heap.size (W.putObj R (.loop {mk .ready none with state:=.busy})) W3->
    (Instr.endRound R jump).run P W3=.ok (ν jump.isNone) (W3.putObj R (.loop (mk (if jump.isNone then .ready else .done) jump)))/\
    W3.heap[R]? =some (.loop {mk .ready none with state:=.busy})/\
    (W3.putObj R (.loop (mk (if jump.isNone then .ready else .done) jump))).heap[R]? =some (.loop (mk (if jump.isNone then .ready else .done) jump))/\
    (W3.putObj R (.loop (mk (if jump.isNone then .ready else .done) jump))).heap[D]? =some (.deferred (some [])):=λjump W3 hk3=>by
    have c1:=hk3.same _ _ (by omega) bR rfl;have c2:=run_endRound (P:=P) jump c1;rw[hmk]at c2⊢;exact⟨c2,by rw[hmk]at c1;exact c1,World.putObj_heap_same (Array.getElem?_eq_some_iff.1 c1).1,(World.putObj_heap_other (by omega)).trans (hk3.same _ _ (ah _) bD rfl)⟩
   rintro e a3 W3 hp;cases e with
   |normal=>
    obtain⟨k3,p3,i3⟩:=hp;obtain⟨r3,l3,l4,d4⟩:=fin none W3 k3;exact⟨_,_,r3,.inl ⟨rfl,⟨hI.putObj _ i3 (by omega) l3 rfl,l4,d4⟩,hKt (hKt bK p3) (hKb _ _ _ _ (by omega) l3 rfl rfl)⟩⟩
   |ret=>
    obtain⟨k3,i3⟩:=hp;obtain⟨r3,l3,l4,d4⟩:=fin (some .ret) W3 k3;exact⟨_,_,r3,.inr ⟨rfl,.ret,(hIx _).putObj _ i3 (by omega) l3 rfl,l4,d4⟩⟩
   |exit id=>
    obtain⟨k3,i3⟩:=hp;obtain⟨r3,l3,l4,d4⟩:=fin (some (.exit id)) W3 k3;exact⟨_,_,r3,.inr ⟨rfl,.exit id,(hIx _).putObj _ i3 (by omega) l3 rfl,l4,d4⟩⟩
   |goto t=>
    obtain⟨k3,i3⟩:=hp;obtain⟨r3,l3,l4,d4⟩:=fin (some (.goto t)) W3 k3;exact⟨_,_,r3,.inr ⟨rfl,.goto t,(hIx _).putObj _ i3 (by omega) l3 rfl,l4,d4⟩⟩
   |panic ch=>exact hp.elim
   |outgrown=>exact hp.elim
  ·rintro e W2 ⟨⟨v,rfl⟩,(⟨xs,hS,hi,hl,hk⟩|⟨pre,c,hi,hl,hk⟩)⟩
   ·exact⟨none,_,by have:=run_endLoop (P:=P) hl (by rw[hmk];simp);rw[hmk]at this;exact this,hdone _ xs _ (ah _) (hF _ _ _ _ _ (by omega) hl rfl hS) (hI.putObj _ hi (by omega) hl rfl) ((World.putObj_heap_other (by omega)).trans hk)⟩
   ·exact⟨some c,_,by have:=run_endLoop (P:=P) hl (by rw[hmk];simp);rw[hmk]at this;exact this,hstop _ c pre _ (ah _) ((hIx c).putObj _ hi (by omega) hl rfl) ((World.putObj_heap_other (by omega)).trans hk)⟩
end
end
namespace Re
open Go.RowKit
structure Rw where
 stamp:Nat
 op:Nat
 dir:Nat
 name:ByteArray
 ino:Nat
 kind:Nat
 bV:Nat
 name2:ByteArray
 old:Nat
 size:Nat
 page:Int
 data:ByteArray
def dX (r:Rw):Array Value:=#[ι .u64 r.stamp,ι aF r.op,ι F r.dir,σ r.name,ι F r.ino,ι aF r.kind,ι F r.bV,σ r.name2,ι F r.old,ι F r.size,ι J r.page,σ r.data]
end Re
section
open Go.RowKit
section
def QK {α:Type} (aL:Fence) (n:Nat) (P:Program) (g:Nat) (lp:Array Value) (encs:α->Array Value) (Rel Kp:World->World->Prop) (S Sp:List α->Prop) (Nx:List α->α->Prop) (w:World):Prop:=
 ∀(l:Nat) (aK Jx:List α->World->Prop) (W:World),Below w.heap.size w W->(∀s X Y,aK s X->Rel X Y->aK s Y)->(∀s X Y,Jx s X->Rel X Y->Jx s Y)->
  (∀pre x W1,aK pre W1->Nx pre x->YieldAt aL (n-1) P l (encs x) W1 λe W'=>
   (e=aG (ν true)/\aK (pre++[x]) W'/\Kp W1 W')\/(e=aG (ν false)/\Jx (pre++[x]) W'))->
  aK [] W->
  CallsIn aL n P g (lp++#[.func (.yield l) #[] #[]]) W λe W'=>(∃v,e=aG v)/\((∃xs,S xs/\aK xs W')\/(∃pre,Sp pre/\Jx pre W'))
variable {aL:Fence} {n:Nat} {P:Program}
theorem uy {α:Type} {g:Operand} {ps:Array Tmp} {assign body:Code} {Q:Exit->Act->World->Prop} {a:Act} {w:World}
 (hro:aL.round=none) (h1:1<=n) {gf:Nat} {lp:Array Value} (hg:a.eval g=.func (.func gf) lp #[]) (hFg:aL.fn gf) (eg:∀args w,(callFunc gf args).run P w=.ok (.enter gf args) w)
 {encs:α->Array Value} {Rel Kp:World->World->Prop} {S Sp:List α->Prop} {Nx:List α->α->Prop} {w0:World} (hseq:QK aL (n-1) P gf lp encs Rel Kp S Sp Nx w0)
 (fW:∀X Y,Rel X Y->KeepsFrom w.heap.size X Y)
 (hKt:∀{X Y Z:World},Kp X Y->Kp Y Z->Kp X Z) (hKb:∀(W:World) (l:Nat) (o o':Obj),w.heap.size<=l->W.heap[l]? =some o->o.isCells=false->o.isWalk=false->Kp W (W.putObj l o')) (hb0:Below w0.heap.size w0 w) (hps:∀x,(encs x).size=ps.size)
 (aJ:List α->World->Prop) (Ix:Code->List α->World->Prop) (hI:OwnFrom w.heap.size aJ) (hIx:∀c,OwnFrom w.heap.size (Ix c))
 (hIr:∀s X Y,aJ s X->Rel X Y->aJ s Y) (fX:∀c s X Y,Ix c s X->Rel X Y->Ix c s Y) (h0:aJ [] w) (a₁:α->Act)
 (hassign:∀(l:Nat) (x:α) (W:World) (K:Act->World->Prop),K (a₁ x) W->
  assign.wpIn (aL.inRound l) (n-1-1) P (Exit.then K (λ_ _ _=>False)) {tmps:=(ps.zip (encs x)).foldl (λt (p,v)=>t.setIfInBounds p v) a.tmps,defers:=[]} W)
 (hbody:∀(l:Nat) (pre:List α) (x:α) (W:World),aJ pre W->Nx pre x->body.wpIn (aL.inRound l) (n-1-1) P (ownPostG w.heap.size Kp aJ Ix (pre++[x]) W) (a₁ x) W)
 (hdone:∀(D:Nat) (xs:List α) (W:World),w.heap.size<=D->S xs->aJ xs W->W.heap[D]? =some (.deferred (some []))->Q .normal {a with defers:={target:=.collected D,args:=#[]}::a.defers} W)
 (hstop:∀(D:Nat) (c:Code) (pre:List α) (W:World),w.heap.size<=D->Sp pre->Ix c pre W->W.heap[D]? =some (.deferred (some []))->c.wpIn aL n P Q {a with defers:={target:=.collected D,args:=#[]}::a.defers} W):
 (Code.rangeFunc g ps assign body).wpIn aL n P Q a w:=by
 refine wpIn_rangeFunc ?_;intro fn hfn;rw[hro]
 let D:=w.heap.size
 let R:=w.heap.size+1
 obtain⟨mk,hmk⟩:∃mk:LoopState->Option Code->Loop,mk=λst pe=>{state:=st,pending:=pe,fn,tmps:=a.tmps,params:=ps,assign,body,defers:=D}:=⟨_,rfl⟩;obtain⟨V,hV⟩:∃V,(w.alloc (.deferred (some []))).alloc (.loop (mk .ready none))=V:=⟨_,rfl⟩
 have vR:V.heap[R]? =some (.loop (mk .ready none)):=by
  rw[<-hV];have:=World.alloc_heap_new (w.alloc (.deferred (some []))) (.loop (mk .ready none))
  rwa [aC]at this
 have vD:V.heap[D]? =some (.deferred (some [])):=by
  rw[<-hV];exact(Below.heap_alloc _ _ _ (by simp[D])).trans (World.alloc_heap_new w _)
 have vI:aJ [] V:=by rw[<-hV];exact hI.alloc _ (hI.alloc _ h0)
 have vB:Below w0.heap.size w0 V:=by
  rw[<-hV];exact hb0.trans ((((aj _ w).alloc (ah _) _).alloc (by simp) _).mono hb0.size)
 refine⟨R,[{target:=.collected D,args:=#[]}],V,{target:=.fn (.func gf) #[],args:=lp++#[.func (.yield R) #[] #[]]},V,gf,lp++#[.func (.yield R) #[] #[]],V,?_,?_,?_,?_,λ_=>h1,?_⟩
 ·rw[<-hV,hmk];exact run_enterLoop_outer _ _ _ _ _
 ·simp only[resolve,hg]
  simp[go_sem]
 ·intro f' hf'
  simp[Target.leads]at hf'
  subst hf';exact hFg
 ·simp[invoke,go_sem,eg]
 ·
  have keep:∀{X Y:World} {k:Nat} {o:Obj},Rel X Y->D<=k->X.heap[k]? =some o->o.isCells=false->Y.heap[k]? =some o:=λhr hk hx ho=>(fW _ _ hr).same _ _ hk hx ho
  refine(hseq R (λpre W=>aJ pre W/\W.heap[R]? =some (.loop (mk .ready none))/\W.heap[D]? =some (.deferred (some [])))
   (λpre W=>∃c,Ix c pre W/\W.heap[R]? =some (.loop (mk .done (some c)))/\W.heap[D]? =some (.deferred (some [])))
   V vB (λs X Y h r=>⟨hIr s X Y h.1 r,keep r (by omega) h.2.1 rfl,keep r (ah _) h.2.2 rfl⟩)
   (λs X Y h r=>by
    obtain⟨c,hc,hl,hk⟩:=h;exact⟨c,fX c s X Y hc r,keep r (by omega) hl rfl,keep r (ah _) hk rfl⟩) ?_ ⟨vI,vR,vD⟩).mono ?_
  ·rintro pre x W ⟨hi,hl,hk⟩ hlen
   have hlt:R<W.heap.size:=(Array.getElem?_eq_some_iff.1 hl).1;have hy:=run_yield (P:=P) (args:=encs x) hl (by rw[hmk];exact hps x);rw[hmk]at hy;refine⟨fn,_,assign,body,hy,roundIn_of_wpIn hfn (hassign _ x W _ ⟨_,run_beginRound hl (by rw[hmk]),?_⟩)⟩;have bR:(W.putObj R (.loop {mk .ready none with state:=.busy})).heap[R]? =some (.loop {mk .ready none with state:=.busy}):=World.putObj_heap_same hlt;have bD:(W.putObj R (.loop {mk .ready none with state:=.busy})).heap[D]? =some (.deferred (some [])):=(World.putObj_heap_other (by omega)).trans hk;have bK:Kp W (W.putObj R (.loop {mk .ready none with state:=.busy})):=hKb _ _ _ _ (by omega) hl rfl rfl;refine wpIn_mono (hbody _ pre x _ (hI.putObj _ hi (by omega) hl rfl) hlen) ?_
   have fin:∀(jump:Option Code) (W3:World),KeepsFrom w.heap.size (W.putObj R (.loop {mk .ready none with state:=.busy})) W3->
    (Instr.endRound R jump).run P W3=.ok (ν jump.isNone) (W3.putObj R (.loop (mk (if jump.isNone then .ready else .done) jump)))/\
    W3.heap[R]? =some (.loop {mk .ready none with state:=.busy})/\
    (W3.putObj R (.loop (mk (if jump.isNone then .ready else .done) jump))).heap[R]? =some (.loop (mk (if jump.isNone then .ready else .done) jump))/\
    (W3.putObj R (.loop (mk (if jump.isNone then .ready else .done) jump))).heap[D]? =some (.deferred (some [])):=λjump W3 hk3=>by
    have c1:=hk3.same _ _ (by omega) bR rfl;have c2:=run_endRound (P:=P) jump c1;rw[hmk]at c2⊢;exact⟨c2,by rw[hmk]at c1;exact c1,World.putObj_heap_same (Array.getElem?_eq_some_iff.1 c1).1,(World.putObj_heap_other (by omega)).trans (hk3.same _ _ (ah _) bD rfl)⟩
   rintro e a3 W3 hp;cases e with
   |normal=>
    obtain⟨k3,p3,i3⟩:=hp;obtain⟨r3,l3,l4,d4⟩:=fin none W3 k3;exact⟨_,_,r3,.inl ⟨rfl,⟨hI.putObj _ i3 (by omega) l3 rfl,l4,d4⟩,hKt (hKt bK p3) (hKb _ _ _ _ (by omega) l3 rfl rfl)⟩⟩
   |ret=>
    obtain⟨k3,i3⟩:=hp;obtain⟨r3,l3,l4,d4⟩:=fin (some .ret) W3 k3;exact⟨_,_,r3,.inr ⟨rfl,.ret,(hIx _).putObj _ i3 (by omega) l3 rfl,l4,d4⟩⟩
   |exit id=>
    obtain⟨k3,i3⟩:=hp;obtain⟨r3,l3,l4,d4⟩:=fin (some (.exit id)) W3 k3;exact⟨_,_,r3,.inr ⟨rfl,.exit id,(hIx _).putObj _ i3 (by omega) l3 rfl,l4,d4⟩⟩
   |goto t=>
    obtain⟨k3,i3⟩:=hp;obtain⟨r3,l3,l4,d4⟩:=fin (some (.goto t)) W3 k3;exact⟨_,_,r3,.inr ⟨rfl,.goto t,(hIx _).putObj _ i3 (by omega) l3 rfl,l4,d4⟩⟩
   |panic ch=>exact hp.elim
   |outgrown=>exact hp.elim
  ·rintro e W2 ⟨⟨v,rfl⟩,(⟨xs,hS,hi,hl,hk⟩|⟨pre,hSp,c,hi,hl,hk⟩)⟩
   ·exact⟨none,_,by have:=run_endLoop (P:=P) hl (by rw[hmk];simp);rw[hmk]at this;exact this,hdone _ xs _ (ah _) hS (hI.putObj _ hi (by omega) hl rfl) ((World.putObj_heap_other (by omega)).trans hk)⟩
   ·exact⟨some c,_,by have:=run_endLoop (P:=P) hl (by rw[hmk];simp);rw[hmk]at this;exact this,hstop _ c pre _ (ah _) hSp ((hIx c).putObj _ hi (by omega) hl rfl) ((World.putObj_heap_other (by omega)).trans hk)⟩
end
