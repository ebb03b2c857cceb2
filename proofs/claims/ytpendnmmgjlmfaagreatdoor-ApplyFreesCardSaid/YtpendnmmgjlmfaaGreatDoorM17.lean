/- Lemmas. -/
import Derived.Test.YtpendnmmgjlmfaaGreatDoorM08
import Derived.Lib.BufferWrite
set_option linter.unusedVariables false
set_option linter.unusedSimpArgs false
namespace Go.Proofs.YtpendnmmgjlmfaaGreatDoor
open Go.Proofs.Tryz
open IntKind renaming i64→J,u32→F,u8→aF
open Value renaming pointer→G,int->ι,string->σ,bool->ν,tuple->τ,slice->θ
open Ending renaming returned→aG
open Obj renaming cells→aH
set_option maxRecDepth 100000
set_option maxHeartbeats 2000000
namespace Re
open Go.RowKit Go.Shelf Go.Maps Oct Path Tr
def jL (x:Nat):Bool:=decide (1<=x)&&decide (x<=256)
theorem Rb (x:Nat) (w:World):Calls prog 103 #[ι F x] w λe w'=>e=aG (ν (jL x))/\w=w':=by
 unfold jL
 by_cases h1:1<=x
 ·have t1:(x:Int)>=1:=by omega
  by_cases h2:x<=256
  ·have t2:(x:Int)<=256:=by omega
   go_enter func103,ntmps103
   go_wp2_with fail;go_ret;exact⟨by simp[h1,h2],rfl⟩
  ·have t2:¬(x:Int)<=256:=by omega
   go_enter func103,ntmps103
   go_wp2_with fail;go_ret;exact⟨by simp[h1,h2],rfl⟩
 ·have t1:¬(x:Int)>=1:=by omega
  go_enter func103,ntmps103
  go_wp2_with fail;go_ret;exact⟨by simp[h1],rfl⟩
theorem As (s:ByteArray) (w:World) (hs:s.size<=maxLen):Calls prog 104 #[σ s] w λe w'=>e=aG (ν (oZ (L s)==0))/\Below w.heap.size w w':=by
 have NA:=U (AU s w hs);obtain⟨n,hn⟩:∃n,oZ (L s)=n:=⟨_,rfl⟩;rw[hn]at NA⊢;clear hn
 go_enter func104,ntmps104
 go_wp2_with fail;refine ak NA.o ?_;rintro e w' ⟨rfl,hb⟩;have HB:=U hb;clear hb NA;go_wp2_with fail;go_ret;exact⟨rfl,HB.o⟩
theorem ji (p:Nat) (z a b c:Bool) (w:World) (hp:aN w p 4 #[ν z]):Calls prog 106 #[ν a,ν b,ν c,p] w λe w'=>e=aG (τ #[])/\aN w' p 4 #[ν (z&&(a&&b||!a&&c))]/\aR (λx=>x=p) w w':=by
 have HP:=U hp;have X:=hp.cell;have Xl:=hp.lt;have F0:=hp.free 0;clear hp
 rcases z with _|_<;>rcases a with _|_<;>rcases b with _|_<;>rcases c with _|_
 all_goals(go_enter func106,ntmps106)
 all_goals go_wp2_with fail
 all_goals go_end0
 all_goals exact⟨rfl,HP.o.set 0 _,aR.cell rfl⟩
def recC (r:Rc):Array Value:=#[.int .u64 r.stamp,.int aF r.op,.int F r.dir,.string (B r.name),.int F r.ino,.int aF r.kind,.int F r.bV,.string (B r.name2),.int F r.old,.int F r.size,.int J r.page,.string (B r.data)]
def kZ (r:Rc):Value:=.agg (recC r)
def oD (o:Nat):Bool:=decide (o<=4)
def nk (o:Nat):Bool:=o==1||o==3||o==4
def nu (o:Nat):Bool:=o==4
def oF (o:Nat):Bool:=o==5||o==6
def pG (o:Nat):Bool:=o==6
def kv0:Value:=.agg #[.string ⟨#[]⟩,.bool false,.bool false,.bool false,.bool false,.bool false,.nilFunc]
structure May (r:Rc):Prop where
 op:1<=r.op/\r.op<=7
 ino:1<=r.ino/\r.ino<=256
 ent:oD r.op=true->1<=r.dir/\r.dir<=256/\isName r.name=true
 noe:oD r.op=false->r.dir=0/\r.name=[]
 JS:nk r.op=true->r.kind=1\/r.kind=2
 nok:nk r.op=false->r.kind=0
 gE:nu r.op=true->1<=r.bV/\r.bV<=256/\isName r.name2=true/\r.old<=256
 nom:nu r.op=false->r.bV=0/\r.name2=[]/\r.old=0
 siz:oF r.op=true->r.size<=2304
 nos:oF r.op=false->r.size=0
 dat:pG r.op=true->r.page<36/\r.data.length=64
 nod:pG r.op=false->r.page=0/\r.data=[]
 stp:r.stamp<18446744073709551616
theorem At {o:Nat} (h:1<=o/\o<=7):∃w f,Eh o=some (kv w (oD o) (nk o) (nu o) (oF o) (pG o) f):=by
 obtain⟨h1,h2⟩:=h
 match o,h1,h2 with
 |1,_,_|2,_,_|3,_,_|4,_,_|5,_,_|6,_,_|7,_,_=>exact⟨_,_,rfl⟩
theorem Uy {W:World} {b o:Nat} (h:cZ W 5 b 7 (eB aF Eh)) (ho:1<=o/\o<=7):∃w f,(Instr.lookup 212 (.map (some b)) (.int aF o) true).run prog W=.ok (τ #[kv w (oD o) (nk o) (nu o) (oF o) (pG o) f,.bool true]) W:=by
 obtain⟨w,f,hk⟩:=At ho;refine⟨w,f,?_⟩;have hz:(zeroValue 210).run prog W=.ok kv0 W:=by kernel_rfl
 rw[h.look_ok JI underlying212 hz (rD (x:=o) (by omega)),jO,hk]
 rfl
end Re
namespace Path
open Go.RowKit Oct
theorem OB (s:ByteArray) (w:World) (hs:s.size<=maxLen) (h:27<s.size):
 Calls prog 52 #[σ s] w λe w'=>e=aG (ν false)/\w=w':=by
 unfold maxLen at hs;have t0:decide (s.size<1)=false:=decide_eq_false (by omega);have t0':decide ((s.size:Int)<1)=false:=decide_eq_false (by omega);have t1:decide (27<(s.size:Int))=true:=by simp;omega
 go_enter func52,ntmps52
 go_wp2
 go_ret;exact⟨rfl,rfl⟩
theorem KN (w:World):
 Calls prog 52 #[σ ⟨#[]⟩] w λe w'=>e=aG (ν false)/\w=w':=by
 go_enter func52,ntmps52
 go_wp2
 go_ret;exact⟨rfl,rfl⟩
theorem Uz (w:World):
 Calls prog 52 #[σ ⟨#[46]⟩] w λe w'=>e=aG (ν false)/\w=w':=by
 go_enter func52,ntmps52
 go_wp2
 go_ret;exact⟨rfl,rfl⟩
theorem OC (w:World):
 Calls prog 52 #[σ ⟨#[46,46]⟩] w λe w'=>e=aG (ν false)/\w=w':=by
 go_enter func52,ntmps52
 go_wp2
 go_ret;exact⟨rfl,rfl⟩
theorem any_take_succ (s:ByteArray) (k:Nat) (h:k<s.size):((L s).take (k+1)).any oG=(((L s).take k).any oG||oG s[k]):=by
 have h2:k<(L s).length:=by rw[bZ];exact h
 rw[List.take_succ_eq_append_getElem h2,List.any_append];simp only[List.any_cons,List.any_nil,Bool.or_false]
 rfl
theorem Rf (s:ByteArray) (k:Nat) (h:k<s.size) (hb:oG s[k]=true):(L s).any oG=true:=
 List.any_eq_true.2 ⟨s[k],by
  have h2:k<(L s).length:=by rw[bZ];exact h
  exact List.getElem_mem h2,hb⟩
theorem OD (s:ByteArray) (w:World) (h0:0<s.size) (h27:s.size<=27) (h1:(s.toList==[46])=false) (h2:(s.toList==[46,46])=false) (b:Bool) (hb:Hid ((L s).any oG=b)):
 Calls prog 52 #[σ s] w λe w'=>e=aG (ν (!b))/\w=w':=by
 have t0:decide (s.size<1)=false:=decide_eq_false (by omega);have t0':decide ((s.size:Int)<1)=false:=decide_eq_false (by omega);have t1:decide (27<(s.size:Int))=false:=by simp;omega
 go_enter func52,ntmps52
 go_wp2
 go_loop [3] (λi=>∃k:Nat,k<=s.size/\i=ι J k/\Hid (((L s).take k).any oG=false)) (λi=>s.size-(RowKit.intOf i).toNat)
 case atStart=>exact⟨0,aB _,rfl,U (by simp)⟩
 case round=>
  obtain⟨k,hk,rfl,HT⟩:=hrel
  by_cases hlt:k<s.size
  ·by_cases c1:s[k]=47
   ·have HB:Hid (b=true):=U (by rw[<-hb.o];exact Rf s k hlt (by rw[c1];rfl))
    have q1:((s[k].toNat:Int)==47)=true:=by rw[c1];rfl
    clear c1
    go_wp2
    go_ret;exact⟨by rw[HB.o];rfl,rfl⟩
   ·have q1:((s[k].toNat:Int)==47)=false:=by
     simp only[beq_eq_false_iff_ne,ne_eq];exact λe=>c1 (UInt8.toNat_inj.1 (by simpa using Int.ofNat.inj e))
    by_cases c2:s[k]=0
    ·have HB:Hid (b=true):=U (by rw[<-hb.o];exact Rf s k hlt (by rw[c2];rfl))
     have q2:((s[k].toNat:Int)==0)=true:=by rw[c2];rfl
     clear c1 c2
     go_wp2
     go_ret;exact⟨by rw[HB.o];rfl,rfl⟩
    ·have q2:((s[k].toNat:Int)==0)=false:=by
      simp only[beq_eq_false_iff_ne,ne_eq];exact λe=>c2 (UInt8.toNat_inj.1 (by simpa using Int.ofNat.inj e))
     have HN:Hid (((L s).take (k+1)).any oG=false):=U (by
      rw[any_take_succ s k hlt,HT.o];unfold oG
      simp[c1,c2])
     clear c1 c2
     go_wp2
     go_round
     case rel=>exact⟨k+1,by omega,by go_num,HN⟩
     case measure=>simp[RowKit.intOf];omega
  ·have HB:Hid (b=false):=U (by
    rw[<-hb.o];have:=HT.o;rw[List.take_of_length_le (by rw[bZ];omega)]at this;exact this)
   go_wp2
   go_ret;exact⟨by rw[HB.o];rfl,rfl⟩
theorem mD (s:ByteArray) (w:World) (hs:s.size<=maxLen):
 Calls prog 52 #[σ s] w λe w'=>e=aG (ν (isName (L s)))/\w=w':=by
 have hl:=bZ s
 by_cases h0:s.size=0
 ·rw[Ah h0];exact KN w
 ·by_cases h27:27<s.size
  ·have e:isName (L s)=false:=by
    unfold isName;have:decide ((L s).length<=27)=false:=by simp;omega
    rw[this];simp
   rw[e];exact OB s w hs h27
  ·by_cases h1:L s=[46]
   ·have e:s=⟨#[46]⟩:=iL h1
    rw[e];exact Uz w
   ·by_cases h2:L s=[46,46]
    ·have e:s=⟨#[46,46]⟩:=iL h2
     rw[e];exact OC w
    ·have h:=OD s w (by omega) (by omega) (by rw[dB];simpa using h1) (by rw[dB];simpa using h2) _ (U rfl)
     have e:isName (L s)=!(L s).any oG:=by
      unfold isName;rw[yV];have a1:decide (1<=(L s).length)=true:=by simp;omega
      have a2:decide ((L s).length<=27)=true:=by simp;omega
      have a3:(L s==[46])=false:=by simpa using h1
      have a4:(L s==[46,46])=false:=by simpa using h2
      rw[a1,a2,a3,a4];cases (L s).any oG<;>rfl
     rw[e];exact h
end Path
namespace Tr
open Go.RowKit Go.Shelf Go.Maps Oct Path
section
variable {E:TL} {room q:Nat} {S:T}
def vX (S:T) (dir:Nat) (s:Nm) (ino:Nat):T:=Xa ⟨aS S.n ino (loss (S.n ino)),aY S.l dir s 0⟩ ino
end
end Tr
namespace Re
open Go.RowKit Go.Shelf Go.Maps Oct Path Tr
section
variable {E:TL} {room q:Nat} {S:T}
theorem aR.box {O:Nat->Prop} {w w':World} (h:aR O w w') {b:Nat} {t:TypeId} {cs:Array Value} (hb:aN w b t cs) (ho:¬O b):aN w' b t cs:=(h.block b hb.lt ho).trans hb
theorem Bw {s:Nm} (h:isName s=true):s.length<=27:=by unfold isName at h;simp only[Bool.and_eq_true,decide_eq_true_eq]at h;exact h.1.1.1.2
theorem May.name {r:Rc} (h:May r):(B r.name).size<=maxLen:=by
 rw[aV];cases hE:oD r.op with
 |true=>have:=Bw (h.ent hE).2.2;unfold maxLen;omega
 |false=>rw[(h.noe hE).2];simp
theorem May.name2 {r:Rc} (h:May r):(B r.name2).size<=maxLen:=by
 rw[aV];cases hE:nu r.op with
 |true=>have:=Bw (h.gE hE).2.2.1;unfold maxLen;omega
 |false=>rw[(h.nom hE).2.1];simp
theorem May.dir {r:Rc} (h:May r):r.dir<=256:=by
 cases hE:oD r.op with
 |true=>exact(h.ent hE).2.1
 |false=>rw[(h.noe hE).1];omega
theorem May.bV {r:Rc} (h:May r):r.bV<=256:=by
 cases hE:nu r.op with
 |true=>exact(h.gE hE).2.1
 |false=>rw[(h.nom hE).1];omega
theorem May.old {r:Rc} (h:May r):r.old<=256:=by
 cases hE:nu r.op with
 |true=>exact(h.gE hE).2.2.2
 |false=>rw[(h.nom hE).2.2];omega
end
end Re
namespace Tr
open Go.RowKit Go.Shelf Go.Maps Oct Path Go.Great
section
variable {E:TL} {room q:Nat} {S:T}
def arr (v:Nm):Array Value:=(v.map JH).toArray
theorem pI (v:Nm):(arr v).size=v.length:=by simp[arr]
theorem zV (v:Nm):(arr v).all (·.oneCell')=true:=by
 rw[Array.all_eq_true_iff_forall_mem];intro x hx;simp only[arr,List.mem_toArray,List.mem_map]at hx;obtain⟨b,_,rfl⟩:=hx
 rfl
theorem Rh (v:Nm) (i:Nat):(arr v)[i]? =(v[i]?).map JH:=by simp[arr]
def gN:Array Value:=Array.replicate 64 (.int aF 0)
theorem Yh:gN=arr zero64:=by
 unfold gN arr zero64
 rfl
theorem zW (ρ:Operand->Value) (o:Oper) (w:World) (ho:o.op=.alloc 329):(execOp ρ o).run prog w=.ok (.value (G (some ⟨w.heap.size,0,none⟩))) (w.alloc (aH gN 329)):=by
 unfold execOp;rw[ho]
 kernel_rfl
theorem xS:(prog.info? 329).map (·.size)=some 64:=by kernel_rfl
theorem Ri:prog.underlying 329=some (.array 64 5):=by kernel_rfl
theorem aN.setRow {W:World} {b:Nat} {t:TypeId} {cs:Array Value} (h:aN W b t cs) (ds:Array Value):aN (W.setRow b ds) b t ds:=setRow_heap W b cs ds t (0,0) h
theorem below_setRow {n b:Nat} {w W:World} (h:Below n w W) (hb:n<=b) (ds:Array Value):Below n w (W.setRow b ds):=
 ⟨h.os,h.tape,h.output,by simp;exact h.size,λk hk=>(setRow_other W b k ds (by omega)).trans (h.block k hk)⟩
theorem QR (w:World):(zeroValue 329).run prog w=.ok (.agg gN) w:=by kernel_rfl
theorem aU.page {W:World} (h:aU W E room q S) {x:Nat} (hk:(S.n x).kind≠0) {k:Nat} (vY:k<36):(Instr.lookup 134 (.map (some (E.B x))) (.int J k) false).run prog W=.ok (.agg (arr (aT (S.n x).data k))) W:=by
 obtain⟨g,g1,g2⟩:=h.pg x hk;have:=g2.look Nz underlying134 (z:=.agg gN) (QR W) (WM (x:=k) (by omega));rw[this,jO];unfold Ee;cases hg:g k with
 |none=>rw[g1.no k hg,<-Yh];rfl
 |some v=>rw[<-(g1.is k v hg).1];rfl
theorem Yi:prog.arrayLen 329=64:=by kernel_rfl
theorem Yj (w:World):(sizeOf (prog.elem 329)).run prog w=.ok 1 w:=by kernel_rfl
theorem Yk (w:World) (b l:Nat) (hl:l<64):(Instr.sliceAt 329 (G (some ⟨b,0,none⟩)) (some (.int J (l:Int))) none none).run prog w=.ok (.slice (some ⟨b,l,none⟩) (64-l) (64-l)) w:=by
 rw[run_sliceAt_array_l w _ _ (by kernel_rfl) J l (by omega) (by rw[Yi];omega),Yj,Yi];have h1:¬(64=l):=by omega
 have h2:(⟨b,0,none⟩:Addr).add l=⟨b,l,none⟩:=by unfold Addr.add;split<;>simp_all
 simp[Result.andThen,slicedAt,h1,h2]
theorem Rg (w:World) (b:Nat):(Instr.sliceAt 329 (G (some ⟨b,0,none⟩)) none none none).run prog w=.ok (.slice (some b) 64 64) w:=by
 rw[run_sliceAt_array_all w _ _ (by kernel_rfl),Yj,Yi]
 simp[Result.andThen,slicedAt,Addr.add]
theorem Rj (w:World) (v:Nm):∃w',w'=(w.alloc (aH gN 329)).setRow w.heap.size (arr v)/\aN w' w.heap.size 329 (arr v)/\Below w.heap.size w w':=
 ⟨_,rfl,aN.setRow (aN.new w 329 gN) _,below_setRow ((aj _ _).alloc (ah _) _) (ah _) _⟩
end
end Tr
namespace Re
open Go.RowKit Go.Shelf Go.Maps Oct Path Tr
def upd {α:Type} (f:Nat->α) (i:Nat) (v:α):Nat->α:=λj=>if j=i then v else f j
theorem upd_same {α:Type} (f:Nat->α) (i:Nat) (v:α):upd f i v i=v:=by simp[upd]
theorem tV {α:Type} (f:Nat->α) {i j:Nat} (v:α) (h:j≠i):upd f i v j=f j:=by simp[upd,h]
def oH (W:World) (g:Nat) (p:Option Addr) (c:Nat) (r:List bC):Prop:=
 (p=none/\r=[]/\c=0)\/∃b,p=some ⟨b,0,none⟩/\b<W.heap.size/\b≠g/\∀j v,(r.flatMap dV)[j]? =some v->W.cell? ⟨b,j,none⟩=some v
theorem oH.blocks {W W':World} {g:Nat} {p:Option Addr} {c:Nat} {r:List bC} (h:oH W g p c r) (hs:W.heap.size<=W'.heap.size) (hb:∀b,b<W.heap.size->b≠g->W'.heap[b]? =W.heap[b]?):oH W' g p c r:=by
 rcases h with h|⟨b,h1,h2,h3,h4⟩
 ·exact .inl h
 ·exact .inr ⟨b,h1,aA h2 hs,h3,λj v hv=>(World.cell?_of_block (w:=W) (hb b h2 h3)).trans (h4 j v hv)⟩
def ndC (nd:Nd) (r:List bC) (p:Option Addr) (c:Nat):List Value:=[ι aF nd.kind,θ p r.length c,σ (B nd.data),ι J nd.held]
structure ko (W:World) (R g room q:Nat) (S:T) (es:Nat->List bC) (pa:Nat->Option Addr) (ca:Nat->Nat):Prop where
 top:aN W R 87 #[θ (some g) room room]
 ne:R≠g
 tab:∃cs,aN W g 90 cs/\cs.size=room*4/\∀i,i<room->∀j v,(ndC (S.n (i+1)) (es i) (pa i) (ca i))[j]? =some v->cs[i*4+j]? =some v
 row:∀i,i<room->oH W g (pa i) (ca i) (es i)
 cap:∀i,i<room->(es i).length<=ca i/\(es i).length<=q
 rows:xD room S es
 rm:1<=room/\room<=256
 q1:q<=1000
 dt:∀x,(S.n x).data.length<=2304
 hd:∀x,(S.n x).held<=1
 kd:∀x,(S.n x).kind<=2
 rng:∀x,(S.n x).kind≠0->1<=x/\x<=room
structure Ym (W:World) (g i:Nat) (nd:Nd) (r:List bC) (p:Option Addr) (c:Nat):Prop where
 c0:W.cell? ⟨g,i*4,none⟩=some (ι aF nd.kind)
 c1:W.cell? ⟨g,i*4+1,none⟩=some (θ p r.length c)
 c2:W.cell? ⟨g,i*4+2,none⟩=some (σ (B nd.data))
 c3:W.cell? ⟨g,i*4+3,none⟩=some (ι J nd.held)
 f:∀j,W.frozen? ⟨g,j,none⟩=false
section
variable {W W':World} {R g room q:Nat} {S:T} {es:Nat->List bC} {pa:Nat->Option Addr} {ca:Nat->Nat}
theorem ko.cells (h:ko W R g room q S es pa ca) {i:Nat} (hi:i<room):Ym W g i (S.n (i+1)) (es i) (pa i) (ca i):=by
 obtain⟨cs,h1,h2,h3⟩:=h.tab;have k:=h3 i hi;exact⟨(h1.cell _).trans (k 0 _ rfl),(h1.cell _).trans (k 1 _ rfl),(h1.cell _).trans (k 2 _ rfl),(h1.cell _).trans (k 3 _ rfl),λj=>h1.free j⟩
theorem ko.ny (h:ko W R g room q S es pa ca):g<W.heap.size:=by
 obtain⟨cs,h1,_⟩:=h.tab;exact h1.lt
theorem ko.blocks (h:ko W R g room q S es pa ca) (hs:W.heap.size<=W'.heap.size) (hb:∀b,b<W.heap.size->W'.heap[b]? =W.heap[b]?):ko W' R g room q S es pa ca:=by
 obtain⟨cs,h1,h2,h3⟩:=h.tab;exact{h with top:=(hb _ h.top.lt).trans h.top,tab:=⟨cs,(hb _ h1.lt).trans h1,h2,h3⟩,row:=λi hi=>(h.row i hi).blocks hs λb hb1 _=>hb b hb1}
theorem ko.later (h:ko W R g room q S es pa ca) (hb:Below W.heap.size W W'):ko W' R g room q S es pa ca:=h.blocks hb.size λb hb1=>hb.block b hb1
theorem ko.nC (h:ko W R g room q S es pa ca):W.cell? R=some (θ (some g) room room):=h.top.cell 0
theorem ko.UA (h:ko W R g room q S es pa ca) {i k:Nat} (hi:i<room) {e:bC} (he:(es i)[k]? =some e):∃b,pa i=some ⟨b,0,none⟩/\b<W.heap.size/\b≠g/\W.cell? ⟨b,k*2,none⟩=some (σ e.1)/\W.cell? ⟨b,k*2+1,none⟩=some (ι F e.2):=by
 rcases h.row i hi with⟨_,h2,_⟩|⟨b,h1,h2,h3,h4⟩
 ·rw[h2]at he;cases he
 ·refine⟨b,h1,h2,h3,h4 _ _ ?_,h4 _ _ ?_⟩
  ·rw[Gx,show k*2/2=k by omega,he,show k*2%2=0 by omega]
   rfl
  ·rw[Gx,show(k*2+1)/2=k by omega,he,show(k*2+1)%2=1 by omega]
   rfl
theorem ko.entR (h:ko W R g room q S es pa ca) {i k:Nat} (hi:i<room) {e:bC} (he:(es i)[k]? =some e):S.l (i+1) (L e.1)=e.2/\e.2≠0/\e.1.size<=maxLen:=((h.rows.bg i hi).2 e).1 (List.mem_of_getElem? he)
abbrev st4 (W:World) (g o:Nat) (v0 v1 v2 v3:Value):World:=(((W.setCell ⟨g,o,none⟩ v0).setCell ⟨g,o+1,none⟩ v1).setCell ⟨g,o+2,none⟩ v2).setCell ⟨g,o+3,none⟩ v3
theorem oh (W:World) (g o:Nat) (v0 v1 v2 v3:Value):Tr.aR (λb=>b=g) W (st4 W g o v0 v1 v2 v3):=
 (((Tr.aR.cell (O:=λb=>b=g) (w:=W) rfl).trans (Tr.aR.cell rfl)).trans (Tr.aR.cell rfl)).trans (Tr.aR.cell rfl)
theorem ko.put (h:ko W R g room q S es pa ca) {i:Nat} (hi:i<room) (nd:Nd) (l':Nat->Nm->Nat) (r:List bC) (p:Option Addr) (c q':Nat)
 (hq:q<=q'/\q'<=1000) (hl:∀d,d≠i+1->l' d=S.l d) (Qy:dz (l' (i+1)) r) (hnm:∀s,l' (i+1) s≠0->s.length<=maxLen)
 (hr:oH W g p c r) (hc:r.length<=c/\r.length<=q') (hk:nd.kind<=2) (hd:nd.data.length<=2304) (hh:nd.held<=1):
 ko (st4 W g (i*4) (ι aF nd.kind) (θ p r.length c) (σ (B nd.data)) (ι J nd.held)) R g room q' ⟨aS S.n (i+1) nd,l'⟩ (upd es i r) (upd pa i p) (upd ca i c):=by
 obtain⟨cs,h1,h2,h3⟩:=h.tab;have hT:=oh W g (i*4) (ι aF nd.kind) (θ p r.length c) (σ (B nd.data)) (ι J nd.held);refine{top:=?_,ne:=h.ne,tab:=⟨_,(((h1.set _ _).set _ _).set _ _).set _ _,by simp[h2],?_⟩,row:=?_,cap:=?_,rows:=⟨?_,?_⟩,rm:=h.rm,q1:=hq.2,dt:=?_,hd:=?_,kd:=?_,rng:=?_}
 ·exact(hT.block _ h.top.lt h.ne).trans h.top
 ·intro m hm j v hv
  by_cases e:m=i
  ·subst e
   have hj:j<4:=by have:=(List.getElem?_eq_some_iff.1 hv).1;simpa[ndC]using this
   simp only[upd_same,bE]at hv
   match j,hj with
   |0,_|1,_|2,_|3,_=>simp[ndC]at hv;subst hv;simp[Array.getElem?_setIfInBounds];omega
  ·have hj:j<4:=by have:=(List.getElem?_eq_some_iff.1 hv).1;simpa[ndC]using this
   simp only[tV _ _ e,bq _ _ (show m+1≠i+1 by omega)]at hv;simp only[Array.getElem?_setIfInBounds];rw[if_neg (by omega),if_neg (by omega),if_neg (by omega),if_neg (by omega)];exact h3 m hm j v hv
 ·intro m hm
  by_cases e:m=i
  ·subst e
   simp only[upd_same];exact hr.blocks hT.size λb hb hn=>hT.block b hb hn
  ·simp only[tV _ _ e]
   exact(h.row m hm).blocks hT.size λb hb hn=>hT.block b hb hn
 ·intro m hm
  by_cases e:m=i
  ·subst e
   simp only[upd_same];exact hc
  ·simp only[tV _ _ e]
   have:=h.cap m hm;omega
 ·intro m hm
  by_cases e:m=i
  ·subst e
   simp only[upd_same];exact Qy
  ·simp only[tV _ _ e]
   exact(h.rows.bg m hm).of_eq (hl _ (by omega))
 ·intro d s hs
  by_cases e:d=i+1
  ·subst e
   exact⟨by omega,by omega,hnm s hs⟩
  ·simp only[hl d e]at hs
   exact h.rows.nm d s hs
 ·intro x
  simp only[aS]
  split
  ·exact hd
  ·exact h.dt x
 ·intro x
  simp only[aS]
  split
  ·exact hh
  ·exact h.hd x
 ·intro x
  simp only[aS]
  split
  ·exact hk
  ·exact h.kd x
 ·intro x hx
  simp only[aS]at hx
  split at hx
  ·omega
  ·exact h.rng x hx
end
def jM (W:World) (R g room q:Nat) (S:T):Prop:=∃es pa ca,ko W R g room q S es pa ca
section
variable {W W':World} {R g room q:Nat} {S S':T}
theorem jM.later (h:jM W R g room q S) (hb:Below W.heap.size W W'):jM W' R g room q S:=by
 obtain⟨es,pa,ca,h⟩:=h;exact⟨es,pa,ca,h.later hb⟩
theorem jM.congr (h:jM W R g room q S) (hl:S'.l=S.l) (hn:∀x,(S'.n x).kind=(S.n x).kind/\(S'.n x).data=(S.n x).data/\(S'.n x).held=(S.n x).held):jM W R g room q S':=by
 obtain⟨es,pa,ca,h⟩:=h;obtain⟨cs,h1,h2,h3⟩:=h.tab;refine⟨es,pa,ca,{top:=h.top,ne:=h.ne,tab:=⟨cs,h1,h2,λi hi j v hv=>h3 i hi j v ?_⟩,row:=h.row,cap:=h.cap,rows:=⟨λi hi=>(h.rows.bg i hi).of_eq (by rw[hl]),λd s hs=>h.rows.nm d s (by rw[<-hl];exact hs)⟩,rm:=h.rm,q1:=h.q1,dt:=?_,hd:=?_,kd:=?_,rng:=?_}⟩
 ·rw[<-hv]
  unfold ndC;rw[(hn (i+1)).1,(hn (i+1)).2.1,(hn (i+1)).2.2]
 ·intro x;rw[(hn x).2.1];exact h.dt x
 ·intro x;rw[(hn x).2.2];exact h.hd x
 ·intro x;rw[(hn x).1];exact h.kd x
 ·intro x hx;rw[(hn x).1]at hx;exact h.rng x hx
theorem jM.mono (h:jM W R g room q S) {q':Nat} (hq:q<=q') (h1:q'<=1000):jM W R g room q' S:=by
 obtain⟨es,pa,ca,h⟩:=h;exact⟨es,pa,ca,{h with q1:=h1,cap:=λi hi=>⟨(h.cap i hi).1,aD (h.cap i hi).2 hq⟩}⟩
end
section
variable {R g room q:Nat} {S:T} {es:Nat->List bC} {pa:Nat->Option Addr} {ca:Nat->Nat}
theorem jH {x i:Nat} (h:x=i+1) (hx:x<=256):IntKind.u32.wrap ((x:Int)-1)=i:=by simp[IntKind.wrap,IntKind.bits,IntKind.signed];omega
theorem ko.ig {W:World} (h:ko W R g room q S es pa ca) {x i:Nat} (hx:x=i+1) (hi:i<room):Ym W g i (S.n x) (es i) (pa i) (ca i):=by
 rw[hx];exact h.cells hi
theorem kH (W:World) (h:ko W R g room q S es pa ca) (x:Nat) (h1:1<=x) (h2:x<=room):
 Calls prog 78 #[R,ι F x] W λe w'=>e=aG (ι aF (S.n x).kind)/\w'=W:=by
 obtain⟨i,hx⟩:∃i,x=i+1:=⟨x-1,by omega⟩;have hi:i<room:=by omega
 have hr:=h.rm.2;have h0:=h.nC;have w1:=jH hx (by omega);obtain⟨c0,c1,c2,c3,f⟩:=h.ig hx hi;clear h hx c1 c2 c3 f h1 h2
 go_enter func78,ntmps78
 go_wp2_with fail;go_ret;exact⟨rfl,rfl⟩
theorem kP (W:World) (h:ko W R g room q S es pa ca) (x:Nat) (hx32:x<4294967296):
 Calls prog 18 #[R,ι F x] W λe w'=>e=aG (ν (!((S.n x).kind==0)))/\w'=W:=by
 have hr:=h.rm.2;have h0:=h.nC;have wr:IntKind.u32.wrap (room:Int)=room:=by simp[IntKind.wrap,IntKind.bits,IntKind.signed];omega
 have AC:=h.rng x
 by_cases hk:(S.n x).kind=0
 ·by_cases hin:1<=x/\x<=room
  ·obtain⟨i,hx⟩:∃i,x=i+1:=⟨x-1,by omega⟩
   have hi:i<room:=by omega
   have t1:(1:Int)<=x:=by omega
   have t2:(x:Int)<=room:=by omega
   have w1:=jH hx (by omega);obtain⟨c0,c1,c2,c3,f⟩:=h.ig hx hi;rw[hk]at c0⊢;clear h hx c1 c2 c3 f AC hk hin
   go_enter func18,ntmps18
   go_wp2_with fail;go_ret;exact⟨rfl,rfl⟩
  ·rw[hk]
   clear AC hk
   by_cases h1:1<=x
   ·have t1:(1:Int)<=x:=by omega
    have t2:¬(x:Int)<=room:=by omega
    clear h hin
    go_enter func18,ntmps18
    go_wp2_with fail;go_ret;exact⟨rfl,rfl⟩
   ·have t1:¬(1:Int)<=x:=by omega
    clear h hin
    go_enter func18,ntmps18
    go_wp2_with fail;go_ret;exact⟨rfl,rfl⟩
 ·obtain⟨h1,h2⟩:=AC hk
  obtain⟨i,hx⟩:∃i,x=i+1:=⟨x-1,by omega⟩;have hi:i<room:=by omega
  have t1:(1:Int)<=x:=by omega
  have t2:(x:Int)<=room:=by omega
  have w1:=jH hx (by omega);obtain⟨c0,c1,c2,c3,f⟩:=h.ig hx hi;obtain⟨k,hk2⟩:∃k,(S.n x).kind=k:=⟨_,rfl⟩;rw[hk2]at c0 hk⊢;have t3:((k:Int)!=0)=true:=by simp;omega
  have t4:(k==0)=false:=by simp;omega
  rw[t4];clear h hx c1 c2 c3 f AC hk2 hk h1 h2 t4
  go_enter func18,ntmps18
  go_wp2_with fail;go_ret;exact⟨rfl,rfl⟩
def rQ (S:T) (x:Nat):Nat:=if(S.n x).kind=0 then 3 else if(S.n x).kind=2 then 181 else 0
theorem OG (W:World) (h:ko W R g room q S es pa ca) (x:Nat) (hx32:x<4294967296):
 Calls prog 77 #[R,ι F x] W λe w'=>e=aG (ι J (rQ S x))/\w'=W:=by
 have H:=U h;have HK:=U (h.rng x);have TH:=U (kP W h x hx32);clear h
 go_enter func77,ntmps77
 go_wp2_with fail;refine ak TH.o ?_;rintro e w' ⟨rfl,rfl⟩
 by_cases hk:(S.n x).kind=0
 ·have E:=U (show rQ S x=3 by unfold rQ;rw[if_pos hk])
  rw[hk];go_wp2_with fail;go_ret;exact⟨by rw[E.o];rfl,rfl⟩
 ·have K:=U (kH w' H.o x (HK.o hk).1 (HK.o hk).2)
  have t4:((S.n x).kind==0)=false:=by simpa using hk
  rw[t4];clear t4
  by_cases h2:(S.n x).kind=2
  ·have E:=U (show rQ S x=181 by unfold rQ;rw[if_neg hk,if_pos h2])
   rw[h2]at K;clear hk h2;go_wp2_with fail;refine ak K.o ?_;rintro e w' ⟨rfl,rfl⟩;go_wp2_with fail;go_ret;exact⟨by rw[E.o];rfl,rfl⟩
  ·have E:=U (show rQ S x=0 by unfold rQ;rw[if_neg hk,if_neg h2])
   have t5:(((S.n x).kind:Int)==2)=false:=by simp;omega
   clear hk h2;go_wp2_with fail;refine ak K.o ?_;rintro e w' ⟨rfl,rfl⟩;go_wp2_with fail;go_ret;exact⟨by rw[E.o];rfl,rfl⟩
theorem Yn (wz:World) (h:ko wz R g room q S es pa ca) (x i:Nat) (hx:x=i+1) (hi:i<room) (s:ByteArray):
 Calls prog 75 #[R,ι F x,σ s] wz λe w'=>∃k,e=aG (ι J k)/\JK (es i) s k/\w'=wz:=by
 have hr:=h.rm.2;have h0:=h.nC;have w1:=jH hx (by omega);obtain⟨c0,c1,c2,c3,f⟩:=h.ig hx hi;have hq:=(h.cap i hi).2;have hq2:=h.q1;have HE:=U (λ(k:Nat) (e:bC) (he:(es i)[k]? =some e)=>h.UA hi he);obtain⟨r,hr2⟩:∃r,es i=r:=⟨_,rfl⟩;obtain⟨p,hp⟩:∃p,pa i=p:=⟨_,rfl⟩;rw[hr2,hp]at HE c1;rw[hr2]at hq⊢;obtain⟨n,hn⟩:∃n,r.length=n:=⟨_,rfl⟩;rw[hn]at hq c1;have HN:=U hn;clear h hx c0 c2 c3 f hr2 hp hn
 go_enter func75,ntmps75
 go_wp2_with fail
 go_loopw [8] (λs8 wr=>∃k:Nat,k<=n/\s8=ι J k/\(∀(j:Nat) (e:bC),j<k->r[j]? =some e->e.1≠s)/\wr=wz) (λs8 _=>n-(intOf s8).toNat)
 case atStart=>exact⟨0,aB _,rfl,λj e hj=>absurd hj (Nat.not_lt_zero _),rfl⟩
 case round=>
  obtain⟨k,hk,rfl,hno,rfl⟩:=hrel;have NO:=U hno;clear hno
  rcases Nat.lt_or_ge k n with hlt|hge
  ·have t1:(k:Int)<n:=by omega
   obtain⟨e,he⟩:∃e:bC,r[k]? =some e:=⟨_,List.getElem?_eq_getElem (by rw[HN.o];exact hlt)⟩;obtain⟨b,rfl,hb1,hb2,d0,d1⟩:=HE.o k e he;obtain⟨t,y⟩:=e;simp only at d0 d1;have HX:=U he;clear he hb2 d1
   by_cases hs:t=s
   ·subst hs
    go_wp2_with fail;go_ret;exact⟨k,rfl,.inr ⟨k,y,HX.o,rfl⟩,rfl⟩
   ·have t2:(t.toList==s.toList)=false:=by
     rw[dB,dB]
     simpa using λq=>hs (iL q)
    go_wp2_with fail;go_roundw
    case rel=>
     refine⟨k+1,by omega,by go_num,λj e hj yO=>?_,by trivial⟩
     rcases Nat.lt_or_ge j k with q|q
     ·exact NO.o j e q yO
     ·have:j=k:=by omega
      subst this;rw[HX.o]at yO;cases yO;exact hs
    case measure=>simp[intOf];omega
  ·have e:k=n:=by omega
   subst e;go_wp2_with fail;go_ret;exact⟨_,rfl,.inl ⟨rfl,λj e he=>NO.o j e (by have:=(List.getElem?_eq_some_iff.1 he).1;rw[HN.o]at this;exact this) he⟩,rfl⟩
end
section
variable {R g room q:Nat} {S:T} {es:Nat->List bC} {pa:Nat->Option Addr} {ca:Nat->Nat}
theorem UC {S:T} {a b c:Nat} (h1:yL S a b) (h2:yL S b c):yL S a c:=by
 induction h2 with
 |here=>exact h1
 |up d h _ ih=>exact .up d h ih
theorem KQ {S:T} (hI:Inv room S) {top d:Nat} (ht:1<=top):yL S top d↔d=top\/∃s,S.l top s≠0/\(S.n (S.l top s)).kind=2/\yL S (S.l top s) d:=by
 constructor
 ·intro h
  induction h with
  |here=>exact .inl rfl
  |up d h _ ih=>
   right
   rcases ih with e|⟨s,h1,h2,h3⟩
   ·obtain⟨a,b,s,hs⟩:=hI.Nv h
    rw[e]at hs;refine⟨s,?_,?_,?_⟩
    ·rw[hs]
     intro e0;subst e0;have:=hI.zero;omega
    ·rw[hs];exact a
    ·rw[hs];exact .here
   ·exact⟨s,h1,h2,.up d h h3⟩
 ·rintro(rfl|⟨s,h1,h2,h3⟩)
  ·exact .here
  ·have e:=hI.one top s h2
   exact UC (.up _ (by rw[e];omega) (by rw[e];exact .here)) h3
theorem KR (rk:Nat->Nat):∀n:Nat,∃N,∀x,x<=n->rk x<=N
 |0=>⟨rk 0,λx hx=>by rw[Nat.le_zero.1 hx];exact ah _⟩
 |n+1=>by
  obtain⟨N,h⟩:=KR rk n;refine⟨N+rk (n+1),λx hx=>?_⟩
  rcases Nat.lt_or_ge n x with q|q
  ·rw[show x=n+1 by omega];omega
  ·have:=h x q;omega
theorem Rk (wz:World) (h:ko wz R g room q S es pa ca) (hI:Inv room S) (rk:Nat->Nat) (Rr:∀x,(S.n x).up≠0->rk (S.n x).up<rk x) (N:Nat) (hN:∀x,x<=room->rk x<=N) (dir:Nat):
 ∀m top:Nat,1<=top->top<=room->N<=rk top+m->∀b:Bool,(b=true↔yL S top dir)->
  Calls prog 144 #[R,ι F dir,ι F top] wz λe w'=>e=aG (ν b)/\w'=wz:=by
 intro m
 induction m using Nat.strongRecOn with
 |ind m ih=>
 intro top h1 h2 hm b hb;have IH:=U ih;have HB:=U hb;have HM:=U hm;have HRK:=U Rr;have HNN:=U hN;have HI:=U hI;have H:=U h;clear ih hb hm Rr hN hI
 by_cases e:dir=top
 ·subst e
  have e:b=true:=HB.o.2 .here;subst e;clear h
  go_enter func144,ntmps144
  go_wp2_with fail;go_ret;exact⟨rfl,rfl⟩
 have t0:((dir:Int)==top)=false:=by simp;omega
 have HNE:=U e;clear e;obtain⟨i,hx⟩:∃i,top=i+1:=⟨top-1,by omega⟩;have hi:i<room:=by omega
 have hr:=h.rm.2;have h0:=h.nC;have w1:=jH hx (by omega);obtain⟨c0,c1,c2,c3,f⟩:=h.ig hx hi;have hq:=(h.cap i hi).2;have hq2:=h.q1;have HE:=U (λ(k:Nat) (e:bC) (he:(es i)[k]? =some e)=>h.UA hi he);have HER:=U (λ(k:Nat) (e:bC) (he:(es i)[k]? =some e)=>h.entR hi he);rw[<-hx]at HER;have LI:Hid (dz (S.l top) (es i)):=U (by rw[hx];exact h.rows.bg i hi);obtain⟨r,hr2⟩:∃r,es i=r:=⟨_,rfl⟩;obtain⟨p,hp⟩:∃p,pa i=p:=⟨_,rfl⟩;rw[hr2,hp]at HE c1;rw[hr2]at hq HER LI;obtain⟨n,hn⟩:∃n,r.length=n:=⟨_,rfl⟩;rw[hn]at hq c1;have HN:=U hn;clear h hx c0 c2 c3 f hr2 hp hn
 go_enter func144,ntmps144
 go_wp2_with fail
 go_loopw [8] (λs8 wr=>∃k:Nat,k<=n/\s8=ι J k/\(∀(j:Nat) (e:bC),j<k->r[j]? =some e->¬((S.n e.2).kind=2/\yL S e.2 dir))/\wr=wz) (λs8 _=>n-(intOf s8).toNat)
 case atStart=>exact⟨0,aB _,rfl,λj e hj=>absurd hj (Nat.not_lt_zero _),rfl⟩
 case round=>
  obtain⟨k,hk,rfl,hno,rfl⟩:=hrel;have NO:=U hno;clear hno
  rcases Nat.lt_or_ge k n with hlt|hge
  ·have t1:(k:Int)<n:=by omega
   obtain⟨e,he⟩:∃e:bC,r[k]? =some e:=⟨_,List.getElem?_eq_getElem (by rw[HN.o];exact hlt)⟩;obtain⟨b',rfl,hb1,hb2,d0,d1⟩:=HE.o k e he;obtain⟨e1,e2,e3⟩:=HER.o k e he;obtain⟨t,y⟩:=e;simp only at d0 d1 e1 e2 e3;have HX:=U he;have E1:=U e1;have hyk:=(HI.o.ent top (L t) (by rw[e1];exact e2)).1;rw[e1]at hyk;obtain⟨y1,y2⟩:=H.o.rng y hyk;have KI:=U (kH wr H.o y y1 y2);clear he hb2 d0 e1 e3 hyk
   by_cases hy2:(S.n y).kind=2
   ·rw[hy2]at KI
    have HY:=U hy2;have hup:=HI.o.one top (L t) (by rw[E1.o];exact hy2);rw[E1.o]at hup;have hlt2:=HRK.o y (by rw[hup];omega);rw[hup]at hlt2;have hle2:=HNN.o y y2;have hm2:=HM.o;have hmm:m-1<m:=by omega
    have hmn:N<=rk y+(m-1):=by omega
    by_cases hbel:yL S y dir
    ·have BL:=U (IH.o (m-1) hmm y y1 y2 hmn true (by simp[hbel]))
     have e:b=true:=HB.o.2 ((KQ HI.o h1).2 (.inr ⟨L t,by rw[E1.o];exact e2,by rw[E1.o];exact HY.o,by rw[E1.o];exact hbel⟩));subst e;clear hy2 hup hlt2 hle2 hm2 hmm hmn hbel;go_wp2_with fail;refine ak KI.o ?_;rintro e w' ⟨rfl,rfl⟩;go_wp2_with fail;refine ak BL.o ?_;rintro e w' ⟨rfl,rfl⟩;go_wp2_with fail;go_ret;exact⟨rfl,rfl⟩
    ·have BL:=U (IH.o (m-1) hmm y y1 y2 hmn false (by simp[hbel]))
     have HBL:=U hbel;clear hy2 hup hlt2 hle2 hm2 hmm hmn hbel;go_wp2_with fail;refine ak KI.o ?_;rintro e w' ⟨rfl,rfl⟩;go_wp2_with fail;refine ak BL.o ?_;rintro e w' ⟨rfl,rfl⟩;go_wp2_with fail;go_roundw
     case rel=>
       refine⟨k+1,by omega,by go_num,λj e hj yO=>?_,by trivial⟩
       rcases Nat.lt_or_ge j k with q|q
       ·exact NO.o j e q yO
       ·have:j=k:=by omega
        subst this;rw[HX.o]at yO;cases yO;exact λhh=>HBL.o hh.2
     case measure=>simp[intOf];omega
   ·have t5:(((S.n y).kind:Int)==2)=false:=by simp;omega
    have HY:=U hy2;clear hy2;go_wp2_with fail;refine ak KI.o ?_;rintro e w' ⟨rfl,rfl⟩;go_wp2_with fail;go_roundw
    case rel=>
     refine⟨k+1,by omega,by go_num,λj e hj yO=>?_,by trivial⟩
     rcases Nat.lt_or_ge j k with q|q
     ·exact NO.o j e q yO
     ·have:j=k:=by omega
      subst this;rw[HX.o]at yO;cases yO;exact λhh=>HY.o hh.1
    case measure=>simp[intOf];omega
  ·have e:k=n:=by omega
   subst e
   have e:b=false:=by
    cases b
    ·rfl
    ·rcases(KQ HI.o h1).1 (HB.o.1 rfl)with e|⟨s,g1,g2,g3⟩
     ·exact absurd e HNE.o
     ·have hs:=(H.o.rows.nm top s g1).2.2
      obtain⟨j,hj⟩:=List.mem_iff_getElem?.1 ((LI.o.2 (B s,S.l top s)).2 ⟨by rw[iy],g1,hs⟩);exact absurd ⟨g2,g3⟩ (NO.o j _ (by have:=(List.getElem?_eq_some_iff.1 hj).1;rw[HN.o]at this;exact this) hj)
   subst e;go_wp2_with fail;go_ret;exact⟨rfl,rfl⟩
end
section
variable {R g room q:Nat} {S:T} {es:Nat->List bC} {pa:Nat->Option Addr} {ca:Nat->Nat}
theorem AE (wz:World) (h:ko wz R g room q S es pa ca) (x:Nat) (hx:x≠0) (b:Bool) (hb:b=true↔gA S x):
 Calls prog 145 #[R,ι F x] wz λe w'=>e=aG (ν b)/\w'=wz:=by
 have hr:=h.rm.2;have h0:=h.nC;rw[h.rows.nam hx]at hb;have HB:=U hb;have H:=U h;clear h hx hb
 go_enter func145,ntmps145
 go_wp2_with fail
 go_loopw [5] (λs5 wr=>∃i:Nat,i<=room/\s5=ι J i/\(∀(j k:Nat) (e:bC),j<i->(es j)[k]? =some e->e.2≠x)/\wr=wz) (λs5 _=>room-(intOf s5).toNat)
 case atStart=>exact⟨0,aB _,rfl,λj k e hj=>absurd hj (Nat.not_lt_zero _),rfl⟩
 case round=>
  obtain⟨i,hi,rfl,hno,rfl⟩:=hrel;have NO:=U hno;clear hno
  rcases Nat.lt_or_ge i room with hlt|hge
  ·have t1:(i:Int)<room:=by omega
   obtain⟨c0,c1,c2,c3,f⟩:=H.o.cells hlt;have hq:=(H.o.cap i hlt).2;have hq2:=H.o.q1;have HE:=U (λ(k:Nat) (e:bC) (he:(es i)[k]? =some e)=>H.o.UA hlt he);obtain⟨r,hr2⟩:∃r,es i=r:=⟨_,rfl⟩;obtain⟨p,hp⟩:∃p,pa i=p:=⟨_,rfl⟩;rw[hr2,hp]at HE c1;rw[hr2]at hq;obtain⟨n,hn⟩:∃n,r.length=n:=⟨_,rfl⟩;rw[hn]at hq c1;have HN:=U hn;have HR2:=U hr2;clear c0 c2 c3 f hr2 hp hn;go_wp2_with fail
   go_loopw [6] (λs6 w2=>∃k:Nat,k<=n/\s6=ι J k/\(∀(j:Nat) (e:bC),j<k->r[j]? =some e->e.2≠x)/\w2=wr) (λs6 _=>n-(intOf s6).toNat)
   case atStart=>exact⟨0,aB _,rfl,λj e hj=>absurd hj (Nat.not_lt_zero _),rfl⟩
   case round=>
    obtain⟨k,hk,rfl,hno,rfl⟩:=hrel;have NI:=U hno;clear hno
    rcases Nat.lt_or_ge k n with hkl|hkg
    ·have t2:(k:Int)<n:=by omega
     obtain⟨e,he⟩:∃e:bC,r[k]? =some e:=⟨_,List.getElem?_eq_getElem (by rw[HN.o];exact hkl)⟩;obtain⟨b,rfl,hb1,hb2,d0,d1⟩:=HE.o k e he;obtain⟨t,y⟩:=e;simp only at d0 d1;have HX:=U he;clear he hb2 d0
     by_cases hs:y=x
     ·subst hs
      go_wp2_with fail;go_ret;refine⟨?_,by trivial⟩;rw[HB.o.2 ⟨i,hlt,k,_,by rw[HR2.o];exact HX.o,rfl⟩]
      rfl
     ·have t3:((y:Int)==x)=false:=by simp;omega
      go_wp2_with fail;go_roundw
      case rel=>
          refine⟨k+1,by omega,by go_num,λj e hj yO=>?_,by trivial⟩
          rcases Nat.lt_or_ge j k with q|q
          ·exact NI.o j e q yO
          ·have:j=k:=by omega
           subst this;rw[HX.o]at yO;cases yO;exact hs
      case measure=>simp[intOf];omega
    ·have e:k=n:=by omega
     subst e;go_wp2_with fail;go_roundw
     case rel=>
      refine⟨i+1,by omega,by go_num,λj m e hj yO=>?_,by trivial⟩
      rcases Nat.lt_or_ge j i with q|q
      ·exact NO.o j m e q yO
      ·have:j=i:=by omega
       subst this;rw[HR2.o]at yO;exact NI.o m e (by have:=(List.getElem?_eq_some_iff.1 yO).1;rw[HN.o]at this;exact this) yO
     case measure=>simp[intOf];omega
  ·have e:i=room:=by omega
   subst e;go_wp2_with fail;go_ret;refine⟨?_,by trivial⟩
   have hbf:b=false:=by
    cases b
    ·rfl
    ·obtain⟨j,hj,k,e,he,hx⟩:=HB.o.1 rfl
     exact absurd hx (NO.o j k e hj he)
   rw[hbf]
   rfl
def oI (S:T) (es:Nat->List bC) (x room:Nat):Nat:=if(S.n x).kind=2 then 1 else iK x es room
theorem Rm (wz:World) (h:ko wz R g room q S es pa ca) (x:Nat) (h1:1<=x) (h2:x<=room):
 Calls prog 79 #[R,ι F x] wz λe w'=>e=aG (ι J (oI S es x room))/\w'=wz:=by
 have K:=U (kH wz h x h1 h2);have hr:=h.rm.2;have h0:=h.nC;have H:=U h;clear h h1 h2
 go_enter func79,ntmps79
 go_wp2_with fail;refine ak K.o ?_;rintro e w' ⟨rfl,rfl⟩
 by_cases hk:(S.n x).kind=2
 ·have E:=U (show oI S es x room=1 by unfold oI;rw[if_pos hk])
  rw[hk];go_wp2_with fail;go_ret;exact⟨by rw[E.o];rfl,rfl⟩
 have E:=U (show oI S es x room=iK x es room by unfold oI;rw[if_neg hk]);have t5:(((S.n x).kind:Int)==2)=false:=by simp;omega
 clear hk;have QN:=U (λi (hi:i<=room)=>Gj x es q i (λj hj=>(H.o.cap j (by omega)).2));go_wp2_with fail
 go_loopw [5,6] (λs5 s6 wr=>∃i:Nat,i<=room/\s6=ι J i/\s5=ι J (iK x es i)/\wr=w') (λs5 s6 _=>room-(intOf s6).toNat)
 case atStart=>exact⟨0,aB _,rfl,rfl,rfl⟩
 case round=>
  obtain⟨i,hi,rfl,rfl,rfl⟩:=hrel
  rcases Nat.lt_or_ge i room with hlt|hge
  ·have t1:(i:Int)<room:=by omega
   obtain⟨c0,c1,c2,c3,f⟩:=H.o.cells hlt;have hq:=(H.o.cap i hlt).2;have hq2:=H.o.q1;have HE:=U (λ(k:Nat) (e:bC) (he:(es i)[k]? =some e)=>H.o.UA hlt he);have hcn:=QN.o i hi;have hcm:i*q<=256*1000:=Nat.mul_le_mul (by omega) hq2;have HS:Hid (iK x es (i+1)=iK x es i+JL x (es i)):=U rfl;obtain⟨cn,hcn2⟩:∃cn,iK x es i=cn:=⟨_,rfl⟩;obtain⟨r,hr2⟩:∃r,es i=r:=⟨_,rfl⟩;obtain⟨p,hp⟩:∃p,pa i=p:=⟨_,rfl⟩;rw[hr2,hp]at HE c1;rw[hr2]at hq HS;rw[hcn2]at hcn HS⊢;obtain⟨n,hn⟩:∃n,r.length=n:=⟨_,rfl⟩;rw[hn]at hq c1;have HN:=U hn;have HR2:=U hr2;have HCN:Hid (cn<=256000):=U (by omega);clear c0 c2 c3 f hr2 hp hn hcn2 hcn hcm;go_wp2_with fail
   go_loopw [5,7] (λs5 s7 w2=>∃k:Nat,k<=n/\s7=ι J k/\(∃c:Nat,c=cn+JL x (r.take k)/\c<=256000+k/\s5=ι J c)/\w2=wr) (λs5 s7 _=>n-(intOf s7).toNat)
   case atStart=>exact⟨0,aB _,rfl,⟨cn,rfl,HCN.o,rfl⟩,rfl⟩
   case round=>
    obtain⟨k,hk,rfl,⟨c,hc,hcl,rfl⟩,rfl⟩:=hrel;have HC:=U hc;clear hc
    rcases Nat.lt_or_ge k n with hkl|hkg
    ·have t2:(k:Int)<n:=by omega
     obtain⟨e,he⟩:∃e:bC,r[k]? =some e:=⟨_,List.getElem?_eq_getElem (by rw[HN.o];exact hkl)⟩;obtain⟨b,rfl,hb1,hb2,d0,d1⟩:=HE.o k e he;have CT:=U (Tz x he);obtain⟨t,y⟩:=e;simp only at d0 d1 CT;have HX:=U he;clear he hb2 d0
     by_cases hs:y=x
     ·subst hs
      go_wp2_with fail;go_roundw
      case rel=>
          refine⟨k+1,by omega,by go_num,⟨c+1,?_,by omega,by go_num⟩,by trivial⟩;have:=CT.o;simp only[if_true]at this;rw[this,HC.o];omega
      case measure=>simp[intOf];omega
     ·have t3:((y:Int)==x)=false:=by simp;omega
      go_wp2_with fail;go_roundw
      case rel=>
          refine⟨k+1,by omega,by go_num,⟨c,?_,by omega,by go_num⟩,by trivial⟩;have:=CT.o;simp only[if_neg hs]at this;rw[this,HC.o];omega
      case measure=>simp[intOf];omega
    ·have e:k=n:=by omega
     subst e
     have hcf:c=iK x es (i+1):=by
      have:=HC.o;rw[List.take_of_length_le (by rw[HN.o];exact ah _)]at this;rw[HS.o,this]
     go_wp2_with fail;go_roundw
     case rel=>exact⟨i+1,by omega,by go_num,by rw[<-hcf],by trivial⟩
     case measure=>simp[intOf];omega
  ·have e:i=room:=by omega
   subst e;go_wp2_with fail;go_ret;exact⟨by rw[E.o];rfl,rfl⟩
end
end Re
namespace Tr
open Go.RowKit Go.Shelf Go.Maps Oct Path Go.Great
section
variable {E:TL} {room q:Nat} {S:T}
def KS (S:T) (x:Nat) (s:Nm):T:=⟨aS S.n x {S.n x with data:=s},S.l⟩
theorem aU.bytes {W W':World} (h:aU W E room q S) {x:Nat} (hk:(S.n x).kind≠0) (s:Nm) (hs:s.length<=2304)
 (hpg:∃g,pB s g/\cZ W' 3 (E.B x) 36 (eB J (Ee g)))
 (hnew:aN W' (E.P x) 136 #[.int aF (S.n x).kind,.int J (S.n x).links,.int F s.length,.map (some (E.A x)),.map (some (E.B x)),.int J (S.n x).held,.int F (S.n x).up])
 (hoth:∀b,b≠E.P x->b≠E.B x->b<W.heap.size->W'.heap[b]? =W.heap[b]?):aU W' E room q (KS S x s):=by
 have hks:∀y,(aS S.n x {S.n x with data:=s} y).kind=(S.n y).kind:=JN rfl;have o:=h.own;obtain⟨g0,_,hB0⟩:=h.pg x hk;have hP:=h.nd x hk;have nA:∀y,(S.n y).kind≠0->E.A y≠E.P x:=λy hy e=>(h.ent y hy).ne hP e.symm;have nM:E.m≠E.P x:=λe=>h.map.ne hP e.symm;have nPB:∀y,(S.n y).kind≠0->E.P y≠E.B x:=λy hy e=>hB0.ne (h.nd y hy) e;have nT:E.t≠E.B x:=λe=>hB0.ne h.top e;unfold KS;refine{top:=?_,map:=?_,nd:=?_,ent:=?_,pg:=?_,own:=?_,iP:=?_,iA:=?_,iB:=?_,Tv:=?_,iM:=?_,rm:=h.rm,q8:=h.q8,lk:=?_,dt:=?_}
 ·exact(hoth _ (λe=>(h.iM x hk).1 e.symm) nT h.top.lt).trans h.top
 ·have e:jP E ⟨aS S.n x {S.n x with data:=s},S.l⟩=jP E S:=by funext y;simp only[jP,hks]
  rw[e];exact h.map.block (hoth _ nM (λe=>(h.iM x hk).2.2 e.symm) h.map.lt)
 ·intro y hy
  simp only at hy⊢;rw[hks]at hy
  by_cases e:y=x
  ·subst e
   rw[bE];exact hnew
  ·rw[bq _ _ e]
   exact(hoth _ (λq=>e (h.iP y x hy hk q)) (nPB y hy) (h.nd y hy).lt).trans (h.nd y hy)
 ·intro y hy
  simp only at hy⊢;rw[hks]at hy;exact(h.ent y hy).block (hoth _ (nA y hy) (h.Tv y x hy hk) (h.ent y hy).lt)
 ·intro y hy
  simp only at hy⊢;rw[hks]at hy
  by_cases e:y=x
  ·subst e;rw[bE];exact hpg
  ·obtain⟨g,g1,g2⟩:=h.pg y hy
   have nB:E.B y≠E.P x:=λe=>g2.ne hP e.symm;rw[bq _ _ e];exact⟨g,g1,g2.block (hoth _ nB (λq=>e (h.iB y x hy hk q)) g2.lt)⟩
 ·exact⟨o.1,o.2.1,λy hy=>o.2.2 y (by rw[<-hks];exact hy)⟩
 ·exact λa b ha hb=>h.iP a b (by rw[<-hks];exact ha) (by rw[<-hks];exact hb)
 ·exact λa b ha hb=>h.iA a b (by rw[<-hks];exact ha) (by rw[<-hks];exact hb)
 ·exact λa b ha hb=>h.iB a b (by rw[<-hks];exact ha) (by rw[<-hks];exact hb)
 ·exact λa b ha hb=>h.Tv a b (by rw[<-hks];exact ha) (by rw[<-hks];exact hb)
 ·exact λa ha=>h.iM a (by rw[<-hks];exact ha)
 ·intro y
  by_cases e:y=x
  ·subst e;simp only[bE];exact h.lk y
  ·simp only[bq _ _ e];exact h.lk y
 ·intro y
  by_cases e:y=x
  ·subst e;simp only[bE];exact hs
  ·simp only[bq _ _ e];exact h.dt y
theorem Rn {g:Nat->Option Nm} {k:Nat} {v:Nm}:(λy=>if y=k then some (Value.agg (arr v))else Ee g y)=Ee (λy=>if y=k then some v else g y):=by
 funext y
 unfold Ee
 by_cases e:y=k
 ·simp only[e,if_true];rfl
 ·simp only[e,if_false]
theorem Yo {g:Nat->Option Value} {k:Lit} (h:(eB J g k).isSome=true):∃y:Nat,k=.int J (y:Int)/\(g y).isSome=true:=Eo h
theorem Yp {W:World} {b n:Nat} {g:Nat->Option Nm} (h:cZ W 3 b n (eB J (Ee g))) (hg:∀y,(g y).isSome=true->y<36):cZ W 3 b 36 (eB J (Ee g)):=by
 have:=h.tight Nz ((List.range 36).map λi:Nat=>Lit.int J (i:Int)) (λkl _ hs=>by
  obtain⟨y,rfl,hy⟩:=Yo hs
  have hy2:(g y).isSome=true:=by
   unfold Ee at hy;cases hgy:g y with
   |none=>rw[hgy]at hy;cases hy
   |some v=>rfl
  exact List.mem_map.2 ⟨y,by simpa using hg y hy2,rfl⟩)
 have hl:((List.range 36).map λi:Nat=>Lit.int J (i:Int)).length=36:=by simp
 rw[hl]at this;exact this
theorem aU.AG {W:World} (h:aU W E room q S) {x:Nat} (hk:(S.n x).kind≠0) {k:Nat} (vY:k<36) (v:Nm) (s:Nm) (hv:v=aT s k) (ho:∀y,y≠k->aT s y=aT (S.n x).data y):
 ∃W',(Instr.mapUpdate 134 (.map (some (E.B x))) (.int J k) (.agg (arr v))).run prog W=.ok () W'/\(∃g,pB s g/\cZ W' 3 (E.B x) 36 (eB J (Ee g)))/\W.mapTurned W' (E.B x):=by
 obtain⟨g,g1,g2⟩:=h.pg x hk;obtain⟨W',hrun,h1,h2⟩:=g2.put Nz underlying134 (by unfold maxLen;omega) (WM (x:=k) (by omega)) (.agg (arr v));refine⟨W',hrun,⟨λy=>if y=k then some v else g y,⟨λy u hu=>?_,λy hy=>?_⟩,?_⟩,h2⟩
 ·by_cases e:y=k
  ·subst e;simp only[if_true,Option.some.injEq]at hu;subst hu;exact⟨hv,vY⟩
  ·simp only[e,if_false]at hu;rw[ho y e];exact g1.is y u hu
 ·by_cases e:y=k
  ·subst e;simp at hy
  ·simp only[e,if_false]at hy;rw[ho y e];exact g1.no y hy
 ·rw[dP,Rn]at h1
  refine Yp h1 λy hy=>?_
  by_cases e:y=k
  ·subst e;exact vY
  ·simp only[e,if_false]at hy
   cases hgy:g y with
   |none=>rw[hgy]at hy;cases hy
   |some u=>exact(g1.is y u hgy).2
theorem UD (a:Nat) (s:ByteArray) (h1:s.size≠0) (h2:s.size<=64) (w:World) (ha:aN w a 9 #[.string s]):
 Calls prog 292 #[a] w λe w'=>e=aG (.int J 0)/\Below w.heap.size w w':=by
 have A0:=ha.cell 0;simp only[au,av]at A0;have Al:=ha.lt;clear ha
 have t1:s.toList.isEmpty=false:=by
  rw[ByteArray.toList_eq,List.isEmpty_eq_false_iff];intro e;have:s.size=s.data.toList.length:=rfl;rw[e]at this;exact h1 this
 have t2:decide ((64:Int)<s.size)=false:=by simp;omega
 go_enter func292,ntmps292
 go_wp2_with fail;refine(iT 2 _).mono ?_;rintro e w8 ⟨rfl,rfl⟩;go_wp2_with fail;go_ret;exact⟨rfl,aj _ _⟩
end
