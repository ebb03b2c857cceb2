/- Lemmas. -/
import Derived.Test.YtpendnmmgjlmfaaGreatDoorM23
set_option linter.unusedVariables false
set_option linter.unusedSimpArgs false
namespace Go.Proofs.YtpendnmmgjlmfaaGreatDoor
open Go.RowKit Go.Shelf Go.Maps
open Go.Proofs.Tryz
open IntKind renaming i64→J,u32→F,u8→aF
open Value renaming pointer→G,int->ι,string->σ,tuple->τ,slice->θ,agg->γ
open Ending renaming returned→aG
open Obj renaming cells→aH
set_option maxRecDepth 100000
set_option maxHeartbeats 800000
namespace Re
open Oct Path Tr
section
variable {R g room q:Nat} {S:T} {es:Nat->List bC} {pa:Nat->Option Addr} {ca:Nat->Nat}
theorem wJ (l:Nat->Nm->Nat) (x:Nat) (s:Nm) (y:Nat) (t:Nm):aY l x s y x t=if t=s then y else l x t:=by simp[aY]
theorem dK {w w':World} {v:Value} {base:Nat} {n:Nat} {xs:List Value} {t:TypeId} {k:Nat} (hg:w.grownBy w' v.ownBlock) (ho:w.ownsRow base t k v n xs) (hb:base<=w.heap.size):Below base w w':=
 (aj base w).grown hg hb λc hc=>(ho.lt c hc).1
theorem wK (w:World) (s:ByteArray) (y:Nat):xV (w.alloc (aH #[σ s,ι F y] 202)) (θ (some w.heap.size) 1 1) [(s,y)]:=by
 have X:=aN.new w 202 #[σ s,ι F y];refine .inr ⟨w.heap.size,0,1,rfl,by simp,λj v hv=>?_⟩;rw[Nat.zero_add,X.cell j]
 match j,hv with
 |0,hv|1,hv=>exact hv
 |j+2,hv=>simp[dV]at hv
theorem Ss {W:World} {g:Nat} {p:Option Addr} {c n:Nat} {r:List bC} (h:oH W g p c r) (b:Nat) (hp:p=some ⟨b,0,none⟩) (hn:r.length=n) (k:Nat) (hk:k<=n) (rt:List bC) (ht:r.take k=rt) (W':World) (hb:Below W.heap.size W W'):xV W' (θ (some b) k c) rt:=by
 have:=(h.src (k:=0) (m:=k) (c':=c) b hp (by omega)).later hb;rw[Nat.zero_mul,List.drop_zero,ht]at this;exact this
theorem srcN {W:World} {g:Nat} {p:Option Addr} {c:Nat} {r:List bC} (h:oH W g p c r) (b:Nat) (hp:p=some ⟨b,0,none⟩) (rd:List bC) (hd:rd=[]) (W':World) (hb:Below W.heap.size W W') (o c':Nat):xV W' (θ (some ⟨b,o,none⟩) 0 c') rd:=by
 subst hd
 rcases h with⟨h1,_⟩|⟨b',h1,h2,_⟩
 ·rw[h1]at hp;cases hp
 ·rw[h1]at hp
  cases hp;exact .inr ⟨b,o,c',rfl,aA h2 hb.size,λj v hv=>by simp at hv⟩
theorem srcD {W:World} {g:Nat} {p:Option Addr} {c n:Nat} {r:List bC} (h:oH W g p c r) (b:Nat) (hp:p=some ⟨b,0,none⟩) (hn:r.length=n) (k:Nat) (hk:k<=n) (rd:List bC) (ht:r.drop k=rd) (W':World) (hb:Below W.heap.size W W'):xV W' (θ (some ⟨b,k*2,none⟩) (n-k) (c-k)) rd:=by
 have:=(h.src (k:=k) (m:=n-k) (c':=c-k) b hp (by omega)).later hb;rw[List.take_of_length_le (by rw[List.length_drop];omega),ht]at this;exact this
theorem Ry (wz:World) (h:ko wz R g room q S es pa ca) (x i:Nat) (hx:x=i+1) (hi:i<room) (s:ByteArray) (hs:s.size<=maxLen) (y:Nat) (hy:1<=y) (hl:S.l x (L s)=0) (hq:q<1000):
 Calls prog 76 #[R,ι F x,σ s,ι F y] wz λe w'=>e=aG (τ #[])/\jM w' R g room (q+1) ⟨S.n,aY S.l x (L s) y⟩/\Tr.aR (λb=>b=g) wz w':=by
 have hr2:=h.rm.2;have h0:=h.nC;have w1:=jH hx (by omega);have hg:=h.ny;obtain⟨c0,c1,c2,c3,f⟩:=h.ig hx hi;have hcap:=h.cap i hi;have hq2:=h.q1;have HE:=U (λ(k:Nat) (e:bC) (he:(es i)[k]? =some e)=>h.UA hi he);have HR:=U (h.row i hi);have Ks:=U (h.rows.bg i hi)
 have ST:=U (λ(W:World) (hb:Below wz.heap.size wz W) (r:List bC) (p:Option Addr) (c:Nat) (hr:oH W g p c r) (hc:r.length<=c/\r.length<=q+1) (Qy:dz (aY S.l x (L s) y x) r)=>
  Kb W (h.later hb) x i hx hi r p c (q+1) hr hc ⟨by omega,by omega⟩ (aY S.l x (L s) y) (λd hd=>by funext t;simp[aY,hd]) Qy (λt ht=>by
   rw[wJ]at ht
   split at ht
   ·rename_i e;rw[e];exact hs
   ·exact(h.rows.nm x t ht).2.2))
 rw[<-hx]at Ks;obtain⟨r,hr⟩:∃r,es i=r:=⟨_,rfl⟩;obtain⟨p,hp⟩:∃p,pa i=p:=⟨_,rfl⟩;obtain⟨c,hc⟩:∃c,ca i=c:=⟨_,rfl⟩;rw[hr,hp]at HE c1;rw[hr,hp,hc]at HR;rw[hr]at Ks;rw[hr,hc]at hcap;rw[hc]at c1;obtain⟨n,hn⟩:∃n,r.length=n:=⟨_,rfl⟩;rw[hn]at hcap c1;have HN:=U hn;have HC:=U hcap;have HS:=U (And.intro hs hl);have hn1:n<=1000:=by omega
 clear h hx c0 c2 c3 f hr hp hc hn hcap hs hl
 go_enter func76,ntmps76
 go_wp2_with fail
 go_loopw [9] (λs9 wr=>∃k:Nat,k<=n/\s9=ι J k/\(∀(j:Nat) (e:bC),j<k->r[j]? =some e->L e.1<L s)/\wr=wz) (λs9 _=>n-(intOf s9).toNat)
 case atStart=>exact⟨0,aB _,rfl,λj e hj=>absurd hj (Nat.not_lt_zero _),rfl⟩
 case round=>
  obtain⟨k,hk,rfl,hno,rfl⟩:=hrel;have NO:=U hno;clear hno
  have way:(k<n/\∃e:bC,r[k]? =some e/\L e.1<L s)\/(∀e:bC,r[k]? =some e->¬L e.1<L s):=by
   rcases Nat.lt_or_ge k n with hlt|hge
   ·obtain⟨e,he⟩:∃e:bC,r[k]? =some e:=⟨_,List.getElem?_eq_getElem (by rw[HN.o];exact hlt)⟩
    by_cases q:L e.1<L s
    ·exact .inl ⟨hlt,e,he,q⟩
    ·exact .inr λe' h'=>by rw[he]at h';cases h';exact q
   ·exact .inr λe' h'=>by have:=(List.getElem?_eq_some_iff.1 h').1;rw[HN.o]at this;omega
  rcases way with⟨hlt,e,he,hle⟩|hend
  ·have t1:(k:Int)<n:=by omega
   obtain⟨b,rfl,hb1,hb2,d0,d1⟩:=HE.o k e he;obtain⟨t,z⟩:=e;simp only at d0 d1;have HX:=U he;have HLE:=U hle;have t2:Op.bytesLess t.toList s.toList=true:=by rw[Go.Proofs.bytesLess_eq,dB,dB];exact decide_eq_true hle
   clear he hb2 d1 hle;go_wp2_with fail;go_roundw
   case rel=>
    refine⟨k+1,by omega,by go_num,λj e hj yO=>?_,by trivial⟩
    rcases Nat.lt_or_ge j k with q|q
    ·exact NO.o j e q yO
    ·have:j=k:=by omega
     subst this;rw[HX.o]at yO;cases yO;exact HLE.o
   case measure=>simp[intOf];omega
  ·have HEND:=U hend
   clear hend
   have hguard:(k=n)\/(k<n/\∃e:bC,r[k]? =some e/\Op.bytesLess e.1.toList s.toList=false):=by
    rcases Nat.lt_or_ge k n with hlt|hge
    ·obtain⟨e,he⟩:∃e:bC,r[k]? =some e:=⟨_,List.getElem?_eq_getElem (by rw[HN.o];exact hlt)⟩
     exact .inr ⟨hlt,e,he,by rw[Go.Proofs.bytesLess_eq,dB,dB];exact decide_eq_false (HEND.o e he)⟩
    ·exact .inl (by omega)
   have AP:Hid (dz (aY S.l x (L s) y x) (r.take k++[(s,y)]++r.drop k)):=U (dz.add Ks.o HS.o.2 (by omega) HS.o.1 (by rw[HN.o];exact hk) NO.o HEND.o (λt=>wJ S.l x (L s) y t));obtain⟨rt,hrt⟩:∃rt,r.take k=rt:=⟨_,rfl⟩;obtain⟨rd,hrd⟩:∃rd,r.drop k=rd:=⟨_,rfl⟩;have LL:Hid (rt.length=k/\rd.length=n-k):=U ⟨by rw[<-hrt,List.length_take,HN.o];omega,by rw[<-hrd,List.length_drop,HN.o]⟩;rw[hrt,hrd]at AP;obtain⟨rn,hrn⟩:∃rn,rt++[(s,y)]=rn:=⟨_,rfl⟩;rw[hrn]at AP;obtain⟨rf,hrf⟩:∃rf,rn++rd=rf:=⟨_,rfl⟩;rw[hrf]at AP;have LN:Hid (rn.length=k+1):=U (by rw[<-hrn,List.length_append,LL.o.1];rfl);have LF:Hid (rf.length<=q+1):=U (by rw[<-hrf,List.length_append,LN.o,LL.o.2];have:=HC.o.2;omega);have HT:=U hrt;have HD:=U hrd;have HRN:=U hrn;have HRF:=U hrf;clear hrt hrd hrn hrf
   rcases hguard with hkn|⟨hlt,e,he,hless⟩
   ·subst hkn
    rcases HR.o with⟨rfl,hr0,rfl⟩|⟨b,rfl,hbl,hbg,hbc⟩
    ·have e:k=0:=by rw[<-HN.o,hr0];rfl
     subst e;have HR0:=U hr0;clear hr0;have S1:Hid (∀W,Below wr.heap.size wr W->xV W (θ none 0 0) rt):=U (λW hb=>.inl ⟨rfl,by rw[<-HT.o];rfl⟩);have S2:Hid (∀W,Below wr.heap.size wr W->xV W (θ none 0 0) rd):=U (λW hb=>.inl ⟨rfl,by rw[<-HD.o];exact HR0.o⟩);have B0:=U (aj wr.heap.size wr);have A1:Hid (wr.ownsRow wr.heap.size 202 2 (θ none 0 0) ([]:List bC).length (([]:List bC).flatMap dV)):=U (World.ownsRow_nil _ _ _ _)
     go_wp2_with (at_builtin;refine eG rfl _ _ rfl wr.heap.size _ [] rt rfl A1.o (S1.o wr B0.o) ?b1 (ah _) rt rfl ?_)
     case b1=>rw[LL.o.1];simp only[List.length_nil,List.length_cons];omega
     intro v1 w2 hown1 hg1;have B2:=U (dK hg1 A1.o (ah _));have A2:=U hown1;clear hown1 hg1
     go_wp2_with (at_builtin;refine eG rfl _ _ rfl wr.heap.size v1 rt [(s,y)] rfl (A2.o.alloc _) (wK _ _ _) ?b2 (aD B2.o.size (by simp)) rn HRN.o ?_)
     case b2=>rw[LL.o.1];simp only[List.length_nil,List.length_cons];omega
     intro v2 w3 hown2 hg2;have B3:=U ((B2.o.alloc B2.o.size (aH #[σ s,ι F y] 202)).trans (dK hg2 (A2.o.alloc _) (aD B2.o.size (by simp))));have A3:=U hown2;clear hown2 hg2
     go_wp2_with (at_builtin;refine eG rfl _ _ rfl wr.heap.size v2 rn rd rfl A3.o (S2.o w3 B3.o) ?b3 B3.o.size rf HRF.o ?_)
     case b3=>rw[LN.o,LL.o.2];omega
     intro v3 w4 hown3 hg3;have B4:=U (B3.o.trans (dK hg3 A3.o B3.o.size));obtain⟨p',c',rfl,hrow,hc'⟩:=oH.own hown3 hg;have SET:=U (ST.o w4 B4.o _ p' c' hrow ⟨hc',LF.o⟩ AP.o);clear hown3 hg3 hrow hc';go_wp2_with fail;refine ak SET.o ?_;rintro e w5 ⟨rfl,hA,hT⟩;go_wp2_with fail;go_end0;exact⟨rfl,hA,(Tr.aR.of B4.o).trans hT⟩
    ·have S1:=U (Ss HR.o b rfl HN.o k (ah _) rt HT.o)
     have S2:=U (srcN HR.o b rfl rd (by have:=LL.o.2;rw[Nat.sub_self]at this;exact List.eq_nil_of_length_eq_zero this));have hkc:=HC.o.1;clear hbc hbl hbg
     rcases Nat.lt_or_eq_of_le hkc with Cf|Cf
     ·have hkc3:c-k≠0:=by omega
      have B0:=U (aj wr.heap.size wr);have A1:Hid (wr.ownsRow wr.heap.size 202 2 (θ none 0 0) ([]:List bC).length (([]:List bC).flatMap dV)):=U (World.ownsRow_nil _ _ _ _)
      go_wp2_with (at_builtin;refine eG rfl _ _ rfl wr.heap.size _ [] rt rfl A1.o (S1.o wr B0.o) ?b1 (ah _) rt rfl ?_)
      case b1=>rw[LL.o.1];simp only[List.length_nil,List.length_cons];omega
      intro v1 w2 hown1 hg1;have B2:=U (dK hg1 A1.o (ah _));have A2:=U hown1;clear hown1 hg1
      go_wp2_with (at_builtin;refine eG rfl _ _ rfl wr.heap.size v1 rt [(s,y)] rfl (A2.o.alloc _) (wK _ _ _) ?b2 (aD B2.o.size (by simp)) rn HRN.o ?_)
      case b2=>rw[LL.o.1];simp only[List.length_nil,List.length_cons];omega
      intro v2 w3 hown2 hg2;have B3:=U ((B2.o.alloc B2.o.size (aH #[σ s,ι F y] 202)).trans (dK hg2 (A2.o.alloc _) (aD B2.o.size (by simp))));have A3:=U hown2;clear hown2 hg2
      go_wp2_with (at_builtin;refine eG rfl _ _ rfl wr.heap.size v2 rn rd rfl A3.o (S2.o w3 B3.o _ _) ?b3 B3.o.size rf HRF.o ?_)
      case b3=>rw[LN.o,LL.o.2];omega
      intro v3 w4 hown3 hg3;have B4:=U (B3.o.trans (dK hg3 A3.o B3.o.size));obtain⟨p',c',rfl,hrow,hc'⟩:=oH.own hown3 hg;have SET:=U (ST.o w4 B4.o _ p' c' hrow ⟨hc',LF.o⟩ AP.o);clear hown3 hg3 hrow hc';go_wp2_with fail;refine ak SET.o ?_;rintro e w5 ⟨rfl,hA,hT⟩;go_wp2_with fail;go_end0;exact⟨rfl,hA,(Tr.aR.of B4.o).trans hT⟩
     ·subst Cf
      have B0:=U (aj wr.heap.size wr);have A1:Hid (wr.ownsRow wr.heap.size 202 2 (θ none 0 0) ([]:List bC).length (([]:List bC).flatMap dV)):=U (World.ownsRow_nil _ _ _ _)
      go_wp2_with (at_builtin;refine eG rfl _ _ rfl wr.heap.size _ [] rt rfl A1.o (S1.o wr B0.o) ?b1 (ah _) rt rfl ?_)
      case b1=>rw[LL.o.1];simp only[List.length_nil,List.length_cons];omega
      intro v1 w2 hown1 hg1;have B2:=U (dK hg1 A1.o (ah _));have A2:=U hown1;clear hown1 hg1
      go_wp2_with (at_builtin;refine eG rfl _ _ rfl wr.heap.size v1 rt [(s,y)] rfl (A2.o.alloc _) (wK _ _ _) ?b2 (aD B2.o.size (by simp)) rn HRN.o ?_)
      case b2=>rw[LL.o.1];simp only[List.length_nil,List.length_cons];omega
      intro v2 w3 hown2 hg2;have B3:=U ((B2.o.alloc B2.o.size (aH #[σ s,ι F y] 202)).trans (dK hg2 (A2.o.alloc _) (aD B2.o.size (by simp))));have A3:=U hown2;clear hown2 hg2
      go_wp2_with (at_builtin;refine eG rfl _ _ rfl wr.heap.size v2 rn rd rfl A3.o (S2.o w3 B3.o _ _) ?b3 B3.o.size rf HRF.o ?_)
      case b3=>rw[LN.o,LL.o.2];omega
      intro v3 w4 hown3 hg3;have B4:=U (B3.o.trans (dK hg3 A3.o B3.o.size));obtain⟨p',c',rfl,hrow,hc'⟩:=oH.own hown3 hg;have SET:=U (ST.o w4 B4.o _ p' c' hrow ⟨hc',LF.o⟩ AP.o);clear hown3 hg3 hrow hc';go_wp2_with fail;refine ak SET.o ?_;rintro e w5 ⟨rfl,hA,hT⟩;go_wp2_with fail;go_end0;exact⟨rfl,hA,(Tr.aR.of B4.o).trans hT⟩
   ·rcases HR.o with⟨_,hr0,_⟩|⟨b,rfl,hbl,hbg,hbc⟩
    ·rw[hr0]at he
     cases he
    ·have S1:=U (Ss HR.o b rfl HN.o k hk rt HT.o)
     have S2:=U (srcD HR.o b rfl HN.o k hk rd HD.o);have hkc:=HC.o.1;have Cf:k<=c:=by omega
     have t1:(k:Int)<n:=by omega
     obtain⟨b',hb',_,_,d0,_⟩:=HE.o k e he;cases hb';clear hbc hbl hbg he;have B0:=U (aj wr.heap.size wr);have A1:Hid (wr.ownsRow wr.heap.size 202 2 (θ none 0 0) ([]:List bC).length (([]:List bC).flatMap dV)):=U (World.ownsRow_nil _ _ _ _)
     go_wp2_with (at_builtin;refine eG rfl _ _ rfl wr.heap.size _ [] rt rfl A1.o (S1.o wr B0.o) ?b1 (ah _) rt rfl ?_)
     case b1=>rw[LL.o.1];simp only[List.length_nil,List.length_cons];omega
     intro v1 w2 hown1 hg1;have B2:=U (dK hg1 A1.o (ah _));have A2:=U hown1;clear hown1 hg1
     go_wp2_with (at_builtin;refine eG rfl _ _ rfl wr.heap.size v1 rt [(s,y)] rfl (A2.o.alloc _) (wK _ _ _) ?b2 (aD B2.o.size (by simp)) rn HRN.o ?_)
     case b2=>rw[LL.o.1];simp only[List.length_nil,List.length_cons];omega
     intro v2 w3 hown2 hg2;have B3:=U ((B2.o.alloc B2.o.size (aH #[σ s,ι F y] 202)).trans (dK hg2 (A2.o.alloc _) (aD B2.o.size (by simp))));have A3:=U hown2;clear hown2 hg2
     go_wp2_with (at_builtin;refine eG rfl _ _ rfl wr.heap.size v2 rn rd rfl A3.o (S2.o w3 B3.o) ?b3 B3.o.size rf HRF.o ?_)
     case b3=>rw[LN.o,LL.o.2];omega
     intro v3 w4 hown3 hg3;have B4:=U (B3.o.trans (dK hg3 A3.o B3.o.size));obtain⟨p',c',rfl,hrow,hc'⟩:=oH.own hown3 hg;have SET:=U (ST.o w4 B4.o _ p' c' hrow ⟨hc',LF.o⟩ AP.o);clear hown3 hg3 hrow hc';go_wp2_with fail;refine ak SET.o ?_;rintro e w5 ⟨rfl,hA,hT⟩;go_wp2_with fail;go_end0;exact⟨rfl,hA,(Tr.aR.of B4.o).trans hT⟩
end
section
variable {R g room q:Nat} {S:T} {es:Nat->List bC} {pa:Nat->Option Addr} {ca:Nat->Nat}
theorem qH {w w':World} {B:Nat} {v:Value} {n:Nat} {xs:List Value} {t:TypeId} {k:Nat} (hg:w.grownBy w' (Value.ownBlock (θ none 0 0))) (h:w.ownsRow B t k v n xs):w'.ownsRow B t k v n xs:=by
 refine h.kept hg ?_;cases hv:v.ownBlock with
 |none=>exact .inl rfl
 |some c=>exact .inr (λe=>by cases e)
theorem BN {w w':World} {B:Nat} (hg:w.grownBy w' (Value.ownBlock (θ none 0 0))) (hb:B<=w.heap.size):Below B w w':=(aj B w).grown hg hb λc hc=>by cases hc
theorem srcI {W:World} {g:Nat} {p:Option Addr} {c n:Nat} {r:List bC} (h:oH W g p c r) (b:Nat) (hp:p=some ⟨b,0,none⟩) (hn:r.length=n) (k:Nat) (hk:k<n) (hc:n<=c) (rd:List bC) (ht:r.drop (k+1)=rd) (W':World) (hb:Below W.heap.size W W'):xV W' (θ (if c=k+1 then some ⟨b,0,none⟩else some ⟨b,(k+1)*2,none⟩) (n-(k+1)) (c-(k+1))) rd:=by
 by_cases q:c=k+1
 ·rw[if_pos q,show n-(k+1)=0 by omega]
  exact srcN h b hp rd (by rw[<-ht,List.drop_of_length_le (by omega)]) W' hb _ _
 ·rw[if_neg q]
  exact srcD h b hp hn (k+1) (by omega) rd ht W' hb
theorem wL {w w':World} {B g:Nat} {v:Value} {n:Nat} {xs:List Value} {t:TypeId} {k:Nat} (hT:Tr.aR (λb=>b=g) w w') (h:w.ownsRow B t k v n xs) (hg:g<B):w'.ownsRow B t k v n xs:=by
 refine h.kept (row:=some g) ⟨hT.os,hT.tape,hT.output,hT.size,λc hc hn=>hT.block c hc (λe=>hn (by rw[e]))⟩ ?_;cases hv:v.ownBlock with
 |none=>exact .inl rfl
 |some c=>exact .inr (λe=>by have:=(h.lt c hv).1;cases e;omega)
theorem iq {ops:Array Oper} {bg:Nat->Bool} {i j:Nat} (hcl:∀j k,j<ops.size->bg j=true->gY ops j k=true->bg k=true) (hl:bg i=false) (hj:j<ops.size) (hw:gY ops j i=true):bg j=false:=by
 cases h:bg j with
 |false=>rfl
 |true=>rw[hcl j i hj h hw]at hl;cases hl
theorem Rz {w:World} {o:Oper} {a:Act} {K:Act->World->Prop} {Q:Exit->Act->World->Prop} (s x:Operand)
 (ho:o.op=.call {callee:=.builtin .append,args:=#[s,x],argTypes:=#[88,88]})
 (base:Nat) (v:Value) (es r:List bC) (hs:a.eval s=v) (hown:w.ownsRow base 202 2 v es.length (es.flatMap dV)) (hx:xV w (a.eval x) r) (hn:es.length+r.length<=100000) (hbase:base<=w.heap.size) (r2:List bC) (hr2:es++r=r2)
 (h:∀v' w',w'.ownsRow base 202 2 v' r2.length (r2.flatMap dV)->w.grownBy w' v.ownBlock->(∀u,w.ownsRow base 202 2 u es.length (es.flatMap dV)->w'.ownsRow base 202 2 u es.length (es.flatMap dV))->K (a.put o.dst v') w'):o.wp prog a w K Q:=by
 subst hr2;obtain⟨i0,hi,hz⟩:=Option.map_eq_some_iff.1 WO;have hz0:i0.zero=some (γ #[σ ⟨#[]⟩,ι F 0]):=congrArg (λt=>t.1) hz;have hz1:i0.size=2:=congrArg (λt=>t.2.1) hz;have hz2:i0.bytes=24:=congrArg (λt=>t.2.2) hz
 rcases hx with⟨e,rfl⟩|⟨b,o',c,e,hb,hc⟩
 ·have hrun:=run_append_owned_none (P:=prog) (w:=w) base 88 o.type 202 i0 2 underlying88 hi v es.length (es.flatMap dV) hown
  unfold Oper.wp
  simp[execOp,ho,resolve,invoke,builtin,hs,e,hrun,Result.andThen]
  exact h v w (by simpa using hown) ⟨rfl,rfl,rfl,ah _,λ_ _ _=>rfl⟩ λ_ h=>h
 ·have hnews:∀j u,(r.flatMap dV)[j]? =some u->w.cell? ((⟨b,o',none⟩:Addr).add j)=some u:=λj u hu=>by
   rw[show(⟨b,o',none⟩:Addr).add j=⟨b,o'+j,none⟩by unfold Addr.add;split<;>simp_all];exact hc j u hu
  have hone:∀u∈r.flatMap dV,u.oneCell'=true:=λu hu=>by
   obtain⟨y,_,hy⟩:=List.mem_flatMap.1 hu;simp only[dV,List.mem_cons,List.not_mem_nil,or_false]at hy
   rcases hy with rfl|rfl<;>rfl
  obtain⟨v',w',hrun,h1,h2,_⟩:=run_append_own (P:=prog) w base 88 o.type 202 i0 _ 2 24 underlying88 hi hz0 hz1 hz2 rfl (by decide) v es.length (es.flatMap dV) hown ⟨b,o',none⟩ r.length c (r.flatMap dV) (qo r) hnews hone (by unfold maxLen;omega) (by omega) hbase
  have hkeep:∀u,w.ownsRow base 202 2 u es.length (es.flatMap dV)->w'.ownsRow base 202 2 u es.length (es.flatMap dV):=by
   intro u hu
   rcases hown.2 with⟨rfl,_⟩|⟨gg,cap,cur,rfl,hbg,hgc,hnc,hcm,hcs,htake⟩
   ·exact qH h2 hu
   ·by_cases hroom:es.length+r.length<=cap
    ·have hr:=run_append_room (P:=prog) w 88 o.type 202 i0 underlying88 hi gg es.length cap cur hgc ⟨b,o',none⟩ r.length c (r.flatMap dV) (by rw[hz1,qo]) hnews hone hroom (by rw[hz1,qo,hcs];omega)
     rw[hrun]at hr;simp only[Result.ok.injEq]at hr;obtain⟨_,rfl⟩:=hr
     rcases hu.2 with⟨rfl,h0⟩|⟨g2,cap2,cur2,rfl,hbg2,hgc2,hnc2,hcm2,hcs2,htake2⟩
     ·exact⟨hu.1,.inl ⟨rfl,h0⟩⟩
     ·by_cases hgg:g2=gg
      ·subst hgg
       rw[hgc]at hgc2;cases hgc2;refine⟨hu.1,.inr ⟨g2,cap2,_,rfl,hbg2,setRow_heap w g2 cur _ 202 _ hgc,hnc2,hcm2,?_,?_⟩⟩
       ·simp only[List.size_toArray,List.length_append,List.length_take,List.length_drop,Array.length_toList,qo,hz1]
        omega
       ·simp only[hz1,List.append_assoc]
        rw[List.take_append_of_le_length (by simp only[List.length_take,Array.length_toList];omega),List.take_take,Nat.min_self];exact htake
      ·refine hu.kept h2 (.inr ?_)
       simp only[Value.ownBlock,ne_eq,Option.some.injEq];exact hgg
    ·have holds:∀j u,(es.flatMap dV)[j]? =some u->w.cell? ((⟨gg,0,none⟩:Addr).add j)=some u:=hown.cells (g:=gg) rfl
     have hr:=run_append_grow (P:=prog) w 88 o.type 202 i0 _ underlying88 hi hz0 ⟨gg,0,none⟩ es.length cap (es.flatMap dV) (by rw[hz1,qo]) holds ⟨b,o',none⟩ r.length c (r.flatMap dV) (by rw[hz1,qo]) hnews (by omega) (by omega) (growslice_fits (by omega) (by rw[hz2];omega));rw[hrun]at hr;simp only[Result.ok.injEq]at hr;obtain⟨_,rfl⟩:=hr;exact hu.kept (row:=none) ⟨rfl,rfl,rfl,by simp,λk hk _=>Below.heap_alloc w.drew _ k hk⟩ (by cases hv:u.ownBlock<;>simp)
  unfold Oper.wp;simp only[execOp,ho,resolve,invoke,builtin,Sem.run_bind,Sem.run_pure,Result.andThen_ok,List.map_toArray,List.map_cons,List.map_nil,hs,e,hrun];exact h v' w' (by rw[List.length_append,List.flatMap_append];exact h1) h2 hkeep
theorem RA (wz:World) (h:ko wz R g room q S es pa ca) (x i:Nat) (hx:x=i+1) (hi:i<room) (s:ByteArray) (hs:s.size<=maxLen) (hl:S.l x (L s)≠0):
 Calls prog 143 #[R,ι F x,σ s] wz λe w'=>e=aG (τ #[])/\jM w' R g room q ⟨S.n,aY S.l x (L s) 0⟩/\Tr.aR (λb=>b=g) wz w':=by
 have AT:=U (Yn wz h x i hx hi s);have hr2:=h.rm.2;have h0:=h.nC;have w1:=jH hx (by omega);have hg:=h.ny;obtain⟨c0,c1,c2,c3,f⟩:=h.ig hx hi;have hcap:=h.cap i hi;have hq2:=h.q1;have HR:=U (h.row i hi);have Ks:=U (h.rows.bg i hi)
 have ST:=U (λ(W:World) (hb:Below wz.heap.size wz W) (r:List bC) (p:Option Addr) (c:Nat) (hr:oH W g p c r) (hc:r.length<=c/\r.length<=q) (Qy:dz (aY S.l x (L s) 0 x) r)=>
  Kb W (h.later hb) x i hx hi r p c q hr hc ⟨ah _,h.q1⟩ (aY S.l x (L s) 0) (λd hd=>by funext t;simp[aY,hd]) Qy (λt ht=>by
   rw[wJ]at ht
   split at ht
   ·exact absurd rfl ht
   ·exact(h.rows.nm x t ht).2.2))
 rw[<-hx]at Ks;obtain⟨r,hr⟩:∃r,es i=r:=⟨_,rfl⟩;obtain⟨p,hp⟩:∃p,pa i=p:=⟨_,rfl⟩;obtain⟨c,hc⟩:∃c,ca i=c:=⟨_,rfl⟩;rw[hr,hp]at c1;rw[hr,hp,hc]at HR;rw[hr]at Ks AT;rw[hr,hc]at hcap;rw[hc]at c1;obtain⟨n,hn⟩:∃n,r.length=n:=⟨_,rfl⟩;rw[hn]at hcap c1;have HN:=U hn;have HC:=U hcap;have HS:=U (And.intro hs hl);have hn1:n<=1000:=by omega
 clear h hx c0 c2 c3 f hr hp hc hn hcap hs hl
 go_enter func143,ntmps143
 go_wp2_with fail;refine ak AT.o ?_;rintro e w' ⟨k',rfl,ha,rfl⟩;obtain⟨k,hk,rfl⟩:=ha.yes Ks.o HS.o.1 HS.o.2;have hkn:k<n:=by have:=(List.getElem?_eq_some_iff.1 hk).1;rw[HN.o]at this;exact this
 have AP:Hid (dz (aY S.l x (L s) 0 x) (r.take k++r.drop (k+1))):=U (dz.del Ks.o hk (λt=>wJ S.l x (L s) 0 t));obtain⟨rt,hrt⟩:∃rt,r.take k=rt:=⟨_,rfl⟩;obtain⟨rd,hrd⟩:∃rd,r.drop (k+1)=rd:=⟨_,rfl⟩;have LL:Hid (rt.length=k/\rd.length=n-(k+1)):=U ⟨by rw[<-hrt,List.length_take,HN.o];omega,by rw[<-hrd,List.length_drop,HN.o]⟩;rw[hrt,hrd]at AP;obtain⟨rf,hrf⟩:∃rf,rt++rd=rf:=⟨_,rfl⟩;rw[hrf]at AP;have LF:Hid (rf.length<=q):=U (by rw[<-hrf,List.length_append,LL.o.1,LL.o.2];have:=HC.o.2;omega);have HT:=U hrt;have HD:=U hrd;have HRF:=U hrf
 rcases HR.o with⟨_,hr0,_⟩|⟨b,rfl,hbl,hbg,hbc⟩
 ·rw[hr0]at hk
  cases hk
 have hkc:=HC.o.1;have Cf:k<=c:=by omega
 have hkn2:(k:Int)<n:=by omega
 have S1:=U (Ss HR.o b rfl HN.o k (by omega) rt HT.o);have A1:Hid (∀W:World,W.ownsRow w'.heap.size 202 2 (θ none 0 0) ([]:List bC).length (([]:List bC).flatMap dV)):=U (λ_=>World.ownsRow_nil _ _ _ _);have GB0:=U hg;clear ha hk hrt hrd hrf hbc hbl hbg AT hg;obtain⟨B,hBB⟩:∃B,w'.heap.size=B:=⟨_,rfl⟩;have BB:=U hBB;have GB:Hid (g<B):=U (by rw[<-hBB];exact GB0.o);clear hBB;have S2:=U (srcI HR.o b rfl HN.o k hkn HC.o.1 rd HD.o);have t3:((k:Int)+1)<=n:=by omega
 have t4:k+1<=c:=by omega
 have t6:IntKind.i64.wrap ((k:Int)+1)=(k:Int)+1:=IntWalk.i64_in _ (by omega);go_wp2_with fail;refine gq (by kernel_rfl) (λ|0=>some 21|1=>some 22|2=>some 23|3=>some 24|4=>some 25|5=>some 26|6=>some 27|7=>some 28|8=>some 29|9=>some 30|10=>some 31|11=>some 32|_=>none) (λa=>∃x21 Ob x23 x24 x25 MW x27 x28 x29 x30 x31 x32:Value,a=⟨#[G (some ⟨R,0,none⟩),ι F x,σ s,undef,undef,undef,ι J k,θ (some ⟨b,0,none⟩) n c,G (some ⟨R,0,none⟩),ι F x,σ s,ι J k,G (some ⟨R,0,none⟩),G (some ⟨R,0,none⟩),G (some ⟨R,0,none⟩),θ (some ⟨g,0,none⟩) room room,ι F x,ι F i,G (some ⟨g,i*4,none⟩),G (some ⟨g,i*4+1,none⟩),θ (some ⟨b,0,none⟩) n c,x21,Ob,x23,x24,x25,MW,x27,x28,x29,x30,x31,x32],[]⟩) (λbg w=>(bg 11=false->Below B w' w)/\(bg 11=true->jM w R g room q ⟨S.n,aY S.l x (L s) 0⟩/\Tr.aR (λb=>b=g) w' w)) (λi w1 w2=>(∀v,w1.ownsRow B 202 2 v rt.length (rt.flatMap dV)->w2.ownsRow B 202 2 v rt.length (rt.flatMap dV))/\(i=10\/∀v,w1.ownsRow B 202 2 v rf.length (rf.flatMap dV)->w2.ownsRow B 202 2 v rf.length (rf.flatMap dV))) (λ|0=>(λv w=>v=G (some ⟨R,0,none⟩))|1=>(λv w=>v=ι F x)|2=>(λv w=>v=θ (some ⟨b,0,none⟩) n c)|3=>(λv w=>v=ι J k)|4=>(λv w=>v=θ (some ⟨b,0,none⟩) k c)|5=>(λv w=>w.ownsRow B 202 2 v rt.length (rt.flatMap dV))|6=>(λv w=>v=θ (some ⟨b,0,none⟩) n c)|7=>(λv w=>v=ι J k)|8=>(λv w=>v=ι J ((k:Int)+1))|9=>(λv w=>v=θ (if c=k+1 then some ⟨b,0,none⟩else some ⟨b,(k+1)*2,none⟩) (n-(k+1)) (c-(k+1)))|10=>(λv w=>w.ownsRow B 202 2 v rf.length (rf.flatMap dV))|11=>(λv w=>True)|_=>(λ_ _=>True)) (by kernel_rfl) ?stb (by kernel_rfl) ?AA ⟨_,_,_,_,_,_,_,_,_,_,_,_,rfl⟩ ?G0 ?step ?done
 case stb=>
  intro i j v w1 w2 hi hj hij hw hp hs;have hi:i<12:=hi
  match j,hp with
  |0,hp|1,hp|2,hp|3,hp|4,hp|6,hp|7,hp|8,hp|9,hp=>exact hp
  |5,hp=>
   exact hs.1 v hp
  |10,hp=>
   rcases hs.2 with e|hs2
   ·exact absurd e hij
   ·exact hs2 v hp
  |11,hp=>
   exact trivial
  |j+12,_=>exact trivial
 case AA=>
  rintro i a v hi ⟨_,_,_,_,_,_,_,_,_,_,_,_,rfl⟩
  match i,hi with
  |0,_|1,_|2,_|3,_|4,_|5,_|6,_|7,_|8,_|9,_|10,_|11,_=>exact⟨⟨_,_,_,_,_,_,_,_,_,_,_,_,rfl⟩,λt h=>by cases h<;>exact of_decide_eq_true rfl⟩
  |i+12,hi=>exact absurd hi (by simp)
 case G0=>exact⟨λ_=>by rw[<-BB.o];exact(aj _ _).drew,λqq=>by cases qq⟩
 case step=>
  rintro i a w1 bg hi ⟨x21,Ob,x23,x24,x25,MW,x27,x28,x29,x30,x31,x32,rfl⟩ hl hcl hG hp;refine gu (λK hK=>?_)
  match i,hi with
  |0,_|1,_|2,_|3,_|6,_|7,_=>
   have h11:bg 11=false:=iq hcl hl (by decide:11<12) (by kernel_rfl);have hB:=hG.1 h11;have hG2:=hG;clear hG;refine aO (by rfl) rfl ?_;go_simp;exact hK _ _ ⟨_,rfl,⟨λ_=>hB,λqq=>by change bg 11=true at qq;rw[h11]at qq;cases qq⟩,⟨λv h=>h,.inr λv h=>h⟩,rfl⟩
  |4,_=>
   have h11:bg 11=false:=iq hcl hl (by decide:11<12) (by kernel_rfl);have hB:=hG.1 h11;have hG2:=hG;clear hG;obtain rfl:x23=_:=hp 2 (by kernel_rfl);obtain rfl:x24=_:=hp 3 (by kernel_rfl);refine aO (by rfl) rfl ?_;go_simp;exact hK _ _ ⟨_,rfl,⟨λ_=>hB,λqq=>by change bg 11=true at qq;rw[h11]at qq;cases qq⟩,⟨λv h=>h,.inr λv h=>h⟩,rfl⟩
  |5,_=>
   have h11:bg 11=false:=iq hcl hl (by decide:11<12) (by kernel_rfl);have hB:=hG.1 h11;have hG2:=hG;clear hG;obtain rfl:x25=_:=hp 4 (by kernel_rfl);refine aO (by rfl) rfl ?_;refine Rz (.const (θ none 0 0)) _ rfl B (θ none 0 0) [] rt rfl (World.ownsRow_nil _ _ _ _) (S1.o w1 (by rw[BB.o];exact hB)) (by rw[LL.o.1];simp only[List.length_nil];omega) (by have:=hB.size;rw[<-BB.o];exact this) rt rfl ?_;intro v1 w2 ho hg1 hk1;exact hK _ _ ⟨_,rfl,⟨λ_=>hB.trans (BN hg1 (by have:=hB.size;have:=BB.o;omega)),λqq=>by change bg 11=true at qq;rw[h11]at qq;cases qq⟩,⟨λv h=>qH hg1 h,.inr λv h=>qH hg1 h⟩,ho⟩
  |8,_=>
   have h11:bg 11=false:=iq hcl hl (by decide:11<12) (by kernel_rfl);have hB:=hG.1 h11;have hG2:=hG;clear hG;obtain rfl:x28=_:=hp 7 (by kernel_rfl);refine aO (by rfl) rfl ?_;go_simp;exact hK _ _ ⟨_,rfl,⟨λ_=>hB,λqq=>by change bg 11=true at qq;rw[h11]at qq;cases qq⟩,⟨λv h=>h,.inr λv h=>h⟩,rfl⟩
  |9,_=>
   have h11:bg 11=false:=iq hcl hl (by decide:11<12) (by kernel_rfl);have hB:=hG.1 h11;have hG2:=hG;clear hG;obtain rfl:x27=_:=hp 6 (by kernel_rfl);obtain rfl:x29=_:=hp 8 (by kernel_rfl);refine aO (by rfl) rfl ?_;go_simp;exact hK _ _ ⟨_,rfl,⟨λ_=>hB,λqq=>by change bg 11=true at qq;rw[h11]at qq;cases qq⟩,⟨λv h=>h,.inr λv h=>h⟩,rfl⟩
  |10,_=>
   have h11:bg 11=false:=iq hcl hl (by decide:11<12) (by kernel_rfl);have hB:=hG.1 h11;have hG2:=hG;clear hG;obtain rfl:x30=_:=hp 9 (by kernel_rfl);have ho:=hp 5 (by kernel_rfl);change w1.ownsRow B 202 2 MW rt.length (rt.flatMap dV)at ho;refine aO (by rfl) rfl ?_;refine Rz _ _ rfl B MW rt rd rfl ho (S2.o w1 (by rw[BB.o];exact hB)) (by rw[LL.o.1,LL.o.2];omega) (by have:=hB.size;rw[<-BB.o];exact this) rf HRF.o ?_;intro v1 w2 ho2 hg1 hk1;exact hK _ _ ⟨_,rfl,⟨λ_=>hB.trans (dK hg1 ho (by have:=hB.size;have:=BB.o;omega)),λqq=>by change bg 11=true at qq;rw[h11]at qq;cases qq⟩,⟨hk1,.inl rfl⟩,ho2⟩
  |11,_=>
   have h11:=hl;have hB:=hG.1 h11;have hG2:=hG;clear hG;obtain rfl:x21=_:=hp 0 (by kernel_rfl);obtain rfl:Ob=_:=hp 1 (by kernel_rfl);have ho:=hp 10 (by kernel_rfl);change w1.ownsRow B 202 2 x31 rf.length (rf.flatMap dV)at ho;obtain⟨p',c',rfl,hrow,hc'⟩:=oH.own ho GB.o;have SET:=U (ST.o w1 (by rw[BB.o];exact hB) _ p' c' hrow ⟨hc',LF.o⟩ AP.o);clear hrow hc';refine aO (by rfl) rfl ?_;go_simp;refine ak SET.o ?_;rintro e w2 ⟨rfl,hA,hT⟩;exact hK _ _ ⟨_,rfl,⟨(λqq=>by cases qq),λ_=>⟨hA,(Tr.aR.of (by rw[BB.o];exact hB)).trans hT⟩⟩,⟨λv h=>wL hT h GB.o,.inr λv h=>wL hT h GB.o⟩,trivial⟩
  |i+12,hi=>exact absurd hi (by simp)
 case done=>
  rintro a w8 bg hl ⟨x21,Ob,x23,x24,x25,MW,x27,x28,x29,x30,x31,x32,rfl⟩ hG hp;obtain⟨hA,hT⟩:=hG.2 (hl 11 (by decide));clear hp hG hl;go_wp2_with fail;go_end0;exact⟨rfl,hA,hT⟩
end
section
variable {R g room q:Nat} {S:T} {es:Nat->List bC} {pa:Nat->Option Addr} {ca:Nat->Nat}
def pO (g:Nat) (wz:World) (P:Prop) (Fin:World->Prop) (e:Ending) (w':World):Prop:=∃v er:Nat,e=aG (τ #[ι F v,ι J er])/\Tr.aR (λb=>b=g) wz w'/\(er=0->P/\Fin w')/\(P->er=0)
theorem pO.no {g:Nat} {wz w':World} {P:Prop} {Fin:World->Prop} {v er:Nat} (h:er≠0) (hT:Tr.aR (λb=>b=g) wz w') (hP:¬P):pO g wz P Fin (aG (τ #[ι F v,ι J er])) w':=⟨v,er,rfl,hT,λe=>absurd e h,λp=>absurd p hP⟩
theorem pO.yes {g:Nat} {wz w':World} {P:Prop} {Fin:World->Prop} {v:Nat} (hT:Tr.aR (λb=>b=g) wz w') (hP:P) (hF:Fin w'):pO g wz P Fin (aG (τ #[ι F v,ι J 0])) w':=⟨v,0,rfl,hT,λ_=>⟨hP,hF⟩,λ_=>rfl⟩
theorem wM {S:T} {x:Nat} {s:Nm} (h:(S.n x).kind=2) (h2:S.l x s≠0):BF S x s=0:=by unfold BF;rw[if_neg (by omega),if_pos h,if_neg h2]
theorem Ig {S:T} {x:Nat} {s:Nm} (h:BF S x s=0):(S.n x).kind=2/\S.l x s≠0/\Lf S x s=S.l x s:=by
 unfold BF at h
 split at h
 ·cases h
 ·split at h
  ·rename_i h2
   split at h
   ·cases h
   ·rename_i h3
    exact⟨h2,h3,by unfold Lf;rw[if_pos h2]⟩
  ·cases h
theorem Yy (wz:World) (h:ko wz R g room q S es pa ca) (hI:Inv room S) (dir:Nat) (hd:dir<4294967296) (s:ByteArray) (hs:s.size<=maxLen) (hn:isName (L s)=true):
 Calls prog 82 #[R,ι F dir,σ s] wz
  (pO g wz ((S.n dir).kind=2/\S.l dir (L s)≠0/\(S.n (S.l dir (L s))).kind=1) λw'=>jM w' R g room q (mO ⟨S.n,aY S.l dir (L s) 0⟩ (S.l dir (L s)))):=by
 have LK:=U (uS wz h dir hd s hs hn);have H:=U h;have HI:=U hI;have HS:=U hs;clear h hI hs hn
 go_enter func82,ntmps82
 go_wp2_with fail;refine ak LK.o ?_;rintro e w' ⟨rfl,rfl⟩
 by_cases he:BF S dir (L s)=0
 ·obtain⟨h2,hl,hv⟩:=Ig he
  rw[he,hv];obtain⟨x,hx⟩:∃x,S.l dir (L s)=x:=⟨_,rfl⟩;rw[hx]at hl⊢;have hk:=(HI.o.ent dir (L s) (by rw[hx];exact hl)).1;rw[hx]at hk;obtain⟨x1,x2⟩:=H.o.rng x hk;have KI:=U (kH w' H.o x x1 x2);obtain⟨d1,d2⟩:=H.o.rng dir (by omega);have DE:=U (RA w' H.o dir (dir-1) (by omega) (by omega) s HS.o (by rw[hx];exact hl));have H2:=U h2;have HX:=U hx;have HL:=U hl;have NL:=U (HI.o.vo x);have HK:=U hk;clear he hv h2 hx hl hk;go_wp2_with fail;refine ak KI.o ?_;rintro e w' ⟨rfl,rfl⟩
  by_cases hk2:(S.n x).kind=2
  ·rw[hk2]
   go_wp2_with fail;go_ret2;exact pO.no (by decide) (Tr.aR.refl _ _) (λp=>by rw[HX.o]at p;obtain⟨p1,p2,p3⟩:=p;omega)
  ·have hk1:(S.n x).kind=1:=by have:=H.o.kd x;have:=HK.o;omega
   rw[hk1];have UM:=U hk1
   have Su:Hid (∀t,aY S.l dir (L s) 0 x t=0):=U (λt=>by
    unfold aY
    split
    ·rfl
    ·exact NL.o t hk2)
   clear hk2 hk1;go_wp2_with fail;refine ak DE.o ?_;rintro e w2 ⟨rfl,⟨es',pa',ca',hM⟩,hT⟩;have FR:=U (BH w2 hM x x1 x2 Su.o);have T2:=U hT;clear hM hT;go_wp2_with fail;refine ak FR.o ?_;rintro e w3 ⟨rfl,hA,hT⟩;go_wp2_with fail;go_ret2;refine pO.yes (T2.o.trans hT) ⟨H2.o,by rw[HX.o];exact HL.o,by rw[HX.o];exact UM.o⟩ ?_;rw[HX.o];exact hA
 ·have t1:((BF S dir (L s):Int)!=0)=true:=by simp;omega
  have HE:=U he;clear he;go_wp2_with fail;go_ret2;exact pO.no HE.o (Tr.aR.refl _ _) (λp=>HE.o (wM p.1 p.2.1))
theorem Cp (wz:World) (h:ko wz R g room q S es pa ca) (hI:Inv room S) (dir:Nat) (hd:dir<4294967296) (s:ByteArray) (hs:s.size<=maxLen) (hn:isName (L s)=true):
 Calls prog 81 #[R,ι F dir,σ s] wz
  (pO g wz ((S.n dir).kind=2/\S.l dir (L s)≠0/\(S.n (S.l dir (L s))).kind=2/\∀t,S.l (S.l dir (L s)) t=0) λw'=>jM w' R g room q (mO ⟨S.n,aY S.l dir (L s) 0⟩ (S.l dir (L s)))):=by
 have LK:=U (uS wz h dir hd s hs hn);have H:=U h;have HI:=U hI;have HS:=U hs;clear h hI hs hn
 go_enter func81,ntmps81
 go_wp2_with fail;refine ak LK.o ?_;rintro e w' ⟨rfl,rfl⟩
 by_cases he:BF S dir (L s)=0
 ·obtain⟨h2,hl,hv⟩:=Ig he
  rw[he,hv];obtain⟨x,hx⟩:∃x,S.l dir (L s)=x:=⟨_,rfl⟩;rw[hx]at hl⊢;have hk:=(HI.o.ent dir (L s) (by rw[hx];exact hl)).1;rw[hx]at hk;obtain⟨x1,x2⟩:=H.o.rng x hk;have KI:=U (kH w' H.o x x1 x2);obtain⟨d1,d2⟩:=H.o.rng dir (by omega);have DE:=U (RA w' H.o dir (dir-1) (by omega) (by omega) s HS.o (by rw[hx];exact hl));have H2:=U h2;have HX:=U hx;have HL:=U hl;obtain⟨i,hxi⟩:∃i,x=i+1:=⟨x-1,by omega⟩;have hi:i<room:=by omega
  have hrm:=H.o.rm.2;have w1:=jH hxi (by omega);have h0:=H.o.nC;have LI:Hid (dz (S.l x) (es i)):=U (by rw[hxi];exact H.o.rows.bg i hi);obtain⟨c0,c1,c2,c3,f⟩:=H.o.ig hxi hi;have HQ:=U (H.o.cap i hi);have NMX:=U (H.o.rows.nm x);clear he hv h2 hx hl hk hxi c0 c2 c3 f;go_wp2_with fail;refine ak KI.o ?_;rintro e w' ⟨rfl,rfl⟩
  by_cases hk2:(S.n x).kind=2
  ·rw[hk2]
   have UG:=U hk2;clear hk2
   by_cases hz:es i=[]
   ·have NL:Hid (∀t,S.l x t=0):=U (λt=>Classical.byContradiction λht=>by
      have:=(LI.o.2 (B t,S.l x t)).2 ⟨by rw[iy],ht,(NMX.o t ht).2.2⟩;rw[hz]at this;cases this)
    have Su:Hid (∀t,aY S.l dir (L s) 0 x t=0):=U (λt=>by
      unfold aY
      split
      ·rfl
      ·exact NL.o t)
    rw[hz]at c1;rw[List.length_nil]at c1;clear hz;go_wp2_with fail;refine ak DE.o ?_;rintro e w2 ⟨rfl,⟨es',pa',ca',hM⟩,hT⟩;have FR:=U (BH w2 hM x x1 x2 Su.o);have T2:=U hT;clear hM hT;go_wp2_with fail;refine ak FR.o ?_;rintro e w3 ⟨rfl,hA,hT⟩;go_wp2_with fail;go_ret2;refine pO.yes (T2.o.trans hT) ⟨H2.o,by rw[HX.o];exact HL.o,by rw[HX.o];exact UG.o,by rw[HX.o];exact NL.o⟩ ?_;rw[HX.o];exact hA
   ·have NP:Hid (¬∀t,S.l x t=0):=U (λhno=>by
      obtain⟨e,he⟩:=List.exists_mem_of_ne_nil _ hz;have:=(LI.o.2 e).1 he;exact this.2.1 (this.1.symm.trans (hno _)))
    have hlen:0<(es i).length:=List.length_pos_iff.2 hz;obtain⟨n,hn⟩:∃n,(es i).length=n:=⟨_,rfl⟩;rw[hn]at c1 hlen;have t2:(0:Int)<n:=by omega
    clear hz hn;go_wp2_with fail;go_ret2;exact pO.no (by decide) (Tr.aR.refl _ _) (λp=>by rw[HX.o]at p;exact NP.o p.2.2.2)
  ·have NP:=U hk2
   have t5:(((S.n x).kind:Int)!=2)=true:=by simp;omega
   clear hk2;go_wp2_with fail;go_ret2;exact pO.no (by decide) (Tr.aR.refl _ _) (λp=>by rw[HX.o]at p;exact NP.o p.2.2.1)
 ·have t1:((BF S dir (L s):Int)!=0)=true:=by simp;omega
  have HE:=U he;clear he;go_wp2_with fail;go_ret2;exact pO.no HE.o (Tr.aR.refl _ _) (λp=>HE.o (wM p.1 p.2.1))
end
section
variable {R g room q:Nat} {S:T} {es:Nat->List bC} {pa:Nat->Option Addr} {ca:Nat->Nat}
theorem Yz (wz:World) (h:ko wz R g room q S es pa ca) (hI:Inv room S) (dir ino kind:Nat) (hd:dir<4294967296) (hi1:1<=ino) (hi2:ino<=256) (hkd:kind=1\/kind=2) (s:ByteArray) (hs:s.size<=maxLen) (hn:isName (L s)=true) (hq:q<1000):
 Calls prog 34 #[R,ι F dir,σ s,ι aF kind,ι F ino] wz
  (bQ g wz ((S.n dir).kind=2/\S.l dir (L s)=0/\(S.n ino).kind=0/\ino<=room) λw'=>jM w' R g room (q+1) ⟨aS S.n ino ⟨kind,1,0,0,[]⟩,aY S.l dir (L s) ino⟩):=by
 have NM:=U (mD s wz hs);rw[hn]at NM;have DI:=U (Kf wz h dir hd s hs hn);have H:=U h;have HI:=U hI;have HS:=U hs;have TH:=U (kP wz h ino (by omega));have hrm:=h.rm.2;have h0:=h.nC;have wr:IntKind.u32.wrap (room:Int)=room:=by simp[IntKind.wrap,IntKind.bits,IntKind.signed];omega
 have t1:¬(ino:Int)<1:=by omega
 have kb:((kind:Int)==1||(kind:Int)==2)=true:=by rcases hkd with rfl|rfl<;>rfl
 have HK:=U hkd;clear h hI hs hn
 rcases hkd with rfl|rfl
 ·clear kb
  go_enter func34,ntmps34
  go_wp2_with fail;refine ak NM.o ?_;rintro e w' ⟨rfl,rfl⟩
  rcases Nat.lt_or_ge room ino with hgt|hle
  ·have NP:=U hgt
   have t2:(room:Int)<ino:=by omega
   go_wp2_with fail;go_ret;exact bQ.no (by decide) (Tr.aR.refl _ _) (λp=>by obtain⟨p1,p2,p3,p4⟩:=p;have:=NP.o;omega)
  ·have t2:¬(room:Int)<ino:=by omega
   have HLE:=U hle;go_wp2_with fail;refine ak DI.o ?_;rintro e w' ⟨rfl,rfl⟩
   by_cases hdk:(S.n dir).kind=2
   ·have ED:mW S dir=0:=by unfold mW;rw[if_neg (by omega),if_pos hdk]
    rw[ED];have HDK:=U hdk;obtain⟨d1,d2⟩:=H.o.rng dir (by omega);obtain⟨di,hdi⟩:∃di,dir=di+1:=⟨dir-1,by omega⟩;have wN:di<room:=by omega
    have AT:=U (Yn w' H.o dir di hdi wN s);have LI:Hid (dz (S.l dir) (es di)):=U (by rw[hdi];exact H.o.rows.bg di wN);have DD:=U (And.intro hdi wN);clear ED hdk hdi wN d1 d2;go_wp2_with fail;refine ak AT.o ?_;rintro e w' ⟨k,rfl,ha,rfl⟩
    by_cases hl:S.l dir (L s)=0
    ·have:=ha.no LI.o HS.o hl
     subst this;have HL:=U hl;clear ha hl;go_wp2_with fail;refine ak TH.o ?_;rintro e w' ⟨rfl,rfl⟩
     by_cases hk:(S.n ino).kind=0
     ·rw[hk]
      obtain⟨i,hx⟩:∃i,ino=i+1:=⟨ino-1,by omega⟩;have hi:i<room:=by omega
      have w1:=jH hx (by omega);have hg:=H.o.ny;obtain⟨c0,c1,c2,c3,f⟩:=H.o.ig hx hi;have f0:=f (i*4);have f1:=f (i*4+1);have f2:=f (i*4+2);have f3:=f (i*4+3);have hno:=HI.o.vo ino;have hne:dir≠ino:=λe=>by have:=HDK.o;rw[e,hk]at this;cases this
      have PU:=H.o.put hi ⟨1,1,0,0,[]⟩ S.l [] none 0 q ⟨ah _,H.o.q1⟩ (λ_ _=>rfl) (dz.nil _ (by rw[<-hx];exact λt=>hno t (by omega))) (λt ht=>absurd (by rw[<-hx];exact hno t (by omega)) ht) (.inl ⟨rfl,rfl,rfl⟩) ⟨aB _,aB _⟩ (by show 1<=2;decide) (by show 0<=2304;decide) (by show 0<=1;decide);rw[<-hx]at PU;have AD:=U (Ry _ PU dir di DD.o.1 DD.o.2 s HS.o ino hi1 HL.o hq);have HKI:=U hk;clear PU hx f hk hno hne;go_wp2_with fail;refine ak AD.o ?_;rintro e w5 ⟨rfl,hA,hT⟩;go_wp2_with fail;go_ret;exact bQ.yes ((oh _ _ _ _ _ _ _).trans hT) ⟨HDK.o,HL.o,HKI.o,HLE.o⟩ hA
     ·have NP:=U hk
      have t4:((S.n ino).kind==0)=false:=by simpa using hk
      rw[t4];clear t4 hk;go_wp2_with fail;go_ret;exact bQ.no (by decide) (Tr.aR.refl _ _) (λp=>NP.o p.2.2.1)
    ·have NP:=U hl
     obtain⟨m,hm,rfl⟩:=ha.yes LI.o HS.o hl;have t5:(0:Int)<=m:=by omega
     clear ha hm hl;go_wp2_with fail;go_ret;exact bQ.no (by decide) (Tr.aR.refl _ _) (λp=>NP.o p.2.1)
   ·have NP:=U hdk
    have ED:mW S dir≠0:=by unfold mW;rw[if_neg hdk];split<;>decide
    have t6:((mW S dir:Int)!=0)=true:=by simp;omega
    have HED:=U ED;clear hdk ED;go_wp2_with fail;go_ret;exact bQ.no HED.o (Tr.aR.refl _ _) (λp=>NP.o p.1)
 ·clear kb
  go_enter func34,ntmps34
  go_wp2_with fail;refine ak NM.o ?_;rintro e w' ⟨rfl,rfl⟩
  rcases Nat.lt_or_ge room ino with hgt|hle
  ·have NP:=U hgt
   have t2:(room:Int)<ino:=by omega
   go_wp2_with fail;go_ret;exact bQ.no (by decide) (Tr.aR.refl _ _) (λp=>by obtain⟨p1,p2,p3,p4⟩:=p;have:=NP.o;omega)
  ·have t2:¬(room:Int)<ino:=by omega
   have HLE:=U hle;go_wp2_with fail;refine ak DI.o ?_;rintro e w' ⟨rfl,rfl⟩
   by_cases hdk:(S.n dir).kind=2
   ·have ED:mW S dir=0:=by unfold mW;rw[if_neg (by omega),if_pos hdk]
    rw[ED];have HDK:=U hdk;obtain⟨d1,d2⟩:=H.o.rng dir (by omega);obtain⟨di,hdi⟩:∃di,dir=di+1:=⟨dir-1,by omega⟩;have wN:di<room:=by omega
    have AT:=U (Yn w' H.o dir di hdi wN s);have LI:Hid (dz (S.l dir) (es di)):=U (by rw[hdi];exact H.o.rows.bg di wN);have DD:=U (And.intro hdi wN);clear ED hdk hdi wN d1 d2;go_wp2_with fail;refine ak AT.o ?_;rintro e w' ⟨k,rfl,ha,rfl⟩
    by_cases hl:S.l dir (L s)=0
    ·have:=ha.no LI.o HS.o hl
     subst this;have HL:=U hl;clear ha hl;go_wp2_with fail;refine ak TH.o ?_;rintro e w' ⟨rfl,rfl⟩
     by_cases hk:(S.n ino).kind=0
     ·rw[hk]
      obtain⟨i,hx⟩:∃i,ino=i+1:=⟨ino-1,by omega⟩;have hi:i<room:=by omega
      have w1:=jH hx (by omega);have hg:=H.o.ny;obtain⟨c0,c1,c2,c3,f⟩:=H.o.ig hx hi;have f0:=f (i*4);have f1:=f (i*4+1);have f2:=f (i*4+2);have f3:=f (i*4+3);have hno:=HI.o.vo ino;have hne:dir≠ino:=λe=>by have:=HDK.o;rw[e,hk]at this;cases this
      have PU:=H.o.put hi ⟨2,1,0,0,[]⟩ S.l [] none 0 q ⟨ah _,H.o.q1⟩ (λ_ _=>rfl) (dz.nil _ (by rw[<-hx];exact λt=>hno t (by omega))) (λt ht=>absurd (by rw[<-hx];exact hno t (by omega)) ht) (.inl ⟨rfl,rfl,rfl⟩) ⟨aB _,aB _⟩ (by show 2<=2;decide) (by show 0<=2304;decide) (by show 0<=1;decide);rw[<-hx]at PU;have AD:=U (Ry _ PU dir di DD.o.1 DD.o.2 s HS.o ino hi1 HL.o hq);have HKI:=U hk;clear PU hx f hk hno hne;go_wp2_with fail;refine ak AD.o ?_;rintro e w5 ⟨rfl,hA,hT⟩;go_wp2_with fail;go_ret;exact bQ.yes ((oh _ _ _ _ _ _ _).trans hT) ⟨HDK.o,HL.o,HKI.o,HLE.o⟩ hA
     ·have NP:=U hk
      have t4:((S.n ino).kind==0)=false:=by simpa using hk
      rw[t4];clear t4 hk;go_wp2_with fail;go_ret;exact bQ.no (by decide) (Tr.aR.refl _ _) (λp=>NP.o p.2.2.1)
    ·have NP:=U hl
     obtain⟨m,hm,rfl⟩:=ha.yes LI.o HS.o hl;have t5:(0:Int)<=m:=by omega
     clear ha hm hl;go_wp2_with fail;go_ret;exact bQ.no (by decide) (Tr.aR.refl _ _) (λp=>NP.o p.2.1)
   ·have NP:=U hdk
    have ED:mW S dir≠0:=by unfold mW;rw[if_neg hdk];split<;>decide
    have t6:((mW S dir:Int)!=0)=true:=by simp;omega
    have HED:=U ED;clear hdk ED;go_wp2_with fail;go_ret;exact bQ.no HED.o (Tr.aR.refl _ _) (λp=>NP.o p.1)
theorem Sx (wz:World) (h:ko wz R g room q S es pa ca) (hI:Inv room S) (dir ino:Nat) (hd:dir<4294967296) (hi1:1<=ino) (hi2:ino<=256) (s:ByteArray) (hs:s.size<=maxLen) (hn:isName (L s)=true) (hq:q<1000):
 Calls prog 36 #[R,ι F dir,σ s,ι F ino] wz
  (bQ g wz ((S.n dir).kind=2/\S.l dir (L s)=0/\(S.n ino).kind=1/\iK ino es room<200) λw'=>jM w' R g room (q+1) ⟨S.n,aY S.l dir (L s) ino⟩):=by
 have NM:=U (mD s wz hs);rw[hn]at NM;have H:=U h;have HS:=U hs;have TD:=U (kP wz h dir hd);have TH:=U (kP wz h ino (by omega));clear h hI hs hn
 go_enter func36,ntmps36
 go_wp2_with fail;refine ak NM.o ?_;rintro e w' ⟨rfl,rfl⟩;go_wp2_with fail;refine ak TD.o ?_;rintro e w' ⟨rfl,rfl⟩
 by_cases hdk:(S.n dir).kind=0
 ·rw[hdk]
  go_wp2_with fail;go_ret;exact bQ.no (by decide) (Tr.aR.refl _ _) (λp=>by obtain⟨p1,p2,p3,p4⟩:=p;omega)
 have t4:((S.n dir).kind==0)=false:=by simpa using hdk
 rw[t4];obtain⟨d1,d2⟩:=H.o.rng dir hdk;have KD:=U (kH w' H.o dir d1 d2);clear t4 hdk;go_wp2_with fail;refine ak TH.o ?_;rintro e w' ⟨rfl,rfl⟩
 by_cases hik:(S.n ino).kind=0
 ·rw[hik]
  go_wp2_with fail;go_ret;exact bQ.no (by decide) (Tr.aR.refl _ _) (λp=>by obtain⟨p1,p2,p3,p4⟩:=p;omega)
 have t4:((S.n ino).kind==0)=false:=by simpa using hik
 rw[t4];obtain⟨i1,i2⟩:=H.o.rng ino hik;have KI:=U (kH w' H.o ino i1 i2);have LN:=U (Rm w' H.o ino i1 i2);have HIK:=U hik;clear t4 hik;go_wp2_with fail;refine ak KD.o ?_;rintro e w' ⟨rfl,rfl⟩
 by_cases hd2:(S.n dir).kind=2
 ·rw[hd2]
  have HD2:=U hd2;clear hd2;go_wp2_with fail;refine ak KI.o ?_;rintro e w' ⟨rfl,rfl⟩
  by_cases hi3:(S.n ino).kind=2
  ·rw[hi3]
   go_wp2_with fail;go_ret;exact bQ.no (by decide) (Tr.aR.refl _ _) (λp=>by obtain⟨p1,p2,p3,p4⟩:=p;omega)
  have LE:oI S es ino room=iK ino es room:=by unfold oI;rw[if_neg hi3]
  rw[LE]at LN;have HI1:Hid ((S.n ino).kind=1):=U (by have:=H.o.kd ino;have:=HIK.o;omega);rw[HI1.o];obtain⟨di,hdi⟩:∃di,dir=di+1:=⟨dir-1,by omega⟩;have wN:di<room:=by omega
  have AT:=U (Yn w' H.o dir di hdi wN s);have LI:Hid (dz (S.l dir) (es di)):=U (by rw[hdi];exact H.o.rows.bg di wN);have AD:=U (λhl=>Ry w' H.o dir di hdi wN s HS.o ino hi1 hl hq);clear LE hi3 hdi wN;go_wp2_with fail;refine ak AT.o ?_;rintro e w' ⟨k,rfl,ha,rfl⟩
  by_cases hl:S.l dir (L s)=0
  ·have:=ha.no LI.o HS.o hl
   subst this;have HL:=U hl;clear ha hl;go_wp2_with fail;refine ak LN.o ?_;rintro e w' ⟨rfl,rfl⟩;obtain⟨c,hc⟩:∃c,iK ino es room=c:=⟨_,rfl⟩;rw[hc];have HC:=U hc;clear hc
   rcases Nat.lt_or_ge c 200 with hlt|hge
   ·have t7:¬(200:Int)<=c:=by omega
    go_wp2_with fail;refine ak (AD.o HL.o) ?_;rintro e w5 ⟨rfl,hA,hT⟩;go_wp2_with fail;go_ret;exact bQ.yes hT ⟨HD2.o,HL.o,HI1.o,by rw[HC.o];exact hlt⟩ hA
   ·have NP:=U hge
    have t7:(200:Int)<=c:=by omega
    go_wp2_with fail;go_ret;exact bQ.no (by decide) (Tr.aR.refl _ _) (λp=>by have h1:=p.2.2.2;rw[HC.o]at h1;have:=NP.o;omega)
  ·have NP:=U hl
   obtain⟨m,hm,rfl⟩:=ha.yes LI.o HS.o hl;have t5:(0:Int)<=m:=by omega
   clear ha hm hl;go_wp2_with fail;go_ret;exact bQ.no (by decide) (Tr.aR.refl _ _) (λp=>NP.o p.2.1)
 ·have NP:=U hd2
  have t5:(((S.n dir).kind:Int)!=2)=true:=by simp;omega
  clear hd2;go_wp2_with fail;go_ret;exact bQ.no (by decide) (Tr.aR.refl _ _) (λp=>NP.o p.1)
end
