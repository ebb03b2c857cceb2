/- Lemmas. -/
import Derived.Test.YtpendnmmgjlmfaaGreatDoorM55
import Derived.RegionIn
import Derived.OpenShut
set_option linter.unusedVariables false
set_option linter.unusedSimpArgs false
namespace Go.Proofs.YtpendnmmgjlmfaaGreatDoor
open Go.Proofs.Tryz
open IntKind renaming i64→J,u32→F,u8→aF
open Value renaming pointer→G
open Ending renaming returned→aG
open Obj renaming cells→aH
set_option maxRecDepth 100000
set_option maxHeartbeats 2000000
namespace Wz
open Go.RowKit Go.Shelf Oct Go.Great
section
attribute [local go_sem] Oper.semAt_some
section
variable {aL:Fence} {n:Nat} {P:Program}
theorem zy {ops:Array Oper} {rest:List Oper} {o:Oper} {a:Act} {Q:Exit->Act->World->Prop} {w:World} (hg:o.guard=none) (ho:o.op=.alloc 365)
 (h:wpListIn aL n prog ops Q rest (a.put o.dst (G (some ⟨w.heap.size,0,none⟩))) (w.alloc (aH nL 365))):wpListIn aL n prog ops Q (o::rest) a w:=by
 refine wpListIn_plain hg λK hK=>?_;unfold Oper.wpIn;refine⟨by simp[Oper.about,ho],?_⟩;rw[Oper.semAt_plain aL _ _ (by rw[ho];intro c hc;cases hc),Qw _ _ _ ho];exact hK _ _ h
theorem uH {ops:Array Oper} {rest:List Oper} {o:Oper} {a:Act} {Q:Exit->Act->World->Prop} {w:World} (hgd:o.guard=none) (ty:TypeId) (x y:Operand) (ho:o.op=.store ty x y)
 (g:Nat) (cells:Array Value) (hx:a.eval x=G (some ⟨g,0,none⟩)) (hy:a.eval y=.agg cells)
 (t:TypeId) (old:Array Value) (hg:w.heap[g]? =some (aH old t (0,0))) (hi:(P.info? ty).map (·.size)=some cells.size)
 (hold:old.size=cells.size) (h1:cells.all (·.oneCell')=true)
 (h:wpListIn aL n P ops Q rest (a.put o.dst undef) (w.setRow g cells)):wpListIn aL n P ops Q (o::rest) a w:=by
 refine wpListIn_plain hgd λK hK=>?_;unfold Oper.wpIn;refine⟨by simp[Oper.about,ho],?_⟩;rw[Oper.semAt_plain aL _ _ (by rw[ho];intro c hc;cases hc)];unfold execOp;simp only[ho,hx,hy,Instr.storeAt,Instr.sureAddr,Sem.run_bind,Sem.run_pure,Result.andThen_ok,run_storeVar_row w g t ty old cells hg hi hold h1];exact hK _ _ h
end
def yK (s:ByteArray) (k:Nat):UInt8:=(L s).getD k 0
theorem Tg (s:ByteArray):upto (yK s) s.size=L s:=by
 apply List.ext_getElem
 ·rw[nN,bZ]
 ·intro i h1 h2
  simp[upto,yK,h2]
theorem Ti (s:ByteArray) (k:Nat) (h:k<s.size):yK s k=s[k]:=by
 unfold yK;rw[List.getD_eq_getElem?_getD,List.getElem?_eq_getElem (by rw[bZ];exact h)]
 rfl
theorem Tj (aL:Fence) (n:Nat) (h8:aL.fn 340) (hro:aL.round=none) (hn:1<=n) (l Bs:Nat) (s:ByteArray) (hs:s.size<=1099511627776) (aK Jx:List UInt8->World->Prop)
 (hY:∀pre x W,aK pre W->pre.length<s.size->YieldAt aL (n-1) prog l #[.int aF (x.toNat:Int)] W λe W'=>
  (e=aG (.bool true)/\aK (pre++[x]) W'/\eP Bs 9 W W')\/(e=aG (.bool false)/\Jx (pre++[x]) W'))
 (W:World) (zM:Boxed W Bs 9 (.string s)) (h0:aK [] W):
 CallsIn aL n prog 340 #[.func (.yield l) #[] #[],Bs] W λe W'=>(∃v,e=aG v)/\
  ((∃ys,ys=L s/\aK ys W')\/(∃pre,(∃k,k<=s.size/\pre=upto (yK s) k)/\Jx pre W')):=by
 have hc0:=zM.cell;refine callsIn_of_wp func340 rfl h8 ?_ hro;simp only[ntmps340,List.size_toArray,List.length_cons,List.length_nil,Nat.reduceAdd,Nat.reduceSub,Array.replicate_succ,Array.replicate_zero,List.push_toArray,List.append_toArray,List.nil_append,List.cons_append]
 gi_wp2
 gi_loopw [6] (λi wr=>∃k:Nat,k<=s.size/\i=.int J k/\aK (upto (yK s) k) wr/\Boxed wr Bs 9 (.string s))
  (λi _=>s.size-(RowKit.intOf i).toNat)
 case atStart=>exact⟨0,aB _,rfl,h0,zM⟩
 case round=>
  obtain⟨k,hk,rfl,hJs,hnx⟩:=hrel;have hcx:=hnx.cell
  by_cases hlt:k<s.size
  ·obtain⟨fn,tmps,assign,body,hy,hR⟩:=hY _ (yK s k) wr hJs (by rw[nN];exact hlt)
   rw[Ti s k hlt]at hy;clear zM hc0
   gi_wp2
   refine hR.mono ?_;rintro e W3 (⟨rfl,hJ3,hk3⟩|⟨rfl,hJx3⟩)
   ·gi_wp2
    go_roundw
    case rel=>exact⟨k+1,by omega,by simp,by rw[tK];exact hJ3,hk3 _ hnx⟩
    case measure=>simp[RowKit.intOf];omega
   ·gi_wp2
    refine bodyPost_ret (results_none rfl _ _ _) rfl ?_;exact⟨⟨_,rfl⟩,.inr ⟨_,⟨k+1,by omega,(tK _ _).symm⟩,hJx3⟩⟩
  ·obtain rfl:k=s.size:=by omega
   gi_wp2
   go_end0;exact⟨⟨_,rfl⟩,.inl ⟨_,Tg s,hJs⟩⟩
theorem WA (aL:Fence) (n:Nat) (h6:aL.fn 338) (hro:aL.round=none) (s:ByteArray) (w:World):
 CallsIn aL n prog 338 #[.string s] w λe w'=>e=aG (.func (.func 340) #[] #[w.heap.size])/\w.alloc (aH #[.string s] 9)=w':=by
 refine callsIn_of_wp func338 rfl h6 ?_ hro;simp only[ntmps338,List.size_toArray,List.length_cons,List.length_nil,Nat.reduceAdd,Nat.reduceSub,Array.replicate_succ,Array.replicate_zero,List.push_toArray,List.append_toArray,List.nil_append,List.cons_append]
 gi_wp2
 go_ret;exact⟨rfl,rfl⟩
theorem Jv (aL:Fence) (n:Nat) (h8:aL.fn 340) (hro:aL.round=none) (hn:1<=n) (Bs:Nat) (s:ByteArray) (hs:s.size<=1099511627776) (w:World) (zM:Boxed w Bs 9 (.string s)):
 SeqStopsK aL n prog 340 #[Bs] (λx:UInt8=>#[Value.int aF (x.toNat:Int)]) (eP Bs 9) (λys=>ys=L s)
  (λpre=>∃k,k<=s.size/\pre=upto (yK s) k) s.size w:=λl aK Jx W hW _ _ hY h0=>
 Tj aL n h8 hro hn l Bs s hs aK Jx hY W ((hW.block Bs zM.lt).trans zM) h0
def WB (c:Int) (b:UInt8):Int:=bits .xor F (c/256) (vJ (bits .xor aF (IntKind.u8.wrap c) b.toNat) 8)
def nQ (c:Int) (l:List UInt8):Int:=l.foldl WB c
theorem Nt (c:Int) (l:List UInt8) (b:UInt8):nQ c (l++[b])=WB (nQ c l) b:=by simp[nQ]
theorem Nu {b:Nat} {X Y:World} (h:KeepsFrom b X Y):KeepsFrom b X Y.drew:=⟨h.1,h.2⟩
theorem kR {β:Type} (B:Nat) (t:TypeId) (f:β->Array Value):Own (λs W=>aN W B t (f s)):=λs X Y row hs hg hrow=>
 hs.kept hg (λe'=>by obtain⟨o,ho,hc⟩:=hrow B e'.symm;rw[show X.heap[B]? =_ from hs]at ho;cases ho;cases hc)
theorem oE (op:BinOp) (x y:Int):0<=bits op aF x y/\bits op aF x y<256:=by
 have h:=wf_bits op aF x y;simp only[Lit.wf,Bool.and_eq_true,decide_eq_true_eq]at h;have h1:0<=bits op aF x y/\bits op aF x y<=255:=h;omega
theorem WC (c:Int) (s:ByteArray) (w:World) (hs:s.size<=1099511627776):
 Calls prog 330 #[.int F c,.string s] w λe w'=>e=aG (.int F (nQ c (L s)))/\Below w.heap.size w w':=by
 refine(callsIn_wide (n:=4)).1 ?_;have T:=U (λW=>(callsIn_wide (n:=3)).2 (Tn W));refine callsIn_of_wp_marks func330 rfl trivial ?_ rfl;simp only[ntmps330,List.size_toArray,List.length_cons,List.length_nil,Nat.reduceAdd,Nat.reduceSub,Array.replicate_succ,Array.replicate_zero,List.push_toArray,List.append_toArray,List.nil_append,List.cons_append]
 gi_wp2_with fail
 refine⟨trivial,(T.o _).mono ?_⟩;rintro e w1 ⟨rfl,b1⟩;have hC1:Boxed w1 w.heap.size 42 (.int F c):=aN.later (aN.new w 42 #[.int F c]) b1;have hB1:=((aj _ w).alloc (ah _) (aH #[.int F c] 42)).trans (b1.mono (by simp));clear b1
 gi_wp2_with (first|(refine zy rfl rfl ?_)|(refine uH rfl _ _ _ rfl w1.heap.size lT rfl rfl _ nL (aN.new w1 365 nL) (by rw[oV];exact Gm) rfl Jw ?_))
 have T3:aN ((w1.alloc (aH nL 365)).setRow w1.heap.size lT) w1.heap.size 365 lT:=aN.setRow (aN.new w1 365 nL) lT;have hne:w.heap.size≠w1.heap.size:=Nat.ne_of_lt hC1.lt;have hle:w.heap.size<=w1.heap.size:=Nat.le_of_lt hC1.lt;have C3:Boxed ((w1.alloc (aH nL 365)).setRow w1.heap.size lT) w.heap.size 42 (.int F c):=(setRow_other _ _ _ _ hne).trans (hC1.alloc _);have B3:=below_setRow (hB1.alloc hle (aH nL 365)) hle lT
 generalize (w1.alloc (aH nL 365)).setRow w1.heap.size lT=W3 at*
 have fY:=T3.lt
 generalize w1.heap.size=g at*
 clear hC1 hB1;refine⟨trivial,(WA Fence.wide 3 trivial rfl _ _).mono ?_⟩;rintro e w4 ⟨rfl,rfl⟩
 gi_wp2_with fail
 have bT:=Boxed.new W3 9 (.string s)
 refine wpIn_rangeFunc_ownG rfl (by omega) (gf:=340) (lb:=#[W3.heap.size]) rfl trivial (enters_of func340 (by kernel_rfl) rfl)
  (Jv Fence.wide (4-1) trivial rfl (by omega) W3.heap.size s hs _ bT) kD (kE (by simp)) (aj _ _) (λ_=>rfl)
  (λpre W=>(Boxed W w.heap.size 42 (.int F (nQ c pre))/\aN W g 365 lT)/\Below w.heap.size w W)
  (λ_ _ _=>False)
  (OwnFrom.and (OwnFrom.and (Own.from (boxed_own _ _ _) _) (Own.from (kR _ _ _) _)) (ownFrom_below (ah _) (by have:=B3.size;simp;omega)))
  (λ_ _ _ _ _ hs _ _=>hs)
  ⟨⟨C3.alloc _,T3.alloc _⟩,B3.alloc B3.size _⟩
  (λx=>{tmps:=#[.int F c,.string s,G (some ⟨w.heap.size,0,none⟩),undef,.int F 0,G (some ⟨g,0,none⟩),.int aF (x.toNat:Int),.agg lT,.string s,.func (.func 340) #[] #[G (some ⟨W3.heap.size,0,none⟩)],.int aF (x.toNat:Int),undef,undef,undef,undef,undef,undef,undef,undef,undef,undef],defers:=[]}) ?assign ?body ?done ?stop
 case assign=>
  intro l x W K hK
  gi_wp2
  exact hK
 case body=>
  rintro l pre x W ⟨⟨hC,hT⟩,hB⟩ hlen;have hsn:=Nt c pre x;obtain⟨b0,b1⟩:=oE .xor (IntKind.u8.wrap (nQ c pre)) x.toNat
  have cT:W.cell? ⟨g,(bits .xor aF (IntKind.u8.wrap (nQ c pre)) x.toNat).toNat,none⟩=some (.int F (vJ (bits .xor aF (IntKind.u8.wrap (nQ c pre)) x.toNat) 8)):=by
   refine(hT.cell _).trans ((Jy _ (by omega)).trans ?_);rw[Int.toNat_of_nonneg b0]
  unfold WB at hsn;have HS:=U hsn;clear hsn;have cC:=hC.cell;have fC:=hC.frozen;have hCl:=hC.lt;have hTl:=hT.lt;have HC:=U hC;have HT:=U hT;have HB:=U hB;clear hC hT hB
  gi_wp2_with fail
  gi_region
  all_goals(gi_wp2;refine⟨Nu ((KeepsOthers.setCell _ _ _).from _),λv hv=>hv.other (by have:=HB.o.size;omega) _,⟨?_,aN.other HT.o _ hne.symm⟩,(HB.o.setCell (p:=⟨w.heap.size,0,none⟩) (ah _) _).drew⟩;rw[HS.o];exact HC.o.set _)
 case done=>
  rintro D ys W hD rfl ⟨⟨hC,hT⟩,hB⟩ hK;have cC:=hC.cell;have hK':=hK
  gi_wp2
  refine⟨by simp,.inl ⟨_,_,rfl,run_takeDeferred hK',?_⟩⟩;refine⟨.int F (nQ c (L s)),?_,rfl,hB.trans (belowK_b (w:=w) (ah _) _ D _ _ (by have:=B3.size;simp at hD;omega) hK' rfl rfl)⟩
  simp[results,f330,go_sem]
 case stop=>
  rintro D q pre W _ _ h _;exact h.elim
end
