/- ApplyFrees, for every input: the law returns true, and its arguments read as they did; the root's inode as the program's text lays it (the tied card). Conditions: none beyond the row's own. -/
import Derived.Test.YtpendnmmgjlmfaaGreatDoorM52
import Derived.Test.YtpendnmmgjlmfaaGreatDoorM50
import Derived.Test.YtpendnmmgjlmfaaGreatDoorM01
set_option linter.unusedVariables false
set_option linter.unusedSimpArgs false
namespace Go.Proofs.YtpendnmmgjlmfaaGreatDoor
open Go.Proofs.Tryz
open IntKind renaming i64→J
open Ending renaming returned→aG
set_option maxRecDepth 100000
namespace applyFrees
open Go.Joins Go.ChangeShapes Go.WideShapes Go.ChangeAt Go.RowKit Oct Geo _root_.Go.Proofs.YtpendnmmgjlmfaaGreatDoor.lC
open Re (Rw Ae DN)
theorem law26 (i bl j:Int) (wz:World) {a1:Option Addr} {len1 Jj:Nat} (h1:∃rs:List Rw,rs.length=len1/\len1<=Jj/\len1<=9223372036854775807/\Ae wz a1 rs/\∀r∈rs,r.In) (IF:iJ wz):
 Calls prog 3 #[dw i bl j,.slice a1 len1 Jj] wz λe w'=>e=aG (.bool true)/\Below wz.heap.size wz w':=by
 obtain⟨rs,rfl,_,hl,hR,hIn⟩:=h1;have hA:∀W,iJ W->Calls prog 8 #[] W λe w'=>e=aG (.bool true)/\Below W.heap.size W w':=λW h=>Ap.lO W h
 by_cases hbad:iR i bl j=false\/(60<bl\/30<i\/60<j)
 ·exact Ap.Wi i bl j wz rs a1 Jj hR hl IF hA hbad
 ·have hm:iR i bl j=true:=by cases h:iR i bl j<;>simp_all
  have hq:2<=i/\8<=bl/\40<=j:=by simp[iR,CY]at hm;omega
  obtain⟨a,rfl⟩:=Int.eq_ofNat_of_zero_le (show 0<=i by omega);obtain⟨b,rfl⟩:=Int.eq_ofNat_of_zero_le (show 0<=bl by omega);obtain⟨c,rfl⟩:=Int.eq_ofNat_of_zero_le (show 0<=j by omega);exact Ap.lP a b c wz rs hIn a1 Jj hR hl IF hA hm (by omega) (by omega) (by omega)
theorem laidOut:laidOutB prog=true:=by kernel_rfl
theorem contract (H:Type) (enc:TypeId×Value->H) (W:World) (base:Nat) (args:Array Value) (ds gs:List (DataW H)) (before:List MemPlace) (T:List TypeId)
 (hval0:∀(j:Nat) t v,f3.params[j]? =some t->args[j]? =some v->Value.okWide prog W .any base t v)
 (hW:DataW.Whole enc prog f3.params.toList Rows.applyFreesSpec.vars false W args.toList ds gs before)
 (hsz0:(DataW.weightsEach prog (f3.params.toList++T) (ds++gs)).all (· <=reachBytes)=true)
 (hL:laidMetH prog Rows.applyFreesRow.laid W):
 Calls prog 3 args W λe W'=>∃v,e=aG v/\Rows.applyFreesSpec.post enc prog f3 false true false false W args v W':=by
 have hR:iJ W:=lR hL;have hval:∀(j:Nat) t v,f3.params[j]? =some t->args[j]? =some v->Value.okWide prog W .any base t v:=hval0;have hW':=hW;have hsz:=hsz0;obtain⟨p,q,hA0,hV,rfl,hfz,hnd⟩:=hW;have hA:DataW.TrodAll enc prog W 0 (λ_=>true) true f3.params.toList args.toList ds p:=hA0;rw[params3]at hA hval hsz;obtain⟨v0,vs0,d0,ds0,p0,q0,hargs,rfl,rfl,h0,r0⟩:=trodAll_cons hA;obtain⟨v1,vs1,d1,ds1,p1,q1,rfl,rfl,rfl,h1,r1⟩:=trodAll_cons r0;obtain⟨rfl,rfl,rfl⟩:=trodAll_nil r1;obtain rfl:args=#[v0,v1]:=by cases args;simp_all
 obtain⟨rfl,rfl⟩:=trodVars_none hV;have k0:=h0;have lt0:∀x∈p0,x.block<W.heap.size:=by obtain⟨m,hm⟩:=k0;exact DataW.trod_lt m _ _ _ hm
 obtain⟨gi,gb,gj,rfl⟩:=Wj (hval 0 23 v0 rfl rfl) h0;obtain⟨a1,len1,Jj,rfl⟩:=okWide_slice underlying24 (hval 1 24 v1 rfl rfl);have k1:=h1;have lt1:∀x∈p1,x.block<W.heap.size:=by obtain⟨m,hm⟩:=k1;exact DataW.trod_lt m _ _ _ hm
 have hrs:=DN h1 hsz (j:=1) rfl rfl;clear hA0 hval0 hsz0;simp only[List.append_nil]at hW';refine(law26 gi gb gj W hrs hR).mono λe W' ⟨he,lS⟩=>?_;subst he;exact⟨_,rfl,_,_,_,[],_,[],hW',trodAll_mk1 (shut_bool underlying4 _),(trodAll_cons_mk (Below.trod laidOut (by kernel_rfl) (of_decide_eq_true (by kernel_rfl)) k0 lS lt0) (trodAll_cons_mk (Below.trod laidOut (by kernel_rfl) (of_decide_eq_true (by kernel_rfl)) k1 lS lt1) trodAll_mk0)),rfl,lS.frame _,λh=>by cases h⟩
theorem Wl (os:Os):laidMet prog Rows.applyFreesRow.laid ((xA os).forCall (λ_ _=>0) ⟨#[],#[.agg #[.int J 0,.int J 0,.int J 0],.slice none 0 0],[]⟩).memory:=
 laidMet_of_run' 8 (by kernel_rfl) (by kernel_rfl)
theorem reads (os:Os) {H:Type} (enc:TypeId×Value->H):∃places,DataW.whole enc prog ((xA os).forCall (λ_ _=>0) ⟨#[],#[.agg #[.int J 0,.int J 0,.int J 0],.slice none 0 0],[]⟩).memory f3.params.toList Rows.applyFreesSpec.vars false (#[.agg #[.int J 0,.int J 0,.int J 0],.slice none 0 0]:Array Value).toList 8=some ([.agg [.lit (.int J 0),.lit (.int J 0),.lit (.int J 0)],.nil],[],places):=
 ⟨[],by kernel_rfl⟩
theorem lifted (os:Os) (started:os.Started) (H:Type) (enc:TypeId×Value->H) (aL:Stop.Interp):
 ReturnsInHanded {} checked os 3 .any ((OpenSpec.ofChange Rows.applyFreesSpec).preRow enc prog f3 Rows.applyFreesRow.domain false Rows.applyFreesRow.laid) (((OpenSpec.ofChange Rows.applyFreesSpec).at aL).post enc prog f3 false true false false):=by
 obtain⟨places,hx⟩:=reads os enc
 refine returnsInHanded_of_row (C:=checked) (s:=OpenSpec.ofChange Rows.applyFreesSpec) own started (by kernel_rfl) func3
  (witness_row_at (enc:=enc) (C:=checked) false (xA os) #[.agg #[.int J 0,.int J 0,.int J 0],.slice none 0 0] rfl (by kernel_rfl) (by kernel_rfl) (by kernel_rfl)
   (OpenSpec.preRow_of_cond 8 hx (by kernel_rfl) (λk hk=>by cases hk) (by kernel_rfl) (Wl os))) ?_
 intro W base args ds gs before hval hW _ _ hsz hL _ _;exact contract H enc W base args ds gs before _ hval hW hsz hL
theorem said:Rows.ApplyFreesSaid:=
 OpenClaim.holds_of_cond 3 f3 rfl rfl rfl rfl rfl rfl rfl ⟨rfl,rfl,rfl,rfl,rfl⟩ rfl rfl rfl rfl rfl (by kernel_rfl) func3 facts
  (of_decide_eq_true (by kernel_rfl)) (by unfold Func.isWrapper;first|(rw[if_pos (by decide+kernel)];kernel_rfl)|(rw[if_neg (by decide+kernel)];exact⟨rfl,rfl⟩))
  (λos started H enc _ aL=>by rw[OpenClaim.pre_eq_preRow];exact lifted os started H enc aL)
theorem card:Rows.ApplyFreesCardSaid:=
 Claim7.holds_tied_plain_at .later [] _ _ _ _ said (λ_ h=>by cases h) wf (λ_ h=>by cases h) applyFrees_row_tie rfl ⟨rfl,rfl⟩ (by kernel_rfl) rfl plain (by kernel_rfl)
