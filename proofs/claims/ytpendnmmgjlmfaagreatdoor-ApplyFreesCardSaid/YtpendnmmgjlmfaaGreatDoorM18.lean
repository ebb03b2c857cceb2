/- Lemmas. -/
import Derived.Test.YtpendnmmgjlmfaaGreatDoorM17
set_option linter.unusedVariables false
set_option linter.unusedSimpArgs false
namespace Go.Proofs.YtpendnmmgjlmfaaGreatDoor
open Go.RowKit Go.Shelf Go.Maps
open Go.Proofs.Tryz
open IntKind renaming i64→J,u32→F,u8→aF
open Ending renaming returned→aG
open Obj renaming cells→aH
set_option maxRecDepth 100000
set_option maxHeartbeats 8000000
open Value renaming int->ι,string->σ,bool->ν,agg->γ
namespace Re
open Oct Path Tr
def Rw.rc (r:Rw):Rc:=⟨r.stamp,r.op,r.dir,L r.name,r.ino,r.kind,r.bV,L r.name2,r.old,r.size,r.page.toNat,L r.data⟩
structure Rw.In (r:Rw):Prop where
 stamp:r.stamp<18446744073709551616
 name:r.name.size<=maxLen
 name2:r.name2.size<=maxLen
 data:r.data.size<=maxLen
def gQ (r:Rw) (wz:World) (e:Ending) (w':World):Prop:=∃b,e=aG (ν b)/\(b=true->May r.rc/\0<=r.page)/\Below wz.heap.size wz w'
theorem gQ.no {r:Rw} {wz w':World} (h:Below wz.heap.size wz w'):gQ r wz (aG (ν false)) w':=⟨false,rfl,(λh=>by cases h),h⟩
theorem gQ.yes {r:Rw} {wz w':World} (hm:May r.rc) (hp:0<=r.page) (h:Below wz.heap.size wz w'):gQ r wz (aG (ν true)) w':=⟨true,rfl,(λ_=>⟨hm,hp⟩),h⟩
theorem Bz {r:Rw} (h:0<=r.page):dX r=recC r.rc:=by
 unfold dX recC Rw.rc;simp only[SN];rw[show((r.page.toNat:Nat):Int)=r.page from Int.toNat_of_nonneg h]
theorem AH (v:Nat) (w:World):Calls prog 51 #[ι F v] w λe w'=>e=aG (ν (decide (1<=v)&&decide (v<=256)))/\w=w':=by
 by_cases h1:1<=v
 ·have t1:(1:Int)<=v:=by omega
  by_cases h2:v<=256
  ·have t2:(v:Int)<=256:=by omega
   go_enter func51,ntmps51
   go_wp2_with fail;go_ret;exact⟨by simp[h1,h2],rfl⟩
  ·have t2:¬(v:Int)<=256:=by omega
   go_enter func51,ntmps51
   go_wp2_with fail;go_ret;exact⟨by simp[h1,h2],rfl⟩
 ·have t1:¬(1:Int)<=v:=by omega
  go_enter func51,ntmps51
  go_wp2_with fail;go_ret;exact⟨by simp[h1],rfl⟩
def ofV (o:Nat):Value:=γ #[ν (oD o),ν (nk o),ν (nu o),ν (oF o),ν (pG o)]
theorem of_ok (o:Nat) (h:1<=o/\o<=7) (w:World):Calls prog 50 #[ι aF o] w λe w'=>e=aG (ofV o)/\Below w.heap.size w w':=by
 have X:=λcs=>aN.cell (aN.new w 119 cs)
 rcases(by omega:o=1\/o=2\/o=3\/o=4\/o=5\/o=6\/o=7)with rfl|rfl|rfl|rfl|rfl|rfl|rfl
 all_goals
  go_enter func50,ntmps50
  go_wp2_with fail;exact bodyPost_ret (v:=ofV _) (by simp[results,results50,go_sem,X,ofV,oD,nk,nu,oF,pG]) rfl ⟨rfl,(aj _ w).alloc (ah _) _⟩
theorem AI (stamp op dir ino kind bV old size:Nat) (name name2 data:ByteArray) (page:Int) (ho:1<=op/\op<=7) (hs:stamp<18446744073709551616) (hn:name.size<=maxLen) (hn2:name2.size<=maxLen) (wz:World):
 Calls prog 21 #[γ (dX ⟨stamp,op,dir,name,ino,kind,bV,name2,old,size,page,data⟩)] wz (gQ ⟨stamp,op,dir,name,ino,kind,bV,name2,old,size,page,data⟩ wz):=by
 have OF:=U (of_ok op ho);unfold ofV at OF;obtain⟨fe,he⟩:∃f,oD op=f:=⟨_,rfl⟩;obtain⟨fk,hk⟩:∃f,nk op=f:=⟨_,rfl⟩;obtain⟨fm,hm⟩:∃f,nu op=f:=⟨_,rfl⟩;obtain⟨fs,hz⟩:∃f,oF op=f:=⟨_,rfl⟩;obtain⟨fd,hd⟩:∃f,pG op=f:=⟨_,rfl⟩;rw[he,hk,hm,hz,hd]at OF;have IN:=U AH;have NM:=U mD;have HH:=U (And.intro hs (And.intro ho (And.intro he (And.intro hk (And.intro hm (And.intro hz hd))))));have q1:¬(op:Int)<1:=by omega
 have q2:¬7<(op:Int):=by omega
 clear hs ho he hk hm hz hd;unfold dX
 go_enter func21,ntmps21
 go_wp2_with fail;have hal:=(aj _ wz).alloc (ah _) (aH #[ι .u64 stamp,ι aF op,ι F dir,σ name,ι F ino,ι aF kind,ι F bV,σ name2,ι F old,ι F size,ι J page,σ data] 44);have X0:=aN.new wz 44 #[ι .u64 stamp,ι aF op,ι F dir,σ name,ι F ino,ι aF kind,ι F bV,σ name2,ι F old,ι F size,ι J page,σ data];refine ak (OF.o _) ?_;rintro e w2 ⟨rfl,hb⟩;have OH:=(aj _ w2).alloc (ah _) (aH #[ν fe,ν fk,ν fm,ν fs,ν fd] 119);have Y:=aN.new w2 119 #[ν fe,ν fk,ν fm,ν fs,ν fd];have X:=(X0.later hb).later OH;have BB:=U ((hal.trans (hb.mono (by simp))).trans (OH.mono (by have:=hb.size;simp at this;omega)));clear X0 hal OH hb OF
 go_upto_region 2 with fail
 generalize w2.alloc (aH #[ν fe,ν fk,ν fm,ν fs,ν fd] 119)=w3 at*
 have A:=X.cell;have Al:=X.lt;have N:=Y.cell;have Nl:=Y.lt;clear X Y;go_wp2_with fail;refine ak (IN.o ino _) ?_;rintro e w9 ⟨rfl,rfl⟩
 by_cases hi:(decide (1<=ino)&&decide (ino<=256))=true
 case neg=>rw[Bool.not_eq_true]at hi;rw[hi];go_wp2_with fail;go_ret;exact gQ.no BB.o
 rw[hi];simp only[Bool.and_eq_true,decide_eq_true_eq]at hi;have Hhi:=U hi;clear hi
 go_upto_region 4 with fail
 go_cut [49] (λs wx=>w3=wx/\∃b,s=ν b/\(b=false->(fe=true->1<=dir/\dir<=256/\isName (L name)=true)/\(fe=false->dir=0/\L name=[])))
 case first=>
  as_aux_lemma=>
   cases fe
   ·by_cases hd:dir=0
    case neg=>have q:¬(dir:Int)=0:=by omega
              have q2:((dir:Int)!=0)=true:=by simpa using q
              go_wp2_with fail;go_meet;case rel=>exact⟨rfl,true,rfl,(λh=>by cases h)⟩
    subst hd
    by_cases hm:name=⟨#[]⟩
    case neg=>have q:name.toList.isEmpty=false:=by rw[dB,List.isEmpty_eq_false_iff];exact λe=>hm (iL e)
              go_wp2_with fail;go_meet;case rel=>exact⟨rfl,true,rfl,(λh=>by cases h)⟩
    subst hm;go_wp2_with fail;go_meet;case rel=>exact⟨rfl,false,rfl,λ_=>⟨(λh=>by cases h),λ_=>(by first|exact⟨rfl,rfl⟩|exact⟨trivial,rfl⟩)⟩⟩
   ·go_wp2_with fail
    refine ak (IN.o dir _) ?_;rintro e w9 ⟨rfl,rfl⟩
    by_cases hd:(decide (1<=dir)&&decide (dir<=256))=true
    case neg=>rw[Bool.not_eq_true]at hd;rw[hd];go_wp2_with fail;go_meet;case rel=>exact⟨rfl,true,rfl,(λh=>by cases h)⟩
    rw[hd];simp only[Bool.and_eq_true,decide_eq_true_eq]at hd;have Hhd:=U hd;clear hd;go_wp2_with fail;refine ak (NM.o name _ hn) ?_;rintro e w9 ⟨rfl,rfl⟩
    by_cases hm:isName (L name)=true
    case neg=>rw[Bool.not_eq_true]at hm;rw[hm];go_wp2_with fail;go_meet;case rel=>exact⟨rfl,true,rfl,(λh=>by cases h)⟩
    rw[hm];have Hhm:=U hm;clear hm;go_wp2_with fail;go_meet;case rel=>exact⟨rfl,false,rfl,λ_=>⟨λ_=>⟨Hhd.o.1,Hhd.o.2,Hhm.o⟩,(λh=>by cases h)⟩⟩
 case rest=>
 obtain⟨rfl,b,rfl,FE⟩:=hcut;cases b
 case true=>go_wp2_with fail;go_ret;exact gQ.no BB.o
 have FE:=U (FE rfl)
 go_upto_region 6 with fail
 go_cut [71] (λs wx=>w3=wx/\∃b,s=ν b/\(b=false->(fk=true->kind=1\/kind=2)/\(fk=false->kind=0)))
 case first=>
  as_aux_lemma=>
   cases fk
   ·by_cases hk:kind=0
    case neg=>have q:¬(kind:Int)=0:=by omega
              have q2:((kind:Int)!=0)=true:=by simpa using q
              go_wp2_with fail;go_meet;case rel=>exact⟨rfl,true,rfl,(λh=>by cases h)⟩
    subst hk;go_wp2_with fail;go_meet;case rel=>exact⟨rfl,false,rfl,λ_=>⟨(λh=>by cases h),λ_=>(by first|rfl|trivial)⟩⟩
   ·rcases(by omega:kind=1\/kind=2\/(kind≠1/\kind≠2))with hk|hk|hk
    case inr.inr=>have q:¬(kind:Int)=1:=by omega
                  have q2:¬(kind:Int)=2:=by omega
                  have q3:((kind:Int)!=2)=true:=by simpa using q2
                  have q4:((kind:Int)!=1)=true:=by simpa using q
                  go_wp2_with fail;go_meet;case rel=>exact⟨rfl,true,rfl,(λh=>by cases h)⟩
    all_goals subst hk;go_wp2_with fail;go_meet;case rel=>exact⟨rfl,false,rfl,λ_=>⟨λ_=>(by first|exact .inl rfl|exact .inr rfl|simp),(λh=>by cases h)⟩⟩
 case rest=>
 obtain⟨rfl,b,rfl,FK⟩:=hcut;cases b
 case true=>go_wp2_with fail;go_ret;exact gQ.no BB.o
 have FK:=U (FK rfl)
 go_upto_region 8 with fail
 go_cut [110] (λs wx=>w3=wx/\∃b,s=ν b/\(b=false->(fm=true->1<=bV/\bV<=256/\isName (L name2)=true/\old<=256)/\(fm=false->bV=0/\L name2=[]/\old=0)))
 case first=>
  as_aux_lemma=>
   cases fm
   ·by_cases hd:bV=0
    case neg=>have q:¬(bV:Int)=0:=by omega
              have q2:((bV:Int)!=0)=true:=by simpa using q
              go_wp2_with fail;go_meet;case rel=>exact⟨rfl,true,rfl,(λh=>by cases h)⟩
    subst hd
    by_cases hm:name2=⟨#[]⟩
    case neg=>have q:name2.toList.isEmpty=false:=by rw[dB,List.isEmpty_eq_false_iff];exact λe=>hm (iL e)
              go_wp2_with fail;go_meet;case rel=>exact⟨rfl,true,rfl,(λh=>by cases h)⟩
    subst hm
    by_cases ho:old=0
    case neg=>have q:¬(old:Int)=0:=by omega
              have q2:((old:Int)!=0)=true:=by simpa using q
              go_wp2_with fail;go_meet;case rel=>exact⟨rfl,true,rfl,(λh=>by cases h)⟩
    subst ho;go_wp2_with fail;go_meet;case rel=>exact⟨rfl,false,rfl,λ_=>⟨(λh=>by cases h),λ_=>(by first|exact⟨rfl,rfl,rfl⟩|exact⟨trivial,rfl,trivial⟩)⟩⟩
   ·go_wp2_with fail
    refine ak (IN.o bV _) ?_;rintro e w9 ⟨rfl,rfl⟩
    by_cases hd:(decide (1<=bV)&&decide (bV<=256))=true
    case neg=>rw[Bool.not_eq_true]at hd;rw[hd];go_wp2_with fail;go_meet;case rel=>exact⟨rfl,true,rfl,(λh=>by cases h)⟩
    rw[hd];simp only[Bool.and_eq_true,decide_eq_true_eq]at hd;have Hhd:=U hd;clear hd;go_wp2_with fail;refine ak (NM.o name2 _ hn2) ?_;rintro e w9 ⟨rfl,rfl⟩
    by_cases hm:isName (L name2)=true
    case neg=>rw[Bool.not_eq_true]at hm;rw[hm];go_wp2_with fail;go_meet;case rel=>exact⟨rfl,true,rfl,(λh=>by cases h)⟩
    rw[hm];have Hhm:=U hm;clear hm
    by_cases ho:old<=256
    case neg=>have q:256<(old:Int):=by omega
              go_wp2_with fail;go_meet;case rel=>exact⟨rfl,true,rfl,(λh=>by cases h)⟩
    have q:¬256<(old:Int):=by omega
    have q3:decide (256<(old:Int))=false:=by simp;omega
    go_wp2_with fail;go_meet;case rel=>exact⟨rfl,false,rfl,λ_=>⟨λ_=>⟨Hhd.o.1,Hhd.o.2,Hhm.o,ho⟩,(λh=>by cases h)⟩⟩
 case rest=>
 obtain⟨rfl,b,rfl,FM⟩:=hcut;cases b
 case true=>go_wp2_with fail;go_ret;exact gQ.no BB.o
 have FM:=U (FM rfl)
 go_upto_region 10 with fail
 go_cut [127] (λs wx=>w3=wx/\∃b,s=ν b/\(b=false->(fs=true->size<=2304)/\(fs=false->size=0)))
 case first=>
  as_aux_lemma=>
   cases fs
   ·by_cases hz:size=0
    case neg=>have q:¬(size:Int)=0:=by omega
              have q2:((size:Int)!=0)=true:=by simpa using q
              go_wp2_with fail;go_meet;case rel=>exact⟨rfl,true,rfl,(λh=>by cases h)⟩
    subst hz;go_wp2_with fail;go_meet;case rel=>exact⟨rfl,false,rfl,λ_=>⟨(λh=>by cases h),λ_=>(by first|rfl|trivial)⟩⟩
   ·by_cases hz:size<=2304
    case neg=>have q:2304<(size:Int):=by omega
              go_wp2_with fail;go_meet;case rel=>exact⟨rfl,true,rfl,(λh=>by cases h)⟩
    have q:¬2304<(size:Int):=by omega
    have q3:decide (2304<(size:Int))=false:=by simp;omega
    go_wp2_with fail;go_meet;case rel=>exact⟨rfl,false,rfl,λ_=>⟨λ_=>hz,(λh=>by cases h)⟩⟩
 case rest=>
 obtain⟨rfl,b,rfl,FS⟩:=hcut;cases b
 case true=>go_wp2_with fail;go_ret;exact gQ.no BB.o
 have FS:=U (FS rfl)
 have MM:Hid ((fd=true->page.toNat<36/\(L data).length=64)->(fd=false->page.toNat=0/\L data=[])->May (Rw.rc ⟨stamp,op,dir,name,ino,kind,bV,name2,old,size,page,data⟩)):=U λh1 h2=>by
  obtain⟨hs,ho,rfl,rfl,rfl,rfl,rfl⟩:=HH.o;exact⟨ho,Hhi.o,FE.o.1,FE.o.2,FK.o.1,FK.o.2,FM.o.1,FM.o.2,FS.o.1,FS.o.2,h1,h2,hs⟩
 clear HH FE FK FM FS Hhi;cases fd
 ·by_cases hp:page=0
  case neg=>go_wp2_with fail;go_ret;exact gQ.no BB.o
  subst hp
  by_cases hl:data=⟨#[]⟩
  case neg=>have q:data.toList.isEmpty=false:=by rw[dB,List.isEmpty_eq_false_iff];exact λe=>hl (iL e)
            go_wp2_with fail;go_ret;exact gQ.no BB.o
  subst hl;go_wp2_with fail;go_ret;exact gQ.yes (MM.o (λh=>by cases h) (λ_=>⟨rfl,rfl⟩)) (Int.le_refl 0) BB.o
 ·by_cases hp:0<=page
  case neg=>go_wp2_with fail;go_ret;exact gQ.no BB.o
  by_cases hp2:page<36
  case neg=>go_wp2_with fail;go_ret;exact gQ.no BB.o
  by_cases hl:data.size=64
  case neg=>have q:((data.size:Int)==64)=false:=by simp only[beq_eq_false_iff_ne,ne_eq];omega
            go_wp2_with fail;go_ret;exact gQ.no BB.o
  have q:((data.size:Int)==64)=true:=by simp only[beq_iff_eq];omega
  go_wp2_with fail;go_ret;exact gQ.yes (MM.o (λ_=>⟨by omega,by rw[bZ];exact hl⟩) (λh=>by cases h)) hp BB.o
