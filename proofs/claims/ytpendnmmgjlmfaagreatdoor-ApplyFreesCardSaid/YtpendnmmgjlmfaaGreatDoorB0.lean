/- Short names of some of the kit's lemmas. -/
import Derived.Below
import Derived.Calls
import Derived.Shelf.Abstract
import Derived.Maps.OwnOps
namespace Go.Proofs.YtpendnmmgjlmfaaGreatDoor
open Go
universe u
instance:Coe Nat Value:=⟨fun b=>.pointer (some ⟨b,0,none⟩)⟩
instance:Coe Nat Addr:=⟨fun b=>⟨b,0,none⟩⟩
theorem U {p:Prop} (h:p):Go.RowKit.Hid p:=h
theorem _root_.Go.RowKit.Hid.o {p:Prop} (h:Go.RowKit.Hid p):p:=h
theorem ah (n:Nat):n<=n:=Nat.le_refl n
theorem aj (n:Nat) (w:World):Go.RowKit.Below n w w:=Go.RowKit.Below.refl n w
theorem ak {P:Program} {f:FuncId} {a:Array Value} {w:World} {R R':Ending->World->Prop} (h:Calls P f a w R) (k:∀e v,R e v->R' e v):Calls P f a w R':=Calls.mono h k
theorem au {α:Type u} {xs:List α} {i:Nat}:xs.toArray[i]?=xs[i]?:=List.getElem?_toArray
theorem av {α:Type u} {a:α} {l:List α}:(a::l)[0]?=some a:=List.getElem?_cons_zero
theorem ay {α:Type u} {a:α} {i:Nat} {l:List α}:(a::l)[i+1]?=l[i]?:=List.getElem?_cons_succ
theorem aA {n m k:Nat} (h:n<m) (q:m<=k):n<k:=Nat.lt_of_lt_of_le h q
theorem aB (n:Nat):0<=n:=Nat.zero_le n
theorem aC (w:World) (o:Obj):(w.alloc o).heap.size=w.heap.size+1:=World.size_alloc w o
theorem aD {n m k:Nat} (h:n<=m) (q:m<=k):n<=k:=Nat.le_trans h q
