/- Short names. No condition. -/
import Derived.Test.YtjlchookakbomaaGreatDoorEi0
namespace Go.Proofs.YtjlchookakbomaaGreatDoor
open Go.RowKit
theorem lH {p:Prop} (h:p):Hid p:=Lib.hid h
theorem bA (w:World) (o:Obj):Below w.heap.size w (w.alloc o):=zES w o
theorem bT {a b c:World} (h:Below a.heap.size a b) (k:Below b.heap.size b c):Below a.heap.size a c:=zET h k
theorem cK {w w':World} {a:Addr} {v:Value} (h:w.cell? a=some v) (hb:Below w.heap.size w w'):w'.cell? a=some v:=zAn h hb
theorem aI {α:Type} {l:List α} {i:Nat} {a:α}:l.toArray.setIfInBounds i a=(l.set i a).toArray:=List.setIfInBounds_toArray ..
theorem aO {α:Type} {x a:α} {l:List α}:(x::l).set 0 a=a::l:=rfl
theorem aS {α:Type} {x a:α} {l:List α} {n:Nat}:(x::l).set (n+1) a=x::l.set n a:=rfl
end Go.Proofs.YtjlchookakbomaaGreatDoor
