/- Three boxes of a call: a pattern, signs, a number. -/
import Derived.Test.YtjlchookakbomaaGreatDoorEi3
set_option maxHeartbeats 2000000
set_option maxRecDepth 100000
namespace Go.Proofs.YtjlchookakbomaaGreatDoor
open Go.RowKit
theorem zNJ (pre suf:List UInt8) (mi nf mf g g2:Int) (w:World) (C1:Hid (∀w:World,Calls Tryz.prog 169 #[.string ⟨pre.toArray⟩] w fun e w'=>e= .returned (.bool false)∧Below w.heap.size w w')):
  Calls Tryz.prog 133 #[.agg #[.string ⟨pre.toArray⟩,.string ⟨suf.toArray⟩,.int .i64 mi,.int .i64 nf,.int .i64 mf,.int .i64 g,.int .i64 g2]] w fun e w'=>e= .returned (errV 3)∧Below w.heap.size w w':=by
 have W0:=lH (bA w (.cells #[.string ⟨pre.toArray⟩,.string ⟨suf.toArray⟩,.int .i64 mi,.int .i64 nf,.int .i64 mf,.int .i64 g,.int .i64 g2] 123))
 have B0:=lH (Boxed.made w #[.string ⟨pre.toArray⟩,.string ⟨suf.toArray⟩,.int .i64 mi,.int .i64 nf,.int .i64 mf,.int .i64 g,.int .i64 g2] 123)
 go_enter Tryz.func133,Tryz.ntmps133
 go_wp2_with fail
 refine(C1.out _).mono ?_
 rintro e w1 ⟨rfl,hb⟩
 have W1:=lH (bT W0.out hb)
 have B1:=lH (B0.out.below hb)
 clear hb W0 B0
 have c0:=B1.out.cell 0 _ rfl
 have c1:=B1.out.cell 1 _ rfl
 have c2:=B1.out.cell 2 _ rfl
 have c3:=B1.out.cell 3 _ rfl
 have c4:=B1.out.cell 4 _ rfl
 have c5:=B1.out.cell 5 _ rfl
 have c6:=B1.out.cell 6 _ rfl
 have cl:=B1.out.lt
 go_wp2_with fail
 go_ret
 exact⟨rfl,W1.out⟩
theorem zNK (pre suf:List UInt8) (mi nf mf g g2:Int) (w:World) (C1:Hid (∀w:World,Calls Tryz.prog 169 #[.string ⟨pre.toArray⟩] w fun e w'=>e= .returned (.bool true)∧Below w.heap.size w w')) (C2:Hid (∀w:World,Calls Tryz.prog 169 #[.string ⟨suf.toArray⟩] w fun e w'=>e= .returned (.bool false)∧Below w.heap.size w w')):
  Calls Tryz.prog 133 #[.agg #[.string ⟨pre.toArray⟩,.string ⟨suf.toArray⟩,.int .i64 mi,.int .i64 nf,.int .i64 mf,.int .i64 g,.int .i64 g2]] w fun e w'=>e= .returned (errV 3)∧Below w.heap.size w w':=by
 have W0:=lH (bA w (.cells #[.string ⟨pre.toArray⟩,.string ⟨suf.toArray⟩,.int .i64 mi,.int .i64 nf,.int .i64 mf,.int .i64 g,.int .i64 g2] 123))
 have B0:=lH (Boxed.made w #[.string ⟨pre.toArray⟩,.string ⟨suf.toArray⟩,.int .i64 mi,.int .i64 nf,.int .i64 mf,.int .i64 g,.int .i64 g2] 123)
 go_enter Tryz.func133,Tryz.ntmps133
 go_wp2_with fail
 refine(C1.out _).mono ?_
 rintro e w1 ⟨rfl,hb⟩
 have W1:=lH (bT W0.out hb)
 have B1:=lH (B0.out.below hb)
 clear hb W0 B0
 have c0:=B1.out.cell 0 _ rfl
 have c1:=B1.out.cell 1 _ rfl
 have c2:=B1.out.cell 2 _ rfl
 have c3:=B1.out.cell 3 _ rfl
 have c4:=B1.out.cell 4 _ rfl
 have c5:=B1.out.cell 5 _ rfl
 have c6:=B1.out.cell 6 _ rfl
 have cl:=B1.out.lt
 go_wp2_with fail
 refine(C2.out _).mono ?_
 rintro e w2 ⟨rfl,hb⟩
 have W2:=lH (bT W1.out hb)
 have B2:=lH (B1.out.below hb)
 clear hb W1 B1 c0 c1 c2 c3 c4 c5 c6 cl
 have c0:=B2.out.cell 0 _ rfl
 have c1:=B2.out.cell 1 _ rfl
 have c2:=B2.out.cell 2 _ rfl
 have c3:=B2.out.cell 3 _ rfl
 have c4:=B2.out.cell 4 _ rfl
 have c5:=B2.out.cell 5 _ rfl
 have c6:=B2.out.cell 6 _ rfl
 have cl:=B2.out.lt
 go_wp2_with fail
 go_ret
 exact⟨rfl,W2.out⟩
theorem zNc (pre suf:List UInt8) (mi nf mf g g2:Int) (w:World) (C1:Hid (∀w:World,Calls Tryz.prog 169 #[.string ⟨pre.toArray⟩] w fun e w'=>e= .returned (.bool true)∧Below w.heap.size w w')) (C2:Hid (∀w:World,Calls Tryz.prog 169 #[.string ⟨suf.toArray⟩] w fun e w'=>e= .returned (.bool true)∧Below w.heap.size w w')) (h0:mi<1):
  Calls Tryz.prog 133 #[.agg #[.string ⟨pre.toArray⟩,.string ⟨suf.toArray⟩,.int .i64 mi,.int .i64 nf,.int .i64 mf,.int .i64 g,.int .i64 g2]] w fun e w'=>e= .returned (errV 1)∧Below w.heap.size w w':=by
 have d0:decide (mi<1)=true:=zAd (by omega)
 have W0:=lH (bA w (.cells #[.string ⟨pre.toArray⟩,.string ⟨suf.toArray⟩,.int .i64 mi,.int .i64 nf,.int .i64 mf,.int .i64 g,.int .i64 g2] 123))
 have B0:=lH (Boxed.made w #[.string ⟨pre.toArray⟩,.string ⟨suf.toArray⟩,.int .i64 mi,.int .i64 nf,.int .i64 mf,.int .i64 g,.int .i64 g2] 123)
 go_enter Tryz.func133,Tryz.ntmps133
 go_wp2_with fail
 refine(C1.out _).mono ?_
 rintro e w1 ⟨rfl,hb⟩
 have W1:=lH (bT W0.out hb)
 have B1:=lH (B0.out.below hb)
 clear hb W0 B0
 have c0:=B1.out.cell 0 _ rfl
 have c1:=B1.out.cell 1 _ rfl
 have c2:=B1.out.cell 2 _ rfl
 have c3:=B1.out.cell 3 _ rfl
 have c4:=B1.out.cell 4 _ rfl
 have c5:=B1.out.cell 5 _ rfl
 have c6:=B1.out.cell 6 _ rfl
 have cl:=B1.out.lt
 go_wp2_with fail
 refine(C2.out _).mono ?_
 rintro e w2 ⟨rfl,hb⟩
 have W2:=lH (bT W1.out hb)
 have B2:=lH (B1.out.below hb)
 clear hb W1 B1 c0 c1 c2 c3 c4 c5 c6 cl
 have c0:=B2.out.cell 0 _ rfl
 have c1:=B2.out.cell 1 _ rfl
 have c2:=B2.out.cell 2 _ rfl
 have c3:=B2.out.cell 3 _ rfl
 have c4:=B2.out.cell 4 _ rfl
 have c5:=B2.out.cell 5 _ rfl
 have c6:=B2.out.cell 6 _ rfl
 have cl:=B2.out.lt
 go_wp2_with fail
 go_ret
 exact⟨rfl,W2.out⟩
theorem zNd (pre suf:List UInt8) (mi nf mf g g2:Int) (w:World) (C1:Hid (∀w:World,Calls Tryz.prog 169 #[.string ⟨pre.toArray⟩] w fun e w'=>e= .returned (.bool true)∧Below w.heap.size w w')) (C2:Hid (∀w:World,Calls Tryz.prog 169 #[.string ⟨suf.toArray⟩] w fun e w'=>e= .returned (.bool true)∧Below w.heap.size w w')) (h0: ¬mi<1) (h1:9<mi):
  Calls Tryz.prog 133 #[.agg #[.string ⟨pre.toArray⟩,.string ⟨suf.toArray⟩,.int .i64 mi,.int .i64 nf,.int .i64 mf,.int .i64 g,.int .i64 g2]] w fun e w'=>e= .returned (errV 1)∧Below w.heap.size w w':=by
 have d0:decide (mi<1)=false:=zAa (by omega)
 have d1:decide (9<mi)=true:=zAd (by omega)
 have W0:=lH (bA w (.cells #[.string ⟨pre.toArray⟩,.string ⟨suf.toArray⟩,.int .i64 mi,.int .i64 nf,.int .i64 mf,.int .i64 g,.int .i64 g2] 123))
 have B0:=lH (Boxed.made w #[.string ⟨pre.toArray⟩,.string ⟨suf.toArray⟩,.int .i64 mi,.int .i64 nf,.int .i64 mf,.int .i64 g,.int .i64 g2] 123)
 go_enter Tryz.func133,Tryz.ntmps133
 go_wp2_with fail
 refine(C1.out _).mono ?_
 rintro e w1 ⟨rfl,hb⟩
 have W1:=lH (bT W0.out hb)
 have B1:=lH (B0.out.below hb)
 clear hb W0 B0
 have c0:=B1.out.cell 0 _ rfl
 have c1:=B1.out.cell 1 _ rfl
 have c2:=B1.out.cell 2 _ rfl
 have c3:=B1.out.cell 3 _ rfl
 have c4:=B1.out.cell 4 _ rfl
 have c5:=B1.out.cell 5 _ rfl
 have c6:=B1.out.cell 6 _ rfl
 have cl:=B1.out.lt
 go_wp2_with fail
 refine(C2.out _).mono ?_
 rintro e w2 ⟨rfl,hb⟩
 have W2:=lH (bT W1.out hb)
 have B2:=lH (B1.out.below hb)
 clear hb W1 B1 c0 c1 c2 c3 c4 c5 c6 cl
 have c0:=B2.out.cell 0 _ rfl
 have c1:=B2.out.cell 1 _ rfl
 have c2:=B2.out.cell 2 _ rfl
 have c3:=B2.out.cell 3 _ rfl
 have c4:=B2.out.cell 4 _ rfl
 have c5:=B2.out.cell 5 _ rfl
 have c6:=B2.out.cell 6 _ rfl
 have cl:=B2.out.lt
 go_wp2_with fail
 go_ret
 exact⟨rfl,W2.out⟩
theorem zNe (pre suf:List UInt8) (mi nf mf g g2:Int) (w:World) (C1:Hid (∀w:World,Calls Tryz.prog 169 #[.string ⟨pre.toArray⟩] w fun e w'=>e= .returned (.bool true)∧Below w.heap.size w w')) (C2:Hid (∀w:World,Calls Tryz.prog 169 #[.string ⟨suf.toArray⟩] w fun e w'=>e= .returned (.bool true)∧Below w.heap.size w w')) (h0: ¬mi<1) (h1: ¬9<mi) (h2:mf<0):
  Calls Tryz.prog 133 #[.agg #[.string ⟨pre.toArray⟩,.string ⟨suf.toArray⟩,.int .i64 mi,.int .i64 nf,.int .i64 mf,.int .i64 g,.int .i64 g2]] w fun e w'=>e= .returned (errV 1)∧Below w.heap.size w w':=by
 have d0:decide (mi<1)=false:=zAa (by omega)
 have d1:decide (9<mi)=false:=zAa (by omega)
 have d2:decide (mf<0)=true:=zAd (by omega)
 have W0:=lH (bA w (.cells #[.string ⟨pre.toArray⟩,.string ⟨suf.toArray⟩,.int .i64 mi,.int .i64 nf,.int .i64 mf,.int .i64 g,.int .i64 g2] 123))
 have B0:=lH (Boxed.made w #[.string ⟨pre.toArray⟩,.string ⟨suf.toArray⟩,.int .i64 mi,.int .i64 nf,.int .i64 mf,.int .i64 g,.int .i64 g2] 123)
 go_enter Tryz.func133,Tryz.ntmps133
 go_wp2_with fail
 refine(C1.out _).mono ?_
 rintro e w1 ⟨rfl,hb⟩
 have W1:=lH (bT W0.out hb)
 have B1:=lH (B0.out.below hb)
 clear hb W0 B0
 have c0:=B1.out.cell 0 _ rfl
 have c1:=B1.out.cell 1 _ rfl
 have c2:=B1.out.cell 2 _ rfl
 have c3:=B1.out.cell 3 _ rfl
 have c4:=B1.out.cell 4 _ rfl
 have c5:=B1.out.cell 5 _ rfl
 have c6:=B1.out.cell 6 _ rfl
 have cl:=B1.out.lt
 go_wp2_with fail
 refine(C2.out _).mono ?_
 rintro e w2 ⟨rfl,hb⟩
 have W2:=lH (bT W1.out hb)
 have B2:=lH (B1.out.below hb)
 clear hb W1 B1 c0 c1 c2 c3 c4 c5 c6 cl
 have c0:=B2.out.cell 0 _ rfl
 have c1:=B2.out.cell 1 _ rfl
 have c2:=B2.out.cell 2 _ rfl
 have c3:=B2.out.cell 3 _ rfl
 have c4:=B2.out.cell 4 _ rfl
 have c5:=B2.out.cell 5 _ rfl
 have c6:=B2.out.cell 6 _ rfl
 have cl:=B2.out.lt
 go_wp2_with fail
 go_ret
 exact⟨rfl,W2.out⟩
theorem zNf (pre suf:List UInt8) (mi nf mf g g2:Int) (w:World) (C1:Hid (∀w:World,Calls Tryz.prog 169 #[.string ⟨pre.toArray⟩] w fun e w'=>e= .returned (.bool true)∧Below w.heap.size w w')) (C2:Hid (∀w:World,Calls Tryz.prog 169 #[.string ⟨suf.toArray⟩] w fun e w'=>e= .returned (.bool true)∧Below w.heap.size w w')) (h0: ¬mi<1) (h1: ¬9<mi) (h2: ¬mf<0) (h3:6<mf):
  Calls Tryz.prog 133 #[.agg #[.string ⟨pre.toArray⟩,.string ⟨suf.toArray⟩,.int .i64 mi,.int .i64 nf,.int .i64 mf,.int .i64 g,.int .i64 g2]] w fun e w'=>e= .returned (errV 1)∧Below w.heap.size w w':=by
 have d0:decide (mi<1)=false:=zAa (by omega)
 have d1:decide (9<mi)=false:=zAa (by omega)
 have d2:decide (mf<0)=false:=zAa (by omega)
 have d3:decide (6<mf)=true:=zAd (by omega)
 have W0:=lH (bA w (.cells #[.string ⟨pre.toArray⟩,.string ⟨suf.toArray⟩,.int .i64 mi,.int .i64 nf,.int .i64 mf,.int .i64 g,.int .i64 g2] 123))
 have B0:=lH (Boxed.made w #[.string ⟨pre.toArray⟩,.string ⟨suf.toArray⟩,.int .i64 mi,.int .i64 nf,.int .i64 mf,.int .i64 g,.int .i64 g2] 123)
 go_enter Tryz.func133,Tryz.ntmps133
 go_wp2_with fail
 refine(C1.out _).mono ?_
 rintro e w1 ⟨rfl,hb⟩
 have W1:=lH (bT W0.out hb)
 have B1:=lH (B0.out.below hb)
 clear hb W0 B0
 have c0:=B1.out.cell 0 _ rfl
 have c1:=B1.out.cell 1 _ rfl
 have c2:=B1.out.cell 2 _ rfl
 have c3:=B1.out.cell 3 _ rfl
 have c4:=B1.out.cell 4 _ rfl
 have c5:=B1.out.cell 5 _ rfl
 have c6:=B1.out.cell 6 _ rfl
 have cl:=B1.out.lt
 go_wp2_with fail
 refine(C2.out _).mono ?_
 rintro e w2 ⟨rfl,hb⟩
 have W2:=lH (bT W1.out hb)
 have B2:=lH (B1.out.below hb)
 clear hb W1 B1 c0 c1 c2 c3 c4 c5 c6 cl
 have c0:=B2.out.cell 0 _ rfl
 have c1:=B2.out.cell 1 _ rfl
 have c2:=B2.out.cell 2 _ rfl
 have c3:=B2.out.cell 3 _ rfl
 have c4:=B2.out.cell 4 _ rfl
 have c5:=B2.out.cell 5 _ rfl
 have c6:=B2.out.cell 6 _ rfl
 have cl:=B2.out.lt
 go_wp2_with fail
 go_ret
 exact⟨rfl,W2.out⟩
theorem zNg (pre suf:List UInt8) (mi nf mf g g2:Int) (w:World) (C1:Hid (∀w:World,Calls Tryz.prog 169 #[.string ⟨pre.toArray⟩] w fun e w'=>e= .returned (.bool true)∧Below w.heap.size w w')) (C2:Hid (∀w:World,Calls Tryz.prog 169 #[.string ⟨suf.toArray⟩] w fun e w'=>e= .returned (.bool true)∧Below w.heap.size w w')) (h0: ¬mi<1) (h1: ¬9<mi) (h2: ¬mf<0) (h3: ¬6<mf) (h4:nf<0):
  Calls Tryz.prog 133 #[.agg #[.string ⟨pre.toArray⟩,.string ⟨suf.toArray⟩,.int .i64 mi,.int .i64 nf,.int .i64 mf,.int .i64 g,.int .i64 g2]] w fun e w'=>e= .returned (errV 1)∧Below w.heap.size w w':=by
 have d0:decide (mi<1)=false:=zAa (by omega)
 have d1:decide (9<mi)=false:=zAa (by omega)
 have d2:decide (mf<0)=false:=zAa (by omega)
 have d3:decide (6<mf)=false:=zAa (by omega)
 have d4:decide (nf<0)=true:=zAd (by omega)
 have W0:=lH (bA w (.cells #[.string ⟨pre.toArray⟩,.string ⟨suf.toArray⟩,.int .i64 mi,.int .i64 nf,.int .i64 mf,.int .i64 g,.int .i64 g2] 123))
 have B0:=lH (Boxed.made w #[.string ⟨pre.toArray⟩,.string ⟨suf.toArray⟩,.int .i64 mi,.int .i64 nf,.int .i64 mf,.int .i64 g,.int .i64 g2] 123)
 go_enter Tryz.func133,Tryz.ntmps133
 go_wp2_with fail
 refine(C1.out _).mono ?_
 rintro e w1 ⟨rfl,hb⟩
 have W1:=lH (bT W0.out hb)
 have B1:=lH (B0.out.below hb)
 clear hb W0 B0
 have c0:=B1.out.cell 0 _ rfl
 have c1:=B1.out.cell 1 _ rfl
 have c2:=B1.out.cell 2 _ rfl
 have c3:=B1.out.cell 3 _ rfl
 have c4:=B1.out.cell 4 _ rfl
 have c5:=B1.out.cell 5 _ rfl
 have c6:=B1.out.cell 6 _ rfl
 have cl:=B1.out.lt
 go_wp2_with fail
 refine(C2.out _).mono ?_
 rintro e w2 ⟨rfl,hb⟩
 have W2:=lH (bT W1.out hb)
 have B2:=lH (B1.out.below hb)
 clear hb W1 B1 c0 c1 c2 c3 c4 c5 c6 cl
 have c0:=B2.out.cell 0 _ rfl
 have c1:=B2.out.cell 1 _ rfl
 have c2:=B2.out.cell 2 _ rfl
 have c3:=B2.out.cell 3 _ rfl
 have c4:=B2.out.cell 4 _ rfl
 have c5:=B2.out.cell 5 _ rfl
 have c6:=B2.out.cell 6 _ rfl
 have cl:=B2.out.lt
 go_wp2_with fail
 go_ret
 exact⟨rfl,W2.out⟩
theorem zNh (pre suf:List UInt8) (mi nf mf g g2:Int) (w:World) (C1:Hid (∀w:World,Calls Tryz.prog 169 #[.string ⟨pre.toArray⟩] w fun e w'=>e= .returned (.bool true)∧Below w.heap.size w w')) (C2:Hid (∀w:World,Calls Tryz.prog 169 #[.string ⟨suf.toArray⟩] w fun e w'=>e= .returned (.bool true)∧Below w.heap.size w w')) (h0: ¬mi<1) (h1: ¬9<mi) (h2: ¬mf<0) (h3: ¬6<mf) (h4: ¬nf<0) (h5:mf<nf):
  Calls Tryz.prog 133 #[.agg #[.string ⟨pre.toArray⟩,.string ⟨suf.toArray⟩,.int .i64 mi,.int .i64 nf,.int .i64 mf,.int .i64 g,.int .i64 g2]] w fun e w'=>e= .returned (errV 1)∧Below w.heap.size w w':=by
 have d0:decide (mi<1)=false:=zAa (by omega)
 have d1:decide (9<mi)=false:=zAa (by omega)
 have d2:decide (mf<0)=false:=zAa (by omega)
 have d3:decide (6<mf)=false:=zAa (by omega)
 have d4:decide (nf<0)=false:=zAa (by omega)
 have d5:decide (mf<nf)=true:=zAd (by omega)
 have W0:=lH (bA w (.cells #[.string ⟨pre.toArray⟩,.string ⟨suf.toArray⟩,.int .i64 mi,.int .i64 nf,.int .i64 mf,.int .i64 g,.int .i64 g2] 123))
 have B0:=lH (Boxed.made w #[.string ⟨pre.toArray⟩,.string ⟨suf.toArray⟩,.int .i64 mi,.int .i64 nf,.int .i64 mf,.int .i64 g,.int .i64 g2] 123)
 go_enter Tryz.func133,Tryz.ntmps133
 go_wp2_with fail
 refine(C1.out _).mono ?_
 rintro e w1 ⟨rfl,hb⟩
 have W1:=lH (bT W0.out hb)
 have B1:=lH (B0.out.below hb)
 clear hb W0 B0
 have c0:=B1.out.cell 0 _ rfl
 have c1:=B1.out.cell 1 _ rfl
 have c2:=B1.out.cell 2 _ rfl
 have c3:=B1.out.cell 3 _ rfl
 have c4:=B1.out.cell 4 _ rfl
 have c5:=B1.out.cell 5 _ rfl
 have c6:=B1.out.cell 6 _ rfl
 have cl:=B1.out.lt
 go_wp2_with fail
 refine(C2.out _).mono ?_
 rintro e w2 ⟨rfl,hb⟩
 have W2:=lH (bT W1.out hb)
 have B2:=lH (B1.out.below hb)
 clear hb W1 B1 c0 c1 c2 c3 c4 c5 c6 cl
 have c0:=B2.out.cell 0 _ rfl
 have c1:=B2.out.cell 1 _ rfl
 have c2:=B2.out.cell 2 _ rfl
 have c3:=B2.out.cell 3 _ rfl
 have c4:=B2.out.cell 4 _ rfl
 have c5:=B2.out.cell 5 _ rfl
 have c6:=B2.out.cell 6 _ rfl
 have cl:=B2.out.lt
 go_wp2_with fail
 go_ret
 exact⟨rfl,W2.out⟩
theorem zNi (pre suf:List UInt8) (mi nf mf g g2:Int) (w:World) (C1:Hid (∀w:World,Calls Tryz.prog 169 #[.string ⟨pre.toArray⟩] w fun e w'=>e= .returned (.bool true)∧Below w.heap.size w w')) (C2:Hid (∀w:World,Calls Tryz.prog 169 #[.string ⟨suf.toArray⟩] w fun e w'=>e= .returned (.bool true)∧Below w.heap.size w w')) (h0: ¬mi<1) (h1: ¬9<mi) (h2: ¬mf<0) (h3: ¬6<mf) (h4: ¬nf<0) (h5: ¬mf<nf) (h6:g<0):
  Calls Tryz.prog 133 #[.agg #[.string ⟨pre.toArray⟩,.string ⟨suf.toArray⟩,.int .i64 mi,.int .i64 nf,.int .i64 mf,.int .i64 g,.int .i64 g2]] w fun e w'=>e= .returned (errV 1)∧Below w.heap.size w w':=by
 have d0:decide (mi<1)=false:=zAa (by omega)
 have d1:decide (9<mi)=false:=zAa (by omega)
 have d2:decide (mf<0)=false:=zAa (by omega)
 have d3:decide (6<mf)=false:=zAa (by omega)
 have d4:decide (nf<0)=false:=zAa (by omega)
 have d5:decide (mf<nf)=false:=zAa (by omega)
 have d6:decide (g<0)=true:=zAd (by omega)
 have W0:=lH (bA w (.cells #[.string ⟨pre.toArray⟩,.string ⟨suf.toArray⟩,.int .i64 mi,.int .i64 nf,.int .i64 mf,.int .i64 g,.int .i64 g2] 123))
 have B0:=lH (Boxed.made w #[.string ⟨pre.toArray⟩,.string ⟨suf.toArray⟩,.int .i64 mi,.int .i64 nf,.int .i64 mf,.int .i64 g,.int .i64 g2] 123)
 go_enter Tryz.func133,Tryz.ntmps133
 go_wp2_with fail
 refine(C1.out _).mono ?_
 rintro e w1 ⟨rfl,hb⟩
 have W1:=lH (bT W0.out hb)
 have B1:=lH (B0.out.below hb)
 clear hb W0 B0
 have c0:=B1.out.cell 0 _ rfl
 have c1:=B1.out.cell 1 _ rfl
 have c2:=B1.out.cell 2 _ rfl
 have c3:=B1.out.cell 3 _ rfl
 have c4:=B1.out.cell 4 _ rfl
 have c5:=B1.out.cell 5 _ rfl
 have c6:=B1.out.cell 6 _ rfl
 have cl:=B1.out.lt
 go_wp2_with fail
 refine(C2.out _).mono ?_
 rintro e w2 ⟨rfl,hb⟩
 have W2:=lH (bT W1.out hb)
 have B2:=lH (B1.out.below hb)
 clear hb W1 B1 c0 c1 c2 c3 c4 c5 c6 cl
 have c0:=B2.out.cell 0 _ rfl
 have c1:=B2.out.cell 1 _ rfl
 have c2:=B2.out.cell 2 _ rfl
 have c3:=B2.out.cell 3 _ rfl
 have c4:=B2.out.cell 4 _ rfl
 have c5:=B2.out.cell 5 _ rfl
 have c6:=B2.out.cell 6 _ rfl
 have cl:=B2.out.lt
 go_wp2_with fail
 go_ret
 exact⟨rfl,W2.out⟩
theorem zNj (pre suf:List UInt8) (mi nf mf g g2:Int) (w:World) (C1:Hid (∀w:World,Calls Tryz.prog 169 #[.string ⟨pre.toArray⟩] w fun e w'=>e= .returned (.bool true)∧Below w.heap.size w w')) (C2:Hid (∀w:World,Calls Tryz.prog 169 #[.string ⟨suf.toArray⟩] w fun e w'=>e= .returned (.bool true)∧Below w.heap.size w w')) (h0: ¬mi<1) (h1: ¬9<mi) (h2: ¬mf<0) (h3: ¬6<mf) (h4: ¬nf<0) (h5: ¬mf<nf) (h6: ¬g<0) (h7:4<g):
  Calls Tryz.prog 133 #[.agg #[.string ⟨pre.toArray⟩,.string ⟨suf.toArray⟩,.int .i64 mi,.int .i64 nf,.int .i64 mf,.int .i64 g,.int .i64 g2]] w fun e w'=>e= .returned (errV 1)∧Below w.heap.size w w':=by
 have d0:decide (mi<1)=false:=zAa (by omega)
 have d1:decide (9<mi)=false:=zAa (by omega)
 have d2:decide (mf<0)=false:=zAa (by omega)
 have d3:decide (6<mf)=false:=zAa (by omega)
 have d4:decide (nf<0)=false:=zAa (by omega)
 have d5:decide (mf<nf)=false:=zAa (by omega)
 have d6:decide (g<0)=false:=zAa (by omega)
 have d7:decide (4<g)=true:=zAd (by omega)
 have W0:=lH (bA w (.cells #[.string ⟨pre.toArray⟩,.string ⟨suf.toArray⟩,.int .i64 mi,.int .i64 nf,.int .i64 mf,.int .i64 g,.int .i64 g2] 123))
 have B0:=lH (Boxed.made w #[.string ⟨pre.toArray⟩,.string ⟨suf.toArray⟩,.int .i64 mi,.int .i64 nf,.int .i64 mf,.int .i64 g,.int .i64 g2] 123)
 go_enter Tryz.func133,Tryz.ntmps133
 go_wp2_with fail
 refine(C1.out _).mono ?_
 rintro e w1 ⟨rfl,hb⟩
 have W1:=lH (bT W0.out hb)
 have B1:=lH (B0.out.below hb)
 clear hb W0 B0
 have c0:=B1.out.cell 0 _ rfl
 have c1:=B1.out.cell 1 _ rfl
 have c2:=B1.out.cell 2 _ rfl
 have c3:=B1.out.cell 3 _ rfl
 have c4:=B1.out.cell 4 _ rfl
 have c5:=B1.out.cell 5 _ rfl
 have c6:=B1.out.cell 6 _ rfl
 have cl:=B1.out.lt
 go_wp2_with fail
 refine(C2.out _).mono ?_
 rintro e w2 ⟨rfl,hb⟩
 have W2:=lH (bT W1.out hb)
 have B2:=lH (B1.out.below hb)
 clear hb W1 B1 c0 c1 c2 c3 c4 c5 c6 cl
 have c0:=B2.out.cell 0 _ rfl
 have c1:=B2.out.cell 1 _ rfl
 have c2:=B2.out.cell 2 _ rfl
 have c3:=B2.out.cell 3 _ rfl
 have c4:=B2.out.cell 4 _ rfl
 have c5:=B2.out.cell 5 _ rfl
 have c6:=B2.out.cell 6 _ rfl
 have cl:=B2.out.lt
 go_wp2_with fail
 go_ret
 exact⟨rfl,W2.out⟩
theorem zNk (pre suf:List UInt8) (mi nf mf g g2:Int) (w:World) (C1:Hid (∀w:World,Calls Tryz.prog 169 #[.string ⟨pre.toArray⟩] w fun e w'=>e= .returned (.bool true)∧Below w.heap.size w w')) (C2:Hid (∀w:World,Calls Tryz.prog 169 #[.string ⟨suf.toArray⟩] w fun e w'=>e= .returned (.bool true)∧Below w.heap.size w w')) (h0: ¬mi<1) (h1: ¬9<mi) (h2: ¬mf<0) (h3: ¬6<mf) (h4: ¬nf<0) (h5: ¬mf<nf) (h6: ¬g<0) (h7: ¬4<g) (h8:g2<0):
  Calls Tryz.prog 133 #[.agg #[.string ⟨pre.toArray⟩,.string ⟨suf.toArray⟩,.int .i64 mi,.int .i64 nf,.int .i64 mf,.int .i64 g,.int .i64 g2]] w fun e w'=>e= .returned (errV 1)∧Below w.heap.size w w':=by
 have d0:decide (mi<1)=false:=zAa (by omega)
 have d1:decide (9<mi)=false:=zAa (by omega)
 have d2:decide (mf<0)=false:=zAa (by omega)
 have d3:decide (6<mf)=false:=zAa (by omega)
 have d4:decide (nf<0)=false:=zAa (by omega)
 have d5:decide (mf<nf)=false:=zAa (by omega)
 have d6:decide (g<0)=false:=zAa (by omega)
 have d7:decide (4<g)=false:=zAa (by omega)
 have d8:decide (g2<0)=true:=zAd (by omega)
 have W0:=lH (bA w (.cells #[.string ⟨pre.toArray⟩,.string ⟨suf.toArray⟩,.int .i64 mi,.int .i64 nf,.int .i64 mf,.int .i64 g,.int .i64 g2] 123))
 have B0:=lH (Boxed.made w #[.string ⟨pre.toArray⟩,.string ⟨suf.toArray⟩,.int .i64 mi,.int .i64 nf,.int .i64 mf,.int .i64 g,.int .i64 g2] 123)
 go_enter Tryz.func133,Tryz.ntmps133
 go_wp2_with fail
 refine(C1.out _).mono ?_
 rintro e w1 ⟨rfl,hb⟩
 have W1:=lH (bT W0.out hb)
 have B1:=lH (B0.out.below hb)
 clear hb W0 B0
 have c0:=B1.out.cell 0 _ rfl
 have c1:=B1.out.cell 1 _ rfl
 have c2:=B1.out.cell 2 _ rfl
 have c3:=B1.out.cell 3 _ rfl
 have c4:=B1.out.cell 4 _ rfl
 have c5:=B1.out.cell 5 _ rfl
 have c6:=B1.out.cell 6 _ rfl
 have cl:=B1.out.lt
 go_wp2_with fail
 refine(C2.out _).mono ?_
 rintro e w2 ⟨rfl,hb⟩
 have W2:=lH (bT W1.out hb)
 have B2:=lH (B1.out.below hb)
 clear hb W1 B1 c0 c1 c2 c3 c4 c5 c6 cl
 have c0:=B2.out.cell 0 _ rfl
 have c1:=B2.out.cell 1 _ rfl
 have c2:=B2.out.cell 2 _ rfl
 have c3:=B2.out.cell 3 _ rfl
 have c4:=B2.out.cell 4 _ rfl
 have c5:=B2.out.cell 5 _ rfl
 have c6:=B2.out.cell 6 _ rfl
 have cl:=B2.out.lt
 go_wp2_with fail
 go_ret
 exact⟨rfl,W2.out⟩
theorem zNl (pre suf:List UInt8) (mi nf mf g g2:Int) (w:World) (C1:Hid (∀w:World,Calls Tryz.prog 169 #[.string ⟨pre.toArray⟩] w fun e w'=>e= .returned (.bool true)∧Below w.heap.size w w')) (C2:Hid (∀w:World,Calls Tryz.prog 169 #[.string ⟨suf.toArray⟩] w fun e w'=>e= .returned (.bool true)∧Below w.heap.size w w')) (h0: ¬mi<1) (h1: ¬9<mi) (h2: ¬mf<0) (h3: ¬6<mf) (h4: ¬nf<0) (h5: ¬mf<nf) (h6: ¬g<0) (h7: ¬4<g) (h8: ¬g2<0) (h9:4<g2):
  Calls Tryz.prog 133 #[.agg #[.string ⟨pre.toArray⟩,.string ⟨suf.toArray⟩,.int .i64 mi,.int .i64 nf,.int .i64 mf,.int .i64 g,.int .i64 g2]] w fun e w'=>e= .returned (errV 1)∧Below w.heap.size w w':=by
 have d0:decide (mi<1)=false:=zAa (by omega)
 have d1:decide (9<mi)=false:=zAa (by omega)
 have d2:decide (mf<0)=false:=zAa (by omega)
 have d3:decide (6<mf)=false:=zAa (by omega)
 have d4:decide (nf<0)=false:=zAa (by omega)
 have d5:decide (mf<nf)=false:=zAa (by omega)
 have d6:decide (g<0)=false:=zAa (by omega)
 have d7:decide (4<g)=false:=zAa (by omega)
 have d8:decide (g2<0)=false:=zAa (by omega)
 have d9:decide (4<g2)=true:=zAd (by omega)
 have W0:=lH (bA w (.cells #[.string ⟨pre.toArray⟩,.string ⟨suf.toArray⟩,.int .i64 mi,.int .i64 nf,.int .i64 mf,.int .i64 g,.int .i64 g2] 123))
 have B0:=lH (Boxed.made w #[.string ⟨pre.toArray⟩,.string ⟨suf.toArray⟩,.int .i64 mi,.int .i64 nf,.int .i64 mf,.int .i64 g,.int .i64 g2] 123)
 go_enter Tryz.func133,Tryz.ntmps133
 go_wp2_with fail
 refine(C1.out _).mono ?_
 rintro e w1 ⟨rfl,hb⟩
 have W1:=lH (bT W0.out hb)
 have B1:=lH (B0.out.below hb)
 clear hb W0 B0
 have c0:=B1.out.cell 0 _ rfl
 have c1:=B1.out.cell 1 _ rfl
 have c2:=B1.out.cell 2 _ rfl
 have c3:=B1.out.cell 3 _ rfl
 have c4:=B1.out.cell 4 _ rfl
 have c5:=B1.out.cell 5 _ rfl
 have c6:=B1.out.cell 6 _ rfl
 have cl:=B1.out.lt
 go_wp2_with fail
 refine(C2.out _).mono ?_
 rintro e w2 ⟨rfl,hb⟩
 have W2:=lH (bT W1.out hb)
 have B2:=lH (B1.out.below hb)
 clear hb W1 B1 c0 c1 c2 c3 c4 c5 c6 cl
 have c0:=B2.out.cell 0 _ rfl
 have c1:=B2.out.cell 1 _ rfl
 have c2:=B2.out.cell 2 _ rfl
 have c3:=B2.out.cell 3 _ rfl
 have c4:=B2.out.cell 4 _ rfl
 have c5:=B2.out.cell 5 _ rfl
 have c6:=B2.out.cell 6 _ rfl
 have cl:=B2.out.lt
 go_wp2_with fail
 go_ret
 exact⟨rfl,W2.out⟩
theorem zNL (pre suf:List UInt8) (mi nf mf g2:Int) (w:World) (C1:Hid (∀w:World,Calls Tryz.prog 169 #[.string ⟨pre.toArray⟩] w fun e w'=>e= .returned (.bool true)∧Below w.heap.size w w')) (C2:Hid (∀w:World,Calls Tryz.prog 169 #[.string ⟨suf.toArray⟩] w fun e w'=>e= .returned (.bool true)∧Below w.heap.size w w')) (h0: ¬mi<1) (h1: ¬9<mi) (h2: ¬mf<0) (h3: ¬6<mf) (h4: ¬nf<0) (h5: ¬mf<nf) (h6: ¬g2<0) (h7: ¬4<g2) (h8: ¬g2=0):
  Calls Tryz.prog 133 #[.agg #[.string ⟨pre.toArray⟩,.string ⟨suf.toArray⟩,.int .i64 mi,.int .i64 nf,.int .i64 mf,.int .i64 0,.int .i64 g2]] w fun e w'=>e= .returned (errV 3)∧Below w.heap.size w w':=by
 have d0:decide (mi<1)=false:=zAa (by omega)
 have d1:decide (9<mi)=false:=zAa (by omega)
 have d2:decide (mf<0)=false:=zAa (by omega)
 have d3:decide (6<mf)=false:=zAa (by omega)
 have d4:decide (nf<0)=false:=zAa (by omega)
 have d5:decide (mf<nf)=false:=zAa (by omega)
 have d6:decide (g2<0)=false:=zAa (by omega)
 have d7:decide (4<g2)=false:=zAa (by omega)
 have q0:(g2==0)=false:=zAe (by omega)
 have q1:(g2 !=0)=true:=by rw[bne,zAe (by omega)];rfl
 have W0:=lH (bA w (.cells #[.string ⟨pre.toArray⟩,.string ⟨suf.toArray⟩,.int .i64 mi,.int .i64 nf,.int .i64 mf,.int .i64 0,.int .i64 g2] 123))
 have B0:=lH (Boxed.made w #[.string ⟨pre.toArray⟩,.string ⟨suf.toArray⟩,.int .i64 mi,.int .i64 nf,.int .i64 mf,.int .i64 0,.int .i64 g2] 123)
 go_enter Tryz.func133,Tryz.ntmps133
 go_wp2_with fail
 refine(C1.out _).mono ?_
 rintro e w1 ⟨rfl,hb⟩
 have W1:=lH (bT W0.out hb)
 have B1:=lH (B0.out.below hb)
 clear hb W0 B0
 have c0:=B1.out.cell 0 _ rfl
 have c1:=B1.out.cell 1 _ rfl
 have c2:=B1.out.cell 2 _ rfl
 have c3:=B1.out.cell 3 _ rfl
 have c4:=B1.out.cell 4 _ rfl
 have c5:=B1.out.cell 5 _ rfl
 have c6:=B1.out.cell 6 _ rfl
 have cl:=B1.out.lt
 go_wp2_with fail
 refine(C2.out _).mono ?_
 rintro e w2 ⟨rfl,hb⟩
 have W2:=lH (bT W1.out hb)
 have B2:=lH (B1.out.below hb)
 clear hb W1 B1 c0 c1 c2 c3 c4 c5 c6 cl
 have c0:=B2.out.cell 0 _ rfl
 have c1:=B2.out.cell 1 _ rfl
 have c2:=B2.out.cell 2 _ rfl
 have c3:=B2.out.cell 3 _ rfl
 have c4:=B2.out.cell 4 _ rfl
 have c5:=B2.out.cell 5 _ rfl
 have c6:=B2.out.cell 6 _ rfl
 have cl:=B2.out.lt
 go_wp2_with fail
 go_ret
 exact⟨rfl,W2.out⟩
theorem zNM (pre suf:List UInt8) (mi nf mf g g2:Int) (w:World) (C1:Hid (∀w:World,Calls Tryz.prog 169 #[.string ⟨pre.toArray⟩] w fun e w'=>e= .returned (.bool true)∧Below w.heap.size w w')) (C2:Hid (∀w:World,Calls Tryz.prog 169 #[.string ⟨suf.toArray⟩] w fun e w'=>e= .returned (.bool true)∧Below w.heap.size w w')) (h0: ¬mi<1) (h1: ¬9<mi) (h2: ¬mf<0) (h3: ¬6<mf) (h4: ¬nf<0) (h5: ¬mf<nf) (h6: ¬g<0) (h7: ¬4<g) (h8: ¬g2<0) (h9: ¬4<g2) (h10: ¬g2=0) (h11: ¬g=0):
  Calls Tryz.prog 133 #[.agg #[.string ⟨pre.toArray⟩,.string ⟨suf.toArray⟩,.int .i64 mi,.int .i64 nf,.int .i64 mf,.int .i64 g,.int .i64 g2]] w fun e w'=>e= .returned .nilIface∧Below w.heap.size w w':=by
 have d0:decide (mi<1)=false:=zAa (by omega)
 have d1:decide (9<mi)=false:=zAa (by omega)
 have d2:decide (mf<0)=false:=zAa (by omega)
 have d3:decide (6<mf)=false:=zAa (by omega)
 have d4:decide (nf<0)=false:=zAa (by omega)
 have d5:decide (mf<nf)=false:=zAa (by omega)
 have d6:decide (g<0)=false:=zAa (by omega)
 have d7:decide (4<g)=false:=zAa (by omega)
 have d8:decide (g2<0)=false:=zAa (by omega)
 have d9:decide (4<g2)=false:=zAa (by omega)
 have q0:(g2==0)=false:=zAe (by omega)
 have q1:(g2 !=0)=true:=by rw[bne,zAe (by omega)];rfl
 have q2:(g==0)=false:=zAe (by omega)
 have W0:=lH (bA w (.cells #[.string ⟨pre.toArray⟩,.string ⟨suf.toArray⟩,.int .i64 mi,.int .i64 nf,.int .i64 mf,.int .i64 g,.int .i64 g2] 123))
 have B0:=lH (Boxed.made w #[.string ⟨pre.toArray⟩,.string ⟨suf.toArray⟩,.int .i64 mi,.int .i64 nf,.int .i64 mf,.int .i64 g,.int .i64 g2] 123)
 go_enter Tryz.func133,Tryz.ntmps133
 go_wp2_with fail
 refine(C1.out _).mono ?_
 rintro e w1 ⟨rfl,hb⟩
 have W1:=lH (bT W0.out hb)
 have B1:=lH (B0.out.below hb)
 clear hb W0 B0
 have c0:=B1.out.cell 0 _ rfl
 have c1:=B1.out.cell 1 _ rfl
 have c2:=B1.out.cell 2 _ rfl
 have c3:=B1.out.cell 3 _ rfl
 have c4:=B1.out.cell 4 _ rfl
 have c5:=B1.out.cell 5 _ rfl
 have c6:=B1.out.cell 6 _ rfl
 have cl:=B1.out.lt
 go_wp2_with fail
 refine(C2.out _).mono ?_
 rintro e w2 ⟨rfl,hb⟩
 have W2:=lH (bT W1.out hb)
 have B2:=lH (B1.out.below hb)
 clear hb W1 B1 c0 c1 c2 c3 c4 c5 c6 cl
 have c0:=B2.out.cell 0 _ rfl
 have c1:=B2.out.cell 1 _ rfl
 have c2:=B2.out.cell 2 _ rfl
 have c3:=B2.out.cell 3 _ rfl
 have c4:=B2.out.cell 4 _ rfl
 have c5:=B2.out.cell 5 _ rfl
 have c6:=B2.out.cell 6 _ rfl
 have cl:=B2.out.lt
 go_wp2_with fail
 go_ret
 exact⟨rfl,W2.out⟩
theorem zNN (pre suf:List UInt8) (mi nf mf g:Int) (w:World) (C1:Hid (∀w:World,Calls Tryz.prog 169 #[.string ⟨pre.toArray⟩] w fun e w'=>e= .returned (.bool true)∧Below w.heap.size w w')) (C2:Hid (∀w:World,Calls Tryz.prog 169 #[.string ⟨suf.toArray⟩] w fun e w'=>e= .returned (.bool true)∧Below w.heap.size w w')) (h0: ¬mi<1) (h1: ¬9<mi) (h2: ¬mf<0) (h3: ¬6<mf) (h4: ¬nf<0) (h5: ¬mf<nf) (h6: ¬g<0) (h7: ¬4<g):
  Calls Tryz.prog 133 #[.agg #[.string ⟨pre.toArray⟩,.string ⟨suf.toArray⟩,.int .i64 mi,.int .i64 nf,.int .i64 mf,.int .i64 g,.int .i64 0]] w fun e w'=>e= .returned .nilIface∧Below w.heap.size w w':=by
 have d0:decide (mi<1)=false:=zAa (by omega)
 have d1:decide (9<mi)=false:=zAa (by omega)
 have d2:decide (mf<0)=false:=zAa (by omega)
 have d3:decide (6<mf)=false:=zAa (by omega)
 have d4:decide (nf<0)=false:=zAa (by omega)
 have d5:decide (mf<nf)=false:=zAa (by omega)
 have d6:decide (g<0)=false:=zAa (by omega)
 have d7:decide (4<g)=false:=zAa (by omega)
 have W0:=lH (bA w (.cells #[.string ⟨pre.toArray⟩,.string ⟨suf.toArray⟩,.int .i64 mi,.int .i64 nf,.int .i64 mf,.int .i64 g,.int .i64 0] 123))
 have B0:=lH (Boxed.made w #[.string ⟨pre.toArray⟩,.string ⟨suf.toArray⟩,.int .i64 mi,.int .i64 nf,.int .i64 mf,.int .i64 g,.int .i64 0] 123)
 go_enter Tryz.func133,Tryz.ntmps133
 go_wp2_with fail
 refine(C1.out _).mono ?_
 rintro e w1 ⟨rfl,hb⟩
 have W1:=lH (bT W0.out hb)
 have B1:=lH (B0.out.below hb)
 clear hb W0 B0
 have c0:=B1.out.cell 0 _ rfl
 have c1:=B1.out.cell 1 _ rfl
 have c2:=B1.out.cell 2 _ rfl
 have c3:=B1.out.cell 3 _ rfl
 have c4:=B1.out.cell 4 _ rfl
 have c5:=B1.out.cell 5 _ rfl
 have c6:=B1.out.cell 6 _ rfl
 have cl:=B1.out.lt
 go_wp2_with fail
 refine(C2.out _).mono ?_
 rintro e w2 ⟨rfl,hb⟩
 have W2:=lH (bT W1.out hb)
 have B2:=lH (B1.out.below hb)
 clear hb W1 B1 c0 c1 c2 c3 c4 c5 c6 cl
 have c0:=B2.out.cell 0 _ rfl
 have c1:=B2.out.cell 1 _ rfl
 have c2:=B2.out.cell 2 _ rfl
 have c3:=B2.out.cell 3 _ rfl
 have c4:=B2.out.cell 4 _ rfl
 have c5:=B2.out.cell 5 _ rfl
 have c6:=B2.out.cell 6 _ rfl
 have cl:=B2.out.lt
 go_wp2_with fail
 go_ret
 exact⟨rfl,W2.out⟩
theorem zLY (p:Nt.Pt) (w:World) (h1:p.pre.length≤1000000000) (h2:p.suf.length≤1000000000):
  Calls Tryz.prog 133 #[.agg #[.string ⟨p.pre.toArray⟩,.string ⟨p.suf.toArray⟩,.int .i64 p.mi,.int .i64 p.nf,.int .i64 p.mf,.int .i64 p.g,.int .i64 p.g2]] w fun e w'=>e= .returned (errN (Nt.patE p))∧Below w.heap.size w w':=by
 have A1: ∀(b:Bool),Nt.affB p.pre=b→Hid (∀w:World,Calls Tryz.prog 169 #[.string ⟨p.pre.toArray⟩] w fun e w'=>e= .returned (.bool b)∧Below w.heap.size w w'):=fun b hb=>lH fun w=>hb▸zE8 p.pre w (by omega)
 have A2: ∀(b:Bool),Nt.affB p.suf=b→Hid (∀w:World,Calls Tryz.prog 169 #[.string ⟨p.suf.toArray⟩] w fun e w'=>e= .returned (.bool b)∧Below w.heap.size w w'):=fun b hb=>lH fun w=>hb▸zE8 p.suf w (by omega)
 obtain⟨pre,suf,mi,nf,mf,g,g2⟩:=p
 simp only at*
 by_cases ha':Nt.affB pre=false
 ·skip
  have e:Nt.patE ⟨pre,suf,mi,nf,mf,g,g2⟩=3:=by unfold Nt.patE;simp only[ha',Bool.false_and,Bool.false_eq_true,if_false]
  rw[e]
  rw[show errN 3=(errV 3) from by unfold errN;rw[if_neg (by decide)]]
  exact zNJ pre suf mi nf mf g g2 w (A1 _ ha')
 have ha:Nt.affB pre=true:=by simpa using ha'
 by_cases hs':Nt.affB suf=false
 ·skip
  have e:Nt.patE ⟨pre,suf,mi,nf,mf,g,g2⟩=3:=by unfold Nt.patE;simp only[ha,hs',Bool.and_false,Bool.false_eq_true,if_false]
  rw[e]
  rw[show errN 3=(errV 3) from by unfold errN;rw[if_neg (by decide)]]
  exact zNK pre suf mi nf mf g g2 w (A1 _ ha) (A2 _ hs')
 have hs:Nt.affB suf=true:=by simpa using hs'
 have en: ∀b,Nt.sizeB ⟨pre,suf,mi,nf,mf,g,g2⟩=b→Nt.patE ⟨pre,suf,mi,nf,mf,g,g2⟩=if b then (if g2≠0∧g=0 then 3 else 0) else 1:=fun b hb=>by unfold Nt.patE;simp only[ha,hs,hb,Bool.and_self,if_true]
 by_cases r0:mi<1
 ·have z:Nt.sizeB ⟨pre,suf,mi,nf,mf,g,g2⟩=false:=by rw[Bool.eq_false_iff];intro z;have:=Nt.zAV z;simp only at this;omega
  have e:Nt.patE ⟨pre,suf,mi,nf,mf,g,g2⟩=1:=by rw[en _ z];rfl
  rw[e]
  rw[show errN 1=(errV 1) from by unfold errN;rw[if_neg (by decide)]]
  exact zNc pre suf mi nf mf g g2 w (A1 _ ha) (A2 _ hs) r0
 by_cases r1:9<mi
 ·have z:Nt.sizeB ⟨pre,suf,mi,nf,mf,g,g2⟩=false:=by rw[Bool.eq_false_iff];intro z;have:=Nt.zAV z;simp only at this;omega
  have e:Nt.patE ⟨pre,suf,mi,nf,mf,g,g2⟩=1:=by rw[en _ z];rfl
  rw[e]
  rw[show errN 1=(errV 1) from by unfold errN;rw[if_neg (by decide)]]
  exact zNd pre suf mi nf mf g g2 w (A1 _ ha) (A2 _ hs) r0 r1
 by_cases r2:mf<0
 ·have z:Nt.sizeB ⟨pre,suf,mi,nf,mf,g,g2⟩=false:=by rw[Bool.eq_false_iff];intro z;have:=Nt.zAV z;simp only at this;omega
  have e:Nt.patE ⟨pre,suf,mi,nf,mf,g,g2⟩=1:=by rw[en _ z];rfl
  rw[e]
  rw[show errN 1=(errV 1) from by unfold errN;rw[if_neg (by decide)]]
  exact zNe pre suf mi nf mf g g2 w (A1 _ ha) (A2 _ hs) r0 r1 r2
 by_cases r3:6<mf
 ·have z:Nt.sizeB ⟨pre,suf,mi,nf,mf,g,g2⟩=false:=by rw[Bool.eq_false_iff];intro z;have:=Nt.zAV z;simp only at this;omega
  have e:Nt.patE ⟨pre,suf,mi,nf,mf,g,g2⟩=1:=by rw[en _ z];rfl
  rw[e]
  rw[show errN 1=(errV 1) from by unfold errN;rw[if_neg (by decide)]]
  exact zNf pre suf mi nf mf g g2 w (A1 _ ha) (A2 _ hs) r0 r1 r2 r3
 by_cases r4:nf<0
 ·have z:Nt.sizeB ⟨pre,suf,mi,nf,mf,g,g2⟩=false:=by rw[Bool.eq_false_iff];intro z;have:=Nt.zAV z;simp only at this;omega
  have e:Nt.patE ⟨pre,suf,mi,nf,mf,g,g2⟩=1:=by rw[en _ z];rfl
  rw[e]
  rw[show errN 1=(errV 1) from by unfold errN;rw[if_neg (by decide)]]
  exact zNg pre suf mi nf mf g g2 w (A1 _ ha) (A2 _ hs) r0 r1 r2 r3 r4
 by_cases r5:mf<nf
 ·have z:Nt.sizeB ⟨pre,suf,mi,nf,mf,g,g2⟩=false:=by rw[Bool.eq_false_iff];intro z;have:=Nt.zAV z;simp only at this;omega
  have e:Nt.patE ⟨pre,suf,mi,nf,mf,g,g2⟩=1:=by rw[en _ z];rfl
  rw[e]
  rw[show errN 1=(errV 1) from by unfold errN;rw[if_neg (by decide)]]
  exact zNh pre suf mi nf mf g g2 w (A1 _ ha) (A2 _ hs) r0 r1 r2 r3 r4 r5
 by_cases r6:g<0
 ·have z:Nt.sizeB ⟨pre,suf,mi,nf,mf,g,g2⟩=false:=by rw[Bool.eq_false_iff];intro z;have:=Nt.zAV z;simp only at this;omega
  have e:Nt.patE ⟨pre,suf,mi,nf,mf,g,g2⟩=1:=by rw[en _ z];rfl
  rw[e]
  rw[show errN 1=(errV 1) from by unfold errN;rw[if_neg (by decide)]]
  exact zNi pre suf mi nf mf g g2 w (A1 _ ha) (A2 _ hs) r0 r1 r2 r3 r4 r5 r6
 by_cases r7:4<g
 ·have z:Nt.sizeB ⟨pre,suf,mi,nf,mf,g,g2⟩=false:=by rw[Bool.eq_false_iff];intro z;have:=Nt.zAV z;simp only at this;omega
  have e:Nt.patE ⟨pre,suf,mi,nf,mf,g,g2⟩=1:=by rw[en _ z];rfl
  rw[e]
  rw[show errN 1=(errV 1) from by unfold errN;rw[if_neg (by decide)]]
  exact zNj pre suf mi nf mf g g2 w (A1 _ ha) (A2 _ hs) r0 r1 r2 r3 r4 r5 r6 r7
 by_cases r8:g2<0
 ·have z:Nt.sizeB ⟨pre,suf,mi,nf,mf,g,g2⟩=false:=by rw[Bool.eq_false_iff];intro z;have:=Nt.zAV z;simp only at this;omega
  have e:Nt.patE ⟨pre,suf,mi,nf,mf,g,g2⟩=1:=by rw[en _ z];rfl
  rw[e]
  rw[show errN 1=(errV 1) from by unfold errN;rw[if_neg (by decide)]]
  exact zNk pre suf mi nf mf g g2 w (A1 _ ha) (A2 _ hs) r0 r1 r2 r3 r4 r5 r6 r7 r8
 by_cases r9:4<g2
 ·have z:Nt.sizeB ⟨pre,suf,mi,nf,mf,g,g2⟩=false:=by rw[Bool.eq_false_iff];intro z;have:=Nt.zAV z;simp only at this;omega
  have e:Nt.patE ⟨pre,suf,mi,nf,mf,g,g2⟩=1:=by rw[en _ z];rfl
  rw[e]
  rw[show errN 1=(errV 1) from by unfold errN;rw[if_neg (by decide)]]
  exact zNl pre suf mi nf mf g g2 w (A1 _ ha) (A2 _ hs) r0 r1 r2 r3 r4 r5 r6 r7 r8 r9
 have z:Nt.sizeB ⟨pre,suf,mi,nf,mf,g,g2⟩=true:=by unfold Nt.sizeB;simp only[Bool.and_eq_true,decide_eq_true_eq];omega
 by_cases z2:g2=0
 ·have e:Nt.patE ⟨pre,suf,mi,nf,mf,g,g2⟩=0:=by rw[en _ z,if_pos rfl,if_neg (by omega)]
  rw[e]
  rw[show errN 0= .nilIface from by unfold errN;rw[if_pos rfl]]
  subst z2
  exact zNN pre suf mi nf mf g w (A1 _ ha) (A2 _ hs) r0 r1 r2 r3 r4 r5 r6 r7
 by_cases z1:g=0
 ·have e:Nt.patE ⟨pre,suf,mi,nf,mf,g,g2⟩=3:=by rw[en _ z,if_pos rfl,if_pos ⟨z2,z1⟩]
  rw[e]
  rw[show errN 3=(errV 3) from by unfold errN;rw[if_neg (by decide)]]
  subst z1
  exact zNL pre suf mi nf mf g2 w (A1 _ ha) (A2 _ hs) r0 r1 r2 r3 r4 r5 r8 r9 z2
 have e:Nt.patE ⟨pre,suf,mi,nf,mf,g,g2⟩=0:=by rw[en _ z,if_pos rfl,if_neg (by omega)]
 rw[e]
 rw[show errN 0= .nilIface from by unfold errN;rw[if_pos rfl]]
 exact zNM pre suf mi nf mf g g2 w (A1 _ ha) (A2 _ hs) r0 r1 r2 r3 r4 r5 r6 r7 r8 r9 z2 z1
end Go.Proofs.YtjlchookakbomaaGreatDoor
namespace Grp
open Go Go.Lib
def pieces (g g2:Nat) (s:List UInt8):List (List UInt8):=
 if _h:0<g∧g<s.length then pieces g2 g2 (s.take (s.length-g))++ [s.drop (s.length-g)] else [s]
termination_by s.length
decreasing_by simp;omega
theorem zBR {g g2:Nat} {s:List UInt8} (h0:0<g) (h:g<s.length):pieces g g2 s=pieces g2 g2 (s.take (s.length-g))++ [s.drop (s.length-g)]:=by
 rw[pieces,dif_pos ⟨h0,h⟩]
theorem zBS {g g2:Nat} {s:List UInt8} (h:s.length≤g):pieces g g2 s= [s]:=by
 rw[pieces,dif_neg (by omega)]
theorem zJa (g g2:Nat) (s:List UInt8):pieces g g2 s≠ []:=by
 rw[pieces];split<;>simp
theorem zFy (sep:List UInt8) (r:List (List UInt8)) (y:List UInt8):joinTail sep (r++ [y])=joinTail sep r++sep++y:=by
 unfold joinTail;simp
theorem zJb {l:List (List UInt8)} (hl:l≠ []) (y sep:List UInt8):join (l++ [y]) sep=join l sep++sep++y:=by
 cases l with
 |nil=>exact absurd rfl hl
 |cons x r=>rw[List.cons_append,join_cons,join_cons,zFy];simp
def grouped (g g2:Nat) (s:List UInt8) (c:UInt8):List UInt8:=join (pieces g g2 s) [c]
theorem zCq {g g2:Nat} {s:List UInt8} (c:UInt8) (h0:0<g) (h:g<s.length):grouped g g2 s c=grouped g2 g2 (s.take (s.length-g)) c++ [c]++s.drop (s.length-g):=by
 unfold grouped
 rw[zBR h0 h,zJb (zJa _ _ _)]
theorem zBG {g g2:Nat} {s:List UInt8} (c:UInt8) (h:s.length≤g):grouped g g2 s c=s:=by
 unfold grouped
 rw[zBS h,join_one]
theorem zBq (n:Nat): ∀(g g2:Nat) (s:List UInt8) (c:UInt8),s.length≤n→(grouped g g2 s c).length≤2*s.length∧(pieces g g2 s).length≤s.length+1:=by
 induction n with
 |zero=>intro g g2 s c h;rw[zBG c (by omega),zBS (by omega)];simp;omega
 |succ n ih=>
  intro g g2 s c h
  by_cases hc:0<g∧g<s.length
  ·have i:=ih g2 g2 (s.take (s.length-g)) c (by simp;omega)
   rw[zCq c hc.1 hc.2,zBR hc.1 hc.2]
   simp only[List.length_append,List.length_take,List.length_drop,List.length_cons,List.length_nil] at i⊢
   omega
  rw[pieces,dif_neg hc]
  unfold grouped
  rw[pieces,dif_neg hc,join_one]
  simp;omega
end Grp
namespace Go.Proofs.YtjlchookakbomaaGreatDoor
def gout (s:List UInt8) (g g2:Int) (c:UInt8):List UInt8:=if g=0 then s else Grp.grouped g.toNat (if g2=0 then g.toNat else g2.toNat) s c
theorem zDV (s:List UInt8) (g g2:Int) (c:UInt8):(gout s g g2 c).length≤2*s.length:=by
 unfold gout
 split
 ·omega
 exact(Grp.zBq s.length _ _ s c (Nat.le_refl _)).1
open Go.RowKit

abbrev NUM:List UInt8:= [48,49,50,51,52,53,54,55,56,57]
def digB (s:List UInt8):Bool:=s.all (fun c=>NUM.contains c)&&!s.isEmpty
theorem zKo (s:List UInt8):Lib.trimS s NUM= []↔s.all (fun c=>NUM.contains c)=true:=by
 unfold Lib.trimS Lib.trimLeftS Lib.trimRightS
 rw[zAX,List.all_reverse]
 constructor
 ·intro h
  by_cases hs:s.all (fun c=>NUM.contains c)=true
  ·exact hs
  exfalso
  have h2:(s.reverse.dropWhile (NUM.contains ·))≠ []:=fun e=>hs (by rw[←List.all_reverse];exact zAX.1 e)
  cases hd:s.reverse.dropWhile (NUM.contains ·) with
  |nil=>exact h2 hd
  |cons x r=>
   have hx:NUM.contains x=false:=by
    have:=List.head?_dropWhile_not (NUM.contains ·) s.reverse
    rw[hd] at this
    simpa using this
   rw[hd] at h
   simp only[List.all_cons,hx,Bool.false_and] at h
   cases h
 intro h
 have e:s.reverse.dropWhile (NUM.contains ·)= []:=zAX.2 (by rw[List.all_reverse];exact h)
 rw[e];rfl
theorem zJc (s:List UInt8) (w:World) (hs:s.length≤4000000000):
  Calls Tryz.prog 83 #[.string ⟨s.toArray⟩,.string ⟨#[48,49,50,51,52,53,54,55,56,57]⟩] w fun e w'=>e= .returned (.string ⟨(Lib.trimS s NUM).toArray⟩)∧Below w.heap.size w w':=by
 have c:=Any.strings_Trim_laid Tryz.lays160 (by kernel_rfl) ⟨s.toArray⟩ ⟨#[48,49,50,51,52,53,54,55,56,57]⟩ w (by rw[zAO];omega) (by decide) (fun j b hb=>by
  have hm:b∈NUM:=List.mem_of_getElem? (i:=j) hb
  simp at hm
  rcases hm with rfl|rfl|rfl|rfl|rfl|rfl|rfl|rfl|rfl|rfl<;>decide)
 exact c

theorem zCr (s:List UInt8) (w:World) (hs:s.length≤4000000000):
  Calls Tryz.prog 139 #[.string ⟨s.toArray⟩] w fun e w'=>e= .returned (.bool (digB s))∧Below w.heap.size w w':=by
 cases s with
 |nil=>
  go_enter Tryz.func139,Tryz.ntmps139
  go_wp2
  go_ret
  exact⟨rfl,Below.refl _ _⟩
 |cons b r=>
  have CT:=lH fun w=>zJc (b::r) w hs
  have h0:(b::r== [])=false:=rfl
  have HD:Hid (digB (b::r)=decide (Lib.trimS (b::r) NUM= [])):=lH (by
   rw[Bool.eq_iff_iff,decide_eq_true_iff,zKo];unfold digB;simp)
  generalize hL:b::r=L at*
  have hL':=lH hL
  clear hL hs
  generalize Lib.trimS L NUM=T at*
  have hne:L≠ []:=fun e=>by rw[e] at hL';cases hL'.out
  have e1:L.isEmpty=false:=by cases L with|nil=>exact absurd rfl hne|cons=>rfl
  cases T with
  |nil=>
   go_enter Tryz.func139,Tryz.ntmps139
   go_wp2_with fail
   refine(CT.out _).mono ?_
   rintro e w' ⟨rfl,hb⟩
   have W:=lH hb
   clear hb
   go_wp2_with fail
   go_ret
   exact⟨zAg (by rw[HD.out];simp),W.out⟩
  |cons x y=>
   go_enter Tryz.func139,Tryz.ntmps139
   go_wp2_with fail
   refine(CT.out _).mono ?_
   rintro e w' ⟨rfl,hb⟩
   have W:=lH hb
   clear hb
   go_wp2_with fail
   go_ret
   exact⟨zAg (by rw[HD.out];simp),W.out⟩

theorem zJd (g g2 c:Int) (w:World) (n:c<48) (r1: ¬g<0) (r2: ¬4<g) (r3: ¬g2<0) (r4: ¬4<g2):
  Calls Tryz.prog 140 #[.int .i64 g,.int .i64 g2,.int .u8 c] w fun e w'=>e= .returned (.nilIface)∧w=w':=by
 have d1:decide (48≤c)=false:=zAa (by omega)
 have d3:decide (g<0)=false:=zAa (by omega)
 have d4:decide (4<g)=false:=zAa (by omega)
 have d5:decide (g2<0)=false:=zAa (by omega)
 have d6:decide (4<g2)=false:=zAa (by omega)
 go_enter Tryz.func140,Tryz.ntmps140
 go_wp2
 go_ret
 exact⟨rfl,rfl⟩

theorem zJe (g g2 c:Int) (w:World) (n:57<c) (r1: ¬g<0) (r2: ¬4<g) (r3: ¬g2<0) (r4: ¬4<g2):
  Calls Tryz.prog 140 #[.int .i64 g,.int .i64 g2,.int .u8 c] w fun e w'=>e= .returned (.nilIface)∧w=w':=by
 have d1:decide (48≤c)=true:=zAd (by omega)
 have d2:decide (c≤57)=false:=zAa (by omega)
 have d3:decide (g<0)=false:=zAa (by omega)
 have d4:decide (4<g)=false:=zAa (by omega)
 have d5:decide (g2<0)=false:=zAa (by omega)
 have d6:decide (4<g2)=false:=zAa (by omega)
 go_enter Tryz.func140,Tryz.ntmps140
 go_wp2
 go_ret
 exact⟨rfl,rfl⟩

def rightG (g g2:Int):Prop:=0≤g∧g≤4∧0≤g2∧g2≤4
theorem zDc (g g2 c:Int) (w:World) (hc: ¬(48≤c∧c≤57)) (h:rightG g g2):
  Calls Tryz.prog 140 #[.int .i64 g,.int .i64 g2,.int .u8 c] w fun e w'=>e= .returned .nilIface∧w=w':=by
 obtain⟨h1,h2,h3,h4⟩:=h
 by_cases n:c<48
 ·exact zJd g g2 c w n (by omega) (by omega) (by omega) (by omega)
 exact zJe g g2 c w (by omega) (by omega) (by omega) (by omega) (by omega)
end Go.Proofs.YtjlchookakbomaaGreatDoor
namespace Go.Proofs.YtjlchookakbomaaGreatDoor.Nt
open Go Go.Lib Byt
open Dcm (okD)
def wh (c s:Int):List UInt8:=(zdig (zn c s) c.natAbs).take ((zdig (zn c s) c.natAbs).length-s.toNat)
def bh (c s:Int):List UInt8:=(zdig (zn c s) c.natAbs).drop ((zdig (zn c s) c.natAbs).length-s.toNat)
theorem zLZ {c s:Int} (h:s≤0):zn c s=0:=by
 have:=List.length_pos_iff.2 (zA8 c.natAbs)
 unfold zn;omega
theorem zL0 {c s:Int} (h:s≤0):wh c s=decDigits c.natAbs:=by
 unfold wh
 rw[zLZ h,show s.toNat=0 by omega]
 simp[zdig]
theorem zHu {c s:Int} (h:s≤0):bh c s= []:=by
 unfold bh
 rw[show s.toNat=0 by omega]
 simp
theorem zF4 (c s:Int):(bh c s).length=s.toNat:=by
 have:=zDO c s
 unfold bh
 rw[List.length_drop];omega
theorem zNO (c s:Int):wh c s≠ []:=fun e=>by
 have h:=zDO c s
 have:=congrArg List.length e
 unfold wh at this
 rw[List.length_take,List.length_nil] at this
 omega
theorem zF5 (c s:Int):AllDig (wh c s):=fun x hx=>zDN _ _ x (List.mem_of_mem_take hx)
theorem zNm (c s:Int):AllDig (bh c s):=fun x hx=>zDN _ _ x (List.mem_of_mem_drop hx)
theorem zCL (c s:Int):decText c s=sgn c++wh c s++(if s≤0 then [] else 46::bh c s):=by
 unfold decText
 split
 ·rename_i h;rw[zL0 h];simp
 simp[wh,bh]
theorem zF6 (c s:Int) (h:okD c s):(wh c s).length≤100:=by
 have:=zBu c s h
 rw[zCL] at this
 simp only[List.length_append] at this
 omega
theorem zDs (c s:Int):(46:UInt8)∉sgn c++wh c s:=fun e=>by
 rcases List.mem_append.1 e with e|e
 ·exact zIV c e
 exact zFH (zF5 c s) e
theorem zKp (c s:Int):cut (decText c s) [46]=(sgn c++wh c s,bh c s,decide (0<s)):=by
 rw[zCL]
 split
 ·rename_i h
  rw[List.append_nil,zJ4 (zDs c s),zHu h,decide_eq_false (by omega)]
 rename_i h
 rw[zLG _ (zDs c s),decide_eq_true (by omega)]
theorem zH3 (c s:Int):split (decText c s) [46]=if s≤0 then [sgn c++wh c s] else [sgn c++wh c s,bh c s]:=by
 rw[zCL]
 split
 ·rw[List.append_nil,split_none (zDs c s)]
 rw[zHX _ (zDs c s),split_none (zFH (zNm c s))]
theorem zNn {c d s:Int} (h:c.natAbs=d.natAbs):wh c s=wh d s:=by
 unfold wh zn;rw[h]
theorem zNo {c d s:Int} (h:c.natAbs=d.natAbs):bh c s=bh d s:=by
 unfold bh zn;rw[h]
theorem mag_abs (c:Int):(Dcm.mag c).natAbs=c.natAbs:=by unfold Dcm.mag;split<;>omega
theorem zL1 (c:Int):sgn (Dcm.mag c)= []:=by
 have:=Dcm.zB2 c
 unfold sgn;rw[if_neg (by omega)]
def pad (mi c s:Int):List UInt8:=List.replicate (mi.toNat-(wh c s).length) 48++wh c s
def fr (nf c s:Int):List UInt8:=bh c s++List.replicate (nf.toNat-(bh c s).length) 48
def tail (pt:UInt8) (l:List UInt8):List UInt8:=if l= [] then [] else pt::l
def body (p:Pt) (pt cm:UInt8) (c s:Int):List UInt8:=p.pre++(gout (pad p.mi c s) p.g p.g2 cm++tail pt (fr p.nf c s))++p.suf
def trim (c s:Int):Int×Int:=((Dcm.strip s.toNat c).2,((Dcm.strip s.toNat c).1:Int))
def red (mf c s:Int):Int×Int:=if mf<(trim c s).2 then trim (Dcm.rndC (trim c s).1 (trim c s).2 mf 5) mf else trim c s
def shown (p:Pt) (pt cm:UInt8) (c s:Int):List UInt8:=sgn (red p.mf c s).1++body p pt cm (red p.mf c s).1 (red p.mf c s).2
def sgnL:List UInt8:= [46,44,39,95]
def symB (pt cm:UInt8):Bool:=pt !=cm&&sgnL.contains pt&&sgnL.contains cm
def allE (p:Pt) (pt cm:UInt8):Int:=if patE p≠0 then patE p else if symB pt cm then 0 else 3
def fmtE (p:Pt) (pt cm:UInt8) (c s:Int):Int:=if allE p pt cm≠0 then allE p pt cm else if 0≤s∧s≤9∧ -1000000000000000≤c∧c≤1000000000000000 then 0 else 1
theorem zF7 {p:Pt} (h:patE p=0):affB p.pre=true∧affB p.suf=true∧sizeB p=true∧ ¬(p.g2≠0∧p.g=0):=by
 unfold patE at h
 split at h
 ·rename_i h1
  split at h
  ·rename_i h2
   split at h
   ·omega
   rename_i h3
   exact⟨(Bool.and_eq_true _ _▸h1).1,(Bool.and_eq_true _ _▸h1).2,h2,h3⟩
  omega
 omega
theorem zNp {p:Pt} {pt cm:UInt8} {c s:Int} (h:fmtE p pt cm c s=0):patE p=0∧symB pt cm=true∧okD c s:=by
 unfold fmtE allE at h
 by_cases h1:patE p=0
 ·by_cases h2:symB pt cm=true
  ·by_cases h3:0≤s∧s≤9∧ -1000000000000000≤c∧c≤1000000000000000
   ·exact⟨h1,h2,h3⟩
   simp only[h1,h2,h3,if_false,if_true,ne_eq,not_true_eq_false] at h
   omega
  simp[h1,h2] at h
 simp[h1] at h
theorem zCM (c s:Int) (h:okD c s):okD (trim c s).1 (trim c s).2∧(trim c s).2≤s∧0≤(trim c s).2:=by
 have hl:=Dcm.zDQ s.toNat c
 have hm:=Dcm.zE1 s.toNat c (by unfold okD at h;omega)
 have hp:=Dcm.zAj ((s.toNat:Int)-((Dcm.strip s.toNat c).1:Int))
 unfold okD at*
 unfold trim
 generalize Dcm.strip s.toNat c=q at*
 obtain⟨q1,q2⟩:=q
 simp only at*
 generalize Dcm.P10 ((s.toNat:Int)-(q1:Int))=U at*
 refine⟨⟨by omega,by omega,?_,?_⟩,by omega,by omega⟩
 ·by_cases h0:0≤q2
  ·omega
  have:q2*U≤q2*1:=Int.mul_le_mul_of_nonpos_left (by omega) (by omega)
  omega
 by_cases h0:0≤q2
 ·have:q2*1≤q2*U:=Int.mul_le_mul_of_nonneg_left (by omega) h0
  omega
 omega
theorem zL2 (a b:List UInt8):trimPrefix (a++b) a=b:=by
 unfold trimPrefix hasPrefix
 rw[if_pos (List.isPrefixOf_iff_prefix.2 (List.prefix_append a b))]
 simp
theorem zF8 {l:List UInt8} (h:(45:UInt8)∉l):hasPrefix l [45]=false:=by
 unfold hasPrefix
 rw[Bool.eq_false_iff]
 intro e
 obtain⟨t,rfl⟩:=List.isPrefixOf_iff_prefix.1 e
 exact h (by simp)
theorem zDW (mf c s:Int) (h:okD c s) (m0:0≤mf) (m1:mf≤6):okD (red mf c s).1 (red mf c s).2∧(red mf c s).2≤mf∧((red mf c s).2=0∨(red mf c s).1%10≠0):=by
 have ends: ∀c s,(trim c s).2=0∨(trim c s).1%10≠0:=fun c s=>by
  rcases Dcm.zE0 s.toNat c with e|e
  ·exact .inl (by unfold trim;simp only;omega)
  exact .inr e
 obtain⟨h1,h2,h3⟩:=zCM c s h
 unfold red
 split
 ·rename_i hlt
  have hr:okD (Dcm.rndC (trim c s).1 (trim c s).2 mf 5) mf:=by
   have:=Dcm.zD8 (trim c s).1 (trim c s).2 mf 5 h1.2.2 h1.2.1 m0 hlt (by omega) (by omega)
   exact⟨m0,by omega,by omega,by omega⟩
  obtain⟨g1,g2,g3⟩:=zCM _ _ hr
  exact⟨g1,g2,ends _ _⟩
 rename_i hlt
 exact⟨h1,by omega,ends _ _⟩
theorem zEe (a b:Int):trimPrefix (sgn a++wh a b) [45]=wh a b∧hasPrefix (sgn a++wh a b) [45]=decide (a<0):=by
 have mB:(45:UInt8)∉wh a b:=fun hm=>by have:=zF5 a b 45 hm;revert this;decide
 unfold sgn
 split
 ·rename_i h
  exact⟨zL2 _ _,by rw[decide_eq_true h];exact List.isPrefixOf_iff_prefix.2 (List.prefix_append _ _)⟩
 rename_i h
 rw[List.nil_append]
 exact⟨by unfold trimPrefix;rw[zF8 mB,if_neg (by simp)],by rw[zF8 mB,decide_eq_false h]⟩
theorem zNP {l:List UInt8} (h:AllDig l) (hn:l≠ []):digB l=true:=by
 unfold digB
 rw[Bool.and_eq_true,List.all_eq_true]
 refine⟨fun x hx=>?_,by simpa using hn⟩
 have:=h x hx
 have e:x=UInt8.ofNat x.toNat:=by simp
 have hk: ∀k:Nat,48≤k→k≤57→NUM.contains (UInt8.ofNat k)=true:=by
  intro k h1 h2
  have:k=48∨k=49∨k=50∨k=51∨k=52∨k=53∨k=54∨k=55∨k=56∨k=57:=by omega
  rcases this with rfl|rfl|rfl|rfl|rfl|rfl|rfl|rfl|rfl|rfl<;>decide
 rw[e];exact hk _ this.1 this.2
end Go.Proofs.YtjlchookakbomaaGreatDoor.Nt
namespace Go.Proofs.YtjlchookakbomaaGreatDoor
open Go.RowKit
theorem zF9 (x:UInt8):decide (Lib.indexByte Nt.sgnL x<0)=!Nt.sgnL.contains x:=by
 by_cases h1:x=46
 ·subst h1;decide
 by_cases h2:x=44
 ·subst h2;decide
 by_cases h3:x=39
 ·subst h3;decide
 by_cases h4:x=95
 ·subst h4;decide
 have b: ∀y:UInt8,x≠y→(y==x)=false:=fun y h=>beq_eq_false_iff_ne.2 fun e=>h e.symm
 simp[Nt.sgnL,Lib.indexByte,b _ h1,b _ h2,b _ h3,b _ h4,h1,h2,h3,h4]
theorem zE9 (x:UInt8) (w:World):Calls Tryz.prog 84 #[.string ⟨#[46,44,39,95]⟩,.int .u8 (x.toNat:Int)] w fun e w'=>e= .returned (.int .i64 (Lib.indexByte Nt.sgnL x))∧w'=w:=by
 have h:= Tryz.strings_IndexByte ⟨#[46,44,39,95]⟩ (x.toNat:Int) w
 rw[show((x.toNat:Int).toNat.toUInt8)=x by simp] at h
 exact h
theorem zKq (x y:UInt8):((x.toNat:Int)==(y.toNat:Int))=(x==y):=by
 rw[Bool.eq_iff_iff,beq_iff_eq,beq_iff_eq]
 constructor
 ·intro h;exact UInt8.toNat.inj (by omega)
 rintro rfl;rfl

theorem zL3 (pt cm:UInt8) (w:World):
  Calls Tryz.prog 134 #[.agg #[.int .u8 (pt.toNat:Int),.int .u8 (cm.toNat:Int)]] w fun e w'=>e= .returned (errN (if Nt.symB pt cm then 0 else 3))∧Below w.heap.size w w':=by
 have CP:=lH fun w=>zE9 pt w
 have CC:=lH fun w=>zE9 cm w
 have hb:=zKq pt cm
 have n1:=zF9 pt
 have n2:=zF9 cm
 have hs:Nt.symB pt cm=(!(pt==cm)&&Nt.sgnL.contains pt&&Nt.sgnL.contains cm):=rfl
 rw[hs]
 clear hs
 generalize (pt==cm)=E at*
 generalize Nt.sgnL.contains pt=A at*
 generalize Nt.sgnL.contains cm=B at*
 generalize (pt.toNat:Int)=p at*
 generalize (cm.toNat:Int)=q at*
 generalize Lib.indexByte Nt.sgnL pt=i at*
 generalize Lib.indexByte Nt.sgnL cm=j at*
 have W0:=lH (bA w (.cells #[.int .u8 p,.int .u8 q] 125))
 cases E<;>cases A<;>cases B<;>simp only[Bool.not_true,Bool.not_false,Bool.and_true,Bool.and_false,if_true,if_false,Bool.false_eq_true] at* <;>clear pt cm
 all_goals
  go_enter Tryz.func134,Tryz.ntmps134
  go_wp2_with fail
  try(refine(CP.out _).mono ?_;rintro e w' ⟨rfl,rfl⟩;go_wp2_with fail)
  try(refine(CC.out _).mono ?_;rintro e w' ⟨rfl,rfl⟩;go_wp2_with fail)
  go_ret
  exact⟨rfl,W0.out⟩
def pV (p:Nt.Pt):Value:= .agg #[.string ⟨p.pre.toArray⟩,.string ⟨p.suf.toArray⟩,.int .i64 p.mi,.int .i64 p.nf,.int .i64 p.mf,.int .i64 p.g,.int .i64 p.g2]

theorem zHv (p:Nt.Pt) (pt cm:UInt8) (w:World) (h1:p.pre.length≤1000000000) (h2:p.suf.length≤1000000000):
  Calls Tryz.prog 85 #[pV p,.agg #[.int .u8 (pt.toNat:Int),.int .u8 (cm.toNat:Int)]] w fun e w'=>e= .returned (errN (Nt.allE p pt cm))∧Below w.heap.size w w':=by
 have CP:=lH fun w=>zLY p w h1 h2
 have CC:=lH fun w=>zL3 pt cm w
 unfold Nt.allE
 generalize hE:Nt.patE p=E at*
 clear hE
 generalize (if Nt.symB pt cm then (0:Int) else 3)=F at*
 unfold pV
 obtain⟨pre,suf,mi,nf,mf,g,g2⟩:=p
 simp only at*
 generalize (pt.toNat:Int)=a at*
 generalize (cm.toNat:Int)=b at*
 clear pt cm h1 h2
 have W0:=lH (bT (bA w (.cells #[.string ⟨pre.toArray⟩,.string ⟨suf.toArray⟩,.int .i64 mi,.int .i64 nf,.int .i64 mf,.int .i64 g,.int .i64 g2] 123)) (bA _ (.cells #[.int .u8 a,.int .u8 b] 125)))
 have Y0:=lH (Boxed.at (q:=w.heap.size+1) (Boxed.made (w.alloc (.cells #[.string ⟨pre.toArray⟩,.string ⟨suf.toArray⟩,.int .i64 mi,.int .i64 nf,.int .i64 mf,.int .i64 g,.int .i64 g2] 123)) #[.int .u8 a,.int .u8 b] 125) (by simp))
 by_cases h0:E=0
 ·subst h0
  rw[show errN 0= .nilIface from rfl] at CP
  rw[if_neg (by simp)]
  go_enter Tryz.func85,Tryz.ntmps85
  go_wp2_with fail
  refine(CP.out _).mono ?_
  rintro e w1 ⟨rfl,hb⟩
  have W1:=lH (bT W0.out hb)
  have Y1:=lH (Y0.out.below hb)
  clear hb CP W0 Y0
  have y0:=Y1.out.cell 0 _ rfl
  have y1:=Y1.out.cell 1 _ rfl
  go_wp2_with fail
  refine(CC.out _).mono ?_
  rintro e w2 ⟨rfl,hb⟩
  have W2:=lH (bT W1.out hb)
  clear hb CC W1 Y1 y0 y1
  go_wp2_with fail
  go_ret
  exact⟨rfl,W2.out⟩
 rw[show errN E=errV E from if_neg h0] at CP
 rw[if_pos h0,show errN E=errV E from if_neg h0]
 go_enter Tryz.func85,Tryz.ntmps85
 go_wp2_with fail
 refine(CP.out _).mono ?_
 rintro e w1 ⟨rfl,hb⟩
 have W1:=lH (bT W0.out hb)
 clear hb CP W0 Y0
 go_wp2_with fail
 go_ret
 exact⟨rfl,W1.out⟩
open Go.RowKit
structure Bx (w0:World) (pv yv:Array Value) (c s:Value) (w:World):Prop where
 b:Below w0.heap.size w0 w
 p:Boxed w w0.heap.size pv
 y:Boxed w (w0.heap.size+1) yv
 d:Boxed w (w0.heap.size+2) #[c,s]
theorem Bx.made (w0:World) (pv yv:Array Value) (c s:Value) (t1 t2 t3:TypeId):Bx w0 pv yv c s (((w0.alloc (.cells pv t1)).alloc (.cells yv t2)).alloc (.cells #[c,s] t3)):=
 ⟨bT (bT (bA _ _) (bA _ _)) (bA _ _),((Boxed.made w0 pv t1).alloc _).alloc _,((Boxed.made _ yv t2).alloc _).at (by simp),(Boxed.made _ _ t3).at (by simp)⟩
theorem Bx.below {w0 w w':World} {pv yv:Array Value} {c s:Value} (h:Bx w0 pv yv c s w) (hb:Below w.heap.size w w'):Bx w0 pv yv c s w':=
 ⟨bT h.b hb,h.p.below hb,h.y.below hb,h.d.below hb⟩
theorem Bx.alloc {w0 w:World} {pv yv:Array Value} {c s:Value} (h:Bx w0 pv yv c s w) (o:Obj):Bx w0 pv yv c s (w.alloc o):=h.below (bA w o)
theorem Bx.drewN {w0 w:World} {pv yv:Array Value} {c s:Value} (h:Bx w0 pv yv c s w) (n:Nat):Bx w0 pv yv c s (w.drewN n):=⟨zAb h.b n,h.p.drewN n,h.y.drewN n,h.d.drewN n⟩
theorem Bx.store {w0 w:World} {pv yv:Array Value} {c s:Value} (h:Bx w0 pv yv c s w) (x z:Value):Bx w0 pv yv x z ((w.setCell ⟨w0.heap.size+2,0,none⟩ x).setCell ⟨w0.heap.size+2,1,none⟩ z):=
 ⟨Below.setCell (Below.setCell h.b (by simp) x) (by simp) z,
  (h.p.far (q:=w0.heap.size+2) (by omega) 0 x).far (q:=w0.heap.size+2) (by omega) 1 z,
  (h.y.far (q:=w0.heap.size+2) (by omega) 0 x).far (q:=w0.heap.size+2) (by omega) 1 z,
  (h.d.set 0 x (by simp)).set 1 z (by simp)⟩
theorem Bx.lt {w0 w:World} {pv yv:Array Value} {c s:Value} (h:Bx w0 pv yv c s w):w0.heap.size+2<w.heap.size:=h.d.lt
end Go.Proofs.YtjlchookakbomaaGreatDoor
