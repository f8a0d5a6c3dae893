/- One sign for another: the plain law. No program. -/
import Derived.Test.YtldbfkccieipjaaGreatDoorEf13
import Derived.Test.YtldbfkccieipjaaGreatDoorShelfU
import Derived.Test.YtldbfkccieipjaaGreatDoorEf0
namespace Go.Proofs.YtldbfkccieipjaaGreatDoor
set_option maxRecDepth 100000
open Go.RowKit
set_option maxHeartbeats 2000000 in
theorem pck_a (pre suf:List UInt8) (mi nf mf g g2:Int) (w:World) (C1:Hid (∀w:World,Calls Tryz.prog 227 #[.string ⟨pre.toArray⟩] w fun e w'=>e= .returned (.bool false)∧Below w.heap.size w w')):
  Calls Tryz.prog 211 #[.agg #[.string ⟨pre.toArray⟩,.string ⟨suf.toArray⟩,.int .i64 mi,.int .i64 nf,.int .i64 mf,.int .i64 g,.int .i64 g2]] w fun e w'=>e= .returned (errV 3)∧Below w.heap.size w w':=by
 have W0:=Lib.hid (blw_alloc w (.cells #[.string ⟨pre.toArray⟩,.string ⟨suf.toArray⟩,.int .i64 mi,.int .i64 nf,.int .i64 mf,.int .i64 g,.int .i64 g2] 81))
 have B0:=Lib.hid (Boxed.made w #[.string ⟨pre.toArray⟩,.string ⟨suf.toArray⟩,.int .i64 mi,.int .i64 nf,.int .i64 mf,.int .i64 g,.int .i64 g2] 81)
 go_enter Tryz.func211,Tryz.ntmps211
 go_wp2_with fail
 refine(C1.out _).mono ?_
 rintro e w1 ⟨rfl,hb⟩
 have W1:=Lib.hid (blw_trans W0.out hb)
 have B1:=Lib.hid (B0.out.below hb)
 clear hb W0 B0
 have c0:=B1.out.cell 0 _ rfl
 have c1:=B1.out.cell 1 _ rfl
 have c2:=B1.out.cell 2 _ rfl
 have c3:=B1.out.cell 3 _ rfl
 have c4:=B1.out.cell 4 _ rfl
 have c5:=B1.out.cell 5 _ rfl
 have c6:=B1.out.cell 6 _ rfl
 have cl:=B1.out.lt
 go_wp2_with fail
 go_ret
 exact⟨rfl,W1.out⟩
set_option maxHeartbeats 2000000 in
theorem pck_b (pre suf:List UInt8) (mi nf mf g g2:Int) (w:World) (C1:Hid (∀w:World,Calls Tryz.prog 227 #[.string ⟨pre.toArray⟩] w fun e w'=>e= .returned (.bool true)∧Below w.heap.size w w')) (C2:Hid (∀w:World,Calls Tryz.prog 227 #[.string ⟨suf.toArray⟩] w fun e w'=>e= .returned (.bool false)∧Below w.heap.size w w')):
  Calls Tryz.prog 211 #[.agg #[.string ⟨pre.toArray⟩,.string ⟨suf.toArray⟩,.int .i64 mi,.int .i64 nf,.int .i64 mf,.int .i64 g,.int .i64 g2]] w fun e w'=>e= .returned (errV 3)∧Below w.heap.size w w':=by
 have W0:=Lib.hid (blw_alloc w (.cells #[.string ⟨pre.toArray⟩,.string ⟨suf.toArray⟩,.int .i64 mi,.int .i64 nf,.int .i64 mf,.int .i64 g,.int .i64 g2] 81))
 have B0:=Lib.hid (Boxed.made w #[.string ⟨pre.toArray⟩,.string ⟨suf.toArray⟩,.int .i64 mi,.int .i64 nf,.int .i64 mf,.int .i64 g,.int .i64 g2] 81)
 go_enter Tryz.func211,Tryz.ntmps211
 go_wp2_with fail
 refine(C1.out _).mono ?_
 rintro e w1 ⟨rfl,hb⟩
 have W1:=Lib.hid (blw_trans W0.out hb)
 have B1:=Lib.hid (B0.out.below hb)
 clear hb W0 B0
 have c0:=B1.out.cell 0 _ rfl
 have c1:=B1.out.cell 1 _ rfl
 have c2:=B1.out.cell 2 _ rfl
 have c3:=B1.out.cell 3 _ rfl
 have c4:=B1.out.cell 4 _ rfl
 have c5:=B1.out.cell 5 _ rfl
 have c6:=B1.out.cell 6 _ rfl
 have cl:=B1.out.lt
 go_wp2_with fail
 refine(C2.out _).mono ?_
 rintro e w2 ⟨rfl,hb⟩
 have W2:=Lib.hid (blw_trans W1.out hb)
 have B2:=Lib.hid (B1.out.below hb)
 clear hb W1 B1 c0 c1 c2 c3 c4 c5 c6 cl
 have c0:=B2.out.cell 0 _ rfl
 have c1:=B2.out.cell 1 _ rfl
 have c2:=B2.out.cell 2 _ rfl
 have c3:=B2.out.cell 3 _ rfl
 have c4:=B2.out.cell 4 _ rfl
 have c5:=B2.out.cell 5 _ rfl
 have c6:=B2.out.cell 6 _ rfl
 have cl:=B2.out.lt
 go_wp2_with fail
 go_ret
 exact⟨rfl,W2.out⟩
set_option maxHeartbeats 2000000 in
theorem pck_s0 (pre suf:List UInt8) (mi nf mf g g2:Int) (w:World) (C1:Hid (∀w:World,Calls Tryz.prog 227 #[.string ⟨pre.toArray⟩] w fun e w'=>e= .returned (.bool true)∧Below w.heap.size w w')) (C2:Hid (∀w:World,Calls Tryz.prog 227 #[.string ⟨suf.toArray⟩] w fun e w'=>e= .returned (.bool true)∧Below w.heap.size w w')) (h0:mi<1):
  Calls Tryz.prog 211 #[.agg #[.string ⟨pre.toArray⟩,.string ⟨suf.toArray⟩,.int .i64 mi,.int .i64 nf,.int .i64 mf,.int .i64 g,.int .i64 g2]] w fun e w'=>e= .returned (errV 1)∧Below w.heap.size w w':=by
 have d0:decide (mi<1)=true:=dec_yes (by omega)
 have W0:=Lib.hid (blw_alloc w (.cells #[.string ⟨pre.toArray⟩,.string ⟨suf.toArray⟩,.int .i64 mi,.int .i64 nf,.int .i64 mf,.int .i64 g,.int .i64 g2] 81))
 have B0:=Lib.hid (Boxed.made w #[.string ⟨pre.toArray⟩,.string ⟨suf.toArray⟩,.int .i64 mi,.int .i64 nf,.int .i64 mf,.int .i64 g,.int .i64 g2] 81)
 go_enter Tryz.func211,Tryz.ntmps211
 go_wp2_with fail
 refine(C1.out _).mono ?_
 rintro e w1 ⟨rfl,hb⟩
 have W1:=Lib.hid (blw_trans W0.out hb)
 have B1:=Lib.hid (B0.out.below hb)
 clear hb W0 B0
 have c0:=B1.out.cell 0 _ rfl
 have c1:=B1.out.cell 1 _ rfl
 have c2:=B1.out.cell 2 _ rfl
 have c3:=B1.out.cell 3 _ rfl
 have c4:=B1.out.cell 4 _ rfl
 have c5:=B1.out.cell 5 _ rfl
 have c6:=B1.out.cell 6 _ rfl
 have cl:=B1.out.lt
 go_wp2_with fail
 refine(C2.out _).mono ?_
 rintro e w2 ⟨rfl,hb⟩
 have W2:=Lib.hid (blw_trans W1.out hb)
 have B2:=Lib.hid (B1.out.below hb)
 clear hb W1 B1 c0 c1 c2 c3 c4 c5 c6 cl
 have c0:=B2.out.cell 0 _ rfl
 have c1:=B2.out.cell 1 _ rfl
 have c2:=B2.out.cell 2 _ rfl
 have c3:=B2.out.cell 3 _ rfl
 have c4:=B2.out.cell 4 _ rfl
 have c5:=B2.out.cell 5 _ rfl
 have c6:=B2.out.cell 6 _ rfl
 have cl:=B2.out.lt
 go_wp2_with fail
 go_ret
 exact⟨rfl,W2.out⟩
set_option maxHeartbeats 2000000 in
theorem pck_s1 (pre suf:List UInt8) (mi nf mf g g2:Int) (w:World) (C1:Hid (∀w:World,Calls Tryz.prog 227 #[.string ⟨pre.toArray⟩] w fun e w'=>e= .returned (.bool true)∧Below w.heap.size w w')) (C2:Hid (∀w:World,Calls Tryz.prog 227 #[.string ⟨suf.toArray⟩] w fun e w'=>e= .returned (.bool true)∧Below w.heap.size w w')) (h0: ¬mi<1) (h1:9<mi):
  Calls Tryz.prog 211 #[.agg #[.string ⟨pre.toArray⟩,.string ⟨suf.toArray⟩,.int .i64 mi,.int .i64 nf,.int .i64 mf,.int .i64 g,.int .i64 g2]] w fun e w'=>e= .returned (errV 1)∧Below w.heap.size w w':=by
 have d0:decide (mi<1)=false:=dec_no (by omega)
 have d1:decide (9<mi)=true:=dec_yes (by omega)
 have W0:=Lib.hid (blw_alloc w (.cells #[.string ⟨pre.toArray⟩,.string ⟨suf.toArray⟩,.int .i64 mi,.int .i64 nf,.int .i64 mf,.int .i64 g,.int .i64 g2] 81))
 have B0:=Lib.hid (Boxed.made w #[.string ⟨pre.toArray⟩,.string ⟨suf.toArray⟩,.int .i64 mi,.int .i64 nf,.int .i64 mf,.int .i64 g,.int .i64 g2] 81)
 go_enter Tryz.func211,Tryz.ntmps211
 go_wp2_with fail
 refine(C1.out _).mono ?_
 rintro e w1 ⟨rfl,hb⟩
 have W1:=Lib.hid (blw_trans W0.out hb)
 have B1:=Lib.hid (B0.out.below hb)
 clear hb W0 B0
 have c0:=B1.out.cell 0 _ rfl
 have c1:=B1.out.cell 1 _ rfl
 have c2:=B1.out.cell 2 _ rfl
 have c3:=B1.out.cell 3 _ rfl
 have c4:=B1.out.cell 4 _ rfl
 have c5:=B1.out.cell 5 _ rfl
 have c6:=B1.out.cell 6 _ rfl
 have cl:=B1.out.lt
 go_wp2_with fail
 refine(C2.out _).mono ?_
 rintro e w2 ⟨rfl,hb⟩
 have W2:=Lib.hid (blw_trans W1.out hb)
 have B2:=Lib.hid (B1.out.below hb)
 clear hb W1 B1 c0 c1 c2 c3 c4 c5 c6 cl
 have c0:=B2.out.cell 0 _ rfl
 have c1:=B2.out.cell 1 _ rfl
 have c2:=B2.out.cell 2 _ rfl
 have c3:=B2.out.cell 3 _ rfl
 have c4:=B2.out.cell 4 _ rfl
 have c5:=B2.out.cell 5 _ rfl
 have c6:=B2.out.cell 6 _ rfl
 have cl:=B2.out.lt
 go_wp2_with fail
 go_ret
 exact⟨rfl,W2.out⟩
set_option maxHeartbeats 2000000 in
theorem pck_s2 (pre suf:List UInt8) (mi nf mf g g2:Int) (w:World) (C1:Hid (∀w:World,Calls Tryz.prog 227 #[.string ⟨pre.toArray⟩] w fun e w'=>e= .returned (.bool true)∧Below w.heap.size w w')) (C2:Hid (∀w:World,Calls Tryz.prog 227 #[.string ⟨suf.toArray⟩] w fun e w'=>e= .returned (.bool true)∧Below w.heap.size w w')) (h0: ¬mi<1) (h1: ¬9<mi) (h2:mf<0):
  Calls Tryz.prog 211 #[.agg #[.string ⟨pre.toArray⟩,.string ⟨suf.toArray⟩,.int .i64 mi,.int .i64 nf,.int .i64 mf,.int .i64 g,.int .i64 g2]] w fun e w'=>e= .returned (errV 1)∧Below w.heap.size w w':=by
 have d0:decide (mi<1)=false:=dec_no (by omega)
 have d1:decide (9<mi)=false:=dec_no (by omega)
 have d2:decide (mf<0)=true:=dec_yes (by omega)
 have W0:=Lib.hid (blw_alloc w (.cells #[.string ⟨pre.toArray⟩,.string ⟨suf.toArray⟩,.int .i64 mi,.int .i64 nf,.int .i64 mf,.int .i64 g,.int .i64 g2] 81))
 have B0:=Lib.hid (Boxed.made w #[.string ⟨pre.toArray⟩,.string ⟨suf.toArray⟩,.int .i64 mi,.int .i64 nf,.int .i64 mf,.int .i64 g,.int .i64 g2] 81)
 go_enter Tryz.func211,Tryz.ntmps211
 go_wp2_with fail
 refine(C1.out _).mono ?_
 rintro e w1 ⟨rfl,hb⟩
 have W1:=Lib.hid (blw_trans W0.out hb)
 have B1:=Lib.hid (B0.out.below hb)
 clear hb W0 B0
 have c0:=B1.out.cell 0 _ rfl
 have c1:=B1.out.cell 1 _ rfl
 have c2:=B1.out.cell 2 _ rfl
 have c3:=B1.out.cell 3 _ rfl
 have c4:=B1.out.cell 4 _ rfl
 have c5:=B1.out.cell 5 _ rfl
 have c6:=B1.out.cell 6 _ rfl
 have cl:=B1.out.lt
 go_wp2_with fail
 refine(C2.out _).mono ?_
 rintro e w2 ⟨rfl,hb⟩
 have W2:=Lib.hid (blw_trans W1.out hb)
 have B2:=Lib.hid (B1.out.below hb)
 clear hb W1 B1 c0 c1 c2 c3 c4 c5 c6 cl
 have c0:=B2.out.cell 0 _ rfl
 have c1:=B2.out.cell 1 _ rfl
 have c2:=B2.out.cell 2 _ rfl
 have c3:=B2.out.cell 3 _ rfl
 have c4:=B2.out.cell 4 _ rfl
 have c5:=B2.out.cell 5 _ rfl
 have c6:=B2.out.cell 6 _ rfl
 have cl:=B2.out.lt
 go_wp2_with fail
 go_ret
 exact⟨rfl,W2.out⟩
set_option maxHeartbeats 2000000 in
theorem pck_s3 (pre suf:List UInt8) (mi nf mf g g2:Int) (w:World) (C1:Hid (∀w:World,Calls Tryz.prog 227 #[.string ⟨pre.toArray⟩] w fun e w'=>e= .returned (.bool true)∧Below w.heap.size w w')) (C2:Hid (∀w:World,Calls Tryz.prog 227 #[.string ⟨suf.toArray⟩] w fun e w'=>e= .returned (.bool true)∧Below w.heap.size w w')) (h0: ¬mi<1) (h1: ¬9<mi) (h2: ¬mf<0) (h3:6<mf):
  Calls Tryz.prog 211 #[.agg #[.string ⟨pre.toArray⟩,.string ⟨suf.toArray⟩,.int .i64 mi,.int .i64 nf,.int .i64 mf,.int .i64 g,.int .i64 g2]] w fun e w'=>e= .returned (errV 1)∧Below w.heap.size w w':=by
 have d0:decide (mi<1)=false:=dec_no (by omega)
 have d1:decide (9<mi)=false:=dec_no (by omega)
 have d2:decide (mf<0)=false:=dec_no (by omega)
 have d3:decide (6<mf)=true:=dec_yes (by omega)
 have W0:=Lib.hid (blw_alloc w (.cells #[.string ⟨pre.toArray⟩,.string ⟨suf.toArray⟩,.int .i64 mi,.int .i64 nf,.int .i64 mf,.int .i64 g,.int .i64 g2] 81))
 have B0:=Lib.hid (Boxed.made w #[.string ⟨pre.toArray⟩,.string ⟨suf.toArray⟩,.int .i64 mi,.int .i64 nf,.int .i64 mf,.int .i64 g,.int .i64 g2] 81)
 go_enter Tryz.func211,Tryz.ntmps211
 go_wp2_with fail
 refine(C1.out _).mono ?_
 rintro e w1 ⟨rfl,hb⟩
 have W1:=Lib.hid (blw_trans W0.out hb)
 have B1:=Lib.hid (B0.out.below hb)
 clear hb W0 B0
 have c0:=B1.out.cell 0 _ rfl
 have c1:=B1.out.cell 1 _ rfl
 have c2:=B1.out.cell 2 _ rfl
 have c3:=B1.out.cell 3 _ rfl
 have c4:=B1.out.cell 4 _ rfl
 have c5:=B1.out.cell 5 _ rfl
 have c6:=B1.out.cell 6 _ rfl
 have cl:=B1.out.lt
 go_wp2_with fail
 refine(C2.out _).mono ?_
 rintro e w2 ⟨rfl,hb⟩
 have W2:=Lib.hid (blw_trans W1.out hb)
 have B2:=Lib.hid (B1.out.below hb)
 clear hb W1 B1 c0 c1 c2 c3 c4 c5 c6 cl
 have c0:=B2.out.cell 0 _ rfl
 have c1:=B2.out.cell 1 _ rfl
 have c2:=B2.out.cell 2 _ rfl
 have c3:=B2.out.cell 3 _ rfl
 have c4:=B2.out.cell 4 _ rfl
 have c5:=B2.out.cell 5 _ rfl
 have c6:=B2.out.cell 6 _ rfl
 have cl:=B2.out.lt
 go_wp2_with fail
 go_ret
 exact⟨rfl,W2.out⟩
set_option maxHeartbeats 2000000 in
theorem pck_s4 (pre suf:List UInt8) (mi nf mf g g2:Int) (w:World) (C1:Hid (∀w:World,Calls Tryz.prog 227 #[.string ⟨pre.toArray⟩] w fun e w'=>e= .returned (.bool true)∧Below w.heap.size w w')) (C2:Hid (∀w:World,Calls Tryz.prog 227 #[.string ⟨suf.toArray⟩] w fun e w'=>e= .returned (.bool true)∧Below w.heap.size w w')) (h0: ¬mi<1) (h1: ¬9<mi) (h2: ¬mf<0) (h3: ¬6<mf) (h4:nf<0):
  Calls Tryz.prog 211 #[.agg #[.string ⟨pre.toArray⟩,.string ⟨suf.toArray⟩,.int .i64 mi,.int .i64 nf,.int .i64 mf,.int .i64 g,.int .i64 g2]] w fun e w'=>e= .returned (errV 1)∧Below w.heap.size w w':=by
 have d0:decide (mi<1)=false:=dec_no (by omega)
 have d1:decide (9<mi)=false:=dec_no (by omega)
 have d2:decide (mf<0)=false:=dec_no (by omega)
 have d3:decide (6<mf)=false:=dec_no (by omega)
 have d4:decide (nf<0)=true:=dec_yes (by omega)
 have W0:=Lib.hid (blw_alloc w (.cells #[.string ⟨pre.toArray⟩,.string ⟨suf.toArray⟩,.int .i64 mi,.int .i64 nf,.int .i64 mf,.int .i64 g,.int .i64 g2] 81))
 have B0:=Lib.hid (Boxed.made w #[.string ⟨pre.toArray⟩,.string ⟨suf.toArray⟩,.int .i64 mi,.int .i64 nf,.int .i64 mf,.int .i64 g,.int .i64 g2] 81)
 go_enter Tryz.func211,Tryz.ntmps211
 go_wp2_with fail
 refine(C1.out _).mono ?_
 rintro e w1 ⟨rfl,hb⟩
 have W1:=Lib.hid (blw_trans W0.out hb)
 have B1:=Lib.hid (B0.out.below hb)
 clear hb W0 B0
 have c0:=B1.out.cell 0 _ rfl
 have c1:=B1.out.cell 1 _ rfl
 have c2:=B1.out.cell 2 _ rfl
 have c3:=B1.out.cell 3 _ rfl
 have c4:=B1.out.cell 4 _ rfl
 have c5:=B1.out.cell 5 _ rfl
 have c6:=B1.out.cell 6 _ rfl
 have cl:=B1.out.lt
 go_wp2_with fail
 refine(C2.out _).mono ?_
 rintro e w2 ⟨rfl,hb⟩
 have W2:=Lib.hid (blw_trans W1.out hb)
 have B2:=Lib.hid (B1.out.below hb)
 clear hb W1 B1 c0 c1 c2 c3 c4 c5 c6 cl
 have c0:=B2.out.cell 0 _ rfl
 have c1:=B2.out.cell 1 _ rfl
 have c2:=B2.out.cell 2 _ rfl
 have c3:=B2.out.cell 3 _ rfl
 have c4:=B2.out.cell 4 _ rfl
 have c5:=B2.out.cell 5 _ rfl
 have c6:=B2.out.cell 6 _ rfl
 have cl:=B2.out.lt
 go_wp2_with fail
 go_ret
 exact⟨rfl,W2.out⟩
set_option maxHeartbeats 2000000 in
theorem pck_s5 (pre suf:List UInt8) (mi nf mf g g2:Int) (w:World) (C1:Hid (∀w:World,Calls Tryz.prog 227 #[.string ⟨pre.toArray⟩] w fun e w'=>e= .returned (.bool true)∧Below w.heap.size w w')) (C2:Hid (∀w:World,Calls Tryz.prog 227 #[.string ⟨suf.toArray⟩] w fun e w'=>e= .returned (.bool true)∧Below w.heap.size w w')) (h0: ¬mi<1) (h1: ¬9<mi) (h2: ¬mf<0) (h3: ¬6<mf) (h4: ¬nf<0) (h5:mf<nf):
  Calls Tryz.prog 211 #[.agg #[.string ⟨pre.toArray⟩,.string ⟨suf.toArray⟩,.int .i64 mi,.int .i64 nf,.int .i64 mf,.int .i64 g,.int .i64 g2]] w fun e w'=>e= .returned (errV 1)∧Below w.heap.size w w':=by
 have d0:decide (mi<1)=false:=dec_no (by omega)
 have d1:decide (9<mi)=false:=dec_no (by omega)
 have d2:decide (mf<0)=false:=dec_no (by omega)
 have d3:decide (6<mf)=false:=dec_no (by omega)
 have d4:decide (nf<0)=false:=dec_no (by omega)
 have d5:decide (mf<nf)=true:=dec_yes (by omega)
 have W0:=Lib.hid (blw_alloc w (.cells #[.string ⟨pre.toArray⟩,.string ⟨suf.toArray⟩,.int .i64 mi,.int .i64 nf,.int .i64 mf,.int .i64 g,.int .i64 g2] 81))
 have B0:=Lib.hid (Boxed.made w #[.string ⟨pre.toArray⟩,.string ⟨suf.toArray⟩,.int .i64 mi,.int .i64 nf,.int .i64 mf,.int .i64 g,.int .i64 g2] 81)
 go_enter Tryz.func211,Tryz.ntmps211
 go_wp2_with fail
 refine(C1.out _).mono ?_
 rintro e w1 ⟨rfl,hb⟩
 have W1:=Lib.hid (blw_trans W0.out hb)
 have B1:=Lib.hid (B0.out.below hb)
 clear hb W0 B0
 have c0:=B1.out.cell 0 _ rfl
 have c1:=B1.out.cell 1 _ rfl
 have c2:=B1.out.cell 2 _ rfl
 have c3:=B1.out.cell 3 _ rfl
 have c4:=B1.out.cell 4 _ rfl
 have c5:=B1.out.cell 5 _ rfl
 have c6:=B1.out.cell 6 _ rfl
 have cl:=B1.out.lt
 go_wp2_with fail
 refine(C2.out _).mono ?_
 rintro e w2 ⟨rfl,hb⟩
 have W2:=Lib.hid (blw_trans W1.out hb)
 have B2:=Lib.hid (B1.out.below hb)
 clear hb W1 B1 c0 c1 c2 c3 c4 c5 c6 cl
 have c0:=B2.out.cell 0 _ rfl
 have c1:=B2.out.cell 1 _ rfl
 have c2:=B2.out.cell 2 _ rfl
 have c3:=B2.out.cell 3 _ rfl
 have c4:=B2.out.cell 4 _ rfl
 have c5:=B2.out.cell 5 _ rfl
 have c6:=B2.out.cell 6 _ rfl
 have cl:=B2.out.lt
 go_wp2_with fail
 go_ret
 exact⟨rfl,W2.out⟩
set_option maxHeartbeats 2000000 in
theorem pck_s6 (pre suf:List UInt8) (mi nf mf g g2:Int) (w:World) (C1:Hid (∀w:World,Calls Tryz.prog 227 #[.string ⟨pre.toArray⟩] w fun e w'=>e= .returned (.bool true)∧Below w.heap.size w w')) (C2:Hid (∀w:World,Calls Tryz.prog 227 #[.string ⟨suf.toArray⟩] w fun e w'=>e= .returned (.bool true)∧Below w.heap.size w w')) (h0: ¬mi<1) (h1: ¬9<mi) (h2: ¬mf<0) (h3: ¬6<mf) (h4: ¬nf<0) (h5: ¬mf<nf) (h6:g<0):
  Calls Tryz.prog 211 #[.agg #[.string ⟨pre.toArray⟩,.string ⟨suf.toArray⟩,.int .i64 mi,.int .i64 nf,.int .i64 mf,.int .i64 g,.int .i64 g2]] w fun e w'=>e= .returned (errV 1)∧Below w.heap.size w w':=by
 have d0:decide (mi<1)=false:=dec_no (by omega)
 have d1:decide (9<mi)=false:=dec_no (by omega)
 have d2:decide (mf<0)=false:=dec_no (by omega)
 have d3:decide (6<mf)=false:=dec_no (by omega)
 have d4:decide (nf<0)=false:=dec_no (by omega)
 have d5:decide (mf<nf)=false:=dec_no (by omega)
 have d6:decide (g<0)=true:=dec_yes (by omega)
 have W0:=Lib.hid (blw_alloc w (.cells #[.string ⟨pre.toArray⟩,.string ⟨suf.toArray⟩,.int .i64 mi,.int .i64 nf,.int .i64 mf,.int .i64 g,.int .i64 g2] 81))
 have B0:=Lib.hid (Boxed.made w #[.string ⟨pre.toArray⟩,.string ⟨suf.toArray⟩,.int .i64 mi,.int .i64 nf,.int .i64 mf,.int .i64 g,.int .i64 g2] 81)
 go_enter Tryz.func211,Tryz.ntmps211
 go_wp2_with fail
 refine(C1.out _).mono ?_
 rintro e w1 ⟨rfl,hb⟩
 have W1:=Lib.hid (blw_trans W0.out hb)
 have B1:=Lib.hid (B0.out.below hb)
 clear hb W0 B0
 have c0:=B1.out.cell 0 _ rfl
 have c1:=B1.out.cell 1 _ rfl
 have c2:=B1.out.cell 2 _ rfl
 have c3:=B1.out.cell 3 _ rfl
 have c4:=B1.out.cell 4 _ rfl
 have c5:=B1.out.cell 5 _ rfl
 have c6:=B1.out.cell 6 _ rfl
 have cl:=B1.out.lt
 go_wp2_with fail
 refine(C2.out _).mono ?_
 rintro e w2 ⟨rfl,hb⟩
 have W2:=Lib.hid (blw_trans W1.out hb)
 have B2:=Lib.hid (B1.out.below hb)
 clear hb W1 B1 c0 c1 c2 c3 c4 c5 c6 cl
 have c0:=B2.out.cell 0 _ rfl
 have c1:=B2.out.cell 1 _ rfl
 have c2:=B2.out.cell 2 _ rfl
 have c3:=B2.out.cell 3 _ rfl
 have c4:=B2.out.cell 4 _ rfl
 have c5:=B2.out.cell 5 _ rfl
 have c6:=B2.out.cell 6 _ rfl
 have cl:=B2.out.lt
 go_wp2_with fail
 go_ret
 exact⟨rfl,W2.out⟩
set_option maxHeartbeats 2000000 in
theorem pck_s7 (pre suf:List UInt8) (mi nf mf g g2:Int) (w:World) (C1:Hid (∀w:World,Calls Tryz.prog 227 #[.string ⟨pre.toArray⟩] w fun e w'=>e= .returned (.bool true)∧Below w.heap.size w w')) (C2:Hid (∀w:World,Calls Tryz.prog 227 #[.string ⟨suf.toArray⟩] w fun e w'=>e= .returned (.bool true)∧Below w.heap.size w w')) (h0: ¬mi<1) (h1: ¬9<mi) (h2: ¬mf<0) (h3: ¬6<mf) (h4: ¬nf<0) (h5: ¬mf<nf) (h6: ¬g<0) (h7:4<g):
  Calls Tryz.prog 211 #[.agg #[.string ⟨pre.toArray⟩,.string ⟨suf.toArray⟩,.int .i64 mi,.int .i64 nf,.int .i64 mf,.int .i64 g,.int .i64 g2]] w fun e w'=>e= .returned (errV 1)∧Below w.heap.size w w':=by
 have d0:decide (mi<1)=false:=dec_no (by omega)
 have d1:decide (9<mi)=false:=dec_no (by omega)
 have d2:decide (mf<0)=false:=dec_no (by omega)
 have d3:decide (6<mf)=false:=dec_no (by omega)
 have d4:decide (nf<0)=false:=dec_no (by omega)
 have d5:decide (mf<nf)=false:=dec_no (by omega)
 have d6:decide (g<0)=false:=dec_no (by omega)
 have d7:decide (4<g)=true:=dec_yes (by omega)
 have W0:=Lib.hid (blw_alloc w (.cells #[.string ⟨pre.toArray⟩,.string ⟨suf.toArray⟩,.int .i64 mi,.int .i64 nf,.int .i64 mf,.int .i64 g,.int .i64 g2] 81))
 have B0:=Lib.hid (Boxed.made w #[.string ⟨pre.toArray⟩,.string ⟨suf.toArray⟩,.int .i64 mi,.int .i64 nf,.int .i64 mf,.int .i64 g,.int .i64 g2] 81)
 go_enter Tryz.func211,Tryz.ntmps211
 go_wp2_with fail
 refine(C1.out _).mono ?_
 rintro e w1 ⟨rfl,hb⟩
 have W1:=Lib.hid (blw_trans W0.out hb)
 have B1:=Lib.hid (B0.out.below hb)
 clear hb W0 B0
 have c0:=B1.out.cell 0 _ rfl
 have c1:=B1.out.cell 1 _ rfl
 have c2:=B1.out.cell 2 _ rfl
 have c3:=B1.out.cell 3 _ rfl
 have c4:=B1.out.cell 4 _ rfl
 have c5:=B1.out.cell 5 _ rfl
 have c6:=B1.out.cell 6 _ rfl
 have cl:=B1.out.lt
 go_wp2_with fail
 refine(C2.out _).mono ?_
 rintro e w2 ⟨rfl,hb⟩
 have W2:=Lib.hid (blw_trans W1.out hb)
 have B2:=Lib.hid (B1.out.below hb)
 clear hb W1 B1 c0 c1 c2 c3 c4 c5 c6 cl
 have c0:=B2.out.cell 0 _ rfl
 have c1:=B2.out.cell 1 _ rfl
 have c2:=B2.out.cell 2 _ rfl
 have c3:=B2.out.cell 3 _ rfl
 have c4:=B2.out.cell 4 _ rfl
 have c5:=B2.out.cell 5 _ rfl
 have c6:=B2.out.cell 6 _ rfl
 have cl:=B2.out.lt
 go_wp2_with fail
 go_ret
 exact⟨rfl,W2.out⟩
set_option maxHeartbeats 2000000 in
theorem pck_s8 (pre suf:List UInt8) (mi nf mf g g2:Int) (w:World) (C1:Hid (∀w:World,Calls Tryz.prog 227 #[.string ⟨pre.toArray⟩] w fun e w'=>e= .returned (.bool true)∧Below w.heap.size w w')) (C2:Hid (∀w:World,Calls Tryz.prog 227 #[.string ⟨suf.toArray⟩] w fun e w'=>e= .returned (.bool true)∧Below w.heap.size w w')) (h0: ¬mi<1) (h1: ¬9<mi) (h2: ¬mf<0) (h3: ¬6<mf) (h4: ¬nf<0) (h5: ¬mf<nf) (h6: ¬g<0) (h7: ¬4<g) (h8:g2<0):
  Calls Tryz.prog 211 #[.agg #[.string ⟨pre.toArray⟩,.string ⟨suf.toArray⟩,.int .i64 mi,.int .i64 nf,.int .i64 mf,.int .i64 g,.int .i64 g2]] w fun e w'=>e= .returned (errV 1)∧Below w.heap.size w w':=by
 have d0:decide (mi<1)=false:=dec_no (by omega)
 have d1:decide (9<mi)=false:=dec_no (by omega)
 have d2:decide (mf<0)=false:=dec_no (by omega)
 have d3:decide (6<mf)=false:=dec_no (by omega)
 have d4:decide (nf<0)=false:=dec_no (by omega)
 have d5:decide (mf<nf)=false:=dec_no (by omega)
 have d6:decide (g<0)=false:=dec_no (by omega)
 have d7:decide (4<g)=false:=dec_no (by omega)
 have d8:decide (g2<0)=true:=dec_yes (by omega)
 have W0:=Lib.hid (blw_alloc w (.cells #[.string ⟨pre.toArray⟩,.string ⟨suf.toArray⟩,.int .i64 mi,.int .i64 nf,.int .i64 mf,.int .i64 g,.int .i64 g2] 81))
 have B0:=Lib.hid (Boxed.made w #[.string ⟨pre.toArray⟩,.string ⟨suf.toArray⟩,.int .i64 mi,.int .i64 nf,.int .i64 mf,.int .i64 g,.int .i64 g2] 81)
 go_enter Tryz.func211,Tryz.ntmps211
 go_wp2_with fail
 refine(C1.out _).mono ?_
 rintro e w1 ⟨rfl,hb⟩
 have W1:=Lib.hid (blw_trans W0.out hb)
 have B1:=Lib.hid (B0.out.below hb)
 clear hb W0 B0
 have c0:=B1.out.cell 0 _ rfl
 have c1:=B1.out.cell 1 _ rfl
 have c2:=B1.out.cell 2 _ rfl
 have c3:=B1.out.cell 3 _ rfl
 have c4:=B1.out.cell 4 _ rfl
 have c5:=B1.out.cell 5 _ rfl
 have c6:=B1.out.cell 6 _ rfl
 have cl:=B1.out.lt
 go_wp2_with fail
 refine(C2.out _).mono ?_
 rintro e w2 ⟨rfl,hb⟩
 have W2:=Lib.hid (blw_trans W1.out hb)
 have B2:=Lib.hid (B1.out.below hb)
 clear hb W1 B1 c0 c1 c2 c3 c4 c5 c6 cl
 have c0:=B2.out.cell 0 _ rfl
 have c1:=B2.out.cell 1 _ rfl
 have c2:=B2.out.cell 2 _ rfl
 have c3:=B2.out.cell 3 _ rfl
 have c4:=B2.out.cell 4 _ rfl
 have c5:=B2.out.cell 5 _ rfl
 have c6:=B2.out.cell 6 _ rfl
 have cl:=B2.out.lt
 go_wp2_with fail
 go_ret
 exact⟨rfl,W2.out⟩
set_option maxHeartbeats 2000000 in
theorem pck_s9 (pre suf:List UInt8) (mi nf mf g g2:Int) (w:World) (C1:Hid (∀w:World,Calls Tryz.prog 227 #[.string ⟨pre.toArray⟩] w fun e w'=>e= .returned (.bool true)∧Below w.heap.size w w')) (C2:Hid (∀w:World,Calls Tryz.prog 227 #[.string ⟨suf.toArray⟩] w fun e w'=>e= .returned (.bool true)∧Below w.heap.size w w')) (h0: ¬mi<1) (h1: ¬9<mi) (h2: ¬mf<0) (h3: ¬6<mf) (h4: ¬nf<0) (h5: ¬mf<nf) (h6: ¬g<0) (h7: ¬4<g) (h8: ¬g2<0) (h9:4<g2):
  Calls Tryz.prog 211 #[.agg #[.string ⟨pre.toArray⟩,.string ⟨suf.toArray⟩,.int .i64 mi,.int .i64 nf,.int .i64 mf,.int .i64 g,.int .i64 g2]] w fun e w'=>e= .returned (errV 1)∧Below w.heap.size w w':=by
 have d0:decide (mi<1)=false:=dec_no (by omega)
 have d1:decide (9<mi)=false:=dec_no (by omega)
 have d2:decide (mf<0)=false:=dec_no (by omega)
 have d3:decide (6<mf)=false:=dec_no (by omega)
 have d4:decide (nf<0)=false:=dec_no (by omega)
 have d5:decide (mf<nf)=false:=dec_no (by omega)
 have d6:decide (g<0)=false:=dec_no (by omega)
 have d7:decide (4<g)=false:=dec_no (by omega)
 have d8:decide (g2<0)=false:=dec_no (by omega)
 have d9:decide (4<g2)=true:=dec_yes (by omega)
 have W0:=Lib.hid (blw_alloc w (.cells #[.string ⟨pre.toArray⟩,.string ⟨suf.toArray⟩,.int .i64 mi,.int .i64 nf,.int .i64 mf,.int .i64 g,.int .i64 g2] 81))
 have B0:=Lib.hid (Boxed.made w #[.string ⟨pre.toArray⟩,.string ⟨suf.toArray⟩,.int .i64 mi,.int .i64 nf,.int .i64 mf,.int .i64 g,.int .i64 g2] 81)
 go_enter Tryz.func211,Tryz.ntmps211
 go_wp2_with fail
 refine(C1.out _).mono ?_
 rintro e w1 ⟨rfl,hb⟩
 have W1:=Lib.hid (blw_trans W0.out hb)
 have B1:=Lib.hid (B0.out.below hb)
 clear hb W0 B0
 have c0:=B1.out.cell 0 _ rfl
 have c1:=B1.out.cell 1 _ rfl
 have c2:=B1.out.cell 2 _ rfl
 have c3:=B1.out.cell 3 _ rfl
 have c4:=B1.out.cell 4 _ rfl
 have c5:=B1.out.cell 5 _ rfl
 have c6:=B1.out.cell 6 _ rfl
 have cl:=B1.out.lt
 go_wp2_with fail
 refine(C2.out _).mono ?_
 rintro e w2 ⟨rfl,hb⟩
 have W2:=Lib.hid (blw_trans W1.out hb)
 have B2:=Lib.hid (B1.out.below hb)
 clear hb W1 B1 c0 c1 c2 c3 c4 c5 c6 cl
 have c0:=B2.out.cell 0 _ rfl
 have c1:=B2.out.cell 1 _ rfl
 have c2:=B2.out.cell 2 _ rfl
 have c3:=B2.out.cell 3 _ rfl
 have c4:=B2.out.cell 4 _ rfl
 have c5:=B2.out.cell 5 _ rfl
 have c6:=B2.out.cell 6 _ rfl
 have cl:=B2.out.lt
 go_wp2_with fail
 go_ret
 exact⟨rfl,W2.out⟩
set_option maxHeartbeats 2000000 in
theorem pck_g (pre suf:List UInt8) (mi nf mf g2:Int) (w:World) (C1:Hid (∀w:World,Calls Tryz.prog 227 #[.string ⟨pre.toArray⟩] w fun e w'=>e= .returned (.bool true)∧Below w.heap.size w w')) (C2:Hid (∀w:World,Calls Tryz.prog 227 #[.string ⟨suf.toArray⟩] w fun e w'=>e= .returned (.bool true)∧Below w.heap.size w w')) (h0: ¬mi<1) (h1: ¬9<mi) (h2: ¬mf<0) (h3: ¬6<mf) (h4: ¬nf<0) (h5: ¬mf<nf) (h6: ¬g2<0) (h7: ¬4<g2) (h8: ¬g2=0):
  Calls Tryz.prog 211 #[.agg #[.string ⟨pre.toArray⟩,.string ⟨suf.toArray⟩,.int .i64 mi,.int .i64 nf,.int .i64 mf,.int .i64 0,.int .i64 g2]] w fun e w'=>e= .returned (errV 3)∧Below w.heap.size w w':=by
 have d0:decide (mi<1)=false:=dec_no (by omega)
 have d1:decide (9<mi)=false:=dec_no (by omega)
 have d2:decide (mf<0)=false:=dec_no (by omega)
 have d3:decide (6<mf)=false:=dec_no (by omega)
 have d4:decide (nf<0)=false:=dec_no (by omega)
 have d5:decide (mf<nf)=false:=dec_no (by omega)
 have d6:decide (g2<0)=false:=dec_no (by omega)
 have d7:decide (4<g2)=false:=dec_no (by omega)
 have q0:(g2==0)=false:=beq_no (by omega)
 have q1:(g2 !=0)=true:=by rw[bne,beq_no (by omega)];rfl
 have W0:=Lib.hid (blw_alloc w (.cells #[.string ⟨pre.toArray⟩,.string ⟨suf.toArray⟩,.int .i64 mi,.int .i64 nf,.int .i64 mf,.int .i64 0,.int .i64 g2] 81))
 have B0:=Lib.hid (Boxed.made w #[.string ⟨pre.toArray⟩,.string ⟨suf.toArray⟩,.int .i64 mi,.int .i64 nf,.int .i64 mf,.int .i64 0,.int .i64 g2] 81)
 go_enter Tryz.func211,Tryz.ntmps211
 go_wp2_with fail
 refine(C1.out _).mono ?_
 rintro e w1 ⟨rfl,hb⟩
 have W1:=Lib.hid (blw_trans W0.out hb)
 have B1:=Lib.hid (B0.out.below hb)
 clear hb W0 B0
 have c0:=B1.out.cell 0 _ rfl
 have c1:=B1.out.cell 1 _ rfl
 have c2:=B1.out.cell 2 _ rfl
 have c3:=B1.out.cell 3 _ rfl
 have c4:=B1.out.cell 4 _ rfl
 have c5:=B1.out.cell 5 _ rfl
 have c6:=B1.out.cell 6 _ rfl
 have cl:=B1.out.lt
 go_wp2_with fail
 refine(C2.out _).mono ?_
 rintro e w2 ⟨rfl,hb⟩
 have W2:=Lib.hid (blw_trans W1.out hb)
 have B2:=Lib.hid (B1.out.below hb)
 clear hb W1 B1 c0 c1 c2 c3 c4 c5 c6 cl
 have c0:=B2.out.cell 0 _ rfl
 have c1:=B2.out.cell 1 _ rfl
 have c2:=B2.out.cell 2 _ rfl
 have c3:=B2.out.cell 3 _ rfl
 have c4:=B2.out.cell 4 _ rfl
 have c5:=B2.out.cell 5 _ rfl
 have c6:=B2.out.cell 6 _ rfl
 have cl:=B2.out.lt
 go_wp2_with fail
 go_ret
 exact⟨rfl,W2.out⟩
set_option maxHeartbeats 2000000 in
theorem pck_h (pre suf:List UInt8) (mi nf mf g g2:Int) (w:World) (C1:Hid (∀w:World,Calls Tryz.prog 227 #[.string ⟨pre.toArray⟩] w fun e w'=>e= .returned (.bool true)∧Below w.heap.size w w')) (C2:Hid (∀w:World,Calls Tryz.prog 227 #[.string ⟨suf.toArray⟩] w fun e w'=>e= .returned (.bool true)∧Below w.heap.size w w')) (h0: ¬mi<1) (h1: ¬9<mi) (h2: ¬mf<0) (h3: ¬6<mf) (h4: ¬nf<0) (h5: ¬mf<nf) (h6: ¬g<0) (h7: ¬4<g) (h8: ¬g2<0) (h9: ¬4<g2) (h10: ¬g2=0) (h11: ¬g=0):
  Calls Tryz.prog 211 #[.agg #[.string ⟨pre.toArray⟩,.string ⟨suf.toArray⟩,.int .i64 mi,.int .i64 nf,.int .i64 mf,.int .i64 g,.int .i64 g2]] w fun e w'=>e= .returned .nilIface∧Below w.heap.size w w':=by
 have d0:decide (mi<1)=false:=dec_no (by omega)
 have d1:decide (9<mi)=false:=dec_no (by omega)
 have d2:decide (mf<0)=false:=dec_no (by omega)
 have d3:decide (6<mf)=false:=dec_no (by omega)
 have d4:decide (nf<0)=false:=dec_no (by omega)
 have d5:decide (mf<nf)=false:=dec_no (by omega)
 have d6:decide (g<0)=false:=dec_no (by omega)
 have d7:decide (4<g)=false:=dec_no (by omega)
 have d8:decide (g2<0)=false:=dec_no (by omega)
 have d9:decide (4<g2)=false:=dec_no (by omega)
 have q0:(g2==0)=false:=beq_no (by omega)
 have q1:(g2 !=0)=true:=by rw[bne,beq_no (by omega)];rfl
 have q2:(g==0)=false:=beq_no (by omega)
 have W0:=Lib.hid (blw_alloc w (.cells #[.string ⟨pre.toArray⟩,.string ⟨suf.toArray⟩,.int .i64 mi,.int .i64 nf,.int .i64 mf,.int .i64 g,.int .i64 g2] 81))
 have B0:=Lib.hid (Boxed.made w #[.string ⟨pre.toArray⟩,.string ⟨suf.toArray⟩,.int .i64 mi,.int .i64 nf,.int .i64 mf,.int .i64 g,.int .i64 g2] 81)
 go_enter Tryz.func211,Tryz.ntmps211
 go_wp2_with fail
 refine(C1.out _).mono ?_
 rintro e w1 ⟨rfl,hb⟩
 have W1:=Lib.hid (blw_trans W0.out hb)
 have B1:=Lib.hid (B0.out.below hb)
 clear hb W0 B0
 have c0:=B1.out.cell 0 _ rfl
 have c1:=B1.out.cell 1 _ rfl
 have c2:=B1.out.cell 2 _ rfl
 have c3:=B1.out.cell 3 _ rfl
 have c4:=B1.out.cell 4 _ rfl
 have c5:=B1.out.cell 5 _ rfl
 have c6:=B1.out.cell 6 _ rfl
 have cl:=B1.out.lt
 go_wp2_with fail
 refine(C2.out _).mono ?_
 rintro e w2 ⟨rfl,hb⟩
 have W2:=Lib.hid (blw_trans W1.out hb)
 have B2:=Lib.hid (B1.out.below hb)
 clear hb W1 B1 c0 c1 c2 c3 c4 c5 c6 cl
 have c0:=B2.out.cell 0 _ rfl
 have c1:=B2.out.cell 1 _ rfl
 have c2:=B2.out.cell 2 _ rfl
 have c3:=B2.out.cell 3 _ rfl
 have c4:=B2.out.cell 4 _ rfl
 have c5:=B2.out.cell 5 _ rfl
 have c6:=B2.out.cell 6 _ rfl
 have cl:=B2.out.lt
 go_wp2_with fail
 go_ret
 exact⟨rfl,W2.out⟩
set_option maxHeartbeats 2000000 in
theorem pck_z (pre suf:List UInt8) (mi nf mf g:Int) (w:World) (C1:Hid (∀w:World,Calls Tryz.prog 227 #[.string ⟨pre.toArray⟩] w fun e w'=>e= .returned (.bool true)∧Below w.heap.size w w')) (C2:Hid (∀w:World,Calls Tryz.prog 227 #[.string ⟨suf.toArray⟩] w fun e w'=>e= .returned (.bool true)∧Below w.heap.size w w')) (h0: ¬mi<1) (h1: ¬9<mi) (h2: ¬mf<0) (h3: ¬6<mf) (h4: ¬nf<0) (h5: ¬mf<nf) (h6: ¬g<0) (h7: ¬4<g):
  Calls Tryz.prog 211 #[.agg #[.string ⟨pre.toArray⟩,.string ⟨suf.toArray⟩,.int .i64 mi,.int .i64 nf,.int .i64 mf,.int .i64 g,.int .i64 0]] w fun e w'=>e= .returned .nilIface∧Below w.heap.size w w':=by
 have d0:decide (mi<1)=false:=dec_no (by omega)
 have d1:decide (9<mi)=false:=dec_no (by omega)
 have d2:decide (mf<0)=false:=dec_no (by omega)
 have d3:decide (6<mf)=false:=dec_no (by omega)
 have d4:decide (nf<0)=false:=dec_no (by omega)
 have d5:decide (mf<nf)=false:=dec_no (by omega)
 have d6:decide (g<0)=false:=dec_no (by omega)
 have d7:decide (4<g)=false:=dec_no (by omega)
 have W0:=Lib.hid (blw_alloc w (.cells #[.string ⟨pre.toArray⟩,.string ⟨suf.toArray⟩,.int .i64 mi,.int .i64 nf,.int .i64 mf,.int .i64 g,.int .i64 0] 81))
 have B0:=Lib.hid (Boxed.made w #[.string ⟨pre.toArray⟩,.string ⟨suf.toArray⟩,.int .i64 mi,.int .i64 nf,.int .i64 mf,.int .i64 g,.int .i64 0] 81)
 go_enter Tryz.func211,Tryz.ntmps211
 go_wp2_with fail
 refine(C1.out _).mono ?_
 rintro e w1 ⟨rfl,hb⟩
 have W1:=Lib.hid (blw_trans W0.out hb)
 have B1:=Lib.hid (B0.out.below hb)
 clear hb W0 B0
 have c0:=B1.out.cell 0 _ rfl
 have c1:=B1.out.cell 1 _ rfl
 have c2:=B1.out.cell 2 _ rfl
 have c3:=B1.out.cell 3 _ rfl
 have c4:=B1.out.cell 4 _ rfl
 have c5:=B1.out.cell 5 _ rfl
 have c6:=B1.out.cell 6 _ rfl
 have cl:=B1.out.lt
 go_wp2_with fail
 refine(C2.out _).mono ?_
 rintro e w2 ⟨rfl,hb⟩
 have W2:=Lib.hid (blw_trans W1.out hb)
 have B2:=Lib.hid (B1.out.below hb)
 clear hb W1 B1 c0 c1 c2 c3 c4 c5 c6 cl
 have c0:=B2.out.cell 0 _ rfl
 have c1:=B2.out.cell 1 _ rfl
 have c2:=B2.out.cell 2 _ rfl
 have c3:=B2.out.cell 3 _ rfl
 have c4:=B2.out.cell 4 _ rfl
 have c5:=B2.out.cell 5 _ rfl
 have c6:=B2.out.cell 6 _ rfl
 have cl:=B2.out.lt
 go_wp2_with fail
 go_ret
 exact⟨rfl,W2.out⟩
theorem pck_any (p:Nt.Pt) (w:World) (h1:p.pre.length≤1000000000) (h2:p.suf.length≤1000000000):
  Calls Tryz.prog 211 #[.agg #[.string ⟨p.pre.toArray⟩,.string ⟨p.suf.toArray⟩,.int .i64 p.mi,.int .i64 p.nf,.int .i64 p.mf,.int .i64 p.g,.int .i64 p.g2]] w fun e w'=>e= .returned (errN (Nt.patE p))∧Below w.heap.size w w':=by
 have A1: ∀(b:Bool),Nt.affB p.pre=b→Hid (∀w:World,Calls Tryz.prog 227 #[.string ⟨p.pre.toArray⟩] w fun e w'=>e= .returned (.bool b)∧Below w.heap.size w w'):=fun b hb=>Lib.hid fun w=>hb▸affix_any p.pre w (by omega)
 have A2: ∀(b:Bool),Nt.affB p.suf=b→Hid (∀w:World,Calls Tryz.prog 227 #[.string ⟨p.suf.toArray⟩] w fun e w'=>e= .returned (.bool b)∧Below w.heap.size w w'):=fun b hb=>Lib.hid fun w=>hb▸affix_any p.suf w (by omega)
 obtain⟨pre,suf,mi,nf,mf,g,g2⟩:=p
 simp only at*
 by_cases ha':Nt.affB pre=false
 ·skip
  have e:Nt.patE ⟨pre,suf,mi,nf,mf,g,g2⟩=3:=by unfold Nt.patE;simp only[ha',Bool.false_and,Bool.false_eq_true,if_false]
  rw[e]
  rw[show errN 3=(errV 3) from by unfold errN;rw[if_neg (by decide)]]
  exact pck_a pre suf mi nf mf g g2 w (A1 _ ha')
 have ha:Nt.affB pre=true:=by simpa using ha'
 by_cases hs':Nt.affB suf=false
 ·skip
  have e:Nt.patE ⟨pre,suf,mi,nf,mf,g,g2⟩=3:=by unfold Nt.patE;simp only[ha,hs',Bool.and_false,Bool.false_eq_true,if_false]
  rw[e]
  rw[show errN 3=(errV 3) from by unfold errN;rw[if_neg (by decide)]]
  exact pck_b pre suf mi nf mf g g2 w (A1 _ ha) (A2 _ hs')
 have hs:Nt.affB suf=true:=by simpa using hs'
 have en: ∀b,Nt.sizeB ⟨pre,suf,mi,nf,mf,g,g2⟩=b→Nt.patE ⟨pre,suf,mi,nf,mf,g,g2⟩=if b then (if g2≠0∧g=0 then 3 else 0) else 1:=fun b hb=>by unfold Nt.patE;simp only[ha,hs,hb,Bool.and_self,if_true]
 by_cases r0:mi<1
 ·have z:Nt.sizeB ⟨pre,suf,mi,nf,mf,g,g2⟩=false:=by rw[Bool.eq_false_iff];intro z;have:=Nt.size_ok z;simp only at this;omega
  have e:Nt.patE ⟨pre,suf,mi,nf,mf,g,g2⟩=1:=by rw[en _ z];rfl
  rw[e]
  rw[show errN 1=(errV 1) from by unfold errN;rw[if_neg (by decide)]]
  exact pck_s0 pre suf mi nf mf g g2 w (A1 _ ha) (A2 _ hs) r0
 by_cases r1:9<mi
 ·have z:Nt.sizeB ⟨pre,suf,mi,nf,mf,g,g2⟩=false:=by rw[Bool.eq_false_iff];intro z;have:=Nt.size_ok z;simp only at this;omega
  have e:Nt.patE ⟨pre,suf,mi,nf,mf,g,g2⟩=1:=by rw[en _ z];rfl
  rw[e]
  rw[show errN 1=(errV 1) from by unfold errN;rw[if_neg (by decide)]]
  exact pck_s1 pre suf mi nf mf g g2 w (A1 _ ha) (A2 _ hs) r0 r1
 by_cases r2:mf<0
 ·have z:Nt.sizeB ⟨pre,suf,mi,nf,mf,g,g2⟩=false:=by rw[Bool.eq_false_iff];intro z;have:=Nt.size_ok z;simp only at this;omega
  have e:Nt.patE ⟨pre,suf,mi,nf,mf,g,g2⟩=1:=by rw[en _ z];rfl
  rw[e]
  rw[show errN 1=(errV 1) from by unfold errN;rw[if_neg (by decide)]]
  exact pck_s2 pre suf mi nf mf g g2 w (A1 _ ha) (A2 _ hs) r0 r1 r2
 by_cases r3:6<mf
 ·have z:Nt.sizeB ⟨pre,suf,mi,nf,mf,g,g2⟩=false:=by rw[Bool.eq_false_iff];intro z;have:=Nt.size_ok z;simp only at this;omega
  have e:Nt.patE ⟨pre,suf,mi,nf,mf,g,g2⟩=1:=by rw[en _ z];rfl
  rw[e]
  rw[show errN 1=(errV 1) from by unfold errN;rw[if_neg (by decide)]]
  exact pck_s3 pre suf mi nf mf g g2 w (A1 _ ha) (A2 _ hs) r0 r1 r2 r3
 by_cases r4:nf<0
 ·have z:Nt.sizeB ⟨pre,suf,mi,nf,mf,g,g2⟩=false:=by rw[Bool.eq_false_iff];intro z;have:=Nt.size_ok z;simp only at this;omega
  have e:Nt.patE ⟨pre,suf,mi,nf,mf,g,g2⟩=1:=by rw[en _ z];rfl
  rw[e]
  rw[show errN 1=(errV 1) from by unfold errN;rw[if_neg (by decide)]]
  exact pck_s4 pre suf mi nf mf g g2 w (A1 _ ha) (A2 _ hs) r0 r1 r2 r3 r4
 by_cases r5:mf<nf
 ·have z:Nt.sizeB ⟨pre,suf,mi,nf,mf,g,g2⟩=false:=by rw[Bool.eq_false_iff];intro z;have:=Nt.size_ok z;simp only at this;omega
  have e:Nt.patE ⟨pre,suf,mi,nf,mf,g,g2⟩=1:=by rw[en _ z];rfl
  rw[e]
  rw[show errN 1=(errV 1) from by unfold errN;rw[if_neg (by decide)]]
  exact pck_s5 pre suf mi nf mf g g2 w (A1 _ ha) (A2 _ hs) r0 r1 r2 r3 r4 r5
 by_cases r6:g<0
 ·have z:Nt.sizeB ⟨pre,suf,mi,nf,mf,g,g2⟩=false:=by rw[Bool.eq_false_iff];intro z;have:=Nt.size_ok z;simp only at this;omega
  have e:Nt.patE ⟨pre,suf,mi,nf,mf,g,g2⟩=1:=by rw[en _ z];rfl
  rw[e]
  rw[show errN 1=(errV 1) from by unfold errN;rw[if_neg (by decide)]]
  exact pck_s6 pre suf mi nf mf g g2 w (A1 _ ha) (A2 _ hs) r0 r1 r2 r3 r4 r5 r6
 by_cases r7:4<g
 ·have z:Nt.sizeB ⟨pre,suf,mi,nf,mf,g,g2⟩=false:=by rw[Bool.eq_false_iff];intro z;have:=Nt.size_ok z;simp only at this;omega
  have e:Nt.patE ⟨pre,suf,mi,nf,mf,g,g2⟩=1:=by rw[en _ z];rfl
  rw[e]
  rw[show errN 1=(errV 1) from by unfold errN;rw[if_neg (by decide)]]
  exact pck_s7 pre suf mi nf mf g g2 w (A1 _ ha) (A2 _ hs) r0 r1 r2 r3 r4 r5 r6 r7
 by_cases r8:g2<0
 ·have z:Nt.sizeB ⟨pre,suf,mi,nf,mf,g,g2⟩=false:=by rw[Bool.eq_false_iff];intro z;have:=Nt.size_ok z;simp only at this;omega
  have e:Nt.patE ⟨pre,suf,mi,nf,mf,g,g2⟩=1:=by rw[en _ z];rfl
  rw[e]
  rw[show errN 1=(errV 1) from by unfold errN;rw[if_neg (by decide)]]
  exact pck_s8 pre suf mi nf mf g g2 w (A1 _ ha) (A2 _ hs) r0 r1 r2 r3 r4 r5 r6 r7 r8
 by_cases r9:4<g2
 ·have z:Nt.sizeB ⟨pre,suf,mi,nf,mf,g,g2⟩=false:=by rw[Bool.eq_false_iff];intro z;have:=Nt.size_ok z;simp only at this;omega
  have e:Nt.patE ⟨pre,suf,mi,nf,mf,g,g2⟩=1:=by rw[en _ z];rfl
  rw[e]
  rw[show errN 1=(errV 1) from by unfold errN;rw[if_neg (by decide)]]
  exact pck_s9 pre suf mi nf mf g g2 w (A1 _ ha) (A2 _ hs) r0 r1 r2 r3 r4 r5 r6 r7 r8 r9
 have z:Nt.sizeB ⟨pre,suf,mi,nf,mf,g,g2⟩=true:=by unfold Nt.sizeB;simp only[Bool.and_eq_true,decide_eq_true_eq];omega
 by_cases z2:g2=0
 ·have e:Nt.patE ⟨pre,suf,mi,nf,mf,g,g2⟩=0:=by rw[en _ z,if_pos rfl,if_neg (by omega)]
  rw[e]
  rw[show errN 0= .nilIface from by unfold errN;rw[if_pos rfl]]
  subst z2
  exact pck_z pre suf mi nf mf g w (A1 _ ha) (A2 _ hs) r0 r1 r2 r3 r4 r5 r6 r7
 by_cases z1:g=0
 ·have e:Nt.patE ⟨pre,suf,mi,nf,mf,g,g2⟩=3:=by rw[en _ z,if_pos rfl,if_pos ⟨z2,z1⟩]
  rw[e]
  rw[show errN 3=(errV 3) from by unfold errN;rw[if_neg (by decide)]]
  subst z1
  exact pck_g pre suf mi nf mf g2 w (A1 _ ha) (A2 _ hs) r0 r1 r2 r3 r4 r5 r8 r9 z2
 ·have e:Nt.patE ⟨pre,suf,mi,nf,mf,g,g2⟩=0:=by rw[en _ z,if_pos rfl,if_neg (by omega)]
  rw[e]
  rw[show errN 0= .nilIface from by unfold errN;rw[if_pos rfl]]
  exact pck_h pre suf mi nf mf g g2 w (A1 _ ha) (A2 _ hs) r0 r1 r2 r3 r4 r5 r6 r7 r8 r9 z2 z1
open Go.RowKit
theorem idx4_neg (x:UInt8):decide (Lib.indexByte Nt.sgnL x<0)=!Nt.sgnL.contains x:=by
 by_cases h1:x=46
 ·subst h1;decide
 by_cases h2:x=44
 ·subst h2;decide
 by_cases h3:x=39
 ·subst h3;decide
 by_cases h4:x=95
 ·subst h4;decide
 have b: ∀y:UInt8,x≠y→(y==x)=false:=fun y h=>beq_eq_false_iff_ne.2 fun e=>h e.symm
 simp[Nt.sgnL,Lib.indexByte,b _ h1,b _ h2,b _ h3,b _ h4,h1,h2,h3,h4]
theorem ibyte_any (x:UInt8) (w:World):Calls Tryz.prog 88 #[.string ⟨#[46,44,39,95]⟩,.int .u8 (x.toNat:Int)] w fun e w'=>e= .returned (.int .i64 (Lib.indexByte Nt.sgnL x))∧w'=w:=by
 have h:= Tryz.strings_IndexByte ⟨#[46,44,39,95]⟩ (x.toNat:Int) w
 rw[show((x.toNat:Int).toNat.toUInt8)=x by simp] at h
 exact h
theorem byteN_eq (x y:UInt8):((x.toNat:Int)==(y.toNat:Int))=(x==y):=by
 rw[Bool.eq_iff_iff,beq_iff_eq,beq_iff_eq]
 constructor
 ·intro h;exact UInt8.toNat.inj (by omega)
 ·rintro rfl;rfl

set_option maxHeartbeats 2000000 in
theorem nck_any (pt cm:UInt8) (w:World):
  Calls Tryz.prog 212 #[.agg #[.int .u8 (pt.toNat:Int),.int .u8 (cm.toNat:Int)]] w fun e w'=>e= .returned (errN (if Nt.symB pt cm then 0 else 3))∧Below w.heap.size w w':=by
 have CP:=Lib.hid fun w=>ibyte_any pt w
 have CC:=Lib.hid fun w=>ibyte_any cm w
 have hb:=byteN_eq pt cm
 have n1:=idx4_neg pt
 have n2:=idx4_neg cm
 have hs:Nt.symB pt cm=(!(pt==cm)&&Nt.sgnL.contains pt&&Nt.sgnL.contains cm):=rfl
 rw[hs]
 clear hs
 generalize (pt==cm)=E at*
 generalize Nt.sgnL.contains pt=A at*
 generalize Nt.sgnL.contains cm=B at*
 generalize (pt.toNat:Int)=p at*
 generalize (cm.toNat:Int)=q at*
 generalize Lib.indexByte Nt.sgnL pt=i at*
 generalize Lib.indexByte Nt.sgnL cm=j at*
 have W0:=Lib.hid (blw_alloc w (.cells #[.int .u8 p,.int .u8 q] 83))
 cases E<;>cases A<;>cases B<;>simp only[Bool.not_true,Bool.not_false,Bool.and_true,Bool.and_false,if_true,if_false,Bool.false_eq_true] at* <;>clear pt cm
 all_goals
  go_enter Tryz.func212,Tryz.ntmps212
  go_wp2_with fail
  try(refine(CP.out _).mono ?_;rintro e w' ⟨rfl,rfl⟩;go_wp2_with fail)
  try(refine(CC.out _).mono ?_;rintro e w' ⟨rfl,rfl⟩;go_wp2_with fail)
  go_ret
  exact⟨rfl,W0.out⟩
def pV (p:Nt.Pt):Value:= .agg #[.string ⟨p.pre.toArray⟩,.string ⟨p.suf.toArray⟩,.int .i64 p.mi,.int .i64 p.nf,.int .i64 p.mf,.int .i64 p.g,.int .i64 p.g2]

set_option maxHeartbeats 2000000 in
theorem chk_any (p:Nt.Pt) (pt cm:UInt8) (w:World) (h1:p.pre.length≤1000000000) (h2:p.suf.length≤1000000000):
  Calls Tryz.prog 187 #[pV p,.agg #[.int .u8 (pt.toNat:Int),.int .u8 (cm.toNat:Int)]] w fun e w'=>e= .returned (errN (Nt.allE p pt cm))∧Below w.heap.size w w':=by
 have CP:=Lib.hid fun w=>pck_any p w h1 h2
 have CC:=Lib.hid fun w=>nck_any pt cm w
 unfold Nt.allE
 generalize hE:Nt.patE p=E at*
 clear hE
 generalize (if Nt.symB pt cm then (0:Int) else 3)=F at*
 unfold pV
 obtain⟨pre,suf,mi,nf,mf,g,g2⟩:=p
 simp only at*
 generalize (pt.toNat:Int)=a at*
 generalize (cm.toNat:Int)=b at*
 clear pt cm h1 h2
 have W0:=Lib.hid (blw_trans (blw_alloc w (.cells #[.string ⟨pre.toArray⟩,.string ⟨suf.toArray⟩,.int .i64 mi,.int .i64 nf,.int .i64 mf,.int .i64 g,.int .i64 g2] 81)) (blw_alloc _ (.cells #[.int .u8 a,.int .u8 b] 83)))
 have Y0:=Lib.hid (Boxed.at (q:=w.heap.size+1) (Boxed.made (w.alloc (.cells #[.string ⟨pre.toArray⟩,.string ⟨suf.toArray⟩,.int .i64 mi,.int .i64 nf,.int .i64 mf,.int .i64 g,.int .i64 g2] 81)) #[.int .u8 a,.int .u8 b] 83) (by simp))
 by_cases h0:E=0
 ·subst h0
  rw[show errN 0= .nilIface from rfl] at CP
  rw[if_neg (by simp)]
  go_enter Tryz.func187,Tryz.ntmps187
  go_wp2_with fail
  refine(CP.out _).mono ?_
  rintro e w1 ⟨rfl,hb⟩
  have W1:=Lib.hid (blw_trans W0.out hb)
  have Y1:=Lib.hid (Y0.out.below hb)
  clear hb CP W0 Y0
  have y0:=Y1.out.cell 0 _ rfl
  have y1:=Y1.out.cell 1 _ rfl
  go_wp2_with fail
  refine(CC.out _).mono ?_
  rintro e w2 ⟨rfl,hb⟩
  have W2:=Lib.hid (blw_trans W1.out hb)
  clear hb CC W1 Y1 y0 y1
  go_wp2_with fail
  go_ret
  exact⟨rfl,W2.out⟩
 ·rw[show errN E=errV E from if_neg h0] at CP
  rw[if_pos h0,show errN E=errV E from if_neg h0]
  go_enter Tryz.func187,Tryz.ntmps187
  go_wp2_with fail
  refine(CP.out _).mono ?_
  rintro e w1 ⟨rfl,hb⟩
  have W1:=Lib.hid (blw_trans W0.out hb)
  clear hb CP W0 Y0
  go_wp2_with fail
  go_ret
  exact⟨rfl,W1.out⟩
open Go.RowKit
structure Bx (w0:World) (pv yv:Array Value) (c s:Value) (w:World):Prop where
 b:Below w0.heap.size w0 w
 p:Boxed w w0.heap.size pv
 y:Boxed w (w0.heap.size+1) yv
 d:Boxed w (w0.heap.size+2) #[c,s]
theorem Bx.made (w0:World) (pv yv:Array Value) (c s:Value) (t1 t2 t3:TypeId):Bx w0 pv yv c s (((w0.alloc (.cells pv t1)).alloc (.cells yv t2)).alloc (.cells #[c,s] t3)):=
 ⟨blw_trans (blw_trans (blw_alloc _ _) (blw_alloc _ _)) (blw_alloc _ _),((Boxed.made w0 pv t1).alloc _).alloc _,((Boxed.made _ yv t2).alloc _).at (by simp),(Boxed.made _ _ t3).at (by simp)⟩
theorem Bx.below {w0 w w':World} {pv yv:Array Value} {c s:Value} (h:Bx w0 pv yv c s w) (hb:Below w.heap.size w w'):Bx w0 pv yv c s w':=
 ⟨blw_trans h.b hb,h.p.below hb,h.y.below hb,h.d.below hb⟩
theorem Bx.alloc {w0 w:World} {pv yv:Array Value} {c s:Value} (h:Bx w0 pv yv c s w) (o:Obj):Bx w0 pv yv c s (w.alloc o):=h.below (blw_alloc w o)
theorem Bx.drewN {w0 w:World} {pv yv:Array Value} {c s:Value} (h:Bx w0 pv yv c s w) (n:Nat):Bx w0 pv yv c s (w.drewN n):=⟨blw_drewN h.b n,h.p.drewN n,h.y.drewN n,h.d.drewN n⟩
theorem Bx.store {w0 w:World} {pv yv:Array Value} {c s:Value} (h:Bx w0 pv yv c s w) (x z:Value):Bx w0 pv yv x z ((w.setCell ⟨w0.heap.size+2,0,none⟩ x).setCell ⟨w0.heap.size+2,1,none⟩ z):=
 ⟨Below.setCell (Below.setCell h.b (by simp) x) (by simp) z,
  (h.p.far (q:=w0.heap.size+2) (by omega) 0 x).far (q:=w0.heap.size+2) (by omega) 1 z,
  (h.y.far (q:=w0.heap.size+2) (by omega) 0 x).far (q:=w0.heap.size+2) (by omega) 1 z,
  (h.d.set 0 x (by simp)).set 1 z (by simp)⟩
/-- another block than the three -/
theorem Bx.lt {w0 w:World} {pv yv:Array Value} {c s:Value} (h:Bx w0 pv yv c s w):w0.heap.size+2<w.heap.size:=h.d.lt
end Go.Proofs.YtldbfkccieipjaaGreatDoor
namespace Go.Proofs.YtldbfkccieipjaaGreatDoor.Nt
open Go Go.Lib Byt
open Dcm (okD)
/-- a sign and what stands for it -/
def Rep (pt cm pt' cm' x x':UInt8):Prop:=(x=pt∧x'=pt')∨(x=cm∧x'=cm')∨(x=x'∧x≠pt∧x≠cm∧x'≠pt'∧x'≠cm')
def Alike (pt cm pt' cm':UInt8) (a b:List UInt8):Prop:=a.length=b.length∧ ∀(i:Nat) x x',a[i]?=some x→b[i]?=some x'→Rep pt cm pt' cm' x x'
variable {pt cm pt' cm':UInt8}
theorem Alike.app {a b a' b':List UInt8} (h:Alike pt cm pt' cm' a b) (h':Alike pt cm pt' cm' a' b'):Alike pt cm pt' cm' (a++a') (b++b'):=by
 refine⟨by rw[List.length_append,List.length_append,h.1,h'.1],fun i x x' hx hx'=>?_⟩
 by_cases hi:i<a.length
 ·rw[List.getElem?_append_left hi] at hx
  rw[List.getElem?_append_left (by have:=h.1;omega)] at hx'
  exact h.2 i x x' hx hx'
 ·rw[List.getElem?_append_right (by omega)] at hx
  rw[List.getElem?_append_right (by have:=h.1;omega)] at hx'
  rw[h.1] at hx
  exact h'.2 _ x x' hx hx'
theorem Alike.nil:Alike pt cm pt' cm' [] []:=⟨rfl,fun i x x' h=>by simp at h⟩
theorem dig_nought (n:Nat):AllDig (List.replicate n 48):=fun x hx=>by rw[(List.mem_replicate.1 hx).2];decide
theorem AllDig.app {a b:List UInt8} (h:AllDig a) (h':AllDig b):AllDig (a++b):=fun x hx=>by
 rcases List.mem_append.1 hx with hx|hx
 ·exact h x hx
 ·exact h' x hx
theorem pad_dig (mi c s:Int):AllDig (pad mi c s):=AllDig.app (dig_nought _) (wh_dig c s)
theorem sym_mem (h:symB pt cm=true):pt≠cm∧pt∈sgnL∧cm∈sgnL:=by
 unfold symB at h
 simp only[Bool.and_eq_true,List.contains_iff_mem,bne_iff_ne,ne_eq] at h
 exact⟨h.1.1,h.1.2,h.2⟩
theorem shown_len (p:Pt) (pt cm:UInt8) (c s:Int) (h:okD c s) (hp:patE p=0):(shown p pt cm c s).length≤p.pre.length+p.suf.length+700:=by
 have ps:=size_ok (pat_ok hp).2.2.1
 obtain⟨r1,r2,r3⟩:=red_fine p.mf c s h (by omega) (by omega)
 unfold shown
 generalize red p.mf c s=q at*
 obtain⟨a,b⟩:=q
 simp only at*
 have lw:=wh_len a b r1
 have lb:=bh_len a b
 have h9:b≤9:=r1.2.1
 have lg:=gout_len (pad p.mi a b) p.g p.g2 cm
 have lp:(pad p.mi a b).length≤200:=by unfold pad;rw[List.length_append,List.length_replicate];omega
 have lf:(fr p.nf a b).length≤100:=by unfold fr;rw[List.length_append,List.length_replicate];omega
 have lt:(tail pt (fr p.nf a b)).length≤101:=by unfold tail;split<;>simp;omega
 have ls:(sgn a).length≤1:=by unfold sgn;split<;>simp
 unfold body
 simp only[List.length_append]
 omega
end Go.Proofs.YtldbfkccieipjaaGreatDoor.Nt
