/- The walks of slices.IndexFunc and slices.ContainsFunc at ranges, relations and parts of a rule. Conditions: the function that is handed over tells a truth of each element, and turns nothing old. -/
import Derived.Test.YtjlchookakbomaaGreatDoorEi14
set_option maxHeartbeats 2000000
set_option maxRecDepth 100000
namespace Go.Proofs.YtjlchookakbomaaGreatDoor
open Go.RowKit

def lgE0:Array MapEntry:= #[]
def lgE1:Array MapEntry:=lgE0.push {key:= .string ⟨#[101,110]⟩,val:= .agg #[.string ⟨#[]⟩,.string ⟨#[105,32,61,32,49,32,97,110,100,32,118,32,61,32,48]⟩,.string ⟨#[]⟩,.string ⟨#[]⟩,.string ⟨#[]⟩],born:=0}
def lgE2:Array MapEntry:=lgE1.push {key:= .string ⟨#[100,101]⟩,val:= .agg #[.string ⟨#[]⟩,.string ⟨#[105,32,61,32,49,32,97,110,100,32,118,32,61,32,48]⟩,.string ⟨#[]⟩,.string ⟨#[]⟩,.string ⟨#[]⟩],born:=1}
def lgE3:Array MapEntry:=lgE2.push {key:= .string ⟨#[102,114]⟩,val:= .agg #[.string ⟨#[]⟩,.string ⟨#[105,32,61,32,48,44,49]⟩,.string ⟨#[]⟩,.string ⟨#[]⟩,.string ⟨#[]⟩],born:=2}
def lgE4:Array MapEntry:=lgE3.push {key:= .string ⟨#[106,97]⟩,val:= .agg #[.string ⟨#[]⟩,.string ⟨#[]⟩,.string ⟨#[]⟩,.string ⟨#[]⟩,.string ⟨#[]⟩],born:=3}
def lgE5:Array MapEntry:=lgE4.push {key:= .string ⟨#[112,108]⟩,val:= .agg #[.string ⟨#[]⟩,.string ⟨#[105,32,61,32,49,32,97,110,100,32,118,32,61,32,48]⟩,.string ⟨#[]⟩,.string ⟨#[118,32,61,32,48,32,97,110,100,32,105,32,37,32,49,48,32,61,32,50,46,46,52,32,97,110,100,32,105,32,37,32,49,48,48,32,33,61,32,49,50,46,46,49,52]⟩,.string ⟨#[118,32,61,32,48,32,97,110,100,32,105,32,33,61,32,49,32,97,110,100,32,105,32,37,32,49,48,32,61,32,48,46,46,49,32,111,114,32,118,32,61,32,48,32,97,110,100,32,105,32,37,32,49,48,32,61,32,53,46,46,57,32,111,114,32,118,32,61,32,48,32,97,110,100,32,105,32,37,32,49,48,48,32,61,32,49,50,46,46,49,52]⟩],born:=4}
def lgE6:Array MapEntry:=lgE5.push {key:= .string ⟨#[114,117]⟩,val:= .agg #[.string ⟨#[]⟩,.string ⟨#[118,32,61,32,48,32,97,110,100,32,105,32,37,32,49,48,32,61,32,49,32,97,110,100,32,105,32,37,32,49,48,48,32,33,61,32,49,49]⟩,.string ⟨#[]⟩,.string ⟨#[118,32,61,32,48,32,97,110,100,32,105,32,37,32,49,48,32,61,32,50,46,46,52,32,97,110,100,32,105,32,37,32,49,48,48,32,33,61,32,49,50,46,46,49,52]⟩,.string ⟨#[118,32,61,32,48,32,97,110,100,32,105,32,37,32,49,48,32,61,32,48,32,111,114,32,118,32,61,32,48,32,97,110,100,32,105,32,37,32,49,48,32,61,32,53,46,46,57,32,111,114,32,118,32,61,32,48,32,97,110,100,32,105,32,37,32,49,48,48,32,61,32,49,49,46,46,49,52]⟩],born:=5}
def lgE7:Array MapEntry:=lgE6.push {key:= .string ⟨#[97,114]⟩,val:= .agg #[.string ⟨#[110,32,61,32,48]⟩,.string ⟨#[110,32,61,32,49]⟩,.string ⟨#[110,32,61,32,50]⟩,.string ⟨#[110,32,37,32,49,48,48,32,61,32,51,46,46,49,48]⟩,.string ⟨#[110,32,37,32,49,48,48,32,61,32,49,49,46,46,57,57]⟩],born:=6}
def lgE8:Array MapEntry:=lgE7.push {key:= .string ⟨#[108,118]⟩,val:= .agg #[.string ⟨#[110,32,37,32,49,48,32,61,32,48,32,111,114,32,110,32,37,32,49,48,48,32,61,32,49,49,46,46,49,57,32,111,114,32,118,32,61,32,50,32,97,110,100,32,102,32,37,32,49,48,48,32,61,32,49,49,46,46,49,57]⟩,.string ⟨#[110,32,37,32,49,48,32,61,32,49,32,97,110,100,32,110,32,37,32,49,48,48,32,33,61,32,49,49,32,111,114,32,118,32,61,32,50,32,97,110,100,32,102,32,37,32,49,48,32,61,32,49,32,97,110,100,32,102,32,37,32,49,48,48,32,33,61,32,49,49,32,111,114,32,118,32,33,61,32,50,32,97,110,100,32,102,32,37,32,49,48,32,61,32,49]⟩,.string ⟨#[]⟩,.string ⟨#[]⟩,.string ⟨#[]⟩],born:=7}

theorem zBM (w:World) (c:Obj) (E E':Array MapEntry) (b b':Nat) (k:ByteArray) (v:Value) (hf:Instr.findNow .string (.string k) E.toList 0=some none) (hE:E'=E.push {key:= .string k,val:=v,born:=b}) (hb:b'=b+1):
  (Instr.mapUpdate 118 (.map (some (w.heap.size+1))) (.string k) v).run Tryz.prog ((w.alloc c).alloc (.map E b))= .ok () ((w.alloc c).alloc (.map E' b')):=by
 subst hE hb
 have h:=zMr (P:= Tryz.prog) 118 9 58 Tryz.underlying118 Tryz.underlying9 E b k v hf (w.alloc c)
 rw[show(w.alloc c).heap.size=w.heap.size+1 by simp] at h
 exact h
theorem zBw (w:World) (c d:Obj) (k:ByteArray) (v:Value) (i:Nat) (hf:Instr.findNow .string (.string k) lgE8.toList 0=some (some (i,v))):
  (Instr.lookup 118 (.map (some (w.heap.size+1+1))) (.string k) true).run Tryz.prog (((w.alloc c).alloc d).alloc (.map lgE8 8))= .ok (.tuple #[v,.bool true]) (((w.alloc c).alloc d).alloc (.map lgE8 8)):=
 zGm (P:= Tryz.prog) 118 9 58 Tryz.underlying118 Tryz.underlying9 lgE8 8 (w.heap.size+1+1) i k v _ (zCm _ _ _ (by simp)) hf

theorem zA0 (w:World):Calls Tryz.prog 53 #[] w fun e w'=>e= .returned (.map (some (w.heap.size+1)))∧w'=(w.alloc (.cells #[.string ⟨#[]⟩,.string ⟨#[105,32,61,32,49,32,97,110,100,32,118,32,61,32,48]⟩,.string ⟨#[]⟩,.string ⟨#[]⟩,.string ⟨#[]⟩] 58)).alloc (.map lgE8 8):=by
 have I0:=zBM w (.cells #[.string ⟨#[]⟩,.string ⟨#[105,32,61,32,49,32,97,110,100,32,118,32,61,32,48]⟩,.string ⟨#[]⟩,.string ⟨#[]⟩,.string ⟨#[]⟩] 58) lgE0 lgE1 0 1 ⟨#[101,110]⟩ (.agg #[.string ⟨#[]⟩,.string ⟨#[105,32,61,32,49,32,97,110,100,32,118,32,61,32,48]⟩,.string ⟨#[]⟩,.string ⟨#[]⟩,.string ⟨#[]⟩]) (by kernel_rfl) rfl rfl
 have I1:=zBM w (.cells #[.string ⟨#[]⟩,.string ⟨#[105,32,61,32,49,32,97,110,100,32,118,32,61,32,48]⟩,.string ⟨#[]⟩,.string ⟨#[]⟩,.string ⟨#[]⟩] 58) lgE1 lgE2 1 2 ⟨#[100,101]⟩ (.agg #[.string ⟨#[]⟩,.string ⟨#[105,32,61,32,49,32,97,110,100,32,118,32,61,32,48]⟩,.string ⟨#[]⟩,.string ⟨#[]⟩,.string ⟨#[]⟩]) (by kernel_rfl) rfl rfl
 have I2:=zBM w (.cells #[.string ⟨#[]⟩,.string ⟨#[105,32,61,32,49,32,97,110,100,32,118,32,61,32,48]⟩,.string ⟨#[]⟩,.string ⟨#[]⟩,.string ⟨#[]⟩] 58) lgE2 lgE3 2 3 ⟨#[102,114]⟩ (.agg #[.string ⟨#[]⟩,.string ⟨#[105,32,61,32,48,44,49]⟩,.string ⟨#[]⟩,.string ⟨#[]⟩,.string ⟨#[]⟩]) (by kernel_rfl) rfl rfl
 have I3:=zBM w (.cells #[.string ⟨#[]⟩,.string ⟨#[105,32,61,32,49,32,97,110,100,32,118,32,61,32,48]⟩,.string ⟨#[]⟩,.string ⟨#[]⟩,.string ⟨#[]⟩] 58) lgE3 lgE4 3 4 ⟨#[106,97]⟩ (.agg #[.string ⟨#[]⟩,.string ⟨#[]⟩,.string ⟨#[]⟩,.string ⟨#[]⟩,.string ⟨#[]⟩]) (by kernel_rfl) rfl rfl
 have I4:=zBM w (.cells #[.string ⟨#[]⟩,.string ⟨#[105,32,61,32,49,32,97,110,100,32,118,32,61,32,48]⟩,.string ⟨#[]⟩,.string ⟨#[]⟩,.string ⟨#[]⟩] 58) lgE4 lgE5 4 5 ⟨#[112,108]⟩ (.agg #[.string ⟨#[]⟩,.string ⟨#[105,32,61,32,49,32,97,110,100,32,118,32,61,32,48]⟩,.string ⟨#[]⟩,.string ⟨#[118,32,61,32,48,32,97,110,100,32,105,32,37,32,49,48,32,61,32,50,46,46,52,32,97,110,100,32,105,32,37,32,49,48,48,32,33,61,32,49,50,46,46,49,52]⟩,.string ⟨#[118,32,61,32,48,32,97,110,100,32,105,32,33,61,32,49,32,97,110,100,32,105,32,37,32,49,48,32,61,32,48,46,46,49,32,111,114,32,118,32,61,32,48,32,97,110,100,32,105,32,37,32,49,48,32,61,32,53,46,46,57,32,111,114,32,118,32,61,32,48,32,97,110,100,32,105,32,37,32,49,48,48,32,61,32,49,50,46,46,49,52]⟩]) (by kernel_rfl) rfl rfl
 have I5:=zBM w (.cells #[.string ⟨#[]⟩,.string ⟨#[105,32,61,32,49,32,97,110,100,32,118,32,61,32,48]⟩,.string ⟨#[]⟩,.string ⟨#[]⟩,.string ⟨#[]⟩] 58) lgE5 lgE6 5 6 ⟨#[114,117]⟩ (.agg #[.string ⟨#[]⟩,.string ⟨#[118,32,61,32,48,32,97,110,100,32,105,32,37,32,49,48,32,61,32,49,32,97,110,100,32,105,32,37,32,49,48,48,32,33,61,32,49,49]⟩,.string ⟨#[]⟩,.string ⟨#[118,32,61,32,48,32,97,110,100,32,105,32,37,32,49,48,32,61,32,50,46,46,52,32,97,110,100,32,105,32,37,32,49,48,48,32,33,61,32,49,50,46,46,49,52]⟩,.string ⟨#[118,32,61,32,48,32,97,110,100,32,105,32,37,32,49,48,32,61,32,48,32,111,114,32,118,32,61,32,48,32,97,110,100,32,105,32,37,32,49,48,32,61,32,53,46,46,57,32,111,114,32,118,32,61,32,48,32,97,110,100,32,105,32,37,32,49,48,48,32,61,32,49,49,46,46,49,52]⟩]) (by kernel_rfl) rfl rfl
 have I6:=zBM w (.cells #[.string ⟨#[]⟩,.string ⟨#[105,32,61,32,49,32,97,110,100,32,118,32,61,32,48]⟩,.string ⟨#[]⟩,.string ⟨#[]⟩,.string ⟨#[]⟩] 58) lgE6 lgE7 6 7 ⟨#[97,114]⟩ (.agg #[.string ⟨#[110,32,61,32,48]⟩,.string ⟨#[110,32,61,32,49]⟩,.string ⟨#[110,32,61,32,50]⟩,.string ⟨#[110,32,37,32,49,48,48,32,61,32,51,46,46,49,48]⟩,.string ⟨#[110,32,37,32,49,48,48,32,61,32,49,49,46,46,57,57]⟩]) (by kernel_rfl) rfl rfl
 have I7:=zBM w (.cells #[.string ⟨#[]⟩,.string ⟨#[105,32,61,32,49,32,97,110,100,32,118,32,61,32,48]⟩,.string ⟨#[]⟩,.string ⟨#[]⟩,.string ⟨#[]⟩] 58) lgE7 lgE8 7 8 ⟨#[108,118]⟩ (.agg #[.string ⟨#[110,32,37,32,49,48,32,61,32,48,32,111,114,32,110,32,37,32,49,48,48,32,61,32,49,49,46,46,49,57,32,111,114,32,118,32,61,32,50,32,97,110,100,32,102,32,37,32,49,48,48,32,61,32,49,49,46,46,49,57]⟩,.string ⟨#[110,32,37,32,49,48,32,61,32,49,32,97,110,100,32,110,32,37,32,49,48,48,32,33,61,32,49,49,32,111,114,32,118,32,61,32,50,32,97,110,100,32,102,32,37,32,49,48,32,61,32,49,32,97,110,100,32,102,32,37,32,49,48,48,32,33,61,32,49,49,32,111,114,32,118,32,33,61,32,50,32,97,110,100,32,102,32,37,32,49,48,32,61,32,49]⟩,.string ⟨#[]⟩,.string ⟨#[]⟩,.string ⟨#[]⟩]) (by kernel_rfl) rfl rfl
 have hmm: ∀w,(Instr.makeMap 118 none).run Tryz.prog w= .ok (.map (some w.heap.size)) (w.alloc (.map lgE0 0)):=fun w=> @run_makeMap Tryz.prog 118 w
 go_enter Tryz.func53,Tryz.ntmps53
 go_wp2_with fail
 go_ret
 exact⟨rfl,rfl⟩

theorem zGn (w:World):Calls Tryz.prog 24 #[.string ⟨#[101,110]⟩] w fun e w'=>e= .returned (.tuple #[.agg #[.string ⟨#[]⟩,.string ⟨#[105,32,61,32,49,32,97,110,100,32,118,32,61,32,48]⟩,.string ⟨#[]⟩,.string ⟨#[]⟩,.string ⟨#[]⟩],.nilIface])∧Below w.heap.size w w':=by
 have LK:=zBw w (.cells #[.string ⟨#[]⟩,.string ⟨#[]⟩,.string ⟨#[]⟩,.string ⟨#[]⟩,.string ⟨#[]⟩] 58) (.cells #[.string ⟨#[]⟩,.string ⟨#[105,32,61,32,49,32,97,110,100,32,118,32,61,32,48]⟩,.string ⟨#[]⟩,.string ⟨#[]⟩,.string ⟨#[]⟩] 58) ⟨#[101,110]⟩ (.agg #[.string ⟨#[]⟩,.string ⟨#[105,32,61,32,49,32,97,110,100,32,118,32,61,32,48]⟩,.string ⟨#[]⟩,.string ⟨#[]⟩,.string ⟨#[]⟩]) 0 (by kernel_rfl)
 go_enter Tryz.func24,Tryz.ntmps24
 go_wp2_with fail
 refine(zA0 _).mono ?_
 rintro e w1 ⟨rfl,rfl⟩
 go_wp2_with fail
 refine bodyPost_ret (by simp[results,Tryz.results24,go_sem]) rfl ⟨rfl,?_⟩
 repeat(first|exact Below.refl _ _|refine Below.setCell ?_ (by simp) _|refine Below.alloc ?_ (by first|(simp;done)|(simp;omega)) _)

theorem zIm (w:World):Calls Tryz.prog 21 #[.string ⟨#[101,110]⟩] w fun e w'=>e= .returned (.tuple #[.agg #[.string ⟨#[]⟩,.string ⟨#[105,32,61,32,49,32,97,110,100,32,118,32,61,32,48]⟩,.string ⟨#[]⟩,.string ⟨#[]⟩,.string ⟨#[]⟩],.bool true])∧Below w.heap.size w w':=by
 go_enter Tryz.func21,Tryz.ntmps21
 go_wp2_with fail
 refine bodyPost_ret (by simp[results,Tryz.results21,go_sem]) rfl ⟨rfl,?_⟩
 repeat(first|exact Below.refl _ _|refine Below.setCell ?_ (by simp) _|refine Below.alloc ?_ (by first|(simp;done)|(simp;omega)) _)

theorem zGo (w:World):Calls Tryz.prog 24 #[.string ⟨#[100,101]⟩] w fun e w'=>e= .returned (.tuple #[.agg #[.string ⟨#[]⟩,.string ⟨#[105,32,61,32,49,32,97,110,100,32,118,32,61,32,48]⟩,.string ⟨#[]⟩,.string ⟨#[]⟩,.string ⟨#[]⟩],.nilIface])∧Below w.heap.size w w':=by
 have LK:=zBw w (.cells #[.string ⟨#[]⟩,.string ⟨#[]⟩,.string ⟨#[]⟩,.string ⟨#[]⟩,.string ⟨#[]⟩] 58) (.cells #[.string ⟨#[]⟩,.string ⟨#[105,32,61,32,49,32,97,110,100,32,118,32,61,32,48]⟩,.string ⟨#[]⟩,.string ⟨#[]⟩,.string ⟨#[]⟩] 58) ⟨#[100,101]⟩ (.agg #[.string ⟨#[]⟩,.string ⟨#[105,32,61,32,49,32,97,110,100,32,118,32,61,32,48]⟩,.string ⟨#[]⟩,.string ⟨#[]⟩,.string ⟨#[]⟩]) 1 (by kernel_rfl)
 go_enter Tryz.func24,Tryz.ntmps24
 go_wp2_with fail
 refine(zA0 _).mono ?_
 rintro e w1 ⟨rfl,rfl⟩
 go_wp2_with fail
 refine bodyPost_ret (by simp[results,Tryz.results24,go_sem]) rfl ⟨rfl,?_⟩
 repeat(first|exact Below.refl _ _|refine Below.setCell ?_ (by simp) _|refine Below.alloc ?_ (by first|(simp;done)|(simp;omega)) _)

theorem zIn (w:World):Calls Tryz.prog 21 #[.string ⟨#[100,101]⟩] w fun e w'=>e= .returned (.tuple #[.agg #[.string ⟨#[]⟩,.string ⟨#[105,32,61,32,49,32,97,110,100,32,118,32,61,32,48]⟩,.string ⟨#[]⟩,.string ⟨#[]⟩,.string ⟨#[]⟩],.bool true])∧Below w.heap.size w w':=by
 go_enter Tryz.func21,Tryz.ntmps21
 go_wp2_with fail
 refine bodyPost_ret (by simp[results,Tryz.results21,go_sem]) rfl ⟨rfl,?_⟩
 repeat(first|exact Below.refl _ _|refine Below.setCell ?_ (by simp) _|refine Below.alloc ?_ (by first|(simp;done)|(simp;omega)) _)

theorem zGp (w:World):Calls Tryz.prog 24 #[.string ⟨#[102,114]⟩] w fun e w'=>e= .returned (.tuple #[.agg #[.string ⟨#[]⟩,.string ⟨#[105,32,61,32,48,44,49]⟩,.string ⟨#[]⟩,.string ⟨#[]⟩,.string ⟨#[]⟩],.nilIface])∧Below w.heap.size w w':=by
 have LK:=zBw w (.cells #[.string ⟨#[]⟩,.string ⟨#[]⟩,.string ⟨#[]⟩,.string ⟨#[]⟩,.string ⟨#[]⟩] 58) (.cells #[.string ⟨#[]⟩,.string ⟨#[105,32,61,32,49,32,97,110,100,32,118,32,61,32,48]⟩,.string ⟨#[]⟩,.string ⟨#[]⟩,.string ⟨#[]⟩] 58) ⟨#[102,114]⟩ (.agg #[.string ⟨#[]⟩,.string ⟨#[105,32,61,32,48,44,49]⟩,.string ⟨#[]⟩,.string ⟨#[]⟩,.string ⟨#[]⟩]) 2 (by kernel_rfl)
 go_enter Tryz.func24,Tryz.ntmps24
 go_wp2_with fail
 refine(zA0 _).mono ?_
 rintro e w1 ⟨rfl,rfl⟩
 go_wp2_with fail
 refine bodyPost_ret (by simp[results,Tryz.results24,go_sem]) rfl ⟨rfl,?_⟩
 repeat(first|exact Below.refl _ _|refine Below.setCell ?_ (by simp) _|refine Below.alloc ?_ (by first|(simp;done)|(simp;omega)) _)

theorem zIo (w:World):Calls Tryz.prog 21 #[.string ⟨#[102,114]⟩] w fun e w'=>e= .returned (.tuple #[.agg #[.string ⟨#[]⟩,.string ⟨#[105,32,61,32,48,44,49]⟩,.string ⟨#[]⟩,.string ⟨#[]⟩,.string ⟨#[]⟩],.bool true])∧Below w.heap.size w w':=by
 go_enter Tryz.func21,Tryz.ntmps21
 go_wp2_with fail
 refine bodyPost_ret (by simp[results,Tryz.results21,go_sem]) rfl ⟨rfl,?_⟩
 repeat(first|exact Below.refl _ _|refine Below.setCell ?_ (by simp) _|refine Below.alloc ?_ (by first|(simp;done)|(simp;omega)) _)

theorem zGq (w:World):Calls Tryz.prog 24 #[.string ⟨#[106,97]⟩] w fun e w'=>e= .returned (.tuple #[.agg #[.string ⟨#[]⟩,.string ⟨#[]⟩,.string ⟨#[]⟩,.string ⟨#[]⟩,.string ⟨#[]⟩],.nilIface])∧Below w.heap.size w w':=by
 have LK:=zBw w (.cells #[.string ⟨#[]⟩,.string ⟨#[]⟩,.string ⟨#[]⟩,.string ⟨#[]⟩,.string ⟨#[]⟩] 58) (.cells #[.string ⟨#[]⟩,.string ⟨#[105,32,61,32,49,32,97,110,100,32,118,32,61,32,48]⟩,.string ⟨#[]⟩,.string ⟨#[]⟩,.string ⟨#[]⟩] 58) ⟨#[106,97]⟩ (.agg #[.string ⟨#[]⟩,.string ⟨#[]⟩,.string ⟨#[]⟩,.string ⟨#[]⟩,.string ⟨#[]⟩]) 3 (by kernel_rfl)
 go_enter Tryz.func24,Tryz.ntmps24
 go_wp2_with fail
 refine(zA0 _).mono ?_
 rintro e w1 ⟨rfl,rfl⟩
 go_wp2_with fail
 refine bodyPost_ret (by simp[results,Tryz.results24,go_sem]) rfl ⟨rfl,?_⟩
 repeat(first|exact Below.refl _ _|refine Below.setCell ?_ (by simp) _|refine Below.alloc ?_ (by first|(simp;done)|(simp;omega)) _)

theorem zIp (w:World):Calls Tryz.prog 21 #[.string ⟨#[106,97]⟩] w fun e w'=>e= .returned (.tuple #[.agg #[.string ⟨#[]⟩,.string ⟨#[]⟩,.string ⟨#[]⟩,.string ⟨#[]⟩,.string ⟨#[]⟩],.bool true])∧Below w.heap.size w w':=by
 go_enter Tryz.func21,Tryz.ntmps21
 go_wp2_with fail
 refine bodyPost_ret (by simp[results,Tryz.results21,go_sem]) rfl ⟨rfl,?_⟩
 repeat(first|exact Below.refl _ _|refine Below.setCell ?_ (by simp) _|refine Below.alloc ?_ (by first|(simp;done)|(simp;omega)) _)

theorem zGr (w:World):Calls Tryz.prog 24 #[.string ⟨#[112,108]⟩] w fun e w'=>e= .returned (.tuple #[.agg #[.string ⟨#[]⟩,.string ⟨#[105,32,61,32,49,32,97,110,100,32,118,32,61,32,48]⟩,.string ⟨#[]⟩,.string ⟨#[118,32,61,32,48,32,97,110,100,32,105,32,37,32,49,48,32,61,32,50,46,46,52,32,97,110,100,32,105,32,37,32,49,48,48,32,33,61,32,49,50,46,46,49,52]⟩,.string ⟨#[118,32,61,32,48,32,97,110,100,32,105,32,33,61,32,49,32,97,110,100,32,105,32,37,32,49,48,32,61,32,48,46,46,49,32,111,114,32,118,32,61,32,48,32,97,110,100,32,105,32,37,32,49,48,32,61,32,53,46,46,57,32,111,114,32,118,32,61,32,48,32,97,110,100,32,105,32,37,32,49,48,48,32,61,32,49,50,46,46,49,52]⟩],.nilIface])∧Below w.heap.size w w':=by
 have LK:=zBw w (.cells #[.string ⟨#[]⟩,.string ⟨#[]⟩,.string ⟨#[]⟩,.string ⟨#[]⟩,.string ⟨#[]⟩] 58) (.cells #[.string ⟨#[]⟩,.string ⟨#[105,32,61,32,49,32,97,110,100,32,118,32,61,32,48]⟩,.string ⟨#[]⟩,.string ⟨#[]⟩,.string ⟨#[]⟩] 58) ⟨#[112,108]⟩ (.agg #[.string ⟨#[]⟩,.string ⟨#[105,32,61,32,49,32,97,110,100,32,118,32,61,32,48]⟩,.string ⟨#[]⟩,.string ⟨#[118,32,61,32,48,32,97,110,100,32,105,32,37,32,49,48,32,61,32,50,46,46,52,32,97,110,100,32,105,32,37,32,49,48,48,32,33,61,32,49,50,46,46,49,52]⟩,.string ⟨#[118,32,61,32,48,32,97,110,100,32,105,32,33,61,32,49,32,97,110,100,32,105,32,37,32,49,48,32,61,32,48,46,46,49,32,111,114,32,118,32,61,32,48,32,97,110,100,32,105,32,37,32,49,48,32,61,32,53,46,46,57,32,111,114,32,118,32,61,32,48,32,97,110,100,32,105,32,37,32,49,48,48,32,61,32,49,50,46,46,49,52]⟩]) 4 (by kernel_rfl)
 go_enter Tryz.func24,Tryz.ntmps24
 go_wp2_with fail
 refine(zA0 _).mono ?_
 rintro e w1 ⟨rfl,rfl⟩
 go_wp2_with fail
 refine bodyPost_ret (by simp[results,Tryz.results24,go_sem]) rfl ⟨rfl,?_⟩
 repeat(first|exact Below.refl _ _|refine Below.setCell ?_ (by simp) _|refine Below.alloc ?_ (by first|(simp;done)|(simp;omega)) _)

theorem zIq (w:World):Calls Tryz.prog 21 #[.string ⟨#[112,108]⟩] w fun e w'=>e= .returned (.tuple #[.agg #[.string ⟨#[]⟩,.string ⟨#[105,32,61,32,49,32,97,110,100,32,118,32,61,32,48]⟩,.string ⟨#[]⟩,.string ⟨#[118,32,61,32,48,32,97,110,100,32,105,32,37,32,49,48,32,61,32,50,46,46,52,32,97,110,100,32,105,32,37,32,49,48,48,32,33,61,32,49,50,46,46,49,52]⟩,.string ⟨#[118,32,61,32,48,32,97,110,100,32,105,32,33,61,32,49,32,97,110,100,32,105,32,37,32,49,48,32,61,32,48,46,46,49,32,111,114,32,118,32,61,32,48,32,97,110,100,32,105,32,37,32,49,48,32,61,32,53,46,46,57,32,111,114,32,118,32,61,32,48,32,97,110,100,32,105,32,37,32,49,48,48,32,61,32,49,50,46,46,49,52]⟩],.bool true])∧Below w.heap.size w w':=by
 go_enter Tryz.func21,Tryz.ntmps21
 go_wp2_with fail
 refine bodyPost_ret (by simp[results,Tryz.results21,go_sem]) rfl ⟨rfl,?_⟩
 repeat(first|exact Below.refl _ _|refine Below.setCell ?_ (by simp) _|refine Below.alloc ?_ (by first|(simp;done)|(simp;omega)) _)

theorem zGs (w:World):Calls Tryz.prog 24 #[.string ⟨#[114,117]⟩] w fun e w'=>e= .returned (.tuple #[.agg #[.string ⟨#[]⟩,.string ⟨#[118,32,61,32,48,32,97,110,100,32,105,32,37,32,49,48,32,61,32,49,32,97,110,100,32,105,32,37,32,49,48,48,32,33,61,32,49,49]⟩,.string ⟨#[]⟩,.string ⟨#[118,32,61,32,48,32,97,110,100,32,105,32,37,32,49,48,32,61,32,50,46,46,52,32,97,110,100,32,105,32,37,32,49,48,48,32,33,61,32,49,50,46,46,49,52]⟩,.string ⟨#[118,32,61,32,48,32,97,110,100,32,105,32,37,32,49,48,32,61,32,48,32,111,114,32,118,32,61,32,48,32,97,110,100,32,105,32,37,32,49,48,32,61,32,53,46,46,57,32,111,114,32,118,32,61,32,48,32,97,110,100,32,105,32,37,32,49,48,48,32,61,32,49,49,46,46,49,52]⟩],.nilIface])∧Below w.heap.size w w':=by
 have LK:=zBw w (.cells #[.string ⟨#[]⟩,.string ⟨#[]⟩,.string ⟨#[]⟩,.string ⟨#[]⟩,.string ⟨#[]⟩] 58) (.cells #[.string ⟨#[]⟩,.string ⟨#[105,32,61,32,49,32,97,110,100,32,118,32,61,32,48]⟩,.string ⟨#[]⟩,.string ⟨#[]⟩,.string ⟨#[]⟩] 58) ⟨#[114,117]⟩ (.agg #[.string ⟨#[]⟩,.string ⟨#[118,32,61,32,48,32,97,110,100,32,105,32,37,32,49,48,32,61,32,49,32,97,110,100,32,105,32,37,32,49,48,48,32,33,61,32,49,49]⟩,.string ⟨#[]⟩,.string ⟨#[118,32,61,32,48,32,97,110,100,32,105,32,37,32,49,48,32,61,32,50,46,46,52,32,97,110,100,32,105,32,37,32,49,48,48,32,33,61,32,49,50,46,46,49,52]⟩,.string ⟨#[118,32,61,32,48,32,97,110,100,32,105,32,37,32,49,48,32,61,32,48,32,111,114,32,118,32,61,32,48,32,97,110,100,32,105,32,37,32,49,48,32,61,32,53,46,46,57,32,111,114,32,118,32,61,32,48,32,97,110,100,32,105,32,37,32,49,48,48,32,61,32,49,49,46,46,49,52]⟩]) 5 (by kernel_rfl)
 go_enter Tryz.func24,Tryz.ntmps24
 go_wp2_with fail
 refine(zA0 _).mono ?_
 rintro e w1 ⟨rfl,rfl⟩
 go_wp2_with fail
 refine bodyPost_ret (by simp[results,Tryz.results24,go_sem]) rfl ⟨rfl,?_⟩
 repeat(first|exact Below.refl _ _|refine Below.setCell ?_ (by simp) _|refine Below.alloc ?_ (by first|(simp;done)|(simp;omega)) _)

theorem zIr (w:World):Calls Tryz.prog 21 #[.string ⟨#[114,117]⟩] w fun e w'=>e= .returned (.tuple #[.agg #[.string ⟨#[]⟩,.string ⟨#[118,32,61,32,48,32,97,110,100,32,105,32,37,32,49,48,32,61,32,49,32,97,110,100,32,105,32,37,32,49,48,48,32,33,61,32,49,49]⟩,.string ⟨#[]⟩,.string ⟨#[118,32,61,32,48,32,97,110,100,32,105,32,37,32,49,48,32,61,32,50,46,46,52,32,97,110,100,32,105,32,37,32,49,48,48,32,33,61,32,49,50,46,46,49,52]⟩,.string ⟨#[118,32,61,32,48,32,97,110,100,32,105,32,37,32,49,48,32,61,32,48,32,111,114,32,118,32,61,32,48,32,97,110,100,32,105,32,37,32,49,48,32,61,32,53,46,46,57,32,111,114,32,118,32,61,32,48,32,97,110,100,32,105,32,37,32,49,48,48,32,61,32,49,49,46,46,49,52]⟩],.bool true])∧Below w.heap.size w w':=by
 go_enter Tryz.func21,Tryz.ntmps21
 go_wp2_with fail
 refine bodyPost_ret (by simp[results,Tryz.results21,go_sem]) rfl ⟨rfl,?_⟩
 repeat(first|exact Below.refl _ _|refine Below.setCell ?_ (by simp) _|refine Below.alloc ?_ (by first|(simp;done)|(simp;omega)) _)

theorem zGt (w:World):Calls Tryz.prog 24 #[.string ⟨#[97,114]⟩] w fun e w'=>e= .returned (.tuple #[.agg #[.string ⟨#[110,32,61,32,48]⟩,.string ⟨#[110,32,61,32,49]⟩,.string ⟨#[110,32,61,32,50]⟩,.string ⟨#[110,32,37,32,49,48,48,32,61,32,51,46,46,49,48]⟩,.string ⟨#[110,32,37,32,49,48,48,32,61,32,49,49,46,46,57,57]⟩],.nilIface])∧Below w.heap.size w w':=by
 have LK:=zBw w (.cells #[.string ⟨#[]⟩,.string ⟨#[]⟩,.string ⟨#[]⟩,.string ⟨#[]⟩,.string ⟨#[]⟩] 58) (.cells #[.string ⟨#[]⟩,.string ⟨#[105,32,61,32,49,32,97,110,100,32,118,32,61,32,48]⟩,.string ⟨#[]⟩,.string ⟨#[]⟩,.string ⟨#[]⟩] 58) ⟨#[97,114]⟩ (.agg #[.string ⟨#[110,32,61,32,48]⟩,.string ⟨#[110,32,61,32,49]⟩,.string ⟨#[110,32,61,32,50]⟩,.string ⟨#[110,32,37,32,49,48,48,32,61,32,51,46,46,49,48]⟩,.string ⟨#[110,32,37,32,49,48,48,32,61,32,49,49,46,46,57,57]⟩]) 6 (by kernel_rfl)
 go_enter Tryz.func24,Tryz.ntmps24
 go_wp2_with fail
 refine(zA0 _).mono ?_
 rintro e w1 ⟨rfl,rfl⟩
 go_wp2_with fail
 refine bodyPost_ret (by simp[results,Tryz.results24,go_sem]) rfl ⟨rfl,?_⟩
 repeat(first|exact Below.refl _ _|refine Below.setCell ?_ (by simp) _|refine Below.alloc ?_ (by first|(simp;done)|(simp;omega)) _)

theorem zIs (w:World):Calls Tryz.prog 21 #[.string ⟨#[97,114]⟩] w fun e w'=>e= .returned (.tuple #[.agg #[.string ⟨#[110,32,61,32,48]⟩,.string ⟨#[110,32,61,32,49]⟩,.string ⟨#[110,32,61,32,50]⟩,.string ⟨#[110,32,37,32,49,48,48,32,61,32,51,46,46,49,48]⟩,.string ⟨#[110,32,37,32,49,48,48,32,61,32,49,49,46,46,57,57]⟩],.bool true])∧Below w.heap.size w w':=by
 go_enter Tryz.func21,Tryz.ntmps21
 go_wp2_with fail
 refine bodyPost_ret (by simp[results,Tryz.results21,go_sem]) rfl ⟨rfl,?_⟩
 repeat(first|exact Below.refl _ _|refine Below.setCell ?_ (by simp) _|refine Below.alloc ?_ (by first|(simp;done)|(simp;omega)) _)

theorem zGu (w:World):Calls Tryz.prog 24 #[.string ⟨#[108,118]⟩] w fun e w'=>e= .returned (.tuple #[.agg #[.string ⟨#[110,32,37,32,49,48,32,61,32,48,32,111,114,32,110,32,37,32,49,48,48,32,61,32,49,49,46,46,49,57,32,111,114,32,118,32,61,32,50,32,97,110,100,32,102,32,37,32,49,48,48,32,61,32,49,49,46,46,49,57]⟩,.string ⟨#[110,32,37,32,49,48,32,61,32,49,32,97,110,100,32,110,32,37,32,49,48,48,32,33,61,32,49,49,32,111,114,32,118,32,61,32,50,32,97,110,100,32,102,32,37,32,49,48,32,61,32,49,32,97,110,100,32,102,32,37,32,49,48,48,32,33,61,32,49,49,32,111,114,32,118,32,33,61,32,50,32,97,110,100,32,102,32,37,32,49,48,32,61,32,49]⟩,.string ⟨#[]⟩,.string ⟨#[]⟩,.string ⟨#[]⟩],.nilIface])∧Below w.heap.size w w':=by
 have LK:=zBw w (.cells #[.string ⟨#[]⟩,.string ⟨#[]⟩,.string ⟨#[]⟩,.string ⟨#[]⟩,.string ⟨#[]⟩] 58) (.cells #[.string ⟨#[]⟩,.string ⟨#[105,32,61,32,49,32,97,110,100,32,118,32,61,32,48]⟩,.string ⟨#[]⟩,.string ⟨#[]⟩,.string ⟨#[]⟩] 58) ⟨#[108,118]⟩ (.agg #[.string ⟨#[110,32,37,32,49,48,32,61,32,48,32,111,114,32,110,32,37,32,49,48,48,32,61,32,49,49,46,46,49,57,32,111,114,32,118,32,61,32,50,32,97,110,100,32,102,32,37,32,49,48,48,32,61,32,49,49,46,46,49,57]⟩,.string ⟨#[110,32,37,32,49,48,32,61,32,49,32,97,110,100,32,110,32,37,32,49,48,48,32,33,61,32,49,49,32,111,114,32,118,32,61,32,50,32,97,110,100,32,102,32,37,32,49,48,32,61,32,49,32,97,110,100,32,102,32,37,32,49,48,48,32,33,61,32,49,49,32,111,114,32,118,32,33,61,32,50,32,97,110,100,32,102,32,37,32,49,48,32,61,32,49]⟩,.string ⟨#[]⟩,.string ⟨#[]⟩,.string ⟨#[]⟩]) 7 (by kernel_rfl)
 go_enter Tryz.func24,Tryz.ntmps24
 go_wp2_with fail
 refine(zA0 _).mono ?_
 rintro e w1 ⟨rfl,rfl⟩
 go_wp2_with fail
 refine bodyPost_ret (by simp[results,Tryz.results24,go_sem]) rfl ⟨rfl,?_⟩
 repeat(first|exact Below.refl _ _|refine Below.setCell ?_ (by simp) _|refine Below.alloc ?_ (by first|(simp;done)|(simp;omega)) _)

theorem zIt (w:World):Calls Tryz.prog 21 #[.string ⟨#[108,118]⟩] w fun e w'=>e= .returned (.tuple #[.agg #[.string ⟨#[110,32,37,32,49,48,32,61,32,48,32,111,114,32,110,32,37,32,49,48,48,32,61,32,49,49,46,46,49,57,32,111,114,32,118,32,61,32,50,32,97,110,100,32,102,32,37,32,49,48,48,32,61,32,49,49,46,46,49,57]⟩,.string ⟨#[110,32,37,32,49,48,32,61,32,49,32,97,110,100,32,110,32,37,32,49,48,48,32,33,61,32,49,49,32,111,114,32,118,32,61,32,50,32,97,110,100,32,102,32,37,32,49,48,32,61,32,49,32,97,110,100,32,102,32,37,32,49,48,48,32,33,61,32,49,49,32,111,114,32,118,32,33,61,32,50,32,97,110,100,32,102,32,37,32,49,48,32,61,32,49]⟩,.string ⟨#[]⟩,.string ⟨#[]⟩,.string ⟨#[]⟩],.bool true])∧Below w.heap.size w w':=by
 go_enter Tryz.func21,Tryz.ntmps21
 go_wp2_with fail
 refine bodyPost_ret (by simp[results,Tryz.results21,go_sem]) rfl ⟨rfl,?_⟩
 repeat(first|exact Below.refl _ _|refine Below.setCell ?_ (by simp) _|refine Below.alloc ?_ (by first|(simp;done)|(simp;omega)) _)

theorem zJB (l:List UInt8) (h0:(l== [101,110])=false) (h1:(l== [100,101])=false) (h2:(l== [102,114])=false) (h3:(l== [106,97])=false) (h4:(l== [112,108])=false) (h5:(l== [114,117])=false) (h6:(l== [97,114])=false) (h7:(l== [108,118])=false):Instr.findNow .string (.string ⟨l.toArray⟩) lgE8.toList 0=some none:=by
 have g: ∀(a:List UInt8),(l==a)=false→((⟨l.toArray⟩:ByteArray)==⟨a.toArray⟩)=false:=fun a h=>by
  show(l.toArray==a.toArray)=false
  rw[beq_eq_false_iff_ne] at h⊢
  intro e
  exact h (by simpa using e)
 have g0:=g _ h0
 have g1:=g _ h1
 have g2:=g _ h2
 have g3:=g _ h3
 have g4:=g _ h4
 have g5:=g _ h5
 have g6:=g _ h6
 have g7:=g _ h7
 simp[lgE8,lgE7,lgE6,lgE5,lgE4,lgE3,lgE2,lgE1,lgE0,Instr.findNow,Instr.sameNow,g0,g1,g2,g3,g4,g5,g6,g7]

theorem zGv (w:World) (l:List UInt8) (h0:(l== [101,110])=false) (h1:(l== [100,101])=false) (h2:(l== [102,114])=false) (h3:(l== [106,97])=false) (h4:(l== [112,108])=false) (h5:(l== [114,117])=false) (h6:(l== [97,114])=false) (h7:(l== [108,118])=false):Calls Tryz.prog 24 #[.string ⟨l.toArray⟩] w fun e w'=>e= .returned (.tuple #[.agg #[.string ⟨#[]⟩,.string ⟨#[]⟩,.string ⟨#[]⟩,.string ⟨#[]⟩,.string ⟨#[]⟩],errV 2])∧Below w.heap.size w w':=by
 have hz: ∀w,(zeroValue 58).run Tryz.prog w= .ok (.agg #[.string ⟨#[]⟩,.string ⟨#[]⟩,.string ⟨#[]⟩,.string ⟨#[]⟩,.string ⟨#[]⟩]) w:=fun w=>by kernel_rfl
 have LK:(Instr.lookup 118 (.map (some (w.heap.size+1+1))) (.string ⟨l.toArray⟩) true).run Tryz.prog (((w.alloc (.cells #[.string ⟨#[]⟩,.string ⟨#[]⟩,.string ⟨#[]⟩,.string ⟨#[]⟩,.string ⟨#[]⟩] 58)).alloc (.cells #[.string ⟨#[]⟩,.string ⟨#[105,32,61,32,49,32,97,110,100,32,118,32,61,32,48]⟩,.string ⟨#[]⟩,.string ⟨#[]⟩,.string ⟨#[]⟩] 58)).alloc (.map lgE8 8))= .ok (.tuple #[.agg #[.string ⟨#[]⟩,.string ⟨#[]⟩,.string ⟨#[]⟩,.string ⟨#[]⟩,.string ⟨#[]⟩],.bool false]) (((w.alloc (.cells #[.string ⟨#[]⟩,.string ⟨#[]⟩,.string ⟨#[]⟩,.string ⟨#[]⟩,.string ⟨#[]⟩] 58)).alloc (.cells #[.string ⟨#[]⟩,.string ⟨#[105,32,61,32,49,32,97,110,100,32,118,32,61,32,48]⟩,.string ⟨#[]⟩,.string ⟨#[]⟩,.string ⟨#[]⟩] 58)).alloc (.map lgE8 8)):=
  map_none (P:= Tryz.prog) 118 9 58 Tryz.underlying118 Tryz.underlying9 lgE8 8 (w.heap.size+1+1) ⟨l.toArray⟩ (.agg #[.string ⟨#[]⟩,.string ⟨#[]⟩,.string ⟨#[]⟩,.string ⟨#[]⟩,.string ⟨#[]⟩]) _ (hz _) (zCm _ _ _ (by simp)) (zJB l h0 h1 h2 h3 h4 h5 h6 h7)
 clear h0 h1 h2 h3 h4 h5 h6 h7 hz
 go_enter Tryz.func24,Tryz.ntmps24
 go_wp2_with fail
 refine(zA0 _).mono ?_
 rintro e w1 ⟨rfl,rfl⟩
 go_wp2_with fail
 refine bodyPost_ret (by simp[results,Tryz.results24,go_sem]) rfl ⟨rfl,?_⟩
 repeat(first|exact Below.refl _ _|refine Below.setCell ?_ (by simp) _|refine Below.alloc ?_ (by first|(simp;done)|(simp;omega)) _)

theorem zIu (w:World) (l:List UInt8) (h0:(l== [101,110])=false) (h1:(l== [100,101])=false) (h2:(l== [102,114])=false) (h3:(l== [106,97])=false) (h4:(l== [112,108])=false) (h5:(l== [114,117])=false) (h6:(l== [97,114])=false) (h7:(l== [108,118])=false):Calls Tryz.prog 21 #[.string ⟨l.toArray⟩] w fun e w'=>e= .returned (.tuple #[.agg #[.string ⟨#[]⟩,.string ⟨#[]⟩,.string ⟨#[]⟩,.string ⟨#[]⟩,.string ⟨#[]⟩],.bool false])∧Below w.heap.size w w':=by
 go_enter Tryz.func21,Tryz.ntmps21
 go_wp2_with fail
 refine bodyPost_ret (by simp[results,Tryz.results21,go_sem]) rfl ⟨rfl,?_⟩
 repeat(first|exact Below.refl _ _|refine Below.setCell ?_ (by simp) _|refine Below.alloc ?_ (by first|(simp;done)|(simp;omega)) _)

end Go.Proofs.YtjlchookakbomaaGreatDoor
namespace Rul
open Go Go.Lib Go.Proofs.YtjlchookakbomaaGreatDoor

def lvZeroR:Rule:= [[⟨110,10,false,[(0,0)]⟩],[⟨110,100,false,[(11,19)]⟩],[⟨118,0,false,[(2,2)]⟩,⟨102,100,false,[(11,19)]⟩]]
def lvZeroS:List UInt8:= [110,32,37,32,49,48,32,61,32,48,32,111,114,32,110,32,37,32,49,48,48,32,61,32,49,49,46,46,49,57,32,111,114,32,118,32,61,32,50,32,97,110,100,32,102,32,37,32,49,48,48,32,61,32,49,49,46,46,49,57]
theorem zKT:parseOk lvZeroS=true∧ruleP lvZeroS=lvZeroR:=by
 have:=zAu (r:=lvZeroR) (by decide)
 rwa [show ruleT lvZeroR=lvZeroS by decide+kernel] at this
def lvOneR:Rule:= [[⟨110,10,false,[(1,1)]⟩,⟨110,100,true,[(11,11)]⟩],[⟨118,0,false,[(2,2)]⟩,⟨102,10,false,[(1,1)]⟩,⟨102,100,true,[(11,11)]⟩],[⟨118,0,true,[(2,2)]⟩,⟨102,10,false,[(1,1)]⟩]]
def lvOneS:List UInt8:= [110,32,37,32,49,48,32,61,32,49,32,97,110,100,32,110,32,37,32,49,48,48,32,33,61,32,49,49,32,111,114,32,118,32,61,32,50,32,97,110,100,32,102,32,37,32,49,48,32,61,32,49,32,97,110,100,32,102,32,37,32,49,48,48,32,33,61,32,49,49,32,111,114,32,118,32,33,61,32,50,32,97,110,100,32,102,32,37,32,49,48,32,61,32,49]
theorem zMs:parseOk lvOneS=true∧ruleP lvOneS=lvOneR:=by
 have:=zAu (r:=lvOneR) (by decide)
 rwa [show ruleT lvOneR=lvOneS by decide+kernel] at this
def lvL:List (List UInt8):= [lvZeroS,lvOneS,[],[],[]]
theorem zNV:setOk lvL=true:=by simp[setOk,lvL,zAH zKT,zAH zMs,zBW]
end Rul
namespace Go.Proofs.YtjlchookakbomaaGreatDoor
open Go.RowKit
def setV (t0 t1 t2 t3 t4:List UInt8):Value:= .agg #[.string ⟨t0.toArray⟩,.string ⟨t1.toArray⟩,.string ⟨t2.toArray⟩,.string ⟨t3.toArray⟩,.string ⟨t4.toArray⟩]
def SetFine (t0 t1 t2 t3 t4:List UInt8):Prop:=Rul.setOk [t0,t1,t2,t3,t4]=true∧ ∀t∈ [t0,t1,t2,t3,t4],t.length≤100000000
theorem zAR {l:List (List UInt8)} {t0 t1 t2 t3 t4:List UInt8} (e:l= [t0,t1,t2,t3,t4]) (h:Rul.setOk l=true) (hb:(l.all fun t=>decide (t.length≤1000))=true):SetFine t0 t1 t2 t3 t4:=by
 subst e
 refine⟨h,fun t ht=>?_⟩
 have:=List.all_eq_true.1 hb t ht
 have:=of_decide_eq_true this
 omega
theorem zKU (l:List UInt8): ∃(t0 t1 t2 t3 t4:List UInt8) (b:Bool),SetFine t0 t1 t2 t3 t4∧(b=false→t0= []∧t1= []∧t2= []∧t3= []∧t4= [])∧
  (∀w:World,Calls Tryz.prog 24 #[.string ⟨l.toArray⟩] w fun e w'=>e= .returned (.tuple #[setV t0 t1 t2 t3 t4,if b then .nilIface else errV 2])∧Below w.heap.size w w')∧
  (∀w:World,Calls Tryz.prog 21 #[.string ⟨l.toArray⟩] w fun e w'=>e= .returned (.tuple #[setV t0 t1 t2 t3 t4,.bool b])∧Below w.heap.size w w'):=by

 by_cases h0:l= [101,110]
 ·subst h0;exact⟨_,_,_,_,_,true,zAR rfl Rul.zLE (by decide+kernel),by simp,zGn,zIm⟩
 by_cases h1:l= [100,101]
 ·subst h1;exact⟨_,_,_,_,_,true,zAR rfl Rul.zLE (by decide+kernel),by simp,zGo,zIn⟩
 by_cases h2:l= [102,114]
 ·subst h2;exact⟨_,_,_,_,_,true,zAR rfl Rul.zNU (by decide+kernel),by simp,zGp,zIo⟩
 by_cases h3:l= [106,97]
 ·subst h3;exact⟨_,_,_,_,_,true,zAR rfl Rul.zLF (by decide+kernel),by simp,zGq,zIp⟩
 by_cases h4:l= [112,108]
 ·subst h4;exact⟨_,_,_,_,_,true,zAR rfl Rul.zNS (by decide+kernel),by simp,zGr,zIq⟩
 by_cases h5:l= [114,117]
 ·subst h5;exact⟨_,_,_,_,_,true,zAR rfl Rul.zNR (by decide+kernel),by simp,zGs,zIr⟩
 by_cases h6:l= [97,114]
 ·subst h6;exact⟨_,_,_,_,_,true,zAR rfl Rul.zNT (by decide+kernel),by simp,zGt,zIs⟩
 by_cases h7:l= [108,118]
 ·subst h7;exact⟨_,_,_,_,_,true,zAR rfl Rul.zNV (by decide+kernel),by simp,zGu,zIt⟩
 have q: ∀a:List UInt8,l≠a→(l==a)=false:=fun a h=>beq_eq_false_iff_ne.2 h
 exact⟨[],[],[],[],[],false,zAR rfl Rul.zLF (by decide+kernel),fun _=>⟨rfl,rfl,rfl,rfl,rfl⟩,fun w=>zGv w l (q _ h0) (q _ h1) (q _ h2) (q _ h3) (q _ h4) (q _ h5) (q _ h6) (q _ h7),fun w=>zIu w l (q _ h0) (q _ h1) (q _ h2) (q _ h3) (q _ h4) (q _ h5) (q _ h6) (q _ h7)⟩
open Go.RowKit

def RngI (S:Nat→Prop) (w:World) (b k:Nat) (p:Int×Int):Prop:=S b∧RngC w b k p
def RelI (S:Nat→Prop) (w:World) (b k:Nat) (r:Rul.Rl):Prop:=S b∧ ∃a n c,w.cell? ⟨b,k,none⟩=some (.int .u8 (r.op.toNat:Int))∧w.cell? ⟨b,k+1,none⟩=some (.int .i64 r.mod)∧w.cell? ⟨b,k+2,none⟩=some (.bool r.no)∧w.cell? ⟨b,k+3,none⟩=some (.slice a n c)∧SlAt 2 (RngI S) w (.slice a n c) r.rs
theorem SlAt.into {α:Type} {m:Nat} {C D:World→Nat→Nat→α→Prop} {w w':World} {v:Value} {l:List α} (h:SlAt m C w v l) (hC: ∀b k x,C w b k x→D w' b k x):SlAt m D w' v l:=by
 rcases h with h|⟨b,off,cap,h1,h2,h3,h4,h5⟩
 ·exact .inl h
 exact .inr ⟨b,off,cap,h1,h2,h3,h4,fun j x hx=>hC _ _ _ (h5 j x hx)⟩
def SameOn (S:Nat→Prop) (A C:World):Prop:= ∀b,S b→C.heap[b]?=A.heap[b]?
theorem SameOn.cell {S:Nat→Prop} {A C:World} (h:SameOn S A C) {b k:Nat} {v:Value} (hb:S b) (hc:A.cell? ⟨b,k,none⟩=some v):C.cell? ⟨b,k,none⟩=some v:=
 (World.cell?_of_block (a:=⟨b,k,none⟩) (h b hb)).trans hc
theorem zA1 {S T:Nat→Prop} {A C:World} {v:Value} {l:List (Int×Int)} (hs:SlAt 2 (RngI S) A v l) (h:SameOn S A C) (hT: ∀b,S b→T b):SlAt 2 (RngI T) C v l:=
 hs.into fun _ _ _ g=>⟨hT _ g.1,h.cell g.1 g.2.1,h.cell g.1 g.2.2⟩
theorem zA2 {S T:Nat→Prop} {A C:World} {v:Value} {l:List Rul.Rl} (hs:SlAt 4 (RelI S) A v l) (h:SameOn S A C) (hT: ∀b,S b→T b):SlAt 4 (RelI T) C v l:=
 hs.into fun _ _ _ g=>by
  obtain⟨g,a,n,c,x0,x1,x2,x3,xs⟩:=g
  exact⟨hT _ g,a,n,c,h.cell g x0,h.cell g x1,h.cell g x2,h.cell g x3,zA1 xs h hT⟩
theorem zDJ {S:Nat→Prop} {A:World} {v:Value} {l:List Rul.Rl} (hs:SlAt 4 (RelI S) A v l):SlAt 4 RelC A v l:=
 hs.into fun _ _ _ g=>by
  obtain⟨_,a,n,c,x0,x1,x2,x3,xs⟩:=g
  exact⟨a,n,c,x0,x1,x2,x3,xs.into fun _ _ _ k=>k.2⟩
open Go.RowKit Go.Shelf

def IsC (W:World) (b:Nat):Prop:= ∃o,W.heap[b]?=some o∧o.isCells=true
theorem IsC.lt {W:World} {b:Nat} (h:IsC W b):b<W.heap.size:=by
 obtain⟨o,h,_⟩:=h
 exact(Array.getElem?_eq_some_iff.1 h).1
theorem IsC.grown {A C:World} {r:Option Nat} {b:Nat} (h:IsC A b) (g:A.grownBy C r) (hr:some b≠r):IsC C b:=by
 have hl:=h.lt
 obtain⟨o,h,k⟩:=h
 exact⟨o,(g.block b hl hr).trans h,k⟩
theorem IsC.of_cell {W:World} {b k:Nat} {v:Value} (h:W.cell? ⟨b,k,none⟩=some v):IsC W b:=by
 unfold World.cell? at h
 split at h
 ·rename_i c x y hc
  exact⟨_,hc,rfl⟩
 cases h
theorem IsC.row {W:World} {base n k:Nat} {e:TypeId} {v:Value} {xs:List Value} (h:W.ownsRow base e k v n xs) {b:Nat} (hb:v.ownBlock=some b):IsC W b:=by
 rcases h.2 with⟨rfl,_⟩|⟨g,cap,cur,rfl,_,hg,_⟩
 ·cases hb
 injection hb with hb
 subst hb
 exact⟨_,hg,rfl⟩
theorem IsC.not {W:World} {b:Nat} {o:Obj} (h:IsC W b) (ho:W.heap[b]?=some o) (hc:o.isCells=false):False:=by
 obtain⟨o',h,k⟩:=h
 rw[ho] at h
 injection h with h
 subst h
 rw[hc] at k
 cases k

structure Own (base:Nat) (S:Nat→Prop) (v:Value) (W:World):Prop where
 ge: ∀b,S b→base≤b
 ne: ∀b,S b→v.ownBlock≠some b
 is: ∀b,S b→IsC W b
theorem Own.grown {base:Nat} {S:Nat→Prop} {v:Value} {A C:World} {r:Option Nat} (h:Own base S v A) (g:A.grownBy C r) (hr: ∀b,S b→some b≠r):Own base S v C:=
 ⟨h.ge,h.ne,fun b hb=>(h.is b hb).grown g (hr b hb)⟩
theorem zAK {base:Nat} {S:Nat→Prop} {v:Value} {A C:World} {r:Option Nat} (h:Own base S v A) (g:A.grownBy C r) (hr: ∀b,S b→some b≠r):SameOn S A C:=
 fun b hb=>g.block b (h.is b hb).lt (hr b hb)

theorem zBh {B:Nat} {W0 A C:World} {r:Option Nat} (h:KeepsFrom B W0 A) (g:A.grownBy C r) (hr: ∀k,r=some k→W0.heap.size≤k∨IsC A k∨k<B):KeepsFrom B W0 C:=
 ⟨Nat.le_trans h.size g.size,fun k o hk hA hc=>by
  have e:=h.same k o hk hA hc
  refine(g.block k (Array.getElem?_eq_some_iff.1 e).1 (fun e'=>?_)).trans e
  rcases hr k e'.symm with h1|h1|h1
  ·have:=(Array.getElem?_eq_some_iff.1 hA).1;omega
  ·exact h1.not e hc
  omega⟩
theorem zBx {n₀ bp bs bv:Nat} {W0 A C:World} {r:Option Nat} (h:KpS n₀ bp bs bv W0 A) (g:A.grownBy C r) (h0:n₀≤A.heap.size) (h1:bp<A.heap.size∧bs<A.heap.size∧bv<A.heap.size)
  (hr: ∀k,r=some k→n₀≤k∧k≠bp∧k≠bs∧k≠bv):KpS n₀ bp bs bv W0 C:=
 ⟨h.low.grown g h0 (fun k hk=>(hr k hk).1),(g.block bp h1.1 (fun e=>(hr _ e.symm).2.1 rfl)).trans h.p,(g.block bs h1.2.1 (fun e=>(hr _ e.symm).2.2.1 rfl)).trans h.s,(g.block bv h1.2.2 (fun e=>(hr _ e.symm).2.2.2 rfl)).trans h.v⟩
theorem zAU {A C:World} (hb:Below A.heap.size A C):A.grownBy C none:=⟨hb.os,hb.tape,hb.output,hb.size,fun k hk _=>hb.block k hk⟩
theorem zBI (A:World) (p k:Nat) (v:Value):A.grownBy (A.setCell ⟨p,k,none⟩ v) (some p):=
 ⟨rfl,rfl,rfl,by rw[zAF];exact Nat.le_refl _,fun j _ hj=>zAy (fun e=>hj (by rw[←e]))⟩

def qflat (l:List (Rul.Rl×Value)):List Value:=l.flatMap fun q=> [.int .u8 (q.1.op.toNat:Int),.int .i64 q.1.mod,.bool q.1.no,q.2]
theorem zGw: ∀{l:List (Rul.Rl×Value)} {j:Nat} {q:Rul.Rl×Value},l[j]?=some q→
  (qflat l)[j*4]?=some (.int .u8 (q.1.op.toNat:Int))∧(qflat l)[j*4+1]?=some (.int .i64 q.1.mod)∧(qflat l)[j*4+2]?=some (.bool q.1.no)∧(qflat l)[j*4+3]?=some q.2:=by
 intro l
 induction l with
 |nil=>intro j q h;simp at h
 |cons a l ih=>
  intro j q h
  cases j with
  |zero=>simp at h;subst h;exact⟨rfl,rfl,rfl,rfl⟩
  |succ j=>
   have h':=ih (j:=j) (q:=q) (by simpa using h)
   have e:(j+1)*4=j*4+1+1+1+1:=by omega
   rw[e]
   exact h'
theorem zFr (l:List (Rul.Rl×Value)) (r:Rul.Rl) (v:Value):qflat (l++ [(r,v)])=qflat l++ [.int .u8 (r.op.toNat:Int),.int .i64 r.mod,.bool r.no,v]:=by
 unfold qflat;rw[List.flatMap_append];rfl

structure PI (B p:Nat) (vb vr:Value) (qs:List (Rul.Rl×Value)) (S:Nat→Prop) (pre:List (List UInt8)) (W:World):Prop where
 box:Boxed W p #[vb]
 row:W.ownsRow B 240 4 vr qs.length (qflat qs)
 fst:qs.map (·.1)=pre.map Rul.relP
 it: ∀q∈qs,∃a n c,q.2= .slice a n c∧SlAt 2 (RngI S) W (.slice a n c) q.1.rs
 own:Own B S vr W
 sz:B≤W.heap.size
theorem PI.grown {B p:Nat} {vb vr:Value} {qs:List (Rul.Rl×Value)} {S:Nat→Prop} {pre:List (List UInt8)} {A C:World} {r:Option Nat} (h:PI B p vb vr qs S pre A) (g:A.grownBy C r)
  (hr: ∀k,r=some k→k≠p∧vr.ownBlock≠some k∧ ¬S k):PI B p vb vr qs S pre C:=by
 have hS: ∀b,S b→some b≠r:=fun b hb e=>(hr b e.symm).2.2 hb
 refine⟨zAs h.box g (fun e=>(hr _ e.symm).1 rfl),h.row.kept g ?_,h.fst,fun q hq=>?_,h.own.grown g hS,Nat.le_trans h.sz g.size⟩
 ·cases hv:vr.ownBlock with
  |none=>exact .inl rfl
  |some k=>exact .inr fun e=>(hr k e.symm).2.1 hv
 obtain⟨a,n,c,e,hs⟩:=h.it q hq
 exact⟨a,n,c,e,zA1 hs (zAK h.own g hS) (fun _ hb=>hb)⟩
theorem PI.len {B p:Nat} {vb vr:Value} {qs:List (Rul.Rl×Value)} {S:Nat→Prop} {pre:List (List UInt8)} {W:World} (h:PI B p vb vr qs S pre W):qs.length=pre.length:=by
 have:=congrArg List.length h.fst
 simpa using this
theorem PI.append {B p:Nat} {vb vr v':Value} {qs:List (Rul.Rl×Value)} {S:Nat→Prop} {pre:List (List UInt8)} {x:List UInt8} {a:Option Addr} {n c:Nat} {A C:World} (h:PI B p vb vr qs S pre A)
  (hown:C.ownsRow B 240 4 v' (qs.length+1) (qflat qs++ [.int .u8 ((Rul.relP x).op.toNat:Int),.int .i64 (Rul.relP x).mod,.bool (Rul.relP x).no,.slice a n c])) (g:A.grownBy C vr.ownBlock)
  (hat:v'.ownBlock=vr.ownBlock∨v'.ownBlock=some A.heap.size) (hp:p<B)
  (hs:SlAt 2 RngC A (.slice a n c) (Rul.relP x).rs) (hb: ∀b,(Value.slice a n c).ownBlock=some b→B≤b∧vr.ownBlock≠some b):
  PI B p vb v' (qs++ [(Rul.relP x,.slice a n c)]) (fun b=>S b∨((Rul.relP x).rs≠ []∧(Value.slice a n c).ownBlock=some b)) (pre++ [x]) C:=by
 have hB: ∀k,vr.ownBlock=some k→B≤k:=fun k hk=>(h.row.lt k hk).1
 have hS: ∀b,S b→some b≠vr.ownBlock:=fun b hb e=>h.own.ne b hb e.symm
 have hT: ∀b,(Rul.relP x).rs≠ []→(Value.slice a n c).ownBlock=some b→IsC A b:=by
  intro b hn hb
  rcases hs with⟨e,_⟩|⟨b',off,cap,e1,e2,_,_,e3⟩
  ·exact absurd e hn
  injection e1 with e1 _ _
  subst e1
  injection hb with hb
  subst hb
  have hq:=e3 0 _ (List.getElem?_eq_getElem e2)
  exact IsC.of_cell hq.1
 have hs':SlAt 2 (RngI (fun b=>S b∨((Rul.relP x).rs≠ []∧(Value.slice a n c).ownBlock=some b))) C (.slice a n c) (Rul.relP x).rs:=by
  rcases hs with⟨e,z⟩|⟨b',off,cap,e1,e2,e4,e5,e3⟩
  ·exact .inl ⟨e,z⟩
  have hne:(Rul.relP x).rs≠ []:=by rintro e;rw[e] at e2;simp at e2
  have ho:(Value.slice a n c).ownBlock=some b':=by rw[e1];rfl
  have hC:=g.block b' (hT b' hne ho).lt (fun e=>(hb b' ho).2 e.symm)
  refine .inr ⟨b',off,cap,e1,e2,e4,e5,fun j y hy=>⟨.inr ⟨hne,ho⟩,?_,?_⟩⟩
  ·exact(World.cell?_of_block (a:=⟨b',off+j*2,none⟩) hC).trans (e3 j y hy).1
  exact(World.cell?_of_block (a:=⟨b',off+j*2+1,none⟩) hC).trans (e3 j y hy).2
 refine⟨zAs h.box g (fun e=>by have:=hB _ e.symm;omega),?_,?_,?_,⟨?_,?_,?_⟩,Nat.le_trans h.sz g.size⟩
 ·rw[zFr,List.length_append];exact hown
 ·rw[List.map_append,List.map_append,h.fst];rfl
 ·intro q hq
  rcases List.mem_append.1 hq with hq|hq
  ·obtain⟨a',n',c',e,z⟩:=h.it q hq
   exact⟨a',n',c',e,zA1 z (zAK h.own g hS) (fun _ hb=> .inl hb)⟩
  rw[List.mem_singleton.1 hq]
  exact⟨a,n,c,rfl,hs'⟩
 ·rintro b (hb'|hb')
  ·exact h.own.ge b hb'
  exact(hb b hb'.2).1
 ·rintro b (hb'|hb') e
  ·rcases hat with e'|e'
   ·exact h.own.ne b hb' (e'.symm.trans e)
   have:=(h.own.is b hb').lt
   rw[e'] at e;injection e with e;omega
  rcases hat with e'|e'
  ·exact(hb b hb'.2).2 (e'.symm.trans e)
  have:=(hT b hb'.1 hb'.2).lt
  rw[e'] at e;injection e with e;omega
 rintro b (hb'|hb')
 ·exact(h.own.is b hb').grown g (hS b hb')
 exact(hT b hb'.1 hb'.2).grown g (fun e=>(hb b hb'.2).2 e.symm)
theorem PI.stored {B p:Nat} {vb vr:Value} {qs:List (Rul.Rl×Value)} {S:Nat→Prop} {pre:List (List UInt8)} {A:World} (h:PI B p vb vr qs S pre A) (hp:p<B):PI B p vr vr qs S pre (A.setCell ⟨p,0,none⟩ vr):=by
 have g:=zBI A p 0 vr
 have hS: ∀b,S b→some b≠some p:=fun b hb e=>by have:=h.own.ge b hb;injection e with e;omega
 refine⟨h.box.set 0 vr (by show 0<1;omega),h.row.kept g ?_,h.fst,fun q hq=>?_,h.own.grown g hS,Nat.le_trans h.sz g.size⟩
 ·cases hv:vr.ownBlock with
  |none=>exact .inl rfl
  |some k=>exact .inr fun e=>by have:=h.row.lt k hv;injection e with e;omega
 obtain⟨a,n,c,e,hs⟩:=h.it q hq
 exact⟨a,n,c,e,zA1 hs (zAK h.own g hS) (fun _ hb=>hb)⟩
theorem PI.lies {B p:Nat} {vb:Value} {a:Option Addr} {n c:Nat} {qs:List (Rul.Rl×Value)} {S:Nat→Prop} {pre:List (List UInt8)} {A:World} (h:PI B p vb (.slice a n c) qs S pre A):
  SlAt 4 (RelI (fun b=>S b∨(Value.slice a n c).ownBlock=some b)) A (.slice a n c) (pre.map Rul.relP)∧ ∀b,(S b∨(Value.slice a n c).ownBlock=some b)→B≤b∧IsC A b:=by
 refine⟨?_,?_⟩
 ·rw[←h.fst]
  have hr:=h.row
  rcases hr.2 with⟨e,hn⟩|⟨g,cap,cur,e,hB,hg,hc,hm,_⟩
  ·have:qs= []:=List.eq_nil_of_length_eq_zero hn
   subst this
   injection e with e1 e2 e3
   subst e1 e2 e3
   exact .inl ⟨rfl,_,_,rfl⟩
  injection e with e1 e2 e3
  subst e1 e2 e3
  by_cases h0:qs.length=0
  ·have:qs= []:=List.eq_nil_of_length_eq_zero h0
   subst this
   exact .inl ⟨rfl,_,_,rfl⟩
  refine .inr ⟨g,0,_,by rw[List.length_map],by rw[List.length_map];omega,by rw[List.length_map];exact hc,hm,fun j x hx=>?_⟩
  rw[List.getElem?_map] at hx
  obtain⟨q,hq,rfl⟩:=Option.map_eq_some_iff.1 hx
  obtain⟨e0,e1,e2,e3⟩:=zGw hq
  have hj:j<qs.length:=(List.getElem?_eq_some_iff.1 hq).1
  have c0:=hr.cellAt (g:=g) (j*4) (by omega)
  have c1:=hr.cellAt (g:=g) (j*4+1) (by omega)
  have c2:=hr.cellAt (g:=g) (j*4+2) (by omega)
  have c3:=hr.cellAt (g:=g) (j*4+3) (by omega)
  rw[e0] at c0
  rw[e1] at c1
  rw[e2] at c2
  rw[e3] at c3
  rw[Nat.zero_add]
  obtain⟨a',n',c',e,z⟩:=h.it q (List.mem_of_getElem? hq)
  rw[e] at c3
  exact⟨.inr rfl,a',n',c',c0,c1,c2,c3,zA1 z (fun _ _=>rfl) (fun _ hb=> .inl hb)⟩
 rintro b (hb|hb)
 ·exact⟨h.own.ge b hb,h.own.is b hb⟩
 exact⟨(h.row.lt b hb).1,IsC.row h.row hb⟩

structure PO (w:World) (B p:Nat) (vb vr:Value) (ps:List (List Rul.Rl×Value)) (S:Nat→Prop) (pre:List (List UInt8)) (W:World):Prop where
 box:Boxed W p #[vb]
 row:W.ownsRow B 237 1 vr ps.length (ps.map (·.2))
 fst:ps.map (·.1)=pre.map Rul.partP
 it: ∀q∈ps,∃a n c,q.2= .slice a n c∧SlAt 4 (RelI S) W (.slice a n c) q.1
 own:Own B S vr W
 low:Below w.heap.size w W
 sz:B≤W.heap.size
theorem PO.grown {w:World} {B p:Nat} {vb vr:Value} {ps:List (List Rul.Rl×Value)} {S:Nat→Prop} {pre:List (List UInt8)} {A C:World} {r:Option Nat} (h:PO w B p vb vr ps S pre A) (g:A.grownBy C r)
  (hr: ∀k,r=some k→w.heap.size≤k∧k≠p∧vr.ownBlock≠some k∧ ¬S k):PO w B p vb vr ps S pre C:=by
 have hS: ∀b,S b→some b≠r:=fun b hb e=>(hr b e.symm).2.2.2 hb
 refine⟨zAs h.box g (fun e=>(hr _ e.symm).2.1 rfl),h.row.kept g ?_,h.fst,fun q hq=>?_,h.own.grown g hS,h.low.grown g h.low.size (fun k hk=>(hr k hk).1),Nat.le_trans h.sz g.size⟩
 ·cases hv:vr.ownBlock with
  |none=>exact .inl rfl
  |some k=>exact .inr fun e=>(hr k e.symm).2.2.1 hv
 obtain⟨a,n,c,e,hs⟩:=h.it q hq
 exact⟨a,n,c,e,zA2 hs (zAK h.own g hS) (fun _ hb=>hb)⟩
theorem PO.len {w:World} {B p:Nat} {vb vr:Value} {ps:List (List Rul.Rl×Value)} {S:Nat→Prop} {pre:List (List UInt8)} {W:World} (h:PO w B p vb vr ps S pre W):ps.length=pre.length:=by
 have:=congrArg List.length h.fst
 simpa using this
theorem PO.append {w:World} {B p:Nat} {vb vr v':Value} {ps:List (List Rul.Rl×Value)} {S S2:Nat→Prop} {pre:List (List UInt8)} {x:List UInt8} {a:Option Addr} {n c:Nat} {A C:World} (h:PO w B p vb vr ps S pre A)
  (hown:C.ownsRow B 237 1 v' (ps.length+1) (ps.map (·.2)++ [.slice a n c])) (g:A.grownBy C vr.ownBlock)
  (hat:v'.ownBlock=vr.ownBlock∨v'.ownBlock=some A.heap.size) (hp:p<B) (hw:w.heap.size≤B)
  (hs:SlAt 4 (RelI S2) A (.slice a n c) (Rul.partP x)) (hb: ∀b,S2 b→B≤b∧vr.ownBlock≠some b∧IsC A b):
  PO w B p vb v' (ps++ [(Rul.partP x,.slice a n c)]) (fun b=>S b∨S2 b) (pre++ [x]) C:=by
 have hB: ∀k,vr.ownBlock=some k→B≤k:=fun k hk=>(h.row.lt k hk).1
 have hS: ∀b,S b→some b≠vr.ownBlock:=fun b hb e=>h.own.ne b hb e.symm
 have hS2: ∀b,S2 b→some b≠vr.ownBlock:=fun b hb' e=>(hb b hb').2.1 e.symm
 have sm2:SameOn S2 A C:=fun b hb'=>g.block b (hb b hb').2.2.lt (hS2 b hb')
 refine⟨zAs h.box g (fun e=>by have:=hB _ e.symm;omega),?_,?_,?_,⟨?_,?_,?_⟩,h.low.grown g h.low.size (fun k hk=>by have:=hB k hk;omega),Nat.le_trans h.sz g.size⟩
 ·rw[List.length_append,List.map_append];exact hown
 ·rw[List.map_append,List.map_append,h.fst];rfl
 ·intro q hq
  rcases List.mem_append.1 hq with hq|hq
  ·obtain⟨a',n',c',e,z⟩:=h.it q hq
   exact⟨a',n',c',e,zA2 z (zAK h.own g hS) (fun _ hb=> .inl hb)⟩
  rw[List.mem_singleton.1 hq]
  exact⟨a,n,c,rfl,zA2 hs sm2 (fun _ hb=> .inr hb)⟩
 ·rintro b (hb'|hb')
  ·exact h.own.ge b hb'
  exact(hb b hb').1
 ·rintro b (hb'|hb') e
  ·rcases hat with e'|e'
   ·exact h.own.ne b hb' (e'.symm.trans e)
   have:=(h.own.is b hb').lt
   rw[e'] at e;injection e with e;omega
  rcases hat with e'|e'
  ·exact(hb b hb').2.1 (e'.symm.trans e)
  have:=(hb b hb').2.2.lt
  rw[e'] at e;injection e with e;omega
 rintro b (hb'|hb')
 ·exact(h.own.is b hb').grown g (hS b hb')
 exact(hb b hb').2.2.grown g (hS2 b hb')
theorem PO.stored {w:World} {B p:Nat} {vb vr:Value} {ps:List (List Rul.Rl×Value)} {S:Nat→Prop} {pre:List (List UInt8)} {A:World} (h:PO w B p vb vr ps S pre A) (hp:p<B) (hw:w.heap.size≤p):PO w B p vr vr ps S pre (A.setCell ⟨p,0,none⟩ vr):=by
 have g:=zBI A p 0 vr
 have hS: ∀b,S b→some b≠some p:=fun b hb e=>by have:=h.own.ge b hb;injection e with e;omega
 refine⟨h.box.set 0 vr (by show 0<1;omega),h.row.kept g ?_,h.fst,fun q hq=>?_,h.own.grown g hS,h.low.grown g h.low.size (fun k hk=>by injection hk with hk;omega),Nat.le_trans h.sz g.size⟩
 ·cases hv:vr.ownBlock with
  |none=>exact .inl rfl
  |some k=>exact .inr fun e=>by have:=h.row.lt k hv;injection e with e;omega
 obtain⟨a,n,c,e,hs⟩:=h.it q hq
 exact⟨a,n,c,e,zA2 hs (zAK h.own g hS) (fun _ hb=>hb)⟩
theorem PO.lies {w:World} {B p:Nat} {vb:Value} {a:Option Addr} {n c:Nat} {ps:List (List Rul.Rl×Value)} {S:Nat→Prop} {pre:List (List UInt8)} {A:World} (h:PO w B p vb (.slice a n c) ps S pre A):
  SlAt 1 PartC A (.slice a n c) (pre.map Rul.partP):=by
 rw[←h.fst]
 have hr:=h.row
 rcases hr.2 with⟨e,hn⟩|⟨g,cap,cur,e,hB,hg,hc,hm,_⟩
 ·have:ps= []:=List.eq_nil_of_length_eq_zero hn
  subst this
  injection e with e1 e2 e3
  subst e1 e2 e3
  exact .inl ⟨rfl,_,_,rfl⟩
 injection e with e1 e2 e3
 subst e1 e2 e3
 by_cases h0:ps.length=0
 ·have:ps= []:=List.eq_nil_of_length_eq_zero h0
  subst this
  exact .inl ⟨rfl,_,_,rfl⟩
 refine .inr ⟨g,0,_,by rw[List.length_map],by rw[List.length_map];omega,by rw[List.length_map];exact hc,hm,fun j x hx=>?_⟩
 rw[List.getElem?_map] at hx
 obtain⟨q,hq,rfl⟩:=Option.map_eq_some_iff.1 hx
 have hj:j<ps.length:=(List.getElem?_eq_some_iff.1 hq).1
 have c0:=hr.cellAt (g:=g) (j*1) (by omega)
 rw[Nat.mul_one,List.getElem?_map,hq] at c0
 rw[Nat.zero_add,Nat.mul_one]
 obtain⟨a',n',c',e,z⟩:=h.it q (List.mem_of_getElem? hq)
 exact⟨a',n',c',c0.trans (by rw[←e];rfl),zDJ z⟩

structure PT (w:World) (B p bp bs bv:Nat) (v:Value) (ps:List (List Rul.Rl×Value)) (S:Nat→Prop) (pre:List (List UInt8)) (W0 W:World):Prop where
 po:PO w B p v v ps S pre W
 kf:KeepsFrom B W0 W
 kp:KpS w.heap.size bp bs bv W0 W
theorem PT.start {w:World} {B p bp bs bv:Nat} {v:Value} {ps:List (List Rul.Rl×Value)} {S:Nat→Prop} {pre:List (List UInt8)} {W:World} (h:PO w B p v v ps S pre W):PT w B p bp bs bv v ps S pre W W:=
 ⟨h,KeepsFrom.refl _ _,⟨Below.refl _ _,rfl,rfl,rfl⟩⟩
structure Olds (B p bp bs bv:Nat) (v:Value) (S:Nat→Prop) (n:Nat):Prop where
 o: ∀b,S b→b<n
 v: ∀b,v.ownBlock=some b→b<n
 b:p<B∧bp<B∧bs<B∧bv<B∧B≤n
theorem PO.olds {w:World} {B p bp bs bv:Nat} {vb v:Value} {ps:List (List Rul.Rl×Value)} {S:Nat→Prop} {pre:List (List UInt8)} {W:World} (h:PO w B p vb v ps S pre W) (hb:p<B∧bp<B∧bs<B∧bv<B):Olds B p bp bs bv v S W.heap.size:=
 ⟨fun b hb=>(h.own.is b hb).lt,fun b hb=>(h.row.lt b hb).2,hb.1,hb.2.1,hb.2.2.1,hb.2.2.2,h.sz⟩
theorem PT.grown {w:World} {B p bp bs bv:Nat} {v:Value} {ps:List (List Rul.Rl×Value)} {S:Nat→Prop} {pre:List (List UInt8)} {W0 A C:World} {r:Option Nat} (h:PT w B p bp bs bv v ps S pre W0 A) (g:A.grownBy C r)
  (ho:Olds B p bp bs bv v S W0.heap.size) (hw:w.heap.size≤B) (hr: ∀k,r=some k→W0.heap.size≤k):PT w B p bp bs bv v ps S pre W0 C:=by
 have hb:=ho.b
 have hz:=h.kf.size
 refine⟨h.po.grown g fun k hk=>?_,zBh h.kf g (fun k hk=> .inl (hr k hk)),zBx h.kp g (by omega) (by omega) fun k hk=>?_⟩
 ·have:=hr k hk
  exact⟨by omega,by omega,fun e=>by have:=ho.v _ e;omega,fun e=>by have:=ho.o _ e;omega⟩
 have:=hr k hk
 exact⟨by omega,by omega,by omega,by omega⟩
theorem PT.below {w:World} {B p bp bs bv:Nat} {v:Value} {ps:List (List Rul.Rl×Value)} {S:Nat→Prop} {pre:List (List UInt8)} {W0 A C:World} (h:PT w B p bp bs bv v ps S pre W0 A) (hb:Below A.heap.size A C)
  (ho:Olds B p bp bs bv v S W0.heap.size) (hw:w.heap.size≤B):PT w B p bp bs bv v ps S pre W0 C:=
 h.grown (zAU hb) ho hw (fun k e=>by cases e)

structure PQ (w:World) (B p bp bs bv:Nat) (v:Value) (ps:List (List Rul.Rl×Value)) (S:Nat→Prop) (pre:List (List UInt8)) (W0:World) (B2 p2 bp2 bs2 bv2:Nat) (vb vr:Value) (qs:List (Rul.Rl×Value)) (S2:Nat→Prop) (pre2:List (List UInt8)) (W1 W:World):Prop where
 pt:PT w B p bp bs bv v ps S pre W0 W
 pi:PI B2 p2 vb vr qs S2 pre2 W
 kf:KeepsFrom B2 W1 W
 kp:KpS w.heap.size bp2 bs2 bv2 W1 W
theorem PQ.start {w:World} {B p bp bs bv:Nat} {v:Value} {ps:List (List Rul.Rl×Value)} {S:Nat→Prop} {pre:List (List UInt8)} {W0:World} {B2 p2 bp2 bs2 bv2:Nat} {vb vr:Value} {qs:List (Rul.Rl×Value)} {S2:Nat→Prop} {pre2:List (List UInt8)} {W:World}
  (h:PT w B p bp bs bv v ps S pre W0 W) (k:PI B2 p2 vb vr qs S2 pre2 W):PQ w B p bp bs bv v ps S pre W0 B2 p2 bp2 bs2 bv2 vb vr qs S2 pre2 W W:=
 ⟨h,k,KeepsFrom.refl _ _,⟨Below.refl _ _,rfl,rfl,rfl⟩⟩
structure Fix (w:World) (B p bp bs bv:Nat) (v:Value) (S:Nat→Prop) (W0:World) (B2 p2 bp2 bs2 bv2:Nat):Prop where
 ho:Olds B p bp bs bv v S W0.heap.size
 hw:w.heap.size≤B
 h2:W0.heap.size≤p2∧p2<B2∧bp2<B2∧bs2<B2∧bv2<B2
 ne:p2≠bp2∧p2≠bs2∧p2≠bv2
theorem PQ.below {w:World} {B p bp bs bv:Nat} {v:Value} {ps:List (List Rul.Rl×Value)} {S:Nat→Prop} {pre:List (List UInt8)} {W0:World} {B2 p2 bp2 bs2 bv2:Nat} {vb vr:Value} {qs:List (Rul.Rl×Value)} {S2:Nat→Prop} {pre2:List (List UInt8)} {W1 A C:World}
  (h:PQ w B p bp bs bv v ps S pre W0 B2 p2 bp2 bs2 bv2 vb vr qs S2 pre2 W1 A) (hb:Below A.heap.size A C) (f:Fix w B p bp bs bv v S W0 B2 p2 bp2 bs2 bv2):PQ w B p bp bs bv v ps S pre W0 B2 p2 bp2 bs2 bv2 vb vr qs S2 pre2 W1 C:=by
 have g:=zAU hb
 have:=f.h2
 have:=f.ho.b
 have:=f.hw
 have:=h.pi.sz
 exact⟨h.pt.below hb f.ho f.hw,h.pi.grown g (fun k e=>by cases e),zBh h.kf g (fun k e=>by cases e),zBx h.kp g (by omega) (by omega) (fun k e=>by cases e)⟩
theorem PQ.append {w:World} {B p bp bs bv:Nat} {v:Value} {ps:List (List Rul.Rl×Value)} {S:Nat→Prop} {pre:List (List UInt8)} {W0:World} {B2 p2 bp2 bs2 bv2:Nat} {vb vr v':Value} {qs:List (Rul.Rl×Value)} {S2:Nat→Prop} {pre2:List (List UInt8)} {W1 A C:World}
  {x:List UInt8} {a:Option Addr} {n c:Nat} (h:PQ w B p bp bs bv v ps S pre W0 B2 p2 bp2 bs2 bv2 vb vr qs S2 pre2 W1 A) (f:Fix w B p bp bs bv v S W0 B2 p2 bp2 bs2 bv2)
  (hown:C.ownsRow B2 240 4 v' (qs.length+1) (qflat qs++ [.int .u8 ((Rul.relP x).op.toNat:Int),.int .i64 (Rul.relP x).mod,.bool (Rul.relP x).no,.slice a n c])) (g:A.grownBy C vr.ownBlock)
  (hat:v'.ownBlock=vr.ownBlock∨v'.ownBlock=some A.heap.size)
  (hs:SlAt 2 RngC A (.slice a n c) (Rul.relP x).rs) (hb: ∀b,(Value.slice a n c).ownBlock=some b→B2≤b∧vr.ownBlock≠some b):
  PQ w B p bp bs bv v ps S pre W0 B2 p2 bp2 bs2 bv2 vb v' (qs++ [(Rul.relP x,.slice a n c)]) (fun b=>S2 b∨((Rul.relP x).rs≠ []∧(Value.slice a n c).ownBlock=some b)) (pre2++ [x]) W1 C:=by
 have h2:=f.h2
 have:=f.ho.b
 have:=f.hw
 have:=h.pi.sz
 have hB: ∀k,vr.ownBlock=some k→B2≤k:=fun k hk=>(h.pi.row.lt k hk).1
 exact⟨h.pt.grown g f.ho f.hw (fun k hk=>by have:=hB k hk;omega),h.pi.append hown g hat h2.2.1 hs hb,zBh h.kf g (fun k hk=> .inr (.inl (IsC.row h.pi.row hk))),
  zBx h.kp g (by omega) (by omega) (fun k hk=>by have:=hB k hk;omega)⟩
theorem PQ.stored {w:World} {B p bp bs bv:Nat} {v:Value} {ps:List (List Rul.Rl×Value)} {S:Nat→Prop} {pre:List (List UInt8)} {W0:World} {B2 p2 bp2 bs2 bv2:Nat} {vb vr:Value} {qs:List (Rul.Rl×Value)} {S2:Nat→Prop} {pre2:List (List UInt8)} {W1 A:World}
  (h:PQ w B p bp bs bv v ps S pre W0 B2 p2 bp2 bs2 bv2 vb vr qs S2 pre2 W1 A) (f:Fix w B p bp bs bv v S W0 B2 p2 bp2 bs2 bv2):PQ w B p bp bs bv v ps S pre W0 B2 p2 bp2 bs2 bv2 vr vr qs S2 pre2 W1 (A.setCell ⟨p2,0,none⟩ vr):=by
 have g:=zBI A p2 0 vr
 have h2:=f.h2
 have hn:=f.ne
 have:=f.ho.b
 have:=f.hw
 have:=h.pi.sz
 exact⟨h.pt.grown g f.ho f.hw (fun k hk=>by injection hk with hk;omega),h.pi.stored h2.2.1,zBh h.kf g (fun k hk=> .inr (.inr (by injection hk with hk;omega))),
  zBx h.kp g (by omega) (by omega) (fun k hk=>by injection hk with hk;subst hk;exact⟨by omega,hn⟩)⟩

structure PU (w:World) (B p bp bs bv:Nat) (vb vr:Value) (ps:List (List Rul.Rl×Value)) (S:Nat→Prop) (pre:List (List UInt8)) (W0 W:World):Prop where
 po:PO w B p vb vr ps S pre W
 kf:KeepsFrom B W0 W
 kp:KpS w.heap.size bp bs bv W0 W
theorem PQ.close {w:World} {B p bp bs bv:Nat} {v v':Value} {ps:List (List Rul.Rl×Value)} {S:Nat→Prop} {pre:List (List UInt8)} {W0:World} {B2 p2 bp2 bs2 bv2:Nat} {vb:Value} {a:Option Addr} {n c:Nat} {qs:List (Rul.Rl×Value)} {S2:Nat→Prop} {pre2:List (List UInt8)} {W1 A C:World}
  {x:List UInt8} (h:PQ w B p bp bs bv v ps S pre W0 B2 p2 bp2 bs2 bv2 vb (.slice a n c) qs S2 pre2 W1 A) (f:Fix w B p bp bs bv v S W0 B2 p2 bp2 bs2 bv2) (hx:Rul.partP x=pre2.map Rul.relP)
  (hown:C.ownsRow B 237 1 v' (ps.length+1) (ps.map (·.2)++ [.slice a n c])) (g:A.grownBy C v.ownBlock) (hat:v'.ownBlock=v.ownBlock∨v'.ownBlock=some A.heap.size):
  PU w B p bp bs bv v v' (ps++ [(Rul.partP x,.slice a n c)]) (fun b=>S b∨(S2 b∨(Value.slice a n c).ownBlock=some b)) (pre++ [x]) W0 C:=by
 obtain⟨hl,hl2⟩:=h.pi.lies
 have h2:=f.h2
 have hb:=f.ho.b
 have hw:=f.hw
 have hB: ∀k,v.ownBlock=some k→B≤k:=fun k hk=>(h.pt.po.row.lt k hk).1
 have hz:=h.pi.sz
 refine⟨h.pt.po.append hown g hat hb.1 hw (by rw[hx];exact hl) (fun b h'=>?_),zBh h.pt.kf g (fun k hk=> .inr (.inl (IsC.row h.pt.po.row hk))),zBx h.pt.kp g (by omega) (by omega) (fun k hk=>by have:=hB k hk;omega)⟩
 have:=hl2 b h'
 exact⟨by omega,fun e=>by have:=f.ho.v b e;omega,this.2⟩
theorem PU.stored {w:World} {B p bp bs bv:Nat} {vb vr:Value} {ps:List (List Rul.Rl×Value)} {S:Nat→Prop} {pre:List (List UInt8)} {W0 A:World} (h:PU w B p bp bs bv vb vr ps S pre W0 A) (hp:p<B) (hw:w.heap.size≤p) (hb:bp<B∧bs<B∧bv<B) (hne:p≠bp∧p≠bs∧p≠bv):
  PU w B p bp bs bv vr vr ps S pre W0 (A.setCell ⟨p,0,none⟩ vr):=by
 have g:=zBI A p 0 vr
 have hz:=h.po.sz
 exact⟨h.po.stored hp hw,zBh h.kf g (fun k hk=> .inr (.inr (by injection hk with hk;omega))),zBx h.kp g (by omega) (by omega) (fun k hk=>by injection hk with hk;subst hk;exact⟨hw,hne⟩)⟩

section
variable {P:Program} (w:World)
theorem zBt {o:Oper} {a:Act} {K:Act→World→Prop} {Q:Exit→Act→World→Prop} (s x:Operand) (t:TypeId)
  (ho:o.op= .call {callee:= .builtin .append,args:= #[s,x],argTypes:= #[t,t]})
  (base:Nat) (e:TypeId) (i:TypeInfo) (z:Value) (size bytes:Nat) (ht:P.underlying t=some (.slice e)) (hi:P.info? e=some i) (hz:i.zero=some z)
  (hsize:i.size=size) (hby:i.bytes=bytes) (hzs:z.cells.size=size) (hsz:0<size)
  (v:Value) (n:Nat) (xs:List Value) (hs:a.eval s=v) (hown:w.ownsRow base e size v n xs)
  (ad:Addr) (m c:Nat) (news:List Value) (hx:a.eval x= .slice (some ad) m c) (hl:news.length=m*size) (hnews: ∀j u,news[j]?=some u→w.cell? (ad.add j)=some u) (h1: ∀u∈news,u.oneCell'=true)
  (h63:n+m≤maxLen) (hbytes:(n+m)*bytes≤140737488355328) (hbase:base≤w.heap.size)
  (h: ∀v' w',w'.ownsRow base e size v' (n+m) (xs++news)→w.grownBy w' v.ownBlock→(v'.ownBlock=v.ownBlock∨v'.ownBlock=some w.heap.size)→K (a.put o.dst v') w'):o.wp P a w K Q:=by
 obtain⟨v',w',hr,h2,h3,_,h5⟩:=run_append_own_at (P:=P) w base t o.type e i z size bytes ht hi hz hsize hby hzs hsz v n xs hown ad m c news hl hnews h1 h63 hbytes hbase
 unfold Oper.wp execOp
 simp only[ho,resolve,invoke,builtin,Sem.run_bind,Sem.run_pure,Result.andThen_ok,List.map_toArray,List.map_cons,List.map_nil,hs,hx,hr]
 exact h v' w' h2 h3 h5
end
open Go.RowKit

theorem zIv (p:Int×Int) (w:World) (hp:PowW w) (hk:Rul.rngOk p=true):
  Calls Tryz.prog 206 #[.agg #[.int .i64 p.1,.int .i64 p.2]] w fun e w'=>e= .returned (.string ⟨(Rul.rngT p).toArray⟩)∧Below w.heap.size w w':=by
 obtain⟨a,b⟩:=p
 simp only[Rul.rngOk,Bool.and_eq_true,decide_eq_true_eq] at hk
 obtain⟨⟨h0,h1⟩,h2⟩:=hk
 dsimp only
 have CA:=lH fun w hp=>zDS a w hp h0 (by omega)
 have CB:=lH fun w hp=>zDS b w hp (by omega) (by omega)
 have hE:Rul.rngT (a,b)=if a=b then Lib.decDigits a.toNat else Lib.decDigits a.toNat++ [46,46]++Lib.decDigits b.toNat:=rfl
 have la:(Lib.decDigits a.toNat).length≤100:=by have:=Byt.zAD 7 a.toNat (by omega) (by omega);omega
 have lb:(Lib.decDigits b.toNat).length≤100:=by have:=Byt.zAD 7 b.toNat (by omega) (by omega);omega
 rw[hE]
 generalize Lib.decDigits a.toNat=DA at*
 generalize Lib.decDigits b.toNat=DB at*
 clear hE
 by_cases he:a=b
 ·have e1:(a==b)=true:=zAo he
  rw[if_pos he]
  clear he
  go_enter Tryz.func206,Tryz.ntmps206
  go_wp2_with fail
  refine(CA.out _ (hp.alloc _)).mono ?_
  rintro e w1 ⟨rfl,hb⟩
  go_wp2_with fail
  go_ret
  exact⟨rfl,bT (bA w (.cells #[.int .i64 a,.int .i64 b] 265)) hb⟩
 have e1:(a==b)=false:=zAe he
 rw[if_neg he]
 clear he
 obtain⟨X1,hX1⟩: ∃X1,X1=DA++ [46,46]:=⟨_,rfl⟩
 obtain⟨X2,hX2⟩: ∃X2,X2=X1++DB:=⟨_,rfl⟩
 have A1: ∀w,(Op.stringOp .add ⟨DA.toArray⟩ ⟨#[46,46]⟩).run Tryz.prog w= .ok (.string ⟨X1.toArray⟩) w:=fun w=>by rw[hX1];exact zAh (P:= Tryz.prog) DA [46,46] (by simp;omega) w
 have l1:X1.length≤102:=by rw[hX1,List.length_append];simp;omega
 have A2: ∀w,(Op.stringOp .add ⟨X1.toArray⟩ ⟨DB.toArray⟩).run Tryz.prog w= .ok (.string ⟨X2.toArray⟩) w:=fun w=>by rw[hX2];exact zAh (P:= Tryz.prog) X1 DB (by omega) w
 rw[←hX1,←hX2]
 have B0:=lH (Boxed.made w #[.int .i64 a,.int .i64 b] 265)
 have k0:=B0.out.cell 0 _ rfl
 have k1:=B0.out.cell 1 _ rfl
 have P0:=lH (hp.alloc (.cells #[.int .i64 a,.int .i64 b] 265))
 have W0:=lH (bA w (.cells #[.int .i64 a,.int .i64 b] 265))
 clear hX1 hX2 la lb l1 h0 h1 h2 B0
 go_enter Tryz.func206,Tryz.ntmps206
 go_wp2_with fail
 refine wp_region_held_drew (S:=fun w'=>w'.cell? ⟨w.heap.size,0,none⟩=some (.int .i64 a)∧w'.cell? ⟨w.heap.size,1,none⟩=some (.int .i64 b)∧Hid (PowW w')∧Hid (Below w.heap.size w w')) (by kernel_rfl) (by exact⟨k0,k1,lH (P0.out.drewN 1),lH (Below.drew W0.out)⟩) (fun hY9=>?_)
 refine tkr (d:=(some 11)) (v:=?v1) 0 rfl rfl hY9 ?hy1 ?rs1
 case hy1=>(intro w hSw;(try dsimp only at hSw);go_simp)<;>(try with_reducible rfl)
 (try simp only[Act.put,aI,aO,aS])
 refine tkr (d:=(some 12)) (v:=?v2) 1 rfl rfl hY9 ?hy2 ?rs2
 case hy2=>(intro w hSw;(try dsimp only at hSw);go_simp)<;>(try with_reducible rfl)
 (try simp only[Act.put,aI,aO,aS])
 refine tkr (d:=(some 15)) (v:=?v3) 4 rfl rfl hY9 ?hy3 ?rs3
 case hy3=>(intro w hSw;(try dsimp only at hSw);go_simp)<;>(try with_reducible rfl)
 (try simp only[Act.put,aI,aO,aS])
 refine tkr (d:=(some 16)) (v:=?v4) 5 rfl rfl hY9 ?hy4 ?rs4
 case hy4=>(intro w hSw;(try dsimp only at hSw);go_simp)<;>(try with_reducible rfl)
 (try simp only[Act.put,aI,aO,aS])
 refine zAc 2 rfl (by kernel_rfl) (by rfl) (fun K hK=>?_)
 go_simp
 refine(CA.out _ (by obtain⟨_,_,h2,_⟩:=hY9;exact h2.out)).mono ?_
 rintro e w' ⟨rfl,hb⟩
 refine hK.out _ _ (by obtain⟨h0,h1,h2,hw⟩:=hY9;exact⟨cK h0 hb,cK h1 hb,lH (h2.out.below hb),lH (bT hw.out hb)⟩) (fun hY9=>?_)
 clear hK K
 (try simp only[Act.put,aI,aO,aS])
 refine tkr (d:=(some 14)) (v:=?v6) 3 rfl rfl hY9 ?hy6 ?rs6
 case hy6=>(intro w hSw;(try dsimp only at hSw);go_simp)<;>(try with_reducible rfl)
 (try simp only[Act.put,aI,aO,aS])
 refine zAc 6 rfl (by kernel_rfl) (by rfl) (fun K hK=>?_)
 go_simp
 refine(CB.out _ (by obtain⟨_,_,h2,_⟩:=hY9;exact h2.out)).mono ?_
 rintro e w' ⟨rfl,hb⟩
 refine hK.out _ _ (by obtain⟨h0,h1,h2,hw⟩:=hY9;exact⟨cK h0 hb,cK h1 hb,lH (h2.out.below hb),lH (bT hw.out hb)⟩) (fun hY9=>?_)
 clear hK K
 (try simp only[Act.put,aI,aO,aS])
 refine tkr (d:=(some 18)) (v:=?v8) 7 rfl rfl hY9 ?hy8 ?rs8
 case hy8=>(intro w hSw;(try dsimp only at hSw);go_simp)<;>(try with_reducible rfl)
 (try simp only[Act.put,aI,aO,aS])
 refine tkr (d:=(some 2)) (v:=?v9) 8 rfl rfl hY9 ?hy9 ?rs9
 case hy9=>(intro w hSw;(try dsimp only at hSw);go_simp)<;>(try with_reducible rfl)
 (try simp only[Act.put,aI,aO,aS])
 refine wpAnyH_done (by kernel_rfl) ?_ _
 obtain⟨z0,z1,z2,zW⟩:=hY9
 go_wp2_with fail
 go_ret
 exact⟨rfl,zW.out⟩
open Go.RowKit Go.Lib

theorem zMt (l:List (Int×Int)) (p:Int×Int→Bool) (g:Nat) (lb:Array Value) (eg: ∀args w,(callFunc g args).run Tryz.prog w= .ok (.enter g args) w) (v:Value) (w:World) (hl:SlAt 2 RngC w v l)
  (CP:Hid (∀x∈l,∀wx,Below w.heap.size w wx→Calls Tryz.prog g (#[.agg #[.int .i64 x.1,.int .i64 x.2]]++lb) wx fun e w'=>e= .returned (.bool (p x))∧Below wx.heap.size wx w')):
  Calls Tryz.prog 208 #[v,.func (.func g) #[] lb] w fun e w'=> ∃i:Int,e= .returned (.int .i64 i)∧decide (0≤i)=l.any p∧Below w.heap.size w w':=by
 have HLB:=lH (show ∀wx,Below w.heap.size w wx→SlAt 2 RngC wx v l from fun wx hb=>hl.rngs_below hb)
 obtain⟨A,cap,rfl,hm,_⟩:=hl.spread
 unfold maxLen at hm
 clear hl
 go_enter Tryz.func208,Tryz.ntmps208
 go_wp2_with fail
 go_loopw [5,8] (fun _ i wr=> ∃k:Nat,i= .int .i64 k∧k≤l.length∧Hid ((l.take k).any p=false)∧Hid (Below w.heap.size w wr)) (fun _ i _=>l.length-(RowKit.intOf i).toNat)
 case atStart=>exact⟨0,rfl,Nat.zero_le _,lH rfl,lH (Below.refl _ _)⟩
 case round=>
  obtain⟨k,rfl,hk,HA,HB⟩:=hrel
  by_cases hlt:k<l.length
  ·obtain⟨x,hx⟩: ∃x,l[k]?=some x:=⟨l[k],List.getElem?_eq_getElem hlt⟩
   have HX:=lH (any_take' (p:=p) hx)
   have hxm:=List.mem_of_getElem? hx
   obtain⟨A',cap',eA,_,hsp⟩:=(HLB.out wr HB.out).spread
   injection eA with e1 e2 e3
   subst e1
   obtain⟨b,off,rfl,hxc⟩:=hsp k x hx
   clear hsp e2 e3
   obtain⟨x0,x1⟩:=hxc
   have CX:=lH (CP.out x hxm _ HB.out)
   clear hx hxm
   cases hq:p x with
   |true=>
    rw[hq] at CX
    have HT:=lH (show l.any p=true by
     have h1:(l.take (k+1)).any p=true:=by rw[HX.out,hq];simp
     obtain⟨y,hy,e⟩:=List.any_eq_true.1 h1
     exact List.any_eq_true.2 ⟨y,List.mem_of_mem_take hy,e⟩)
    clear hq
    go_wp2_with (go_at_fn g;refine CX.out.mono ?_;rintro e w' ⟨rfl,hb⟩;have HB2:=lH (bT HB.out hb);clear hb)
    go_ret
    exact⟨_,rfl,by rw[HT.out];exact decide_eq_true (by omega),HB2.out⟩
   |false=>
    rw[hq] at CX
    have HT:=lH (show(l.take (k+1)).any p=false by rw[HX.out,hq,HA.out];rfl)
    clear hq
    go_wp2_with (go_at_fn g;refine CX.out.mono ?_;rintro e w' ⟨rfl,hb⟩;have HB2:=lH (bT HB.out hb);clear hb)
    go_roundw
    case rel=>exact⟨k+1,by go_num,by omega,HT,HB2⟩
    case measure=>simp[RowKit.intOf];omega
  have HT:=lH (show l.any p=false by rw[←List.take_of_length_le (l:=l) (i:=k) (by omega)];exact HA.out)
  go_wp2_with fail
  go_ret
  exact⟨_,rfl,by rw[HT.out];rfl,HB.out⟩

theorem zHL (l:List (Int×Int)) (p:Int×Int→Bool) (g:Nat) (lb:Array Value) (eg: ∀args w,(callFunc g args).run Tryz.prog w= .ok (.enter g args) w) (v:Value) (w:World) (hl:SlAt 2 RngC w v l)
  (CP:Hid (∀x∈l,∀wx,Below w.heap.size w wx→Calls Tryz.prog g (#[.agg #[.int .i64 x.1,.int .i64 x.2]]++lb) wx fun e w'=>e= .returned (.bool (p x))∧Below wx.heap.size wx w')):
  Calls Tryz.prog 185 #[v,.func (.func g) #[] lb] w fun e w'=>e= .returned (.bool (l.any p))∧Below w.heap.size w w':=by
 have CI:=lH (zMt l p g lb eg v w hl CP)
 obtain⟨za,zn,zc,rfl⟩:=hl.isSlice
 clear hl CP eg
 go_enter Tryz.func185,Tryz.ntmps185
 go_wp2_with fail
 refine CI.out.mono ?_
 rintro e w1 ⟨i,rfl,hi,hb⟩
 have HI:=lH hi
 clear hi
 go_wp2_with fail
 go_ret
 exact⟨zAg HI.out,hb⟩
end Go.Proofs.YtjlchookakbomaaGreatDoor
