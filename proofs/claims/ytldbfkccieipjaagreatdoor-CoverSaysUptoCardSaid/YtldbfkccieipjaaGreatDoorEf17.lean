/- Whatever the language: its rules' texts are rules, and both packages tell the same. -/
import Derived.Test.YtldbfkccieipjaaGreatDoorProg
import Derived.Test.YtldbfkccieipjaaGreatDoorEf0
import Derived.Test.YtldbfkccieipjaaGreatDoorEf16
namespace Go.Proofs.YtldbfkccieipjaaGreatDoor
set_option maxRecDepth 100000
open Go.RowKit

/-- the map's first entries -/
def lgE0:Array MapEntry:= #[]
def lgE1:Array MapEntry:=lgE0.push {key:= .string ⟨#[101,110]⟩,val:= .agg #[.string ⟨#[]⟩,.string ⟨#[105,32,61,32,49,32,97,110,100,32,118,32,61,32,48]⟩,.string ⟨#[]⟩,.string ⟨#[]⟩,.string ⟨#[]⟩],born:=0}
def lgE2:Array MapEntry:=lgE1.push {key:= .string ⟨#[100,101]⟩,val:= .agg #[.string ⟨#[]⟩,.string ⟨#[105,32,61,32,49,32,97,110,100,32,118,32,61,32,48]⟩,.string ⟨#[]⟩,.string ⟨#[]⟩,.string ⟨#[]⟩],born:=1}
def lgE3:Array MapEntry:=lgE2.push {key:= .string ⟨#[102,114]⟩,val:= .agg #[.string ⟨#[]⟩,.string ⟨#[105,32,61,32,48,44,49]⟩,.string ⟨#[]⟩,.string ⟨#[]⟩,.string ⟨#[]⟩],born:=2}
def lgE4:Array MapEntry:=lgE3.push {key:= .string ⟨#[106,97]⟩,val:= .agg #[.string ⟨#[]⟩,.string ⟨#[]⟩,.string ⟨#[]⟩,.string ⟨#[]⟩,.string ⟨#[]⟩],born:=3}
def lgE5:Array MapEntry:=lgE4.push {key:= .string ⟨#[112,108]⟩,val:= .agg #[.string ⟨#[]⟩,.string ⟨#[105,32,61,32,49,32,97,110,100,32,118,32,61,32,48]⟩,.string ⟨#[]⟩,.string ⟨#[118,32,61,32,48,32,97,110,100,32,105,32,37,32,49,48,32,61,32,50,46,46,52,32,97,110,100,32,105,32,37,32,49,48,48,32,33,61,32,49,50,46,46,49,52]⟩,.string ⟨#[118,32,61,32,48,32,97,110,100,32,105,32,33,61,32,49,32,97,110,100,32,105,32,37,32,49,48,32,61,32,48,46,46,49,32,111,114,32,118,32,61,32,48,32,97,110,100,32,105,32,37,32,49,48,32,61,32,53,46,46,57,32,111,114,32,118,32,61,32,48,32,97,110,100,32,105,32,37,32,49,48,48,32,61,32,49,50,46,46,49,52]⟩],born:=4}
def lgE6:Array MapEntry:=lgE5.push {key:= .string ⟨#[114,117]⟩,val:= .agg #[.string ⟨#[]⟩,.string ⟨#[118,32,61,32,48,32,97,110,100,32,105,32,37,32,49,48,32,61,32,49,32,97,110,100,32,105,32,37,32,49,48,48,32,33,61,32,49,49]⟩,.string ⟨#[]⟩,.string ⟨#[118,32,61,32,48,32,97,110,100,32,105,32,37,32,49,48,32,61,32,50,46,46,52,32,97,110,100,32,105,32,37,32,49,48,48,32,33,61,32,49,50,46,46,49,52]⟩,.string ⟨#[118,32,61,32,48,32,97,110,100,32,105,32,37,32,49,48,32,61,32,48,32,111,114,32,118,32,61,32,48,32,97,110,100,32,105,32,37,32,49,48,32,61,32,53,46,46,57,32,111,114,32,118,32,61,32,48,32,97,110,100,32,105,32,37,32,49,48,48,32,61,32,49,49,46,46,49,52]⟩],born:=5}
def lgE7:Array MapEntry:=lgE6.push {key:= .string ⟨#[97,114]⟩,val:= .agg #[.string ⟨#[110,32,61,32,48]⟩,.string ⟨#[110,32,61,32,49]⟩,.string ⟨#[110,32,61,32,50]⟩,.string ⟨#[110,32,37,32,49,48,48,32,61,32,51,46,46,49,48]⟩,.string ⟨#[110,32,37,32,49,48,48,32,61,32,49,49,46,46,57,57]⟩],born:=6}
def lgE8:Array MapEntry:=lgE7.push {key:= .string ⟨#[108,118]⟩,val:= .agg #[.string ⟨#[110,32,37,32,49,48,32,61,32,48,32,111,114,32,110,32,37,32,49,48,48,32,61,32,49,49,46,46,49,57,32,111,114,32,118,32,61,32,50,32,97,110,100,32,102,32,37,32,49,48,48,32,61,32,49,49,46,46,49,57]⟩,.string ⟨#[110,32,37,32,49,48,32,61,32,49,32,97,110,100,32,110,32,37,32,49,48,48,32,33,61,32,49,49,32,111,114,32,118,32,61,32,50,32,97,110,100,32,102,32,37,32,49,48,32,61,32,49,32,97,110,100,32,102,32,37,32,49,48,48,32,33,61,32,49,49,32,111,114,32,118,32,33,61,32,50,32,97,110,100,32,102,32,37,32,49,48,32,61,32,49]⟩,.string ⟨#[]⟩,.string ⟨#[]⟩,.string ⟨#[]⟩],born:=7}

theorem lg_put (w:World) (c:Obj) (E E':Array MapEntry) (b b':Nat) (k:ByteArray) (v:Value) (hf:Instr.findNow .string (.string k) E.toList 0=some none) (hE:E'=E.push {key:= .string k,val:=v,born:=b}) (hb:b'=b+1):
  (Instr.mapUpdate 97 (.map (some (w.heap.size+1))) (.string k) v).run Tryz.prog ((w.alloc c).alloc (.map E b))= .ok () ((w.alloc c).alloc (.map E' b')):=by
 subst hE hb
 have h:=map_new (P:= Tryz.prog) 97 9 54 Tryz.underlying97 Tryz.underlying9 E b k v hf (w.alloc c)
 rw[show(w.alloc c).heap.size=w.heap.size+1 by simp] at h
 exact h
theorem lg_look (w:World) (c d:Obj) (k:ByteArray) (v:Value) (i:Nat) (hf:Instr.findNow .string (.string k) lgE8.toList 0=some (some (i,v))):
  (Instr.lookup 97 (.map (some (w.heap.size+1+1))) (.string k) true).run Tryz.prog (((w.alloc c).alloc d).alloc (.map lgE8 8))= .ok (.tuple #[v,.bool true]) (((w.alloc c).alloc d).alloc (.map lgE8 8)):=
 map_look (P:= Tryz.prog) 97 9 54 Tryz.underlying97 Tryz.underlying9 lgE8 8 (w.heap.size+1+1) i k v _ (top_alloc _ _ _ (by simp)) hf

set_option maxHeartbeats 1000000 in
theorem rules_any (w:World):Calls Tryz.prog 42 #[] w fun e w'=>e= .returned (.map (some (w.heap.size+1)))∧w'=(w.alloc (.cells #[.string ⟨#[]⟩,.string ⟨#[105,32,61,32,49,32,97,110,100,32,118,32,61,32,48]⟩,.string ⟨#[]⟩,.string ⟨#[]⟩,.string ⟨#[]⟩] 54)).alloc (.map lgE8 8):=by
 have I0:=lg_put w (.cells #[.string ⟨#[]⟩,.string ⟨#[105,32,61,32,49,32,97,110,100,32,118,32,61,32,48]⟩,.string ⟨#[]⟩,.string ⟨#[]⟩,.string ⟨#[]⟩] 54) lgE0 lgE1 0 1 ⟨#[101,110]⟩ (.agg #[.string ⟨#[]⟩,.string ⟨#[105,32,61,32,49,32,97,110,100,32,118,32,61,32,48]⟩,.string ⟨#[]⟩,.string ⟨#[]⟩,.string ⟨#[]⟩]) (by kernel_rfl) rfl rfl
 have I1:=lg_put w (.cells #[.string ⟨#[]⟩,.string ⟨#[105,32,61,32,49,32,97,110,100,32,118,32,61,32,48]⟩,.string ⟨#[]⟩,.string ⟨#[]⟩,.string ⟨#[]⟩] 54) lgE1 lgE2 1 2 ⟨#[100,101]⟩ (.agg #[.string ⟨#[]⟩,.string ⟨#[105,32,61,32,49,32,97,110,100,32,118,32,61,32,48]⟩,.string ⟨#[]⟩,.string ⟨#[]⟩,.string ⟨#[]⟩]) (by kernel_rfl) rfl rfl
 have I2:=lg_put w (.cells #[.string ⟨#[]⟩,.string ⟨#[105,32,61,32,49,32,97,110,100,32,118,32,61,32,48]⟩,.string ⟨#[]⟩,.string ⟨#[]⟩,.string ⟨#[]⟩] 54) lgE2 lgE3 2 3 ⟨#[102,114]⟩ (.agg #[.string ⟨#[]⟩,.string ⟨#[105,32,61,32,48,44,49]⟩,.string ⟨#[]⟩,.string ⟨#[]⟩,.string ⟨#[]⟩]) (by kernel_rfl) rfl rfl
 have I3:=lg_put w (.cells #[.string ⟨#[]⟩,.string ⟨#[105,32,61,32,49,32,97,110,100,32,118,32,61,32,48]⟩,.string ⟨#[]⟩,.string ⟨#[]⟩,.string ⟨#[]⟩] 54) lgE3 lgE4 3 4 ⟨#[106,97]⟩ (.agg #[.string ⟨#[]⟩,.string ⟨#[]⟩,.string ⟨#[]⟩,.string ⟨#[]⟩,.string ⟨#[]⟩]) (by kernel_rfl) rfl rfl
 have I4:=lg_put w (.cells #[.string ⟨#[]⟩,.string ⟨#[105,32,61,32,49,32,97,110,100,32,118,32,61,32,48]⟩,.string ⟨#[]⟩,.string ⟨#[]⟩,.string ⟨#[]⟩] 54) lgE4 lgE5 4 5 ⟨#[112,108]⟩ (.agg #[.string ⟨#[]⟩,.string ⟨#[105,32,61,32,49,32,97,110,100,32,118,32,61,32,48]⟩,.string ⟨#[]⟩,.string ⟨#[118,32,61,32,48,32,97,110,100,32,105,32,37,32,49,48,32,61,32,50,46,46,52,32,97,110,100,32,105,32,37,32,49,48,48,32,33,61,32,49,50,46,46,49,52]⟩,.string ⟨#[118,32,61,32,48,32,97,110,100,32,105,32,33,61,32,49,32,97,110,100,32,105,32,37,32,49,48,32,61,32,48,46,46,49,32,111,114,32,118,32,61,32,48,32,97,110,100,32,105,32,37,32,49,48,32,61,32,53,46,46,57,32,111,114,32,118,32,61,32,48,32,97,110,100,32,105,32,37,32,49,48,48,32,61,32,49,50,46,46,49,52]⟩]) (by kernel_rfl) rfl rfl
 have I5:=lg_put w (.cells #[.string ⟨#[]⟩,.string ⟨#[105,32,61,32,49,32,97,110,100,32,118,32,61,32,48]⟩,.string ⟨#[]⟩,.string ⟨#[]⟩,.string ⟨#[]⟩] 54) lgE5 lgE6 5 6 ⟨#[114,117]⟩ (.agg #[.string ⟨#[]⟩,.string ⟨#[118,32,61,32,48,32,97,110,100,32,105,32,37,32,49,48,32,61,32,49,32,97,110,100,32,105,32,37,32,49,48,48,32,33,61,32,49,49]⟩,.string ⟨#[]⟩,.string ⟨#[118,32,61,32,48,32,97,110,100,32,105,32,37,32,49,48,32,61,32,50,46,46,52,32,97,110,100,32,105,32,37,32,49,48,48,32,33,61,32,49,50,46,46,49,52]⟩,.string ⟨#[118,32,61,32,48,32,97,110,100,32,105,32,37,32,49,48,32,61,32,48,32,111,114,32,118,32,61,32,48,32,97,110,100,32,105,32,37,32,49,48,32,61,32,53,46,46,57,32,111,114,32,118,32,61,32,48,32,97,110,100,32,105,32,37,32,49,48,48,32,61,32,49,49,46,46,49,52]⟩]) (by kernel_rfl) rfl rfl
 have I6:=lg_put w (.cells #[.string ⟨#[]⟩,.string ⟨#[105,32,61,32,49,32,97,110,100,32,118,32,61,32,48]⟩,.string ⟨#[]⟩,.string ⟨#[]⟩,.string ⟨#[]⟩] 54) lgE6 lgE7 6 7 ⟨#[97,114]⟩ (.agg #[.string ⟨#[110,32,61,32,48]⟩,.string ⟨#[110,32,61,32,49]⟩,.string ⟨#[110,32,61,32,50]⟩,.string ⟨#[110,32,37,32,49,48,48,32,61,32,51,46,46,49,48]⟩,.string ⟨#[110,32,37,32,49,48,48,32,61,32,49,49,46,46,57,57]⟩]) (by kernel_rfl) rfl rfl
 have I7:=lg_put w (.cells #[.string ⟨#[]⟩,.string ⟨#[105,32,61,32,49,32,97,110,100,32,118,32,61,32,48]⟩,.string ⟨#[]⟩,.string ⟨#[]⟩,.string ⟨#[]⟩] 54) lgE7 lgE8 7 8 ⟨#[108,118]⟩ (.agg #[.string ⟨#[110,32,37,32,49,48,32,61,32,48,32,111,114,32,110,32,37,32,49,48,48,32,61,32,49,49,46,46,49,57,32,111,114,32,118,32,61,32,50,32,97,110,100,32,102,32,37,32,49,48,48,32,61,32,49,49,46,46,49,57]⟩,.string ⟨#[110,32,37,32,49,48,32,61,32,49,32,97,110,100,32,110,32,37,32,49,48,48,32,33,61,32,49,49,32,111,114,32,118,32,61,32,50,32,97,110,100,32,102,32,37,32,49,48,32,61,32,49,32,97,110,100,32,102,32,37,32,49,48,48,32,33,61,32,49,49,32,111,114,32,118,32,33,61,32,50,32,97,110,100,32,102,32,37,32,49,48,32,61,32,49]⟩,.string ⟨#[]⟩,.string ⟨#[]⟩,.string ⟨#[]⟩]) (by kernel_rfl) rfl rfl
 have hmm: ∀w,(Instr.makeMap 97 none).run Tryz.prog w= .ok (.map (some w.heap.size)) (w.alloc (.map lgE0 0)):=fun w=> @run_makeMap Tryz.prog 97 w
 go_enter Tryz.func42,Tryz.ntmps42
 go_wp2_with fail
 go_ret
 exact⟨rfl,rfl⟩

set_option maxHeartbeats 1000000 in
theorem langRules_en (w:World):Calls Tryz.prog 20 #[.string ⟨#[101,110]⟩] w fun e w'=>e= .returned (.tuple #[.agg #[.string ⟨#[]⟩,.string ⟨#[105,32,61,32,49,32,97,110,100,32,118,32,61,32,48]⟩,.string ⟨#[]⟩,.string ⟨#[]⟩,.string ⟨#[]⟩],.nilIface])∧Below w.heap.size w w':=by
 have LK:=lg_look w (.cells #[.string ⟨#[]⟩,.string ⟨#[]⟩,.string ⟨#[]⟩,.string ⟨#[]⟩,.string ⟨#[]⟩] 54) (.cells #[.string ⟨#[]⟩,.string ⟨#[105,32,61,32,49,32,97,110,100,32,118,32,61,32,48]⟩,.string ⟨#[]⟩,.string ⟨#[]⟩,.string ⟨#[]⟩] 54) ⟨#[101,110]⟩ (.agg #[.string ⟨#[]⟩,.string ⟨#[105,32,61,32,49,32,97,110,100,32,118,32,61,32,48]⟩,.string ⟨#[]⟩,.string ⟨#[]⟩,.string ⟨#[]⟩]) 0 (by kernel_rfl)
 go_enter Tryz.func20,Tryz.ntmps20
 go_wp2_with fail
 refine(rules_any _).mono ?_
 rintro e w1 ⟨rfl,rfl⟩
 go_wp2_with fail
 refine bodyPost_ret (by simp[results,Tryz.results20,go_sem]) rfl ⟨rfl,?_⟩
 repeat(first|exact Below.refl _ _|refine Below.setCell ?_ (by simp) _|refine Below.alloc ?_ (by first|(simp;done)|(simp;omega)) _)

set_option maxHeartbeats 1000000 in
theorem rulesOf_en (w:World):Calls Tryz.prog 52 #[.string ⟨#[101,110]⟩] w fun e w'=>e= .returned (.tuple #[.agg #[.string ⟨#[]⟩,.string ⟨#[105,32,61,32,49,32,97,110,100,32,118,32,61,32,48]⟩,.string ⟨#[]⟩,.string ⟨#[]⟩,.string ⟨#[]⟩],.bool true])∧Below w.heap.size w w':=by
 go_enter Tryz.func52,Tryz.ntmps52
 go_wp2_with fail
 refine bodyPost_ret (by simp[results,Tryz.results52,go_sem]) rfl ⟨rfl,?_⟩
 repeat(first|exact Below.refl _ _|refine Below.setCell ?_ (by simp) _|refine Below.alloc ?_ (by first|(simp;done)|(simp;omega)) _)

set_option maxHeartbeats 1000000 in
theorem langRules_de (w:World):Calls Tryz.prog 20 #[.string ⟨#[100,101]⟩] w fun e w'=>e= .returned (.tuple #[.agg #[.string ⟨#[]⟩,.string ⟨#[105,32,61,32,49,32,97,110,100,32,118,32,61,32,48]⟩,.string ⟨#[]⟩,.string ⟨#[]⟩,.string ⟨#[]⟩],.nilIface])∧Below w.heap.size w w':=by
 have LK:=lg_look w (.cells #[.string ⟨#[]⟩,.string ⟨#[]⟩,.string ⟨#[]⟩,.string ⟨#[]⟩,.string ⟨#[]⟩] 54) (.cells #[.string ⟨#[]⟩,.string ⟨#[105,32,61,32,49,32,97,110,100,32,118,32,61,32,48]⟩,.string ⟨#[]⟩,.string ⟨#[]⟩,.string ⟨#[]⟩] 54) ⟨#[100,101]⟩ (.agg #[.string ⟨#[]⟩,.string ⟨#[105,32,61,32,49,32,97,110,100,32,118,32,61,32,48]⟩,.string ⟨#[]⟩,.string ⟨#[]⟩,.string ⟨#[]⟩]) 1 (by kernel_rfl)
 go_enter Tryz.func20,Tryz.ntmps20
 go_wp2_with fail
 refine(rules_any _).mono ?_
 rintro e w1 ⟨rfl,rfl⟩
 go_wp2_with fail
 refine bodyPost_ret (by simp[results,Tryz.results20,go_sem]) rfl ⟨rfl,?_⟩
 repeat(first|exact Below.refl _ _|refine Below.setCell ?_ (by simp) _|refine Below.alloc ?_ (by first|(simp;done)|(simp;omega)) _)

set_option maxHeartbeats 1000000 in
theorem rulesOf_de (w:World):Calls Tryz.prog 52 #[.string ⟨#[100,101]⟩] w fun e w'=>e= .returned (.tuple #[.agg #[.string ⟨#[]⟩,.string ⟨#[105,32,61,32,49,32,97,110,100,32,118,32,61,32,48]⟩,.string ⟨#[]⟩,.string ⟨#[]⟩,.string ⟨#[]⟩],.bool true])∧Below w.heap.size w w':=by
 go_enter Tryz.func52,Tryz.ntmps52
 go_wp2_with fail
 refine bodyPost_ret (by simp[results,Tryz.results52,go_sem]) rfl ⟨rfl,?_⟩
 repeat(first|exact Below.refl _ _|refine Below.setCell ?_ (by simp) _|refine Below.alloc ?_ (by first|(simp;done)|(simp;omega)) _)

set_option maxHeartbeats 1000000 in
theorem langRules_fr (w:World):Calls Tryz.prog 20 #[.string ⟨#[102,114]⟩] w fun e w'=>e= .returned (.tuple #[.agg #[.string ⟨#[]⟩,.string ⟨#[105,32,61,32,48,44,49]⟩,.string ⟨#[]⟩,.string ⟨#[]⟩,.string ⟨#[]⟩],.nilIface])∧Below w.heap.size w w':=by
 have LK:=lg_look w (.cells #[.string ⟨#[]⟩,.string ⟨#[]⟩,.string ⟨#[]⟩,.string ⟨#[]⟩,.string ⟨#[]⟩] 54) (.cells #[.string ⟨#[]⟩,.string ⟨#[105,32,61,32,49,32,97,110,100,32,118,32,61,32,48]⟩,.string ⟨#[]⟩,.string ⟨#[]⟩,.string ⟨#[]⟩] 54) ⟨#[102,114]⟩ (.agg #[.string ⟨#[]⟩,.string ⟨#[105,32,61,32,48,44,49]⟩,.string ⟨#[]⟩,.string ⟨#[]⟩,.string ⟨#[]⟩]) 2 (by kernel_rfl)
 go_enter Tryz.func20,Tryz.ntmps20
 go_wp2_with fail
 refine(rules_any _).mono ?_
 rintro e w1 ⟨rfl,rfl⟩
 go_wp2_with fail
 refine bodyPost_ret (by simp[results,Tryz.results20,go_sem]) rfl ⟨rfl,?_⟩
 repeat(first|exact Below.refl _ _|refine Below.setCell ?_ (by simp) _|refine Below.alloc ?_ (by first|(simp;done)|(simp;omega)) _)

set_option maxHeartbeats 1000000 in
theorem rulesOf_fr (w:World):Calls Tryz.prog 52 #[.string ⟨#[102,114]⟩] w fun e w'=>e= .returned (.tuple #[.agg #[.string ⟨#[]⟩,.string ⟨#[105,32,61,32,48,44,49]⟩,.string ⟨#[]⟩,.string ⟨#[]⟩,.string ⟨#[]⟩],.bool true])∧Below w.heap.size w w':=by
 go_enter Tryz.func52,Tryz.ntmps52
 go_wp2_with fail
 refine bodyPost_ret (by simp[results,Tryz.results52,go_sem]) rfl ⟨rfl,?_⟩
 repeat(first|exact Below.refl _ _|refine Below.setCell ?_ (by simp) _|refine Below.alloc ?_ (by first|(simp;done)|(simp;omega)) _)

set_option maxHeartbeats 1000000 in
theorem langRules_ja (w:World):Calls Tryz.prog 20 #[.string ⟨#[106,97]⟩] w fun e w'=>e= .returned (.tuple #[.agg #[.string ⟨#[]⟩,.string ⟨#[]⟩,.string ⟨#[]⟩,.string ⟨#[]⟩,.string ⟨#[]⟩],.nilIface])∧Below w.heap.size w w':=by
 have LK:=lg_look w (.cells #[.string ⟨#[]⟩,.string ⟨#[]⟩,.string ⟨#[]⟩,.string ⟨#[]⟩,.string ⟨#[]⟩] 54) (.cells #[.string ⟨#[]⟩,.string ⟨#[105,32,61,32,49,32,97,110,100,32,118,32,61,32,48]⟩,.string ⟨#[]⟩,.string ⟨#[]⟩,.string ⟨#[]⟩] 54) ⟨#[106,97]⟩ (.agg #[.string ⟨#[]⟩,.string ⟨#[]⟩,.string ⟨#[]⟩,.string ⟨#[]⟩,.string ⟨#[]⟩]) 3 (by kernel_rfl)
 go_enter Tryz.func20,Tryz.ntmps20
 go_wp2_with fail
 refine(rules_any _).mono ?_
 rintro e w1 ⟨rfl,rfl⟩
 go_wp2_with fail
 refine bodyPost_ret (by simp[results,Tryz.results20,go_sem]) rfl ⟨rfl,?_⟩
 repeat(first|exact Below.refl _ _|refine Below.setCell ?_ (by simp) _|refine Below.alloc ?_ (by first|(simp;done)|(simp;omega)) _)

set_option maxHeartbeats 1000000 in
theorem rulesOf_ja (w:World):Calls Tryz.prog 52 #[.string ⟨#[106,97]⟩] w fun e w'=>e= .returned (.tuple #[.agg #[.string ⟨#[]⟩,.string ⟨#[]⟩,.string ⟨#[]⟩,.string ⟨#[]⟩,.string ⟨#[]⟩],.bool true])∧Below w.heap.size w w':=by
 go_enter Tryz.func52,Tryz.ntmps52
 go_wp2_with fail
 refine bodyPost_ret (by simp[results,Tryz.results52,go_sem]) rfl ⟨rfl,?_⟩
 repeat(first|exact Below.refl _ _|refine Below.setCell ?_ (by simp) _|refine Below.alloc ?_ (by first|(simp;done)|(simp;omega)) _)

set_option maxHeartbeats 1000000 in
theorem langRules_pl (w:World):Calls Tryz.prog 20 #[.string ⟨#[112,108]⟩] w fun e w'=>e= .returned (.tuple #[.agg #[.string ⟨#[]⟩,.string ⟨#[105,32,61,32,49,32,97,110,100,32,118,32,61,32,48]⟩,.string ⟨#[]⟩,.string ⟨#[118,32,61,32,48,32,97,110,100,32,105,32,37,32,49,48,32,61,32,50,46,46,52,32,97,110,100,32,105,32,37,32,49,48,48,32,33,61,32,49,50,46,46,49,52]⟩,.string ⟨#[118,32,61,32,48,32,97,110,100,32,105,32,33,61,32,49,32,97,110,100,32,105,32,37,32,49,48,32,61,32,48,46,46,49,32,111,114,32,118,32,61,32,48,32,97,110,100,32,105,32,37,32,49,48,32,61,32,53,46,46,57,32,111,114,32,118,32,61,32,48,32,97,110,100,32,105,32,37,32,49,48,48,32,61,32,49,50,46,46,49,52]⟩],.nilIface])∧Below w.heap.size w w':=by
 have LK:=lg_look w (.cells #[.string ⟨#[]⟩,.string ⟨#[]⟩,.string ⟨#[]⟩,.string ⟨#[]⟩,.string ⟨#[]⟩] 54) (.cells #[.string ⟨#[]⟩,.string ⟨#[105,32,61,32,49,32,97,110,100,32,118,32,61,32,48]⟩,.string ⟨#[]⟩,.string ⟨#[]⟩,.string ⟨#[]⟩] 54) ⟨#[112,108]⟩ (.agg #[.string ⟨#[]⟩,.string ⟨#[105,32,61,32,49,32,97,110,100,32,118,32,61,32,48]⟩,.string ⟨#[]⟩,.string ⟨#[118,32,61,32,48,32,97,110,100,32,105,32,37,32,49,48,32,61,32,50,46,46,52,32,97,110,100,32,105,32,37,32,49,48,48,32,33,61,32,49,50,46,46,49,52]⟩,.string ⟨#[118,32,61,32,48,32,97,110,100,32,105,32,33,61,32,49,32,97,110,100,32,105,32,37,32,49,48,32,61,32,48,46,46,49,32,111,114,32,118,32,61,32,48,32,97,110,100,32,105,32,37,32,49,48,32,61,32,53,46,46,57,32,111,114,32,118,32,61,32,48,32,97,110,100,32,105,32,37,32,49,48,48,32,61,32,49,50,46,46,49,52]⟩]) 4 (by kernel_rfl)
 go_enter Tryz.func20,Tryz.ntmps20
 go_wp2_with fail
 refine(rules_any _).mono ?_
 rintro e w1 ⟨rfl,rfl⟩
 go_wp2_with fail
 refine bodyPost_ret (by simp[results,Tryz.results20,go_sem]) rfl ⟨rfl,?_⟩
 repeat(first|exact Below.refl _ _|refine Below.setCell ?_ (by simp) _|refine Below.alloc ?_ (by first|(simp;done)|(simp;omega)) _)

set_option maxHeartbeats 1000000 in
theorem rulesOf_pl (w:World):Calls Tryz.prog 52 #[.string ⟨#[112,108]⟩] w fun e w'=>e= .returned (.tuple #[.agg #[.string ⟨#[]⟩,.string ⟨#[105,32,61,32,49,32,97,110,100,32,118,32,61,32,48]⟩,.string ⟨#[]⟩,.string ⟨#[118,32,61,32,48,32,97,110,100,32,105,32,37,32,49,48,32,61,32,50,46,46,52,32,97,110,100,32,105,32,37,32,49,48,48,32,33,61,32,49,50,46,46,49,52]⟩,.string ⟨#[118,32,61,32,48,32,97,110,100,32,105,32,33,61,32,49,32,97,110,100,32,105,32,37,32,49,48,32,61,32,48,46,46,49,32,111,114,32,118,32,61,32,48,32,97,110,100,32,105,32,37,32,49,48,32,61,32,53,46,46,57,32,111,114,32,118,32,61,32,48,32,97,110,100,32,105,32,37,32,49,48,48,32,61,32,49,50,46,46,49,52]⟩],.bool true])∧Below w.heap.size w w':=by
 go_enter Tryz.func52,Tryz.ntmps52
 go_wp2_with fail
 refine bodyPost_ret (by simp[results,Tryz.results52,go_sem]) rfl ⟨rfl,?_⟩
 repeat(first|exact Below.refl _ _|refine Below.setCell ?_ (by simp) _|refine Below.alloc ?_ (by first|(simp;done)|(simp;omega)) _)

set_option maxHeartbeats 1000000 in
theorem langRules_ru (w:World):Calls Tryz.prog 20 #[.string ⟨#[114,117]⟩] w fun e w'=>e= .returned (.tuple #[.agg #[.string ⟨#[]⟩,.string ⟨#[118,32,61,32,48,32,97,110,100,32,105,32,37,32,49,48,32,61,32,49,32,97,110,100,32,105,32,37,32,49,48,48,32,33,61,32,49,49]⟩,.string ⟨#[]⟩,.string ⟨#[118,32,61,32,48,32,97,110,100,32,105,32,37,32,49,48,32,61,32,50,46,46,52,32,97,110,100,32,105,32,37,32,49,48,48,32,33,61,32,49,50,46,46,49,52]⟩,.string ⟨#[118,32,61,32,48,32,97,110,100,32,105,32,37,32,49,48,32,61,32,48,32,111,114,32,118,32,61,32,48,32,97,110,100,32,105,32,37,32,49,48,32,61,32,53,46,46,57,32,111,114,32,118,32,61,32,48,32,97,110,100,32,105,32,37,32,49,48,48,32,61,32,49,49,46,46,49,52]⟩],.nilIface])∧Below w.heap.size w w':=by
 have LK:=lg_look w (.cells #[.string ⟨#[]⟩,.string ⟨#[]⟩,.string ⟨#[]⟩,.string ⟨#[]⟩,.string ⟨#[]⟩] 54) (.cells #[.string ⟨#[]⟩,.string ⟨#[105,32,61,32,49,32,97,110,100,32,118,32,61,32,48]⟩,.string ⟨#[]⟩,.string ⟨#[]⟩,.string ⟨#[]⟩] 54) ⟨#[114,117]⟩ (.agg #[.string ⟨#[]⟩,.string ⟨#[118,32,61,32,48,32,97,110,100,32,105,32,37,32,49,48,32,61,32,49,32,97,110,100,32,105,32,37,32,49,48,48,32,33,61,32,49,49]⟩,.string ⟨#[]⟩,.string ⟨#[118,32,61,32,48,32,97,110,100,32,105,32,37,32,49,48,32,61,32,50,46,46,52,32,97,110,100,32,105,32,37,32,49,48,48,32,33,61,32,49,50,46,46,49,52]⟩,.string ⟨#[118,32,61,32,48,32,97,110,100,32,105,32,37,32,49,48,32,61,32,48,32,111,114,32,118,32,61,32,48,32,97,110,100,32,105,32,37,32,49,48,32,61,32,53,46,46,57,32,111,114,32,118,32,61,32,48,32,97,110,100,32,105,32,37,32,49,48,48,32,61,32,49,49,46,46,49,52]⟩]) 5 (by kernel_rfl)
 go_enter Tryz.func20,Tryz.ntmps20
 go_wp2_with fail
 refine(rules_any _).mono ?_
 rintro e w1 ⟨rfl,rfl⟩
 go_wp2_with fail
 refine bodyPost_ret (by simp[results,Tryz.results20,go_sem]) rfl ⟨rfl,?_⟩
 repeat(first|exact Below.refl _ _|refine Below.setCell ?_ (by simp) _|refine Below.alloc ?_ (by first|(simp;done)|(simp;omega)) _)

set_option maxHeartbeats 1000000 in
theorem rulesOf_ru (w:World):Calls Tryz.prog 52 #[.string ⟨#[114,117]⟩] w fun e w'=>e= .returned (.tuple #[.agg #[.string ⟨#[]⟩,.string ⟨#[118,32,61,32,48,32,97,110,100,32,105,32,37,32,49,48,32,61,32,49,32,97,110,100,32,105,32,37,32,49,48,48,32,33,61,32,49,49]⟩,.string ⟨#[]⟩,.string ⟨#[118,32,61,32,48,32,97,110,100,32,105,32,37,32,49,48,32,61,32,50,46,46,52,32,97,110,100,32,105,32,37,32,49,48,48,32,33,61,32,49,50,46,46,49,52]⟩,.string ⟨#[118,32,61,32,48,32,97,110,100,32,105,32,37,32,49,48,32,61,32,48,32,111,114,32,118,32,61,32,48,32,97,110,100,32,105,32,37,32,49,48,32,61,32,53,46,46,57,32,111,114,32,118,32,61,32,48,32,97,110,100,32,105,32,37,32,49,48,48,32,61,32,49,49,46,46,49,52]⟩],.bool true])∧Below w.heap.size w w':=by
 go_enter Tryz.func52,Tryz.ntmps52
 go_wp2_with fail
 refine bodyPost_ret (by simp[results,Tryz.results52,go_sem]) rfl ⟨rfl,?_⟩
 repeat(first|exact Below.refl _ _|refine Below.setCell ?_ (by simp) _|refine Below.alloc ?_ (by first|(simp;done)|(simp;omega)) _)

set_option maxHeartbeats 1000000 in
theorem langRules_ar (w:World):Calls Tryz.prog 20 #[.string ⟨#[97,114]⟩] w fun e w'=>e= .returned (.tuple #[.agg #[.string ⟨#[110,32,61,32,48]⟩,.string ⟨#[110,32,61,32,49]⟩,.string ⟨#[110,32,61,32,50]⟩,.string ⟨#[110,32,37,32,49,48,48,32,61,32,51,46,46,49,48]⟩,.string ⟨#[110,32,37,32,49,48,48,32,61,32,49,49,46,46,57,57]⟩],.nilIface])∧Below w.heap.size w w':=by
 have LK:=lg_look w (.cells #[.string ⟨#[]⟩,.string ⟨#[]⟩,.string ⟨#[]⟩,.string ⟨#[]⟩,.string ⟨#[]⟩] 54) (.cells #[.string ⟨#[]⟩,.string ⟨#[105,32,61,32,49,32,97,110,100,32,118,32,61,32,48]⟩,.string ⟨#[]⟩,.string ⟨#[]⟩,.string ⟨#[]⟩] 54) ⟨#[97,114]⟩ (.agg #[.string ⟨#[110,32,61,32,48]⟩,.string ⟨#[110,32,61,32,49]⟩,.string ⟨#[110,32,61,32,50]⟩,.string ⟨#[110,32,37,32,49,48,48,32,61,32,51,46,46,49,48]⟩,.string ⟨#[110,32,37,32,49,48,48,32,61,32,49,49,46,46,57,57]⟩]) 6 (by kernel_rfl)
 go_enter Tryz.func20,Tryz.ntmps20
 go_wp2_with fail
 refine(rules_any _).mono ?_
 rintro e w1 ⟨rfl,rfl⟩
 go_wp2_with fail
 refine bodyPost_ret (by simp[results,Tryz.results20,go_sem]) rfl ⟨rfl,?_⟩
 repeat(first|exact Below.refl _ _|refine Below.setCell ?_ (by simp) _|refine Below.alloc ?_ (by first|(simp;done)|(simp;omega)) _)

set_option maxHeartbeats 1000000 in
theorem rulesOf_ar (w:World):Calls Tryz.prog 52 #[.string ⟨#[97,114]⟩] w fun e w'=>e= .returned (.tuple #[.agg #[.string ⟨#[110,32,61,32,48]⟩,.string ⟨#[110,32,61,32,49]⟩,.string ⟨#[110,32,61,32,50]⟩,.string ⟨#[110,32,37,32,49,48,48,32,61,32,51,46,46,49,48]⟩,.string ⟨#[110,32,37,32,49,48,48,32,61,32,49,49,46,46,57,57]⟩],.bool true])∧Below w.heap.size w w':=by
 go_enter Tryz.func52,Tryz.ntmps52
 go_wp2_with fail
 refine bodyPost_ret (by simp[results,Tryz.results52,go_sem]) rfl ⟨rfl,?_⟩
 repeat(first|exact Below.refl _ _|refine Below.setCell ?_ (by simp) _|refine Below.alloc ?_ (by first|(simp;done)|(simp;omega)) _)

set_option maxHeartbeats 1000000 in
theorem langRules_lv (w:World):Calls Tryz.prog 20 #[.string ⟨#[108,118]⟩] w fun e w'=>e= .returned (.tuple #[.agg #[.string ⟨#[110,32,37,32,49,48,32,61,32,48,32,111,114,32,110,32,37,32,49,48,48,32,61,32,49,49,46,46,49,57,32,111,114,32,118,32,61,32,50,32,97,110,100,32,102,32,37,32,49,48,48,32,61,32,49,49,46,46,49,57]⟩,.string ⟨#[110,32,37,32,49,48,32,61,32,49,32,97,110,100,32,110,32,37,32,49,48,48,32,33,61,32,49,49,32,111,114,32,118,32,61,32,50,32,97,110,100,32,102,32,37,32,49,48,32,61,32,49,32,97,110,100,32,102,32,37,32,49,48,48,32,33,61,32,49,49,32,111,114,32,118,32,33,61,32,50,32,97,110,100,32,102,32,37,32,49,48,32,61,32,49]⟩,.string ⟨#[]⟩,.string ⟨#[]⟩,.string ⟨#[]⟩],.nilIface])∧Below w.heap.size w w':=by
 have LK:=lg_look w (.cells #[.string ⟨#[]⟩,.string ⟨#[]⟩,.string ⟨#[]⟩,.string ⟨#[]⟩,.string ⟨#[]⟩] 54) (.cells #[.string ⟨#[]⟩,.string ⟨#[105,32,61,32,49,32,97,110,100,32,118,32,61,32,48]⟩,.string ⟨#[]⟩,.string ⟨#[]⟩,.string ⟨#[]⟩] 54) ⟨#[108,118]⟩ (.agg #[.string ⟨#[110,32,37,32,49,48,32,61,32,48,32,111,114,32,110,32,37,32,49,48,48,32,61,32,49,49,46,46,49,57,32,111,114,32,118,32,61,32,50,32,97,110,100,32,102,32,37,32,49,48,48,32,61,32,49,49,46,46,49,57]⟩,.string ⟨#[110,32,37,32,49,48,32,61,32,49,32,97,110,100,32,110,32,37,32,49,48,48,32,33,61,32,49,49,32,111,114,32,118,32,61,32,50,32,97,110,100,32,102,32,37,32,49,48,32,61,32,49,32,97,110,100,32,102,32,37,32,49,48,48,32,33,61,32,49,49,32,111,114,32,118,32,33,61,32,50,32,97,110,100,32,102,32,37,32,49,48,32,61,32,49]⟩,.string ⟨#[]⟩,.string ⟨#[]⟩,.string ⟨#[]⟩]) 7 (by kernel_rfl)
 go_enter Tryz.func20,Tryz.ntmps20
 go_wp2_with fail
 refine(rules_any _).mono ?_
 rintro e w1 ⟨rfl,rfl⟩
 go_wp2_with fail
 refine bodyPost_ret (by simp[results,Tryz.results20,go_sem]) rfl ⟨rfl,?_⟩
 repeat(first|exact Below.refl _ _|refine Below.setCell ?_ (by simp) _|refine Below.alloc ?_ (by first|(simp;done)|(simp;omega)) _)

set_option maxHeartbeats 1000000 in
theorem rulesOf_lv (w:World):Calls Tryz.prog 52 #[.string ⟨#[108,118]⟩] w fun e w'=>e= .returned (.tuple #[.agg #[.string ⟨#[110,32,37,32,49,48,32,61,32,48,32,111,114,32,110,32,37,32,49,48,48,32,61,32,49,49,46,46,49,57,32,111,114,32,118,32,61,32,50,32,97,110,100,32,102,32,37,32,49,48,48,32,61,32,49,49,46,46,49,57]⟩,.string ⟨#[110,32,37,32,49,48,32,61,32,49,32,97,110,100,32,110,32,37,32,49,48,48,32,33,61,32,49,49,32,111,114,32,118,32,61,32,50,32,97,110,100,32,102,32,37,32,49,48,32,61,32,49,32,97,110,100,32,102,32,37,32,49,48,48,32,33,61,32,49,49,32,111,114,32,118,32,33,61,32,50,32,97,110,100,32,102,32,37,32,49,48,32,61,32,49]⟩,.string ⟨#[]⟩,.string ⟨#[]⟩,.string ⟨#[]⟩],.bool true])∧Below w.heap.size w w':=by
 go_enter Tryz.func52,Tryz.ntmps52
 go_wp2_with fail
 refine bodyPost_ret (by simp[results,Tryz.results52,go_sem]) rfl ⟨rfl,?_⟩
 repeat(first|exact Below.refl _ _|refine Below.setCell ?_ (by simp) _|refine Below.alloc ?_ (by first|(simp;done)|(simp;omega)) _)

theorem find_none (l:List UInt8) (h0:(l== [101,110])=false) (h1:(l== [100,101])=false) (h2:(l== [102,114])=false) (h3:(l== [106,97])=false) (h4:(l== [112,108])=false) (h5:(l== [114,117])=false) (h6:(l== [97,114])=false) (h7:(l== [108,118])=false):Instr.findNow .string (.string ⟨l.toArray⟩) lgE8.toList 0=some none:=by
 have g: ∀(a:List UInt8),(l==a)=false→((⟨l.toArray⟩:ByteArray)==⟨a.toArray⟩)=false:=fun a h=>by
  show(l.toArray==a.toArray)=false
  rw[beq_eq_false_iff_ne] at h⊢
  intro e
  exact h (by simpa using e)
 have g0:=g _ h0
 have g1:=g _ h1
 have g2:=g _ h2
 have g3:=g _ h3
 have g4:=g _ h4
 have g5:=g _ h5
 have g6:=g _ h6
 have g7:=g _ h7
 simp[lgE8,lgE7,lgE6,lgE5,lgE4,lgE3,lgE2,lgE1,lgE0,Instr.findNow,Instr.sameNow,g0,g1,g2,g3,g4,g5,g6,g7]

set_option maxHeartbeats 1000000 in
theorem langRules_no (w:World) (l:List UInt8) (h0:(l== [101,110])=false) (h1:(l== [100,101])=false) (h2:(l== [102,114])=false) (h3:(l== [106,97])=false) (h4:(l== [112,108])=false) (h5:(l== [114,117])=false) (h6:(l== [97,114])=false) (h7:(l== [108,118])=false):Calls Tryz.prog 20 #[.string ⟨l.toArray⟩] w fun e w'=>e= .returned (.tuple #[.agg #[.string ⟨#[]⟩,.string ⟨#[]⟩,.string ⟨#[]⟩,.string ⟨#[]⟩,.string ⟨#[]⟩],errV 2])∧Below w.heap.size w w':=by
 have hz: ∀w,(zeroValue 54).run Tryz.prog w= .ok (.agg #[.string ⟨#[]⟩,.string ⟨#[]⟩,.string ⟨#[]⟩,.string ⟨#[]⟩,.string ⟨#[]⟩]) w:=fun w=>by kernel_rfl
 have LK:(Instr.lookup 97 (.map (some (w.heap.size+1+1))) (.string ⟨l.toArray⟩) true).run Tryz.prog (((w.alloc (.cells #[.string ⟨#[]⟩,.string ⟨#[]⟩,.string ⟨#[]⟩,.string ⟨#[]⟩,.string ⟨#[]⟩] 54)).alloc (.cells #[.string ⟨#[]⟩,.string ⟨#[105,32,61,32,49,32,97,110,100,32,118,32,61,32,48]⟩,.string ⟨#[]⟩,.string ⟨#[]⟩,.string ⟨#[]⟩] 54)).alloc (.map lgE8 8))= .ok (.tuple #[.agg #[.string ⟨#[]⟩,.string ⟨#[]⟩,.string ⟨#[]⟩,.string ⟨#[]⟩,.string ⟨#[]⟩],.bool false]) (((w.alloc (.cells #[.string ⟨#[]⟩,.string ⟨#[]⟩,.string ⟨#[]⟩,.string ⟨#[]⟩,.string ⟨#[]⟩] 54)).alloc (.cells #[.string ⟨#[]⟩,.string ⟨#[105,32,61,32,49,32,97,110,100,32,118,32,61,32,48]⟩,.string ⟨#[]⟩,.string ⟨#[]⟩,.string ⟨#[]⟩] 54)).alloc (.map lgE8 8)):=
  map_none (P:= Tryz.prog) 97 9 54 Tryz.underlying97 Tryz.underlying9 lgE8 8 (w.heap.size+1+1) ⟨l.toArray⟩ (.agg #[.string ⟨#[]⟩,.string ⟨#[]⟩,.string ⟨#[]⟩,.string ⟨#[]⟩,.string ⟨#[]⟩]) _ (hz _) (top_alloc _ _ _ (by simp)) (find_none l h0 h1 h2 h3 h4 h5 h6 h7)
 clear h0 h1 h2 h3 h4 h5 h6 h7 hz
 go_enter Tryz.func20,Tryz.ntmps20
 go_wp2_with fail
 refine(rules_any _).mono ?_
 rintro e w1 ⟨rfl,rfl⟩
 go_wp2_with fail
 refine bodyPost_ret (by simp[results,Tryz.results20,go_sem]) rfl ⟨rfl,?_⟩
 repeat(first|exact Below.refl _ _|refine Below.setCell ?_ (by simp) _|refine Below.alloc ?_ (by first|(simp;done)|(simp;omega)) _)

set_option maxHeartbeats 1000000 in
theorem rulesOf_no (w:World) (l:List UInt8) (h0:(l== [101,110])=false) (h1:(l== [100,101])=false) (h2:(l== [102,114])=false) (h3:(l== [106,97])=false) (h4:(l== [112,108])=false) (h5:(l== [114,117])=false) (h6:(l== [97,114])=false) (h7:(l== [108,118])=false):Calls Tryz.prog 52 #[.string ⟨l.toArray⟩] w fun e w'=>e= .returned (.tuple #[.agg #[.string ⟨#[]⟩,.string ⟨#[]⟩,.string ⟨#[]⟩,.string ⟨#[]⟩,.string ⟨#[]⟩],.bool false])∧Below w.heap.size w w':=by
 go_enter Tryz.func52,Tryz.ntmps52
 go_wp2_with fail
 refine bodyPost_ret (by simp[results,Tryz.results52,go_sem]) rfl ⟨rfl,?_⟩
 repeat(first|exact Below.refl _ _|refine Below.setCell ?_ (by simp) _|refine Below.alloc ?_ (by first|(simp;done)|(simp;omega)) _)

end Go.Proofs.YtldbfkccieipjaaGreatDoor
namespace Rul
open Go Go.Lib Go.Proofs.YtldbfkccieipjaaGreatDoor

def lvZeroR:Rule:= [[⟨110,10,false,[(0,0)]⟩],[⟨110,100,false,[(11,19)]⟩],[⟨118,0,false,[(2,2)]⟩,⟨102,100,false,[(11,19)]⟩]]
def lvZeroS:List UInt8:= [110,32,37,32,49,48,32,61,32,48,32,111,114,32,110,32,37,32,49,48,48,32,61,32,49,49,46,46,49,57,32,111,114,32,118,32,61,32,50,32,97,110,100,32,102,32,37,32,49,48,48,32,61,32,49,49,46,46,49,57]
theorem lvZero_p:parseOk lvZeroS=true∧ruleP lvZeroS=lvZeroR:=by
 have:=parse_text (r:=lvZeroR) (by decide)
 rwa [show ruleT lvZeroR=lvZeroS by decide+kernel] at this
def lvOneR:Rule:= [[⟨110,10,false,[(1,1)]⟩,⟨110,100,true,[(11,11)]⟩],[⟨118,0,false,[(2,2)]⟩,⟨102,10,false,[(1,1)]⟩,⟨102,100,true,[(11,11)]⟩],[⟨118,0,true,[(2,2)]⟩,⟨102,10,false,[(1,1)]⟩]]
def lvOneS:List UInt8:= [110,32,37,32,49,48,32,61,32,49,32,97,110,100,32,110,32,37,32,49,48,48,32,33,61,32,49,49,32,111,114,32,118,32,61,32,50,32,97,110,100,32,102,32,37,32,49,48,32,61,32,49,32,97,110,100,32,102,32,37,32,49,48,48,32,33,61,32,49,49,32,111,114,32,118,32,33,61,32,50,32,97,110,100,32,102,32,37,32,49,48,32,61,32,49]
theorem lvOne_p:parseOk lvOneS=true∧ruleP lvOneS=lvOneR:=by
 have:=parse_text (r:=lvOneR) (by decide)
 rwa [show ruleT lvOneR=lvOneS by decide+kernel] at this
def lvL:List (List UInt8):= [lvZeroS,lvOneS,[],[],[]]
theorem lv_ok:setOk lvL=true:=by simp[setOk,lvL,text_ok lvZero_p,text_ok lvOne_p,none_ok]
end Rul
namespace Go.Proofs.YtldbfkccieipjaaGreatDoor
open Go.RowKit
/-- a set of rules, as a value -/
def setV (t0 t1 t2 t3 t4:List UInt8):Value:= .agg #[.string ⟨t0.toArray⟩,.string ⟨t1.toArray⟩,.string ⟨t2.toArray⟩,.string ⟨t3.toArray⟩,.string ⟨t4.toArray⟩]
/-- texts that are rules, of some length -/
def SetFine (t0 t1 t2 t3 t4:List UInt8):Prop:=Rul.setOk [t0,t1,t2,t3,t4]=true∧ ∀t∈ [t0,t1,t2,t3,t4],t.length≤100000000
theorem setfine_of {l:List (List UInt8)} {t0 t1 t2 t3 t4:List UInt8} (e:l= [t0,t1,t2,t3,t4]) (h:Rul.setOk l=true) (hb:(l.all fun t=>decide (t.length≤1000))=true):SetFine t0 t1 t2 t3 t4:=by
 subst e
 refine⟨h,fun t ht=>?_⟩
 have:=List.all_eq_true.1 hb t ht
 have:=of_decide_eq_true this
 omega
/-- whatever the language -/
theorem lang_set (l:List UInt8): ∃(t0 t1 t2 t3 t4:List UInt8) (b:Bool),SetFine t0 t1 t2 t3 t4∧(b=false→t0= []∧t1= []∧t2= []∧t3= []∧t4= [])∧
  (∀w:World,Calls Tryz.prog 20 #[.string ⟨l.toArray⟩] w fun e w'=>e= .returned (.tuple #[setV t0 t1 t2 t3 t4,if b then .nilIface else errV 2])∧Below w.heap.size w w')∧
  (∀w:World,Calls Tryz.prog 52 #[.string ⟨l.toArray⟩] w fun e w'=>e= .returned (.tuple #[setV t0 t1 t2 t3 t4,.bool b])∧Below w.heap.size w w'):=by

 by_cases h0:l= [101,110]
 ·subst h0;exact⟨_,_,_,_,_,true,setfine_of rfl Rul.en_ok (by decide+kernel),by simp,langRules_en,rulesOf_en⟩
 by_cases h1:l= [100,101]
 ·subst h1;exact⟨_,_,_,_,_,true,setfine_of rfl Rul.en_ok (by decide+kernel),by simp,langRules_de,rulesOf_de⟩
 by_cases h2:l= [102,114]
 ·subst h2;exact⟨_,_,_,_,_,true,setfine_of rfl Rul.fr_ok (by decide+kernel),by simp,langRules_fr,rulesOf_fr⟩
 by_cases h3:l= [106,97]
 ·subst h3;exact⟨_,_,_,_,_,true,setfine_of rfl Rul.ja_ok (by decide+kernel),by simp,langRules_ja,rulesOf_ja⟩
 by_cases h4:l= [112,108]
 ·subst h4;exact⟨_,_,_,_,_,true,setfine_of rfl Rul.pl_ok (by decide+kernel),by simp,langRules_pl,rulesOf_pl⟩
 by_cases h5:l= [114,117]
 ·subst h5;exact⟨_,_,_,_,_,true,setfine_of rfl Rul.ru_ok (by decide+kernel),by simp,langRules_ru,rulesOf_ru⟩
 by_cases h6:l= [97,114]
 ·subst h6;exact⟨_,_,_,_,_,true,setfine_of rfl Rul.ar_ok (by decide+kernel),by simp,langRules_ar,rulesOf_ar⟩
 by_cases h7:l= [108,118]
 ·subst h7;exact⟨_,_,_,_,_,true,setfine_of rfl Rul.lv_ok (by decide+kernel),by simp,langRules_lv,rulesOf_lv⟩
 have q: ∀a:List UInt8,l≠a→(l==a)=false:=fun a h=>beq_eq_false_iff_ne.2 h
 exact⟨[],[],[],[],[],false,setfine_of rfl Rul.ja_ok (by decide+kernel),fun _=>⟨rfl,rfl,rfl,rfl,rfl⟩,fun w=>langRules_no w l (q _ h0) (q _ h1) (q _ h2) (q _ h3) (q _ h4) (q _ h5) (q _ h6) (q _ h7),fun w=>rulesOf_no w l (q _ h0) (q _ h1) (q _ h2) (q _ h3) (q _ h4) (q _ h5) (q _ h6) (q _ h7)⟩
end Go.Proofs.YtldbfkccieipjaaGreatDoor
