/- The walks of npat.affix. Conditions: none. -/
import Derived.Test.YtldbfkccieipjaaGreatDoorEf5
import Derived.Test.YtldbfkccieipjaaGreatDoorEf4
import Derived.Lib.Join
import Derived.Lib.Split
import Derived.Lib.Replace
import Derived.Test.YtldbfkccieipjaaGreatDoorEf6
import Derived.Test.YtldbfkccieipjaaGreatDoorShelfG
import Derived.Shelf.Strings.SlTrimAscii
import Derived.Test.YtldbfkccieipjaaGreatDoorEf0
namespace Go.Proofs.YtldbfkccieipjaaGreatDoor
set_option maxRecDepth 100000
open Go.RowKit Go.Lib Ms

end Go.Proofs.YtldbfkccieipjaaGreatDoor
namespace Grp
open Go Go.Lib
/-- the pieces of a text from its end: the last of g signs, the others of g2 each, the first one no longer -/
def pieces (g g2:Nat) (s:List UInt8):List (List UInt8):=
 if _h:0<g∧g<s.length then pieces g2 g2 (s.take (s.length-g))++ [s.drop (s.length-g)] else [s]
termination_by s.length
decreasing_by simp;omega
theorem pieces_cut {g g2:Nat} {s:List UInt8} (h0:0<g) (h:g<s.length):pieces g g2 s=pieces g2 g2 (s.take (s.length-g))++ [s.drop (s.length-g)]:=by
 rw[pieces,dif_pos ⟨h0,h⟩]
theorem pieces_one {g g2:Nat} {s:List UInt8} (h:s.length≤g):pieces g g2 s= [s]:=by
 rw[pieces,dif_neg (by omega)]
theorem pieces_ne (g g2:Nat) (s:List UInt8):pieces g g2 s≠ []:=by
 rw[pieces];split<;>simp
theorem joinTail_snoc (sep:List UInt8) (r:List (List UInt8)) (y:List UInt8):joinTail sep (r++ [y])=joinTail sep r++sep++y:=by
 unfold joinTail;simp
theorem join_snoc {l:List (List UInt8)} (hl:l≠ []) (y sep:List UInt8):join (l++ [y]) sep=join l sep++sep++y:=by
 cases l with
 |nil=>exact absurd rfl hl
 |cons x r=>rw[List.cons_append,join_cons,join_cons,joinTail_snoc];simp
/-- grouped digits -/
def grouped (g g2:Nat) (s:List UInt8) (c:UInt8):List UInt8:=join (pieces g g2 s) [c]
theorem grouped_cut {g g2:Nat} {s:List UInt8} (c:UInt8) (h0:0<g) (h:g<s.length):grouped g g2 s c=grouped g2 g2 (s.take (s.length-g)) c++ [c]++s.drop (s.length-g):=by
 unfold grouped
 rw[pieces_cut h0 h,join_snoc (pieces_ne _ _ _)]
theorem grouped_one {g g2:Nat} {s:List UInt8} (c:UInt8) (h:s.length≤g):grouped g g2 s c=s:=by
 unfold grouped
 rw[pieces_one h,join_one]
theorem grouped_len (n:Nat): ∀(g g2:Nat) (s:List UInt8) (c:UInt8),s.length≤n→(grouped g g2 s c).length≤2*s.length∧(pieces g g2 s).length≤s.length+1:=by
 induction n with
 |zero=>intro g g2 s c h;rw[grouped_one c (by omega),pieces_one (by omega)];simp;omega
 |succ n ih=>
  intro g g2 s c h
  by_cases hc:0<g∧g<s.length
  ·have i:=ih g2 g2 (s.take (s.length-g)) c (by simp;omega)
   rw[grouped_cut c hc.1 hc.2,pieces_cut hc.1 hc.2]
   simp only[List.length_append,List.length_take,List.length_drop,List.length_cons,List.length_nil] at i⊢
   omega
  ·rw[pieces,dif_neg hc]
   unfold grouped
   rw[pieces,dif_neg hc,join_one]
   simp;omega
end Grp
namespace Go.Proofs.YtldbfkccieipjaaGreatDoor
/-- what is told of digits -/
def gout (s:List UInt8) (g g2:Int) (c:UInt8):List UInt8:=if g=0 then s else Grp.grouped g.toNat (if g2=0 then g.toNat else g2.toNat) s c
theorem gout_len (s:List UInt8) (g g2:Int) (c:UInt8):(gout s g g2 c).length≤2*s.length:=by
 unfold gout
 split
 ·omega
 ·exact(Grp.grouped_len s.length _ _ s c (Nat.le_refl _)).1
open Go.RowKit

abbrev NUM:List UInt8:= [48,49,50,51,52,53,54,55,56,57]
/-- a text of digits, one at least -/
def digB (s:List UInt8):Bool:=s.all (fun c=>NUM.contains c)&&!s.isEmpty
theorem trim_nil (s:List UInt8):Lib.trimS s NUM= []↔s.all (fun c=>NUM.contains c)=true:=by
 unfold Lib.trimS Lib.trimLeftS Lib.trimRightS
 rw[dropWhile_all,List.all_reverse]
 constructor
 ·intro h
  by_cases hs:s.all (fun c=>NUM.contains c)=true
  ·exact hs
  ·exfalso
   have h2:(s.reverse.dropWhile (NUM.contains ·))≠ []:=fun e=>hs (by rw[←List.all_reverse];exact dropWhile_all.1 e)
   cases hd:s.reverse.dropWhile (NUM.contains ·) with
   |nil=>exact h2 hd
   |cons x r=>
    have hx:NUM.contains x=false:=by
     have:=List.head?_dropWhile_not (NUM.contains ·) s.reverse
     rw[hd] at this
     simpa using this
    rw[hd] at h
    simp only[List.all_cons,hx,Bool.false_and] at h
    cases h
 ·intro h
  have e:s.reverse.dropWhile (NUM.contains ·)= []:=dropWhile_all.2 (by rw[List.all_reverse];exact h)
  rw[e];rfl
theorem trimN_any (s:List UInt8) (w:World) (hs:s.length≤4000000000):
  Calls Tryz.prog 87 #[.string ⟨s.toArray⟩,.string ⟨#[48,49,50,51,52,53,54,55,56,57]⟩] w fun e w'=>e= .returned (.string ⟨(Lib.trimS s NUM).toArray⟩)∧Below w.heap.size w w':=by
 have c:=Any.strings_Trim_laid Tryz.lays160 (by kernel_rfl) ⟨s.toArray⟩ ⟨#[48,49,50,51,52,53,54,55,56,57]⟩ w (by rw[size_mkl];omega) (by decide) (fun j b hb=>by
  have hm:b∈NUM:=List.mem_of_getElem? (i:=j) hb
  simp at hm
  rcases hm with rfl|rfl|rfl|rfl|rfl|rfl|rfl|rfl|rfl|rfl<;>decide)
 exact c

set_option maxHeartbeats 1000000 in
theorem gdigits_any (s:List UInt8) (w:World) (hs:s.length≤4000000000):
  Calls Tryz.prog 215 #[.string ⟨s.toArray⟩] w fun e w'=>e= .returned (.bool (digB s))∧Below w.heap.size w w':=by
 cases s with
 |nil=>
  go_enter Tryz.func215,Tryz.ntmps215
  go_wp2
  go_ret
  exact⟨rfl,Below.refl _ _⟩
 |cons b r=>
  have CT:=Lib.hid fun w=>trimN_any (b::r) w hs
  have h0:(b::r== [])=false:=rfl
  have HD:Hid (digB (b::r)=decide (Lib.trimS (b::r) NUM= [])):=Lib.hid (by
   rw[Bool.eq_iff_iff,decide_eq_true_iff,trim_nil];unfold digB;simp)
  generalize hL:b::r=L at*
  have hL':=Lib.hid hL
  clear hL hs
  generalize Lib.trimS L NUM=T at*
  have hne:L≠ []:=fun e=>by rw[e] at hL';cases hL'.out
  have e1:L.isEmpty=false:=by cases L with|nil=>exact absurd rfl hne|cons=>rfl
  cases T with
  |nil=>
   go_enter Tryz.func215,Tryz.ntmps215
   go_wp2_with fail
   refine(CT.out _).mono ?_
   rintro e w' ⟨rfl,hb⟩
   have W:=Lib.hid hb
   clear hb
   go_wp2_with fail
   go_ret
   exact⟨ret_bool (by rw[HD.out];simp),W.out⟩
  |cons x y=>
   go_enter Tryz.func215,Tryz.ntmps215
   go_wp2_with fail
   refine(CT.out _).mono ?_
   rintro e w' ⟨rfl,hb⟩
   have W:=Lib.hid hb
   clear hb
   go_wp2_with fail
   go_ret
   exact⟨ret_bool (by rw[HD.out];simp),W.out⟩

set_option maxHeartbeats 1000000 in
theorem gcheck_a0 (g g2 c:Int) (w:World) (n:c<48) (r1: ¬g<0) (r2: ¬4<g) (r3: ¬g2<0) (r4: ¬4<g2):
  Calls Tryz.prog 216 #[.int .i64 g,.int .i64 g2,.int .u8 c] w fun e w'=>e= .returned (.nilIface)∧w=w':=by
 have d1:decide (48≤c)=false:=dec_no (by omega)
 have d3:decide (g<0)=false:=dec_no (by omega)
 have d4:decide (4<g)=false:=dec_no (by omega)
 have d5:decide (g2<0)=false:=dec_no (by omega)
 have d6:decide (4<g2)=false:=dec_no (by omega)
 go_enter Tryz.func216,Tryz.ntmps216
 go_wp2
 go_ret
 exact⟨rfl,rfl⟩

set_option maxHeartbeats 1000000 in
theorem gcheck_b0 (g g2 c:Int) (w:World) (n:57<c) (r1: ¬g<0) (r2: ¬4<g) (r3: ¬g2<0) (r4: ¬4<g2):
  Calls Tryz.prog 216 #[.int .i64 g,.int .i64 g2,.int .u8 c] w fun e w'=>e= .returned (.nilIface)∧w=w':=by
 have d1:decide (48≤c)=true:=dec_yes (by omega)
 have d2:decide (c≤57)=false:=dec_no (by omega)
 have d3:decide (g<0)=false:=dec_no (by omega)
 have d4:decide (4<g)=false:=dec_no (by omega)
 have d5:decide (g2<0)=false:=dec_no (by omega)
 have d6:decide (4<g2)=false:=dec_no (by omega)
 go_enter Tryz.func216,Tryz.ntmps216
 go_wp2
 go_ret
 exact⟨rfl,rfl⟩

/-- the sizes and the sign are right -/
def rightG (g g2:Int):Prop:=0≤g∧g≤4∧0≤g2∧g2≤4
theorem gcheck_ok (g g2 c:Int) (w:World) (hc: ¬(48≤c∧c≤57)) (h:rightG g g2):
  Calls Tryz.prog 216 #[.int .i64 g,.int .i64 g2,.int .u8 c] w fun e w'=>e= .returned .nilIface∧w=w':=by
 obtain⟨h1,h2,h3,h4⟩:=h
 by_cases n:c<48
 ·exact gcheck_a0 g g2 c w n (by omega) (by omega) (by omega) (by omega)
 ·exact gcheck_b0 g g2 c w (by omega) (by omega) (by omega) (by omega) (by omega)
end Go.Proofs.YtldbfkccieipjaaGreatDoor
namespace Go.Proofs.YtldbfkccieipjaaGreatDoor.Nt
open Go Go.Lib Byt
open Dcm (okD)
/-- digits ahead of the point, and behind it -/
def wh (c s:Int):List UInt8:=(zdig (zn c s) c.natAbs).take ((zdig (zn c s) c.natAbs).length-s.toNat)
def bh (c s:Int):List UInt8:=(zdig (zn c s) c.natAbs).drop ((zdig (zn c s) c.natAbs).length-s.toNat)
theorem zn_zero {c s:Int} (h:s≤0):zn c s=0:=by
 have:=List.length_pos_iff.2 (digits_ne c.natAbs)
 unfold zn;omega
theorem wh_zero {c s:Int} (h:s≤0):wh c s=decDigits c.natAbs:=by
 unfold wh
 rw[zn_zero h,show s.toNat=0 by omega]
 simp[zdig]
theorem bh_zero {c s:Int} (h:s≤0):bh c s= []:=by
 unfold bh
 rw[show s.toNat=0 by omega]
 simp
theorem bh_len (c s:Int):(bh c s).length=s.toNat:=by
 have:=zdig_len c s
 unfold bh
 rw[List.length_drop];omega
theorem wh_ne (c s:Int):wh c s≠ []:=fun e=>by
 have h:=zdig_len c s
 have:=congrArg List.length e
 unfold wh at this
 rw[List.length_take,List.length_nil] at this
 omega
theorem wh_dig (c s:Int):AllDig (wh c s):=fun x hx=>zdig_all _ _ x (List.mem_of_mem_take hx)
theorem bh_dig (c s:Int):AllDig (bh c s):=fun x hx=>zdig_all _ _ x (List.mem_of_mem_drop hx)
theorem text_parts (c s:Int):decText c s=sgn c++wh c s++(if s≤0 then [] else 46::bh c s):=by
 unfold decText
 split
 ·rename_i h;rw[wh_zero h];simp
 ·simp[wh,bh]
theorem wh_len (c s:Int) (h:okD c s):(wh c s).length≤100:=by
 have:=dec_len c s h
 rw[text_parts] at this
 simp only[List.length_append] at this
 omega
theorem no_head (c s:Int):(46:UInt8)∉sgn c++wh c s:=fun e=>by
 rcases List.mem_append.1 e with e|e
 ·exact sgn_point c e
 ·exact no_point (wh_dig c s) e
theorem cut_text (c s:Int):cut (decText c s) [46]=(sgn c++wh c s,bh c s,decide (0<s)):=by
 rw[text_parts]
 split
 ·rename_i h
  rw[List.append_nil,cut_miss (no_head c s),bh_zero h,decide_eq_false (by omega)]
 ·rename_i h
  rw[cut_hit _ (no_head c s),decide_eq_true (by omega)]
theorem split_text (c s:Int):split (decText c s) [46]=if s≤0 then [sgn c++wh c s] else [sgn c++wh c s,bh c s]:=by
 rw[text_parts]
 split
 ·rw[List.append_nil,split_none (no_head c s)]
 ·rw[split_cons _ (no_head c s),split_none (no_point (bh_dig c s))]
theorem wh_abs {c d s:Int} (h:c.natAbs=d.natAbs):wh c s=wh d s:=by
 unfold wh zn;rw[h]
theorem bh_abs {c d s:Int} (h:c.natAbs=d.natAbs):bh c s=bh d s:=by
 unfold bh zn;rw[h]
theorem mag_abs (c:Int):(Dcm.mag c).natAbs=c.natAbs:=by unfold Dcm.mag;split<;>omega
theorem mag_sgn (c:Int):sgn (Dcm.mag c)= []:=by
 have:=Dcm.mag_bd c
 unfold sgn;rw[if_neg (by omega)]
/-- with noughts ahead, with noughts behind -/
def pad (mi c s:Int):List UInt8:=List.replicate (mi.toNat-(wh c s).length) 48++wh c s
def fr (nf c s:Int):List UInt8:=bh c s++List.replicate (nf.toNat-(bh c s).length) 48
def tail (pt:UInt8) (l:List UInt8):List UInt8:=if l= [] then [] else pt::l
/-- a pattern -/
structure Pt where
 pre:List UInt8
 suf:List UInt8
 mi:Int
 nf:Int
 mf:Int
 g:Int
 g2:Int
def body (p:Pt) (pt cm:UInt8) (c s:Int):List UInt8:=p.pre++(gout (pad p.mi c s) p.g p.g2 cm++tail pt (fr p.nf c s))++p.suf
/-- without noughts at the end -/
def trim (c s:Int):Int×Int:=((Dcm.strip s.toNat c).2,((Dcm.strip s.toNat c).1:Int))
/-- with no more digits behind the point than so many -/
def red (mf c s:Int):Int×Int:=if mf<(trim c s).2 then trim (Dcm.rndC (trim c s).1 (trim c s).2 mf 5) mf else trim c s
def shown (p:Pt) (pt cm:UInt8) (c s:Int):List UInt8:=sgn (red p.mf c s).1++body p pt cm (red p.mf c s).1 (red p.mf c s).2
/-- letters, a blank, two signs -/
def affL:List UInt8:= [97,98,99,100,101,102,103,104,105,106,107,108,109,110,111,112,113,114,115,116,117,118,119,120,121,122,65,66,67,68,69,70,71,72,73,74,75,76,77,78,79,80,81,82,83,84,85,86,87,88,89,90,32,36,37]
def affB (l:List UInt8):Bool:=l.all (fun c=>affL.contains c)&&decide (l.length≤5)
def sizeB (p:Pt):Bool:=decide (1≤p.mi)&&decide (p.mi≤9)&&decide (0≤p.mf)&&decide (p.mf≤6)&&decide (0≤p.nf)&&decide (p.nf≤p.mf)&&decide (0≤p.g)&&decide (p.g≤4)&&decide (0≤p.g2)&&decide (p.g2≤4)
/-- what is wrong with a pattern -/
def patE (p:Pt):Int:=if affB p.pre&&affB p.suf then (if sizeB p then (if p.g2≠0∧p.g=0 then 3 else 0) else 1) else 3
def sgnL:List UInt8:= [46,44,39,95]
def symB (pt cm:UInt8):Bool:=pt !=cm&&sgnL.contains pt&&sgnL.contains cm
def allE (p:Pt) (pt cm:UInt8):Int:=if patE p≠0 then patE p else if symB pt cm then 0 else 3
def fmtE (p:Pt) (pt cm:UInt8) (c s:Int):Int:=if allE p pt cm≠0 then allE p pt cm else if 0≤s∧s≤9∧ -1000000000000000≤c∧c≤1000000000000000 then 0 else 1
/-- sums -/
theorem size_ok {p:Pt} (h:sizeB p=true):1≤p.mi∧p.mi≤9∧0≤p.mf∧p.mf≤6∧0≤p.nf∧p.nf≤p.mf∧0≤p.g∧p.g≤4∧0≤p.g2∧p.g2≤4:=by
 unfold sizeB at h;simpa[Bool.and_eq_true,and_assoc] using h
theorem pat_ok {p:Pt} (h:patE p=0):affB p.pre=true∧affB p.suf=true∧sizeB p=true∧ ¬(p.g2≠0∧p.g=0):=by
 unfold patE at h
 split at h
 ·rename_i h1
  split at h
  ·rename_i h2
   split at h
   ·omega
   ·rename_i h3
    exact⟨(Bool.and_eq_true _ _▸h1).1,(Bool.and_eq_true _ _▸h1).2,h2,h3⟩
  ·omega
 ·omega
theorem fmt_ok {p:Pt} {pt cm:UInt8} {c s:Int} (h:fmtE p pt cm c s=0):patE p=0∧symB pt cm=true∧okD c s:=by
 unfold fmtE allE at h
 by_cases h1:patE p=0
 ·by_cases h2:symB pt cm=true
  ·by_cases h3:0≤s∧s≤9∧ -1000000000000000≤c∧c≤1000000000000000
   ·exact⟨h1,h2,h3⟩
   ·simp only[h1,h2,h3,if_false,if_true,ne_eq,not_true_eq_false] at h
    omega
  ·simp[h1,h2] at h
 ·simp[h1] at h
theorem red_trim (c s:Int) (h:okD c s):okD (trim c s).1 (trim c s).2∧(trim c s).2≤s∧0≤(trim c s).2:=by
 have hl:=Dcm.strip_le s.toNat c
 have hm:=Dcm.strip_mul s.toNat c (by unfold okD at h;omega)
 have hp:=Dcm.P10_bd ((s.toNat:Int)-((Dcm.strip s.toNat c).1:Int))
 unfold okD at*
 unfold trim
 generalize Dcm.strip s.toNat c=q at*
 obtain⟨q1,q2⟩:=q
 simp only at*
 generalize Dcm.P10 ((s.toNat:Int)-(q1:Int))=U at*
 refine⟨⟨by omega,by omega,?_,?_⟩,by omega,by omega⟩
 ·by_cases h0:0≤q2
  ·omega
  ·have:q2*U≤q2*1:=Int.mul_le_mul_of_nonpos_left (by omega) (by omega)
   omega
 ·by_cases h0:0≤q2
  ·have:q2*1≤q2*U:=Int.mul_le_mul_of_nonneg_left (by omega) h0
   omega
  ·omega
theorem pre_hit (a b:List UInt8):trimPrefix (a++b) a=b:=by
 unfold trimPrefix hasPrefix
 rw[if_pos (List.isPrefixOf_iff_prefix.2 (List.prefix_append a b))]
 simp
theorem no_minus {l:List UInt8} (h:(45:UInt8)∉l):hasPrefix l [45]=false:=by
 unfold hasPrefix
 rw[Bool.eq_false_iff]
 intro e
 obtain⟨t,rfl⟩:=List.isPrefixOf_iff_prefix.1 e
 exact h (by simp)
theorem red_fine (mf c s:Int) (h:okD c s) (m0:0≤mf) (m1:mf≤6):okD (red mf c s).1 (red mf c s).2∧(red mf c s).2≤mf∧((red mf c s).2=0∨(red mf c s).1%10≠0):=by
 have ends: ∀c s,(trim c s).2=0∨(trim c s).1%10≠0:=fun c s=>by
  rcases Dcm.strip_end s.toNat c with e|e
  ·exact .inl (by unfold trim;simp only;omega)
  ·exact .inr e
 obtain⟨h1,h2,h3⟩:=red_trim c s h
 unfold red
 split
 ·rename_i hlt
  have hr:okD (Dcm.rndC (trim c s).1 (trim c s).2 mf 5) mf:=by
   have:=Dcm.near_facts (trim c s).1 (trim c s).2 mf 5 h1.2.2 h1.2.1 m0 hlt (by omega) (by omega)
   exact⟨m0,by omega,by omega,by omega⟩
  obtain⟨g1,g2,g3⟩:=red_trim _ _ hr
  exact⟨g1,g2,ends _ _⟩
 ·rename_i hlt
  exact⟨h1,by omega,ends _ _⟩
theorem head_minus (a b:Int):trimPrefix (sgn a++wh a b) [45]=wh a b∧hasPrefix (sgn a++wh a b) [45]=decide (a<0):=by
 have mB:(45:UInt8)∉wh a b:=fun hm=>by have:=wh_dig a b 45 hm;revert this;decide
 unfold sgn
 split
 ·rename_i h
  exact⟨pre_hit _ _,by rw[decide_eq_true h];exact List.isPrefixOf_iff_prefix.2 (List.prefix_append _ _)⟩
 ·rename_i h
  rw[List.nil_append]
  exact⟨by unfold trimPrefix;rw[no_minus mB,if_neg (by simp)],by rw[no_minus mB,decide_eq_false h]⟩
theorem dig_B {l:List UInt8} (h:AllDig l) (hn:l≠ []):digB l=true:=by
 unfold digB
 rw[Bool.and_eq_true,List.all_eq_true]
 refine⟨fun x hx=>?_,by simpa using hn⟩
 have:=h x hx
 have e:x=UInt8.ofNat x.toNat:=by simp
 have hk: ∀k:Nat,48≤k→k≤57→NUM.contains (UInt8.ofNat k)=true:=by
  intro k h1 h2
  have:k=48∨k=49∨k=50∨k=51∨k=52∨k=53∨k=54∨k=55∨k=56∨k=57:=by omega
  rcases this with rfl|rfl|rfl|rfl|rfl|rfl|rfl|rfl|rfl|rfl<;>decide
 rw[e];exact hk _ this.1 this.2
end Go.Proofs.YtldbfkccieipjaaGreatDoor.Nt
namespace Go.Proofs.YtldbfkccieipjaaGreatDoor
open Go.RowKit
theorem aff_small: ∀b∈Nt.affL,b.toNat<128:=by decide
theorem trimA_any (s:List UInt8) (w:World) (hs:s.length≤4000000000):
  Calls Tryz.prog 87 #[.string ⟨s.toArray⟩,.string ⟨#[97,98,99,100,101,102,103,104,105,106,107,108,109,110,111,112,113,114,115,116,117,118,119,120,121,122,65,66,67,68,69,70,71,72,73,74,75,76,77,78,79,80,81,82,83,84,85,86,87,88,89,90,32,36,37]⟩] w fun e w'=>e= .returned (.string ⟨(Lib.trimS s Nt.affL).toArray⟩)∧Below w.heap.size w w':=
 Any.strings_Trim_laid Tryz.lays160 (by kernel_rfl) ⟨s.toArray⟩ ⟨Nt.affL.toArray⟩ w (by rw[size_mkl];omega) (by decide) (fun j b hb=>aff_small b (List.mem_of_getElem? (i:=j) hb))

set_option maxHeartbeats 1000000 in
theorem affix_any (s:List UInt8) (w:World) (hs:s.length≤4000000000):
  Calls Tryz.prog 227 #[.string ⟨s.toArray⟩] w fun e w'=>e= .returned (.bool (Nt.affB s))∧Below w.heap.size w w':=by
 have CT:=Lib.hid fun w=>trimA_any s w hs
 have HD:Hid (s.all (fun c=>Nt.affL.contains c)=decide (Lib.trimS s Nt.affL= [])):=Lib.hid (by
   rw[Bool.eq_iff_iff,decide_eq_true_iff,trim_none])
 unfold Nt.affB
 generalize s.all (fun c=>Nt.affL.contains c)=B at*
 generalize Lib.trimS s Nt.affL=T at*
 by_cases h5:s.length≤5
 ·rw[decide_eq_true h5]
  have h6:(s.length:Int)≤5:=by omega
  clear hs h5
  cases T with
  |nil=>
   go_enter Tryz.func227,Tryz.ntmps227
   go_wp2_with fail
   refine(CT.out _).mono ?_
   rintro e w' ⟨rfl,hb⟩
   have W:=Lib.hid hb
   clear hb
   go_wp2_with fail
   go_ret
   exact⟨ret_bool (by rw[HD.out];simp),W.out⟩
  |cons x y=>
   go_enter Tryz.func227,Tryz.ntmps227
   go_wp2_with fail
   refine(CT.out _).mono ?_
   rintro e w' ⟨rfl,hb⟩
   have W:=Lib.hid hb
   clear hb
   go_wp2_with fail
   go_ret
   exact⟨ret_bool (by rw[HD.out];simp),W.out⟩
 ·rw[decide_eq_false h5]
  have h6: ¬(s.length:Int)≤5:=by omega
  clear hs h5 CT HD
  go_enter Tryz.func227,Tryz.ntmps227
  go_wp2_with fail
  go_ret
  exact⟨ret_bool (by simp),Below.refl _ _⟩
end Go.Proofs.YtldbfkccieipjaaGreatDoor
