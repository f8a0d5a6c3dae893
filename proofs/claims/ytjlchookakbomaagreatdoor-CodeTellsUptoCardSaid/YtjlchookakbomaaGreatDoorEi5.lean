/- The walk of strings.Cut at a point. Conditions: the library's variable MaxLen holds a number. -/
import Derived.Test.YtjlchookakbomaaGreatDoorEi4
import Derived.SliceStrings
import Derived.Lib.OwnBridge
set_option maxHeartbeats 2000000
set_option maxRecDepth 100000
namespace Go.Proofs.YtjlchookakbomaaGreatDoor.Nt
open Go Go.Lib Byt
open Dcm (okD)
def Rep (pt cm pt' cm' x x':UInt8):Prop:=(x=pt∧x'=pt')∨(x=cm∧x'=cm')∨(x=x'∧x≠pt∧x≠cm∧x'≠pt'∧x'≠cm')
def Alike (pt cm pt' cm':UInt8) (a b:List UInt8):Prop:=a.length=b.length∧ ∀(i:Nat) x x',a[i]?=some x→b[i]?=some x'→Rep pt cm pt' cm' x x'
variable {pt cm pt' cm':UInt8}
theorem Alike.app {a b a' b':List UInt8} (h:Alike pt cm pt' cm' a b) (h':Alike pt cm pt' cm' a' b'):Alike pt cm pt' cm' (a++a') (b++b'):=by
 refine⟨by rw[List.length_append,List.length_append,h.1,h'.1],fun i x x' hx hx'=>?_⟩
 by_cases hi:i<a.length
 ·rw[List.getElem?_append_left hi] at hx
  rw[List.getElem?_append_left (by have:=h.1;omega)] at hx'
  exact h.2 i x x' hx hx'
 rw[List.getElem?_append_right (by omega)] at hx
 rw[List.getElem?_append_right (by have:=h.1;omega)] at hx'
 rw[h.1] at hx
 exact h'.2 _ x x' hx hx'
theorem Alike.nil:Alike pt cm pt' cm' [] []:=⟨rfl,fun i x x' h=>by simp at h⟩
theorem zH4 (n:Nat):AllDig (List.replicate n 48):=fun x hx=>by rw[(List.mem_replicate.1 hx).2];decide
theorem AllDig.app {a b:List UInt8} (h:AllDig a) (h':AllDig b):AllDig (a++b):=fun x hx=>by
 rcases List.mem_append.1 hx with hx|hx
 ·exact h x hx
 exact h' x hx
theorem zL4 (mi c s:Int):AllDig (pad mi c s):=AllDig.app (zH4 _) (zF5 c s)
theorem zL5 (h:symB pt cm=true):pt≠cm∧pt∈sgnL∧cm∈sgnL:=by
 unfold symB at h
 simp only[Bool.and_eq_true,List.contains_iff_mem,bne_iff_ne,ne_eq] at h
 exact⟨h.1.1,h.1.2,h.2⟩
theorem zJf (p:Pt) (pt cm:UInt8) (c s:Int) (h:okD c s) (hp:patE p=0):(shown p pt cm c s).length≤p.pre.length+p.suf.length+700:=by
 have ps:=zAV (zF7 hp).2.2.1
 obtain⟨r1,r2,r3⟩:=zDW p.mf c s h (by omega) (by omega)
 unfold shown
 generalize red p.mf c s=q at*
 obtain⟨a,b⟩:=q
 simp only at*
 have lw:=zF6 a b r1
 have lb:=zF4 a b
 have h9:b≤9:=r1.2.1
 have lg:=zDV (pad p.mi a b) p.g p.g2 cm
 have lp:(pad p.mi a b).length≤200:=by unfold pad;rw[List.length_append,List.length_replicate];omega
 have lf:(fr p.nf a b).length≤100:=by unfold fr;rw[List.length_append,List.length_replicate];omega
 have lt:(tail pt (fr p.nf a b)).length≤101:=by unfold tail;split<;>simp;omega
 have ls:(sgn a).length≤1:=by unfold sgn;split<;>simp
 unfold body
 simp only[List.length_append]
 omega
end Go.Proofs.YtjlchookakbomaaGreatDoor.Nt
namespace Go.Proofs.YtjlchookakbomaaGreatDoor
open Go.RowKit
open Dcm (okD)
theorem zDt {c:Int}:(c.tmod 10==0)=decide (c%10=0):=by
 rw[Bool.eq_iff_iff,beq_iff_eq,decide_eq_true_iff]
 constructor<;>intro h
 ·exact Int.emod_eq_zero_of_dvd (Int.dvd_of_tmod_eq_zero h)
 exact Int.tmod_eq_zero_of_dvd (Int.dvd_of_emod_eq_zero h)
theorem zHw {c:Int} (h:c%10=0):c.tdiv 10=c/10:=by
 obtain⟨k,rfl⟩:=Int.dvd_of_emod_eq_zero h
 rw[Int.mul_tdiv_cancel_left _ (by decide),Int.mul_ediv_cancel_left _ (by decide)]

theorem zDG (c s:Int) (w:World) (h:okD c s):
  Calls Tryz.prog 86 #[.agg #[.int .i64 c,.int .i64 s],.int .i64 0] w fun e w'=>e= .returned (.agg #[.int .i64 (Nt.trim c s).1,.int .i64 (Nt.trim c s).2])∧Below w.heap.size w w':=by
 obtain⟨s0,s9,c0,c1⟩:=h
 obtain⟨m,rfl⟩: ∃m:Nat,s=(m:Int):=⟨s.toNat,by omega⟩
 unfold Nt.trim
 rw[Int.toNat_natCast]
 have D0:=lH ((Boxed.made w #[.int .i64 c,.int .i64 (m:Int)] 64).alloc (.cells #[.int .i64 0,.int .i64 0] 64))
 have Z0:=lH (Boxed.at (q:=w.heap.size+1) (Boxed.made (w.alloc (.cells #[.int .i64 c,.int .i64 (m:Int)] 64)) #[.int .i64 0,.int .i64 0] 64) (by simp))
 have W0:=lH (bT (bA w (.cells #[.int .i64 c,.int .i64 (m:Int)] 64)) (bA _ (.cells #[.int .i64 0,.int .i64 0] 64)))
 obtain⟨T,hT⟩: ∃T,T=Dcm.strip m c:=⟨_,rfl⟩
 rw[←hT]
 have HT:=lH hT.symm
 clear hT
 go_enter Tryz.func86,Tryz.ntmps86
 go_wp2_with fail
 generalize (w.alloc (.cells #[.int .i64 c,.int .i64 (m:Int)] 64)).alloc (.cells #[.int .i64 0,.int .i64 0] 64)=w1 at*
 go_loopw [] (fun wr=> ∃(c':Int) (n:Nat),Hid (Boxed wr w.heap.size #[.int .i64 c',.int .i64 (n:Int)])∧Hid (Boxed wr (w.heap.size+1) #[.int .i64 0,.int .i64 0])∧Hid (Below w.heap.size w wr)∧Hid (Dcm.strip n c'=T)∧ -1000000000000000≤c'∧c'≤1000000000000000∧n≤9) (fun wr=>(RowKit.intOf ((wr.cell? ⟨w.heap.size,1,none⟩).getD .nilIface)).toNat)
 case atStart=>exact⟨c,m,D0,Z0,W0,HT,c0,c1,by omega⟩
 case round=>
  obtain⟨c',n,D,Z,HB,HS,b0,b1,n9⟩:=hrel
  clear D0 Z0 W0 HT c0 c1 s0 s9
  have d0:=D.out.cell 0 _ rfl
  have d1:=D.out.cell 1 _ rfl
  have df0:=D.out.free 0 (by simp)
  have df1:=D.out.free 1 (by simp)
  have dl:=D.out.lt
  have z0:=Z.out.cell 0 _ rfl
  have z1:=Z.out.cell 1 _ rfl
  have zf0:=Z.out.free 0 (by simp)
  have zf1:=Z.out.free 1 (by simp)
  have zl:=Z.out.lt
  cases n with
  |zero=>
   have e0:T=(0,c'):=HS.out.symm
   subst e0
   go_wp2_with fail
   refine bodyPost_ret (v:= .agg #[.int .i64 c',.int .i64 0]) (by simp[results,Tryz.results86,go_sem,z0,z1];try rfl) rfl ?_
   exact⟨rfl,by repeat(first|exact HB.out|refine zAb ?_ _|refine Below.setCell ?_ (by first|(simp;done)|omega|(simp;omega)) _)⟩
  |succ n=>
   have hn:(0:Int)<((n+1:Nat):Int):=by omega
   have w1':IntKind.i64.wrap (((n+1:Nat):Int)-1)=(n:Int):=by rw[IntWalk.i64_in _ (by omega)];omega
   by_cases h0:c'%10=0
   ·have r0:(c'.tmod 10==0)=true:=by rw[zDt,decide_eq_true h0]
    have q0:IntKind.i64.wrap (c'.tdiv 10)=c'/10:=by rw[zHw h0,IntWalk.i64_in _ (by omega)]
    have HS':=lH (show Dcm.strip n (c'/10)=T by rw[←HS.out,Dcm.strip,if_pos h0])
    have bb0: -1000000000000000≤c'/10:=by omega
    have bb1:c'/10≤1000000000000000:=by omega
    have e1:((n+1:Nat):Int)-1=(n:Int):=by omega
    have D2:=lH ((D.out.set 0 (.int .i64 (c'/10)) (by simp)).set 1 (.int .i64 (n:Int)) (by simp))
    have Z2:=lH ((Z.out.far (q:=w.heap.size) (by omega) 0 (.int .i64 (c'/10))).far (q:=w.heap.size) (by omega) 1 (.int .i64 (n:Int)))
    generalize c'/10=c2 at*
    generalize hM:((n+1:Nat):Int)=M at*
    clear h0 HS b0 b1
    go_wp2_with fail
    go_roundw
    case rel=>exact⟨c2,n,lH D2.out,lH Z2.out,lH (by repeat(first|exact HB.out|refine zAb ?_ _|refine Below.setCell ?_ (by first|(simp;done)|omega|(simp;omega)) _)),HS',bb0,bb1,by omega⟩
    case measure=>simp[RowKit.intOf,go_sem,d1];omega
   have r0:(c'.tmod 10==0)=false:=by rw[zDt,decide_eq_false h0]
   have e0:T=(n+1,c'):=by rw[←HS.out,Dcm.strip,if_neg h0]
   subst e0
   clear h0 HS
   go_wp2_with fail
   refine bodyPost_ret (v:= .agg #[.int .i64 c',.int .i64 ((n+1:Nat):Int)]) (by simp[results,Tryz.results86,go_sem,z0,z1];try rfl) rfl ?_
   exact⟨rfl,by repeat(first|exact HB.out|refine zAb ?_ _|refine Below.setCell ?_ (by first|(simp;done)|omega|(simp;omega)) _)⟩
open Go.RowKit

abbrev txtV (x:List UInt8):Value:= .string ⟨x.toArray⟩
def StrsAt (w:World) (v:Value) (l:List (List UInt8)):Prop:=
 (l= []∧ ∃a cap,v= .slice a 0 cap)∨
 ∃b off cap,v= .slice (some ⟨b,off,none⟩) l.length cap∧0<l.length∧l.length≤cap∧cap≤maxLen∧ ∀(j:Nat) x,l[j]?=some x→w.cell? ⟨b,off+j,none⟩=some (.string ⟨x.toArray⟩)
theorem StrsAt.below {w w':World} {v:Value} {l:List (List UInt8)} (h:StrsAt w v l) (hb:Below w.heap.size w w'):StrsAt w' v l:=by
 rcases h with h|⟨b,off,cap,h1,h2,h3,h4,h5⟩
 ·exact .inl h
 exact .inr ⟨b,off,cap,h1,h2,h3,h4,fun j x hx=>cK (h5 j x hx) hb⟩
theorem StrsAt.alloc {w:World} {v:Value} {l:List (List UInt8)} (h:StrsAt w v l) (o:Obj):StrsAt (w.alloc o) v l:=h.below (bA w o)
theorem StrsAt.drewN {w:World} {v:Value} {l:List (List UInt8)} (h:StrsAt w v l) (n:Nat):StrsAt (w.drewN n) v l:=h
theorem StrsAt.of_row {w:World} {base:Nat} {e:TypeId} {v:Value} {n:Nat} {l:List (List UInt8)} (h:w.ownsRow base e 1 v n (l.map txtV)):StrsAt w v l:=by
 obtain⟨hl,h⟩:=h
 rw[List.length_map,Nat.mul_one] at hl
 subst hl
 rcases h with⟨rfl,h0⟩|⟨g,cap,cur,rfl,_,hg,h1,h2,h3,h4⟩
 ·exact .inl ⟨List.length_eq_zero_iff.1 h0,none,0,rfl⟩
 by_cases h0:l.length=0
 ·exact .inl ⟨List.length_eq_zero_iff.1 h0,_,_,by rw[h0]⟩
 refine .inr ⟨g,0,cap,rfl,by omega,h1,h2,fun j x hx=>?_⟩
 have hj:j<l.length:=(List.getElem?_eq_some_iff.1 hx).1
 have hc:cur[j]?=some (txtV x):=by
  have e:(cur.toList.take (l.length*1))[j]?=some (txtV x):=by rw[h4];simp[hx]
  rw[Nat.mul_one,List.getElem?_take,if_pos hj] at e
  simpa using e
 simp[World.cell?,hg,hc]
end Go.Proofs.YtjlchookakbomaaGreatDoor
namespace Lst
open Go Go.Lib
def upto (l:List (List UInt8)) (sep:List UInt8) (k:Nat):List UInt8:=join (l.take k) sep
theorem zJg (l:List (List UInt8)) (sep:List UInt8):upto l sep 0= []:=by unfold upto;rw[List.take_zero];exact join_nil sep
theorem zGa (l:List (List UInt8)) (sep x:List UInt8) (h:l[0]?=some x):upto l sep 1=x:=by
 unfold upto
 cases l with
 |nil=>simp at h
 |cons y r=>simp at h;subst h;simp[join_one]
theorem zFa (l:List (List UInt8)) (sep x:List UInt8) (k:Nat) (h0:0<k) (h:l[k]?=some x):upto l sep (k+1)=upto l sep k++sep++x:=by
 unfold upto
 cases l with
 |nil=>simp at h
 |cons y r=>
  cases k with
  |zero=>omega
  |succ k=>
   rw[List.take_succ_cons,List.take_succ_cons,join_cons,join_cons]
   rw[joinTail_take_succ sep r k x (by simpa using h)]
   simp
theorem zGb (l:List (List UInt8)) (sep:List UInt8) (k:Nat) (h:l.length≤k):upto l sep k=join l sep:=by unfold upto;rw[List.take_of_length_le h]
def total (l:List (List UInt8)) (sep:List UInt8):Nat:=sep.length*l.length+lens l
theorem zCx (l:List (List UInt8)) (sep:List UInt8):(join l sep).length≤total l sep:=by
 cases l with
 |nil=>rw[join_nil];simp[total]
 |cons x r=>rw[join_length];unfold total;simp[Nat.mul_succ];try omega
theorem zFb (l:List (List UInt8)) (k:Nat):lens (l.take k)≤lens l:=lens_take_le l k
theorem zHx (l:List (List UInt8)) (sep:List UInt8) (k:Nat):(upto l sep k).length≤total l sep:=by
 refine Nat.le_trans (zCx _ _) ?_
 unfold total
 have h1:=zFb l k
 have h2:sep.length*(l.take k).length≤sep.length*l.length:=Nat.mul_le_mul_left _ (by simp;omega)
 omega
theorem zL6 (l:List (List UInt8)) (k:Nat) (x:List UInt8) (h:l[k]?=some x):x.length≤lens l:=by
 have h1:=lens_take_succ l k x h
 have h2:=zFb l (k+1)
 omega
def joined (l:List (List UInt8)) (two sep last:List UInt8):List UInt8:=
 if l.length<2 then join l [] else if l.length=2 then l.getD 0 []++two++l.getD 1 [] else join (l.take (l.length-1)) sep++last++l.getD (l.length-1) []
end Lst
namespace Go.Proofs.YtjlchookakbomaaGreatDoor
open Go.RowKit

theorem zBJ (l:List (List UInt8)) (v:Value) (sep:List UInt8) (w:World) (h:StrsAt w v l) (hn:l.length≤2000000000000) (ht:Lst.total l sep≤2000000000000):
  Calls Tryz.prog 142 #[v,.string ⟨sep.toArray⟩] w fun e w'=>e= .returned (.string ⟨(Lib.join l sep).toArray⟩)∧Below w.heap.size w w':=by
 rcases h with⟨rfl,a,cap,rfl⟩|⟨b,off,cap,rfl,h0,hc,hm,hcell⟩
 ·exact(Tryz.strings_Join_none a cap ⟨sep.toArray⟩ w).mono fun _ _ ⟨he,hw⟩=>⟨he,hw▸Below.refl _ _⟩
 have hl:=Lst.zCx l sep
 have e:(l.map fun x=>(⟨x.toArray⟩:ByteArray)).map (·.data.toList)=l:=by simp[Function.comp_def]
 have c:= Tryz.strings_Join b off cap (l.map fun x=>⟨x.toArray⟩) ⟨sep.toArray⟩ w (fun j x hx=>by
  rw[List.getElem?_map] at hx
  obtain⟨y,hy,rfl⟩:=Option.map_eq_some_iff.1 hx
  exact hcell j y hy) (World.block_lt_of_cell? w _ (hcell 0 _ (List.getElem?_eq_getElem h0))) (by rw[List.length_map];omega) (by rw[List.length_map];exact hc) (by rw[e];show(Lib.join l sep).length≤_;omega)
 rw[e,List.length_map] at c
 exact c
theorem zDd (l:List (List UInt8)) (sep:List UInt8):Lib.lens l≤(Lib.join l sep).length:=by
 cases l with
 |nil=>simp[Lib.lens]
 |cons x r=>rw[Lib.join_length];omega
open Go.RowKit
theorem zJh {w:World} {base n:Nat} {e:TypeId} {v:Value} {xs:List Value} (h:w.ownsRow base e 1 v n xs) (hn:0<n):
  ∃g cap,v= .slice (some ⟨g,0,none⟩) n cap∧base≤g∧n≤cap∧cap≤maxLen∧ ∀(j:Nat) x,xs[j]?=some x→w.cell? ⟨g,j,none⟩=some x:=by
 obtain⟨hl,h⟩:=h
 rw[Nat.mul_one] at hl
 rcases h with⟨rfl,h0⟩|⟨g,cap,cur,rfl,hb,hg,h1,h2,h3,h4⟩
 ·omega
 refine⟨g,cap,rfl,hb,h1,h2,fun j x hx=>?_⟩
 have hj:j<xs.length:=(List.getElem?_eq_some_iff.1 hx).1
 have hc:cur[j]?=some x:=by
  have e:(cur.toList.take (n*1))[j]?=some x:=by rw[h4];exact hx
  rw[Nat.mul_one,List.getElem?_take,if_pos (by omega)] at e
  simpa using e
 simp[World.cell?,hg,hc]
theorem own_ne {w:World} {base n:Nat} {e:TypeId} {v:Value} {xs:List Value} (h:w.ownsRow base e 1 v n xs) (hn:0<n):v≠ .slice none 0 0:=by
 obtain⟨g,cap,rfl,_⟩:=zJh h hn
 intro e;cases e
open Go.RowKit

theorem infoStrG:(Tryz.prog.info? 9).map (fun i=>(i.zero,i.size,i.bytes))=some (some (.string ByteArray.empty),1,16):=by kernel_rfl
abbrev byV (c:UInt8):Value:= .int .u8 (c.toNat:Int)

theorem zKr (s:List UInt8) (g2 c:Int) (w:World) (hs:s.length≤4000000000) (h:digB s=true) (hc: ¬(48≤c∧c≤57)) (hg:rightG 0 g2):
  Calls Tryz.prog 90 #[.string ⟨s.toArray⟩,.int .i64 0,.int .i64 g2,.int .u8 c] w fun e w'=>e= .returned (.tuple #[.string ⟨s.toArray⟩,.nilIface])∧Below w.heap.size w w':=by
 have C:=lH fun w=>zCr s w hs
 have CK:=lH fun w=>zDc 0 g2 c w hc hg
 rw[h] at C
 clear h hc hg
 go_enter Tryz.func90,Tryz.ntmps90
 go_wp2_with fail
 refine(C.out _).mono ?_
 rintro e w1 ⟨rfl,hb⟩
 have W1:=lH hb
 clear hb
 go_wp2_with fail
 refine(CK.out _).mono ?_
 rintro e w' ⟨rfl,rfl⟩
 go_wp2_with fail
 go_ret2
 exact⟨rfl,W1.out⟩
theorem zCf {P:Program} (t:TypeId) (h:P.underlying t=some .string) (L:List UInt8) (j:Int) (a:Nat) (hj:j=a) (ha:a≤L.length) (w:World):
  (Instr.slice t (.string ⟨L.toArray⟩) none (some (.int .i64 j)) none).run P w= .ok (.string ⟨(L.take a).toArray⟩) w:=by
 subst hj;exact zB0 t h L .i64 a ha w
theorem zBH {P:Program} (t:TypeId) (h:P.underlying t=some .string) (L:List UInt8) (j:Int) (a:Nat) (hj:j=a) (ha:a≤L.length) (w:World):
  (Instr.slice t (.string ⟨L.toArray⟩) (some (.int .i64 j)) none none).run P w= .ok (.string ⟨(L.drop a).toArray⟩) w:=by
 subst hj;exact zBd t h L .i64 a ha w

theorem zJi (s:List UInt8) (g:Nat) (c:UInt8) (w:World) (hs:s.length≤1000000000) (h:digB s=true) (hc: ¬(48≤(c.toNat:Int)∧(c.toNat:Int)≤57)) (g1:0<g) (g4:g≤4):
  Calls Tryz.prog 90 #[.string ⟨s.toArray⟩,.int .i64 g,.int .i64 0,byV c] w fun e w'=>e= .returned (.tuple #[.string ⟨(Grp.grouped g g s c).toArray⟩,.nilIface])∧Below w.heap.size w w':=by
 obtain⟨i0,hi,hz0,hz1,hz2⟩:=info_parts infoStrG
 have C:=lH fun w=>zCr s w (by omega)
 have CK:=lH fun w=>zDc g 0 (c.toNat:Int) w hc ⟨by omega,by omega,by omega,by omega⟩
 rw[h] at C
 have cb:=c.toNat_lt
 have CV: ∀w:World,(convert 72 9 (.slice (some ⟨w.heap.size,0,none⟩) 1 1)).run Tryz.prog (w.alloc (.cells #[byV c] 5))= .ok (.string ⟨[c].toArray⟩) (w.alloc (.cells #[byV c] 5)):=fun w=>by
  have q:=zBZ (P:= Tryz.prog) 72 9 5 Tryz.underlying72 Tryz.underlying5 Tryz.underlying9 (c.toNat:Int) w (by omega) (by omega)
  rw[show UInt8.ofNat (c.toNat:Int).toNat=c by simp] at q
  exact q
 have b1:((g:Int)==0)=false:=zAe (by omega)
 have HL:=lH (Grp.zBq s.length g g s c (Nat.le_refl _))
 have HG:=lH (show Grp.grouped g g s c=Lib.join (Grp.pieces g g s) [c] from rfl)
 clear h hc
 generalize Grp.grouped g g s c=RES at*
 go_enter Tryz.func90,Tryz.ntmps90
 go_wp2_with fail
 refine(C.out _).mono ?_
 rintro e w1 ⟨rfl,hb⟩
 have W1:=lH hb
 clear hb
 go_wp2_with fail
 refine(CK.out _).mono ?_
 rintro e w' ⟨rfl,rfl⟩
 go_wp2_with fail
 go_loopw [0,11,12] (fun u o z wr=> ∃(U:List UInt8) (R:List (List UInt8)) (k:Nat),u= .string ⟨U.toArray⟩∧z= .int .i64 k∧0<k∧k≤4∧U.length≤s.length∧R.length+U.length≤s.length∧Hid (wr.ownsRow w.heap.size 9 1 o R.length (R.map txtV))∧Hid (Below w.heap.size w wr)∧Hid (Grp.pieces g g s=Grp.pieces k g U++R.reverse)) (fun u _ _ _=>strLen u)
 case atStart=>exact⟨s,[],g,rfl,rfl,g1,g4,Nat.le_refl _,by simp,lH ⟨rfl,.inl ⟨rfl,rfl⟩⟩,W1,lH (by simp)⟩
 case round=>
  obtain⟨U,R,k,rfl,rfl,k1,k4,hU,hR,HO,HB,HI⟩:=hrel
  clear W1
  have hsz:=zAO U
  by_cases hlt:k<U.length
  ·have IH:=lH (show Grp.pieces g g s=Grp.pieces g g (U.take (U.length-k))++(R++ [U.drop (U.length-k)]).reverse by
    rw[HI.out,Grp.zBR k1 hlt];simp)
   have S1:=fun w=>zBH (P:= Tryz.prog) 9 Tryz.underlying9 U ((U.length:Int)-(k:Int)) (U.length-k) (by omega) (by omega) w
   have S2:=fun w=>zCf (P:= Tryz.prog) 9 Tryz.underlying9 U ((U.length:Int)-(k:Int)) (U.length-k) (by omega) (by omega) w
   have hlen:(U.take (U.length-k)).length+k=U.length:=by simp;omega
   clear HI
   generalize U.take (U.length-k)=U' at*
   generalize U.drop (U.length-k)=x at*
   have hown:=HO.out
   have hbs:=HB.out.size
   go_wp2_with (at_builtin;refine wpList_append_own _ rfl _ _ 97 rfl w.heap.size 9 i0 (.string ByteArray.empty) 1 16 Tryz.underlying97 hi hz0 hz1 hz2 rfl (by decide) _ _ _ rfl (hown.alloc _) ⟨wr.heap.size,0,none⟩ 1 1 [txtV x] rfl rfl (cell_one_new _ _ _) (fun x hx=>by simp at hx;subst hx;rfl) (by unfold maxLen;omega) (by omega) (by simp;omega) ?_;intro v' w2 hown' hgrow _)
   have HO':=lH (show w2.ownsRow w.heap.size 9 1 v' (R++ [x]).length ((R++ [x]).map txtV) by simpa using hown')
   have HB':=lH (show Below w.heap.size w w2 from(HB.out.alloc hbs _).grown hgrow (by simp;omega) (fun k hk=>(hown.lt k hk).1))
   clear hown hown' hgrow hbs HO HB S1
   go_wp2_with fail
   go_roundw
   case rel=>exact⟨U',R++ [x],g,rfl,rfl,by omega,by omega,by omega,by simp;omega,HO',HB',IH⟩
   case measure=>rw[zAS,zAS];omega
  have IE:=lH (show Grp.pieces g g s=(R++ [U]).reverse by rw[HI.out,Grp.zBS (by omega)];simp)
  clear HI
  have hown:=HO.out
  have hbs:=HB.out.size
  go_wp2_with (at_builtin;refine wpList_append_own _ rfl _ _ 97 rfl w.heap.size 9 i0 (.string ByteArray.empty) 1 16 Tryz.underlying97 hi hz0 hz1 hz2 rfl (by decide) _ _ _ rfl (hown.alloc _) ⟨wr.heap.size,0,none⟩ 1 1 [txtV U] rfl rfl (cell_one_new _ _ _) (fun x hx=>by simp at hx;subst hx;rfl) (by unfold maxLen;omega) (by omega) (by simp;omega) ?_;intro v' w2 hown' hgrow _)
  have HO':=lH (show w2.ownsRow w.heap.size 9 1 v' (R++ [U]).length ((R++ [U]).map txtV) by simpa using hown')
  have HB':=lH (show Below w.heap.size w w2 from(HB.out.alloc hbs _).grown hgrow (by simp;omega) (fun k hk=>(hown.lt k hk).1))
  clear hown hown' hgrow hbs HO HB
  have hZ:0<(R++ [U]).length:=by simp
  have hZl:(R++ [U]).length≤1000000001:=by simp;omega
  generalize R++ [U]=Z at*
  obtain⟨b,cap,rfl,hb1,hb2,hn,hm,hzl,hH⟩:=Lib.holds_of_ownsRow (enc:=encStr) (zs:=Z) HO'.out (own_ne HO'.out hZ)
  have CR:=lH (Tryz.slices_Reverse_string b 0 cap Z w2 hH (by omega))
  have HS:Hid (∀q,StrsAt (Sort.putRow encStr (Sort.ahead w2 q) b 0 Z.reverse.toArray) (.slice (some ⟨b,0,none⟩) Z.length cap) Z.reverse):=lH (fun q=>by
   have t:=StrsAt.of_row (Lib.ownsRow_putRow (q:=q) (k:=Z.length) (ys:=Z.reverse) HO'.out (by simp) (Nat.le_refl _))
   rw[List.take_of_length_le (by simp)] at t
   exact t)
  have HB2:=lH (fun q=>Lib.below_putRow (enc:=encStr) (q:=q) (d:=Z.reverse.toArray) HB'.out hb1)
  clear hH HO' HB' hzl hZ
  go_wp2_with fail
  refine CR.out.mono ?_
  rintro e w3 ⟨rfl,q,hw3⟩
  have HS3:=lH (hw3▸HS.out q)
  have HB3:=lH (hw3▸HB2.out q)
  clear hw3 HS HB2 CR hb2
  have HR2:=lH (show RES=Lib.join Z.reverse [c] by rw[HG.out,IE.out])
  have hjl:Lst.total Z.reverse [c]≤2000000000000:=by
   have a:=HL.out.1
   rw[HR2.out] at a
   have b:=zDd Z.reverse [c]
   unfold Lst.total
   simp only[List.length_cons,List.length_nil,List.length_reverse]
   omega
  have CJ:=lH fun w h=>zBJ Z.reverse (.slice (some ⟨b,0,none⟩) Z.length cap) [c] w h (by simp;omega) hjl
  rw[←HR2.out] at CJ
  clear hjl HG HL IE HR2
  go_wp2_with fail
  refine(CJ.out _ (HS3.out.alloc _)).mono ?_
  rintro e w4 ⟨rfl,hb⟩
  have HB4:=lH (HB3.out.alloc HB3.out.size _|>.trans (hb.mono (by simp;exact Nat.le_succ_of_le HB3.out.size)))
  clear hb
  go_wp2_with fail
  go_ret2
  exact⟨rfl,HB4.out⟩

theorem zKs (s:List UInt8) (g g2:Nat) (c:UInt8) (w:World) (hs:s.length≤1000000000) (h:digB s=true) (hc: ¬(48≤(c.toNat:Int)∧(c.toNat:Int)≤57)) (g1:0<g) (g4:g≤4) (h1:0<g2) (h4:g2≤4):
  Calls Tryz.prog 90 #[.string ⟨s.toArray⟩,.int .i64 g,.int .i64 g2,byV c] w fun e w'=>e= .returned (.tuple #[.string ⟨(Grp.grouped g g2 s c).toArray⟩,.nilIface])∧Below w.heap.size w w':=by
 obtain⟨i0,hi,hz0,hz1,hz2⟩:=info_parts infoStrG
 have C:=lH fun w=>zCr s w (by omega)
 have CK:=lH fun w=>zDc g g2 (c.toNat:Int) w hc ⟨by omega,by omega,by omega,by omega⟩
 rw[h] at C
 have cb:=c.toNat_lt
 have CV: ∀w:World,(convert 72 9 (.slice (some ⟨w.heap.size,0,none⟩) 1 1)).run Tryz.prog (w.alloc (.cells #[byV c] 5))= .ok (.string ⟨[c].toArray⟩) (w.alloc (.cells #[byV c] 5)):=fun w=>by
  have q:=zBZ (P:= Tryz.prog) 72 9 5 Tryz.underlying72 Tryz.underlying5 Tryz.underlying9 (c.toNat:Int) w (by omega) (by omega)
  rw[show UInt8.ofNat (c.toNat:Int).toNat=c by simp] at q
  exact q
 have b1:((g:Int)==0)=false:=zAe (by omega)
 have b2:((g2:Int)==0)=false:=zAe (by omega)
 have HL:=lH (Grp.zBq s.length g g2 s c (Nat.le_refl _))
 have HG:=lH (show Grp.grouped g g2 s c=Lib.join (Grp.pieces g g2 s) [c] from rfl)
 clear h hc
 generalize Grp.grouped g g2 s c=RES at*
 go_enter Tryz.func90,Tryz.ntmps90
 go_wp2_with fail
 refine(C.out _).mono ?_
 rintro e w1 ⟨rfl,hb⟩
 have W1:=lH hb
 clear hb
 go_wp2_with fail
 refine(CK.out _).mono ?_
 rintro e w' ⟨rfl,rfl⟩
 go_wp2_with fail
 go_loopw [0,11,12] (fun u o z wr=> ∃(U:List UInt8) (R:List (List UInt8)) (k:Nat),u= .string ⟨U.toArray⟩∧z= .int .i64 k∧0<k∧k≤4∧U.length≤s.length∧R.length+U.length≤s.length∧Hid (wr.ownsRow w.heap.size 9 1 o R.length (R.map txtV))∧Hid (Below w.heap.size w wr)∧Hid (Grp.pieces g g2 s=Grp.pieces k g2 U++R.reverse)) (fun u _ _ _=>strLen u)
 case atStart=>exact⟨s,[],g,rfl,rfl,g1,g4,Nat.le_refl _,by simp,lH ⟨rfl,.inl ⟨rfl,rfl⟩⟩,W1,lH (by simp)⟩
 case round=>
  obtain⟨U,R,k,rfl,rfl,k1,k4,hU,hR,HO,HB,HI⟩:=hrel
  clear W1
  have hsz:=zAO U
  by_cases hlt:k<U.length
  ·have IH:=lH (show Grp.pieces g g2 s=Grp.pieces g2 g2 (U.take (U.length-k))++(R++ [U.drop (U.length-k)]).reverse by
    rw[HI.out,Grp.zBR k1 hlt];simp)
   have S1:=fun w=>zBH (P:= Tryz.prog) 9 Tryz.underlying9 U ((U.length:Int)-(k:Int)) (U.length-k) (by omega) (by omega) w
   have S2:=fun w=>zCf (P:= Tryz.prog) 9 Tryz.underlying9 U ((U.length:Int)-(k:Int)) (U.length-k) (by omega) (by omega) w
   have hlen:(U.take (U.length-k)).length+k=U.length:=by simp;omega
   clear HI
   generalize U.take (U.length-k)=U' at*
   generalize U.drop (U.length-k)=x at*
   have hown:=HO.out
   have hbs:=HB.out.size
   go_wp2_with (at_builtin;refine wpList_append_own _ rfl _ _ 97 rfl w.heap.size 9 i0 (.string ByteArray.empty) 1 16 Tryz.underlying97 hi hz0 hz1 hz2 rfl (by decide) _ _ _ rfl (hown.alloc _) ⟨wr.heap.size,0,none⟩ 1 1 [txtV x] rfl rfl (cell_one_new _ _ _) (fun x hx=>by simp at hx;subst hx;rfl) (by unfold maxLen;omega) (by omega) (by simp;omega) ?_;intro v' w2 hown' hgrow _)
   have HO':=lH (show w2.ownsRow w.heap.size 9 1 v' (R++ [x]).length ((R++ [x]).map txtV) by simpa using hown')
   have HB':=lH (show Below w.heap.size w w2 from(HB.out.alloc hbs _).grown hgrow (by simp;omega) (fun k hk=>(hown.lt k hk).1))
   clear hown hown' hgrow hbs HO HB S1
   go_wp2_with fail
   go_roundw
   case rel=>exact⟨U',R++ [x],g2,rfl,rfl,by omega,by omega,by omega,by simp;omega,HO',HB',IH⟩
   case measure=>rw[zAS,zAS];omega
  have IE:=lH (show Grp.pieces g g2 s=(R++ [U]).reverse by rw[HI.out,Grp.zBS (by omega)];simp)
  clear HI
  have hown:=HO.out
  have hbs:=HB.out.size
  go_wp2_with (at_builtin;refine wpList_append_own _ rfl _ _ 97 rfl w.heap.size 9 i0 (.string ByteArray.empty) 1 16 Tryz.underlying97 hi hz0 hz1 hz2 rfl (by decide) _ _ _ rfl (hown.alloc _) ⟨wr.heap.size,0,none⟩ 1 1 [txtV U] rfl rfl (cell_one_new _ _ _) (fun x hx=>by simp at hx;subst hx;rfl) (by unfold maxLen;omega) (by omega) (by simp;omega) ?_;intro v' w2 hown' hgrow _)
  have HO':=lH (show w2.ownsRow w.heap.size 9 1 v' (R++ [U]).length ((R++ [U]).map txtV) by simpa using hown')
  have HB':=lH (show Below w.heap.size w w2 from(HB.out.alloc hbs _).grown hgrow (by simp;omega) (fun k hk=>(hown.lt k hk).1))
  clear hown hown' hgrow hbs HO HB
  have hZ:0<(R++ [U]).length:=by simp
  have hZl:(R++ [U]).length≤1000000001:=by simp;omega
  generalize R++ [U]=Z at*
  obtain⟨b,cap,rfl,hb1,hb2,hn,hm,hzl,hH⟩:=Lib.holds_of_ownsRow (enc:=encStr) (zs:=Z) HO'.out (own_ne HO'.out hZ)
  have CR:=lH (Tryz.slices_Reverse_string b 0 cap Z w2 hH (by omega))
  have HS:Hid (∀q,StrsAt (Sort.putRow encStr (Sort.ahead w2 q) b 0 Z.reverse.toArray) (.slice (some ⟨b,0,none⟩) Z.length cap) Z.reverse):=lH (fun q=>by
   have t:=StrsAt.of_row (Lib.ownsRow_putRow (q:=q) (k:=Z.length) (ys:=Z.reverse) HO'.out (by simp) (Nat.le_refl _))
   rw[List.take_of_length_le (by simp)] at t
   exact t)
  have HB2:=lH (fun q=>Lib.below_putRow (enc:=encStr) (q:=q) (d:=Z.reverse.toArray) HB'.out hb1)
  clear hH HO' HB' hzl hZ
  go_wp2_with fail
  refine CR.out.mono ?_
  rintro e w3 ⟨rfl,q,hw3⟩
  have HS3:=lH (hw3▸HS.out q)
  have HB3:=lH (hw3▸HB2.out q)
  clear hw3 HS HB2 CR hb2
  have HR2:=lH (show RES=Lib.join Z.reverse [c] by rw[HG.out,IE.out])
  have hjl:Lst.total Z.reverse [c]≤2000000000000:=by
   have a:=HL.out.1
   rw[HR2.out] at a
   have b:=zDd Z.reverse [c]
   unfold Lst.total
   simp only[List.length_cons,List.length_nil,List.length_reverse]
   omega
  have CJ:=lH fun w h=>zBJ Z.reverse (.slice (some ⟨b,0,none⟩) Z.length cap) [c] w h (by simp;omega) hjl
  rw[←HR2.out] at CJ
  clear hjl HG HL IE HR2
  go_wp2_with fail
  refine(CJ.out _ (HS3.out.alloc _)).mono ?_
  rintro e w4 ⟨rfl,hb⟩
  have HB4:=lH (HB3.out.alloc HB3.out.size _|>.trans (hb.mono (by simp;exact Nat.le_succ_of_le HB3.out.size)))
  clear hb
  go_wp2_with fail
  go_ret2
  exact⟨rfl,HB4.out⟩
open Go.RowKit
theorem zNq (s:List UInt8) (g g2:Int) (c:UInt8) (w:World) (hs:s.length≤1000000000) (h:digB s=true) (hc: ¬(48≤(c.toNat:Int)∧(c.toNat:Int)≤57)) (hG:rightG g g2):
  Calls Tryz.prog 90 #[.string ⟨s.toArray⟩,.int .i64 g,.int .i64 g2,.int .u8 (c.toNat:Int)] w fun e w'=>e= .returned (.tuple #[.string ⟨(gout s g g2 c).toArray⟩,.nilIface])∧Below w.heap.size w w':=by
 have hG':=hG
 obtain⟨h1,h2,h3,h4⟩:=hG
 obtain⟨a,rfl⟩:=Int.eq_ofNat_of_zero_le h1
 obtain⟨b,rfl⟩:=Int.eq_ofNat_of_zero_le h3
 unfold gout
 by_cases ha:(a:Int)=0
 ·rw[if_pos ha,ha]
  rw[ha] at hG'
  exact zKr s b _ w (by omega) h hc hG'
 rw[if_neg ha]
 by_cases hb:(b:Int)=0
 ·rw[if_pos hb,hb]
  exact zJi s a c w hs h hc (by omega) (by omega)
 rw[if_neg hb]
 exact zKs s a b c w hs h hc (by omega) (by omega) (by omega) (by omega)
theorem zEF (c:UInt8) (w:World):(convert 72 9 (.slice (some ⟨w.heap.size,0,none⟩) 1 1)).run Tryz.prog (w.alloc (.cells #[byV c] 5))= .ok (.string ⟨[c].toArray⟩) (w.alloc (.cells #[byV c] 5)):=by
 have cb:=c.toNat_lt
 have q:=zBZ (P:= Tryz.prog) 72 9 5 Tryz.underlying72 Tryz.underlying5 Tryz.underlying9 (c.toNat:Int) w (by omega) (by omega)
 rw[show UInt8.ofNat (c.toNat:Int).toNat=c by simp] at q
 exact q
open Go.RowKit
open Dcm (P10 okD nrm)


theorem zAx (c s:Int) (w:World) (h:okD c s):
  Calls Tryz.prog 52 #[.agg #[.int .i64 c,.int .i64 s]] w fun e w'=>e= .returned .nilIface∧Below w.heap.size w w':=by
 obtain⟨h1,h2,h3,h4⟩:=h
 have d1:decide (s<0)=false:=zAa (by omega)
 have d2:decide (9<s)=false:=zAa (by omega)
 have d3:decide (c< -1000000000000000)=false:=zAa (by omega)
 have d4:decide (1000000000000000<c)=false:=zAa (by omega)
 go_enter Tryz.func52,Tryz.ntmps52
 go_wp2
 go_ret
 exact⟨rfl,bA _ _⟩
theorem zDu (c s:Int) (w:World) (h: ¬okD c s):
  Calls Tryz.prog 52 #[.agg #[.int .i64 c,.int .i64 s]] w fun e w'=>e= .returned (errV 1)∧Below w.heap.size w w':=by
 by_cases h1:s<0
 ·go_enter Tryz.func52,Tryz.ntmps52
  go_wp2
  go_ret
  exact⟨rfl,bA _ _⟩
 by_cases h2:9<s
 ·go_enter Tryz.func52,Tryz.ntmps52
  go_wp2
  go_ret
  exact⟨rfl,bA _ _⟩
 by_cases h3:c< -1000000000000000
 ·go_enter Tryz.func52,Tryz.ntmps52
  go_wp2
  go_ret
  exact⟨rfl,bA _ _⟩
 by_cases h4:1000000000000000<c
 ·go_enter Tryz.func52,Tryz.ntmps52
  go_wp2
  go_ret
  exact⟨rfl,bA _ _⟩
 exact absurd ⟨by omega,by omega,by omega,by omega⟩ h

theorem zBk (n:Int) (w:World) (h0:0≤n) (h1:n≤9):
  Calls Tryz.prog 97 #[.int .i64 n] w fun e w'=>e= .returned (.int .i64 (P10 n))∧w=w':=by
 go_enter Tryz.func97,Tryz.ntmps97
 go_wp2
 go_loop [3,5] (fun t i=> ∃k:Int,0≤k∧k≤n∧i= .int .i64 k∧t= .int .i64 (P10 k)) (fun _ i=>(n-RowKit.intOf i).toNat)
 case atStart=>exact⟨0,by omega,by omega,rfl,rfl⟩
 case round=>
  obtain⟨k,k0,k1,rfl,rfl⟩:=hrel
  have hb:=Dcm.zAj k
  by_cases hlt:k<n
  ·have hs:=lH (Dcm.zB1 k k0 (by omega))
   go_wp2
   go_round
   case rel=>exact⟨k+1,by omega,by omega,by go_num,by rw[hs.out]⟩
   case measure=>simp[RowKit.intOf];omega
  obtain rfl:k=n:=by omega
  go_wp2
  go_ret
  exact⟨rfl,rfl⟩

def hiW (A:Int):Int:=A/18446744073709551616
def loW (A:Int):Int:=A%18446744073709551616
theorem zJj (x y:Int) (w:World) (x0:0≤x) (x1:x≤1000000000000000) (y0:0≤y) (y1:y≤1000000000):
  Calls Tryz.prog 146 #[.int .u64 x,.int .u64 y] w fun e w'=>e= .returned (.tuple #[.int .u64 (hiW (x*y)),.int .u64 (loW (x*y))])∧w=w':=by
 obtain⟨a,rfl⟩:=Int.eq_ofNat_of_zero_le x0
 obtain⟨b,rfl⟩:=Int.eq_ofNat_of_zero_le y0
 refine(Tryz.bits_Mul64 a b (by omega) (by omega) w).mono fun e w' ⟨he,hw⟩=>⟨?_,hw.symm⟩
 rw[he];unfold hiW loW;simp

theorem zDX (n s:Int) (w:World) (n0:0≤n) (n1:n≤1000000000000000) (s0:0≤s) (s1:s≤9):
  Calls Tryz.prog 135 #[.int .i64 n,.int .i64 s] w fun e w'=>e= .returned (.tuple #[.int .u64 (hiW (n*P10 s)),.int .u64 (loW (n*P10 s))])∧w=w':=by
 have hb:=Dcm.zAj s
 go_enter Tryz.func135,Tryz.ntmps135
 go_wp2_with fail
 refine(zBk _ _ s0 s1).mono ?_
 rintro e w' ⟨rfl,rfl⟩
 go_wp2_with fail
 refine(zJj _ _ _ n0 n1 (by omega) (by omega)).mono ?_
 rintro e w' ⟨rfl,rfl⟩
 go_wp2
 go_ret2
 exact⟨rfl,rfl⟩
open Go.RowKit
open Dcm (okD)

theorem zH5 (q:Nat) (h:q≤1000):wrap64 (q:Int)=(q:Int):=IntWalk.wrap64_in _ ⟨by omega,by omega⟩
theorem zGc (c:Int) (w:World):Calls Tryz.prog 55 #[.string ⟨(Lib.itoa c).toArray⟩,.string ⟨#[45]⟩] w fun e w'=>e= .returned (.string ⟨(Lib.decDigits c.natAbs).toArray⟩)∧w'=w:=by
 have h:= Tryz.strings_TrimPrefix ⟨(Lib.itoa c).toArray⟩ ⟨#[45]⟩ w
 rw[show Lib.trimPrefix (⟨(Lib.itoa c).toArray⟩:ByteArray).data.toList (⟨#[45]⟩:ByteArray).data.toList=Lib.decDigits c.natAbs from Byt.zIW c] at h
 exact h
theorem zCs (n:Nat) (w:World) (hn:n≤1000):Calls Tryz.prog 57 #[.string ⟨#[48]⟩,.int .i64 (n:Int)] w fun e w'=>e= .returned (.string ⟨(List.replicate n (48:UInt8)).toArray⟩)∧Below w.heap.size w w':=by
 have h:= Tryz.strings_Repeat ⟨#[48]⟩ n w (by omega) (by show 1*n≤_;omega)
 rw[show Lib.repeatL (⟨#[48]⟩:ByteArray).data.toList n=List.replicate n 48 from Byt.zCt n] at h
 exact h

theorem zGT (c:Int) (w:World) (hT:PowW w) (h:okD c 0) (g:List UInt8) (hg:Byt.sgn c=g) (hcg:(c<0∧g= [45])∨(¬c<0∧g= [])):
  Calls Tryz.prog 27 #[.agg #[.int .i64 c,.int .i64 0]] w fun e w'=>e= .returned (.string ⟨(Byt.decText c 0).toArray⟩)∧Below w.heap.size w w':=by
 have dl:=Byt.zBu c 0 h
 obtain⟨_,_,c0,c1⟩:=h
 have CI:=lH fun w hT=>zCE c w hT (by omega) (by omega)
 have CT:=lH fun w=>zGc c w
 have hX:g++Lib.decDigits c.natAbs=Byt.decText c 0:=by rw[←hg];exact(if_pos (Int.le_refl 0)).symm
 have hl:g.length+(Lib.decDigits c.natAbs).length≤100:=by rw[←List.length_append,hX];exact dl
 have AD: ∀w,(Op.stringOp .add ⟨g.toArray⟩ ⟨(Lib.decDigits c.natAbs).toArray⟩).run Tryz.prog w= .ok (.string ⟨(Byt.decText c 0).toArray⟩) w:=fun w=>by rw[←hX];exact zAh (P:= Tryz.prog) g (Lib.decDigits c.natAbs) (by omega) w
 generalize Byt.decText c 0=X at*
 generalize Lib.decDigits c.natAbs=D at*
 generalize Lib.itoa c=T at*
 clear hg hX hl dl
 rcases hcg with⟨hc,rfl⟩|⟨hc,rfl⟩
 all_goals
  go_enter Tryz.func27,Tryz.ntmps27
  go_wp2_with fail
  refine(CI.out _ (hT.alloc _)).mono ?_
  rintro e w1 ⟨rfl,hb⟩
  have W1:=lH (bT (bA w (.cells #[.int .i64 c,.int .i64 0] 64)) hb)
  have B1:=lH ((Boxed.made w #[.int .i64 c,.int .i64 0] 64).below hb)
  have k0:=B1.out.cell 0 _ rfl
  have k1:=B1.out.cell 1 _ rfl
  go_wp2_with fail
  refine(CT.out _).mono ?_
  rintro e w2 ⟨rfl,rfl⟩
  clear hb CI CT
  go_wp2_with fail
  go_ret
  exact⟨rfl,W1.out⟩

theorem zGU (c s:Int) (w:World) (hT:PowW w) (h:okD c s) (hs:0<s) (g:List UInt8) (hg:Byt.sgn c=g) (hcg:(c<0∧g= [45])∨(¬c<0∧g= [])):
  Calls Tryz.prog 27 #[.agg #[.int .i64 c,.int .i64 s]] w fun e w'=>e= .returned (.string ⟨(Byt.decText c s).toArray⟩)∧Below w.heap.size w w':=by
 have dl:=Byt.zBu c s h
 have zl:=Byt.zDO c s
 obtain⟨_,s9,c0,c1⟩:=h
 obtain⟨k,rfl⟩: ∃k:Nat,s=(k:Int):=⟨s.toNat,by omega⟩
 rw[Int.toNat_natCast] at zl
 have CI:=lH fun w hT=>zCE c w hT (by omega) (by omega)
 have CT:=lH fun w=>zGc c w
 have hzn:Byt.zn c k=k+1-(Lib.decDigits c.natAbs).length:=rfl
 have CR:=lH fun w=>zCs (Byt.zn c k) w (by omega)
 have hZ:List.replicate (Byt.zn c k) (48:UInt8)++Lib.decDigits c.natAbs=Byt.zdig (Byt.zn c k) c.natAbs:=rfl
 have hX:g++(Byt.zdig (Byt.zn c k) c.natAbs).take ((Byt.zdig (Byt.zn c k) c.natAbs).length-k)++ [46]++(Byt.zdig (Byt.zn c k) c.natAbs).drop ((Byt.zdig (Byt.zn c k) c.natAbs).length-k)=Byt.decText c k:=by
  rw[←hg]
  have e:=(if_neg (show ¬(k:Int)≤0 by omega):Byt.decText c k=_)
  rw[Int.toNat_natCast] at e
  exact e.symm
 have dD:(Lib.decDigits c.natAbs).length≤100:=by
  have:=congrArg List.length hZ
  have:=congrArg List.length hX
  simp only[List.length_append,List.length_take,List.length_drop,List.length_replicate,List.length_singleton] at*
  omega
 have zl2:(Byt.zdig (Byt.zn c k) c.natAbs).length=Byt.zn c k+(Lib.decDigits c.natAbs).length:=by rw[←hZ,List.length_append,List.length_replicate]
 generalize Byt.zdig (Byt.zn c k) c.natAbs=Z at*
 obtain⟨q,hq⟩: ∃q,q=Z.length-k:=⟨_,rfl⟩
 rw[←hq] at hX
 generalize Byt.decText c k=X at*
 generalize Lib.decDigits c.natAbs=D at*
 generalize Lib.itoa c=T at*
 generalize Byt.zn c k=z at*
 have hr:(List.replicate z (48:UInt8)).length=z:=List.length_replicate
 generalize List.replicate z (48:UInt8)=R at*
 have A1: ∀w,(Op.stringOp .add ⟨R.toArray⟩ ⟨D.toArray⟩).run Tryz.prog w= .ok (.string ⟨Z.toArray⟩) w:=fun w=>by rw[←hZ];exact zAh (P:= Tryz.prog) R D (by omega) w
 have S1: ∀w,(Instr.slice 9 (.string ⟨Z.toArray⟩) none (some (.int .i64 (q:Int))) none).run Tryz.prog w= .ok (.string ⟨(Z.take q).toArray⟩) w:=fun w=>zB0 (P:= Tryz.prog) 9 Tryz.underlying9 Z .i64 q (by omega) w
 have S2: ∀w,(Instr.slice 9 (.string ⟨Z.toArray⟩) (some (.int .i64 (q:Int))) none none).run Tryz.prog w= .ok (.string ⟨(Z.drop q).toArray⟩) w:=fun w=>zBd (P:= Tryz.prog) 9 Tryz.underlying9 Z .i64 q (by omega) w
 have lt:(Z.take q).length≤1000:=by rw[List.length_take];omega
 have ld:(Z.drop q).length≤1000:=by rw[List.length_drop];omega
 have lg:g.length≤1:=by rcases hcg with⟨_,rfl⟩|⟨_,rfl⟩<;>simp
 obtain⟨X1,hX1⟩: ∃X1,X1=g++Z.take q:=⟨_,rfl⟩
 obtain⟨X2,hX2⟩: ∃X2,X2=X1++ [46]:=⟨_,rfl⟩
 have A2: ∀w,(Op.stringOp .add ⟨g.toArray⟩ ⟨(Z.take q).toArray⟩).run Tryz.prog w= .ok (.string ⟨X1.toArray⟩) w:=fun w=>by rw[hX1];exact zAh (P:= Tryz.prog) g (Z.take q) (by omega) w
 have l1:X1.length≤2000:=by rw[hX1,List.length_append];omega
 have A3: ∀w,(Op.stringOp .add ⟨X1.toArray⟩ ⟨#[46]⟩).run Tryz.prog w= .ok (.string ⟨X2.toArray⟩) w:=fun w=>by rw[hX2];exact zAh (P:= Tryz.prog) X1 [46] (by simp;omega) w
 have l2:X2.length≤2001:=by rw[hX2,List.length_append,List.length_singleton];omega
 have A4: ∀w,(Op.stringOp .add ⟨X2.toArray⟩ ⟨(Z.drop q).toArray⟩).run Tryz.prog w= .ok (.string ⟨X.toArray⟩) w:=fun w=>by rw[←hX,←hX1,←hX2];exact zAh (P:= Tryz.prog) X2 (Z.drop q) (by omega) w
 have i1:IntKind.i64.wrap ((k:Int)+1)=(k:Int)+1:=IntWalk.i64_in _ (by omega)
 have i2:IntKind.i64.wrap ((k:Int)+1-(D.length:Int))=(k:Int)+1-(D.length:Int):=IntWalk.i64_in _ (by omega)
 have i3:IntKind.i64.wrap ((Z.length:Int)-(k:Int))=(q:Int):=by rw[IntWalk.i64_in _ (by omega)];omega
 have i4:((Z.length:Int)-(k:Int))=(q:Int):=by omega
 have H6:=lH (zH5 q (by omega))
 have hmx:max (0:Int) ((k:Int)+1-(D.length:Int))=(z:Int):=by omega
 have hk0: ¬(k:Int)≤0:=by omega
 clear hg hX hX1 hX2 hZ zl dl hq lt ld l1 l2 lg dD zl2
 generalize Z.take q=Y1 at*
 generalize Z.drop q=Y2 at*
 rcases hcg with⟨hc,rfl⟩|⟨hc,rfl⟩
 all_goals
  go_enter Tryz.func27,Tryz.ntmps27
  go_wp2_with fail
  refine(CI.out _ (hT.alloc _)).mono ?_
  rintro e w1 ⟨rfl,hb⟩
  have W1:=lH (bT (bA w (.cells #[.int .i64 c,.int .i64 (k:Int)] 64)) hb)
  have B1:=lH ((Boxed.made w #[.int .i64 c,.int .i64 (k:Int)] 64).below hb)
  have k0:=B1.out.cell 0 _ rfl
  have k1:=B1.out.cell 1 _ rfl
  go_wp2_with fail
  refine(CT.out _).mono ?_
  rintro e w2 ⟨rfl,rfl⟩
  clear hb CI CT
  go_wp2_with fail
  rw[←hzn]
  clear hzn hmx i1 i2
  refine(CR.out _).mono ?_
  rintro e w3 ⟨rfl,hb⟩
  have W3:=lH (bT W1.out hb)
  have B3:=lH (B1.out.below hb)
  clear k0 k1 hb CR B1 W1
  have k0:=B3.out.cell 0 _ rfl
  have k1:=B3.out.cell 1 _ rfl
  go_wp2_with fail
  rw[H6.out]
  go_big_quiet (fail)
  go_wp2_with fail
  go_ret
  exact⟨rfl,zAb W3.out _⟩
theorem zFc (c s:Int) (w:World) (hT:PowW w) (h:okD c s):
  Calls Tryz.prog 27 #[.agg #[.int .i64 c,.int .i64 s]] w fun e w'=>e= .returned (.string ⟨(Byt.decText c s).toArray⟩)∧Below w.heap.size w w':=by
 have hcg:(c<0∧Byt.sgn c= [45])∨(¬c<0∧Byt.sgn c= []):=by
  by_cases hc:c<0
  ·exact .inl ⟨hc,if_pos hc⟩
  exact .inr ⟨hc,if_neg hc⟩
 by_cases hs:0<s
 ·exact zGU c s w hT h hs _ rfl hcg
 obtain rfl:s=0:=by have:=h.1;omega
 exact zGT c w hT h _ rfl hcg

open Go.RowKit
theorem zKt (t:List UInt8) (w:World) (hM:MaxW w) (ht:t.length≤4000000000):
  Calls Tryz.prog 88 #[.string ⟨t.toArray⟩,.string ⟨#[46]⟩] w fun e w'=>e= .returned (.tuple #[.string ⟨(Lib.cut t [46]).1.toArray⟩,.string ⟨(Lib.cut t [46]).2.1.toArray⟩,.bool (Lib.cut t [46]).2.2])∧Below w.heap.size w w':=by
 obtain⟨m,hm⟩:=hM
 refine(Tryz.strings_Cut ⟨t.toArray⟩ ⟨#[46]⟩ m w (by rw[zAO];omega) hm).mono ?_
 rintro e w' ⟨rfl,n,rfl⟩
 exact⟨rfl,zAb (Below.refl _ _) n⟩
end Go.Proofs.YtjlchookakbomaaGreatDoor
