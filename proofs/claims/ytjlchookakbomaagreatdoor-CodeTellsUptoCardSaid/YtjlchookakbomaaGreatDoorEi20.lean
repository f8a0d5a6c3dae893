/- The walk of names.of. Conditions: the message is one, of lists of at most 2000000. -/
import Derived.Test.YtjlchookakbomaaGreatDoorEi19
set_option maxHeartbeats 2000000
set_option maxRecDepth 100000
namespace Go.Proofs.YtjlchookakbomaaGreatDoor
open Go.RowKit Ms
open Dcm (okD)
def Spk.set (S:Spk):List (List UInt8):= [S.t0,S.t1,S.t2,S.t3,S.t4]
structure ArgsFine (args:List Ag):Prop where
 num: ∀a∈args,a.num=true→okD a.co a.sc
 txt: ∀a∈args,a.txt.length≤2000000
theorem zHO: ∀(l:List Nat) (a:Nat),a∈l→a≤l.sum
 |b::r,a,h=>by
  rw[List.sum_cons]
  rcases List.mem_cons.1 h with rfl|h
  ·omega
  have:=zHO r a h;omega
theorem zMG {f:Nat} {nm:List UInt8→Bool} {K O:Int} {T:List UInt8} {cs:Cs} (hK:K=4∨K=5) (hw:WfX nm (WfM nm f) (.mk K T O cs)) {i:Nat} (hi:i<cs.length):
  ∃y,cs[i]?=some y∧bodyI (.mk K T O cs) i=y.2∧WfM nm f y.2∧cnt f y.2≤(((casesOf (.mk K T O cs)).map (·.2)).map (cnt f)).sum:=by
 refine⟨cs[i],List.getElem?_eq_getElem hi,?_,hw.body hK _ (List.getElem_mem hi),?_⟩
 ·show((cs[i]?).map (·.2)).getD []=_
  rw[List.getElem?_eq_getElem hi]
  rfl
 refine zHO _ _ ?_
 rw[show casesOf (.mk K T O cs)=cs from if_pos hK,List.map_map]
 exact List.mem_map.2 ⟨cs[i],List.getElem_mem hi,rfl⟩
open Go.RowKit Ms
open Dcm (okD)
theorem bound2 {a a' b c T K:Nat} (h:a+(1+b+c)*K≤T) (h2:a'≤a+(1+b)*K):a'+c*K≤T:=by
 rw[Nat.add_mul] at h
 generalize (1+b)*K=X at*
 generalize c*K=Y at*
 omega
theorem bound1 {a b c T U K:Nat} (h:a+(1+b+c)*K≤T) (h2:T≤U):a+(1+b)*K≤U:=Nat.le_trans (Nat.le_trans (Nat.le_add_right _ _) (bound2 h (Nat.le_refl _))) h2
open Go.RowKit Ms

theorem zMH {f:Nat} {v:Value} {m:List Nd} (w:World) (hw:MW w) (h:MsgAt f w v m) (hl:m.length≤2000000):
  Calls Tryz.prog 50 #[v] w fun e w'=> ∃u,e= .returned (.tuple #[u,errN (namE f m)])∧w'.ownsRow w.heap.size 117 3 u (lstN f m).length (nflat (lstN f m))∧Below w.heap.size w w':=by
 have CK:=lH (zEi w hw h hl)
 have HN:=lH (show namE f m=if msgE f m≠0 then msgE f m else if (allN f [] m).any (fun n=>n.2.1&&n.2.2) then 7 else 0 from rfl)
 have HL:=lH (show lstN f m=if namE f m=0 then allN f [] m else [] from rfl)
 have CA:=lH fun (wx:World) p u hp hb hc=>zKK f v m w wx p u [] h hl hp hb hc
 have HC:=lH (fun h=>zBa (f:=f) (m:=m) h)
 obtain⟨a,n,c,rfl⟩:=h.isSlice
 clear h hw hl
 generalize lstN f m=LS at*
 generalize namE f m=NE at*
 generalize msgE f m=ME at*
 generalize allN f [] m=AL at*
 by_cases h0:ME=0
 case neg=>
  obtain rfl:NE=ME:=by rw[HN.out,if_pos h0]
  obtain rfl:LS= []:=by rw[HL.out,if_neg h0]
  have HE:=lH (show errN NE=errV NE from if_neg h0)
  rw[HE.out] at CK
  clear h0 HN HL HC CA
  go_enter Tryz.func50,Tryz.ntmps50
  go_wp2_with fail
  refine CK.out.mono ?_
  rintro e w1 ⟨rfl,hb⟩
  have W1:=lH hb
  clear hb CK
  go_wp2_with fail
  go_ret2
  exact⟨_,by rw[HE.out];rfl,⟨rfl,.inl ⟨rfl,rfl⟩⟩,W1.out⟩
 subst h0
 have hcn:=HC.out rfl
 rw[show errN 0= .nilIface from rfl] at CK
 replace HN:=lH (show NE=if AL.any (fun n=>n.2.1&&n.2.2) then 7 else 0 from HN.out)
 go_enter Tryz.func50,Tryz.ntmps50
 go_wp2_with fail
 refine CK.out.mono ?_
 rintro e w1 ⟨rfl,hb⟩
 have W1:=lH hb
 have hsz:=hb.size
 have P1:=lH (show NI w.heap.size w1.heap.size (.slice none 0 0) [] (w1.alloc (.cells #[.slice none 0 0] 110)) from⟨Boxed.made _ _ _,World.ownsRow_nil _ _ _ _,by simp[Value.ownBlock],hsz⟩)
 clear hb CK
 go_wp2_with fail
 refine(CA.out _ _ _ P1.out (W1.out.alloc hsz _) (by simp;omega)).mono ?_
 rintro e w2 ⟨rfl,⟨u,hu⟩,hb⟩
 have W2:=lH hb
 have P2:=lH hu
 obtain⟨ua,uc,rfl⟩:=hu.isSlice
 have u0:w2.cell? ⟨w1.heap.size,0,none⟩=some (.slice ua AL.length uc):=hu.box.cell 0 _ rfl
 have CH:=lH (zKg AL (fun n=>n.2.1&&n.2.2) 82 #[] zM9 (.slice ua AL.length uc) w2 (zBY hu.row) (lH fun y _ wx _=>zLT y wx))
 have hs2:=hb.size
 clear hu hb CA P1 W1 HC
 generalize w1.heap.size=p at*
 generalize (AL.any fun n=>n.2.1&&n.2.2)=Z at*
 go_wp2_with fail
 refine CH.out.mono ?_
 rintro e w3 ⟨rfl,hb⟩
 have P3:=lH (P2.out.below hb)
 have W3:=lH (W2.out.trans (hb.mono hs2))
 have u1:w3.cell? ⟨p,0,none⟩=some (.slice ua AL.length uc):=P3.out.box.cell 0 _ rfl
 clear hb CH P2 W2 u0
 cases Z with
 |true=>
  obtain rfl:NE=7:=HN.out
  obtain rfl:LS= []:=HL.out
  go_wp2_with fail
  go_ret2
  exact⟨_,rfl,⟨rfl,.inl ⟨rfl,rfl⟩⟩,W3.out⟩
 |false=>
  obtain rfl:NE=0:=HN.out
  obtain rfl:LS=AL:=HL.out
  go_wp2_with fail
  go_ret2
  exact⟨_,rfl,P3.out.row,W3.out⟩
end Go.Proofs.YtjlchookakbomaaGreatDoor
