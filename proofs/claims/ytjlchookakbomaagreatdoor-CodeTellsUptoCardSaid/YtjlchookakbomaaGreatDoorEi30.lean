/- The walk of linguisterref1.RuleHolds: does a right rule hold? Condition: it lies in memory as it says. -/
import Derived.Test.YtjlchookakbomaaGreatDoorEi29
set_option maxHeartbeats 8000000
set_option maxRecDepth 100000
namespace Go.Proofs.YtjlchookakbomaaGreatDoor
open Go.RowKit

theorem zJT {α:Type} {L:List α} {p:α→Bool} {k:Nat} {x:α} (h:L[k]?=some x):(L.take (k+1)).all p=((L.take k).all p&&p x):=by
 rw[List.take_add_one,h];simp

theorem zLk (r:Rul.Rule) (b off c n:Nat) (oi ov ow of ot:Int) (w:World) (hn:r.length=n) (hm:n≤1000000000) (hE:Rul.ruleE r=0) (hcell: ∀(j:Nat) x,r[j]?=some x→PartC w b (off+j*1) x):
  Calls Tryz.prog 121 #[.slice (some ⟨b,off,none⟩) n c,.agg #[.int .i64 oi,.int .i64 ov,.int .i64 ow,.int .i64 of,.int .i64 ot]] w fun e w'=>e= .returned (.bool (Rul.ruleH r ⟨oi,ov,ow,of,ot⟩))∧Below w.heap.size w w':=by
 have W0:=lH (bA w (.cells #[.int .i64 oi,.int .i64 ov,.int .i64 ow,.int .i64 of,.int .i64 ot] 176))
 have B0:=lH (Boxed.made w #[.int .i64 oi,.int .i64 ov,.int .i64 ow,.int .i64 of,.int .i64 ot] 176)
 have HOK:=lH fun (l:List Rul.Rl) (hlr:l∈r)=>Rul.zAE ((Rul.zAC (Rul.ruleE_zero.1 hE).1).2 l hlr)
 have HLM:=lH fun (l:List Rul.Rl) (hlr:l∈r)=>Nat.le_trans (Rul.zCg hlr) (Rul.ruleE_zero.1 hE).2
 have HRH:=lH fun (x:Rul.Rl) (a:Option Addr) (n c:Nat) (wx:World) (hs:SlAt 2 RngC wx (.slice a n c) x.rs) (hok:Rul.relOk x=true)=>zGI x ⟨oi,ov,ow,of,ot⟩ a n c wx hs hok
 generalize hO:(⟨oi,ov,ow,of,ot⟩:Rul.Op5)=O at*
 have HH:=lH (show Rul.ruleH r O=r.any (Rul.partH · O) from rfl)
 generalize Rul.ruleH r O=RH at*
 have HO:=lH hO
 have HC:=lH hcell
 have HN:=lH hn
 clear hcell hn hE hO
 go_enter Tryz.func121,Tryz.ntmps121
 go_wp2_with fail
 generalize w.alloc (.cells #[.int .i64 oi,.int .i64 ov,.int .i64 ow,.int .i64 of,.int .i64 ot] 176)=v at*
 go_loopw [5] (fun i wr=> ∃k:Nat,i= .int .i64 k∧k≤n∧Hid ((r.take k).any (Rul.partH · O)=false)∧Hid (Below v.heap.size v wr)) (fun i _=>n-(intOf i).toNat)
 case atStart=>exact⟨0,rfl,Nat.zero_le _,lH (by simp),lH (Below.refl _ _)⟩
 case round=>
  obtain⟨k,rfl,hk,HANY,HD⟩:=hrel
  by_cases hlt:k<n
  ·obtain⟨l,hlk⟩: ∃l,r[k]?=some l:=⟨r[k]'(by have:=HN.out;omega),List.getElem?_eq_getElem (by have:=HN.out;omega)⟩
   have hlr:=List.mem_of_getElem? hlk
   have HA:=lH (any_take' (p:=(Rul.partH · O)) hlk)
   have HLR:=lH hlr
   have hp0:=HC.out k l hlk
   rw[Nat.mul_one] at hp0
   obtain⟨pa,pn,pc,q0,qs⟩:=hp0
   obtain⟨A1,cap1,e1,hm1,_⟩:=qs.spread
   injection e1 with e1 e2 e3
   subst e1 e2 e3
   have hlm:=HLM.out l hlr
   have Q0:=lH (fun (wx:World) (hb:Below v.heap.size v wx)=>cK q0 (bT W0.out hb))
   have QS:=lH (fun (wx:World) (hb:Below v.heap.size v wx)=>qs.rels_below (bT W0.out hb))
   have HPH:=lH (show Rul.partH l O=l.all (Rul.relH · O) from rfl)
   generalize Rul.partH l O=PH1 at*
   obtain⟨AN1,hAN1⟩: ∃AN1,(r.take (k+1)).any (Rul.partH · O)=AN1:=⟨_,rfl⟩
   rw[hAN1] at HA
   have HAN1:=lH hAN1
   have HLT:=lH hlk
   clear hAN1
   obtain⟨m,hmm⟩: ∃m,l.length=m:=⟨_,rfl⟩
   rw[hmm] at Q0 QS hlm
   have HM:=lH hmm
   have BO:=lH fun (wx:World) (hb:Below v.heap.size v wx)=>B0.out.below hb
   have k0:(0:Int)≤(k:Int):=by omega
   have k1:(k:Int)<(n:Int):=by omega
   clear q0 qs hmm hlk hm1 hlr
   have HK:=lH (And.intro hlt hk)
   go_wp2_with fail
   go_loopw [6,7] (fun s i wr=> ∃j:Nat,i= .int .i64 j∧j≤m∧s= .bool ((l.take j).all (Rul.relH · O))∧Hid (Below v.heap.size v wr)) (fun _ i _=>m-(intOf i).toNat)
   case atStart=>exact⟨0,rfl,Nat.zero_le _,rfl,HD⟩
   case round=>
    obtain⟨j,rfl,hj,rfl,HI⟩:=hrel
    have p0:=Q0.out wr HI.out
    by_cases hjm:j<m
    ·obtain⟨y,hy⟩: ∃y,l[j]?=some y:=⟨l[j]'(by have:=HM.out;omega),List.getElem?_eq_getElem (by have:=HM.out;omega)⟩
     have hyl:=List.mem_of_getElem? hy
     have HA2:=lH (zJT (p:=(Rul.relH · O)) hy)
     obtain⟨b1,of1,rfl,hry⟩: ∃b1 o1,pa=some ⟨b1,o1,none⟩∧ ∀wx,Below v.heap.size v wx→RelC wx b1 (o1+j*4) y:=by
      obtain⟨A1,cap2,e1,_,hcell2⟩:=(QS.out v (Below.refl _ _)).spread
      injection e1 with e1 _ _
      subst e1
      obtain⟨b1,o1,e2,h2⟩:=hcell2 j y hy
      exact⟨b1,o1,e2,fun wx hb=>h2.below hb⟩
     obtain⟨ya,yn,yc,y0,y1,y2,y3,ys⟩:=hry wr HI.out
     have hyok:=(HOK.out l HLR.out).2 y hyl
     have HYS:=lH ys
     have C3:=lH fun (wx:World) (hs:SlAt 2 RngC wx (.slice ya yn yc) y.rs)=>HRH.out y ya yn yc wx hs hyok
     rw[←HO.out] at C3
     dsimp only at C3
     rw[HO.out] at C3
     have o0:=(BO.out wr HI.out).cell 0 _ rfl
     have o1:=(BO.out wr HI.out).cell 1 _ rfl
     have o2:=(BO.out wr HI.out).cell 2 _ rfl
     have o3:=(BO.out wr HI.out).cell 3 _ rfl
     have o4:=(BO.out wr HI.out).cell 4 _ rfl
     have ol:=(BO.out wr HI.out).lt
     have j0:(0:Int)≤(j:Int):=by omega
     have j1:(j:Int)<(m:Int):=by omega
     have HB1:=lH HI.out
     obtain⟨L1,hL1⟩: ∃L1,(l.take (j+1)).all (Rul.relH · O)=L1:=⟨_,rfl⟩
     rw[hL1] at HA2
     have HL1:=lH hL1
     clear hL1
     generalize (l.take j).all (Rul.relH · O)=L0 at*
     generalize Rul.relH y O=LY at*
     clear hry hy hyl hyok ys
     cases L0 with
     |true=>
      obtain rfl:L1=LY:=by rw[HA2.out];rfl
      go_wp2_with fail
      refine wp_region_held_drew (S:=fun w'=>w'.cell? ⟨b,off+k,none⟩=some (.slice (some ⟨b1,of1,none⟩) m pc)∧w'.cell? ⟨b1,of1+j*4,none⟩=some (.int .u8 (y.op.toNat:Int))∧w'.cell? ⟨b1,of1+j*4+1,none⟩=some (.int .i64 y.mod)∧w'.cell? ⟨b1,of1+j*4+2,none⟩=some (.bool y.no)∧w'.cell? ⟨b1,of1+j*4+3,none⟩=some (.slice ya yn yc)∧w'.cell? ⟨w.heap.size,0,none⟩=some (.int .i64 oi)∧w'.cell? ⟨w.heap.size,1,none⟩=some (.int .i64 ov)∧w'.cell? ⟨w.heap.size,2,none⟩=some (.int .i64 ow)∧w'.cell? ⟨w.heap.size,3,none⟩=some (.int .i64 of)∧w'.cell? ⟨w.heap.size,4,none⟩=some (.int .i64 ot)∧Hid (SlAt 2 RngC w' (.slice ya yn yc) y.rs)∧Hid (Below v.heap.size v w')) (by kernel_rfl) (by exact⟨by go_keep,by go_keep,by go_keep,by go_keep,by go_keep,by go_keep,by go_keep,by go_keep,by go_keep,by go_keep,lH (HYS.out.rngs_below (Below.drew (Below.refl _ _))),lH (Below.drew HB1.out)⟩) (fun hY9=>?_)
      refine tkr (d:=(some 23)) (v:=?v1) 0 rfl rfl hY9 ?hy1 ?rs1
      case hy1=>(intro w hSw;(try dsimp only at hSw);go_simp)<;>(try with_reducible rfl)
      (try simp only[Act.put,aI,aO,aS])
      refine tkr (d:=(some 24)) (v:=?v2) 1 rfl rfl hY9 ?hy2 ?rs2
      case hy2=>(intro w hSw;(try dsimp only at hSw);go_simp)<;>(try with_reducible rfl)
      (try simp only[Act.put,aI,aO,aS])
      refine tkr (d:=(some 25)) (v:=?v3) 2 rfl rfl hY9 ?hy3 ?rs3
      case hy3=>(intro w hSw;(try dsimp only at hSw);go_simp)<;>(try with_reducible rfl)
      (try simp only[Act.put,aI,aO,aS])
      refine tkr (d:=(some 26)) (v:=?v4) 3 rfl rfl hY9 ?hy4 ?rs4
      case hy4=>(intro w hSw;(try dsimp only at hSw);go_simp)<;>(try with_reducible rfl)
      (try simp only[Act.put,aI,aO,aS])
      refine tkr (d:=(some 27)) (v:=?v5) 4 rfl rfl hY9 ?hy5 ?rs5
      case hy5=>(intro w hSw;(try dsimp only at hSw);go_simp)<;>(try with_reducible rfl)
      (try simp only[Act.put,aI,aO,aS])
      refine tkr (d:=(some 28)) (v:=?v6) 5 rfl rfl hY9 ?hy6 ?rs6
      case hy6=>(intro w hSw;(try dsimp only at hSw);go_simp)<;>(try with_reducible rfl)
      (try simp only[Act.put,aI,aO,aS])
      refine tkr (d:=(some 29)) (v:=?v7) 6 rfl rfl hY9 ?hy7 ?rs7
      case hy7=>(intro w hSw;(try dsimp only at hSw);go_simp)<;>(try with_reducible rfl)
      (try simp only[Act.put,aI,aO,aS])
      refine tkr (d:=(some 30)) (v:=?v8) 7 rfl rfl hY9 ?hy8 ?rs8
      case hy8=>(intro w hSw;(try dsimp only at hSw);go_simp)<;>(try with_reducible rfl)
      (try simp only[Act.put,aI,aO,aS])
      refine tkr (d:=(some 31)) (v:=?v9) 8 rfl rfl hY9 ?hy9 ?rs9
      case hy9=>(intro w hSw;(try dsimp only at hSw);go_simp)<;>(try with_reducible rfl)
      (try simp only[Act.put,aI,aO,aS])
      refine tkr (d:=(some 32)) (v:=?v10) 9 rfl rfl hY9 ?hy10 ?rs10
      case hy10=>(intro w hSw;(try dsimp only at hSw);go_simp)<;>(try with_reducible rfl)
      (try simp only[Act.put,aI,aO,aS])
      refine zAc 10 rfl (by kernel_rfl) (by rfl) (fun K hK=>?_)
      go_simp
      refine(C3.out _ (by obtain⟨_,_,_,_,_,_,_,_,_,_,h1,_⟩:=hY9;exact h1.out)).mono ?_
      rintro e w' ⟨rfl,hb⟩
      refine hK.out _ _ (by obtain⟨h0,h1,h2,h3,h4,h5,h6,h7,h8,h9,h10,hw⟩:=hY9;exact⟨cK h0 hb,cK h1 hb,cK h2 hb,cK h3 hb,cK h4 hb,cK h5 hb,cK h6 hb,cK h7 hb,cK h8 hb,cK h9 hb,lH (h10.out.rngs_below hb),lH (bT hw.out hb)⟩) (fun hY9=>?_)
      clear hK K
      (try simp only[Act.put,aI,aO,aS])
      refine tkr (d:=(some 34)) (v:=?v12) 11 rfl rfl hY9 ?hy12 ?rs12
      case hy12=>(intro w hSw;(try dsimp only at hSw);go_simp)<;>(try with_reducible rfl)
      (try simp only[Act.put,aI,aO,aS])
      refine tkr (d:=(some 6)) (v:=?v13) 12 rfl rfl hY9 ?hy13 ?rs13
      case hy13=>(intro w hSw;(try dsimp only at hSw);go_simp)<;>(try with_reducible rfl)
      (try simp only[Act.put,aI,aO,aS])
      refine wpAnyH_done (by kernel_rfl) ?_ _
      obtain⟨z0,z1,z2,z3,z4,z5,z6,z7,z8,z9,z10,zW⟩:=hY9
      clear z0 z1 z2 z3 z4 z5 z6 z7 z8 z9 z10 C3
      go_wp2_with fail
      go_roundw
      case rel=>exact⟨j+1,by go_num,by omega,by rw[HL1.out],zW⟩
      case measure=>simp[intOf];omega
     |false=>
      obtain rfl:L1=false:=by rw[HA2.out];rfl
      go_wp2_with fail
      refine wp_region_held_drew (S:=fun w'=>w'.cell? ⟨b,off+k,none⟩=some (.slice (some ⟨b1,of1,none⟩) m pc)∧w'.cell? ⟨b1,of1+j*4,none⟩=some (.int .u8 (y.op.toNat:Int))∧w'.cell? ⟨b1,of1+j*4+1,none⟩=some (.int .i64 y.mod)∧w'.cell? ⟨b1,of1+j*4+2,none⟩=some (.bool y.no)∧w'.cell? ⟨b1,of1+j*4+3,none⟩=some (.slice ya yn yc)∧w'.cell? ⟨w.heap.size,0,none⟩=some (.int .i64 oi)∧w'.cell? ⟨w.heap.size,1,none⟩=some (.int .i64 ov)∧w'.cell? ⟨w.heap.size,2,none⟩=some (.int .i64 ow)∧w'.cell? ⟨w.heap.size,3,none⟩=some (.int .i64 of)∧w'.cell? ⟨w.heap.size,4,none⟩=some (.int .i64 ot)∧Hid (SlAt 2 RngC w' (.slice ya yn yc) y.rs)∧Hid (Below v.heap.size v w')) (by kernel_rfl) (by exact⟨by go_keep,by go_keep,by go_keep,by go_keep,by go_keep,by go_keep,by go_keep,by go_keep,by go_keep,by go_keep,lH (HYS.out.rngs_below (Below.drew (Below.refl _ _))),lH (Below.drew HB1.out)⟩) (fun hY9=>?_)
      refine tkr (d:=(some 23)) (v:=?v14) 0 rfl rfl hY9 ?hy14 ?rs14
      case hy14=>(intro w hSw;(try dsimp only at hSw);go_simp)<;>(try with_reducible rfl)
      (try simp only[Act.put,aI,aO,aS])
      refine tkr (d:=(some 24)) (v:=?v15) 1 rfl rfl hY9 ?hy15 ?rs15
      case hy15=>(intro w hSw;(try dsimp only at hSw);go_simp)<;>(try with_reducible rfl)
      (try simp only[Act.put,aI,aO,aS])
      refine tks (d:=(some 25)) 2 rfl rfl hY9 ?_
      (try simp only[Act.put,aI,aO,aS])
      refine tks (d:=(some 26)) 3 rfl rfl hY9 ?_
      (try simp only[Act.put,aI,aO,aS])
      refine tks (d:=(some 27)) 4 rfl rfl hY9 ?_
      (try simp only[Act.put,aI,aO,aS])
      refine tks (d:=(some 28)) 5 rfl rfl hY9 ?_
      (try simp only[Act.put,aI,aO,aS])
      refine tks (d:=(some 29)) 6 rfl rfl hY9 ?_
      (try simp only[Act.put,aI,aO,aS])
      refine tks (d:=(some 30)) 7 rfl rfl hY9 ?_
      (try simp only[Act.put,aI,aO,aS])
      refine tks (d:=(some 31)) 8 rfl rfl hY9 ?_
      (try simp only[Act.put,aI,aO,aS])
      refine tks (d:=(some 32)) 9 rfl rfl hY9 ?_
      (try simp only[Act.put,aI,aO,aS])
      refine tks (d:=(some 33)) 10 rfl rfl hY9 ?_
      (try simp only[Act.put,aI,aO,aS])
      refine tkr (d:=(some 34)) (v:=?v25) 11 rfl rfl hY9 ?hy25 ?rs25
      case hy25=>(intro w hSw;(try dsimp only at hSw);go_simp)<;>(try with_reducible rfl)
      (try simp only[Act.put,aI,aO,aS])
      refine tkr (d:=(some 6)) (v:=?v26) 12 rfl rfl hY9 ?hy26 ?rs26
      case hy26=>(intro w hSw;(try dsimp only at hSw);go_simp)<;>(try with_reducible rfl)
      (try simp only[Act.put,aI,aO,aS])
      refine wpAnyH_done (by kernel_rfl) ?_ _
      obtain⟨z0,z1,z2,z3,z4,z5,z6,z7,z8,z9,z10,zW⟩:=hY9
      clear z0 z1 z2 z3 z4 z5 z6 z7 z8 z9 z10 C3
      go_wp2_with fail
      go_roundw
      case rel=>exact⟨j+1,by go_num,by omega,by rw[HL1.out],zW⟩
      case measure=>simp[intOf];omega
    have e:j=m:=by omega
    subst e
    have HF:=lH (show(l.take j).all (Rul.relH · O)=PH1 by rw[HPH.out,List.take_of_length_le (by have:=HM.out;omega)])
    rw[HF.out]
    clear HF
    have ht:=HK.out
    cases PH1 with
    |true=>
     have hfin:RH=true:=by
      rw[HH.out,List.any_eq_true]
      exact⟨l,HLR.out,by rw[show Rul.partH l O=l.all (Rul.relH · O) from rfl,←HPH.out]⟩
     go_wp2_with fail
     go_ret
     exact⟨zAg (by rw[hfin]),W0.out.trans (HI.out.mono W0.out.size)⟩
    |false=>
     go_wp2_with fail
     go_roundw
     case rel=>exact⟨k+1,by go_num,by omega,lH (by rw[HAN1.out,HA.out,HANY.out];rfl),HI⟩
     case measure=>simp[intOf];omega
  have e:k=n:=by omega
  subst e
  have hfin:RH=false:=by rw[HH.out];have:=HANY.out;rwa [List.take_of_length_le (by have:=HN.out;omega)] at this
  go_wp2_with fail
  go_ret
  exact⟨zAg (by rw[hfin]),W0.out.trans (HD.out.mono W0.out.size)⟩
theorem zMP (r:Rul.Rule) (A:Option Addr) (n c:Nat) (o:Rul.Op5) (w:World) (hr:SlAt 1 PartC w (.slice A n c) r) (hE:Rul.ruleE r=0):
  Calls Tryz.prog 121 #[.slice A n c,.agg #[.int .i64 o.i,.int .i64 o.v,.int .i64 o.w,.int .i64 o.f,.int .i64 o.t]] w fun e w'=>e= .returned (.bool (Rul.ruleH r o))∧Below w.heap.size w w':=by
 obtain⟨hs,hc⟩:=Rul.ruleE_zero.1 hE
 rcases hr with⟨rfl,a,c',e⟩|⟨b,off,cap,e,h0,_,_,h3⟩
 ·exact absurd rfl (Rul.zAC hs).1
 injection e with e1 e2 e3
 subst e1 e2 e3
 exact zLk r b off _ _ o.i o.v o.w o.f o.t w rfl (by have:=Rul.zDi (fun l hl=>(Rul.zAE ((Rul.zAC hs).2 l hl)).1);omega) hE h3
end Go.Proofs.YtjlchookakbomaaGreatDoor
