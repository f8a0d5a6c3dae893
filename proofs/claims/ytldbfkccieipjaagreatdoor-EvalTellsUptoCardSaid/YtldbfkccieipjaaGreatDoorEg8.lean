/- The walks of FitsFault and of errors.As; the frame of the start. -/
import Derived.Test.YtldbfkccieipjaaGreatDoorEg7
import Derived.Test.YtldbfkccieipjaaGreatDoorEg5
import Derived.BigQuiet
import Derived.LaidEql
import Derived.LaidHandle
import Derived.Stop.Asserts
import Derived.RowKitTokens
import Derived.Lay
import Derived.LaidMore
import Derived.LaidLaws
namespace Go.Proofs.YtldbfkccieipjaaGreatDoor
set_option maxRecDepth 100000
open Go.RowKit Ms

theorem dfault_any (a:Ag) (w:World):Calls Tryz.prog 12 #[.agg #[.int .i64 a.co,.int .i64 a.sc]] w fun e w'=>e= .returned (.bool (badA a))∧Below w.heap.size w w':=by
 by_cases h:Dcm.okD a.co a.sc
 ·rw[show badA a=false by unfold badA;simp[h]]
  exact dflt_no _ _ w h
 ·rw[show badA a=true by unfold badA;simp[h]]
  exact dflt_yes _ _ w h
theorem SlAt.take {α:Type} {m:Nat} {C:World→Nat→Nat→α→Prop} {w:World} {a:Option Addr} {n c:Nat} {l:List α} (h:SlAt m C w (.slice a n c) l) (i:Nat) (hi:i≤l.length):SlAt m C w (.slice a i c) (l.take i):=by
 by_cases h0:i=0
 ·subst h0
  exact .inl ⟨rfl,_,_,rfl⟩
 ·rcases h with⟨rfl,_,_,_⟩|⟨b,off,cap,e,h2,h3,h4,h5⟩
  ·simp at hi;exact absurd hi h0
  ·injection e with e1 e2 e3
   subst e1 e3
   have hl:(l.take i).length=i:=by rw[List.length_take];omega
   refine .inr ⟨b,off,c,by rw[hl],by omega,by omega,h4,fun j x hx=>h5 j x ?_⟩
   have hj:j<(l.take i).length:=(List.getElem?_eq_some_iff.1 hx).1
   rwa [List.getElem?_take,if_pos (by omega)] at hx

set_option maxHeartbeats 4000000 in
theorem ffault_any {f:Nat} {v va:Value} {m:List Nd} {args:List Ag} (w:World) (h:MsgAt f w v m) (hl:m.length≤2000000) (ha:ArgsAt w va args) (hal:args.length≤2000000) (hna: ∀a∈args,a.name.length≤4000000000):
  Calls Tryz.prog 51 #[v,va] w fun e w'=>e= .returned (.int .i64 (fitE f m args))∧Below w.heap.size w w':=by
 have CM:=lH fun wx (hb:Below w.heap.size w wx)=>nfault_any (f:=f) (v:=v) (m:=m) wx (msg_below h hb) hl
 have HE:=lH (show fitE f m args=if namE f m≠0 then namE f m else if argE [] args≠0 then argE [] args else askE args (allN f [] m) from rfl)
 have HC:=lH (fun (h0:namE f m=0)=>cnt_small (f:=f) (m:=m) (namE_zero h0).1)
 have CA:=lH fun (wx:World) (hb:Below w.heap.size w wx) (hc:cnt f m≤60)=>asked_any f v m w wx (.slice none 0 0) [] h hl ⟨rfl,.inl ⟨rfl,rfl⟩⟩ hb (by simp;omega)
 have CS:=lH fun (wx:World) (n:Need) (hn:n∈allN f [] m) (hb:Below w.heap.size w wx)=>(show Calls Tryz.prog 80 #[v,.string ⟨n.1.toArray⟩] wx fun e w'=>e= .returned (.bool n.2.2)∧Below wx.heap.size wx w' from by rw[←sel_at (names_dist f m) hn,←sel_chs];exact chosen_any f v m n.1 wx (msg_below h hb) hl)
 have HLL:=lH (fun h0=>show(allN f [] m).length≤60 from Nat.le_trans (by simpa using allN_len f [] m) (cnt_small (f:=f) (m:=m) (namE_zero h0).1))
 obtain⟨a,n,c,rfl⟩:=h.isSlice
 obtain⟨A,cap,rfl,_,hel⟩:=ha.spread
 have hcap:args.length≤cap∨args.length=0:=by
  rcases ha with⟨e,_⟩|⟨_,_,_,e,_,q,_,_⟩
  ·exact .inr (by rw[e];rfl)
  ·injection e with _ _ e;exact .inl (by omega)
 have HX:=lH hel
 have CN:=lH fun (x:Ag) (hx:x∈args) (wx:World)=>qname_any x.name wx (hna x hx)
 have CT:=lH fun (i:Nat) (hi:i≤args.length) (t:List UInt8) (wx:World) (hb:Below w.heap.size w wx)=>qargof_any (args.take i) t _ wx (args_below (SlAt.take ha i hi) hb) (by rw[List.length_take];omega)
 have CF:=lH fun (t:List UInt8) (wx:World) (hb:Below w.heap.size w wx)=>qargof_any args t _ wx (args_below ha hb) hal
 clear h hl ha hel hna
 generalize namE f m=NE at*
 generalize allN f [] m=AL at*
 generalize fitE f m args=FE at*
 by_cases h0:NE=0
 case neg=>
  obtain rfl:FE=NE:=by rw[HE.out,if_pos h0]
  have b0:(FE !=0)=true:=by rw[bne,beq_no h0];rfl
  clear h0 HE CN HX CT CF CS CA HC HLL
  generalize hN:args.length=N at*
  go_enter Tryz.func51,Tryz.ntmps51
  go_wp2_with fail
  refine(CM.out w (Below.refl _ _)).mono ?_
  rintro e w1 ⟨rfl,hb⟩
  have W1:=lH hb
  clear hb
  go_wp2_with fail
  refine(CM.out w1 W1.out).mono ?_
  rintro e w2 ⟨rfl,hb⟩
  have W2:=lH (bT W1.out hb)
  clear hb CM
  go_wp2_with fail
  go_ret
  exact⟨rfl,W2.out⟩
 subst h0
 have hcn:=HC.out rfl
 have hll:=HLL.out rfl
 have HE:=lH (show FE=if argE [] args≠0 then argE [] args else askE args AL from HE.out)
 clear HC HLL
 obtain⟨AE,hAE⟩: ∃AE,AE=argE [] args:=⟨_,rfl⟩
 rw[←hAE] at HE
 have HAE:=lH (show argE (args.take 0) (args.drop 0)=AE by rw[hAE];rfl)
 clear hAE
 generalize hN:args.length=N at*
 go_enter Tryz.func51,Tryz.ntmps51
 go_wp2_with fail
 refine(CM.out w (Below.refl _ _)).mono ?_
 rintro e w1 ⟨rfl,hb⟩
 have W1:=lH hb
 clear hb CM
 go_wp2_with fail
 go_loopw [5] (fun vi wr=> ∃i:Nat,vi= .int .i64 (i:Int)∧i≤N∧Hid (argE (args.take i) (args.drop i)=AE)∧Hid (Below w.heap.size w wr)) (fun vi _=>N-(intOf vi).toNat)
 case atStart=>exact⟨0,rfl,Nat.zero_le _,HAE,W1⟩
 case round=>
  obtain⟨i,rfl,hi,HS,HB⟩:=hrel
  clear HAE W1
  by_cases hlt:i<N
  ·have hi':(i:Int)<(N:Int):=by omega
   have hi0:(0:Int)≤(i:Int):=by omega
   have hcc:N≤cap:=by omega
   have hic:(i:Int)≤(cap:Int):=by omega
   obtain⟨x,hxi⟩: ∃x,args[i]?=some x:=⟨args[i]'(by omega),List.getElem?_eq_getElem (by omega)⟩
   obtain⟨b,off,rfl,p0,p1,p2,p3,p4⟩:=HX.out i x hxi
   have g0:=cK p0 HB.out
   have wi:IntKind.i64.wrap ((i:Int)+1)=(i:Int)+1:=IntWalk.i64_in _ (by omega)
   have CNh:=lH (CN.out x (List.mem_of_getElem? hxi))
   have HT:=lH (drop_step hxi).2
   have hst:=HS.out
   rw[(drop_step hxi).1,argE_step] at hst
   have CD:=lH (dfault_any x)
   clear HS hxi CN CA CS CF HX
   generalize badA x=Z at*
   obtain⟨T,bn,co,sc,tx⟩:=x
   have HST:=lH (show(if !nameB T then 3 else if bn&&Z then 1 else if hasA (args.take i) T then 5 else argE (args.take i++ [⟨T,bn,co,sc,tx⟩]) (args.drop (i+1)))=AE from hst)
   clear hst
   generalize nameB T=NB at*
   go_wp2_with fail
   refine(CNh.out _).mono ?_
   rintro e w3 ⟨rfl,hb⟩
   have W3:=lH (HB.out.trans (hb.mono HB.out.size))
   clear hb CNh HB g0
   cases NB with
   |false=>
    obtain rfl:3=AE:=HST.out
    obtain rfl:FE=3:=HE.out
    clear CD HT CT
    go_wp2_with fail
    go_ret
    exact⟨rfl,W3.out⟩
   |true=>
    have z1:w3.cell? ⟨b,off+i*5+1,none⟩=some (.bool bn):=cK p1 W3.out
    cases bn with
    |false=>
     have HS:=lH (show(if hasA (args.take i) T then 5 else argE (args.take i++ [⟨T,false,co,sc,tx⟩]) (args.drop (i+1)))=AE from HST.out)
     clear HST CD
     have y0:World.cell? w3 ⟨b,off+i*5,none⟩=some (.string ⟨T.toArray⟩):=cK p0 W3.out
     have CQ:=lH fun n=>CT.out i (by omega) T (World.drewN w3 n) (blw_drewN W3.out n)
     have HI:=idxA_lt (args.take i) T
     clear CT
     generalize idxA (args.take i) T=I at*
     cases hH:hasA (args.take i) T with
     |true=>
      have hst:=HS.out
      rw[hH] at hst
      obtain rfl:5=AE:=hst
      obtain rfl:FE=5:=HE.out
      have d0:decide (0≤I)=true:=decide_eq_true (by rw[hH] at HI;simp at HI;omega)
      clear HS HI
      go_wp2_with fail
      go_quiet (first|(go_at_call 78;exact Calls.quiet_of_same (CQ.out _)))
      go_wp2_with fail
      go_ret
      exact⟨rfl,blw_drewN W3.out _⟩
     |false=>
      have hst:=HS.out
      rw[hH] at hst
      have HS2:=lH (show argE (args.take (i+1)) (args.drop (i+1))=AE by rw[HT.out];exact hst)
      have d0:decide (0≤I)=false:=decide_eq_false (by have:=HI.2 hH;omega)
      clear hst HS HI
      go_wp2_with fail
      go_quiet (first|(go_at_call 78;exact Calls.quiet_of_same (CQ.out _)))
      go_wp2_with fail
      go_roundw
      case rel=>exact⟨i+1,by go_num,by omega,HS2,lH (blw_drewN W3.out _)⟩
      case measure=>simp[intOf];omega
    |true=>
     have z2:w3.cell? ⟨b,off+i*5+2,none⟩=some (.int .i64 co):=cK p2 W3.out
     have z3:w3.cell? ⟨b,off+i*5+3,none⟩=some (.int .i64 sc):=cK p3 W3.out
     have CDh:=lH (CD.out w3)
     clear CD
     go_wp2_with fail
     refine CDh.out.mono ?_
     rintro e w4 ⟨rfl,hb⟩
     have W4:=lH (W3.out.trans (hb.mono W3.out.size))
     clear hb CDh W3 z1 z2 z3
     cases Z with
     |true=>
      obtain rfl:1=AE:=HST.out
      obtain rfl:FE=1:=HE.out
      clear HT CT
      go_wp2_with fail
      go_ret
      exact⟨rfl,W4.out⟩
     |false=>
      have HS:=lH (show(if hasA (args.take i) T then 5 else argE (args.take i++ [⟨T,true,co,sc,tx⟩]) (args.drop (i+1)))=AE from HST.out)
      clear HST
      have y0:World.cell? w4 ⟨b,off+i*5,none⟩=some (.string ⟨T.toArray⟩):=cK p0 W4.out
      have CQ:=lH fun n=>CT.out i (by omega) T (World.drewN w4 n) (blw_drewN W4.out n)
      have HI:=idxA_lt (args.take i) T
      clear CT
      generalize idxA (args.take i) T=I at*
      cases hH:hasA (args.take i) T with
      |true=>
       have hst:=HS.out
       rw[hH] at hst
       obtain rfl:5=AE:=hst
       obtain rfl:FE=5:=HE.out
       have d0:decide (0≤I)=true:=decide_eq_true (by rw[hH] at HI;simp at HI;omega)
       clear HS HI
       go_wp2_with fail
       go_quiet (first|(go_at_call 78;exact Calls.quiet_of_same (CQ.out _)))
       go_wp2_with fail
       go_ret
       exact⟨rfl,blw_drewN W4.out _⟩
      |false=>
       have hst:=HS.out
       rw[hH] at hst
       have HS2:=lH (show argE (args.take (i+1)) (args.drop (i+1))=AE by rw[HT.out];exact hst)
       have d0:decide (0≤I)=false:=decide_eq_false (by have:=HI.2 hH;omega)
       clear hst HS HI
       go_wp2_with fail
       go_quiet (first|(go_at_call 78;exact Calls.quiet_of_same (CQ.out _)))
       go_wp2_with fail
       go_roundw
       case rel=>exact⟨i+1,by go_num,by omega,HS2,lH (blw_drewN W4.out _)⟩
       case measure=>simp[intOf];omega
  ·have hi': ¬(i:Int)<(N:Int):=by omega
   have hst:=HS.out
   rw[List.drop_of_length_le (by omega)] at hst
   obtain rfl:0=AE:=hst
   have HE2:=lH (show askE args (AL.drop 0)=FE from HE.out.symm)
   clear HE HS CN CT
   go_wp2_with fail
   refine(CA.out wr HB.out hcn).mono ?_
   rintro e w2 ⟨u,rfl,hr,hb⟩
   have W2:=lH hb
   obtain⟨ua,uc,eu,_,hel⟩:=(args_of_row (l:=AL.map ofN) (by rw[List.length_map];exact hr)).spread
   rw[List.length_map] at eu
   subst eu
   have HR:=lH hr
   have hcapu:AL.length≤uc∨AL.length=0:=by
    rcases hr.2 with⟨e,h0⟩|⟨g,cap,cur,e,_,q,_⟩
    ·exact .inr h0
    ·injection e with _ _ e;exact .inl (by omega)
   have HX3:=lH hel
   clear hb CA hr hel HB
   generalize hM:AL.length=M at*
   go_wp2_with fail
   go_loopw [7] (fun vk wx=> ∃k:Nat,vk= .int .i64 (k:Int)∧k≤M∧Hid (askE args (AL.drop k)=FE)∧Hid (Below w2.heap.size w2 wx)) (fun vk _=>M-(intOf vk).toNat)
   case atStart=>exact⟨0,rfl,Nat.zero_le _,HE2,lH (Below.refl _ _)⟩
   case round=>
    obtain⟨k,rfl,hk,HS,HB⟩:=hrel
    clear HE2
    have WB:=lH (W2.out.trans (HB.out.mono W2.out.size))
    by_cases hltk:k<M
    ·have hk':(k:Int)<(M:Int):=by omega
     have hccu:M≤uc:=by omega
     obtain⟨x,hxk⟩: ∃x,AL[k]?=some x:=⟨AL[k]'(by omega),List.getElem?_eq_getElem (by omega)⟩
     obtain⟨b,off,rfl,p0,p1,_⟩:=HX3.out k (ofN x) (by rw[List.getElem?_map,hxk];rfl)
     have g0:World.cell? wr ⟨b,off+k*5,none⟩=some (.string ⟨x.1.toArray⟩):=cK p0 HB.out
     have g1:World.cell? wr ⟨b,off+k*5+1,none⟩=some (.bool x.2.1):=cK p1 HB.out
     have wk:IntKind.i64.wrap ((k:Int)+1)=(k:Int)+1:=IntWalk.i64_in _ (by omega)
     have CSh:=lH fun wx (hb:Below w.heap.size w wx)=>CS.out wx x (List.mem_of_getElem? hxk) hb
     have hst:=HS.out
     rw[(drop_step hxk).1,askE_cons] at hst
     clear HS p0 p1 hxk CS HX3
     obtain⟨T,bn,bt⟩:=x
     have CFh:=lH (CF.out T wr WB.out)
     rcases idxA_find args T with⟨_,hf,hI⟩|⟨j,y,hy,hf,hI,hj⟩
     ·rw[hf] at hst
      rw[hI] at CFh
      obtain rfl:2=FE:=hst
      clear hf hI CF HX CSh
      go_wp2_with fail
      refine CFh.out.mono ?_
      rintro e w3 ⟨rfl,rfl⟩
      go_wp2_with fail
      go_ret
      exact⟨rfl,WB.out⟩
     ·rw[hf] at hst
      rw[hI] at CFh
      obtain⟨bb,oo,eA,q0,q1,_⟩:=HX.out j y hy
      have j1:=cK q1 WB.out
      rw[eA] at CFh⊢
      obtain⟨y1,yn,y3,y4,y5⟩:=y
      have j1:World.cell? wr ⟨bb,oo+j*5+1,none⟩=some (.bool yn):=j1
      have HST:=lH (show(if (bn&&!yn)||(bt&&yn) then 7 else askE args (AL.drop (k+1)))=FE from hst)
      have hjc:j<cap:=by omega
      have hj0: ¬(j:Int)<0:=by omega
      have hj1:(j:Int)<(N:Int):=by omega
      have dj:decide ((j:Int)<0)=false:=decide_eq_false hj0
      clear hst hf hI q0 q1 hy eA CF HX
      go_wp2_with fail
      refine CFh.out.mono ?_
      rintro e w3 ⟨rfl,rfl⟩
      have CSk:=lH (CSh.out w3 WB.out)
      clear CFh CSh
      cases yn with
      |false=>
       cases bn with
       |true=>
        obtain rfl:7=FE:=HST.out
        go_wp2_with fail
        go_ret
        exact⟨rfl,WB.out⟩
       |false=>
        have HS2:=lH (show askE args (AL.drop (k+1))=FE from by have:=HST.out;rwa [Bool.and_false] at this)
        clear HST
        go_wp2_with fail
        go_roundw
        case rel=>exact⟨k+1,by go_num,by omega,HS2,HB⟩
        case measure=>simp[intOf];omega
      |true=>
       have HST2:=lH (show(if bt then 7 else askE args (AL.drop (k+1)))=FE by have:=HST.out;rwa [Bool.not_true,Bool.and_false,Bool.false_or,Bool.and_true] at this)
       clear HST
       cases bn with
       |true=>
        go_wp2_with fail
        refine CSk.out.mono ?_
        rintro e w4 ⟨rfl,hb⟩
        have B4:=lH (HB.out.trans (hb.mono HB.out.size))
        have W4:=lH (WB.out.trans (hb.mono WB.out.size))
        clear hb CSk
        cases bt with
        |true=>
         obtain rfl:7=FE:=HST2.out
         go_wp2_with fail
         go_ret
         exact⟨rfl,W4.out⟩
        |false=>
         have HS2:=lH (show askE args (AL.drop (k+1))=FE from HST2.out)
         clear HST2
         go_wp2_with fail
         go_roundw
         case rel=>exact⟨k+1,by go_num,by omega,HS2,B4⟩
         case measure=>simp[intOf];omega
       |false=>
        go_wp2_with fail
        refine CSk.out.mono ?_
        rintro e w4 ⟨rfl,hb⟩
        have B4:=lH (HB.out.trans (hb.mono HB.out.size))
        have W4:=lH (WB.out.trans (hb.mono WB.out.size))
        clear hb CSk
        cases bt with
        |true=>
         obtain rfl:7=FE:=HST2.out
         go_wp2_with fail
         go_ret
         exact⟨rfl,W4.out⟩
        |false=>
         have HS2:=lH (show askE args (AL.drop (k+1))=FE from HST2.out)
         clear HST2
         go_wp2_with fail
         go_roundw
         case rel=>exact⟨k+1,by go_num,by omega,HS2,B4⟩
         case measure=>simp[intOf];omega
    ·have hk': ¬(k:Int)<(M:Int):=by omega
     have hst:=HS.out
     rw[List.drop_of_length_le (by omega)] at hst
     obtain rfl:0=FE:=hst
     go_wp2_with fail
     go_ret
     exact⟨rfl,WB.out⟩
open Go.RowKit Go.Extern.Stop Go.Stop Go.Extern

/-! ### CLOSED FACTS ON THE MODEL's ENTRIES FOR internal/reflectlite, at this program's types: 25: *p.E · 27: **p.E · 23: error · 45: reflectlite's rtype · 1: how many package-level variables the dump has -/
theorem Tryz.valueOf27 (t:Addr) (w:World):(ReflectliteValue.unpack (.iface 159 (.pointer (some t)))).run Tryz.prog w
  = .ok (.agg #[.pointer (some ⟨13,159,none⟩),.pointer (some ⟨w.heap.size,0,none⟩),.int .u64 150]) (w.alloc (.cells #[.pointer (some t)] 159)):=by kernel_rfl
theorem Tryz.type27 (a:Addr) (w:World):(ReflectliteValue.methodAny (ReflectliteValue.valueError "reflectlite.Value.Type" 0) (fun t _ _ _=>ReflectliteType.toType t) #[.agg #[.pointer (some ⟨13,159,none⟩),.pointer (some a),.int .u64 150]]).run Tryz.prog w
  = .ok (.iface 233 (.agg #[.pointer (some ⟨13,159,none⟩)])) w:=by kernel_rfl
theorem Tryz.methodKind (h:Value) (w:World):(Go.method 441 233 (.agg #[h]) "Kind").run Tryz.prog w= .ok (251,h) w:=by kernel_rfl
theorem Tryz.kind27 (w:World):((ReflectliteType.abiMethod fun t=>Functor.map (fun a : Nat => Value.int IntKind.u8 (a : Int)) (Rtype.kind t)) #[.pointer (some ⟨13,159,none⟩)]).run Tryz.prog w= .ok (.int .u8 22) w:=by kernel_rfl
theorem Tryz.kind25 (w:World):((ReflectliteType.abiMethod fun t=>Functor.map (fun a : Nat => Value.int IntKind.u8 (a : Int)) (Rtype.kind t)) #[.pointer (some ⟨13,60,none⟩)]).run Tryz.prog w= .ok (.int .u8 2) w:=by kernel_rfl

/-! ### THE ENTRIES THAT READ OR WRITE MEMORY: laws with a premise on the cell (after Derived/Lib/ReflectliteSlice.lean's manner: each unfolding a lemma of its own, by rfl) -/
theorem rlm (z:Sem Value) (f:TypeId→Addr→Nat→Nat→Sem Value) (v:Value):
  ReflectliteValue.method z f #[v]=(do match←ReflectliteValue.parts v with|none=>z|some (t,a,fl)=>f t a fl (fl%32)):=rfl
theorem Tryz.parts27 (a:Addr) (w:World):(ReflectliteValue.parts (.agg #[.pointer (some ⟨13,159,none⟩),.pointer (some a),.int .u64 150])).run Tryz.prog w= .ok (some (159,a,150)) w:=by kernel_rfl
theorem Tryz.isNil27 (a p:Addr) (W:World) (ha:W.cell? a=some (.pointer (some p))):
  (ReflectliteValue.method (ReflectliteValue.valueError "reflectlite.Value.IsNil" 0) ReflectliteValue.isNil #[.agg #[.pointer (some ⟨13,159,none⟩),.pointer (some a),.int .u64 150]]).run Tryz.prog W= .ok (.bool false) W:=by
 rw[rlm]
 simp only[Sem.run_bind,Tryz.parts27,Result.andThen]
 simp[ReflectliteValue.isNil,loadVar,isAgg,underlying,Tryz.underlying159,ha,Result.andThen]

theorem Tryz.methodElem (h:Value) (w:World):(Go.method 441 233 (.agg #[h]) "Elem").run Tryz.prog w= .ok (262,.agg #[h]) w:=by kernel_rfl
theorem Tryz.methodImplements (h:Value) (w:World):(Go.method 441 233 (.agg #[h]) "Implements").run Tryz.prog w= .ok (263,.agg #[h]) w:=by kernel_rfl
theorem Tryz.methodAssignableTo (h:Value) (w:World):(Go.method 441 233 (.agg #[h]) "AssignableTo").run Tryz.prog w= .ok (260,.agg #[h]) w:=by kernel_rfl
theorem Tryz.elem27 (w:World):(ReflectliteType.method ReflectliteType.elem #[.agg #[.pointer (some ⟨13,159,none⟩)]]).run Tryz.prog w= .ok (.iface 233 (.agg #[.pointer (some ⟨13,60,none⟩)])) w:=by kernel_rfl
theorem Tryz.implements25 (w:World):(ReflectliteType.relation "Implements" ReflectliteType.implements_ #[.agg #[.pointer (some ⟨13,60,none⟩)],.iface 233 (.agg #[.pointer (some ⟨13,26,none⟩)])]).run Tryz.prog w= .ok (.bool true) w:=by kernel_rfl
theorem Tryz.typeOf25 (v:Value) (w:World):(ReflectliteType.typeOf #[.iface 60 v]).run Tryz.prog w= .ok (.iface 233 (.agg #[.pointer (some ⟨13,60,none⟩)])) w:=by kernel_rfl
theorem Tryz.assignable25 (w:World):(ReflectliteType.relation "AssignableTo" ReflectliteType.assignableTo #[.agg #[.pointer (some ⟨13,60,none⟩)],.iface 233 (.agg #[.pointer (some ⟨13,60,none⟩)])]).run Tryz.prog w= .ok (.bool true) w:=by kernel_rfl
theorem Tryz.valueOf25 (e:Int) (w:World):(ReflectliteValue.unpack (.iface 60 (.int .i64 e))).run Tryz.prog w
  = .ok (.agg #[.pointer (some ⟨13,60,none⟩),.pointer (some ⟨w.heap.size,0,none⟩),.int .u64 130]) (w.alloc (.cells #[.int .i64 e] 60)):=by kernel_rfl

theorem Tryz.elemOf27 (w:World):(Rtype.elem? 159).run Tryz.prog w= .ok (some 60) w:=by kernel_rfl
theorem Tryz.mk25 (p:Addr) (w:World):(ReflectliteValue.mk 60 p ReflectliteValue.flagAddr).run Tryz.prog w= .ok (.agg #[.pointer (some ⟨13,60,none⟩),.pointer (some p),.int .u64 386]) w:=by kernel_rfl
theorem Tryz.elemV27 (a p:Addr) (W:World) (ha:W.cell? a=some (.pointer (some p))):
  (ReflectliteValue.method (ReflectliteValue.valueError "reflectlite.Value.Elem" 0) ReflectliteValue.elem #[.agg #[.pointer (some ⟨13,159,none⟩),.pointer (some a),.int .u64 150]]).run Tryz.prog W
   = .ok (.agg #[.pointer (some ⟨13,60,none⟩),.pointer (some p),.int .u64 386]) W:=by
 rw[rlm]
 simp only[Sem.run_bind,Tryz.parts27,Result.andThen]
 simp[ReflectliteValue.elem,loadVar,isAgg,underlying,Tryz.underlying159,ha,Result.andThen,Tryz.elemOf27,Tryz.mk25]
theorem rls (v x:Value):ReflectliteValue.set #[v,x]=(do
  let (some (dst,a,fl),some (src,b,_)):=(←ReflectliteValue.parts v,←ReflectliteValue.parts x)
   |unsupported (.noEntry "extern/(internal/reflectlite.Value).Set.zeroValue")
  if fl/ReflectliteValue.flagAddr%2==0 then unsupported (.noEntry "extern/(internal/reflectlite.Value).Set.unaddressable")
  let val←loadVar src b
  if←Rtype.directlyAssignable dst src then storeVar dst a val
  else if←Rtype.implements dst src then
   if (←Rtype.kind src)==20 then
    match val with
    | .nilIface=>unsupported (.noEntry "extern/reflectlite: a nil value of one interface type handed on as a value of another")
    |_=>storeVar dst a val
   else storeVar dst a (.iface src val)
  else panicString ("reflectlite.Set: value of type "++(←Rtype.spelt src)++ " is not assignable to type "++(←Rtype.spelt dst))
  pure (.tuple #[])):=rfl
theorem Tryz.parts25a (a:Addr) (w:World):(ReflectliteValue.parts (.agg #[.pointer (some ⟨13,60,none⟩),.pointer (some a),.int .u64 386])).run Tryz.prog w= .ok (some (60,a,386)) w:=by kernel_rfl
theorem Tryz.parts25 (a:Addr) (w:World):(ReflectliteValue.parts (.agg #[.pointer (some ⟨13,60,none⟩),.pointer (some a),.int .u64 130])).run Tryz.prog w= .ok (some (60,a,130)) w:=by kernel_rfl
theorem Tryz.direct25 (w:World):(Rtype.directlyAssignable 60 60).run Tryz.prog w= .ok true w:=by kernel_rfl
theorem Tryz.set25 (ta b:Addr) (e:Int) (old:Value) (W:World) (hb:W.cell? b=some (.int .i64 e)) (ht:W.cell? ta=some old) (hf:W.frozen? ta=false):
  (ReflectliteValue.set #[.agg #[.pointer (some ⟨13,60,none⟩),.pointer (some ta),.int .u64 386],.agg #[.pointer (some ⟨13,60,none⟩),.pointer (some b),.int .u64 130]]).run Tryz.prog W
   = .ok (.tuple #[]) (W.setCell ta (.int .i64 e)):=by
 rw[rls]
 simp only[Sem.run_bind,Tryz.parts25a,Tryz.parts25,Result.andThen]
 simp[ReflectliteValue.flagAddr,loadVar,isAgg,underlying,Tryz.underlying60,hb,Result.andThen,Tryz.direct25,storeVar,Value.cells,storeCells,Addr.add]
 rw[run_store Tryz.prog W ta _ _ (by rfl)]
 simp[ht,hf]

set_option maxHeartbeats 4000000 in
theorem as_hit (e:Int) (t:Addr) (old:Value) (w:World) (hg:w.cell? ⟨1,0,none⟩=some (.iface 233 (.agg #[.pointer (some ⟨13,26,none⟩)]))) (ht0:w.cell? t=some old) (hf0:w.frozen? t=false):
  Calls Tryz.prog 83 #[.iface 60 (.int .i64 e),.iface 159 (.pointer (some t))] w fun ev w'=>ev= .returned (.bool true)∧w'=((((w.alloc (.cells #[.pointer (some t)] 159)).alloc (.cells #[.pointer (some ⟨13,159,none⟩),.pointer (some ⟨w.heap.size,0,none⟩),.int .u64 150] 190)).alloc (.cells #[.pointer (some ⟨13,159,none⟩),.pointer (some ⟨w.heap.size,0,none⟩),.int .u64 150] 190)).alloc (.cells #[.int .i64 e] 60)).setCell t (.int .i64 e):=by
 have h6:= @run_callFunc_extern Tryz.prog 112 _ (fun args=>ReflectliteValue.unpack (args.getD 0 (.tuple #[]))) Tryz.func112 (by kernel_rfl) (by kernel_rfl) (by kernel_rfl) (by kernel_rfl)
 have h7:= @run_callFunc_extern Tryz.prog 113 _ (ReflectliteValue.methodAny (ReflectliteValue.valueError "reflectlite.Value.Type" 0) (fun t _ _ _=>ReflectliteType.toType t)) Tryz.func113 (by kernel_rfl) (by kernel_rfl) (by kernel_rfl) (by kernel_rfl)
 have h8:= @run_callFunc_extern Tryz.prog 114 _ (ReflectliteValue.method (ReflectliteValue.valueError "reflectlite.Value.IsNil" 0) ReflectliteValue.isNil) Tryz.func114 (by kernel_rfl) (by kernel_rfl) (by kernel_rfl) (by kernel_rfl)
 have h27:= @run_callFunc_extern Tryz.prog 251 _ (ReflectliteType.abiMethod fun t=>do pure (.int .u8 (←Rtype.kind t))) Tryz.func251 (by kernel_rfl) (by kernel_rfl) (by kernel_rfl) (by kernel_rfl)
 have h37:= @run_callFunc_extern Tryz.prog 262 _ (ReflectliteType.method ReflectliteType.elem) Tryz.func262 (by kernel_rfl) (by kernel_rfl) (by kernel_rfl) (by kernel_rfl)
 have h38:= @run_callFunc_extern Tryz.prog 263 _ (ReflectliteType.relation "Implements" ReflectliteType.implements_) Tryz.func263 (by kernel_rfl) (by kernel_rfl) (by kernel_rfl) (by kernel_rfl)
 have h10:= @run_callFunc_extern Tryz.prog 155 _ ReflectliteType.typeOf Tryz.func155 (by kernel_rfl) (by kernel_rfl) (by kernel_rfl) (by kernel_rfl)
 have h35:= @run_callFunc_extern Tryz.prog 260 _ (ReflectliteType.relation "AssignableTo" ReflectliteType.assignableTo) Tryz.func260 (by kernel_rfl) (by kernel_rfl) (by kernel_rfl) (by kernel_rfl)
 have h11:= @run_callFunc_extern Tryz.prog 156 _ (ReflectliteValue.method (ReflectliteValue.valueError "reflectlite.Value.Elem" 0) ReflectliteValue.elem) Tryz.func156 (by kernel_rfl) (by kernel_rfl) (by kernel_rfl) (by kernel_rfl)
 have h12:= @run_callFunc_extern Tryz.prog 157 _ ReflectliteValue.set Tryz.func157 (by kernel_rfl) (by kernel_rfl) (by kernel_rfl) (by kernel_rfl)
 have tO:= Tryz.typeOf25
 have mA:= Tryz.methodAssignableTo
 have a25:= Tryz.assignable25
 have v25:= Tryz.valueOf25
 have f6:= Tryz.valueOf27
 have f7:= Tryz.type27
 have mK:= Tryz.methodKind
 have mE:= Tryz.methodElem
 have mI:= Tryz.methodImplements
 have k27:= Tryz.kind27
 have k25:= Tryz.kind25
 have e27:= Tryz.elem27
 have i25:= Tryz.implements25
 have n8:= Tryz.isNil27 ⟨w.heap.size,0,none⟩ t ((w.alloc (.cells #[.pointer (some t)] 159)).alloc (.cells #[.pointer (some ⟨13,159,none⟩),.pointer (some ⟨w.heap.size,0,none⟩),.int .u64 150] 190)) (by simp)
 have hlt: 1<w.heap.size:=World.block_lt_of_cell? w _ hg
 have hg2:((w.alloc (.cells #[.pointer (some t)] 159)).alloc (.cells #[.pointer (some ⟨13,159,none⟩),.pointer (some ⟨w.heap.size,0,none⟩),.int .u64 150] 190)).cell? ⟨1,0,none⟩=some (.iface 233 (.agg #[.pointer (some ⟨13,26,none⟩)])):=by
  rw[World.cell?_alloc_lt _ _ ⟨1,0,none⟩ (by first|(simp;done)|(simp;omega)),World.cell?_alloc_lt _ _ ⟨1,0,none⟩ hlt];exact hg
 have htl:t.block<w.heap.size:=by
  rcases Nat.lt_or_ge t.block w.heap.size with h|h
  ·exact h
  ·simp[World.cell?,Array.getElem?_eq_none h] at ht0
 have el:= Tryz.elemV27 ⟨w.heap.size,0,none⟩ t (((w.alloc (.cells #[.pointer (some t)] 159)).alloc (.cells #[.pointer (some ⟨13,159,none⟩),.pointer (some ⟨w.heap.size,0,none⟩),.int .u64 150] 190)).alloc (.cells #[.pointer (some ⟨13,159,none⟩),.pointer (some ⟨w.heap.size,0,none⟩),.int .u64 150] 190)) (by rw[World.cell?_alloc_lt _ _ ⟨w.heap.size,0,none⟩ (by simp;omega)];simp)
 have st:= Tryz.set25 t ⟨w.heap.size+1+1+1,0,none⟩ e old ((((w.alloc (.cells #[.pointer (some t)] 159)).alloc (.cells #[.pointer (some ⟨13,159,none⟩),.pointer (some ⟨w.heap.size,0,none⟩),.int .u64 150] 190)).alloc (.cells #[.pointer (some ⟨13,159,none⟩),.pointer (some ⟨w.heap.size,0,none⟩),.int .u64 150] 190)).alloc (.cells #[.int .i64 e] 60))
  (by rw[World.cell?_alloc_at _ _ _ _ (by simp)];rfl)
  (by rw[World.cell?_alloc_lt _ _ t (by simp;omega),World.cell?_alloc_lt _ _ t (by simp;omega),World.cell?_alloc_lt _ _ t (by simp;omega),World.cell?_alloc_lt _ _ t htl];exact ht0)
  (by rw[World.frozen?_alloc_old _ _ t (by simp;omega),World.frozen?_alloc_old _ _ t (by simp;omega),World.frozen?_alloc_old _ _ t (by simp;omega),World.frozen?_alloc_old _ _ t (Nat.ne_of_lt htl)];exact hf0)
 go_enter Tryz.func83,Tryz.ntmps83
 go_wp2
 refine wp_loop_rounds 1 ?_
 rw[rounds_succ]
 go_wp2
 go_ret
 exact⟨rfl,rfl⟩

def HanW (w:World):Prop:=w.cell? ⟨1,0,none⟩=some (.iface 233 (.agg #[.pointer (some ⟨13,26,none⟩)]))
theorem HanW.below {w w':World} (h:HanW w) (hb:Below w.heap.size w w'):HanW w':=cK h hb
theorem HanW.alloc {w:World} (h:HanW w) (o:Obj):HanW (w.alloc o):=h.below (bA w o)
theorem HanW.drewN {w:World} (h:HanW w) (n:Nat):HanW (w.drewN n):=h

set_option maxHeartbeats 1000000 in
theorem told_nil (w:World):Calls Tryz.prog 54 #[.nilIface] w fun e w'=>e= .returned (.int .i64 0)∧Below w.heap.size w w':=by
 go_enter Tryz.func54,Tryz.ntmps54
 go_wp2
 go_ret
 exact⟨rfl,by repeat(first|exact Below.refl _ _|exact bA _ _)⟩
set_option maxHeartbeats 1000000 in
theorem told_errno (n:Int) (w:World) (hg:HanW w):Calls Tryz.prog 54 #[.iface 60 (.int .i64 n)] w fun e w'=>e= .returned (.int .i64 n)∧Below w.heap.size w w':=by
 have hlt:=World.block_lt_of_cell? w _ hg
 have C:=lH (as_hit n ⟨w.heap.size,0,none⟩ (.int .i64 0) (w.alloc (.cells #[.int .i64 0] 60)) (cK hg (bA _ _)) (by simp) (by simp))
 go_enter Tryz.func54,Tryz.ntmps54
 go_wp2_with fail
 refine(C.out).mono ?_
 rintro e w' ⟨rfl,rfl⟩
 go_wp2
 go_ret
 refine⟨rfl,?_⟩
 exact bT (bT (bT (bT (bA w _) (bA _ _)) (bA _ _)) (bA _ _)) (bA _ _)

inductive ErrNo:Value→Int→Prop
 |nil:ErrNo .nilIface 0
 |no (n:Int):ErrNo (.iface 60 (.int .i64 n)) n
theorem told_any {v:Value} {n:Int} (h:ErrNo v n) (w:World) (hg:HanW w):Calls Tryz.prog 54 #[v] w fun e w'=>e= .returned (.int .i64 n)∧Below w.heap.size w w':=by
 cases h
 ·exact told_nil w
 ·exact told_errno n w hg
set_option maxHeartbeats 1000000 in
theorem sameErr_any {v:Value} {n:Int} (m:Int) (h:ErrNo v n) (w:World) (hg:HanW w):Calls Tryz.prog 24 #[v,.int .i64 m] w fun e w'=>e= .returned (.bool (n==m))∧Below w.heap.size w w':=by
 have C:=lH fun w hg=>told_any h w hg
 clear h
 go_enter Tryz.func24,Tryz.ntmps24
 go_wp2_with fail
 refine(C.out _ (by exact hg)).mono ?_
 rintro e w' ⟨rfl,hb⟩
 go_wp2
 go_ret
 exact⟨rfl,hb⟩
theorem sameErr_yes {v:Value} {n:Int} (h:ErrNo v n) (w:World) (hg:HanW w):Calls Tryz.prog 24 #[v,.int .i64 n] w fun e w'=>e= .returned (.bool true)∧Below w.heap.size w w':=by
 have c:=sameErr_any n h w hg
 simpa using c
theorem laidMet_over {P:Program} {W:World} {L:List (String×DataW Unit)} (args:Array Value) (hf:W.layFits P L []=true) (hi:W.layIfaces P L (W.layVars P L)=true):
  laidMet P L ((W.layVars P L).forCall (fun _ _=>0) ⟨#[],args,[]⟩).memory:=by
 have e1:(L.filter fun x=>(L.map (·.1)).contains x.1)=L:=List.filter_eq_self.2 fun x hx=>List.contains_iff_mem.2 (List.mem_map.2 ⟨x,hx,rfl⟩)
 have e2:(L.filter fun x=>!(L.map (·.1)).contains x.1)= []:=List.filter_eq_nil_iff.2 fun x hx=>by rw[List.contains_iff_mem.2 (List.mem_map.2 ⟨x,hx,rfl⟩)];simp
 have h:laidMet P L (W.layVars P L):=laidMet_layVars (w0:=W) (L.map (·.1)) [] (by rw[e1]) (by rw[e1];exact hf) (by rw[e1];exact hi) (by rw[e2];exact LaidIn.none)
 exact h.of_heap (by simp[World.memory,World.forCall,Input.heap])
open Go.RowKit

theorem hanEt: Tryz.prog.globalNamed "errors.errorType"=some 1:=by kernel_rfl
theorem hanRt:(Tryz.prog.cutTypes.find? (·.1== "internal/reflectlite.rtype")).map (·.2)=some 233:=by kernel_rfl
theorem hanOne:((List.range 341).filter fun t=> Tryz.prog.rowNamed t [101,114,114,111,114])= [26]:=by kernel_rfl
theorem hanSize: Tryz.prog.types.size= 341:=by kernel_rfl
theorem hanW_of {L:List (String×DataW Unit)} {W:World} (hm:("errors.errorType",Rows.laid_errors_errorType)∈L) (h:laidMetH Tryz.prog L W):HanW W:=by
 have hf:("errors.errorType",Rows.laid_errors_errorType)∈L.filter (fun x=>x.snd.handleName?.isSome):=List.mem_filter.2 ⟨hm,rfl⟩
 unfold laidMetH at h
 split at h
 ·rename_i hE;rw[hE] at hf;cases hf
 rename_i hE
 rw[hE] at hf
 obtain⟨name,u,ty,e1,e2,e3,e4,e5⟩:=h.2 _ hf
 have en:name= [101,114,114,111,114]:=(Option.some.inj e1).symm
 subst en
 obtain rfl:=Option.some.inj (hanRt.symm.trans e2)
 have hm:ty∈(List.range 341).filter fun t=> Tryz.prog.rowNamed t [101,114,114,111,114]:=List.mem_filter.2 ⟨List.mem_range.2 (by rw[←hanSize];exact e3),e4⟩
 rw[hanOne] at hm
 obtain rfl:=List.mem_singleton.1 hm
 have hh:typeHandle Tryz.prog 26= .pointer (some ⟨13,26,none⟩):=by kernel_rfl
 rw[hh] at e5
 simpa[HanW] using World.var?_cell hanEt e5 0
end Go.Proofs.YtldbfkccieipjaaGreatDoor
