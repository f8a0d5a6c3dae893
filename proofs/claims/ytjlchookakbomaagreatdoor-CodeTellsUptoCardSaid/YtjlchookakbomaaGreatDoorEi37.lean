/- A start for rows that list a pinned table and a handle: the door's own run, and the data laid over it by the function. -/
import Derived.Test.YtjlchookakbomaaGreatDoorEi36
import Derived.Test.YtjlchookakbomaaGreatDoorEi35
import Derived.Test.YtjlchookakbomaaGreatDoorEi23
import Derived.Test.YtjlchookakbomaaGreatDoorEi24
import Derived.OpenShut
import Derived.Deep.Slices
import Derived.Deep.Fields
import Derived.ChangeSame
import Derived.MakeChecks
import Derived.ProofKit
import Derived.Lib.SmallJoins
import Derived.Stop.Joined
import Derived.SevenTiedAt
import Derived.LaidLaws
import Derived.Lay
set_option maxHeartbeats 16000000
set_option maxRecDepth 100000
namespace Go.Proofs.YtjlchookakbomaaGreatDoor
open Go.RowKit Ms

theorem zIR (a:Ag) (w:World):Calls Tryz.prog 41 #[.agg #[.int .i64 a.co,.int .i64 a.sc]] w fun e w'=>e= .returned (.bool (badA a))∧Below w.heap.size w w':=by
 by_cases h:Dcm.okD a.co a.sc
 ·rw[show badA a=false by unfold badA;simp[h]]
  exact zMQ _ _ w h
 rw[show badA a=true by unfold badA;simp[h]]
 exact zLl _ _ w h
theorem SlAt.take {α:Type} {m:Nat} {C:World→Nat→Nat→α→Prop} {w:World} {a:Option Addr} {n c:Nat} {l:List α} (h:SlAt m C w (.slice a n c) l) (i:Nat) (hi:i≤l.length):SlAt m C w (.slice a i c) (l.take i):=by
 by_cases h0:i=0
 ·subst h0
  exact .inl ⟨rfl,_,_,rfl⟩
 rcases h with⟨rfl,_,_,_⟩|⟨b,off,cap,e,h2,h3,h4,h5⟩
 ·simp at hi;exact absurd hi h0
 injection e with e1 e2 e3
 subst e1 e3
 have hl:(l.take i).length=i:=by rw[List.length_take];omega
 refine .inr ⟨b,off,c,by rw[hl],by omega,by omega,h4,fun j x hx=>h5 j x ?_⟩
 have hj:j<(l.take i).length:=(List.getElem?_eq_some_iff.1 hx).1
 rwa [List.getElem?_take,if_pos (by omega)] at hx

theorem zIS {f:Nat} {v va:Value} {m:List Nd} {args:List Ag} (w:World) (h:MsgAt f w v m) (hl:m.length≤2000000) (ha:ArgsAt w va args) (hal:args.length≤2000000) (hna: ∀a∈args,a.name.length≤4000000000):
  Calls Tryz.prog 20 #[v,va] w fun e w'=>e= .returned (.int .i64 (fitE f m args))∧Below w.heap.size w w':=by
 have CM:=lH fun wx (hb:Below w.heap.size w wx)=>zIQ (f:=f) (v:=v) (m:=m) wx (zAi h hb) hl
 have HE:=lH (show fitE f m args=if namE f m≠0 then namE f m else if argE [] args≠0 then argE [] args else askE args (allN f [] m) from rfl)
 have HC:=lH (fun (h0:namE f m=0)=>zBa (f:=f) (m:=m) (zCe h0).1)
 have CA:=lH fun (wx:World) (hb:Below w.heap.size w wx) (hc:cnt f m≤60)=>zFx f v m w wx (.slice none 0 0) [] h hl ⟨rfl,.inl ⟨rfl,rfl⟩⟩ hb (by simp;omega)
 have CS:=lH fun (wx:World) (n:Need) (hn:n∈allN f [] m) (hb:Below w.heap.size w wx)=>(show Calls Tryz.prog 44 #[v,.string ⟨n.1.toArray⟩] wx fun e w'=>e= .returned (.bool n.2.2)∧Below wx.heap.size wx w' from by rw[←zEb (zCJ f m) hn,←zHn];exact zEs f v m n.1 wx (zAi h hb) hl)
 have HLL:=lH (fun h0=>show(allN f [] m).length≤60 from Nat.le_trans (by simpa using zBB f [] m) (zBa (f:=f) (m:=m) (zCe h0).1))
 obtain⟨a,n,c,rfl⟩:=h.isSlice
 obtain⟨A,cap,rfl,_,hel⟩:=ha.spread
 have hcap:args.length≤cap∨args.length=0:=by
  rcases ha with⟨e,_⟩|⟨_,_,_,e,_,q,_,_⟩
  ·exact .inr (by rw[e];rfl)
  injection e with _ _ e;exact .inl (by omega)
 have HX:=lH hel
 have CN:=lH fun (x:Ag) (hx:x∈args) (wx:World)=>zC6 x.name wx (hna x hx)
 have CT:=lH fun (i:Nat) (hi:i≤args.length) (t:List UInt8) (wx:World) (hb:Below w.heap.size w wx)=>zBp (args.take i) t _ wx (zAv (SlAt.take ha i hi) hb) (by rw[List.length_take];omega)
 have CF:=lH fun (t:List UInt8) (wx:World) (hb:Below w.heap.size w wx)=>zBp args t _ wx (zAv ha hb) hal
 clear h hl ha hel hna
 generalize namE f m=NE at*
 generalize allN f [] m=AL at*
 generalize fitE f m args=FE at*
 by_cases h0:NE=0
 case neg=>
  obtain rfl:FE=NE:=by rw[HE.out,if_pos h0]
  have b0:(FE !=0)=true:=by rw[bne,zAe h0];rfl
  clear h0 HE CN HX CT CF CS CA HC HLL
  generalize hN:args.length=N at*
  go_enter Tryz.func20,Tryz.ntmps20
  go_wp2_with fail
  refine(CM.out w (Below.refl _ _)).mono ?_
  rintro e w1 ⟨rfl,hb⟩
  have W1:=lH hb
  clear hb
  go_wp2_with fail
  refine(CM.out w1 W1.out).mono ?_
  rintro e w2 ⟨rfl,hb⟩
  have W2:=lH (bT W1.out hb)
  clear hb CM
  go_wp2_with fail
  go_ret
  exact⟨rfl,W2.out⟩
 subst h0
 have hcn:=HC.out rfl
 have hll:=HLL.out rfl
 have HE:=lH (show FE=if argE [] args≠0 then argE [] args else askE args AL from HE.out)
 clear HC HLL
 obtain⟨AE,hAE⟩: ∃AE,AE=argE [] args:=⟨_,rfl⟩
 rw[←hAE] at HE
 have HAE:=lH (show argE (args.take 0) (args.drop 0)=AE by rw[hAE];rfl)
 clear hAE
 generalize hN:args.length=N at*
 go_enter Tryz.func20,Tryz.ntmps20
 go_wp2_with fail
 refine(CM.out w (Below.refl _ _)).mono ?_
 rintro e w1 ⟨rfl,hb⟩
 have W1:=lH hb
 clear hb CM
 go_wp2_with fail
 go_loopw [5] (fun vi wr=> ∃i:Nat,vi= .int .i64 (i:Int)∧i≤N∧Hid (argE (args.take i) (args.drop i)=AE)∧Hid (Below w.heap.size w wr)) (fun vi _=>N-(intOf vi).toNat)
 case atStart=>exact⟨0,rfl,Nat.zero_le _,HAE,W1⟩
 case round=>
  obtain⟨i,rfl,hi,HS,HB⟩:=hrel
  clear HAE W1
  by_cases hlt:i<N
  ·have hi':(i:Int)<(N:Int):=by omega
   have hi0:(0:Int)≤(i:Int):=by omega
   have hcc:N≤cap:=by omega
   have hic:(i:Int)≤(cap:Int):=by omega
   obtain⟨x,hxi⟩: ∃x,args[i]?=some x:=⟨args[i]'(by omega),List.getElem?_eq_getElem (by omega)⟩
   obtain⟨b,off,rfl,p0,p1,p2,p3,p4⟩:=HX.out i x hxi
   have g0:=cK p0 HB.out
   have wi:IntKind.i64.wrap ((i:Int)+1)=(i:Int)+1:=IntWalk.i64_in _ (by omega)
   have CNh:=lH (CN.out x (List.mem_of_getElem? hxi))
   have HT:=lH (zBy hxi).2
   have hst:=HS.out
   rw[(zBy hxi).1,zFs] at hst
   have CD:=lH (zIR x)
   clear HS hxi CN CA CS CF HX
   generalize badA x=Z at*
   obtain⟨T,bn,co,sc,tx⟩:=x
   have HST:=lH (show(if !nameB T then 3 else if bn&&Z then 1 else if hasA (args.take i) T then 5 else argE (args.take i++ [⟨T,bn,co,sc,tx⟩]) (args.drop (i+1)))=AE from hst)
   clear hst
   generalize nameB T=NB at*
   go_wp2_with fail
   refine(CNh.out _).mono ?_
   rintro e w3 ⟨rfl,hb⟩
   have W3:=lH (HB.out.trans (hb.mono HB.out.size))
   clear hb CNh HB g0
   cases NB with
   |false=>
    obtain rfl:3=AE:=HST.out
    obtain rfl:FE=3:=HE.out
    clear CD HT CT
    go_wp2_with fail
    go_ret
    exact⟨rfl,W3.out⟩
   |true=>
    have z1:w3.cell? ⟨b,off+i*5+1,none⟩=some (.bool bn):=cK p1 W3.out
    cases bn with
    |false=>
     have HS:=lH (show(if hasA (args.take i) T then 5 else argE (args.take i++ [⟨T,false,co,sc,tx⟩]) (args.drop (i+1)))=AE from HST.out)
     clear HST CD
     have y0:World.cell? w3 ⟨b,off+i*5,none⟩=some (.string ⟨T.toArray⟩):=cK p0 W3.out
     have CQ:=lH fun n=>CT.out i (by omega) T (World.drewN w3 n) (zAb W3.out n)
     have HI:=zEC (args.take i) T
     clear CT
     generalize idxA (args.take i) T=I at*
     cases hH:hasA (args.take i) T with
     |true=>
      have hst:=HS.out
      rw[hH] at hst
      obtain rfl:5=AE:=hst
      obtain rfl:FE=5:=HE.out
      have d0:decide (0≤I)=true:=decide_eq_true (by rw[hH] at HI;simp at HI;omega)
      clear HS HI
      go_wp2_with fail
      go_quiet (first|(go_at_call 42;exact Calls.quiet_of_same (CQ.out _)))
      go_wp2_with fail
      go_ret
      exact⟨rfl,zAb W3.out _⟩
     |false=>
      have hst:=HS.out
      rw[hH] at hst
      have HS2:=lH (show argE (args.take (i+1)) (args.drop (i+1))=AE by rw[HT.out];exact hst)
      have d0:decide (0≤I)=false:=decide_eq_false (by have:=HI.2 hH;omega)
      clear hst HS HI
      go_wp2_with fail
      go_quiet (first|(go_at_call 42;exact Calls.quiet_of_same (CQ.out _)))
      go_wp2_with fail
      go_roundw
      case rel=>exact⟨i+1,by go_num,by omega,HS2,lH (zAb W3.out _)⟩
      case measure=>simp[intOf];omega
    |true=>
     have z2:w3.cell? ⟨b,off+i*5+2,none⟩=some (.int .i64 co):=cK p2 W3.out
     have z3:w3.cell? ⟨b,off+i*5+3,none⟩=some (.int .i64 sc):=cK p3 W3.out
     have CDh:=lH (CD.out w3)
     clear CD
     go_wp2_with fail
     refine CDh.out.mono ?_
     rintro e w4 ⟨rfl,hb⟩
     have W4:=lH (W3.out.trans (hb.mono W3.out.size))
     clear hb CDh W3 z1 z2 z3
     cases Z with
     |true=>
      obtain rfl:1=AE:=HST.out
      obtain rfl:FE=1:=HE.out
      clear HT CT
      go_wp2_with fail
      go_ret
      exact⟨rfl,W4.out⟩
     |false=>
      have HS:=lH (show(if hasA (args.take i) T then 5 else argE (args.take i++ [⟨T,true,co,sc,tx⟩]) (args.drop (i+1)))=AE from HST.out)
      clear HST
      have y0:World.cell? w4 ⟨b,off+i*5,none⟩=some (.string ⟨T.toArray⟩):=cK p0 W4.out
      have CQ:=lH fun n=>CT.out i (by omega) T (World.drewN w4 n) (zAb W4.out n)
      have HI:=zEC (args.take i) T
      clear CT
      generalize idxA (args.take i) T=I at*
      cases hH:hasA (args.take i) T with
      |true=>
       have hst:=HS.out
       rw[hH] at hst
       obtain rfl:5=AE:=hst
       obtain rfl:FE=5:=HE.out
       have d0:decide (0≤I)=true:=decide_eq_true (by rw[hH] at HI;simp at HI;omega)
       clear HS HI
       go_wp2_with fail
       go_quiet (first|(go_at_call 42;exact Calls.quiet_of_same (CQ.out _)))
       go_wp2_with fail
       go_ret
       exact⟨rfl,zAb W4.out _⟩
      |false=>
       have hst:=HS.out
       rw[hH] at hst
       have HS2:=lH (show argE (args.take (i+1)) (args.drop (i+1))=AE by rw[HT.out];exact hst)
       have d0:decide (0≤I)=false:=decide_eq_false (by have:=HI.2 hH;omega)
       clear hst HS HI
       go_wp2_with fail
       go_quiet (first|(go_at_call 42;exact Calls.quiet_of_same (CQ.out _)))
       go_wp2_with fail
       go_roundw
       case rel=>exact⟨i+1,by go_num,by omega,HS2,lH (zAb W4.out _)⟩
       case measure=>simp[intOf];omega
  have hi': ¬(i:Int)<(N:Int):=by omega
  have hst:=HS.out
  rw[List.drop_of_length_le (by omega)] at hst
  obtain rfl:0=AE:=hst
  have HE2:=lH (show askE args (AL.drop 0)=FE from HE.out.symm)
  clear HE HS CN CT
  go_wp2_with fail
  refine(CA.out wr HB.out hcn).mono ?_
  rintro e w2 ⟨u,rfl,hr,hb⟩
  have W2:=lH hb
  obtain⟨ua,uc,eu,_,hel⟩:=(zDF (l:=AL.map ofN) (by rw[List.length_map];exact hr)).spread
  rw[List.length_map] at eu
  subst eu
  have HR:=lH hr
  have hcapu:AL.length≤uc∨AL.length=0:=by
   rcases hr.2 with⟨e,h0⟩|⟨g,cap,cur,e,_,q,_⟩
   ·exact .inr h0
   injection e with _ _ e;exact .inl (by omega)
  have HX3:=lH hel
  clear hb CA hr hel HB
  generalize hM:AL.length=M at*
  go_wp2_with fail
  go_loopw [7] (fun vk wx=> ∃k:Nat,vk= .int .i64 (k:Int)∧k≤M∧Hid (askE args (AL.drop k)=FE)∧Hid (Below w2.heap.size w2 wx)) (fun vk _=>M-(intOf vk).toNat)
  case atStart=>exact⟨0,rfl,Nat.zero_le _,HE2,lH (Below.refl _ _)⟩
  case round=>
   obtain⟨k,rfl,hk,HS,HB⟩:=hrel
   clear HE2
   have WB:=lH (W2.out.trans (HB.out.mono W2.out.size))
   by_cases hltk:k<M
   ·have hk':(k:Int)<(M:Int):=by omega
    have hccu:M≤uc:=by omega
    obtain⟨x,hxk⟩: ∃x,AL[k]?=some x:=⟨AL[k]'(by omega),List.getElem?_eq_getElem (by omega)⟩
    obtain⟨b,off,rfl,p0,p1,_⟩:=HX3.out k (ofN x) (by rw[List.getElem?_map,hxk];rfl)
    have g0:World.cell? wr ⟨b,off+k*5,none⟩=some (.string ⟨x.1.toArray⟩):=cK p0 HB.out
    have g1:World.cell? wr ⟨b,off+k*5+1,none⟩=some (.bool x.2.1):=cK p1 HB.out
    have wk:IntKind.i64.wrap ((k:Int)+1)=(k:Int)+1:=IntWalk.i64_in _ (by omega)
    have CSh:=lH fun wx (hb:Below w.heap.size w wx)=>CS.out wx x (List.mem_of_getElem? hxk) hb
    have hst:=HS.out
    rw[(zBy hxk).1,zDa] at hst
    clear HS p0 p1 hxk CS HX3
    obtain⟨T,bn,bt⟩:=x
    have CFh:=lH (CF.out T wr WB.out)
    rcases zE7 args T with⟨_,hf,hI⟩|⟨j,y,hy,hf,hI,hj⟩
    ·rw[hf] at hst
     rw[hI] at CFh
     obtain rfl:2=FE:=hst
     clear hf hI CF HX CSh
     go_wp2_with fail
     refine CFh.out.mono ?_
     rintro e w3 ⟨rfl,rfl⟩
     go_wp2_with fail
     go_ret
     exact⟨rfl,WB.out⟩
    rw[hf] at hst
    rw[hI] at CFh
    obtain⟨bb,oo,eA,q0,q1,_⟩:=HX.out j y hy
    have j1:=cK q1 WB.out
    rw[eA] at CFh⊢
    obtain⟨y1,yn,y3,y4,y5⟩:=y
    have j1:World.cell? wr ⟨bb,oo+j*5+1,none⟩=some (.bool yn):=j1
    have HST:=lH (show(if (bn&&!yn)||(bt&&yn) then 7 else askE args (AL.drop (k+1)))=FE from hst)
    have hjc:j<cap:=by omega
    have hj0: ¬(j:Int)<0:=by omega
    have hj1:(j:Int)<(N:Int):=by omega
    have dj:decide ((j:Int)<0)=false:=decide_eq_false hj0
    clear hst hf hI q0 q1 hy eA CF HX
    go_wp2_with fail
    refine CFh.out.mono ?_
    rintro e w3 ⟨rfl,rfl⟩
    have CSk:=lH (CSh.out w3 WB.out)
    clear CFh CSh
    cases yn with
    |false=>
     cases bn with
     |true=>
      obtain rfl:7=FE:=HST.out
      go_wp2_with fail
      go_ret
      exact⟨rfl,WB.out⟩
     |false=>
      have HS2:=lH (show askE args (AL.drop (k+1))=FE from by have:=HST.out;rwa [Bool.and_false] at this)
      clear HST
      go_wp2_with fail
      go_roundw
      case rel=>exact⟨k+1,by go_num,by omega,HS2,HB⟩
      case measure=>simp[intOf];omega
    |true=>
     have HST2:=lH (show(if bt then 7 else askE args (AL.drop (k+1)))=FE by have:=HST.out;rwa [Bool.not_true,Bool.and_false,Bool.false_or,Bool.and_true] at this)
     clear HST
     cases bn with
     |true=>
      go_wp2_with fail
      refine CSk.out.mono ?_
      rintro e w4 ⟨rfl,hb⟩
      have B4:=lH (HB.out.trans (hb.mono HB.out.size))
      have W4:=lH (WB.out.trans (hb.mono WB.out.size))
      clear hb CSk
      cases bt with
      |true=>
       obtain rfl:7=FE:=HST2.out
       go_wp2_with fail
       go_ret
       exact⟨rfl,W4.out⟩
      |false=>
       have HS2:=lH (show askE args (AL.drop (k+1))=FE from HST2.out)
       clear HST2
       go_wp2_with fail
       go_roundw
       case rel=>exact⟨k+1,by go_num,by omega,HS2,B4⟩
       case measure=>simp[intOf];omega
     |false=>
      go_wp2_with fail
      refine CSk.out.mono ?_
      rintro e w4 ⟨rfl,hb⟩
      have B4:=lH (HB.out.trans (hb.mono HB.out.size))
      have W4:=lH (WB.out.trans (hb.mono WB.out.size))
      clear hb CSk
      cases bt with
      |true=>
       obtain rfl:7=FE:=HST2.out
       go_wp2_with fail
       go_ret
       exact⟨rfl,W4.out⟩
      |false=>
       have HS2:=lH (show askE args (AL.drop (k+1))=FE from HST2.out)
       clear HST2
       go_wp2_with fail
       go_roundw
       case rel=>exact⟨k+1,by go_num,by omega,HS2,B4⟩
       case measure=>simp[intOf];omega
   have hk': ¬(k:Int)<(M:Int):=by omega
   have hst:=HS.out
   rw[List.drop_of_length_le (by omega)] at hst
   obtain rfl:0=FE:=hst
   go_wp2_with fail
   go_ret
   exact⟨rfl,WB.out⟩
open Go.RowKit Ms
open Dcm (okD)
theorem zIT {f:Nat} {v va:Value} {m:List Nd} {args:List Ag} (lang t0 t1 t2 t3 t4:List UInt8) (b:Bool) (w:World) (h:MsgAt f w v m) (hl:m.length≤2000000) (ha:ArgsAt w va args) (hal:args.length≤2000000) (hna: ∀a∈args,a.name.length≤4000000000) (htx: ∀a∈args,a.txt.length≤2000000)
  (hS:SetFine t0 t1 t2 t3 t4) (CL: ∀w:World,Calls Tryz.prog 21 #[.string ⟨lang.toArray⟩] w fun e w'=>e= .returned (.tuple #[setV t0 t1 t2 t3 t4,.bool b])∧Below w.heap.size w w'):
  Calls Tryz.prog 10 #[v,.string ⟨lang.toArray⟩,va] w fun e w'=>e= .returned (.tuple #[.string ⟨(sayT [t0,t1,t2,t3,t4] f m args).toArray⟩,.int .i64 (sayE [t0,t1,t2,t3,t4] f m args)])∧Below w.heap.size w w':=by
 have CF:=lH (zIS w h hl ha hal hna)
 obtain⟨v1,v2,v3,rfl⟩:=h.isSlice
 obtain⟨u1,u2,u3,rfl⟩:=ha.isSlice
 unfold sayT sayE
 by_cases hF:fitE f m args=0
 ·rw[if_pos hF,if_pos hF]
  rw[hF] at CF
  obtain⟨hwf,hae,hcn⟩:=zI7 hF
  obtain⟨hot,hha⟩:=zMR hF
  have CS:=lH fun (wx:World) (hb:Below w.heap.size w wx)=>zJX t0 t1 t2 t3 t4 args _ hS (zFt hae htx) hal f _ m wx 0 0 (zAi h hb) hl hwf hot hha (zAv ha hb) (by decide) (Nat.le_trans (Nat.mul_le_mul_right 4000000 hcn) (by decide))
  rw[show saidM (evS [t0,t1,t2,t3,t4]) (valA args) f 0 0 m=sayO [t0,t1,t2,t3,t4] f m args from rfl] at CS
  have CLh:=lH CL
  unfold setV at CLh
  clear h hl ha hal hna htx hS CL hF hwf hae hcn hot hha
  generalize sayO [t0,t1,t2,t3,t4] f m args=R at*
  go_enter Tryz.func10,Tryz.ntmps10
  go_wp2_with fail
  refine CF.out.mono ?_
  rintro e w1 ⟨rfl,hb⟩
  have W1:=lH hb
  clear hb CF
  go_wp2_with fail
  refine(CLh.out _).mono ?_
  rintro e w2 ⟨rfl,hb⟩
  have W2:=lH (bT (bT W1.out hb) (bA w2 (.cells #[.string ⟨t0.toArray⟩,.string ⟨t1.toArray⟩,.string ⟨t2.toArray⟩,.string ⟨t3.toArray⟩,.string ⟨t4.toArray⟩] 58)))
  have CSi:=lH (CS.out _ W2.out)
  clear hb CLh W1 CS
  go_wp2_with fail
  refine CSi.out.mono ?_
  rintro e w3 ⟨rfl,_,hb⟩
  have W3:=lH (bT W2.out hb)
  clear hb CSi W2
  cases R with
  |none=>
   rw[show((none:Option (List UInt8)).isSome)=false from rfl]
   go_wp2_with fail
   go_ret2
   exact⟨rfl,W3.out⟩
  |some t=>
   rw[show((some t:Option (List UInt8)).isSome)=true from rfl]
   go_wp2_with fail
   go_ret2
   exact⟨rfl,W3.out⟩
 rw[if_neg hF,if_neg hF]
 clear h hl ha hal hna htx hS CL
 generalize fitE f m args=FE at*
 have hF':(FE==0)=false:=beq_eq_false_iff_ne.2 hF
 go_enter Tryz.func10,Tryz.ntmps10
 go_wp2_with fail
 refine CF.out.mono ?_
 rintro e w1 ⟨rfl,hb⟩
 have W1:=lH hb
 clear hb CF
 go_wp2_with fail
 go_ret2
 exact⟨rfl,W1.out⟩
open Go.RowKit Ms
theorem zMZ (n:Int):ErrNo (errN n) n:=by
 unfold errN
 split
 ·rename_i h;subst h;exact .nil
 exact .no n
theorem zD3:msgE 2 appM=0∧cnt 2 appM=4:=by decide+kernel
theorem zGM {F:List Nd→Int} {G:List Nd→Nat}: ∀(L:List (List Nd)),(∀b∈L,F b=(G b:Int))→(L.map F).sum=((L.map G).sum:Nat)
 | [],_=>rfl
 |b::r,h=>by
  rw[List.map_cons,List.map_cons,List.sum_cons,List.sum_cons,h b (List.mem_cons_self ..),zGM r fun c hc=>h c (List.mem_cons_of_mem _ hc)]
  omega
theorem zHU: ∀(d f:Nat) (m:List Nd),(lrg d m).2=false→Dp f m→(lrg d m).1=(cnt f m:Int)
 |0,f,m,h,_=>by
  have e:m= []:=by
   have h':(!m.isEmpty)=false:=h
   cases m with
   |nil=>rfl
   |cons x r=>cases h'
  subst e
  cases f<;>rfl
 |d+1,0,m,_,hd=>by rw[show m= [] from hd];rfl
 |d+1,f+1,m,h,hd=>by
  obtain⟨h1,h2,_⟩:=zDr (F:=lrg d) (bodies m) m.length h
  have e:=zGM (F:=fun b=>(lrg d b).1) (G:=cnt f) (bodies m) fun b hb=>zHU d f b (h1 b hb) (hd b hb)
  have e2:(lrg (d+1) m).1=m.length+((bodies m).map fun b=>(lrg d b).1).sum:=h2
  rw[e2,e,zCF]
  omega
theorem zLy {f:Nat} {m:List Nd} (hd:Dp f m) (h:msgE f m=0):(lrg 6 m).2=false∧(lrg 6 m).1=(cnt f m:Int):=by
 have e:msgE f m=if (lrg 6 m).2 then 4 else chk f false m:=rfl
 rw[e] at h
 have h2:(lrg 6 m).2=false:=by
  cases hx:(lrg 6 m).2
  ·rfl
  rw[hx] at h;cases h
 exact⟨h2,zHU 6 f m h2 hd⟩
theorem zG9 {f:Nat} {v va:Value} {m:List Nd} {args:List Ag} (lang:List UInt8) (w:World) (hw:MW w) (hE:EvW w) (hH:HanW w) (h:MsgAt f w v m) (hl:m.length≤2000000) (ha:ArgsAt w va args) (hal:args.length≤2000000) (hna: ∀a∈args,a.name.length≤4000000000) (htx: ∀a∈args,a.txt.length≤2000000):
  Calls Tryz.prog 3 #[v,.string ⟨lang.toArray⟩,va] w fun e w'=>e= .returned (.bool true)∧Below w.heap.size w w':=by
 obtain⟨t0,t1,t2,t3,t4,b,hS,hb0,CL,CR⟩:=zKU lang
 have C0:=lH fun wx=>zIF wx
 have CM:=lH fun (wx:World) (hb:Below w.heap.size w wx)=>zEj (f:=f) wx (zAi h hb) hl
 have CP:=lH fun (wx:World) (hb:Below w.heap.size w wx)=>zDI wx (hw.below hb) (zAi h hb) hl
 have CA:=lH fun (wx:World) (hb:Below w.heap.size w wx) (v':Value) (h':MsgAt 2 wx v' appM)=>zDI wx (hw.below hb) h' (by decide)
 have S1:=lH fun (ua aa:Option Addr) (n c n' c':Nat) (wx:World) (hb:Below w.heap.size w wx) (hc:CodeAt f wx (.slice ua n c) (.slice aa n' c') m)=>zLd lang t0 t1 t2 t3 t4 b wx (hw.below hb) (hE.below hb) hc (zEh f h) hl (zAv ha hb) hal hna htx hS hb0 CL
 have Q1:=lH fun (wx:World) (hb:Below w.heap.size w wx)=>zIT lang t0 t1 t2 t3 t4 b wx (zAi h hb) hl (zAv ha hb) hal hna htx hS CR
 have LG:=lH fun (wx:World) (hb:Below w.heap.size w wx)=>zFq 6 f v m 0 wx (zAi h hb) hl (by decide) (by decide)
 have LC:=lH (zLy (zEh f h))
 have TO:=lH fun (k:Int) (wx:World) (hb:Below w.heap.size w wx)=>zG4 (zMZ k) wx (hH.below hb)
 obtain⟨SA,hSA⟩: ∃X,X=sayT [t0,t1,t2,t3,t4] f m args:=⟨_,rfl⟩
 obtain⟨EA,hEA⟩: ∃X,X=sayE [t0,t1,t2,t3,t4] f m args:=⟨_,rfl⟩
 rw[←hSA,←hEA] at S1 Q1
 obtain⟨xA,xn,xc,rfl⟩:=h.isSlice
 obtain⟨aA,an,ac,rfl⟩:=ha.isSlice
 clear hw hE hH h hl ha hal hna htx hS hb0 CL CR hSA hEA
 go_enter Tryz.func3,Tryz.ntmps3
 go_wp2_with fail
 refine(C0.out _).mono ?_
 rintro e w1 ⟨va0,rfl,hm0,hb⟩
 have W1:=lH hb
 have HM0:=lH hm0
 obtain⟨pA,pn,pc,rfl⟩:=hm0.isSlice
 clear hb hm0 C0
 go_wp2_with fail
 refine(CA.out w1 W1.out _ HM0.out).mono ?_
 rintro e w2 ⟨A1,n1,c1,A1',n1',c1',rfl,hok1,_,hb⟩
 obtain⟨_,hn1⟩:=hok1 zD3.1
 rw[zD3.2] at hn1
 subst hn1
 rw[zD3.1,show errN 0= .nilIface from rfl]
 have W2:=lH (bT W1.out hb)
 clear hb hok1 CA HM0 W1
 have B3:=lH (Boxed.made w2 #[.slice A1 4 c1,.slice A1' n1' c1'] 26)
 have W3:=lH (bT W2.out (bA w2 (.cells #[.slice A1 4 c1,.slice A1' n1' c1'] 26)))
 go_upto_region 2 with fail
 generalize w2.alloc (.cells #[.slice A1 4 c1,.slice A1' n1' c1'] 26)=w3 at*
 generalize w2.heap.size=p3 at*
 clear W2
 go_wp2_with fail
 refine(CM.out _ W3.out).mono ?_
 rintro e w4 ⟨rfl,hb⟩
 have W4:=lH (bT W3.out hb)
 have B4:=lH (B3.out.below hb)
 clear hb CM W3 B3
 go_wp2_with fail
 refine(CP.out _ W4.out).mono ?_
 rintro e w7 ⟨A2,n2,c2,A2',n2',c2',rfl,hok,hno,hb⟩
 have W7:=lH (bT W4.out hb)
 have B7:=lH (B4.out.below hb)
 clear hb CP W4 B4
 have D8:=lH (Boxed.made w7 #[.slice A2 n2 c2,.slice A2' n2' c2'] 26)
 have W8:=lH (bT W7.out (bA w7 (.cells #[.slice A2 n2 c2,.slice A2' n2' c2'] 26)))
 have B8:=lH (B7.out.alloc (.cells #[.slice A2 n2 c2,.slice A2' n2' c2'] 26))
 have K8:=lH fun hm=>And.intro ((hok hm).1.below (bA w7 (.cells #[.slice A2 n2 c2,.slice A2' n2' c2'] 26))) (hok hm).2
 have N8:=lH hno
 go_upto_region 4 with fail
 generalize w7.alloc (.cells #[.slice A2 n2 c2,.slice A2' n2' c2'] 26)=w8 at*
 generalize w7.heap.size=p8 at*
 clear W7 B7 hok hno
 go_wp2_with fail
 refine(TO.out _ _ W8.out).mono ?_
 rintro e w9 ⟨rfl,hb⟩
 have W9:=lH (bT W8.out hb)
 have B9:=lH (B8.out.below hb)
 have D9:=lH (D8.out.below hb)
 have K9:=lH fun hm=>And.intro ((K8.out hm).1.below hb) (K8.out hm).2
 clear hb W8 B8 D8 K8
 have x0:w9.cell? ⟨p3,0,none⟩=some (.slice A1 4 c1):=B9.out.cell 0 _ rfl
 have x1:w9.cell? ⟨p3,1,none⟩=some (.slice A1' n1' c1'):=B9.out.cell 1 _ rfl
 have xl:=B9.out.lt
 have CN:=lH (zEL A1 A1' 4 c1 n1' c1' w9)
 go_wp2_with fail
 refine CN.out.mono ?_
 rintro e w10 ⟨rfl,hb⟩
 have W10:=lH (bT W9.out hb)
 have D10:=lH (D9.out.below hb)
 have K10:=lH fun hm=>And.intro ((K9.out hm).1.below hb) (K9.out hm).2
 clear hb W9 B9 D9 K9 CN x0 x1 xl
 by_cases hm:msgE f m=0
 ·obtain⟨kc,hn2⟩:=K10.out hm
  have KC:=lH kc
  obtain⟨hb1,hb2⟩:=LC.out hm
  rw[hb1,hb2] at LG
  rw[hm,show errN 0= .nilIface from rfl]
  clear kc hb1 hb2 LC hm K10 N8
  generalize cnt f m=N at*
  subst hn2
  go_wp2_with fail
  refine(Q1.out _ W10.out).mono ?_
  rintro e w11 ⟨rfl,hb⟩
  have W11:=lH (bT W10.out hb)
  have D11:=lH (D10.out.below hb)
  replace KC:=lH (KC.out.below hb)
  clear hb W10 D10
  have k0:w11.cell? ⟨p8,0,none⟩=some (.slice A2 n2 c2):=D11.out.cell 0 _ rfl
  have k1:w11.cell? ⟨p8,1,none⟩=some (.slice A2' n2' c2'):=D11.out.cell 1 _ rfl
  have kl:=D11.out.lt
  go_wp2_with fail
  refine(S1.out _ _ _ _ _ _ _ W11.out KC.out).mono ?_
  rintro e w12 ⟨rfl,hb⟩
  have W12:=lH (bT W11.out hb)
  have D12:=lH (D11.out.below hb)
  replace KC:=lH (KC.out.below hb)
  clear hb W11 D11 k0 k1 kl
  go_wp2_with fail
  refine(TO.out EA _ W12.out).mono ?_
  rintro e w13 ⟨rfl,hb⟩
  have W13:=lH (bT W12.out hb)
  have D13:=lH (D12.out.below hb)
  replace KC:=lH (KC.out.below hb)
  clear hb W12 D12
  go_wp2_with fail
  refine(LG.out _ W13.out).mono ?_
  rintro e w14 ⟨rfl,hb⟩
  have W14:=lH (bT W13.out hb)
  have D14:=lH (D13.out.below hb)
  replace KC:=lH (KC.out.below hb)
  clear hb W13 D13
  have k0:w14.cell? ⟨p8,0,none⟩=some (.slice A2 n2 c2):=D14.out.cell 0 _ rfl
  have k1:w14.cell? ⟨p8,1,none⟩=some (.slice A2' n2' c2'):=D14.out.cell 1 _ rfl
  have kl:=D14.out.lt
  go_wp2_with fail
  refine(zEL A2 A2' n2 c2 n2' c2' w14).mono ?_
  rintro e w15 ⟨rfl,hb⟩
  have W15:=lH (bT W14.out hb)
  have D15:=lH (D14.out.below hb)
  replace KC:=lH (KC.out.below hb)
  clear hb W14 D14 k0 k1 kl
  go_wp2_with fail
  go_ret
  exact⟨rfl,W15.out⟩
 have h0:=N8.out hm
 subst h0
 clear N8 K10 LC LG S1 Q1 TO
 generalize msgE f m=EE at*
 have k0:w10.cell? ⟨p8,0,none⟩=some (.slice A2 0 c2):=D10.out.cell 0 _ rfl
 have k1:w10.cell? ⟨p8,1,none⟩=some (.slice A2' n2' c2'):=D10.out.cell 1 _ rfl
 have kl:=D10.out.lt
 go_wp2_with fail
 refine(zEL A2 A2' 0 c2 n2' c2' w10).mono ?_
 rintro e w11 ⟨rfl,hb⟩
 have W11:=lH (bT W10.out hb)
 have D11:=lH (D10.out.below hb)
 clear hb W10 D10 k0 k1 kl
 go_wp2_with fail
 go_ret
 exact⟨rfl,W11.out⟩
open Go.RowKit Go.WideShapes Go.ChangeShapes Go.Deep Ms

theorem zGN {H:Type} {x:DataW H}: ∀{l:List (DataW H)},x∈l→Rows.uptoBulk x≤Rows.uptoBulkAll l
 |y::l,h=>by
  rcases List.mem_cons.1 h with rfl|h
  ·simp only[Rows.uptoBulkAll];omega
  have:=zGN h
  simp only[Rows.uptoBulkAll];omega
theorem zC0 {H:Type} (d:DataW H):1≤Rows.uptoBulk d:=by
 cases d with
 |lit x=>cases x<;>simp[Rows.uptoBulk]
 |_=>simp[Rows.uptoBulk]
theorem zGO {H:Type}: ∀l:List (DataW H),l.length≤Rows.uptoBulkAll l
 | []=>by simp
 |d::l=>by
  have:=zGO l
  have:=zC0 d
  simp only[Rows.uptoBulkAll,List.length_cons];omega
theorem list_by' {α:Type} {Q:Nat→α→Prop}: ∀(n:Nat),(∀i,i<n→ ∃t,Q i t)→ ∃L:List α,L.length=n∧ ∀i t,L[i]?=some t→Q i t
 |0,_=>⟨[],rfl,fun i t h=>by simp at h⟩
 |n+1,h=>by
  obtain⟨L,hl,hq⟩:=list_by' n fun i hi=>h i (by omega)
  obtain⟨t,ht⟩:=h n (by omega)
  refine⟨L++ [t],by simp[hl],fun i x hx=>?_⟩
  by_cases hi:i<n
  ·rw[List.getElem?_append_left (by omega)] at hx;exact hq i x hx
  rw[List.getElem?_append_right (by omega)] at hx
  have hk:i-L.length<1:=(List.getElem?_eq_some_iff.1 hx).1
  obtain rfl:i=n:=by omega
  rw[hl,Nat.sub_self] at hx
  obtain rfl:t=x:=by simpa using hx
  exact ht
section
variable {H:Type} {enc:TypeId×Value→H} {P:Program} {w:World} {base:Nat} {sp:Nat→Bool} {held:Bool}
theorem zDz {α:Type} {fuel m:Nat} {t e:TypeId} {C:World→Nat→Nat→α→Prop} (K:Nat) (ht:P.underlying t=some (.slice e)) (hC:P.cellsOf e=m) (hm:0<m)
  (el: ∀(b off:Nat) (cs:List Value) (n:Nat) (y:DataW H×List MemPlace),(∀i,i<m→w.cell? ⟨b,off+i,none⟩=cs[i]?)→cs.length=m→DataW.trod enc P w base sp held n e cs=some y→Rows.uptoBulk y.1<K→ ∃x:α,C w b off x)
  {v:Value} {y:DataW H×List MemPlace} (h:DataW.trod enc P w base sp held fuel t [v]=some y) (hK:Rows.uptoBulk y.1≤K):
  ∃a n c l,v= .slice a n c∧SlAt m C w (.slice a n c) l∧l.length<Rows.uptoBulk y.1:=by
 have hpos:=zC0 y.1
 rcases open_slice ht h with⟨hcs,_⟩|⟨a',len,cap,mm,nn,D,Pl,hcs,_,hl,hcm,hmm,hx,hi⟩
 ·exact⟨none,0,0,[],by simpa using hcs,.inl ⟨rfl,none,0,rfl⟩,by simp;omega⟩
 have e1:v= .slice (some a') len cap:=by simpa using hcs
 have hd:y.1= .slice ((List.range len).map D) ((List.range (mm-len)).map fun j=>D (len+j)):=congrArg Prod.fst hx
 by_cases hz:len=0
 ·subst hz
  exact⟨some a',0,cap,[],e1,.inl ⟨rfl,_,_,rfl⟩,by simp;omega⟩
 have hlm:len≤mm:=by rw[hmm];split<;>omega
 rw[hC] at hi
 obtain⟨b,off,spot⟩:=a'
 have hsp:spot=none:=by
  obtain⟨cs0,q0,_⟩:=hi 0 (by omega)
  obtain⟨_,q1,q2⟩:=World.cells?_some q0
  have q3:=q2 0 hm
  rw[List.getElem?_eq_getElem (by omega)] at q3
  simpa[Addr.add] using World.cell?_spot q3
 subst hsp
 have hbd: ∀i,i<len→Rows.uptoBulk (D i)<K:=by
  intro i hil
  have:D i∈(List.range len).map D:=List.mem_map.2 ⟨i,by simpa using hil,rfl⟩
  have:=zGN this
  rw[hd] at hK
  simp only[Rows.uptoBulk] at hK
  omega
 obtain⟨L,hL,hQ⟩:=list_by' (Q:=fun i x=>C w b (off+i*m) x) len fun i hil=>by
  obtain⟨cs',q0,q1⟩:=hi i (by omega)
  obtain⟨_,q2,q3⟩:=World.cells?_some q0
  rw[Go.WideShapes.add_plain] at q3
  exact el b (off+i*m) cs' nn _ (fun j hj=>by have:=q3 j hj;rwa [Go.WideShapes.add_plain] at this) q2 q1 (hbd i hil)
 refine⟨_,len,cap,L,e1,.inr ⟨b,off,cap,by rw[hL],by omega,by omega,hcm,fun j x hx=>hQ j x hx⟩,?_⟩
 have:=zGO ((List.range len).map D)
 rw[hd,hL]
 simp only[Rows.uptoBulk]
 simp at this
 omega
section
variable {sN sC tN tC:TypeId} {f0 f1 f2 f3 g0 g1:Field}
theorem zM0 (hsN:P.underlying sN=some (.slice tN)) (hsC:P.underlying sC=some (.slice tC)) (htN:P.underlying tN=some (.struct #[f0,f1,f2,f3])) (htC:P.underlying tC=some (.struct #[g0,g1]))
  (cN:P.cellsOf tN=4) (cC:P.cellsOf tC=2) (k0:P.underlying f0.type=some (.int .i64)) (k1:P.underlying f1.type=some .string) (k2:P.underlying f2.type=some (.int .i64)) (k3:f3.type=sC) (j0:P.underlying g0.type=some .string) (j1:g1.type=sN)
  (hN:oneCellFields P #[f0,f1,f2,f3]=true) (hC:oneCellFields P #[g0,g1]=true):
  ∀K,K≤1048576→ ∀(b off:Nat) (cs:List Value) (n:Nat) (y:DataW H×List MemPlace),(∀i,i<4→w.cell? ⟨b,off+i,none⟩=cs[i]?)→cs.length=4→DataW.trod enc P w base sp held n tN cs=some y→Rows.uptoBulk y.1≤K→ ∃x:Nd,NdC K w b off x:=by
 intro K
 induction K with
 |zero=>intro _ b off cs n y _ _ _ hK;have:=zC0 y.1;omega
 |succ K ih=>
  intro hK' b off cs n y h1 h2 h hK
  obtain⟨ys,n',_,hy,_,hyl,hf⟩:=DataW.trod_struct htN h
  obtain⟨c0,c1,c2,c3,rfl⟩: ∃c0 c1 c2 c3,cs= [c0,c1,c2,c3]:=by
   match cs,h2 with
   | [c0,c1,c2,c3],_=>exact⟨c0,c1,c2,c3,rfl⟩
  obtain⟨y0,y1,y2,y3,rfl⟩: ∃a0 a1 a2 a3,ys= [a0,a1,a2,a3]:=by
   match ys,hyl with
   | [a0,a1,a2,a3],_=>exact⟨a0,a1,a2,a3,rfl⟩
  have r0:DataW.trod enc P w base sp held n' f0.type [c0]=some y0:=by have:=hf 0 f0 rfl;rwa [(hone_of hN 0 f0 rfl).1,(hone_of hN 0 f0 rfl).2] at this
  have r1:DataW.trod enc P w base sp held n' f1.type [c1]=some y1:=by have:=hf 1 f1 rfl;rwa [(hone_of hN 1 f1 rfl).1,(hone_of hN 1 f1 rfl).2] at this
  have r2:DataW.trod enc P w base sp held n' f2.type [c2]=some y2:=by have:=hf 2 f2 rfl;rwa [(hone_of hN 2 f2 rfl).1,(hone_of hN 2 f2 rfl).2] at this
  have r3:DataW.trod enc P w base sp held n' f3.type [c3]=some y3:=by have:=hf 3 f3 rfl;rwa [(hone_of hN 3 f3 rfl).1,(hone_of hN 3 f3 rfl).2] at this
  rw[k3] at r3
  have hb:Rows.uptoBulk y1.1+Rows.uptoBulk y3.1≤K:=by
   rw[hy] at hK
   simp only[List.map_cons,List.map_nil,Rows.uptoBulk,Rows.uptoBulkAll] at hK
   omega
  obtain⟨a0,e0,_⟩:=DataW.trod_int k0 r0
  obtain⟨t1,e1,ey1,_⟩:=DataW.trod_string k1 r1
  obtain⟨a2,e2,_⟩:=DataW.trod_int k2 r2
  obtain rfl:c0= .int .i64 a0:=by simpa using e0
  obtain rfl:c1= .string t1:=by simpa using e1
  obtain rfl:c2= .int .i64 a2:=by simpa using e2
  have hp1:=zC0 y1.1
  obtain⟨a,m,c,l,rfl,hs,hl⟩:=zDz (w:=w) (C:=fun w b k (y:List UInt8×List Nd)=> ∃a n c,w.cell? ⟨b,k,none⟩=some (.string ⟨y.1.toArray⟩)∧w.cell? ⟨b,k+1,none⟩=some (.slice a n c)∧SlAt 4 (NdC K) w (.slice a n c) y.2∧y.1.length≤2000000∧y.2.length≤2000000) K hsC cC (by omega) (fun b off cs n y u1 u2 u uK=>by
   obtain⟨ys,n',_,hy,_,hyl,hf⟩:=DataW.trod_struct htC u
   obtain⟨c0,c1,rfl⟩: ∃c0 c1,cs= [c0,c1]:=by
    match cs,u2 with
    | [c0,c1],_=>exact⟨c0,c1,rfl⟩
   obtain⟨y0,y1,rfl⟩: ∃a0 a1,ys= [a0,a1]:=by
    match ys,hyl with
    | [a0,a1],_=>exact⟨a0,a1,rfl⟩
   have r0:DataW.trod enc P w base sp held n' g0.type [c0]=some y0:=by have:=hf 0 g0 rfl;rwa [(hone_of hC 0 g0 rfl).1,(hone_of hC 0 g0 rfl).2] at this
   have r1:DataW.trod enc P w base sp held n' g1.type [c1]=some y1:=by have:=hf 1 g1 rfl;rwa [(hone_of hC 1 g1 rfl).1,(hone_of hC 1 g1 rfl).2] at this
   rw[j1] at r1
   have hb:Rows.uptoBulk y0.1+Rows.uptoBulk y1.1<K:=by
    rw[hy] at uK
    simp only[List.map_cons,List.map_nil,Rows.uptoBulk,Rows.uptoBulkAll] at uK
    omega
   obtain⟨t0,e0,ey0,_⟩:=DataW.trod_string j0 r0
   obtain rfl:c0= .string t0:=by simpa using e0
   obtain⟨a,m,c,l,rfl,hs,hl⟩:=zDz (w:=w) (C:=NdC K) K hsN cN (by omega) (fun b off cs n y q1 q2 q qK=>ih (by omega) b off cs n y q1 q2 q (by omega)) r1 (by omega)
   have ht:t0.data.toList.length+1≤Rows.uptoBulk y0.1:=by rw[ey0];simp[Rows.uptoBulk]
   exact⟨(t0.data.toList,l),a,m,c,u1 0 (by omega),u1 1 (by omega),hs,by show t0.data.toList.length≤_;omega,by show l.length≤_;omega⟩) r3 (by omega)
  have ht:t1.data.toList.length+1≤Rows.uptoBulk y1.1:=by rw[ey1];simp[Rows.uptoBulk]
  exact⟨.mk a0 t1.data.toList a2 l,a,m,c,h1 0 (by omega),h1 1 (by omega),h1 2 (by omega),h1 3 (by omega),hs,by show t1.data.toList.length≤_;omega,by show l.length≤_;omega⟩
theorem zLz (hsN:P.underlying sN=some (.slice tN)) (hsC:P.underlying sC=some (.slice tC)) (htN:P.underlying tN=some (.struct #[f0,f1,f2,f3])) (htC:P.underlying tC=some (.struct #[g0,g1]))
  (cN:P.cellsOf tN=4) (cC:P.cellsOf tC=2) (k0:P.underlying f0.type=some (.int .i64)) (k1:P.underlying f1.type=some .string) (k2:P.underlying f2.type=some (.int .i64)) (k3:f3.type=sC) (j0:P.underlying g0.type=some .string) (j1:g1.type=sN)
  (hN:oneCellFields P #[f0,f1,f2,f3]=true) (hC:oneCellFields P #[g0,g1]=true) {fuel:Nat} {a:Option Addr} {n c:Nat} {d:DataW H} {p:List MemPlace} (h:DataW.trod enc P w base sp held fuel sN (Value.slice a n c).cells.toList=some (d,p)) (hK:Rows.uptoBulk d≤1048576):
  ∃m:List Nd,MsgAt 1048576 w (.slice a n c) m∧m.length<Rows.uptoBulk d:=by
 obtain⟨a',n',c',l,e,hs,hl⟩:=zDz (w:=w) (C:=NdC 1048576) 1048576 hsN cN (by omega) (fun b off cs n y q1 q2 q qK=>zM0 hsN hsC htN htC cN cC k0 k1 k2 k3 j0 j1 hN hC 1048576 (Nat.le_refl _) b off cs n y q1 q2 q (by omega)) (v:= .slice a n c) (y:=(d,p)) (by simpa[Value.cells] using h) hK
 rw[←e] at hs
 exact⟨l,hs,hl⟩
end
section
variable {s t u:TypeId} {f0 f1 f2 f3 g0 g1:Field}
end
end
open Go.RowKit Go.WideShapes Go.ChangeShapes

def strsD {H:Type} (l:List (List UInt8)) (d:DataW H):Prop:=(d= .nil∧l= [])∨ ∃sp,d= .slice (l.map fun x=> .lit (.string x)) sp
theorem zJY {H:Type} {enc:TypeId×Value→H} {P:Program} {w:World} {base:Nat} {sp:Nat→Bool} {held:Bool} {fuel:Nat} {t e:TypeId} {a:Option Addr} {n c:Nat} {d:DataW H} {p:List MemPlace}
  (ht:P.underlying t=some (.slice e)) (he:P.underlying e=some .string) (hc:P.cellsOf e=1) (h:DataW.trod enc P w base sp held fuel t (Value.slice a n c).cells.toList=some (d,p)):
  ∃l:List (List UInt8),StrsAt w (.slice a n c) l∧strsD l d:=by
 rcases open_strings ht he hc h with⟨hcs,hx⟩|⟨a',len',cap',ss,hcs,_,hl,hm,hz,hx,hcell,_⟩
 ·have e1:Value.slice a n c= .slice none 0 0:=by simpa[Value.cells] using hcs
  rw[e1]
  exact⟨[],.inl ⟨rfl,none,0,rfl⟩,.inl ⟨(congrArg Prod.fst hx),rfl⟩⟩
 have e1:Value.slice a n c= .slice (some a') len' cap':=by simpa[Value.cells] using hcs
 rw[e1]
 have hlen:(ss.take len').length=len':=by
  rw[List.length_take]
  split at hz<;>omega
 refine⟨(ss.take len').map (·.data.toList),?_,.inr ⟨strs (ss.drop len'),?_⟩⟩
 ·by_cases h0:len'=0
  ·subst h0
   exact .inl ⟨by simp,_,_,rfl⟩
  obtain⟨b,off,spot⟩:=a'
  have hsp:spot=none:=by simpa[Addr.add] using World.cell?_spot (hcell 0 (by split at hz<;>omega))
  subst hsp
  refine .inr ⟨b,off,cap',by rw[List.length_map,hlen],by rw[List.length_map,hlen];omega,by rw[List.length_map,hlen];exact hl,hm,fun j x hj=>?_⟩
  rw[List.getElem?_map] at hj
  obtain⟨y,hy,rfl⟩:=Option.map_eq_some_iff.1 hj
  have hj':j<(ss.take len').length:=(List.getElem?_eq_some_iff.1 hy).1
  rw[List.getElem?_take,if_pos (by omega)] at hy
  have g:=hcell j (List.getElem?_eq_some_iff.1 hy).1
  rw[Go.WideShapes.add_plain] at g
  rw[g,List.getD,hy]
  rfl
 have e2:(d:DataW H)= .slice (strs (ss.take len')) (strs (ss.drop len')):=congrArg Prod.fst hx
 rw[e2,List.map_map]
 rfl

open Go.RowKit Go.WideShapes Go.ChangeShapes Go.Deep Ms

theorem gKd: Tryz.prog.globalNamed "linguister/msg.kinds"=some 4:=by kernel_rfl
theorem gKdT:(Tryz.prog.globals[4]?).map (·.type)=some 97:=by kernel_rfl
theorem zNI {L:List (String×DataW Unit)} {W:World} (h:laidMetH Tryz.prog L W) (hf:L.filter (fun x=>x.1== "linguister/msg.kinds")= [("linguister/msg.kinds",Rows.laid_linguister_msg_kinds)]):KdW W:=by
 have g:=laidMetH.filter (fun x=>x.1== "linguister/msg.kinds") h
 rw[hf,MakeChecks.laidMetH_plain _ _ _ (by kernel_rfl)] at g
 obtain⟨ps,⟨gg,t,cs,fuel,p,q,hg,ht,hvar,hd,_,_⟩,_⟩:=g
 obtain rfl:=Option.some.inj (gKd.symm.trans hg)
 obtain rfl:=Option.some.inj (gKdT.symm.trans ht)
 obtain⟨a,n,c,e⟩: ∃a n c,cs.toList= [Value.slice a n c]:=by
  rcases open_slice Tryz.underlying97 hd with⟨hcs,_⟩|⟨a',len,cap,_,_,_,_,hcs,_⟩
  ·exact⟨_,_,_,hcs⟩
  exact⟨_,_,_,hcs⟩
 rw[e] at hd
 obtain⟨l,hl,hD⟩:=zJY (a:=a) (n:=n) (c:=c) Tryz.underlying97 Tryz.underlying9 (by kernel_rfl) (by simpa[Value.cells] using hd)
 have el:l=Ms.six:=by
  rcases hD with⟨e,_⟩|⟨sp,e⟩
  ·cases e
  simp only[Rows.laid_linguister_msg_kinds] at e
  injection e with e _
  have e2:l.map (fun x=>(.lit (.string x):DataW Unit))=Ms.six.map (fun x=>(.lit (.string x):DataW Unit)):=e.symm
  exact(List.map_inj_right (fun a b h=>by injection h with h;injection h)).1 e2
 subst el
 refine⟨a,n,c,?_,hl⟩
 have hv:=World.var?_cell gKd hvar 0
 rw[hv]
 have:cs= #[Value.slice a n c]:=by
  cases cs with|mk l=>simp at e;rw[e]
 rw[this];rfl

theorem cellsNode: Tryz.prog.cellsOf 51=4:=by kernel_rfl
theorem cellsCase: Tryz.prog.cellsOf 53=2:=by kernel_rfl
theorem cellsArg: Tryz.prog.cellsOf 70=5:=by kernel_rfl
section
variable {H:Type} {enc:TypeId×Value→H} {w:World} {base:Nat} {sp:Nat→Bool} {held:Bool} {fuel:Nat} {a:Option Addr} {n c:Nat} {d:DataW H} {p:List MemPlace}
theorem zIU (h:DataW.trod enc Tryz.prog w base sp held fuel 22 (Value.slice a n c).cells.toList=some (d,p)) (hK:Rows.uptoBulk d≤1048576): ∃m:List Nd,MsgAt 1048576 w (.slice a n c) m∧m.length<Rows.uptoBulk d:=
 zLz Tryz.underlying22 Tryz.underlying49 Tryz.underlying51 Tryz.underlying53 cellsNode cellsCase Tryz.underlying3 Tryz.underlying9 Tryz.underlying3 rfl Tryz.underlying9 rfl (by kernel_rfl) (by kernel_rfl) h hK
end
open Go.RowKit Go.WideShapes Go.ChangeShapes Go.Deep Ms
section
variable {H:Type} {enc:TypeId×Value→H} {P:Program} {w:World} {base:Nat} {sp:Nat→Bool} {held:Bool}
section
variable {s t u:TypeId} {f0 f1 f2 f3 g0 g1:Field}
theorem zJZ (hs:P.underlying s=some (.slice t)) (ht:P.underlying t=some (.struct #[f0,f1,f2,f3])) (hc:P.cellsOf t=5) (k0:P.underlying f0.type=some .string) (k1:P.underlying f1.type=some .bool) (k2:P.underlying f2.type=some (.struct #[g0,g1])) (k3:P.underlying f3.type=some .string)
  (j0:P.underlying g0.type=some (.int .i64)) (j1:P.underlying g1.type=some (.int .i64)) (o0:f0.offset=0∧P.cellsOf f0.type=1) (o1:f1.offset=1∧P.cellsOf f1.type=1) (o2:f2.offset=2∧P.cellsOf f2.type=2) (o3:f3.offset=4∧P.cellsOf f3.type=1) (hG:oneCellFields P #[g0,g1]=true)
  {fuel:Nat} {a:Option Addr} {n c:Nat} {d:DataW H} {p:List MemPlace} (h:DataW.trod enc P w base sp held fuel s (Value.slice a n c).cells.toList=some (d,p)) (hK:Rows.uptoBulk d≤1048576):
  ∃l:List Ag,ArgsAt w (.slice a n c) l∧l.length<Rows.uptoBulk d∧ ∀x∈l,x.name.length≤1048576∧x.txt.length≤1048576:=by
 have h':DataW.trod enc P w base sp held fuel s [.slice a n c]=some (d,p):=by simpa[Value.cells] using h
 obtain⟨a',n',c',l,e,hs,hl⟩:=zDz (enc:=enc) (P:=P) (base:=base) (sp:=sp) (held:=held) (fuel:=fuel) (e:=t) (t:=s) (w:=w) (C:=fun w b k (x:Ag)=>ArgC w b k x∧x.name.length≤1048576∧x.txt.length≤1048576) 1048576 hs hc (by omega) (fun b off cs n y q1 q2 q qK=>by
  obtain⟨ys,n',_,hy,_,hyl,hf⟩:=DataW.trod_struct ht q
  obtain⟨c0,c1,c2,c3,c4,rfl⟩: ∃c0 c1 c2 c3 c4,cs= [c0,c1,c2,c3,c4]:=by
   match cs,q2 with
   | [c0,c1,c2,c3,c4],_=>exact⟨c0,c1,c2,c3,c4,rfl⟩
  obtain⟨y0,y1,y2,y3,rfl⟩: ∃a0 a1 a2 a3,ys= [a0,a1,a2,a3]:=by
   match ys,hyl with
   | [a0,a1,a2,a3],_=>exact⟨a0,a1,a2,a3,rfl⟩
  have r0:DataW.trod enc P w base sp held n' f0.type [c0]=some y0:=by have:=hf 0 f0 rfl;rwa [o0.1,o0.2] at this
  have r1:DataW.trod enc P w base sp held n' f1.type [c1]=some y1:=by have:=hf 1 f1 rfl;rwa [o1.1,o1.2] at this
  have r2:DataW.trod enc P w base sp held n' f2.type [c2,c3]=some y2:=by have:=hf 2 f2 rfl;rwa [o2.1,o2.2] at this
  have r3:DataW.trod enc P w base sp held n' f3.type [c4]=some y3:=by have:=hf 3 f3 rfl;rwa [o3.1,o3.2] at this
  have hb:Rows.uptoBulk y0.1≤1048576∧Rows.uptoBulk y3.1≤1048576:=by
   rw[hy] at qK
   simp only[List.map_cons,List.map_nil,Rows.uptoBulk,Rows.uptoBulkAll] at qK
   omega
  obtain⟨zs,n2,_,_,_,hzl,hg⟩:=DataW.trod_struct k2 r2
  obtain⟨z0,z1,rfl⟩: ∃a0 a1,zs= [a0,a1]:=by
   match zs,hzl with
   | [a0,a1],_=>exact⟨a0,a1,rfl⟩
  have s0:DataW.trod enc P w base sp held n2 g0.type [c2]=some z0:=by have:=hg 0 g0 rfl;rwa [(hone_of hG 0 g0 rfl).1,(hone_of hG 0 g0 rfl).2] at this
  have s1:DataW.trod enc P w base sp held n2 g1.type [c3]=some z1:=by have:=hg 1 g1 rfl;rwa [(hone_of hG 1 g1 rfl).1,(hone_of hG 1 g1 rfl).2] at this
  obtain⟨t0,e0,ey0,_⟩:=DataW.trod_string k0 r0
  obtain⟨b1,e1,_⟩:=DataW.trod_bool k1 r1
  obtain⟨i2,e2,_⟩:=DataW.trod_int j0 s0
  obtain⟨i3,e3,_⟩:=DataW.trod_int j1 s1
  obtain⟨t4,e4,ey4,_⟩:=DataW.trod_string k3 r3
  obtain rfl:c0= .string t0:=by simpa using e0
  obtain rfl:c1= .bool b1:=by simpa using e1
  obtain rfl:c2= .int .i64 i2:=by simpa using e2
  obtain rfl:c3= .int .i64 i3:=by simpa using e3
  obtain rfl:c4= .string t4:=by simpa using e4
  have ht:t0.data.toList.length+1≤Rows.uptoBulk y0.1:=by rw[ey0];simp[Rows.uptoBulk]
  have ht4:t4.data.toList.length+1≤Rows.uptoBulk y3.1:=by rw[ey4];simp[Rows.uptoBulk]
  exact⟨⟨t0.data.toList,b1,i2,i3,t4.data.toList⟩,⟨q1 0 (by omega),q1 1 (by omega),q1 2 (by omega),q1 3 (by omega),q1 4 (by omega)⟩,by show t0.data.toList.length≤_∧t4.data.toList.length≤_;omega⟩) (v:= .slice a n c) (y:=(d,p)) h' hK
 rw[←e] at hs
 refine⟨l,by rcases hs with h|⟨b,off,cap,h1,h2,h3,h4,h5⟩;exact .inl h;exact .inr ⟨b,off,cap,h1,h2,h3,h4,fun j x hx=>(h5 j x hx).1⟩,hl,fun x hx=>?_⟩
 obtain⟨j,hj,ej⟩:=List.getElem_of_mem hx
 obtain⟨A,cap,_,_,hh⟩:=hs.spread
 obtain⟨b,off,_,hq⟩:=hh j x (by rw[List.getElem?_eq_getElem hj,ej])
 exact hq.2
end
end
section
variable {H:Type} {enc:TypeId×Value→H} {w:World} {base:Nat} {sp:Nat→Bool} {held:Bool} {fuel:Nat} {a:Option Addr} {n c:Nat} {d:DataW H} {p:List MemPlace}
theorem zJ0 (h:DataW.trod enc Tryz.prog w base sp held fuel 23 (Value.slice a n c).cells.toList=some (d,p)) (hK:Rows.uptoBulk d≤1048576): ∃l:List Ag,ArgsAt w (.slice a n c) l∧l.length<Rows.uptoBulk d∧ ∀x∈l,x.name.length≤1048576∧x.txt.length≤1048576:=
 zJZ Tryz.underlying23 Tryz.underlying70 cellsArg Tryz.underlying9 Tryz.underlying4 Tryz.underlying64 Tryz.underlying9 Tryz.underlying3 Tryz.underlying3 ⟨rfl,by kernel_rfl⟩ ⟨rfl,by kernel_rfl⟩ ⟨rfl,by kernel_rfl⟩ ⟨rfl,by kernel_rfl⟩ (by kernel_rfl) h hK
end
open Go.RowKit

theorem gPowT:(Tryz.prog.globals[6]?).map (·.type)=some 278:=by kernel_rfl
theorem cellsPow: Tryz.prog.cellsOf 278=20:=by kernel_rfl
theorem cellsU64: Tryz.prog.cellsOf 222=1:=by kernel_rfl
theorem zHV {L:List (String×DataW Unit)} {W:World} (h:laidMetH Tryz.prog L W) (hf:L.filter (fun x=>x.1== "internal/strconv.uint64pow10")= [("internal/strconv.uint64pow10",Rows.laid_internal_strconv_uint64pow10)]):PowW W:=by
 have g:=laidMetH.filter (fun x=>x.1== "internal/strconv.uint64pow10") h
 rw[hf,MakeChecks.laidMetH_plain _ _ _ (by kernel_rfl)] at g
 exact Lib.tabIs_of_head gPow gPowT Tryz.underlying278 Tryz.underlying222 cellsU64 cellsPow g
open Go.RowKit Go.ChangeShapes Go.WideShapes

theorem gKinds: Tryz.prog.globalNamed "linguister/plural.kinds"=some 3:=by kernel_rfl
theorem gKindsT:(Tryz.prog.globals[3]?).map (·.type)=some 179:=by kernel_rfl
theorem cellsKinds: Tryz.prog.cellsOf 179=5:=by kernel_rfl
theorem cellsText: Tryz.prog.cellsOf 9=1:=by kernel_rfl
theorem zJ1 {L:List (String×DataW Unit)} {W:World} (h:laidMetH Tryz.prog L W) (hf:L.filter (fun x=>x.1== "linguister/plural.kinds")= [("linguister/plural.kinds",Rows.laid_linguister_plural_kinds)]):KindsW W:=by
 have g:=laidMetH.filter (fun x=>x.1== "linguister/plural.kinds") h
 rw[hf,MakeChecks.laidMetH_plain _ _ _ (by kernel_rfl)] at g
 obtain⟨ps,⟨gg,t,cs,fuel,p,q,hg,ht,hvar,hd,_,_⟩,_⟩:=g
 obtain rfl:=Option.some.inj (gKinds.symm.trans hg)
 obtain rfl:=Option.some.inj (gKindsT.symm.trans ht)
 obtain⟨xs,m,_,hx,hl,hxl,hel⟩:=DataW.trod_array Tryz.underlying179 hd
 rw[cellsKinds] at hl
 rw[cellsText] at hel
 intro i s hs
 have hi:i<5:=(List.getElem?_eq_some_iff.1 hs).1
 have h1:=hel i hi
 have hcl:i<cs.toList.length:=by omega
 have hone:(cs.toList.drop (i*1)).take 1= [cs.toList[i]'hcl]:=by
  rw[Nat.mul_one,List.drop_eq_getElem_cons hcl]
  rfl
 rw[hone,List.getElem?_eq_getElem (by omega)] at h1
 obtain⟨b,e,hb,_⟩:=DataW.trod_string Tryz.underlying9 h1
 have e2:cs.toList[i]'hcl= .string b:=by simpa using e
 have hv:=World.var?_cell gKinds hvar i
 rw[hv]
 have hget:cs[i]?=some (cs.toList[i]'hcl):=by
  rw[←Array.getElem?_toList];exact List.getElem?_eq_getElem hcl
 rw[hget,e2]
 have hx1:(xs.map (·.1))[i]?=some (.lit (.string b.data.toList)):=by
  rw[List.getElem?_map,List.getElem?_eq_getElem (by omega)]
  simp[hb]
 have hk:xs.map (·.1)=Rul.kindL.map fun s=>(.lit (.string s):DataW Unit):=by
  have:=congrArg Prod.fst hx
  simp only[Rows.laid_linguister_plural_kinds] at this
  injection this with this
  rw[←this]
  rfl
 rw[hk,List.getElem?_map,hs] at hx1
 have e3:s=b.data.toList:=by simpa using hx1
 rw[e3]
open Go.RowKit Go.ChangeShapes Go.WideShapes
theorem gPat: Tryz.prog.globalNamed "linguister/eval.pattern"=some 0:=by kernel_rfl
theorem gPatT:(Tryz.prog.globals[0]?).map (·.type)=some 123:=by kernel_rfl
theorem gSgn: Tryz.prog.globalNamed "linguister/eval.signs"=some 1:=by kernel_rfl
theorem gSgnT:(Tryz.prog.globals[1]?).map (·.type)=some 125:=by kernel_rfl
theorem cellsPat: Tryz.prog.cellsOf 123=7:=by kernel_rfl
theorem cellsSgn: Tryz.prog.cellsOf 125=2:=by kernel_rfl
theorem zJ2 {L:List (String×DataW Unit)} {W:World} (h:laidMetH Tryz.prog L W) (hp:L.filter (fun x=>x.1== "linguister/eval.pattern")= [("linguister/eval.pattern",Rows.laid_linguister_eval_pattern)]) (hs:L.filter (fun x=>x.1== "linguister/eval.signs")= [("linguister/eval.signs",Rows.laid_linguister_eval_signs)]):NumerW W:=by
 have g1:=laidMetH.filter (fun x=>x.1== "linguister/eval.pattern") h
 rw[hp,MakeChecks.laidMetH_plain _ _ _ (by kernel_rfl)] at g1
 have g2:=laidMetH.filter (fun x=>x.1== "linguister/eval.signs") h
 rw[hs,MakeChecks.laidMetH_plain _ _ _ (by kernel_rfl)] at g2
 obtain⟨ps,⟨gg,t,cs,fuel,p,q,hg,ht,hvar,hd,_,_⟩,_⟩:=g1
 obtain rfl:=Option.some.inj (gPat.symm.trans hg)
 obtain rfl:=Option.some.inj (gPatT.symm.trans ht)
 obtain⟨qs,⟨gg,t,cz,fuel2,p2,q2,hg,ht,hvar2,hd2,_,_⟩,_⟩:=g2
 obtain rfl:=Option.some.inj (gSgn.symm.trans hg)
 obtain rfl:=Option.some.inj (gSgnT.symm.trans ht)
 obtain⟨ys,n,_,hy,hcl,hyl,hf⟩:=DataW.trod_struct Tryz.underlying123 hd
 obtain⟨zs,n2,_,hz,hzl,hzn,hz2⟩:=DataW.trod_struct Tryz.underlying125 hd2
 rw[cellsPat] at hcl
 rw[cellsSgn] at hzl
 obtain⟨c0,c1,c2,c3,c4,c5,c6,hcs⟩: ∃c0 c1 c2 c3 c4 c5 c6,cs.toList= [c0,c1,c2,c3,c4,c5,c6]:=by
  match hh:cs.toList,hcl with
  | [c0,c1,c2,c3,c4,c5,c6],_=>exact⟨c0,c1,c2,c3,c4,c5,c6,rfl⟩
 obtain⟨x0,x1,hcz⟩: ∃x0 x1,cz.toList= [x0,x1]:=by
  match hh:cz.toList,hzl with
  | [x0,x1],_=>exact⟨x0,x1,rfl⟩
 rw[hcs] at hf
 rw[hcz] at hz2
 obtain⟨y0,y1,y2,y3,y4,y5,y6,rfl⟩: ∃a0 a1 a2 a3 a4 a5 a6,ys= [a0,a1,a2,a3,a4,a5,a6]:=by
  match ys,hyl with
  | [a0,a1,a2,a3,a4,a5,a6],_=>exact⟨a0,a1,a2,a3,a4,a5,a6,rfl⟩
 obtain⟨z0,z1,rfl⟩: ∃a0 a1,zs= [a0,a1]:=by
  match zs,hzn with
  | [a0,a1],_=>exact⟨a0,a1,rfl⟩
 have ks: Tryz.prog.cellsOf 9=1:=by kernel_rfl
 have ki: Tryz.prog.cellsOf 3=1:=by kernel_rfl
 have ku: Tryz.prog.cellsOf 5=1:=by kernel_rfl
 have r0:DataW.trod (fun _=>()) Tryz.prog W 0 (fun _=>true) false n 9 [c0]=some y0:=by have:=hf 0 _ rfl;change DataW.trod (fun _=>()) Tryz.prog W 0 (fun _=>true) false n 9 (List.take (Tryz.prog.cellsOf 9) [c0,c1,c2,c3,c4,c5,c6])=some y0 at this;rw[ks] at this;exact this
 have r1:DataW.trod (fun _=>()) Tryz.prog W 0 (fun _=>true) false n 9 [c1]=some y1:=by have:=hf 1 _ rfl;change DataW.trod (fun _=>()) Tryz.prog W 0 (fun _=>true) false n 9 (List.take (Tryz.prog.cellsOf 9) [c1,c2,c3,c4,c5,c6])=some y1 at this;rw[ks] at this;exact this
 have r2:DataW.trod (fun _=>()) Tryz.prog W 0 (fun _=>true) false n 3 [c2]=some y2:=by have:=hf 2 _ rfl;change DataW.trod (fun _=>()) Tryz.prog W 0 (fun _=>true) false n 3 (List.take (Tryz.prog.cellsOf 3) [c2,c3,c4,c5,c6])=some y2 at this;rw[ki] at this;exact this
 have r3:DataW.trod (fun _=>()) Tryz.prog W 0 (fun _=>true) false n 3 [c3]=some y3:=by have:=hf 3 _ rfl;change DataW.trod (fun _=>()) Tryz.prog W 0 (fun _=>true) false n 3 (List.take (Tryz.prog.cellsOf 3) [c3,c4,c5,c6])=some y3 at this;rw[ki] at this;exact this
 have r4:DataW.trod (fun _=>()) Tryz.prog W 0 (fun _=>true) false n 3 [c4]=some y4:=by have:=hf 4 _ rfl;change DataW.trod (fun _=>()) Tryz.prog W 0 (fun _=>true) false n 3 (List.take (Tryz.prog.cellsOf 3) [c4,c5,c6])=some y4 at this;rw[ki] at this;exact this
 have r5:DataW.trod (fun _=>()) Tryz.prog W 0 (fun _=>true) false n 3 [c5]=some y5:=by have:=hf 5 _ rfl;change DataW.trod (fun _=>()) Tryz.prog W 0 (fun _=>true) false n 3 (List.take (Tryz.prog.cellsOf 3) [c5,c6])=some y5 at this;rw[ki] at this;exact this
 have r6:DataW.trod (fun _=>()) Tryz.prog W 0 (fun _=>true) false n 3 [c6]=some y6:=by have:=hf 6 _ rfl;change DataW.trod (fun _=>()) Tryz.prog W 0 (fun _=>true) false n 3 (List.take (Tryz.prog.cellsOf 3) [c6])=some y6 at this;rw[ki] at this;exact this
 have u0:DataW.trod (fun _=>()) Tryz.prog W 0 (fun _=>true) false n2 5 [x0]=some z0:=by have:=hz2 0 _ rfl;change DataW.trod (fun _=>()) Tryz.prog W 0 (fun _=>true) false n2 5 (List.take (Tryz.prog.cellsOf 5) [x0,x1])=some z0 at this;rw[ku] at this;exact this
 have u1:DataW.trod (fun _=>()) Tryz.prog W 0 (fun _=>true) false n2 5 [x1]=some z1:=by have:=hz2 1 _ rfl;change DataW.trod (fun _=>()) Tryz.prog W 0 (fun _=>true) false n2 5 (List.take (Tryz.prog.cellsOf 5) [x1])=some z1 at this;rw[ku] at this;exact this
 obtain⟨b0,e0,ey0,_⟩:=DataW.trod_string Tryz.underlying9 r0
 obtain⟨b1,e1,ey1,_⟩:=DataW.trod_string Tryz.underlying9 r1
 obtain⟨b2,e2,ey2,_⟩:=DataW.trod_int Tryz.underlying3 r2
 obtain⟨b3,e3,ey3,_⟩:=DataW.trod_int Tryz.underlying3 r3
 obtain⟨b4,e4,ey4,_⟩:=DataW.trod_int Tryz.underlying3 r4
 obtain⟨b5,e5,ey5,_⟩:=DataW.trod_int Tryz.underlying3 r5
 obtain⟨b6,e6,ey6,_⟩:=DataW.trod_int Tryz.underlying3 r6
 obtain⟨k0,ez0,ek0,_⟩:=DataW.trod_int Tryz.underlying5 u0
 obtain⟨k1,ez1,ek1,_⟩:=DataW.trod_int Tryz.underlying5 u1
 rw[ey0,ey1,ey2,ey3,ey4,ey5,ey6] at hy
 rw[ek0,ek1] at hz
 have hy1:=congrArg Prod.fst hy
 have hz1:=congrArg Prod.fst hz
 simp only[Rows.laid_linguister_eval_pattern,List.map_cons,List.map_nil,DataW.agg.injEq,List.cons.injEq,DataW.lit.injEq,Lit.string.injEq,Lit.int.injEq,true_and,and_true] at hy1
 simp only[Rows.laid_linguister_eval_signs,List.map_cons,List.map_nil,DataW.agg.injEq,List.cons.injEq,DataW.lit.injEq,Lit.int.injEq,true_and,and_true] at hz1
 obtain⟨g0,g1,rfl,rfl,rfl,rfl,rfl⟩:=hy1
 obtain⟨rfl,rfl⟩:=hz1
 have v: ∀(i:Nat) (u:Value),cs.toList[i]?=some u→W.cell? ⟨0,i,none⟩=some u:=fun i u hu=>by
  rw[World.var?_cell gPat hvar i,←Array.getElem?_toList];exact hu
 have v2: ∀(i:Nat) (u:Value),cz.toList[i]?=some u→W.cell? ⟨1,i,none⟩=some u:=fun i u hu=>by
  rw[World.var?_cell gSgn hvar2 i,←Array.getElem?_toList];exact hu
 have em: ∀b:ByteArray,[]=b.data.toList→b=⟨#[]⟩:=fun b hb=>by
  have:b.data= #[]:=by rw[←Array.toList_inj];exact hb.symm
  cases b;simp_all
 have h0:=em b0 g0
 have h1:=em b1 g1
 subst h0 h1
 refine⟨v 0 _ ?_,v 1 _ ?_,v 2 _ ?_,v 3 _ ?_,v 4 _ ?_,v 5 _ ?_,v 6 _ ?_,v2 0 _ ?_,v2 1 _ ?_⟩
 ·rw[hcs];exact congrArg some (List.cons.inj e0).1
 ·rw[hcs];exact congrArg some (List.cons.inj e1).1
 ·rw[hcs];exact congrArg some (List.cons.inj e2).1
 ·rw[hcs];exact congrArg some (List.cons.inj e3).1
 ·rw[hcs];exact congrArg some (List.cons.inj e4).1
 ·rw[hcs];exact congrArg some (List.cons.inj e5).1
 ·rw[hcs];exact congrArg some (List.cons.inj e6).1
 ·rw[hcz];exact congrArg some (List.cons.inj ez0).1
 rw[hcz];exact congrArg some (List.cons.inj ez1).1
open Go.ChangeShapes Go.WideShapes Go.ChangeAt Go.RowKit

section
variable {H:Type} {enc:TypeId×Value→H} {P:Program}
theorem zFD (hl:laidOutB P=true) {W W':World} (hb:Below W.heap.size W W'): ∀{ts:List TypeId} {vs:List Value} {ds:List (DataW H)} {ps:List MemPlace},
  ts.all (fun t=>P.readableRec t&&decide (t<P.types.size))=true→DataW.TrodAll enc P W 0 (fun _=>true) true ts vs ds ps→(∀x∈ps,x.block<W.heap.size)→
  DataW.TrodAll enc P W' 0 (fun b=>decide (b<W.heap.size)) true ts vs ds ps:=by
 intro ts
 induction ts with
 |nil=>
  intro vs ds ps _ h _
  obtain⟨rfl,rfl,rfl⟩:=trodAll_nil h
  exact trodAll_mk0
 |cons t ts ih=>
  intro vs ds ps hr h hlt
  simp only[List.all_cons,Bool.and_eq_true,decide_eq_true_eq] at hr
  obtain⟨v,vs',d,ds',p,q,rfl,rfl,rfl,h0,hs⟩:=trodAll_cons h
  exact trodAll_cons_mk (Below.trod hl hr.1.1 hr.1.2 h0 hb fun x hx=>hlt x (List.mem_append.2 (.inl hx))) (ih hr.2 hs fun x hx=>hlt x (List.mem_append.2 (.inr hx)))

theorem zER {W:World} {base:Nat} {spare:Nat→Bool} {held:Bool}: ∀{ts:List TypeId} {vs:List Value} {ds:List (DataW H)} {ps:List MemPlace},
  DataW.TrodAll enc P W base spare held ts vs ds ps→ds.length=ts.length:=by
 intro ts
 induction ts with
 |nil=>intro vs ds ps h;obtain⟨rfl,rfl,rfl⟩:=trodAll_nil h;rfl
 |cons t ts ih=>intro vs ds ps h;obtain⟨v,vs',d,ds',p,q,rfl,rfl,rfl,h0,hs⟩:=trodAll_cons h;simp[ih hs]

theorem zLA {fn:Func} {s:ChangeSpec} {tb:TypeId} (hl:laidOutB P=true) (hres:fn.resultTypes= #[tb]) (hbool:P.underlying tb=some .bool) (hv:s.vars= [])
  (hread:fn.params.toList.all (fun t=>P.readableRec t&&decide (t<P.types.size))=true)
  (hs: ∀ds:List (DataW H),ds.length=fn.params.toList.length→s.fn H ds={results:= [.lit (.bool true)],args:=ds})
  {W W':World} {args:Array Value} {ds gs:List (DataW H)} {before:List MemPlace} (hW:DataW.Whole enc P fn.params.toList s.vars false W args.toList ds gs before) (hb:Below W.heap.size W W'):
  s.post enc P fn false true false false W args (.bool true) W':=by
 have hW':=hW
 have hlt:=hW.lt
 obtain⟨p,q,hA,hV,rfl,hfz,hnd⟩:=hW
 rw[hv] at hV
 obtain⟨rfl,rfl⟩:=trodVars_none hV
 have e:=hs ds (zER hA)
 simp only[List.append_nil] at hlt hW'
 refine⟨ds,[],_,[],p,[],hW',?_,?_,?_,hb.frame _,fun h=>by cases h⟩
 ·rw[List.append_nil,e,hres]
  exact trodAll_mk1 (shut_bool hbool true)
 ·rw[List.append_nil,e]
  exact zFD hl hb hread hA fun x hx=>hlt x (by simpa using hx)
 rw[List.append_nil,e,hv];rfl
end
open Go.RowKit

theorem hanEt: Tryz.prog.globalNamed "errors.errorType"=some 2:=by kernel_rfl
theorem hanRt:(Tryz.prog.cutTypes.find? (·.1== "internal/reflectlite.rtype")).map (·.2)=some 188:=by kernel_rfl
theorem hanOne:((List.range 336).filter fun t=> Tryz.prog.rowNamed t [101,114,114,111,114])= [28]:=by kernel_rfl
theorem hanSize: Tryz.prog.types.size= 336:=by kernel_rfl
theorem zM1 {L:List (String×DataW Unit)} {W:World} (hm:("errors.errorType",Rows.laid_errors_errorType)∈L) (h:laidMetH Tryz.prog L W):HanW W:=by
 have hf:("errors.errorType",Rows.laid_errors_errorType)∈L.filter (fun x=>x.snd.handleName?.isSome):=List.mem_filter.2 ⟨hm,rfl⟩
 unfold laidMetH at h
 split at h
 ·rename_i hE;rw[hE] at hf;cases hf
 rename_i hE
 rw[hE] at hf
 obtain⟨name,u,ty,e1,e2,e3,e4,e5⟩:=h.2 _ hf
 have en:name= [101,114,114,111,114]:=(Option.some.inj e1).symm
 subst en
 obtain rfl:=Option.some.inj (hanRt.symm.trans e2)
 have hm:ty∈(List.range 336).filter fun t=> Tryz.prog.rowNamed t [101,114,114,111,114]:=List.mem_filter.2 ⟨List.mem_range.2 (by rw[←hanSize];exact e3),e4⟩
 rw[hanOne] at hm
 obtain rfl:=List.mem_singleton.1 hm
 have hh:typeHandle Tryz.prog 28= .pointer (some ⟨13,28,none⟩):=by kernel_rfl
 rw[hh] at e5
 simpa[HanW] using World.var?_cell hanEt e5 0
theorem zGP {P:Program} {W:World} {L:List (String×DataW Unit)} (args:Array Value) (hf:W.layFits P L []=true) (hi:W.layIfaces P L (W.layVars P L)=true):
  laidMet P L ((W.layVars P L).forCall (fun _ _=>0) ⟨#[],args,[]⟩).memory:=by
 have e1:(L.filter fun x=>(L.map (·.1)).contains x.1)=L:=List.filter_eq_self.2 fun x hx=>List.contains_iff_mem.2 (List.mem_map.2 ⟨x,hx,rfl⟩)
 have e2:(L.filter fun x=>!(L.map (·.1)).contains x.1)= []:=List.filter_eq_nil_iff.2 fun x hx=>by rw[List.contains_iff_mem.2 (List.mem_map.2 ⟨x,hx,rfl⟩)];simp
 have h:laidMet P L (W.layVars P L):=laidMet_layVars (w0:=W) (L.map (·.1)) [] (by rw[e1]) (by rw[e1];exact hf) (by rw[e1];exact hi) (by rw[e2];exact LaidIn.none)
 exact h.of_heap (by simp[World.memory,World.forCall,Input.heap])
end Go.Proofs.YtjlchookakbomaaGreatDoor
