/- The walk of eval.Say: whatever the message, the language and the args. Conditions: the listed variables; the message is one, of lists of at most 2000000; the args lie in memory as they say, of texts of at most 2000000 bytes; what the language's rules are. -/
import Derived.Test.YtjlchookakbomaaGreatDoorEi20
set_option maxHeartbeats 4000000
set_option maxRecDepth 100000
namespace Go.Proofs.YtjlchookakbomaaGreatDoor
open Go.RowKit Ms

theorem zFs {d:List Ag} {a:Ag} {r:List Ag}:argE d (a::r)=if !nameB a.name then 3 else if a.num&&badA a then 1 else if hasA d a.name then 5 else argE (d++ [a]) r:=rfl
theorem zBy {α:Type} {l:List α} {k:Nat} {y:α} (h:l[k]?=some y):l.drop k=y::l.drop (k+1)∧l.take (k+1)=l.take k++ [y]:=by
 obtain⟨hi,e⟩:=List.getElem?_eq_some_iff.1 h
 exact⟨by rw[List.drop_eq_getElem_cons hi,e],by rw[List.take_add_one,h];rfl⟩
def kin (l:List Ag):List (List UInt8×Bool):=l.map fun a=>(a.name,a.num)
theorem zHP (l:List Ag) (a:Ag):kin (l++ [a])=kin l++ [(a.name,a.num)]:=by unfold kin;rw[List.map_append];rfl
theorem zD2 (l:List Ag) (t:List UInt8):(kin l).find? (fun p=>p.1==t)=(l.find? (fun a=>a.name==t)).map fun a=>(a.name,a.num):=by
 unfold kin
 rw[List.find?_map]
 rfl
theorem zHQ {l:List Ag} {t:List UInt8} (h:hasA l t=true): ∃p,(kin l).find? (fun p=>p.1==t)=some p:=by
 obtain⟨a,ha,e⟩:=List.any_eq_true.1 h
 rw[zD2]
 cases hf:l.find? (fun a=>a.name==t) with
 |none=>rw[List.find?_eq_none] at hf;exact absurd e (hf a ha)
 |some x=>exact⟨_,rfl⟩
theorem zDx {l:List Ag} {t:List UInt8} (h:hasA l t=false):(kin l).find? (fun p=>p.1==t)=none:=by
 rw[zD2,List.find?_eq_none.2]
 ·rfl
 intro a ha e
 unfold hasA at h
 rw[List.any_eq_true.2 ⟨a,ha,e⟩] at h;cases h
theorem zIE (a:Ag) (w:World):Calls Tryz.prog 52 #[.agg #[.int .i64 a.co,.int .i64 a.sc]] w fun e w'=>e= .returned (if badA a then errV 1 else .nilIface)∧Below w.heap.size w w':=by
 by_cases h:Dcm.okD a.co a.sc
 ·rw[show badA a=false by unfold badA;simp[h]]
  exact zAx _ _ w h
 rw[show badA a=true by unfold badA;simp[h]]
 exact zDu _ _ w h
theorem zDo (w:World):(zeroValue 4).run Tryz.prog w= .ok (.bool false) w:=by kernel_rfl

theorem zGC {f:Nat} {v va:Value} {m:List Nd} {args:List Ag} (w:World) (hw:MW w) (h:MsgAt f w v m) (hl:m.length≤2000000) (ha:ArgsAt w va args) (hal:args.length≤2000000) (hna: ∀a∈args,a.name.length≤4000000000):
  Calls Tryz.prog 23 #[v,va] w fun e w'=>e= .returned (errN (fitE f m args))∧Below w.heap.size w w':=by
 have CK:=lH (zMH w hw h hl)
 have HE:=lH (show fitE f m args=if namE f m≠0 then namE f m else if argE [] args≠0 then argE [] args else askE args (allN f [] m) from rfl)
 have HL:=lH (show lstN f m=if namE f m=0 then allN f [] m else [] from rfl)
 have HLL:=lH (zKf f m)
 obtain⟨a,n,c,rfl⟩:=h.isSlice
 obtain⟨A,cap,rfl,_,hel⟩:=ha.spread
 have hcap:args.length≤cap∨args.length=0:=by
  rcases ha with⟨e,_⟩|⟨_,_,_,e,_,q,_,_⟩
  ·exact .inr (by rw[e];rfl)
  injection e with _ _ e;exact .inl (by omega)
 have HX:=lH hel
 have CN:=lH fun (x:Ag) (hx:x∈args) (wx:World)=>zC5 x.name wx (hna x hx)
 clear h hw hl ha hel hna
 generalize lstN f m=LS at*
 generalize namE f m=NE at*
 generalize allN f [] m=AL at*
 generalize fitE f m args=FE at*
 by_cases h0:NE=0
 case neg=>
  obtain rfl:FE=NE:=by rw[HE.out,if_pos h0]
  have HV:=lH (show errN FE=errV FE from if_neg h0)
  rw[HV.out] at CK
  clear h0 HL HE CN HX
  generalize hN:args.length=N at*
  go_enter Tryz.func23,Tryz.ntmps23
  go_wp2_with fail
  refine CK.out.mono ?_
  rintro e w1 ⟨u,rfl,hr,hb⟩
  have W1:=lH hb
  obtain⟨ua,uc,rfl⟩:=zAw hr
  clear hb CK hr
  go_wp2_with fail
  go_ret
  exact⟨by rw[HV.out];rfl,W1.out⟩
 subst h0
 obtain rfl:LS=AL:=HL.out
 rw[show errN 0= .nilIface from rfl] at CK
 have HE:=lH (show FE=if argE [] args≠0 then argE [] args else askE args LS from HE.out)
 clear HL
 have hll:=HLL.out
 clear HLL
 obtain⟨AE,hAE⟩: ∃AE,AE=argE [] args:=⟨_,rfl⟩
 rw[←hAE] at HE
 have HAE:=lH (show argE (args.take 0) (args.drop 0)=AE by rw[hAE];rfl)
 clear hAE
 generalize hN:args.length=N at*
 have MM:=lH fun wx=>(run_makeMap (P:= Tryz.prog) (w:=wx) 113)
 go_enter Tryz.func23,Tryz.ntmps23
 go_wp2_with fail
 refine CK.out.mono ?_
 rintro e w1 ⟨u,rfl,hr,hb⟩
 have W1:=lH hb
 have hsz:=hb.size
 obtain⟨ua,uc,rfl⟩:=zAw hr
 have HR:=lH hr
 have MMh:=MM.out w1
 have KM:=lH (zJM w1)
 have WM:=lH (bA w1 (.map #[] 0))
 clear hb CK hr MM
 go_wp2_with fail
 generalize hw2:w1.alloc (.map #[] 0)=w2 at*
 obtain⟨B,hBe⟩: ∃B,B=w1.heap.size:=⟨_,rfl⟩
 rw[←hBe] at KM
 have hB:w1.heap.size≤B:=by omega
 rw[←hBe]
 clear hw2 hBe MMh
 go_loopw [28] (fun vi wr=> ∃i:Nat,vi= .int .i64 (i:Int)∧i≤N∧Hid (KindsAt B (kin (args.take i)) wr)∧Hid (argE (args.take i) (args.drop i)=AE)∧Hid (Below w1.heap.size w1 wr)) (fun vi _=>N-(intOf vi).toNat)
 case atStart=>exact⟨0,rfl,Nat.zero_le _,KM,HAE,WM⟩
 case round=>
  obtain⟨i,rfl,hi,HK,HS,HB⟩:=hrel
  clear HAE KM WM
  by_cases hlt:i<N
  ·have hi':(i:Int)<(N:Int):=by omega
   have hcc:N≤cap:=by omega
   obtain⟨x,hxi⟩: ∃x,args[i]?=some x:=⟨args[i]'(by omega),List.getElem?_eq_getElem (by omega)⟩
   obtain⟨b,off,rfl,p0,p1,p2,p3,p4⟩:=HX.out i x hxi
   have WB:=lH (bT W1.out HB.out)
   have g0:=cK p0 WB.out
   have g1:=cK p1 WB.out
   have g2:=cK p2 WB.out
   have g3:=cK p3 WB.out
   have g4:=cK p4 WB.out
   have lb:=World.block_lt_of_cell? _ _ g0
   have wi:IntKind.i64.wrap ((i:Int)+1)=(i:Int)+1:=IntWalk.i64_in _ (by omega)
   have CNh:=lH (CN.out x (List.mem_of_getElem? hxi))
   have HT:=lH (zBy hxi).2
   have hst:=HS.out
   rw[(zBy hxi).1,zFs] at hst
   have CD:=lH (zIE x)
   clear HS p0 p1 p2 p3 p4 hxi CN WB
   generalize badA x=Z at*
   obtain⟨T,bn,co,sc,tx⟩:=x
   have BX:=lH (Boxed.made wr #[.string ⟨T.toArray⟩,.bool bn,.int .i64 co,.int .i64 sc,.string ⟨tx.toArray⟩] 70)
   have hs0:=HB.out.size
   have HKa:=lH (HK.out.below (bA wr (.cells #[.string ⟨T.toArray⟩,.bool bn,.int .i64 co,.int .i64 sc,.string ⟨tx.toArray⟩] 70)))
   have HBa:=lH (HB.out.alloc hs0 (.cells #[.string ⟨T.toArray⟩,.bool bn,.int .i64 co,.int .i64 sc,.string ⟨tx.toArray⟩] 70))
   have HST:=lH (show(if !nameB T then 3 else if bn&&Z then 1 else if hasA (args.take i) T then 5 else argE (args.take i++ [⟨T,bn,co,sc,tx⟩]) (args.drop (i+1)))=AE from hst)
   clear hst
   generalize nameB T=NB at*
   go_wp2_with fail
   refine(CNh.out _).mono ?_
   rintro e w3 ⟨rfl,hb⟩
   have BX3:=lH (BX.out.below hb)
   have HK3:=lH (HKa.out.below hb)
   have HB3:=lH (HBa.out.trans (hb.mono HBa.out.size))
   clear hb CNh BX HKa HBa HK HB g0 g1 g2 g3 g4 lb
   generalize wr.heap.size=q at*
   cases NB with
   |false=>
    obtain rfl:3=AE:=HST.out
    obtain rfl:FE=3:=HE.out
    clear CD HT
    go_wp2_with fail
    go_ret
    exact⟨rfl,bT W1.out HB3.out⟩
   |true=>
    have z1:w3.cell? ⟨q,1,none⟩=some (.bool bn):=BX3.out.cell 1 _ rfl
    have zl:=BX3.out.lt
    cases bn with
    |false=>
     have HS:=lH (show(if hasA (args.take i) T then 5 else argE (args.take i++ [⟨T,false,co,sc,tx⟩]) (args.drop (i+1)))=AE from HST.out)
     clear HST CD
     have y0:World.cell? w3 ⟨q,0,none⟩=some (.string ⟨T.toArray⟩):=BX3.out.cell 0 _ rfl
     have y1:World.cell? w3 ⟨q,1,none⟩=some (.bool false):=BX3.out.cell 1 _ rfl
     cases hH:hasA (args.take i) T with
     |true=>
      have hst:=HS.out
      rw[hH] at hst
      obtain rfl:5=AE:=hst
      obtain rfl:FE=5:=HE.out
      obtain⟨p,hp⟩:=zHQ hH
      have LK:=HK3.out.look (P:= Tryz.prog) 113 9 4 Tryz.underlying113 Tryz.underlying9 hp
      clear HS
      go_wp2_with fail
      go_ret
      exact⟨rfl,bT W1.out HB3.out⟩
     |false=>
      have hst:=HS.out
      rw[hH] at hst
      have HS2:=lH (show argE (args.take (i+1)) (args.drop (i+1))=AE by rw[HT.out];exact hst)
      have LK:=HK3.out.none (P:= Tryz.prog) 113 9 4 Tryz.underlying113 Tryz.underlying9 (zDo _) (zDx hH)
      obtain⟨w5,MU,HK5,HB5⟩:=HK3.out.put (P:= Tryz.prog) 113 9 4 Tryz.underlying113 Tryz.underlying9 false (zDx hH)
      have K5:=lH (show KindsAt B (kin (args.take (i+1))) w5 by rw[HT.out,zHP];exact HK5)
      have W5:=lH (HB5 w1.heap.size w1 hB HB3.out)
      clear hst HS HK5 HB5
      go_wp2_with fail
      go_roundw
      case rel=>exact⟨i+1,by go_num,by omega,K5,HS2,W5⟩
      case measure=>simp[intOf];omega
    |true=>
     have z2:w3.cell? ⟨q,2,none⟩=some (.int .i64 co):=BX3.out.cell 2 _ rfl
     have z3:w3.cell? ⟨q,3,none⟩=some (.int .i64 sc):=BX3.out.cell 3 _ rfl
     have CDh:=lH (CD.out w3)
     clear CD
     go_wp2_with fail
     refine CDh.out.mono ?_
     rintro e w4 ⟨rfl,hb⟩
     have BX4:=lH (BX3.out.below hb)
     have HK4:=lH (HK3.out.below hb)
     have HB4:=lH (HB3.out.trans (hb.mono HB3.out.size))
     have zl4:=BX4.out.lt
     clear hb CDh BX3 HK3 HB3 z1 z2 z3 zl
     cases Z with
     |true=>
      obtain rfl:1=AE:=HST.out
      obtain rfl:FE=1:=HE.out
      clear HT
      go_wp2_with fail
      go_ret
      exact⟨rfl,bT W1.out HB4.out⟩
     |false=>
      have HS:=lH (show(if hasA (args.take i) T then 5 else argE (args.take i++ [⟨T,true,co,sc,tx⟩]) (args.drop (i+1)))=AE from HST.out)
      clear HST
      have y0:World.cell? w4 ⟨q,0,none⟩=some (.string ⟨T.toArray⟩):=BX4.out.cell 0 _ rfl
      have y1:World.cell? w4 ⟨q,1,none⟩=some (.bool true):=BX4.out.cell 1 _ rfl
      cases hH:hasA (args.take i) T with
      |true=>
       have hst:=HS.out
       rw[hH] at hst
       obtain rfl:5=AE:=hst
       obtain rfl:FE=5:=HE.out
       obtain⟨p,hp⟩:=zHQ hH
       have LK:=HK4.out.look (P:= Tryz.prog) 113 9 4 Tryz.underlying113 Tryz.underlying9 hp
       clear HS
       go_wp2_with fail
       go_ret
       exact⟨rfl,bT W1.out HB4.out⟩
      |false=>
       have hst:=HS.out
       rw[hH] at hst
       have HS2:=lH (show argE (args.take (i+1)) (args.drop (i+1))=AE by rw[HT.out];exact hst)
       have LK:=HK4.out.none (P:= Tryz.prog) 113 9 4 Tryz.underlying113 Tryz.underlying9 (zDo _) (zDx hH)
       obtain⟨w5,MU,HK5,HB5⟩:=HK4.out.put (P:= Tryz.prog) 113 9 4 Tryz.underlying113 Tryz.underlying9 true (zDx hH)
       have K5:=lH (show KindsAt B (kin (args.take (i+1))) w5 by rw[HT.out,zHP];exact HK5)
       have W5:=lH (HB5 w1.heap.size w1 hB HB4.out)
       clear hst HS HK5 HB5
       go_wp2_with fail
       go_roundw
       case rel=>exact⟨i+1,by go_num,by omega,K5,HS2,W5⟩
       case measure=>simp[intOf];omega
  have hi': ¬(i:Int)<(N:Int):=by omega
  have hst:=HS.out
  rw[List.drop_of_length_le (by omega)] at hst
  obtain rfl:0=AE:=hst
  have hk:=HK.out
  rw[List.take_of_length_le (by omega)] at hk
  have HK0:=lH hk
  have HE2:=lH (show askE args (LS.drop 0)=FE from HE.out.symm)
  obtain⟨A3,cap3,e3,_,hel3⟩:=(zBY HR.out).spread
  injection e3 with e4 e5 e6
  subst e4 e6
  have hcapu:LS.length≤uc∨LS.length=0:=by
   rcases HR.out.2 with⟨e,h0⟩|⟨g,cap,cur,e,_,q,_⟩
   ·exact .inr h0
   injection e with _ _ e;exact .inl (by omega)
  have HX3:=lH hel3
  have HB0:=lH HB.out
  clear hk hel3 e5 HR HK HB HE HS CN HX
  generalize hM:LS.length=M at*
  go_wp2_with fail
  go_loopw [62] (fun vk wx=> ∃k:Nat,vk= .int .i64 (k:Int)∧k≤M∧Hid (KindsAt B (kin args) wx)∧Hid (askE args (LS.drop k)=FE)∧Hid (Below w1.heap.size w1 wx)) (fun vk _=>M-(intOf vk).toNat)
  case atStart=>exact⟨0,rfl,Nat.zero_le _,HK0,HE2,HB0⟩
  case round=>
   obtain⟨k,rfl,hk,HK,HS,HB⟩:=hrel
   clear HK0 HE2 HB0
   by_cases hltk:k<M
   ·have hk':(k:Int)<(M:Int):=by omega
    have hccu:M≤uc:=by omega
    obtain⟨x,hxk⟩: ∃x,LS[k]?=some x:=⟨LS[k]'(by omega),List.getElem?_eq_getElem (by omega)⟩
    obtain⟨b,off,rfl,p0,p1,p2⟩:=HX3.out k x hxk
    have g0:=cK p0 HB.out
    have g1:=cK p1 HB.out
    have g2:=cK p2 HB.out
    have lb:=World.block_lt_of_cell? _ _ g0
    have wk:IntKind.i64.wrap ((k:Int)+1)=(k:Int)+1:=IntWalk.i64_in _ (by omega)
    have hst:=HS.out
    rw[(zBy hxk).1,zDa] at hst
    clear HS p0 p1 p2 hxk
    obtain⟨T,bn,bt⟩:=x
    have hs0:=HB.out.size
    have HKa:=lH (HK.out.below (bA wr (.cells #[.string ⟨T.toArray⟩,.bool bn,.bool bt] 117)))
    have HBa:=lH (HB.out.alloc hs0 (.cells #[.string ⟨T.toArray⟩,.bool bn,.bool bt] 117))
    have KF:=zD2 args T
    cases hf:args.find? (fun a=>a.name==T) with
    |none=>
     rw[hf] at hst KF
     obtain rfl:2=FE:=hst
     have LK:=HKa.out.none (P:= Tryz.prog) 113 9 4 Tryz.underlying113 Tryz.underlying9 (zDo _) KF
     clear hf KF HK HB
     go_wp2_with fail
     go_ret
     exact⟨rfl,bT W1.out HBa.out⟩
    |some y=>
     rw[hf] at hst KF
     obtain⟨y1,yn,y3,y4,y5⟩:=y
     have LK:(Instr.lookup 113 (.map (some B)) (.string ⟨T.toArray⟩) true).run Tryz.prog (wr.alloc (.cells #[.string ⟨T.toArray⟩,.bool bn,.bool bt] 117))= .ok (.tuple #[.bool yn,.bool true]) (wr.alloc (.cells #[.string ⟨T.toArray⟩,.bool bn,.bool bt] 117)):=HKa.out.look (P:= Tryz.prog) 113 9 4 Tryz.underlying113 Tryz.underlying9 KF
     have HST:=lH (show(if (bn&&!yn)||(bt&&yn) then 7 else askE args (LS.drop (k+1)))=FE from hst)
     clear hst hf KF HK HB
     have BXk:=lH (Boxed.made wr #[.string ⟨T.toArray⟩,.bool bn,.bool bt] 117)
     go_upto_region 25 with fail
     go_cut [88] from 76 to 88 (fun s wx=>s= .bool ((bn&&!yn)||(bt&&yn))∧wx=wr.alloc (.cells #[.string ⟨T.toArray⟩,.bool bn,.bool bt] 117))
     case first=>
      clear HST
      cases bn<;>cases yn<;>cases bt<;>(go_wp2_with fail;go_meet;exact⟨rfl,rfl⟩)
     case rest=>
     obtain⟨rfl,rfl⟩:=hcut
     generalize ((bn&&!yn)||(bt&&yn))=Z at*
     cases Z with
     |true=>
      obtain rfl:7=FE:=HST.out
      go_wp2_with fail
      go_ret
      exact⟨rfl,bT W1.out HBa.out⟩
     |false=>
      have HS2:=lH (show askE args (LS.drop (k+1))=FE from HST.out)
      clear HST
      go_wp2_with fail
      go_roundw
      case rel=>exact⟨k+1,by go_num,by omega,HKa,HS2,HBa⟩
      case measure=>simp[intOf];omega
   have hk': ¬(k:Int)<(M:Int):=by omega
   have hst:=HS.out
   rw[List.drop_of_length_le (by omega)] at hst
   obtain rfl:0=FE:=hst
   go_wp2_with fail
   go_ret
   exact⟨rfl,bT W1.out HB.out⟩
open Go.RowKit Ms
open Dcm (okD)
namespace Ms
def sayO (L:List (List UInt8)) (f:Nat) (m:List Nd) (args:List Ag):Option (List UInt8):=saidM (evS L) (valA args) f 0 0 m
def sayE (L:List (List UInt8)) (f:Nat) (m:List Nd) (args:List Ag):Int:=if fitE f m args=0 then roomE (sayO L f m args) else fitE f m args
def sayT (L:List (List UInt8)) (f:Nat) (m:List Nd) (args:List Ag):List UInt8:=if fitE f m args=0 then (sayO L f m args).getD [] else []
theorem zFt {args:List Ag} (h:argE [] args=0) (ht: ∀a∈args,a.txt.length≤2000000):ArgsFine args:=⟨fun a ha hn=>zHs args [] h a ha hn,ht⟩
theorem zEo: ∀{args:List Ag} {i:Nat} {x:Ag},(args.map (·.name)).Nodup→args[i]?=some x→(args.take i).find? (fun a=>a.name==x.name)=none
 | [],i,x,_,h=>by simp at h
 |a::r,0,x,_,_=>rfl
 |a::r,i+1,x,hd,h=>by
  rw[List.map_cons,List.nodup_cons] at hd
  have hm:x∈r:=List.mem_of_getElem? (i:=i) (by simpa using h)
  rw[List.take_succ_cons,List.find?_cons]
  have hne:(a.name==x.name)=false:=by
   rw[beq_eq_false_iff_ne]
   intro e
   exact hd.1 (List.mem_map.2 ⟨x,hm,e.symm⟩)
  rw[hne]
  exact zEo hd.2 (by simpa using h)
theorem zJO {args:List Ag} (h:(args.map (·.name)).Nodup) {i:Nat} {x:Ag} (hx:args[i]?=some x):(mapOf (args.take i)).find? (fun p=>p.1==x.name)=none:=by
 rw[zCY,zEo h hx]
 rfl
end Ms
theorem Talk.put {S:Spk} {W0:World} {args:List Ag} {l:List UInt8} {w:World} (h:Talk S W0 args l w) (x:Ag) (hx:(mapOf args).find? (fun p=>p.1==x.name)=none):
  ∃w',(Instr.mapUpdate 68 (.map (some S.B)) (.string ⟨x.name.toArray⟩) (argV x)).run Tryz.prog w= .ok () w'∧(W0.heap.size≤S.B→Talk S W0 (args++ [x]) l w')∧(∀base W,base≤S.B→Below base W w→Below base W w'):=by
 obtain⟨w',h1,h2,h3,_,h5⟩:=h.map.put (P:= Tryz.prog) 68 9 70 Tryz.underlying68 Tryz.underlying9 x hx
 refine⟨w',h1,fun hB=>⟨?_,?_,h5 _ _ hB h.base,h.sb,h.ne⟩,h5⟩
 ·obtain⟨k0,p,v,k1,k2,k3,k4⟩:=h.spk
  refine⟨k0,p,v,k1,(h3 S.q fun e=>h.ne e.symm).trans k2,?_,k4⟩
  refine⟨k3.1,?_⟩
  rcases k3.2 with q|⟨g,cap,cur,q1,q2,q3,q4⟩
  ·exact .inl q
  refine .inr ⟨g,cap,cur,q1,q2,(h3 g fun e=>?_).trans q3,q4⟩
  obtain⟨es,c,m1,_⟩:=h.map
  rw[e,m1] at q3
  cases q3
 unfold mapOf at*
 rw[List.map_append]
 exact h2
end Go.Proofs.YtjlchookakbomaaGreatDoor
