/- The walk of Code's Say: what was made of a message says what is said of it. Conditions: the listed variables; the code and the args lie in memory as they say; what the language's rules are. -/
import Derived.Test.YtjlchookakbomaaGreatDoorEi21
set_option maxHeartbeats 32000000
set_option maxRecDepth 100000
namespace Go.Proofs.YtjlchookakbomaaGreatDoor
open Go.RowKit Ms
open Dcm (okD)
structure PreI (W0:World) (ua:Option Addr) (n c:Nat) (aa:Option Addr) (n' c':Nat) (t0 t1 t2 t3 t4:List UInt8) (pc pz:Nat) (w:World):Prop where
 bel:Below W0.heap.size W0 w
 cb:Boxed w pc #[.slice ua n c,.slice aa n' c']
 sb:Boxed w pz #[.string ⟨t0.toArray⟩,.string ⟨t1.toArray⟩,.string ⟨t2.toArray⟩,.string ⟨t3.toArray⟩,.string ⟨t4.toArray⟩]
theorem zGD {w w':World} {p:Nat} {vs:Array Value} (h:Boxed w p vs) (hk:w'.heap[p]?=w.heap[p]?):Boxed w' p vs:=by
 refine⟨?_,fun j v hj=>(World.cell?_of_block (a:=⟨p,j,none⟩) hk).trans (h.cell j v hj),fun j hj=>(World.frozen?_of_block (a:=⟨p,j,none⟩) hk).trans (h.free j hj)⟩
 have hl:w.heap[p]?=some (w.heap[p]'h.lt):=Array.getElem?_eq_getElem h.lt
 exact zAf (hk.trans hl)
theorem PreI.below {W0:World} {ua aa:Option Addr} {n c n' c' pc pz:Nat} {t0 t1 t2 t3 t4:List UInt8} {w w':World} (h:PreI W0 ua n c aa n' c' t0 t1 t2 t3 t4 pc pz w) (hb:Below w.heap.size w w'):PreI W0 ua n c aa n' c' t0 t1 t2 t3 t4 pc pz w':=⟨bT h.bel hb,h.cb.below hb,h.sb.below hb⟩
theorem zLb {f:Nat} {ua aa:Option Addr} {n c n' c':Nat} {va:Value} {m:List Nd} {args:List Ag} (lang t0 t1 t2 t3 t4:List UInt8) (b:Bool) (w:World) (hw:MW w) (hE:EvW w) (h:CodeAt f w (.slice ua n c) (.slice aa n' c') m) (hdp:Dp f m) (hcl:(clean f m).length≤2000000) (ha:ArgsAt w va args) (hal:args.length≤2000000) (hna: ∀a∈args,a.name.length≤4000000000) (htx: ∀a∈args,a.txt.length≤2000000)
  (hS:SetFine t0 t1 t2 t3 t4) (hb0:b=false→t0= []∧t1= []∧t2= []∧t3= []∧t4= [])
  (CL: ∀w:World,Calls Tryz.prog 24 #[.string ⟨lang.toArray⟩] w fun e w'=>e= .returned (.tuple #[setV t0 t1 t2 t3 t4,if b then .nilIface else errV 2])∧Below w.heap.size w w') (hF:fitE f m args=0):
  Calls Tryz.prog 11 #[.agg #[.slice ua n c,.slice aa n' c'],.string ⟨lang.toArray⟩,va] w fun e w'=>e= .returned (.tuple #[.string ⟨((sayO [t0,t1,t2,t3,t4] f m args).getD []).toArray⟩,errN (roomE (sayO [t0,t1,t2,t3,t4] f m args))])∧Below w.heap.size w w':=by
 have CF:=lH fun (wx:World) (hb:Below w.heap.size w wx)=>zGC (f:=f) wx (hw.below hb) (zAi h.2 hb) hcl (zAv ha hb) hal hna
 rw[zFm hdp,hF] at CF
 obtain⟨hwf,hae,hcn⟩:=zI7 hF
 have HND:=lH (zF3 args [] hae).2
 have HAF:=lH (zFt hae htx)
 obtain⟨SAY,hSAY⟩: ∃R,R=sayO [t0,t1,t2,t3,t4] f m args:=⟨_,rfl⟩
 rw[←hSAY]
 have HST:=lH (show SayI (flat f 0 m) (evS [t0,t1,t2,t3,t4]) (valA args) SAY [] 0 [⟨(flat f 0 m).length,0,0,0⟩] [(f,m)] from by rw[hSAY];exact SayI.start hwf hcn)
 have CLh:=lH CL
 have HSA:=lH h.1
 have hnl:n=(flat f 0 m).length:=by
  obtain⟨A2,c2,e,_⟩:=h.1.spread
  injection e
 have HNL:=lH hnl
 have HEV:=lH hE
 have HSF:=lH hS
 have HCM:=lH hcn
 have HCN:=lH (show n≤60 by rw[hnl,zBm];exact hcn)
 obtain⟨AV,acap,rfl,_,hel⟩:=ha.spread
 have hcap:args.length≤acap∨args.length=0:=by
  rcases ha with⟨e,_⟩|⟨_,_,_,e,_,q,_,_⟩
  ·exact .inr (by rw[e];rfl)
  injection e with _ _ e;exact .inl (by omega)
 have HX:=lH hel
 have HHW:=lH hw
 clear hw hE h ha hna htx CL hF hwf hae hcn hel hSAY hnl hS hdp hcl
 generalize hN:args.length=N at*
 unfold setV at CLh
 have W0:=lH (bA w (.cells #[.slice ua n c,.slice aa n' c'] 26))
 have B0:=lH (Boxed.made w #[.slice ua n c,.slice aa n' c'] 26)
 go_enter Tryz.func11,Tryz.ntmps11
 go_wp2_with fail
 refine(CF.out _ W0.out).mono ?_
 rintro e w1 ⟨rfl,hb⟩
 have W1:=lH (bT W0.out hb)
 have B1:=lH (B0.out.below hb)
 clear hb CF W0 B0
 rw[zJN]
 obtain⟨ev,hev⟩: ∃ev,ev=(if b then Value.nilIface else errV 2):=⟨_,rfl⟩
 have CL2:=lH fun w=>CLh.out w
 rw[←hev] at CL2
 have HVV:=lH hev
 clear hev
 go_wp2_with fail
 refine(CL2.out _).mono ?_
 rintro e w4 ⟨rfl,hb⟩
 have W4:=lH (bT W1.out hb)
 have B4:=lH (B1.out.below hb)
 clear hb W1 B1 CLh CL2
 have P5:=lH (show PreI w ua n c aa n' c' t0 t1 t2 t3 t4 w.heap.size w4.heap.size (w4.alloc (.cells #[.string ⟨t0.toArray⟩,.string ⟨t1.toArray⟩,.string ⟨t2.toArray⟩,.string ⟨t3.toArray⟩,.string ⟨t4.toArray⟩] 58)) from⟨bT W4.out (bA _ _),B4.out.alloc _,Boxed.made _ _ _⟩)
 go_upto_region 5 with fail
 generalize w4.alloc (.cells #[.string ⟨t0.toArray⟩,.string ⟨t1.toArray⟩,.string ⟨t2.toArray⟩,.string ⟨t3.toArray⟩,.string ⟨t4.toArray⟩] 58)=w5 at*
 have hpz:=B4.out.lt
 clear W4 B4
 generalize w4.heap.size=pz at*
 generalize hpc:w.heap.size=pc at*
 go_cut [10,37] from 24 to 37 (fun _ v37 wx=>v37= .bool (!b)∧wx=w5)
 case first=>
  cases b with
  |false=>
   have hv:ev=errV 2:=HVV.out
   subst hv
   go_wp2_with fail
   go_meet
   exact⟨rfl,rfl⟩
  |true=>
   have hv:ev=Value.nilIface:=HVV.out
   subst hv
   go_wp2_with fail
   go_meet
   exact⟨rfl,rfl⟩
 case rest=>
 obtain⟨rfl,hwc⟩:=hcut
 subst hwc
 clear HVV
 go_upto_if 37 with fail
 generalize wc=w5 at*
 go_cut [] from 38 to 38 (fun wx=>Hid (PreI w ua n c aa n' c' t0 t1 t2 t3 t4 pc pz wx))
 case first=>
  cases b with
  |true=>
   go_wp2_with fail
   go_meet
   exact P5
  |false=>
   obtain⟨rfl,rfl,rfl,rfl,rfl⟩:=hb0 rfl
   have z0:w5.cell? ⟨pz,0,none⟩=some (.string ⟨#[]⟩):=P5.out.sb.cell 0 _ rfl
   have zf0:=P5.out.sb.free 0 (by simp)
   have z1:w5.cell? ⟨pz,1,none⟩=some (.string ⟨#[]⟩):=P5.out.sb.cell 1 _ rfl
   have zf1:=P5.out.sb.free 1 (by simp)
   have z2:w5.cell? ⟨pz,2,none⟩=some (.string ⟨#[]⟩):=P5.out.sb.cell 2 _ rfl
   have zf2:=P5.out.sb.free 2 (by simp)
   have z3:w5.cell? ⟨pz,3,none⟩=some (.string ⟨#[]⟩):=P5.out.sb.cell 3 _ rfl
   have zf3:=P5.out.sb.free 3 (by simp)
   have z4:w5.cell? ⟨pz,4,none⟩=some (.string ⟨#[]⟩):=P5.out.sb.cell 4 _ rfl
   have zf4:=P5.out.sb.free 4 (by simp)
   have zl:=P5.out.sb.lt
   have hpc2: ¬pz=pc:=by omega
   have P6: ∀(wy:World),PreI w ua n c aa n' c' [] [] [] [] [] pc pz wy→ ∀j,j<5→PreI w ua n c aa n' c' [] [] [] [] [] pc pz (wy.setCell ⟨pz,j,none⟩ (.string ⟨#[]⟩)):=fun wy hy j hj=>by
    refine⟨hy.bel.setCell (p:=⟨pz,j,none⟩) (by show w.heap.size≤pz;omega) _,hy.cb.far hpc2 _ _,?_⟩
    have hs:=hy.sb.set j (.string ⟨#[]⟩) (by simpa using hj)
    have e:(#[Value.string ⟨([]:List UInt8).toArray⟩,.string ⟨([]:List UInt8).toArray⟩,.string ⟨([]:List UInt8).toArray⟩,.string ⟨([]:List UInt8).toArray⟩,.string ⟨([]:List UInt8).toArray⟩]:Array Value).setIfInBounds j (.string ⟨#[]⟩)= #[Value.string ⟨([]:List UInt8).toArray⟩,.string ⟨([]:List UInt8).toArray⟩,.string ⟨([]:List UInt8).toArray⟩,.string ⟨([]:List UInt8).toArray⟩,.string ⟨([]:List UInt8).toArray⟩]:=by
     match j,hj with
     |0,_=>rfl
     |1,_=>rfl
     |2,_=>rfl
     |3,_=>rfl
     |4,_=>rfl
    rw[e] at hs
    exact hs
   have P7:=lH (P6 _ (P6 _ (P6 _ (P6 _ (P6 _ P5.out 0 (by omega)) 1 (by omega)) 2 (by omega)) 3 (by omega)) 4 (by omega))
   clear P6
   go_wp2_with fail
   go_meet
   exact P7
 case rest=>
 have P6:=hcut
 clear hcut P5 hb0
 rename World=>w6
 have MM:=run_makeMap (P:= Tryz.prog) (w:=w6) 68
 have KM:=lH (zK7 (val:=argV) w6)
 have P7:=lH (P6.out.below (bA w6 (.map #[] 0)))
 have HBM:=lH (show w.heap.size≤w6.heap.size∧pz<w6.heap.size∧pc<w6.heap.size from⟨P6.out.bel.size,P6.out.sb.lt,P6.out.cb.lt⟩)
 go_upto_region 8 with fail
 generalize w6.alloc (.map #[] 0)=w7 at*
 clear MM P6
 generalize w6.heap.size=B at*
 go_wp2_with fail
 go_loopw [42] (fun vi wr=> ∃i:Nat,vi= .int .i64 (i:Int)∧i≤N∧Hid (PreI w ua n c aa n' c' t0 t1 t2 t3 t4 pc pz wr)∧Hid (MapAt argV B (mapOf (args.take i)) wr)) (fun vi _=>N-(intOf vi).toNat)
 case atStart=>exact⟨0,rfl,Nat.zero_le _,P7,KM⟩
 case round=>
  obtain⟨i,rfl,hi,HP,HM⟩:=hrel
  clear P7 KM
  by_cases hlt:i<N
  ·have hi':(i:Int)<(N:Int):=by omega
   have hcc:N≤acap:=by omega
   obtain⟨x,hxi⟩: ∃x,args[i]?=some x:=⟨args[i]'(by omega),List.getElem?_eq_getElem (by omega)⟩
   obtain⟨bk,off,rfl,p0,p1,p2,p3,p4⟩:=HX.out i x hxi
   have g0:=cK p0 HP.out.bel
   have g1:=cK p1 HP.out.bel
   have g2:=cK p2 HP.out.bel
   have g3:=cK p3 HP.out.bel
   have g4:=cK p4 HP.out.bel
   have lb:=World.block_lt_of_cell? _ _ g0
   have wi:IntKind.i64.wrap ((i:Int)+1)=(i:Int)+1:=IntWalk.i64_in _ (by omega)
   have HNA:=lH (zJO HND.out hxi)
   have HTK:=lH (show mapOf (args.take i)++ [(x.name,x)]=mapOf (args.take (i+1)) from by rw[List.take_add_one,hxi];simp[mapOf])
   obtain⟨T,bn,co,sc,tx⟩:=x
   have PA:=lH (HP.out.below (bA wr (.cells #[.string ⟨T.toArray⟩,.bool bn,.int .i64 co,.int .i64 sc,.string ⟨tx.toArray⟩] 70)))
   have MA:=lH (HM.out.below (bA wr (.cells #[.string ⟨T.toArray⟩,.bool bn,.int .i64 co,.int .i64 sc,.string ⟨tx.toArray⟩] 70)))
   have BA:=lH (Boxed.made wr #[.string ⟨T.toArray⟩,.bool bn,.int .i64 co,.int .i64 sc,.string ⟨tx.toArray⟩] 70)
   clear p0 p1 p2 p3 p4 hxi HX HP HM
   go_upto_region 11 with fail
   generalize wr.alloc (.cells #[.string ⟨T.toArray⟩,.bool bn,.int .i64 co,.int .i64 sc,.string ⟨tx.toArray⟩] 70)=w8 at*
   generalize wr.heap.size=pa at*
   have a0:w8.cell? ⟨pa,0,none⟩=some (.string ⟨T.toArray⟩):=BA.out.cell 0 _ rfl
   have a1:w8.cell? ⟨pa,1,none⟩=some (.bool bn):=BA.out.cell 1 _ rfl
   have a2:w8.cell? ⟨pa,2,none⟩=some (.int .i64 co):=BA.out.cell 2 _ rfl
   have a3:w8.cell? ⟨pa,3,none⟩=some (.int .i64 sc):=BA.out.cell 3 _ rfl
   have a4:w8.cell? ⟨pa,4,none⟩=some (.string ⟨tx.toArray⟩):=BA.out.cell 4 _ rfl
   have al:=BA.out.lt
   obtain⟨w9,MU,HM9,hkk,hsz,hbb⟩:=MA.out.put (P:= Tryz.prog) 68 9 70 Tryz.underlying68 Tryz.underlying9 (⟨T,bn,co,sc,tx⟩:Ag) HNA.out
   have M9:=lH HM9
   rw[HTK.out] at M9
   have P9:=lH (show PreI w ua n c aa n' c' t0 t1 t2 t3 t4 pc pz w9 from⟨hbb _ _ HBM.out.1 PA.out.bel,zGD PA.out.cb (hkk pc (by have:=HBM.out;omega)),zGD PA.out.sb (hkk pz (by have:=HBM.out;omega))⟩)
   have MU':(Instr.mapUpdate 68 (.map (some B)) (.string ⟨T.toArray⟩) (.agg #[.string ⟨T.toArray⟩,.bool bn,.int .i64 co,.int .i64 sc,.string ⟨tx.toArray⟩])).run Tryz.prog w8= .ok () w9:=MU
   clear HM9 hkk hsz hbb MU PA MA BA HTK HNA g0 g1 g2 g3 g4 lb
   go_wp2_with fail
   go_roundw
   case rel=>exact⟨i+1,by go_num,by omega,P9,M9⟩
   case measure=>simp[intOf];omega
  have hi': ¬(i:Int)<(N:Int):=by omega
  have MZ:=lH (show MapAt argV B (mapOf args) wr from by have:=HM.out;rwa [List.take_of_length_le (by omega)] at this)
  have PZ:=HP
  clear HX HP HM
  rename World=>wb
  have z0:wb.cell? ⟨pc,0,none⟩=some (.slice ua n c):=PZ.out.cb.cell 0 _ rfl
  have zl:=PZ.out.cb.lt
  have R0:=lH (show RunI wb [] [⟨n,0,0,0⟩] (.slice (some ⟨wb.heap.size+1,0,none⟩) 1 1) ((wb.alloc (.cells #[.pointer none,.slice none 0 0] 74)).alloc (.cells #[.int .i64 (n:Int),.int .i64 0,.int .i64 0,.int .i64 0] 76)) from by
   have o1:=zBc wb #[.pointer none,.slice none 0 0] 74
   have b2:=bA (wb.alloc (.cells #[.pointer none,.slice none 0 0] 74)) (.cells #[.int .i64 (n:Int),.int .i64 0,.int .i64 0,.int .i64 0] 76)
   have o2:=zBc (wb.alloc (.cells #[.pointer none,.slice none 0 0] 74)) #[.int .i64 (n:Int),.int .i64 0,.int .i64 0,.int .i64 0] 76
   have o1':=(b2.block _ (zAf o1)).trans o1
   have hs:(wb.alloc (.cells #[.pointer none,.slice none 0 0] 74)).heap.size=wb.heap.size+1:=by simp
   rw[hs] at o2
   refine⟨(bT (bA wb _) b2),.inl ⟨Nat.le_refl _,_,o1',World.ownsRowF_nil _ _ _ _,by simp[Value.ownBlock]⟩,?_⟩
   exact⟨rfl,.inr ⟨_,1,_,rfl,by omega,o2,Nat.le_refl _,by unfold maxLen;omega,rfl,rfl⟩⟩)
  obtain⟨T,hT⟩: ∃T,T=flat f 0 m:=⟨_,rfl⟩
  have HI0:=HST
  rw[←hT] at HI0 HSA HNL
  rw[←HNL.out] at HI0
  clear HST hT
  go_upto_region 15 with fail
  generalize (wb.alloc (.cells #[.pointer none,.slice none 0 0] 74)).alloc (.cells #[.int .i64 (n:Int),.int .i64 0,.int .i64 0,.int .i64 0] 76)=w2 at*
  clear z0 zl
  generalize hWB:wb.heap.size=BB at*
  have HWB:=lH hWB
  clear hWB
  go_wp2_with fail
  go_loopg [15,16] (2*left [(f,m)]+1) (fun g sv va wr=> ∃(acc:List UInt8) (a:Nat) (s:List Fr) (qs:List (Nat×List Nd)),va= .int .i64 (a:Int)∧s≠ []∧2*left qs+s.length≤g∧g≤1000000∧Hid (RunI wb acc s sv wr)∧Hid (SayI T (evS [t0,t1,t2,t3,t4]) (valA args) SAY acc a s qs))
  case atStart=>exact⟨[],0,[⟨n,0,0,0⟩],[(f,m)],rfl,by simp,Nat.le_refl _,by show 2*(cnt f m+0)+1≤_;have:=HCM.out;omega,R0,HI0⟩
  case round=>
   rename Nat=>g
   obtain⟨acc,a,s,qs,rfl,hs,hg,hg6,HR,HI⟩:=hrel
   clear R0 HI0
   cases s with
   |nil=>exact absurd rfl hs
   |cons fr s=>
   clear hs
   have HBR:=lH HR.out.bel
   have PW:=lH (PZ.out.below HR.out.bel)
   have MW':=lH (MZ.out.below HR.out.bel)
   obtain⟨g0,cap0,rfl,hcap1,hcap2,q0,q1,q2,q3⟩:=HR.out.top
   obtain⟨K,hK⟩: ∃K,K=s.length:=⟨_,rfl⟩
   obtain⟨NL,hNL⟩: ∃NL,NL=K+1:=⟨_,rfl⟩
   have hsl:(fr::s).length=NL:=by rw[hNL,hK];rfl
   have hgn:2*left qs+NL≤g:=by rw[←hsl];exact hg
   rw[←hK,←hNL] at HR hcap1
   rw[←hK] at q0 q1 q2 q3
   rw[←hK,←hNL]
   have hkn:K<NL:=by omega
   have hk63:NL≤9223372036854775807:=by unfold maxLen at hcap2;omega
   have hwk:IntKind.i64.wrap ((NL:Int)-1)=(K:Int):=by rw[IntWalk.i64_in _ (by omega)];omega
   have hk0:(0:Int)≤(K:Int):=by omega
   have hk1:(K:Int)<(NL:Int):=by omega
   have HKS:=lH hK
   have HNS:=lH hNL
   have gl:=World.block_lt_of_cell? _ _ q0
   have FB:=lH (Boxed.made wr #[.int .i64 (fr.til:Int),.int .i64 (fr.nxt:Int),.int .i64 fr.mc,.int .i64 fr.ms] 76)
   have R1:=lH (HR.out.below (bA wr (.cells #[.int .i64 (fr.til:Int),.int .i64 (fr.nxt:Int),.int .i64 fr.mc,.int .i64 fr.ms] 76)))
   have P1:=lH (PW.out.below (bA wr (.cells #[.int .i64 (fr.til:Int),.int .i64 (fr.nxt:Int),.int .i64 fr.mc,.int .i64 fr.ms] 76)))
   have M1:=lH (MW'.out.below (bA wr (.cells #[.int .i64 (fr.til:Int),.int .i64 (fr.nxt:Int),.int .i64 fr.mc,.int .i64 fr.ms] 76)))
   clear hg hsl hK hNL HR PW MW'
   go_upto_region 17 with fail
   generalize wr.alloc (.cells #[.int .i64 (fr.til:Int),.int .i64 (fr.nxt:Int),.int .i64 fr.mc,.int .i64 fr.ms] 76)=w3 at*
   clear q0 q1 q2 q3 gl
   obtain⟨pt,hpt⟩: ∃pt,pt=wr.heap.size:=⟨_,rfl⟩
   rw[←hpt] at FB
   rw[←hpt]
   have HPT:=lH (show BB≤pt from by rw[hpt,←HWB.out];exact HBR.out.size)
   clear hpt
   have d0:w3.cell? ⟨pt,0,none⟩=some (.int .i64 (fr.til:Int)):=FB.out.cell 0 _ rfl
   have d1:w3.cell? ⟨pt,1,none⟩=some (.int .i64 (fr.nxt:Int)):=FB.out.cell 1 _ rfl
   have d2:w3.cell? ⟨pt,2,none⟩=some (.int .i64 fr.mc):=FB.out.cell 2 _ rfl
   have d3:w3.cell? ⟨pt,3,none⟩=some (.int .i64 fr.ms):=FB.out.cell 3 _ rfl
   have dl:=FB.out.lt
   by_cases hz:a=fr.til
   ·have d9:((a:Int)==(fr.til:Int))=true:=zAo (by omega)
    obtain⟨qs',HI',hlq⟩:=HI.out.pop hz
    have HI2:=lH HI'
    have R2:=lH (show RunI wb acc s (.slice (some ⟨g0,0,none⟩) K cap0) w3 from by
     have:=R1.out
     rw[HNS.out] at this
     exact this.pop HKS.out.symm)
    have hkc:K≤cap0:=by omega
    clear HI HI'
    have HZ:=lH hz
    subst hz
    clear d9
    by_cases hk9:K=0
    ·subst hk9
     have hs0:s= []:=List.length_eq_zero_iff.1 HKS.out.symm
     subst hs0
     have HSY:=lH HI2.out.last
     have CB:=lH (Tryz.Builder_String_any_k wb.heap.size wb.heap.size acc w3 R2.out.blt (by have:=R2.out.bel.size;omega))
     rw[HWB.out] at CB
     have W3:=lH (PZ.out.bel.trans (R2.out.bel.mono PZ.out.bel.size))
     have HB3:=lH PZ.out.bel.size
     clear HI2 R2 R1 P1 M1 FB HBR
     go_wp2_with fail
     refine CB.out.mono ?_
     rintro e w9 ⟨rfl,_,hb,_⟩
     have W9:=lH (W3.out.trans (hb.mono (by have:=HB3.out;have:=HWB.out;omega)))
     clear hb CB W3
     go_wp2_with fail
     go_ret2
     exact⟨by rw[HSY.out];rfl,W9.out⟩
    have hk8:((K:Int)==0)=false:=zAe (by omega)
    have hne:s≠ []:=fun e=>by rw[e] at HKS;exact hk9 HKS.out
    have HLQ:=lH hlq
    clear hlq R1 P1 M1 FB HBR
    go_wp2_with fail
    go_roundg (g-1)
    case measure=>omega
    case rel=>exact⟨acc,fr.nxt,s,qs',rfl,hne,by have:=HLQ.out;have:=HKS.out;have:=HNS.out;omega,by omega,R2,HI2⟩
   have d9:((a:Int)==(fr.til:Int))=false:=zAe (by omega)
   obtain⟨f',x,r,qs',rfl,hta,hwx⟩:=HI.out.node hz
   obtain⟨b0,off0,rfl,hnT,han,hnc,hst⟩:=zMl HSA.out hta
   clear hnT
   obtain⟨sa,sn,sc_,ba,bn_,bc,h0,h1,h2,h3,h4,h5,hck,hbg,htl,hkl⟩:=hst
   have HWX:=lH hwx
   have HCK:=lH hck
   have HBG:=lH hbg
   have HTL:=lH (show x.text.length≤2000000 from htl)
   have HKL:=lH hkl
   obtain⟨FN,hFN⟩: ∃FN,FN=(stpOf (cnt f') a x).fin:=⟨_,rfl⟩
   rw[←hFN] at h5
   have HFN:=lH hFN
   obtain⟨KK,TT,OO,cs⟩:=x
   have v0:=cK (show w.cell? ⟨b0,off0+a*6,none⟩=some (.int .i64 KK) from h0) P1.out.bel
   have v1:=cK (show w.cell? ⟨b0,off0+a*6+1,none⟩=some (.string ⟨TT.toArray⟩) from h1) P1.out.bel
   have v2:=cK (show w.cell? ⟨b0,off0+a*6+2,none⟩=some (.int .i64 OO) from h2) P1.out.bel
   have v3:=cK h3 P1.out.bel
   have v4:=cK h4 P1.out.bel
   have v5:=cK h5 P1.out.bel
   have vl:=World.block_lt_of_cell? _ _ v0
   have z0:w3.cell? ⟨pc,0,none⟩=some (.slice (some ⟨b0,off0,none⟩) n c):=P1.out.cb.cell 0 _ rfl
   have zl:=P1.out.cb.lt
   have ha0:(0:Int)≤(a:Int):=by omega
   have ha1:(a:Int)<(n:Int):=by omega
   have hanc:a<c:=by omega
   have HZ:=lH hz
   have hval:=zHD args TT
   have HLKA:=lH fun (wx:World) (h:MapAt argV B (mapOf args) wx)=>zK9 h TT
   have hnum:KK=3∨KK=4→(valA args TT).1=true:=hwx.num
   have hbn:=fun h=>HAF.out.num _ (zJm (args:=args) (t:=TT) h) h
   have htx:=zHE HAF.out.txt TT
   rw[hval] at hnum
   obtain⟨ag,hag⟩: ∃ag,ag=argOf args TT:=⟨_,rfl⟩
   rw[←hag] at HLKA hnum hbn htx hval
   obtain⟨an,bn,co,sc,tx⟩:=ag
   dsimp only at hnum hbn htx hval
   have HVAL:=lH hval
   have OS4:=lH (zBc w3 #[.int .i64 KK,.string ⟨TT.toArray⟩,.int .i64 OO,.slice sa sn sc_,.slice ba bn_ bc,.int .i64 (FN:Int)] 81)
   have HPL:=lH FB.out.lt
   have SB4:=lH (Boxed.made w3 #[.int .i64 KK,.string ⟨TT.toArray⟩,.int .i64 OO,.slice sa sn sc_,.slice ba bn_ bc,.int .i64 (FN:Int)] 81)
   have FB4:=lH (FB.out.below (bA w3 (.cells #[.int .i64 KK,.string ⟨TT.toArray⟩,.int .i64 OO,.slice sa sn sc_,.slice ba bn_ bc,.int .i64 (FN:Int)] 81)))
   have R4:=lH (R1.out.below (bA w3 (.cells #[.int .i64 KK,.string ⟨TT.toArray⟩,.int .i64 OO,.slice sa sn sc_,.slice ba bn_ bc,.int .i64 (FN:Int)] 81)))
   have P4:=lH (P1.out.below (bA w3 (.cells #[.int .i64 KK,.string ⟨TT.toArray⟩,.int .i64 OO,.slice sa sn sc_,.slice ba bn_ bc,.int .i64 (FN:Int)] 81)))
   have M4:=lH (M1.out.below (bA w3 (.cells #[.int .i64 KK,.string ⟨TT.toArray⟩,.int .i64 OO,.slice sa sn sc_,.slice ba bn_ bc,.int .i64 (FN:Int)] 81)))
   clear h0 h1 h2 h3 h4 h5 hck hbg htl hkl hwx hta hFN hag hval hz R1 P1 M1 FB HBR
   go_upto_region 23 with fail
   generalize w3.alloc (.cells #[.int .i64 KK,.string ⟨TT.toArray⟩,.int .i64 OO,.slice sa sn sc_,.slice ba bn_ bc,.int .i64 (FN:Int)] 81)=w4 at*
   clear v0 v1 v2 v3 v4 v5 vl z0 zl d0 d1 d2 d3 dl d9 ha0 ha1 hanc
   obtain⟨ps,hps⟩: ∃ps,ps=w3.heap.size:=⟨_,rfl⟩
   rw[←hps] at SB4 OS4
   rw[←hps]
   have HPS:=lH (show pt<ps from by rw[hps];exact HPL.out)
   clear hps
   have y0:w4.cell? ⟨ps,0,none⟩=some (.int .i64 KK):=SB4.out.cell 0 _ rfl
   have y1:w4.cell? ⟨ps,1,none⟩=some (.string ⟨TT.toArray⟩):=SB4.out.cell 1 _ rfl
   have y2:w4.cell? ⟨ps,2,none⟩=some (.int .i64 OO):=SB4.out.cell 2 _ rfl
   have y3:w4.cell? ⟨ps,3,none⟩=some (.slice sa sn sc_):=SB4.out.cell 3 _ rfl
   have y4:w4.cell? ⟨ps,4,none⟩=some (.slice ba bn_ bc):=SB4.out.cell 4 _ rfl
   have y5:w4.cell? ⟨ps,5,none⟩=some (.int .i64 (FN:Int)):=SB4.out.cell 5 _ rfl
   have yl:=SB4.out.lt
   have LK:=HLKA.out w4 M4.out
   have LK':(Instr.lookup 68 (.map (some B)) (.string ⟨TT.toArray⟩) false).run Tryz.prog w4= .ok (.agg #[.string ⟨an.toArray⟩,.bool bn,.int .i64 co,.int .i64 sc,.string ⟨tx.toArray⟩]) w4:=LK
   have OS5:=lH (((bA w4 (.cells #[.string ⟨an.toArray⟩,.bool bn,.int .i64 co,.int .i64 sc,.string ⟨tx.toArray⟩] 70)).block ps (zAf OS4.out)).trans OS4.out)
   have AB5:=lH (Boxed.made w4 #[.string ⟨an.toArray⟩,.bool bn,.int .i64 co,.int .i64 sc,.string ⟨tx.toArray⟩] 70)
   have SB5:=lH (SB4.out.below (bA w4 (.cells #[.string ⟨an.toArray⟩,.bool bn,.int .i64 co,.int .i64 sc,.string ⟨tx.toArray⟩] 70)))
   have FB5:=lH (FB4.out.below (bA w4 (.cells #[.string ⟨an.toArray⟩,.bool bn,.int .i64 co,.int .i64 sc,.string ⟨tx.toArray⟩] 70)))
   have R5:=lH (R4.out.below (bA w4 (.cells #[.string ⟨an.toArray⟩,.bool bn,.int .i64 co,.int .i64 sc,.string ⟨tx.toArray⟩] 70)))
   have P5:=lH (P4.out.below (bA w4 (.cells #[.string ⟨an.toArray⟩,.bool bn,.int .i64 co,.int .i64 sc,.string ⟨tx.toArray⟩] 70)))
   have HPA0:=lH SB4.out.lt
   clear LK HLKA
   go_upto_region 24 with fail
   generalize w4.alloc (.cells #[.string ⟨an.toArray⟩,.bool bn,.int .i64 co,.int .i64 sc,.string ⟨tx.toArray⟩] 70)=w5 at*
   clear LK' y0 y1 y2 y3 y4 y5 yl SB4 FB4 R4 P4 M4 OS4
   obtain⟨pa,hpa⟩: ∃pa,pa=w4.heap.size:=⟨_,rfl⟩
   rw[←hpa] at AB5
   rw[←hpa]
   have HPA:=lH (show ps<pa from by rw[hpa];exact HPA0.out)
   clear hpa HPA0 HPL
   have y0:w5.cell? ⟨ps,0,none⟩=some (.int .i64 KK):=SB5.out.cell 0 _ rfl
   have y1:w5.cell? ⟨ps,1,none⟩=some (.string ⟨TT.toArray⟩):=SB5.out.cell 1 _ rfl
   have y2:w5.cell? ⟨ps,2,none⟩=some (.int .i64 OO):=SB5.out.cell 2 _ rfl
   have y3:w5.cell? ⟨ps,3,none⟩=some (.slice sa sn sc_):=SB5.out.cell 3 _ rfl
   have y4:w5.cell? ⟨ps,4,none⟩=some (.slice ba bn_ bc):=SB5.out.cell 4 _ rfl
   have y5:w5.cell? ⟨ps,5,none⟩=some (.int .i64 (FN:Int)):=SB5.out.cell 5 _ rfl
   have yl:=SB5.out.lt
   have d0:w5.cell? ⟨pt,0,none⟩=some (.int .i64 (fr.til:Int)):=FB5.out.cell 0 _ rfl
   have d1:w5.cell? ⟨pt,1,none⟩=some (.int .i64 (fr.nxt:Int)):=FB5.out.cell 1 _ rfl
   have d2:w5.cell? ⟨pt,2,none⟩=some (.int .i64 fr.mc):=FB5.out.cell 2 _ rfl
   have d3:w5.cell? ⟨pt,3,none⟩=some (.int .i64 fr.ms):=FB5.out.cell 3 _ rfl
   have dl:=FB5.out.lt
   have OM6:=lH (show(w5.alloc (.cells #[.int .i64 fr.mc,.int .i64 fr.ms] 64)).drew.heap[w5.heap.size]?=some (.cells #[.int .i64 fr.mc,.int .i64 fr.ms] 64 (0,0)) from zBc w5 _ _)
   have OS6:=lH (show(w5.alloc (.cells #[.int .i64 fr.mc,.int .i64 fr.ms] 64)).drew.heap[ps]?=some (.cells #[.int .i64 KK,.string ⟨TT.toArray⟩,.int .i64 OO,.slice sa sn sc_,.slice ba bn_ bc,.int .i64 (FN:Int)] 81 (0,0)) from((bA w5 (.cells #[.int .i64 fr.mc,.int .i64 fr.ms] 64)).block ps (zAf OS5.out)).trans OS5.out)
   have MB6:=lH (Boxed.made w5 #[.int .i64 fr.mc,.int .i64 fr.ms] 64).drew
   have AB6:=lH (AB5.out.alloc (.cells #[.int .i64 fr.mc,.int .i64 fr.ms] 64)).drew
   have SB6:=lH (SB5.out.alloc (.cells #[.int .i64 fr.mc,.int .i64 fr.ms] 64)).drew
   have FB6:=lH (FB5.out.alloc (.cells #[.int .i64 fr.mc,.int .i64 fr.ms] 64)).drew
   have BB6:=lH (Below.drew (bA w5 (.cells #[.int .i64 fr.mc,.int .i64 fr.ms] 64)))
   have R6:=lH (R5.out.below BB6.out)
   have P6:=lH (P5.out.below BB6.out)
   have HPM0:=lH AB5.out.lt
   go_region
   generalize (w5.alloc (.cells #[.int .i64 fr.mc,.int .i64 fr.ms] 64)).drew=w6 at*
   clear y0 y1 y2 y3 y4 y5 yl d0 d1 d2 d3 dl SB5 FB5 R5 P5 AB5 BB6 OS5
   obtain⟨pm,hpm⟩: ∃pm,pm=w5.heap.size:=⟨_,rfl⟩
   rw[←hpm] at MB6 OM6
   rw[←hpm]
   have HPM:=lH (show pa<pm from by rw[hpm];exact HPM0.out)
   clear hpm HPM0
   have hkind:KK=1∨KK=2∨KK=3∨KK=4∨KK=5∨KK=6:=HWX.out.kind
   have wa:IntKind.i64.wrap ((a:Int)+1)=((a+1:Nat):Int):=by rw[IntWalk.i64_in _ (by have:=HCN.out;omega)];omega
   have hacc:acc.length≤240000000:=by have:=HI.out.len;exact Nat.le_trans (Nat.le_add_right _ _) this
   have HWB6:=lH (show wb.heap.size≤w6.heap.size from R6.out.bel.size)
   have WB6:=lH P6.out.bel
   have y0:w6.cell? ⟨ps,0,none⟩=some (.int .i64 KK):=SB6.out.cell 0 _ rfl
   have y1:w6.cell? ⟨ps,1,none⟩=some (.string ⟨TT.toArray⟩):=SB6.out.cell 1 _ rfl
   have y2:w6.cell? ⟨ps,2,none⟩=some (.int .i64 OO):=SB6.out.cell 2 _ rfl
   have y3:w6.cell? ⟨ps,3,none⟩=some (.slice sa sn sc_):=SB6.out.cell 3 _ rfl
   have y4:w6.cell? ⟨ps,4,none⟩=some (.slice ba bn_ bc):=SB6.out.cell 4 _ rfl
   have y5:w6.cell? ⟨ps,5,none⟩=some (.int .i64 (FN:Int)):=SB6.out.cell 5 _ rfl
   have yl:=SB6.out.lt
   have a0:w6.cell? ⟨pa,0,none⟩=some (.string ⟨an.toArray⟩):=AB6.out.cell 0 _ rfl
   have a1:w6.cell? ⟨pa,1,none⟩=some (.bool bn):=AB6.out.cell 1 _ rfl
   have a2:w6.cell? ⟨pa,2,none⟩=some (.int .i64 co):=AB6.out.cell 2 _ rfl
   have a3:w6.cell? ⟨pa,3,none⟩=some (.int .i64 sc):=AB6.out.cell 3 _ rfl
   have a4:w6.cell? ⟨pa,4,none⟩=some (.string ⟨tx.toArray⟩):=AB6.out.cell 4 _ rfl
   have al:=AB6.out.lt
   have d0:w6.cell? ⟨pt,0,none⟩=some (.int .i64 (fr.til:Int)):=FB6.out.cell 0 _ rfl
   have d1:w6.cell? ⟨pt,1,none⟩=some (.int .i64 (fr.nxt:Int)):=FB6.out.cell 1 _ rfl
   have d2:w6.cell? ⟨pt,2,none⟩=some (.int .i64 fr.mc):=FB6.out.cell 2 _ rfl
   have d3:w6.cell? ⟨pt,3,none⟩=some (.int .i64 fr.ms):=FB6.out.cell 3 _ rfl
   have dl:=FB6.out.lt
   have m0:w6.cell? ⟨pm,0,none⟩=some (.int .i64 fr.mc):=MB6.out.cell 0 _ rfl
   have mf0:=MB6.out.free 0 (by simp)
   have m1:w6.cell? ⟨pm,1,none⟩=some (.int .i64 fr.ms):=MB6.out.cell 1 _ rfl
   have mf1:=MB6.out.free 1 (by simp)
   have ml:=MB6.out.lt
   rcases hkind with rfl|rfl|rfl|rfl|rfl|rfl
   ·have HTX:=HI.out.text (by show ¬((1:Int)=4∨(1:Int)=5);decide) (t:=TT) (rfl) (by have:=HTL.out;exact Nat.le_trans this (by decide))
    have HI8:=lH HTX.1
    have HLT:=lH HTX.2
    clear HTX
    have CW:=lH (zBs wb.heap.size wb.heap.size acc (TT) w6 R6.out.blt (by have:TT.length≤2000000:=HTL.out;omega) (by have:=R6.out.bel.size;omega))
    rw[HWB.out] at CW
    go_wp2_with fail
    refine CW.out.mono ?_
    rintro e w8 ⟨rfl,hbl,hbw,hoth⟩
    rw[←HWB.out] at hbl hbw hoth
    have R8:=lH (R6.out.wrote hbl hbw hoth)
    clear hbl hbw hoth CW R6
    go_wp2_with fail
    go_roundg (g-1)
    case measure=>have:=HLT.out;omega
    case rel=>exact⟨acc++(TT),a+1,fr::s,(f'+1,r)::qs',by go_num,by simp,by have:=HLT.out;have:=HKS.out;have:=HNS.out;rw[List.length_cons];omega,by omega,R8,HI8⟩
   ·cases bn with
    |false=>
     have hsd:saidX (evS [t0,t1,t2,t3,t4]) (valA args) (saidM (evS [t0,t1,t2,t3,t4]) (valA args) f') fr.mc fr.ms (.mk 2 TT OO cs)=some tx:=by
      show some (if (valA args TT).1 then Byt.decText (valA args TT).2.1 (valA args TT).2.2.1 else (valA args TT).2.2.2)=_
      rw[HVAL.out]
      rfl
     have HTX:=HI.out.text (by show ¬((2:Int)=4∨(2:Int)=5);decide) (t:=tx) (hsd) (Nat.le_trans htx (by decide))
     have HI8:=lH HTX.1
     have HLT:=lH HTX.2
     clear HTX
     have CW:=lH (zBs wb.heap.size wb.heap.size acc (tx) w6 R6.out.blt (by omega) (by have:=R6.out.bel.size;omega))
     rw[HWB.out] at CW
     go_wp2_with fail
     refine CW.out.mono ?_
     rintro e w8 ⟨rfl,hbl,hbw,hoth⟩
     rw[←HWB.out] at hbl hbw hoth
     have R8:=lH (R6.out.wrote hbl hbw hoth)
     clear hbl hbw hoth CW R6
     go_wp2_with fail
     go_roundg (g-1)
     case measure=>have:=HLT.out;omega
     case rel=>exact⟨acc++(tx),a+1,fr::s,(f'+1,r)::qs',by go_num,by simp,by have:=HLT.out;have:=HKS.out;have:=HNS.out;rw[List.length_cons];omega,by omega,R8,HI8⟩
    |true=>
     have hok:okD co sc:=hbn rfl
     obtain⟨NM,hnm⟩: ∃NM,NM=Byt.decText co sc:=⟨_,rfl⟩
     have HNM:=lH hnm
     clear hnm
     have hsd:saidX (evS [t0,t1,t2,t3,t4]) (valA args) (saidM (evS [t0,t1,t2,t3,t4]) (valA args) f') fr.mc fr.ms (.mk 2 TT OO cs)=some NM:=by
      rw[HNM.out]
      show some (if (valA args TT).1 then Byt.decText (valA args TT).2.1 (valA args TT).2.2.1 else (valA args TT).2.2.2)=_
      rw[HVAL.out]
      rfl
     have HTX:=HI.out.text (by show ¬((2:Int)=4∨(2:Int)=5);decide) (t:=NM) (hsd) (by rw[HNM.out];exact Nat.le_trans (zEH _ _ hok) (by decide))
     have HI8:=lH HTX.1
     have HLT:=lH HTX.2
     clear HTX
     have CN:=lH (zFc co sc w6 (HEV.out.below WB6.out).t.p hok)
     rw[←HNM.out] at CN
     have HNL2:=lH (show NM.length≤700 from by rw[HNM.out];exact Nat.le_trans (zEH _ _ hok) (by decide))
     clear hok HNM hsd
     go_wp2_with fail
     refine CN.out.mono ?_
     rintro e w7 ⟨rfl,hb⟩
     have R7:=lH (R6.out.below hb)
     clear hb CN R6
     have CW:=lH (zBs wb.heap.size wb.heap.size acc (NM) w7 R7.out.blt (by have:=HNL2.out;omega) (by have:=R7.out.bel.size;omega))
     rw[HWB.out] at CW
     go_wp2_with fail
     refine CW.out.mono ?_
     rintro e w8 ⟨rfl,hbl,hbw,hoth⟩
     rw[←HWB.out] at hbl hbw hoth
     have R8:=lH (R7.out.wrote hbl hbw hoth)
     clear hbl hbw hoth CW R7
     go_wp2_with fail
     go_roundg (g-1)
     case measure=>have:=HLT.out;omega
     case rel=>exact⟨acc++(NM),a+1,fr::s,(f'+1,r)::qs',by go_num,by simp,by have:=HLT.out;have:=HKS.out;have:=HNS.out;rw[List.length_cons];omega,by omega,R8,HI8⟩
   ·have hok:okD co sc:=hbn (hnum (.inl rfl))
    obtain⟨NM,hnm⟩: ∃NM,NM=numM co sc:=⟨_,rfl⟩
    have HNM:=lH hnm
    clear hnm
    have hsd:saidX (evS [t0,t1,t2,t3,t4]) (valA args) (saidM (evS [t0,t1,t2,t3,t4]) (valA args) f') fr.mc fr.ms (.mk 3 TT OO cs)=some NM:=by
     rw[HNM.out]
     show some (numM (valA args TT).2.1 (valA args TT).2.2.1)=_
     rw[HVAL.out]
    have HTX:=HI.out.text (by show ¬((3:Int)=4∨(3:Int)=5);decide) (t:=NM) (hsd) (by rw[HNM.out];exact Nat.le_trans (zBD _ _ hok) (by decide))
    have HI8:=lH HTX.1
    have HLT:=lH HTX.2
    clear HTX
    have CN:=lH (zDH co sc w6 (HEV.out.below WB6.out).n (HEV.out.below WB6.out).t.p (HEV.out.below WB6.out).t.m hok)
    rw[←HNM.out] at CN
    have HNL2:=lH (show NM.length≤700 from by rw[HNM.out];exact zBD _ _ hok)
    clear hok HNM hsd
    go_wp2_with fail
    refine CN.out.mono ?_
    rintro e w7 ⟨rfl,hb⟩
    have R7:=lH (R6.out.below hb)
    clear hb CN R6
    have CW:=lH (zBs wb.heap.size wb.heap.size acc (NM) w7 R7.out.blt (by have:=HNL2.out;omega) (by have:=R7.out.bel.size;omega))
    rw[HWB.out] at CW
    go_wp2_with fail
    refine CW.out.mono ?_
    rintro e w8 ⟨rfl,hbl,hbw,hoth⟩
    rw[←HWB.out] at hbl hbw hoth
    have R8:=lH (R7.out.wrote hbl hbw hoth)
    clear hbl hbw hoth CW R7
    go_wp2_with fail
    go_roundg (g-1)
    case measure=>have:=HLT.out;omega
    case rel=>exact⟨acc++(NM),a+1,fr::s,(f'+1,r)::qs',by go_num,by simp,by have:=HLT.out;have:=HKS.out;have:=HNS.out;rw[List.length_cons];omega,by omega,R8,HI8⟩
   ·obtain⟨iF,hiF,hiF3⟩:=Option.map_eq_some_iff.1 infoFrame
    obtain⟨hF0,hF12⟩:=Prod.mk.inj hiF3
    obtain⟨hF1,hF2⟩:=Prod.mk.inj hF12
    clear hiF3 hF12
    have HFS:=lH (show(fr::s).length=NL from by have:=HKS.out;have:=HNS.out;rw[List.length_cons];omega)
    have HNB:=lH (show NL≤1000000 from by omega)
    have hcs0:cs≠ []:=HWX.out.some (.inl rfl)
    have hnd:(cs.map (·.1)).Nodup:=HWX.out.once (.inl rfl)
    have HCS6:=lH (show CassAt 1 w6 (.slice sa sn sc_) (cs.map fun y=>(y.1,([]:List Nd))) from by
     have h:=zAm HCK.out WB6.out
     have e:(stpOf (cnt f') a (.mk 4 TT OO cs)).keys.map keyC=cs.map fun y=>(y.1,([]:List Nd)):=by
      show((casesOf (.mk 4 TT OO cs)).map (·.1)).map keyC=_
      rw[show casesOf (.mk 4 TT OO cs)=cs from if_pos (.inl rfl),List.map_map]
      rfl
     rw[e] at h
     exact h)
    have HKL2:=lH (show(cs.map fun y=>(y.1,([]:List Nd))).length≤2000000 from by
     have h:=HKL.out
     have e:(stpOf (cnt f') a (.mk 4 TT OO cs)).keys=cs.map (·.1):=by
      show(casesOf (.mk 4 TT OO cs)).map (·.1)=_
      rw[show casesOf (.mk 4 TT OO cs)=cs from if_pos (.inl rfl)]
     rw[e,List.length_map] at h
     rw[List.length_map]
     exact h)
    have hoff:0≤OO∧OO≤9:=HWX.out.off rfl
    have hok4:okD co sc:=hbn (hnum (.inr rfl))
    have CAS:=lH (zLa 4 TT OO (.slice sa sn sc_) (cs.map fun y=>(y.1,([]:List Nd))) t0 t1 t2 t3 t4 co sc w6 (HEV.out.below WB6.out).t (HEV.out.below WB6.out).k HSF.out hok4 hoff HCS6.out HKL2.out)
    have s0:w6.cell? ⟨pz,0,none⟩=some (.string ⟨t0.toArray⟩):=P6.out.sb.cell 0 _ rfl
    have s1:w6.cell? ⟨pz,1,none⟩=some (.string ⟨t1.toArray⟩):=P6.out.sb.cell 1 _ rfl
    have s2:w6.cell? ⟨pz,2,none⟩=some (.string ⟨t2.toArray⟩):=P6.out.sb.cell 2 _ rfl
    have s3:w6.cell? ⟨pz,3,none⟩=some (.string ⟨t3.toArray⟩):=P6.out.sb.cell 3 _ rfl
    have s4:w6.cell? ⟨pz,4,none⟩=some (.string ⟨t4.toArray⟩):=P6.out.sb.cell 4 _ rfl
    have sl:=P6.out.sb.lt
    have hsd0:saidX (evS [t0,t1,t2,t3,t4]) (valA args) (saidM (evS [t0,t1,t2,t3,t4]) (valA args) f') fr.mc fr.ms (.mk 4 TT OO cs)=match (evS [t0,t1,t2,t3,t4]).less co sc OO with|none=>none|some l=>saidM (evS [t0,t1,t2,t3,t4]) (valA args) f' l.1 l.2 (bodyI (.mk 4 TT OO cs) (cntI (evS [t0,t1,t2,t3,t4]) cs co sc l.1 l.2)):=by
     show(match (evS [t0,t1,t2,t3,t4]).less (valA args TT).2.1 (valA args TT).2.2.1 OO with|none=>none|some l=>saidM (evS [t0,t1,t2,t3,t4]) (valA args) f' l.1 l.2 (bodyI (.mk 4 TT OO cs) (cntI (evS [t0,t1,t2,t3,t4]) cs (valA args TT).2.1 (valA args TT).2.2.1 l.1 l.2)))=_
     rw[HVAL.out]
    unfold caseV at CAS
    cases hless:(evS [t0,t1,t2,t3,t4]).less co sc OO with
    |none=>
     rw[hless] at CAS hsd0
     have HSY:=lH (HI.out.none' hsd0)
     clear hsd0 hless hnd hcs0 hoff hok4 HCS6 HKL2
     dsimp only at CAS
     go_wp2_with fail
     refine CAS.out.mono ?_
     rintro e w7 ⟨rfl,hb⟩
     have R7:=lH (R6.out.below hb)
     have OM7:=lH ((hb.block pm (zAf OM6.out)).trans OM6.out)
     have WB7:=lH (bT WB6.out hb)
     have HPM7:=lH (show w.heap.size≤pm from by have:=PZ.out.bel.size;have:=HPT.out;have:=HPS.out;have:=HPA.out;have:=HPM.out;have:=HWB.out;omega)
     clear hb CAS R6 OM6 m0 m1 mf0 mf1 ml y0 y1 y2 y3 y4 y5 yl a0 a1 a2 a3 a4 al d0 d1 d2 d3 dl
     have m0:w7.cell? ⟨pm,0,none⟩=some (.int .i64 fr.mc):=by rw[Lib.cell_of_heap OM7.out];rfl
     have m1:w7.cell? ⟨pm,1,none⟩=some (.int .i64 fr.ms):=by rw[Lib.cell_of_heap OM7.out];rfl
     have mf0:=Lib.frozen_of_heap OM7.out 0
     have mf1:=Lib.frozen_of_heap OM7.out 1
     have ml:=zAf OM7.out
     go_wp2_with fail
     go_ret2
     exact⟨by rw[HSY.out];rfl,by repeat(first|with_reducible exact WB7.out|refine Below.setCell ?_ (by exact HPM7.out) _)⟩
    |some l=>
     rw[hless] at CAS hsd0
     obtain⟨lc,ls⟩:=l
     dsimp only at CAS hsd0
     rw[zJo] at CAS
     obtain⟨ix,hixe⟩: ∃ix,ix=cntI (evS [t0,t1,t2,t3,t4]) cs co sc lc ls:=⟨_,rfl⟩
     rw[←hixe] at CAS hsd0
     have hix:ix<cs.length:=by rw[hixe];exact zHB hcs0 co sc lc ls
     have hsd:=hsd0
     have hokm:okD lc ls:=zDZ hless
     clear hixe hnd hcs0 hsd0 hless hoff hok4
     obtain⟨Y,hY⟩: ∃Y,cs[ix]?=some Y:=⟨cs[ix]'hix,List.getElem?_eq_getElem hix⟩
     have hbody:bodyI (.mk 4 TT OO cs) ix=Y.2:=by show((cs[ix]?).map (·.2)).getD []=_;rw[hY];rfl
     obtain⟨p9,e9,hp9,he9,hI9,hlt9⟩:=HI.out.case (.inl rfl) (show(Nd.mk 4 TT OO cs).cases[ix]?=some Y from hY) (mc:=lc) (ms:=ls) hokm (by rw[hsd,hbody])
     obtain⟨bb,bo,hba,hb1n,hb2n,hcell0⟩:=zEk HBG.out hp9
     obtain⟨bb',bo',hba',hb3n,_,hcell1⟩:=zEk HBG.out he9
     rw[hba] at hba'
     injection hba' with hba'
     injection hba' with hbb hbo
     subst hbb hbo
     subst hba
     have HI9:=lH hI9
     have HLT:=lH hlt9
     have NB0:=lH hcell0
     have NB1:=lH hcell1
     have HBN:=lH hb3n
     have HBC:=lH (show ix≤1000000000 from by have:=HKL2.out;rw[List.length_map] at this;omega)
     clear hp9 he9 hI9 hlt9 hcell0 hcell1 hb1n hb2n hb3n hbody hY hix hsd hokm
     clear HCS6 HKL2 HCK HBG HKL HWX HTL HVAL
     go_upto_region 37 with fail
     go_wp2_with fail
     refine CAS.out.mono ?_
     rintro e w7 ⟨rfl,hb⟩
     have R7:=lH (R6.out.below hb)
     have OS7:=lH ((hb.block ps (zAf OS6.out)).trans OS6.out)
     have OM7:=lH ((hb.block pm (zAf OM6.out)).trans OM6.out)
     have WB7:=lH (bT WB6.out hb)
     clear hb CAS R6 OS6 OM6 m0 m1 mf0 mf1 ml
     have m0:w7.cell? ⟨pm,0,none⟩=some (.int .i64 fr.mc):=by rw[Lib.cell_of_heap OM7.out];rfl
     have m1:w7.cell? ⟨pm,1,none⟩=some (.int .i64 fr.ms):=by rw[Lib.cell_of_heap OM7.out];rfl
     have mf0:=Lib.frozen_of_heap OM7.out 0
     have mf1:=Lib.frozen_of_heap OM7.out 1
     have ml:=zAf OM7.out
     have HLP:=lH (show wb.heap.size≤pm from by have:=HPT.out;have:=HPS.out;have:=HPA.out;have:=HPM.out;have:=HWB.out;omega)
     have hpsm:ps≠pm:=by have:=HPA.out;have:=HPM.out;omega
     have OMA:=lH (zBg OM7.out 0 (.int .i64 lc))
     have RA7:=lH (R7.out.set OM7.out HLP.out 0 (.int .i64 lc))
     have RB7:=lH (RA7.out.set OMA.out HLP.out 1 (.int .i64 ls))
     have OMB:=lH (zBg OMA.out 1 (.int .i64 ls))
     have OSB:=lH ((Below.heap_setCell (w7.setCell ⟨pm,0,none⟩ (.int .i64 lc)) ⟨pm,1,none⟩ (.int .i64 ls) ps hpsm).trans ((Below.heap_setCell w7 ⟨pm,0,none⟩ (.int .i64 lc) ps hpsm).trans OS7.out))
     have WBB:=lH ((WB7.out.setCell (p:=⟨pm,0,none⟩) (Nat.le_trans PZ.out.bel.size HLP.out) (.int .i64 lc)).setCell (p:=⟨pm,1,none⟩) (Nat.le_trans PZ.out.bel.size HLP.out) (.int .i64 ls))
     go_upto_region 40 with fail
     generalize World.setCell (World.setCell w7 ⟨pm,0,none⟩ (.int .i64 lc)) ⟨pm,1,none⟩ (.int .i64 ls)=w7b at*
     clear m0 m1 mf0 mf1 ml R7 OS7 OM7 WB7 OMA RA7 hpsm HLP
     have CW:=lH (zBs wb.heap.size wb.heap.size acc [] w7b RB7.out.blt (by rw[List.length_nil];omega) (by have:=RB7.out.bel.size;omega))
     rw[HWB.out,List.append_nil] at CW
     go_wp2_with fail
     refine CW.out.mono ?_
     rintro e w8 ⟨rfl,hbl,hbw,hoth⟩
     rw[←HWB.out] at hbl hbw hoth
     have R8:=lH (RB7.out.wrote hbl hbw hoth)
     have OS8:=lH (zBT hoth OSB.out (RB7.out.nb OSB.out (by decide)) (by decide))
     have OM8:=lH (zBT hoth OMB.out (RB7.out.nb OMB.out (by decide)) (by decide))
     have WB8:=lH (show Below w.heap.size w w8 from WBB.out.trans (hbw.mono PZ.out.bel.size))
     have n1':=lH NB1.out
     clear hbl hbw hoth CW RB7 OSB OMB y0 y1 y2 y3 y4 y5 yl a0 a1 a2 a3 a4 al d0 d1 d2 d3 dl
     have to0:decide ((ix:Int)<0)=false:=zAa (by omega)
     have wto:IntKind.i64.wrap ((ix:Int)+1)=((ix+1:Nat):Int):=by rw[IntWalk.i64_in _ (by have:=HBC.out;omega)];omega
     have to1:(0:Int)≤(ix:Int)+1:=by omega
     have to2:(ix:Int)+1<(bn_:Int):=by have:=HBN.out;omega
     have nb1:=cK NB1.out WB8.out
     have nb0:=cK NB0.out WB8.out
     have y4:w8.cell? ⟨ps,4,none⟩=some (.slice (some ⟨bb,bo,none⟩) bn_ bc):=by rw[Lib.cell_of_heap OS8.out];rfl
     have y5:w8.cell? ⟨ps,5,none⟩=some (.int .i64 (FN:Int)):=by rw[Lib.cell_of_heap OS8.out];rfl
     have m0:w8.cell? ⟨pm,0,none⟩=some (.int .i64 lc):=by rw[Lib.cell_of_heap OM8.out];rfl
     have m1:w8.cell? ⟨pm,1,none⟩=some (.int .i64 ls):=by rw[Lib.cell_of_heap OM8.out];rfl
     go_upto_region 45 with fail
     refine wp_region_held_drew (S:=fun w'=>w'.cell? ⟨ps,4,none⟩=some (.slice (some ⟨bb,bo,none⟩) bn_ bc)∧w'.cell? ⟨ps,5,none⟩=some (.int .i64 (FN:Int))∧w'.cell? ⟨pm,0,none⟩=some (.int .i64 lc)∧w'.cell? ⟨pm,1,none⟩=some (.int .i64 ls)∧w'.cell? ⟨bb,bo+(ix+1),none⟩=some (.int .i64 (e9:Int))) (by kernel_rfl) ⟨y4,y5,m0,m1,nb1⟩ (fun hY9=>?_)
     have BD:=lH (Below.drew (Below.refl w8.heap.size w8))
     have R9:=lH (R8.out.below BD.out)
     have OS9:=lH (show w8.drew.heap[ps]?=_ from OS8.out)
     have OM9:=lH (show w8.drew.heap[pm]?=_ from OM8.out)
     have WB9:=lH (bT WB8.out BD.out)
     generalize w8.drew=wz at*
     clear y4 y5 m0 m1 nb1 nb0 R8 OS8 OM8 WB8 BD
     refine tkr (d:=some 148) (v:=?v13) 0 rfl rfl hY9 ?hy13 ?rs13
     case hy13=>(intro w hSw;(try dsimp only at hSw);go_simp)<;>(try with_reducible rfl)
     (try simp only[Act.put,aI,aO,aS])
     refine tkr (d:=some 149) (v:=?v14) 1 rfl rfl hY9 ?hy14 ?rs14
     case hy14=>(intro w hSw;(try dsimp only at hSw);go_simp)<;>(try with_reducible rfl)
     (try simp only[Act.put,aI,aO,aS])
     refine tkr (d:=some 150) (v:=?v15) 2 rfl rfl hY9 ?hy15 ?rs15
     case hy15=>(intro w hSw;(try dsimp only at hSw);go_simp)<;>(try with_reducible rfl)
     (try simp only[Act.put,aI,aO,aS])
     refine tkr (d:=some 151) (v:=?v16) 3 rfl rfl hY9 ?hy16 ?rs16
     case hy16=>(intro w hSw;(try dsimp only at hSw);go_simp)<;>(try with_reducible rfl)
     (try simp only[Act.put,aI,aO,aS])
     refine tkr (d:=some 152) (v:=?v17) 4 rfl rfl hY9 ?hy17 ?rs17
     case hy17=>(intro w hSw;(try dsimp only at hSw);go_simp)<;>(try with_reducible rfl)
     (try simp only[Act.put,aI,aO,aS])
     refine tkr (d:=some 153) (v:=?v18) 5 rfl rfl hY9 ?hy18 ?rs18
     case hy18=>(intro w hSw;(try dsimp only at hSw);go_simp)<;>(try with_reducible rfl)
     (try simp only[Act.put,aI,aO,aS])
     refine tkr (d:=some 154) (v:=?v19) 6 rfl rfl hY9 ?hy19 ?rs19
     case hy19=>(intro w hSw;(try dsimp only at hSw);go_simp)<;>(try with_reducible rfl)
     (try simp only[Act.put,aI,aO,aS])
     refine tkr (d:=some 155) (v:=?v20) 7 rfl rfl hY9 ?hy20 ?rs20
     case hy20=>(intro w hSw;(try dsimp only at hSw);go_simp)<;>(try with_reducible rfl)
     (try simp only[Act.put,aI,aO,aS])
     refine tkr (d:=some 156) (v:=?v21) 8 rfl rfl hY9 ?hy21 ?rs21
     case hy21=>(intro w hSw;(try dsimp only at hSw);go_simp)<;>(try with_reducible rfl)
     (try simp only[Act.put,aI,aO,aS])
     refine tkr (d:=some 157) (v:=?v22) 9 rfl rfl hY9 ?hy22 ?rs22
     case hy22=>(intro w hSw;(try dsimp only at hSw);go_simp)<;>(try with_reducible rfl)
     (try simp only[Act.put,aI,aO,aS])
     refine tkr (d:=some 158) (v:=?v23) 10 rfl rfl hY9 ?hy23 ?rs23
     case hy23=>(intro w hSw;(try dsimp only at hSw);go_simp)<;>(try with_reducible rfl)
     (try simp only[Act.put,aI,aO,aS])
     refine zAc 11 rfl (by kernel_rfl) (by rfl) (fun K hK=>?_)
     go_simp
     have HCN9:=lH (Boxed.made wz #[.int .i64 (e9:Int),.int .i64 (FN:Int),.int .i64 lc,.int .i64 ls] 76)
     have BA9:=lH (bA wz (.cells #[.int .i64 (e9:Int),.int .i64 (FN:Int),.int .i64 lc,.int .i64 ls] 76))
     replace OS9:=lH ((BA9.out.block ps (zAf OS9.out)).trans OS9.out)
     replace OM9:=lH ((BA9.out.block pm (zAf OM9.out)).trans OM9.out)
     replace R9:=lH (R9.out.below BA9.out)
     replace WB9:=lH (bT WB9.out BA9.out)
     refine hK.out _ _ (⟨cK hY9.1 (bA _ _),cK hY9.2.1 (bA _ _),cK hY9.2.2.1 (bA _ _),cK hY9.2.2.2.1 (bA _ _),cK hY9.2.2.2.2 (bA _ _)⟩) (fun hY9=>?_)
     clear hK K
     (try simp only[Act.put,aI,aO,aS])
     generalize World.alloc wz (.cells #[.int .i64 (e9:Int),.int .i64 (FN:Int),.int .i64 lc,.int .i64 ls] 76)=wy at*
     clear BA9
     refine zAc 12 rfl (by kernel_rfl) (by rfl) (fun K hK=>?_)
     refine zA6 _ _ _ 77 rfl wb.heap.size 76 iF _ 4 32 Tryz.underlying77 hiF hF0 hF1 hF2 rfl (by decide) (.slice (some ⟨g0,0,none⟩) NL cap0) NL ((fr::s).reverse.flatMap fEnc) (by simp[go_sem]) (by have:=R9.out.row;rwa [HFS.out] at this) ⟨_,0,none⟩ 1 1 [.int .i64 (e9:Int),.int .i64 (FN:Int),.int .i64 lc,.int .i64 ls] (by simp[go_sem]) rfl (zAJ HCN9.out) (fun u hu=>by simp at hu;rcases hu with rfl|rfl|rfl|rfl<;>rfl) (by have:=HNB.out;unfold maxLen;omega) (by have:=HNB.out;omega) R9.out.bel.size ?_
     intro sv' w10 hown hgrow _
     obtain⟨sa',sc',rfl⟩:=zAG hown
     have RA:=lH (show RunI wb acc (⟨e9,FN,lc,ls⟩::fr::s) (.slice sa' (NL+1) sc') w10 from R9.out.push ⟨e9,FN,lc,ls⟩ (by rw[HFS.out];exact hown) hgrow)
     have hps9:=hgrow.block ps (zAf OS9.out) (R9.out.ne OS9.out (by decide))
     have hpm9:=hgrow.block pm (zAf OM9.out) (R9.out.ne OM9.out (by decide))
     have WBA:=lH (show Below w.heap.size w w10 from WB9.out.grown hgrow WB9.out.size (fun k hk=>Nat.le_trans PZ.out.bel.size (zAk R9.out.row hk).1))
     have nb1:=cK NB1.out WBA.out
     have hb1:World.cell? w10 ⟨ps,4,none⟩=some (.slice (some ⟨bb,bo,none⟩) bn_ bc)∧World.cell? w10 ⟨ps,5,none⟩=some (.int .i64 (FN:Int))∧World.cell? w10 ⟨pm,0,none⟩=some (.int .i64 lc)∧World.cell? w10 ⟨pm,1,none⟩=some (.int .i64 ls)∧World.cell? w10 ⟨bb,bo+(ix+1),none⟩=some (.int .i64 (e9:Int)):=⟨(World.cell?_of_block (a:=⟨ps,4,none⟩) hps9).trans hY9.1,(World.cell?_of_block (a:=⟨ps,5,none⟩) hps9).trans hY9.2.1,(World.cell?_of_block (a:=⟨pm,0,none⟩) hpm9).trans hY9.2.2.1,(World.cell?_of_block (a:=⟨pm,1,none⟩) hpm9).trans hY9.2.2.2.1,nb1⟩
     have y4:=hb1.1
     clear hown hgrow hps9 hpm9 hY9 nb1
     refine hK.out _ _ hb1 (fun hY9=>?_)
     clear hK K hb1 R9 HCN9 OS9 OM9 WB9
     (try simp only[Act.put,aI,aO,aS])
     refine tkr (d:=some 15) (v:=?v24) 13 rfl rfl hY9 ?hy24 ?rs24
     case hy24=>(intro w hSw;(try dsimp only at hSw);go_simp)<;>(try with_reducible rfl)
     (try simp only[Act.put,aI,aO,aS])
     refine wpAnyH_done (by kernel_rfl) ?_ _
     clear hY9
     have nb0:=cK NB0.out WBA.out
     have to3:(ix:Int)<(bn_:Int):=by have:=HBN.out;omega
     have to4:(0:Int)≤(ix:Int):=by omega
     have HI9':=lH (show SayI T (evS [t0,t1,t2,t3,t4]) (valA args) SAY acc p9 (⟨e9,FN,lc,ls⟩::fr::s) ((f',Y.2)::(f'+1,r)::qs') from by rw[HFN.out];exact HI9.out)
     clear WBA
     go_wp2_with fail
     go_roundg (g-1)
     case measure=>have:=HLT.out;omega
     case rel=>exact⟨acc,p9,⟨e9,FN,lc,ls⟩::fr::s,(f',Y.2)::(f'+1,r)::qs',by go_num,by simp,by have:=HLT.out;have:=HKS.out;have:=HNS.out;rw[List.length_cons,List.length_cons];omega,by omega,RA,HI9'⟩
   ·obtain⟨iF,hiF,hiF3⟩:=Option.map_eq_some_iff.1 infoFrame
    obtain⟨hF0,hF12⟩:=Prod.mk.inj hiF3
    obtain⟨hF1,hF2⟩:=Prod.mk.inj hF12
    clear hiF3 hF12
    have HFS:=lH (show(fr::s).length=NL from by have:=HKS.out;have:=HNS.out;rw[List.length_cons];omega)
    have HNB:=lH (show NL≤1000000 from by omega)
    have hcs0:cs≠ []:=HWX.out.some (.inr rfl)
    have hnd:(cs.map (·.1)).Nodup:=HWX.out.once (.inr rfl)
    have HCS6:=lH (show CassAt 1 w6 (.slice sa sn sc_) (cs.map fun y=>(y.1,([]:List Nd))) from by
     have h:=zAm HCK.out WB6.out
     have e:(stpOf (cnt f') a (.mk 5 TT OO cs)).keys.map keyC=cs.map fun y=>(y.1,([]:List Nd)):=by
      show((casesOf (.mk 5 TT OO cs)).map (·.1)).map keyC=_
      rw[show casesOf (.mk 5 TT OO cs)=cs from if_pos (.inr rfl),List.map_map]
      rfl
     rw[e] at h
     exact h)
    have HKL2:=lH (show(cs.map fun y=>(y.1,([]:List Nd))).length≤2000000 from by
     have h:=HKL.out
     have e:(stpOf (cnt f') a (.mk 5 TT OO cs)).keys=cs.map (·.1):=by
      show(casesOf (.mk 5 TT OO cs)).map (·.1)=_
      rw[show casesOf (.mk 5 TT OO cs)=cs from if_pos (.inr rfl)]
     rw[e,List.length_map] at h
     rw[List.length_map]
     exact h)
    obtain⟨ix,hixe⟩: ∃ix,ix=choI cs tx:=⟨_,rfl⟩
    have hix:ix<cs.length:=by rw[hixe];exact zHA hcs0 tx
    have hsd:saidX (evS [t0,t1,t2,t3,t4]) (valA args) (saidM (evS [t0,t1,t2,t3,t4]) (valA args) f') fr.mc fr.ms (.mk 5 TT OO cs)=saidM (evS [t0,t1,t2,t3,t4]) (valA args) f' fr.mc fr.ms (bodyI (.mk 5 TT OO cs) ix):=by
     show saidM (evS [t0,t1,t2,t3,t4]) (valA args) f' fr.mc fr.ms (bodyI (.mk 5 TT OO cs) (choI cs (valA args TT).2.2.2))=_
     rw[HVAL.out,hixe]
    have hokm:okD fr.mc fr.ms:=HI.out.ok fr (List.mem_cons_self ..)
    have CHO:=lH (zH7 5 OO TT (.slice sa sn sc_) (cs.map fun y=>(y.1,([]:List Nd))) tx w6 HCS6.out HKL2.out)
    rw[zL9 (by rw[List.map_map];exact hnd),zJp,←hixe] at CHO
    clear hixe hnd hcs0
    obtain⟨Y,hY⟩: ∃Y,cs[ix]?=some Y:=⟨cs[ix]'hix,List.getElem?_eq_getElem hix⟩
    have hbody:bodyI (.mk 5 TT OO cs) ix=Y.2:=by show((cs[ix]?).map (·.2)).getD []=_;rw[hY];rfl
    obtain⟨p9,e9,hp9,he9,hI9,hlt9⟩:=HI.out.case (.inr rfl) (show(Nd.mk 5 TT OO cs).cases[ix]?=some Y from hY) (mc:=fr.mc) (ms:=fr.ms) hokm (by rw[hsd,hbody])
    obtain⟨bb,bo,hba,hb1n,hb2n,hcell0⟩:=zEk HBG.out hp9
    obtain⟨bb',bo',hba',hb3n,_,hcell1⟩:=zEk HBG.out he9
    rw[hba] at hba'
    injection hba' with hba'
    injection hba' with hbb hbo
    subst hbb hbo
    subst hba
    have HI9:=lH hI9
    have HLT:=lH hlt9
    have NB0:=lH hcell0
    have NB1:=lH hcell1
    have HBN:=lH hb3n
    have HBC:=lH (show ix≤1000000000 from by have:=HKL2.out;rw[List.length_map] at this;omega)
    clear hp9 he9 hI9 hlt9 hcell0 hcell1 hb1n hb2n hb3n hbody hY hix hsd hokm
    clear HCS6 HKL2 HCK HBG HKL HWX HTL HVAL
    go_wp2_with fail
    refine CHO.out.mono ?_
    rintro e w7 ⟨rfl,hb⟩
    have R7:=lH (R6.out.below hb)
    have OS7:=lH ((hb.block ps (zAf OS6.out)).trans OS6.out)
    have OM7:=lH ((hb.block pm (zAf OM6.out)).trans OM6.out)
    have WB7:=lH (bT WB6.out hb)
    clear hb CHO R6 OS6 OM6 m0 m1 mf0 mf1 ml
    have CW:=lH (zBs wb.heap.size wb.heap.size acc [] w7 R7.out.blt (by rw[List.length_nil];omega) (by have:=R7.out.bel.size;omega))
    rw[HWB.out,List.append_nil] at CW
    go_wp2_with fail
    refine CW.out.mono ?_
    rintro e w8 ⟨rfl,hbl,hbw,hoth⟩
    rw[←HWB.out] at hbl hbw hoth
    have R8:=lH (R7.out.wrote hbl hbw hoth)
    have OS8:=lH (zBT hoth OS7.out (R7.out.nb OS7.out (by decide)) (by decide))
    have OM8:=lH (zBT hoth OM7.out (R7.out.nb OM7.out (by decide)) (by decide))
    have WB8:=lH (show Below w.heap.size w w8 from WB7.out.trans (hbw.mono PZ.out.bel.size))
    have n1':=lH NB1.out
    clear hbl hbw hoth CW R7 OS7 OM7 y0 y1 y2 y3 y4 y5 yl a0 a1 a2 a3 a4 al d0 d1 d2 d3 dl
    have to0:decide ((ix:Int)<0)=false:=zAa (by omega)
    have wto:IntKind.i64.wrap ((ix:Int)+1)=((ix+1:Nat):Int):=by rw[IntWalk.i64_in _ (by have:=HBC.out;omega)];omega
    have to1:(0:Int)≤(ix:Int)+1:=by omega
    have to2:(ix:Int)+1<(bn_:Int):=by have:=HBN.out;omega
    have nb1:=cK NB1.out WB8.out
    have nb0:=cK NB0.out WB8.out
    have y4:w8.cell? ⟨ps,4,none⟩=some (.slice (some ⟨bb,bo,none⟩) bn_ bc):=by rw[Lib.cell_of_heap OS8.out];rfl
    have y5:w8.cell? ⟨ps,5,none⟩=some (.int .i64 (FN:Int)):=by rw[Lib.cell_of_heap OS8.out];rfl
    have m0:w8.cell? ⟨pm,0,none⟩=some (.int .i64 fr.mc):=by rw[Lib.cell_of_heap OM8.out];rfl
    have m1:w8.cell? ⟨pm,1,none⟩=some (.int .i64 fr.ms):=by rw[Lib.cell_of_heap OM8.out];rfl
    go_upto_region 45 with fail
    refine wp_region_held_drew (S:=fun w'=>w'.cell? ⟨ps,4,none⟩=some (.slice (some ⟨bb,bo,none⟩) bn_ bc)∧w'.cell? ⟨ps,5,none⟩=some (.int .i64 (FN:Int))∧w'.cell? ⟨pm,0,none⟩=some (.int .i64 fr.mc)∧w'.cell? ⟨pm,1,none⟩=some (.int .i64 fr.ms)∧w'.cell? ⟨bb,bo+(ix+1),none⟩=some (.int .i64 (e9:Int))) (by kernel_rfl) ⟨y4,y5,m0,m1,nb1⟩ (fun hY9=>?_)
    have BD:=lH (Below.drew (Below.refl w8.heap.size w8))
    have R9:=lH (R8.out.below BD.out)
    have OS9:=lH (show w8.drew.heap[ps]?=_ from OS8.out)
    have OM9:=lH (show w8.drew.heap[pm]?=_ from OM8.out)
    have WB9:=lH (bT WB8.out BD.out)
    generalize w8.drew=wz at*
    clear y4 y5 m0 m1 nb1 nb0 R8 OS8 OM8 WB8 BD
    refine tkr (d:=some 148) (v:=?v1) 0 rfl rfl hY9 ?hy1 ?rs1
    case hy1=>(intro w hSw;(try dsimp only at hSw);go_simp)<;>(try with_reducible rfl)
    (try simp only[Act.put,aI,aO,aS])
    refine tkr (d:=some 149) (v:=?v2) 1 rfl rfl hY9 ?hy2 ?rs2
    case hy2=>(intro w hSw;(try dsimp only at hSw);go_simp)<;>(try with_reducible rfl)
    (try simp only[Act.put,aI,aO,aS])
    refine tkr (d:=some 150) (v:=?v3) 2 rfl rfl hY9 ?hy3 ?rs3
    case hy3=>(intro w hSw;(try dsimp only at hSw);go_simp)<;>(try with_reducible rfl)
    (try simp only[Act.put,aI,aO,aS])
    refine tkr (d:=some 151) (v:=?v4) 3 rfl rfl hY9 ?hy4 ?rs4
    case hy4=>(intro w hSw;(try dsimp only at hSw);go_simp)<;>(try with_reducible rfl)
    (try simp only[Act.put,aI,aO,aS])
    refine tkr (d:=some 152) (v:=?v5) 4 rfl rfl hY9 ?hy5 ?rs5
    case hy5=>(intro w hSw;(try dsimp only at hSw);go_simp)<;>(try with_reducible rfl)
    (try simp only[Act.put,aI,aO,aS])
    refine tkr (d:=some 153) (v:=?v6) 5 rfl rfl hY9 ?hy6 ?rs6
    case hy6=>(intro w hSw;(try dsimp only at hSw);go_simp)<;>(try with_reducible rfl)
    (try simp only[Act.put,aI,aO,aS])
    refine tkr (d:=some 154) (v:=?v7) 6 rfl rfl hY9 ?hy7 ?rs7
    case hy7=>(intro w hSw;(try dsimp only at hSw);go_simp)<;>(try with_reducible rfl)
    (try simp only[Act.put,aI,aO,aS])
    refine tkr (d:=some 155) (v:=?v8) 7 rfl rfl hY9 ?hy8 ?rs8
    case hy8=>(intro w hSw;(try dsimp only at hSw);go_simp)<;>(try with_reducible rfl)
    (try simp only[Act.put,aI,aO,aS])
    refine tkr (d:=some 156) (v:=?v9) 8 rfl rfl hY9 ?hy9 ?rs9
    case hy9=>(intro w hSw;(try dsimp only at hSw);go_simp)<;>(try with_reducible rfl)
    (try simp only[Act.put,aI,aO,aS])
    refine tkr (d:=some 157) (v:=?v10) 9 rfl rfl hY9 ?hy10 ?rs10
    case hy10=>(intro w hSw;(try dsimp only at hSw);go_simp)<;>(try with_reducible rfl)
    (try simp only[Act.put,aI,aO,aS])
    refine tkr (d:=some 158) (v:=?v11) 10 rfl rfl hY9 ?hy11 ?rs11
    case hy11=>(intro w hSw;(try dsimp only at hSw);go_simp)<;>(try with_reducible rfl)
    (try simp only[Act.put,aI,aO,aS])
    refine zAc 11 rfl (by kernel_rfl) (by rfl) (fun K hK=>?_)
    go_simp
    have HCN9:=lH (Boxed.made wz #[.int .i64 (e9:Int),.int .i64 (FN:Int),.int .i64 fr.mc,.int .i64 fr.ms] 76)
    have BA9:=lH (bA wz (.cells #[.int .i64 (e9:Int),.int .i64 (FN:Int),.int .i64 fr.mc,.int .i64 fr.ms] 76))
    replace OS9:=lH ((BA9.out.block ps (zAf OS9.out)).trans OS9.out)
    replace OM9:=lH ((BA9.out.block pm (zAf OM9.out)).trans OM9.out)
    replace R9:=lH (R9.out.below BA9.out)
    replace WB9:=lH (bT WB9.out BA9.out)
    refine hK.out _ _ (⟨cK hY9.1 (bA _ _),cK hY9.2.1 (bA _ _),cK hY9.2.2.1 (bA _ _),cK hY9.2.2.2.1 (bA _ _),cK hY9.2.2.2.2 (bA _ _)⟩) (fun hY9=>?_)
    clear hK K
    (try simp only[Act.put,aI,aO,aS])
    generalize World.alloc wz (.cells #[.int .i64 (e9:Int),.int .i64 (FN:Int),.int .i64 fr.mc,.int .i64 fr.ms] 76)=wy at*
    clear BA9
    refine zAc 12 rfl (by kernel_rfl) (by rfl) (fun K hK=>?_)
    refine zA6 _ _ _ 77 rfl wb.heap.size 76 iF _ 4 32 Tryz.underlying77 hiF hF0 hF1 hF2 rfl (by decide) (.slice (some ⟨g0,0,none⟩) NL cap0) NL ((fr::s).reverse.flatMap fEnc) (by simp[go_sem]) (by have:=R9.out.row;rwa [HFS.out] at this) ⟨_,0,none⟩ 1 1 [.int .i64 (e9:Int),.int .i64 (FN:Int),.int .i64 fr.mc,.int .i64 fr.ms] (by simp[go_sem]) rfl (zAJ HCN9.out) (fun u hu=>by simp at hu;rcases hu with rfl|rfl|rfl|rfl<;>rfl) (by have:=HNB.out;unfold maxLen;omega) (by have:=HNB.out;omega) R9.out.bel.size ?_
    intro sv' w10 hown hgrow _
    obtain⟨sa',sc',rfl⟩:=zAG hown
    have RA:=lH (show RunI wb acc (⟨e9,FN,fr.mc,fr.ms⟩::fr::s) (.slice sa' (NL+1) sc') w10 from R9.out.push ⟨e9,FN,fr.mc,fr.ms⟩ (by rw[HFS.out];exact hown) hgrow)
    have hps9:=hgrow.block ps (zAf OS9.out) (R9.out.ne OS9.out (by decide))
    have hpm9:=hgrow.block pm (zAf OM9.out) (R9.out.ne OM9.out (by decide))
    have WBA:=lH (show Below w.heap.size w w10 from WB9.out.grown hgrow WB9.out.size (fun k hk=>Nat.le_trans PZ.out.bel.size (zAk R9.out.row hk).1))
    have nb1:=cK NB1.out WBA.out
    have hb1:World.cell? w10 ⟨ps,4,none⟩=some (.slice (some ⟨bb,bo,none⟩) bn_ bc)∧World.cell? w10 ⟨ps,5,none⟩=some (.int .i64 (FN:Int))∧World.cell? w10 ⟨pm,0,none⟩=some (.int .i64 fr.mc)∧World.cell? w10 ⟨pm,1,none⟩=some (.int .i64 fr.ms)∧World.cell? w10 ⟨bb,bo+(ix+1),none⟩=some (.int .i64 (e9:Int)):=⟨(World.cell?_of_block (a:=⟨ps,4,none⟩) hps9).trans hY9.1,(World.cell?_of_block (a:=⟨ps,5,none⟩) hps9).trans hY9.2.1,(World.cell?_of_block (a:=⟨pm,0,none⟩) hpm9).trans hY9.2.2.1,(World.cell?_of_block (a:=⟨pm,1,none⟩) hpm9).trans hY9.2.2.2.1,nb1⟩
    have y4:=hb1.1
    clear hown hgrow hps9 hpm9 hY9 nb1
    refine hK.out _ _ hb1 (fun hY9=>?_)
    clear hK K hb1 R9 HCN9 OS9 OM9 WB9
    (try simp only[Act.put,aI,aO,aS])
    refine tkr (d:=some 15) (v:=?v12) 13 rfl rfl hY9 ?hy12 ?rs12
    case hy12=>(intro w hSw;(try dsimp only at hSw);go_simp)<;>(try with_reducible rfl)
    (try simp only[Act.put,aI,aO,aS])
    refine wpAnyH_done (by kernel_rfl) ?_ _
    clear hY9
    have nb0:=cK NB0.out WBA.out
    have to3:(ix:Int)<(bn_:Int):=by have:=HBN.out;omega
    have to4:(0:Int)≤(ix:Int):=by omega
    have HI9':=lH (show SayI T (evS [t0,t1,t2,t3,t4]) (valA args) SAY acc p9 (⟨e9,FN,fr.mc,fr.ms⟩::fr::s) ((f',Y.2)::(f'+1,r)::qs') from by rw[HFN.out];exact HI9.out)
    clear WBA
    go_wp2_with fail
    go_roundg (g-1)
    case measure=>have:=HLT.out;omega
    case rel=>exact⟨acc,p9,⟨e9,FN,fr.mc,fr.ms⟩::fr::s,(f',Y.2)::(f'+1,r)::qs',by go_num,by simp,by have:=HLT.out;have:=HKS.out;have:=HNS.out;rw[List.length_cons,List.length_cons];omega,by omega,RA,HI9'⟩
   have hok:okD fr.mc fr.ms:=HI.out.ok fr (List.mem_cons_self ..)
   obtain⟨NM,hnm⟩: ∃NM,NM=numM fr.mc fr.ms:=⟨_,rfl⟩
   have HNM:=lH hnm
   clear hnm
   have hsd:saidX (evS [t0,t1,t2,t3,t4]) (valA args) (saidM (evS [t0,t1,t2,t3,t4]) (valA args) f') fr.mc fr.ms (.mk 6 TT OO cs)=some NM:=by
    rw[HNM.out]
    rfl
   have HTX:=HI.out.text (by show ¬((6:Int)=4∨(6:Int)=5);decide) (t:=NM) (hsd) (by rw[HNM.out];exact Nat.le_trans (zBD _ _ hok) (by decide))
   have HI8:=lH HTX.1
   have HLT:=lH HTX.2
   clear HTX
   have CN:=lH (zDH fr.mc fr.ms w6 (HEV.out.below WB6.out).n (HEV.out.below WB6.out).t.p (HEV.out.below WB6.out).t.m hok)
   rw[←HNM.out] at CN
   have HNL2:=lH (show NM.length≤700 from by rw[HNM.out];exact zBD _ _ hok)
   clear hok HNM hsd
   go_wp2_with fail
   refine CN.out.mono ?_
   rintro e w7 ⟨rfl,hb⟩
   have R7:=lH (R6.out.below hb)
   clear hb CN R6
   have CW:=lH (zBs wb.heap.size wb.heap.size acc (NM) w7 R7.out.blt (by have:=HNL2.out;omega) (by have:=R7.out.bel.size;omega))
   rw[HWB.out] at CW
   go_wp2_with fail
   refine CW.out.mono ?_
   rintro e w8 ⟨rfl,hbl,hbw,hoth⟩
   rw[←HWB.out] at hbl hbw hoth
   have R8:=lH (R7.out.wrote hbl hbw hoth)
   clear hbl hbw hoth CW R7
   go_wp2_with fail
   go_roundg (g-1)
   case measure=>have:=HLT.out;omega
   case rel=>exact⟨acc++(NM),a+1,fr::s,(f'+1,r)::qs',by go_num,by simp,by have:=HLT.out;have:=HKS.out;have:=HNS.out;rw[List.length_cons];omega,by omega,R8,HI8⟩
end Go.Proofs.YtjlchookakbomaaGreatDoor
