/- The walk of linguisterref1.DecFault: is it no number? -/
import Derived.Test.YtjlchookakbomaaGreatDoorEi31
set_option maxHeartbeats 4000000
set_option maxRecDepth 100000
namespace Go.Proofs.YtjlchookakbomaaGreatDoor
open Go.RowKit Ms

theorem zLw (f:Nat) {m:List Nd} {i:Nat} {x:Nd} (h:m[i]?=some x) (t:List UInt8):chs (f+1) (m.drop i) t=((x.kind==5&&x.text==t)||((casesOf x).any fun y=>chs f y.2 t)||chs (f+1) (m.drop (i+1)) t):=by
 obtain⟨hi,e⟩:=List.getElem?_eq_some_iff.1 h
 rw[List.drop_eq_getElem_cons hi,e]
 rfl
theorem zLx {α:Type} {l:List α} {k:Nat} {y:α} (h:l[k]?=some y) (p:α→Bool):(l.drop k).any p=(p y||(l.drop (k+1)).any p):=by
 obtain⟨hi,e⟩:=List.getElem?_eq_some_iff.1 h
 rw[List.drop_eq_getElem_cons hi,e]
 rfl

theorem zEs (f:Nat): ∀(v:Value) (m:List Nd) (t:List UInt8) (w:World),MsgAt f w v m→m.length≤2000000→
  Calls Tryz.prog 44 #[v,.string ⟨t.toArray⟩] w fun e w'=>e= .returned (.bool (chs f m t))∧Below w.heap.size w w':=by
 induction f with
 |zero=>
  intro v m t w h hl
  rcases h with⟨rfl,A,cap,rfl⟩|⟨b,off,cap,_,hpos,_,_,hx⟩
  ·rw[show chs 0 [] t=false from rfl]
   go_enter Tryz.func44,Tryz.ntmps44
   go_wp2_with fail
   go_loopw [5] (fun vi wr=>vi= .int .i64 0∧w=wr) (fun _ _=>0)
   case atStart=>exact⟨rfl,rfl⟩
   case round=>
    obtain⟨rfl,rfl⟩:=hrel
    go_wp2_with fail
    go_ret
    exact⟨rfl,Below.refl _ _⟩
  exact absurd (hx 0 _ (List.getElem?_eq_getElem hpos)) (by simp[NdC])
 |succ f ih=>
  intro v m t w h hl
  have IH:=lH ih
  obtain⟨RES,hRES⟩: ∃RES,RES=chs (f+1) m t:=⟨_,rfl⟩
  rw[←hRES]
  have HRES:=lH (show chs (f+1) (m.drop 0) t=RES by rw[List.drop_zero,hRES])
  clear hRES ih
  obtain⟨A,cap,rfl,_,hel⟩:=h.spread
  have hcap:m.length≤cap∨m.length=0:=by
   rcases h with⟨e,_⟩|⟨_,_,_,e,_,q,_,_⟩
   ·exact .inr (by rw[e];rfl)
   injection e with _ _ e;exact .inl (by omega)
  have HX:=lH hel
  clear hel h
  generalize hlm:m.length=L at*
  go_enter Tryz.func44,Tryz.ntmps44
  go_wp2_with fail
  go_loopw [5] (fun vi wr=> ∃i:Nat,vi= .int .i64 (i:Int)∧i≤L∧Hid (chs (f+1) (m.drop i) t=RES)∧Hid (Below w.heap.size w wr)) (fun vi _=>L-(intOf vi).toNat)
  case atStart=>exact⟨0,rfl,Nat.zero_le _,HRES,lH (Below.refl _ _)⟩
  case round=>
   obtain⟨i,rfl,hi,HL,HB⟩:=hrel
   clear HRES
   by_cases hlt:i<L
   ·have hi':(i:Int)<(L:Int):=by omega
    have hcc:L≤cap:=by omega
    obtain⟨x,hxi⟩: ∃x,m[i]?=some x:=⟨m[i]'(by omega),List.getElem?_eq_getElem (by omega)⟩
    obtain⟨b,off,rfl,hnd⟩:=HX.out i x hxi
    obtain⟨a0,n0,c0,p0,p1,p2,p3,p4,p5,p6⟩:=hnd
    have g0:=cK p0 HB.out
    have g1:=cK p1 HB.out
    have g2:=cK p2 HB.out
    have g3:=cK p3 HB.out
    have HL2:=lH ((zLw f hxi t).symm.trans HL.out)
    have wi:IntKind.i64.wrap ((i:Int)+1)=(i:Int)+1:=IntWalk.i64_in _ (by omega)
    have h4:CassAt f w (.slice a0 n0 c0) x.cases:=p4
    have CC:=lH fun (wx:World) (hb:Below w.heap.size w wx)=>zFo (f:=f) x wx (zAm h4 hb)
    have H4:=lH h4
    have lcs:(casesOf x).length≤2000000:=by
     unfold casesOf;split
     ·exact p6
     simp
    clear HL p0 p1 p2 p3 p4 p5 p6 h4 hxi
    generalize casesOf x=cs at*
    generalize x.kind=K at*
    generalize x.text=T at*
    generalize x.off=O at*
    obtain⟨Z,hZ⟩: ∃Z,Z=(K==5&&T==t):=⟨_,rfl⟩
    rw[←hZ] at HL2
    go_upto_region 4 with fail
    go_cut [28] from 14 to 28 (fun s28 wx=>s28= .bool Z∧wx=wr)
    case first=>
     by_cases k5:K=5
     ·have b5:(K==5)=true:=zAo k5
      have HE:=lH (show Z=(T==t) by rw[hZ,b5];rfl)
      clear hZ HL2 k5
      go_wp2_with fail
      go_meet
      exact⟨by rw[HE.out],rfl⟩
     have b5:(K==5)=false:=zAe k5
     have HE:=lH (show Z=false by rw[hZ,b5];rfl)
     clear hZ HL2 k5
     go_wp2_with fail
     go_meet
     exact⟨by rw[HE.out],rfl⟩
    case rest=>
    obtain⟨rfl,rfl⟩:=hcut
    clear hZ
    cases Z with
    |true=>
     obtain rfl:true=RES:=by rw[←HL2.out];simp
     go_wp2_with fail
     go_ret
     exact⟨rfl,HB.out⟩
    |false=>
     go_wp2_with fail
     refine(CC.out wc HB.out).mono ?_
     rintro e w2 ⟨A1,C1,rfl,hto,hb⟩
     have W2:=lH (HB.out.trans (hb.mono HB.out.size))
     have HCS:=hto w H4.out
     clear hto hb CC H4 g0 g1 g2 g3 HB
     obtain⟨A2,C2,e2,_,hel⟩:=HCS.spread
     injection e2 with e3 e4 e5
     subst e3 e5
     have hcapc:cs.length≤C1∨cs.length=0:=by
      rcases HCS with⟨e,_⟩|⟨_,_,_,e,_,q,_,_⟩
      ·exact .inr (by rw[e];rfl)
      injection e with _ _ e;exact .inl (by omega)
     have HEL:=lH hel
     clear hel HCS
     have HL3:=lH (show(((cs.drop 0).any fun y=>chs f y.2 t)||chs (f+1) (m.drop (i+1)) t)=RES by rw[List.drop_zero];have:=HL2.out;rwa [Bool.false_or] at this)
     clear HL2
     generalize hlc:cs.length=LC at*
     go_wp2_with fail
     go_loopw [7] (fun vk wx=> ∃k:Nat,vk= .int .i64 (k:Int)∧k≤LC∧Hid ((((cs.drop k).any fun y=>chs f y.2 t)||chs (f+1) (m.drop (i+1)) t)=RES)∧Hid (Below w.heap.size w wx)) (fun vk _=>LC-(intOf vk).toNat)
     case atStart=>exact⟨0,rfl,Nat.zero_le _,HL3,W2⟩
     case round=>
      obtain⟨k,rfl,hk,HL,HB⟩:=hrel
      clear HL3 W2
      by_cases hltk:k<LC
      ·have hk':(k:Int)<(LC:Int):=by omega
       have hccc:LC≤C1:=by omega
       obtain⟨y,hyk⟩: ∃y,cs[k]?=some y:=⟨cs[k]'(by omega),List.getElem?_eq_getElem (by omega)⟩
       obtain⟨bb,oo,rfl,a9,n9,c9,q0,q1,q2,q3,q4⟩:=HEL.out k y hyk
       have j1:=cK q1 HB.out
       have hst:=HL.out
       rw[zLx hyk,Bool.or_assoc] at hst
       have HL4:=lH hst
       have wk:IntKind.i64.wrap ((k:Int)+1)=(k:Int)+1:=IntWalk.i64_in _ (by omega)
       have CR:=lH (IH.out (.slice a9 n9 c9) y.2 t wr (zAi q2 HB.out) q4)
       generalize chs f y.2 t=Y at*
       clear HL hst q0 q1 q2 q3 q4 hyk
       go_wp2_with fail
       refine CR.out.mono ?_
       rintro e w3 ⟨rfl,hb⟩
       have W3:=lH (HB.out.trans (hb.mono HB.out.size))
       clear hb CR j1
       cases Y with
       |true=>
        obtain rfl:true=RES:=HL4.out
        go_wp2_with fail
        go_ret
        exact⟨rfl,W3.out⟩
       |false=>
        have HL5:=lH (show(((cs.drop (k+1)).any fun y=>chs f y.2 t)||chs (f+1) (m.drop (i+1)) t)=RES from HL4.out)
        clear HL4
        go_wp2_with fail
        go_roundw
        case rel=>exact⟨k+1,by go_num,by omega,HL5,W3⟩
        case measure=>simp[intOf];omega
      have hk': ¬(k:Int)<(LC:Int):=by omega
      have hst:=HL.out
      rw[List.drop_of_length_le (by omega)] at hst
      have HL4:=lH (show chs (f+1) (m.drop (i+1)) t=RES from hst)
      clear hst HL
      go_wp2_with fail
      go_roundw
      case rel=>exact⟨i+1,by go_num,by omega,HL4,HB⟩
      case measure=>simp[intOf];omega
   have hi': ¬(i:Int)<(L:Int):=by omega
   have hst:=HL.out
   rw[List.drop_of_length_le (by omega)] at hst
   obtain rfl:false=RES:=hst
   go_wp2_with fail
   go_ret
   exact⟨rfl,HB.out⟩
open Go.RowKit Ms

theorem AI.drewN {B q:Nat} {bx:Array Value} {u:Value} {xs:List Need} {A:World} (h:AI B q bx u xs A) (n:Nat):AI B q bx u xs (A.drewN n):=h.below (zAb (Below.refl _ _) n)

theorem zFx (f:Nat): ∀(v:Value) (m:List Nd) (W0 w:World) (u:Value) (xs:List Need),MsgAt f W0 v m→m.length≤2000000→w.ownsRow W0.heap.size 70 5 u xs.length (nafl xs)→Below W0.heap.size W0 w→xs.length+cnt f m≤1000000→
  Calls Tryz.prog 43 #[v,u] w fun e w'=> ∃u',e= .returned u'∧w'.ownsRow W0.heap.size 70 5 u' (allN f xs m).length (nafl (allN f xs m))∧Below W0.heap.size W0 w':=by
 induction f with
 |zero=>
  intro v m W0 w u xs h hl hP hb hc
  rcases h with⟨rfl,A,cap,rfl⟩|⟨b,off,cap,_,hpos,_,_,hx⟩
  ·rw[show allN 0 xs []=xs from rfl]
   obtain⟨ua,uc,rfl⟩:=zAw hP
   go_enter Tryz.func43,Tryz.ntmps43
   go_wp2_with fail
   go_loopw [1,5] (fun vu vi wr=>vi= .int .i64 0∧vu= .slice ua xs.length uc∧w=wr) (fun _ _ _=>0)
   case atStart=>exact⟨rfl,rfl,rfl⟩
   case round=>
    obtain⟨rfl,rfl,rfl⟩:=hrel
    go_wp2_with fail
    go_ret
    exact⟨_,rfl,hP,hb⟩
  exact absurd (hx 0 _ (List.getElem?_eq_getElem hpos)) (by simp[NdC])
 |succ f ih=>
  intro v m W0 w u xs h hl hP hb hc
  obtain⟨iN,hiN,hN0,hN1,hN2⟩:=info_parts infoArg
  have IH:=lH ih
  have AL:=lH (zBB f)
  obtain⟨RES,hRES⟩: ∃RES,RES=allN (f+1) xs m:=⟨_,rfl⟩
  rw[←hRES]
  have HRES:=lH (show allN (f+1) xs (m.drop 0)=RES by rw[List.drop_zero,hRES])
  have HCN:=lH (show xs.length+cnt (f+1) (m.drop 0)≤1000000 by rw[List.drop_zero];exact hc)
  clear hRES ih hc
  obtain⟨A,cap,rfl,_,hel⟩:=h.spread
  have hcap:m.length≤cap∨m.length=0:=by
   rcases h with⟨e,_⟩|⟨_,_,_,e,_,q,_,_⟩
   ·exact .inr (by rw[e];rfl)
   injection e with _ _ e;exact .inl (by omega)
  have HX:=lH hel
  clear hel h
  obtain⟨ua,uc,rfl⟩:=zAw hP
  have HP0:=lH hP
  have HB0:=lH hb
  clear hP hb
  generalize hlm:m.length=L at*
  go_enter Tryz.func43,Tryz.ntmps43
  go_wp2_with fail
  go_loopw [1,5] (fun vu vi wr=> ∃(i:Nat) (ys:List Need) (ua:Option Addr) (uc:Nat),vi= .int .i64 (i:Int)∧vu= .slice ua ys.length uc∧i≤L∧Hid (wr.ownsRow W0.heap.size 70 5 (.slice ua ys.length uc) ys.length (nafl ys))∧Hid (allN (f+1) ys (m.drop i)=RES)∧Hid (ys.length+cnt (f+1) (m.drop i)≤1000000)∧Hid (Below W0.heap.size W0 wr)) (fun _ vi _=>L-(intOf vi).toNat)
  case atStart=>exact⟨0,xs,ua,uc,rfl,rfl,Nat.zero_le _,HP0,HRES,HCN,HB0⟩
  case round=>
   obtain⟨i,ys,va,vc,rfl,rfl,hi,HP,HL,HC,HB⟩:=hrel
   clear HP0 HRES HCN HB0
   by_cases hlt:i<L
   ·have hi':(i:Int)<(L:Int):=by omega
    have hcc:L≤cap:=by omega
    obtain⟨x,hxi⟩: ∃x,m[i]?=some x:=⟨m[i]'(by omega),List.getElem?_eq_getElem (by omega)⟩
    obtain⟨b,off,rfl,hnd⟩:=HX.out i x hxi
    obtain⟨a0,n0,c0,p0,p1,p2,p3,p4,p5,p6⟩:=hnd
    have g0:=cK p0 HB.out
    have g1:=cK p1 HB.out
    have g2:=cK p2 HB.out
    have g3:=cK p3 HB.out
    have lb:=World.block_lt_of_cell? _ _ g0
    have HL2:=lH ((zFp f hxi ys).symm.trans HL.out)
    have HC2:=lH (show ys.length+(1+(((casesOf x).map (·.2)).map (cnt f)).sum+cnt (f+1) (m.drop (i+1)))≤1000000 by have:=HC.out;rw[zCV f hxi] at this;exact this)
    have wi:IntKind.i64.wrap ((i:Int)+1)=(i:Int)+1:=IntWalk.i64_in _ (by omega)
    have HB1:=lH (HB.out.alloc (HB.out.size) (.cells #[.int .i64 x.kind,.string ⟨x.text.toArray⟩,.int .i64 x.off,.slice a0 n0 c0] 51))
    have XB:=lH (show AI W0.heap.size wr.heap.size #[.int .i64 x.kind,.string ⟨x.text.toArray⟩,.int .i64 x.off,.slice a0 n0 c0] (.slice va ys.length vc) ys (wr.alloc (.cells #[.int .i64 x.kind,.string ⟨x.text.toArray⟩,.int .i64 x.off,.slice a0 n0 c0] 51)) from⟨HP.out.alloc _,Boxed.made _ _ _,fun e=>by have:=(HP.out.lt _ e).2;omega⟩)
    have HAL:=lH (show(addN ys x).length≤ys.length+1 from zDP ys x)
    have h4:CassAt f W0 (.slice a0 n0 c0) x.cases:=p4
    have CC:=lH fun (wx:World) (hb:Below W0.heap.size W0 wx)=>zFo (f:=f) x wx (zAm h4 hb)
    have H4:=lH h4
    have lcs:(casesOf x).length≤2000000:=by
     unfold casesOf;split
     ·exact p6
     simp
    have HAD:=lH (show addN ys x=if x.kind=1∨x.kind=6 then ys else (grownN ys x.text).modify (ys.findIdx (fun n=>n.1==x.text)) (orN (decide (x.kind=3)||decide (x.kind=4)) (decide (x.kind=5))) from rfl)
    have hyl:ys.length≤1000000:=by have:=HC.out;omega
    generalize addN ys x=zs at*
    clear HL HC p0 p1 p2 p3 p4 p5 p6 h4 hxi HP
    have hq:=XB.out.box.lt
    have hszB:=HB.out.size
    generalize hK:x.kind=K at*
    generalize hT:x.text=T at*
    generalize hO:x.off=O at*
    obtain⟨bk,hbk⟩: ∃bk,bk=(!(K==1)&&!(K==6)):=⟨_,rfl⟩
    go_upto_region 5 with fail
    generalize World.alloc wr (.cells #[.int .i64 K,.string ⟨T.toArray⟩,.int .i64 O,.slice a0 n0 c0] 51)=w1 at*
    generalize wr.heap.size=q at*
    clear g0 g1 g2 g3 lb
    have x0:w1.cell? ⟨q,0,none⟩=some (.int .i64 K):=XB.out.box.cell 0 _ rfl
    go_cut [27] from 19 to 26 (fun s27 wx=>s27= .bool bk∧wx=w1)
    case first=>
     by_cases k1:K=1
     ·have b1:(K !=1)=false:=by rw[k1];rfl
      have HE:=lH (show bk=false by rw[hbk,k1];rfl)
      clear hbk k1
      go_wp2_with fail
      go_meet
      exact⟨by rw[HE.out],rfl⟩
     have b1:(K !=1)=true:=by rw[bne,zAe k1];rfl
     by_cases k6:K=6
     ·have b6:(K !=6)=false:=by rw[k6];rfl
      have HE:=lH (show bk=false by rw[hbk,k6];rfl)
      clear hbk k1 k6
      go_wp2_with fail
      go_meet
      exact⟨by rw[HE.out],rfl⟩
     have b6:(K !=6)=true:=by rw[bne,zAe k6];rfl
     have HE:=lH (show bk=true by rw[hbk,zAe k1,zAe k6];rfl)
     clear hbk k1 k6
     go_wp2_with fail
     go_meet
     exact⟨by rw[HE.out],rfl⟩
    case rest=>
    obtain⟨rfl,rfl⟩:=hcut
    go_upto_if 27 with fail
    go_cut [1] from 7 to 65 (fun s1 wx=> ∃ua uc,s1= .slice ua zs.length uc∧Hid (AI W0.heap.size q #[.int .i64 K,.string ⟨T.toArray⟩,.int .i64 O,.slice a0 n0 c0] (.slice ua zs.length uc) zs wx)∧Hid (Below W0.heap.size W0 wx))
    case first=>
     cases bk with
     |false=>
      have hz:zs=ys:=by
       rw[HAD.out,if_pos]
       cases h1:K==1 with
       |true=>exact .inl (by simpa using h1)
       |false=>
        cases h6:K==6 with
        |true=>exact .inr (by simpa using h6)
        |false=>rw[h1,h6] at hbk;cases hbk
      subst hz
      clear hbk HAD
      go_wp2_with fail
      go_meet
      exact⟨va,vc,rfl,XB,HB1⟩
     |true=>
      have hk: ¬(K=1∨K=6):=by
       rintro(h|h)<;>rw[h] at hbk<;>cases hbk
      obtain⟨IX,hIX⟩: ∃IX,IX=ys.findIdx (fun n=>n.1==T):=⟨_,rfl⟩
      have HZ:=lH (show zs=(grownN ys T).modify IX (orN (decide (K=3)||decide (K=4)) (decide (K=5))) by rw[HAD.out,if_neg hk,hIX])
      have HIF:=lH fun (k:Nat) (nd:Need) (h:ys[k]?=some nd) (h0:(ys.take k).any (fun n=>n.1==T)=false) (h1:(nd.1==T)=true)=>(show IX=k from hIX.trans (zC8 h h0 h1))
      have HIN:=lH fun (h:ys.any (fun n=>n.1==T)=false)=>(show IX=ys.length from hIX.trans (idx_none h))
      have HG:=lH (show grownN ys T=if IX<ys.length then ys else ys++ [(T,false,false)] by rw[hIX];rfl)
      have HGI:=lH (show IX<(grownN ys T).length∧(grownN ys T).length≤ys.length+1∧ ∃n,(grownN ys T)[IX]?=some n by rw[hIX];exact zCC ys T)
      clear hIX hbk hk HAD CC
      generalize hN:ys.length=N at*
      go_wp2_with fail
      go_loopw [7] (fun vk wx=> ∃(k:Nat),vk= .int .i64 (k:Int)∧k≤N∧Hid ((ys.take k).any (fun n=>n.1==T)=false)∧Hid (AI W0.heap.size q #[.int .i64 K,.string ⟨T.toArray⟩,.int .i64 O,.slice a0 n0 c0] (.slice va N vc) ys wx)∧Hid (Below W0.heap.size W0 wx)) (fun vk _=>N-(intOf vk).toNat)
      case atStart=>exact⟨0,rfl,Nat.zero_le _,lH rfl,XB,HB1⟩
      case round=>
       obtain⟨k,rfl,hk,HA,XA,WA⟩:=hrel
       clear XB HB1
       by_cases hltk:k<N
       ·obtain⟨nd,hnd⟩: ∃nd,ys[k]?=some nd:=⟨ys[k]'(by omega),List.getElem?_eq_getElem (by omega)⟩
        obtain⟨g,e⟩: ∃g,va=some ⟨g,0,none⟩:=by
         obtain⟨g,cp,e⟩:=zBj XA.out.row (by omega)
         injection e with e _ _
         exact⟨g,e⟩
        subst e
        have k0:wr.cell? ⟨g,k*5,none⟩=some (.string ⟨nd.1.toArray⟩):=by
         have hr:=XA.out.row
         rw[hN] at hr
         have q:=(zCw (l:=ys.map ofN) (j:=k) (n:=ofN nd) (by rw[List.getElem?_map,hnd];rfl)).1
         exact zAr hr q
        have t1:wr.cell? ⟨q,1,none⟩=some (.string ⟨T.toArray⟩):=XA.out.box.cell 1 _ rfl
        have k1:(k:Int)<(N:Int):=by omega
        have k2:(0:Int)≤(k:Int):=by omega
        have wk:IntKind.i64.wrap ((k:Int)+1)=(k:Int)+1:=IntWalk.i64_in _ (by omega)
        have HAN:=lH fun (h:(nd.1==T)=false)=>(show(ys.take (k+1)).any (fun n=>n.1==T)=false by rw[any_take' hnd,HA.out,h];rfl)
        have HIK:=lH (HIF.out k nd hnd HA.out)
        clear hnd HIF
        obtain⟨t,bn,bt⟩:=nd
        go_wp2_with fail
        go_big_quiet (fail)
        rename Nat=>nq
        have XA2:=lH (XA.out.drewN nq)
        have WA2:=lH (zAb WA.out nq)
        clear XA WA k0 t1
        generalize wr.drewN nq=w2 at*
        cases ht:t==T with
        |true=>
         obtain rfl:IX=k:=HIK.out ht
         have hl2:IX<N:=hltk
         have HGY:=lH (show grownN ys T=ys by rw[HG.out,if_pos hl2])
         have HUL:=lH (show ys.length=N from hN)
         have HZU:=lH (show zs=ys.modify IX (orN (decide (K=3)||decide (K=4)) (decide (K=5))) by rw[HZ.out,HGY.out])
         have HZL:=lH (show zs.length=N by rw[HZU.out,zAB,hN])
         obtain⟨_,_,nn,hnn⟩:=HGI.out
         rw[HGY.out] at hnn
         have HNU:=lH hnn
         have hgB:=(XA2.out.row.lt g rfl).1
         have c1:w2.cell? ⟨g,IX*5+1,none⟩=some (.bool nn.2.1):=by
          have hr:=XA2.out.row
          rw[hN] at hr
          have q:=(zCw (l:=ys.map ofN) (j:=IX) (n:=ofN nn) (by rw[List.getElem?_map,hnn];rfl)).2.1
          exact zAr hr q
         have f1:w2.frozen? ⟨g,IX*5+1,none⟩=false:=by
          have hr:=XA2.out.row
          rw[hN] at hr
          exact hr.frozenAt _
         have bN:((IX:Int)==(N:Int))=false:=zAe (by omega)
         clear HIK HAN HIN HA HG HGI HGY HZ hnn ht
         simp only[Bool.not_true]
         have x0:World.cell? w2 ⟨q,0,none⟩=some (.int .i64 K):=XA2.out.box.cell 0 _ rfl
         by_cases k3:K=3
         ·have b3:(K==3)=true:=by rw[k3];rfl
          have b4:(K==4)=false:=by rw[k3];rfl
          have HZ3:=lH (show zs=(ys).modify IX (orN true (decide (K=5))) by rw[HZU.out,k3];rfl)
          clear k3 HZU
          go_wp2_with fail
          go_meet
          exact⟨some ⟨g,0,none⟩,vc,by rw[HZL.out],lH (by have HX:=XA2.out;rw[HZ3.out,zAB];have HH:=AI.yes (xs:=ys) (by rw[HUL.out];exact HX) HNU.out (decide (K=5));rw[HUL.out] at HH⊢;exact HH),lH (by exact WA2.out.setCell (p:=⟨g,IX*5+1,none⟩) hgB _)⟩
         by_cases k4:K=4
         ·have b3:(K==3)=false:=by rw[k4];rfl
          have b4:(K==4)=true:=by rw[k4];rfl
          have HZ3:=lH (show zs=(ys).modify IX (orN true (decide (K=5))) by rw[HZU.out,k4];rfl)
          clear k4 HZU
          go_wp2_with fail
          go_meet
          exact⟨some ⟨g,0,none⟩,vc,by rw[HZL.out],lH (by have HX:=XA2.out;rw[HZ3.out,zAB];have HH:=AI.yes (xs:=ys) (by rw[HUL.out];exact HX) HNU.out (decide (K=5));rw[HUL.out] at HH⊢;exact HH),lH (by exact WA2.out.setCell (p:=⟨g,IX*5+1,none⟩) hgB _)⟩
         have b3:(K==3)=false:=zAe k3
         have b4:(K==4)=false:=zAe k4
         have HZ3:=lH (show zs=(ys).modify IX (orN false (decide (K=5))) by rw[HZU.out,zAa k3,zAa k4];rfl)
         clear k3 k4 HZU
         go_wp2_with fail
         go_meet
         exact⟨some ⟨g,0,none⟩,vc,by rw[HZL.out],lH (by have HX:=XA2.out;have HH:=AI.no HX IX (decide (K=5));rw[HZ3.out,zAB,HUL.out];exact HH),WA2⟩
        |false=>
         have HA2:=lH (HAN.out ht)
         simp only[Bool.not_false]
         clear HIK HAN HIN HA HG HGI HZ ht
         go_wp2_with fail
         go_roundw
         case rel=>exact⟨k+1,by go_num,by omega,HA2,XA2,WA2⟩
         case measure=>simp[intOf];omega
       obtain rfl:k=N:=by omega
       have hnone:ys.any (fun n=>n.1==T)=false:=by have:=HA.out;rwa [List.take_of_length_le (by omega)] at this
       obtain rfl:IX=k:=HIN.out hnone
       have HGY:=lH (show grownN ys T=ys++ [(T,false,false)] by rw[HG.out,if_neg (Nat.lt_irrefl _)])
       have HUL:=lH (show(ys++ [(T,false,false)]).length=IX+1 by rw[List.length_append,hN];rfl)
       have HZU:=lH (show zs=(ys++ [(T,false,false)]).modify IX (orN (decide (K=3)||decide (K=4)) (decide (K=5))) by rw[HZ.out,HGY.out])
       have HZL:=lH (show zs.length=IX+1 by rw[HZU.out,zAB];exact HUL.out)
       have HNU:=lH (show(ys++ [(T,false,false)])[IX]?=some (T,false,false) by rw[←hN];simp)
       have bN:((IX:Int)==(IX:Int))=true:=zAo rfl
       have hk': ¬(IX:Int)<(IX:Int):=by omega
       clear HIN HA HG HGI HGY HZ HIF hnone
       go_wp2_with fail
       go_big_quiet (fail)
       rename Nat=>nq
       have XA2:=lH (XA.out.drewN nq)
       have WA2:=lH (zAb WA.out nq)
       have hs2:=WA2.out.size
       have t1:(wr.drewN nq).cell? ⟨q,1,none⟩=some (.string ⟨T.toArray⟩):=XA2.out.box.cell 1 _ rfl
       clear XA WA
       generalize wr.drewN nq=w2 at*
       have hown:w2.ownsRow W0.heap.size 70 5 (.slice va IX vc) IX (nafl ys):=by have:=XA2.out.row;rwa [hN] at this
       by_cases k3:K=3
       ·have b3:(K==3)=true:=by rw[k3];rfl
        have b4:(K==4)=false:=by rw[k3];rfl
        have HZ3:=lH (show zs=(ys++ [(T,false,false)]).modify IX (orN true (decide (K=5))) by rw[HZU.out,k3];rfl)
        clear k3 HZU
        go_wp2_with (at_builtin;refine wpList_append_own_at _ rfl _ _ 23 rfl W0.heap.size 70 iN _ 5 56 Tryz.underlying23 hiN hN0 hN1 hN2 rfl (by decide) _ IX (nafl ys) rfl (hown.alloc _) ⟨w2.heap.size,0,none⟩ 1 1 (acells (ofN (T,false,false))) rfl rfl (zC9 _ (acells (ofN (T,false,false))) _ _ rfl) (zCH _) (by unfold maxLen;omega) (by omega) (by simp;omega) ?_;intro v' w3 hown' hgrow _ hat;have XA3:=lH (AI.app (C:=w3) (v':=v') (t:=T) (XA2.out.below (bA _ _)) (by rw[hN];exact hown') hgrow hat);have WA3:=lH ((WA2.out.alloc hs2 _).grown hgrow (by simp;omega) (fun k hk=>(hown.lt k hk).1));obtain⟨g',cap',rfl⟩:=zBj hown' (by omega);have hcp:IX+1≤cap':=(by rcases hown'.2 with⟨e,_⟩|⟨_,_,_,e,_,_,h,_⟩;cases e;injection e with _ _ e;omega);have c1:w3.cell? ⟨g',IX*5+1,none⟩=some (.bool false):=(by have q:=(zCw (l:=(ys++ [(T,false,false)]).map ofN) (j:=IX) (n:=ofN (T,false,false)) (by rw[List.getElem?_map,HNU.out];rfl)).2.1;exact zAr hown' (by have e:=zCG ys (T,false,false);rw[←e];exact q));have f1:=hown'.frozenAt (IX*5+1);have hgB:=(hown'.lt g' rfl).1;have x0:w3.cell? ⟨q,0,none⟩=some (.int .i64 K):=XA3.out.box.cell 0 _ rfl;clear hown hown' hgrow hat t1 XA2 WA2)
        go_meet
        exact⟨some ⟨g',0,none⟩,cap',by rw[HZL.out],lH (by have HX:=XA3.out;rw[HZ3.out,zAB];have HH:=AI.yes (xs:=ys++ [(T,false,false)]) (by rw[HUL.out];exact HX) HNU.out (decide (K=5));rw[HUL.out] at HH⊢;exact HH),lH (by exact WA3.out.setCell (p:=⟨g',IX*5+1,none⟩) hgB _)⟩
       by_cases k4:K=4
       ·have b3:(K==3)=false:=by rw[k4];rfl
        have b4:(K==4)=true:=by rw[k4];rfl
        have HZ3:=lH (show zs=(ys++ [(T,false,false)]).modify IX (orN true (decide (K=5))) by rw[HZU.out,k4];rfl)
        clear k4 HZU
        go_wp2_with (at_builtin;refine wpList_append_own_at _ rfl _ _ 23 rfl W0.heap.size 70 iN _ 5 56 Tryz.underlying23 hiN hN0 hN1 hN2 rfl (by decide) _ IX (nafl ys) rfl (hown.alloc _) ⟨w2.heap.size,0,none⟩ 1 1 (acells (ofN (T,false,false))) rfl rfl (zC9 _ (acells (ofN (T,false,false))) _ _ rfl) (zCH _) (by unfold maxLen;omega) (by omega) (by simp;omega) ?_;intro v' w3 hown' hgrow _ hat;have XA3:=lH (AI.app (C:=w3) (v':=v') (t:=T) (XA2.out.below (bA _ _)) (by rw[hN];exact hown') hgrow hat);have WA3:=lH ((WA2.out.alloc hs2 _).grown hgrow (by simp;omega) (fun k hk=>(hown.lt k hk).1));obtain⟨g',cap',rfl⟩:=zBj hown' (by omega);have hcp:IX+1≤cap':=(by rcases hown'.2 with⟨e,_⟩|⟨_,_,_,e,_,_,h,_⟩;cases e;injection e with _ _ e;omega);have c1:w3.cell? ⟨g',IX*5+1,none⟩=some (.bool false):=(by have q:=(zCw (l:=(ys++ [(T,false,false)]).map ofN) (j:=IX) (n:=ofN (T,false,false)) (by rw[List.getElem?_map,HNU.out];rfl)).2.1;exact zAr hown' (by have e:=zCG ys (T,false,false);rw[←e];exact q));have f1:=hown'.frozenAt (IX*5+1);have hgB:=(hown'.lt g' rfl).1;have x0:w3.cell? ⟨q,0,none⟩=some (.int .i64 K):=XA3.out.box.cell 0 _ rfl;clear hown hown' hgrow hat t1 XA2 WA2)
        go_meet
        exact⟨some ⟨g',0,none⟩,cap',by rw[HZL.out],lH (by have HX:=XA3.out;rw[HZ3.out,zAB];have HH:=AI.yes (xs:=ys++ [(T,false,false)]) (by rw[HUL.out];exact HX) HNU.out (decide (K=5));rw[HUL.out] at HH⊢;exact HH),lH (by exact WA3.out.setCell (p:=⟨g',IX*5+1,none⟩) hgB _)⟩
       have b3:(K==3)=false:=zAe k3
       have b4:(K==4)=false:=zAe k4
       have HZ3:=lH (show zs=(ys++ [(T,false,false)]).modify IX (orN false (decide (K=5))) by rw[HZU.out,zAa k3,zAa k4];rfl)
       clear k3 k4 HZU
       go_wp2_with (at_builtin;refine wpList_append_own_at _ rfl _ _ 23 rfl W0.heap.size 70 iN _ 5 56 Tryz.underlying23 hiN hN0 hN1 hN2 rfl (by decide) _ IX (nafl ys) rfl (hown.alloc _) ⟨w2.heap.size,0,none⟩ 1 1 (acells (ofN (T,false,false))) rfl rfl (zC9 _ (acells (ofN (T,false,false))) _ _ rfl) (zCH _) (by unfold maxLen;omega) (by omega) (by simp;omega) ?_;intro v' w3 hown' hgrow _ hat;have XA3:=lH (AI.app (C:=w3) (v':=v') (t:=T) (XA2.out.below (bA _ _)) (by rw[hN];exact hown') hgrow hat);have WA3:=lH ((WA2.out.alloc hs2 _).grown hgrow (by simp;omega) (fun k hk=>(hown.lt k hk).1));obtain⟨g',cap',rfl⟩:=zBj hown' (by omega);have hcp:IX+1≤cap':=(by rcases hown'.2 with⟨e,_⟩|⟨_,_,_,e,_,_,h,_⟩;cases e;injection e with _ _ e;omega);have c1:w3.cell? ⟨g',IX*5+1,none⟩=some (.bool false):=(by have q:=(zCw (l:=(ys++ [(T,false,false)]).map ofN) (j:=IX) (n:=ofN (T,false,false)) (by rw[List.getElem?_map,HNU.out];rfl)).2.1;exact zAr hown' (by have e:=zCG ys (T,false,false);rw[←e];exact q));have f1:=hown'.frozenAt (IX*5+1);have hgB:=(hown'.lt g' rfl).1;have x0:w3.cell? ⟨q,0,none⟩=some (.int .i64 K):=XA3.out.box.cell 0 _ rfl;clear hown hown' hgrow hat t1 XA2 WA2)
       go_meet
       exact⟨some ⟨g',0,none⟩,cap',by rw[HZL.out],lH (by have HX:=XA3.out;have HH:=AI.no HX IX (decide (K=5));rw[HZ3.out,zAB,HUL.out];exact HH),WA3⟩
    case rest=>
     obtain⟨ua,uc,rfl,XA,WA⟩:=hcut
     have x0:wc.cell? ⟨q,0,none⟩=some (.int .i64 K):=XA.out.box.cell 0 _ rfl
     have x1:wc.cell? ⟨q,1,none⟩=some (.string ⟨T.toArray⟩):=XA.out.box.cell 1 _ rfl
     have x2:wc.cell? ⟨q,2,none⟩=some (.int .i64 O):=XA.out.box.cell 2 _ rfl
     have x3:wc.cell? ⟨q,3,none⟩=some (.slice a0 n0 c0):=XA.out.box.cell 3 _ rfl
     clear HAD hbk XB HB1
     go_wp2_with fail
     refine(CC.out wc WA.out).mono ?_
     rintro e w2 ⟨A1,C1,rfl,hto,hb⟩
     have P2:=lH ((XA.out.below hb).row)
     have W2:=lH (WA.out.trans (hb.mono WA.out.size))
     have HCS:=hto W0 H4.out
     clear hto hb CC XA WA H4 x0 x1 x2 x3
     generalize casesOf x=cs at*
     obtain⟨A2,C2,e2,_,hel⟩:=HCS.spread
     injection e2 with e3 e4 e5
     subst e3 e5
     have hcapc:cs.length≤C1∨cs.length=0:=by
      rcases HCS with⟨e,_⟩|⟨_,_,_,e,_,q,_,_⟩
      ·exact .inr (by rw[e];rfl)
      injection e with _ _ e;exact .inl (by omega)
     have HEL:=lH hel
     clear hel HCS
     have HL3:=lH (show allN (f+1) (goN (allN f) zs ((cs.drop 0).map (·.2))) (m.drop (i+1))=RES by rw[List.drop_zero];exact HL2.out)
     have HC3:=lH (show zs.length+((((cs.drop 0).map (·.2)).map (cnt f)).sum+cnt (f+1) (m.drop (i+1)))≤1000000 by rw[List.drop_zero];have:=HC2.out;have:=HAL.out;omega)
     clear HL2 HC2 HAL
     generalize hlc:cs.length=LC at*
     go_wp2_with fail
     go_loopw [1,9] (fun vu vk wx=> ∃(k:Nat) (ts:List Need) (ua:Option Addr) (uc:Nat),vk= .int .i64 (k:Int)∧vu= .slice ua ts.length uc∧k≤LC∧Hid (wx.ownsRow W0.heap.size 70 5 (.slice ua ts.length uc) ts.length (nafl ts))∧Hid (allN (f+1) (goN (allN f) ts ((cs.drop k).map (·.2))) (m.drop (i+1))=RES)∧Hid (ts.length+((((cs.drop k).map (·.2)).map (cnt f)).sum+cnt (f+1) (m.drop (i+1)))≤1000000)∧Hid (Below W0.heap.size W0 wx)) (fun _ vk _=>LC-(intOf vk).toNat)
     case atStart=>exact⟨0,zs,ua,uc,rfl,rfl,Nat.zero_le _,P2,HL3,HC3,W2⟩
     case round=>
      obtain⟨k,ts,ta,tc,rfl,rfl,hk,HP,HL,HC,HB⟩:=hrel
      clear P2 HL3 HC3 W2
      by_cases hltk:k<LC
      ·have hk':(k:Int)<(LC:Int):=by omega
       have hccc:LC≤C1:=by omega
       obtain⟨y,hyk⟩: ∃y,cs[k]?=some y:=⟨cs[k]'(by omega),List.getElem?_eq_getElem (by omega)⟩
       obtain⟨bb,oo,rfl,a9,n9,c9,q0,q1,q2,q3,q4⟩:=HEL.out k y hyk
       have j1:=cK q1 HB.out
       have hst:=HL.out
       have hct:=HC.out
       rw[zBP hyk] at hst hct
       rw[List.map_cons,List.sum_cons] at hct
       have wk:IntKind.i64.wrap ((k:Int)+1)=(k:Int)+1:=IntWalk.i64_in _ (by omega)
       have CR:=lH (IH.out (.slice a9 n9 c9) y.2 W0 wr (.slice ta ts.length tc) ts q2 q4 HP.out HB.out (by omega))
       have HAL:=AL.out ts y.2
       have HL4:=lH (show allN (f+1) (goN (allN f) (allN f ts y.2) ((cs.drop (k+1)).map (·.2))) (m.drop (i+1))=RES from hst)
       have HC4:=lH (show(allN f ts y.2).length+((((cs.drop (k+1)).map (·.2)).map (cnt f)).sum+cnt (f+1) (m.drop (i+1)))≤1000000 by omega)
       generalize allN f ts y.2=ts' at*
       clear HL HC HAL hst hct q0 q1 q2 q3 q4 hyk HP HB
       go_wp2_with fail
       refine CR.out.mono ?_
       rintro e w3 ⟨u',rfl,hni,hb⟩
       have P3:=lH hni
       have W3:=lH hb
       obtain⟨ta',tc',rfl⟩:=zAw hni
       clear hni hb CR j1
       go_wp2_with fail
       go_roundw
       case rel=>exact⟨k+1,ts',ta',tc',by go_num,rfl,by omega,P3,HL4,HC4,W3⟩
       case measure=>simp[intOf];omega
      have hk': ¬(k:Int)<(LC:Int):=by omega
      have hst:=HL.out
      have hct:=HC.out
      rw[List.drop_of_length_le (by omega)] at hst hct
      have HL4:=lH (show allN (f+1) ts (m.drop (i+1))=RES from hst)
      have HC4:=lH (show ts.length+cnt (f+1) (m.drop (i+1))≤1000000 by simpa using hct)
      clear hst hct HL HC
      go_wp2_with fail
      go_roundw
      case rel=>exact⟨i+1,ts,ta,tc,by go_num,rfl,by omega,HP,HL4,HC4,HB⟩
      case measure=>simp[intOf];omega
   have hi': ¬(i:Int)<(L:Int):=by omega
   have hst:=HL.out
   rw[List.drop_of_length_le (by omega)] at hst
   have hst':ys=RES:=hst
   subst hst'
   clear hst HL
   go_wp2_with fail
   go_ret
   exact⟨_,rfl,HP.out,HB.out⟩
open Go.RowKit Ms

theorem zIQ {f:Nat} {v:Value} {m:List Nd} (w:World) (h:MsgAt f w v m) (hl:m.length≤2000000):
  Calls Tryz.prog 40 #[v] w fun e w'=>e= .returned (.int .i64 (namE f m))∧Below w.heap.size w w':=by
 have CM:=lH fun wx (hb:Below w.heap.size w wx)=>zEj (f:=f) (v:=v) (m:=m) wx (zAi h hb) hl
 have HN:=lH (show namE f m=if msgE f m≠0 then msgE f m else if (allN f [] m).any (fun n=>n.2.1&&n.2.2) then 7 else 0 from rfl)
 have HA:=lH (zLR (zCJ f m))
 have HC:=lH (fun h=>zBa (f:=f) (m:=m) h)
 have CA:=lH fun (wx:World) (hb:Below w.heap.size w wx) (hc:cnt f m≤60)=>zFx f v m w wx (.slice none 0 0) [] h hl ⟨rfl,.inl ⟨rfl,rfl⟩⟩ hb (by simp;omega)
 have CS:=lH fun (wx:World) (t:List UInt8) (hb:Below w.heap.size w wx)=>(show Calls Tryz.prog 44 #[v,.string ⟨t.toArray⟩] wx fun e w'=>e= .returned (.bool (selB (allN f [] m) t))∧Below wx.heap.size wx w' from by rw[←zHn];exact zEs f v m t wx (zAi h hb) hl)
 have HLL:=lH (fun h=>show(allN f [] m).length≤60 from Nat.le_trans (by simpa using zBB f [] m) (zBa (f:=f) (m:=m) h))
 obtain⟨a,n,c,rfl⟩:=h.isSlice
 clear h hl
 generalize namE f m=NE at*
 generalize msgE f m=ME at*
 generalize allN f [] m=AL at*
 by_cases h0:ME=0
 case neg=>
  obtain rfl:NE=ME:=by rw[HN.out,if_pos h0]
  have b0:(NE !=0)=true:=by rw[bne,zAe h0];rfl
  clear h0 HN HA HC CA CS HLL
  go_enter Tryz.func40,Tryz.ntmps40
  go_wp2_with fail
  refine(CM.out w (Below.refl _ _)).mono ?_
  rintro e w1 ⟨rfl,hb⟩
  have W1:=lH hb
  clear hb
  go_wp2_with fail
  refine(CM.out w1 W1.out).mono ?_
  rintro e w2 ⟨rfl,hb⟩
  have W2:=lH (bT W1.out hb)
  clear hb CM
  go_wp2_with fail
  go_ret
  exact⟨rfl,W2.out⟩
 subst h0
 have hcn:=HC.out rfl
 have hll:=HLL.out rfl
 replace HN:=lH (show NE=if AL.any (fun n=>n.2.1&&selB AL n.1) then 7 else 0 by rw[←HA.out];exact HN.out)
 clear HA HC HLL
 go_enter Tryz.func40,Tryz.ntmps40
 go_wp2_with fail
 refine(CM.out w (Below.refl _ _)).mono ?_
 rintro e w1 ⟨rfl,hb⟩
 have W1:=lH hb
 clear hb CM
 go_wp2_with fail
 refine(CA.out w1 W1.out hcn).mono ?_
 rintro e w2 ⟨u,rfl,hr,hb⟩
 have W2:=lH hb
 obtain⟨ua,uc,eu,_,hel⟩:=(zDF (l:=AL.map ofN) (by rw[List.length_map];exact hr)).spread
 rw[List.length_map] at eu
 subst eu
 have HR:=lH hr
 have hcap:AL.length≤uc∨AL.length=0:=by
  rcases hr.2 with⟨e,h0⟩|⟨g,cap,cur,e,_,q,_⟩
  ·exact .inr h0
  injection e with _ _ e;exact .inl (by omega)
 have HX:=lH hel
 clear hb CA hr hel
 generalize hN:AL.length=N at*
 go_wp2_with fail
 go_loopw [4] (fun vi wr=> ∃i:Nat,vi= .int .i64 (i:Int)∧i≤N∧Hid ((AL.take i).any (fun n=>n.2.1&&selB AL n.1)=false)∧Hid (Below w2.heap.size w2 wr)) (fun vi _=>N-(intOf vi).toNat)
 case atStart=>exact⟨0,rfl,Nat.zero_le _,lH rfl,lH (Below.refl _ _)⟩
 case round=>
  obtain⟨i,rfl,hi,HA,HB⟩:=hrel
  by_cases hlt:i<N
  ·have hi':(i:Int)<(N:Int):=by omega
   have hcc:N≤uc:=by omega
   obtain⟨x,hxi⟩: ∃x,AL[i]?=some x:=⟨AL[i]'(by omega),List.getElem?_eq_getElem (by omega)⟩
   obtain⟨b,off,rfl,p0,p1,_⟩:=HX.out i (ofN x) (by rw[List.getElem?_map,hxi];rfl)
   have g0:wr.cell? ⟨b,off+i*5,none⟩=some (.string ⟨x.1.toArray⟩):=cK p0 HB.out
   have g1:wr.cell? ⟨b,off+i*5+1,none⟩=some (.bool x.2.1):=cK p1 HB.out
   have HAN:=lH fun (h:(x.2.1&&selB AL x.1)=false)=>(show(AL.take (i+1)).any (fun n=>n.2.1&&selB AL n.1)=false by rw[any_take' hxi,HA.out,h];rfl)
   have HAY:=lH fun (h:(x.2.1&&selB AL x.1)=true)=>(show NE=7 by rw[HN.out,if_pos (List.any_eq_true.2 ⟨x,List.mem_of_getElem? hxi,h⟩)])
   have wi:IntKind.i64.wrap ((i:Int)+1)=(i:Int)+1:=IntWalk.i64_in _ (by omega)
   have WB:=lH (W2.out.trans (HB.out.mono W2.out.size))
   clear p0 p1 hxi HN
   obtain⟨T,bn,bt⟩:=x
   have CSh:=lH (CS.out wr T WB.out)
   generalize hS:selB AL T=S at*
   have HAN2:=lH (show(bn&&S)=false→(AL.take (i+1)).any (fun n=>n.2.1&&selB AL n.1)=false from HAN.out)
   have HAY2:=lH (show(bn&&S)=true→NE=7 from HAY.out)
   clear HAN HAY hS CS HX
   cases bn with
   |false=>
    have HA2:=lH (HAN2.out rfl)
    clear HAN2 HAY2
    go_wp2_with fail
    go_roundw
    case rel=>exact⟨i+1,by go_num,by omega,HA2,HB⟩
    case measure=>simp[intOf];omega
   |true=>
    go_wp2_with fail
    refine CSh.out.mono ?_
    rintro e w3 ⟨rfl,hb⟩
    have W3:=lH (HB.out.trans (hb.mono HB.out.size))
    have V3:=lH (bT WB.out hb)
    clear hb CSh
    cases S with
    |true=>
     obtain rfl:=HAY2.out rfl
     go_wp2_with fail
     go_ret
     exact⟨rfl,V3.out⟩
    |false=>
     have HA2:=lH (HAN2.out rfl)
     clear HAN2 HAY2
     go_wp2_with fail
     go_roundw
     case rel=>exact⟨i+1,by go_num,by omega,HA2,W3⟩
     case measure=>simp[intOf];omega
  have hi': ¬(i:Int)<(N:Int):=by omega
  have hA:=HA.out
  rw[List.take_of_length_le (by omega)] at hA
  obtain rfl:NE=0:=by rw[HN.out,hA];rfl
  go_wp2_with fail
  go_ret
  exact⟨rfl,W2.out.trans (HB.out.mono W2.out.size)⟩
open Go.RowKit
open Dcm (P10 okD)

end Go.Proofs.YtjlchookakbomaaGreatDoor
