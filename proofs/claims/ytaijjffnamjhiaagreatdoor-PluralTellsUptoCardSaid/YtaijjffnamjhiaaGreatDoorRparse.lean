/- The walk of rule.Parse: the rule that is read of a text, if it tells that text. Conditions: the library's errors, its table of powers and its variable MaxLen are there; the text is short. -/
import Derived.Test.YtaijjffnamjhiaaGreatDoorRparA
import Derived.Test.YtaijjffnamjhiaaGreatDoorRtext
import Derived.Test.YtaijjffnamjhiaaGreatDoorRulQ
import Derived.Maps.OwnIn
namespace Go.Proofs.YtaijjffnamjhiaaGreatDoor
open Go.RowKit Go.Shelf

attribute [local go_sem] Oper.semAt_some

/-- what rule.Parse hands back -/
def ParsePost (s : List UInt8) (w' : World) (v f : Value) : Prop :=
  (Rul.parseOk s = true ∧ f = .nilIface ∧ ∃ a n c, v = .slice a n c ∧ SlAt 1 PartC w' (.slice a n c) (Rul.ruleP s)) ∨ (Rul.parseOk s = false ∧ f = errV 3 ∧ v = .slice none 0 0)
theorem infoRel : (Tryz.prog.info? 106).map (fun i => (i.zero, i.size, i.bytes)) = some (some (.agg #[.int .u8 0, .int .i64 0, .bool false, .slice none 0 0]), 4, 48) := by kernel_rfl
theorem infoPart : (Tryz.prog.info? 102).map (fun i => (i.zero, i.size, i.bytes)) = some (some (.slice none 0 0), 1, 24) := by kernel_rfl

set_option maxRecDepth 100000 in
set_option maxHeartbeats 8000000 in
theorem rparse_any (s : List UInt8) (w : World) (hM : MaxW w) (hN : NumW w) (hp : PowW w) (ht : s.length ≤ 100000000) :
    Calls Tryz.prog 23 #[.string ⟨s.toArray⟩] w fun e w' => ∃ v f, e = .returned (.tuple #[v, f]) ∧ ParsePost s w' v f ∧ Below w.heap.size w w' := by
  have hMw := Lib.hid hM
  have hNw := Lib.hid hN
  have hPw := Lib.hid hp
  clear hM hN hp
  refine (callsIn_wide (n := 10)).1 ?_
  refine callsIn_of_wp_marks Tryz.func23 rfl trivial ?_ rfl
  refine wpIn_wide.2 ?_
  simp only [Tryz.ntmps23, List.size_toArray, List.length_cons, List.length_nil, Nat.reduceAdd, Nat.reduceSub, Array.replicate_succ, Array.replicate_zero, List.push_toArray, List.append_toArray, List.nil_append, List.cons_append]
  go_wp2_with fail
  refine (splitseq_any s [32, 111, 114, 32] _).mono ?_
  rintro e w2 ⟨rfl, rfl⟩
  have B0 := Lib.hid (Boxed.made w #[.slice none 0 0] 43)
  have W0 := Lib.hid (blw_alloc w (.cells #[.slice none 0 0] 43))
  have Z0 := Lib.hid (show (w.alloc (.cells #[.slice none 0 0] 43)).heap.size = w.heap.size + 1 by simp)
  generalize w.alloc (.cells #[.slice none 0 0] 43) = wc at *
  go_wp2_with fail
  have z0 := Z0.out
  have hgM : 2 < w.heap.size := by
    obtain ⟨m, hm⟩ := hMw.out
    exact World.block_lt_of_cell? w _ hm
  obtain ⟨V, hV⟩ : ∃ V, ((wc.alloc (.cells #[.string ⟨s.toArray⟩] 9)).alloc (.cells #[.string ⟨#[32, 111, 114, 32]⟩] 9)).alloc (.cells #[.int .i64 0] 3) = V := ⟨_, rfl⟩
  have bS := Lib.hid (((Boxed.made wc #[.string ⟨s.toArray⟩] 9).alloc (.cells #[.string ⟨#[32, 111, 114, 32]⟩] 9)).alloc (.cells #[.int .i64 0] 3))
  have bP := Lib.hid ((Boxed.made (wc.alloc (.cells #[.string ⟨s.toArray⟩] 9)) #[.string ⟨#[32, 111, 114, 32]⟩] 9).alloc (.cells #[.int .i64 0] 3))
  have bV := Lib.hid (Boxed.made ((wc.alloc (.cells #[.string ⟨s.toArray⟩] 9)).alloc (.cells #[.string ⟨#[32, 111, 114, 32]⟩] 9)) #[.int .i64 0] 3)
  simp only [World.size_alloc] at bP bV
  have wV := Lib.hid (((blw_alloc wc (.cells #[.string ⟨s.toArray⟩] 9)).alloc (by simp) (.cells #[.string ⟨#[32, 111, 114, 32]⟩] 9)).alloc (by simp; omega) (.cells #[.int .i64 0] 3))
  have zV : V.heap.size = wc.heap.size + 3 := by rw [← hV]; simp
  rw [hV] at bS bP bV wV ⊢
  clear hV
  have W9 := Lib.hid (blw_trans W0.out wV.out)
  have A9 := Lib.hid (B0.out.below wV.out)
  clear W0 B0 wV
  refine (wpIn_wide (n := 10)).1 ?_
  refine wpIn_range_out1 (F := Fence.wide) (d := 5) (val := fun x : List UInt8 => Value.string ⟨x.toArray⟩) (n := 10) rfl (by omega) (gf := 162) (lb := #[.pointer (some ⟨wc.heap.size + 1, 0, none⟩), .pointer (some ⟨wc.heap.size, 0, none⟩), .pointer (some ⟨wc.heap.size + 2, 0, none⟩)]) rfl trivial (enters_of Tryz.func162 (by kernel_rfl) rfl)
    (split_iter s [32, 111, 114, 32] (wc.heap.size + 1) wc.heap.size (wc.heap.size + 2) w.heap.size 9 V (by omega) (by simp) (by omega) (by simp) hgM (by omega) (hMw.out.below W9.out) (by omega) (by omega) (by omega) (by omega) (by omega)
      (bP.out.cell 0 _ rfl) (bS.out.cell 0 _ rfl) (bV.out.cell 0 _ rfl) (bS.out.free 0 (by show 0 < 1; omega)))
    (by omega) KpS.trans (KpS.put (by omega) (by omega) (by omega) (by omega))
    (fun pre W => ∃ v ps S, PO w V.heap.size w.heap.size v v ps S pre W)
    (fun pre A C r hs g hr => by
      obtain ⟨v, ps, S, hs⟩ := hs
      exact ⟨v, ps, S, hs.grown g fun k hk => by
        obtain ⟨h1, o, h2, h3⟩ := hr k hk
        exact ⟨by omega, by omega, fun e => (IsC.row hs.row e).not h2 h3, fun e => (hs.own.is k e).not h2 h3⟩⟩)
    (fun pre A C hs g => by
      obtain ⟨v, ps, S, hs⟩ := hs
      exact ⟨v, ps, S, hs.grown g fun k hk => by
        injection hk with hk
        subst hk
        exact ⟨by omega, by omega, fun e => by have := hs.row.lt _ e; omega, fun e => by have := hs.own.ge _ e; omega⟩⟩)
    ⟨.slice none 0 0, [], fun _ => False, A9.out, ⟨rfl, .inl ⟨rfl, rfl⟩⟩, rfl, by simp, ⟨by simp, by simp, by simp⟩, W9.out, Nat.le_refl _⟩
    ?assign ?body ?done
  case assign =>
    clear z0
    intro l pre x W K hi hK
    gi_wp2
    exact hK _ (KeepsFrom.refl _ _) ⟨Below.refl _ _, rfl, rfl, rfl⟩ hi
  case done =>
    rintro D W hD ⟨v, ps, S, hs⟩ hK
    have HL := Lib.hid (show Hid (PO w V.heap.size w.heap.size v v ps S (Lib.split s [32, 111, 114, 32]) W) from Lib.hid hs)
    obtain ⟨a, n, c, rfl⟩ : ∃ a n c, v = .slice a n c := by
      rcases hs.row.2 with ⟨rfl, _⟩ | ⟨g', cap, cur, rfl, _⟩
      · exact ⟨_, _, _, rfl⟩
      · exact ⟨_, _, _, rfl⟩
    have HS := Lib.hid hs
    have hcnt := Rul.count_P s
    have hrs := Rul.rs_P s
    have hli : SlAt 1 PartC W (.slice a n c) (Rul.ruleP s) := hs.lies
    have hpw := hPw.out.below hs.low
    have k4 := hs.box.cell 0 _ rfl
    have hDl := (Array.getElem?_eq_some_iff.1 hK).1
    have HK := Lib.hid hK
    have ends : ∀ w2, Below W.heap.size W w2 → w2.heap[D]? = some (.deferred (some [])) ∧ PO w V.heap.size w.heap.size (.slice a n c) (.slice a n c) ps S (Lib.split s [32, 111, 114, 32]) w2 ∧ PO w V.heap.size w.heap.size (.slice a n c) (.slice a n c) ps S (Lib.split s [32, 111, 114, 32]) (w2.putObj D (.deferred none)) := fun w2 hb => by
      have q := HS.out.grown (grown_below hb) (fun k e => by cases e)
      have hD2 : w2.heap[D]? = some (.deferred (some [])) := (hb.block D hDl).trans HK.out
      exact ⟨hD2, q, q.grown (grownBy_putObj' _ D (.deferred none)) (fun k hk => by
        injection hk with hk
        subst hk
        exact ⟨by omega, by omega, fun e => (IsC.row q.row e).not hD2 rfl, fun e => (q.own.is _ e).not hD2 rfl⟩)⟩
    have EN := Lib.hid ends
    clear ends hs hK HL A9 W9 bS bP bV
    by_cases hE : Rul.ruleE (Rul.ruleP s) = 0
    · have tot := Rul.ok_totals hE (fun l hl x hx => by have := hrs l hl x hx; omega)
      have CT := Lib.hid (rtext_yes (Rul.ruleP s) a n c W hpw hli (by omega) (by omega) (fun l hl x hx => by have := hrs l hl x hx; omega) hE tot.1 tot.2)
      clear tot hrs hli
      by_cases hT : Rul.ruleT (Rul.ruleP s) = s
      · have HO := Lib.hid (Rul.parseOk_iff.2 ⟨hE, hT⟩)
        rw [hT] at CT
        clear hT hE hcnt hpw
        go_wp2_with fail
        refine CT.out.mono ?_
        rintro e w2 ⟨rfl, hb⟩
        obtain ⟨hD2, q, q2⟩ := EN.out w2 hb
        have HD := Lib.hid hD2
        have k4' := q.box.cell 0 _ rfl
        have Q2 := Lib.hid q2
        clear hb CT hD2 q q2 k4 EN
        go_wp2_with fail
        refine ⟨by simp, .inl ⟨_, _, rfl, run_takeDeferred HD.out, ?_⟩⟩
        refine ⟨_, ?res, _, _, rfl, .inl ⟨HO.out, rfl, _, _, _, rfl, Q2.out.lies⟩, Q2.out.low⟩
        case res => simp [results, Tryz.results23, go_sem]
      · have HO := Lib.hid (show Rul.parseOk s = false by
          cases h : Rul.parseOk s with
          | false => rfl
          | true => exact absurd (Rul.parseOk_iff.1 h).2 hT)
        generalize Rul.ruleT (Rul.ruleP s) = T at *
        clear hE hcnt hpw
        have hT' : (T == s) = false := by simpa using hT
        go_wp2_with fail
        refine CT.out.mono ?_
        rintro e w2 ⟨rfl, hb⟩
        obtain ⟨hD2, q, q2⟩ := EN.out w2 hb
        have HD := Lib.hid hD2
        have Q2 := Lib.hid q2
        clear hb CT hD2 q q2 k4 EN
        go_wp2_with fail
        refine ⟨by simp, .inl ⟨_, _, rfl, run_takeDeferred HD.out, ?_⟩⟩
        refine ⟨_, ?res, _, _, rfl, .inr ⟨HO.out, rfl, rfl⟩, Q2.out.low⟩
        case res => simp [results, Tryz.results23, go_sem]
    · have CT := Lib.hid (rtext_no (Rul.ruleP s) a n c W hli (by omega) (by omega) (fun l hl x hx => by have := hrs l hl x hx; omega) hE)
      have HO := Lib.hid (show Rul.parseOk s = false by
        cases h : Rul.parseOk s with
        | false => rfl
        | true => exact absurd (Rul.parseOk_iff.1 h).1 hE)
      generalize Rul.ruleE (Rul.ruleP s) = E at *
      clear hrs hli hE hcnt hpw
      go_wp2_with fail
      refine CT.out.mono ?_
      rintro e w2 ⟨rfl, hb⟩
      obtain ⟨hD2, q, q2⟩ := EN.out w2 hb
      have HD := Lib.hid hD2
      have Q2 := Lib.hid q2
      clear hb CT hD2 q q2 k4 EN
      go_wp2_with fail
      refine ⟨by simp, .inl ⟨_, _, rfl, run_takeDeferred HD.out, ?_⟩⟩
      refine ⟨_, ?res, _, _, rfl, .inr ⟨HO.out, rfl, rfl⟩, Q2.out.low⟩
      case res => simp [results, Tryz.results23, go_sem]
  case body =>
    rintro l pre x W hl ⟨r, hr⟩ ⟨v, ps, S, hs⟩ hpre
    have hxl : x.length ≤ 100000000 := by have := piece_le (hpre.subset (by simp) : x ∈ Lib.split s [32, 111, 114, 32]); omega
    have hpl : pre.length + 1 ≤ 100000001 := by
      have h1 := hpre.length_le
      have h2 := Rul.split_short (s := s) (sub := [32, 111, 114, 32]) (by simp)
      simp at h1
      omega
    have ho := hs.olds (bp := wc.heap.size + 1) (bs := wc.heap.size) (bv := wc.heap.size + 2) (by omega)
    have PT0 := Lib.hid (PT.start (bp := wc.heap.size + 1) (bs := wc.heap.size) (bv := wc.heap.size + 2) hs)
    clear hs hpre A9 W9 bS bP bV
    have hlt : l < W.heap.size := (Array.getElem?_eq_some_iff.1 hr).1
    clear z0
    gi_wp2_with (refine ⟨trivial, ?_⟩; gi_at_call 60; refine (CallsIn.inRound l (callsIn_wide.2 (splitseq_any x [32, 97, 110, 100, 32] _))).mono ?_; rintro e w2 ⟨rfl, rfl⟩; have BD := Lib.hid (Boxed.made W #[.slice none 0 0] 102); have WD := Lib.hid (blw_alloc W (.cells #[.slice none 0 0] 102)); have ZD := Lib.hid (show (W.alloc (.cells #[.slice none 0 0] 102)).heap.size = W.heap.size + 1 by simp); generalize W.alloc (.cells #[.slice none 0 0] 102) = wd at *)
    have z0 := Z0.out
    have zd := ZD.out
    obtain ⟨V2, hV2⟩ : ∃ V2, ((wd.alloc (.cells #[.string ⟨x.toArray⟩] 9)).alloc (.cells #[.string ⟨#[32, 97, 110, 100, 32]⟩] 9)).alloc (.cells #[.int .i64 0] 3) = V2 := ⟨_, rfl⟩
    have bS := Lib.hid (((Boxed.made wd #[.string ⟨x.toArray⟩] 9).alloc (.cells #[.string ⟨#[32, 97, 110, 100, 32]⟩] 9)).alloc (.cells #[.int .i64 0] 3))
    have bP := Lib.hid ((Boxed.made (wd.alloc (.cells #[.string ⟨x.toArray⟩] 9)) #[.string ⟨#[32, 97, 110, 100, 32]⟩] 9).alloc (.cells #[.int .i64 0] 3))
    have bV := Lib.hid (Boxed.made ((wd.alloc (.cells #[.string ⟨x.toArray⟩] 9)).alloc (.cells #[.string ⟨#[32, 97, 110, 100, 32]⟩] 9)) #[.int .i64 0] 3)
    simp only [World.size_alloc] at bP bV
    have wV := Lib.hid (((blw_alloc wd (.cells #[.string ⟨x.toArray⟩] 9)).alloc (by simp) (.cells #[.string ⟨#[32, 97, 110, 100, 32]⟩] 9)).alloc (by simp; omega) (.cells #[.int .i64 0] 3))
    have zV2 : V2.heap.size = wd.heap.size + 3 := by rw [← hV2]; simp
    rw [hV2] at bS bP bV wV ⊢
    clear hV2
    have WV := Lib.hid (blw_trans WD.out wV.out)
    have BV := Lib.hid (BD.out.below wV.out)
    have PV := Lib.hid (PT0.out.below WV.out ho (by omega))
    have lw := PT0.out.po.low.size
    have sz := PT0.out.po.sz
    have FX := Lib.hid (show Fix w V.heap.size w.heap.size (wc.heap.size + 1) wc.heap.size (wc.heap.size + 2) v S W V2.heap.size W.heap.size (wd.heap.size + 1) wd.heap.size (wd.heap.size + 2) from ⟨ho, by omega, by omega, by omega⟩)
    have hl2 : V2.heap[l]? = some (.loop r) := (WV.out.block l hlt).trans hr
    clear WD BD wV PT0 ho
    refine wpIn_range_in1 (F := Fence.wide.inRound l) (d := 7) (val := fun x : List UInt8 => Value.string ⟨x.toArray⟩) rfl hl2 (by omega) (gf := 162) (lb := #[.pointer (some ⟨wd.heap.size + 1, 0, none⟩), .pointer (some ⟨wd.heap.size, 0, none⟩), .pointer (some ⟨wd.heap.size + 2, 0, none⟩)]) rfl trivial (enters_of Tryz.func162 (by kernel_rfl) rfl)
      (ListAt.inRound l (split_iter x [32, 97, 110, 100, 32] (wd.heap.size + 1) wd.heap.size (wd.heap.size + 2) w.heap.size _ V2 (by omega) (by simp) (by omega) (by simp) hgM (by omega) (hMw.out.below PV.out.po.low) (by omega) (by omega) (by omega) (by omega) (by omega)
        (bP.out.cell 0 _ rfl) (bS.out.cell 0 _ rfl) (bV.out.cell 0 _ rfl) (bS.out.free 0 (by show 0 < 1; omega))))
      (by omega) KpS.trans (KpS.put (by omega) (by omega) (by omega) (by omega))
      (fun pre2 Wi => ∃ v2 qs S2, PT w V.heap.size w.heap.size (wc.heap.size + 1) wc.heap.size (wc.heap.size + 2) v ps S pre W Wi ∧ PI V2.heap.size W.heap.size v2 v2 qs S2 pre2 Wi)
      (fun pre2 A C r hs g hr => by
        obtain ⟨v2, qs, S2, h1, h2⟩ := hs
        exact ⟨v2, qs, S2, h1.grown g FX.out.ho FX.out.hw (fun k hk => by have := (hr k hk).1; omega), h2.grown g fun k hk => by
          obtain ⟨e1, o, e2, e3⟩ := hr k hk
          exact ⟨by omega, fun e => (IsC.row h2.row e).not e2 e3, fun e => (h2.own.is k e).not e2 e3⟩⟩)
      (fun pre2 A C hs g => by
        obtain ⟨v2, qs, S2, h1, h2⟩ := hs
        exact ⟨v2, qs, S2, h1.grown g FX.out.ho FX.out.hw (fun k hk => by injection hk with hk; omega), h2.grown g fun k hk => by
          injection hk with hk
          subst hk
          exact ⟨by omega, fun e => by have := h2.row.lt _ e; omega, fun e => by have := h2.own.ge _ e; omega⟩⟩)
      ⟨.slice none 0 0, [], fun _ => False, PV.out, BV.out, ⟨rfl, .inl ⟨rfl, rfl⟩⟩, rfl, by simp, ⟨by simp, by simp, by simp⟩, Nat.le_refl _⟩
      ?assign2 ?body2 ?done2
    case assign2 =>
      clear z0 zd
      intro l2 pre2 y Wi K hi hK
      gi_wp2
      exact hK _ (KeepsFrom.refl _ _) ⟨Below.refl _ _, rfl, rfl, rfl⟩ hi
    case done2 =>
      clear z0 zd
      rintro Wi ⟨v2, qs, S2, h1, h2⟩
      have HQL := Lib.hid h1.po.len
      have P1 := Lib.hid (PQ.start (bp2 := wd.heap.size + 1) (bs2 := wd.heap.size) (bv2 := wd.heap.size + 2) h1 h2)
      obtain ⟨a2, n2, c2, rfl⟩ : ∃ a n c, v2 = .slice a n c := by
        rcases h2.row.2 with ⟨rfl, _⟩ | ⟨g', cap, cur, rfl, _⟩
        · exact ⟨_, _, _, rfl⟩
        · exact ⟨_, _, _, rfl⟩
      obtain ⟨a1, n1, c1, rfl⟩ : ∃ a n c, v = .slice a n c := by
        rcases h1.po.row.2 with ⟨rfl, _⟩ | ⟨g', cap, cur, rfl, _⟩
        · exact ⟨_, _, _, rfl⟩
        · exact ⟨_, _, _, rfl⟩
      clear h1 h2 bS bP bV BV PV
      obtain ⟨iR, hiR, hR0, hR1, hR2⟩ := info_parts infoPart
      have k4 := P1.out.pt.po.box.cell 0 _ rfl
      have k6 := P1.out.pi.box.cell 0 _ rfl
      have P := Lib.hid (P1.out.below (blw_alloc Wi (.cells #[.slice a2 n2 c2] 102)) FX.out)
      have BN := Lib.hid (Boxed.made Wi #[.slice a2 n2 c2] 102)
      clear P1
      gi_wp2_with (refine wpListIn_append_own_at _ rfl _ _ 43 rfl V.heap.size 102 iR _ 1 24 Tryz.underlying43 hiR hR0 hR1 hR2 rfl (by decide) (.slice a1 n1 c1) ps.length (ps.map (·.2)) (by simp [go_sem]) P.out.pt.po.row ⟨Wi.heap.size, 0, none⟩ 1 1 [.slice a2 n2 c2] (by simp [go_sem]) rfl (boxed_add BN.out) (fun u hu => by simp at hu; subst hu; rfl) (by have := HQL.out; unfold maxLen; omega) (by have := HQL.out; omega) P.out.pt.po.sz ?_; intro v' w6 hown hgrow hnil hat; clear hnil; obtain ⟨g', cap', rfl⟩ := row_some hown (by omega); have U := Lib.hid (P.out.close (x := x) FX.out rfl hown hgrow hat); clear hown hgrow hat P BN k4 k6; have k3 := U.out.po.box.cell 0 _ rfl; have z3 := U.out.po.box.free 0 (by show 0 < 1; omega); have hlt3 := U.out.po.box.lt)
      replace U := Lib.hid (U.out.stored (by have := Z0.out; omega) (Nat.le_refl _) (by have := Z0.out; omega) (by have := Z0.out; omega))
      exact ⟨U.out.kf, U.out.kp, _, _, _, U.out.po⟩
    case body2 =>
      clear z0 zd
      rintro l2 pre2 y Wi hl2 ⟨r2, hr2⟩ ⟨v2, qs, S2, h1, h2⟩ hpre2
      have hyl : y.length ≤ 4000000000 := by have := piece_le (hpre2.subset (by simp) : y ∈ Lib.split x [32, 97, 110, 100, 32]); omega
      have HQL := Lib.hid h2.len
      have hqn : pre2.length + 1 ≤ 100000001 := by
        have h1 := hpre2.length_le
        have h2 := Rul.split_short (s := x) (sub := [32, 97, 110, 100, 32]) (by simp)
        simp at h1
        omega
      have CP := Lib.hid fun w hM hN => parsed_any y w hM hN hyl
      obtain ⟨R, hR⟩ : ∃ R, Rul.relP y = R := ⟨_, rfl⟩
      rw [hR] at CP
      have HR := Lib.hid hR
      obtain ⟨a2, n2, c2, rfl⟩ : ∃ a n c, v2 = .slice a n c := by
        rcases h2.row.2 with ⟨rfl, _⟩ | ⟨g', cap, cur, rfl, _⟩
        · exact ⟨_, _, _, rfl⟩
        · exact ⟨_, _, _, rfl⟩
      have P1 := Lib.hid (PQ.start (bp2 := wd.heap.size + 1) (bs2 := wd.heap.size) (bv2 := wd.heap.size + 2) h1 h2)
      clear hR h1 h2 bS bP bV BV PV hpre2
      gi_wp2
      obtain ⟨iR, hiR, hR0, hR1, hR2⟩ := info_parts infoRel
      refine region_round (S := fun _ => True) (by kernel_rfl) (by kernel_rfl) (fun _ _ h => h) trivial (fun hHeld => ?_)
      have P := Lib.hid (P1.out.below (Below.drew (Below.refl _ _)) FX.out)
      clear P1
      generalize World.drew _ = w3 at *
      refine take_run (d := some 17) (v := ?v1) 1 rfl rfl (by kernel_rfl) (by kernel_rfl) (by kernel_rfl) (fun _ _ _ h => h) (by rfl) hHeld ?hy1 ?rs1
      case hy1 => (intro w hSw; (try dsimp only at hSw); go_simp) <;> (try with_reducible rfl)
      (try simp only [Act.put, List.setIfInBounds_toArray, List.set_cons_zero, List.set_cons_succ])
      refine take_two 0 2 rfl rfl (by kernel_rfl) (by rfl) (by rfl) (fun K hK => ?_) (fun K hK => ?_)
      · have k3 := P.out.pi.box.cell 0 _ rfl
        go_simp
        clear k3
        refine hK.out _ _ trivial (fun hHeld => ?_)
        clear hK K
        (try simp only [Act.put, List.setIfInBounds_toArray, List.set_cons_zero, List.set_cons_succ])
        refine take_call 2 rfl (by kernel_rfl) (by rfl) (fun K hK => ?_)
        go_simp
        refine (CP.out _ (hMw.out.below P.out.pt.po.low) (hNw.out.below P.out.pt.po.low)).mono ?_
        rintro e w' ⟨pv, rfl, hsl, hfr, hb⟩
        obtain ⟨pa, pn, pc, rfl⟩ := hsl.isSlice
        have HB := Lib.hid (show ∀ b, (Value.slice pa pn pc).ownBlock = some b → V2.heap.size ≤ b ∧ (Value.slice a2 n2 c2).ownBlock ≠ some b from fun b hb' => ⟨by have := hfr b hb'; have := P.out.pi.sz; omega, fun e => by have := hfr b hb'; have := (P.out.pi.row.lt b e).2; omega⟩)
        have HSL := Lib.hid hsl
        replace P := Lib.hid (P.out.below hb FX.out)
        clear hsl hfr hb
        refine hK.out _ _ trivial (fun hHeld => ?_)
        clear hK K
        (try simp only [Act.put, List.setIfInBounds_toArray, List.set_cons_zero, List.set_cons_succ])
        refine take_call 3 rfl (by kernel_rfl) (by rfl) (fun K hK => ?_)
        go_simp
        refine hK.out _ _ trivial (fun hHeld => ?_)
        clear hK K
        (try simp only [Act.put, List.setIfInBounds_toArray, List.set_cons_zero, List.set_cons_succ])
        replace P := Lib.hid (P.out.below (blw_alloc _ (.cells #[.int .u8 (R.op.toNat : Int), .int .i64 R.mod, .bool R.no, .slice pa pn pc] 106)) FX.out)
        replace HSL := Lib.hid (HSL.out.rngs_below (blw_alloc w' (.cells #[.int .u8 (R.op.toNat : Int), .int .i64 R.mod, .bool R.no, .slice pa pn pc] 106)))
        have BN := Lib.hid (Boxed.made _ #[.int .u8 (R.op.toNat : Int), .int .i64 R.mod, .bool R.no, .slice pa pn pc] 106 : Boxed (World.alloc w' (.cells #[.int .u8 (R.op.toNat : Int), .int .i64 R.mod, .bool R.no, .slice pa pn pc] 106)) w'.heap.size _)
        generalize hq : w'.heap.size = q at *
        generalize World.alloc w' (.cells #[.int .u8 (R.op.toNat : Int), .int .i64 R.mod, .bool R.no, .slice pa pn pc] 106) = w5 at *
        clear hq
        refine take_call 4 rfl (by kernel_rfl) (by rfl) (fun K hK => ?_)
        refine wp_append_own_at _ _ _ 102 rfl V2.heap.size 106 iR _ 4 48 Tryz.underlying102 hiR hR0 hR1 hR2 rfl (by decide) (.slice a2 n2 c2) qs.length (qflat qs) (by simp [go_sem]) P.out.pi.row ⟨q, 0, none⟩ 1 1 [.int .u8 (R.op.toNat : Int), .int .i64 R.mod, .bool R.no, .slice pa pn pc] (by simp [go_sem]) rfl (boxed_add BN.out) (fun u hu => by simp at hu; rcases hu with rfl | rfl | rfl | rfl <;> rfl) (by have := HQL.out; unfold maxLen; omega) (by have := HQL.out; omega) P.out.pi.sz ?_
        intro v' w6 hown hgrow hat
        obtain ⟨g', cap', rfl⟩ := row_some hown (by omega)
        replace P := Lib.hid (P.out.append (x := y) FX.out (by rw [HR.out]; exact hown) hgrow (by simpa using hat) (by rw [HR.out]; exact HSL.out) HB.out)
        clear hown hgrow hat
        refine hK.out _ _ trivial (fun hHeld => ?_)
        clear hK K
        (try simp only [Act.put, List.setIfInBounds_toArray, List.set_cons_zero, List.set_cons_succ])
        refine take_call 5 rfl (by kernel_rfl) (by rfl) (fun K hK => ?_)
        have k3 := P.out.pi.box.cell 0 _ rfl
        have z3 := P.out.pi.box.free 0 (by show 0 < 1; omega)
        have hlt := P.out.pi.box.lt
        go_simp
        clear k3 z3 hlt
        refine hK.out _ _ trivial (fun hHeld => ?_)
        clear hK K
        (try simp only [Act.put, List.setIfInBounds_toArray, List.set_cons_zero, List.set_cons_succ])
        replace P := Lib.hid (P.out.stored FX.out)
        refine wpAnyH_done (by kernel_rfl) ?_ _
        exact ⟨P.out.kf, P.out.kp, _, _, _, P.out.pt, P.out.pi⟩
      · go_simp
        refine (CP.out _ (hMw.out.below P.out.pt.po.low) (hNw.out.below P.out.pt.po.low)).mono ?_
        rintro e w' ⟨pv, rfl, hsl, hfr, hb⟩
        obtain ⟨pa, pn, pc, rfl⟩ := hsl.isSlice
        have HB := Lib.hid (show ∀ b, (Value.slice pa pn pc).ownBlock = some b → V2.heap.size ≤ b ∧ (Value.slice a2 n2 c2).ownBlock ≠ some b from fun b hb' => ⟨by have := hfr b hb'; have := P.out.pi.sz; omega, fun e => by have := hfr b hb'; have := (P.out.pi.row.lt b e).2; omega⟩)
        have HSL := Lib.hid hsl
        replace P := Lib.hid (P.out.below hb FX.out)
        clear hsl hfr hb
        refine hK.out _ _ trivial (fun hHeld => ?_)
        clear hK K
        (try simp only [Act.put, List.setIfInBounds_toArray, List.set_cons_zero, List.set_cons_succ])
        refine take_two 0 3 rfl rfl (by kernel_rfl) (by rfl) (by rfl) (fun K hK => ?_) (fun K hK => ?_)
        · have k3 := P.out.pi.box.cell 0 _ rfl
          go_simp
          clear k3
          refine hK.out _ _ trivial (fun hHeld => ?_)
          clear hK K
          (try simp only [Act.put, List.setIfInBounds_toArray, List.set_cons_zero, List.set_cons_succ])
          refine take_call 3 rfl (by kernel_rfl) (by rfl) (fun K hK => ?_)
          go_simp
          refine hK.out _ _ trivial (fun hHeld => ?_)
          clear hK K
          (try simp only [Act.put, List.setIfInBounds_toArray, List.set_cons_zero, List.set_cons_succ])
          replace P := Lib.hid (P.out.below (blw_alloc _ (.cells #[.int .u8 (R.op.toNat : Int), .int .i64 R.mod, .bool R.no, .slice pa pn pc] 106)) FX.out)
          replace HSL := Lib.hid (HSL.out.rngs_below (blw_alloc w' (.cells #[.int .u8 (R.op.toNat : Int), .int .i64 R.mod, .bool R.no, .slice pa pn pc] 106)))
          have BN := Lib.hid (Boxed.made _ #[.int .u8 (R.op.toNat : Int), .int .i64 R.mod, .bool R.no, .slice pa pn pc] 106 : Boxed (World.alloc w' (.cells #[.int .u8 (R.op.toNat : Int), .int .i64 R.mod, .bool R.no, .slice pa pn pc] 106)) w'.heap.size _)
          generalize hq : w'.heap.size = q at *
          generalize World.alloc w' (.cells #[.int .u8 (R.op.toNat : Int), .int .i64 R.mod, .bool R.no, .slice pa pn pc] 106) = w5 at *
          clear hq
          refine take_call 4 rfl (by kernel_rfl) (by rfl) (fun K hK => ?_)
          refine wp_append_own_at _ _ _ 102 rfl V2.heap.size 106 iR _ 4 48 Tryz.underlying102 hiR hR0 hR1 hR2 rfl (by decide) (.slice a2 n2 c2) qs.length (qflat qs) (by simp [go_sem]) P.out.pi.row ⟨q, 0, none⟩ 1 1 [.int .u8 (R.op.toNat : Int), .int .i64 R.mod, .bool R.no, .slice pa pn pc] (by simp [go_sem]) rfl (boxed_add BN.out) (fun u hu => by simp at hu; rcases hu with rfl | rfl | rfl | rfl <;> rfl) (by have := HQL.out; unfold maxLen; omega) (by have := HQL.out; omega) P.out.pi.sz ?_
          intro v' w6 hown hgrow hat
          obtain ⟨g', cap', rfl⟩ := row_some hown (by omega)
          replace P := Lib.hid (P.out.append (x := y) FX.out (by rw [HR.out]; exact hown) hgrow (by simpa using hat) (by rw [HR.out]; exact HSL.out) HB.out)
          clear hown hgrow hat
          refine hK.out _ _ trivial (fun hHeld => ?_)
          clear hK K
          (try simp only [Act.put, List.setIfInBounds_toArray, List.set_cons_zero, List.set_cons_succ])
          refine take_call 5 rfl (by kernel_rfl) (by rfl) (fun K hK => ?_)
          have k3 := P.out.pi.box.cell 0 _ rfl
          have z3 := P.out.pi.box.free 0 (by show 0 < 1; omega)
          have hlt := P.out.pi.box.lt
          go_simp
          clear k3 z3 hlt
          refine hK.out _ _ trivial (fun hHeld => ?_)
          clear hK K
          (try simp only [Act.put, List.setIfInBounds_toArray, List.set_cons_zero, List.set_cons_succ])
          replace P := Lib.hid (P.out.stored FX.out)
          refine wpAnyH_done (by kernel_rfl) ?_ _
          exact ⟨P.out.kf, P.out.kp, _, _, _, P.out.pt, P.out.pi⟩
        · go_simp
          refine hK.out _ _ trivial (fun hHeld => ?_)
          clear hK K
          (try simp only [Act.put, List.setIfInBounds_toArray, List.set_cons_zero, List.set_cons_succ])
          replace P := Lib.hid (P.out.below (blw_alloc _ (.cells #[.int .u8 (R.op.toNat : Int), .int .i64 R.mod, .bool R.no, .slice pa pn pc] 106)) FX.out)
          replace HSL := Lib.hid (HSL.out.rngs_below (blw_alloc w' (.cells #[.int .u8 (R.op.toNat : Int), .int .i64 R.mod, .bool R.no, .slice pa pn pc] 106)))
          have BN := Lib.hid (Boxed.made _ #[.int .u8 (R.op.toNat : Int), .int .i64 R.mod, .bool R.no, .slice pa pn pc] 106 : Boxed (World.alloc w' (.cells #[.int .u8 (R.op.toNat : Int), .int .i64 R.mod, .bool R.no, .slice pa pn pc] 106)) w'.heap.size _)
          generalize hq : w'.heap.size = q at *
          generalize World.alloc w' (.cells #[.int .u8 (R.op.toNat : Int), .int .i64 R.mod, .bool R.no, .slice pa pn pc] 106) = w5 at *
          clear hq
          refine take_call 0 rfl (by kernel_rfl) (by rfl) (fun K hK => ?_)
          have k3 := P.out.pi.box.cell 0 _ rfl
          go_simp
          clear k3
          refine hK.out _ _ trivial (fun hHeld => ?_)
          clear hK K
          (try simp only [Act.put, List.setIfInBounds_toArray, List.set_cons_zero, List.set_cons_succ])
          refine take_call 4 rfl (by kernel_rfl) (by rfl) (fun K hK => ?_)
          refine wp_append_own_at _ _ _ 102 rfl V2.heap.size 106 iR _ 4 48 Tryz.underlying102 hiR hR0 hR1 hR2 rfl (by decide) (.slice a2 n2 c2) qs.length (qflat qs) (by simp [go_sem]) P.out.pi.row ⟨q, 0, none⟩ 1 1 [.int .u8 (R.op.toNat : Int), .int .i64 R.mod, .bool R.no, .slice pa pn pc] (by simp [go_sem]) rfl (boxed_add BN.out) (fun u hu => by simp at hu; rcases hu with rfl | rfl | rfl | rfl <;> rfl) (by have := HQL.out; unfold maxLen; omega) (by have := HQL.out; omega) P.out.pi.sz ?_
          intro v' w6 hown hgrow hat
          obtain ⟨g', cap', rfl⟩ := row_some hown (by omega)
          replace P := Lib.hid (P.out.append (x := y) FX.out (by rw [HR.out]; exact hown) hgrow (by simpa using hat) (by rw [HR.out]; exact HSL.out) HB.out)
          clear hown hgrow hat
          refine hK.out _ _ trivial (fun hHeld => ?_)
          clear hK K
          (try simp only [Act.put, List.setIfInBounds_toArray, List.set_cons_zero, List.set_cons_succ])
          refine take_call 5 rfl (by kernel_rfl) (by rfl) (fun K hK => ?_)
          have k3 := P.out.pi.box.cell 0 _ rfl
          have z3 := P.out.pi.box.free 0 (by show 0 < 1; omega)
          have hlt := P.out.pi.box.lt
          go_simp
          clear k3 z3 hlt
          refine hK.out _ _ trivial (fun hHeld => ?_)
          clear hK K
          (try simp only [Act.put, List.setIfInBounds_toArray, List.set_cons_zero, List.set_cons_succ])
          replace P := Lib.hid (P.out.stored FX.out)
          refine wpAnyH_done (by kernel_rfl) ?_ _
          exact ⟨P.out.kf, P.out.kp, _, _, _, P.out.pt, P.out.pi⟩
end Go.Proofs.YtaijjffnamjhiaaGreatDoor
