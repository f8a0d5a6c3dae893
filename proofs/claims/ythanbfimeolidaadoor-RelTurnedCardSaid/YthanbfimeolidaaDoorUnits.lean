/- What the listed variable rel.units gives a walk: its three units. -/
import Derived.Test.YthanbfimeolidaaDoorRows
import Derived.Test.YthanbfimeolidaaDoorRel
import Derived.Test.YthanbfimeolidaaDoorFields
import Derived.LaidSub
import Derived.MakeChecks
namespace Go.Proofs.YthanbfimeolidaaDoor
open Go.RowKit Go.ChangeShapes Go.WideShapes Go.Deep

theorem gUnits : Tryd.prog.globalNamed "linguister/rel.units" = some 0 := by kernel_rfl
theorem gUnitsT : (Tryd.prog.globals[0]?).map (·.type) = some 64 := by kernel_rfl
/-- one of them -/
theorem unit_cells {W : World} {a : Addr} {i : Nat} {d : DataW Unit} {nm : List UInt8} {sz : Int} (hd : d = .agg [.lit (.string nm), .lit (.int .i64 sz)])
    (ys : List (DataW Unit × List MemPlace)) (n : Nat) (hD : d = .agg (ys.map (·.1)))
    (hs : ∃ (v : Value) (y : DataW Unit × List MemPlace), W.cell? (a.add (i * 2 + 0)) = some v ∧ ys[0]? = some y ∧ DataW.trod (fun _ => ()) Tryd.prog W 0 (fun _ => true) false n 9 [v] = some y)
    (hz : ∃ (v : Value) (y : DataW Unit × List MemPlace), W.cell? (a.add (i * 2 + 1)) = some v ∧ ys[1]? = some y ∧ DataW.trod (fun _ => ()) Tryd.prog W 0 (fun _ => true) false n 3 [v] = some y) :
    W.cell? (a.add (i * 2)) = some (.string ⟨nm.toArray⟩) ∧ W.cell? (a.add (i * 2 + 1)) = some (.int .i64 sz) := by
  obtain ⟨v0, y0, c0, k0, t0⟩ := hs
  obtain ⟨v1, y1, c1, k1, t1⟩ := hz
  obtain ⟨s, e0, f0, _⟩ := DataW.trod_string Tryd.underlying9 t0
  obtain ⟨x, e1, f1, _⟩ := DataW.trod_int Tryd.underlying3 t1
  simp at e0 e1
  subst e0 e1
  rw [hd] at hD
  injection hD with hD
  have m0 := congrArg (·[0]?) hD
  have m1 := congrArg (·[1]?) hD
  simp [k0, f0] at m0
  simp [k1, f1] at m1
  obtain ⟨⟨l⟩⟩ := s
  simp at m0
  subst m0 m1
  exact ⟨c0, c1⟩
theorem unitsW_of {L : List (String × DataW Unit)} {W : World} (h : laidMetH Tryd.prog L W) (hf : L.filter (fun x => x.1 == "linguister/rel.units") = [("linguister/rel.units", Rows.laid_linguister_rel_units)]) : UnitsW W := by
  have g := laidMetH.filter (fun x => x.1 == "linguister/rel.units") h
  rw [hf, MakeChecks.laidMetH_plain _ _ _ (by kernel_rfl)] at g
  obtain ⟨ps, ⟨gg, t, cs, fuel, p, q, hg, ht, hvar, hd, _, _⟩, _⟩ := g
  obtain rfl := Option.some.inj (gUnits.symm.trans hg)
  obtain rfl := Option.some.inj (gUnitsT.symm.trans ht)
  rcases open_slice_fields Tryd.underlying64 Tryd.underlying65 (by kernel_rfl) (by kernel_rfl) hd with ⟨_, hx⟩ | ⟨a, len, cap, m, D, Pl, hcs, _, hl, _, hmm, hx, hi⟩
  · have := congrArg Prod.fst hx
    cases this
  have hd2 := congrArg Prod.fst hx
  simp only [Rows.laid_linguister_rel_units] at hd2
  injection hd2 with hd2 _
  have hlen : len = 3 := by have := congrArg List.length hd2; simpa using this.symm
  subst hlen
  have hmm' : m = cap := hmm
  subst hmm'
  have d0 : D 0 = .agg [.lit (.string [100, 97, 121]), .lit (.int .i64 86400)] := by have := congrArg (·[0]?) hd2; simpa using this.symm
  have d1 : D 1 = .agg [.lit (.string [104, 111, 117, 114]), .lit (.int .i64 3600)] := by have := congrArg (·[1]?) hd2; simpa using this.symm
  have d2 : D 2 = .agg [.lit (.string [109, 105, 110, 117, 116, 101]), .lit (.int .i64 60)] := by have := congrArg (·[2]?) hd2; simpa using this.symm
  obtain ⟨ys0, n0, hD0, _, _, hf0⟩ := hi 0 (by omega)
  obtain ⟨ys1, n1, hD1, _, _, hf1⟩ := hi 1 (by omega)
  obtain ⟨ys2, n2, hD2, _, _, hf2⟩ := hi 2 (by omega)
  have u0 := unit_cells d0 ys0 n0 hD0 (hf0 0 _ rfl) (hf0 1 _ rfl)
  have u1 := unit_cells d1 ys1 n1 hD1 (hf1 0 _ rfl) (hf1 1 _ rfl)
  have u2 := unit_cells d2 ys2 n2 hD2 (hf2 0 _ rfl) (hf2 1 _ rfl)
  have hv := World.var?_cell gUnits hvar 0
  have hc0 : cs[0]? = some (.slice (some a) 3 m) := by
    have : cs.toList[0]? = some (Value.slice (some a) 3 m) := by rw [hcs]; rfl
    simpa using this
  rw [hc0] at hv
  obtain ⟨b, o, spot⟩ := a
  have hsp : spot = none := by simpa [Addr.add] using World.cell?_spot u0.1
  subst hsp
  simp only [Go.WideShapes.add_plain] at u0 u1 u2
  exact ⟨b, o, m, hv, u0.1, u0.2, u1.1, u1.2, u2.1, u2.2⟩
end Go.Proofs.YthanbfimeolidaaDoor
