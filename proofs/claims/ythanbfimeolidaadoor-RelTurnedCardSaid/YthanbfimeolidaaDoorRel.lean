/- The walks of rel.Of, linguisterref1.Apart, linguisterref1.Ago and rel.Text. Conditions: rel.units holds its three units; the library's table of powers its numbers. -/
import Derived.Test.YthanbfimeolidaaDoorItoa
import Derived.Test.YthanbfimeolidaaDoorDigits
import Derived.Test.YthanbfimeolidaaDoorRelP
import Derived.Test.YthanbfimeolidaaDoorErrs
namespace Go.Proofs.YthanbfimeolidaaDoor
open Go.RowKit

/-- rel.units holds its three units -/
structure UnitsAt (w : World) (b : Nat) (o : Nat) (c : Nat) : Prop where
  v : w.cell? ⟨0, 0, none⟩ = some (.slice (some ⟨b, o, none⟩) 3 c)
  n0 : w.cell? ⟨b, o, none⟩ = some (.string ⟨#[100, 97, 121]⟩)
  s0 : w.cell? ⟨b, o + 1, none⟩ = some (.int .i64 86400)
  n1 : w.cell? ⟨b, o + 2, none⟩ = some (.string ⟨#[104, 111, 117, 114]⟩)
  s1 : w.cell? ⟨b, o + 3, none⟩ = some (.int .i64 3600)
  n2 : w.cell? ⟨b, o + 4, none⟩ = some (.string ⟨#[109, 105, 110, 117, 116, 101]⟩)
  s2 : w.cell? ⟨b, o + 5, none⟩ = some (.int .i64 60)
theorem UnitsAt.below {w w' : World} {b o c : Nat} (h : UnitsAt w b o c) (hb : Below w.heap.size w w') : UnitsAt w' b o c :=
  ⟨cell_keep h.v hb, cell_keep h.n0 hb, cell_keep h.s0 hb, cell_keep h.n1 hb, cell_keep h.s1 hb, cell_keep h.n2 hb, cell_keep h.s2 hb⟩
def UnitsW (w : World) : Prop := ∃ b o c, UnitsAt w b o c
theorem UnitsW.below {w w' : World} (h : UnitsW w) (hb : Below w.heap.size w w') : UnitsW w' := by
  obtain ⟨b, o, c, g⟩ := h; exact ⟨b, o, c, g.below hb⟩
theorem UnitsW.alloc {w : World} (h : UnitsW w) (o : Obj) : UnitsW (w.alloc o) := h.below (blw_alloc w o)
theorem UnitsW.drewN {w : World} (h : UnitsW w) (n : Nat) : UnitsW (w.drewN n) := h.below (blw_drewN (Below.refl _ _) n)

set_option maxRecDepth 100000 in
set_option maxHeartbeats 1000000 in
theorem relOf_a1 (a b : Int) (w : World) (h : a < -1099511627776) :
    Calls Tryd.prog 12 #[.int .i64 a, .int .i64 b] w fun e w' => e = .returned (.tuple #[.string ⟨#[]⟩, .int .i64 0, errV 1]) ∧ Below w.heap.size w w' := by
  have i0 : ∀ w, (Instr.index 63 (.agg #[.int .i64 a, .int .i64 b]) (.int .i64 0)).run Tryd.prog w = .ok (.int .i64 a) w := fun _ => by kernel_rfl
  have i1 : ∀ w, (Instr.index 63 (.agg #[.int .i64 a, .int .i64 b]) (.int .i64 1)).run Tryd.prog w = .ok (.int .i64 b) w := fun _ => by kernel_rfl
  go_enter Tryd.func12, Tryd.ntmps12
  go_wp2_with fail
  go_loop [15] (fun i => ∃ k : Int, 0 ≤ k ∧ k ≤ 0 ∧ i = .int .i64 k) (fun i => 2 - (RowKit.intOf i).toNat)
  case atStart => exact ⟨0, by omega, by omega, rfl⟩
  case round =>
    obtain ⟨k, k0, k1, rfl⟩ := hrel
    have hk : k = 0 := by omega
    subst hk
    go_wp2_with fail
    go_ret3
    exact ⟨rfl, Below.refl _ _⟩

set_option maxRecDepth 100000 in
set_option maxHeartbeats 1000000 in
theorem relOf_a2 (a b : Int) (w : World) (h : 1099511627776 < a) :
    Calls Tryd.prog 12 #[.int .i64 a, .int .i64 b] w fun e w' => e = .returned (.tuple #[.string ⟨#[]⟩, .int .i64 0, errV 1]) ∧ Below w.heap.size w w' := by
  have h1 : ¬ a < -1099511627776 := by omega
  have i0 : ∀ w, (Instr.index 63 (.agg #[.int .i64 a, .int .i64 b]) (.int .i64 0)).run Tryd.prog w = .ok (.int .i64 a) w := fun _ => by kernel_rfl
  have i1 : ∀ w, (Instr.index 63 (.agg #[.int .i64 a, .int .i64 b]) (.int .i64 1)).run Tryd.prog w = .ok (.int .i64 b) w := fun _ => by kernel_rfl
  go_enter Tryd.func12, Tryd.ntmps12
  go_wp2_with fail
  go_loop [15] (fun i => ∃ k : Int, 0 ≤ k ∧ k ≤ 0 ∧ i = .int .i64 k) (fun i => 2 - (RowKit.intOf i).toNat)
  case atStart => exact ⟨0, by omega, by omega, rfl⟩
  case round =>
    obtain ⟨k, k0, k1, rfl⟩ := hrel
    have hk : k = 0 := by omega
    subst hk
    go_wp2_with fail
    go_ret3
    exact ⟨rfl, Below.refl _ _⟩

set_option maxRecDepth 100000 in
set_option maxHeartbeats 1000000 in
theorem relOf_b1 (a b : Int) (w : World) (ha : ¬ a < -1099511627776) (ha2 : ¬ 1099511627776 < a) (h : b < -1099511627776) :
    Calls Tryd.prog 12 #[.int .i64 a, .int .i64 b] w fun e w' => e = .returned (.tuple #[.string ⟨#[]⟩, .int .i64 0, errV 1]) ∧ Below w.heap.size w w' := by
  have i0 : ∀ w, (Instr.index 63 (.agg #[.int .i64 a, .int .i64 b]) (.int .i64 0)).run Tryd.prog w = .ok (.int .i64 a) w := fun _ => by kernel_rfl
  have i1 : ∀ w, (Instr.index 63 (.agg #[.int .i64 a, .int .i64 b]) (.int .i64 1)).run Tryd.prog w = .ok (.int .i64 b) w := fun _ => by kernel_rfl
  go_enter Tryd.func12, Tryd.ntmps12
  go_wp2_with fail
  go_loop [15] (fun i => ∃ k : Int, 0 ≤ k ∧ k ≤ 1 ∧ i = .int .i64 k) (fun i => 2 - (RowKit.intOf i).toNat)
  case atStart => exact ⟨0, by omega, by omega, rfl⟩
  case round =>
    obtain ⟨k, k0, k1, rfl⟩ := hrel
    have hk : k = 0 ∨ k = 1 := by omega
    clear k0 k1
    rcases hk with rfl | rfl
    · go_wp2_with fail
      go_round
      case rel => exact ⟨1, by omega, by omega, rfl⟩
      case measure => simp [RowKit.intOf]
    · go_wp2_with fail
      go_ret3
      exact ⟨rfl, Below.refl _ _⟩

set_option maxRecDepth 100000 in
set_option maxHeartbeats 1000000 in
theorem relOf_b2 (a b : Int) (w : World) (ha : ¬ a < -1099511627776) (ha2 : ¬ 1099511627776 < a) (h1 : ¬ b < -1099511627776) (h : 1099511627776 < b) :
    Calls Tryd.prog 12 #[.int .i64 a, .int .i64 b] w fun e w' => e = .returned (.tuple #[.string ⟨#[]⟩, .int .i64 0, errV 1]) ∧ Below w.heap.size w w' := by
  have i0 : ∀ w, (Instr.index 63 (.agg #[.int .i64 a, .int .i64 b]) (.int .i64 0)).run Tryd.prog w = .ok (.int .i64 a) w := fun _ => by kernel_rfl
  have i1 : ∀ w, (Instr.index 63 (.agg #[.int .i64 a, .int .i64 b]) (.int .i64 1)).run Tryd.prog w = .ok (.int .i64 b) w := fun _ => by kernel_rfl
  go_enter Tryd.func12, Tryd.ntmps12
  go_wp2_with fail
  go_loop [15] (fun i => ∃ k : Int, 0 ≤ k ∧ k ≤ 1 ∧ i = .int .i64 k) (fun i => 2 - (RowKit.intOf i).toNat)
  case atStart => exact ⟨0, by omega, by omega, rfl⟩
  case round =>
    obtain ⟨k, k0, k1, rfl⟩ := hrel
    have hk : k = 0 ∨ k = 1 := by omega
    clear k0 k1
    rcases hk with rfl | rfl
    · go_wp2_with fail
      go_round
      case rel => exact ⟨1, by omega, by omega, rfl⟩
      case measure => simp [RowKit.intOf]
    · go_wp2_with fail
      go_ret3
      exact ⟨rfl, Below.refl _ _⟩

set_option maxRecDepth 100000 in
set_option maxHeartbeats 1000000 in
theorem relOf_c0 (a b n : Int) (w : World) (hT : UnitsW w) (ha : ¬ a < -1099511627776) (ha2 : ¬ 1099511627776 < a) (hb1 : ¬ b < -1099511627776) (hb2 : ¬ 1099511627776 < b) (hn : b - a = n) (z0 : n.tdiv 86400 ≠ 0) :
    Calls Tryd.prog 12 #[.int .i64 a, .int .i64 b] w fun e w' => e = .returned (.tuple #[.string ⟨#[100, 97, 121]⟩, .int .i64 (n.tdiv 86400), .nilIface]) ∧ Below w.heap.size w w' := by
  have i0 : ∀ w, (Instr.index 63 (.agg #[.int .i64 a, .int .i64 b]) (.int .i64 0)).run Tryd.prog w = .ok (.int .i64 a) w := fun _ => by kernel_rfl
  have i1 : ∀ w, (Instr.index 63 (.agg #[.int .i64 a, .int .i64 b]) (.int .i64 1)).run Tryd.prog w = .ok (.int .i64 b) w := fun _ => by kernel_rfl
  have hs : Rlt.size n ≤ 2199023255552 := by unfold Rlt.size; split <;> omega
  have bd0 := Rlt.tdiv_bd n 86400 (by omega)
  have q0 : IntKind.i64.wrap (n.tdiv 86400) = n.tdiv 86400 := IntWalk.i64_in _ (by omega)
  have p0 : (n.tdiv 86400 == 0) = false := beq_no z0
  have p0' : (n.tdiv 86400 != 0) = true := by rw [bne, p0]; rfl
  have hn' := Lib.hid hn
  obtain ⟨ub, uo, uc, hU⟩ := hT
  have HU := Lib.hid hU
  clear hU
  have w0 : IntKind.i64.wrap (b - a) = n := by rw [hn]; exact IntWalk.i64_in _ (by omega)
  go_enter Tryd.func12, Tryd.ntmps12
  go_wp2_with fail
  go_loop [15] (fun i => ∃ k : Int, 0 ≤ k ∧ k ≤ 2 ∧ i = .int .i64 k) (fun i => 2 - (RowKit.intOf i).toNat)
  case atStart => exact ⟨0, by omega, by omega, rfl⟩
  case round =>
    obtain ⟨k, k0, k1, rfl⟩ := hrel
    have hk : k = 0 ∨ k = 1 ∨ k = 2 := by omega
    clear k0 k1
    rcases hk with rfl | rfl | rfl
    · go_wp2_with fail
      go_round
      case rel => exact ⟨1, by omega, by omega, rfl⟩
      case measure => simp [RowKit.intOf]
    · go_wp2_with fail
      go_round
      case rel => exact ⟨2, by omega, by omega, rfl⟩
      case measure => simp [RowKit.intOf]
    · clear i0 i1
      have uv := HU.out.v
      go_wp2_with fail
      go_loopw [31] (fun i wr => ∃ k : Int, 0 ≤ k ∧ k ≤ 0 ∧ i = .int .i64 k ∧ Hid (Below w.heap.size w wr)) (fun i _ => 4 - (RowKit.intOf i).toNat)
      case atStart => exact ⟨0, by omega, by omega, rfl, Lib.hid (Below.refl _ _)⟩
      case round =>
        obtain ⟨k, k0, k1, rfl, HB⟩ := hrel
        have hk : k = 0 := by omega
        clear k0 k1 uv
        have U := Lib.hid (HU.out.below HB.out)
        subst hk
        · have un := U.out.n0
          have us := U.out.s0
          have hs' := HB.out.size
          go_wp2_with fail
          go_big_quiet (fail)
          go_wp2_with fail
          go_ret3
          exact ⟨rfl, blw_drewN (HB.out.alloc HB.out.size _) _⟩

set_option maxRecDepth 100000 in
set_option maxHeartbeats 1000000 in
theorem relOf_c1 (a b n : Int) (w : World) (hT : UnitsW w) (ha : ¬ a < -1099511627776) (ha2 : ¬ 1099511627776 < a) (hb1 : ¬ b < -1099511627776) (hb2 : ¬ 1099511627776 < b) (hn : b - a = n) (z0 : n.tdiv 86400 = 0) (z1 : n.tdiv 3600 ≠ 0) :
    Calls Tryd.prog 12 #[.int .i64 a, .int .i64 b] w fun e w' => e = .returned (.tuple #[.string ⟨#[104, 111, 117, 114]⟩, .int .i64 (n.tdiv 3600), .nilIface]) ∧ Below w.heap.size w w' := by
  have i0 : ∀ w, (Instr.index 63 (.agg #[.int .i64 a, .int .i64 b]) (.int .i64 0)).run Tryd.prog w = .ok (.int .i64 a) w := fun _ => by kernel_rfl
  have i1 : ∀ w, (Instr.index 63 (.agg #[.int .i64 a, .int .i64 b]) (.int .i64 1)).run Tryd.prog w = .ok (.int .i64 b) w := fun _ => by kernel_rfl
  have hs : Rlt.size n ≤ 2199023255552 := by unfold Rlt.size; split <;> omega
  have bd0 := Rlt.tdiv_bd n 86400 (by omega)
  have bd1 := Rlt.tdiv_bd n 3600 (by omega)
  have q0 : IntKind.i64.wrap (n.tdiv 86400) = 0 := by rw [z0]; rfl
  have q1 : IntKind.i64.wrap (n.tdiv 3600) = n.tdiv 3600 := IntWalk.i64_in _ (by omega)
  have p1 : (n.tdiv 3600 == 0) = false := beq_no z1
  have p1' : (n.tdiv 3600 != 0) = true := by rw [bne, p1]; rfl
  have hn' := Lib.hid hn
  obtain ⟨ub, uo, uc, hU⟩ := hT
  have HU := Lib.hid hU
  clear hU
  have w0 : IntKind.i64.wrap (b - a) = n := by rw [hn]; exact IntWalk.i64_in _ (by omega)
  go_enter Tryd.func12, Tryd.ntmps12
  go_wp2_with fail
  go_loop [15] (fun i => ∃ k : Int, 0 ≤ k ∧ k ≤ 2 ∧ i = .int .i64 k) (fun i => 2 - (RowKit.intOf i).toNat)
  case atStart => exact ⟨0, by omega, by omega, rfl⟩
  case round =>
    obtain ⟨k, k0, k1, rfl⟩ := hrel
    have hk : k = 0 ∨ k = 1 ∨ k = 2 := by omega
    clear k0 k1
    rcases hk with rfl | rfl | rfl
    · go_wp2_with fail
      go_round
      case rel => exact ⟨1, by omega, by omega, rfl⟩
      case measure => simp [RowKit.intOf]
    · go_wp2_with fail
      go_round
      case rel => exact ⟨2, by omega, by omega, rfl⟩
      case measure => simp [RowKit.intOf]
    · clear i0 i1
      have uv := HU.out.v
      go_wp2_with fail
      go_loopw [31] (fun i wr => ∃ k : Int, 0 ≤ k ∧ k ≤ 1 ∧ i = .int .i64 k ∧ Hid (Below w.heap.size w wr)) (fun i _ => 4 - (RowKit.intOf i).toNat)
      case atStart => exact ⟨0, by omega, by omega, rfl, Lib.hid (Below.refl _ _)⟩
      case round =>
        obtain ⟨k, k0, k1, rfl, HB⟩ := hrel
        have hk : k = 0 ∨ k = 1 := by omega
        clear k0 k1 uv
        have U := Lib.hid (HU.out.below HB.out)
        rcases hk with rfl | rfl
        · have un := U.out.n0
          have us := U.out.s0
          have hs' := HB.out.size
          go_wp2_with fail
          go_roundw
          case rel => exact ⟨1, by omega, by omega, rfl, Lib.hid (HB.out.alloc HB.out.size _)⟩
          case measure => simp [RowKit.intOf]
        · have un := U.out.n1
          have us := U.out.s1
          have hs' := HB.out.size
          go_wp2_with fail
          go_big_quiet (fail)
          go_wp2_with fail
          go_ret3
          exact ⟨rfl, blw_drewN (HB.out.alloc HB.out.size _) _⟩

set_option maxRecDepth 100000 in
set_option maxHeartbeats 1000000 in
theorem relOf_c2 (a b n : Int) (w : World) (hT : UnitsW w) (ha : ¬ a < -1099511627776) (ha2 : ¬ 1099511627776 < a) (hb1 : ¬ b < -1099511627776) (hb2 : ¬ 1099511627776 < b) (hn : b - a = n) (z0 : n.tdiv 86400 = 0) (z1 : n.tdiv 3600 = 0) (z2 : n.tdiv 60 ≠ 0) :
    Calls Tryd.prog 12 #[.int .i64 a, .int .i64 b] w fun e w' => e = .returned (.tuple #[.string ⟨#[109, 105, 110, 117, 116, 101]⟩, .int .i64 (n.tdiv 60), .nilIface]) ∧ Below w.heap.size w w' := by
  have i0 : ∀ w, (Instr.index 63 (.agg #[.int .i64 a, .int .i64 b]) (.int .i64 0)).run Tryd.prog w = .ok (.int .i64 a) w := fun _ => by kernel_rfl
  have i1 : ∀ w, (Instr.index 63 (.agg #[.int .i64 a, .int .i64 b]) (.int .i64 1)).run Tryd.prog w = .ok (.int .i64 b) w := fun _ => by kernel_rfl
  have hs : Rlt.size n ≤ 2199023255552 := by unfold Rlt.size; split <;> omega
  have bd0 := Rlt.tdiv_bd n 86400 (by omega)
  have bd1 := Rlt.tdiv_bd n 3600 (by omega)
  have bd2 := Rlt.tdiv_bd n 60 (by omega)
  have q0 : IntKind.i64.wrap (n.tdiv 86400) = 0 := by rw [z0]; rfl
  have q1 : IntKind.i64.wrap (n.tdiv 3600) = 0 := by rw [z1]; rfl
  have q2 : IntKind.i64.wrap (n.tdiv 60) = n.tdiv 60 := IntWalk.i64_in _ (by omega)
  have p2 : (n.tdiv 60 == 0) = false := beq_no z2
  have p2' : (n.tdiv 60 != 0) = true := by rw [bne, p2]; rfl
  have hn' := Lib.hid hn
  obtain ⟨ub, uo, uc, hU⟩ := hT
  have HU := Lib.hid hU
  clear hU
  have w0 : IntKind.i64.wrap (b - a) = n := by rw [hn]; exact IntWalk.i64_in _ (by omega)
  go_enter Tryd.func12, Tryd.ntmps12
  go_wp2_with fail
  go_loop [15] (fun i => ∃ k : Int, 0 ≤ k ∧ k ≤ 2 ∧ i = .int .i64 k) (fun i => 2 - (RowKit.intOf i).toNat)
  case atStart => exact ⟨0, by omega, by omega, rfl⟩
  case round =>
    obtain ⟨k, k0, k1, rfl⟩ := hrel
    have hk : k = 0 ∨ k = 1 ∨ k = 2 := by omega
    clear k0 k1
    rcases hk with rfl | rfl | rfl
    · go_wp2_with fail
      go_round
      case rel => exact ⟨1, by omega, by omega, rfl⟩
      case measure => simp [RowKit.intOf]
    · go_wp2_with fail
      go_round
      case rel => exact ⟨2, by omega, by omega, rfl⟩
      case measure => simp [RowKit.intOf]
    · clear i0 i1
      have uv := HU.out.v
      go_wp2_with fail
      go_loopw [31] (fun i wr => ∃ k : Int, 0 ≤ k ∧ k ≤ 2 ∧ i = .int .i64 k ∧ Hid (Below w.heap.size w wr)) (fun i _ => 4 - (RowKit.intOf i).toNat)
      case atStart => exact ⟨0, by omega, by omega, rfl, Lib.hid (Below.refl _ _)⟩
      case round =>
        obtain ⟨k, k0, k1, rfl, HB⟩ := hrel
        have hk : k = 0 ∨ k = 1 ∨ k = 2 := by omega
        clear k0 k1 uv
        have U := Lib.hid (HU.out.below HB.out)
        rcases hk with rfl | rfl | rfl
        · have un := U.out.n0
          have us := U.out.s0
          have hs' := HB.out.size
          go_wp2_with fail
          go_roundw
          case rel => exact ⟨1, by omega, by omega, rfl, Lib.hid (HB.out.alloc HB.out.size _)⟩
          case measure => simp [RowKit.intOf]
        · have un := U.out.n1
          have us := U.out.s1
          have hs' := HB.out.size
          go_wp2_with fail
          go_roundw
          case rel => exact ⟨2, by omega, by omega, rfl, Lib.hid (HB.out.alloc HB.out.size _)⟩
          case measure => simp [RowKit.intOf]
        · have un := U.out.n2
          have us := U.out.s2
          have hs' := HB.out.size
          go_wp2_with fail
          go_big_quiet (fail)
          go_wp2_with fail
          go_ret3
          exact ⟨rfl, blw_drewN (HB.out.alloc HB.out.size _) _⟩

set_option maxRecDepth 100000 in
set_option maxHeartbeats 1000000 in
theorem relOf_c3 (a b n : Int) (w : World) (hT : UnitsW w) (ha : ¬ a < -1099511627776) (ha2 : ¬ 1099511627776 < a) (hb1 : ¬ b < -1099511627776) (hb2 : ¬ 1099511627776 < b) (hn : b - a = n) (z0 : n.tdiv 86400 = 0) (z1 : n.tdiv 3600 = 0) (z2 : n.tdiv 60 = 0) :
    Calls Tryd.prog 12 #[.int .i64 a, .int .i64 b] w fun e w' => e = .returned (.tuple #[.string ⟨#[115, 101, 99, 111, 110, 100]⟩, .int .i64 n, .nilIface]) ∧ Below w.heap.size w w' := by
  have i0 : ∀ w, (Instr.index 63 (.agg #[.int .i64 a, .int .i64 b]) (.int .i64 0)).run Tryd.prog w = .ok (.int .i64 a) w := fun _ => by kernel_rfl
  have i1 : ∀ w, (Instr.index 63 (.agg #[.int .i64 a, .int .i64 b]) (.int .i64 1)).run Tryd.prog w = .ok (.int .i64 b) w := fun _ => by kernel_rfl
  have hs : Rlt.size n ≤ 2199023255552 := by unfold Rlt.size; split <;> omega
  have bd0 := Rlt.tdiv_bd n 86400 (by omega)
  have bd1 := Rlt.tdiv_bd n 3600 (by omega)
  have bd2 := Rlt.tdiv_bd n 60 (by omega)
  have q0 : IntKind.i64.wrap (n.tdiv 86400) = 0 := by rw [z0]; rfl
  have q1 : IntKind.i64.wrap (n.tdiv 3600) = 0 := by rw [z1]; rfl
  have q2 : IntKind.i64.wrap (n.tdiv 60) = 0 := by rw [z2]; rfl
  have hn' := Lib.hid hn
  obtain ⟨ub, uo, uc, hU⟩ := hT
  have HU := Lib.hid hU
  clear hU
  have w0 : IntKind.i64.wrap (b - a) = n := by rw [hn]; exact IntWalk.i64_in _ (by omega)
  go_enter Tryd.func12, Tryd.ntmps12
  go_wp2_with fail
  go_loop [15] (fun i => ∃ k : Int, 0 ≤ k ∧ k ≤ 2 ∧ i = .int .i64 k) (fun i => 2 - (RowKit.intOf i).toNat)
  case atStart => exact ⟨0, by omega, by omega, rfl⟩
  case round =>
    obtain ⟨k, k0, k1, rfl⟩ := hrel
    have hk : k = 0 ∨ k = 1 ∨ k = 2 := by omega
    clear k0 k1
    rcases hk with rfl | rfl | rfl
    · go_wp2_with fail
      go_round
      case rel => exact ⟨1, by omega, by omega, rfl⟩
      case measure => simp [RowKit.intOf]
    · go_wp2_with fail
      go_round
      case rel => exact ⟨2, by omega, by omega, rfl⟩
      case measure => simp [RowKit.intOf]
    · clear i0 i1
      have uv := HU.out.v
      go_wp2_with fail
      go_loopw [31] (fun i wr => ∃ k : Int, 0 ≤ k ∧ k ≤ 3 ∧ i = .int .i64 k ∧ Hid (Below w.heap.size w wr)) (fun i _ => 4 - (RowKit.intOf i).toNat)
      case atStart => exact ⟨0, by omega, by omega, rfl, Lib.hid (Below.refl _ _)⟩
      case round =>
        obtain ⟨k, k0, k1, rfl, HB⟩ := hrel
        have hk : k = 0 ∨ k = 1 ∨ k = 2 ∨ k = 3 := by omega
        clear k0 k1 uv
        have U := Lib.hid (HU.out.below HB.out)
        rcases hk with rfl | rfl | rfl | rfl
        · have un := U.out.n0
          have us := U.out.s0
          have hs' := HB.out.size
          go_wp2_with fail
          go_roundw
          case rel => exact ⟨1, by omega, by omega, rfl, Lib.hid (HB.out.alloc HB.out.size _)⟩
          case measure => simp [RowKit.intOf]
        · have un := U.out.n1
          have us := U.out.s1
          have hs' := HB.out.size
          go_wp2_with fail
          go_roundw
          case rel => exact ⟨2, by omega, by omega, rfl, Lib.hid (HB.out.alloc HB.out.size _)⟩
          case measure => simp [RowKit.intOf]
        · have un := U.out.n2
          have us := U.out.s2
          have hs' := HB.out.size
          go_wp2_with fail
          go_roundw
          case rel => exact ⟨3, by omega, by omega, rfl, Lib.hid (HB.out.alloc HB.out.size _)⟩
          case measure => simp [RowKit.intOf]
        · go_wp2_with fail
          go_ret3
          exact ⟨rfl, HB.out⟩
end Go.Proofs.YthanbfimeolidaaDoor
