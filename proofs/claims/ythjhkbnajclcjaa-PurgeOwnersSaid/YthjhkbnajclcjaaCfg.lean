/- The program's data (configs, steps, pieces) as plain Lean data, and how they read in memory. -/
import Derived.Test.YthjhkbnajclcjaaBase
namespace Go.Proofs.Ythjhkbnajclcjaa
open Go.RowKit

structure Label where
  level : Int
  cats : Int
  deriving DecidableEq
structure Part where
  label : Label
  frames : List Int
  first : Int
  count : Int
  deriving DecidableEq
structure Device where
  part : Int
  pool : List Int
  deriving DecidableEq
structure Window where
  part : Int
  start : Int
  len : Int
  deliver : Int
  deriving DecidableEq
structure Grant where
  frame : Int
  to : Int
  write : Bool
  deriving DecidableEq
structure Config where
  frames : Int
  parts : List Part
  devices : List Device
  major : Int
  windows : List Window
  grants : List Grant
  sectors : Int
  quota : Int
  quiet : Int
  deriving DecidableEq
structure Piece where
  frame : Int
  off : Int
  len : Int
  deriving DecidableEq
structure Entry where
  frame : Int
  perm : Int
  deriving DecidableEq

def kLabel : Kind Label where
  sz := 2
  K := fun _ x cs => cs = [.int .i64 x.level, .int .i64 x.cats] ∧ I64 x.level ∧ I64 x.cats
  len := fun h => by rw [h.1]; rfl
  mono := fun _ h => h
def kPart : Kind Part where
  sz := 5
  K := fun w x cs => ∃ v, cs = [.int .i64 x.label.level, .int .i64 x.label.cats, v, .int .i64 x.first, .int .i64 x.count] ∧ kInt.Sl w v x.frames ∧ I64 x.label.level ∧ I64 x.label.cats ∧ I64 x.first ∧ I64 x.count
  len := by rintro w x cs ⟨v, rfl, _⟩; rfl
  mono := by rintro w w' x cs hb ⟨v, h1, h2, h3⟩; exact ⟨v, h1, h2.ext hb, h3⟩
def kDevice : Kind Device where
  sz := 2
  K := fun w x cs => ∃ v, cs = [.int .i64 x.part, v] ∧ kInt.Sl w v x.pool ∧ I64 x.part
  len := by rintro w x cs ⟨v, rfl, _⟩; rfl
  mono := by rintro w w' x cs hb ⟨v, h1, h2, h3⟩; exact ⟨v, h1, h2.ext hb, h3⟩
def kWindow : Kind Window where
  sz := 4
  K := fun _ x cs => cs = [.int .i64 x.part, .int .i64 x.start, .int .i64 x.len, .int .i64 x.deliver] ∧ I64 x.part ∧ I64 x.start ∧ I64 x.len ∧ I64 x.deliver
  len := fun h => by rw [h.1]; rfl
  mono := fun _ h => h
def kGrant : Kind Grant where
  sz := 3
  K := fun _ x cs => cs = [.int .i64 x.frame, .int .i64 x.to, .bool x.write] ∧ I64 x.frame ∧ I64 x.to
  len := fun h => by rw [h.1]; rfl
  mono := fun _ h => h
def kPiece : Kind Piece where
  sz := 3
  K := fun _ x cs => cs = [.int .i64 x.frame, .int .i64 x.off, .int .i64 x.len] ∧ I64 x.frame ∧ I64 x.off ∧ I64 x.len
  len := fun h => by rw [h.1]; rfl
  mono := fun _ h => h
def kEntry : Kind Entry where
  sz := 2
  K := fun _ x cs => cs = [.int .i64 x.frame, .int .i64 x.perm] ∧ I64 x.frame ∧ I64 x.perm
  len := fun h => by rw [h.1]; rfl
  mono := fun _ h => h
/-- The nine cells of a config: its four slices are vp, vd, vw, vg. -/
def kConfig : Kind Config where
  sz := 9
  K := fun w x cs => ∃ vp vd vw vg, cs = [.int .i64 x.frames, vp, vd, .int .i64 x.major, vw, vg, .int .i64 x.sectors, .int .i64 x.quota, .int .i64 x.quiet] ∧
    kPart.Sl w vp x.parts ∧ kDevice.Sl w vd x.devices ∧ kWindow.Sl w vw x.windows ∧ kGrant.Sl w vg x.grants ∧ I64 x.frames ∧ I64 x.major ∧ I64 x.sectors ∧ I64 x.quota ∧ I64 x.quiet
  len := by rintro w x cs ⟨vp, vd, vw, vg, rfl, _⟩; rfl
  mono := by rintro w w' x cs hb ⟨vp, vd, vw, vg, h1, h2, h3, h4, h5, h6⟩; exact ⟨vp, vd, vw, vg, h1, h2.ext hb, h3.ext hb, h4.ext hb, h5.ext hb, h6⟩
/-- A config behind a pointer, laid open. -/
theorem cfg_open {w : World} {bc : Nat} {c : Config} (h : kConfig.At w bc 0 c) : ∃ vp vd vw vg, bc < w.heap.size ∧
    w.cell? ⟨bc, 0, none⟩ = some (.int .i64 c.frames) ∧ w.cell? ⟨bc, 1, none⟩ = some vp ∧ w.cell? ⟨bc, 2, none⟩ = some vd ∧ w.cell? ⟨bc, 3, none⟩ = some (.int .i64 c.major) ∧ w.cell? ⟨bc, 4, none⟩ = some vw ∧ w.cell? ⟨bc, 5, none⟩ = some vg ∧
    w.cell? ⟨bc, 6, none⟩ = some (.int .i64 c.sectors) ∧ w.cell? ⟨bc, 7, none⟩ = some (.int .i64 c.quota) ∧ w.cell? ⟨bc, 8, none⟩ = some (.int .i64 c.quiet) ∧
    kPart.Sl w vp c.parts ∧ kDevice.Sl w vd c.devices ∧ kWindow.Sl w vw c.windows ∧ kGrant.Sl w vg c.grants ∧ I64 c.frames ∧ I64 c.major ∧ I64 c.sectors ∧ I64 c.quota ∧ I64 c.quiet := by
  obtain ⟨c0, c1, c2, c3, c4, c5, c6, c7, c8, hk, h0, h1, h2, h3, h4, h5, h6, h7, h8⟩ := h.zero9 rfl
  obtain ⟨vp, vd, vw, vg, hcs, r⟩ := hk
  simp only [List.cons.injEq, and_true] at hcs
  obtain ⟨rfl, rfl, rfl, rfl, rfl, rfl, rfl, rfl, rfl⟩ := hcs
  exact ⟨_, _, _, _, World.block_lt_of_cell? w _ h0, h0, h1, h2, h3, h4, h5, h6, h7, h8, r⟩
/-- A config as a value. -/
def CfgV (w : World) (v : Value) (c : Config) : Prop := ∃ cs : List Value, v = .agg cs.toArray ∧ kConfig.K w c cs
theorem CfgV.bel {w w' : World} {v : Value} {c : Config} (h : CfgV w v c) (hb : Bel w w') : CfgV w' v c := let ⟨cs, h1, h2⟩ := h; ⟨cs, h1, kConfig.bel hb h2⟩
end Go.Proofs.Ythjhkbnajclcjaa
