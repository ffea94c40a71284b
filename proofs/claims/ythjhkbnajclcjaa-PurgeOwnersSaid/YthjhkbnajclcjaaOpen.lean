/- Arguments as the statements read them: whatever reads as a datum of a type reads as plain data of ours. -/
import Derived.Test.YthjhkbnajclcjaaBlk
import Derived.Deep.Slices
import Derived.ChangeSame
import Derived.ProofKit
import Derived.OpenShut
namespace Go.Proofs.Ythjhkbnajclcjaa
open Go.RowKit Go.ChangeShapes Go.WideShapes Go.Deep
set_option maxRecDepth 100000

/-- What reads as a datum of type t holds a value of kind d. -/
def Opens {α : Type} (d : Kind α) (t : TypeId) : Prop :=
  ∀ {H : Type} (enc : TypeId × Value → H) (w : World) (base : Nat) (spare : Nat → Bool) (held : Bool) (n : Nat) (cs : List Value) (x : DataW H × List MemPlace),
    DataW.trod enc Try.prog w base spare held n t cs = some x → ∃ a, d.K w a cs
theorem wf_i64 {x : Int} (h : (Lit.int .i64 x).wf = true) : I64 x := by
  have e1 : IntKind.i64.min = -9223372036854775808 := rfl
  have e2 : IntKind.i64.max = 9223372036854775807 := rfl
  simp [Lit.wf, e1, e2] at h
  exact h
theorem opens_int : Opens kInt 3 := fun enc w base spare held n cs x h => by
  obtain ⟨k, rfl, -, hw⟩ := DataW.trod_int Try.underlying3 h
  exact ⟨k, rfl, wf_i64 hw⟩
theorem opens_bool : Opens kBool 4 := fun enc w base spare held n cs x h => by
  obtain ⟨b, rfl, -⟩ := DataW.trod_bool Try.underlying4 h
  exact ⟨b, rfl⟩
theorem add_none (b o k : Nat) : (⟨b, o, none⟩ : Addr).add k = ⟨b, o + k, none⟩ := by unfold Addr.add; split <;> simp_all
theorem Opens.slice {α : Type} {d : Kind α} {e t : TypeId} (hd : Opens d e) (ht : Try.prog.underlying t = some (.slice e)) (hC : Try.prog.cellsOf e = d.sz) (h0 : 0 < d.sz) : Opens (kSl d) t := fun enc w base spare held n cs x h => by
  rcases open_slice ht h with ⟨rfl, rfl⟩ | ⟨a, len, cap, m, n, D, Pl, rfl, hb, hl, hm, hmm, hx, hi⟩
  · exact ⟨[], _, rfl, nil_sl d w⟩
  · have hlm : len ≤ m := by rw [hmm]; split <;> omega
    have hget : ∀ i, i < len → ∃ (y : α) (cs' : List Value), d.K w y cs' ∧ ∀ k, k < d.sz → w.cell? ((a.add (i * d.sz)).add k) = cs'[k]? := fun i him => by
      obtain ⟨cs', hc, ht'⟩ := hi i (by omega)
      rw [hC] at hc
      obtain ⟨y, hy⟩ := hd enc w base spare held n cs' _ ht'
      exact ⟨y, cs', hy, (World.cells?_some hc).2.2⟩
    unfold maxLen at hm
    rcases Nat.eq_zero_or_pos len with hz | hz
    · subst hz
      exact ⟨[], _, rfl, some a, 0, 0, cap, rfl, Nat.zero_le _, by omega, fun h => by simp at h, fun j y hj => by simp at hj⟩
    · obtain ⟨b, o, sp⟩ := a
      obtain rfl : sp = none := by
        obtain ⟨y, cs', hy, hc⟩ := hget 0 hz
        have hl := d.len hy
        have h1 := hc 0 h0
        rw [List.getElem?_eq_getElem (by omega)] at h1
        have h2 := World.cell?_spot h1
        rw [Nat.zero_mul] at h2
        unfold Addr.add at h2
        split at h2 <;> simp_all
      obtain ⟨y0, -⟩ := hget 0 hz
      have hall : ∀ i : Nat, ∃ y : α, i < len → ∃ cs' : List Value, d.K w y cs' ∧ ∀ k, k < d.sz → w.cell? (((⟨b, o, none⟩ : Addr).add (i * d.sz)).add k) = cs'[k]? := fun i => by
        by_cases h : i < len
        · obtain ⟨y, cs', hy⟩ := hget i h
          exact ⟨y, fun _ => ⟨cs', hy⟩⟩
        · exact ⟨y0, fun h' => absurd h' h⟩
      obtain ⟨f, hf⟩ := Classical.axiomOfChoice hall
      refine ⟨(List.range len).map f, _, rfl, some ⟨b, o, none⟩, b, o, cap, by simp, by simpa using hl, by omega, fun _ => rfl, fun j y hj => ?_⟩
      have hlt : j < len := by
        have := (List.getElem?_eq_some_iff.1 hj).1
        simpa using this
      have hjf : y = f j := by simpa [hlt] using hj.symm
      subst hjf
      obtain ⟨cs', hk, hc⟩ := hf j hlt
      refine ⟨cs', hk, fun i u hu => ?_⟩
      have hi : i < cs'.length := (List.getElem?_eq_some_iff.1 hu).1
      have h1 := hc i (by rw [← d.len hk]; exact hi)
      rw [hu, add_none, add_none] at h1
      exact h1

theorem cells_Label : Try.prog.cellsOf 37 = 2 := by kernel_rfl
theorem cells_Part : Try.prog.cellsOf 40 = 5 := by kernel_rfl
theorem cells_Device : Try.prog.cellsOf 42 = 2 := by kernel_rfl
theorem cells_Window : Try.prog.cellsOf 119 = 4 := by kernel_rfl
theorem cells_Grant : Try.prog.cellsOf 44 = 3 := by kernel_rfl
theorem cells_Config : Try.prog.cellsOf 27 = 9 := by kernel_rfl
theorem cells_int : Try.prog.cellsOf 3 = 1 := by kernel_rfl
theorem cells_bool : Try.prog.cellsOf 4 = 1 := by kernel_rfl
theorem cells_ints : Try.prog.cellsOf 38 = 1 := by kernel_rfl
theorem cells_parts : Try.prog.cellsOf 22 = 1 := by kernel_rfl
theorem cells_devices : Try.prog.cellsOf 23 = 1 := by kernel_rfl
theorem cells_windows : Try.prog.cellsOf 24 = 1 := by kernel_rfl
theorem cells_grants : Try.prog.cellsOf 25 = 1 := by kernel_rfl
theorem opens_ints : Opens (kSl kInt) 38 := opens_int.slice Try.underlying38 cells_int (by decide)
theorem int1 {H : Type} {enc : TypeId × Value → H} {w : World} {base : Nat} {spare : Nat → Bool} {held : Bool} {n : Nat} {c : Value} {x : DataW H × List MemPlace} (h : DataW.trod enc Try.prog w base spare held n 3 [c] = some x) : ∃ k, c = .int .i64 k ∧ I64 k := by
  obtain ⟨k, hk, hi⟩ := opens_int enc w base spare held n _ _ h
  simp only [List.cons.injEq, and_true] at hk
  exact ⟨k, hk, hi⟩
theorem sl1 {α : Type} {d : Kind α} {t : TypeId} (ho : Opens (kSl d) t) {H : Type} {enc : TypeId × Value → H} {w : World} {base : Nat} {spare : Nat → Bool} {held : Bool} {n : Nat} {c : Value} {x : DataW H × List MemPlace} (h : DataW.trod enc Try.prog w base spare held n t [c] = some x) : ∃ xs, d.Sl w c xs := by
  obtain ⟨xs, v, hv, hs⟩ := ho enc w base spare held n _ _ h
  simp only [List.cons.injEq, and_true] at hv
  subst hv
  exact ⟨xs, hs⟩
theorem opens_Label : Opens kLabel 37 := fun enc w base spare held n cs x h => by
  obtain ⟨xs, m, -, -, hl, hlen, hf⟩ := DataW.trod_struct Try.underlying37 h
  rw [cells_Label] at hl
  match cs, hl with
  | [c0, c1], _ =>
    have h0 : DataW.trod enc Try.prog w base spare held m 3 [c0] = xs[0]? := by
      have h := hf 0 _ rfl
      change DataW.trod enc Try.prog w base spare held m 3 (List.take (Try.prog.cellsOf 3) (List.drop 0 [c0, c1])) = _ at h
      rw [cells_int] at h
      exact h
    rw [List.getElem?_eq_getElem (show 0 < xs.length by rw [hlen]; decide)] at h0
    have h1 : DataW.trod enc Try.prog w base spare held m 3 [c1] = xs[1]? := by
      have h := hf 1 _ rfl
      change DataW.trod enc Try.prog w base spare held m 3 (List.take (Try.prog.cellsOf 3) (List.drop 1 [c0, c1])) = _ at h
      rw [cells_int] at h
      exact h
    rw [List.getElem?_eq_getElem (show 1 < xs.length by rw [hlen]; decide)] at h1
    obtain ⟨x0, rfl, i0⟩ := int1 (c := c0) h0
    obtain ⟨x1, rfl, i1⟩ := int1 (c := c1) h1
    exact ⟨⟨x0, x1⟩, rfl, i0, i1⟩
theorem opens_Part : Opens kPart 40 := fun enc w base spare held n cs x h => by
  obtain ⟨xs, m, -, -, hl, hlen, hf⟩ := DataW.trod_struct Try.underlying40 h
  rw [cells_Part] at hl
  match cs, hl with
  | [c0, c1, c2, c3, c4], _ =>
    have h0 : DataW.trod enc Try.prog w base spare held m 37 [c0, c1] = xs[0]? := by
      have h := hf 0 _ rfl
      change DataW.trod enc Try.prog w base spare held m 37 (List.take (Try.prog.cellsOf 37) (List.drop 0 [c0, c1, c2, c3, c4])) = _ at h
      rw [cells_Label] at h
      exact h
    rw [List.getElem?_eq_getElem (show 0 < xs.length by rw [hlen]; decide)] at h0
    have h1 : DataW.trod enc Try.prog w base spare held m 38 [c2] = xs[1]? := by
      have h := hf 1 _ rfl
      change DataW.trod enc Try.prog w base spare held m 38 (List.take (Try.prog.cellsOf 38) (List.drop 2 [c0, c1, c2, c3, c4])) = _ at h
      rw [cells_ints] at h
      exact h
    rw [List.getElem?_eq_getElem (show 1 < xs.length by rw [hlen]; decide)] at h1
    have h2 : DataW.trod enc Try.prog w base spare held m 3 [c3] = xs[2]? := by
      have h := hf 2 _ rfl
      change DataW.trod enc Try.prog w base spare held m 3 (List.take (Try.prog.cellsOf 3) (List.drop 3 [c0, c1, c2, c3, c4])) = _ at h
      rw [cells_int] at h
      exact h
    rw [List.getElem?_eq_getElem (show 2 < xs.length by rw [hlen]; decide)] at h2
    have h3 : DataW.trod enc Try.prog w base spare held m 3 [c4] = xs[3]? := by
      have h := hf 3 _ rfl
      change DataW.trod enc Try.prog w base spare held m 3 (List.take (Try.prog.cellsOf 3) (List.drop 4 [c0, c1, c2, c3, c4])) = _ at h
      rw [cells_int] at h
      exact h
    rw [List.getElem?_eq_getElem (show 3 < xs.length by rw [hlen]; decide)] at h3
    obtain ⟨⟨x0, x1⟩, hx0⟩ := opens_Label enc w base spare held m [c0, c1] _ h0
    obtain ⟨rfl, rfl, i0, i1⟩ : c0 = .int .i64 x0 ∧ c1 = .int .i64 x1 ∧ I64 x0 ∧ I64 x1 := by simpa [kLabel, and_assoc] using hx0
    obtain ⟨x2, i2⟩ := sl1 (c := c2) opens_ints h1
    obtain ⟨x3, rfl, i3⟩ := int1 (c := c3) h2
    obtain ⟨x4, rfl, i4⟩ := int1 (c := c4) h3
    exact ⟨⟨⟨x0, x1⟩, x2, x3, x4⟩, c2, rfl, i2, i0, i1, i3, i4⟩
theorem opens_Device : Opens kDevice 42 := fun enc w base spare held n cs x h => by
  obtain ⟨xs, m, -, -, hl, hlen, hf⟩ := DataW.trod_struct Try.underlying42 h
  rw [cells_Device] at hl
  match cs, hl with
  | [c0, c1], _ =>
    have h0 : DataW.trod enc Try.prog w base spare held m 3 [c0] = xs[0]? := by
      have h := hf 0 _ rfl
      change DataW.trod enc Try.prog w base spare held m 3 (List.take (Try.prog.cellsOf 3) (List.drop 0 [c0, c1])) = _ at h
      rw [cells_int] at h
      exact h
    rw [List.getElem?_eq_getElem (show 0 < xs.length by rw [hlen]; decide)] at h0
    have h1 : DataW.trod enc Try.prog w base spare held m 38 [c1] = xs[1]? := by
      have h := hf 1 _ rfl
      change DataW.trod enc Try.prog w base spare held m 38 (List.take (Try.prog.cellsOf 38) (List.drop 1 [c0, c1])) = _ at h
      rw [cells_ints] at h
      exact h
    rw [List.getElem?_eq_getElem (show 1 < xs.length by rw [hlen]; decide)] at h1
    obtain ⟨x0, rfl, i0⟩ := int1 (c := c0) h0
    obtain ⟨x1, i1⟩ := sl1 (c := c1) opens_ints h1
    exact ⟨⟨x0, x1⟩, c1, rfl, i1, i0⟩
theorem opens_Window : Opens kWindow 119 := fun enc w base spare held n cs x h => by
  obtain ⟨xs, m, -, -, hl, hlen, hf⟩ := DataW.trod_struct Try.underlying119 h
  rw [cells_Window] at hl
  match cs, hl with
  | [c0, c1, c2, c3], _ =>
    have h0 : DataW.trod enc Try.prog w base spare held m 3 [c0] = xs[0]? := by
      have h := hf 0 _ rfl
      change DataW.trod enc Try.prog w base spare held m 3 (List.take (Try.prog.cellsOf 3) (List.drop 0 [c0, c1, c2, c3])) = _ at h
      rw [cells_int] at h
      exact h
    rw [List.getElem?_eq_getElem (show 0 < xs.length by rw [hlen]; decide)] at h0
    have h1 : DataW.trod enc Try.prog w base spare held m 3 [c1] = xs[1]? := by
      have h := hf 1 _ rfl
      change DataW.trod enc Try.prog w base spare held m 3 (List.take (Try.prog.cellsOf 3) (List.drop 1 [c0, c1, c2, c3])) = _ at h
      rw [cells_int] at h
      exact h
    rw [List.getElem?_eq_getElem (show 1 < xs.length by rw [hlen]; decide)] at h1
    have h2 : DataW.trod enc Try.prog w base spare held m 3 [c2] = xs[2]? := by
      have h := hf 2 _ rfl
      change DataW.trod enc Try.prog w base spare held m 3 (List.take (Try.prog.cellsOf 3) (List.drop 2 [c0, c1, c2, c3])) = _ at h
      rw [cells_int] at h
      exact h
    rw [List.getElem?_eq_getElem (show 2 < xs.length by rw [hlen]; decide)] at h2
    have h3 : DataW.trod enc Try.prog w base spare held m 3 [c3] = xs[3]? := by
      have h := hf 3 _ rfl
      change DataW.trod enc Try.prog w base spare held m 3 (List.take (Try.prog.cellsOf 3) (List.drop 3 [c0, c1, c2, c3])) = _ at h
      rw [cells_int] at h
      exact h
    rw [List.getElem?_eq_getElem (show 3 < xs.length by rw [hlen]; decide)] at h3
    obtain ⟨x0, rfl, i0⟩ := int1 (c := c0) h0
    obtain ⟨x1, rfl, i1⟩ := int1 (c := c1) h1
    obtain ⟨x2, rfl, i2⟩ := int1 (c := c2) h2
    obtain ⟨x3, rfl, i3⟩ := int1 (c := c3) h3
    exact ⟨⟨x0, x1, x2, x3⟩, rfl, i0, i1, i2, i3⟩
theorem opens_Grant : Opens kGrant 44 := fun enc w base spare held n cs x h => by
  obtain ⟨xs, m, -, -, hl, hlen, hf⟩ := DataW.trod_struct Try.underlying44 h
  rw [cells_Grant] at hl
  match cs, hl with
  | [c0, c1, c2], _ =>
    have h0 : DataW.trod enc Try.prog w base spare held m 3 [c0] = xs[0]? := by
      have h := hf 0 _ rfl
      change DataW.trod enc Try.prog w base spare held m 3 (List.take (Try.prog.cellsOf 3) (List.drop 0 [c0, c1, c2])) = _ at h
      rw [cells_int] at h
      exact h
    rw [List.getElem?_eq_getElem (show 0 < xs.length by rw [hlen]; decide)] at h0
    have h1 : DataW.trod enc Try.prog w base spare held m 3 [c1] = xs[1]? := by
      have h := hf 1 _ rfl
      change DataW.trod enc Try.prog w base spare held m 3 (List.take (Try.prog.cellsOf 3) (List.drop 1 [c0, c1, c2])) = _ at h
      rw [cells_int] at h
      exact h
    rw [List.getElem?_eq_getElem (show 1 < xs.length by rw [hlen]; decide)] at h1
    have h2 : DataW.trod enc Try.prog w base spare held m 4 [c2] = xs[2]? := by
      have h := hf 2 _ rfl
      change DataW.trod enc Try.prog w base spare held m 4 (List.take (Try.prog.cellsOf 4) (List.drop 2 [c0, c1, c2])) = _ at h
      rw [cells_bool] at h
      exact h
    rw [List.getElem?_eq_getElem (show 2 < xs.length by rw [hlen]; decide)] at h2
    obtain ⟨x0, rfl, i0⟩ := int1 (c := c0) h0
    obtain ⟨x1, rfl, i1⟩ := int1 (c := c1) h1
    obtain ⟨x2, hx2⟩ := opens_bool enc w base spare held m [c2] _ h2
    obtain rfl : c2 = .bool x2 := by simpa [kBool] using hx2
    exact ⟨⟨x0, x1, x2⟩, rfl, i0, i1⟩
theorem opens_Parts : Opens (kSl kPart) 22 := opens_Part.slice Try.underlying22 cells_Part (by decide)
theorem opens_Devices : Opens (kSl kDevice) 23 := opens_Device.slice Try.underlying23 cells_Device (by decide)
theorem opens_Windows : Opens (kSl kWindow) 24 := opens_Window.slice Try.underlying24 cells_Window (by decide)
theorem opens_Grants : Opens (kSl kGrant) 25 := opens_Grant.slice Try.underlying25 cells_Grant (by decide)
theorem opens_Config : Opens kConfig 27 := fun enc w base spare held n cs x h => by
  obtain ⟨xs, m, -, -, hl, hlen, hf⟩ := DataW.trod_struct Try.underlying27 h
  rw [cells_Config] at hl
  match cs, hl with
  | [c0, c1, c2, c3, c4, c5, c6, c7, c8], _ =>
    have h0 : DataW.trod enc Try.prog w base spare held m 3 [c0] = xs[0]? := by
      have h := hf 0 _ rfl
      change DataW.trod enc Try.prog w base spare held m 3 (List.take (Try.prog.cellsOf 3) (List.drop 0 [c0, c1, c2, c3, c4, c5, c6, c7, c8])) = _ at h
      rw [cells_int] at h
      exact h
    rw [List.getElem?_eq_getElem (show 0 < xs.length by rw [hlen]; decide)] at h0
    have h1 : DataW.trod enc Try.prog w base spare held m 22 [c1] = xs[1]? := by
      have h := hf 1 _ rfl
      change DataW.trod enc Try.prog w base spare held m 22 (List.take (Try.prog.cellsOf 22) (List.drop 1 [c0, c1, c2, c3, c4, c5, c6, c7, c8])) = _ at h
      rw [cells_parts] at h
      exact h
    rw [List.getElem?_eq_getElem (show 1 < xs.length by rw [hlen]; decide)] at h1
    have h2 : DataW.trod enc Try.prog w base spare held m 23 [c2] = xs[2]? := by
      have h := hf 2 _ rfl
      change DataW.trod enc Try.prog w base spare held m 23 (List.take (Try.prog.cellsOf 23) (List.drop 2 [c0, c1, c2, c3, c4, c5, c6, c7, c8])) = _ at h
      rw [cells_devices] at h
      exact h
    rw [List.getElem?_eq_getElem (show 2 < xs.length by rw [hlen]; decide)] at h2
    have h3 : DataW.trod enc Try.prog w base spare held m 3 [c3] = xs[3]? := by
      have h := hf 3 _ rfl
      change DataW.trod enc Try.prog w base spare held m 3 (List.take (Try.prog.cellsOf 3) (List.drop 3 [c0, c1, c2, c3, c4, c5, c6, c7, c8])) = _ at h
      rw [cells_int] at h
      exact h
    rw [List.getElem?_eq_getElem (show 3 < xs.length by rw [hlen]; decide)] at h3
    have h4 : DataW.trod enc Try.prog w base spare held m 24 [c4] = xs[4]? := by
      have h := hf 4 _ rfl
      change DataW.trod enc Try.prog w base spare held m 24 (List.take (Try.prog.cellsOf 24) (List.drop 4 [c0, c1, c2, c3, c4, c5, c6, c7, c8])) = _ at h
      rw [cells_windows] at h
      exact h
    rw [List.getElem?_eq_getElem (show 4 < xs.length by rw [hlen]; decide)] at h4
    have h5 : DataW.trod enc Try.prog w base spare held m 25 [c5] = xs[5]? := by
      have h := hf 5 _ rfl
      change DataW.trod enc Try.prog w base spare held m 25 (List.take (Try.prog.cellsOf 25) (List.drop 5 [c0, c1, c2, c3, c4, c5, c6, c7, c8])) = _ at h
      rw [cells_grants] at h
      exact h
    rw [List.getElem?_eq_getElem (show 5 < xs.length by rw [hlen]; decide)] at h5
    have h6 : DataW.trod enc Try.prog w base spare held m 3 [c6] = xs[6]? := by
      have h := hf 6 _ rfl
      change DataW.trod enc Try.prog w base spare held m 3 (List.take (Try.prog.cellsOf 3) (List.drop 6 [c0, c1, c2, c3, c4, c5, c6, c7, c8])) = _ at h
      rw [cells_int] at h
      exact h
    rw [List.getElem?_eq_getElem (show 6 < xs.length by rw [hlen]; decide)] at h6
    have h7 : DataW.trod enc Try.prog w base spare held m 3 [c7] = xs[7]? := by
      have h := hf 7 _ rfl
      change DataW.trod enc Try.prog w base spare held m 3 (List.take (Try.prog.cellsOf 3) (List.drop 7 [c0, c1, c2, c3, c4, c5, c6, c7, c8])) = _ at h
      rw [cells_int] at h
      exact h
    rw [List.getElem?_eq_getElem (show 7 < xs.length by rw [hlen]; decide)] at h7
    have h8 : DataW.trod enc Try.prog w base spare held m 3 [c8] = xs[8]? := by
      have h := hf 8 _ rfl
      change DataW.trod enc Try.prog w base spare held m 3 (List.take (Try.prog.cellsOf 3) (List.drop 8 [c0, c1, c2, c3, c4, c5, c6, c7, c8])) = _ at h
      rw [cells_int] at h
      exact h
    rw [List.getElem?_eq_getElem (show 8 < xs.length by rw [hlen]; decide)] at h8
    obtain ⟨x0, rfl, i0⟩ := int1 (c := c0) h0
    obtain ⟨x1, i1⟩ := sl1 (c := c1) opens_Parts h1
    obtain ⟨x2, i2⟩ := sl1 (c := c2) opens_Devices h2
    obtain ⟨x3, rfl, i3⟩ := int1 (c := c3) h3
    obtain ⟨x4, i4⟩ := sl1 (c := c4) opens_Windows h4
    obtain ⟨x5, i5⟩ := sl1 (c := c5) opens_Grants h5
    obtain ⟨x6, rfl, i6⟩ := int1 (c := c6) h6
    obtain ⟨x7, rfl, i7⟩ := int1 (c := c7) h7
    obtain ⟨x8, rfl, i8⟩ := int1 (c := c8) h8
    exact ⟨⟨x0, x1, x2, x3, x4, x5, x6, x7, x8⟩, c1, c2, c4, c5, rfl, i1, i2, i4, i5, i0, i3, i6, i7, i8⟩
/-- A config among the arguments. -/
theorem open_cfg {H : Type} {enc : TypeId × Value → H} {w : World} {base : Nat} {spare : Nat → Bool} {held : Bool} {r : Reach} {b0 : Nat} {v : Value} {d : DataW H} {p : List MemPlace} (hv : Value.okWide Try.prog w r b0 27 v) (h : DataW.Trod enc Try.prog w base spare held 27 v d p) : ∃ c, CfgV w v c := by
  obtain ⟨cs, rfl, hsz⟩ := okWide_struct Try.underlying27 hv
  obtain ⟨n, hn⟩ := h
  obtain ⟨c, hc⟩ := opens_Config enc w base spare held n _ _ hn
  exact ⟨c, cs.toList, by simp, by simpa [Value.cells] using hc⟩
end Go.Proofs.Ythjhkbnajclcjaa
