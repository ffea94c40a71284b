/- Arguments with the bound on their length that every row grants: whatever reads as a datum of a type reads as plain data of ours that fits into memory. -/
import Derived.Test.YthjhkbnajclcjaaOpen
import Derived.SizedLaws
namespace Go.Proofs.Ythjhkbnajclcjaa
open Go.RowKit Go.ChangeShapes Go.WideShapes Go.Deep
set_option maxRecDepth 100000

/-- What one slice may take up. -/
abbrev Top : Nat := 140737488351232
theorem top_eq : reachBytes = Top := rfl
/-- What reads as a datum of type t, each slice of it within the reach, holds a value of kind d that fits. -/
def OpensF {α : Type} (d : Kind α) (F : α → Prop) (t : TypeId) : Prop :=
  ∀ {H : Type} (enc : TypeId × Value → H) (w : World) (base : Nat) (spare : Nat → Bool) (held : Bool) (n : Nat) (cs : List Value) (x : DataW H × List MemPlace),
    DataW.trod enc Try.prog w base spare held n t cs = some x → (x.1.weights Try.prog t).all (· ≤ reachBytes) = true → ∃ a, d.K w a cs ∧ F a
theorem Opens.f {α : Type} {d : Kind α} {t : TypeId} (h : Opens d t) : OpensF d (fun _ => True) t := fun enc w base spare held n cs x hx _ =>
  let ⟨a, ha⟩ := h enc w base spare held n cs x hx; ⟨a, ha, trivial⟩
theorem all_each {H : Type} {P : Program} {ts : List TypeId} {ds : List (DataW H)} (h : (DataW.weightsEach P ts ds).all (· ≤ reachBytes) = true) {j : Nat} {t : TypeId} {d : DataW H} (ht : ts[j]? = some t) (hd : ds[j]? = some d) : (d.weights P t).all (· ≤ reachBytes) = true := by
  rw [List.all_eq_true] at h ⊢
  exact fun n hn => h n (DataW.weights_mem_each ht hd n hn)
theorem all_all {H : Type} {P : Program} {e : TypeId} : ∀ {ds : List (DataW H)}, (DataW.weightsAll P e ds).all (· ≤ reachBytes) = true → ∀ {j : Nat} {d : DataW H}, ds[j]? = some d → (d.weights P e).all (· ≤ reachBytes) = true
  | [], _, j, d, hd => by simp at hd
  | d0 :: ds, h, 0, d, hd => by
    simp only [DataW.weightsAll, List.all_append, Bool.and_eq_true] at h
    simp only [List.getElem?_cons_zero, Option.some.injEq] at hd
    subst hd
    exact h.1
  | d0 :: ds, h, j + 1, d, hd => by
    simp only [DataW.weightsAll, List.all_append, Bool.and_eq_true] at h
    rw [List.getElem?_cons_succ] at hd
    exact all_all h.2 hd
/-- A list whose elements take B bytes each fits, and so does each of them. -/
def Fits {α : Type} (B : Nat) (F : α → Prop) (xs : List α) : Prop := xs.length * B ≤ Top ∧ ∀ y ∈ xs, F y
theorem OpensF.slice {α : Type} {d : Kind α} {F : α → Prop} {e t : TypeId} {B : Nat} (hd : OpensF d F e) (ht : Try.prog.underlying t = some (.slice e)) (hC : Try.prog.cellsOf e = d.sz) (hB : Try.prog.bytesOf e = B) (h0 : 0 < d.sz) : OpensF (kSl d) (Fits B F) t := fun enc w base spare held n cs x h hsz => by
  rcases open_slice ht h with ⟨rfl, rfl⟩ | ⟨a, len, cap, m, n, D, Pl, rfl, hb, hl, hm, hmm, rfl, hi⟩
  · exact ⟨[], ⟨_, rfl, nil_sl d w⟩, by simp, by simp⟩
  · have hlm : len ≤ m := by rw [hmm]; split <;> omega
    simp only [DataW.weights, ht, List.all_cons, List.all_append, Bool.and_eq_true, decide_eq_true_eq, hB, List.length_map, List.length_range] at hsz
    obtain ⟨hsz1, hsz2, -⟩ := hsz
    have hlB : len * B ≤ Top := Nat.le_trans (Nat.mul_le_mul_right _ (by omega)) hsz1
    have hget : ∀ i, i < len → ∃ (y : α) (cs' : List Value), F y ∧ d.K w y cs' ∧ ∀ k, k < d.sz → w.cell? ((a.add (i * d.sz)).add k) = cs'[k]? := fun i him => by
      obtain ⟨cs', hc, ht'⟩ := hi i (by omega)
      rw [hC] at hc
      obtain ⟨y, hy, hF⟩ := hd enc w base spare held n cs' _ ht' (all_all hsz2 (j := i) (by simp [him]))
      exact ⟨y, cs', hF, hy, (World.cells?_some hc).2.2⟩
    unfold maxLen at hm
    rcases Nat.eq_zero_or_pos len with hz | hz
    · subst hz
      exact ⟨[], ⟨_, rfl, some a, 0, 0, cap, rfl, Nat.zero_le _, by omega, fun h => by simp at h, fun j y hj => by simp at hj⟩, by simp, by simp⟩
    · obtain ⟨b, o, sp⟩ := a
      obtain rfl : sp = none := by
        obtain ⟨y, cs', -, hy, hc⟩ := hget 0 hz
        have hl := d.len hy
        have h1 := hc 0 h0
        rw [List.getElem?_eq_getElem (by omega)] at h1
        have h2 := World.cell?_spot h1
        rw [Nat.zero_mul] at h2
        unfold Addr.add at h2
        split at h2 <;> simp_all
      obtain ⟨y0, -⟩ := hget 0 hz
      have hall : ∀ i : Nat, ∃ y : α, i < len → F y ∧ ∃ cs' : List Value, d.K w y cs' ∧ ∀ k, k < d.sz → w.cell? (((⟨b, o, none⟩ : Addr).add (i * d.sz)).add k) = cs'[k]? := fun i => by
        by_cases h : i < len
        · obtain ⟨y, cs', hF, hy⟩ := hget i h
          exact ⟨y, fun _ => ⟨hF, cs', hy⟩⟩
        · exact ⟨y0, fun h' => absurd h' h⟩
      obtain ⟨f, hf⟩ := Classical.axiomOfChoice hall
      refine ⟨(List.range len).map f, ⟨_, rfl, some ⟨b, o, none⟩, b, o, cap, by simp, by simpa using hl, by omega, fun _ => rfl, fun j y hj => ?_⟩, by simpa using hlB, fun y hy => ?_⟩
      · have hlt : j < len := by
          have := (List.getElem?_eq_some_iff.1 hj).1
          simpa using this
        have hjf : y = f j := by simpa [hlt] using hj.symm
        subst hjf
        obtain ⟨-, cs', hk, hc⟩ := hf j hlt
        refine ⟨cs', hk, fun i u hu => ?_⟩
        have hi : i < cs'.length := (List.getElem?_eq_some_iff.1 hu).1
        have h1 := hc i (by rw [← d.len hk]; exact hi)
        rw [hu, add_none, add_none] at h1
        exact h1
      · obtain ⟨j, hj, rfl⟩ := List.mem_map.1 hy
        exact (hf j (by simpa using hj)).1
theorem OpensF.mono {α : Type} {d : Kind α} {F G : α → Prop} {t : TypeId} (h : OpensF d F t) (hg : ∀ a, F a → G a) : OpensF d G t := fun enc w base spare held n cs x hx hs =>
  let ⟨a, ha, hF⟩ := h enc w base spare held n cs x hx hs; ⟨a, ha, hg a hF⟩
theorem sl1f {α : Type} {d : Kind α} {F : List α → Prop} {t : TypeId} (ho : OpensF (kSl d) F t) {H : Type} {enc : TypeId × Value → H} {w : World} {base : Nat} {spare : Nat → Bool} {held : Bool} {n : Nat} {c : Value} {x : DataW H × List MemPlace} (h : DataW.trod enc Try.prog w base spare held n t [c] = some x) (hs : (x.1.weights Try.prog t).all (· ≤ reachBytes) = true) : ∃ xs, d.Sl w c xs ∧ F xs := by
  obtain ⟨xs, ⟨v, hv, hk⟩, hF⟩ := ho enc w base spare held n _ _ h hs
  simp only [List.cons.injEq, and_true] at hv
  subst hv
  exact ⟨xs, hk, hF⟩

theorem bytes_int : Try.prog.bytesOf 3 = 8 := by kernel_rfl
theorem bytes_Part : Try.prog.bytesOf 40 = 56 := by kernel_rfl
theorem bytes_Device : Try.prog.bytesOf 42 = 32 := by kernel_rfl
theorem bytes_Window : Try.prog.bytesOf 119 = 32 := by kernel_rfl
theorem bytes_Grant : Try.prog.bytesOf 44 = 24 := by kernel_rfl
theorem bytes_Step : Try.prog.bytesOf 59 = 64 := by kernel_rfl
theorem cells_Step : Try.prog.cellsOf 59 = 7 := by kernel_rfl
theorem cells_string : Try.prog.cellsOf 9 = 1 := by kernel_rfl
theorem opensF_ints : OpensF (kSl kInt) (Fits 8 fun _ => True) 38 := OpensF.slice (Opens.f opens_int) Try.underlying38 cells_int bytes_int (by decide)

/-- A step: what a script says. -/
structure Step where
  kind : Int
  part : Int
  device : Int
  a : Int
  b : Int
  c : Int
  data : ByteArray
  deriving DecidableEq
def kStep : Kind Step where
  sz := 7
  K := fun _ x cs => cs = [.int .i64 x.kind, .int .i64 x.part, .int .i64 x.device, .int .i64 x.a, .int .i64 x.b, .int .i64 x.c, .string x.data] ∧ I64 x.kind ∧ I64 x.part ∧ I64 x.device ∧ I64 x.a ∧ I64 x.b ∧ I64 x.c ∧ x.data.size ≤ Top
  len := fun h => by rw [h.1]; rfl
  mono := fun _ h => h
theorem opensF_str : OpensF kStr (fun s => s.size ≤ Top) 9 := fun enc w base spare held n cs x h hs => by
  obtain ⟨s, rfl, rfl, -⟩ := DataW.trod_string Try.underlying9 h
  simp only [DataW.weights, List.all_cons, List.all_nil, Bool.and_true] at hs
  have h1 : s.size ≤ Top := by have h0 := of_decide_eq_true hs; simpa [reachBytes] using h0
  exact ⟨s, ⟨rfl, by omega⟩, h1⟩

/-- A partition, a device, a config, each list of which fits. -/
def FitPart (p : Part) : Prop := Fits 8 (fun _ => True) p.frames
def FitDevice (d : Device) : Prop := Fits 8 (fun _ => True) d.pool
structure FitCfg (c : Config) : Prop where
  parts : Fits 56 FitPart c.parts
  devices : Fits 32 FitDevice c.devices
  windows : Fits 32 (fun _ => True) c.windows
  grants : Fits 24 (fun _ => True) c.grants
theorem opensF_Part : OpensF kPart FitPart 40 := fun enc w base spare held n cs x h hs => by
  obtain ⟨xs, m, -, rfl, hl, hlen, hf⟩ := DataW.trod_struct Try.underlying40 h
  rw [cells_Part] at hl
  simp only [DataW.weights, Try.underlying40] at hs
  match cs, hl with
  | [c0, c1, c2, c3, c4], _ =>
    have h0 : DataW.trod enc Try.prog w base spare held m 37 [c0, c1] = xs[0]? := by
      have h := hf 0 _ rfl
      change DataW.trod enc Try.prog w base spare held m 37 (List.take (Try.prog.cellsOf 37) (List.drop 0 [c0, c1, c2, c3, c4])) = _ at h
      rw [cells_Label] at h
      exact h
    have l0 : 0 < xs.length := by rw [hlen]; decide
    rw [List.getElem?_eq_getElem l0] at h0
    have h1 : DataW.trod enc Try.prog w base spare held m 38 [c2] = xs[1]? := by
      have h := hf 1 _ rfl
      change DataW.trod enc Try.prog w base spare held m 38 (List.take (Try.prog.cellsOf 38) (List.drop 2 [c0, c1, c2, c3, c4])) = _ at h
      rw [cells_ints] at h
      exact h
    have l1 : 1 < xs.length := by rw [hlen]; decide
    rw [List.getElem?_eq_getElem l1] at h1
    have s1 : ((xs[1].1).weights Try.prog 38).all (· ≤ reachBytes) = true := all_each hs (j := 1) rfl (by rw [List.getElem?_map, List.getElem?_eq_getElem l1]; rfl)
    have h2 : DataW.trod enc Try.prog w base spare held m 3 [c3] = xs[2]? := by
      have h := hf 2 _ rfl
      change DataW.trod enc Try.prog w base spare held m 3 (List.take (Try.prog.cellsOf 3) (List.drop 3 [c0, c1, c2, c3, c4])) = _ at h
      rw [cells_int] at h
      exact h
    have l2 : 2 < xs.length := by rw [hlen]; decide
    rw [List.getElem?_eq_getElem l2] at h2
    have h3 : DataW.trod enc Try.prog w base spare held m 3 [c4] = xs[3]? := by
      have h := hf 3 _ rfl
      change DataW.trod enc Try.prog w base spare held m 3 (List.take (Try.prog.cellsOf 3) (List.drop 4 [c0, c1, c2, c3, c4])) = _ at h
      rw [cells_int] at h
      exact h
    have l3 : 3 < xs.length := by rw [hlen]; decide
    rw [List.getElem?_eq_getElem l3] at h3
    obtain ⟨⟨x0, x1⟩, hx0⟩ := opens_Label enc w base spare held m [c0, c1] _ h0
    obtain ⟨rfl, rfl, i0, i1⟩ : c0 = .int .i64 x0 ∧ c1 = .int .i64 x1 ∧ I64 x0 ∧ I64 x1 := by simpa [kLabel, and_assoc] using hx0
    obtain ⟨x2, i2, f2⟩ := sl1f (c := c2) opensF_ints h1 s1
    obtain ⟨x3, rfl, i3⟩ := int1 (c := c3) h2
    obtain ⟨x4, rfl, i4⟩ := int1 (c := c4) h3
    exact ⟨⟨⟨x0, x1⟩, x2, x3, x4⟩, ⟨c2, rfl, i2, i0, i1, i3, i4⟩, f2⟩
theorem opensF_Device : OpensF kDevice FitDevice 42 := fun enc w base spare held n cs x h hs => by
  obtain ⟨xs, m, -, rfl, hl, hlen, hf⟩ := DataW.trod_struct Try.underlying42 h
  rw [cells_Device] at hl
  simp only [DataW.weights, Try.underlying42] at hs
  match cs, hl with
  | [c0, c1], _ =>
    have h0 : DataW.trod enc Try.prog w base spare held m 3 [c0] = xs[0]? := by
      have h := hf 0 _ rfl
      change DataW.trod enc Try.prog w base spare held m 3 (List.take (Try.prog.cellsOf 3) (List.drop 0 [c0, c1])) = _ at h
      rw [cells_int] at h
      exact h
    have l0 : 0 < xs.length := by rw [hlen]; decide
    rw [List.getElem?_eq_getElem l0] at h0
    have h1 : DataW.trod enc Try.prog w base spare held m 38 [c1] = xs[1]? := by
      have h := hf 1 _ rfl
      change DataW.trod enc Try.prog w base spare held m 38 (List.take (Try.prog.cellsOf 38) (List.drop 1 [c0, c1])) = _ at h
      rw [cells_ints] at h
      exact h
    have l1 : 1 < xs.length := by rw [hlen]; decide
    rw [List.getElem?_eq_getElem l1] at h1
    have s1 : ((xs[1].1).weights Try.prog 38).all (· ≤ reachBytes) = true := all_each hs (j := 1) rfl (by rw [List.getElem?_map, List.getElem?_eq_getElem l1]; rfl)
    obtain ⟨x0, rfl, i0⟩ := int1 (c := c0) h0
    obtain ⟨x1, i1, f1⟩ := sl1f (c := c1) opensF_ints h1 s1
    exact ⟨⟨x0, x1⟩, ⟨c1, rfl, i1, i0⟩, f1⟩
theorem opensF_Parts : OpensF (kSl kPart) (Fits 56 FitPart) 22 := OpensF.slice opensF_Part Try.underlying22 cells_Part bytes_Part (by decide)
theorem opensF_Devices : OpensF (kSl kDevice) (Fits 32 FitDevice) 23 := OpensF.slice opensF_Device Try.underlying23 cells_Device bytes_Device (by decide)
theorem opensF_Windows : OpensF (kSl kWindow) (Fits 32 fun _ => True) 24 := OpensF.slice (Opens.f opens_Window) Try.underlying24 cells_Window bytes_Window (by decide)
theorem opensF_Grants : OpensF (kSl kGrant) (Fits 24 fun _ => True) 25 := OpensF.slice (Opens.f opens_Grant) Try.underlying25 cells_Grant bytes_Grant (by decide)
theorem opensF_Config : OpensF kConfig FitCfg 27 := fun enc w base spare held n cs x h hs => by
  obtain ⟨xs, m, -, rfl, hl, hlen, hf⟩ := DataW.trod_struct Try.underlying27 h
  rw [cells_Config] at hl
  simp only [DataW.weights, Try.underlying27] at hs
  match cs, hl with
  | [c0, c1, c2, c3, c4, c5, c6, c7, c8], _ =>
    have h0 : DataW.trod enc Try.prog w base spare held m 3 [c0] = xs[0]? := by
      have h := hf 0 _ rfl
      change DataW.trod enc Try.prog w base spare held m 3 (List.take (Try.prog.cellsOf 3) (List.drop 0 [c0, c1, c2, c3, c4, c5, c6, c7, c8])) = _ at h
      rw [cells_int] at h
      exact h
    have l0 : 0 < xs.length := by rw [hlen]; decide
    rw [List.getElem?_eq_getElem l0] at h0
    have h1 : DataW.trod enc Try.prog w base spare held m 22 [c1] = xs[1]? := by
      have h := hf 1 _ rfl
      change DataW.trod enc Try.prog w base spare held m 22 (List.take (Try.prog.cellsOf 22) (List.drop 1 [c0, c1, c2, c3, c4, c5, c6, c7, c8])) = _ at h
      rw [cells_parts] at h
      exact h
    have l1 : 1 < xs.length := by rw [hlen]; decide
    rw [List.getElem?_eq_getElem l1] at h1
    have s1 : ((xs[1].1).weights Try.prog 22).all (· ≤ reachBytes) = true := all_each hs (j := 1) rfl (by rw [List.getElem?_map, List.getElem?_eq_getElem l1]; rfl)
    have h2 : DataW.trod enc Try.prog w base spare held m 23 [c2] = xs[2]? := by
      have h := hf 2 _ rfl
      change DataW.trod enc Try.prog w base spare held m 23 (List.take (Try.prog.cellsOf 23) (List.drop 2 [c0, c1, c2, c3, c4, c5, c6, c7, c8])) = _ at h
      rw [cells_devices] at h
      exact h
    have l2 : 2 < xs.length := by rw [hlen]; decide
    rw [List.getElem?_eq_getElem l2] at h2
    have s2 : ((xs[2].1).weights Try.prog 23).all (· ≤ reachBytes) = true := all_each hs (j := 2) rfl (by rw [List.getElem?_map, List.getElem?_eq_getElem l2]; rfl)
    have h3 : DataW.trod enc Try.prog w base spare held m 3 [c3] = xs[3]? := by
      have h := hf 3 _ rfl
      change DataW.trod enc Try.prog w base spare held m 3 (List.take (Try.prog.cellsOf 3) (List.drop 3 [c0, c1, c2, c3, c4, c5, c6, c7, c8])) = _ at h
      rw [cells_int] at h
      exact h
    have l3 : 3 < xs.length := by rw [hlen]; decide
    rw [List.getElem?_eq_getElem l3] at h3
    have h4 : DataW.trod enc Try.prog w base spare held m 24 [c4] = xs[4]? := by
      have h := hf 4 _ rfl
      change DataW.trod enc Try.prog w base spare held m 24 (List.take (Try.prog.cellsOf 24) (List.drop 4 [c0, c1, c2, c3, c4, c5, c6, c7, c8])) = _ at h
      rw [cells_windows] at h
      exact h
    have l4 : 4 < xs.length := by rw [hlen]; decide
    rw [List.getElem?_eq_getElem l4] at h4
    have s4 : ((xs[4].1).weights Try.prog 24).all (· ≤ reachBytes) = true := all_each hs (j := 4) rfl (by rw [List.getElem?_map, List.getElem?_eq_getElem l4]; rfl)
    have h5 : DataW.trod enc Try.prog w base spare held m 25 [c5] = xs[5]? := by
      have h := hf 5 _ rfl
      change DataW.trod enc Try.prog w base spare held m 25 (List.take (Try.prog.cellsOf 25) (List.drop 5 [c0, c1, c2, c3, c4, c5, c6, c7, c8])) = _ at h
      rw [cells_grants] at h
      exact h
    have l5 : 5 < xs.length := by rw [hlen]; decide
    rw [List.getElem?_eq_getElem l5] at h5
    have s5 : ((xs[5].1).weights Try.prog 25).all (· ≤ reachBytes) = true := all_each hs (j := 5) rfl (by rw [List.getElem?_map, List.getElem?_eq_getElem l5]; rfl)
    have h6 : DataW.trod enc Try.prog w base spare held m 3 [c6] = xs[6]? := by
      have h := hf 6 _ rfl
      change DataW.trod enc Try.prog w base spare held m 3 (List.take (Try.prog.cellsOf 3) (List.drop 6 [c0, c1, c2, c3, c4, c5, c6, c7, c8])) = _ at h
      rw [cells_int] at h
      exact h
    have l6 : 6 < xs.length := by rw [hlen]; decide
    rw [List.getElem?_eq_getElem l6] at h6
    have h7 : DataW.trod enc Try.prog w base spare held m 3 [c7] = xs[7]? := by
      have h := hf 7 _ rfl
      change DataW.trod enc Try.prog w base spare held m 3 (List.take (Try.prog.cellsOf 3) (List.drop 7 [c0, c1, c2, c3, c4, c5, c6, c7, c8])) = _ at h
      rw [cells_int] at h
      exact h
    have l7 : 7 < xs.length := by rw [hlen]; decide
    rw [List.getElem?_eq_getElem l7] at h7
    have h8 : DataW.trod enc Try.prog w base spare held m 3 [c8] = xs[8]? := by
      have h := hf 8 _ rfl
      change DataW.trod enc Try.prog w base spare held m 3 (List.take (Try.prog.cellsOf 3) (List.drop 8 [c0, c1, c2, c3, c4, c5, c6, c7, c8])) = _ at h
      rw [cells_int] at h
      exact h
    have l8 : 8 < xs.length := by rw [hlen]; decide
    rw [List.getElem?_eq_getElem l8] at h8
    obtain ⟨x0, rfl, i0⟩ := int1 (c := c0) h0
    obtain ⟨x1, i1, f1⟩ := sl1f (c := c1) opensF_Parts h1 s1
    obtain ⟨x2, i2, f2⟩ := sl1f (c := c2) opensF_Devices h2 s2
    obtain ⟨x3, rfl, i3⟩ := int1 (c := c3) h3
    obtain ⟨x4, i4, f4⟩ := sl1f (c := c4) opensF_Windows h4 s4
    obtain ⟨x5, i5, f5⟩ := sl1f (c := c5) opensF_Grants h5 s5
    obtain ⟨x6, rfl, i6⟩ := int1 (c := c6) h6
    obtain ⟨x7, rfl, i7⟩ := int1 (c := c7) h7
    obtain ⟨x8, rfl, i8⟩ := int1 (c := c8) h8
    exact ⟨⟨x0, x1, x2, x3, x4, x5, x6, x7, x8⟩, ⟨c1, c2, c4, c5, rfl, i1, i2, i4, i5, i0, i3, i6, i7, i8⟩, ⟨f1, f2, f4, f5⟩⟩
theorem opensF_Step : OpensF kStep (fun _ => True) 59 := fun enc w base spare held n cs x h hs => by
  obtain ⟨xs, m, -, rfl, hl, hlen, hf⟩ := DataW.trod_struct Try.underlying59 h
  rw [cells_Step] at hl
  simp only [DataW.weights, Try.underlying59] at hs
  match cs, hl with
  | [c0, c1, c2, c3, c4, c5, c6], _ =>
    have h0 : DataW.trod enc Try.prog w base spare held m 3 [c0] = xs[0]? := by
      have h := hf 0 _ rfl
      change DataW.trod enc Try.prog w base spare held m 3 (List.take (Try.prog.cellsOf 3) (List.drop 0 [c0, c1, c2, c3, c4, c5, c6])) = _ at h
      rw [cells_int] at h
      exact h
    have l0 : 0 < xs.length := by rw [hlen]; decide
    rw [List.getElem?_eq_getElem l0] at h0
    have h1 : DataW.trod enc Try.prog w base spare held m 3 [c1] = xs[1]? := by
      have h := hf 1 _ rfl
      change DataW.trod enc Try.prog w base spare held m 3 (List.take (Try.prog.cellsOf 3) (List.drop 1 [c0, c1, c2, c3, c4, c5, c6])) = _ at h
      rw [cells_int] at h
      exact h
    have l1 : 1 < xs.length := by rw [hlen]; decide
    rw [List.getElem?_eq_getElem l1] at h1
    have h2 : DataW.trod enc Try.prog w base spare held m 3 [c2] = xs[2]? := by
      have h := hf 2 _ rfl
      change DataW.trod enc Try.prog w base spare held m 3 (List.take (Try.prog.cellsOf 3) (List.drop 2 [c0, c1, c2, c3, c4, c5, c6])) = _ at h
      rw [cells_int] at h
      exact h
    have l2 : 2 < xs.length := by rw [hlen]; decide
    rw [List.getElem?_eq_getElem l2] at h2
    have h3 : DataW.trod enc Try.prog w base spare held m 3 [c3] = xs[3]? := by
      have h := hf 3 _ rfl
      change DataW.trod enc Try.prog w base spare held m 3 (List.take (Try.prog.cellsOf 3) (List.drop 3 [c0, c1, c2, c3, c4, c5, c6])) = _ at h
      rw [cells_int] at h
      exact h
    have l3 : 3 < xs.length := by rw [hlen]; decide
    rw [List.getElem?_eq_getElem l3] at h3
    have h4 : DataW.trod enc Try.prog w base spare held m 3 [c4] = xs[4]? := by
      have h := hf 4 _ rfl
      change DataW.trod enc Try.prog w base spare held m 3 (List.take (Try.prog.cellsOf 3) (List.drop 4 [c0, c1, c2, c3, c4, c5, c6])) = _ at h
      rw [cells_int] at h
      exact h
    have l4 : 4 < xs.length := by rw [hlen]; decide
    rw [List.getElem?_eq_getElem l4] at h4
    have h5 : DataW.trod enc Try.prog w base spare held m 3 [c5] = xs[5]? := by
      have h := hf 5 _ rfl
      change DataW.trod enc Try.prog w base spare held m 3 (List.take (Try.prog.cellsOf 3) (List.drop 5 [c0, c1, c2, c3, c4, c5, c6])) = _ at h
      rw [cells_int] at h
      exact h
    have l5 : 5 < xs.length := by rw [hlen]; decide
    rw [List.getElem?_eq_getElem l5] at h5
    have h6 : DataW.trod enc Try.prog w base spare held m 9 [c6] = xs[6]? := by
      have h := hf 6 _ rfl
      change DataW.trod enc Try.prog w base spare held m 9 (List.take (Try.prog.cellsOf 9) (List.drop 6 [c0, c1, c2, c3, c4, c5, c6])) = _ at h
      rw [cells_string] at h
      exact h
    have l6 : 6 < xs.length := by rw [hlen]; decide
    rw [List.getElem?_eq_getElem l6] at h6
    have s6 : ((xs[6].1).weights Try.prog 9).all (· ≤ reachBytes) = true := all_each hs (j := 6) rfl (by rw [List.getElem?_map, List.getElem?_eq_getElem l6]; rfl)
    obtain ⟨x0, rfl, i0⟩ := int1 (c := c0) h0
    obtain ⟨x1, rfl, i1⟩ := int1 (c := c1) h1
    obtain ⟨x2, rfl, i2⟩ := int1 (c := c2) h2
    obtain ⟨x3, rfl, i3⟩ := int1 (c := c3) h3
    obtain ⟨x4, rfl, i4⟩ := int1 (c := c4) h4
    obtain ⟨x5, rfl, i5⟩ := int1 (c := c5) h5
    obtain ⟨x6, ⟨hx6, -⟩, f6⟩ := opensF_str enc w base spare held m [c6] _ h6 s6
    obtain rfl : c6 = .string x6 := by simpa using hx6
    exact ⟨⟨x0, x1, x2, x3, x4, x5, x6⟩, ⟨rfl, i0, i1, i2, i3, i4, i5, f6⟩, trivial⟩
theorem opensF_Steps : OpensF (kSl kStep) (Fits 64 fun _ => True) 49 := OpensF.slice opensF_Step Try.underlying49 cells_Step bytes_Step (by decide)
/-- A config among the arguments, with its bounds. -/
theorem open_cfgF {H : Type} {enc : TypeId × Value → H} {w : World} {base : Nat} {spare : Nat → Bool} {held : Bool} {r : Reach} {b0 : Nat} {v : Value} {d : DataW H} {p : List MemPlace} (hv : Value.okWide Try.prog w r b0 27 v) (h : DataW.Trod enc Try.prog w base spare held 27 v d p)
    (hs : (d.weights Try.prog 27).all (· ≤ reachBytes) = true) : ∃ c, CfgV w v c ∧ FitCfg c := by
  obtain ⟨cs, rfl, hsz⟩ := okWide_struct Try.underlying27 hv
  obtain ⟨n, hn⟩ := h
  obtain ⟨c, hc, hF⟩ := opensF_Config enc w base spare held n _ _ hn hs
  exact ⟨c, ⟨cs.toList, by simp, by simpa [Value.cells] using hc⟩, hF⟩
/-- A slice among the arguments, with its bounds. -/
theorem open_slF {α : Type} {k : Kind α} {F : List α → Prop} {t e : TypeId} (ho : OpensF (kSl k) F t) (ht : Try.prog.underlying t = some (.slice e)) {H : Type} {enc : TypeId × Value → H} {w : World} {base : Nat} {spare : Nat → Bool} {held : Bool} {r : Reach} {b0 : Nat} {v : Value} {d : DataW H} {p : List MemPlace} (hv : Value.okWide Try.prog w r b0 t v) (h : DataW.Trod enc Try.prog w base spare held t v d p)
    (hs : (d.weights Try.prog t).all (· ≤ reachBytes) = true) : ∃ xs, k.Sl w v xs ∧ F xs := by
  obtain ⟨a, len, cap, rfl⟩ := okWide_slice ht hv
  obtain ⟨n, hn⟩ := h
  exact sl1f ho hn hs
end Go.Proofs.Ythjhkbnajclcjaa
