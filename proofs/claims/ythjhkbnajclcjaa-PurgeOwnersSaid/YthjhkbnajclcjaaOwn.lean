/- Who owns a frame: slices.Index, slices.Contains at ints; config.OwnerOf. -/
import Derived.Test.YthjhkbnajclcjaaSlF
import Derived.Test.YthjhkbnajclcjaaCfg
namespace Go.Proofs.Ythjhkbnajclcjaa
open Go.RowKit

/-- The first place at which a predicate holds; -1: none. -/
def firstIdx {α : Type} (p : α → Bool) : List α → Nat → Int
  | [], _ => -1
  | x :: xs, j => if p x then (j : Int) else firstIdx p xs (j + 1)
theorem idxL_plain {α : Type} (p : α → Bool) (xs : List α) : ∀ j, (idxL (plainStep p) xs j ()).1 = firstIdx p xs j := by
  induction xs with
  | nil => intro j; rfl
  | cons x xs ih =>
    intro j
    unfold idxL firstIdx
    cases h : p x
    · simp only [plainStep, h, Bool.false_eq_true, if_false]; exact ih _
    · simp [plainStep, h]
theorem firstIdx_any {α : Type} (p : α → Bool) (xs : List α) : ∀ j, decide (0 ≤ firstIdx p xs j) = xs.any p := by
  induction xs with
  | nil => intro j; rfl
  | cons x xs ih =>
    intro j
    unfold firstIdx
    cases h : p x
    · simpa [h] using ih (j + 1)
    · simp [h]
theorem firstIdx_lt {α : Type} (p : α → Bool) (xs : List α) : ∀ j, firstIdx p xs j = -1 ∨ ((j : Int) ≤ firstIdx p xs j ∧ firstIdx p xs j < j + xs.length) := by
  induction xs with
  | nil => intro j; exact .inl rfl
  | cons x xs ih =>
    intro j
    unfold firstIdx
    split
    · exact .inr ⟨by omega, by simp only [List.length_cons]; omega⟩
    · rcases ih (j + 1) with h | ⟨h1, h2⟩
      · exact .inl h
      · exact .inr ⟨by omega, by simp only [List.length_cons]; omega⟩

set_option maxHeartbeats 1000000 in
theorem index_int (v : Value) (xs : List Int) (x : Int) (w : World) (h : kInt.Sl w v xs) :
    Calls Try.prog 188 #[v, .int .i64 x] w fun e w' => e = .returned (.int .i64 (firstIdx (fun y => x == y) xs 0)) ∧ w = w' := by
  obtain ⟨A, b, o, c, rfl, hc1, hc2, hA, hrows⟩ := h.form
  have HR := hide (hrows w h); clear hrows h
  go_enter Try.func188, Try.ntmps188
  go_wp2
  go_loop [8] (fun i => ∃ (k : Nat), k ≤ xs.length ∧ i = .int .i64 k ∧ Hid (firstIdx (fun y => x == y) (xs.drop k) k = firstIdx (fun y => x == y) xs 0)) (fun i => xs.length - (intOf i).toNat)
  case atStart => exact ⟨0, Nat.zero_le _, rfl, hide rfl⟩
  case round =>
    obtain ⟨k, hk, rfl, HE⟩ := hrel
    by_cases hlt : k < xs.length
    · obtain ⟨c0, hk0, hc0⟩ := HR.out.get1 rfl hlt
      obtain ⟨hk0, -⟩ := hk0
      simp only [List.cons.injEq, and_true] at hk0
      subst hk0
      have HS := hide (show firstIdx (fun y => x == y) (xs.drop k) k = if (x == xs[k]) then (k : Int) else firstIdx (fun y => x == y) (xs.drop (k + 1)) (k + 1) by rw [drop_cons hlt]; rfl)
      rw [hA (by omega)]
      cases hx : (x == xs[k])
      · go_wp2
        exact ⟨⟨k + 1, by omega, by go_num, hide (by rw [← HE.out, HS.out, hx]; rfl)⟩, by simp [intOf]; omega⟩
      · go_wp2
        go_ret
        rw [← HE.out, HS.out, hx]
        exact ⟨rfl, rfl⟩
    · obtain rfl : k = xs.length := by omega
      go_wp2
      go_ret
      rw [← HE.out, List.drop_length]
      exact ⟨rfl, rfl⟩

/-- Is a number among some? -/
def has (xs : List Int) (x : Int) : Bool := xs.any fun y => x == y
theorem has_iff (xs : List Int) (x : Int) : has xs x = true ↔ x ∈ xs := by simp [has]

theorem contains_int (v : Value) (xs : List Int) (x : Int) (w : World) (h : kInt.Sl w v xs) :
    Calls Try.prog 181 #[v, .int .i64 x] w fun e w' => e = .returned (.bool (has xs x)) ∧ w = w' := by
  have hcon := hide (index_int v xs x w h)
  have HE := hide (firstIdx_any (fun y => x == y) xs 0)
  clear h
  go_enter Try.func181, Try.ntmps181
  go_wp2_with ((with_reducible refine (Hid.out hcon).mono ?_); rintro e w' ⟨rfl, rfl⟩)
  go_ret
  unfold has
  rw [← HE.out]
  simp

/-- Whose a frame is; -1: no partition's. -/
def ownerOf (c : Config) (f : Int) : Int := firstIdx (fun p => has p.frames f) c.parts 0

theorem ownerOf1 (W : World) (x : Part) (f : Int) (B : Nat) (c0 c1 c2 c3 c4 : Value) (hK : kPart.K W x [c0, c1, c2, c3, c4]) (hf : W.cell? ⟨B, 0, none⟩ = some (.int .i64 f)) :
    Calls Try.prog 180 #[.agg #[c0, c1, c2, c3, c4], .pointer (some ⟨B, 0, none⟩)] W fun e w' => e = .returned (.bool (has x.frames f)) ∧ Bel W w' := by
  obtain ⟨v, hcs, hs, -⟩ := hK
  simp only [List.cons.injEq, and_true] at hcs
  obtain ⟨-, -, rfl, -, -⟩ := hcs
  have hB := World.block_lt_of_cell? W _ hf
  have hcon := hide fun o => contains_int c2 x.frames f (W.alloc o) (hs.bel ((bel_refl W).alloc o))
  have hb := hide fun o => (bel_refl W).alloc o
  clear hs
  go_enter Try.func180, Try.ntmps180
  go_wp2_with ((with_reducible refine (Hid.out hcon _).mono ?_); rintro e w' ⟨rfl, rfl⟩)
  go_ret
  exact ⟨rfl, hb.out _⟩

theorem ownerOf_calls (w : World) (bc : Nat) (c : Config) (f : Int) (h : kConfig.At w bc 0 c) :
    Calls Try.prog 161 #[.pointer (some ⟨bc, 0, none⟩), .int .i64 f] w fun e w' => e = .returned (.int .i64 (ownerOf c f)) ∧ Bel w w' := by
  obtain ⟨c0, c1, c2, c3, c4, c5, c6, c7, c8, hk, h0, h1, h2, h3, h4, h5, h6, h7, h8⟩ := h.zero9 rfl
  obtain ⟨vp, vd, vw, vg, hcs, hp, -⟩ := hk
  simp only [List.cons.injEq, and_true] at hcs
  obtain ⟨-, rfl, -⟩ := hcs
  have hbc := World.block_lt_of_cell? w _ h1
  have hb := hide fun o => (bel_refl w).alloc o
  have hcon := hide fun t =>
    indexFunc_Part kPart rfl (fun _ W => Bel (w.alloc (.cells #[.int .i64 f] t)) W) (plainStep fun p => has p.frames f) 180 #[.pointer (some ⟨w.heap.size, 0, none⟩)]
    (enters Try.func180 (by kernel_rfl) rfl) c1 c.parts (fun _ W hW => hp.bel ((hb.out _).trans hW))
    (fun _ W x c0 c1 c2 c3 c4 _ hK hW => (ownerOf1 W x f w.heap.size c0 c1 c2 c3 c4 hK (hW.cell (by simp))).mono fun e w' ⟨he, hw⟩ => ⟨he, hW.trans hw⟩) () _ (bel_refl _)
  have HE := hide (idxL_plain (fun p : Part => has p.frames f) c.parts 0)
  clear hp h h0 h2 h3 h4 h5 h6 h7 h8
  go_enter Try.func161, Try.ntmps161
  go_wp2_with ((with_reducible refine (Hid.out hcon _).mono ?_); rintro e w' ⟨rfl, hi⟩)
  go_ret
  rw [HE.out]
  exact ⟨rfl, (hb.out _).trans hi⟩
end Go.Proofs.Ythjhkbnajclcjaa
