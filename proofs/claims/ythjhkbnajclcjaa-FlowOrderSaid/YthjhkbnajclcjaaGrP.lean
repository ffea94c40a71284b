/- The plain law of ConfigGrants: what a config with one grant answers. -/
import Derived.Test.YthjhkbnajclcjaaForms
namespace Go.Proofs.Ythjhkbnajclcjaa
open Go.RowKit

def gcfg (gs : List Grant) : Config := { plainCfg with grants := gs }
def ownB (f p : Int) : Bool := (decide (f < 3) && p == 0) || (((f == 3 || f == 4) && p == 1) || (decide (4 < f) && p == 2))
theorem gr_all : ((List.range 7).all fun f => (List.range 3).all fun p => [true, false].all fun w => mayCfg (gcfg [⟨(f : Int), (p : Int), w⟩]) == !ownB f p) = true := by kernel_rfl
theorem gr_may (f p : Nat) (w : Bool) (hf : f < 7) (hp : p < 3) : mayCfg (gcfg [⟨(f : Int), (p : Int), w⟩]) = !ownB f p := by
  have h := gr_all
  simp only [List.all_eq_true, List.mem_range] at h
  have h2 := h f hf p hp w (by cases w <;> simp)
  simpa using h2
theorem gr_may0 : mayCfg (gcfg []) = true := by kernel_rfl
theorem split_frame (g : Int) : split (g * 64) 64 = [⟨g, 0, 64⟩] := by
  rw [split_step _ _ (by decide)]
  have h1 : g * 64 / 64 = g := by omega
  have h2 : g * 64 % 64 = 0 := by omega
  rw [h1, h2, split_none _ _ (by omega)]
  rfl
theorem gr_within (gs : List Grant) (q g : Int) (w : Bool) (hg0 : 0 ≤ g) (hg : g < 16) (hq0 : 0 ≤ q) (hq : q < 3) : within (gcfg gs) q (g * 64) 64 w = reach (gcfg gs) q g w := by
  have h1 : there (gcfg gs) q = true := by rw [there_iff]; exact ⟨hq0, by simpa [gcfg, plainCfg] using hq⟩
  have h2 : addrMay (g * 64) 64 ((gcfg gs).frames * 64) = true := by
    rw [addrMay_iff]
    have : (gcfg gs).frames = 16 := rfl
    omega
  unfold within
  rw [h1, h2, split_frame]
  simp
/-- Whether partition q owns frame g. -/
def ownQ (q g : Int) : Bool := ownerOf plainCfg g == q
theorem gr_reach0 (q g : Int) (w : Bool) : reach (gcfg []) q g w = ownQ q g := by
  show (ownQ q g || false) = _
  simp
theorem gr_reach1 (f p q g : Int) (wr w : Bool) : reach (gcfg [⟨f, p, wr⟩]) q g w = (ownQ q g || ((g == f && q == p) && (wr || !w))) := by
  show (ownQ q g || ((f == g && (p == q && (wr || !w))) || false)) = _
  rw [Bool.or_false, Bool.and_assoc]
  congr 2
  · exact Bool.beq_comm
  · congr 1
    exact Bool.beq_comm
theorem gr_allowed0 (q g : Int) (w : Bool) (hg0 : 0 ≤ g) (hg : g < 16) (hq0 : 0 ≤ q) (hq : q < 3) : allowed (gcfg []) q (g * 64) 64 w = ownQ q g := by
  unfold allowed
  rw [gr_may0, gr_within _ _ _ _ hg0 hg hq0 hq, gr_reach0]
  rfl
theorem gr_allowed1 (f p : Nat) (wr : Bool) (hf : f < 7) (hp : p < 3) (ho : ownB f p = false) (q g : Int) (w : Bool) (hg0 : 0 ≤ g) (hg : g < 16) (hq0 : 0 ≤ q) (hq : q < 3) :
    allowed (gcfg [⟨(f : Int), (p : Int), wr⟩]) q (g * 64) 64 w = (ownQ q g || ((g == (f : Int) && q == (p : Int)) && (wr || !w))) := by
  unfold allowed
  rw [gr_may f p wr hf hp, ho, gr_within _ _ _ _ hg0 hg hq0 hq, gr_reach1]
  rfl
theorem umod (x k : Int) (hk : 0 < k) (hk2 : k ≤ 4611686018427387904) : ∃ f : Nat, wrap64 ((IntKind.u64.wrap x).tmod k) = (f : Int) ∧ (f : Int) < k := by
  have h1 := Int.tmod_nonneg k (wrap_u64_nonneg x)
  have h2 := Int.tmod_lt_of_pos (IntKind.u64.wrap x) hk
  exact ⟨((IntKind.u64.wrap x).tmod k).toNat, by unfold wrap64; omega, by omega⟩
end Go.Proofs.Ythjhkbnajclcjaa
