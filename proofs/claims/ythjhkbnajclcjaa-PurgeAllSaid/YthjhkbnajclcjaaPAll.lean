/- caissonlaw23.PurgeAll: the walk. -/
import Derived.Test.YthjhkbnajclcjaaPCalls
set_option linter.unusedSimpArgs false
namespace Go.Proofs.Ythjhkbnajclcjaa
open Go.RowKit

def L0 : Part := ⟨⟨0, 0⟩, [0, 1, 2], 0, 4⟩
def L1 : Part := ⟨⟨1, 0⟩, [3, 4], 4, 4⟩
def L2 : Part := ⟨⟨2, 0⟩, [5, 6], 8, 2⟩
def allCfg : Config := { plainCfg with parts := [L0, L1, L2] }
abbrev allPs (N : Nat) : Nat → List Value
  | 0 => [vi 0, vi 0, vs (N + 1) 3, vi 0, vi 4, vi 2, vi 0, vs (N + 2) 2, vi 4, vi 4, vi 1, vi 2, vs (N + 3) 2, vi 8, vi 2]
  | 1 => [vi 0, vi 0, vs (N + 1) 3, vi 0, vi 4, vi 2, vi 0, vs (N + 2) 2, vi 4, vi 4, vi 1, vi 2, vs (N + 3) 2, vi 8, vi 2]
  | 2 => [vi 0, vi 0, vs (N + 1) 3, vi 0, vi 4, vi 1, vi 0, vs (N + 2) 2, vi 4, vi 4, vi 1, vi 2, vs (N + 3) 2, vi 8, vi 2]
  | _ => [vi 0, vi 0, vs (N + 1) 3, vi 0, vi 4, vi 1, vi 0, vs (N + 2) 2, vi 4, vi 4, vi 2, vi 0, vs (N + 3) 2, vi 8, vi 2]
abbrev AllAt (W : World) (N k : Nat) : Prop := CfgAt W N [vi 0, vi 1, vi 2] [vi 3, vi 4] [vi 5, vi 6] (allPs N k) [vi 8, vi 9, vi 10] [vi 11, vi 12] [vi 0, vs (N + 5) 3, vi 2, vs (N + 6) 2] [vi 0, vi 0, vi 2, vi 1, vi 1, vi 2, vi 2, vi 2, vi 2, vi 4, vi 2, vi 5] [vi 2, vi 2, .bool false]
theorem AllAt.k {W : World} {N : Nat} (h : AllAt W N 3) : CfgV W (plainVal N) allCfg :=
  ⟨_, rfl, _, _, _, _, rfl, parts3 L0 L1 L2 _ _ _ h.b_ps (ints_of_blk [0, 1, 2] (by decide) h.b_f0 3 3 rfl (by omega) (by omega)) (ints_of_blk [3, 4] (by decide) h.b_f1 2 2 rfl (by omega) (by omega)) (ints_of_blk [5, 6] (by decide) h.b_f2 2 2 rfl (by omega) (by omega)) (by unfold PartOk; decide) (by unfold PartOk; decide) (by unfold PartOk; decide), h.devices, h.windows, h.grants ⟨2, 2, false⟩ (by decide) (by decide), by decide, by decide, by decide, by decide, by decide⟩
theorem all_ok : purgeOk allCfg 2 = true := by kernel_rfl
theorem all_flows : ((List.range 3).all fun p => flowsRow allCfg p 2) = true := by kernel_rfl
theorem all_flowsTo (x : Int) : flowsTo allCfg 2 x = inB 3 x := by
  unfold flowsTo
  have hl : allCfg.parts.length = 3 := rfl
  rw [hl]
  cases h : inB 3 x
  · rfl
  · have h1 := (inB_iff 3 x).1 h
    have h2 := all_flows
    simp only [List.all_eq_true, List.mem_range] at h2
    rw [h2 x.toNat (by omega)]
    rfl
def isReq (k : Int) : Bool := k == 3 || k == 4
def badX (x : Step) : Bool := (isCall x.kind && !inB 3 x.part) || (isReq x.kind && !inB 2 x.device)
def OutE (mv : Bool) (x y : Step) : Prop := (badX x = true → y = zeroStep) ∧ (badX x = false → (isReq x.kind = true → mv = true → y = x ∨ y = zeroStep) ∧ ((isReq x.kind = false ∨ mv = false) → y = x))
theorem isReq_iff (k : Int) : isReq k = true ↔ k = 3 ∨ k = 4 := by simp [isReq]
theorem outE_same (mv : Bool) (x : Step) (h : badX x = false) : OutE mv x x := ⟨fun h2 => by rw [h] at h2; simp at h2, fun _ => ⟨fun _ _ => .inl rfl, fun _ => rfl⟩⟩
theorem bad_no {x : Step} (h1 : isCall x.kind = false) (h2 : isReq x.kind = false) : badX x = false := by simp [badX, h1, h2]
theorem all_stays (s : PSt) (mv : Bool) (x : Step) (hl : s.tab.length = 2) (hm : mv = false → s.tab = (initP allCfg).tab) :
    OutE (mv || x.kind == 2) x (if (stays allCfg 2 s x).1 then x else zeroStep) ∧ (stays allCfg 2 s x).2.tab.length = 2 ∧ ((mv || x.kind == 2) = false → (stays allCfg 2 s x).2.tab = (initP allCfg).tab) := by
  have hm2 : (mv || x.kind == 2) = false → s.tab = (initP allCfg).tab := fun h => hm (by simp at h; exact h.1)
  unfold stays
  split
  · rename_i hk
    have h1 := (isCall_iff x.kind).1 hk
    have h2 : isReq x.kind = false := by rw [← Bool.not_eq_true, isReq_iff]; omega
    refine ⟨?_, hl, hm2⟩
    rw [all_flowsTo]
    cases hp : inB 3 x.part
    · exact ⟨fun _ => rfl, fun h => by simp [badX, hk, hp] at h⟩
    · exact outE_same _ _ (by simp [badX, hk, hp, h2])
  · rename_i hk
    have hk : isCall x.kind = false := by simpa using hk
    split
    · rename_i hr
      have hr : isReq x.kind = true := hr
      refine ⟨?_, hl, hm2⟩
      rw [all_flowsTo]
      cases hd : inB 2 x.device
      · have ho : ownerT s.tab x.device = -1 := by unfold ownerT; rw [hl, hd]; rfl
        rw [ho]
        exact ⟨fun _ => rfl, fun h => by simp [badX, hr, hd] at h⟩
      · have hb : badX x = false := by simp [badX, hk, hd]
        cases hmv : (mv || x.kind == 2)
        · have ht := hm2 hmv
          have h1 := (inB_iff 2 x.device).1 hd
          have ho : inB 3 (ownerT s.tab x.device) = true := by
            rw [ht]
            rcases (by omega : x.device = 0 ∨ x.device = 1) with h | h <;> rw [h] <;> decide
          rw [ho]
          exact outE_same _ _ hb
        · refine ⟨fun h => by rw [hb] at h; simp at h, fun _ => ⟨fun _ _ => ?_, fun h => by simp [hr] at h⟩⟩
          split
          · exact .inl rfl
          · exact .inr rfl
    · rename_i hr
      have hr : isReq x.kind = false := by simpa [isReq] using hr
      have hb := bad_no hk hr
      split
      · rename_i h2
        exact ⟨outE_same _ _ hb, by simpa [moveT_length] using hl, fun h => by simp only [h2, Bool.or_true] at h; exact absurd h (by decide)⟩
      · split
        · exact ⟨outE_same _ _ hb, by simpa [tickT_length] using hl, fun h => by
            show tickT s.tab = _
            rw [hm2 h]
            rfl⟩
        · exact ⟨outE_same _ _ hb, hl, hm2⟩
theorem all_go : ∀ (xs : List Step) (s : PSt) (mv : Bool), s.tab.length = 2 → (mv = false → s.tab = (initP allCfg).tab) → ∀ (k : Nat) (x y : Step), xs[k]? = some x → (purgeGo allCfg 2 s xs)[k]? = some y → OutE (mv || (xs.take (k + 1)).any (·.kind == 2)) x y := by
  intro xs
  induction xs with
  | nil => intro s mv _ _ k x y h; simp at h
  | cons z xs ih =>
    intro s mv hl hm k x y h1 h2
    obtain ⟨g1, g2, g3⟩ := all_stays s mv z hl hm
    cases k with
    | zero =>
      simp only [purgeGo, List.getElem?_cons_zero, Option.some.injEq] at h1 h2
      subst h1 h2
      simpa using g1
    | succ k =>
      simp only [purgeGo, List.getElem?_cons_succ] at h1 h2
      have h := ih _ _ g2 g3 k x y h1 h2
      rw [List.take_succ_cons, List.any_cons, ← Bool.or_assoc]
      exact h
theorem purge_all (xs : List Step) (k : Nat) (hk : k < xs.length) (hk2 : k < (purge allCfg xs 2).length) : OutE ((xs.take k).any (·.kind == 2) || xs[k].kind == 2) xs[k] (purge allCfg xs 2)[k] := by
  have e : purge allCfg xs 2 = purgeGo allCfg 2 (initP allCfg) xs := by unfold purge; rw [if_pos all_ok]; rfl
  have h := all_go xs (initP allCfg) false rfl (fun _ => rfl) k _ (purge allCfg xs 2)[k] (List.getElem?_eq_getElem hk) (by rw [← e]; exact List.getElem?_eq_getElem hk2)
  rw [Bool.false_or, List.take_succ_eq_append_getElem hk, List.any_append, List.any_cons, List.any_nil, Bool.or_false] at h
  exact h
end Go.Proofs.Ythjhkbnajclcjaa
