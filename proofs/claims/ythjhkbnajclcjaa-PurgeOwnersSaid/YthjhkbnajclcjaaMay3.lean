/- config.May: all rules. -/
import Derived.Test.YthjhkbnajclcjaaGrants
namespace Go.Proofs.Ythjhkbnajclcjaa
open Go.RowKit

def fv (g : FuncId) : Value := .func (.func g) #[] #[]
def RulesAt (W : World) (B : Nat) : Prop := W.cell? ⟨B, 0, none⟩ = some (fv 112) ∧ W.cell? ⟨B, 1, none⟩ = some (fv 113) ∧ W.cell? ⟨B, 2, none⟩ = some (fv 114) ∧ W.cell? ⟨B, 3, none⟩ = some (fv 115) ∧ W.cell? ⟨B, 4, none⟩ = some (fv 116) ∧ W.cell? ⟨B, 5, none⟩ = some (fv 117)
theorem RulesAt.bel {W W' : World} {B : Nat} (h : RulesAt W B) (hb : Bel W W') : RulesAt W' B :=
  ⟨hb.cell h.1, hb.cell h.2.1, hb.cell h.2.2.1, hb.cell h.2.2.2.1, hb.cell h.2.2.2.2.1, hb.cell h.2.2.2.2.2⟩
theorem rules_calls (w : World) : Calls Try.prog 60 #[] w fun e w' => ∃ B, e = .returned (.slice (some ⟨B, 0, none⟩) 6 6) ∧ Bel w w' ∧ RulesAt w' B := by
  have HB := hide fun o => (bel_refl w).alloc o
  go_enter Try.func60, Try.ntmps60
  go_wp2
  go_ret
  refine ⟨_, rfl, HB.out _, ?_⟩
  unfold RulesAt fv
  simp

/-- What config.May says, rule by rule. -/
def mayRules (c : Config) : List Bool := [partsRule c, devicesRule c, framesRule c, windowsRule c, grantsRule c, numbersRule c]
def mayCfg (c : Config) : Bool := (mayRules c).all id

/-- The k-th rule as a function. -/
theorem rule_at (W : World) (B bc : Nat) (c : Config) (hb : kConfig.At W bc 0 c) (hB : RulesAt W B)
    (k : Nat) (hk : k < 6) : ∃ (g : FuncId) (r : Bool), W.cell? ⟨B, k, none⟩ = some (.func (.func g) #[] #[]) ∧ (∀ args w, (callFunc g args).run Try.prog w = .ok (.enter g args) w) ∧ (mayRules c).drop k = r :: (mayRules c).drop (k + 1) ∧
      Calls Try.prog g #[.pointer (some ⟨bc, 0, none⟩)] W fun e w' => e = .returned (.bool r) ∧ Bel W w' := by
  obtain ⟨h0, h1, h2, h3, h4, h5⟩ := hB
  match k, hk with
  | 0, _ => exact ⟨_, _, h0, enters Try.func112 (by kernel_rfl) rfl, rfl, parts_calls W bc c hb⟩
  | 1, _ => exact ⟨_, _, h1, enters Try.func113 (by kernel_rfl) rfl, rfl, devices_calls W bc c hb⟩
  | 2, _ => exact ⟨_, _, h2, enters Try.func114 (by kernel_rfl) rfl, rfl, frames_calls W bc c hb⟩
  | 3, _ => exact ⟨_, _, h3, enters Try.func115 (by kernel_rfl) rfl, rfl, windows_calls W bc c hb⟩
  | 4, _ => exact ⟨_, _, h4, enters Try.func116 (by kernel_rfl) rfl, rfl, grants_calls W bc c hb⟩
  | 5, _ => exact ⟨_, _, h5, enters Try.func117 (by kernel_rfl) rfl, rfl, numbers_calls W bc c hb⟩

/-- A config as a value, laid open into its nine cells. -/
theorem CfgV.open {w : World} {v : Value} {c : Config} (h : CfgV w v c) : ∃ c0 c1 c2 c3 c4 c5 c6 c7 c8 : Value, v = .agg #[c0, c1, c2, c3, c4, c5, c6, c7, c8] ∧ kConfig.K w c [c0, c1, c2, c3, c4, c5, c6, c7, c8] ∧
    (∃ n a b, c1 = .slice a n b) ∧ (∃ n a b, c2 = .slice a n b) ∧ (∃ n a b, c4 = .slice a n b) ∧ (∃ n a b, c5 = .slice a n b) ∧ (c0 = .int .i64 c.frames) ∧ c3 = .int .i64 c.major ∧ c6 = .int .i64 c.sectors ∧ c7 = .int .i64 c.quota ∧ c8 = .int .i64 c.quiet := by
  obtain ⟨cs, rfl, hk⟩ := h
  obtain ⟨vp, vd, vw, vg, rfl, hp, hd, hw, hg, hr⟩ := id hk
  obtain ⟨A1, b1, o1, k1, rfl, -⟩ := hp.form
  obtain ⟨A2, b2, o2, k2, rfl, -⟩ := hd.form
  obtain ⟨A3, b3, o3, k3, rfl, -⟩ := hw.form
  obtain ⟨A4, b4, o4, k4, rfl, -⟩ := hg.form
  exact ⟨_, _, _, _, _, _, _, _, _, rfl, hk, ⟨_, _, _, rfl⟩, ⟨_, _, _, rfl⟩, ⟨_, _, _, rfl⟩, ⟨_, _, _, rfl⟩, rfl, rfl, rfl, rfl, rfl⟩
/-- Boxed: a pointer's block. -/
theorem cfg_box {w W : World} {c : Config} {c0 c1 c2 c3 c4 c5 c6 c7 c8 : Value} (hk : kConfig.K w c [c0, c1, c2, c3, c4, c5, c6, c7, c8]) (hb : Bel (w.alloc (.cells #[c0, c1, c2, c3, c4, c5, c6, c7, c8] 27)) W) : kConfig.At W w.heap.size 0 c :=
  Kind.At.bel ⟨_, kConfig.bel ((bel_refl w).alloc _) hk, fun i u hu => by simpa [List.getElem?_toArray] using hu⟩ hb

set_option maxHeartbeats 4000000 in
theorem may_calls (w : World) (v : Value) (c : Config) (h : CfgV w v c) : Calls Try.prog 22 #[v] w fun e w' => e = .returned (.bool (mayCfg c)) ∧ Bel w w' := by
  obtain ⟨c0, c1, c2, c3, c4, c5, c6, c7, c8, rfl, hk, ⟨_, _, _, rfl⟩, ⟨_, _, _, rfl⟩, ⟨_, _, _, rfl⟩, ⟨_, _, _, rfl⟩, rfl, rfl, rfl, rfl, rfl⟩ := h.open
  have HC := hide fun W hb => cfg_box (W := W) hk hb
  have HM : Hid (mayCfg c = (mayRules c).all id) := rfl
  generalize mayCfg c = res at HM
  have hr := hide rules_calls
  have HB := hide fun o => (bel_refl w).alloc o
  clear h hk
  go_enter Try.func22, Try.ntmps22
  go_wp2_with ((with_reducible refine (Hid.out hr _).mono ?_); rintro e w1 ⟨B, rfl, hi, hB⟩)
  have HC1 := hide fun W (hW : Bel w1 W) => HC.out W (Bel.trans hi hW)
  have HB1 := hide (Bel.trans (HB.out _) hi)
  have HR1 := hide hB
  clear hB hi HC hr HB
  go_loopw [7] (fun t W => ∃ k : Nat, k ≤ 6 ∧ t = .int .i64 k ∧ Hid (Bel w1 W) ∧ Hid (((mayRules c).drop k).all id = (mayRules c).all id)) (fun t _ => 6 - (intOf t).toNat)
  case atStart => exact ⟨0, by omega, rfl, hide (bel_refl w1), hide rfl⟩
  case round =>
    obtain ⟨k, hk, rfl, HI, HW⟩ := hrel
    by_cases hlt : k < 6
    · obtain ⟨g, r, hcell, eg, hdrop, hcon⟩ := rule_at wr B w.heap.size c (HC1.out wr HI.out) (HR1.out.bel HI.out) k hlt
      have hdrop := hide hdrop
      have hcon := hide hcon
      cases r
      · go_wp2_with ((with_reducible refine (Hid.out hcon).mono ?_); rintro e w2 ⟨rfl, hi⟩)
        go_ret
        rw [HM.out, ← HW.out, hdrop.out]
        exact ⟨rfl, Bel.trans HB1.out (Bel.trans HI.out hi)⟩
      · go_wp2_with ((with_reducible refine (Hid.out hcon).mono ?_); rintro e w2 ⟨rfl, hi⟩)
        exact ⟨⟨k + 1, by omega, by go_num, hide (Bel.trans HI.out hi), hide (by rw [← HW.out, hdrop.out]; rfl)⟩, by simp [intOf]; omega⟩
    · obtain rfl : k = 6 := by omega
      go_wp2
      go_ret
      rw [HM.out, ← HW.out]
      exact ⟨rfl, Bel.trans HB1.out HI.out⟩
end Go.Proofs.Ythjhkbnajclcjaa
