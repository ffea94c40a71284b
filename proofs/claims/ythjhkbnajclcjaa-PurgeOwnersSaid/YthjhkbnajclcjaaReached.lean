/- view.reached: the partitions that one flows to, by rows. -/
import Derived.Test.YthjhkbnajclcjaaDirect
import Derived.Test.YthjhkbnajclcjaaRWin
import Derived.Test.YthjhkbnajclcjaaFrames
import Derived.Laws.EntriesVeiled
set_option linter.unusedSimpArgs false
namespace Go.Proofs.Ythjhkbnajclcjaa
open Go.RowKit

theorem setCell_far' (W : World) {b b' : Nat} (h : b ≠ b') (o o' : Nat) (v : Value) : (W.setCell ⟨b, o, none⟩ v).cell? ⟨b', o', none⟩ = W.cell? ⟨b', o', none⟩ := World.cell?_setCell_far _ _ _ _ h
/-- The state of view.reached: marks in block g, the slice of them in block B1, the config's pointer in B2, the function in B3. -/
structure RInv (w : World) (bc n g B1 B2 B3 : Nat) (f : Nat → Bool) (W : World) : Prop where
  m : Marks w g n 4 (fun i => f i.toNat) W
  s1 : W.cell? ⟨B1, 0, none⟩ = some (.slice (some ⟨g, 0, none⟩) n n)
  s2 : W.cell? ⟨B2, 0, none⟩ = some (.pointer (some ⟨bc, 0, none⟩))
  s3 : W.cell? ⟨B3, 0, none⟩ = some (.func (.func 126) #[] #[.pointer (some ⟨B1, 0, none⟩), .pointer (some ⟨B2, 0, none⟩), .pointer (some ⟨B3, 0, none⟩)])
  n1 : g ≠ B1
  n2 : g ≠ B2
  n3 : g ≠ B3
section
variable {w W W' : World} {bc n g B1 B2 B3 : Nat} {f f' : Nat → Bool}
theorem RInv.bel (h : RInv w bc n g B1 B2 B3 f W) (hb : Bel W W') : RInv w bc n g B1 B2 B3 f W' := ⟨h.m.mono hb, hb.cell h.s1, hb.cell h.s2, hb.cell h.s3, h.n1, h.n2, h.n3⟩
theorem RInv.set (h : RInv w bc n g B1 B2 B3 f W) (k : Nat) : RInv w bc n g B1 B2 B3 (fun i => i == k || f i) (W.setCell ⟨g, k, none⟩ (.bool true)) :=
  ⟨(h.m.set k).congr fun i _ => by
    by_cases hik : i = k
    · subst hik; simp
    · have h1 : ((i : Int) == (k : Int)) = false := by simp; omega
      have h2 : (i == k) = false := by simpa using hik
      rw [h1]; simp [h2],
   by rw [setCell_far' _ h.n1]; exact h.s1, by rw [setCell_far' _ h.n2]; exact h.s2, by rw [setCell_far' _ h.n3]; exact h.s3, h.n1, h.n2, h.n3⟩
end
/-- What a walk from p makes of the marks: p is in, nothing is out, what is new can be reached, and lets all in to which it flows. -/
structure Walked (n : Nat) (R : Nat → Nat → Bool) (p : Nat) (f f' : Nat → Bool) : Prop where
  here : f' p = true
  up : ∀ i, f i = true → f' i = true
  sound : ∀ i, i < n → f' i = true → f i = true ∨ Rch n R p i
  closed : ∀ i j, i < n → j < n → f' i = true → f i = false → R i j = true → f' j = true

set_option maxRecDepth 20000 in
set_option maxHeartbeats 8000000 in
theorem walk_calls (w : World) (bc : Nat) (c : Config) (g B1 B2 B3 : Nat) (h : kConfig.At w bc 0 c) : ∀ (m p : Nat) (f : Nat → Bool) (W : World), p < c.parts.length → RInv w bc c.parts.length g B1 B2 B3 f W → f p = false → c.parts.length ≤ cnt c.parts.length f + m →
    Calls Try.prog 126 #[.int .i64 (p : Int), .pointer (some ⟨B1, 0, none⟩), .pointer (some ⟨B2, 0, none⟩), .pointer (some ⟨B3, 0, none⟩)] W fun e w' => e = .returned (.tuple #[]) ∧ ∃ f', RInv w bc c.parts.length g B1 B2 B3 f' w' ∧ Walked c.parts.length (directB c) p f f' := by
  have eg := enters (P := Try.prog) Try.func126 (by kernel_rfl) rfl
  have hcl : c.parts.length ≤ 9223372036854775807 := by
    obtain ⟨vp, vd, vw, vg, hbc, k0, k1, k2, k3, k4, k5, k6, k7, k8, hps, -⟩ := cfg_open h
    obtain ⟨A1, b1, o1, n1, rfl, hl1, hc1, -, -⟩ := hps.form
    omega
  intro m
  induction m with
  | zero =>
    intro p f W hp hI hf hm
    have h1 := cnt_lt (n := c.parts.length) f (fun _ => true) (fun _ _ _ => rfl) hp hf rfl
    have h2 := cnt_max (n := c.parts.length) (fun _ => true)
    omega
  | succ m ih =>
    intro p f W hp hI hf hm
    have HD := hide fun W q (hW : Bel w W) (hq : q < c.parts.length) => directly_p W bc c p q (h.bel hW) hp hq
    obtain ⟨vp, vd, vw, vg, hbc, k0, k1, k2, k3, k4, k5, k6, k7, k8, hps, -, -, hgs, -⟩ := cfg_open h
    obtain ⟨A1, b1, o1, n1, rfl, hl1, hc1, -, -⟩ := hps.form
    have HK1 := hide k1
    have hsp := hide (hI.set p)
    have e1 := hI.s1
    have ef := hI.m.free p
    have em := hI.m.cell hp
    have hpl : (p : Int) < (c.parts.length : Int) := by omega
    have e2 := hsp.out.s2
    have e3 := hsp.out.m.bel.cell HK1.out
    have hih := hide ih
    clear k0 k1 k2 k3 k4 k5 k6 k7 k8 hps hgs hI ih
    go_enter Try.func126, Try.ntmps126
    go_wp2_with fail
    clear e1 e2 e3 em ef
    go_loopw [14] (fun t W => ∃ (k : Nat) (f' : Nat → Bool), k ≤ c.parts.length ∧ t = .int .i64 k ∧ Hid (RInv w bc c.parts.length g B1 B2 B3 f' W) ∧ Hid (f' p = true ∧ (∀ i, f i = true → f' i = true) ∧ (∀ i, i < c.parts.length → f' i = true → f i = true ∨ Rch c.parts.length (directB c) p i) ∧ (∀ i j, i < c.parts.length → j < c.parts.length → f' i = true → f i = false → i ≠ p → directB c i j = true → f' j = true) ∧ (∀ j, j < k → directB c p j = true → f' j = true))) (fun t _ => c.parts.length - (intOf t).toNat)
    case atStart =>
      refine ⟨0, _, Nat.zero_le _, rfl, hsp, hide ⟨by simp, fun i hi => by simp [hi], fun i _ hi => ?_, fun i j _ _ hi hfi hne _ => ?_, fun j hj => by omega⟩⟩
      · simp only [Bool.or_eq_true, beq_iff_eq] at hi
        rcases hi with rfl | hi
        · exact .inr .here
        · exact .inl hi
      · simp only [Bool.or_eq_true, beq_iff_eq] at hi
        rcases hi with rfl | hi
        · exact absurd rfl hne
        · rw [hfi] at hi; simp at hi
    case round =>
      obtain ⟨k, f', hk, rfl, HI, HP⟩ := hrel
      by_cases hlt : k < c.parts.length
      · have s1 := HI.out.s1
        have s2 := HI.out.s2
        have s3 := HI.out.s3
        have sm := HI.out.m.cell hlt
        simp only [Int.toNat_natCast] at sm
        have hkl : (k : Int) < (c.parts.length : Int) := by omega
        have hd := hide (HD.out wr k HI.out.m.bel hlt)
        cases qf : f' k
        · rw [qf] at sm
          have HR : Hid (∀ q, directB c p k = q → Hid (directB c p k = q)) := hide fun q h => hide h
          cases qd : directB c p k
          · rw [qd] at hd
            have HP2 := hide (show ∀ j, j < k + 1 → directB c p j = true → f' j = true from fun j hj hj2 => by
              by_cases hjk : j = k
              · rw [hjk, qd] at hj2; simp at hj2
              · exact HP.out.2.2.2.2 j (by omega) hj2)
            clear qd HR qf
            go_wp2_with ((with_reducible refine (Hid.out hd).mono ?_); rintro e w2 ⟨rfl, hi⟩)
            exact ⟨⟨k + 1, f', by omega, by go_num, hide (HI.out.bel hi), hide ⟨HP.out.1, HP.out.2.1, HP.out.2.2.1, HP.out.2.2.2.1, HP2.out⟩⟩, by simp [intOf]; omega⟩
          · rw [qd] at hd
            have hcnt : c.parts.length ≤ cnt c.parts.length f' + m := by
              have := cnt_lt (n := c.parts.length) f f' (fun i _ h => HP.out.2.1 i h) hp hf HP.out.1
              omega
            have hrec := hide fun W' (hW : Bel wr W') => hih.out k f' W' hlt (HI.out.bel hW) qf hcnt
            have hqd := hide qd
            clear qd HR qf hcnt
            go_wp2_with (first
              | ((with_reducible refine (Hid.out hd).mono ?_); rintro e w2 ⟨rfl, hi⟩; have s3' := hi.cell s3)
              | ((with_reducible refine (Hid.out hrec _ hi).mono ?_); rintro e w3 ⟨rfl, f'', HI2, HW2⟩; have HI2 := hide HI2; have HW2 := hide HW2))
            refine ⟨⟨k + 1, f'', by omega, by go_num, HI2, hide ⟨HW2.out.up _ HP.out.1, fun i hi => HW2.out.up _ (HP.out.2.1 i hi), fun i hi hf2 => ?_, fun i j hi hj hfi2 hfi hne hR => ?_, fun j hj hR => ?_⟩⟩, by simp [intOf]; omega⟩
            · rcases HW2.out.sound i hi hf2 with h1 | h1
              · exact HP.out.2.2.1 i hi h1
              · exact .inr (Rch.trans (.step .here hp hlt hqd.out) h1)
            · cases hfi' : f' i
              · exact HW2.out.closed i j hi hj hfi2 hfi' hR
              · exact HW2.out.up _ (HP.out.2.2.2.1 i j hi hj hfi' hfi hne hR)
            · by_cases hjk : j = k
              · rw [hjk]; exact HW2.out.here
              · exact HW2.out.up _ (HP.out.2.2.2.2 j (by omega) hR)
        · rw [qf] at sm
          have HP2 := hide (show ∀ j, j < k + 1 → directB c p j = true → f' j = true from fun j hj hj2 => by
            by_cases hjk : j = k
            · rw [hjk]; exact qf
            · exact HP.out.2.2.2.2 j (by omega) hj2)
          clear hd qf
          go_wp2_with fail
          exact ⟨⟨k + 1, f', by omega, by go_num, HI, hide ⟨HP.out.1, HP.out.2.1, HP.out.2.2.1, HP.out.2.2.2.1, HP2.out⟩⟩, by simp [intOf]; omega⟩
      · obtain rfl : k = c.parts.length := by omega
        go_wp2_with fail
        go_end0
        refine ⟨rfl, f', HI.out, HP.out.1, HP.out.2.1, HP.out.2.2.1, fun i j hi hj hfi2 hfi hR => ?_⟩
        by_cases hip : i = p
        · subst hip
          exact HP.out.2.2.2.2 j hj hR
        · exact HP.out.2.2.2.1 i j hi hj hfi2 hfi hip hR

set_option maxRecDepth 20000 in
set_option maxHeartbeats 8000000 in
theorem reached_calls (w : World) (bc : Nat) (c : Config) (p : Nat) (h : kConfig.At w bc 0 c) (hp : p < c.parts.length) (hn : c.parts.length ≤ 64) :
    Calls Try.prog 75 #[.pointer (some ⟨bc, 0, none⟩), .int .i64 (p : Int)] w fun e w' => ∃ g, e = .returned (.slice (some ⟨g, 0, none⟩) c.parts.length c.parts.length) ∧ w.heap.size ≤ g ∧ Bel w w' ∧ ∀ q, q < c.parts.length → w'.cell? ⟨g, q, none⟩ = some (.bool (flowsRow c p q)) := by
  have hwalk := hide fun g B1 B2 B3 W hI hm => walk_calls w bc c g B1 B2 B3 h c.parts.length p (fun _ => false) W hp hI rfl hm
  obtain ⟨vp, vd, vw, vg, hbc, k0, k1, k2, k3, k4, k5, k6, k7, k8, hps, -, -, hgs, -⟩ := cfg_open h
  obtain ⟨A1, b1, o1, n1, rfl, hl1, hc1, -, -⟩ := hps.form
  have hmk := made_bools c.parts.length hn
  clear k0 k2 k3 k4 k5 k6 k7 k8 hps hgs h
  have e1 := fun o => ((bel_refl w).alloc o).cell k1
  have eg := enters (P := Try.prog) Try.func126 (by kernel_rfl) rfl
  go_enter Try.func75, Try.ntmps75
  go_upto_region 4 with fail
  clear e1 hmk
  have hI0 := hide (show RInv w bc c.parts.length (w.heap.size + 1) (w.heap.size + 1 + 1) w.heap.size (w.heap.size + 1 + 1 + 1) (fun _ => false) ((((w.alloc (.cells #[.pointer (some ⟨bc, 0, none⟩)] 115)).alloc (.cells (madeCells #[.bool false] c.parts.length) 4)).alloc (.cells #[.slice (some ⟨w.heap.size + 1, 0, none⟩) c.parts.length c.parts.length] 64)).alloc (.cells #[.func (.func 126) #[] #[.pointer (some ⟨w.heap.size + 1 + 1, 0, none⟩), .pointer (some ⟨w.heap.size, 0, none⟩), .pointer (some ⟨w.heap.size + 1 + 1 + 1, 0, none⟩)]] 183)) from by
    refine ⟨⟨((((bel_refl w).alloc _).alloc _).alloc _).alloc _, ?_, by omega⟩, ?_, ?_, ?_, by omega, by omega, by omega⟩
    · have hr := World.rowIs_made (w.alloc (.cells #[.pointer (some ⟨bc, 0, none⟩)] 115)) (.bool false) c.parts.length 4
      rw [show (w.alloc (Obj.cells #[Value.pointer (some ⟨bc, 0, none⟩)] 115)).heap.size = w.heap.size + 1 by simp] at hr
      exact (hr.alloc _).alloc _
    · go_simp
    · exact ((((bel_refl _).alloc _).alloc _).alloc _).cell (by go_simp)
    · go_simp)
  have hw0 := hide (hwalk.out _ _ _ _ _ hI0.out (Nat.le_add_left _ _))
  clear hwalk hI0
  go_wp2_with ((with_reducible refine (Hid.out hw0).mono ?_); rintro e w2 ⟨rfl, f', HI, HW⟩; have s1 := HI.s1; have HI := hide HI; have HW := hide HW)
  go_ret
  refine ⟨_, rfl, by omega, HI.out.m.bel, fun q hq => ?_⟩
  have h1 := HI.out.m.cell hq
  simp only [Int.toNat_natCast] at h1
  rw [h1, rowB_uniq hp HW.out.here (fun i hi hf => ?_) (fun i j hi hj hf hR => HW.out.closed i j hi hj hf rfl hR) q hq]
  · rfl
  · rcases HW.out.sound i hi hf with h | h
    · simp at h
    · exact h

theorem mayCfg_parts {c : Config} (h : mayCfg c = true) : 1 ≤ c.parts.length ∧ c.parts.length ≤ 4 := by
  simp only [mayCfg, mayRules, List.all_cons, Bool.and_eq_true, id, partsRule, decide_eq_true_eq] at h
  omega
set_option maxHeartbeats 8000000 in
theorem flows_p (w : World) (v : Value) (c : Config) (p q : Int) (h : CfgV w v c) :
    Calls Try.prog 36 #[v, .int .i64 p, .int .i64 q] w fun e w' => e = .returned (.bool (flowsB c p q)) ∧ Bel w w' := by
  obtain ⟨c0, c1, c2, c3, c4, c5, c6, c7, c8, rfl, hk, ⟨_, _, _, rfl⟩, ⟨_, _, _, rfl⟩, ⟨_, _, _, rfl⟩, ⟨_, _, _, rfl⟩, rfl, rfl, rfl, rfl, rfl⟩ := h.open
  have HB := hide fun o => (bel_refl w).alloc o
  have HC := hide fun W hb => cfg_box (W := W) hk hb
  have HE : Hid (flowsB c p q = (mayCfg c && (there c p && (there c q && flowsRow c p.toNat q.toNat)))) := rfl
  have hm := hide fun o => may_calls (w.alloc o) _ c ⟨_, rfl, kConfig.bel (HB.out o) hk⟩
  have htp := hide fun W (hW : Bel (w.alloc _) W) => there_v W w.heap.size c p (HC.out W hW)
  have htq := hide fun W (hW : Bel (w.alloc _) W) => there_v W w.heap.size c q (HC.out W hW)
  have hr := hide fun (hq : mayCfg c = true) (k : Nat) (hk : k < c.parts.length) W (hW : Bel (w.alloc _) W) => reached_calls W w.heap.size c k (HC.out W hW) hk (by have := mayCfg_parts hq; omega)
  generalize flowsB c p q = res at HE
  clear h hk HC
  cases qm : mayCfg c
  · rw [qm] at hm HE
    clear qm hr htp htq
    go_enter Try.func36, Try.ntmps36
    go_wp2_with ((with_reducible refine (Hid.out hm _).mono ?_); rintro e w1 ⟨rfl, hi⟩)
    go_ret
    rw [HE.out]
    exact ⟨rfl, Bel.trans (HB.out _) hi⟩
  have hr := hide (hr.out qm)
  rw [qm] at hm HE
  clear qm
  cases qp : there c p
  · rw [qp] at htp HE
    clear qp hr htq
    go_enter Try.func36, Try.ntmps36
    go_wp2_with (first | ((with_reducible refine (Hid.out hm _).mono ?_); rintro e w1 ⟨rfl, hi⟩; have j1 := hide hi) | ((with_reducible refine (Hid.out htp _ j1.out).mono ?_); rintro e w2 ⟨rfl, rfl⟩))
    go_ret
    rw [HE.out]
    exact ⟨rfl, Bel.trans (HB.out _) j1.out⟩
  have hpr := (there_iff c p).1 qp
  rw [qp] at htp HE
  clear qp
  cases qq : there c q
  · rw [qq] at htq HE
    clear qq hr hpr
    go_enter Try.func36, Try.ntmps36
    go_wp2_with (first | ((with_reducible refine (Hid.out hm _).mono ?_); rintro e w1 ⟨rfl, hi⟩; have j1 := hide hi) | ((with_reducible refine (Hid.out htp _ j1.out).mono ?_); rintro e w2 ⟨rfl, rfl⟩) | ((with_reducible refine (Hid.out htq _ j1.out).mono ?_); rintro e w3 ⟨rfl, rfl⟩))
    go_ret
    rw [HE.out]
    exact ⟨rfl, Bel.trans (HB.out _) j1.out⟩
  have hqr := (there_iff c q).1 qq
  rw [qq] at htq HE
  clear qq
  obtain ⟨pn, rfl⟩ : ∃ k : Nat, p = k := ⟨p.toNat, by omega⟩
  obtain ⟨qn, rfl⟩ : ∃ k : Nat, q = k := ⟨q.toNat, by omega⟩
  simp only [Int.toNat_natCast] at HE
  have hr := hide fun W hW => hr.out pn (by omega) W hW
  have hq1 : (qn : Int) < (c.parts.length : Int) := by omega
  have hq2 : qn < c.parts.length := by omega
  clear hpr hqr
  go_enter Try.func36, Try.ntmps36
  go_wp2_with (first | ((with_reducible refine (Hid.out hm _).mono ?_); rintro e w1 ⟨rfl, hi⟩; have j1 := hide hi) | ((with_reducible refine (Hid.out htp _ j1.out).mono ?_); rintro e w2 ⟨rfl, rfl⟩) | ((with_reducible refine (Hid.out htq _ j1.out).mono ?_); rintro e w3 ⟨rfl, rfl⟩) | ((with_reducible refine (Hid.out hr _ j1.out).mono ?_); rintro e w4 ⟨g, rfl, -, hi4, hc4⟩; have j4 := hide hi4; have x4 := hc4 qn hq2; clear hc4))
  go_ret
  rw [HE.out]
  exact ⟨rfl, Bel.trans (Bel.trans (HB.out _) j1.out) j4.out⟩
end Go.Proofs.Ythjhkbnajclcjaa
