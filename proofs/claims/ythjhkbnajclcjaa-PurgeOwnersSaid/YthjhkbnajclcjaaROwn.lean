/- The reference's ownerOf, reaches: they answer as the program's. -/
import Derived.Test.YthjhkbnajclcjaaWithin
import Derived.Deep.DeepCutAuto
set_option linter.unusedSimpArgs false
namespace Go.Proofs.Ythjhkbnajclcjaa
open Go.RowKit

/-- Nine cells of a config, boxed in block B. -/
structure BoxAt (W : World) (B : Nat) (c0 c1 c2 c3 c4 c5 c6 c7 c8 : Value) : Prop where
  k0 : W.cell? ⟨B, 0, none⟩ = some c0
  k1 : W.cell? ⟨B, 1, none⟩ = some c1
  k2 : W.cell? ⟨B, 2, none⟩ = some c2
  k3 : W.cell? ⟨B, 3, none⟩ = some c3
  k4 : W.cell? ⟨B, 4, none⟩ = some c4
  k5 : W.cell? ⟨B, 5, none⟩ = some c5
  k6 : W.cell? ⟨B, 6, none⟩ = some c6
  k7 : W.cell? ⟨B, 7, none⟩ = some c7
  k8 : W.cell? ⟨B, 8, none⟩ = some c8
section
variable {w W W' : World} {B : Nat} {c0 c1 c2 c3 c4 c5 c6 c7 c8 : Value}
theorem BoxAt.bel (h : BoxAt W B c0 c1 c2 c3 c4 c5 c6 c7 c8) (hb : Bel W W') : BoxAt W' B c0 c1 c2 c3 c4 c5 c6 c7 c8 :=
  ⟨hb.cell h.k0, hb.cell h.k1, hb.cell h.k2, hb.cell h.k3, hb.cell h.k4, hb.cell h.k5, hb.cell h.k6, hb.cell h.k7, hb.cell h.k8⟩
theorem box_new (w : World) (c0 c1 c2 c3 c4 c5 c6 c7 c8 : Value) (t : TypeId) : BoxAt (w.alloc (.cells #[c0, c1, c2, c3, c4, c5, c6, c7, c8] t)) w.heap.size c0 c1 c2 c3 c4 c5 c6 c7 c8 := by
  constructor <;> go_simp
end
/-- A config as a value, laid open for a walk: its four slices. -/
theorem CfgV.parts4 {w : World} {v : Value} {c : Config} (h : CfgV w v c) : ∃ (A1 A2 A3 A4 : Option Addr) (b1 o1 n1 b2 o2 n2 b3 o3 n3 b4 o4 n4 : Nat),
    v = .agg #[.int .i64 c.frames, .slice A1 c.parts.length n1, .slice A2 c.devices.length n2, .int .i64 c.major, .slice A3 c.windows.length n3, .slice A4 c.grants.length n4, .int .i64 c.sectors, .int .i64 c.quota, .int .i64 c.quiet] ∧
    Hid (CfgV w v c) ∧ Hid (kPart.Row w b1 o1 c.parts) ∧ Hid (kDevice.Row w b2 o2 c.devices) ∧ Hid (kWindow.Row w b3 o3 c.windows) ∧ Hid (kGrant.Row w b4 o4 c.grants) ∧
    Hid (kPart.Sl w (.slice A1 c.parts.length n1) c.parts) ∧ Hid (kDevice.Sl w (.slice A2 c.devices.length n2) c.devices) ∧ Hid (kWindow.Sl w (.slice A3 c.windows.length n3) c.windows) ∧ Hid (kGrant.Sl w (.slice A4 c.grants.length n4) c.grants) ∧
    (0 < c.parts.length → A1 = some ⟨b1, o1, none⟩) ∧ (0 < c.devices.length → A2 = some ⟨b2, o2, none⟩) ∧ (0 < c.windows.length → A3 = some ⟨b3, o3, none⟩) ∧ (0 < c.grants.length → A4 = some ⟨b4, o4, none⟩) ∧
    c.parts.length ≤ 9223372036854775807 ∧ c.devices.length ≤ 9223372036854775807 ∧ c.windows.length ≤ 9223372036854775807 ∧ c.grants.length ≤ 9223372036854775807 := by
  obtain ⟨cs, rfl, hk⟩ := id h
  obtain ⟨vp, vd, vw, vg, rfl, hp, hd, hw, hg, -⟩ := id hk
  obtain ⟨A1, b1, o1, n1, rfl, hl1, hc1, hA1, hr1⟩ := hp.form
  obtain ⟨A2, b2, o2, n2, rfl, hl2, hc2, hA2, hr2⟩ := hd.form
  obtain ⟨A3, b3, o3, n3, rfl, hl3, hc3, hA3, hr3⟩ := hw.form
  obtain ⟨A4, b4, o4, n4, rfl, hl4, hc4, hA4, hr4⟩ := hg.form
  exact ⟨A1, A2, A3, A4, b1, o1, n1, b2, o2, n2, b3, o3, n3, b4, o4, n4, rfl, hide h, hide (hr1 w hp), hide (hr2 w hd), hide (hr3 w hw), hide (hr4 w hg), hide hp, hide hd, hide hw, hide hg, hA1, hA2, hA3, hA4, by omega, by omega, by omega, by omega⟩

set_option maxHeartbeats 2000000 in
theorem rOwner_calls (w : World) (v : Value) (c : Config) (f : Int) (h : CfgV w v c) :
    Calls Try.prog 118 #[v, .int .i64 f] w fun e w' => e = .returned (.int .i64 (ownerOf c f)) ∧ Bel w w' := by
  obtain ⟨A1, A2, A3, A4, b1, o1, n1, b2, o2, n2, b3, o3, n3, b4, o4, n4, rfl, HC, HR1, HR2, HR3, HR4, HS1, HS2, HS3, HS4, hA1, hA2, hA3, hA4, hL1, hL2, hL3, hL4⟩ := h.parts4
  have HE : Hid (ownerOf c f = firstIdx (fun p => has p.frames f) c.parts 0) := rfl
  generalize ownerOf c f = res at HE
  clear h HR2 HR3 HR4 HS2 HS3 HS4 HS1 hA2 hA3 hA4 hL2 hL3 hL4 HC
  go_enter Try.func118, Try.ntmps118
  go_upto_region 1 with fail
  obtain ⟨W1, hW1⟩ : ∃ W1 : World, W1 = w.alloc (.cells #[.int .i64 c.frames, .slice A1 c.parts.length n1, .slice A2 c.devices.length n2, .int .i64 c.major, .slice A3 c.windows.length n3, .slice A4 c.grants.length n4, .int .i64 c.sectors, .int .i64 c.quota, .int .i64 c.quiet] 27) := ⟨_, rfl⟩
  rw [← hW1]
  have HB1 := hide (show Bel w W1 by rw [hW1]; exact (bel_refl w).alloc _)
  have HX := hide (show BoxAt W1 w.heap.size (.int .i64 c.frames) (.slice A1 c.parts.length n1) (.slice A2 c.devices.length n2) (.int .i64 c.major) (.slice A3 c.windows.length n3) (.slice A4 c.grants.length n4) (.int .i64 c.sectors) (.int .i64 c.quota) (.int .i64 c.quiet) by rw [hW1]; exact box_new _ _ _ _ _ _ _ _ _ _ _)
  clear hW1
  have HR := hide (HR1.out.bel HB1.out)
  have k1 := HX.out.k1
  clear HX HR1
  go_wp2_with fail
  go_loop [5] (fun t => ∃ k : Nat, k ≤ c.parts.length ∧ t = .int .i64 k ∧ Hid (firstIdx (fun p => has p.frames f) (c.parts.drop k) k = firstIdx (fun p => has p.frames f) c.parts 0)) (fun t => c.parts.length - (intOf t).toNat)
  case atStart => exact ⟨0, Nat.zero_le _, rfl, hide rfl⟩
  case round =>
    obtain ⟨k, hk, rfl, HW⟩ := hrel
    by_cases hlt : k < c.parts.length
    · obtain ⟨d0, d1, d2, d3, d4, hK, hc_0, hc_1, hc_2, hc_3, hc_4⟩ := HR.out.get5 rfl hlt
      have HP := hide (show firstIdx (fun p => has p.frames f) (c.parts.drop k) k = if has c.parts[k].frames f then (k : Int) else firstIdx (fun p => has p.frames f) (c.parts.drop (k + 1)) (k + 1) by rw [drop_cons hlt]; rfl)
      obtain ⟨rfl, rfl, hf, rfl, rfl, -, -⟩ := kPart_vals hK
      generalize c.parts[k].frames = xf at hf HP
      obtain ⟨Af, bf, off, cf, rfl, hf1, hf2, hAf, hrf⟩ := hf.form
      have HF := hide (hrf _ hf)
      clear hc_0 hc_1 hc_3 hc_4 hK hf hrf
      obtain rfl := hA1 (by omega)
      go_wp2_with fail
      go_loop [6] (fun t => ∃ j : Nat, j ≤ xf.length ∧ t = .int .i64 j ∧ Hid ((xf.drop j).any (fun y => f == y) = has xf f)) (fun t => xf.length - (intOf t).toNat)
      case atStart => exact ⟨0, Nat.zero_le _, rfl, hide rfl⟩
      case round =>
        obtain ⟨j, hj, rfl, HJ⟩ := hrel
        by_cases hjl : j < xf.length
        · obtain ⟨e0, hk0, he0⟩ := HF.out.get1 rfl hjl
          obtain ⟨hk0, -⟩ := hk0
          simp only [List.cons.injEq, and_true] at hk0
          subst hk0
          have HS := hide (show (xf.drop j).any (fun y => f == y) = ((f == xf[j]) || (xf.drop (j + 1)).any (fun y => f == y)) by rw [drop_cons hjl]; rfl)
          generalize xf[j] = y at he0 HS
          obtain rfl := hAf (by omega)
          cases hx : (y == f)
          · have hx2 := hide (show (f == y) = false by rw [Bool.beq_comm]; exact hx)
            go_wp2_with fail
            exact ⟨⟨j + 1, by omega, by go_num, hide (by rw [← HJ.out, HS.out, hx2.out]; rfl)⟩, by simp [intOf]; omega⟩
          · have hx2 := hide (show (f == y) = true by rw [Bool.beq_comm]; exact hx)
            go_wp2_with fail
            go_ret
            rw [HE.out, ← HW.out, HP.out, ← HJ.out, HS.out, hx2.out]
            exact ⟨rfl, HB1.out⟩
        · obtain rfl : j = xf.length := by omega
          rw [List.drop_length] at HJ
          go_wp2_with fail
          exact ⟨⟨k + 1, by omega, by go_num, hide (by rw [← HW.out, HP.out, ← HJ.out]; rfl)⟩, by simp [intOf]; omega⟩
    · obtain rfl : k = c.parts.length := by omega
      rw [List.drop_length] at HW
      go_wp2_with fail
      go_ret
      rw [HE.out, ← HW.out]
      exact ⟨rfl, HB1.out⟩

set_option maxHeartbeats 4000000 in
theorem rReaches_calls (w : World) (v : Value) (c : Config) (part frame : Int) (write : Bool) (h : CfgV w v c) :
    Calls Try.prog 125 #[v, .int .i64 part, .int .i64 frame, .bool write] w fun e w' => e = .returned (.bool (reach c part frame write)) ∧ Bel w w' := by
  obtain ⟨A1, A2, A3, A4, b1, o1, n1, b2, o2, n2, b3, o3, n3, b4, o4, n4, rfl, HC, HR1, HR2, HR3, HR4, HS1, HS2, HS3, HS4, hA1, hA2, hA3, hA4, hL1, hL2, hL3, hL4⟩ := h.parts4
  have HE : Hid (reach c part frame write = (ownerOf c frame == part || c.grants.any (granted part frame write))) := rfl
  generalize reach c part frame write = res at HE
  have HO := hide fun W (hW : Bel w W) => rOwner_calls W _ c frame (h.bel hW)
  generalize ownerOf c frame = ow at HE HO
  clear h HR1 HR2 HR3 HS2 HS3 HS4 HS1 hA1 hA2 hA3 hL1 hL2 hL3 HC
  go_enter Try.func125, Try.ntmps125
  go_upto_region 1 with fail
  obtain ⟨W1, hW1⟩ : ∃ W1 : World, W1 = w.alloc (.cells #[.int .i64 c.frames, .slice A1 c.parts.length n1, .slice A2 c.devices.length n2, .int .i64 c.major, .slice A3 c.windows.length n3, .slice A4 c.grants.length n4, .int .i64 c.sectors, .int .i64 c.quota, .int .i64 c.quiet] 27) := ⟨_, rfl⟩
  rw [← hW1]
  have HB1 := hide (show Bel w W1 by rw [hW1]; exact (bel_refl w).alloc _)
  have HX := hide (show BoxAt W1 w.heap.size (.int .i64 c.frames) (.slice A1 c.parts.length n1) (.slice A2 c.devices.length n2) (.int .i64 c.major) (.slice A3 c.windows.length n3) (.slice A4 c.grants.length n4) (.int .i64 c.sectors) (.int .i64 c.quota) (.int .i64 c.quiet) by rw [hW1]; exact box_new _ _ _ _ _ _ _ _ _ _ _)
  clear hW1
  have HR := hide (HR4.out.bel HB1.out)
  obtain ⟨k0, k1, k2, k3, k4, k5, k6, k7, k8⟩ := HX.out
  have HX5 := hide HX.out.k5
  have ho := hide (HO.out W1 HB1.out)
  clear HX HR4 HO
  cases g : (ow == part)
  · go_wp2_with ((with_reducible refine (Hid.out ho).mono ?_); rintro e W2 ⟨rfl, hi⟩)
    have k5' := hi.cell HX5.out
    have HB2 := hide (Bel.trans HB1.out hi)
    have HR2 := hide (HR.out.bel hi)
    clear k0 k1 k2 k3 k4 k5 k6 k7 k8 ho HX5 hi HR
    go_loop [9] (fun t => ∃ k : Nat, k ≤ c.grants.length ∧ t = .int .i64 k ∧ Hid ((c.grants.drop k).any (granted part frame write) = c.grants.any (granted part frame write))) (fun t => c.grants.length - (intOf t).toNat)
    case atStart => exact ⟨0, Nat.zero_le _, rfl, hide rfl⟩
    case round =>
      obtain ⟨k, hk, rfl, HW⟩ := hrel
      by_cases hlt : k < c.grants.length
      · obtain ⟨d0, d1, d2, hK, hc_0, hc_1, hc_2⟩ := HR2.out.get3 rfl hlt
        have HP := hide (show (c.grants.drop k).any (granted part frame write) = ((c.grants[k].frame == frame && (c.grants[k].to == part && (c.grants[k].write || !write))) || (c.grants.drop (k + 1)).any (granted part frame write)) by rw [drop_cons hlt]; rfl)
        obtain ⟨hcs, -, -⟩ := hK
        simp only [List.cons.injEq, and_true] at hcs
        obtain ⟨rfl, rfl, rfl⟩ := hcs
        generalize c.grants[k] = x at hc_0 hc_1 hc_2 HP
        obtain ⟨xf, xt, xw⟩ := x
        simp only at hc_0 hc_1 hc_2 HP
        obtain rfl := hA4 (by omega)
        cases g1 : (xf == frame)
        · rw [g1] at HP
          go_wp2_with fail
          exact ⟨⟨k + 1, by omega, by go_num, hide (by rw [← HW.out, HP.out]; rfl)⟩, by simp [intOf]; omega⟩
        cases g2 : (xt == part)
        · rw [g1, g2] at HP
          go_wp2_with fail
          exact ⟨⟨k + 1, by omega, by go_num, hide (by rw [← HW.out, HP.out]; rfl)⟩, by simp [intOf]; omega⟩
        cases xw <;> cases write
        · rw [g1, g2] at HP
          go_wp2_with fail
          go_ret
          rw [HE.out, g, ← HW.out, HP.out]
          exact ⟨rfl, HB2.out⟩
        · rw [g1, g2] at HP
          go_wp2_with fail
          exact ⟨⟨k + 1, by omega, by go_num, hide (by rw [← HW.out, HP.out]; rfl)⟩, by simp [intOf]; omega⟩
        · rw [g1, g2] at HP
          go_wp2_with fail
          go_ret
          rw [HE.out, g, ← HW.out, HP.out]
          exact ⟨rfl, HB2.out⟩
        · rw [g1, g2] at HP
          go_wp2_with fail
          go_ret
          rw [HE.out, g, ← HW.out, HP.out]
          exact ⟨rfl, HB2.out⟩
      · obtain rfl : k = c.grants.length := by omega
        rw [List.drop_length] at HW
        go_wp2_with fail
        go_ret
        rw [HE.out, g, ← HW.out]
        exact ⟨rfl, HB2.out⟩
  · go_wp2_with ((with_reducible refine (Hid.out ho).mono ?_); rintro e W2 ⟨rfl, hi⟩)
    go_ret
    rw [HE.out, g]
    exact ⟨rfl, Bel.trans HB1.out hi⟩
end Go.Proofs.Ythjhkbnajclcjaa
