/- Labels and windows: lattice.May (and the reference's LabelMay), sched.windowMay, sched.apart, sched.May: what they answer. -/
import Derived.Test.YthjhkbnajclcjaaSlF
import Derived.Test.YthjhkbnajclcjaaCfg
namespace Go.Proofs.Ythjhkbnajclcjaa
open Go.RowKit

def labelMay (a : Label) : Bool := decide (0 ≤ a.level) && (decide (a.level ≤ 3) && (decide (0 ≤ a.cats) && decide (a.cats ≤ 15)))
theorem labelMay_iff (a : Label) : labelMay a = true ↔ 0 ≤ a.level ∧ a.level ≤ 3 ∧ 0 ≤ a.cats ∧ a.cats ≤ 15 := by simp [labelMay]

set_option maxHeartbeats 1000000 in
theorem labelMay_p (x y : Int) (w : World) : Calls Try.prog 156 #[.agg #[.int .i64 x, .int .i64 y]] w fun e w' => e = .returned (.bool (labelMay ⟨x, y⟩)) ∧ Bel w w' := by
  have hb := hide fun o => (bel_refl w).alloc o
  have HL := hide (labelMay_iff ⟨x, y⟩)
  generalize labelMay ⟨x, y⟩ = r at HL
  go_enter Try.func156, Try.ntmps156
  go_wp2
  all_goals
    go_ret
    refine ⟨congrArg (fun b => Ending.returned (Value.bool b)) ?_, hb.out _⟩
    rw [Bool.eq_iff_iff, HL.out]
    simp
    try omega

set_option maxHeartbeats 1000000 in
theorem labelMay_r (x y : Int) (w : World) : Calls Try.prog 65 #[.agg #[.int .i64 x, .int .i64 y]] w fun e w' => e = .returned (.bool (labelMay ⟨x, y⟩)) ∧ Bel w w' := by
  have hb := hide fun o => (bel_refl w).alloc o
  have HL := hide (labelMay_iff ⟨x, y⟩)
  generalize labelMay ⟨x, y⟩ = r at HL
  go_enter Try.func65, Try.ntmps65
  go_wp2
  all_goals
    go_ret
    refine ⟨congrArg (fun b => Ending.returned (Value.bool b)) ?_, hb.out _⟩
    rw [Bool.eq_iff_iff, HL.out]
    simp
    try omega

def windowMay (w : Window) (major parts : Int) : Bool :=
  decide (0 ≤ w.part) && (decide (w.part < parts) && (decide (1 ≤ w.len) && (decide (0 ≤ w.start) && (decide (w.start ≤ major) && (decide (w.len ≤ major - w.start) && (decide (w.start ≤ w.deliver) && decide (w.deliver < w.start + w.len)))))))
theorem windowMay_iff (w : Window) (major parts : Int) : windowMay w major parts = true ↔ 0 ≤ w.part ∧ w.part < parts ∧ 1 ≤ w.len ∧ 0 ≤ w.start ∧ w.start ≤ major ∧ w.len ≤ major - w.start ∧ w.start ≤ w.deliver ∧ w.deliver < w.start + w.len := by
  simp [windowMay]
def winApart (a b : Window) : Bool := decide (a.start + a.len ≤ b.start) || decide (b.start + b.len ≤ a.start)

set_option maxHeartbeats 2000000 in
theorem windowMay_calls (p s l d major parts : Int) (w : World) (hm : 1 ≤ major ∧ major ≤ 64) :
    Calls Try.prog 176 #[.agg #[.int .i64 p, .int .i64 s, .int .i64 l, .int .i64 d], .int .i64 major, .int .i64 parts] w fun e w' => e = .returned (.bool (windowMay ⟨p, s, l, d⟩ major parts)) ∧ Bel w w' := by
  have hb := hide fun o => (bel_refl w).alloc o
  have HL := hide (windowMay_iff ⟨p, s, l, d⟩ major parts)
  generalize windowMay ⟨p, s, l, d⟩ major parts = r at HL
  go_enter Try.func176, Try.ntmps176
  go_wp2
  all_goals
    go_ret
    refine ⟨congrArg (fun b => Ending.returned (Value.bool b)) ?_, hb.out _⟩
    rw [Bool.eq_iff_iff, HL.out]
    simp
    try omega

/-- A window that lies within 64 offsets. -/
def WinOk (a : Window) : Prop := 0 ≤ a.start ∧ 1 ≤ a.len ∧ a.start + a.len ≤ 64
theorem winOk_of_may {a : Window} {major parts : Int} (hm : major ≤ 64) (h : windowMay a major parts = true) : WinOk a := by
  have := (windowMay_iff _ _ _).1 h
  unfold WinOk
  omega

set_option maxHeartbeats 1000000 in
theorem winApart_calls (a b : Window) (w : World) (ha : WinOk a) (hb : WinOk b) :
    Calls Try.prog 178 #[.agg #[.int .i64 a.part, .int .i64 a.start, .int .i64 a.len, .int .i64 a.deliver], .agg #[.int .i64 b.part, .int .i64 b.start, .int .i64 b.len, .int .i64 b.deliver]] w fun e w' => e = .returned (.bool (winApart a b)) ∧ Bel w w' := by
  obtain ⟨p1, s1, l1, d1⟩ := a
  obtain ⟨p2, s2, l2, d2⟩ := b
  unfold WinOk at ha hb
  simp only at ha hb
  have hbw := hide fun o o' => ((bel_refl w).alloc o).alloc o'
  have HL : Hid (winApart ⟨p1, s1, l1, d1⟩ ⟨p2, s2, l2, d2⟩ = (decide (s1 + l1 ≤ s2) || decide (s2 + l2 ≤ s1))) := rfl
  generalize winApart ⟨p1, s1, l1, d1⟩ ⟨p2, s2, l2, d2⟩ = r at HL
  go_enter Try.func178, Try.ntmps178
  go_wp2
  all_goals
    go_ret
    refine ⟨congrArg (fun b => Ending.returned (Value.bool b)) ?_, hbw.out _ _⟩
    rw [HL.out, Bool.eq_iff_iff]
    simp
    try omega

theorem kWindow_vals {w : World} {x : Window} {c0 c1 c2 c3 : Value} (h : kWindow.K w x [c0, c1, c2, c3]) : c0 = .int .i64 x.part ∧ c1 = .int .i64 x.start ∧ c2 = .int .i64 x.len ∧ c3 = .int .i64 x.deliver := by
  have := h.1
  simp only [List.cons.injEq, and_true] at this
  exact this

/-- sched.May's function value: a window that is not apart from the one at hand. -/
theorem schedMay1 (W : World) (v x : Window) (B : Nat) (c0 c1 c2 c3 : Value) (hK : kWindow.K W v [c0, c1, c2, c3]) (hx : kWindow.At W B 0 x) (hv : WinOk v) (hw : WinOk x) :
    Calls Try.prog 177 #[.agg #[c0, c1, c2, c3], .pointer (some ⟨B, 0, none⟩)] W fun e w' => e = .returned (.bool (!winApart v x)) ∧ Bel W w' := by
  obtain ⟨rfl, rfl, rfl, rfl⟩ := kWindow_vals hK
  obtain ⟨d0, d1, d2, d3, hd, h0, h1, h2, h3⟩ := hx.zero4 rfl
  obtain ⟨rfl, rfl, rfl, rfl⟩ := kWindow_vals hd
  have hB := World.block_lt_of_cell? W _ h0
  have hcon := hide fun o => winApart_calls v x (W.alloc o) hv hw
  have hb := hide fun o => (bel_refl W).alloc o
  generalize winApart v x = r at hcon
  go_enter Try.func177, Try.ntmps177
  go_wp2_with ((with_reducible refine (Hid.out hcon _).mono ?_); rintro e w' ⟨rfl, hi⟩)
  go_ret
  exact ⟨rfl, (hb.out _).trans hi⟩

/-- The windows from here on may be, behind those that were looked at. -/
def winsMay (major parts : Int) : List Window → List Window → Bool
  | _, [] => true
  | pre, w :: ws => windowMay w major parts && (!(pre.any fun v => !winApart v w) && winsMay major parts (pre ++ [w]) ws)
def schedMay (ws : List Window) (major parts : Int) : Bool :=
  decide (1 ≤ major) && (decide (major ≤ 64) && (decide (1 ≤ parts) && (decide (parts ≤ 4) && (decide (1 ≤ ws.length) && (decide (ws.length ≤ 8) && winsMay major parts [] ws)))))
theorem schedMay_iff (ws : List Window) (major parts : Int) : schedMay ws major parts = true ↔ 1 ≤ major ∧ major ≤ 64 ∧ 1 ≤ parts ∧ parts ≤ 4 ∧ 1 ≤ ws.length ∧ ws.length ≤ 8 ∧ winsMay major parts [] ws = true := by
  simp [schedMay]

/-- The windows ahead of k, asked for one that is not apart from x. -/
theorem schedMay_any (w : World) (v : Value) (pre : List Window) (x : Window) (B : Nat) (hs : kWindow.Sl w v pre) (hx : kWindow.At w B 0 x) (hpre : ∀ y ∈ pre, WinOk y) (hw : WinOk x) :
    Calls Try.prog 157 #[v, .func (.func 177) #[] #[.pointer (some ⟨B, 0, none⟩)]] w fun e w' => e = .returned (.bool (pre.any fun y => !winApart y x)) ∧ Bel w w' := by
  have hcon := containsFunc_Window kWindow rfl (fun _ W => Bel w W) (plainStep fun y => !winApart y x) 177 #[.pointer (some ⟨B, 0, none⟩)]
    (enters Try.func177 (by kernel_rfl) rfl) v pre (fun _ W hW => hs.bel hW)
    (fun _ W y c0 c1 c2 c3 hy hK hW => (schedMay1 W y x B c0 c1 c2 c3 hK (hx.bel hW) (hpre y hy) hw).mono fun e w' ⟨he, hw⟩ => ⟨he, hW.trans hw⟩) () w (bel_refl _)
  rw [anyL_plain] at hcon
  exact hcon

theorem kWindow_at (w : World) (B : Nat) (x : Window) (h0 : w.cell? ⟨B, 0, none⟩ = some (.int .i64 x.part)) (h1 : w.cell? ⟨B, 1, none⟩ = some (.int .i64 x.start)) (h2 : w.cell? ⟨B, 2, none⟩ = some (.int .i64 x.len)) (h3 : w.cell? ⟨B, 3, none⟩ = some (.int .i64 x.deliver))
    (g0 : I64 x.part) (g1 : I64 x.start) (g2 : I64 x.len) (g3 : I64 x.deliver) : kWindow.At w B 0 x :=
  ⟨_, ⟨rfl, g0, g1, g2, g3⟩, fun i u hi => by
    rw [Nat.zero_add]
    match i, hi with
    | 0, hi => simp at hi; rw [← hi]; exact h0
    | 1, hi => simp at hi; rw [← hi]; exact h1
    | 2, hi => simp at hi; rw [← hi]; exact h2
    | 3, hi => simp at hi; rw [← hi]; exact h3
    | n + 4, hi => simp at hi⟩

set_option maxHeartbeats 2000000 in
theorem schedMay_calls (w : World) (v : Value) (ws : List Window) (major parts : Int) (hs : kWindow.Sl w v ws) :
    Calls Try.prog 160 #[v, .int .i64 major, .int .i64 parts] w fun e w' => e = .returned (.bool (schedMay ws major parts)) ∧ Bel w w' := by
  obtain ⟨A, b, o, c, rfl, hc1, hc2, hA, hrows⟩ := hs.form
  have HR := hide (hrows w hs); clear hrows
  have HS := hide hs; clear hs
  by_cases g1 : major < 1
  · go_enter Try.func160, Try.ntmps160
    go_wp2
    go_ret
    exact ⟨by simp [schedMay, show ¬ 1 ≤ major by omega], bel_refl w⟩
  by_cases g2 : 64 < major
  · go_enter Try.func160, Try.ntmps160
    go_wp2
    go_ret
    exact ⟨by simp [schedMay, show ¬ major ≤ 64 by omega], bel_refl w⟩
  by_cases g3 : parts < 1
  · go_enter Try.func160, Try.ntmps160
    go_wp2
    go_ret
    exact ⟨by simp [schedMay, show ¬ 1 ≤ parts by omega], bel_refl w⟩
  by_cases g4 : 4 < parts
  · go_enter Try.func160, Try.ntmps160
    go_wp2
    go_ret
    exact ⟨by simp [schedMay, show ¬ parts ≤ 4 by omega], bel_refl w⟩
  by_cases g5 : (ws.length : Int) < 1
  · go_enter Try.func160, Try.ntmps160
    go_wp2
    go_ret
    exact ⟨by simp [schedMay, show ¬ 1 ≤ ws.length by omega], bel_refl w⟩
  by_cases g6 : 8 < (ws.length : Int)
  · go_enter Try.func160, Try.ntmps160
    go_wp2
    go_ret
    exact ⟨by simp [schedMay, show ¬ ws.length ≤ 8 by omega], bel_refl w⟩
  have HE := hide (show schedMay ws major parts = winsMay major parts [] ws by rw [Bool.eq_iff_iff, schedMay_iff]; constructor; (intro h; exact h.2.2.2.2.2.2); (intro h; exact ⟨by omega, by omega, by omega, by omega, by omega, by omega, h⟩))
  generalize schedMay ws major parts = res at HE
  go_enter Try.func160, Try.ntmps160
  go_wp2
  go_loopw [35] (fun t W => ∃ k : Nat, k ≤ ws.length ∧ t = .int .i64 k ∧ Hid (Bel w W) ∧ Hid (winsMay major parts (ws.take k) (ws.drop k) = winsMay major parts [] ws) ∧ Hid (∀ y ∈ ws.take k, WinOk y)) (fun t _ => ws.length - (intOf t).toNat)
  case atStart => exact ⟨0, Nat.zero_le _, rfl, hide (bel_refl w), hide rfl, hide (by simp)⟩
  case round =>
    obtain ⟨k, hk, rfl, HB, HW, HO⟩ := hrel
    by_cases hlt : k < ws.length
    · obtain ⟨c0, c1, c2, c3, hK, hc_0, hc_1, hc_2, hc_3⟩ := (HR.out.bel HB.out).get4 rfl hlt
      obtain ⟨rfl, rfl, rfl, rfl⟩ := kWindow_vals hK
      have HP := hide (show winsMay major parts (ws.take k) (ws.drop k) = (windowMay ws[k] major parts && (!((ws.take k).any fun v => !winApart v ws[k]) && winsMay major parts (ws.take (k + 1)) (ws.drop (k + 1)))) by rw [drop_cons hlt, winsMay, List.take_succ_eq_append_getElem hlt])
      have HT := hide (show ws.take (k + 1) = ws.take k ++ [ws[k]] from List.take_succ_eq_append_getElem hlt)
      generalize ws[k] = x at hK hc_0 hc_1 hc_2 hc_3 HP HT
      obtain ⟨xp, xs, xl, xd⟩ := x
      obtain ⟨-, i0, i1, i2, i3⟩ := hK
      simp only at hc_0 hc_1 hc_2 hc_3 i0 i1 i2 i3
      have hmay := hide fun W => windowMay_calls xp xs xl xd major parts W (by omega)
      have hany := hide fun (W : World) (hW : Bel (wr.alloc (.cells #[.int .i64 xp, .int .i64 xs, .int .i64 xl, .int .i64 xd] 119)) W) (hx : WinOk ⟨xp, xs, xl, xd⟩) =>
        schedMay_any W (.slice A k c) (ws.take k) ⟨xp, xs, xl, xd⟩ wr.heap.size ((HS.out.take k hk).bel (HB.out.trans (((bel_refl wr).alloc _).trans hW)))
        ((kWindow_at _ wr.heap.size ⟨xp, xs, xl, xd⟩ (by go_simp) (by go_simp) (by go_simp) (by go_simp) i0 i1 i2 i3).bel hW) HO.out hx
      have hAe := hA (by omega)
      rw [hAe] at hany ⊢
      have hok := hide fun h : windowMay ⟨xp, xs, xl, xd⟩ major parts = true => winOk_of_may (by omega : major ≤ 64) h
      generalize (ws.take k).any (fun v => !winApart v ⟨xp, xs, xl, xd⟩) = q at HP hany
      cases hm : windowMay ⟨xp, xs, xl, xd⟩ major parts
      · rw [hm] at hmay HP
        clear hm hok
        go_wp2_with ((with_reducible refine (Hid.out hmay _).mono ?_); rintro e w' ⟨rfl, hi⟩)
        go_ret
        rw [HE.out, ← HW.out, HP.out]
        exact ⟨rfl, HB.out.trans (((bel_refl wr).alloc _).trans hi)⟩
      · rw [hm] at hmay HP
        have hok := hide (hok.out hm)
        clear hm
        cases q
        · go_wp2_with (first | ((with_reducible refine (Hid.out hmay _).mono ?_); rintro e w' ⟨rfl, hi⟩) | ((with_reducible refine (Hid.out hany _ hi hok.out).mono ?_); rintro e w2 ⟨rfl, hi2⟩))
          refine ⟨⟨k + 1, by omega, by go_num, hide (HB.out.trans (((bel_refl wr).alloc _).trans (Bel.trans hi hi2))), hide (by rw [← HW.out, HP.out]; rfl), hide (fun y hy => ?_)⟩, by simp [intOf]; omega⟩
          rw [HT.out] at hy
          rcases List.mem_append.1 hy with hy | hy
          · exact HO.out y hy
          · rw [List.mem_singleton.1 hy]; exact hok.out
        · go_wp2_with (first | ((with_reducible refine (Hid.out hmay _).mono ?_); rintro e w' ⟨rfl, hi⟩) | ((with_reducible refine (Hid.out hany _ hi hok.out).mono ?_); rintro e w2 ⟨rfl, hi2⟩))
          go_ret
          rw [HE.out, ← HW.out, HP.out]
          exact ⟨rfl, HB.out.trans (((bel_refl wr).alloc _).trans (Bel.trans hi hi2))⟩
    · obtain rfl : k = ws.length := by omega
      go_wp2
      go_ret
      rw [HE.out, ← HW.out, List.drop_length]
      exact ⟨rfl, HB.out⟩
end Go.Proofs.Ythjhkbnajclcjaa
