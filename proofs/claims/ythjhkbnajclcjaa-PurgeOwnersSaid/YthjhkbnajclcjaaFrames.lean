/- config.May's rule on frames: all there, all unlike. -/
import Derived.Test.YthjhkbnajclcjaaMay2
import Derived.Test.YthjhkbnajclcjaaReach
import Derived.Deep.OwnRows
import Derived.Laws.MakeOwn
namespace Go.Proofs.Ythjhkbnajclcjaa
open Go.RowKit

theorem run_make_rowN {P : Program} (t e : TypeId) (i : TypeInfo) (z : Value) (ht : P.underlying t = some (.slice e)) (hi : P.info? e = some i) (hz : i.zero = some z)
    (kl kc : IntKind) (n c : Nat) (hnc : n ≤ c) (hbytes : i.bytes * c ≤ 281474976710656) (h63 : c ≤ 9223372036854775807) (w : World) :
    (Instr.makeSlice t (.int kl (n : Int)) (.int kc (c : Int))).run P w = .ok (.slice (some ⟨w.heap.size, 0, none⟩) n c) (w.alloc (.cells (madeCells z.cells (c * i.size)) e)) := by
  have hb : (i.bytes : Int) * (c : Int) ≤ 281474976710656 := by
    have h : ((i.bytes * c : Nat) : Int) ≤ 281474976710656 := by omega
    rwa [Int.natCast_mul] at h
  have hr := run_make (P := P) w t e i z ht hi hz kl kc n c (by omega) (by omega) hb (by omega)
  simp only [Int.toNat_natCast] at hr
  exact hr

/-- Is a frame there, and new? Then it is remembered. -/
def onceStep (n : Int) (s : List Int) (f : Int) : Bool × List Int := if decide (0 ≤ f) && (decide (f < n) && !has s f) then (false, f :: s) else (true, s)
theorem anyL_append {σ α : Type} (step : σ → α → Bool × σ) (xs ys : List α) : ∀ s : σ, anyL step (xs ++ ys) s = if (anyL step xs s).1 then anyL step xs s else anyL step ys (anyL step xs s).2 := by
  induction xs with
  | nil => intro s; rfl
  | cons x xs ih =>
    intro s
    rw [List.cons_append, anyL, anyL]
    split
    · rfl
    · exact ih _

/-- The state of config.frames: the config's pointer in block B1, the slice of marks in block B3, the marks in block g. -/
structure FrInv (w : World) (bc : Nat) (n B1 B3 g : Nat) (s : List Int) (W : World) : Prop where
  bel : Bel w W
  ptr : W.cell? ⟨B1, 0, none⟩ = some (.pointer (some ⟨bc, 0, none⟩))
  sl : W.cell? ⟨B3, 0, none⟩ = some (.slice (some ⟨g, 0, none⟩) n n)
  row : W.rowIs g 4 n fun i => .bool (has s i)
  hg : w.heap.size ≤ g
  h1 : B1 ≠ g
  h3 : B3 ≠ g
theorem FrInv.alloc {w W : World} {bc n B1 B3 g : Nat} {s : List Int} (h : FrInv w bc n B1 B3 g s W) (o : Obj) : FrInv w bc n B1 B3 g s (W.alloc o) :=
  ⟨h.bel.alloc o, ((bel_refl W).alloc o).cell h.ptr, ((bel_refl W).alloc o).cell h.sl, h.row.alloc o, h.hg, h.h1, h.h3⟩
theorem FrInv.set {w W : World} {bc n B1 B3 g : Nat} {s : List Int} (h : FrInv w bc n B1 B3 g s W) (k : Nat) : FrInv w bc n B1 B3 g ((k : Int) :: s) (W.setCell ⟨g, k, none⟩ (.bool true)) := by
  refine ⟨h.bel.setCell h.hg _, ?_, ?_, (h.row.set k (.bool true)).congr fun i _ => ?_, h.hg, h.h1, h.h3⟩
  · rw [World.cell?_setCell_far _ _ _ _ (Ne.symm h.h1)]; exact h.ptr
  · rw [World.cell?_setCell_far _ _ _ _ (Ne.symm h.h3)]; exact h.sl
  · by_cases hk : i = k
    · subst hk; simp [has]
    · have : ¬ (i : Int) = (k : Int) := by omega
      simp [has, hk, this]

set_option maxHeartbeats 2000000 in
theorem frames1 (w W : World) (c : Config) (bc : Nat) (n B1 B3 g : Nat) (s : List Int) (f : Int) (hc : w.cell? ⟨bc, 0, none⟩ = some (.int .i64 c.frames)) (hn : c.frames = n) (hI : FrInv w bc n B1 B3 g s W) :
    Calls Try.prog 158 #[.int .i64 f, .pointer (some ⟨B1, 0, none⟩), .pointer (some ⟨B3, 0, none⟩)] W fun e w' => e = .returned (.bool (onceStep n s f).1) ∧ FrInv w bc n B1 B3 g (onceStep n s f).2 w' := by
  have e1 := hI.ptr
  have e3 := hI.sl
  have ec := hI.bel.cell hc
  rw [hn] at ec
  have HI := hide hI
  clear hc hn
  by_cases g1 : f < 0
  · have HS := hide (show onceStep n s f = (true, s) by simp [onceStep, show ¬ 0 ≤ f by omega])
    generalize onceStep n s f = r at HS
    clear hI
    go_enter Try.func158, Try.ntmps158
    go_wp2
    go_ret
    rw [HS.out]
    exact ⟨rfl, HI.out⟩
  obtain ⟨k, rfl⟩ : ∃ k : Nat, f = k := ⟨f.toNat, by omega⟩
  by_cases g2 : (n : Int) ≤ k
  · have HS := hide (show onceStep n s k = (true, s) by simp [onceStep, show ¬ (k : Nat) < n by omega])
    generalize onceStep n s k = r at HS
    clear hI
    go_enter Try.func158, Try.ntmps158
    go_wp2
    go_ret
    rw [HS.out]
    exact ⟨rfl, HI.out⟩
  have hk : k < n := by omega
  have ek := hI.row.cell hk
  have ef := hI.row.frozen k
  clear hI
  cases g3 : has s (k : Int)
  · have HS := hide (show onceStep n s k = (false, (k : Int) :: s) by simp [onceStep, g3]; omega)
    generalize onceStep n s k = r at HS
    rw [g3] at ek
    clear g3
    have HK := hide (HI.out.set k)
    go_enter Try.func158, Try.ntmps158
    go_wp2
    go_ret
    rw [HS.out]
    exact ⟨rfl, HK.out⟩
  · have HS := hide (show onceStep n s k = (true, s) by simp [onceStep, g3])
    generalize onceStep n s k = r at HS
    rw [g3] at ek
    clear g3
    go_enter Try.func158, Try.ntmps158
    go_wp2
    go_ret
    rw [HS.out]
    exact ⟨rfl, HI.out⟩

theorem info_bool : (Try.prog.info? 4).map (fun i => (i.zero, i.size, i.bytes)) = some (some (.bool false), 1, 1) := by kernel_rfl
theorem made_bools (n : Nat) (hn : n ≤ 64) (W : World) : (Instr.makeSlice 64 (.int .i64 (n : Int)) (.int .i64 (n : Int))).run Try.prog W = .ok (.slice (some ⟨W.heap.size, 0, none⟩) n n) (W.alloc (.cells (madeCells #[.bool false] n) 4)) := by
  obtain ⟨i, hi, hz⟩ := Option.map_eq_some_iff.1 info_bool
  simp only [Prod.mk.injEq] at hz
  obtain ⟨hz0, hz1, hz2⟩ := hz
  have h := run_make_rowN (P := Try.prog) 64 4 i _ Try.underlying64 hi hz0 .i64 .i64 n n (Nat.le_refl _) (by rw [hz2]; omega) (by omega) W
  rw [hz1, Nat.mul_one] at h
  exact h

/-- All frames of a config, the partitions' ahead of the devices'. -/
def pools (c : Config) : List Int := c.devices.flatMap fun d => d.pool
def allFrames (c : Config) : List Int := (c.parts.flatMap fun p => p.frames) ++ pools c
def framesRule (c : Config) : Bool := decide (1 ≤ c.frames) && (decide (c.frames ≤ 64) && !(anyL (onceStep c.frames) (allFrames c) []).1)

/-- slices.ContainsFunc of frames$1 over some frames. -/
theorem frames_any (w W : World) (c : Config) (bc : Nat) (n B1 B3 g : Nat) (s : List Int) (v : Value) (xs : List Int) (hc : w.cell? ⟨bc, 0, none⟩ = some (.int .i64 c.frames)) (hn : c.frames = n) (hv : kInt.Sl w v xs) (hI : FrInv w bc n B1 B3 g s W) :
    Calls Try.prog 159 #[v, .func (.func 158) #[] #[.pointer (some ⟨B1, 0, none⟩), .pointer (some ⟨B3, 0, none⟩)]] W fun e w' => e = .returned (.bool (anyL (onceStep n) xs s).1) ∧ FrInv w bc n B1 B3 g (anyL (onceStep n) xs s).2 w' :=
  containsFunc_int kInt rfl (fun s W => FrInv w bc n B1 B3 g s W) (onceStep n) 158 #[.pointer (some ⟨B1, 0, none⟩), .pointer (some ⟨B3, 0, none⟩)]
    (enters Try.func158 (by kernel_rfl) rfl) v xs (fun s W h => hv.bel h.bel)
    (fun s W x c0 _ hK h => by
      obtain ⟨hK, -⟩ := hK
      simp only [List.cons.injEq, and_true] at hK
      subst hK
      exact frames1 w W c bc n B1 B3 g s x hc hn h) s W hI

set_option maxHeartbeats 4000000 in
theorem frames_calls (w : World) (bc : Nat) (c : Config) (h : kConfig.At w bc 0 c) :
    Calls Try.prog 114 #[.pointer (some ⟨bc, 0, none⟩)] w fun e w' => e = .returned (.bool (framesRule c)) ∧ Bel w w' := by
  obtain ⟨vp, vd, vw, vg, hbc, h0, h1, h2, h3, h4, h5, h6, h7, h8, hp, hd, -⟩ := cfg_open h
  obtain ⟨A, b, o, cc, rfl, hl1, hl2, hA, hrows⟩ := hp.form
  obtain ⟨A', b', o', cc', rfl, hl1', hl2', hA', hrows'⟩ := hd.form
  have HR := hide (hrows w hp); clear hrows
  have HD := hide (hrows' w hd); clear hrows'
  have HB0 := hide fun o => (bel_refl w).alloc o
  have HX : Hid (framesRule c = (decide (1 ≤ c.frames) && (decide (c.frames ≤ 64) && !(anyL (onceStep c.frames) (allFrames c) []).1))) := rfl
  generalize framesRule c = res at HX
  have H0 := hide h0
  clear h h3 h4 h5 h6 h7 h8 hp hd
  by_cases g1 : c.frames < 1
  · have HE := hide (show decide (1 ≤ c.frames) = false from decide_eq_false (by omega))
    go_enter Try.func114, Try.ntmps114
    go_wp2
    go_ret
    rw [HX.out, HE.out]
    exact ⟨rfl, HB0.out _⟩
  by_cases g2 : 64 < c.frames
  · have HE := hide (show decide (c.frames ≤ 64) = false from decide_eq_false (by omega))
    go_enter Try.func114, Try.ntmps114
    go_wp2
    go_ret
    rw [HX.out, HE.out]
    exact ⟨by simp, HB0.out _⟩
  obtain ⟨n, hn⟩ : ∃ n : Nat, c.frames = n := ⟨c.frames.toNat, by omega⟩
  have HN := hide hn
  rw [hn] at h0 g1 g2
  have hnn : n ≤ 64 := by omega
  have HE := hide (show res = !(anyL (onceStep n) (allFrames c) []).1 by rw [HX.out, hn, decide_eq_true (by omega), decide_eq_true (by omega)]; rfl)
  clear HX hn
  have hmk := made_bools n hnn
  have e1 := fun o1 o2 o3 => ((((bel_refl w).alloc o1).alloc o2).alloc o3).cell h1
  go_enter Try.func114, Try.ntmps114
  go_wp2
  clear e1 hmk
  have hI0 : FrInv w bc n w.heap.size (w.heap.size + 1 + 1) (w.heap.size + 1) [] (((w.alloc (.cells #[.pointer (some ⟨bc, 0, none⟩)] 115)).alloc (.cells (madeCells #[.bool false] n) 4)).alloc (.cells #[.slice (some ⟨w.heap.size + 1, 0, none⟩) n n] 64)) := by
    refine ⟨(((bel_refl w).alloc _).alloc _).alloc _, (((bel_refl _).alloc _).alloc _).cell (by go_simp), by go_simp, ?_, by omega, by omega, by omega⟩
    have hr := World.rowIs_made (w.alloc (.cells #[.pointer (some ⟨bc, 0, none⟩)] 115)) (.bool false) n 4
    rw [show (w.alloc (Obj.cells #[Value.pointer (some ⟨bc, 0, none⟩)] 115)).heap.size = w.heap.size + 1 by simp] at hr
    exact (hr.alloc _).congr fun i _ => by simp [has]
  have HI0 := hide hI0
  clear hI0 HB0
  have hany := hide fun W s v xs => frames_any w W c bc n w.heap.size (w.heap.size + 1 + 1) (w.heap.size + 1) s v xs H0.out HN.out
  have H1 := hide h1
  have H2 := hide h2
  clear h0 h1 h2 HN H0
  go_loopw [32] (fun t W => ∃ (k : Nat) (s : List Int), k ≤ c.parts.length ∧ t = .int .i64 k ∧ Hid (FrInv w bc n w.heap.size (w.heap.size + 1 + 1) (w.heap.size + 1) s W) ∧ Hid (anyL (onceStep n) ((c.parts.drop k).flatMap (fun p => p.frames) ++ pools c) s = anyL (onceStep n) (allFrames c) [])) (fun t _ => c.parts.length - (intOf t).toNat)
  case atStart => exact ⟨0, [], Nat.zero_le _, rfl, HI0, hide rfl⟩
  case round =>
    obtain ⟨k, s, hk, rfl, HI, HW⟩ := hrel
    by_cases hlt : k < c.parts.length
    · obtain ⟨c0, c1, c2, c3, c4, hK, hc_0, hc_1, hc_2, hc_3, hc_4⟩ := HR.out.get5 rfl hlt
      have HP := hide (show (c.parts.drop k).flatMap (fun p => p.frames) ++ pools c = c.parts[k].frames ++ ((c.parts.drop (k + 1)).flatMap (fun p => p.frames) ++ pools c) by rw [drop_cons hlt, List.flatMap_cons, List.append_assoc])
      generalize c.parts[k] = x at hK HP
      obtain ⟨⟨xl, xc⟩, xf, xs, xn⟩ := x
      obtain ⟨rfl, rfl, hf, rfl, rfl, -, -⟩ := kPart_vals hK
      have hanyk := hide fun o => hany.out (wr.alloc o) s c2 xf hf (HI.out.alloc o)
      obtain ⟨Af, bf, off, cf, rfl, hf1, hf2, -, -⟩ := hf.form
      have d0 := HI.out.bel.cell hc_0
      have d1 := HI.out.bel.cell hc_1
      have d2 := HI.out.bel.cell hc_2
      have d3 := HI.out.bel.cell hc_3
      have d4 := HI.out.bel.cell hc_4
      clear hf hK hc_0 hc_1 hc_2 hc_3 hc_4
      simp only at HP d0 d1 d3 d4
      have HZ := hide (anyL_append (onceStep n) xf ((c.parts.drop (k + 1)).flatMap (fun p => p.frames) ++ pools c) s)
      rw [hA (by omega)]
      generalize anyL (onceStep n) xf s = r at hanyk HZ
      obtain ⟨r1, s1⟩ := r
      cases r1
      · go_wp2_with ((with_reducible refine (Hid.out hanyk _).mono ?_); rintro e w1 ⟨rfl, hi⟩)
        exact ⟨⟨k + 1, s1, by omega, by go_num, hide hi, hide (by rw [← HW.out, HP.out, HZ.out]; rfl)⟩, by simp [intOf]; omega⟩
      · go_wp2_with ((with_reducible refine (Hid.out hanyk _).mono ?_); rintro e w1 ⟨rfl, hi⟩)
        go_ret
        rw [HE.out, ← HW.out, HP.out, HZ.out]
        exact ⟨rfl, hi.bel⟩
    · obtain rfl : k = c.parts.length := by omega
      rw [List.drop_length] at HW
      have d1 := HI.out.ptr
      have d2 := HI.out.bel.cell H2.out
      clear HR
      go_wp2
      go_loopw [46] (fun t W => ∃ (k : Nat) (s : List Int), k ≤ c.devices.length ∧ t = .int .i64 k ∧ Hid (FrInv w bc n w.heap.size (w.heap.size + 1 + 1) (w.heap.size + 1) s W) ∧ Hid (anyL (onceStep n) ((c.devices.drop k).flatMap (fun d => d.pool)) s = anyL (onceStep n) (allFrames c) [])) (fun t _ => c.devices.length - (intOf t).toNat)
      case atStart => exact ⟨0, s, Nat.zero_le _, rfl, HI, HW⟩
      case round =>
        obtain ⟨k, s, hk, rfl, HI, HW⟩ := hrel
        by_cases hlt : k < c.devices.length
        · obtain ⟨c0, c1, hK, hc_0, hc_1⟩ := HD.out.get2 rfl hlt
          have HP := hide (show (c.devices.drop k).flatMap (fun d => d.pool) = c.devices[k].pool ++ (c.devices.drop (k + 1)).flatMap (fun d => d.pool) by rw [drop_cons hlt, List.flatMap_cons])
          generalize c.devices[k] = x at hK HP
          obtain ⟨xp, xf⟩ := x
          obtain ⟨vf, hcs, hf, -⟩ := hK
          simp only [List.cons.injEq, and_true] at hcs
          obtain ⟨rfl, rfl⟩ := hcs
          simp only at hf
          have hanyk := hide fun o => hany.out (wr.alloc o) s c1 xf hf (HI.out.alloc o)
          obtain ⟨Af, bf, off, cf, rfl, hf1, hf2, -, -⟩ := hf.form
          have d0 := HI.out.bel.cell hc_0
          have d1 := HI.out.bel.cell hc_1
          clear hf hc_0 hc_1
          simp only at HP d0
          have HZ := hide (anyL_append (onceStep n) xf ((c.devices.drop (k + 1)).flatMap (fun d => d.pool)) s)
          rw [hA' (by omega)]
          generalize anyL (onceStep n) xf s = r at hanyk HZ
          obtain ⟨r1, s1⟩ := r
          cases r1
          · go_wp2_with ((with_reducible refine (Hid.out hanyk _).mono ?_); rintro e w1 ⟨rfl, hi⟩)
            exact ⟨⟨k + 1, s1, by omega, by go_num, hide hi, hide (by rw [← HW.out, HP.out, HZ.out]; rfl)⟩, by simp [intOf]; omega⟩
          · go_wp2_with ((with_reducible refine (Hid.out hanyk _).mono ?_); rintro e w1 ⟨rfl, hi⟩)
            go_ret
            rw [HE.out, ← HW.out, HP.out, HZ.out]
            exact ⟨rfl, hi.bel⟩
        · obtain rfl : k = c.devices.length := by omega
          rw [List.drop_length] at HW
          go_wp2
          go_ret
          rw [HE.out, ← HW.out]
          exact ⟨rfl, HI.out.bel⟩
end Go.Proofs.Ythjhkbnajclcjaa
