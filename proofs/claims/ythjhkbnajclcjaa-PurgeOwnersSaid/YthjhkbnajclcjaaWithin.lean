/- config.Within, Reads, Writes. -/
import Derived.Test.YthjhkbnajclcjaaMay3
import Derived.Test.YthjhkbnajclcjaaAddr
namespace Go.Proofs.Ythjhkbnajclcjaa
open Go.RowKit

def within (c : Config) (part a n : Int) (write : Bool) : Bool := there c part && (addrMay a n (c.frames * 64) && !(split a n).any fun p => !reach c part p.frame write)

theorem kPiece_vals {w : World} {x : Piece} {c0 c1 c2 : Value} (h : kPiece.K w x [c0, c1, c2]) : c0 = .int .i64 x.frame ∧ c1 = .int .i64 x.off ∧ c2 = .int .i64 x.len ∧ I64 x.frame ∧ I64 x.off ∧ I64 x.len := by
  obtain ⟨hcs, h1, h2, h3⟩ := h
  simp only [List.cons.injEq, and_true] at hcs
  exact ⟨hcs.1, hcs.2.1, hcs.2.2, h1, h2, h3⟩

set_option maxHeartbeats 1000000 in
theorem within1 (W : World) (x : Piece) (c : Config) (bc B0 B1 B2 : Nat) (part : Int) (write : Bool) (c0 c1 c2 : Value) (hK : kPiece.K W x [c0, c1, c2]) (hc : kConfig.At W bc 0 c)
    (h0 : W.cell? ⟨B0, 0, none⟩ = some (.pointer (some ⟨bc, 0, none⟩))) (h1 : W.cell? ⟨B1, 0, none⟩ = some (.int .i64 part)) (h2 : W.cell? ⟨B2, 0, none⟩ = some (.bool write)) :
    Calls Try.prog 121 #[.agg #[c0, c1, c2], .pointer (some ⟨B0, 0, none⟩), .pointer (some ⟨B1, 0, none⟩), .pointer (some ⟨B2, 0, none⟩)] W fun e w' => e = .returned (.bool (!reach c part x.frame write)) ∧ Bel W w' := by
  obtain ⟨rfl, rfl, rfl, -⟩ := kPiece_vals hK
  have e0 := World.block_lt_of_cell? W _ h0
  have e1 := World.block_lt_of_cell? W _ h1
  have e2 := World.block_lt_of_cell? W _ h2
  have hb := hide fun o => (bel_refl W).alloc o
  have hr := hide fun o => reach_calls (W.alloc o) bc c part x.frame write (hc.bel ((bel_refl W).alloc o))
  obtain ⟨xf, xo, xl⟩ := x
  simp only at hr ⊢
  generalize reach c part xf write = r at hr
  clear hK hc
  go_enter Try.func121, Try.ntmps121
  go_wp2_with ((with_reducible refine (Hid.out hr _).mono ?_); rintro e w1 ⟨rfl, hi⟩)
  go_ret
  exact ⟨rfl, Bel.trans (hb.out _) hi⟩

theorem within_any (w : World) (c : Config) (bc B0 B1 B2 : Nat) (part : Int) (write : Bool) (v : Value) (ps : List Piece) (hv : kPiece.Sl w v ps) (hc : kConfig.At w bc 0 c)
    (h0 : w.cell? ⟨B0, 0, none⟩ = some (.pointer (some ⟨bc, 0, none⟩))) (h1 : w.cell? ⟨B1, 0, none⟩ = some (.int .i64 part)) (h2 : w.cell? ⟨B2, 0, none⟩ = some (.bool write)) :
    Calls Try.prog 123 #[v, .func (.func 121) #[] #[.pointer (some ⟨B0, 0, none⟩), .pointer (some ⟨B1, 0, none⟩), .pointer (some ⟨B2, 0, none⟩)]] w fun e w' => e = .returned (.bool (ps.any fun p => !reach c part p.frame write)) ∧ Bel w w' := by
  have hcon := containsFunc_Piece kPiece rfl (fun _ W => Bel w W) (plainStep fun p => !reach c part p.frame write) 121 #[.pointer (some ⟨B0, 0, none⟩), .pointer (some ⟨B1, 0, none⟩), .pointer (some ⟨B2, 0, none⟩)]
    (enters Try.func121 (by kernel_rfl) rfl) v ps (fun _ W hW => hv.bel hW)
    (fun _ W x c0 c1 c2 _ hK hW => (within1 W x c bc B0 B1 B2 part write c0 c1 c2 hK (hc.bel hW) (hW.cell h0) (hW.cell h1) (hW.cell h2)).mono fun e w' ⟨he, hw⟩ => ⟨he, hW.trans hw⟩) () w (bel_refl _)
  rw [anyL_plain] at hcon
  exact hcon

set_option maxHeartbeats 4000000 in
theorem within_calls (w : World) (bc : Nat) (c : Config) (part a n : Int) (write : Bool) (h : kConfig.At w bc 0 c) (ha : I64 a) (hn : I64 n) (hf1 : 1 ≤ c.frames) (hf2 : c.frames ≤ 64) :
    Calls Try.prog 66 #[.pointer (some ⟨bc, 0, none⟩), .int .i64 part, .int .i64 a, .int .i64 n, .bool write] w fun e w' => e = .returned (.bool (within c part a n write)) ∧ Bel w w' := by
  obtain ⟨vp, vd, vw, vg, hbc, h0, -⟩ := cfg_open h
  have hbw := hide fun o1 o2 o3 => (((bel_refl w).alloc o1).alloc o2).alloc o3
  have e0 := fun o1 o2 o3 => ((((bel_refl w).alloc o1).alloc o2).alloc o3).cell h0
  have hth := hide fun o1 o2 o3 => there_c (((w.alloc o1).alloc o2).alloc o3) bc c part (h.bel (hbw.out o1 o2 o3))
  have had := hide fun W => addrMay_p a n (c.frames * 64) W ha hn (by unfold I64; omega)
  have HX : Hid (within c part a n write = (there c part && (addrMay a n (c.frames * 64) && !(split a n).any fun p => !reach c part p.frame write))) := rfl
  have hsp := hide fun W (hm : addrMay a n (c.frames * 64) = true) => split_p a n W (by rw [addrMay_iff] at hm ⊢; omega)
  have w1 : IntKind.i64.wrap (c.frames * 64) = c.frames * 64 := IntWalk.i64_in _ (by omega)
  have hany := hide fun W B0 B1 B2 v ps (hW : Bel w W) hv h0 h1 h2 => within_any W c bc B0 B1 B2 part write v ps hv (h.bel hW) h0 h1 h2
  generalize within c part a n write = res at HX
  generalize there c part = q1 at hth HX
  clear ha hn hf1 hf2 h
  cases q1
  · go_enter Try.func66, Try.ntmps66
    go_wp2_with ((with_reducible refine (Hid.out hth _ _ _).mono ?_); rintro e w2 ⟨rfl, rfl⟩)
    go_ret
    rw [HX.out]
    exact ⟨rfl, hbw.out _ _ _⟩
  cases q2 : addrMay a n (c.frames * 64)
  · rw [q2] at had HX
    clear q2 hsp
    go_enter Try.func66, Try.ntmps66
    go_wp2_with (first | ((with_reducible refine (Hid.out hth _ _ _).mono ?_); rintro e w2 ⟨rfl, rfl⟩) | ((with_reducible refine (Hid.out had _).mono ?_); rintro e w2 ⟨rfl, rfl⟩))
    go_ret
    rw [HX.out]
    exact ⟨rfl, hbw.out _ _ _⟩
  · rw [q2] at had HX
    have hspl := hide fun W => hsp.out W q2
    clear q2 hsp
    go_enter Try.func66, Try.ntmps66
    go_wp2_with (first | ((with_reducible refine (Hid.out hth _ _ _).mono ?_); rintro e w2 ⟨rfl, rfl⟩) | ((with_reducible refine (Hid.out had _).mono ?_); rintro e w2 ⟨rfl, rfl⟩) | ((with_reducible refine (Hid.out hspl _).mono ?_); rintro e w2 ⟨v2, rfl, hv2, hb2⟩; have hbx := hide hb2; have hvx := hide hv2; clear hb2 hv2) | ((with_reducible refine (Hid.out hany _ _ _ _ _ _ (Bel.trans (hbw.out _ _ _) hbx.out) hvx.out (hbx.out.cell (by go_simp)) (hbx.out.cell (by go_simp)) (hbx.out.cell (by go_simp))).mono ?_); rintro e w3 ⟨rfl, hb3⟩))
    go_ret
    rw [HX.out]
    exact ⟨rfl, Bel.trans (Bel.trans (hbw.out _ _ _) hbx.out) hb3⟩

theorem mayCfg_frames {c : Config} (h : mayCfg c = true) : 1 ≤ c.frames ∧ c.frames ≤ 64 := by
  simp only [mayCfg, mayRules, List.all_cons, Bool.and_eq_true, id, framesRule, decide_eq_true_eq] at h
  omega
/-- config.Reads, config.Writes. -/
def allowed (c : Config) (part a n : Int) (write : Bool) : Bool := mayCfg c && within c part a n write

set_option maxHeartbeats 2000000 in
theorem reads_calls (w : World) (v : Value) (c : Config) (part a n : Int) (h : CfgV w v c) (ha : I64 a) (hn : I64 n) :
    Calls Try.prog 24 #[v, .int .i64 part, .int .i64 a, .int .i64 n] w fun e w' => e = .returned (.bool (allowed c part a n false)) ∧ Bel w w' := by
  obtain ⟨c0, c1, c2, c3, c4, c5, c6, c7, c8, rfl, hk, ⟨_, _, _, rfl⟩, ⟨_, _, _, rfl⟩, ⟨_, _, _, rfl⟩, ⟨_, _, _, rfl⟩, rfl, rfl, rfl, rfl, rfl⟩ := h.open
  have HB := hide fun o => (bel_refl w).alloc o
  have HC := hide fun W hb => cfg_box (W := W) hk hb
  have HX : Hid (allowed c part a n false = (mayCfg c && within c part a n false)) := rfl
  have hm := hide fun o => may_calls (w.alloc o) _ c ⟨_, rfl, kConfig.bel (HB.out o) hk⟩
  have hw := hide fun (hq : mayCfg c = true) W (hW : Bel (w.alloc _) W) => within_calls W w.heap.size c part a n false (HC.out W hW) ha hn (mayCfg_frames hq).1 (mayCfg_frames hq).2
  generalize allowed c part a n false = res at HX
  clear h hk ha hn HC
  cases q : mayCfg c
  · rw [q] at hm HX
    clear q hw
    go_enter Try.func24, Try.ntmps24
    go_wp2_with ((with_reducible refine (Hid.out hm _).mono ?_); rintro e w1 ⟨rfl, hi⟩)
    go_ret
    rw [HX.out]
    exact ⟨rfl, Bel.trans (HB.out _) hi⟩
  · have hw2 := hide (hw.out q)
    rw [q] at hm HX
    clear q hw
    go_enter Try.func24, Try.ntmps24
    go_wp2_with (first | ((with_reducible refine (Hid.out hm _).mono ?_); rintro e w1 ⟨rfl, hi⟩) | ((with_reducible refine (Hid.out hw2 _ hi).mono ?_); rintro e w2 ⟨rfl, hi2⟩))
    go_ret
    rw [HX.out]
    exact ⟨rfl, Bel.trans (Bel.trans (HB.out _) hi) hi2⟩

set_option maxHeartbeats 2000000 in
theorem writes_calls (w : World) (v : Value) (c : Config) (part a n : Int) (h : CfgV w v c) (ha : I64 a) (hn : I64 n) :
    Calls Try.prog 26 #[v, .int .i64 part, .int .i64 a, .int .i64 n] w fun e w' => e = .returned (.bool (allowed c part a n true)) ∧ Bel w w' := by
  obtain ⟨c0, c1, c2, c3, c4, c5, c6, c7, c8, rfl, hk, ⟨_, _, _, rfl⟩, ⟨_, _, _, rfl⟩, ⟨_, _, _, rfl⟩, ⟨_, _, _, rfl⟩, rfl, rfl, rfl, rfl, rfl⟩ := h.open
  have HB := hide fun o => (bel_refl w).alloc o
  have HC := hide fun W hb => cfg_box (W := W) hk hb
  have HX : Hid (allowed c part a n true = (mayCfg c && within c part a n true)) := rfl
  have hm := hide fun o => may_calls (w.alloc o) _ c ⟨_, rfl, kConfig.bel (HB.out o) hk⟩
  have hw := hide fun (hq : mayCfg c = true) W (hW : Bel (w.alloc _) W) => within_calls W w.heap.size c part a n true (HC.out W hW) ha hn (mayCfg_frames hq).1 (mayCfg_frames hq).2
  generalize allowed c part a n true = res at HX
  clear h hk ha hn HC
  cases q : mayCfg c
  · rw [q] at hm HX
    clear q hw
    go_enter Try.func26, Try.ntmps26
    go_wp2_with ((with_reducible refine (Hid.out hm _).mono ?_); rintro e w1 ⟨rfl, hi⟩)
    go_ret
    rw [HX.out]
    exact ⟨rfl, Bel.trans (HB.out _) hi⟩
  · have hw2 := hide (hw.out q)
    rw [q] at hm HX
    clear q hw
    go_enter Try.func26, Try.ntmps26
    go_wp2_with (first | ((with_reducible refine (Hid.out hm _).mono ?_); rintro e w1 ⟨rfl, hi⟩) | ((with_reducible refine (Hid.out hw2 _ hi).mono ?_); rintro e w2 ⟨rfl, hi2⟩))
    go_ret
    rw [HX.out]
    exact ⟨rfl, Bel.trans (Bel.trans (HB.out _) hi) hi2⟩
end Go.Proofs.Ythjhkbnajclcjaa
