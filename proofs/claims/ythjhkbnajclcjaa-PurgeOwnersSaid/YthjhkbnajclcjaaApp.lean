/- append(out, ys...) where out is a row of the call's own and ys any slice that reads as a list. -/
import Derived.Test.YthjhkbnajclcjaaRow
import Derived.Deep.AppendSrc
namespace Go.Proofs.Ythjhkbnajclcjaa
open Go.RowKit
section
variable {P : Program} {ops : Array Oper} {rest : List Oper} {o : Oper} {a : Act} {Q : Exit → Act → World → Prop} {α : Type}
theorem run_append_none (t ty e : TypeId) (ht : P.underlying t = some (.slice e)) (i : TypeInfo) (hi : P.info? e = some i) (c : Nat) (w : World) (base size n : Nat) (v : Value) (xs : List Value) (hown : w.ownsRow base e size v n xs) :
    (Builtin.append_ #[t, t] ty #[v, .slice none 0 c]).run P w = .ok v w := by
  rcases hown.2 with ⟨rfl, rfl⟩ | ⟨g, cap, cur, rfl, hbg, hg, hnc, hcm, hcs, htake⟩
  · simp [Builtin.append_, run_underlying ht, sizeOf, typeInfo, hi, Builtin.lenOf, Builtin.firstCells]
  · exact run_append_room_src (P := P) w t t ty e i ht hi g 0 n cap _ 0 [] (Src.ofNil (P := P) w ht c) hnc (fun j hj => by simp at hj) (fun j hj => by simp at hj)
/-- The cells of a row of elements, laid out. -/
theorem row_cells {d : Kind α} {W : World} {b o : Nat} {ys : List α} (h : d.Row W b o ys) (hs0 : 0 < d.sz) : ∃ news : List Value, news.length = ys.length * d.sz ∧ (∀ (j : Nat) (u : Value), news[j]? = some u → W.cell? ⟨b, o + j, none⟩ = some u) ∧ (∀ (j : Nat) (y : α), ys[j]? = some y → d.K W y ((news.drop (j * d.sz)).take d.sz)) := by
  refine ⟨(List.range (ys.length * d.sz)).map fun j => (W.cell? ⟨b, o + j, none⟩).getD default, by simp, fun j u hu => ?_, fun j y hy => ?_⟩
  · rw [List.getElem?_map] at hu
    have hj : j < ys.length * d.sz := by
      rcases Nat.lt_or_ge j (ys.length * d.sz) with h | h
      · exact h
      · rw [List.getElem?_eq_none (by simpa using h)] at hu; simp at hu
    rw [List.getElem?_range hj] at hu
    simp only [Option.map_some, Option.some.injEq] at hu
    have hq : j / d.sz < ys.length := Nat.div_lt_of_lt_mul (by rw [Nat.mul_comm]; exact hj)
    obtain ⟨cs, hk, hc⟩ := h (j / d.sz) _ (List.getElem?_eq_getElem hq)
    have hr : j % d.sz < cs.length := by rw [d.len hk]; exact Nat.mod_lt _ hs0
    have h1 := hc (j % d.sz) _ (List.getElem?_eq_getElem hr)
    have h2 : o + j / d.sz * d.sz + j % d.sz = o + j := by have := Nat.div_add_mod j d.sz; rw [Nat.mul_comm] at this; omega
    rw [h2] at h1
    rw [h1] at hu ⊢
    rw [← hu]
    rfl
  · obtain ⟨cs, hk, hc⟩ := h j y hy
    have hj : j < ys.length := (List.getElem?_eq_some_iff.1 hy).1
    have hle : j * d.sz + d.sz ≤ ys.length * d.sz := by rw [← Nat.succ_mul]; exact Nat.mul_le_mul_right _ hj
    suffices he : (((List.range (ys.length * d.sz)).map fun j => (W.cell? ⟨b, o + j, none⟩).getD default).drop (j * d.sz)).take d.sz = cs by rw [he]; exact hk
    refine List.ext_getElem? fun i => ?_
    have hl := d.len hk
    rcases Nat.lt_or_ge i d.sz with hi | hi
    · have h1 := hc i _ (List.getElem?_eq_getElem (by omega))
      rw [List.getElem?_take, if_pos hi, List.getElem?_drop, List.getElem?_map, List.getElem?_range (by omega)]
      simp only [Option.map_some]
      rw [← Nat.add_assoc, h1, List.getElem?_eq_getElem (by omega)]
      rfl
    · rw [List.getElem?_take, if_neg (by omega), List.getElem?_eq_none (by omega)]
/-- append(v, ys...), ys of a kind that looks at no memory. -/
theorem own_append_slice (d : Kind α) (hone : d.One) (hp : d.Pure) {W : World} (base : Nat) (hgd : o.guard = none) (s x : Operand) (t e : TypeId) (z : Value) (bytes : Nat)
    (ho : o.op = .call { callee := .builtin .append, args := #[s, x], argTypes := #[t, t] })
    (ht : P.underlying t = some (.slice e)) (hinfo : (P.info? e).map (fun i => (i.zero, i.size, i.bytes)) = some (some z, d.sz, bytes)) (hz : z.cells.size = d.sz) (hs0 : 0 < d.sz) (hb0 : 0 < bytes)
    (v vy : Value) (xs ys : List α) (hs : a.eval s = v) (hx : a.eval x = vy)
    (HO : d.Own e base W v xs) (hy : d.Sl W vy ys) (hbase : base ≤ W.heap.size) (hl : (xs.length + ys.length) * bytes ≤ 140737488355328)
    (h : ∀ v1 w1, d.Own e base w1 v1 (xs ++ ys) → Below base W w1 → W.grownBy w1 v.ownBlock → (v1.ownBlock = v.ownBlock ∨ ∃ b, v1.ownBlock = some b ∧ W.heap.size ≤ b) → wpList P ops Q rest (a.put o.dst v1) w1) :
    wpList P ops Q (o :: rest) a W := by
  obtain ⟨i0, hi, hzz⟩ := Option.map_eq_some_iff.1 hinfo
  simp only [Prod.mk.injEq] at hzz
  obtain ⟨hz0, hz1, hz2⟩ := hzz
  obtain ⟨A, b, off, c, rfl, hc1, hc2, hA, hrow⟩ := hy
  rcases Nat.eq_zero_or_pos ys.length with h0 | h0
  · have hys : ys = [] := List.eq_nil_of_length_eq_zero h0
    subst hys
    cases A with
    | none =>
      refine wpList_plain hgd fun K hK => ?_
      obtain ⟨inner, hown, hr⟩ := HO
      have hrun := run_append_none (P := P) t o.type e ht i0 hi c W base d.sz xs.length v inner hown
      unfold Oper.wp execOp
      simp only [List.length_nil] at hx
      simp only [ho, resolve, invoke, builtin, Sem.run_bind, Sem.run_pure, Result.andThen_ok, List.map_toArray, List.map_cons, List.map_nil, hs, hx, hrun]
      exact hK _ _ (h v W (by rw [List.append_nil]; exact ⟨inner, hown, hr⟩) (Below.refl _ _) ⟨rfl, rfl, rfl, Nat.le_refl _, fun _ _ _ => rfl⟩ (.inl rfl))
    | some ad =>
      obtain ⟨inner, hown, hr⟩ := HO
      have hlen : xs.length + 0 ≤ 140737488355328 := Nat.le_trans (Nat.le_mul_of_pos_right _ hb0) (by simpa using hl)
      refine wpList_append_own_at W hgd s x t ho base e i0 z d.sz bytes ht hi hz0 hz1 hz2 hz hs0 v xs.length inner hs hown ad 0 c [] (by simpa using hx) (by simp) (fun j u hj => by simp at hj) (fun u hu => by simp at hu) (by simp only [maxLen]; omega) (by simpa using hl) hbase ?_
      intro v1 w1 hown1 hg1 _ hat1
      have hat : v1.ownBlock = v.ownBlock ∨ ∃ b, v1.ownBlock = some b ∧ W.heap.size ≤ b := by
        rcases hat1 with h | h
        · exact .inl h
        · exact .inr ⟨_, h, Nat.le_refl _⟩
      exact h v1 w1 (own_appended (ys := []) (news := []) hr (by simpa using hown.1) (fun j x hj => by simp at hj) hown1 hg1 hat) ((Below.refl base W).grown hg1 hbase fun k hk => (hown.lt k hk).1) hg1 hat
  · have hAe := hA h0
    subst hAe
    obtain ⟨news, hn1, hn2, hn3⟩ := row_cells hrow hs0
    obtain ⟨inner, hown, hr⟩ := HO
    have hlen : xs.length + ys.length ≤ 140737488355328 := Nat.le_trans (Nat.le_mul_of_pos_right _ hb0) hl
    have hone' : ∀ u ∈ news, u.oneCell' = true := fun u hu => by
      obtain ⟨j, hj, rfl⟩ := List.getElem_of_mem hu
      have hq : j / d.sz < ys.length := Nat.div_lt_of_lt_mul (by rw [Nat.mul_comm, ← hn1]; exact hj)
      have hk := hn3 (j / d.sz) _ (List.getElem?_eq_getElem hq)
      refine hone _ _ _ hk _ (List.mem_iff_getElem?.2 ⟨j % d.sz, ?_⟩)
      rw [List.getElem?_take, if_pos (Nat.mod_lt _ hs0), List.getElem?_drop]
      have := Nat.div_add_mod j d.sz
      rw [Nat.mul_comm] at this
      rw [this, List.getElem?_eq_getElem hj]
    refine wpList_append_own_at W hgd s x t ho base e i0 z d.sz bytes ht hi hz0 hz1 hz2 hz hs0 v xs.length inner hs hown ⟨b, off, none⟩ ys.length c news hx hn1 (fun j u hj => by rw [show (⟨b, off, none⟩ : Addr).add j = ⟨b, off + j, none⟩ by unfold Addr.add; split <;> simp_all]; exact hn2 j u hj) hone' (by simp only [maxLen]; omega) hl hbase ?_
    intro v1 w1 hown1 hg1 _ hat1
    have hat : v1.ownBlock = v.ownBlock ∨ ∃ b, v1.ownBlock = some b ∧ W.heap.size ≤ b := by
      rcases hat1 with h | h
      · exact .inl h
      · exact .inr ⟨_, h, Nat.le_refl _⟩
    exact h v1 w1 (own_appended (ys := ys) (news := news) hr (by simpa using hown.1) (fun j x hj => hp.rob (hn3 j x hj) _) hown1 hg1 hat) ((Below.refl base W).grown hg1 hbase fun k hk => (hown.lt k hk).1) hg1 hat
end
theorem kInt_pure : kInt.Pure := fun _ _ _ _ h => h
theorem kInt_one : kInt.One := fun _ _ _ h u hu => by
  rw [h.1] at hu
  simp at hu
  rw [hu]
  rfl
theorem info_int : (Try.prog.info? 3).map (fun i => (i.zero, i.size, i.bytes)) = some (some (.int .i64 0), 1, 8) := by kernel_rfl
end Go.Proofs.Ythjhkbnajclcjaa
