import Derived.Test.YtciaocdpojnmcaaGreatDoorKI56
import Derived.Test.YtciaocdpojnmcaaGreatDoorKI45
namespace Go.Proofs.YtciaocdpojnmcaaGreatDoor.P
open Go.RowKit Go.Proofs.YtciaocdpojnmcaaGreatDoorW.PrintWords Go.Proofs.YtciaocdpojnmcaaGreatDoorW.PrintLast
set_option linter.unusedVariables false
set_option linter.unusedSimpArgs false
set_option maxRecDepth 20000
theorem bytesOf_data (a : ByteArray) : bytesOf a = a.data.toList.map (fun b => (b.toNat : Int)) := rfl
theorem bytesOf_inj {a b : ByteArray} (h : bytesOf a = bytesOf b) : a = b := by
  rw [← mkB_of a, ← mkB_of b, uint8_inj h]
theorem str_bytes (a : ByteArray) : strOfNums (bytesOf a) = a := by
  have e : (bytesOf a).map (fun n => UInt8.ofNat n.toNat) = a.data.toList := by
    rw [bytesOf_data, List.map_map]
    conv => rhs; rw [← List.map_id a.data.toList]
    exact List.map_congr_left (fun b _ => by show UInt8.ofNat ((b.toNat : Int)).toNat = b; rw [Int.toNat_natCast, UInt8.ofNat_toNat])
  show mkB ((bytesOf a).map (fun n => UInt8.ofNat n.toNat)) = a
  rw [e, mkB_of]
theorem bytesOf_take (a : ByteArray) (p n : Nat) (h : p + n ≤ a.size) : ((bytesOf a).drop p).take n = (List.range n).map (fun i => bt a ((p + i : Nat) : Int)) := by
  have h1 := bytesOf_ext a p (p + n) (by omega) h
  rw [show p + n - p = n by omega] at h1
  rw [← h1, bytesOf_data, bytesOf_data, ext_mkB, mkB_data, show p + n - p = n by omega, List.map_take, List.map_drop]
theorem E_four (a : ByteArray) (p : Nat) (b : Int) (b0 : 0 ≤ b) (b1 : b < 256) (hf : p + (E b).length ≤ a.size) : E b = [bt a p, bt a ((p + 1 : Nat) : Int), bt a ((p + 2 : Nat) : Int), bt a ((p + 3 : Nat) : Int)].take (E b).length ↔ E b = ((bytesOf a).drop p).take (E b).length := by
  rw [bytesOf_take a p _ hf]
  obtain ⟨hi, hl⟩ := E_in b b0 b1
  rcases hl with h | h | h <;> rw [h] <;> exact Iff.rfl
theorem st_to {a : ByteArray} {p : Nat} {b : Int} {n : Nat} (hp : p < a.size) (h34 : bt a p ≠ 34) (h : st a p = some (b, n)) : 0 ≤ b ∧ b < 256 ∧ 1 ≤ n ∧ p + n ≤ a.size ∧ (bytesOf a).drop p = E b ++ (bytesOf a).drop (p + n) := by
  obtain ⟨f1, f2, f3, f4⟩ := st_fits hp h34 h
  obtain ⟨h1, h2, h3, h4, h5⟩ := step_to (by omega) (bt_range a p) h34 h
  subst h3
  refine ⟨h1, h2, f1, f2, ?_⟩
  rw [(E_four a p b h1 h2 f2).1 h5]
  conv => lhs; rw [← List.take_append_drop (E b).length ((bytesOf a).drop p)]
  rw [List.drop_drop, ← (E_four a p b h1 h2 f2).1 h5]
theorem E_head_all : (List.range 256).all (fun n => match E n with | [] => false | c :: _ => decide (c ≠ 34)) = true := by decide +kernel
theorem E_head (b : Int) (b0 : 0 ≤ b) (b1 : b < 256) : ∃ c r, E b = c :: r ∧ c ≠ 34 := by
  have := all256 E_head_all b b0 b1
  rw [show ((b.toNat : Nat) : Int) = b by omega] at this
  cases h : E b with
  | nil => rw [h] at this; exact absurd this (by decide)
  | cons c r => rw [h] at this; exact ⟨c, r, rfl, of_decide_eq_true this⟩
theorem bt_head (a : ByteArray) (p : Nat) (c : Int) (r : List Int) (h : (bytesOf a).drop p = c :: r) : p < a.size ∧ bt a p = c := by
  have hp : p < a.size := by
    rcases Nat.lt_or_ge p a.size with h1 | h1
    · exact h1
    · rw [List.drop_eq_nil_of_le (by rw [bytesOf_len]; omega)] at h; cases h
  have h2 := bytesOf_get a p hp
  have h3 : ((bytesOf a).drop p)[0]? = some c := by rw [h]; rfl
  rw [List.getElem?_drop, Nat.add_zero, h2] at h3
  exact ⟨hp, Option.some.inj h3⟩
theorem st_of {a : ByteArray} {p : Nat} {b : Int} {r : List Int} (b0 : 0 ≤ b) (b1 : b < 256) (h : (bytesOf a).drop p = E b ++ r) : st a p = some (b, (E b).length) ∧ p < a.size ∧ bt a p ≠ 34 ∧ (bytesOf a).drop (p + (E b).length) = r := by
  obtain ⟨c, s, hc, hn⟩ := E_head b b0 b1
  have h' := h
  rw [hc, List.cons_append] at h'
  obtain ⟨hp, hb⟩ := bt_head a p c _ h'
  have hlen : p + (E b).length ≤ a.size := by
    have := congrArg List.length h
    rw [List.length_drop, bytesOf_len, List.length_append] at this
    omega
  have ht : E b = ((bytesOf a).drop p).take (E b).length := by rw [h, List.take_left']; rfl
  refine ⟨step_of b0 b1 (by rw [hb]; exact hn) (by omega) ((E_four a p b b0 b1 hlen).2 ht), hp, by rw [hb]; exact hn, ?_⟩
  rw [← List.drop_drop, h, List.drop_left']; rfl
theorem uq_sound (a : ByteArray) : ∀ (g p : Nat) (acc : List Int), p ≤ a.size → (uq a g p acc).2 ≠ 0 → ∃ (bs : List Int) (n : Nat), (∀ b ∈ bs, 0 ≤ b ∧ b < 256) ∧ uq a g p acc = (strOfNums (acc ++ bs), (n : Int)) ∧ p < n ∧ n ≤ a.size ∧ (bytesOf a).drop p = bs.flatMap E ++ 34 :: (bytesOf a).drop n := by
  intro g
  induction g with
  | zero => intro p acc _ h; exact absurd rfl h
  | succ g ih =>
    intro p acc hp h
    rw [uq] at h ⊢
    split
    · rename_i hlt
      rw [if_pos hlt] at h
      split
      · rename_i h34
        refine ⟨[], p + 1, by simp, by rw [List.append_nil]; rfl, by omega, by omega, ?_⟩
        have hl : p < (bytesOf a).length := by rw [bytesOf_len]; omega
        rw [List.drop_eq_getElem_cons hl]
        have h2 := bytesOf_get a p hlt
        rw [List.getElem?_eq_getElem hl] at h2
        rw [Option.some.inj h2, h34]; rfl
      · rename_i h34
        rw [if_neg h34] at h
        cases hs : st a p with
        | none => rw [hs] at h; exact absurd rfl h
        | some t =>
          obtain ⟨b, n⟩ := t
          rw [hs] at h
          obtain ⟨e1, e2, e3, e4, e5⟩ := st_to hlt h34 hs
          obtain ⟨bs, m, i1, i2, i3, i4, i5⟩ := ih (p + n) (acc ++ [b]) e4 h
          refine ⟨b :: bs, m, fun x hx => ?_, ?_, by omega, i4, ?_⟩
          · rcases List.mem_cons.1 hx with e | e
            · rw [e]; exact ⟨e1, e2⟩
            · exact i1 x e
          · show uq a g (p + n) (acc ++ [b]) = _
            rw [i2, List.append_assoc]; rfl
          · rw [e5, i5, List.flatMap_cons, List.append_assoc]
    · rename_i hlt
      rw [if_neg hlt] at h; exact absurd rfl h
theorem uq_complete (a : ByteArray) : ∀ (bs : List Int) (g p : Nat) (acc r : List Int), (∀ b ∈ bs, 0 ≤ b ∧ b < 256) → bs.length < g → (bytesOf a).drop p = bs.flatMap E ++ 34 :: r → uq a g p acc = (strOfNums (acc ++ bs), ((p + (bs.flatMap E).length + 1 : Nat) : Int)) := by
  intro bs
  induction bs with
  | nil =>
    intro g p acc r _ hg h
    obtain ⟨g, rfl⟩ : ∃ g', g = g' + 1 := ⟨g - 1, by simp at hg; omega⟩
    obtain ⟨hp, hb⟩ := bt_head a p 34 r h
    rw [uq, if_pos hp, if_pos hb, List.append_nil]; rfl
  | cons b bs ih =>
    intro g p acc r hr hg h
    obtain ⟨g, rfl⟩ : ∃ g', g = g' + 1 := ⟨g - 1, by simp at hg; omega⟩
    have h0 := hr b (by simp)
    rw [List.flatMap_cons, List.append_assoc] at h
    obtain ⟨s1, s2, s3, s4⟩ := st_of h0.1 h0.2 h
    rw [uq, if_pos s2, if_neg s3, s1]
    show uq a g (p + (E b).length) (acc ++ [b]) = _
    rw [ih g (p + (E b).length) (acc ++ [b]) r (fun x hx => hr x (by simp [hx])) (by simpa using hg) s4, List.append_assoc, List.flatMap_cons, List.length_append, show p + (E b).length + (bs.flatMap E).length + 1 = p + ((E b).length + (bs.flatMap E).length) + 1 by omega]
    rfl
theorem qq_flat (a : ByteArray) : ∀ (g p : Nat), p + g = a.size → qq a g p = ((bytesOf a).drop p).flatMap E := by
  intro g
  induction g with
  | zero => intro p h; rw [List.drop_eq_nil_of_le (by rw [bytesOf_len]; omega)]; rfl
  | succ g ih =>
    intro p h
    have hl : p < (bytesOf a).length := by rw [bytesOf_len]; omega
    have h2 := bytesOf_get a p (by omega)
    rw [List.getElem?_eq_getElem hl] at h2
    rw [qq, ih (p + 1) (by omega), List.drop_eq_getElem_cons hl, List.flatMap_cons, Option.some.inj h2]
theorem inB_app (x y : List Int) : inB (x ++ y) = (inB x && inB y) := by unfold inB; rw [List.all_append]
theorem inB_flat : ∀ (bs : List Int), (∀ b ∈ bs, 0 ≤ b ∧ b < 256) → inB (bs.flatMap E) = true := by
  intro bs
  induction bs with
  | nil => intro _; rfl
  | cons b bs ih =>
    intro h
    have h0 := h b (by simp)
    rw [List.flatMap_cons, inB_app, (E_in b h0.1 h0.2).1, ih (fun x hx => h x (by simp [hx]))]; rfl
theorem bytes_in (a : ByteArray) : ∀ b ∈ bytesOf a, 0 ≤ b ∧ b < 256 := by
  intro b hb
  rw [bytesOf_data] at hb
  obtain ⟨c, _, rfl⟩ := List.mem_map.1 hb
  have := UInt8.toNat_lt c
  exact ⟨by omega, by omega⟩
theorem quoteS_bytes (a : ByteArray) : bytesOf (quoteS a) = 34 :: (bytesOf a).flatMap E ++ [34] := by
  unfold quoteS
  rw [qq_flat a a.size 0 (by omega), List.drop_zero]
  rw [bytesOf_str]
  · rfl
  · rw [inB_app, inB_app, inB_flat _ (bytes_in a)]; rfl
theorem quoteS_len (a : ByteArray) : (quoteS a).size = ((bytesOf a).flatMap E).length + 2 := by
  rw [← bytesOf_len, quoteS_bytes]; simp
theorem unq_sound (a : ByteArray) (h : (unq a).2 ≠ 0) : (unq a).2 = ((quoteS (unq a).1).size : Int) ∧ (quoteS (unq a).1).size ≤ a.size ∧ bytesOf a = bytesOf (quoteS (unq a).1) ++ (bytesOf a).drop (quoteS (unq a).1).size := by
  unfold unq at h ⊢
  split
  · rename_i h1; rw [if_pos h1] at h; exact absurd rfl h
  · rename_i h1
    rw [if_neg h1] at h
    have hs : a.size ≠ 0 := fun e => h1 (.inl e)
    have hb : bt a 0 = 34 := Classical.byContradiction fun e => h1 (.inr e)
    obtain ⟨bs, n, i1, i2, i3, i4, i5⟩ := uq_sound a (a.size + 1) 1 [] (by omega) h
    rw [i2, List.nil_append]
    show ((n : Nat) : Int) = ((quoteS (strOfNums bs)).size : Int) ∧ (quoteS (strOfNums bs)).size ≤ a.size ∧ bytesOf a = bytesOf (quoteS (strOfNums bs)) ++ (bytesOf a).drop (quoteS (strOfNums bs)).size
    have hib : inB bs = true := by
      unfold inB
      rw [List.all_eq_true]
      intro x hx
      have := i1 x hx
      simp; omega
    have hbs : bytesOf (strOfNums bs) = bs := bytesOf_str bs hib
    have hlen := congrArg List.length i5
    rw [List.length_drop, bytesOf_len, List.length_append, List.length_cons, List.length_drop, bytesOf_len] at hlen
    have hq : (quoteS (strOfNums bs)).size = n := by rw [quoteS_len, hbs]; omega
    rw [hq]
    refine ⟨rfl, i4, ?_⟩
    rw [quoteS_bytes, hbs]
    have hl : 0 < (bytesOf a).length := by rw [bytesOf_len]; omega
    have h2 := bytesOf_get a 0 (by omega)
    rw [List.getElem?_eq_getElem hl] at h2
    have h3 := List.drop_eq_getElem_cons hl
    rw [List.drop_zero, Option.some.inj h2, show ((0 : Nat) : Int) = 0 from rfl, hb, i5] at h3
    rw [List.cons_append, List.cons_append, List.append_assoc]
    exact h3
theorem unq_complete (a x : ByteArray) (r : List Int) (h : bytesOf a = bytesOf (quoteS x) ++ r) : unq a = (x, ((quoteS x).size : Int)) := by
  rw [quoteS_bytes, List.cons_append, List.cons_append, List.append_assoc] at h
  have h0 : (bytesOf a).drop 0 = 34 :: ((bytesOf x).flatMap E ++ ([34] ++ r)) := by rw [List.drop_zero]; exact h
  obtain ⟨hp, hb⟩ := bt_head a 0 _ _ h0
  have h1 : (bytesOf a).drop 1 = (bytesOf x).flatMap E ++ 34 :: r := by rw [h]; rfl
  have hlen := congrArg List.length h1
  rw [List.length_drop, bytesOf_len, List.length_append] at hlen
  have hfl : ∀ bs : List Int, (∀ b ∈ bs, 0 ≤ b ∧ b < 256) → bs.length ≤ (bs.flatMap E).length := by
    intro bs
    induction bs with
    | nil => intro _; exact Nat.le_refl _
    | cons b bs ih =>
      intro hh
      have hb0 := hh b (by simp)
      have := ih (fun y hy => hh y (by simp [hy]))
      have := (E_in b hb0.1 hb0.2).2
      rw [List.flatMap_cons, List.length_append, List.length_cons]; omega
  have := hfl (bytesOf x) (bytes_in x)
  unfold unq
  rw [if_neg (by
    rintro (e | e)
    · omega
    · exact e hb), uq_complete a (bytesOf x) (a.size + 1) 1 [] r (bytes_in x) (by omega) h1, List.nil_append, str_bytes, quoteS_len]
  congr 2
  omega
theorem inv_UQ (s : ByteArray) : unquoteS (quoteS s) = (s, 0) := by
  have h := unq_complete (quoteS s) s [] (by rw [List.append_nil])
  unfold unquoteS
  rw [h]
  have := quoteS_len s
  rw [if_pos ⟨rfl, by omega⟩]
theorem inv_QU (s : ByteArray) (h : (unquoteS s).2 = 0) : quoteS (unquoteS s).1 = s := by
  unfold unquoteS at h ⊢
  split
  · rename_i h1
    have h2 : (unq s).2 ≠ 0 := by rw [h1.1]; have := h1.2; omega
    obtain ⟨e1, e2, e3⟩ := unq_sound s h2
    rw [h1.1] at e1
    have e4 : (quoteS (unq s).1).size = s.size := by omega
    rw [e4, List.drop_eq_nil_of_le (by rw [bytesOf_len]; omega), List.append_nil] at e3
    exact bytesOf_inj e3.symm
  · rename_i h1
    rw [if_neg h1] at h
    exact absurd h (by decide)
end Go.Proofs.YtciaocdpojnmcaaGreatDoor.P
