import Derived.Test.YtkalbdeopogbpaaGreatDoorKX20
namespace Go.Proofs.YtkalbdeopogbpaaGreatDoor.P.Sc
open Go.RowKit Go.Shelf Go.Sort Go.Proofs.YtkalbdeopogbpaaGreatDoorW Go.Proofs.YtkalbdeopogbpaaGreatDoorW.PrintWords Go.Proofs.YtkalbdeopogbpaaGreatDoorW.PrintLast Go.Proofs.YtkalbdeopogbpaaGreatDoorW.PrintMore
set_option linter.unusedVariables false
set_option maxHeartbeats 1000000 in
set_option maxRecDepth 100000 in
theorem set_calls (l : List Int) (A : Option Addr) (c : Nat) (w : World) (hl : l.length ≤ 1000000) (hr : Kd.C (Kd.int .i64) w A l.length l) (hI : InS l) :
    Calls Tryz.prog 23 #[.slice A l.length c] w fun e w' => e = .returned (.tuple #[.string (setSpec (ofP l)).1, .int .i64 (setSpec (ofP l)).2]) ∧ Below w.heap.size w w' := by
  have HR := Aside0.mk hr
  have HI := Aside0.mk hI
  have HL := Aside0.mk hl
  clear hr hI
  by_cases h : (10000 : Int) < (l.length : Int)
  · have hs : Aside0 (setSpec (ofP l) = ((⟨#[]⟩ : ByteArray), 3)) := ⟨by unfold setSpec; rw [if_pos (by rw [ofP_size]; omega)]⟩
    go_enter Tryz.func23, Tryz.ntmps23
    go_wp2
    go_ret2
    rw [hs.out]
    exact ⟨rfl, Below.refl _ _⟩
  · have hs : Aside0 (setSpec (ofP l) = (ofP l, 0)) := ⟨by unfold setSpec; rw [if_neg (by rw [ofP_size]; omega)]⟩
    have hb : decide ((10000 : Int) < (l.length : Int)) = false := decide_eq_false h
    go_enter Tryz.func23, Tryz.ntmps23
    go_wp2_with (go_at_call 56; refine (write_calls l A c _ HL.out HR.out HI.out).mono ?_; rintro e w2 ⟨rfl, hb2⟩)
    go_ret2
    rw [hs.out]
    exact ⟨rfl, hb2⟩
theorem cell_spot {w : World} {a : Addr} {v : Value} (h : w.cell? a = some v) : a.spot = none := by
  cases hs : a.spot with
  | none => rfl
  | some s =>
    simp [World.cell?, hs] at h
    split at h <;> cases h
theorem clone_own (l : List Int) (A : Option Addr) (c : Nat) (w : World) (hl : l.length ≤ 1000000) (hr : Kd.C (Kd.int .i64) w A l.length l) :
    Calls Tryz.prog 21 #[.slice A l.length c] w fun e w' => ∃ v', e = .returned v' ∧ OwnI w' w.heap.size v' l ∧ Below w.heap.size w w' := by
  cases A with
  | none =>
    have hn : l = [] := by
      cases l with
      | nil => rfl
      | cons x xs => exact absurd (hr.2.2 (by simp)) (by rintro ⟨_, h, _⟩; cases h)
    subst hn
    refine (Tryz.slices_Clone_int_nil 0 c w).mono ?_
    rintro e w' ⟨rfl, rfl⟩
    exact ⟨_, rfl, World.ownsRow_nil _ _ _ _, Below.refl _ _⟩
  | some ad =>
    obtain ⟨b, off, sp⟩ := ad
    cases l with
    | nil =>
      refine (Tryz.slices_Clone_int_zero ⟨b, off, sp⟩ c w).mono ?_
      rintro e w' ⟨v', rfl, ho, _, hb⟩
      exact ⟨v', rfl, ho, hb⟩
    | cons x xs =>
      obtain ⟨ad', he, hc⟩ := hr.2.2 (by simp)
      injection he with he
      subst he
      have hat : ∀ j (hj : j < (x :: xs).length), w.cell? ((⟨b, off, sp⟩ : Addr).add j) = some (.int .i64 (x :: xs)[j]) := by
        intro j hj
        obtain ⟨cs, h1, h2, h3⟩ := hc j _ (List.getElem?_eq_getElem hj)
        have h2' : cs = [Value.int .i64 (x :: xs)[j]] := h2
        subst h2'
        have h4 := h3 0 _ rfl
        have e1 : j * (Kd.int .i64).sz + 0 = j := Nat.mul_one j
        rw [e1] at h4
        exact h4
      have hs : sp = none := by
        have := cell_spot (hat 0 (by simp))
        simpa [Addr.add] using this
      subst hs
      refine (Tryz.slices_Clone_int b off (x :: xs).length c (x :: xs) w (Nat.le_refl _) (by omega) (fun j hj => by
        have := hat j hj
        rw [Addr.add_lit] at this
        rw [this, List.getD_eq_getElem?_getD, List.getElem?_eq_getElem hj]; rfl)).mono ?_
      rintro e w' ⟨v', rfl, ho, _, hb⟩
      rw [List.take_length] at ho
      exact ⟨v', rfl, ho, hb⟩
theorem own_at {w : World} {base g cap : Nat} {xs : List Int} (h : OwnI w base (.slice (some ⟨g, 0, none⟩) xs.length cap) xs) (j : Nat) (hj : j < xs.length) : w.cell? ⟨g, j, none⟩ = some (.int .i64 xs[j]) := by
  have := World.ownsRow.cells h (g := g) rfl j (.int .i64 xs[j]) (by simp [hj])
  rw [Addr.add_lit, Nat.zero_add] at this
  exact this
theorem own_some {w : World} {base : Nat} {v : Value} {xs : List Int} (h : OwnI w base v xs) (hn : xs ≠ []) : ∃ g c, v = .slice (some ⟨g, 0, none⟩) xs.length c := by
  rcases h.2 with ⟨_, h0⟩ | ⟨g, cap, cur, rfl, _⟩
  · exact absurd (List.length_eq_zero_iff.1 h0) hn
  · exact ⟨_, _, rfl⟩
theorem own_first {w : World} {base g cap : Nat} {l : List Int} {x : Int} (h : OwnI w base (.slice (some ⟨g, 0, none⟩) l.length cap) (srt l)) (hn : l ≠ []) (hx : (srt l).getD 0 0 = x) : w.cell? ⟨g, 0, none⟩ = some (.int .i64 x) := by
  have h3 : 0 < (srt l).length := by rw [srt_length]; exact List.length_pos_iff.2 hn
  have h4 := own_at (by rw [srt_length]; exact h) 0 h3
  rw [h4, ← hx, List.getD_eq_getElem?_getD, List.getElem?_eq_getElem h3]
  rfl
theorem own_last {w : World} {base g cap : Nat} {l : List Int} {x : Int} (h : OwnI w base (.slice (some ⟨g, 0, none⟩) l.length cap) (srt l)) (hn : l ≠ []) (hx : (srt l).getD ((srt l).length - 1) 0 = x) : w.cell? ⟨g, l.length - 1, none⟩ = some (.int .i64 x) := by
  have h3 : 0 < (srt l).length := by rw [srt_length]; exact List.length_pos_iff.2 hn
  have h4 := own_at (by rw [srt_length]; exact h) ((srt l).length - 1) (by omega)
  have e1 : l.length - 1 = (srt l).length - 1 := by rw [srt_length]
  rw [e1, h4, ← hx, List.getD_eq_getElem?_getD, List.getElem?_eq_getElem (by omega)]
  rfl
set_option maxHeartbeats 1000000 in
set_option maxRecDepth 100000 in
theorem of_calls (l : List Int) (A : Option Addr) (c : Nat) (w : World) (hl : l.length ≤ 1000000) (hr : Kd.C (Kd.int .i64) w A l.length l) :
    Calls Tryz.prog 9 #[.slice A l.length c] w fun e w' => e = .returned (.tuple #[.string (ofS l).1, .int .i64 (ofS l).2]) ∧ Below w.heap.size w w' := by
  have HR := Aside0.mk hr
  have HL := Aside0.mk hl
  have HS := Aside0.mk (srt_length l)
  clear hr
  -- the range is kept, or is not
  by_cases hok : (l.all fun x => decide (0 ≤ x ∧ x ≤ 65535)) = true
  · have hS : Aside0 (ofS l = setSpec (ofP (once l))) := ⟨by unfold ofS; rw [if_pos hok]⟩
    have hI : Aside0 (InS (once l)) := ⟨fun x hx => by
      have := (mem_once l x).1 hx
      have h2 := List.all_eq_true.1 hok x this
      simp at h2; omega⟩
    have HC : Aside0 ((once l).length ≤ l.length) := ⟨by unfold once; have := compact_le (srt l); rw [srt_length] at this; exact this⟩
    have HE : Aside0 (l ≠ [] → 0 ≤ (srt l).getD 0 0 ∧ (srt l).getD ((srt l).length - 1) 0 ≤ 65535) := ⟨fun hne => by
      have h2 := (ends_tell l hne).1 (by simpa using hok)
      have h3 : 0 < (srt l).length := by rw [srt_length]; exact List.length_pos_iff.2 hne
      simp only [List.getD_eq_getElem?_getD]
      rw [List.getElem?_eq_getElem h3, List.getElem?_eq_getElem (by omega)]
      exact h2⟩
    clear hok
    by_cases hn : l = []
    · subst hn
      go_enter Tryz.func9, Tryz.ntmps9
      go_wp2_with (first
        | (go_at_call 21; refine (clone_own [] A c _ HL.out HR.out).mono ?_; rintro e w2 ⟨v2, rfl, ho, hb⟩; obtain ⟨A2, c2, rfl, _⟩ := OwnI.len ho; have HO := Aside0.mk ho; have HB := Aside0.mk hb; clear ho hb)
        | (go_at_call 22; refine (sort_own HO.out (by simp)).mono ?_; rintro e w3 ⟨rfl, ho, hg⟩; have HO3 := Aside0.mk ho; have HB3 := Aside0.mk (HB.out.grown hg HB.out.size (OwnI.base HO.out)); clear ho hg)
        | (go_at_call 24; refine (compact_own HO3.out (by simp [srt])).mono ?_; rintro e w4 ⟨v4, rfl, ho, hg⟩; obtain ⟨A4, c4, rfl, hc4, hr4⟩ := OwnI.reads ho; have HR4 := Aside0.mk hr4; have HB4 := Aside0.mk (HB3.out.grown hg HB3.out.size (OwnI.base HO3.out)); clear ho hg hr4 hc4)
        | (go_at_call 23; refine (set_calls (once []) A4 c4 _ (by simp [once, srt, Lib.compact, Lib.compactUpTo]) HR4.out hI.out).mono ?_; rintro e w5 ⟨rfl, hb⟩; have HB5 := Aside0.mk (below_step HB4.out hb); clear hb))
      go_ret2
      rw [hS.out]
      exact ⟨rfl, HB5.out⟩
    · have hpos : 0 < l.length := List.length_pos_iff.2 hn
      have hE := HE.out hn
      obtain ⟨x0, hx0⟩ : ∃ x, (srt l).getD 0 0 = x := ⟨_, rfl⟩
      obtain ⟨x1, hx1⟩ : ∃ x, (srt l).getD ((srt l).length - 1) 0 = x := ⟨_, rfl⟩
      rw [hx0, hx1] at hE
      obtain ⟨hE0, hE1⟩ := hE
      have b0 : decide (x0 < 0) = false := decide_eq_false (by omega)
      have b1 : decide (65535 < x1) = false := decide_eq_false (by omega)
      have bl : decide ((0 : Int) < (l.length : Int)) = true := decide_eq_true (by omega)
      have h0l : (0 : Int) < (l.length : Int) := by omega
      have HX0 := Aside0.mk hx0
      have HX1 := Aside0.mk hx1
      clear hx0 hx1 HE hE0 hE1
      go_enter Tryz.func9, Tryz.ntmps9
      go_wp2_with (first
        | (go_at_call 21; refine (clone_own l A c _ HL.out HR.out).mono ?_; rintro e w2 ⟨v2, rfl, ho, hb⟩; obtain ⟨g, c2, rfl⟩ := own_some ho hn; have HO := Aside0.mk ho; have HB := Aside0.mk hb; clear ho hb)
        | (go_at_call 22; refine (sort_own HO.out (by have := HL.out; omega)).mono ?_; rintro e w3 ⟨rfl, ho, hg⟩; have hy0 : w3.cell? ⟨g, 0, none⟩ = some (.int .i64 x0) := own_first ho hn HX0.out; have hy1 : w3.cell? ⟨g, l.length - 1, none⟩ = some (.int .i64 x1) := own_last ho hn HX1.out; have HO3 := Aside0.mk ho; have HB3 := Aside0.mk (HB.out.grown hg HB.out.size (OwnI.base HO.out)); clear ho hg)
        | (go_at_call 24; refine (compact_own HO3.out (by have := HL.out; have := HS.out; omega)).mono ?_; rintro e w4 ⟨v4, rfl, ho, hg⟩; obtain ⟨A4, c4, rfl, hc4, hr4⟩ := OwnI.reads ho; have HR4 := Aside0.mk hr4; have HB4 := Aside0.mk (HB3.out.grown hg HB3.out.size (OwnI.base HO3.out)); clear ho hg hr4 hc4)
        | (go_at_call 23; refine (set_calls (once l) A4 c4 _ (by have := HC.out; have := HL.out; omega) HR4.out hI.out).mono ?_; rintro e w5 ⟨rfl, hb⟩; have HB5 := Aside0.mk (below_step HB4.out hb); clear hb))
      go_ret2
      rw [hS.out]
      exact ⟨rfl, HB5.out⟩
  · have hS : Aside0 (ofS l = ((⟨#[]⟩ : ByteArray), 7)) := ⟨by unfold ofS; rw [if_neg hok]⟩
    have hn : l ≠ [] := by rintro rfl; exact hok rfl
    have hpos : 0 < l.length := List.length_pos_iff.2 hn
    obtain ⟨x0, hx0⟩ : ∃ x, (srt l).getD 0 0 = x := ⟨_, rfl⟩
    obtain ⟨x1, hx1⟩ : ∃ x, (srt l).getD ((srt l).length - 1) 0 = x := ⟨_, rfl⟩
    have hE : x0 < 0 ∨ 65535 < x1 := by
      have h3 : 0 < (srt l).length := by rw [srt_length]; exact hpos
      have h4 : ¬ (0 ≤ x0 ∧ x1 ≤ 65535) := by
        intro h5
        refine hok ?_
        have h2 := (ends_tell l hn).2 (by
          rw [← hx0, ← hx1] at h5
          simp only [List.getD_eq_getElem?_getD] at h5
          rw [List.getElem?_eq_getElem h3, List.getElem?_eq_getElem (by omega)] at h5
          exact h5)
        simpa using h2
      omega
    have bl : decide ((0 : Int) < (l.length : Int)) = true := decide_eq_true (by omega)
    have h0l : (0 : Int) < (l.length : Int) := by omega
    have HX0 := Aside0.mk hx0
    have HX1 := Aside0.mk hx1
    clear hx0 hx1 hok
    by_cases h0 : x0 < 0
    · have b0 : decide (x0 < 0) = true := decide_eq_true h0
      clear h0 hE
      go_enter Tryz.func9, Tryz.ntmps9
      go_wp2_with (first
        | (go_at_call 21; refine (clone_own l A c _ HL.out HR.out).mono ?_; rintro e w2 ⟨v2, rfl, ho, hb⟩; obtain ⟨g, c2, rfl⟩ := own_some ho hn; have HO := Aside0.mk ho; have HB := Aside0.mk hb; clear ho hb)
        | (go_at_call 22; refine (sort_own HO.out (by have := HL.out; omega)).mono ?_; rintro e w3 ⟨rfl, ho, hg⟩; have hy0 : w3.cell? ⟨g, 0, none⟩ = some (.int .i64 x0) := own_first ho hn HX0.out; have hy1 : w3.cell? ⟨g, l.length - 1, none⟩ = some (.int .i64 x1) := own_last ho hn HX1.out; have HO3 := Aside0.mk ho; have HB3 := Aside0.mk (HB.out.grown hg HB.out.size (OwnI.base HO.out)); clear ho hg))
      go_ret2
      rw [hS.out]
      exact ⟨rfl, HB3.out⟩
    · have b0 : decide (x0 < 0) = false := decide_eq_false h0
      have b1 : decide (65535 < x1) = true := decide_eq_true (by omega)
      clear h0 hE
      go_enter Tryz.func9, Tryz.ntmps9
      go_wp2_with (first
        | (go_at_call 21; refine (clone_own l A c _ HL.out HR.out).mono ?_; rintro e w2 ⟨v2, rfl, ho, hb⟩; obtain ⟨g, c2, rfl⟩ := own_some ho hn; have HO := Aside0.mk ho; have HB := Aside0.mk hb; clear ho hb)
        | (go_at_call 22; refine (sort_own HO.out (by have := HL.out; omega)).mono ?_; rintro e w3 ⟨rfl, ho, hg⟩; have hy0 : w3.cell? ⟨g, 0, none⟩ = some (.int .i64 x0) := own_first ho hn HX0.out; have hy1 : w3.cell? ⟨g, l.length - 1, none⟩ = some (.int .i64 x1) := own_last ho hn HX1.out; have HO3 := Aside0.mk ho; have HB3 := Aside0.mk (HB.out.grown hg HB.out.size (OwnI.base HO.out)); clear ho hg))
      go_ret2
      rw [hS.out]
      exact ⟨rfl, HB3.out⟩
end Go.Proofs.YtkalbdeopogbpaaGreatDoor.P.Sc
