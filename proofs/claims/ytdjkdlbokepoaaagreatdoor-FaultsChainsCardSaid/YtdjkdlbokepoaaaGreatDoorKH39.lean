import Derived.Test.YtdjkdlbokepoaaaGreatDoorKH36
namespace Go.Proofs.YtdjkdlbokepoaaaGreatDoor.P
open Go.RowKit Go.Proofs.YtdjkdlbokepoaaaGreatDoorW.PrintWords Go.Proofs.YtdjkdlbokepoaaaGreatDoorW.PrintLast Go.Proofs.YtdjkdlbokepoaaaGreatDoorW.PrintMore
attribute [local go_sem] max2_int min2_int max_two min_two max_three min_three max_four min_four   -- for this text's walks alone
set_option linter.unusedVariables false
set_option linter.unusedSimpArgs false
/-- The part of a list ahead of its first 10. -/
def lineL : List Int → List Int
  | [] => []
  | x :: r => if x = 10 then [] else x :: lineL r
/-- How many runes of a line begin in a span. -/
def marksG (s : ByteArray) (fr F T : Int) : Nat → Nat → Int → Int
  | 0, _, c => c
  | k + 1, p, c => if p < s.size then marksG s fr F T k (p + (Utf8.decode s p).2) (if F ≤ (p : Int) + fr ∧ (p : Int) + fr < T then c + 1 else c) else c
def sp3 : ByteArray := ⟨#[10, 32, 32]⟩
def paintF (k : Nat) (l0 : List Int) (x : S41) : Option ByteArray :=
  (faults_Message.f k l0 x.f0 x.f1 x.f2.f0 x.f2.f1 x.f3 x.f4).bind fun m => (faults_Place.f k l0 x.f2.f0).bind fun p =>
    if 0 ≤ x.f2.f0 ∧ x.f2.f0 ≤ (l0.length : Int) ∧ l0.length ≤ 8000 ∧ 1 ≤ p.2.1 ∧ p.2.1 ≤ 100000 ∧ m.1.size ≤ 100000 ∧ Sc.InB l0 = true then
      (bytes_LastIndexByte.f k (l0.take x.f2.f0.toNat) 10).bind fun q =>
        if -1 ≤ q ∧ q < (l0.length : Int) then
          some (((((((m.1 ++ sp3) ++ strOfNums (lineL (l0.drop (q + 1).toNat))) ++ sp3) ++ ⟨(Lib.repeatL [32] (p.2.1 - 1).toNat).toArray⟩) ++
            ⟨(Lib.repeatL [94] (max (marksG (strOfNums (lineL (l0.drop (q + 1).toNat))) (q + 1) x.f2.f0 x.f2.f1 (lineL (l0.drop (q + 1).toNat)).length 0 0) 1).toNat).toArray⟩) ++ ⟨#[10]⟩))
        else none
    else none
theorem lineL_len : ∀ l : List Int, (lineL l).length ≤ l.length
  | [] => Nat.le_refl _
  | x :: r => by
    unfold lineL
    split
    · simp
    · simp only [List.length_cons]; exact Nat.succ_le_succ (lineL_len r)
theorem lineL_take : ∀ l : List Int, lineL l = l.take (lineL l).length
  | [] => rfl
  | x :: r => by
    unfold lineL
    split
    · simp
    · simp only [List.length_cons, List.take_succ_cons]; exact congrArg _ (lineL_take r)
theorem u8_ten {x : Int} (h : 0 ≤ x ∧ x < 256) : (UInt8.ofNat x.toNat == 10) = decide (x = 10) := by
  obtain ⟨n, rfl⟩ := Int.eq_ofNat_of_zero_le h.1
  have hn : n < 256 := by omega
  rw [Int.toNat_natCast]
  by_cases h10 : n = 10
  · subst h10; decide
  · have h1 : UInt8.ofNat n ≠ 10 := fun e => by
      have h2 := congrArg UInt8.toNat e
      rw [UInt8.toNat_ofNat_of_lt' (by simpa using hn)] at h2
      exact h10 (by simpa using h2)
    rw [beq_eq_false_iff_ne.2 h1, eq_comm, decide_eq_false_iff_not]
    omega
theorem InB_cons {x : Int} {r : List Int} (h : Sc.InB (x :: r) = true) : (0 ≤ x ∧ x < 256) ∧ Sc.InB r = true := by
  unfold Sc.InB at h ⊢
  rw [List.all_cons, Bool.and_eq_true] at h
  exact ⟨of_decide_eq_true h.1, h.2⟩
theorem index_line : ∀ l : List Int, Sc.InB l = true → Lib.indexByte (Lib.bytesOf l) 10 = (if (lineL l).length < l.length then ((lineL l).length : Int) else -1)
  | [], _ => by simp [Lib.bytesOf, Lib.indexByte, lineL]
  | x :: r, h => by
    obtain ⟨hx, hr⟩ := InB_cons h
    have ih := index_line r hr
    have hl := lineL_len r
    show (if UInt8.ofNat x.toNat == 10 then (0 : Int) else if Lib.indexByte (Lib.bytesOf r) 10 == -1 then -1 else Lib.indexByte (Lib.bytesOf r) 10 + 1) = _
    rw [u8_ten hx]
    unfold lineL
    by_cases h10 : x = 10
    · simp [h10]
    · rw [ih]
      simp only [h10, decide_false, if_false, List.length_cons]
      by_cases hlt : (lineL r).length < r.length
      · have h1 : (lineL r).length + 1 < r.length + 1 := by omega
        have h0 : (((lineL r).length : Int) == -1) = false := beq_eq_false_iff_ne.2 (by omega)
        simp only [if_pos hlt, if_pos h1, h0]
        simp
      · have h1 : ¬ (lineL r).length + 1 < r.length + 1 := by omega
        simp only [if_neg hlt, if_neg h1]
        rfl
set_option maxHeartbeats 2000000 in
set_option maxRecDepth 1000000 in
theorem ib_none (c : Nat) (cv : Int) (w : World) : Calls Tryz.prog 107 #[.slice none 0 c, .int .u8 cv] w fun e w' => e = .returned (.int .i64 (-1)) ∧ w' = w := by
  go_enter Tryz.func107, Tryz.ntmps107
  go_wp2
  rw [run_callFunc_extern Tryz.func127 (by kernel_rfl) (by kernel_rfl) (by kernel_rfl) (e := Extern.BytealgIndexByte.indexByte) (by kernel_rfl), Lib.run_indexByteNil w 0 c cv]
  simp only [Result.andThen]
  rw [Oper.upon_value]
  go_wp2
  go_ret
  exact ⟨rfl, rfl⟩
set_option maxHeartbeats 2000000 in
set_option maxRecDepth 1000000 in
theorem index_none (b2 o2 d c : Nat) (cv : Int) (w : World) (hc2 : w.cell? ⟨b2, o2, none⟩ = some (.int .u8 cv)) :
    Calls Tryz.prog 85 #[.slice none 0 c, .slice (some ⟨b2, o2, none⟩) 1 d] w fun e w' => e = .returned (.int .i64 (-1)) ∧ w' = w := by
  go_enter Tryz.func85, Tryz.ntmps85
  go_wp2_with (go_at_call 107; refine (ib_none c cv _).mono ?_; rintro e w' ⟨rfl, rfl⟩)
  go_ret
  exact ⟨rfl, rfl⟩
/-- bytes.Cut at one byte 10. -/
theorem cut_calls (A : Option Addr) (c : Nat) (xs : List Int) (g : Nat) (w : World) (hr : Kd.C (Kd.int .u8) w A xs.length xs) (hc : xs.length ≤ c) (hl : xs.length ≤ 8000) (hI : Sc.InB xs = true) (hs : w.cell? ⟨g, 0, none⟩ = some (.int .u8 10)) :
    Calls Tryz.prog 88 #[.slice A xs.length c, .slice (some ⟨g, 0, none⟩) 1 1] w fun e w' => ∃ v2 v3 c', e = .returned (.tuple #[.slice A (lineL xs).length c', v2, v3]) ∧ (lineL xs).length ≤ c' ∧ ∃ q, w' = w.drewN q := by
  have hi := index_line xs hI
  have hll := lineL_len xs
  refine (Tryz.bytes_Cut_of A (some ⟨g, 0, none⟩) xs.length c 1 1 (if (lineL xs).length < xs.length then ((lineL xs).length : Int) else -1) w hc (by split <;> omega) (by split <;> omega) (by omega) ?_).mono ?_
  · rcases Ft.C_cells hr with ⟨rfl, rfl⟩ | ⟨a, rfl, h0⟩
    · refine (index_none g 0 1 c 10 w hs).mono ?_
      rintro e w' ⟨rfl, rfl⟩
      exact ⟨rfl, 0, rfl⟩
    · refine (Tryz.bytes_Index_one_at a xs.length c g 0 1 xs 10 w rfl h0 hs).mono ?_
      rintro e w' ⟨rfl, rfl⟩
      exact ⟨by rw [← hi]; rfl, 0, rfl⟩
  · rintro e w' ⟨rfl, hq⟩
    unfold Lib.cutV
    by_cases hh : (lineL xs).length < xs.length
    · rw [if_pos hh, if_pos (by omega)]
      exact ⟨_, _, c, rfl, by omega, hq⟩
    · rw [if_neg hh, if_neg (by omega)]
      have e1 : (lineL xs).length = xs.length := by omega
      rw [e1]
      exact ⟨_, _, c, rfl, hc, hq⟩
theorem drawn0_of {W W' : World} (h : ∃ q, W' = W.drewN q) : Drawn0 W W' := ⟨h⟩
theorem drawn_below {w W W' : World} (h : Below w.heap.size w W) (hd : Drawn0 W W') : Below w.heap.size w W' := by
  obtain ⟨n, rfl⟩ := hd.out
  exact wN h n
theorem drawn_cell {W W' : World} {a : Addr} {v : Value} (hd : Drawn0 W W') (h : W.cell? a = some v) : W'.cell? a = some v := by
  obtain ⟨n, rfl⟩ := hd.out
  exact h
theorem cell_alloc' {W : World} {a : Addr} {v : Value} (o : Obj) (h : W.cell? a = some v) : (W.alloc o).cell? a = some v := by
  rw [World.cell?_alloc_lt _ _ a (World.block_lt_of_cell? W a h)]
  exact h
theorem marksG_end (s : ByteArray) (fr F T : Int) (k p : Nat) (c : Int) (h : ¬ p < s.size) : marksG s fr F T k p c = c := by
  cases k with
  | zero => rfl
  | succ k => unfold marksG; rw [if_neg h]
theorem marksG_step (s : ByteArray) (fr F T : Int) (k p : Nat) (c : Int) (h : p < s.size) : marksG s fr F T (k + 1) p c = marksG s fr F T k (p + (Utf8.decode s p).2) (if F ≤ (p : Int) + fr ∧ (p : Int) + fr < T then c + 1 else c) := by
  conv => lhs; unfold marksG
  rw [if_pos h]
theorem below_iter {w W : World} (h : Below w.heap.size w W) (s : ByteArray) (p : Nat) : Below w.heap.size w (W.iter s p) := wA h _
theorem iter_cell {W : World} {a : Addr} {v : Value} (s : ByteArray) (p : Nat) (h : W.cell? a = some v) : (W.iter s p).cell? a = some v := cell_alloc' _ h
theorem box_at (w : World) (cs : Array Value) (t : TypeId) (i : Nat) (v : Value) (h : cs[i]? = some v) : (w.alloc (.cells cs t)).cell? ⟨w.heap.size, i, none⟩ = some v := by
  rw [World.cell?_alloc_at _ _ _ _ rfl]
  exact h
theorem InB_drop' {l : List Int} (h : Sc.InB l = true) (i : Nat) : Sc.InB (l.drop i) = true := by
  unfold Sc.InB at h ⊢
  rw [List.all_eq_true] at h ⊢
  exact fun x hx => h x (List.mem_of_mem_drop hx)
set_option maxHeartbeats 8000000 in
set_option maxRecDepth 100000 in
theorem paint_calls (k : Nat) (A0 : Option Addr) (c0 : Nat) (l0 : List Int) (x : S41) (t : ByteArray) (acc : List UInt8) (wB w : World) (hr : Kd.C (Kd.int .u8) wB A0 l0.length l0) (hc0 : l0.length ≤ c0) (hT : Ft.All wB) (hBB : Below wB.heap.size wB w)
    (hBld : Ft.Bld wB.heap.size acc w) (hlen : acc.length ≤ 500000) (ht : t.size ≤ 500000) (h : paintF k l0 x = some t) :
    Calls Tryz.prog 56 #[.pointer (some ⟨wB.heap.size, 0, none⟩), .slice A0 l0.length c0, .agg (cells41 x).toArray] w fun e w' => e = .returned (.tuple #[]) ∧ Ft.Bld wB.heap.size (acc ++ t.data.toList) w' ∧ Below wB.heap.size wB w' := by
  unfold paintF at h
  replace h := Option.bind_eq_some_iff.mp h
  obtain ⟨⟨m1, m2⟩, hm, h⟩ := h
  replace h := Option.bind_eq_some_iff.mp h
  obtain ⟨⟨p1, p2, p3⟩, hp, h⟩ := h
  simp only at h
  by_cases hc : 0 ≤ x.f2.f0 ∧ x.f2.f0 ≤ (l0.length : Int) ∧ l0.length ≤ 8000 ∧ 1 ≤ p2 ∧ p2 ≤ 100000 ∧ m1.size ≤ 100000 ∧ Sc.InB l0 = true
  case neg => rw [if_neg hc] at h; cases h
  rw [if_pos hc] at h
  replace h := Option.bind_eq_some_iff.mp h
  obtain ⟨q, hq, h⟩ := h
  by_cases hc2 : -1 ≤ q ∧ q < (l0.length : Int)
  case neg => rw [if_neg hc2] at h; cases h
  rw [if_pos hc2] at h
  obtain ⟨g0, g1, g2, g3, g4, g5, g6⟩ := hc
  obtain ⟨x0, x1, ⟨F, T⟩, x4, x5⟩ := x
  simp only at hm hp g0 g1 hq h
  have HM := ak hm
  have HP := ak hp
  have HQ := ak hq
  have HR := ak hr
  have HTB := ak hT
  have HBB := ak hBB
  have HBl := ak hBld
  have HI := ak g6
  have hF : F = ((F.toNat : Nat) : Int) := by omega
  obtain ⟨f, hf⟩ : ∃ f : Nat, F.toNat = f := ⟨_, rfl⟩
  rw [hf] at hF hq HQ
  subst hF
  obtain ⟨fr, hfr⟩ : ∃ fr : Nat, (fr : Int) = q + 1 := ⟨(q + 1).toNat, by omega⟩
  have hq1 : q = (fr : Int) - 1 := by omega
  subst hq1
  have e3 : ((fr : Int) - 1 + 1).toNat = fr := by omega
  rw [e3] at h
  have e4 : ((fr : Int) - 1 + 1) = (fr : Int) := by omega
  rw [e4] at h
  have w1_ : IntKind.i64.wrap ((fr : Int) - 1 + 1) = (fr : Int) := by rw [IntKind.wrap_i64]; omega
  have g1' : f ≤ l0.length := by omega
  have hff : (f : Int) ≤ (l0.length : Int) := g1
  have hf0 : (0 : Int) ≤ (f : Int) := by omega
  have hr0 : (0 : Int) ≤ (fr : Int) := by omega
  have hrl : (fr : Int) ≤ (l0.length : Int) := by omega
  have hsB : ∀ (W : World), Below wB.heap.size wB W → Below w.heap.size w W → wB.heap.size ≤ W.heap.size := fun W h _ => h.size
  have hlen0 : (l0.take f).length = f := by rw [List.length_take]; omega
  have HB0 : Aside0 (∀ o, Below wB.heap.size wB (w.alloc o)) := ⟨fun o => wA hBB o⟩
  have HW0 : Aside0 (∀ o, Below w.heap.size w (w.alloc o)) := ⟨fun o => (Below.refl _ w).alloc (Nat.le_refl _) o⟩
  have HQC : Aside0 (∀ W, Below wB.heap.size wB W → Calls Tryz.prog 48 #[.slice A0 f c0, .int .u8 10] W fun e w' => e = .returned (.int .i64 ((fr : Int) - 1)) ∧ Drawn0 W w') := ⟨fun W hW => by
    have h1 := bytes_LastIndexByte.calls k A0 c0 (l0.take f) 10 ((fr : Int) - 1) W (Kd.C_take (m := f) (Kd.C_below hr hW) g1') (by rw [hlen0]; omega) hq
    rw [hlen0] at h1
    exact h1⟩
  obtain ⟨i0, hi0, _, hsz, _⟩ := info_parts info5
  obtain ⟨A', hcut, hA, hC⟩ := print_drop_of (P := Tryz.prog) (Value.int .u8) 0 29 5 .i64 Tryz.underlying29 hi0 hsz A0 c0 l0 (fr : Int) hr0 hrl hc0
  simp only [Int.toNat_natCast] at hcut hA hC
  have HRD : Aside0 (∀ W, Below wB.heap.size wB W → Kd.C (Kd.int .u8) W A' (l0.drop fr).length (l0.drop fr)) := ⟨fun W hW => Kd.C_of_reads (h1 := fun _ => rfl) (hA _ (Kd.reads_of_C (Kd.C_below hr hW)))⟩
  clear hA
  obtain ⟨D, hD⟩ : ∃ D, l0.drop fr = D := ⟨_, rfl⟩
  have hDl : D.length ≤ 8000 := by rw [← hD, List.length_drop]; omega
  have HDI : Aside0 (Sc.InB D = true) := ⟨by rw [← hD]; exact InB_drop' g6 fr⟩
  rw [hD] at hcut hC HRD h
  obtain ⟨LN, hLN⟩ : ∃ LN, lineL D = LN := ⟨_, rfl⟩
  have hLl : LN.length ≤ D.length := by rw [← hLN]; exact lineL_len D
  have HCV : Aside0 (∀ W c', Below wB.heap.size wB W → (convert 29 9 (.slice A' LN.length c')).run Tryz.prog W = .ok (.string (strOfNums LN)) W) := ⟨fun W c' hW => by
    refine Kd.C_string Tryz.underlying29 Tryz.underlying5 Tryz.underlying9 ?_
    have h1 := Kd.C_take (m := LN.length) (HRD.out W hW) hLl
    have e5 : D.take LN.length = LN := by rw [← hLN]; exact (lineL_take D).symm
    rw [e5] at h1
    exact h1⟩
  have HCC : Aside0 (∀ W g, Below wB.heap.size wB W → W.cell? ⟨g, 0, none⟩ = some (.int .u8 10) → Calls Tryz.prog 88 #[.slice A' D.length (c0 - fr), .slice (some ⟨g, 0, none⟩) 1 1] W fun e w' => ∃ v2 v3 c', e = .returned (.tuple #[.slice A' LN.length c', v2, v3]) ∧ LN.length ≤ c' ∧ ∃ q, w' = W.drewN q) := ⟨fun W g hW hg => by
    rw [← hLN]
    exact cut_calls A' (c0 - fr) D g W (HRD.out W hW) hC hDl HDI.out hg⟩
  rw [hLN] at h
  obtain ⟨s, hs⟩ : ∃ s, strOfNums LN = s := ⟨_, rfl⟩
  have hss : s.size = LN.length := by rw [← hs]; exact strOfNums_size LN
  rw [hs] at h HCV
  rw [← hss] at h
  obtain ⟨M, hM⟩ : ∃ M, marksG s fr f T s.size 0 0 = M := ⟨_, rfl⟩
  rw [hM] at h
  have HM1 := ak hM
  have HE := ak h
  clear hm hp hq hr hT hBB hBld g6 hc2 hfr h hM HDI HRD hi0 hsz
  unfold cells41
  go_enter Tryz.func56, Tryz.ntmps56
  go_wp2_with (first
    | (go_at_call 23; refine ( faults_Message.calls k A0 c0 l0 x0 x1 (f : Int) T x4 x5 m1 m2 _ (Kd.C_below HR.out (HB0.out _)) hc0 HM.out ⟨HTB.out.stay (HB0.out _)⟩).mono ?_; rintro e w1 ⟨rfl, hb1⟩; have HB1 := ak ((HB0.out _).trans (hb1.mono (HB0.out _).size)); have HW1 := ak ((HW0.out _).trans (hb1.mono (HW0.out _).size)); have c12 := Ft.cell_stay (box_at w _ 41 2 (.int .i64 (f : Int)) rfl) hb1; have C3 := ak (Ft.cell_stay (box_at w _ 41 3 (.int .i64 T) rfl) hb1); clear hb1)
    | (go_at_call 15; refine ( faults_Place.calls k A0 c0 l0 (f : Int) p1 p2 p3 _ (Kd.C_below HR.out HB1.out) hc0 HP.out ⟨HTB.out.stay HB1.out⟩).mono ?_; rintro e w2 ⟨rfl, hb2⟩; have HB2 := ak (HB1.out.trans (hb2.mono HB1.out.size)); have HW2 := ak (HW1.out.trans (hb2.mono HW1.out.size)); have c22 := Ft.cell_stay c12 hb2; have C23 := ak (Ft.cell_stay C3.out hb2); clear hb2)
    | (go_at_call 48; refine (HQC.out _ HB2.out).mono ?_; rintro e w3 ⟨rfl, hd⟩; have HB3 := ak (drawn_below HB2.out hd); have HW3 := ak (drawn_below HW2.out hd); have C32 := ak (drawn_cell hd c22); have C33 := ak (drawn_cell hd C23.out); clear hd)
    | (go_at_call 88; refine (HCC.out _ _ (wA HB3.out _) (box_at w3 _ 5 0 _ rfl)).mono ?_; rintro e w4 ⟨v2, v3, c', rfl, hle, hq4⟩; have HB4 := ak (drawn_below (wA HB3.out _) (drawn0_of hq4)); have HW4 := ak (drawn_below (wA HW3.out _) (drawn0_of hq4)); have C42 := ak (drawn_cell (drawn0_of hq4) (cell_alloc' _ C32.out)); have C43 := ak (drawn_cell (drawn0_of hq4) (cell_alloc' _ C33.out)); have hcv := HCV.out w4 c' HB4.out; clear hq4))
  have HW := ak (show s.size ≤ 8000 by omega)
  go_loopg [15] s.size (fun gh v15 wr => ∃ (p c g_ : Nat), g_ = gh ∧ wr = w4.iter s p ∧ v15 = .int .i64 (c : Int) ∧ s.size ≤ p + g_ ∧ c ≤ p ∧ c ≤ s.size ∧ Aside0 (marksG s fr f T g_ p c = M))
  case atStart => exact ⟨0, 0, s.size, rfl, rfl, rfl, by omega, Nat.le_refl _, Nat.zero_le _, HM1⟩
  case round =>
    obtain ⟨p, c, g_, rfl, rfl, rfl, hpk, hcp, hcs, HG⟩ := hrel
    by_cases hp : p < s.size
    · obtain ⟨kk, rfl⟩ : ∃ kk, g_ = kk + 1 := ⟨g_ - 1, by omega⟩
      have hn := run_next_any (P := Tryz.prog) w4 s p 0 hp
      have c2 := iter_cell s (p + (Utf8.decode s p).2) C42.out
      have c3 := iter_cell s (p + (Utf8.decode s p).2) C43.out
      have hwd := Lib.decode_width_pos s p hp
      have f1 : IntKind.i64.wrap ((p : Int) + (fr : Int)) = (p : Int) + (fr : Int) := by rw [IntKind.wrap_i64]; omega
      have f2 : IntKind.i64.wrap ((c : Int) + 1) = ((c + 1 : Nat) : Int) := by rw [IntKind.wrap_i64]; omega
      have HG2 := ak ((marksG_step s fr f T kk p c hp).symm.trans HG.out)
      have HWD := ak hwd
      clear hwd
      by_cases h1 : (f : Int) ≤ (p : Int) + (fr : Int)
      · have b1 : decide ((f : Int) ≤ (p : Int) + (fr : Int)) = true := decide_eq_true h1
        by_cases h2 : (p : Int) + (fr : Int) < T
        · have b2 : decide ((p : Int) + (fr : Int) < T) = true := decide_eq_true h2
          go_wp2
          go_roundg kk
          case measure => omega
          case rel => exact ⟨p + (Utf8.decode s p).2, c + 1, kk, rfl, rfl, rfl, by have := HWD.out; omega, by have := HWD.out; omega, by omega, ⟨by have h := HG2.out; rw [if_pos ⟨h1, h2⟩] at h; exact h⟩⟩
        · have b2 : decide ((p : Int) + (fr : Int) < T) = false := decide_eq_false h2
          go_wp2
          go_roundg kk
          case measure => omega
          case rel => exact ⟨p + (Utf8.decode s p).2, c, kk, rfl, rfl, rfl, by have := HWD.out; omega, by have := HWD.out; omega, by omega, ⟨by have h := HG2.out; rw [if_neg (by omega)] at h; exact h⟩⟩
      · have b1 : decide ((f : Int) ≤ (p : Int) + (fr : Int)) = false := decide_eq_false h1
        go_wp2
        go_roundg kk
        case measure => omega
        case rel => exact ⟨p + (Utf8.decode s p).2, c, kk, rfl, rfl, rfl, by have := HWD.out; omega, by have := HWD.out; omega, by omega, ⟨by have h := HG2.out; rw [if_neg (by omega)] at h; exact h⟩⟩
    · have hn := run_next_end (P := Tryz.prog) w4 s p 0 hp
      have e7 := (marksG_end s fr f T g_ p c hp).symm.trans HG.out
      subst e7
      obtain ⟨n1, hn1⟩ : ∃ n1 : Nat, p2 - 1 = (n1 : Int) := ⟨(p2 - 1).toNat, by omega⟩
      obtain ⟨n2, hn2⟩ : ∃ n2 : Nat, max (c : Int) 1 = (n2 : Int) := ⟨(max (c : Int) 1).toNat, by omega⟩
      have hn3 : (if (c : Int) < 1 then (1 : Int) else (c : Int)) = (n2 : Int) := by rw [← hn2]; split <;> omega
      have f5 : IntKind.i64.wrap (p2 - 1) = (n1 : Int) := by rw [IntKind.wrap_i64]; omega
      have HE2 := HE.out
      rw [hn1, hn2] at HE2
      simp only [Int.toNat_natCast] at HE2
      have HR1 := ak (fun W => Tryz.strings_Repeat ⟨#[32]⟩ n1 W (by omega) (by show 1 * n1 ≤ _; omega))
      have HR2 := ak (fun W => Tryz.strings_Repeat ⟨#[94]⟩ n2 W (by omega) (by show 1 * n2 ≤ _; omega))
      have hz1 : (⟨(Lib.repeatL [32] n1).toArray⟩ : ByteArray).size = n1 := by show (Lib.repeatL [32] n1).toArray.size = n1; simp [Lib.repeatL_length]
      have hz2 : (⟨(Lib.repeatL [94] n2).toArray⟩ : ByteArray).size = n2 := by show (Lib.repeatL [94] n2).toArray.size = n2; simp [Lib.repeatL_length]
      have e8 : (⟨#[32]⟩ : ByteArray).data.toList = [32] := rfl
      have e9 : (⟨#[94]⟩ : ByteArray).data.toList = [94] := rfl
      rw [e8] at HR1
      rw [e9] at HR2
      generalize (⟨(Lib.repeatL [32] n1).toArray⟩ : ByteArray) = S1 at HR1 HE2 hz1
      generalize (⟨(Lib.repeatL [94] n2).toArray⟩ : ByteArray) = S2 at HR2 HE2 hz2
      have HE3 := ak HE2
      have HB5 := ak (below_iter HB4.out s p)
      have HW5 := ak (below_iter HW4.out s p)
      have HZ1 := ak hz1
      have HZ2 := ak hz2
      have HN1 := ak (show n1 ≤ 100000 by omega)
      have HN2 := ak (show n2 ≤ 8001 by omega)
      have z1 : (9223372036854775807 < m1.size + 3) = False := eq_false (by omega)
      have z2 : (9223372036854775807 < m1.size + 3 + s.size) = False := eq_false (by omega)
      have z3 : (9223372036854775807 < m1.size + 3 + s.size + 3) = False := eq_false (by omega)
      have z4 : (9223372036854775807 < m1.size + 3 + s.size + 3 + S1.size) = False := eq_false (by omega)
      have z5 : (9223372036854775807 < m1.size + 3 + s.size + 3 + S1.size + S2.size) = False := eq_false (by omega)
      have z6 : (9223372036854775807 < m1.size + 3 + s.size + 3 + S1.size + S2.size + 1) = False := eq_false (by omega)
      have HWS : Aside0 (∀ W, Below wB.heap.size wB W → Below w.heap.size w W → Calls Tryz.prog 89 #[.pointer (some ⟨wB.heap.size, 0, none⟩), .string ((((((m1 ++ (⟨#[10, 32, 32]⟩ : ByteArray)) ++ s) ++ (⟨#[10, 32, 32]⟩ : ByteArray)) ++ S1) ++ S2) ++ (⟨#[10]⟩ : ByteArray))] W fun e w' => e = .returned (.tuple #[.int .i64 t.size, .nilIface]) ∧ Ft.Bld wB.heap.size (acc ++ t.data.toList) w' ∧ Below wB.heap.size W w') := ⟨fun W hW hW2 => by
        have h1 := Ft.bld_str t (HBl.out.below hW2) (by omega) (by omega) hW.size
        rw [← Option.some.inj HE2] at h1 ⊢
        exact h1⟩
      clear HE2 hz1 hz2 HE HM1 HG hn hss hn1 hn2 HE3
      have hn := run_next_end (P := Tryz.prog) w4 s p 0 hp
      go_wp2
      generalize w4.iter s p = w5 at HB5 HW5 ⊢
      go_region_held3 (fun w' => (convert 29 9 (.slice A' LN.length c')).run Tryz.prog w' = .ok (.string s) w')
        (first | exact HCV.out _ c' (wD HB5.out) | exact HCV.out _ c' HB6.out | exact HCV.out _ c' HB7.out | exact HCV.out _ c' HB8.out)
        ((first
          | (go_at_call 90; (with_reducible refine (HR1.out _).mono ?_); rintro e w6 ⟨rfl, hb6⟩; have HB6 := ak ((wD HB5.out).trans (hb6.mono (wD HB5.out).size)); have HW6 := ak ((wD HW5.out).trans (hb6.mono (wD HW5.out).size)); clear hb6)
          | (go_at_call 90; (with_reducible refine (HR2.out _).mono ?_); rintro e w7 ⟨rfl, hb7⟩; have HB7 := ak (HB6.out.trans (hb7.mono HB6.out.size)); have HW7 := ak (HW6.out.trans (hb7.mono HW6.out.size)); clear hb7)
          | (go_at_call 89; (with_reducible refine (HWS.out _ HB7.out HW7.out).mono ?_); rintro e w8 ⟨rfl, hl8, hb8⟩; have HB8 := ak (HB7.out.trans hb8); have HL8 := ak hl8; clear hl8 hb8)))
      all_goals
        refine bodyPost_end (results_none rfl _ _ _) rfl ?_
        exact ⟨rfl, HL8.out, HB8.out⟩
def picG (k : Nat) (l0 : List Int) (l1 : List S41) : Nat → Int → ByteArray → Option ByteArray
  | 0, i, acc => if i < 0 then some acc else none
  | n + 1, i, acc => if i < 0 then some acc else (paintF k l0 (rd_T41 l1 i)).bind fun t => if acc.size + t.size ≤ 500000 then picG k l0 l1 n (rd_T41 l1 i).f4 (acc ++ t) else none
def faults_Picture.f (k : Nat) (l0 : List Int) (l1 : List S41) (a2 : Int) : Option (ByteArray × Int) :=
  (runes_Check.f l0).bind fun c => if c.2 = 0 then ((faults_Check.f k (l0.length : Int) l1).bind fun d => if d.2 = 0 then (if a2 < 0 ∨ (l1.length : Int) ≤ a2 then some (⟨#[]⟩, 4) else (if downsB l1 = true then (picG k l0 l1 l1.length a2 ⟨#[]⟩).map (fun t => (t, 0)) else none)) else some (⟨#[]⟩, d.2)) else some (⟨#[]⟩, c.2)
theorem picG_end (k : Nat) (l0 : List Int) (l1 : List S41) (n : Nat) (i : Int) (acc : ByteArray) (h : i < 0) : picG k l0 l1 n i acc = some acc := by
  cases n with
  | zero => unfold picG; rw [if_pos h]
  | succ n => unfold picG; rw [if_pos h]
theorem app_data (a b : ByteArray) : (a ++ b).data.toList = a.data.toList ++ b.data.toList := by
  rw [ByteArray.data_append, Array.toList_append]
set_option maxHeartbeats 8000000 in
set_option maxRecDepth 100000 in
theorem faults_Picture.calls (k : Nat) (A0 : Option Addr) (c0 : Nat) (l0 : List Int) (A1 : Option Addr) (c1 : Nat) (l1 : List S41) (a2 : Int) (r1 : ByteArray) (r2 : Int) (w : World) (hr0 : Kd.C (Kd.int .u8) w A0 l0.length l0) (hc0 : l0.length ≤ c0) (hr1 : Kd.C k41 w A1 l1.length l1) (hc1 : l1.length ≤ c1) (h : faults_Picture.f k l0 l1 a2 = some (r1, r2)) (HT : Aside0 (Ft.All w)) :
    Calls Tryz.prog 21 #[.slice A0 l0.length c0, .slice A1 l1.length c1, .int .i64 a2] w fun e w' => e = .returned (.tuple #[.string r1, .int .i64 r2]) ∧ Below w.heap.size w w' := by
  unfold faults_Picture.f at h
  replace h := Option.bind_eq_some_iff.mp h
  obtain ⟨⟨z1, z2⟩, hk, h⟩ := h
  have HK := ak hk
  have HR0 := ak hr0
  have HR1 := ak hr1
  simp only at h
  clear hk hr0 hr1
  by_cases he : z2 = 0
  case neg =>
    rw [if_neg he] at h
    cases h
    have b1 : (r2 != 0) = true := bne_iff_ne.mpr he
    have b2 : (r2 == 0) = false := beq_eq_false_iff_ne.mpr he
    go_enter Tryz.func21, Tryz.ntmps21
    go_wp2_with (first
      | (go_at_call 45; refine ( runes_Check.calls A0 c0 l0 z1 r2 _ HR0.out hc0 HK.out HT).mono ?_; rintro e w1 ⟨rfl, hb1⟩))
    go_ret2
    exact ⟨rfl, hb1⟩
  subst he
  rw [if_pos rfl] at h
  replace h := Option.bind_eq_some_iff.mp h
  obtain ⟨⟨y1, y2⟩, hk2, h⟩ := h
  have HK2 := ak hk2
  simp only at h
  clear hk2
  by_cases he2 : y2 = 0
  case neg =>
    rw [if_neg he2] at h
    cases h
    have b1 : (r2 != 0) = true := bne_iff_ne.mpr he2
    have b2 : (r2 == 0) = false := beq_eq_false_iff_ne.mpr he2
    go_enter Tryz.func21, Tryz.ntmps21
    go_wp2_with (first
      | (go_at_call 45; refine ( runes_Check.calls A0 c0 l0 z1 0 _ HR0.out hc0 HK.out HT).mono ?_; rintro e w1 ⟨rfl, hb1⟩; have HB1 := ak hb1; clear hb1)
      | (go_at_call 13; refine ( faults_Check.calls k (l0.length : Int) A1 c1 l1 y1 r2 _ (Kd.C_below HR1.out HB1.out) hc1 HK2.out ⟨HT.out.stay HB1.out⟩).mono ?_; rintro e w2 ⟨rfl, hb2⟩; have HB2 := ak (HB1.out.trans (hb2.mono HB1.out.size)); clear hb2))
    go_ret2
    exact ⟨rfl, HB2.out⟩
  subst he2
  rw [if_pos rfl] at h
  by_cases hi : a2 < 0 ∨ (l1.length : Int) ≤ a2
  · rw [if_pos hi] at h
    cases h
    by_cases hi1 : a2 < 0
    · have b1 : decide (a2 < 0) = true := decide_eq_true hi1
      go_enter Tryz.func21, Tryz.ntmps21
      go_wp2_with (first
        | (go_at_call 45; refine ( runes_Check.calls A0 c0 l0 z1 0 _ HR0.out hc0 HK.out HT).mono ?_; rintro e w1 ⟨rfl, hb1⟩; have HB1 := ak hb1; clear hb1)
        | (go_at_call 13; refine ( faults_Check.calls k (l0.length : Int) A1 c1 l1 y1 0 _ (Kd.C_below HR1.out HB1.out) hc1 HK2.out ⟨HT.out.stay HB1.out⟩).mono ?_; rintro e w2 ⟨rfl, hb2⟩; have HB2 := ak (HB1.out.trans (hb2.mono HB1.out.size)); clear hb2))
      go_ret2
      exact ⟨rfl, HB2.out⟩
    · have hi2 : (l1.length : Int) ≤ a2 := by omega
      have b1 : decide (a2 < 0) = false := decide_eq_false hi1
      have b2 : decide ((l1.length : Int) ≤ a2) = true := decide_eq_true hi2
      go_enter Tryz.func21, Tryz.ntmps21
      go_wp2_with (first
        | (go_at_call 45; refine ( runes_Check.calls A0 c0 l0 z1 0 _ HR0.out hc0 HK.out HT).mono ?_; rintro e w1 ⟨rfl, hb1⟩; have HB1 := ak hb1; clear hb1)
        | (go_at_call 13; refine ( faults_Check.calls k (l0.length : Int) A1 c1 l1 y1 0 _ (Kd.C_below HR1.out HB1.out) hc1 HK2.out ⟨HT.out.stay HB1.out⟩).mono ?_; rintro e w2 ⟨rfl, hb2⟩; have HB2 := ak (HB1.out.trans (hb2.mono HB1.out.size)); clear hb2))
      go_ret2
      exact ⟨rfl, HB2.out⟩
  rw [if_neg hi] at h
  by_cases hd : downsB l1 = true
  case neg => rw [if_neg hd] at h; cases h
  rw [if_pos hd] at h
  obtain ⟨t, hp, ht⟩ := Option.map_eq_some_iff.1 h
  cases ht
  have hD := downs_of hd
  have HD := ak hD
  have HP := ak hp
  have b1 : decide (a2 < 0) = false := decide_eq_false (by omega)
  have b2 : decide ((l1.length : Int) ≤ a2) = false := decide_eq_false (by omega)
  have hi1 : a2 < (l1.length : Int) := by omega
  have HI1 := ak hi1
  clear h hp hd hD hi hi1
  go_enter Tryz.func21, Tryz.ntmps21
  go_wp2_with (first
    | (go_at_call 45; refine ( runes_Check.calls A0 c0 l0 z1 0 _ HR0.out hc0 HK.out HT).mono ?_; rintro e w1 ⟨rfl, hb1⟩; have HB1 := ak hb1; clear hb1)
    | (go_at_call 13; refine ( faults_Check.calls k (l0.length : Int) A1 c1 l1 y1 0 _ (Kd.C_below HR1.out HB1.out) hc1 HK2.out ⟨HT.out.stay HB1.out⟩).mono ?_; rintro e w2 ⟨rfl, hb2⟩; have HB2 := ak (HB1.out.trans (hb2.mono HB1.out.size)); clear hb2))
  clear b1 b2
  have HRB0 := ak (Kd.C_below HR0.out HB2.out)
  have HRB1 := ak (Kd.C_below HR1.out HB2.out)
  have HTB := ak (HT.out.stay HB2.out)
  have HBl := ak (show Ft.Bld w2.heap.size (⟨#[]⟩ : ByteArray).data.toList (w2.alloc (.cells #[.pointer none, .slice none 0 0] 79)) from Lib.fresh_isBuilder 79 5 w2)
  have HBw := ak ((Below.refl w2.heap.size w2).alloc (Nat.le_refl _) (.cells #[.pointer none, .slice none 0 0] 79))
  go_loopg [2] l1.length (fun gh v2 wr => ∃ (i : Int) (acc : ByteArray) (g_ : Nat), g_ = gh ∧ v2 = .int .i64 i ∧ Aside0 (i < (l1.length : Int)) ∧ Aside0 (acc.size ≤ 500000) ∧ Aside0 (picG k l0 l1 g_ i acc = some r1) ∧ Aside0 (Ft.Bld w2.heap.size acc.data.toList wr) ∧ Aside0 (Below w2.heap.size w2 wr))
  case atStart => exact ⟨a2, ⟨#[]⟩, l1.length, rfl, rfl, HI1, ⟨Nat.zero_le _⟩, HP, HBl, HBw⟩
  case round =>
    obtain ⟨i, acc, g_, rfl, rfl, HI, HA, HG, HL, HB⟩ := hrel
    clear HBl HBw HP HI1
    by_cases hn : i < 0
    · have b1 : decide (0 ≤ i) = false := decide_eq_false (by omega)
      have e1 : acc = r1 := Option.some.inj ((picG_end k l0 l1 g_ i acc hn).symm.trans HG.out)
      subst e1
      go_wp2_with (go_at_call 57; refine (Tryz.Builder_String_any w2.heap.size w2.heap.size acc.data.toList _ HL.out HB.out.size).mono ?_; rintro e w5 ⟨rfl, hb5⟩)
      go_ret2
      exact ⟨rfl, HB2.out.trans ((HB.out.trans hb5).mono HB2.out.size)⟩
    · have b1 : decide (0 ≤ i) = true := decide_eq_true (by omega)
      cases g_ with
      | zero => exact absurd HG.out (by unfold picG; rw [if_neg hn]; simp)
      | succ n =>
        have hg := HG.out
        unfold picG at hg
        rw [if_neg hn] at hg
        replace hg := Option.bind_eq_some_iff.mp hg
        obtain ⟨t, hp, hg⟩ := hg
        by_cases hs : acc.size + t.size ≤ 500000
        case neg => rw [if_neg hs] at hg; cases hg
        rw [if_pos hs] at hg
        obtain ⟨ad, e1, xb0, xb1, xb2, xb3, xb4, xb5⟩ := at_T41 HRB1.out i (by omega) HI.out
        subst e1
        have x0 := Ft.cell_stay xb0 HB.out
        have x1 := Ft.cell_stay xb1 HB.out
        have x2 := Ft.cell_stay xb2 HB.out
        have x3 := Ft.cell_stay xb3 HB.out
        have x4 := Ft.cell_stay xb4 HB.out
        have x5 := Ft.cell_stay xb5 HB.out
        clear xb0 xb1 xb2 xb3 xb4
        have hdn := HD.out i.toNat (by have := HI.out; omega)
        rw [show ((i.toNat : Nat) : Int) = i by omega] at hdn
        have HC := ak (paint_calls k A0 c0 l0 (rd_T41 l1 i) t acc.data.toList w2 wr HRB0.out hc0 HTB.out HB.out HL.out (by have := HA.out; show acc.size ≤ _; omega) (by omega) hp)
        have HDN := ak hdn
        have HG2 := ak hg
        have HS := ak hs
        unfold cells41 at HC
        have hi1 := HI.out
        clear hp hg hs hdn HG
        generalize (rd_T41 l1 i).f0 = y0 at *
        generalize (rd_T41 l1 i).f1 = y1 at *
        generalize (rd_T41 l1 i).f2.f0 = y2 at *
        generalize (rd_T41 l1 i).f2.f1 = y3 at *
        generalize (rd_T41 l1 i).f3 = y4 at *
        generalize (rd_T41 l1 i).f4 = y5 at *
        have hi0 : 0 ≤ i := by omega
        have X5 := ak xb5
        clear xb5
        go_wp2_with (go_at_call 56; refine HC.out.mono ?_; rintro e w4 ⟨rfl, hl4, hb4⟩; have HL4 := ak hl4; have HB4 := ak hb4; have x54 := Ft.cell_stay X5.out HB4.out; clear hl4 hb4)
        go_roundg n
        case measure => omega
        case rel => exact ⟨y5, acc ++ t, n, rfl, rfl, ⟨by have := HDN.out; have := HI.out; omega⟩, ⟨by rw [ByteArray.size_append]; exact HS.out⟩, HG2, ⟨by rw [app_data]; exact HL4.out⟩, HB4⟩
end Go.Proofs.YtdjkdlbokepoaaaGreatDoor.P
namespace Go.Proofs.YtdjkdlbokepoaaaGreatDoor.P
open Go.RowKit Go.Proofs.YtdjkdlbokepoaaaGreatDoorW.PrintWords Go.Proofs.YtdjkdlbokepoaaaGreatDoorW.PrintLast Go.Proofs.YtdjkdlbokepoaaaGreatDoorW.PrintMore
attribute [local go_sem] max2_int min2_int max_two min_two max_three min_three max_four min_four   -- for this text's walks alone
set_option linter.unusedVariables false
set_option linter.unusedSimpArgs false
def mummerref04_Ints.l0 : Nat → List Int → List Int → Int → Option (Bool)
  | 0, _, _, _ => none
  | k + 1, x0, x1, x5 => if x5 < (x0.length : Int) then (if 0 ≤ x5 then (if x5 < (x1.length : Int) then (if (rd x0 x5) = (rd x1 x5) then (mummerref04_Ints.l0 k x0 x1 (wrap64 (x5 + 1))) else (some false)) else (none)) else (none)) else (some true)
def mummerref04_Ints.f (k : Nat) (l0 : List Int) (l1 : List Int) : Option (Bool) := if (l0.length : Int) = (l1.length : Int) then (mummerref04_Ints.l0 k l0 l1 0) else (some false)
set_option maxHeartbeats 8000000 in
set_option maxRecDepth 100000 in
theorem mummerref04_Ints.calls (k : Nat) (A0 : Option Addr) (c0 : Nat) (l0 : List Int) (A1 : Option Addr) (c1 : Nat) (l1 : List Int) (r : Bool) (w : World) (hr0 : Kd.C (Kd.int .i64) w A0 l0.length l0) (hc0 : l0.length ≤ c0) (hr1 : Kd.C (Kd.int .i64) w A1 l1.length l1) (hc1 : l1.length ≤ c1) (h : mummerref04_Ints.f k l0 l1 = some r) :
    Calls Tryz.prog 34 #[.slice A0 l0.length c0, .slice A1 l1.length c1] w fun e w' => e = .returned (.bool r) ∧ Drawn0 w w' := by
  have HR0 := ak hr0
  have HC0 := ak hc0
  clear hr0 hc0
  have HR1 := ak hr1
  have HC1 := ak hc1
  clear hr1 hc1
  have H : (if (l0.length : Int) = (l1.length : Int) then (mummerref04_Ints.l0 k l0 l1 0) else (some false)) = some r := h
  clear h
  by_cases c3 : (l0.length : Int) = (l1.length : Int)
  · rw [if_pos c3] at H
    have c3b0 : ((l0.length : Int) == (l1.length : Int)) = true := beq_iff_eq.mpr c3
    have c3b1 : ((l0.length : Int) != (l1.length : Int)) = false := bne_eq_false_iff_eq.mpr c3
    have c3b2 : (l0.length == l1.length) = true := by first | simpa using c3 | (simp at c3 ⊢; omega)
    clear c3
    have H' := ak H
    clear H
    go_enter Tryz.func34, Tryz.ntmps34
    go_wp2
    repeat (go_quiet (fail); try go_wp2)
    go_loopg [5] k (fun kq v5 w' => ∃ (x5_1 : Int), v5 = .int .i64 x5_1 ∧ Aside0 (mummerref04_Ints.l0 kq l0 l1 x5_1 = some r) ∧ Aside0 (kq ≤ k) ∧ Drawn0 w w')
    case atStart => exact ⟨(0), (by first | rfl | (simp; done) | (simp [*]; done)), H', ⟨Nat.le_refl _⟩, by repeat (first | exact Drawn0.refl _ | apply Drawn0.step)⟩
    case round =>
      clear H'
      try clear c1
      try clear p2
      try clear c3
      try clear c3b0
      try clear c3b1
      try clear c3b2
      obtain ⟨x5_1, rfl, HA, HK1, ⟨m1, rfl⟩⟩ := hrel
      cases gk with
      | zero => exact absurd HA.out (by simp [mummerref04_Ints.l0])
      | succ k1 =>
        have H := HA.out
        clear HA
        simp only [mummerref04_Ints.l0] at H
        by_cases c4 : x5_1 < (l0.length : Int)
        · rw [if_pos c4] at H
          have c4b0 : decide (x5_1 < (l0.length : Int)) = true := decide_eq_true c4
          clear c4
          by_cases c5 : 0 ≤ x5_1
          · rw [if_pos c5] at H
            have c5b0 : decide (0 ≤ x5_1) = true := decide_eq_true c5
            clear c5
            by_cases c6 : x5_1 < (l1.length : Int)
            · rw [if_pos c6] at H
              have c6b0 : decide (x5_1 < (l1.length : Int)) = true := decide_eq_true c6
              clear c6
              by_cases c7 : (rd l0 x5_1) = (rd l1 x5_1)
              · rw [if_pos c7] at H
                have c7b0 : ((rd l0 x5_1) == (rd l1 x5_1)) = true := beq_iff_eq.mpr c7
                have c7b1 : ((rd l0 x5_1) != (rd l1 x5_1)) = false := bne_eq_false_iff_eq.mpr c7
                clear c7
                have H' := ak H
                clear H
                have p155 : 0 ≤ (x5_1 : Int) := of_decide_eq_true (by first | (with_reducible assumption) | assumption)
                have q155 : x5_1 < (l0.length : Int) := of_decide_eq_true (by first | (with_reducible assumption) | assumption)
                obtain ⟨ad155, e155, hx155_0⟩ := Kd.at_int HR0.out x5_1 p155 q155
                cases e155
                replace p155 := eq_true p155
                replace q155 := eq_true q155
                have p156 : 0 ≤ (x5_1 : Int) := of_decide_eq_true (by first | (with_reducible assumption) | assumption)
                have q156 : x5_1 < (l1.length : Int) := of_decide_eq_true (by first | (with_reducible assumption) | assumption)
                obtain ⟨ad156, e156, hx156_0⟩ := Kd.at_int HR1.out x5_1 p156 q156
                cases e156
                replace p156 := eq_true p156
                replace q156 := eq_true q156
                go_wp2
                repeat (go_quiet (fail); try go_wp2)
                go_roundg k1
                case measure => have := HK1.out; omega
                case rel => exact ⟨(wrap64 (x5_1 + 1)), (by first | rfl | (simp; done) | (simp [*]; done)), H', ⟨by have := HK1.out; omega⟩, by repeat (first | exact Drawn0.refl _ | apply Drawn0.step)⟩
              · rw [if_neg c7] at H
                have c7b0 : ((rd l0 x5_1) == (rd l1 x5_1)) = false := beq_eq_false_iff_ne.mpr c7
                have c7b1 : ((rd l0 x5_1) != (rd l1 x5_1)) = true := bne_iff_ne.mpr c7
                obtain rfl := Option.some.inj H
                have p155 : 0 ≤ (x5_1 : Int) := of_decide_eq_true (by first | (with_reducible assumption) | assumption)
                have q155 : x5_1 < (l0.length : Int) := of_decide_eq_true (by first | (with_reducible assumption) | assumption)
                obtain ⟨ad155, e155, hx155_0⟩ := Kd.at_int HR0.out x5_1 p155 q155
                cases e155
                replace p155 := eq_true p155
                replace q155 := eq_true q155
                have p156 : 0 ≤ (x5_1 : Int) := of_decide_eq_true (by first | (with_reducible assumption) | assumption)
                have q156 : x5_1 < (l1.length : Int) := of_decide_eq_true (by first | (with_reducible assumption) | assumption)
                obtain ⟨ad156, e156, hx156_0⟩ := Kd.at_int HR1.out x5_1 p156 q156
                cases e156
                replace p156 := eq_true p156
                replace q156 := eq_true q156
                go_wp2
                repeat (go_quiet (fail); try go_wp2)
                go_ret
                exact ⟨by first | rfl | (simp; done) | (simp [*]; done), by repeat (first | exact Drawn0.refl _ | apply Drawn0.step)⟩
            · rw [if_neg c6] at H
              exact absurd H (by simp)
          · rw [if_neg c5] at H
            exact absurd H (by simp)
        · rw [if_neg c4] at H
          have c4b0 : decide (x5_1 < (l0.length : Int)) = false := decide_eq_false c4
          clear c4
          obtain rfl := Option.some.inj H
          go_wp2
          repeat (go_quiet (fail); try go_wp2)
          go_ret
          exact ⟨by first | rfl | (simp; done) | (simp [*]; done), by repeat (first | exact Drawn0.refl _ | apply Drawn0.step)⟩
  · rw [if_neg c3] at H
    have c3b0 : ((l0.length : Int) == (l1.length : Int)) = false := beq_eq_false_iff_ne.mpr c3
    have c3b1 : ((l0.length : Int) != (l1.length : Int)) = true := bne_iff_ne.mpr c3
    have c3b2 : (l0.length == l1.length) = false := by first | simpa using c3 | (simp at c3 ⊢; omega)
    obtain rfl := Option.some.inj H
    go_enter Tryz.func34, Tryz.ntmps34
    go_wp2
    repeat (go_quiet (fail); try go_wp2)
    go_ret
    exact ⟨by first | rfl | (simp; done) | (simp [*]; done), by repeat (first | exact Drawn0.refl _ | apply Drawn0.step)⟩
end Go.Proofs.YtdjkdlbokepoaaaGreatDoor.P
namespace Go.Proofs.YtdjkdlbokepoaaaGreatDoor.P
open Go.RowKit Go.Proofs.YtdjkdlbokepoaaaGreatDoorW.PrintWords Go.Proofs.YtdjkdlbokepoaaaGreatDoorW.PrintLast Go.Proofs.YtdjkdlbokepoaaaGreatDoorW.PrintMore
attribute [local go_sem] max2_int min2_int max_two min_two max_three min_three max_four min_four   -- for this text's walks alone
set_option linter.unusedVariables false
set_option linter.unusedSimpArgs false
def mummerlaw08_Text.f : Option (List Int) := some [97, 98, 195, 169, 10, 99, 100]
theorem text_reads (w : World) (m : Nat × Nat) : Kd.C (Kd.int .u8) (w.alloc (.cells #[.int .u8 97, .int .u8 98, .int .u8 195, .int .u8 169, .int .u8 10, .int .u8 99, .int .u8 100] 5 m)) (some ⟨w.heap.size, 0, none⟩) 7 [97, 98, 195, 169, 10, 99, 100] := by
  refine Kd.C_of_reads (enc := fun n => Value.int .u8 n) (d := 0) ⟨rfl, by omega, fun _ => ⟨_, rfl, fun j hj => ?_⟩⟩
  rw [Addr.add_lit, Nat.zero_add]
  have h2 : (w.alloc (.cells #[.int .u8 97, .int .u8 98, .int .u8 195, .int .u8 169, .int .u8 10, .int .u8 99, .int .u8 100] 5 m)).heap[w.heap.size]? = some (.cells #[.int .u8 97, .int .u8 98, .int .u8 195, .int .u8 169, .int .u8 10, .int .u8 99, .int .u8 100] 5 m) := by
    show (w.heap.push _)[w.heap.size]? = _
    simp
  simp only [World.cell?, h2]
  match j, hj with
  | 0, _ => rfl
  | 1, _ => rfl
  | 2, _ => rfl
  | 3, _ => rfl
  | 4, _ => rfl
  | 5, _ => rfl
  | 6, _ => rfl
set_option maxRecDepth 100000 in
set_option maxHeartbeats 1000000 in
theorem mummerlaw08_Text.calls (r : List Int) (w : World) (h : mummerlaw08_Text.f = some r) :
    Calls Tryz.prog 41 #[] w fun e w' => ∃ v0_ : Value, e = .returned (v0_) ∧ Ft.Cv w' v0_ r ∧ Below w.heap.size w w' := by
  have kc := fun (w : World) (C : Array Value) (n c : Nat) => Lib.run_convert_bytes_const (P := Tryz.prog) w 29 5 C n c Tryz.underlying29 Tryz.underlying5
  unfold mummerlaw08_Text.f at h
  cases h
  go_enter Tryz.func41, Tryz.ntmps41
  go_wp2
  go_ret
  exact ⟨_, rfl, ⟨_, 7, rfl, Nat.le_refl _, text_reads w _⟩, (Below.refl _ w).alloc (Nat.le_refl _) _⟩
def mummerlaw08_Example.f  : Option ((List (S41))) := some (([(⟨10, 3, (⟨2, 4⟩ : S39), (⟨#[120]⟩ : ByteArray), (-1)⟩ : S41), (⟨14, 3, (⟨5, 7⟩ : S39), (⟨#[]⟩ : ByteArray), 0⟩ : S41)] : List (S41)))
set_option maxHeartbeats 8000000 in
set_option maxRecDepth 100000 in
theorem mummerlaw08_Example.calls  (r : List (S41)) (w : World) (h : mummerlaw08_Example.f  = some r) :
    Calls Tryz.prog 42 #[] w fun e w' => ∃ v0_ : Value, e = .returned (v0_) ∧ Kd.R k41 41 w' w.heap.size (fun _ => True) v0_ r ∧ Below w.heap.size w w' := by
  have hu39 := Tryz.underlying39
  have hu41 := Tryz.underlying41
  have HB := ak (Below.refl w.heap.size w)
  have H : (some (([(⟨10, 3, (⟨2, 4⟩ : S39), (⟨#[120]⟩ : ByteArray), (-1)⟩ : S41), (⟨14, 3, (⟨5, 7⟩ : S39), (⟨#[]⟩ : ByteArray), 0⟩ : S41)] : List (S41)))) = some r := h
  clear h
  obtain ⟨y157, hy157⟩ : ∃ y_ : List (S41), y_ = (([(⟨10, 3, (⟨2, 4⟩ : S39), (⟨#[120]⟩ : ByteArray), (-1)⟩ : S41), (⟨14, 3, (⟨5, 7⟩ : S39), (⟨#[]⟩ : ByteArray), 0⟩ : S41)] : List (S41))) := ⟨_, rfl⟩
  replace H : (some y157) = some r := by first | (rw [hy157]; with_reducible exact H) | (have H2_ := (Option.bind_some _ _).symm.trans H; rw [hy157]; with_reducible exact H2_) | (have H2_ := (Option.bind_some _ _).symm.trans H; with_reducible exact H2_) | with_reducible exact H | (rw [hy157]; exact H) | exact H
  have Ny157 := ak hy157
  clear hy157
  obtain rfl := Option.some.inj H
  go_enter Tryz.func42, Tryz.ntmps42
  go_wp2_with (first | ((with_reducible refine gate_dst (N := 5) rfl ?_); refine Kd.R_lit k41 _ 41 ?hg (N := 5) ?hd (xs := ([(⟨10, 3, (⟨2, 4⟩ : S39), (⟨#[120]⟩ : ByteArray), (-1)⟩ : S41), (⟨14, 3, (⟨5, 7⟩ : S39), (⟨#[]⟩ : ByteArray), 0⟩ : S41)] : List (S41))) (inner := [.int .i64 10, .int .i64 3, .int .i64 2, .int .i64 4, .string (⟨#[120]⟩ : ByteArray), .int .i64 (-1), .int .i64 14, .int .i64 3, .int .i64 5, .int .i64 7, .string (⟨#[]⟩ : ByteArray), .int .i64 0]) (ok := fun _ => True) (okp := fun _ => True) ?hr ?hp (fun _ hk => hk) trivial (Below.refl _ _) (Nat.le_refl _) (by simp) ?_; (case hd => rfl); (case hg => rfl); (case hr => first | (go_simp; done) | (go_simp; rfl)); (case hp => exact (Reps.c6 (show Kd.M k41 _ _ _ (⟨10, 3, (⟨2, 4⟩ : S39), (⟨#[120]⟩ : ByteArray), (-1)⟩ : S41) [.int .i64 10, .int .i64 3, .int .i64 2, .int .i64 4, .string (⟨#[120]⟩ : ByteArray), .int .i64 (-1)] from (k41_mkM _ _ _ (⟨10, 3, (⟨2, 4⟩ : S39), (⟨#[120]⟩ : ByteArray), (-1)⟩ : S41) )) (Reps.c6 (show Kd.M k41 _ _ _ (⟨14, 3, (⟨5, 7⟩ : S39), (⟨#[]⟩ : ByteArray), 0⟩ : S41) [.int .i64 14, .int .i64 3, .int .i64 5, .int .i64 7, .string (⟨#[]⟩ : ByteArray), .int .i64 0] from (k41_mkM _ _ _ (⟨14, 3, (⟨5, 7⟩ : S39), (⟨#[]⟩ : ByteArray), 0⟩ : S41) )) (Reps.none _ _)))); intro v158 w1 ho2 hb hg_ hnew_; clear hg_ hnew_; (first | rw [← Ny157.out] at ho2 | (simp only [Int.reduceToNat] at ho2; rw [← Ny157.out] at ho2)); have n0_ := ak (Kd.R_lower ho2 (below_size (by repeat (first | (with_reducible first | exact HB.out | apply wA | apply wN | apply wD) | exact HB.out)))); have n1_ := ak (below_step (by repeat (first | (with_reducible first | exact HB.out | apply wA | apply wN | apply wD) | exact HB.out)) hb); clear HB; have HO159 := n0_; have HB := n1_; clear n0_ n1_; clear hb ho2))
  go_ret
  exact ⟨_, by first | rfl | (simp [errW_none, errW_some] <;> rfl) | (simp [*, errW_none, errW_some] <;> rfl), by (with_reducible repeat (first | apply Kd.R_alloc | apply Kd.R_drewN | apply Kd.R_drew)); exact HO159.out, by repeat (first | (with_reducible first | exact HB.out | apply wA | apply wN | apply wD) | exact HB.out)⟩
def mummerlaw08_shown.f : Option Bool := some true
def shT : List Int := [97, 98, 195, 169, 10, 99, 100]
def shE : List S41 := [⟨10, 3, ⟨2, 4⟩, ⟨#[120]⟩, -1⟩, ⟨14, 3, ⟨5, 7⟩, ⟨#[]⟩, 0⟩]
def shM : ByteArray := ⟨#[49, 58, 51, 58, 32, 101, 120, 112, 97, 110, 100, 58, 32, 117, 110, 98, 111, 117, 110, 100, 32, 120]⟩
def shP : ByteArray := ⟨#[50, 58, 49, 58, 32, 101, 120, 112, 97, 110, 100, 58, 32, 109, 97, 116, 99, 104, 10, 32, 32, 99, 100, 10, 32, 32, 94, 94, 10, 49, 58, 51, 58, 32, 101, 120, 112, 97, 110, 100, 58, 32, 117, 110, 98, 111, 117, 110, 100, 32, 120, 10, 32, 32, 97, 98, 195, 169, 10, 32, 32, 32, 32, 94, 10]⟩
theorem sh_place : faults_Place.f 60 shT 5 = some (2, 1, 0) := by decide +kernel
theorem sh_message : faults_Message.f 60 shT 10 3 2 4 ⟨#[120]⟩ (-1) = some (shM, 0) := by decide +kernel
theorem sh_picture : faults_Picture.f 60 shT shE 1 = some (shP, 0) := by decide +kernel
theorem sh_chain : faults_Chain.f 60 shE 1 = some ([1, 0], 0) := by decide +kernel
theorem sh_has : faults_Has.f 60 shE 1 10 = some (true, 0) := by decide +kernel
theorem sh_ints : mummerref04_Ints.f 60 [1, 0] [1, 0] = some true := by decide +kernel
theorem sh_lit (w : World) : Kd.C (Kd.int .i64) (w.alloc (.cells #[.int .i64 1, .int .i64 0] 3)) (some ⟨w.heap.size, 0, none⟩) ([1, 0] : List Int).length [1, 0] := by
  refine Kd.C_of_reads (enc := fun n => Value.int .i64 n) (d := 0) ⟨rfl, by decide, fun _ => ⟨_, rfl, fun j hj => ?_⟩⟩
  rw [Addr.add_lit, Nat.zero_add]
  have h2 : (w.alloc (.cells #[.int .i64 1, .int .i64 0] 3)).heap[w.heap.size]? = some (.cells #[.int .i64 1, .int .i64 0] 3) := by
    show (w.heap.push _)[w.heap.size]? = _
    simp
  simp only [World.cell?, h2]
  match j, hj with
  | 0, _ => rfl
  | 1, _ => rfl
theorem addr_zero (a : Addr) : a.add (Int.toNat 0 * 6) = a := by
  obtain ⟨b, o, s⟩ := a
  cases s <;> simp [Addr.add]
theorem sh_first {w : World} {A : Option Addr} (h : Kd.C k41 w A shE.length shE) : ∃ ad, A = some ad ∧ w.cell? ad = some (.int .i64 10) ∧ w.cell? ⟨ad.block, ad.off + 1, none⟩ = some (.int .i64 3) ∧ w.cell? ⟨ad.block, ad.off + 2, none⟩ = some (.int .i64 2) ∧ w.cell? ⟨ad.block, ad.off + 3, none⟩ = some (.int .i64 4) ∧ w.cell? ⟨ad.block, ad.off + 4, none⟩ = some (.string ⟨#[120]⟩) ∧ w.cell? ⟨ad.block, ad.off + 5, none⟩ = some (.int .i64 (-1)) := by
  obtain ⟨ad, e, x0, x1, x2, x3, x4, x5⟩ := at_T41 h 0 (by decide) (by decide)
  rw [addr_zero] at x0 x1 x2 x3 x4 x5
  exact ⟨ad, e, x0, x1, x2, x3, x4, x5⟩
set_option maxHeartbeats 8000000 in
set_option maxRecDepth 100000 in
theorem mummerlaw08_shown.calls (r : Bool) (w : World) (hrt : Aside0 (r = true)) (h : mummerlaw08_shown.f = some r) (HT : Aside0 (Ft.All w)) :
    Calls Tryz.prog 12 #[] w fun e w' => e = .returned (.bool r) ∧ Below w.heap.size w w' := by
  unfold mummerlaw08_shown.f at h
  cases h
  clear hrt
  have HB := ak (Below.refl w.heap.size w)
  have hl2 : shE.length = 2 := rfl
  have hl7 : shT.length = 7 := rfl
  have hM : shM.toList = [49, 58, 51, 58, 32, 101, 120, 112, 97, 110, 100, 58, 32, 117, 110, 98, 111, 117, 110, 100, 32, 120] := by decide +kernel
  have hP : shP.toList = [50, 58, 49, 58, 32, 101, 120, 112, 97, 110, 100, 58, 32, 109, 97, 116, 99, 104, 10, 32, 32, 99, 100, 10, 32, 32, 94, 94, 10, 49, 58, 51, 58, 32, 101, 120, 112, 97, 110, 100, 58, 32, 117, 110, 98, 111, 117, 110, 100, 32, 120, 10, 32, 32, 97, 98, 195, 169, 10, 32, 32, 32, 32, 94, 10] := by decide +kernel
  go_enter Tryz.func12, Tryz.ntmps12
  go_wp2_with (first
    | (go_at_call 41; refine (mummerlaw08_Text.calls shT _ rfl).mono ?_; rintro e wt ⟨vt, rfl, ⟨At, ct, rfl, hct, hCt⟩, hb⟩; have n_ := ak (HB.out.trans (hb.mono HB.out.size)); clear HB; have HB := n_; clear n_ hb; (try clear HCT HCc); have HCT := ak hCt; have HCc := ak hct; clear hCt hct)
    | (go_at_call 15; refine ( faults_Place.calls 60 At ct shT 5 2 1 0 _ HCT.out HCc.out sh_place ⟨HT.out.stay HB.out⟩).mono ?_; rintro e wp ⟨rfl, hb⟩; have n_ := ak (HB.out.trans (hb.mono HB.out.size)); clear HB; have HB := n_; clear n_ hb)
    | (go_at_call 42; refine (mummerlaw08_Example.calls shE _ rfl).mono ?_; rintro e we ⟨ve, rfl, hR, hb⟩; have n_ := ak (HB.out.trans (hb.mono HB.out.size)); clear HB; have HB := n_; clear n_; (try (have n_ := ak (Kd.C_below HCT.out hb); clear HCT; have HCT := n_; clear n_)); (try (have n_ := ak (Kd.C_below HCL.out hb); clear HCL; have HCL := n_; clear n_)); clear hb; obtain ⟨Ae, ce, rfl, hce, hCe⟩ := Kd.R_reads hR; clear hR; (try clear HCE HEc); have HCE := ak hCe; have HEc := ak hce; obtain ⟨ad, rfl, x0, x1, x2, x3, x4, x5⟩ := sh_first hCe; clear hCe hce)
    | (go_at_call 23; refine ( faults_Message.calls 60 At ct shT 10 3 2 4 ⟨#[120]⟩ (-1) shM 0 _ HCT.out HCc.out sh_message ⟨HT.out.stay HB.out⟩).mono ?_; rintro e wm ⟨rfl, hb⟩; have n_ := ak (HB.out.trans (hb.mono HB.out.size)); clear HB; have HB := n_; clear n_ hb)
    | (go_at_call 21; refine ( faults_Picture.calls 60 At ct shT _ ce shE 1 shP 0 _ HCT.out HCc.out HCE.out HEc.out sh_picture ⟨HT.out.stay HB.out⟩).mono ?_; rintro e wq ⟨rfl, hb⟩; have n_ := ak (HB.out.trans (hb.mono HB.out.size)); clear HB; have HB := n_; clear n_ hb)
    | (go_at_call 26; refine ( faults_Chain.calls 60 _ ce shE 1 [1, 0] 0 _ HCE.out HEc.out sh_chain ⟨HT.out.stay HB.out⟩).mono ?_; rintro e wc ⟨vl, rfl, hR, hb⟩; have n_ := ak (HB.out.trans (hb.mono HB.out.size)); clear HB; have HB := n_; clear n_ hb; obtain ⟨Al, cl, rfl, hcl, hCl⟩ := Kd.R_reads hR; clear hR; have HCL := ak hCl; have HLc := ak hcl; clear hCl hcl)
    | (go_at_call 32; refine ( faults_Has.calls 60 _ ce shE 1 10 true 0 _ HCE.out HEc.out sh_has ⟨HT.out.stay HB.out⟩).mono ?_; rintro e wh ⟨rfl, hb⟩; have n_ := ak (HB.out.trans (hb.mono HB.out.size)); clear HB; have HB := n_; clear n_; have n_ := ak (Kd.C_below HCL.out hb); clear HCL; have HCL := n_; clear n_ hb)
    | (go_at_call 34; refine (mummerref04_Ints.calls 60 Al cl [1, 0] _ 2 [1, 0] true _ (Kd.C_alloc HCL.out _) HLc.out (sh_lit _) (Nat.le_refl _) sh_ints).mono ?_; rintro e wi ⟨rfl, hd⟩; have HBi := ak (by obtain ⟨n, rfl⟩ := hd.out; exact wN (wA HB.out _) n : Below w.heap.size w wi); clear hd))
  go_ret
  exact ⟨rfl, HBi.out⟩
end Go.Proofs.YtdjkdlbokepoaaaGreatDoor.P
namespace Go.Proofs.YtdjkdlbokepoaaaGreatDoor.P
open Go.RowKit Go.Proofs.YtdjkdlbokepoaaaGreatDoorW.PrintWords Go.Proofs.YtdjkdlbokepoaaaGreatDoorW.PrintLast Go.Proofs.YtdjkdlbokepoaaaGreatDoorW.PrintMore
attribute [local go_sem] max2_int min2_int max_two min_two max_three min_three max_four min_four   -- for this text's walks alone
set_option linter.unusedVariables false
set_option linter.unusedSimpArgs false
theorem row41 {w : World} {A : Option Addr} {xs : List S41} (h : Kd.C k41 w A xs.length xs) (hne : xs ≠ []) : ∃ b off, A = some ⟨b, off, none⟩ ∧ b < w.heap.size ∧ ∀ j, j < xs.length → ∀ i v, (cells41 xs[j]!)[i]? = some v → w.cell? ⟨b, off + j * 6 + i, none⟩ = some v := by
  have hl : 0 < xs.length := List.length_pos_iff.2 hne
  obtain ⟨ad, rfl, h0, _⟩ := at_T41 h 0 (by omega) (by omega)
  have hs := Sc.cell_spot h0
  obtain ⟨b, off, s⟩ := ad
  cases s with
  | some s => simp [Addr.add] at hs
  | none =>
    refine ⟨b, off, rfl, ?_, fun j hj i v hv => ?_⟩
    · exact World.block_lt_of_cell? w _ h0
    · obtain ⟨ad, e, x0, x1, x2, x3, x4, x5⟩ := at_T41 h (j : Int) (by omega) (by omega)
      cases e
      have ej : rd_T41 xs (j : Int) = xs[j]! := by
        unfold rd_T41
        rw [Int.toNat_natCast, List.getD_eq_getElem?_getD, getElem!_def, List.getElem?_eq_getElem hj]
        rfl
      rw [ej] at x0 x1 x2 x3 x4 x5
      simp only [Addr.add_lit, Int.toNat_natCast] at x0 x1 x2 x3 x4 x5
      unfold cells41 at hv
      match i, hv with
      | 0, hv => cases hv; exact x0
      | 1, hv => cases hv; exact x1
      | 2, hv => cases hv; exact x2
      | 3, hv => cases hv; exact x3
      | 4, hv => cases hv; exact x4
      | 5, hv => cases hv; exact x5
      | i + 6, hv => simp at hv
theorem agg41 (w : World) : (isAgg 41).run Tryz.prog w = .ok true w := by kernel_rfl
theorem size41 (w : World) : (Go.sizeOf 41).run Tryz.prog w = .ok 6 w := by kernel_rfl
theorem root1_calls (x : S41) (g : Nat) (i : Int) (w : World) (h : w.cell? ⟨g, 0, none⟩ = some (.int .i64 i)) :
    Calls Tryz.prog 65 #[.agg (cells41 x).toArray, .pointer (some ⟨g, 0, none⟩)] w fun e w' => e = .returned (.bool (decide (x.f4 = i))) ∧ Below w.heap.size w w' := by
  have e1 : (x.f4 == i) = decide (x.f4 = i) := rfl
  have hg : g < w.heap.size := World.block_lt_of_cell? w ⟨g, 0, none⟩ h
  have h2 : ∀ o, (w.alloc o).cell? ⟨g, 0, none⟩ = some (.int .i64 i) := fun o => by rw [World.cell?_alloc_lt _ _ ⟨g, 0, none⟩ hg]; exact h
  unfold cells41
  go_enter Tryz.func65, Tryz.ntmps65
  go_wp2
  go_ret
  exact ⟨rfl, (Below.refl _ w).alloc (Nat.le_refl _) _⟩
theorem idx_empty (A : Option Addr) (c f : Nat) (lb : Array Value) (w : World) : Calls Tryz.prog 73 #[.slice A 0 c, .func (.func f) #[] lb] w fun e w' => e = .returned (.int .i64 (-1)) ∧ w' = w := by
  go_enter Tryz.func73, Tryz.ntmps73
  go_wp2
  refine wp_loop_rounds 1 ?_
  rw [rounds_succ]
  go_wp2
  go_ret
  exact ⟨rfl, rfl⟩
theorem has_empty (A : Option Addr) (c f : Nat) (lb : Array Value) (w : World) : Calls Tryz.prog 64 #[.slice A 0 c, .func (.func f) #[] lb] w fun e w' => e = .returned (.bool false) ∧ w' = w := by
  go_enter Tryz.func64, Tryz.ntmps64
  go_wp2_with (go_at_call 73; refine (idx_empty A c f lb _).mono ?_; rintro e w' ⟨rfl, rfl⟩)
  go_ret
  exact ⟨rfl, rfl⟩
theorem hasRoot_calls (l0 : List S41) (A0 : Option Addr) (c0 g : Nat) (i : Int) (w : World) (hr : Kd.C k41 w A0 l0.length l0) (hl : l0.length ≤ 1000) (hg : w.cell? ⟨g, 0, none⟩ = some (.int .i64 i)) :
    Calls Tryz.prog 64 #[.slice A0 l0.length c0, .func (.func 65) #[] #[.pointer (some ⟨g, 0, none⟩)]] w fun e w' => e = .returned (.bool (l0.any fun y => decide (y.f4 = i))) ∧ Below w.heap.size w w' := by
  by_cases hne : l0 = []
  · subst hne
    refine (has_empty A0 c0 65 _ w).mono ?_
    rintro e w' ⟨rfl, rfl⟩
    exact ⟨rfl, Below.refl _ _⟩
  · obtain ⟨b, off, rfl, hb, hc⟩ := row41 hr hne
    have h := Tryz.slices_ContainsFunc 6 agg41 size41 cells41 (fun _ => rfl) (fun y => decide (y.f4 = i)) 65 #[.pointer (some ⟨g, 0, none⟩)] (enters_of Tryz.func65 (by kernel_rfl) rfl) b off l0.length c0 l0 w
      (fun W x hB => (root1_calls x g i W (Ft.cell_stay hg hB)).mono fun e w' he => ⟨he.1, hB.trans (he.2.mono hB.size)⟩) (Nat.le_refl _) (by omega) hb hc
    rw [List.take_length] at h
    exact h
def isRoot (l : List S41) (i : Nat) : Bool := !(l.any fun y => decide (y.f4 = (i : Int)))
def rootsUp (l : List S41) (i : Nat) : List Int := ((List.range i).filter (isRoot l)).map (fun j : Nat => (j : Int))
theorem rootsUp_succ (l : List S41) (i : Nat) : rootsUp l (i + 1) = if isRoot l i = true then rootsUp l i ++ [(i : Int)] else rootsUp l i := by
  unfold rootsUp
  rw [List.range_succ, List.filter_append, List.map_append]
  by_cases h : isRoot l i = true
  · rw [if_pos h]; simp [h]
  · rw [if_neg h]; simp [h]
theorem rootsUp_len (l : List S41) (i : Nat) : (rootsUp l i).length ≤ i := by
  unfold rootsUp
  rw [List.length_map]
  exact Nat.le_trans (List.length_filter_le _ _) (by simp)
def faults_Roots.f (k : Nat) (l0 : List S41) : Option (List Int × Int) := (faults_Check.f k 8000 l0).bind fun c => if c.2 = 0 then (if l0.length ≤ 1000 then some (rootsUp l0 l0.length, 0) else none) else some ([], c.2)
theorem box1_cell (w : World) (v : Value) (t : TypeId) : (w.alloc (.cells #[v] t)).cell? ⟨w.heap.size, 0, none⟩ = some v := by
  rw [World.cell?_alloc_at _ _ _ _ rfl]
  rfl
set_option maxHeartbeats 4000000 in
set_option maxRecDepth 100000 in
theorem faults_Roots.calls (k : Nat) (A0 : Option Addr) (c0 : Nat) (l0 : List S41) (r1 : List Int) (r2 : Int) (w : World) (hr0 : Kd.C k41 w A0 l0.length l0) (hc0 : l0.length ≤ c0) (h : faults_Roots.f k l0 = some (r1, r2)) (HT : Aside0 (Ft.All w)) :
    Calls Tryz.prog 31 #[.slice A0 l0.length c0] w fun e w' => ∃ v0_ : Value, e = .returned (.tuple #[v0_, .int .i64 r2]) ∧ Kd.R (Kd.int .i64) 3 w' w.heap.size (fun _ => True) v0_ r1 ∧ Below w.heap.size w w' := by
  unfold faults_Roots.f at h
  obtain ⟨⟨z1, z2⟩, hk, h⟩ := Option.bind_eq_some_iff.mp h
  have HK := ak hk
  have HR := ak hr0
  by_cases he : z2 = 0
  case neg =>
    rw [if_neg he] at h
    cases h
    have b1 : (z2 != 0) = true := bne_iff_ne.mpr he
    have b2 : (z2 == 0) = false := beq_eq_false_iff_ne.mpr he
    clear hk hr0
    go_enter Tryz.func31, Tryz.ntmps31
    go_wp2_with (first
      | (go_at_call 13; refine ( faults_Check.calls k 8000 A0 c0 l0 z1 z2 _ HR.out hc0 HK.out HT).mono ?_; rintro e w1 ⟨rfl, hb1⟩))
    go_ret2
    exact ⟨_, rfl, Kd.R_nil _ _ _ _ _, hb1⟩
  subst he
  rw [if_pos rfl] at h
  by_cases hl : l0.length ≤ 1000
  case neg => rw [if_neg hl] at h; cases h
  rw [if_pos hl] at h
  have e1 : r1 = rootsUp l0 l0.length := (congrArg Prod.fst (Option.some.inj h)).symm
  have e2 : r2 = 0 := (congrArg Prod.snd (Option.some.inj h)).symm
  subst e2
  have E1 := ak e1
  have HL := ak hl
  clear hk hr0 h e1 hl
  go_enter Tryz.func31, Tryz.ntmps31
  go_wp2_with (first
    | (go_at_call 13; refine ( faults_Check.calls k 8000 A0 c0 l0 z1 0 _ HR.out hc0 HK.out HT).mono ?_; rintro e w1 ⟨rfl, hb1⟩; have HB1 := ak hb1; clear hb1))
  go_loopg [6, 18] l0.length (fun gh v6 v18 wr => ∃ (i : Nat), v18 = .int .i64 (i : Int) ∧ i ≤ l0.length ∧ gh = l0.length - i ∧ Aside0 (Kd.R (Kd.int .i64) 3 wr w.heap.size (fun _ => True) v6 (rootsUp l0 i)) ∧ Aside0 (Below w.heap.size w wr))
  case atStart => exact ⟨0, rfl, Nat.zero_le _, rfl, ⟨Kd.R_nil _ _ _ _ _⟩, HB1⟩
  case round =>
    obtain ⟨i, rfl, hi, rfl, HO, HB⟩ := hrel
    clear HB1
    by_cases hil : i < l0.length
    · have hii : ((i : Nat) : Int) < (l0.length : Int) := by omega
      have hw : IntKind.i64.wrap ((i : Int) + 1) = ((i + 1 : Nat) : Int) := by rw [IntKind.wrap_i64]; have := HL.out; omega
      have HC := ak (fun W (hB : Below w.heap.size w W) (hg : W.cell? ⟨wr.heap.size, 0, none⟩ = some (.int .i64 (i : Int))) => hasRoot_calls l0 A0 c0 wr.heap.size (i : Int) W (Kd.C_below HR.out hB) HL.out hg)
      obtain ⟨b, hb⟩ : ∃ b, (l0.any fun y => decide (y.f4 = (i : Int))) = b := ⟨_, rfl⟩
      have HN : Aside0 (rootsUp l0 (i + 1) = if b = true then rootsUp l0 i else rootsUp l0 i ++ [(i : Int)]) := ⟨by
        rw [rootsUp_succ]; unfold isRoot; rw [hb]; cases b <;> rfl⟩
      rw [hb] at HC
      clear hb
      have LM := ak (show (rootsUp l0 i).length < 1001 by have := rootsUp_len l0 i; have := HL.out; omega)
      cases b with
      | true =>
        rw [if_pos rfl] at HN
        go_wp2_with (first
          | (go_at_call 64; refine (HC.out _ (wA HB.out _) (box1_cell wr _ _)).mono ?_; rintro e w3 ⟨rfl, hb3⟩; have HO3 := ak (Kd.R_below (Kd.R_alloc HO.out _) hb3); have HB3 := ak ((wA HB.out _).trans (hb3.mono (wA HB.out _).size)); clear hb3))
        go_roundg (l0.length - (i + 1))
        case measure => omega
        case rel => exact ⟨i + 1, rfl, by omega, rfl, ⟨by rw [HN.out]; exact HO3.out⟩, HB3⟩
      | false =>
        rw [if_neg (by decide)] at HN
        go_wp2_with (first
          | ((with_reducible refine gate_builtin (b := .append) (xs := #[.tmp 25, .tmp 27]) rfl ?_); at_builtin; refine Kd.R_append (Kd.int .i64) (w0 := w) w.heap.size rfl (.tmp 25) (.tmp 27) 43 3 (.int .i64 0) 8 rfl Tryz.underlying43 info3_ rfl (by decide) (by omega) u6 (rootsUp l0 i) (i : Int) [.int .i64 (i : Int)] (fun _ => True) (fun _ => False) rfl rfl ?aP (fun _ hk => hk.elim) ?aF ?aO ?aB ?aS ?aL ?_; (case aP => exact rfl); (case aB => exact HB3.out); (case aF => exact (fun _ _ => trivial)); (case aO => exact HO3.out); (case aS => exact HB3.out.size); (case aL => have := LM.out; omega); intro v302 w9 ho hb hg hat; have HO9 := ak ho; have HB9 := ak hb; clear ho hb hg hat)
          | (go_at_call 64; refine (HC.out _ (wA HB.out _) (box1_cell wr _ _)).mono ?_; rintro e w3 ⟨rfl, hb3⟩; have HO3 := ak (Kd.R_below (Kd.R_alloc HO.out _) hb3); have HB3 := ak ((wA HB.out _).trans (hb3.mono (wA HB.out _).size)); have hi3 := Ft.cell_stay (box1_cell wr (.int .i64 (i : Int)) 3) hb3; clear hb3))
        go_roundg (l0.length - (i + 1))
        case measure => omega
        case rel => exact ⟨i + 1, rfl, by omega, rfl, ⟨by rw [HN.out]; exact HO9.out⟩, HB9⟩
    · obtain rfl : i = l0.length := by omega
      have hii : ¬ ((l0.length : Nat) : Int) < (l0.length : Int) := by omega
      go_wp2
      go_ret2
      rw [E1.out]
      exact ⟨_, rfl, HO.out, HB.out⟩
end Go.Proofs.YtdjkdlbokepoaaaGreatDoor.P
namespace Go.Proofs.YtdjkdlbokepoaaaGreatDoor.P
open Go.RowKit Go.Proofs.YtdjkdlbokepoaaaGreatDoorW.PrintWords Go.Proofs.YtdjkdlbokepoaaaGreatDoorW.PrintLast Go.Proofs.YtdjkdlbokepoaaaGreatDoorW.PrintMore
attribute [local go_sem] max2_int min2_int max_two min_two max_three min_three max_four min_four   -- for this text's walks alone
set_option linter.unusedVariables false
set_option linter.unusedSimpArgs false
mutual
def mummerlaw08_FaultsChains.j0 : Nat → List (S41) → Int → Bool → Option (Bool)
  | 0, _, _, _ => none
  | k + 1, x0, x1, x29 => if x29 = true then ((mummerlaw08_shown.f).bind fun t399 => (some t399)) else ((faults_Roots.f k x0).bind fun bt400 => (if bt400.2 = 0 then (if 0 ≤ (x0.length : Int) then (if ((x0.length : Int) : Int).toNat ≤ 281474976710656 then (mummerlaw08_FaultsChains.l0 k x0 x1 bt400.1 (List.replicate ((x0.length : Int) : Int).toNat false) 0) else (none)) else (none)) else (some false)))
def mummerlaw08_FaultsChains.l0 : Nat → List (S41) → Int → List Int → List Bool → Int → Option (Bool)
  | 0, _, _, _, _, _ => none
  | k + 1, x0, x1, x7, x8, x9 => if x9 < (x0.length : Int) then ((faults_Chain.f k x0 x9).bind fun bt410 => (if bt410.2 = 0 then (if (bt410.1.length : Int) = 0 then (some false) else (if (bt410.1.length : Int) > (x0.length : Int) then (some false) else (if 0 < (bt410.1.length : Int) then (if (rd bt410.1 0) = x9 then (mummerlaw08_FaultsChains.l1 k x0 x1 x7 x8 x9 bt410.1 false 0) else (some false)) else (none)))) else (some false))) else (mummerlaw08_FaultsChains.l4 k x0 x8 0)
def mummerlaw08_FaultsChains.l1 : Nat → List (S41) → Int → List Int → List Bool → Int → List Int → Bool → Int → Option (Bool)
  | 0, _, _, _, _, _, _, _, _ => none
  | k + 1, x0, x1, x7, x8, x9, x10, x12, x13 => if x13 < (x10.length : Int) then (if 0 ≤ x13 then (if (rd x10 x13) < 0 then (some false) else (if (rd x10 x13) ≥ (x0.length : Int) then (some false) else (if (wrap64 (x13 + 1)) < (x10.length : Int) then (if 0 ≤ (wrap64 (x13 + 1)) then (if 0 ≤ (rd x10 x13) then (if (rd x10 x13) < (x0.length : Int) then (if (rd x10 (wrap64 (x13 + 1))) = ((rd_T41 x0 (rd x10 x13)).f4) then (if (wrap64 (x13 + 1)) = (x10.length : Int) then (if ((rd_T41 x0 (rd x10 x13)).f4) = (-1) then (if x12 = true then (mummerlaw08_FaultsChains.l1 k x0 x1 x7 x8 x9 x10 true (wrap64 (x13 + 1))) else (mummerlaw08_FaultsChains.l1 k x0 x1 x7 x8 x9 x10 (((rd_T41 x0 (rd x10 x13)).f0) == x1) (wrap64 (x13 + 1)))) else (some false)) else (if x12 = true then (mummerlaw08_FaultsChains.l1 k x0 x1 x7 x8 x9 x10 true (wrap64 (x13 + 1))) else (mummerlaw08_FaultsChains.l1 k x0 x1 x7 x8 x9 x10 (((rd_T41 x0 (rd x10 x13)).f0) == x1) (wrap64 (x13 + 1))))) else (some false)) else (none)) else (none)) else (none)) else (if (wrap64 (x13 + 1)) = (x10.length : Int) then (if 0 ≤ (rd x10 x13) then (if (rd x10 x13) < (x0.length : Int) then (if ((rd_T41 x0 (rd x10 x13)).f4) = (-1) then (if x12 = true then (mummerlaw08_FaultsChains.l1 k x0 x1 x7 x8 x9 x10 true (wrap64 (x13 + 1))) else (mummerlaw08_FaultsChains.l1 k x0 x1 x7 x8 x9 x10 (((rd_T41 x0 (rd x10 x13)).f0) == x1) (wrap64 (x13 + 1)))) else (some false)) else (none)) else (none)) else (if x12 = true then (mummerlaw08_FaultsChains.l1 k x0 x1 x7 x8 x9 x10 true (wrap64 (x13 + 1))) else (if 0 ≤ (rd x10 x13) then (if (rd x10 x13) < (x0.length : Int) then (mummerlaw08_FaultsChains.l1 k x0 x1 x7 x8 x9 x10 (((rd_T41 x0 (rd x10 x13)).f0) == x1) (wrap64 (x13 + 1))) else (none)) else (none))))))) else (none)) else ((faults_Has.f k x0 x9 x1).bind fun bt432 => (if (bt432.1 != x12) = true then (some false) else (if bt432.2 = 0 then (mummerlaw08_FaultsChains.l2 k x0 x1 x7 x8 x9 x10 0) else (some false))))
def mummerlaw08_FaultsChains.l2 : Nat → List (S41) → Int → List Int → List Bool → Int → List Int → Int → Option (Bool)
  | 0, _, _, _, _, _, _, _ => none
  | k + 1, x0, x1, x7, x8, x9, x10, x16 => if x16 < (x7.length : Int) then (if 0 ≤ x16 then (if (rd x7 x16) = x9 then (mummerlaw08_FaultsChains.l3 k x0 x1 x7 x8 x9 x10 x16 0) else (mummerlaw08_FaultsChains.l2 k x0 x1 x7 x8 x9 x10 (wrap64 (x16 + 1)))) else (none)) else (mummerlaw08_FaultsChains.l0 k x0 x1 x7 x8 (wrap64 (x9 + 1)))
def mummerlaw08_FaultsChains.l3 : Nat → List (S41) → Int → List Int → List Bool → Int → List Int → Int → Int → Option (Bool)
  | 0, _, _, _, _, _, _, _, _ => none
  | k + 1, x0, x1, x7, x8, x9, x10, x16, x17 => if x17 < (x10.length : Int) then (if 0 ≤ x17 then (if 0 ≤ (rd x10 x17) then (if (rd x10 x17) < (x8.length : Int) then (mummerlaw08_FaultsChains.l3 k x0 x1 x7 (x8.set ((rd x10 x17) : Int).toNat true) x9 x10 x16 (wrap64 (x17 + 1))) else (none)) else (none)) else (none)) else (mummerlaw08_FaultsChains.l2 k x0 x1 x7 x8 x9 x10 (wrap64 (x16 + 1)))
def mummerlaw08_FaultsChains.l4 : Nat → List (S41) → List Bool → Int → Option (Bool)
  | 0, _, _, _ => none
  | k + 1, x0, x8, x18 => if x18 < (x0.length : Int) then (if 0 ≤ x18 then (if x18 < (x8.length : Int) then (if rdOf false x8 x18 = true then (mummerlaw08_FaultsChains.l4 k x0 x8 (wrap64 (x18 + 1))) else (some false)) else (none)) else (none)) else ((mummerlaw08_shown.f).bind fun t438 => (some t438))
end
def mummerlaw08_FaultsChains.f (k : Nat) (l0 : List (S41)) (a1 : Int) : Option (Bool) := (faults_Check.f k 8000 l0).bind fun bt396 => ((mummerlaw08_far.f k l0).bind fun t398 => (if t398 = true then (mummerlaw08_FaultsChains.j0 k l0 a1 true) else (mummerlaw08_FaultsChains.j0 k l0 a1 (bt396.2 != 0))))
set_option maxHeartbeats 8000000 in
set_option maxRecDepth 100000 in
theorem mummerlaw08_FaultsChains.calls (k : Nat) (A0 : Option Addr) (c0 : Nat) (l0 : List (S41)) (a1 : Int) (r : Bool) (w : World) (hr0 : Kd.C k41 w A0 l0.length l0) (hc0 : l0.length ≤ c0) (hrt : Aside0 (r = true)) (h : mummerlaw08_FaultsChains.f k l0 a1 = some r) (HT : Aside0 (Ft.All w)) :
    Calls Tryz.prog 8 #[.slice A0 l0.length c0, .int .i64 a1] w fun e w' => e = .returned (.bool r) ∧ Below w.heap.size w w' := by
  have HR0 := ak hr0
  have HC0 := ak hc0
  clear hr0 hc0
  have HB := ak (Below.refl w.heap.size w)
  have H : ((faults_Check.f k 8000 l0).bind fun bt396 => ((mummerlaw08_far.f k l0).bind fun t398 => (if t398 = true then (mummerlaw08_FaultsChains.j0 k l0 a1 true) else (mummerlaw08_FaultsChains.j0 k l0 a1 (bt396.2 != 0))))) = some r := h
  clear h
  replace H := Option.bind_eq_some_iff.mp H
  obtain ⟨⟨t396, t397⟩, A30, H⟩ := H
  replace H : ((mummerlaw08_far.f k l0).bind fun t398 => (if t398 = true then (mummerlaw08_FaultsChains.j0 k l0 a1 true) else (mummerlaw08_FaultsChains.j0 k l0 a1 (t397 != 0)))) = some r := H
  have A3 := ak A30
  clear A30
  have HC4 := ak H
  clear H
  go_enter Tryz.func8, Tryz.ntmps8
  go_upto_region 2 with (first | (go_at_call 13; (with_reducible refine (faults_Check.calls k 8000 _ _ l0 t396 t397 _ ?side1 ?side2 A3.out ⟨Ft.All.stay HT.out (by repeat (first | (with_reducible first | exact HB.out | apply wA | apply wN | apply wD) | exact HB.out | (refine below_set ?_ (by assumption)) | (refine below_set ?_ (Aside0.out (by assumption)))))⟩).mono ?_); (case side1 => repeat (first | exact HR0.out | (with_reducible refine Kd.C_alloc ?_ _) | (with_reducible refine Kd.C_drewN ?_ _) | (with_reducible refine Kd.C_drew ?_))); (case side2 => exact HC0.out); rintro e w5 ⟨rfl, hb⟩; have n0_ := ak (below_step (by repeat (first | (with_reducible first | exact HB.out | apply wA | apply wN | apply wD) | exact HB.out)) hb); clear HB; have HB := n0_; clear n0_; (try clear hb); (try clear hb2); (try clear hk); (try clear hi)))
  repeat (go_quiet (first | (go_at_call 13; (with_reducible refine (faults_Check.calls k 8000 _ _ l0 t396 t397 _ ?side1 ?side2 A3.out ⟨Ft.All.stay HT.out (by repeat (first | (with_reducible first | exact HB.out | apply wA | apply wN | apply wD) | exact HB.out | (refine below_set ?_ (by assumption)) | (refine below_set ?_ (Aside0.out (by assumption)))))⟩).mono ?_); (case side1 => repeat (first | exact HR0.out | (with_reducible refine Kd.C_alloc ?_ _) | (with_reducible refine Kd.C_drewN ?_ _) | (with_reducible refine Kd.C_drew ?_))); (case side2 => exact HC0.out); rintro e w5 ⟨rfl, hb⟩; have n0_ := ak (below_step (by repeat (first | (with_reducible first | exact HB.out | apply wA | apply wN | apply wD) | exact HB.out)) hb); clear HB; have HB := n0_; clear n0_; (try clear hb); (try clear hb2); (try clear hk); (try clear hi))); go_upto_region 2 with (first | (go_at_call 13; (with_reducible refine (faults_Check.calls k 8000 _ _ l0 t396 t397 _ ?side1 ?side2 A3.out ⟨Ft.All.stay HT.out (by repeat (first | (with_reducible first | exact HB.out | apply wA | apply wN | apply wD) | exact HB.out | (refine below_set ?_ (by assumption)) | (refine below_set ?_ (Aside0.out (by assumption)))))⟩).mono ?_); (case side1 => repeat (first | exact HR0.out | (with_reducible refine Kd.C_alloc ?_ _) | (with_reducible refine Kd.C_drewN ?_ _) | (with_reducible refine Kd.C_drew ?_))); (case side2 => exact HC0.out); rintro e w5 ⟨rfl, hb⟩; have n0_ := ak (below_step (by repeat (first | (with_reducible first | exact HB.out | apply wA | apply wN | apply wD) | exact HB.out)) hb); clear HB; have HB := n0_; clear n0_; (try clear hb); (try clear hb2); (try clear hk); (try clear hi))))
  (try simp only [Act.put, List.setIfInBounds_toArray, List.set_cons_zero, List.set_cons_succ])
  go_cut [29] (fun v29 wc => ∃ (kq : Nat) (x29_3 : Bool), v29 = .bool x29_3 ∧ Aside0 (mummerlaw08_FaultsChains.j0 kq l0 a1 x29_3 = some r) ∧ Aside0 (kq ≤ k) ∧ Aside0 (Below w.heap.size w wc))
  case first =>
    as_aux_lemma =>
     have H := HC4.out
     clear HC4
     replace H := Option.bind_eq_some_iff.mp H
     obtain ⟨t398, A60, H⟩ := H
     replace H : (if t398 = true then (mummerlaw08_FaultsChains.j0 k l0 a1 true) else (mummerlaw08_FaultsChains.j0 k l0 a1 (t397 != 0))) = some r := H
     have A6 := ak A60
     clear A60
     by_cases c7 : t398 = true
     · subst c7
       have H1 : (mummerlaw08_FaultsChains.j0 k l0 a1 true) = some r := by rw [if_pos rfl] at H; exact H
       clear H
       have H := H1
       clear H1
       have H' := ak H
       clear H
       go_wp2_with (first | (go_at_call 11; (with_reducible refine (mummerlaw08_far.calls k _ _ l0 true _ ?side1 ?side2 A6.out).mono ?_); (case side1 => repeat (first | exact (Kd.C_below HR0.out HB.out) | (with_reducible refine Kd.C_alloc ?_ _) | (with_reducible refine Kd.C_drewN ?_ _) | (with_reducible refine Kd.C_drew ?_))); (case side2 => exact HC0.out); rintro e w' ⟨rfl, ⟨nd, rfl⟩⟩; (try first | exact ⟨rfl, _, World.drewN_drewN _ _ _⟩ | exact ⟨rfl, _, Eq.trans (World.drewN_drewN _ _ _) (congrArg (World.drewN _) (Nat.add_assoc _ _ _))⟩)))
       repeat (go_quiet (first | (go_at_call 11; (with_reducible refine (mummerlaw08_far.calls k _ _ l0 true _ ?side1 ?side2 A6.out).mono ?_); (case side1 => repeat (first | exact (Kd.C_below HR0.out HB.out) | (with_reducible refine Kd.C_alloc ?_ _) | (with_reducible refine Kd.C_drewN ?_ _) | (with_reducible refine Kd.C_drew ?_))); (case side2 => exact HC0.out); rintro e w' ⟨rfl, ⟨nd, rfl⟩⟩; (try first | exact ⟨rfl, _, World.drewN_drewN _ _ _⟩ | exact ⟨rfl, _, Eq.trans (World.drewN_drewN _ _ _) (congrArg (World.drewN _) (Nat.add_assoc _ _ _))⟩))); try go_wp2_with (first | (go_at_call 11; (with_reducible refine (mummerlaw08_far.calls k _ _ l0 true _ ?side1 ?side2 A6.out).mono ?_); (case side1 => repeat (first | exact (Kd.C_below HR0.out HB.out) | (with_reducible refine Kd.C_alloc ?_ _) | (with_reducible refine Kd.C_drewN ?_ _) | (with_reducible refine Kd.C_drew ?_))); (case side2 => exact HC0.out); rintro e w' ⟨rfl, ⟨nd, rfl⟩⟩; (try first | exact ⟨rfl, _, World.drewN_drewN _ _ _⟩ | exact ⟨rfl, _, Eq.trans (World.drewN_drewN _ _ _) (congrArg (World.drewN _) (Nat.add_assoc _ _ _))⟩))))
       go_meet
       case rel => exact ⟨_, (true), (by first | rfl | (simp; done) | (simp [*]; done)), H', ⟨by first | omega | exact Nat.le_refl _⟩, ⟨by repeat (first | (with_reducible first | exact HB.out | apply wA | apply wN | apply wD) | exact HB.out)⟩⟩
     · replace c7 := Bool.eq_false_iff.mpr c7
       subst c7
       have H1 : (mummerlaw08_FaultsChains.j0 k l0 a1 (t397 != 0)) = some r := by rw [if_neg (show ¬ (false = true) by decide)] at H; exact H
       clear H
       have H := H1
       clear H1
       have H' := ak H
       clear H
       go_wp2_with (first | (go_at_call 11; (with_reducible refine (mummerlaw08_far.calls k _ _ l0 false _ ?side1 ?side2 A6.out).mono ?_); (case side1 => repeat (first | exact (Kd.C_below HR0.out HB.out) | (with_reducible refine Kd.C_alloc ?_ _) | (with_reducible refine Kd.C_drewN ?_ _) | (with_reducible refine Kd.C_drew ?_))); (case side2 => exact HC0.out); rintro e w' ⟨rfl, ⟨nd, rfl⟩⟩; (try first | exact ⟨rfl, _, World.drewN_drewN _ _ _⟩ | exact ⟨rfl, _, Eq.trans (World.drewN_drewN _ _ _) (congrArg (World.drewN _) (Nat.add_assoc _ _ _))⟩)))
       repeat (go_quiet (first | (go_at_call 11; (with_reducible refine (mummerlaw08_far.calls k _ _ l0 false _ ?side1 ?side2 A6.out).mono ?_); (case side1 => repeat (first | exact (Kd.C_below HR0.out HB.out) | (with_reducible refine Kd.C_alloc ?_ _) | (with_reducible refine Kd.C_drewN ?_ _) | (with_reducible refine Kd.C_drew ?_))); (case side2 => exact HC0.out); rintro e w' ⟨rfl, ⟨nd, rfl⟩⟩; (try first | exact ⟨rfl, _, World.drewN_drewN _ _ _⟩ | exact ⟨rfl, _, Eq.trans (World.drewN_drewN _ _ _) (congrArg (World.drewN _) (Nat.add_assoc _ _ _))⟩))); try go_wp2_with (first | (go_at_call 11; (with_reducible refine (mummerlaw08_far.calls k _ _ l0 false _ ?side1 ?side2 A6.out).mono ?_); (case side1 => repeat (first | exact (Kd.C_below HR0.out HB.out) | (with_reducible refine Kd.C_alloc ?_ _) | (with_reducible refine Kd.C_drewN ?_ _) | (with_reducible refine Kd.C_drew ?_))); (case side2 => exact HC0.out); rintro e w' ⟨rfl, ⟨nd, rfl⟩⟩; (try first | exact ⟨rfl, _, World.drewN_drewN _ _ _⟩ | exact ⟨rfl, _, Eq.trans (World.drewN_drewN _ _ _) (congrArg (World.drewN _) (Nat.add_assoc _ _ _))⟩))))
       go_meet
       case rel => exact ⟨_, ((t397 != 0)), (by first | rfl | (simp; done) | (simp [*]; done) | (cases t397 <;> simp)), H', ⟨by first | omega | exact Nat.le_refl _⟩, ⟨by repeat (first | (with_reducible first | exact HB.out | apply wA | apply wN | apply wD) | exact HB.out)⟩⟩
  case rest =>
    as_aux_lemma =>
     clear HC4
     try clear p2
     try clear c7
     obtain ⟨kq, x29_3, rfl, HA, HJ3, HB⟩ := hcut
     cases kq with
     | zero => exact absurd HA.out (by simp [mummerlaw08_FaultsChains.j0])
     | succ kj3 =>
       have H := HA.out
       clear HA
       simp only [mummerlaw08_FaultsChains.j0] at H
       by_cases c8 : x29_3 = true
       · subst c8
         have H1 : ((mummerlaw08_shown.f).bind fun t399 => (some t399)) = some r := by rw [if_pos rfl] at H; exact H
         clear H
         have H := H1
         clear H1
         replace H := Option.bind_eq_some_iff.mp H
         obtain ⟨t399, A90, H⟩ := H
         replace H : (some t399) = some r := H
         have A9 := ak A90
         clear A90
         obtain rfl := Option.some.inj H
         go_wp2_with (first | (go_at_call 12; (with_reducible refine (mummerlaw08_shown.calls  t399 _ hrt A9.out ⟨Ft.All.stay HT.out (by repeat (first | (with_reducible first | exact HB.out | apply wA | apply wN | apply wD) | exact HB.out | (refine below_set ?_ (by assumption)) | (refine below_set ?_ (Aside0.out (by assumption)))))⟩).mono ?_); rintro e w10 ⟨rfl, hb⟩; have n0_ := ak (below_step (by repeat (first | (with_reducible first | exact HB.out | apply wA | apply wN | apply wD) | exact HB.out)) hb); clear HB; have HB := n0_; clear n0_; (try clear hb); (try clear hb2); (try clear hk); (try clear hi)))
         repeat (go_quiet (first | (go_at_call 12; (with_reducible refine (mummerlaw08_shown.calls  t399 _ hrt A9.out ⟨Ft.All.stay HT.out (by repeat (first | (with_reducible first | exact HB.out | apply wA | apply wN | apply wD) | exact HB.out | (refine below_set ?_ (by assumption)) | (refine below_set ?_ (Aside0.out (by assumption)))))⟩).mono ?_); rintro e w10 ⟨rfl, hb⟩; have n0_ := ak (below_step (by repeat (first | (with_reducible first | exact HB.out | apply wA | apply wN | apply wD) | exact HB.out)) hb); clear HB; have HB := n0_; clear n0_; (try clear hb); (try clear hb2); (try clear hk); (try clear hi))); try go_wp2_with (first | (go_at_call 12; (with_reducible refine (mummerlaw08_shown.calls  t399 _ hrt A9.out ⟨Ft.All.stay HT.out (by repeat (first | (with_reducible first | exact HB.out | apply wA | apply wN | apply wD) | exact HB.out | (refine below_set ?_ (by assumption)) | (refine below_set ?_ (Aside0.out (by assumption)))))⟩).mono ?_); rintro e w10 ⟨rfl, hb⟩; have n0_ := ak (below_step (by repeat (first | (with_reducible first | exact HB.out | apply wA | apply wN | apply wD) | exact HB.out)) hb); clear HB; have HB := n0_; clear n0_; (try clear hb); (try clear hb2); (try clear hk); (try clear hi))))
         go_ret
         exact ⟨by first | rfl | (simp [errW_none, errW_some] <;> rfl) | (simp [*, errW_none, errW_some] <;> rfl), by repeat (first | (with_reducible first | exact HB.out | apply wA | apply wN | apply wD) | exact HB.out)⟩
       · replace c8 := Bool.eq_false_iff.mpr c8
         subst c8
         have H1 : ((faults_Roots.f kj3 l0).bind fun bt400 => (if bt400.2 = 0 then (if 0 ≤ (l0.length : Int) then (if ((l0.length : Int) : Int).toNat ≤ 281474976710656 then (mummerlaw08_FaultsChains.l0 kj3 l0 a1 bt400.1 (List.replicate ((l0.length : Int) : Int).toNat false) 0) else (none)) else (none)) else (some false))) = some r := by rw [if_neg (show ¬ (false = true) by decide)] at H; exact H
         clear H
         have H := H1
         clear H1
         replace H := Option.bind_eq_some_iff.mp H
         obtain ⟨⟨t400, t401⟩, A110, H⟩ := H
         replace H : (if t401 = 0 then (if 0 ≤ (l0.length : Int) then (if ((l0.length : Int) : Int).toNat ≤ 281474976710656 then (mummerlaw08_FaultsChains.l0 kj3 l0 a1 t400 (List.replicate ((l0.length : Int) : Int).toNat false) 0) else (none)) else (none)) else (some false)) = some r := H
         have A11 := ak A110
         clear A110
         by_cases c12 : t401 = 0
         · rw [if_pos c12] at H
           have c12b0 : (t401 == 0) = true := beq_iff_eq.mpr c12
           have c12b1 : (t401 != 0) = false := bne_eq_false_iff_eq.mpr c12
           clear c12
           by_cases c13 : 0 ≤ (l0.length : Int)
           · rw [if_pos c13] at H
             have c13b0 := eq_true c13
             have c13b1 : decide (0 ≤ (l0.length : Int)) = true := decide_eq_true c13
             clear c13
             by_cases c14 : ((l0.length : Int) : Int).toNat ≤ 281474976710656
             · rw [if_pos c14] at H
               have c14b0 := eq_true c14
               have c14b1 : decide (((l0.length : Int) : Int).toNat ≤ 281474976710656) = true := decide_eq_true c14
               clear c14
               obtain ⟨y407, hy407⟩ : ∃ y_ : List Bool, y_ = (List.replicate ((l0.length : Int) : Int).toNat false) := ⟨_, rfl⟩
               replace H : (mummerlaw08_FaultsChains.l0 kj3 l0 a1 t400 y407 0) = some r := by first | (rw [hy407]; with_reducible exact H) | (have H2_ := (Option.bind_some _ _).symm.trans H; rw [hy407]; with_reducible exact H2_) | (have H2_ := (Option.bind_some _ _).symm.trans H; with_reducible exact H2_) | with_reducible exact H | (rw [hy407]; exact H) | exact H
               have Ny407 := ak hy407
               clear hy407
               have H' := ak H
               clear H
               go_wp2_with (first | (go_at_call 31; (with_reducible refine (faults_Roots.calls kj3 _ _ l0 t400 t401 _ ?side1 ?side2 A11.out ⟨Ft.All.stay HT.out (by repeat (first | (with_reducible first | exact HB.out | apply wA | apply wN | apply wD) | exact HB.out | (refine below_set ?_ (by assumption)) | (refine below_set ?_ (Aside0.out (by assumption)))))⟩).mono ?_); (case side1 => repeat (first | exact (Kd.C_below HR0.out HB.out) | (with_reducible refine Kd.C_alloc ?_ _) | (with_reducible refine Kd.C_drewN ?_ _) | (with_reducible refine Kd.C_drew ?_))); (case side2 => exact HC0.out); rintro e w15 ⟨v402, rfl, ho0, hb⟩; have n0_ := ak (Kd.R_lower ho0 (below_size (by repeat (first | (with_reducible first | exact HB.out | apply wA | apply wN | apply wD) | exact HB.out)))); have n1_ := ak (below_step (by repeat (first | (with_reducible first | exact HB.out | apply wA | apply wN | apply wD) | exact HB.out)) hb); clear HB; have HO403 := n0_; have HB := n1_; clear n0_ n1_; (try clear hb); (try clear hb2); (try clear hk); (try clear hi); (try clear ho0)) | ((with_reducible refine gate_dst (N := 40) rfl ?_); (try (refine gate_guard (by rfl) ?_; dsimp only)); refine Kd.R_make Kd.bool _ 4 rfl (N := 40) rfl 54 _ _ rfl (l0.length : Int) rfl rfl Tryz.underlying54 (.bool false) 1 info4 rfl (by decide) (by omega) false (ok := fun _ => True) (okp := fun _ => True) rfl (fun _ hk => hk) trivial (of_decide_eq_true (by first | (with_reducible assumption) | assumption)) (Nat.le_trans (Nat.mul_le_mul_right _ (of_decide_eq_true (by first | (with_reducible assumption) | assumption) : (l0.length : Int).toNat ≤ 281474976710656)) (by omega)) (Below.refl _ _) (Nat.le_refl _) ?_; intro v408 w16 ho17 hb hg_ hnew_; clear hg_ hnew_; (first | rw [← Ny407.out] at ho17 | (simp only [Int.reduceToNat] at ho17; rw [← Ny407.out] at ho17)); have n0_ := ak (Kd.R_below (by (with_reducible repeat (first | apply Kd.R_alloc | apply Kd.R_drewN | apply Kd.R_drew)); exact HO403.out) hb); have n1_ := ak (Kd.R_lower ho17 (below_size (by repeat (first | (with_reducible first | exact HB.out | apply wA | apply wN | apply wD) | exact HB.out)))); have n2_ := ak (below_step (by repeat (first | (with_reducible first | exact HB.out | apply wA | apply wN | apply wD) | exact HB.out)) hb); clear HO403; clear HB; have HO403 := n0_; have HO409 := n1_; have HB := n2_; clear n0_ n1_ n2_; clear hb ho17))
               repeat (go_quiet (first | (go_at_call 31; (with_reducible refine (faults_Roots.calls kj3 _ _ l0 t400 t401 _ ?side1 ?side2 A11.out ⟨Ft.All.stay HT.out (by repeat (first | (with_reducible first | exact HB.out | apply wA | apply wN | apply wD) | exact HB.out | (refine below_set ?_ (by assumption)) | (refine below_set ?_ (Aside0.out (by assumption)))))⟩).mono ?_); (case side1 => repeat (first | exact (Kd.C_below HR0.out HB.out) | (with_reducible refine Kd.C_alloc ?_ _) | (with_reducible refine Kd.C_drewN ?_ _) | (with_reducible refine Kd.C_drew ?_))); (case side2 => exact HC0.out); rintro e w15 ⟨v402, rfl, ho0, hb⟩; have n0_ := ak (Kd.R_lower ho0 (below_size (by repeat (first | (with_reducible first | exact HB.out | apply wA | apply wN | apply wD) | exact HB.out)))); have n1_ := ak (below_step (by repeat (first | (with_reducible first | exact HB.out | apply wA | apply wN | apply wD) | exact HB.out)) hb); clear HB; have HO403 := n0_; have HB := n1_; clear n0_ n1_; (try clear hb); (try clear hb2); (try clear hk); (try clear hi); (try clear ho0)) | ((with_reducible refine gate_dst (N := 40) rfl ?_); (try (refine gate_guard (by rfl) ?_; dsimp only)); refine Kd.R_make Kd.bool _ 4 rfl (N := 40) rfl 54 _ _ rfl (l0.length : Int) rfl rfl Tryz.underlying54 (.bool false) 1 info4 rfl (by decide) (by omega) false (ok := fun _ => True) (okp := fun _ => True) rfl (fun _ hk => hk) trivial (of_decide_eq_true (by first | (with_reducible assumption) | assumption)) (Nat.le_trans (Nat.mul_le_mul_right _ (of_decide_eq_true (by first | (with_reducible assumption) | assumption) : (l0.length : Int).toNat ≤ 281474976710656)) (by omega)) (Below.refl _ _) (Nat.le_refl _) ?_; intro v408 w16 ho17 hb hg_ hnew_; clear hg_ hnew_; (first | rw [← Ny407.out] at ho17 | (simp only [Int.reduceToNat] at ho17; rw [← Ny407.out] at ho17)); have n0_ := ak (Kd.R_below (by (with_reducible repeat (first | apply Kd.R_alloc | apply Kd.R_drewN | apply Kd.R_drew)); exact HO403.out) hb); have n1_ := ak (Kd.R_lower ho17 (below_size (by repeat (first | (with_reducible first | exact HB.out | apply wA | apply wN | apply wD) | exact HB.out)))); have n2_ := ak (below_step (by repeat (first | (with_reducible first | exact HB.out | apply wA | apply wN | apply wD) | exact HB.out)) hb); clear HO403; clear HB; have HO403 := n0_; have HO409 := n1_; have HB := n2_; clear n0_ n1_ n2_; clear hb ho17)); try go_wp2_with (first | (go_at_call 31; (with_reducible refine (faults_Roots.calls kj3 _ _ l0 t400 t401 _ ?side1 ?side2 A11.out ⟨Ft.All.stay HT.out (by repeat (first | (with_reducible first | exact HB.out | apply wA | apply wN | apply wD) | exact HB.out | (refine below_set ?_ (by assumption)) | (refine below_set ?_ (Aside0.out (by assumption)))))⟩).mono ?_); (case side1 => repeat (first | exact (Kd.C_below HR0.out HB.out) | (with_reducible refine Kd.C_alloc ?_ _) | (with_reducible refine Kd.C_drewN ?_ _) | (with_reducible refine Kd.C_drew ?_))); (case side2 => exact HC0.out); rintro e w15 ⟨v402, rfl, ho0, hb⟩; have n0_ := ak (Kd.R_lower ho0 (below_size (by repeat (first | (with_reducible first | exact HB.out | apply wA | apply wN | apply wD) | exact HB.out)))); have n1_ := ak (below_step (by repeat (first | (with_reducible first | exact HB.out | apply wA | apply wN | apply wD) | exact HB.out)) hb); clear HB; have HO403 := n0_; have HB := n1_; clear n0_ n1_; (try clear hb); (try clear hb2); (try clear hk); (try clear hi); (try clear ho0)) | ((with_reducible refine gate_dst (N := 40) rfl ?_); (try (refine gate_guard (by rfl) ?_; dsimp only)); refine Kd.R_make Kd.bool _ 4 rfl (N := 40) rfl 54 _ _ rfl (l0.length : Int) rfl rfl Tryz.underlying54 (.bool false) 1 info4 rfl (by decide) (by omega) false (ok := fun _ => True) (okp := fun _ => True) rfl (fun _ hk => hk) trivial (of_decide_eq_true (by first | (with_reducible assumption) | assumption)) (Nat.le_trans (Nat.mul_le_mul_right _ (of_decide_eq_true (by first | (with_reducible assumption) | assumption) : (l0.length : Int).toNat ≤ 281474976710656)) (by omega)) (Below.refl _ _) (Nat.le_refl _) ?_; intro v408 w16 ho17 hb hg_ hnew_; clear hg_ hnew_; (first | rw [← Ny407.out] at ho17 | (simp only [Int.reduceToNat] at ho17; rw [← Ny407.out] at ho17)); have n0_ := ak (Kd.R_below (by (with_reducible repeat (first | apply Kd.R_alloc | apply Kd.R_drewN | apply Kd.R_drew)); exact HO403.out) hb); have n1_ := ak (Kd.R_lower ho17 (below_size (by repeat (first | (with_reducible first | exact HB.out | apply wA | apply wN | apply wD) | exact HB.out)))); have n2_ := ak (below_step (by repeat (first | (with_reducible first | exact HB.out | apply wA | apply wN | apply wD) | exact HB.out)) hb); clear HO403; clear HB; have HO403 := n0_; have HO409 := n1_; have HB := n2_; clear n0_ n1_ n2_; clear hb ho17)))
               go_loopg [9] kj3 (fun kq v9 w' => ∃ (x8_2 : List Bool) (x9_2 : Int), v9 = .int .i64 x9_2 ∧ Aside0 (mummerlaw08_FaultsChains.l0 kq l0 a1 t400 x8_2 x9_2 = some r) ∧ Aside0 (kq ≤ kj3) ∧ Aside0 (Kd.R (Kd.int .i64) 3 w' w.heap.size (fun _ => True) v402 t400) ∧ Aside0 (Kd.R Kd.bool 4 w' w.heap.size (fun _ => True) v408 x8_2) ∧ Aside0 (Below w.heap.size w w'))
               case atStart => exact ⟨(y407), (0), (by first | rfl | (simp; done) | (simp [*]; done)), H', ⟨Nat.le_refl _⟩, ⟨by (with_reducible repeat (first | apply Kd.R_alloc | apply Kd.R_drewN | apply Kd.R_drew)); exact HO403.out⟩, ⟨by (with_reducible repeat (first | apply Kd.R_alloc | apply Kd.R_drewN | apply Kd.R_drew)); exact HO409.out⟩, ⟨by repeat (first | (with_reducible first | exact HB.out | apply wA | apply wN | apply wD) | exact HB.out)⟩⟩
               case round =>
                 clear H'
                 try clear c1
                 try clear p2
                 try clear c7
                 try clear c8
                 try clear c12
                 try clear c12b0
                 try clear c12b1
                 try clear c13
                 try clear c13b0
                 try clear c13b1
                 try clear c14
                 try clear c14b0
                 try clear c14b1
                 try clear p2
                 obtain ⟨x8_2, x9_2, rfl, HA, HK2, HO_7, HO_8, HB⟩ := hrel
                 cases gk with
                 | zero => exact absurd HA.out (by simp [mummerlaw08_FaultsChains.l0])
                 | succ k2 =>
                   have H := HA.out
                   clear HA
                   simp only [mummerlaw08_FaultsChains.l0] at H
                   by_cases c18 : x9_2 < (l0.length : Int)
                   · rw [if_pos c18] at H
                     have c18b0 : decide (x9_2 < (l0.length : Int)) = true := decide_eq_true c18
                     clear c18
                     replace H := Option.bind_eq_some_iff.mp H
                     obtain ⟨⟨t410, t411⟩, A190, H⟩ := H
                     replace H : (if t411 = 0 then (if (t410.length : Int) = 0 then (some false) else (if (t410.length : Int) > (l0.length : Int) then (some false) else (if 0 < (t410.length : Int) then (if (rd t410 0) = x9_2 then (mummerlaw08_FaultsChains.l1 k2 l0 a1 t400 x8_2 x9_2 t410 false 0) else (some false)) else (none)))) else (some false)) = some r := H
                     have A19 := ak A190
                     clear A190
                     by_cases c20 : t411 = 0
                     · rw [if_pos c20] at H
                       have c20b0 : (t411 == 0) = true := beq_iff_eq.mpr c20
                       have c20b1 : (t411 != 0) = false := bne_eq_false_iff_eq.mpr c20
                       clear c20
                       by_cases c21 : (t410.length : Int) = 0
                       · rw [if_pos c21] at H
                         have c21b0 : ((t410.length : Int) == 0) = true := beq_iff_eq.mpr c21
                         have c21b1 : ((t410.length : Int) != 0) = false := bne_eq_false_iff_eq.mpr c21
                         clear c21
                         exact absurd ((Option.some.inj H).trans hrt.out) (by decide)
                       · rw [if_neg c21] at H
                         have c21b0 : ((t410.length : Int) == 0) = false := beq_eq_false_iff_ne.mpr c21
                         have c21b1 : ((t410.length : Int) != 0) = true := bne_iff_ne.mpr c21
                         have c21b2 : ¬ (t410 = []) := fun h_ => c21 (by rw [h_]; rfl)
                         by_cases c22 : (t410.length : Int) > (l0.length : Int)
                         · rw [if_pos c22] at H
                           have c22b0 : decide ((l0.length : Int) < (t410.length : Int)) = true := decide_eq_true c22
                           have c22b1 : decide (l0.length < t410.length) = true := decide_eq_true (Int.ofNat_lt.mp c22)
                           clear c22
                           exact absurd ((Option.some.inj H).trans hrt.out) (by decide)
                         · rw [if_neg c22] at H
                           have c22b0 : decide ((l0.length : Int) < (t410.length : Int)) = false := decide_eq_false c22
                           have c22b1 : decide (l0.length < t410.length) = false := decide_eq_false (fun h => c22 (Int.ofNat_lt.mpr h))
                           clear c22
                           by_cases c23 : 0 < (t410.length : Int)
                           · rw [if_pos c23] at H
                             have c23b0 : decide (0 < (t410.length : Int)) = true := decide_eq_true c23
                             have c23b1 : decide (0 < t410.length) = true := decide_eq_true (by omega)
                             clear c23
                             by_cases c24 : (rd t410 0) = x9_2
                             · rw [if_pos c24] at H
                               have c24b0 : ((rd t410 0) == x9_2) = true := beq_iff_eq.mpr c24
                               have c24b1 : ((rd t410 0) != x9_2) = false := bne_eq_false_iff_eq.mpr c24
                               clear c24
                               have H' := ak H
                               clear H
                               go_wp2_with (first | (go_at_call 26; (with_reducible refine (faults_Chain.calls k2 _ _ l0 x9_2 t410 t411 _ ?side1 ?side2 A19.out ⟨Ft.All.stay HT.out (by repeat (first | (with_reducible first | exact HB.out | apply wA | apply wN | apply wD) | exact HB.out | (refine below_set ?_ (by assumption)) | (refine below_set ?_ (Aside0.out (by assumption)))))⟩).mono ?_); (case side1 => repeat (first | exact (Kd.C_below HR0.out HB.out) | (with_reducible refine Kd.C_alloc ?_ _) | (with_reducible refine Kd.C_drewN ?_ _) | (with_reducible refine Kd.C_drew ?_))); (case side2 => exact HC0.out); rintro e w25 ⟨v412, rfl, ho0, hb⟩; have n0_ := ak (Kd.R_elder' (by (with_reducible repeat (first | apply Kd.R_alloc | apply Kd.R_drewN | apply Kd.R_drew)); exact HO_7.out) (Kd.R_base ho0) hb); have n1_ := ak (Kd.R_below (by (with_reducible repeat (first | apply Kd.R_alloc | apply Kd.R_drewN | apply Kd.R_drew)); exact HO_8.out) hb); have n2_ := ak (Kd.R_lower (Kd.R_new' ho0 (Kd.R_lt (by (with_reducible repeat (first | apply Kd.R_alloc | apply Kd.R_drewN | apply Kd.R_drew)); exact HO_7.out))) (below_size (by repeat (first | (with_reducible first | exact HB.out | apply wA | apply wN | apply wD) | exact HB.out)))); have n3_ := ak (below_step (by repeat (first | (with_reducible first | exact HB.out | apply wA | apply wN | apply wD) | exact HB.out)) hb); clear HO_7; clear HO_8; clear HB; have HO_7 := n0_; have HO_8 := n1_; have HO413 := n2_; have HB := n3_; clear n0_ n1_ n2_ n3_; (try clear hb); (try clear hb2); (try clear hk); (try clear hi); (try clear ho0); obtain ⟨Ao26, co26, eo26⟩ := Kd.R_slice HO413.out; subst eo26; have p414 : 0 ≤ (0 : Int) := (by omega); have q414 : 0 < (t410.length : Int) := of_decide_eq_true (by first | (with_reducible assumption) | assumption); obtain ⟨ad414, e414, hx414_0⟩ := Kd.at_int (Kd.R_reads' HO413.out).2.2 0 p414 q414; cases e414; have qi414 : (0 < t410.length) = True := eq_true (by omega); (try rw [show ((0 : Int)).toNat = 0 from rfl] at hx414_0); (try rw [Addr.add_zero'] at hx414_0); replace p414 := eq_true p414; replace q414 := eq_true q414))
                               repeat (go_quiet (first | (go_at_call 26; (with_reducible refine (faults_Chain.calls k2 _ _ l0 x9_2 t410 t411 _ ?side1 ?side2 A19.out ⟨Ft.All.stay HT.out (by repeat (first | (with_reducible first | exact HB.out | apply wA | apply wN | apply wD) | exact HB.out | (refine below_set ?_ (by assumption)) | (refine below_set ?_ (Aside0.out (by assumption)))))⟩).mono ?_); (case side1 => repeat (first | exact (Kd.C_below HR0.out HB.out) | (with_reducible refine Kd.C_alloc ?_ _) | (with_reducible refine Kd.C_drewN ?_ _) | (with_reducible refine Kd.C_drew ?_))); (case side2 => exact HC0.out); rintro e w25 ⟨v412, rfl, ho0, hb⟩; have n0_ := ak (Kd.R_elder' (by (with_reducible repeat (first | apply Kd.R_alloc | apply Kd.R_drewN | apply Kd.R_drew)); exact HO_7.out) (Kd.R_base ho0) hb); have n1_ := ak (Kd.R_below (by (with_reducible repeat (first | apply Kd.R_alloc | apply Kd.R_drewN | apply Kd.R_drew)); exact HO_8.out) hb); have n2_ := ak (Kd.R_lower (Kd.R_new' ho0 (Kd.R_lt (by (with_reducible repeat (first | apply Kd.R_alloc | apply Kd.R_drewN | apply Kd.R_drew)); exact HO_7.out))) (below_size (by repeat (first | (with_reducible first | exact HB.out | apply wA | apply wN | apply wD) | exact HB.out)))); have n3_ := ak (below_step (by repeat (first | (with_reducible first | exact HB.out | apply wA | apply wN | apply wD) | exact HB.out)) hb); clear HO_7; clear HO_8; clear HB; have HO_7 := n0_; have HO_8 := n1_; have HO413 := n2_; have HB := n3_; clear n0_ n1_ n2_ n3_; (try clear hb); (try clear hb2); (try clear hk); (try clear hi); (try clear ho0); obtain ⟨Ao26, co26, eo26⟩ := Kd.R_slice HO413.out; subst eo26; have p414 : 0 ≤ (0 : Int) := (by omega); have q414 : 0 < (t410.length : Int) := of_decide_eq_true (by first | (with_reducible assumption) | assumption); obtain ⟨ad414, e414, hx414_0⟩ := Kd.at_int (Kd.R_reads' HO413.out).2.2 0 p414 q414; cases e414; have qi414 : (0 < t410.length) = True := eq_true (by omega); (try rw [show ((0 : Int)).toNat = 0 from rfl] at hx414_0); (try rw [Addr.add_zero'] at hx414_0); replace p414 := eq_true p414; replace q414 := eq_true q414)); try go_wp2_with (first | (go_at_call 26; (with_reducible refine (faults_Chain.calls k2 _ _ l0 x9_2 t410 t411 _ ?side1 ?side2 A19.out ⟨Ft.All.stay HT.out (by repeat (first | (with_reducible first | exact HB.out | apply wA | apply wN | apply wD) | exact HB.out | (refine below_set ?_ (by assumption)) | (refine below_set ?_ (Aside0.out (by assumption)))))⟩).mono ?_); (case side1 => repeat (first | exact (Kd.C_below HR0.out HB.out) | (with_reducible refine Kd.C_alloc ?_ _) | (with_reducible refine Kd.C_drewN ?_ _) | (with_reducible refine Kd.C_drew ?_))); (case side2 => exact HC0.out); rintro e w25 ⟨v412, rfl, ho0, hb⟩; have n0_ := ak (Kd.R_elder' (by (with_reducible repeat (first | apply Kd.R_alloc | apply Kd.R_drewN | apply Kd.R_drew)); exact HO_7.out) (Kd.R_base ho0) hb); have n1_ := ak (Kd.R_below (by (with_reducible repeat (first | apply Kd.R_alloc | apply Kd.R_drewN | apply Kd.R_drew)); exact HO_8.out) hb); have n2_ := ak (Kd.R_lower (Kd.R_new' ho0 (Kd.R_lt (by (with_reducible repeat (first | apply Kd.R_alloc | apply Kd.R_drewN | apply Kd.R_drew)); exact HO_7.out))) (below_size (by repeat (first | (with_reducible first | exact HB.out | apply wA | apply wN | apply wD) | exact HB.out)))); have n3_ := ak (below_step (by repeat (first | (with_reducible first | exact HB.out | apply wA | apply wN | apply wD) | exact HB.out)) hb); clear HO_7; clear HO_8; clear HB; have HO_7 := n0_; have HO_8 := n1_; have HO413 := n2_; have HB := n3_; clear n0_ n1_ n2_ n3_; (try clear hb); (try clear hb2); (try clear hk); (try clear hi); (try clear ho0); obtain ⟨Ao26, co26, eo26⟩ := Kd.R_slice HO413.out; subst eo26; have p414 : 0 ≤ (0 : Int) := (by omega); have q414 : 0 < (t410.length : Int) := of_decide_eq_true (by first | (with_reducible assumption) | assumption); obtain ⟨ad414, e414, hx414_0⟩ := Kd.at_int (Kd.R_reads' HO413.out).2.2 0 p414 q414; cases e414; have qi414 : (0 < t410.length) = True := eq_true (by omega); (try rw [show ((0 : Int)).toNat = 0 from rfl] at hx414_0); (try rw [Addr.add_zero'] at hx414_0); replace p414 := eq_true p414; replace q414 := eq_true q414)))
                               go_loopg [12, 13] k2 (fun kq v12 v13 w' => ∃ (x12_3 : Bool) (x13_3 : Int), v12 = .bool x12_3 ∧ v13 = .int .i64 x13_3 ∧ Aside0 (mummerlaw08_FaultsChains.l1 kq l0 a1 t400 x8_2 x9_2 t410 x12_3 x13_3 = some r) ∧ Aside0 (kq ≤ k2) ∧ Aside0 (Kd.R (Kd.int .i64) 3 w' w.heap.size (fun k_ => some k_ ≠ ((.slice (some ad414) t410.length co26) : Value).ownBlock) v402 t400) ∧ Aside0 (Kd.R Kd.bool 4 w' w.heap.size (fun _ => True) v408 x8_2) ∧ Aside0 (Kd.R (Kd.int .i64) 3 w' w.heap.size (fun k_ => some k_ ≠ (v402 : Value).ownBlock) (.slice (some ad414) t410.length co26) t410) ∧ Aside0 (Below w.heap.size w w'))
                               case atStart => exact ⟨(false), (0), (by first | rfl | (simp; done) | (simp [*]; done)), (by first | rfl | (simp; done) | (simp [*]; done)), H', ⟨Nat.le_refl _⟩, ⟨by (with_reducible repeat (first | apply Kd.R_alloc | apply Kd.R_drewN | apply Kd.R_drew)); exact Kd.R_mono HO_7.out (fun _ hk => hk.2)⟩, ⟨by (with_reducible repeat (first | apply Kd.R_alloc | apply Kd.R_drewN | apply Kd.R_drew)); exact HO_8.out⟩, ⟨by (with_reducible repeat (first | apply Kd.R_alloc | apply Kd.R_drewN | apply Kd.R_drew)); exact Kd.R_mono HO413.out (fun _ hk => hk.2)⟩, ⟨by repeat (first | (with_reducible first | exact HB.out | apply wA | apply wN | apply wD) | exact HB.out)⟩⟩
                               case round =>
                                 clear H'
                                 try clear c1
                                 try clear c2
                                 try clear p2
                                 try clear p4
                                 try clear q4
                                 try clear hx4
                                 try clear qi4
                                 try clear c7
                                 try clear c8
                                 try clear c12
                                 try clear c12b0
                                 try clear c12b1
                                 try clear c13
                                 try clear c13b0
                                 try clear c13b1
                                 try clear c14
                                 try clear c14b0
                                 try clear c14b1
                                 try clear c18
                                 try clear c18b0
                                 try clear c20
                                 try clear c20b0
                                 try clear c20b1
                                 try clear c21
                                 try clear c21b0
                                 try clear c21b1
                                 try clear c21b2
                                 try clear c22
                                 try clear c22b0
                                 try clear c22b1
                                 try clear c23
                                 try clear c23b0
                                 try clear c23b1
                                 try clear c24
                                 try clear c24b0
                                 try clear c24b1
                                 try clear hx414_0
                                 try clear p2
                                 try clear p414
                                 try clear q414
                                 obtain ⟨x12_3, x13_3, rfl, rfl, HA, HK3, HO_7, HO_8, HO_10, HB⟩ := hrel
                                 cases gk with
                                 | zero => exact absurd HA.out (by simp [mummerlaw08_FaultsChains.l1])
                                 | succ k3 =>
                                   have H := HA.out
                                   clear HA
                                   simp only [mummerlaw08_FaultsChains.l1] at H
                                   by_cases c27 : x13_3 < (t410.length : Int)
                                   · rw [if_pos c27] at H
                                     have c27b0 : decide (x13_3 < (t410.length : Int)) = true := decide_eq_true c27
                                     clear c27
                                     by_cases c28 : 0 ≤ x13_3
                                     · rw [if_pos c28] at H
                                       have c28b0 : decide (0 ≤ x13_3) = true := decide_eq_true c28
                                       clear c28
                                       by_cases c29 : (rd t410 x13_3) < 0
                                       · rw [if_pos c29] at H
                                         have c29b0 : decide ((rd t410 x13_3) < 0) = true := decide_eq_true c29
                                         clear c29
                                         exact absurd ((Option.some.inj H).trans hrt.out) (by decide)
                                       · rw [if_neg c29] at H
                                         have c29b0 : decide ((rd t410 x13_3) < 0) = false := decide_eq_false c29
                                         clear c29
                                         by_cases c30 : (rd t410 x13_3) ≥ (l0.length : Int)
                                         · rw [if_pos c30] at H
                                           have c30b0 : decide ((l0.length : Int) ≤ (rd t410 x13_3)) = true := decide_eq_true c30
                                           clear c30
                                           exact absurd ((Option.some.inj H).trans hrt.out) (by decide)
                                         · rw [if_neg c30] at H
                                           have c30b0 : decide ((l0.length : Int) ≤ (rd t410 x13_3)) = false := decide_eq_false c30
                                           clear c30
                                           by_cases c31 : (wrap64 (x13_3 + 1)) < (t410.length : Int)
                                           · rw [if_pos c31] at H
                                             have c31b0 : decide ((wrap64 (x13_3 + 1)) < (t410.length : Int)) = true := decide_eq_true c31
                                             clear c31
                                             obtain ⟨ji32, hji32⟩ : ∃ j_ : Int, (wrap64 (x13_3 + 1)) = j_ := ⟨_, rfl⟩
                                             replace H : (if 0 ≤ (ji32) then (if 0 ≤ (rd t410 x13_3) then (if (rd t410 x13_3) < (l0.length : Int) then (if (rd t410 (ji32)) = ((rd_T41 l0 (rd t410 x13_3)).f4) then (if (ji32) = (t410.length : Int) then (if ((rd_T41 l0 (rd t410 x13_3)).f4) = (-1) then (if x12_3 = true then (mummerlaw08_FaultsChains.l1 k3 l0 a1 t400 x8_2 x9_2 t410 true ji32) else (mummerlaw08_FaultsChains.l1 k3 l0 a1 t400 x8_2 x9_2 t410 (((rd_T41 l0 (rd t410 x13_3)).f0) == a1) ji32)) else (some false)) else (if x12_3 = true then (mummerlaw08_FaultsChains.l1 k3 l0 a1 t400 x8_2 x9_2 t410 true ji32) else (mummerlaw08_FaultsChains.l1 k3 l0 a1 t400 x8_2 x9_2 t410 (((rd_T41 l0 (rd t410 x13_3)).f0) == a1) ji32))) else (some false)) else (none)) else (none)) else (none)) = some r := by first | (rw [hji32] at H; exact H) | (simp only [hji32] at H ⊢; exact H)
                                             (try rw [hji32] at c31b0)
                                             have hji32w : (IntKind.i64.wrap (x13_3 + 1)) = ji32 := (i64_w _).trans hji32
                                             by_cases c33 : 0 ≤ (ji32)
                                             · rw [if_pos c33] at H
                                               have c33b0 : decide (0 ≤ (ji32)) = true := decide_eq_true c33
                                               clear c33
                                               by_cases c34 : 0 ≤ (rd t410 x13_3)
                                               · rw [if_pos c34] at H
                                                 have c34b0 : decide (0 ≤ (rd t410 x13_3)) = true := decide_eq_true c34
                                                 clear c34
                                                 by_cases c35 : (rd t410 x13_3) < (l0.length : Int)
                                                 · rw [if_pos c35] at H
                                                   have c35b0 : decide ((rd t410 x13_3) < (l0.length : Int)) = true := decide_eq_true c35
                                                   clear c35
                                                   by_cases c36 : (rd t410 (ji32)) = ((rd_T41 l0 (rd t410 x13_3)).f4)
                                                   · rw [if_pos c36] at H
                                                     have c36b0 : ((rd t410 (ji32)) == ((rd_T41 l0 (rd t410 x13_3)).f4)) = true := beq_iff_eq.mpr c36
                                                     have c36b1 : ((rd t410 (ji32)) != ((rd_T41 l0 (rd t410 x13_3)).f4)) = false := bne_eq_false_iff_eq.mpr c36
                                                     clear c36
                                                     by_cases c37 : (ji32) = (t410.length : Int)
                                                     · rw [if_pos c37] at H
                                                       have c37b0 : ((ji32) == (t410.length : Int)) = true := beq_iff_eq.mpr c37
                                                       have c37b1 : ((ji32) != (t410.length : Int)) = false := bne_eq_false_iff_eq.mpr c37
                                                       clear c37
                                                       by_cases c38 : ((rd_T41 l0 (rd t410 x13_3)).f4) = (-1)
                                                       · rw [if_pos c38] at H
                                                         have c38b0 : (((rd_T41 l0 (rd t410 x13_3)).f4) == (-1)) = true := beq_iff_eq.mpr c38
                                                         have c38b1 : (((rd_T41 l0 (rd t410 x13_3)).f4) != (-1)) = false := bne_eq_false_iff_eq.mpr c38
                                                         clear c38
                                                         by_cases c39 : x12_3 = true
                                                         · subst c39
                                                           have H1 : (mummerlaw08_FaultsChains.l1 k3 l0 a1 t400 x8_2 x9_2 t410 true ji32) = some r := by rw [if_pos rfl] at H; exact H
                                                           clear H
                                                           have H := H1
                                                           clear H1
                                                           have H' := ak H
                                                           clear H
                                                           have p415 : 0 ≤ (x13_3 : Int) := of_decide_eq_true (by first | (with_reducible assumption) | assumption)
                                                           have q415 : x13_3 < (t410.length : Int) := of_decide_eq_true (by first | (with_reducible assumption) | assumption)
                                                           obtain ⟨ad415, e415, hx415_0⟩ := Kd.at_int (Kd.R_reads' HO_10.out).2.2 x13_3 p415 q415
                                                           obtain rfl : ad414 = ad415 := (by injection e415)
                                                           replace p415 := eq_true p415
                                                           replace q415 := eq_true q415
                                                           have p416 : 0 ≤ (x13_3 : Int) := of_decide_eq_true (by first | (with_reducible assumption) | assumption)
                                                           have q416 : x13_3 < (t410.length : Int) := of_decide_eq_true (by first | (with_reducible assumption) | assumption)
                                                           obtain ⟨ad416, e416, hx416_0⟩ := Kd.at_int (Kd.R_reads' HO_10.out).2.2 x13_3 p416 q416
                                                           obtain rfl : ad414 = ad416 := (by injection e416)
                                                           replace p416 := eq_true p416
                                                           replace q416 := eq_true q416
                                                           have p417 : 0 ≤ ((ji32) : Int) := of_decide_eq_true (by first | (with_reducible assumption) | assumption)
                                                           have q417 : (ji32) < (t410.length : Int) := of_decide_eq_true (by first | (with_reducible assumption) | assumption)
                                                           obtain ⟨ad417, e417, hx417_0⟩ := Kd.at_int (Kd.R_reads' HO_10.out).2.2 (ji32) p417 q417
                                                           obtain rfl : ad414 = ad417 := (by injection e417)
                                                           replace p417 := eq_true p417
                                                           replace q417 := eq_true q417
                                                           have p418 : 0 ≤ (x13_3 : Int) := of_decide_eq_true (by first | (with_reducible assumption) | assumption)
                                                           have q418 : x13_3 < (t410.length : Int) := of_decide_eq_true (by first | (with_reducible assumption) | assumption)
                                                           obtain ⟨ad418, e418, hx418_0⟩ := Kd.at_int (Kd.R_reads' HO_10.out).2.2 x13_3 p418 q418
                                                           obtain rfl : ad414 = ad418 := (by injection e418)
                                                           replace p418 := eq_true p418
                                                           replace q418 := eq_true q418
                                                           have p419 : 0 ≤ ((rd t410 x13_3) : Int) := of_decide_eq_true (by first | (with_reducible assumption) | assumption)
                                                           have q419 : (rd t410 x13_3) < (l0.length : Int) := of_decide_eq_true (by first | (with_reducible assumption) | assumption)
                                                           obtain ⟨ad419, e419, hx419_0, hx419_1, hx419_2, hx419_3, hx419_4, hx419_5⟩ := at_T41 HR0.out (rd t410 x13_3) p419 q419
                                                           cases e419
                                                           replace hx419_0 := (HB.out.cell (World.block_lt_of_cell? w _ hx419_0)).trans hx419_0
                                                           replace hx419_1 := (HB.out.cell (World.block_lt_of_cell? w _ hx419_1)).trans hx419_1
                                                           replace hx419_2 := (HB.out.cell (World.block_lt_of_cell? w _ hx419_2)).trans hx419_2
                                                           replace hx419_3 := (HB.out.cell (World.block_lt_of_cell? w _ hx419_3)).trans hx419_3
                                                           replace hx419_4 := (HB.out.cell (World.block_lt_of_cell? w _ hx419_4)).trans hx419_4
                                                           replace hx419_5 := (HB.out.cell (World.block_lt_of_cell? w _ hx419_5)).trans hx419_5
                                                           replace p419 := eq_true p419
                                                           replace q419 := eq_true q419
                                                           have p420 : 0 ≤ (x13_3 : Int) := of_decide_eq_true (by first | (with_reducible assumption) | assumption)
                                                           have q420 : x13_3 < (t410.length : Int) := of_decide_eq_true (by first | (with_reducible assumption) | assumption)
                                                           obtain ⟨ad420, e420, hx420_0⟩ := Kd.at_int (Kd.R_reads' HO_10.out).2.2 x13_3 p420 q420
                                                           obtain rfl : ad414 = ad420 := (by injection e420)
                                                           replace p420 := eq_true p420
                                                           replace q420 := eq_true q420
                                                           have p421 : 0 ≤ ((rd t410 x13_3) : Int) := of_decide_eq_true (by first | (with_reducible assumption) | assumption)
                                                           have q421 : (rd t410 x13_3) < (l0.length : Int) := of_decide_eq_true (by first | (with_reducible assumption) | assumption)
                                                           obtain ⟨ad421, e421, hx421_0, hx421_1, hx421_2, hx421_3, hx421_4, hx421_5⟩ := at_T41 HR0.out (rd t410 x13_3) p421 q421
                                                           obtain rfl : ad419 = ad421 := (by injection e421)
                                                           replace hx421_0 := (HB.out.cell (World.block_lt_of_cell? w _ hx421_0)).trans hx421_0
                                                           replace hx421_1 := (HB.out.cell (World.block_lt_of_cell? w _ hx421_1)).trans hx421_1
                                                           replace hx421_2 := (HB.out.cell (World.block_lt_of_cell? w _ hx421_2)).trans hx421_2
                                                           replace hx421_3 := (HB.out.cell (World.block_lt_of_cell? w _ hx421_3)).trans hx421_3
                                                           replace hx421_4 := (HB.out.cell (World.block_lt_of_cell? w _ hx421_4)).trans hx421_4
                                                           replace hx421_5 := (HB.out.cell (World.block_lt_of_cell? w _ hx421_5)).trans hx421_5
                                                           replace p421 := eq_true p421
                                                           replace q421 := eq_true q421
                                                           go_wp2
                                                           repeat (go_quiet (fail); try go_wp2)
                                                           go_roundg k3
                                                           case measure => have := HJ3.out; have := HK2.out; have := HK3.out; omega
                                                           case rel => exact ⟨(true), (ji32), (by first | rfl | (simp; done) | (simp [*]; done)), (by first | rfl | (simp; done) | (simp only [← hji32] <;> (first | rfl | simp)) | (simp [*]; done)), H', ⟨by have := HJ3.out; have := HK2.out; have := HK3.out; omega⟩, ⟨by (with_reducible repeat (first | apply Kd.R_alloc | apply Kd.R_drewN | apply Kd.R_drew)); exact HO_7.out⟩, ⟨by (with_reducible repeat (first | apply Kd.R_alloc | apply Kd.R_drewN | apply Kd.R_drew)); exact HO_8.out⟩, ⟨by (with_reducible repeat (first | apply Kd.R_alloc | apply Kd.R_drewN | apply Kd.R_drew)); exact HO_10.out⟩, ⟨by repeat (first | (with_reducible first | exact HB.out | apply wA | apply wN | apply wD) | exact HB.out)⟩⟩
                                                         · replace c39 := Bool.eq_false_iff.mpr c39
                                                           subst c39
                                                           have H1 : (mummerlaw08_FaultsChains.l1 k3 l0 a1 t400 x8_2 x9_2 t410 (((rd_T41 l0 (rd t410 x13_3)).f0) == a1) ji32) = some r := by rw [if_neg (show ¬ (false = true) by decide)] at H; exact H
                                                           clear H
                                                           have H := H1
                                                           clear H1
                                                           have H' := ak H
                                                           clear H
                                                           have p415 : 0 ≤ (x13_3 : Int) := of_decide_eq_true (by first | (with_reducible assumption) | assumption)
                                                           have q415 : x13_3 < (t410.length : Int) := of_decide_eq_true (by first | (with_reducible assumption) | assumption)
                                                           obtain ⟨ad415, e415, hx415_0⟩ := Kd.at_int (Kd.R_reads' HO_10.out).2.2 x13_3 p415 q415
                                                           obtain rfl : ad414 = ad415 := (by injection e415)
                                                           replace p415 := eq_true p415
                                                           replace q415 := eq_true q415
                                                           have p416 : 0 ≤ (x13_3 : Int) := of_decide_eq_true (by first | (with_reducible assumption) | assumption)
                                                           have q416 : x13_3 < (t410.length : Int) := of_decide_eq_true (by first | (with_reducible assumption) | assumption)
                                                           obtain ⟨ad416, e416, hx416_0⟩ := Kd.at_int (Kd.R_reads' HO_10.out).2.2 x13_3 p416 q416
                                                           obtain rfl : ad414 = ad416 := (by injection e416)
                                                           replace p416 := eq_true p416
                                                           replace q416 := eq_true q416
                                                           have p417 : 0 ≤ ((ji32) : Int) := of_decide_eq_true (by first | (with_reducible assumption) | assumption)
                                                           have q417 : (ji32) < (t410.length : Int) := of_decide_eq_true (by first | (with_reducible assumption) | assumption)
                                                           obtain ⟨ad417, e417, hx417_0⟩ := Kd.at_int (Kd.R_reads' HO_10.out).2.2 (ji32) p417 q417
                                                           obtain rfl : ad414 = ad417 := (by injection e417)
                                                           replace p417 := eq_true p417
                                                           replace q417 := eq_true q417
                                                           have p418 : 0 ≤ (x13_3 : Int) := of_decide_eq_true (by first | (with_reducible assumption) | assumption)
                                                           have q418 : x13_3 < (t410.length : Int) := of_decide_eq_true (by first | (with_reducible assumption) | assumption)
                                                           obtain ⟨ad418, e418, hx418_0⟩ := Kd.at_int (Kd.R_reads' HO_10.out).2.2 x13_3 p418 q418
                                                           obtain rfl : ad414 = ad418 := (by injection e418)
                                                           replace p418 := eq_true p418
                                                           replace q418 := eq_true q418
                                                           have p419 : 0 ≤ ((rd t410 x13_3) : Int) := of_decide_eq_true (by first | (with_reducible assumption) | assumption)
                                                           have q419 : (rd t410 x13_3) < (l0.length : Int) := of_decide_eq_true (by first | (with_reducible assumption) | assumption)
                                                           obtain ⟨ad419, e419, hx419_0, hx419_1, hx419_2, hx419_3, hx419_4, hx419_5⟩ := at_T41 HR0.out (rd t410 x13_3) p419 q419
                                                           cases e419
                                                           replace hx419_0 := (HB.out.cell (World.block_lt_of_cell? w _ hx419_0)).trans hx419_0
                                                           replace hx419_1 := (HB.out.cell (World.block_lt_of_cell? w _ hx419_1)).trans hx419_1
                                                           replace hx419_2 := (HB.out.cell (World.block_lt_of_cell? w _ hx419_2)).trans hx419_2
                                                           replace hx419_3 := (HB.out.cell (World.block_lt_of_cell? w _ hx419_3)).trans hx419_3
                                                           replace hx419_4 := (HB.out.cell (World.block_lt_of_cell? w _ hx419_4)).trans hx419_4
                                                           replace hx419_5 := (HB.out.cell (World.block_lt_of_cell? w _ hx419_5)).trans hx419_5
                                                           replace p419 := eq_true p419
                                                           replace q419 := eq_true q419
                                                           have p420 : 0 ≤ (x13_3 : Int) := of_decide_eq_true (by first | (with_reducible assumption) | assumption)
                                                           have q420 : x13_3 < (t410.length : Int) := of_decide_eq_true (by first | (with_reducible assumption) | assumption)
                                                           obtain ⟨ad420, e420, hx420_0⟩ := Kd.at_int (Kd.R_reads' HO_10.out).2.2 x13_3 p420 q420
                                                           obtain rfl : ad414 = ad420 := (by injection e420)
                                                           replace p420 := eq_true p420
                                                           replace q420 := eq_true q420
                                                           have p421 : 0 ≤ ((rd t410 x13_3) : Int) := of_decide_eq_true (by first | (with_reducible assumption) | assumption)
                                                           have q421 : (rd t410 x13_3) < (l0.length : Int) := of_decide_eq_true (by first | (with_reducible assumption) | assumption)
                                                           obtain ⟨ad421, e421, hx421_0, hx421_1, hx421_2, hx421_3, hx421_4, hx421_5⟩ := at_T41 HR0.out (rd t410 x13_3) p421 q421
                                                           obtain rfl : ad419 = ad421 := (by injection e421)
                                                           replace hx421_0 := (HB.out.cell (World.block_lt_of_cell? w _ hx421_0)).trans hx421_0
                                                           replace hx421_1 := (HB.out.cell (World.block_lt_of_cell? w _ hx421_1)).trans hx421_1
                                                           replace hx421_2 := (HB.out.cell (World.block_lt_of_cell? w _ hx421_2)).trans hx421_2
                                                           replace hx421_3 := (HB.out.cell (World.block_lt_of_cell? w _ hx421_3)).trans hx421_3
                                                           replace hx421_4 := (HB.out.cell (World.block_lt_of_cell? w _ hx421_4)).trans hx421_4
                                                           replace hx421_5 := (HB.out.cell (World.block_lt_of_cell? w _ hx421_5)).trans hx421_5
                                                           replace p421 := eq_true p421
                                                           replace q421 := eq_true q421
                                                           have p422 : 0 ≤ (x13_3 : Int) := of_decide_eq_true (by first | (with_reducible assumption) | assumption)
                                                           have q422 : x13_3 < (t410.length : Int) := of_decide_eq_true (by first | (with_reducible assumption) | assumption)
                                                           obtain ⟨ad422, e422, hx422_0⟩ := Kd.at_int (Kd.R_reads' HO_10.out).2.2 x13_3 p422 q422
                                                           obtain rfl : ad414 = ad422 := (by injection e422)
                                                           replace p422 := eq_true p422
                                                           replace q422 := eq_true q422
                                                           have p423 : 0 ≤ ((rd t410 x13_3) : Int) := of_decide_eq_true (by first | (with_reducible assumption) | assumption)
                                                           have q423 : (rd t410 x13_3) < (l0.length : Int) := of_decide_eq_true (by first | (with_reducible assumption) | assumption)
                                                           obtain ⟨ad423, e423, hx423_0, hx423_1, hx423_2, hx423_3, hx423_4, hx423_5⟩ := at_T41 HR0.out (rd t410 x13_3) p423 q423
                                                           obtain rfl : ad419 = ad423 := (by injection e423)
                                                           replace hx423_0 := (HB.out.cell (World.block_lt_of_cell? w _ hx423_0)).trans hx423_0
                                                           replace hx423_1 := (HB.out.cell (World.block_lt_of_cell? w _ hx423_1)).trans hx423_1
                                                           replace hx423_2 := (HB.out.cell (World.block_lt_of_cell? w _ hx423_2)).trans hx423_2
                                                           replace hx423_3 := (HB.out.cell (World.block_lt_of_cell? w _ hx423_3)).trans hx423_3
                                                           replace hx423_4 := (HB.out.cell (World.block_lt_of_cell? w _ hx423_4)).trans hx423_4
                                                           replace hx423_5 := (HB.out.cell (World.block_lt_of_cell? w _ hx423_5)).trans hx423_5
                                                           replace p423 := eq_true p423
                                                           replace q423 := eq_true q423
                                                           go_wp2
                                                           repeat (go_quiet (fail); try go_wp2)
                                                           go_roundg k3
                                                           case measure => have := HJ3.out; have := HK2.out; have := HK3.out; omega
                                                           case rel => exact ⟨((((rd_T41 l0 (rd t410 x13_3)).f0) == a1)), (ji32), (by first | rfl | (simp; done) | (simp [*]; done)), (by first | rfl | (simp; done) | (simp only [← hji32] <;> (first | rfl | simp)) | (simp [*]; done)), H', ⟨by have := HJ3.out; have := HK2.out; have := HK3.out; omega⟩, ⟨by (with_reducible repeat (first | apply Kd.R_alloc | apply Kd.R_drewN | apply Kd.R_drew)); exact HO_7.out⟩, ⟨by (with_reducible repeat (first | apply Kd.R_alloc | apply Kd.R_drewN | apply Kd.R_drew)); exact HO_8.out⟩, ⟨by (with_reducible repeat (first | apply Kd.R_alloc | apply Kd.R_drewN | apply Kd.R_drew)); exact HO_10.out⟩, ⟨by repeat (first | (with_reducible first | exact HB.out | apply wA | apply wN | apply wD) | exact HB.out)⟩⟩
                                                       · rw [if_neg c38] at H
                                                         have c38b0 : (((rd_T41 l0 (rd t410 x13_3)).f4) == (-1)) = false := beq_eq_false_iff_ne.mpr c38
                                                         have c38b1 : (((rd_T41 l0 (rd t410 x13_3)).f4) != (-1)) = true := bne_iff_ne.mpr c38
                                                         exact absurd ((Option.some.inj H).trans hrt.out) (by decide)
                                                     · rw [if_neg c37] at H
                                                       have c37b0 : ((ji32) == (t410.length : Int)) = false := beq_eq_false_iff_ne.mpr c37
                                                       have c37b1 : ((ji32) != (t410.length : Int)) = true := bne_iff_ne.mpr c37
                                                       by_cases c40 : x12_3 = true
                                                       · subst c40
                                                         have H1 : (mummerlaw08_FaultsChains.l1 k3 l0 a1 t400 x8_2 x9_2 t410 true ji32) = some r := by rw [if_pos rfl] at H; exact H
                                                         clear H
                                                         have H := H1
                                                         clear H1
                                                         have H' := ak H
                                                         clear H
                                                         have p415 : 0 ≤ (x13_3 : Int) := of_decide_eq_true (by first | (with_reducible assumption) | assumption)
                                                         have q415 : x13_3 < (t410.length : Int) := of_decide_eq_true (by first | (with_reducible assumption) | assumption)
                                                         obtain ⟨ad415, e415, hx415_0⟩ := Kd.at_int (Kd.R_reads' HO_10.out).2.2 x13_3 p415 q415
                                                         obtain rfl : ad414 = ad415 := (by injection e415)
                                                         replace p415 := eq_true p415
                                                         replace q415 := eq_true q415
                                                         have p416 : 0 ≤ (x13_3 : Int) := of_decide_eq_true (by first | (with_reducible assumption) | assumption)
                                                         have q416 : x13_3 < (t410.length : Int) := of_decide_eq_true (by first | (with_reducible assumption) | assumption)
                                                         obtain ⟨ad416, e416, hx416_0⟩ := Kd.at_int (Kd.R_reads' HO_10.out).2.2 x13_3 p416 q416
                                                         obtain rfl : ad414 = ad416 := (by injection e416)
                                                         replace p416 := eq_true p416
                                                         replace q416 := eq_true q416
                                                         have p417 : 0 ≤ ((ji32) : Int) := of_decide_eq_true (by first | (with_reducible assumption) | assumption)
                                                         have q417 : (ji32) < (t410.length : Int) := of_decide_eq_true (by first | (with_reducible assumption) | assumption)
                                                         obtain ⟨ad417, e417, hx417_0⟩ := Kd.at_int (Kd.R_reads' HO_10.out).2.2 (ji32) p417 q417
                                                         obtain rfl : ad414 = ad417 := (by injection e417)
                                                         replace p417 := eq_true p417
                                                         replace q417 := eq_true q417
                                                         have p418 : 0 ≤ (x13_3 : Int) := of_decide_eq_true (by first | (with_reducible assumption) | assumption)
                                                         have q418 : x13_3 < (t410.length : Int) := of_decide_eq_true (by first | (with_reducible assumption) | assumption)
                                                         obtain ⟨ad418, e418, hx418_0⟩ := Kd.at_int (Kd.R_reads' HO_10.out).2.2 x13_3 p418 q418
                                                         obtain rfl : ad414 = ad418 := (by injection e418)
                                                         replace p418 := eq_true p418
                                                         replace q418 := eq_true q418
                                                         have p419 : 0 ≤ ((rd t410 x13_3) : Int) := of_decide_eq_true (by first | (with_reducible assumption) | assumption)
                                                         have q419 : (rd t410 x13_3) < (l0.length : Int) := of_decide_eq_true (by first | (with_reducible assumption) | assumption)
                                                         obtain ⟨ad419, e419, hx419_0, hx419_1, hx419_2, hx419_3, hx419_4, hx419_5⟩ := at_T41 HR0.out (rd t410 x13_3) p419 q419
                                                         cases e419
                                                         replace hx419_0 := (HB.out.cell (World.block_lt_of_cell? w _ hx419_0)).trans hx419_0
                                                         replace hx419_1 := (HB.out.cell (World.block_lt_of_cell? w _ hx419_1)).trans hx419_1
                                                         replace hx419_2 := (HB.out.cell (World.block_lt_of_cell? w _ hx419_2)).trans hx419_2
                                                         replace hx419_3 := (HB.out.cell (World.block_lt_of_cell? w _ hx419_3)).trans hx419_3
                                                         replace hx419_4 := (HB.out.cell (World.block_lt_of_cell? w _ hx419_4)).trans hx419_4
                                                         replace hx419_5 := (HB.out.cell (World.block_lt_of_cell? w _ hx419_5)).trans hx419_5
                                                         replace p419 := eq_true p419
                                                         replace q419 := eq_true q419
                                                         go_wp2
                                                         repeat (go_quiet (fail); try go_wp2)
                                                         go_roundg k3
                                                         case measure => have := HJ3.out; have := HK2.out; have := HK3.out; omega
                                                         case rel => exact ⟨(true), (ji32), (by first | rfl | (simp; done) | (simp [*]; done)), (by first | rfl | (simp; done) | (simp only [← hji32] <;> (first | rfl | simp)) | (simp [*]; done)), H', ⟨by have := HJ3.out; have := HK2.out; have := HK3.out; omega⟩, ⟨by (with_reducible repeat (first | apply Kd.R_alloc | apply Kd.R_drewN | apply Kd.R_drew)); exact HO_7.out⟩, ⟨by (with_reducible repeat (first | apply Kd.R_alloc | apply Kd.R_drewN | apply Kd.R_drew)); exact HO_8.out⟩, ⟨by (with_reducible repeat (first | apply Kd.R_alloc | apply Kd.R_drewN | apply Kd.R_drew)); exact HO_10.out⟩, ⟨by repeat (first | (with_reducible first | exact HB.out | apply wA | apply wN | apply wD) | exact HB.out)⟩⟩
                                                       · replace c40 := Bool.eq_false_iff.mpr c40
                                                         subst c40
                                                         have H1 : (mummerlaw08_FaultsChains.l1 k3 l0 a1 t400 x8_2 x9_2 t410 (((rd_T41 l0 (rd t410 x13_3)).f0) == a1) ji32) = some r := by rw [if_neg (show ¬ (false = true) by decide)] at H; exact H
                                                         clear H
                                                         have H := H1
                                                         clear H1
                                                         have H' := ak H
                                                         clear H
                                                         have p415 : 0 ≤ (x13_3 : Int) := of_decide_eq_true (by first | (with_reducible assumption) | assumption)
                                                         have q415 : x13_3 < (t410.length : Int) := of_decide_eq_true (by first | (with_reducible assumption) | assumption)
                                                         obtain ⟨ad415, e415, hx415_0⟩ := Kd.at_int (Kd.R_reads' HO_10.out).2.2 x13_3 p415 q415
                                                         obtain rfl : ad414 = ad415 := (by injection e415)
                                                         replace p415 := eq_true p415
                                                         replace q415 := eq_true q415
                                                         have p416 : 0 ≤ (x13_3 : Int) := of_decide_eq_true (by first | (with_reducible assumption) | assumption)
                                                         have q416 : x13_3 < (t410.length : Int) := of_decide_eq_true (by first | (with_reducible assumption) | assumption)
                                                         obtain ⟨ad416, e416, hx416_0⟩ := Kd.at_int (Kd.R_reads' HO_10.out).2.2 x13_3 p416 q416
                                                         obtain rfl : ad414 = ad416 := (by injection e416)
                                                         replace p416 := eq_true p416
                                                         replace q416 := eq_true q416
                                                         have p417 : 0 ≤ ((ji32) : Int) := of_decide_eq_true (by first | (with_reducible assumption) | assumption)
                                                         have q417 : (ji32) < (t410.length : Int) := of_decide_eq_true (by first | (with_reducible assumption) | assumption)
                                                         obtain ⟨ad417, e417, hx417_0⟩ := Kd.at_int (Kd.R_reads' HO_10.out).2.2 (ji32) p417 q417
                                                         obtain rfl : ad414 = ad417 := (by injection e417)
                                                         replace p417 := eq_true p417
                                                         replace q417 := eq_true q417
                                                         have p418 : 0 ≤ (x13_3 : Int) := of_decide_eq_true (by first | (with_reducible assumption) | assumption)
                                                         have q418 : x13_3 < (t410.length : Int) := of_decide_eq_true (by first | (with_reducible assumption) | assumption)
                                                         obtain ⟨ad418, e418, hx418_0⟩ := Kd.at_int (Kd.R_reads' HO_10.out).2.2 x13_3 p418 q418
                                                         obtain rfl : ad414 = ad418 := (by injection e418)
                                                         replace p418 := eq_true p418
                                                         replace q418 := eq_true q418
                                                         have p419 : 0 ≤ ((rd t410 x13_3) : Int) := of_decide_eq_true (by first | (with_reducible assumption) | assumption)
                                                         have q419 : (rd t410 x13_3) < (l0.length : Int) := of_decide_eq_true (by first | (with_reducible assumption) | assumption)
                                                         obtain ⟨ad419, e419, hx419_0, hx419_1, hx419_2, hx419_3, hx419_4, hx419_5⟩ := at_T41 HR0.out (rd t410 x13_3) p419 q419
                                                         cases e419
                                                         replace hx419_0 := (HB.out.cell (World.block_lt_of_cell? w _ hx419_0)).trans hx419_0
                                                         replace hx419_1 := (HB.out.cell (World.block_lt_of_cell? w _ hx419_1)).trans hx419_1
                                                         replace hx419_2 := (HB.out.cell (World.block_lt_of_cell? w _ hx419_2)).trans hx419_2
                                                         replace hx419_3 := (HB.out.cell (World.block_lt_of_cell? w _ hx419_3)).trans hx419_3
                                                         replace hx419_4 := (HB.out.cell (World.block_lt_of_cell? w _ hx419_4)).trans hx419_4
                                                         replace hx419_5 := (HB.out.cell (World.block_lt_of_cell? w _ hx419_5)).trans hx419_5
                                                         replace p419 := eq_true p419
                                                         replace q419 := eq_true q419
                                                         have p424 : 0 ≤ (x13_3 : Int) := of_decide_eq_true (by first | (with_reducible assumption) | assumption)
                                                         have q424 : x13_3 < (t410.length : Int) := of_decide_eq_true (by first | (with_reducible assumption) | assumption)
                                                         obtain ⟨ad424, e424, hx424_0⟩ := Kd.at_int (Kd.R_reads' HO_10.out).2.2 x13_3 p424 q424
                                                         obtain rfl : ad414 = ad424 := (by injection e424)
                                                         replace p424 := eq_true p424
                                                         replace q424 := eq_true q424
                                                         have p425 : 0 ≤ ((rd t410 x13_3) : Int) := of_decide_eq_true (by first | (with_reducible assumption) | assumption)
                                                         have q425 : (rd t410 x13_3) < (l0.length : Int) := of_decide_eq_true (by first | (with_reducible assumption) | assumption)
                                                         obtain ⟨ad425, e425, hx425_0, hx425_1, hx425_2, hx425_3, hx425_4, hx425_5⟩ := at_T41 HR0.out (rd t410 x13_3) p425 q425
                                                         obtain rfl : ad419 = ad425 := (by injection e425)
                                                         replace hx425_0 := (HB.out.cell (World.block_lt_of_cell? w _ hx425_0)).trans hx425_0
                                                         replace hx425_1 := (HB.out.cell (World.block_lt_of_cell? w _ hx425_1)).trans hx425_1
                                                         replace hx425_2 := (HB.out.cell (World.block_lt_of_cell? w _ hx425_2)).trans hx425_2
                                                         replace hx425_3 := (HB.out.cell (World.block_lt_of_cell? w _ hx425_3)).trans hx425_3
                                                         replace hx425_4 := (HB.out.cell (World.block_lt_of_cell? w _ hx425_4)).trans hx425_4
                                                         replace hx425_5 := (HB.out.cell (World.block_lt_of_cell? w _ hx425_5)).trans hx425_5
                                                         replace p425 := eq_true p425
                                                         replace q425 := eq_true q425
                                                         go_wp2
                                                         repeat (go_quiet (fail); try go_wp2)
                                                         go_roundg k3
                                                         case measure => have := HJ3.out; have := HK2.out; have := HK3.out; omega
                                                         case rel => exact ⟨((((rd_T41 l0 (rd t410 x13_3)).f0) == a1)), (ji32), (by first | rfl | (simp; done) | (simp [*]; done)), (by first | rfl | (simp; done) | (simp only [← hji32] <;> (first | rfl | simp)) | (simp [*]; done)), H', ⟨by have := HJ3.out; have := HK2.out; have := HK3.out; omega⟩, ⟨by (with_reducible repeat (first | apply Kd.R_alloc | apply Kd.R_drewN | apply Kd.R_drew)); exact HO_7.out⟩, ⟨by (with_reducible repeat (first | apply Kd.R_alloc | apply Kd.R_drewN | apply Kd.R_drew)); exact HO_8.out⟩, ⟨by (with_reducible repeat (first | apply Kd.R_alloc | apply Kd.R_drewN | apply Kd.R_drew)); exact HO_10.out⟩, ⟨by repeat (first | (with_reducible first | exact HB.out | apply wA | apply wN | apply wD) | exact HB.out)⟩⟩
                                                   · rw [if_neg c36] at H
                                                     have c36b0 : ((rd t410 (ji32)) == ((rd_T41 l0 (rd t410 x13_3)).f4)) = false := beq_eq_false_iff_ne.mpr c36
                                                     have c36b1 : ((rd t410 (ji32)) != ((rd_T41 l0 (rd t410 x13_3)).f4)) = true := bne_iff_ne.mpr c36
                                                     exact absurd ((Option.some.inj H).trans hrt.out) (by decide)
                                                 · rw [if_neg c35] at H
                                                   exact absurd H (by simp)
                                               · rw [if_neg c34] at H
                                                 exact absurd H (by simp)
                                             · rw [if_neg c33] at H
                                               exact absurd H (by simp)
                                           · rw [if_neg c31] at H
                                             have c31b0 : decide ((wrap64 (x13_3 + 1)) < (t410.length : Int)) = false := decide_eq_false c31
                                             clear c31
                                             by_cases c41 : (wrap64 (x13_3 + 1)) = (t410.length : Int)
                                             · rw [if_pos c41] at H
                                               have c41b0 : ((wrap64 (x13_3 + 1)) == (t410.length : Int)) = true := beq_iff_eq.mpr c41
                                               have c41b1 : ((wrap64 (x13_3 + 1)) != (t410.length : Int)) = false := bne_eq_false_iff_eq.mpr c41
                                               clear c41
                                               by_cases c42 : 0 ≤ (rd t410 x13_3)
                                               · rw [if_pos c42] at H
                                                 have c42b0 : decide (0 ≤ (rd t410 x13_3)) = true := decide_eq_true c42
                                                 clear c42
                                                 by_cases c43 : (rd t410 x13_3) < (l0.length : Int)
                                                 · rw [if_pos c43] at H
                                                   have c43b0 : decide ((rd t410 x13_3) < (l0.length : Int)) = true := decide_eq_true c43
                                                   clear c43
                                                   by_cases c44 : ((rd_T41 l0 (rd t410 x13_3)).f4) = (-1)
                                                   · rw [if_pos c44] at H
                                                     have c44b0 : (((rd_T41 l0 (rd t410 x13_3)).f4) == (-1)) = true := beq_iff_eq.mpr c44
                                                     have c44b1 : (((rd_T41 l0 (rd t410 x13_3)).f4) != (-1)) = false := bne_eq_false_iff_eq.mpr c44
                                                     clear c44
                                                     by_cases c45 : x12_3 = true
                                                     · subst c45
                                                       have H1 : (mummerlaw08_FaultsChains.l1 k3 l0 a1 t400 x8_2 x9_2 t410 true (wrap64 (x13_3 + 1))) = some r := by rw [if_pos rfl] at H; exact H
                                                       clear H
                                                       have H := H1
                                                       clear H1
                                                       have H' := ak H
                                                       clear H
                                                       have p415 : 0 ≤ (x13_3 : Int) := of_decide_eq_true (by first | (with_reducible assumption) | assumption)
                                                       have q415 : x13_3 < (t410.length : Int) := of_decide_eq_true (by first | (with_reducible assumption) | assumption)
                                                       obtain ⟨ad415, e415, hx415_0⟩ := Kd.at_int (Kd.R_reads' HO_10.out).2.2 x13_3 p415 q415
                                                       obtain rfl : ad414 = ad415 := (by injection e415)
                                                       replace p415 := eq_true p415
                                                       replace q415 := eq_true q415
                                                       have p416 : 0 ≤ (x13_3 : Int) := of_decide_eq_true (by first | (with_reducible assumption) | assumption)
                                                       have q416 : x13_3 < (t410.length : Int) := of_decide_eq_true (by first | (with_reducible assumption) | assumption)
                                                       obtain ⟨ad416, e416, hx416_0⟩ := Kd.at_int (Kd.R_reads' HO_10.out).2.2 x13_3 p416 q416
                                                       obtain rfl : ad414 = ad416 := (by injection e416)
                                                       replace p416 := eq_true p416
                                                       replace q416 := eq_true q416
                                                       have p426 : 0 ≤ (x13_3 : Int) := of_decide_eq_true (by first | (with_reducible assumption) | assumption)
                                                       have q426 : x13_3 < (t410.length : Int) := of_decide_eq_true (by first | (with_reducible assumption) | assumption)
                                                       obtain ⟨ad426, e426, hx426_0⟩ := Kd.at_int (Kd.R_reads' HO_10.out).2.2 x13_3 p426 q426
                                                       obtain rfl : ad414 = ad426 := (by injection e426)
                                                       replace p426 := eq_true p426
                                                       replace q426 := eq_true q426
                                                       have p427 : 0 ≤ ((rd t410 x13_3) : Int) := of_decide_eq_true (by first | (with_reducible assumption) | assumption)
                                                       have q427 : (rd t410 x13_3) < (l0.length : Int) := of_decide_eq_true (by first | (with_reducible assumption) | assumption)
                                                       obtain ⟨ad427, e427, hx427_0, hx427_1, hx427_2, hx427_3, hx427_4, hx427_5⟩ := at_T41 HR0.out (rd t410 x13_3) p427 q427
                                                       cases e427
                                                       replace hx427_0 := (HB.out.cell (World.block_lt_of_cell? w _ hx427_0)).trans hx427_0
                                                       replace hx427_1 := (HB.out.cell (World.block_lt_of_cell? w _ hx427_1)).trans hx427_1
                                                       replace hx427_2 := (HB.out.cell (World.block_lt_of_cell? w _ hx427_2)).trans hx427_2
                                                       replace hx427_3 := (HB.out.cell (World.block_lt_of_cell? w _ hx427_3)).trans hx427_3
                                                       replace hx427_4 := (HB.out.cell (World.block_lt_of_cell? w _ hx427_4)).trans hx427_4
                                                       replace hx427_5 := (HB.out.cell (World.block_lt_of_cell? w _ hx427_5)).trans hx427_5
                                                       replace p427 := eq_true p427
                                                       replace q427 := eq_true q427
                                                       go_wp2
                                                       repeat (go_quiet (fail); try go_wp2)
                                                       go_roundg k3
                                                       case measure => have := HJ3.out; have := HK2.out; have := HK3.out; omega
                                                       case rel => exact ⟨(true), (wrap64 (x13_3 + 1)), (by first | rfl | (simp; done) | (simp [*]; done)), (by first | rfl | (simp; done) | (simp [*]; done)), H', ⟨by have := HJ3.out; have := HK2.out; have := HK3.out; omega⟩, ⟨by (with_reducible repeat (first | apply Kd.R_alloc | apply Kd.R_drewN | apply Kd.R_drew)); exact HO_7.out⟩, ⟨by (with_reducible repeat (first | apply Kd.R_alloc | apply Kd.R_drewN | apply Kd.R_drew)); exact HO_8.out⟩, ⟨by (with_reducible repeat (first | apply Kd.R_alloc | apply Kd.R_drewN | apply Kd.R_drew)); exact HO_10.out⟩, ⟨by repeat (first | (with_reducible first | exact HB.out | apply wA | apply wN | apply wD) | exact HB.out)⟩⟩
                                                     · replace c45 := Bool.eq_false_iff.mpr c45
                                                       subst c45
                                                       have H1 : (mummerlaw08_FaultsChains.l1 k3 l0 a1 t400 x8_2 x9_2 t410 (((rd_T41 l0 (rd t410 x13_3)).f0) == a1) (wrap64 (x13_3 + 1))) = some r := by rw [if_neg (show ¬ (false = true) by decide)] at H; exact H
                                                       clear H
                                                       have H := H1
                                                       clear H1
                                                       have H' := ak H
                                                       clear H
                                                       have p415 : 0 ≤ (x13_3 : Int) := of_decide_eq_true (by first | (with_reducible assumption) | assumption)
                                                       have q415 : x13_3 < (t410.length : Int) := of_decide_eq_true (by first | (with_reducible assumption) | assumption)
                                                       obtain ⟨ad415, e415, hx415_0⟩ := Kd.at_int (Kd.R_reads' HO_10.out).2.2 x13_3 p415 q415
                                                       obtain rfl : ad414 = ad415 := (by injection e415)
                                                       replace p415 := eq_true p415
                                                       replace q415 := eq_true q415
                                                       have p416 : 0 ≤ (x13_3 : Int) := of_decide_eq_true (by first | (with_reducible assumption) | assumption)
                                                       have q416 : x13_3 < (t410.length : Int) := of_decide_eq_true (by first | (with_reducible assumption) | assumption)
                                                       obtain ⟨ad416, e416, hx416_0⟩ := Kd.at_int (Kd.R_reads' HO_10.out).2.2 x13_3 p416 q416
                                                       obtain rfl : ad414 = ad416 := (by injection e416)
                                                       replace p416 := eq_true p416
                                                       replace q416 := eq_true q416
                                                       have p426 : 0 ≤ (x13_3 : Int) := of_decide_eq_true (by first | (with_reducible assumption) | assumption)
                                                       have q426 : x13_3 < (t410.length : Int) := of_decide_eq_true (by first | (with_reducible assumption) | assumption)
                                                       obtain ⟨ad426, e426, hx426_0⟩ := Kd.at_int (Kd.R_reads' HO_10.out).2.2 x13_3 p426 q426
                                                       obtain rfl : ad414 = ad426 := (by injection e426)
                                                       replace p426 := eq_true p426
                                                       replace q426 := eq_true q426
                                                       have p427 : 0 ≤ ((rd t410 x13_3) : Int) := of_decide_eq_true (by first | (with_reducible assumption) | assumption)
                                                       have q427 : (rd t410 x13_3) < (l0.length : Int) := of_decide_eq_true (by first | (with_reducible assumption) | assumption)
                                                       obtain ⟨ad427, e427, hx427_0, hx427_1, hx427_2, hx427_3, hx427_4, hx427_5⟩ := at_T41 HR0.out (rd t410 x13_3) p427 q427
                                                       cases e427
                                                       replace hx427_0 := (HB.out.cell (World.block_lt_of_cell? w _ hx427_0)).trans hx427_0
                                                       replace hx427_1 := (HB.out.cell (World.block_lt_of_cell? w _ hx427_1)).trans hx427_1
                                                       replace hx427_2 := (HB.out.cell (World.block_lt_of_cell? w _ hx427_2)).trans hx427_2
                                                       replace hx427_3 := (HB.out.cell (World.block_lt_of_cell? w _ hx427_3)).trans hx427_3
                                                       replace hx427_4 := (HB.out.cell (World.block_lt_of_cell? w _ hx427_4)).trans hx427_4
                                                       replace hx427_5 := (HB.out.cell (World.block_lt_of_cell? w _ hx427_5)).trans hx427_5
                                                       replace p427 := eq_true p427
                                                       replace q427 := eq_true q427
                                                       have p428 : 0 ≤ (x13_3 : Int) := of_decide_eq_true (by first | (with_reducible assumption) | assumption)
                                                       have q428 : x13_3 < (t410.length : Int) := of_decide_eq_true (by first | (with_reducible assumption) | assumption)
                                                       obtain ⟨ad428, e428, hx428_0⟩ := Kd.at_int (Kd.R_reads' HO_10.out).2.2 x13_3 p428 q428
                                                       obtain rfl : ad414 = ad428 := (by injection e428)
                                                       replace p428 := eq_true p428
                                                       replace q428 := eq_true q428
                                                       have p429 : 0 ≤ ((rd t410 x13_3) : Int) := of_decide_eq_true (by first | (with_reducible assumption) | assumption)
                                                       have q429 : (rd t410 x13_3) < (l0.length : Int) := of_decide_eq_true (by first | (with_reducible assumption) | assumption)
                                                       obtain ⟨ad429, e429, hx429_0, hx429_1, hx429_2, hx429_3, hx429_4, hx429_5⟩ := at_T41 HR0.out (rd t410 x13_3) p429 q429
                                                       obtain rfl : ad427 = ad429 := (by injection e429)
                                                       replace hx429_0 := (HB.out.cell (World.block_lt_of_cell? w _ hx429_0)).trans hx429_0
                                                       replace hx429_1 := (HB.out.cell (World.block_lt_of_cell? w _ hx429_1)).trans hx429_1
                                                       replace hx429_2 := (HB.out.cell (World.block_lt_of_cell? w _ hx429_2)).trans hx429_2
                                                       replace hx429_3 := (HB.out.cell (World.block_lt_of_cell? w _ hx429_3)).trans hx429_3
                                                       replace hx429_4 := (HB.out.cell (World.block_lt_of_cell? w _ hx429_4)).trans hx429_4
                                                       replace hx429_5 := (HB.out.cell (World.block_lt_of_cell? w _ hx429_5)).trans hx429_5
                                                       replace p429 := eq_true p429
                                                       replace q429 := eq_true q429
                                                       go_wp2
                                                       repeat (go_quiet (fail); try go_wp2)
                                                       go_roundg k3
                                                       case measure => have := HJ3.out; have := HK2.out; have := HK3.out; omega
                                                       case rel => exact ⟨((((rd_T41 l0 (rd t410 x13_3)).f0) == a1)), (wrap64 (x13_3 + 1)), (by first | rfl | (simp; done) | (simp [*]; done)), (by first | rfl | (simp; done) | (simp [*]; done)), H', ⟨by have := HJ3.out; have := HK2.out; have := HK3.out; omega⟩, ⟨by (with_reducible repeat (first | apply Kd.R_alloc | apply Kd.R_drewN | apply Kd.R_drew)); exact HO_7.out⟩, ⟨by (with_reducible repeat (first | apply Kd.R_alloc | apply Kd.R_drewN | apply Kd.R_drew)); exact HO_8.out⟩, ⟨by (with_reducible repeat (first | apply Kd.R_alloc | apply Kd.R_drewN | apply Kd.R_drew)); exact HO_10.out⟩, ⟨by repeat (first | (with_reducible first | exact HB.out | apply wA | apply wN | apply wD) | exact HB.out)⟩⟩
                                                   · rw [if_neg c44] at H
                                                     have c44b0 : (((rd_T41 l0 (rd t410 x13_3)).f4) == (-1)) = false := beq_eq_false_iff_ne.mpr c44
                                                     have c44b1 : (((rd_T41 l0 (rd t410 x13_3)).f4) != (-1)) = true := bne_iff_ne.mpr c44
                                                     exact absurd ((Option.some.inj H).trans hrt.out) (by decide)
                                                 · rw [if_neg c43] at H
                                                   exact absurd H (by simp)
                                               · rw [if_neg c42] at H
                                                 exact absurd H (by simp)
                                             · rw [if_neg c41] at H
                                               have c41b0 : ((wrap64 (x13_3 + 1)) == (t410.length : Int)) = false := beq_eq_false_iff_ne.mpr c41
                                               have c41b1 : ((wrap64 (x13_3 + 1)) != (t410.length : Int)) = true := bne_iff_ne.mpr c41
                                               by_cases c46 : x12_3 = true
                                               · subst c46
                                                 have H1 : (mummerlaw08_FaultsChains.l1 k3 l0 a1 t400 x8_2 x9_2 t410 true (wrap64 (x13_3 + 1))) = some r := by rw [if_pos rfl] at H; exact H
                                                 clear H
                                                 have H := H1
                                                 clear H1
                                                 have H' := ak H
                                                 clear H
                                                 have p415 : 0 ≤ (x13_3 : Int) := of_decide_eq_true (by first | (with_reducible assumption) | assumption)
                                                 have q415 : x13_3 < (t410.length : Int) := of_decide_eq_true (by first | (with_reducible assumption) | assumption)
                                                 obtain ⟨ad415, e415, hx415_0⟩ := Kd.at_int (Kd.R_reads' HO_10.out).2.2 x13_3 p415 q415
                                                 obtain rfl : ad414 = ad415 := (by injection e415)
                                                 replace p415 := eq_true p415
                                                 replace q415 := eq_true q415
                                                 have p416 : 0 ≤ (x13_3 : Int) := of_decide_eq_true (by first | (with_reducible assumption) | assumption)
                                                 have q416 : x13_3 < (t410.length : Int) := of_decide_eq_true (by first | (with_reducible assumption) | assumption)
                                                 obtain ⟨ad416, e416, hx416_0⟩ := Kd.at_int (Kd.R_reads' HO_10.out).2.2 x13_3 p416 q416
                                                 obtain rfl : ad414 = ad416 := (by injection e416)
                                                 replace p416 := eq_true p416
                                                 replace q416 := eq_true q416
                                                 go_wp2
                                                 repeat (go_quiet (fail); try go_wp2)
                                                 go_roundg k3
                                                 case measure => have := HJ3.out; have := HK2.out; have := HK3.out; omega
                                                 case rel => exact ⟨(true), (wrap64 (x13_3 + 1)), (by first | rfl | (simp; done) | (simp [*]; done)), (by first | rfl | (simp; done) | (simp [*]; done)), H', ⟨by have := HJ3.out; have := HK2.out; have := HK3.out; omega⟩, ⟨by (with_reducible repeat (first | apply Kd.R_alloc | apply Kd.R_drewN | apply Kd.R_drew)); exact HO_7.out⟩, ⟨by (with_reducible repeat (first | apply Kd.R_alloc | apply Kd.R_drewN | apply Kd.R_drew)); exact HO_8.out⟩, ⟨by (with_reducible repeat (first | apply Kd.R_alloc | apply Kd.R_drewN | apply Kd.R_drew)); exact HO_10.out⟩, ⟨by repeat (first | (with_reducible first | exact HB.out | apply wA | apply wN | apply wD) | exact HB.out)⟩⟩
                                               · replace c46 := Bool.eq_false_iff.mpr c46
                                                 subst c46
                                                 have H1 : (if 0 ≤ (rd t410 x13_3) then (if (rd t410 x13_3) < (l0.length : Int) then (mummerlaw08_FaultsChains.l1 k3 l0 a1 t400 x8_2 x9_2 t410 (((rd_T41 l0 (rd t410 x13_3)).f0) == a1) (wrap64 (x13_3 + 1))) else (none)) else (none)) = some r := by rw [if_neg (show ¬ (false = true) by decide)] at H; exact H
                                                 clear H
                                                 have H := H1
                                                 clear H1
                                                 by_cases c47 : 0 ≤ (rd t410 x13_3)
                                                 · rw [if_pos c47] at H
                                                   have c47b0 : decide (0 ≤ (rd t410 x13_3)) = true := decide_eq_true c47
                                                   clear c47
                                                   by_cases c48 : (rd t410 x13_3) < (l0.length : Int)
                                                   · rw [if_pos c48] at H
                                                     have c48b0 : decide ((rd t410 x13_3) < (l0.length : Int)) = true := decide_eq_true c48
                                                     clear c48
                                                     have H' := ak H
                                                     clear H
                                                     have p415 : 0 ≤ (x13_3 : Int) := of_decide_eq_true (by first | (with_reducible assumption) | assumption)
                                                     have q415 : x13_3 < (t410.length : Int) := of_decide_eq_true (by first | (with_reducible assumption) | assumption)
                                                     obtain ⟨ad415, e415, hx415_0⟩ := Kd.at_int (Kd.R_reads' HO_10.out).2.2 x13_3 p415 q415
                                                     obtain rfl : ad414 = ad415 := (by injection e415)
                                                     replace p415 := eq_true p415
                                                     replace q415 := eq_true q415
                                                     have p416 : 0 ≤ (x13_3 : Int) := of_decide_eq_true (by first | (with_reducible assumption) | assumption)
                                                     have q416 : x13_3 < (t410.length : Int) := of_decide_eq_true (by first | (with_reducible assumption) | assumption)
                                                     obtain ⟨ad416, e416, hx416_0⟩ := Kd.at_int (Kd.R_reads' HO_10.out).2.2 x13_3 p416 q416
                                                     obtain rfl : ad414 = ad416 := (by injection e416)
                                                     replace p416 := eq_true p416
                                                     replace q416 := eq_true q416
                                                     have p430 : 0 ≤ (x13_3 : Int) := of_decide_eq_true (by first | (with_reducible assumption) | assumption)
                                                     have q430 : x13_3 < (t410.length : Int) := of_decide_eq_true (by first | (with_reducible assumption) | assumption)
                                                     obtain ⟨ad430, e430, hx430_0⟩ := Kd.at_int (Kd.R_reads' HO_10.out).2.2 x13_3 p430 q430
                                                     obtain rfl : ad414 = ad430 := (by injection e430)
                                                     replace p430 := eq_true p430
                                                     replace q430 := eq_true q430
                                                     have p431 : 0 ≤ ((rd t410 x13_3) : Int) := of_decide_eq_true (by first | (with_reducible assumption) | assumption)
                                                     have q431 : (rd t410 x13_3) < (l0.length : Int) := of_decide_eq_true (by first | (with_reducible assumption) | assumption)
                                                     obtain ⟨ad431, e431, hx431_0, hx431_1, hx431_2, hx431_3, hx431_4, hx431_5⟩ := at_T41 HR0.out (rd t410 x13_3) p431 q431
                                                     cases e431
                                                     replace hx431_0 := (HB.out.cell (World.block_lt_of_cell? w _ hx431_0)).trans hx431_0
                                                     replace hx431_1 := (HB.out.cell (World.block_lt_of_cell? w _ hx431_1)).trans hx431_1
                                                     replace hx431_2 := (HB.out.cell (World.block_lt_of_cell? w _ hx431_2)).trans hx431_2
                                                     replace hx431_3 := (HB.out.cell (World.block_lt_of_cell? w _ hx431_3)).trans hx431_3
                                                     replace hx431_4 := (HB.out.cell (World.block_lt_of_cell? w _ hx431_4)).trans hx431_4
                                                     replace hx431_5 := (HB.out.cell (World.block_lt_of_cell? w _ hx431_5)).trans hx431_5
                                                     replace p431 := eq_true p431
                                                     replace q431 := eq_true q431
                                                     go_wp2
                                                     repeat (go_quiet (fail); try go_wp2)
                                                     go_roundg k3
                                                     case measure => have := HJ3.out; have := HK2.out; have := HK3.out; omega
                                                     case rel => exact ⟨((((rd_T41 l0 (rd t410 x13_3)).f0) == a1)), (wrap64 (x13_3 + 1)), (by first | rfl | (simp; done) | (simp [*]; done)), (by first | rfl | (simp; done) | (simp [*]; done)), H', ⟨by have := HJ3.out; have := HK2.out; have := HK3.out; omega⟩, ⟨by (with_reducible repeat (first | apply Kd.R_alloc | apply Kd.R_drewN | apply Kd.R_drew)); exact HO_7.out⟩, ⟨by (with_reducible repeat (first | apply Kd.R_alloc | apply Kd.R_drewN | apply Kd.R_drew)); exact HO_8.out⟩, ⟨by (with_reducible repeat (first | apply Kd.R_alloc | apply Kd.R_drewN | apply Kd.R_drew)); exact HO_10.out⟩, ⟨by repeat (first | (with_reducible first | exact HB.out | apply wA | apply wN | apply wD) | exact HB.out)⟩⟩
                                                   · rw [if_neg c48] at H
                                                     exact absurd H (by simp)
                                                 · rw [if_neg c47] at H
                                                   exact absurd H (by simp)
                                     · rw [if_neg c28] at H
                                       exact absurd H (by simp)
                                   · rw [if_neg c27] at H
                                     have c27b0 : decide (x13_3 < (t410.length : Int)) = false := decide_eq_false c27
                                     clear c27
                                     replace H := Option.bind_eq_some_iff.mp H
                                     obtain ⟨⟨t432, t433⟩, A490, H⟩ := H
                                     replace H : (if (t432 != x12_3) = true then (some false) else (if t433 = 0 then (mummerlaw08_FaultsChains.l2 k3 l0 a1 t400 x8_2 x9_2 t410 0) else (some false))) = some r := H
                                     have A49 := ak A490
                                     clear A490
                                     by_cases c50 : (t432 != x12_3) = true
                                     · rw [if_pos c50] at H
                                       have c50b0 : (t432 != x12_3) = true := c50
                                       (try (have c50b1 : decide (t432 = x12_3) = false := by simpa using c50))
                                       (try (have c50b2 : (t432 == x12_3) = false := by simpa using c50))
                                       (try (have c50b3 : ¬ (t432 = x12_3) := by simpa using c50))
                                       clear c50
                                       exact absurd ((Option.some.inj H).trans hrt.out) (by decide)
                                     · rw [if_neg c50] at H
                                       have c50b0 : (t432 != x12_3) = false := by simpa using c50
                                       (try (have c50b1 : decide (t432 = x12_3) = true := by simpa using c50))
                                       (try (have c50b2 : (t432 == x12_3) = true := by simpa using c50))
                                       clear c50
                                       by_cases c51 : t433 = 0
                                       · rw [if_pos c51] at H
                                         have c51b0 : (t433 == 0) = true := beq_iff_eq.mpr c51
                                         have c51b1 : (t433 != 0) = false := bne_eq_false_iff_eq.mpr c51
                                         clear c51
                                         have H' := ak H
                                         clear H
                                         go_wp2_with (first | (go_at_call 32; (with_reducible refine (faults_Has.calls k3 _ _ l0 x9_2 a1 t432 t433 _ ?side1 ?side2 A49.out ⟨Ft.All.stay HT.out (by repeat (first | (with_reducible first | exact HB.out | apply wA | apply wN | apply wD) | exact HB.out | (refine below_set ?_ (by assumption)) | (refine below_set ?_ (Aside0.out (by assumption)))))⟩).mono ?_); (case side1 => repeat (first | exact (Kd.C_below HR0.out HB.out) | (with_reducible refine Kd.C_alloc ?_ _) | (with_reducible refine Kd.C_drewN ?_ _) | (with_reducible refine Kd.C_drew ?_))); (case side2 => exact HC0.out); rintro e w52 ⟨rfl, hb⟩; have n0_ := ak (Kd.R_below (by (with_reducible repeat (first | apply Kd.R_alloc | apply Kd.R_drewN | apply Kd.R_drew)); exact HO_7.out) hb); have n1_ := ak (Kd.R_below (by (with_reducible repeat (first | apply Kd.R_alloc | apply Kd.R_drewN | apply Kd.R_drew)); exact HO_8.out) hb); have n2_ := ak (Kd.R_below (by (with_reducible repeat (first | apply Kd.R_alloc | apply Kd.R_drewN | apply Kd.R_drew)); exact HO_10.out) hb); have n3_ := ak (below_step (by repeat (first | (with_reducible first | exact HB.out | apply wA | apply wN | apply wD) | exact HB.out)) hb); clear HO_7; clear HO_8; clear HO_10; clear HB; have HO_7 := n0_; have HO_8 := n1_; have HO_10 := n2_; have HB := n3_; clear n0_ n1_ n2_ n3_; (try clear hb); (try clear hb2); (try clear hk); (try clear hi)))
                                         repeat (go_quiet (first | (go_at_call 32; (with_reducible refine (faults_Has.calls k3 _ _ l0 x9_2 a1 t432 t433 _ ?side1 ?side2 A49.out ⟨Ft.All.stay HT.out (by repeat (first | (with_reducible first | exact HB.out | apply wA | apply wN | apply wD) | exact HB.out | (refine below_set ?_ (by assumption)) | (refine below_set ?_ (Aside0.out (by assumption)))))⟩).mono ?_); (case side1 => repeat (first | exact (Kd.C_below HR0.out HB.out) | (with_reducible refine Kd.C_alloc ?_ _) | (with_reducible refine Kd.C_drewN ?_ _) | (with_reducible refine Kd.C_drew ?_))); (case side2 => exact HC0.out); rintro e w52 ⟨rfl, hb⟩; have n0_ := ak (Kd.R_below (by (with_reducible repeat (first | apply Kd.R_alloc | apply Kd.R_drewN | apply Kd.R_drew)); exact HO_7.out) hb); have n1_ := ak (Kd.R_below (by (with_reducible repeat (first | apply Kd.R_alloc | apply Kd.R_drewN | apply Kd.R_drew)); exact HO_8.out) hb); have n2_ := ak (Kd.R_below (by (with_reducible repeat (first | apply Kd.R_alloc | apply Kd.R_drewN | apply Kd.R_drew)); exact HO_10.out) hb); have n3_ := ak (below_step (by repeat (first | (with_reducible first | exact HB.out | apply wA | apply wN | apply wD) | exact HB.out)) hb); clear HO_7; clear HO_8; clear HO_10; clear HB; have HO_7 := n0_; have HO_8 := n1_; have HO_10 := n2_; have HB := n3_; clear n0_ n1_ n2_ n3_; (try clear hb); (try clear hb2); (try clear hk); (try clear hi))); try go_wp2_with (first | (go_at_call 32; (with_reducible refine (faults_Has.calls k3 _ _ l0 x9_2 a1 t432 t433 _ ?side1 ?side2 A49.out ⟨Ft.All.stay HT.out (by repeat (first | (with_reducible first | exact HB.out | apply wA | apply wN | apply wD) | exact HB.out | (refine below_set ?_ (by assumption)) | (refine below_set ?_ (Aside0.out (by assumption)))))⟩).mono ?_); (case side1 => repeat (first | exact (Kd.C_below HR0.out HB.out) | (with_reducible refine Kd.C_alloc ?_ _) | (with_reducible refine Kd.C_drewN ?_ _) | (with_reducible refine Kd.C_drew ?_))); (case side2 => exact HC0.out); rintro e w52 ⟨rfl, hb⟩; have n0_ := ak (Kd.R_below (by (with_reducible repeat (first | apply Kd.R_alloc | apply Kd.R_drewN | apply Kd.R_drew)); exact HO_7.out) hb); have n1_ := ak (Kd.R_below (by (with_reducible repeat (first | apply Kd.R_alloc | apply Kd.R_drewN | apply Kd.R_drew)); exact HO_8.out) hb); have n2_ := ak (Kd.R_below (by (with_reducible repeat (first | apply Kd.R_alloc | apply Kd.R_drewN | apply Kd.R_drew)); exact HO_10.out) hb); have n3_ := ak (below_step (by repeat (first | (with_reducible first | exact HB.out | apply wA | apply wN | apply wD) | exact HB.out)) hb); clear HO_7; clear HO_8; clear HO_10; clear HB; have HO_7 := n0_; have HO_8 := n1_; have HO_10 := n2_; have HB := n3_; clear n0_ n1_ n2_ n3_; (try clear hb); (try clear hb2); (try clear hk); (try clear hi))))
                                         go_loopg [16] k3 (fun kq v16 w' => ∃ (x8_4 : List Bool) (x16_4 : Int), v16 = .int .i64 x16_4 ∧ Aside0 (mummerlaw08_FaultsChains.l2 kq l0 a1 t400 x8_4 x9_2 t410 x16_4 = some r) ∧ Aside0 (kq ≤ k3) ∧ Aside0 (Kd.R (Kd.int .i64) 3 w' w.heap.size (fun k_ => some k_ ≠ ((.slice (some ad414) t410.length co26) : Value).ownBlock) v402 t400) ∧ Aside0 (Kd.R Kd.bool 4 w' w.heap.size (fun _ => True) v408 x8_4) ∧ Aside0 (Kd.R (Kd.int .i64) 3 w' w.heap.size (fun k_ => some k_ ≠ (v402 : Value).ownBlock) (.slice (some ad414) t410.length co26) t410) ∧ Aside0 (Below w.heap.size w w'))
                                         case atStart => exact ⟨(x8_2), (0), (by first | rfl | (simp; done) | (simp [*]; done)), H', ⟨Nat.le_refl _⟩, ⟨by (with_reducible repeat (first | apply Kd.R_alloc | apply Kd.R_drewN | apply Kd.R_drew)); exact HO_7.out⟩, ⟨by (with_reducible repeat (first | apply Kd.R_alloc | apply Kd.R_drewN | apply Kd.R_drew)); exact HO_8.out⟩, ⟨by (with_reducible repeat (first | apply Kd.R_alloc | apply Kd.R_drewN | apply Kd.R_drew)); exact HO_10.out⟩, ⟨by repeat (first | (with_reducible first | exact HB.out | apply wA | apply wN | apply wD) | exact HB.out)⟩⟩
                                         case round =>
                                           clear H'
                                           try clear c2
                                           try clear p2
                                           try clear c3
                                           try clear c4
                                           try clear p4
                                           try clear q4
                                           try clear hx4
                                           try clear c5
                                           try clear p6
                                           try clear c27
                                           try clear c27b0
                                           try clear c28
                                           try clear c28b0
                                           try clear c29
                                           try clear c29b0
                                           try clear c30
                                           try clear c30b0
                                           try clear c31
                                           try clear c31b0
                                           try clear c33
                                           try clear c33b0
                                           try clear c34
                                           try clear c34b0
                                           try clear c35
                                           try clear c35b0
                                           try clear c36
                                           try clear c36b0
                                           try clear c36b1
                                           try clear c37
                                           try clear c37b0
                                           try clear c37b1
                                           try clear c38
                                           try clear c38b0
                                           try clear c38b1
                                           try clear c39
                                           try clear c40
                                           try clear c41
                                           try clear c41b0
                                           try clear c41b1
                                           try clear p41
                                           try clear q41
                                           try clear hx41
                                           try clear c42
                                           try clear c42b0
                                           try clear p42
                                           try clear q42
                                           try clear hx42
                                           try clear c43
                                           try clear c43b0
                                           try clear p43
                                           try clear q43
                                           try clear hx43
                                           try clear c44
                                           try clear c44b0
                                           try clear c44b1
                                           try clear c45
                                           try clear c46
                                           try clear c47
                                           try clear c47b0
                                           try clear c48
                                           try clear c48b0
                                           try clear c50
                                           try clear c50b0
                                           try clear c50b1
                                           try clear c50b2
                                           try clear c51
                                           try clear c51b0
                                           try clear c51b1
                                           try clear hx415_0
                                           try clear hx416_0
                                           try clear hx417_0
                                           try clear hx418_0
                                           try clear hx419_0
                                           try clear hx419_1
                                           try clear hx419_2
                                           try clear hx419_3
                                           try clear hx419_4
                                           try clear hx419_5
                                           try clear hx420_0
                                           try clear hx421_0
                                           try clear hx421_1
                                           try clear hx421_2
                                           try clear hx421_3
                                           try clear hx421_4
                                           try clear hx421_5
                                           try clear hx422_0
                                           try clear hx423_0
                                           try clear hx423_1
                                           try clear hx423_2
                                           try clear hx423_3
                                           try clear hx423_4
                                           try clear hx423_5
                                           try clear hx424_0
                                           try clear hx425_0
                                           try clear hx425_1
                                           try clear hx425_2
                                           try clear hx425_3
                                           try clear hx425_4
                                           try clear hx425_5
                                           try clear hx426_0
                                           try clear hx427_0
                                           try clear hx427_1
                                           try clear hx427_2
                                           try clear hx427_3
                                           try clear hx427_4
                                           try clear hx427_5
                                           try clear hx428_0
                                           try clear hx429_0
                                           try clear hx429_1
                                           try clear hx429_2
                                           try clear hx429_3
                                           try clear hx429_4
                                           try clear hx429_5
                                           try clear hx430_0
                                           try clear hx431_0
                                           try clear hx431_1
                                           try clear hx431_2
                                           try clear hx431_3
                                           try clear hx431_4
                                           try clear hx431_5
                                           try clear p415
                                           try clear p416
                                           try clear p417
                                           try clear p418
                                           try clear p419
                                           try clear p420
                                           try clear p421
                                           try clear p422
                                           try clear p423
                                           try clear p424
                                           try clear p425
                                           try clear p426
                                           try clear p427
                                           try clear p428
                                           try clear p429
                                           try clear p430
                                           try clear p431
                                           try clear q415
                                           try clear q416
                                           try clear q417
                                           try clear q418
                                           try clear q419
                                           try clear q420
                                           try clear q421
                                           try clear q422
                                           try clear q423
                                           try clear q424
                                           try clear q425
                                           try clear q426
                                           try clear q427
                                           try clear q428
                                           try clear q429
                                           try clear q430
                                           try clear q431
                                           obtain ⟨x8_4, x16_4, rfl, HA, HK4, HO_7, HO_8, HO_10, HB⟩ := hrel
                                           cases gk with
                                           | zero => exact absurd HA.out (by simp [mummerlaw08_FaultsChains.l2])
                                           | succ k4 =>
                                             have H := HA.out
                                             clear HA
                                             simp only [mummerlaw08_FaultsChains.l2] at H
                                             by_cases c53 : x16_4 < (t400.length : Int)
                                             · rw [if_pos c53] at H
                                               have c53b0 : decide (x16_4 < (t400.length : Int)) = true := decide_eq_true c53
                                               clear c53
                                               by_cases c54 : 0 ≤ x16_4
                                               · rw [if_pos c54] at H
                                                 have c54b0 : decide (0 ≤ x16_4) = true := decide_eq_true c54
                                                 clear c54
                                                 by_cases c55 : (rd t400 x16_4) = x9_2
                                                 · rw [if_pos c55] at H
                                                   have c55b0 : ((rd t400 x16_4) == x9_2) = true := beq_iff_eq.mpr c55
                                                   have c55b1 : ((rd t400 x16_4) != x9_2) = false := bne_eq_false_iff_eq.mpr c55
                                                   clear c55
                                                   have H' := ak H
                                                   clear H
                                                   obtain ⟨Ao56, co56, eo56⟩ := Kd.R_slice HO_7.out
                                                   subst eo56
                                                   have p434 : 0 ≤ (x16_4 : Int) := of_decide_eq_true (by first | (with_reducible assumption) | assumption)
                                                   have q434 : x16_4 < (t400.length : Int) := of_decide_eq_true (by first | (with_reducible assumption) | assumption)
                                                   obtain ⟨ad434, e434, hx434_0⟩ := Kd.at_int (Kd.R_reads' HO_7.out).2.2 x16_4 p434 q434
                                                   cases e434
                                                   replace p434 := eq_true p434
                                                   replace q434 := eq_true q434
                                                   go_wp2
                                                   repeat (go_quiet (fail); try go_wp2)
                                                   go_loopg [17] k4 (fun kq v17 w' => ∃ (x8_5 : List Bool) (x17_5 : Int), v17 = .int .i64 x17_5 ∧ Aside0 (mummerlaw08_FaultsChains.l3 kq l0 a1 t400 x8_5 x9_2 t410 x16_4 x17_5 = some r) ∧ Aside0 (kq ≤ k4) ∧ Aside0 (Kd.R (Kd.int .i64) 3 w' w.heap.size (fun k_ => some k_ ≠ ((.slice (some ad414) t410.length co26) : Value).ownBlock) (.slice (some ad434) t400.length co56) t400) ∧ Aside0 (Kd.R Kd.bool 4 w' w.heap.size (fun _ => True) v408 x8_5) ∧ Aside0 (Kd.R (Kd.int .i64) 3 w' w.heap.size (fun k_ => some k_ ≠ ((.slice (some ad434) t400.length co56) : Value).ownBlock) (.slice (some ad414) t410.length co26) t410) ∧ Aside0 (Below w.heap.size w w'))
                                                   case atStart => exact ⟨(x8_4), (0), (by first | rfl | (simp; done) | (simp [*]; done)), H', ⟨Nat.le_refl _⟩, ⟨by (with_reducible repeat (first | apply Kd.R_alloc | apply Kd.R_drewN | apply Kd.R_drew)); exact HO_7.out⟩, ⟨by (with_reducible repeat (first | apply Kd.R_alloc | apply Kd.R_drewN | apply Kd.R_drew)); exact HO_8.out⟩, ⟨by (with_reducible repeat (first | apply Kd.R_alloc | apply Kd.R_drewN | apply Kd.R_drew)); exact HO_10.out⟩, ⟨by repeat (first | (with_reducible first | exact HB.out | apply wA | apply wN | apply wD) | exact HB.out)⟩⟩
                                                   case round =>
                                                     clear H'
                                                     try clear c2
                                                     try clear p2
                                                     try clear c3
                                                     try clear c4
                                                     try clear p4
                                                     try clear q4
                                                     try clear hx4
                                                     try clear c5
                                                     try clear p6
                                                     try clear c27
                                                     try clear c27b0
                                                     try clear c28
                                                     try clear c28b0
                                                     try clear c29
                                                     try clear c29b0
                                                     try clear c30
                                                     try clear c30b0
                                                     try clear c31
                                                     try clear c31b0
                                                     try clear c33
                                                     try clear c33b0
                                                     try clear c34
                                                     try clear c34b0
                                                     try clear c35
                                                     try clear c35b0
                                                     try clear c36
                                                     try clear c36b0
                                                     try clear c36b1
                                                     try clear c37
                                                     try clear c37b0
                                                     try clear c37b1
                                                     try clear c38
                                                     try clear c38b0
                                                     try clear c38b1
                                                     try clear c39
                                                     try clear c40
                                                     try clear c41
                                                     try clear c41b0
                                                     try clear c41b1
                                                     try clear p41
                                                     try clear q41
                                                     try clear hx41
                                                     try clear c42
                                                     try clear c42b0
                                                     try clear p42
                                                     try clear q42
                                                     try clear hx42
                                                     try clear c43
                                                     try clear c43b0
                                                     try clear p43
                                                     try clear q43
                                                     try clear hx43
                                                     try clear c44
                                                     try clear c44b0
                                                     try clear c44b1
                                                     try clear c45
                                                     try clear c46
                                                     try clear c47
                                                     try clear c47b0
                                                     try clear c48
                                                     try clear c48b0
                                                     try clear c50
                                                     try clear c50b0
                                                     try clear c50b1
                                                     try clear c50b2
                                                     try clear c51
                                                     try clear c51b0
                                                     try clear c51b1
                                                     try clear c53
                                                     try clear c53b0
                                                     try clear c54
                                                     try clear c54b0
                                                     try clear c55
                                                     try clear c55b0
                                                     try clear c55b1
                                                     try clear hx415_0
                                                     try clear hx416_0
                                                     try clear hx417_0
                                                     try clear hx418_0
                                                     try clear hx419_0
                                                     try clear hx419_1
                                                     try clear hx419_2
                                                     try clear hx419_3
                                                     try clear hx419_4
                                                     try clear hx419_5
                                                     try clear hx420_0
                                                     try clear hx421_0
                                                     try clear hx421_1
                                                     try clear hx421_2
                                                     try clear hx421_3
                                                     try clear hx421_4
                                                     try clear hx421_5
                                                     try clear hx422_0
                                                     try clear hx423_0
                                                     try clear hx423_1
                                                     try clear hx423_2
                                                     try clear hx423_3
                                                     try clear hx423_4
                                                     try clear hx423_5
                                                     try clear hx424_0
                                                     try clear hx425_0
                                                     try clear hx425_1
                                                     try clear hx425_2
                                                     try clear hx425_3
                                                     try clear hx425_4
                                                     try clear hx425_5
                                                     try clear hx426_0
                                                     try clear hx427_0
                                                     try clear hx427_1
                                                     try clear hx427_2
                                                     try clear hx427_3
                                                     try clear hx427_4
                                                     try clear hx427_5
                                                     try clear hx428_0
                                                     try clear hx429_0
                                                     try clear hx429_1
                                                     try clear hx429_2
                                                     try clear hx429_3
                                                     try clear hx429_4
                                                     try clear hx429_5
                                                     try clear hx430_0
                                                     try clear hx431_0
                                                     try clear hx431_1
                                                     try clear hx431_2
                                                     try clear hx431_3
                                                     try clear hx431_4
                                                     try clear hx431_5
                                                     try clear hx434_0
                                                     try clear p2
                                                     try clear p4
                                                     try clear p41
                                                     try clear p415
                                                     try clear p416
                                                     try clear p417
                                                     try clear p418
                                                     try clear p419
                                                     try clear p42
                                                     try clear p420
                                                     try clear p421
                                                     try clear p422
                                                     try clear p423
                                                     try clear p424
                                                     try clear p425
                                                     try clear p426
                                                     try clear p427
                                                     try clear p428
                                                     try clear p429
                                                     try clear p43
                                                     try clear p430
                                                     try clear p431
                                                     try clear p434
                                                     try clear p6
                                                     try clear q4
                                                     try clear q41
                                                     try clear q415
                                                     try clear q416
                                                     try clear q417
                                                     try clear q418
                                                     try clear q419
                                                     try clear q42
                                                     try clear q420
                                                     try clear q421
                                                     try clear q422
                                                     try clear q423
                                                     try clear q424
                                                     try clear q425
                                                     try clear q426
                                                     try clear q427
                                                     try clear q428
                                                     try clear q429
                                                     try clear q43
                                                     try clear q430
                                                     try clear q431
                                                     try clear q434
                                                     obtain ⟨x8_5, x17_5, rfl, HA, HK5, HO_7, HO_8, HO_10, HB⟩ := hrel
                                                     cases gk with
                                                     | zero => exact absurd HA.out (by simp [mummerlaw08_FaultsChains.l3])
                                                     | succ k5 =>
                                                       have H := HA.out
                                                       clear HA
                                                       simp only [mummerlaw08_FaultsChains.l3] at H
                                                       by_cases c57 : x17_5 < (t410.length : Int)
                                                       · rw [if_pos c57] at H
                                                         have c57b0 : decide (x17_5 < (t410.length : Int)) = true := decide_eq_true c57
                                                         clear c57
                                                         by_cases c58 : 0 ≤ x17_5
                                                         · rw [if_pos c58] at H
                                                           have c58b0 : decide (0 ≤ x17_5) = true := decide_eq_true c58
                                                           clear c58
                                                           by_cases c59 : 0 ≤ (rd t410 x17_5)
                                                           · rw [if_pos c59] at H
                                                             have c59b0 : decide (0 ≤ (rd t410 x17_5)) = true := decide_eq_true c59
                                                             clear c59
                                                             by_cases c60 : (rd t410 x17_5) < (x8_5.length : Int)
                                                             · rw [if_pos c60] at H
                                                               have c60b0 : decide ((rd t410 x17_5) < (x8_5.length : Int)) = true := decide_eq_true c60
                                                               clear c60
                                                               obtain ⟨y436, hy436⟩ : ∃ y_ : List Bool, y_ = (x8_5.set ((rd t410 x17_5) : Int).toNat true) := ⟨_, rfl⟩
                                                               replace H : (mummerlaw08_FaultsChains.l3 k5 l0 a1 t400 y436 x9_2 t410 x16_4 (wrap64 (x17_5 + 1))) = some r := by first | (rw [hy436]; with_reducible exact H) | (have H2_ := (Option.bind_some _ _).symm.trans H; rw [hy436]; with_reducible exact H2_) | (have H2_ := (Option.bind_some _ _).symm.trans H; with_reducible exact H2_) | with_reducible exact H | (rw [hy436]; exact H) | exact H
                                                               have Ny436 := ak hy436
                                                               clear hy436
                                                               have H' := ak H
                                                               clear H
                                                               have p435 : 0 ≤ (x17_5 : Int) := of_decide_eq_true (by first | (with_reducible assumption) | assumption)
                                                               have q435 : x17_5 < (t410.length : Int) := of_decide_eq_true (by first | (with_reducible assumption) | assumption)
                                                               obtain ⟨ad435, e435, hx435_0⟩ := Kd.at_int (Kd.R_reads' HO_10.out).2.2 x17_5 p435 q435
                                                               obtain rfl : ad414 = ad435 := (by injection e435)
                                                               replace p435 := eq_true p435
                                                               replace q435 := eq_true q435
                                                               have p61 : 0 ≤ ((rd t410 x17_5) : Int) := of_decide_eq_true (by first | (with_reducible assumption) | assumption)
                                                               have q61 : ((rd t410 x17_5) : Int) < ((x8_5.length : Int) : Int) := of_decide_eq_true (by first | (with_reducible assumption) | assumption)
                                                               obtain ⟨go61, co61, eo61, gb61, gl61, cl61, HG61⟩ := Kd.R_form HO_8.out (by omega)
                                                               (first | cases eo61 | (injection eo61 with ea_ en_ ec_; (first | subst ea_ | (injection ea_ with ea_; subst ea_)); subst ec_; clear en_))
                                                               have GB61 := ak gb61
                                                               have GG61 := ak HG61
                                                               clear gb61 gl61 HG61
                                                               obtain ⟨hx61_0, hf61_0⟩ := Kd.R_celln false HO_8.out ((rd t410 x17_5) : Int) p61 q61
                                                               replace p61 := eq_true p61
                                                               replace q61 := eq_true q61
                                                               have HP62 := Kd.R_putg HO_8.out ((rd t410 x17_5) : Int) true
                                                               go_wp2_with (first | ((with_reducible refine gate_store (t := 4) (p := 185) rfl ?_); (try (rw [drewN_self wr]; generalize hq_ : World.drewN wr _ = wr; have n0_ := ak (Kd.R_at hq_ HO_7.out); have n1_ := ak (Kd.R_at hq_ HO_8.out); have n2_ := ak (Kd.R_at hq_ HO_10.out); have n3_ := ak (below_at hq_ HB.out); clear hq_ HO_7 HO_8 HO_10 HB; have HO_7 := n0_; have HO_8 := n1_; have HO_10 := n2_; have HB := n3_; clear n0_ n1_ n2_ n3_; (try (have HP62 := Kd.R_putg HO_8.out ((rd t410 x17_5) : Int) true)))); refine store_event (t := 4) (p := 185) (v := ?vo_w63) (w1 := (wr.setCell ⟨go61, ((rd t410 x17_5) : Int).toNat, none⟩ (.bool true))) ?hg ?ho ?hn ?hr ?_; (case ho => rfl); (case hg => rfl); (case hn => rfl); (case hr => first | (go_simp; done) | (go_simp; rfl)); intro w63 hw; have hg : wr.grownBy w63 (some go61) := (by rw [hw]; exact HP62.2); have hp_ : Kd.R Kd.bool 4 w63 w.heap.size (fun _ => True) (.slice (some ⟨go61, 0, none⟩) x8_5.length co61) y436 := (by rw [hw, Ny436.out]; exact HP62.1); clear HP62; have n0_ := ak (Kd.R_over' (v := (.slice (some ⟨go61, 0, none⟩) x8_5.length co61)) (by (with_reducible repeat (first | apply Kd.R_alloc | apply Kd.R_drewN | apply Kd.R_drew)); exact HO_7.out) (Kd.R_typed HO_8.out) (by decide) hg); have n1_ := ak (hp_); have n2_ := ak (Kd.R_over' (v := (.slice (some ⟨go61, 0, none⟩) x8_5.length co61)) (by (with_reducible repeat (first | apply Kd.R_alloc | apply Kd.R_drewN | apply Kd.R_drew)); exact HO_10.out) (Kd.R_typed HO_8.out) (by decide) hg); have n3_ := ak ((by rw [hw]; exact below_set (HB.out) GB61.out : Below w.heap.size w w63)); clear HO_7; clear HO_8; clear HO_10; clear HB; have HO_7 := n0_; have HO_8 := n1_; have HO_10 := n2_; have HB := n3_; clear n0_ n1_ n2_ n3_; clear hg hw hp_))
                                                               repeat (go_quiet (first | ((with_reducible refine gate_store (t := 4) (p := 185) rfl ?_); (try (rw [drewN_self wr]; generalize hq_ : World.drewN wr _ = wr; have n0_ := ak (Kd.R_at hq_ HO_7.out); have n1_ := ak (Kd.R_at hq_ HO_8.out); have n2_ := ak (Kd.R_at hq_ HO_10.out); have n3_ := ak (below_at hq_ HB.out); clear hq_ HO_7 HO_8 HO_10 HB; have HO_7 := n0_; have HO_8 := n1_; have HO_10 := n2_; have HB := n3_; clear n0_ n1_ n2_ n3_; (try (have HP62 := Kd.R_putg HO_8.out ((rd t410 x17_5) : Int) true)))); refine store_event (t := 4) (p := 185) (v := ?vo_w63) (w1 := (wr.setCell ⟨go61, ((rd t410 x17_5) : Int).toNat, none⟩ (.bool true))) ?hg ?ho ?hn ?hr ?_; (case ho => rfl); (case hg => rfl); (case hn => rfl); (case hr => first | (go_simp; done) | (go_simp; rfl)); intro w63 hw; have hg : wr.grownBy w63 (some go61) := (by rw [hw]; exact HP62.2); have hp_ : Kd.R Kd.bool 4 w63 w.heap.size (fun _ => True) (.slice (some ⟨go61, 0, none⟩) x8_5.length co61) y436 := (by rw [hw, Ny436.out]; exact HP62.1); clear HP62; have n0_ := ak (Kd.R_over' (v := (.slice (some ⟨go61, 0, none⟩) x8_5.length co61)) (by (with_reducible repeat (first | apply Kd.R_alloc | apply Kd.R_drewN | apply Kd.R_drew)); exact HO_7.out) (Kd.R_typed HO_8.out) (by decide) hg); have n1_ := ak (hp_); have n2_ := ak (Kd.R_over' (v := (.slice (some ⟨go61, 0, none⟩) x8_5.length co61)) (by (with_reducible repeat (first | apply Kd.R_alloc | apply Kd.R_drewN | apply Kd.R_drew)); exact HO_10.out) (Kd.R_typed HO_8.out) (by decide) hg); have n3_ := ak ((by rw [hw]; exact below_set (HB.out) GB61.out : Below w.heap.size w w63)); clear HO_7; clear HO_8; clear HO_10; clear HB; have HO_7 := n0_; have HO_8 := n1_; have HO_10 := n2_; have HB := n3_; clear n0_ n1_ n2_ n3_; clear hg hw hp_)); try go_wp2_with (first | ((with_reducible refine gate_store (t := 4) (p := 185) rfl ?_); (try (rw [drewN_self wr]; generalize hq_ : World.drewN wr _ = wr; have n0_ := ak (Kd.R_at hq_ HO_7.out); have n1_ := ak (Kd.R_at hq_ HO_8.out); have n2_ := ak (Kd.R_at hq_ HO_10.out); have n3_ := ak (below_at hq_ HB.out); clear hq_ HO_7 HO_8 HO_10 HB; have HO_7 := n0_; have HO_8 := n1_; have HO_10 := n2_; have HB := n3_; clear n0_ n1_ n2_ n3_; (try (have HP62 := Kd.R_putg HO_8.out ((rd t410 x17_5) : Int) true)))); refine store_event (t := 4) (p := 185) (v := ?vo_w63) (w1 := (wr.setCell ⟨go61, ((rd t410 x17_5) : Int).toNat, none⟩ (.bool true))) ?hg ?ho ?hn ?hr ?_; (case ho => rfl); (case hg => rfl); (case hn => rfl); (case hr => first | (go_simp; done) | (go_simp; rfl)); intro w63 hw; have hg : wr.grownBy w63 (some go61) := (by rw [hw]; exact HP62.2); have hp_ : Kd.R Kd.bool 4 w63 w.heap.size (fun _ => True) (.slice (some ⟨go61, 0, none⟩) x8_5.length co61) y436 := (by rw [hw, Ny436.out]; exact HP62.1); clear HP62; have n0_ := ak (Kd.R_over' (v := (.slice (some ⟨go61, 0, none⟩) x8_5.length co61)) (by (with_reducible repeat (first | apply Kd.R_alloc | apply Kd.R_drewN | apply Kd.R_drew)); exact HO_7.out) (Kd.R_typed HO_8.out) (by decide) hg); have n1_ := ak (hp_); have n2_ := ak (Kd.R_over' (v := (.slice (some ⟨go61, 0, none⟩) x8_5.length co61)) (by (with_reducible repeat (first | apply Kd.R_alloc | apply Kd.R_drewN | apply Kd.R_drew)); exact HO_10.out) (Kd.R_typed HO_8.out) (by decide) hg); have n3_ := ak ((by rw [hw]; exact below_set (HB.out) GB61.out : Below w.heap.size w w63)); clear HO_7; clear HO_8; clear HO_10; clear HB; have HO_7 := n0_; have HO_8 := n1_; have HO_10 := n2_; have HB := n3_; clear n0_ n1_ n2_ n3_; clear hg hw hp_)))
                                                               go_roundg k5
                                                               case measure => have := HJ3.out; have := HK2.out; have := HK3.out; have := HK4.out; have := HK5.out; omega
                                                               case rel => exact ⟨(y436), (wrap64 (x17_5 + 1)), (by first | rfl | (simp; done) | (simp [*]; done)), H', ⟨by have := HJ3.out; have := HK2.out; have := HK3.out; have := HK4.out; have := HK5.out; omega⟩, ⟨by (with_reducible repeat (first | apply Kd.R_alloc | apply Kd.R_drewN | apply Kd.R_drew)); exact HO_7.out⟩, ⟨by (with_reducible repeat (first | apply Kd.R_alloc | apply Kd.R_drewN | apply Kd.R_drew)); exact HO_8.out⟩, ⟨by (with_reducible repeat (first | apply Kd.R_alloc | apply Kd.R_drewN | apply Kd.R_drew)); exact HO_10.out⟩, ⟨by repeat (first | (with_reducible first | exact HB.out | apply wA | apply wN | apply wD) | exact HB.out)⟩⟩
                                                             · rw [if_neg c60] at H
                                                               exact absurd H (by simp)
                                                           · rw [if_neg c59] at H
                                                             exact absurd H (by simp)
                                                         · rw [if_neg c58] at H
                                                           exact absurd H (by simp)
                                                       · rw [if_neg c57] at H
                                                         have c57b0 : decide (x17_5 < (t410.length : Int)) = false := decide_eq_false c57
                                                         clear c57
                                                         have H' := ak H
                                                         clear H
                                                         go_wp2
                                                         repeat (go_quiet (fail); try go_wp2)
                                                         go_roundg k5
                                                         case measure => have := HJ3.out; have := HK2.out; have := HK3.out; have := HK4.out; have := HK5.out; omega
                                                         case rel => exact ⟨(x8_5), (wrap64 (x16_4 + 1)), (by first | rfl | (simp; done) | (simp [*]; done)), H', ⟨by have := HJ3.out; have := HK2.out; have := HK3.out; have := HK4.out; have := HK5.out; omega⟩, ⟨by (with_reducible repeat (first | apply Kd.R_alloc | apply Kd.R_drewN | apply Kd.R_drew)); exact HO_7.out⟩, ⟨by (with_reducible repeat (first | apply Kd.R_alloc | apply Kd.R_drewN | apply Kd.R_drew)); exact HO_8.out⟩, ⟨by (with_reducible repeat (first | apply Kd.R_alloc | apply Kd.R_drewN | apply Kd.R_drew)); exact HO_10.out⟩, ⟨by repeat (first | (with_reducible first | exact HB.out | apply wA | apply wN | apply wD) | exact HB.out)⟩⟩
                                                 · rw [if_neg c55] at H
                                                   have c55b0 : ((rd t400 x16_4) == x9_2) = false := beq_eq_false_iff_ne.mpr c55
                                                   have c55b1 : ((rd t400 x16_4) != x9_2) = true := bne_iff_ne.mpr c55
                                                   have H' := ak H
                                                   clear H
                                                   obtain ⟨Ao64, co64, eo64⟩ := Kd.R_slice HO_7.out
                                                   subst eo64
                                                   have p434 : 0 ≤ (x16_4 : Int) := of_decide_eq_true (by first | (with_reducible assumption) | assumption)
                                                   have q434 : x16_4 < (t400.length : Int) := of_decide_eq_true (by first | (with_reducible assumption) | assumption)
                                                   obtain ⟨ad434, e434, hx434_0⟩ := Kd.at_int (Kd.R_reads' HO_7.out).2.2 x16_4 p434 q434
                                                   cases e434
                                                   replace p434 := eq_true p434
                                                   replace q434 := eq_true q434
                                                   go_wp2
                                                   repeat (go_quiet (fail); try go_wp2)
                                                   go_roundg k4
                                                   case measure => have := HJ3.out; have := HK2.out; have := HK3.out; have := HK4.out; omega
                                                   case rel => exact ⟨(x8_4), (wrap64 (x16_4 + 1)), (by first | rfl | (simp; done) | (simp [*]; done)), H', ⟨by have := HJ3.out; have := HK2.out; have := HK3.out; have := HK4.out; omega⟩, ⟨by (with_reducible repeat (first | apply Kd.R_alloc | apply Kd.R_drewN | apply Kd.R_drew)); exact HO_7.out⟩, ⟨by (with_reducible repeat (first | apply Kd.R_alloc | apply Kd.R_drewN | apply Kd.R_drew)); exact HO_8.out⟩, ⟨by (with_reducible repeat (first | apply Kd.R_alloc | apply Kd.R_drewN | apply Kd.R_drew)); exact HO_10.out⟩, ⟨by repeat (first | (with_reducible first | exact HB.out | apply wA | apply wN | apply wD) | exact HB.out)⟩⟩
                                               · rw [if_neg c54] at H
                                                 exact absurd H (by simp)
                                             · rw [if_neg c53] at H
                                               have c53b0 : decide (x16_4 < (t400.length : Int)) = false := decide_eq_false c53
                                               clear c53
                                               have H' := ak H
                                               clear H
                                               obtain ⟨Ao65, co65, eo65⟩ := Kd.R_slice HO_7.out
                                               subst eo65
                                               go_wp2
                                               repeat (go_quiet (fail); try go_wp2)
                                               go_roundg k4
                                               case measure => have := HJ3.out; have := HK2.out; have := HK3.out; have := HK4.out; omega
                                               case rel => exact ⟨(x8_4), (wrap64 (x9_2 + 1)), (by first | rfl | (simp; done) | (simp [*]; done)), H', ⟨by have := HJ3.out; have := HK2.out; have := HK3.out; have := HK4.out; omega⟩, ⟨by (with_reducible repeat (first | apply Kd.R_alloc | apply Kd.R_drewN | apply Kd.R_drew)); exact Kd.R_mono HO_7.out (fun _ hk => trivial)⟩, ⟨by (with_reducible repeat (first | apply Kd.R_alloc | apply Kd.R_drewN | apply Kd.R_drew)); exact HO_8.out⟩, ⟨by repeat (first | (with_reducible first | exact HB.out | apply wA | apply wN | apply wD) | exact HB.out)⟩⟩
                                       · rw [if_neg c51] at H
                                         have c51b0 : (t433 == 0) = false := beq_eq_false_iff_ne.mpr c51
                                         have c51b1 : (t433 != 0) = true := bne_iff_ne.mpr c51
                                         exact absurd ((Option.some.inj H).trans hrt.out) (by decide)
                             · rw [if_neg c24] at H
                               have c24b0 : ((rd t410 0) == x9_2) = false := beq_eq_false_iff_ne.mpr c24
                               have c24b1 : ((rd t410 0) != x9_2) = true := bne_iff_ne.mpr c24
                               exact absurd ((Option.some.inj H).trans hrt.out) (by decide)
                           · rw [if_neg c23] at H
                             exact absurd H (by simp)
                     · rw [if_neg c20] at H
                       have c20b0 : (t411 == 0) = false := beq_eq_false_iff_ne.mpr c20
                       have c20b1 : (t411 != 0) = true := bne_iff_ne.mpr c20
                       exact absurd ((Option.some.inj H).trans hrt.out) (by decide)
                   · rw [if_neg c18] at H
                     have c18b0 : decide (x9_2 < (l0.length : Int)) = false := decide_eq_false c18
                     clear c18
                     have H' := ak H
                     clear H
                     go_wp2
                     repeat (go_quiet (fail); try go_wp2)
                     go_loopg [18] k2 (fun kq v18 w' => ∃ (x18_3 : Int), v18 = .int .i64 x18_3 ∧ Aside0 (mummerlaw08_FaultsChains.l4 kq l0 x8_2 x18_3 = some r) ∧ Aside0 (kq ≤ k2) ∧ Aside0 (Kd.R Kd.bool 4 w' w.heap.size (fun _ => True) v408 x8_2) ∧ Aside0 (Below w.heap.size w w'))
                     case atStart => exact ⟨(0), (by first | rfl | (simp; done) | (simp [*]; done)), H', ⟨Nat.le_refl _⟩, ⟨by (with_reducible repeat (first | apply Kd.R_alloc | apply Kd.R_drewN | apply Kd.R_drew)); exact HO_8.out⟩, ⟨by repeat (first | (with_reducible first | exact HB.out | apply wA | apply wN | apply wD) | exact HB.out)⟩⟩
                     case round =>
                       clear H'
                       try clear c1
                       try clear c2
                       try clear p2
                       try clear c3
                       try clear c4
                       try clear p4
                       try clear q4
                       try clear hx4
                       try clear c5
                       try clear c6
                       try clear p6
                       try clear q6
                       try clear hx6
                       try clear hf6
                       try clear c18
                       try clear c18b0
                       try clear c20
                       try clear c20b0
                       try clear c20b1
                       try clear c23
                       try clear c24
                       try clear c24b0
                       try clear c24b1
                       try clear c27
                       try clear c27b0
                       try clear c28
                       try clear c28b0
                       try clear c29
                       try clear c29b0
                       try clear c30
                       try clear c30b0
                       try clear c31
                       try clear c31b0
                       try clear c33
                       try clear c33b0
                       try clear c34
                       try clear c34b0
                       try clear c35
                       try clear c35b0
                       try clear c36
                       try clear c36b0
                       try clear c36b1
                       try clear c37
                       try clear c37b0
                       try clear c37b1
                       try clear c38
                       try clear c38b0
                       try clear c38b1
                       try clear c39
                       try clear c40
                       try clear c41
                       try clear c41b0
                       try clear c41b1
                       try clear p41
                       try clear q41
                       try clear hx41
                       try clear c42
                       try clear c42b0
                       try clear p42
                       try clear q42
                       try clear hx42
                       try clear c43
                       try clear c43b0
                       try clear p43
                       try clear q43
                       try clear hx43
                       try clear c44
                       try clear c44b0
                       try clear c44b1
                       try clear c45
                       try clear c46
                       try clear c47
                       try clear c47b0
                       try clear c48
                       try clear c48b0
                       try clear c50
                       try clear c50b0
                       try clear c50b1
                       try clear c50b2
                       try clear c51
                       try clear c51b0
                       try clear c51b1
                       try clear c53
                       try clear c53b0
                       try clear c54
                       try clear c54b0
                       try clear c55
                       try clear c55b0
                       try clear c55b1
                       try clear c57
                       try clear c57b0
                       try clear c58
                       try clear c58b0
                       try clear c59
                       try clear c59b0
                       try clear c60
                       try clear c60b0
                       try clear p61
                       try clear q61
                       try clear hx61
                       try clear hf61
                       try clear p64
                       try clear hx415_0
                       try clear hx416_0
                       try clear hx417_0
                       try clear hx418_0
                       try clear hx419_0
                       try clear hx419_1
                       try clear hx419_2
                       try clear hx419_3
                       try clear hx419_4
                       try clear hx419_5
                       try clear hx420_0
                       try clear hx421_0
                       try clear hx421_1
                       try clear hx421_2
                       try clear hx421_3
                       try clear hx421_4
                       try clear hx421_5
                       try clear hx422_0
                       try clear hx423_0
                       try clear hx423_1
                       try clear hx423_2
                       try clear hx423_3
                       try clear hx423_4
                       try clear hx423_5
                       try clear hx424_0
                       try clear hx425_0
                       try clear hx425_1
                       try clear hx425_2
                       try clear hx425_3
                       try clear hx425_4
                       try clear hx425_5
                       try clear hx426_0
                       try clear hx427_0
                       try clear hx427_1
                       try clear hx427_2
                       try clear hx427_3
                       try clear hx427_4
                       try clear hx427_5
                       try clear hx428_0
                       try clear hx429_0
                       try clear hx429_1
                       try clear hx429_2
                       try clear hx429_3
                       try clear hx429_4
                       try clear hx429_5
                       try clear hx430_0
                       try clear hx431_0
                       try clear hx431_1
                       try clear hx431_2
                       try clear hx431_3
                       try clear hx431_4
                       try clear hx431_5
                       try clear hx434_0
                       try clear hx435_0
                       try clear hx61_0
                       try clear p2
                       try clear p4
                       try clear p41
                       try clear p415
                       try clear p416
                       try clear p417
                       try clear p418
                       try clear p419
                       try clear p42
                       try clear p420
                       try clear p421
                       try clear p422
                       try clear p423
                       try clear p424
                       try clear p425
                       try clear p426
                       try clear p427
                       try clear p428
                       try clear p429
                       try clear p43
                       try clear p430
                       try clear p431
                       try clear p434
                       try clear p435
                       try clear p6
                       try clear p61
                       try clear q4
                       try clear q41
                       try clear q415
                       try clear q416
                       try clear q417
                       try clear q418
                       try clear q419
                       try clear q42
                       try clear q420
                       try clear q421
                       try clear q422
                       try clear q423
                       try clear q424
                       try clear q425
                       try clear q426
                       try clear q427
                       try clear q428
                       try clear q429
                       try clear q43
                       try clear q430
                       try clear q431
                       try clear q434
                       try clear q435
                       try clear q61
                       obtain ⟨x18_3, rfl, HA, HK3, HO_8, HB⟩ := hrel
                       cases gk with
                       | zero => exact absurd HA.out (by simp [mummerlaw08_FaultsChains.l4])
                       | succ k3 =>
                         have H := HA.out
                         clear HA
                         simp only [mummerlaw08_FaultsChains.l4] at H
                         by_cases c66 : x18_3 < (l0.length : Int)
                         · rw [if_pos c66] at H
                           have c66b0 : decide (x18_3 < (l0.length : Int)) = true := decide_eq_true c66
                           clear c66
                           by_cases c67 : 0 ≤ x18_3
                           · rw [if_pos c67] at H
                             have c67b0 : decide (0 ≤ x18_3) = true := decide_eq_true c67
                             clear c67
                             by_cases c68 : x18_3 < (x8_2.length : Int)
                             · rw [if_pos c68] at H
                               have c68b0 : decide (x18_3 < (x8_2.length : Int)) = true := decide_eq_true c68
                               clear c68
                               obtain ⟨bq69, hbq69⟩ : ∃ b_ : Bool, b_ = (rdOf false x8_2 x18_3) := ⟨_, rfl⟩
                               replace H : (if bq69 = true then (mummerlaw08_FaultsChains.l4 k3 l0 x8_2 (wrap64 (x18_3 + 1))) else (some false)) = some r := by rw [← hbq69] at H; exact H
                               have Nbq69 := ak hbq69
                               clear hbq69
                               by_cases c70 : bq69 = true
                               · subst c70
                                 have H1 : (mummerlaw08_FaultsChains.l4 k3 l0 x8_2 (wrap64 (x18_3 + 1))) = some r := by rw [if_pos rfl] at H; exact H
                                 clear H
                                 have H := H1
                                 clear H1
                                 have H' := ak H
                                 clear H
                                 obtain ⟨Ao71, co71, eo71⟩ := Kd.R_slice HO_8.out
                                 subst eo71
                                 have p437 : 0 ≤ (x18_3 : Int) := of_decide_eq_true (by first | (with_reducible assumption) | assumption)
                                 have q437 : x18_3 < (x8_2.length : Int) := of_decide_eq_true (by first | (with_reducible assumption) | assumption)
                                 obtain ⟨ad437, e437, hx437_0⟩ := Kd.at_bool (Kd.R_reads' HO_8.out).2.2 x18_3 p437 q437
                                 (try rw [← Nbq69.out] at hx437_0)
                                 cases e437
                                 replace p437 := eq_true p437
                                 replace q437 := eq_true q437
                                 go_wp2
                                 repeat (go_quiet (fail); try go_wp2)
                                 go_roundg k3
                                 case measure => have := HJ3.out; have := HK2.out; have := HK3.out; omega
                                 case rel => exact ⟨(wrap64 (x18_3 + 1)), (by first | rfl | (simp; done) | (simp [*]; done)), H', ⟨by have := HJ3.out; have := HK2.out; have := HK3.out; omega⟩, ⟨by (with_reducible repeat (first | apply Kd.R_alloc | apply Kd.R_drewN | apply Kd.R_drew)); exact HO_8.out⟩, ⟨by repeat (first | (with_reducible first | exact HB.out | apply wA | apply wN | apply wD) | exact HB.out)⟩⟩
                               · replace c70 := Bool.eq_false_iff.mpr c70
                                 subst c70
                                 have H1 : (some false) = some r := by rw [if_neg (show ¬ (false = true) by decide)] at H; exact H
                                 clear H
                                 have H := H1
                                 clear H1
                                 exact absurd ((Option.some.inj H).trans hrt.out) (by decide)
                             · rw [if_neg c68] at H
                               exact absurd H (by simp)
                           · rw [if_neg c67] at H
                             exact absurd H (by simp)
                         · rw [if_neg c66] at H
                           have c66b0 : decide (x18_3 < (l0.length : Int)) = false := decide_eq_false c66
                           clear c66
                           replace H := Option.bind_eq_some_iff.mp H
                           obtain ⟨t438, A720, H⟩ := H
                           replace H : (some t438) = some r := H
                           have A72 := ak A720
                           clear A720
                           obtain rfl := Option.some.inj H
                           go_wp2_with (first | (go_at_call 12; (with_reducible refine (mummerlaw08_shown.calls  t438 _ hrt A72.out ⟨Ft.All.stay HT.out (by repeat (first | (with_reducible first | exact HB.out | apply wA | apply wN | apply wD) | exact HB.out | (refine below_set ?_ (by assumption)) | (refine below_set ?_ (Aside0.out (by assumption)))))⟩).mono ?_); rintro e w73 ⟨rfl, hb⟩; have n0_ := ak (Kd.R_below (by (with_reducible repeat (first | apply Kd.R_alloc | apply Kd.R_drewN | apply Kd.R_drew)); exact HO_8.out) hb); have n1_ := ak (below_step (by repeat (first | (with_reducible first | exact HB.out | apply wA | apply wN | apply wD) | exact HB.out)) hb); clear HO_8; clear HB; have HO_8 := n0_; have HB := n1_; clear n0_ n1_; (try clear hb); (try clear hb2); (try clear hk); (try clear hi)))
                           repeat (go_quiet (first | (go_at_call 12; (with_reducible refine (mummerlaw08_shown.calls  t438 _ hrt A72.out ⟨Ft.All.stay HT.out (by repeat (first | (with_reducible first | exact HB.out | apply wA | apply wN | apply wD) | exact HB.out | (refine below_set ?_ (by assumption)) | (refine below_set ?_ (Aside0.out (by assumption)))))⟩).mono ?_); rintro e w73 ⟨rfl, hb⟩; have n0_ := ak (Kd.R_below (by (with_reducible repeat (first | apply Kd.R_alloc | apply Kd.R_drewN | apply Kd.R_drew)); exact HO_8.out) hb); have n1_ := ak (below_step (by repeat (first | (with_reducible first | exact HB.out | apply wA | apply wN | apply wD) | exact HB.out)) hb); clear HO_8; clear HB; have HO_8 := n0_; have HB := n1_; clear n0_ n1_; (try clear hb); (try clear hb2); (try clear hk); (try clear hi))); try go_wp2_with (first | (go_at_call 12; (with_reducible refine (mummerlaw08_shown.calls  t438 _ hrt A72.out ⟨Ft.All.stay HT.out (by repeat (first | (with_reducible first | exact HB.out | apply wA | apply wN | apply wD) | exact HB.out | (refine below_set ?_ (by assumption)) | (refine below_set ?_ (Aside0.out (by assumption)))))⟩).mono ?_); rintro e w73 ⟨rfl, hb⟩; have n0_ := ak (Kd.R_below (by (with_reducible repeat (first | apply Kd.R_alloc | apply Kd.R_drewN | apply Kd.R_drew)); exact HO_8.out) hb); have n1_ := ak (below_step (by repeat (first | (with_reducible first | exact HB.out | apply wA | apply wN | apply wD) | exact HB.out)) hb); clear HO_8; clear HB; have HO_8 := n0_; have HB := n1_; clear n0_ n1_; (try clear hb); (try clear hb2); (try clear hk); (try clear hi))))
                           go_ret
                           exact ⟨by first | rfl | (simp [errW_none, errW_some] <;> rfl) | (simp [*, errW_none, errW_some] <;> rfl), by repeat (first | (with_reducible first | exact HB.out | apply wA | apply wN | apply wD) | exact HB.out)⟩
             · rw [if_neg c14] at H
               exact absurd H (by simp)
           · rw [if_neg c13] at H
             exact absurd H (by simp)
         · rw [if_neg c12] at H
           have c12b0 : (t401 == 0) = false := beq_eq_false_iff_ne.mpr c12
           have c12b1 : (t401 != 0) = true := bne_iff_ne.mpr c12
           exact absurd ((Option.some.inj H).trans hrt.out) (by decide)
end Go.Proofs.YtdjkdlbokepoaaaGreatDoor.P
namespace Go.Proofs.YtdjkdlbokepoaaaGreatDoor.P
open Go.RowKit Go.Proofs.YtdjkdlbokepoaaaGreatDoorW.PrintWords Go.Proofs.YtdjkdlbokepoaaaGreatDoorW.PrintLast Go.Proofs.YtdjkdlbokepoaaaGreatDoorW.PrintMore
attribute [local go_sem] max2_int min2_int max_two min_two max_three min_three max_four min_four   -- for this text's walks alone
set_option linter.unusedVariables false
set_option linter.unusedSimpArgs false
theorem name_world {P : Program} {c : Code} {Q : Exit → Act → World → Prop} {a : Act} {w : World} (F : World → Prop) (h : F w) (k : ∀ W, F W → Code.wp P c Q a W) : Code.wp P c Q a w := k w h
def mummerref02_number.f : List Int → Option Int
  | [a] => if (0 ≤ a ∧ a < 256) then some (if a < 128 then a else -1) else none
  | [a, b] => if (0 ≤ a ∧ a < 256) ∧ (0 ≤ b ∧ b < 256) then some (if a < 192 then -1 else (if 224 ≤ a then -1 else (if b < 128 then -1 else (if 192 ≤ b then -1 else (64 * (a - 192) + b - 128))))) else none
  | [a, b, c] => if (0 ≤ a ∧ a < 256) ∧ (0 ≤ b ∧ b < 256) ∧ (0 ≤ c ∧ c < 256) then some (if a < 224 then -1 else (if 240 ≤ a then -1 else (if b < 128 then -1 else (if 192 ≤ b then -1 else (if c < 128 then -1 else (if 192 ≤ c then -1 else (64 * (64 * (a - 224) + b - 128) + c - 128))))))) else none
  | [a, b, c, d] => if (0 ≤ a ∧ a < 256) ∧ (0 ≤ b ∧ b < 256) ∧ (0 ≤ c ∧ c < 256) ∧ (0 ≤ d ∧ d < 256) then some (if a < 240 then -1 else (if 248 ≤ a then -1 else (if b < 128 then -1 else (if 192 ≤ b then -1 else (if c < 128 then -1 else (if 192 ≤ c then -1 else (if d < 128 then -1 else (if 192 ≤ d then -1 else (64 * (64 * (64 * (a - 240) + b - 128) + c - 128) + d - 128))))))))) else none
  | _ => none
end Go.Proofs.YtdjkdlbokepoaaaGreatDoor.P
namespace Go.Proofs.YtdjkdlbokepoaaaGreatDoor.P
open Go.RowKit Go.Proofs.YtdjkdlbokepoaaaGreatDoorW.PrintWords Go.Proofs.YtdjkdlbokepoaaaGreatDoorW.PrintLast Go.Proofs.YtdjkdlbokepoaaaGreatDoorW.PrintMore
attribute [local go_sem] max2_int min2_int max_two min_two max_three min_three max_four min_four   -- for this text's walks alone
set_option linter.unusedVariables false
set_option linter.unusedSimpArgs false
def mummerref02_Is.f (a0 : Int) : Option (Bool) := if a0 ≥ 0 then (if a0 ≤ 1114111 then (if a0 < 55296 then (some true) else (some (decide (a0 > 57343)))) else (some false)) else (some false)
def mummerref02_Encode.f (a0 : Int) : Option (List Int × Int) := (mummerref02_Is.f a0).bind fun t160 => (if t160 = true then (if a0 < 128 then (some ((([(a0) % 256] : List Int)), 0)) else (if a0 < 2048 then (some ((([(wrap32 (192 + (wrap32 (Int.tdiv a0 64)))) % 256, (wrap32 (128 + (Int.tmod a0 64))) % 256] : List Int)), 0)) else (if a0 < 65536 then (some ((([(wrap32 (224 + (wrap32 (Int.tdiv a0 4096)))) % 256, (wrap32 (128 + (Int.tmod (wrap32 (Int.tdiv a0 64)) 64))) % 256, (wrap32 (128 + (Int.tmod a0 64))) % 256] : List Int)), 0)) else (some ((([(wrap32 (240 + (wrap32 (Int.tdiv a0 262144)))) % 256, (wrap32 (128 + (Int.tmod (wrap32 (Int.tdiv a0 4096)) 64))) % 256, (wrap32 (128 + (Int.tmod (wrap32 (Int.tdiv a0 64)) 64))) % 256, (wrap32 (128 + (Int.tmod a0 64))) % 256] : List Int)), 0))))) else (some (([] : List Int), 7)))
end Go.Proofs.YtdjkdlbokepoaaaGreatDoor.P
namespace Go.Proofs.YtdjkdlbokepoaaaGreatDoor.P
open Go.RowKit Go.Proofs.YtdjkdlbokepoaaaGreatDoorW.PrintWords Go.Proofs.YtdjkdlbokepoaaaGreatDoorW.PrintLast Go.Proofs.YtdjkdlbokepoaaaGreatDoorW.PrintMore
attribute [local go_sem] max2_int min2_int max_two min_two max_three min_three max_four min_four   -- for this text's walks alone
set_option linter.unusedVariables false
set_option linter.unusedSimpArgs false
def mummerref02_stands.f (l0 : List Int) : Option (Int × Bool) := (mummerref02_number.f l0).bind fun t173 => ((mummerref02_Is.f t173).bind fun t174 => (if t174 = true then ((mummerref02_Encode.f t173).bind fun bt175 => (some (t173, ((strOfNums l0).toList == (strOfNums bt175.1).toList)))) else (some (0, false))))
end Go.Proofs.YtdjkdlbokepoaaaGreatDoor.P
namespace Go.Proofs.YtdjkdlbokepoaaaGreatDoor.P
open Go.RowKit Go.Proofs.YtdjkdlbokepoaaaGreatDoorW.PrintWords Go.Proofs.YtdjkdlbokepoaaaGreatDoorW.PrintLast Go.Proofs.YtdjkdlbokepoaaaGreatDoorW.PrintMore
attribute [local go_sem] max2_int min2_int max_two min_two max_three min_three max_four min_four   -- for this text's walks alone
set_option linter.unusedVariables false
set_option linter.unusedSimpArgs false
mutual
def mummerref02_begins.j2 : Nat → List Int → Int → Option (Bool)
  | 0, _, _ => none
  | k + 1, x0, x3 => if (x0.length : Int) ≥ x3 then (some false) else (mummerref02_begins.l0 k x0 x3 128)
def mummerref02_begins.l0 : Nat → List Int → Int → Int → Option (Bool)
  | 0, _, _, _ => none
  | k + 1, x0, x3, x5 => if x5 ≤ 191 then ((some (([] : List Int) : List Int)).bind fun y180 => (if y180.length + x0.length < 140737488355328 then (mummerref02_begins.l1 k x0 x3 x5 (y180 ++ x0)) else (none))) else (some false)
def mummerref02_begins.l1 : Nat → List Int → Int → Int → List Int → Option (Bool)
  | 0, _, _, _, _ => none
  | k + 1, x0, x3, x5, x6 => if (x6.length : Int) < x3 then (if x6.length < 140737488355328 then (mummerref02_begins.l1 k x0 x3 x5 (x6 ++ [(x5) % 256])) else (none)) else ((mummerref02_stands.f x6).bind fun bt189 => (if bt189.2 = true then (some true) else (mummerref02_begins.l0 k x0 x3 (wrap64 (x5 + 63)))))
def mummerref02_begins.j0 : Nat → List Int → Int → Int → Bool → Option (Bool)
  | 0, _, _, _, _ => none
  | k + 1, x0, x3, x4, x13 => if x13 = true then (mummerref02_begins.j2 k x0 2) else (if x4 ≥ 224 then (mummerref02_begins.j1 k x0 x3 x4 (decide (x4 < 240))) else (mummerref02_begins.j1 k x0 x3 x4 false))
def mummerref02_begins.j1 : Nat → List Int → Int → Int → Bool → Option (Bool)
  | 0, _, _, _, _ => none
  | k + 1, x0, x3, x4, x20 => if x20 = true then (mummerref02_begins.j2 k x0 3) else (if x4 ≥ 240 then (if x4 < 248 then (mummerref02_begins.j2 k x0 4) else (mummerref02_begins.j2 k x0 x3)) else (mummerref02_begins.j2 k x0 x3))
end
def mummerref02_begins.f (k : Nat) (l0 : List Int) : Option (Bool) := if 0 < (l0.length : Int) then (if (wrap32 (rd l0 0)) ≥ 192 then (mummerref02_begins.j0 k l0 0 (wrap32 (rd l0 0)) (decide ((wrap32 (rd l0 0)) < 224))) else (mummerref02_begins.j0 k l0 0 (wrap32 (rd l0 0)) false)) else (none)
theorem mummerref02_begins.mono_l : ∀ k, (∀ y0 y1, LeO (mummerref02_begins.j2 k y0 y1) (mummerref02_begins.j2 (k + 1) y0 y1)) ∧ (∀ y0 y1 y2, LeO (mummerref02_begins.l0 k y0 y1 y2) (mummerref02_begins.l0 (k + 1) y0 y1 y2)) ∧ (∀ y0 y1 y2 y3, LeO (mummerref02_begins.l1 k y0 y1 y2 y3) (mummerref02_begins.l1 (k + 1) y0 y1 y2 y3)) ∧ (∀ y0 y1 y2 y3, LeO (mummerref02_begins.j0 k y0 y1 y2 y3) (mummerref02_begins.j0 (k + 1) y0 y1 y2 y3)) ∧ (∀ y0 y1 y2 y3, LeO (mummerref02_begins.j1 k y0 y1 y2 y3) (mummerref02_begins.j1 (k + 1) y0 y1 y2 y3))
  | 0 => ⟨fun _ _ r h => by simp [mummerref02_begins.j2] at h, fun _ _ _ r h => by simp [mummerref02_begins.l0] at h, fun _ _ _ _ r h => by simp [mummerref02_begins.l1] at h, fun _ _ _ _ r h => by simp [mummerref02_begins.j0] at h, fun _ _ _ _ r h => by simp [mummerref02_begins.j1] at h⟩
  | k + 1 => by
    obtain ⟨ih0, ih1, ih2, ih3, ih4⟩ := mummerref02_begins.mono_l k
    refine ⟨?_, ?_, ?_, ?_, ?_⟩
    · intro y0 y1
      unfold mummerref02_begins.j2
      repeat' first
      | (with_reducible exact ih0 _ _)
      | (with_reducible exact ih1 _ _ _)
      | (with_reducible exact ih2 _ _ _ _)
      | (with_reducible exact ih3 _ _ _ _)
      | (with_reducible exact ih4 _ _ _ _)
      | (with_reducible exact LeO.refl _)
      | (with_reducible exact LeO.none _)
      | (with_reducible refine LeO.ite ?_ ?_)
      | (with_reducible refine LeO.bind ?_ (fun _ => ?_))
      | exact ih0 _ _
      | exact ih1 _ _ _
      | exact ih2 _ _ _ _
      | exact ih3 _ _ _ _
      | exact ih4 _ _ _ _
      | exact LeO.none _
      | refine LeO.ite ?_ ?_
      | refine LeO.bind ?_ (fun _ => ?_)
    · intro y0 y1 y2
      unfold mummerref02_begins.l0
      repeat' first
      | (with_reducible exact ih0 _ _)
      | (with_reducible exact ih1 _ _ _)
      | (with_reducible exact ih2 _ _ _ _)
      | (with_reducible exact ih3 _ _ _ _)
      | (with_reducible exact ih4 _ _ _ _)
      | (with_reducible exact LeO.refl _)
      | (with_reducible exact LeO.none _)
      | (with_reducible refine LeO.ite ?_ ?_)
      | (with_reducible refine LeO.bind ?_ (fun _ => ?_))
      | exact ih0 _ _
      | exact ih1 _ _ _
      | exact ih2 _ _ _ _
      | exact ih3 _ _ _ _
      | exact ih4 _ _ _ _
      | exact LeO.none _
      | refine LeO.ite ?_ ?_
      | refine LeO.bind ?_ (fun _ => ?_)
    · intro y0 y1 y2 y3
      unfold mummerref02_begins.l1
      repeat' first
      | (with_reducible exact ih0 _ _)
      | (with_reducible exact ih1 _ _ _)
      | (with_reducible exact ih2 _ _ _ _)
      | (with_reducible exact ih3 _ _ _ _)
      | (with_reducible exact ih4 _ _ _ _)
      | (with_reducible exact LeO.refl _)
      | (with_reducible exact LeO.none _)
      | (with_reducible refine LeO.ite ?_ ?_)
      | (with_reducible refine LeO.bind ?_ (fun _ => ?_))
      | exact ih0 _ _
      | exact ih1 _ _ _
      | exact ih2 _ _ _ _
      | exact ih3 _ _ _ _
      | exact ih4 _ _ _ _
      | exact LeO.none _
      | refine LeO.ite ?_ ?_
      | refine LeO.bind ?_ (fun _ => ?_)
    · intro y0 y1 y2 y3
      unfold mummerref02_begins.j0
      repeat' first
      | (with_reducible exact ih0 _ _)
      | (with_reducible exact ih1 _ _ _)
      | (with_reducible exact ih2 _ _ _ _)
      | (with_reducible exact ih3 _ _ _ _)
      | (with_reducible exact ih4 _ _ _ _)
      | (with_reducible exact LeO.refl _)
      | (with_reducible exact LeO.none _)
      | (with_reducible refine LeO.ite ?_ ?_)
      | (with_reducible refine LeO.bind ?_ (fun _ => ?_))
      | exact ih0 _ _
      | exact ih1 _ _ _
      | exact ih2 _ _ _ _
      | exact ih3 _ _ _ _
      | exact ih4 _ _ _ _
      | exact LeO.none _
      | refine LeO.ite ?_ ?_
      | refine LeO.bind ?_ (fun _ => ?_)
    · intro y0 y1 y2 y3
      unfold mummerref02_begins.j1
      repeat' first
      | (with_reducible exact ih0 _ _)
      | (with_reducible exact ih1 _ _ _)
      | (with_reducible exact ih2 _ _ _ _)
      | (with_reducible exact ih3 _ _ _ _)
      | (with_reducible exact ih4 _ _ _ _)
      | (with_reducible exact LeO.refl _)
      | (with_reducible exact LeO.none _)
      | (with_reducible refine LeO.ite ?_ ?_)
      | (with_reducible refine LeO.bind ?_ (fun _ => ?_))
      | exact ih0 _ _
      | exact ih1 _ _ _
      | exact ih2 _ _ _ _
      | exact ih3 _ _ _ _
      | exact ih4 _ _ _ _
      | exact LeO.none _
      | refine LeO.ite ?_ ?_
      | refine LeO.bind ?_ (fun _ => ?_)
theorem mummerref02_begins.mono : ∀ a0 k, LeO (mummerref02_begins.f k a0) (mummerref02_begins.f (k + 1) a0) := by
  intro a0 k
  obtain ⟨ih0, ih1, ih2, ih3, ih4⟩ := mummerref02_begins.mono_l k
  unfold mummerref02_begins.f
  repeat' first
      | (with_reducible exact ih0 _ _)
      | (with_reducible exact ih1 _ _ _)
      | (with_reducible exact ih2 _ _ _ _)
      | (with_reducible exact ih3 _ _ _ _)
      | (with_reducible exact ih4 _ _ _ _)
      | (with_reducible exact LeO.refl _)
      | (with_reducible exact LeO.none _)
      | (with_reducible refine LeO.ite ?_ ?_)
      | (with_reducible refine LeO.bind ?_ (fun _ => ?_))
      | exact ih0 _ _
      | exact ih1 _ _ _
      | exact ih2 _ _ _ _
      | exact ih3 _ _ _ _
      | exact ih4 _ _ _ _
      | exact LeO.none _
      | refine LeO.ite ?_ ?_
      | refine LeO.bind ?_ (fun _ => ?_)
end Go.Proofs.YtdjkdlbokepoaaaGreatDoor.P
namespace Go.Proofs.YtdjkdlbokepoaaaGreatDoor.P
open Go.RowKit Go.Proofs.YtdjkdlbokepoaaaGreatDoorW.PrintWords Go.Proofs.YtdjkdlbokepoaaaGreatDoorW.PrintLast Go.Proofs.YtdjkdlbokepoaaaGreatDoorW.PrintMore
attribute [local go_sem] max2_int min2_int max_two min_two max_three min_three max_four min_four   -- for this text's walks alone
set_option linter.unusedVariables false
set_option linter.unusedSimpArgs false
mutual
def mummerref02_Decode.j0 : Nat → List Int → Int → Bool → Option (Int × Int × Int)
  | 0, _, _, _ => none
  | k + 1, x0, x1, x17 => if x17 = true then (some (0, 0, 7)) else (mummerref02_Decode.l0 k x0 x1 1)
def mummerref02_Decode.l0 : Nat → List Int → Int → Int → Option (Int × Int × Int)
  | 0, _, _, _ => none
  | k + 1, x0, x1, x7 => if x7 ≤ 4 then (mummerref02_Decode.j2 k x0 x1 x7 (decide ((wrap64 (x1 + x7)) ≤ (x0.length : Int)))) else (mummerref02_Decode.j2 k x0 x1 x7 false)
def mummerref02_Decode.j2 : Nat → List Int → Int → Int → Bool → Option (Int × Int × Int)
  | 0, _, _, _, _ => none
  | k + 1, x0, x1, x7, x27 => if x27 = true then (if 0 ≤ x1 then (if x1 ≤ (wrap64 (x1 + x7)) then (if (wrap64 (x1 + x7)) ≤ (x0.length : Int) then ((mummerref02_stands.f ((x0.take ((wrap64 (x1 + x7)) : Int).toNat).drop (x1 : Int).toNat)).bind fun bt192 => (if bt192.2 = true then (some (bt192.1, x7, 0)) else (mummerref02_Decode.l0 k x0 x1 (wrap64 (x7 + 1))))) else (none)) else (none)) else (none)) else (if (wrap64 ((x0.length : Int) - x1)) < 4 then (if 0 ≤ x1 then (if x1 ≤ (x0.length : Int) then ((mummerref02_begins.f k (x0.drop (x1 : Int).toNat)).bind fun t195 => (if t195 = true then (some (0, 0, 320)) else (some (0, 0, 6)))) else (none)) else (none)) else (some (0, 0, 6)))
end
def mummerref02_Decode.f (k : Nat) (l0 : List Int) (a1 : Int) : Option (Int × Int × Int) := if a1 < 0 then (mummerref02_Decode.j0 k l0 a1 true) else (mummerref02_Decode.j0 k l0 a1 (decide (a1 ≥ (l0.length : Int))))
theorem mummerref02_Decode.mono_l : ∀ k, (∀ y0 y1 y2, LeO (mummerref02_Decode.j0 k y0 y1 y2) (mummerref02_Decode.j0 (k + 1) y0 y1 y2)) ∧ (∀ y0 y1 y2, LeO (mummerref02_Decode.l0 k y0 y1 y2) (mummerref02_Decode.l0 (k + 1) y0 y1 y2)) ∧ (∀ y0 y1 y2 y3, LeO (mummerref02_Decode.j2 k y0 y1 y2 y3) (mummerref02_Decode.j2 (k + 1) y0 y1 y2 y3))
  | 0 => ⟨fun _ _ _ r h => by simp [mummerref02_Decode.j0] at h, fun _ _ _ r h => by simp [mummerref02_Decode.l0] at h, fun _ _ _ _ r h => by simp [mummerref02_Decode.j2] at h⟩
  | k + 1 => by
    obtain ⟨ih0, ih1, ih2⟩ := mummerref02_Decode.mono_l k
    refine ⟨?_, ?_, ?_⟩
    · intro y0 y1 y2
      unfold mummerref02_Decode.j0
      repeat' first
      | (with_reducible exact ih0 _ _ _)
      | (with_reducible exact ih1 _ _ _)
      | (with_reducible exact ih2 _ _ _ _)
      | (with_reducible exact mummerref02_begins.mono _ _)
      | (with_reducible exact LeO.refl _)
      | (with_reducible exact LeO.none _)
      | (with_reducible refine LeO.ite ?_ ?_)
      | (with_reducible refine LeO.bind ?_ (fun _ => ?_))
      | exact ih0 _ _ _
      | exact ih1 _ _ _
      | exact ih2 _ _ _ _
      | exact mummerref02_begins.mono _ _
      | exact LeO.none _
      | refine LeO.ite ?_ ?_
      | refine LeO.bind ?_ (fun _ => ?_)
    · intro y0 y1 y2
      unfold mummerref02_Decode.l0
      repeat' first
      | (with_reducible exact ih0 _ _ _)
      | (with_reducible exact ih1 _ _ _)
      | (with_reducible exact ih2 _ _ _ _)
      | (with_reducible exact mummerref02_begins.mono _ _)
      | (with_reducible exact LeO.refl _)
      | (with_reducible exact LeO.none _)
      | (with_reducible refine LeO.ite ?_ ?_)
      | (with_reducible refine LeO.bind ?_ (fun _ => ?_))
      | exact ih0 _ _ _
      | exact ih1 _ _ _
      | exact ih2 _ _ _ _
      | exact mummerref02_begins.mono _ _
      | exact LeO.none _
      | refine LeO.ite ?_ ?_
      | refine LeO.bind ?_ (fun _ => ?_)
    · intro y0 y1 y2 y3
      unfold mummerref02_Decode.j2
      repeat' first
      | (with_reducible exact ih0 _ _ _)
      | (with_reducible exact ih1 _ _ _)
      | (with_reducible exact ih2 _ _ _ _)
      | (with_reducible exact mummerref02_begins.mono _ _)
      | (with_reducible exact LeO.refl _)
      | (with_reducible exact LeO.none _)
      | (with_reducible refine LeO.ite ?_ ?_)
      | (with_reducible refine LeO.bind ?_ (fun _ => ?_))
      | exact ih0 _ _ _
      | exact ih1 _ _ _
      | exact ih2 _ _ _ _
      | exact mummerref02_begins.mono _ _
      | exact LeO.none _
      | refine LeO.ite ?_ ?_
      | refine LeO.bind ?_ (fun _ => ?_)
theorem mummerref02_Decode.mono : ∀ a0 a1 k, LeO (mummerref02_Decode.f k a0 a1) (mummerref02_Decode.f (k + 1) a0 a1) := by
  intro a0 a1 k
  obtain ⟨ih0, ih1, ih2⟩ := mummerref02_Decode.mono_l k
  unfold mummerref02_Decode.f
  repeat' first
      | (with_reducible exact ih0 _ _ _)
      | (with_reducible exact ih1 _ _ _)
      | (with_reducible exact ih2 _ _ _ _)
      | (with_reducible exact mummerref02_begins.mono _ _)
      | (with_reducible exact LeO.refl _)
      | (with_reducible exact LeO.none _)
      | (with_reducible refine LeO.ite ?_ ?_)
      | (with_reducible refine LeO.bind ?_ (fun _ => ?_))
      | exact ih0 _ _ _
      | exact ih1 _ _ _
      | exact ih2 _ _ _ _
      | exact mummerref02_begins.mono _ _
      | exact LeO.none _
      | refine LeO.ite ?_ ?_
      | refine LeO.bind ?_ (fun _ => ?_)
end Go.Proofs.YtdjkdlbokepoaaaGreatDoor.P
namespace Go.Proofs.YtdjkdlbokepoaaaGreatDoor.P
open Go.RowKit Go.Proofs.YtdjkdlbokepoaaaGreatDoorW.PrintWords Go.Proofs.YtdjkdlbokepoaaaGreatDoorW.PrintLast Go.Proofs.YtdjkdlbokepoaaaGreatDoorW.PrintMore
attribute [local go_sem] max2_int min2_int max_two min_two max_three min_three max_four min_four   -- for this text's walks alone
set_option linter.unusedVariables false
set_option linter.unusedSimpArgs false
def mummerref02_Check.l0 : Nat → List Int → Int → Option (Int × Int)
  | 0, _, _ => none
  | k + 1, x0, x4 => if x4 < (x0.length : Int) then ((mummerref02_Decode.f k x0 x4).bind fun bt196 => (if bt196.2.2 = 0 then (mummerref02_Check.l0 k x0 (wrap64 (x4 + bt196.2.1))) else (some (x4, bt196.2.2)))) else (some (x4, 0))
def mummerref02_Check.f (k : Nat) (l0 : List Int) : Option (Int × Int) := if (l0.length : Int) > 8000 then (some (0, 3)) else (mummerref02_Check.l0 k l0 0)
end Go.Proofs.YtdjkdlbokepoaaaGreatDoor.P
namespace Go.Proofs.YtdjkdlbokepoaaaGreatDoor.P
open Go.RowKit Go.Proofs.YtdjkdlbokepoaaaGreatDoorW.PrintWords Go.Proofs.YtdjkdlbokepoaaaGreatDoorW.PrintLast Go.Proofs.YtdjkdlbokepoaaaGreatDoorW.PrintMore
attribute [local go_sem] max2_int min2_int max_two min_two max_three min_three max_four min_four   -- for this text's walks alone
set_option linter.unusedVariables false
set_option linter.unusedSimpArgs false
def mummerref02_Starts.l0 : Nat → List Int → List Int → Int → Option (List Int × Int)
  | 0, _, _, _ => none
  | k + 1, x0, x6, x7 => if x7 < (x0.length : Int) then (if x6.length < 17592186044416 then ((mummerref02_Decode.f k x0 x7).bind fun bt219 => (mummerref02_Starts.l0 k x0 (x6 ++ [x7]) (wrap64 (x7 + bt219.2.1)))) else (none)) else (if x6.length < 17592186044416 then (some ((x6 ++ [x7]), 0)) else (none))
end Go.Proofs.YtdjkdlbokepoaaaGreatDoor.P
