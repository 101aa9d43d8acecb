import Derived.Test.YtdjkdlbokepoaaaGreatDoorKA36
namespace Go.Proofs.YtdjkdlbokepoaaaGreatDoor.P
open Go.RowKit YtdjkdlbokepoaaaGreatDoorW.PrintWords YtdjkdlbokepoaaaGreatDoorW.PrintLast YtdjkdlbokepoaaaGreatDoorW.PrintMore
attribute [local go_sem] max2_int min2_int max_two min_two max_three min_three max_four min_four
set_option linter.unusedVariables false
set_option linter.unusedSimpArgs false
def lineL : List Int → List Int
 | [] => []
 | x :: r => if x = 10 then [] else x :: lineL r
def marksG (s : ByteArray) (fr F T : Int) : Nat → Nat → Int → Int
 | 0, _, c => c
 | k + 1, p, c => if p < s.size then marksG s fr F T k (p + (Utf8.decode s p).2) (if F ≤ (p : Int) + fr ∧ (p : Int) + fr < T then c + 1 else c) else c
def sp3 : ByteArray := ⟨#[10, 32, 32]⟩
def paintF (k : Nat) (l0 : List Int) (x : S41) : Option ByteArray :=
 (faults_Message.f k l0 x.f0 x.f1 x.f2.f0 x.f2.f1 x.f3 x.f4).bind fun m => (faults_Place.f k l0 x.f2.f0).bind fun p =>
  if 0 ≤ x.f2.f0 ∧ x.f2.f0 ≤ (l0.length : Int) ∧ l0.length ≤ 8000 ∧ 1 ≤ p.2.1 ∧ p.2.1 ≤ 100000 ∧ m.1.size ≤ 100000 ∧ Sc.InB l0 = true then
   (bytes_LastIndexByte.f k (l0.take x.f2.f0.toNat) 10).bind fun q =>
    if -1 ≤ q ∧ q < (l0.length : Int) then
     some (((((((m.1 ++ sp3) ++ strOfNums (lineL (l0.drop (q + 1).toNat))) ++ sp3) ++ ⟨(Lib.repeatL [32] (p.2.1 - 1).toNat).toArray⟩) ++
      ⟨(Lib.repeatL [94] (max (marksG (strOfNums (lineL (l0.drop (q + 1).toNat))) (q + 1) x.f2.f0 x.f2.f1 (lineL (l0.drop (q + 1).toNat)).length 0 0) 1).toNat).toArray⟩) ++ ⟨#[10]⟩))
    else none
  else none
theorem lineL_len : ∀ l : List Int, (lineL l).length ≤ l.length
 | [] => Nat.le_refl _
 | x :: r => by
  unfold lineL
  split
  ·simp
  ·simp only [List.length_cons]; exact Nat.succ_le_succ (lineL_len r)
theorem lineL_take : ∀ l : List Int, lineL l = l.take (lineL l).length
 | [] => rfl
 | x :: r => by
  unfold lineL
  split
  ·simp
  ·simp only [List.length_cons, List.take_succ_cons]; exact congrArg _ (lineL_take r)
theorem u8_ten {x : Int} (h : 0 ≤ x ∧ x < 256) : (UInt8.ofNat x.toNat == 10) = decide (x = 10) := by
 obtain ⟨n, rfl⟩ := Int.eq_ofNat_of_zero_le h.1
 have hn : n < 256 := by omega
 rw [Int.toNat_natCast]
 by_cases h10 : n = 10
 ·subst h10; decide
 ·have h1 : UInt8.ofNat n ≠ 10 := fun e => by
   have h2 := congrArg UInt8.toNat e
   rw [UInt8.toNat_ofNat_of_lt' (by simpa using hn)] at h2
   exact h10 (by simpa using h2)
  rw [beq_eq_false_iff_ne.2 h1, eq_comm, decide_eq_false_iff_not]
  omega
theorem InB_cons {x : Int} {r : List Int} (h : Sc.InB (x :: r) = true) : (0 ≤ x ∧ x < 256) ∧ Sc.InB r = true := by
 unfold Sc.InB at h ⊢
 rw [List.all_cons, Bool.and_eq_true] at h
 exact ⟨of_decide_eq_true h.1, h.2⟩
theorem index_line : ∀ l : List Int, Sc.InB l = true → Lib.indexByte (Lib.bytesOf l) 10 = (if (lineL l).length < l.length then ((lineL l).length : Int) else -1)
 | [], _ => by simp [Lib.bytesOf, Lib.indexByte, lineL]
 | x :: r, h => by
  obtain ⟨hx, hr⟩ := InB_cons h
  have ih := index_line r hr
  have hl := lineL_len r
  show (if UInt8.ofNat x.toNat == 10 then (0 : Int) else if Lib.indexByte (Lib.bytesOf r) 10 == -1 then -1 else Lib.indexByte (Lib.bytesOf r) 10 + 1) = _
  rw [u8_ten hx]
  unfold lineL
  by_cases h10 : x = 10
  ·simp [h10]
  ·rw [ih]
   simp only [h10, decide_false, if_false, List.length_cons]
   by_cases hlt : (lineL r).length < r.length
   ·have h1 : (lineL r).length + 1 < r.length + 1 := by omega
    have h0 : (((lineL r).length : Int) == -1) = false := beq_eq_false_iff_ne.2 (by omega)
    simp only [if_pos hlt, if_pos h1, h0]
    simp
   ·have h1 : ¬ (lineL r).length + 1 < r.length + 1 := by omega
    simp only [if_neg hlt, if_neg h1]
    rfl
set_option maxHeartbeats 2000000 in
set_option maxRecDepth 1000000 in
theorem ib_none (c : Nat) (cv : Int) (w : World) : Calls Tryz.prog 107 #[.slice none 0 c, .int .u8 cv] w fun e w' => e = .returned (.int .i64 (-1)) ∧ w' = w := by
 go_enter Tryz.func107, Tryz.ntmps107
 go_wp2
 rw [run_callFunc_extern Tryz.func127 (by kernel_rfl) (by kernel_rfl) (by kernel_rfl) (e := Extern.BytealgIndexByte.indexByte) (by kernel_rfl), Lib.run_indexByteNil w 0 c cv]
 simp only [Result.andThen]
 rw [Oper.upon_value]
 go_wp2
 go_ret
 exact ⟨rfl, rfl⟩
set_option maxHeartbeats 2000000 in
set_option maxRecDepth 1000000 in
theorem index_none (b2 o2 d c : Nat) (cv : Int) (w : World) (hc2 : w.cell? ⟨b2, o2, none⟩ = some (.int .u8 cv)) :
  Calls Tryz.prog 85 #[.slice none 0 c, .slice (some ⟨b2, o2, none⟩) 1 d] w fun e w' => e = .returned (.int .i64 (-1)) ∧ w' = w := by
 go_enter Tryz.func85, Tryz.ntmps85
 go_wp2_with (go_at_call 107; refine (ib_none c cv _).mono ?_; rintro e w' ⟨rfl, rfl⟩)
 go_ret
 exact ⟨rfl, rfl⟩
theorem cut_calls (A : Option Addr) (c : Nat) (xs : List Int) (g : Nat) (w : World) (hr : Kd.C (Kd.int .u8) w A xs.length xs) (hc : xs.length ≤ c) (hl : xs.length ≤ 8000) (hI : Sc.InB xs = true) (hs : w.cell? ⟨g, 0, none⟩ = some (.int .u8 10)) :
  Calls Tryz.prog 88 #[.slice A xs.length c, .slice (some ⟨g, 0, none⟩) 1 1] w fun e w' => ∃ v2 v3 c', e = .returned (.tuple #[.slice A (lineL xs).length c', v2, v3]) ∧ (lineL xs).length ≤ c' ∧ ∃ q, w' = w.drewN q := by
 have hi := index_line xs hI
 have hll := lineL_len xs
 refine (Tryz.bytes_Cut_of A (some ⟨g, 0, none⟩) xs.length c 1 1 (if (lineL xs).length < xs.length then ((lineL xs).length : Int) else -1) w hc (by split <;> omega) (by split <;> omega) (by omega) ?_).mono ?_
 ·rcases Ft.C_cells hr with ⟨rfl, rfl⟩ | ⟨a, rfl, h0⟩
  ·refine (index_none g 0 1 c 10 w hs).mono ?_
   rintro e w' ⟨rfl, rfl⟩
   exact ⟨rfl, 0, rfl⟩
  ·refine (Tryz.bytes_Index_one_at a xs.length c g 0 1 xs 10 w rfl h0 hs).mono ?_
   rintro e w' ⟨rfl, rfl⟩
   exact ⟨by rw [← hi]; rfl, 0, rfl⟩
 ·rintro e w' ⟨rfl, hq⟩
  unfold Lib.cutV
  by_cases hh : (lineL xs).length < xs.length
  ·rw [if_pos hh, if_pos (by omega)]
   exact ⟨_, _, c, rfl, by omega, hq⟩
  ·rw [if_neg hh, if_neg (by omega)]
   have e1 : (lineL xs).length = xs.length := by omega
   rw [e1]
   exact ⟨_, _, c, rfl, hc, hq⟩
theorem drawn0_of {W W' : World} (h : ∃ q, W' = W.drewN q) : Drawn0 W W' := ⟨h⟩
theorem drawn_below {w W W' : World} (h : Below w.heap.size w W) (hd : Drawn0 W W') : Below w.heap.size w W' := by
 obtain ⟨n, rfl⟩ := hd.out
 exact wN h n
theorem drawn_cell {W W' : World} {a : Addr} {v : Value} (hd : Drawn0 W W') (h : W.cell? a = some v) : W'.cell? a = some v := by
 obtain ⟨n, rfl⟩ := hd.out
 exact h
theorem cell_alloc' {W : World} {a : Addr} {v : Value} (o : Obj) (h : W.cell? a = some v) : (W.alloc o).cell? a = some v := by
 rw [World.cell?_alloc_lt _ _ a (World.block_lt_of_cell? W a h)]
 exact h
theorem marksG_end (s : ByteArray) (fr F T : Int) (k p : Nat) (c : Int) (h : ¬ p < s.size) : marksG s fr F T k p c = c := by
 cases k with
 | zero => rfl
 | succ k => unfold marksG; rw [if_neg h]
theorem marksG_step (s : ByteArray) (fr F T : Int) (k p : Nat) (c : Int) (h : p < s.size) : marksG s fr F T (k + 1) p c = marksG s fr F T k (p + (Utf8.decode s p).2) (if F ≤ (p : Int) + fr ∧ (p : Int) + fr < T then c + 1 else c) := by
 conv => lhs; unfold marksG
 rw [if_pos h]
theorem below_iter {w W : World} (h : Below w.heap.size w W) (s : ByteArray) (p : Nat) : Below w.heap.size w (W.iter s p) := wA h _
theorem iter_cell {W : World} {a : Addr} {v : Value} (s : ByteArray) (p : Nat) (h : W.cell? a = some v) : (W.iter s p).cell? a = some v := cell_alloc' _ h
theorem box_at (w : World) (cs : Array Value) (t : TypeId) (i : Nat) (v : Value) (h : cs[i]? = some v) : (w.alloc (.cells cs t)).cell? ⟨w.heap.size, i, none⟩ = some v := by
 rw [World.cell?_alloc_at _ _ _ _ rfl]
 exact h
theorem InB_drop' {l : List Int} (h : Sc.InB l = true) (i : Nat) : Sc.InB (l.drop i) = true := by
 unfold Sc.InB at h ⊢
 rw [List.all_eq_true] at h ⊢
 exact fun x hx => h x (List.mem_of_mem_drop hx)
set_option maxHeartbeats 8000000 in
set_option maxRecDepth 100000 in
theorem paint_calls (k : Nat) (A0 : Option Addr) (c0 : Nat) (l0 : List Int) (x : S41) (t : ByteArray) (acc : List UInt8) (wB w : World) (hr : Kd.C (Kd.int .u8) wB A0 l0.length l0) (hc0 : l0.length ≤ c0) (hT : Ft.All wB) (hBB : Below wB.heap.size wB w)
  (hBld : Ft.Bld wB.heap.size acc w) (hlen : acc.length ≤ 500000) (ht : t.size ≤ 500000) (h : paintF k l0 x = some t) :
  Calls Tryz.prog 56 #[.pointer (some ⟨wB.heap.size, 0, none⟩), .slice A0 l0.length c0, .agg (cells41 x).toArray] w fun e w' => e = .returned (.tuple #[]) ∧ Ft.Bld wB.heap.size (acc ++ t.data.toList) w' ∧ Below wB.heap.size wB w' := by
 unfold paintF at h
 replace h := Option.bind_eq_some_iff.mp h
 obtain ⟨⟨m1, m2⟩, hm, h⟩ := h
 replace h := Option.bind_eq_some_iff.mp h
 obtain ⟨⟨p1, p2, p3⟩, hp, h⟩ := h
 simp only at h
 by_cases hc : 0 ≤ x.f2.f0 ∧ x.f2.f0 ≤ (l0.length : Int) ∧ l0.length ≤ 8000 ∧ 1 ≤ p2 ∧ p2 ≤ 100000 ∧ m1.size ≤ 100000 ∧ Sc.InB l0 = true
 case neg => rw [if_neg hc] at h; cases h
 rw [if_pos hc] at h
 replace h := Option.bind_eq_some_iff.mp h
 obtain ⟨q, hq, h⟩ := h
 by_cases hc2 : -1 ≤ q ∧ q < (l0.length : Int)
 case neg => rw [if_neg hc2] at h; cases h
 rw [if_pos hc2] at h
 obtain ⟨g0, g1, g2, g3, g4, g5, g6⟩ := hc
 obtain ⟨x0, x1, ⟨F, T⟩, x4, x5⟩ := x
 simp only at hm hp g0 g1 hq h
 have HM := ak hm
 have HP := ak hp
 have HQ := ak hq
 have HR := ak hr
 have HTB := ak hT
 have HBB := ak hBB
 have HBl := ak hBld
 have HI := ak g6
 have hF : F = ((F.toNat : Nat) : Int) := by omega
 obtain ⟨f, hf⟩ : ∃ f : Nat, F.toNat = f := ⟨_, rfl⟩
 rw [hf] at hF hq HQ
 subst hF
 obtain ⟨fr, hfr⟩ : ∃ fr : Nat, (fr : Int) = q + 1 := ⟨(q + 1).toNat, by omega⟩
 have hq1 : q = (fr : Int) - 1 := by omega
 subst hq1
 have e3 : ((fr : Int) - 1 + 1).toNat = fr := by omega
 rw [e3] at h
 have e4 : ((fr : Int) - 1 + 1) = (fr : Int) := by omega
 rw [e4] at h
 have w1_ : IntKind.i64.wrap ((fr : Int) - 1 + 1) = (fr : Int) := by rw [IntKind.wrap_i64]; omega
 have g1' : f ≤ l0.length := by omega
 have hff : (f : Int) ≤ (l0.length : Int) := g1
 have hf0 : (0 : Int) ≤ (f : Int) := by omega
 have hr0 : (0 : Int) ≤ (fr : Int) := by omega
 have hrl : (fr : Int) ≤ (l0.length : Int) := by omega
 have hsB : ∀ (W : World), Below wB.heap.size wB W → Below w.heap.size w W → wB.heap.size ≤ W.heap.size := fun W h _ => h.size
 have hlen0 : (l0.take f).length = f := by rw [List.length_take]; omega
 have HB0 : Aside0 (∀ o, Below wB.heap.size wB (w.alloc o)) := ⟨fun o => wA hBB o⟩
 have HW0 : Aside0 (∀ o, Below w.heap.size w (w.alloc o)) := ⟨fun o => (Below.refl _ w).alloc (Nat.le_refl _) o⟩
 have HQC : Aside0 (∀ W, Below wB.heap.size wB W → Calls Tryz.prog 48 #[.slice A0 f c0, .int .u8 10] W fun e w' => e = .returned (.int .i64 ((fr : Int) - 1)) ∧ Drawn0 W w') := ⟨fun W hW => by
  have h1 := bytes_LastIndexByte.calls k A0 c0 (l0.take f) 10 ((fr : Int) - 1) W (Kd.C_take (m := f) (Kd.C_below hr hW) g1') (by rw [hlen0]; omega) hq
  rw [hlen0] at h1
  exact h1⟩
 obtain ⟨i0, hi0, _, hsz, _⟩ := info_parts info5
 obtain ⟨A', hcut, hA, hC⟩ := print_drop_of (P := Tryz.prog) (Value.int .u8) 0 29 5 .i64 Tryz.underlying29 hi0 hsz A0 c0 l0 (fr : Int) hr0 hrl hc0
 simp only [Int.toNat_natCast] at hcut hA hC
 have HRD : Aside0 (∀ W, Below wB.heap.size wB W → Kd.C (Kd.int .u8) W A' (l0.drop fr).length (l0.drop fr)) := ⟨fun W hW => Kd.C_of_reads (h1 := fun _ => rfl) (hA _ (Kd.reads_of_C (Kd.C_below hr hW)))⟩
 clear hA
 obtain ⟨D, hD⟩ : ∃ D, l0.drop fr = D := ⟨_, rfl⟩
 have hDl : D.length ≤ 8000 := by rw [← hD, List.length_drop]; omega
 have HDI : Aside0 (Sc.InB D = true) := ⟨by rw [← hD]; exact InB_drop' g6 fr⟩
 rw [hD] at hcut hC HRD h
 obtain ⟨LN, hLN⟩ : ∃ LN, lineL D = LN := ⟨_, rfl⟩
 have hLl : LN.length ≤ D.length := by rw [← hLN]; exact lineL_len D
 have HCV : Aside0 (∀ W c', Below wB.heap.size wB W → (convert 29 9 (.slice A' LN.length c')).run Tryz.prog W = .ok (.string (strOfNums LN)) W) := ⟨fun W c' hW => by
  refine Kd.C_string Tryz.underlying29 Tryz.underlying5 Tryz.underlying9 ?_
  have h1 := Kd.C_take (m := LN.length) (HRD.out W hW) hLl
  have e5 : D.take LN.length = LN := by rw [← hLN]; exact (lineL_take D).symm
  rw [e5] at h1
  exact h1⟩
 have HCC : Aside0 (∀ W g, Below wB.heap.size wB W → W.cell? ⟨g, 0, none⟩ = some (.int .u8 10) → Calls Tryz.prog 88 #[.slice A' D.length (c0 - fr), .slice (some ⟨g, 0, none⟩) 1 1] W fun e w' => ∃ v2 v3 c', e = .returned (.tuple #[.slice A' LN.length c', v2, v3]) ∧ LN.length ≤ c' ∧ ∃ q, w' = W.drewN q) := ⟨fun W g hW hg => by
  rw [← hLN]
  exact cut_calls A' (c0 - fr) D g W (HRD.out W hW) hC hDl HDI.out hg⟩
 rw [hLN] at h
 obtain ⟨s, hs⟩ : ∃ s, strOfNums LN = s := ⟨_, rfl⟩
 have hss : s.size = LN.length := by rw [← hs]; exact strOfNums_size LN
 rw [hs] at h HCV
 rw [← hss] at h
 obtain ⟨M, hM⟩ : ∃ M, marksG s fr f T s.size 0 0 = M := ⟨_, rfl⟩
 rw [hM] at h
 have HM1 := ak hM
 have HE := ak h
 clear hm hp hq hr hT hBB hBld g6 hc2 hfr h hM HDI HRD hi0 hsz
 unfold cells41
 go_enter Tryz.func56, Tryz.ntmps56
 go_wp2_with (first
  | (go_at_call 23; refine ( faults_Message.calls k A0 c0 l0 x0 x1 (f : Int) T x4 x5 m1 m2 _ (Kd.C_below HR.out (HB0.out _)) hc0 HM.out ⟨HTB.out.stay (HB0.out _)⟩).mono ?_; rintro e w1 ⟨rfl, hb1⟩; have HB1 := ak ((HB0.out _).trans (hb1.mono (HB0.out _).size)); have HW1 := ak ((HW0.out _).trans (hb1.mono (HW0.out _).size)); have c12 := Ft.cell_stay (box_at w _ 41 2 (.int .i64 (f : Int)) rfl) hb1; have C3 := ak (Ft.cell_stay (box_at w _ 41 3 (.int .i64 T) rfl) hb1); clear hb1)
  | (go_at_call 15; refine ( faults_Place.calls k A0 c0 l0 (f : Int) p1 p2 p3 _ (Kd.C_below HR.out HB1.out) hc0 HP.out ⟨HTB.out.stay HB1.out⟩).mono ?_; rintro e w2 ⟨rfl, hb2⟩; have HB2 := ak (HB1.out.trans (hb2.mono HB1.out.size)); have HW2 := ak (HW1.out.trans (hb2.mono HW1.out.size)); have c22 := Ft.cell_stay c12 hb2; have C23 := ak (Ft.cell_stay C3.out hb2); clear hb2)
  | (go_at_call 48; refine (HQC.out _ HB2.out).mono ?_; rintro e w3 ⟨rfl, hd⟩; have HB3 := ak (drawn_below HB2.out hd); have HW3 := ak (drawn_below HW2.out hd); have C32 := ak (drawn_cell hd c22); have C33 := ak (drawn_cell hd C23.out); clear hd)
  | (go_at_call 88; refine (HCC.out _ _ (wA HB3.out _) (box_at w3 _ 5 0 _ rfl)).mono ?_; rintro e w4 ⟨v2, v3, c', rfl, hle, hq4⟩; have HB4 := ak (drawn_below (wA HB3.out _) (drawn0_of hq4)); have HW4 := ak (drawn_below (wA HW3.out _) (drawn0_of hq4)); have C42 := ak (drawn_cell (drawn0_of hq4) (cell_alloc' _ C32.out)); have C43 := ak (drawn_cell (drawn0_of hq4) (cell_alloc' _ C33.out)); have hcv := HCV.out w4 c' HB4.out; clear hq4))
 have HW := ak (show s.size ≤ 8000 by omega)
 go_loopg [15] s.size (fun gh v15 wr => ∃ (p c g_ : Nat), g_ = gh ∧ wr = w4.iter s p ∧ v15 = .int .i64 (c : Int) ∧ s.size ≤ p + g_ ∧ c ≤ p ∧ c ≤ s.size ∧ Aside0 (marksG s fr f T g_ p c = M))
 case atStart => exact ⟨0, 0, s.size, rfl, rfl, rfl, by omega, Nat.le_refl _, Nat.zero_le _, HM1⟩
 case round =>
  obtain ⟨p, c, g_, rfl, rfl, rfl, hpk, hcp, hcs, HG⟩ := hrel
  by_cases hp : p < s.size
  ·obtain ⟨kk, rfl⟩ : ∃ kk, g_ = kk + 1 := ⟨g_ - 1, by omega⟩
   have hn := run_next_any (P := Tryz.prog) w4 s p 0 hp
   have c2 := iter_cell s (p + (Utf8.decode s p).2) C42.out
   have c3 := iter_cell s (p + (Utf8.decode s p).2) C43.out
   have hwd := Lib.decode_width_pos s p hp
   have f1 : IntKind.i64.wrap ((p : Int) + (fr : Int)) = (p : Int) + (fr : Int) := by rw [IntKind.wrap_i64]; omega
   have f2 : IntKind.i64.wrap ((c : Int) + 1) = ((c + 1 : Nat) : Int) := by rw [IntKind.wrap_i64]; omega
   have HG2 := ak ((marksG_step s fr f T kk p c hp).symm.trans HG.out)
   have HWD := ak hwd
   clear hwd
   by_cases h1 : (f : Int) ≤ (p : Int) + (fr : Int)
   ·have b1 : decide ((f : Int) ≤ (p : Int) + (fr : Int)) = true := decide_eq_true h1
    by_cases h2 : (p : Int) + (fr : Int) < T
    ·have b2 : decide ((p : Int) + (fr : Int) < T) = true := decide_eq_true h2
     go_wp2
     go_roundg kk
     case measure => omega
     case rel => exact ⟨p + (Utf8.decode s p).2, c + 1, kk, rfl, rfl, rfl, by have := HWD.out; omega, by have := HWD.out; omega, by omega, ⟨by have h := HG2.out; rw [if_pos ⟨h1, h2⟩] at h; exact h⟩⟩
    ·have b2 : decide ((p : Int) + (fr : Int) < T) = false := decide_eq_false h2
     go_wp2
     go_roundg kk
     case measure => omega
     case rel => exact ⟨p + (Utf8.decode s p).2, c, kk, rfl, rfl, rfl, by have := HWD.out; omega, by have := HWD.out; omega, by omega, ⟨by have h := HG2.out; rw [if_neg (by omega)] at h; exact h⟩⟩
   ·have b1 : decide ((f : Int) ≤ (p : Int) + (fr : Int)) = false := decide_eq_false h1
    go_wp2
    go_roundg kk
    case measure => omega
    case rel => exact ⟨p + (Utf8.decode s p).2, c, kk, rfl, rfl, rfl, by have := HWD.out; omega, by have := HWD.out; omega, by omega, ⟨by have h := HG2.out; rw [if_neg (by omega)] at h; exact h⟩⟩
  ·have hn := run_next_end (P := Tryz.prog) w4 s p 0 hp
   have e7 := (marksG_end s fr f T g_ p c hp).symm.trans HG.out
   subst e7
   obtain ⟨n1, hn1⟩ : ∃ n1 : Nat, p2 - 1 = (n1 : Int) := ⟨(p2 - 1).toNat, by omega⟩
   obtain ⟨n2, hn2⟩ : ∃ n2 : Nat, max (c : Int) 1 = (n2 : Int) := ⟨(max (c : Int) 1).toNat, by omega⟩
   have hn3 : (if (c : Int) < 1 then (1 : Int) else (c : Int)) = (n2 : Int) := by rw [← hn2]; split <;> omega
   have f5 : IntKind.i64.wrap (p2 - 1) = (n1 : Int) := by rw [IntKind.wrap_i64]; omega
   have HE2 := HE.out
   rw [hn1, hn2] at HE2
   simp only [Int.toNat_natCast] at HE2
   have HR1 := ak (fun W => Tryz.strings_Repeat ⟨#[32]⟩ n1 W (by omega) (by show 1 * n1 ≤ _; omega))
   have HR2 := ak (fun W => Tryz.strings_Repeat ⟨#[94]⟩ n2 W (by omega) (by show 1 * n2 ≤ _; omega))
   have hz1 : (⟨(Lib.repeatL [32] n1).toArray⟩ : ByteArray).size = n1 := by show (Lib.repeatL [32] n1).toArray.size = n1; simp [Lib.repeatL_length]
   have hz2 : (⟨(Lib.repeatL [94] n2).toArray⟩ : ByteArray).size = n2 := by show (Lib.repeatL [94] n2).toArray.size = n2; simp [Lib.repeatL_length]
   have e8 : (⟨#[32]⟩ : ByteArray).data.toList = [32] := rfl
   have e9 : (⟨#[94]⟩ : ByteArray).data.toList = [94] := rfl
   rw [e8] at HR1
   rw [e9] at HR2
   generalize (⟨(Lib.repeatL [32] n1).toArray⟩ : ByteArray) = S1 at HR1 HE2 hz1
   generalize (⟨(Lib.repeatL [94] n2).toArray⟩ : ByteArray) = S2 at HR2 HE2 hz2
   have HE3 := ak HE2
   have HB5 := ak (below_iter HB4.out s p)
   have HW5 := ak (below_iter HW4.out s p)
   have HZ1 := ak hz1
   have HZ2 := ak hz2
   have HN1 := ak (show n1 ≤ 100000 by omega)
   have HN2 := ak (show n2 ≤ 8001 by omega)
   have z1 : (9223372036854775807 < m1.size + 3) = False := eq_false (by omega)
   have z2 : (9223372036854775807 < m1.size + 3 + s.size) = False := eq_false (by omega)
   have z3 : (9223372036854775807 < m1.size + 3 + s.size + 3) = False := eq_false (by omega)
   have z4 : (9223372036854775807 < m1.size + 3 + s.size + 3 + S1.size) = False := eq_false (by omega)
   have z5 : (9223372036854775807 < m1.size + 3 + s.size + 3 + S1.size + S2.size) = False := eq_false (by omega)
   have z6 : (9223372036854775807 < m1.size + 3 + s.size + 3 + S1.size + S2.size + 1) = False := eq_false (by omega)
   have HWS : Aside0 (∀ W, Below wB.heap.size wB W → Below w.heap.size w W → Calls Tryz.prog 89 #[.pointer (some ⟨wB.heap.size, 0, none⟩), .string ((((((m1 ++ (⟨#[10, 32, 32]⟩ : ByteArray)) ++ s) ++ (⟨#[10, 32, 32]⟩ : ByteArray)) ++ S1) ++ S2) ++ (⟨#[10]⟩ : ByteArray))] W fun e w' => e = .returned (.tuple #[.int .i64 t.size, .nilIface]) ∧ Ft.Bld wB.heap.size (acc ++ t.data.toList) w' ∧ Below wB.heap.size W w') := ⟨fun W hW hW2 => by
    have h1 := Ft.bld_str t (HBl.out.below hW2) (by omega) (by omega) hW.size
    rw [← Option.some.inj HE2] at h1 ⊢
    exact h1⟩
   clear HE2 hz1 hz2 HE HM1 HG hn hss hn1 hn2 HE3
   have hn := run_next_end (P := Tryz.prog) w4 s p 0 hp
   go_wp2
   generalize w4.iter s p = w5 at HB5 HW5 ⊢
   go_region_held3 (fun w' => (convert 29 9 (.slice A' LN.length c')).run Tryz.prog w' = .ok (.string s) w')
    (first | exact HCV.out _ c' (wD HB5.out) | exact HCV.out _ c' HB6.out | exact HCV.out _ c' HB7.out | exact HCV.out _ c' HB8.out)
    ((first
     | (go_at_call 90; (with_reducible refine (HR1.out _).mono ?_); rintro e w6 ⟨rfl, hb6⟩; have HB6 := ak ((wD HB5.out).trans (hb6.mono (wD HB5.out).size)); have HW6 := ak ((wD HW5.out).trans (hb6.mono (wD HW5.out).size)); clear hb6)
     | (go_at_call 90; (with_reducible refine (HR2.out _).mono ?_); rintro e w7 ⟨rfl, hb7⟩; have HB7 := ak (HB6.out.trans (hb7.mono HB6.out.size)); have HW7 := ak (HW6.out.trans (hb7.mono HW6.out.size)); clear hb7)
     | (go_at_call 89; (with_reducible refine (HWS.out _ HB7.out HW7.out).mono ?_); rintro e w8 ⟨rfl, hl8, hb8⟩; have HB8 := ak (HB7.out.trans hb8); have HL8 := ak hl8; clear hl8 hb8)))
   all_goals
    refine bodyPost_end (results_none rfl _ _ _) rfl ?_
    exact ⟨rfl, HL8.out, HB8.out⟩
def picG (k : Nat) (l0 : List Int) (l1 : List S41) : Nat → Int → ByteArray → Option ByteArray
 | 0, i, acc => if i < 0 then some acc else none
 | n + 1, i, acc => if i < 0 then some acc else (paintF k l0 (rd_T41 l1 i)).bind fun t => if acc.size + t.size ≤ 500000 then picG k l0 l1 n (rd_T41 l1 i).f4 (acc ++ t) else none
def faults_Picture.f (k : Nat) (l0 : List Int) (l1 : List S41) (a2 : Int) : Option (ByteArray × Int) :=
 (runes_Check.f l0).bind fun c => if c.2 = 0 then ((faults_Check.f k (l0.length : Int) l1).bind fun d => if d.2 = 0 then (if a2 < 0 ∨ (l1.length : Int) ≤ a2 then some (⟨#[]⟩, 4) else (if downsB l1 = true then (picG k l0 l1 l1.length a2 ⟨#[]⟩).map (fun t => (t, 0)) else none)) else some (⟨#[]⟩, d.2)) else some (⟨#[]⟩, c.2)
theorem picG_end (k : Nat) (l0 : List Int) (l1 : List S41) (n : Nat) (i : Int) (acc : ByteArray) (h : i < 0) : picG k l0 l1 n i acc = some acc := by
 cases n with
 | zero => unfold picG; rw [if_pos h]
 | succ n => unfold picG; rw [if_pos h]
theorem app_data (a b : ByteArray) : (a ++ b).data.toList = a.data.toList ++ b.data.toList := by
 rw [ByteArray.data_append, Array.toList_append]
set_option maxHeartbeats 8000000 in
set_option maxRecDepth 100000 in
theorem faults_Picture.calls (k : Nat) (A0 : Option Addr) (c0 : Nat) (l0 : List Int) (A1 : Option Addr) (c1 : Nat) (l1 : List S41) (a2 : Int) (r1 : ByteArray) (r2 : Int) (w : World) (hr0 : Kd.C (Kd.int .u8) w A0 l0.length l0) (hc0 : l0.length ≤ c0) (hr1 : Kd.C k41 w A1 l1.length l1) (hc1 : l1.length ≤ c1) (h : faults_Picture.f k l0 l1 a2 = some (r1, r2)) (HT : Aside0 (Ft.All w)) :
  Calls Tryz.prog 21 #[.slice A0 l0.length c0, .slice A1 l1.length c1, .int .i64 a2] w fun e w' => e = .returned (.tuple #[.string r1, .int .i64 r2]) ∧ Below w.heap.size w w' := by
 unfold faults_Picture.f at h
 replace h := Option.bind_eq_some_iff.mp h
 obtain ⟨⟨z1, z2⟩, hk, h⟩ := h
 have HK := ak hk
 have HR0 := ak hr0
 have HR1 := ak hr1
 simp only at h
 clear hk hr0 hr1
 by_cases he : z2 = 0
 case neg =>
  rw [if_neg he] at h
  cases h
  have b1 : (r2 != 0) = true := bne_iff_ne.mpr he
  have b2 : (r2 == 0) = false := beq_eq_false_iff_ne.mpr he
  go_enter Tryz.func21, Tryz.ntmps21
  go_wp2_with (first
   | (go_at_call 45; refine ( runes_Check.calls A0 c0 l0 z1 r2 _ HR0.out hc0 HK.out HT).mono ?_; rintro e w1 ⟨rfl, hb1⟩))
  go_ret2
  exact ⟨rfl, hb1⟩
 subst he
 rw [if_pos rfl] at h
 replace h := Option.bind_eq_some_iff.mp h
 obtain ⟨⟨y1, y2⟩, hk2, h⟩ := h
 have HK2 := ak hk2
 simp only at h
 clear hk2
 by_cases he2 : y2 = 0
 case neg =>
  rw [if_neg he2] at h
  cases h
  have b1 : (r2 != 0) = true := bne_iff_ne.mpr he2
  have b2 : (r2 == 0) = false := beq_eq_false_iff_ne.mpr he2
  go_enter Tryz.func21, Tryz.ntmps21
  go_wp2_with (first
   | (go_at_call 45; refine ( runes_Check.calls A0 c0 l0 z1 0 _ HR0.out hc0 HK.out HT).mono ?_; rintro e w1 ⟨rfl, hb1⟩; have HB1 := ak hb1; clear hb1)
   | (go_at_call 13; refine ( faults_Check.calls k (l0.length : Int) A1 c1 l1 y1 r2 _ (Kd.C_below HR1.out HB1.out) hc1 HK2.out ⟨HT.out.stay HB1.out⟩).mono ?_; rintro e w2 ⟨rfl, hb2⟩; have HB2 := ak (HB1.out.trans (hb2.mono HB1.out.size)); clear hb2))
  go_ret2
  exact ⟨rfl, HB2.out⟩
 subst he2
 rw [if_pos rfl] at h
 by_cases hi : a2 < 0 ∨ (l1.length : Int) ≤ a2
 ·rw [if_pos hi] at h
  cases h
  by_cases hi1 : a2 < 0
  ·have b1 : decide (a2 < 0) = true := decide_eq_true hi1
   go_enter Tryz.func21, Tryz.ntmps21
   go_wp2_with (first
    | (go_at_call 45; refine ( runes_Check.calls A0 c0 l0 z1 0 _ HR0.out hc0 HK.out HT).mono ?_; rintro e w1 ⟨rfl, hb1⟩; have HB1 := ak hb1; clear hb1)
    | (go_at_call 13; refine ( faults_Check.calls k (l0.length : Int) A1 c1 l1 y1 0 _ (Kd.C_below HR1.out HB1.out) hc1 HK2.out ⟨HT.out.stay HB1.out⟩).mono ?_; rintro e w2 ⟨rfl, hb2⟩; have HB2 := ak (HB1.out.trans (hb2.mono HB1.out.size)); clear hb2))
   go_ret2
   exact ⟨rfl, HB2.out⟩
  ·have hi2 : (l1.length : Int) ≤ a2 := by omega
   have b1 : decide (a2 < 0) = false := decide_eq_false hi1
   have b2 : decide ((l1.length : Int) ≤ a2) = true := decide_eq_true hi2
   go_enter Tryz.func21, Tryz.ntmps21
   go_wp2_with (first
    | (go_at_call 45; refine ( runes_Check.calls A0 c0 l0 z1 0 _ HR0.out hc0 HK.out HT).mono ?_; rintro e w1 ⟨rfl, hb1⟩; have HB1 := ak hb1; clear hb1)
    | (go_at_call 13; refine ( faults_Check.calls k (l0.length : Int) A1 c1 l1 y1 0 _ (Kd.C_below HR1.out HB1.out) hc1 HK2.out ⟨HT.out.stay HB1.out⟩).mono ?_; rintro e w2 ⟨rfl, hb2⟩; have HB2 := ak (HB1.out.trans (hb2.mono HB1.out.size)); clear hb2))
   go_ret2
   exact ⟨rfl, HB2.out⟩
 rw [if_neg hi] at h
 by_cases hd : downsB l1 = true
 case neg => rw [if_neg hd] at h; cases h
 rw [if_pos hd] at h
 obtain ⟨t, hp, ht⟩ := Option.map_eq_some_iff.1 h
 cases ht
 have hD := downs_of hd
 have HD := ak hD
 have HP := ak hp
 have b1 : decide (a2 < 0) = false := decide_eq_false (by omega)
 have b2 : decide ((l1.length : Int) ≤ a2) = false := decide_eq_false (by omega)
 have hi1 : a2 < (l1.length : Int) := by omega
 have HI1 := ak hi1
 clear h hp hd hD hi hi1
 go_enter Tryz.func21, Tryz.ntmps21
 go_wp2_with (first
  | (go_at_call 45; refine ( runes_Check.calls A0 c0 l0 z1 0 _ HR0.out hc0 HK.out HT).mono ?_; rintro e w1 ⟨rfl, hb1⟩; have HB1 := ak hb1; clear hb1)
  | (go_at_call 13; refine ( faults_Check.calls k (l0.length : Int) A1 c1 l1 y1 0 _ (Kd.C_below HR1.out HB1.out) hc1 HK2.out ⟨HT.out.stay HB1.out⟩).mono ?_; rintro e w2 ⟨rfl, hb2⟩; have HB2 := ak (HB1.out.trans (hb2.mono HB1.out.size)); clear hb2))
 clear b1 b2
 have HRB0 := ak (Kd.C_below HR0.out HB2.out)
 have HRB1 := ak (Kd.C_below HR1.out HB2.out)
 have HTB := ak (HT.out.stay HB2.out)
 have HBl := ak (show Ft.Bld w2.heap.size (⟨#[]⟩ : ByteArray).data.toList (w2.alloc (.cells #[.pointer none, .slice none 0 0] 79)) from Lib.fresh_isBuilder 79 5 w2)
 have HBw := ak ((Below.refl w2.heap.size w2).alloc (Nat.le_refl _) (.cells #[.pointer none, .slice none 0 0] 79))
 go_loopg [2] l1.length (fun gh v2 wr => ∃ (i : Int) (acc : ByteArray) (g_ : Nat), g_ = gh ∧ v2 = .int .i64 i ∧ Aside0 (i < (l1.length : Int)) ∧ Aside0 (acc.size ≤ 500000) ∧ Aside0 (picG k l0 l1 g_ i acc = some r1) ∧ Aside0 (Ft.Bld w2.heap.size acc.data.toList wr) ∧ Aside0 (Below w2.heap.size w2 wr))
 case atStart => exact ⟨a2, ⟨#[]⟩, l1.length, rfl, rfl, HI1, ⟨Nat.zero_le _⟩, HP, HBl, HBw⟩
 case round =>
  obtain ⟨i, acc, g_, rfl, rfl, HI, HA, HG, HL, HB⟩ := hrel
  clear HBl HBw HP HI1
  by_cases hn : i < 0
  ·have b1 : decide (0 ≤ i) = false := decide_eq_false (by omega)
   have e1 : acc = r1 := Option.some.inj ((picG_end k l0 l1 g_ i acc hn).symm.trans HG.out)
   subst e1
   go_wp2_with (go_at_call 57; refine (Tryz.Builder_String_any w2.heap.size w2.heap.size acc.data.toList _ HL.out HB.out.size).mono ?_; rintro e w5 ⟨rfl, hb5⟩)
   go_ret2
   exact ⟨rfl, HB2.out.trans ((HB.out.trans hb5).mono HB2.out.size)⟩
  ·have b1 : decide (0 ≤ i) = true := decide_eq_true (by omega)
   cases g_ with
   | zero => exact absurd HG.out (by unfold picG; rw [if_neg hn]; simp)
   | succ n =>
    have hg := HG.out
    unfold picG at hg
    rw [if_neg hn] at hg
    replace hg := Option.bind_eq_some_iff.mp hg
    obtain ⟨t, hp, hg⟩ := hg
    by_cases hs : acc.size + t.size ≤ 500000
    case neg => rw [if_neg hs] at hg; cases hg
    rw [if_pos hs] at hg
    obtain ⟨ad, e1, xb0, xb1, xb2, xb3, xb4, xb5⟩ := at_T41 HRB1.out i (by omega) HI.out
    subst e1
    have x0 := Ft.cell_stay xb0 HB.out
    have x1 := Ft.cell_stay xb1 HB.out
    have x2 := Ft.cell_stay xb2 HB.out
    have x3 := Ft.cell_stay xb3 HB.out
    have x4 := Ft.cell_stay xb4 HB.out
    have x5 := Ft.cell_stay xb5 HB.out
    clear xb0 xb1 xb2 xb3 xb4
    have hdn := HD.out i.toNat (by have := HI.out; omega)
    rw [show ((i.toNat : Nat) : Int) = i by omega] at hdn
    have HC := ak (paint_calls k A0 c0 l0 (rd_T41 l1 i) t acc.data.toList w2 wr HRB0.out hc0 HTB.out HB.out HL.out (by have := HA.out; show acc.size ≤ _; omega) (by omega) hp)
    have HDN := ak hdn
    have HG2 := ak hg
    have HS := ak hs
    unfold cells41 at HC
    have hi1 := HI.out
    clear hp hg hs hdn HG
    generalize (rd_T41 l1 i).f0 = y0 at *
    generalize (rd_T41 l1 i).f1 = y1 at *
    generalize (rd_T41 l1 i).f2.f0 = y2 at *
    generalize (rd_T41 l1 i).f2.f1 = y3 at *
    generalize (rd_T41 l1 i).f3 = y4 at *
    generalize (rd_T41 l1 i).f4 = y5 at *
    have hi0 : 0 ≤ i := by omega
    have X5 := ak xb5
    clear xb5
    go_wp2_with (go_at_call 56; refine HC.out.mono ?_; rintro e w4 ⟨rfl, hl4, hb4⟩; have HL4 := ak hl4; have HB4 := ak hb4; have x54 := Ft.cell_stay X5.out HB4.out; clear hl4 hb4)
    go_roundg n
    case measure => omega
    case rel => exact ⟨y5, acc ++ t, n, rfl, rfl, ⟨by have := HDN.out; have := HI.out; omega⟩, ⟨by rw [ByteArray.size_append]; exact HS.out⟩, HG2, ⟨by rw [app_data]; exact HL4.out⟩, HB4⟩
end Go.Proofs.YtdjkdlbokepoaaaGreatDoor.P
namespace Go.Proofs.YtdjkdlbokepoaaaGreatDoor.P
open Go.RowKit YtdjkdlbokepoaaaGreatDoorW.PrintWords YtdjkdlbokepoaaaGreatDoorW.PrintLast YtdjkdlbokepoaaaGreatDoorW.PrintMore
attribute [local go_sem] max2_int min2_int max_two min_two max_three min_three max_four min_four
set_option linter.unusedVariables false
set_option linter.unusedSimpArgs false
def mummerlaw08_Text.f : Option (List Int) := some [97, 98, 195, 169, 10, 99, 100]
theorem text_reads (w : World) (m : Nat × Nat) : Kd.C (Kd.int .u8) (w.alloc (.cells #[.int .u8 97, .int .u8 98, .int .u8 195, .int .u8 169, .int .u8 10, .int .u8 99, .int .u8 100] 5 m)) (some ⟨w.heap.size, 0, none⟩) 7 [97, 98, 195, 169, 10, 99, 100] := by
 refine Kd.C_of_reads (enc := fun n => Value.int .u8 n) (d := 0) ⟨rfl, by omega, fun _ => ⟨_, rfl, fun j hj => ?_⟩⟩
 rw [Addr.add_lit, Nat.zero_add]
 have h2 : (w.alloc (.cells #[.int .u8 97, .int .u8 98, .int .u8 195, .int .u8 169, .int .u8 10, .int .u8 99, .int .u8 100] 5 m)).heap[w.heap.size]? = some (.cells #[.int .u8 97, .int .u8 98, .int .u8 195, .int .u8 169, .int .u8 10, .int .u8 99, .int .u8 100] 5 m) := by
  show (w.heap.push _)[w.heap.size]? = _
  simp
 simp only [World.cell?, h2]
 match j, hj with
 | 0, _ => rfl
 | 1, _ => rfl
 | 2, _ => rfl
 | 3, _ => rfl
 | 4, _ => rfl
 | 5, _ => rfl
 | 6, _ => rfl
set_option maxRecDepth 100000 in
set_option maxHeartbeats 1000000 in
theorem mummerlaw08_Text.calls (r : List Int) (w : World) (h : mummerlaw08_Text.f = some r) :
  Calls Tryz.prog 41 #[] w fun e w' => ∃ v0_ : Value, e = .returned (v0_) ∧ Ft.Cv w' v0_ r ∧ Below w.heap.size w w' := by
 have kc := fun (w : World) (C : Array Value) (n c : Nat) => Lib.run_convert_bytes_const (P := Tryz.prog) w 29 5 C n c Tryz.underlying29 Tryz.underlying5
 unfold mummerlaw08_Text.f at h
 cases h
 go_enter Tryz.func41, Tryz.ntmps41
 go_wp2
 go_ret
 exact ⟨_, rfl, ⟨_, 7, rfl, Nat.le_refl _, text_reads w _⟩, (Below.refl _ w).alloc (Nat.le_refl _) _⟩
def mummerlaw08_Example.f  : Option ((List (S41))) := some (([(⟨10, 3, (⟨2, 4⟩ : S39), (⟨#[120]⟩ : ByteArray), (-1)⟩ : S41), (⟨14, 3, (⟨5, 7⟩ : S39), (⟨#[]⟩ : ByteArray), 0⟩ : S41)] : List (S41)))
set_option maxHeartbeats 8000000 in
set_option maxRecDepth 100000 in
theorem mummerlaw08_Example.calls  (r : List (S41)) (w : World) (h : mummerlaw08_Example.f  = some r) :
  Calls Tryz.prog 42 #[] w fun e w' => ∃ v0_ : Value, e = .returned (v0_) ∧ Kd.R k41 41 w' w.heap.size (fun _ => True) v0_ r ∧ Below w.heap.size w w' := by
 have hu39 := Tryz.underlying39
 have hu41 := Tryz.underlying41
 have HB := ak (Below.refl w.heap.size w)
 have H : (some (([(⟨10, 3, (⟨2, 4⟩ : S39), (⟨#[120]⟩ : ByteArray), (-1)⟩ : S41), (⟨14, 3, (⟨5, 7⟩ : S39), (⟨#[]⟩ : ByteArray), 0⟩ : S41)] : List (S41)))) = some r := h
 clear h
 obtain ⟨y157, hy157⟩ : ∃ y_ : List (S41), y_ = (([(⟨10, 3, (⟨2, 4⟩ : S39), (⟨#[120]⟩ : ByteArray), (-1)⟩ : S41), (⟨14, 3, (⟨5, 7⟩ : S39), (⟨#[]⟩ : ByteArray), 0⟩ : S41)] : List (S41))) := ⟨_, rfl⟩
 replace H : (some y157) = some r := by first | (rw [hy157]; with_reducible exact H) | (have H2_ := (Option.bind_some _ _).symm.trans H; rw [hy157]; with_reducible exact H2_) | (have H2_ := (Option.bind_some _ _).symm.trans H; with_reducible exact H2_) | with_reducible exact H | (rw [hy157]; exact H) | exact H
 have Ny157 := ak hy157
 clear hy157
 obtain rfl := Option.some.inj H
 go_enter Tryz.func42, Tryz.ntmps42
 go_wp2_with (first | ((with_reducible refine gate_dst (N := 5) rfl ?_); refine Kd.R_lit k41 _ 41 ?hg (N := 5) ?hd (xs := ([(⟨10, 3, (⟨2, 4⟩ : S39), (⟨#[120]⟩ : ByteArray), (-1)⟩ : S41), (⟨14, 3, (⟨5, 7⟩ : S39), (⟨#[]⟩ : ByteArray), 0⟩ : S41)] : List (S41))) (inner := [.int .i64 10, .int .i64 3, .int .i64 2, .int .i64 4, .string (⟨#[120]⟩ : ByteArray), .int .i64 (-1), .int .i64 14, .int .i64 3, .int .i64 5, .int .i64 7, .string (⟨#[]⟩ : ByteArray), .int .i64 0]) (ok := fun _ => True) (okp := fun _ => True) ?hr ?hp (fun _ hk => hk) trivial (Below.refl _ _) (Nat.le_refl _) (by simp) ?_; (case hd => rfl); (case hg => rfl); (case hr => first | (go_simp; done) | (go_simp; rfl)); (case hp => exact (Reps.c6 (show Kd.M k41 _ _ _ (⟨10, 3, (⟨2, 4⟩ : S39), (⟨#[120]⟩ : ByteArray), (-1)⟩ : S41) [.int .i64 10, .int .i64 3, .int .i64 2, .int .i64 4, .string (⟨#[120]⟩ : ByteArray), .int .i64 (-1)] from (k41_mkM _ _ _ (⟨10, 3, (⟨2, 4⟩ : S39), (⟨#[120]⟩ : ByteArray), (-1)⟩ : S41) )) (Reps.c6 (show Kd.M k41 _ _ _ (⟨14, 3, (⟨5, 7⟩ : S39), (⟨#[]⟩ : ByteArray), 0⟩ : S41) [.int .i64 14, .int .i64 3, .int .i64 5, .int .i64 7, .string (⟨#[]⟩ : ByteArray), .int .i64 0] from (k41_mkM _ _ _ (⟨14, 3, (⟨5, 7⟩ : S39), (⟨#[]⟩ : ByteArray), 0⟩ : S41) )) (Reps.none _ _)))); intro v158 w1 ho2 hb hg_ hnew_; clear hg_ hnew_; (first | rw [← Ny157.out] at ho2 | (simp only [Int.reduceToNat] at ho2; rw [← Ny157.out] at ho2)); have n0_ := ak (Kd.R_lower ho2 (below_size (by repeat (first | (with_reducible first | exact HB.out | apply wA | apply wN | apply wD) | exact HB.out)))); have n1_ := ak (below_step (by repeat (first | (with_reducible first | exact HB.out | apply wA | apply wN | apply wD) | exact HB.out)) hb); clear HB; have HO159 := n0_; have HB := n1_; clear n0_ n1_; clear hb ho2))
 go_ret
 exact ⟨_, by first | rfl | (simp [errW_none, errW_some] <;> rfl) | (simp [*, errW_none, errW_some] <;> rfl), by (with_reducible repeat (first | apply Kd.R_alloc | apply Kd.R_drewN | apply Kd.R_drew)); exact HO159.out, by repeat (first | (with_reducible first | exact HB.out | apply wA | apply wN | apply wD) | exact HB.out)⟩
def mummerlaw08_shown.f : Option Bool := some true
def shT : List Int := [97, 98, 195, 169, 10, 99, 100]
def shE : List S41 := [⟨10, 3, ⟨2, 4⟩, ⟨#[120]⟩, -1⟩, ⟨14, 3, ⟨5, 7⟩, ⟨#[]⟩, 0⟩]
def shM : ByteArray := ⟨#[49, 58, 51, 58, 32, 101, 120, 112, 97, 110, 100, 58, 32, 117, 110, 98, 111, 117, 110, 100, 32, 120]⟩
def shP : ByteArray := ⟨#[50, 58, 49, 58, 32, 101, 120, 112, 97, 110, 100, 58, 32, 109, 97, 116, 99, 104, 10, 32, 32, 99, 100, 10, 32, 32, 94, 94, 10, 49, 58, 51, 58, 32, 101, 120, 112, 97, 110, 100, 58, 32, 117, 110, 98, 111, 117, 110, 100, 32, 120, 10, 32, 32, 97, 98, 195, 169, 10, 32, 32, 32, 32, 94, 10]⟩
theorem sh_place : faults_Place.f 60 shT 5 = some (2, 1, 0) := by decide +kernel
theorem sh_message : faults_Message.f 60 shT 10 3 2 4 ⟨#[120]⟩ (-1) = some (shM, 0) := by decide +kernel
theorem sh_picture : faults_Picture.f 60 shT shE 1 = some (shP, 0) := by decide +kernel
theorem sh_chain : faults_Chain.f 60 shE 1 = some ([1, 0], 0) := by decide +kernel
theorem sh_has : faults_Has.f 60 shE 1 10 = some (true, 0) := by decide +kernel
theorem sh_ints : mummerref04_Ints.f 60 [1, 0] [1, 0] = some true := by decide +kernel
theorem sh_lit (w : World) : Kd.C (Kd.int .i64) (w.alloc (.cells #[.int .i64 1, .int .i64 0] 3)) (some ⟨w.heap.size, 0, none⟩) ([1, 0] : List Int).length [1, 0] := by
 refine Kd.C_of_reads (enc := fun n => Value.int .i64 n) (d := 0) ⟨rfl, by decide, fun _ => ⟨_, rfl, fun j hj => ?_⟩⟩
 rw [Addr.add_lit, Nat.zero_add]
 have h2 : (w.alloc (.cells #[.int .i64 1, .int .i64 0] 3)).heap[w.heap.size]? = some (.cells #[.int .i64 1, .int .i64 0] 3) := by
  show (w.heap.push _)[w.heap.size]? = _
  simp
 simp only [World.cell?, h2]
 match j, hj with
 | 0, _ => rfl
 | 1, _ => rfl
theorem addr_zero (a : Addr) : a.add (Int.toNat 0 * 6) = a := by
 obtain ⟨b, o, s⟩ := a
 cases s <;> simp [Addr.add]
theorem sh_first {w : World} {A : Option Addr} (h : Kd.C k41 w A shE.length shE) : ∃ ad, A = some ad ∧ w.cell? ad = some (.int .i64 10) ∧ w.cell? ⟨ad.block, ad.off + 1, none⟩ = some (.int .i64 3) ∧ w.cell? ⟨ad.block, ad.off + 2, none⟩ = some (.int .i64 2) ∧ w.cell? ⟨ad.block, ad.off + 3, none⟩ = some (.int .i64 4) ∧ w.cell? ⟨ad.block, ad.off + 4, none⟩ = some (.string ⟨#[120]⟩) ∧ w.cell? ⟨ad.block, ad.off + 5, none⟩ = some (.int .i64 (-1)) := by
 obtain ⟨ad, e, x0, x1, x2, x3, x4, x5⟩ := at_T41 h 0 (by decide) (by decide)
 rw [addr_zero] at x0 x1 x2 x3 x4 x5
 exact ⟨ad, e, x0, x1, x2, x3, x4, x5⟩
set_option maxHeartbeats 8000000 in
set_option maxRecDepth 100000 in
theorem mummerlaw08_shown.calls (r : Bool) (w : World) (hrt : Aside0 (r = true)) (h : mummerlaw08_shown.f = some r) (HT : Aside0 (Ft.All w)) :
  Calls Tryz.prog 12 #[] w fun e w' => e = .returned (.bool r) ∧ Below w.heap.size w w' := by
 unfold mummerlaw08_shown.f at h
 cases h
 clear hrt
 have HB := ak (Below.refl w.heap.size w)
 have hl2 : shE.length = 2 := rfl
 have hl7 : shT.length = 7 := rfl
 have hM : shM.toList = [49, 58, 51, 58, 32, 101, 120, 112, 97, 110, 100, 58, 32, 117, 110, 98, 111, 117, 110, 100, 32, 120] := by decide +kernel
 have hP : shP.toList = [50, 58, 49, 58, 32, 101, 120, 112, 97, 110, 100, 58, 32, 109, 97, 116, 99, 104, 10, 32, 32, 99, 100, 10, 32, 32, 94, 94, 10, 49, 58, 51, 58, 32, 101, 120, 112, 97, 110, 100, 58, 32, 117, 110, 98, 111, 117, 110, 100, 32, 120, 10, 32, 32, 97, 98, 195, 169, 10, 32, 32, 32, 32, 94, 10] := by decide +kernel
 go_enter Tryz.func12, Tryz.ntmps12
 go_wp2_with (first
  | (go_at_call 41; refine (mummerlaw08_Text.calls shT _ rfl).mono ?_; rintro e wt ⟨vt, rfl, ⟨At, ct, rfl, hct, hCt⟩, hb⟩; have n_ := ak (HB.out.trans (hb.mono HB.out.size)); clear HB; have HB := n_; clear n_ hb; (try clear HCT HCc); have HCT := ak hCt; have HCc := ak hct; clear hCt hct)
  | (go_at_call 15; refine ( faults_Place.calls 60 At ct shT 5 2 1 0 _ HCT.out HCc.out sh_place ⟨HT.out.stay HB.out⟩).mono ?_; rintro e wp ⟨rfl, hb⟩; have n_ := ak (HB.out.trans (hb.mono HB.out.size)); clear HB; have HB := n_; clear n_ hb)
  | (go_at_call 42; refine (mummerlaw08_Example.calls shE _ rfl).mono ?_; rintro e we ⟨ve, rfl, hR, hb⟩; have n_ := ak (HB.out.trans (hb.mono HB.out.size)); clear HB; have HB := n_; clear n_; (try (have n_ := ak (Kd.C_below HCT.out hb); clear HCT; have HCT := n_; clear n_)); (try (have n_ := ak (Kd.C_below HCL.out hb); clear HCL; have HCL := n_; clear n_)); clear hb; obtain ⟨Ae, ce, rfl, hce, hCe⟩ := Kd.R_reads hR; clear hR; (try clear HCE HEc); have HCE := ak hCe; have HEc := ak hce; obtain ⟨ad, rfl, x0, x1, x2, x3, x4, x5⟩ := sh_first hCe; clear hCe hce)
  | (go_at_call 23; refine ( faults_Message.calls 60 At ct shT 10 3 2 4 ⟨#[120]⟩ (-1) shM 0 _ HCT.out HCc.out sh_message ⟨HT.out.stay HB.out⟩).mono ?_; rintro e wm ⟨rfl, hb⟩; have n_ := ak (HB.out.trans (hb.mono HB.out.size)); clear HB; have HB := n_; clear n_ hb)
  | (go_at_call 21; refine ( faults_Picture.calls 60 At ct shT _ ce shE 1 shP 0 _ HCT.out HCc.out HCE.out HEc.out sh_picture ⟨HT.out.stay HB.out⟩).mono ?_; rintro e wq ⟨rfl, hb⟩; have n_ := ak (HB.out.trans (hb.mono HB.out.size)); clear HB; have HB := n_; clear n_ hb)
  | (go_at_call 26; refine ( faults_Chain.calls 60 _ ce shE 1 [1, 0] 0 _ HCE.out HEc.out sh_chain ⟨HT.out.stay HB.out⟩).mono ?_; rintro e wc ⟨vl, rfl, hR, hb⟩; have n_ := ak (HB.out.trans (hb.mono HB.out.size)); clear HB; have HB := n_; clear n_ hb; obtain ⟨Al, cl, rfl, hcl, hCl⟩ := Kd.R_reads hR; clear hR; have HCL := ak hCl; have HLc := ak hcl; clear hCl hcl)
  | (go_at_call 32; refine ( faults_Has.calls 60 _ ce shE 1 10 true 0 _ HCE.out HEc.out sh_has ⟨HT.out.stay HB.out⟩).mono ?_; rintro e wh ⟨rfl, hb⟩; have n_ := ak (HB.out.trans (hb.mono HB.out.size)); clear HB; have HB := n_; clear n_; have n_ := ak (Kd.C_below HCL.out hb); clear HCL; have HCL := n_; clear n_ hb)
  | (go_at_call 34; refine (mummerref04_Ints.calls 60 Al cl [1, 0] _ 2 [1, 0] true _ (Kd.C_alloc HCL.out _) HLc.out (sh_lit _) (Nat.le_refl _) sh_ints).mono ?_; rintro e wi ⟨rfl, hd⟩; have HBi := ak (by obtain ⟨n, rfl⟩ := hd.out; exact wN (wA HB.out _) n : Below w.heap.size w wi); clear hd))
 go_ret
 exact ⟨rfl, HBi.out⟩
end Go.Proofs.YtdjkdlbokepoaaaGreatDoor.P
namespace Go.Proofs.YtdjkdlbokepoaaaGreatDoor.P
open Go.RowKit YtdjkdlbokepoaaaGreatDoorW.PrintWords YtdjkdlbokepoaaaGreatDoorW.PrintLast YtdjkdlbokepoaaaGreatDoorW.PrintMore
attribute [local go_sem] max2_int min2_int max_two min_two max_three min_three max_four min_four
set_option linter.unusedVariables false
set_option linter.unusedSimpArgs false
theorem row41 {w : World} {A : Option Addr} {xs : List S41} (h : Kd.C k41 w A xs.length xs) (hne : xs ≠ []) : ∃ b off, A = some ⟨b, off, none⟩ ∧ b < w.heap.size ∧ ∀ j, j < xs.length → ∀ i v, (cells41 xs[j]!)[i]? = some v → w.cell? ⟨b, off + j * 6 + i, none⟩ = some v := by
 have hl : 0 < xs.length := List.length_pos_iff.2 hne
 obtain ⟨ad, rfl, h0, _⟩ := at_T41 h 0 (by omega) (by omega)
 have hs := Sc.cell_spot h0
 obtain ⟨b, off, s⟩ := ad
 cases s with
 | some s => simp [Addr.add] at hs
 | none =>
  refine ⟨b, off, rfl, ?_, fun j hj i v hv => ?_⟩
  ·exact World.block_lt_of_cell? w _ h0
  ·obtain ⟨ad, e, x0, x1, x2, x3, x4, x5⟩ := at_T41 h (j : Int) (by omega) (by omega)
   cases e
   have ej : rd_T41 xs (j : Int) = xs[j]! := by
    unfold rd_T41
    rw [Int.toNat_natCast, List.getD_eq_getElem?_getD, getElem!_def, List.getElem?_eq_getElem hj]
    rfl
   rw [ej] at x0 x1 x2 x3 x4 x5
   simp only [Addr.add_lit, Int.toNat_natCast] at x0 x1 x2 x3 x4 x5
   unfold cells41 at hv
   match i, hv with
   | 0, hv => cases hv; exact x0
   | 1, hv => cases hv; exact x1
   | 2, hv => cases hv; exact x2
   | 3, hv => cases hv; exact x3
   | 4, hv => cases hv; exact x4
   | 5, hv => cases hv; exact x5
   | i + 6, hv => simp at hv
theorem agg41 (w : World) : (isAgg 41).run Tryz.prog w = .ok true w := by kernel_rfl
theorem size41 (w : World) : (Go.sizeOf 41).run Tryz.prog w = .ok 6 w := by kernel_rfl
theorem first1_calls (x : S41) (g : Nat) (code : Int) (w : World) (h : w.cell? ⟨g, 0, none⟩ = some (.int .i64 code)) :
  Calls Tryz.prog 74 #[.agg (cells41 x).toArray, .pointer (some ⟨g, 0, none⟩)] w fun e w' => e = .returned (.bool (decide (x.f0 = code))) ∧ Below w.heap.size w w' := by
 have e1 : (x.f0 == code) = decide (x.f0 = code) := rfl
 have hg : g < w.heap.size := World.block_lt_of_cell? w ⟨g, 0, none⟩ h
 have h2 : ∀ o, (w.alloc o).cell? ⟨g, 0, none⟩ = some (.int .i64 code) := fun o => by rw [World.cell?_alloc_lt _ _ ⟨g, 0, none⟩ hg]; exact h
 unfold cells41
 go_enter Tryz.func74, Tryz.ntmps74
 go_wp2
 go_ret
 exact ⟨rfl, (Below.refl _ w).alloc (Nat.le_refl _) _⟩
theorem root1_calls (x : S41) (g : Nat) (i : Int) (w : World) (h : w.cell? ⟨g, 0, none⟩ = some (.int .i64 i)) :
  Calls Tryz.prog 65 #[.agg (cells41 x).toArray, .pointer (some ⟨g, 0, none⟩)] w fun e w' => e = .returned (.bool (decide (x.f4 = i))) ∧ Below w.heap.size w w' := by
 have e1 : (x.f4 == i) = decide (x.f4 = i) := rfl
 have hg : g < w.heap.size := World.block_lt_of_cell? w ⟨g, 0, none⟩ h
 have h2 : ∀ o, (w.alloc o).cell? ⟨g, 0, none⟩ = some (.int .i64 i) := fun o => by rw [World.cell?_alloc_lt _ _ ⟨g, 0, none⟩ hg]; exact h
 unfold cells41
 go_enter Tryz.func65, Tryz.ntmps65
 go_wp2
 go_ret
 exact ⟨rfl, (Below.refl _ w).alloc (Nat.le_refl _) _⟩
theorem idx_empty (A : Option Addr) (c f : Nat) (lb : Array Value) (w : World) : Calls Tryz.prog 73 #[.slice A 0 c, .func (.func f) #[] lb] w fun e w' => e = .returned (.int .i64 (-1)) ∧ w' = w := by
 go_enter Tryz.func73, Tryz.ntmps73
 go_wp2
 refine wp_loop_rounds 1 ?_
 rw [rounds_succ]
 go_wp2
 go_ret
 exact ⟨rfl, rfl⟩
theorem has_empty (A : Option Addr) (c f : Nat) (lb : Array Value) (w : World) : Calls Tryz.prog 64 #[.slice A 0 c, .func (.func f) #[] lb] w fun e w' => e = .returned (.bool false) ∧ w' = w := by
 go_enter Tryz.func64, Tryz.ntmps64
 go_wp2_with (go_at_call 73; refine (idx_empty A c f lb _).mono ?_; rintro e w' ⟨rfl, rfl⟩)
 go_ret
 exact ⟨rfl, rfl⟩
def firstIx (l : List S41) (c : Int) : Int := Lib.idxBy (fun _ y => decide (y.f0 = c)) l default
theorem idx_calls (l0 : List S41) (A0 : Option Addr) (c0 g : Nat) (code : Int) (w : World) (hr : Kd.C k41 w A0 l0.length l0) (hl : l0.length ≤ 1000) (hg : w.cell? ⟨g, 0, none⟩ = some (.int .i64 code)) :
  Calls Tryz.prog 73 #[.slice A0 l0.length c0, .func (.func 74) #[] #[.pointer (some ⟨g, 0, none⟩)]] w fun e w' => e = .returned (.int .i64 (firstIx l0 code)) ∧ Below w.heap.size w w' := by
 by_cases hne : l0 = []
 ·subst hne
  refine (idx_empty A0 c0 74 _ w).mono ?_
  rintro e w' ⟨rfl, rfl⟩
  exact ⟨rfl, Below.refl _ _⟩
 ·obtain ⟨b, off, rfl, hb, hc⟩ := row41 hr hne
  have h := Tryz.slices_IndexFunc 6 agg41 size41 cells41 (fun _ => rfl) (fun y => decide (y.f0 = code)) 74 #[.pointer (some ⟨g, 0, none⟩)] (enters_of Tryz.func74 (by kernel_rfl) rfl) b off l0.length c0 l0 w
   (fun W x hB => (first1_calls x g code W (Ft.cell_stay hg hB)).mono fun e w' he => ⟨he.1, hB.trans (he.2.mono hB.size)⟩) (Nat.le_refl _) (by omega) hb hc
  rw [List.take_length] at h
  exact h
theorem hasRoot_calls (l0 : List S41) (A0 : Option Addr) (c0 g : Nat) (i : Int) (w : World) (hr : Kd.C k41 w A0 l0.length l0) (hl : l0.length ≤ 1000) (hg : w.cell? ⟨g, 0, none⟩ = some (.int .i64 i)) :
  Calls Tryz.prog 64 #[.slice A0 l0.length c0, .func (.func 65) #[] #[.pointer (some ⟨g, 0, none⟩)]] w fun e w' => e = .returned (.bool (l0.any fun y => decide (y.f4 = i))) ∧ Below w.heap.size w w' := by
 by_cases hne : l0 = []
 ·subst hne
  refine (has_empty A0 c0 65 _ w).mono ?_
  rintro e w' ⟨rfl, rfl⟩
  exact ⟨rfl, Below.refl _ _⟩
 ·obtain ⟨b, off, rfl, hb, hc⟩ := row41 hr hne
  have h := Tryz.slices_ContainsFunc 6 agg41 size41 cells41 (fun _ => rfl) (fun y => decide (y.f4 = i)) 65 #[.pointer (some ⟨g, 0, none⟩)] (enters_of Tryz.func65 (by kernel_rfl) rfl) b off l0.length c0 l0 w
   (fun W x hB => (root1_calls x g i W (Ft.cell_stay hg hB)).mono fun e w' he => ⟨he.1, hB.trans (he.2.mono hB.size)⟩) (Nat.le_refl _) (by omega) hb hc
  rw [List.take_length] at h
  exact h
def isRoot (l : List S41) (i : Nat) : Bool := !(l.any fun y => decide (y.f4 = (i : Int)))
def rootsUp (l : List S41) (i : Nat) : List Int := ((List.range i).filter (isRoot l)).map (fun j : Nat => (j : Int))
theorem rootsUp_succ (l : List S41) (i : Nat) : rootsUp l (i + 1) = if isRoot l i = true then rootsUp l i ++ [(i : Int)] else rootsUp l i := by
 unfold rootsUp
 rw [List.range_succ, List.filter_append, List.map_append]
 by_cases h : isRoot l i = true
 ·rw [if_pos h]; simp [h]
 ·rw [if_neg h]; simp [h]
theorem rootsUp_len (l : List S41) (i : Nat) : (rootsUp l i).length ≤ i := by
 unfold rootsUp
 rw [List.length_map]
 exact Nat.le_trans (List.length_filter_le _ _) (by simp)
def faults_Roots.f (k : Nat) (l0 : List S41) : Option (List Int × Int) := (faults_Check.f k 8000 l0).bind fun c => if c.2 = 0 then (if l0.length ≤ 1000 then some (rootsUp l0 l0.length, 0) else none) else some ([], c.2)
theorem box1_cell (w : World) (v : Value) (t : TypeId) : (w.alloc (.cells #[v] t)).cell? ⟨w.heap.size, 0, none⟩ = some v := by
 rw [World.cell?_alloc_at _ _ _ _ rfl]
 rfl
set_option maxHeartbeats 4000000 in
set_option maxRecDepth 100000 in
theorem faults_Roots.calls (k : Nat) (A0 : Option Addr) (c0 : Nat) (l0 : List S41) (r1 : List Int) (r2 : Int) (w : World) (hr0 : Kd.C k41 w A0 l0.length l0) (hc0 : l0.length ≤ c0) (h : faults_Roots.f k l0 = some (r1, r2)) (HT : Aside0 (Ft.All w)) :
  Calls Tryz.prog 31 #[.slice A0 l0.length c0] w fun e w' => ∃ v0_ : Value, e = .returned (.tuple #[v0_, .int .i64 r2]) ∧ Kd.R (Kd.int .i64) 3 w' w.heap.size (fun _ => True) v0_ r1 ∧ Below w.heap.size w w' := by
 unfold faults_Roots.f at h
 obtain ⟨⟨z1, z2⟩, hk, h⟩ := Option.bind_eq_some_iff.mp h
 have HK := ak hk
 have HR := ak hr0
 by_cases he : z2 = 0
 case neg =>
  rw [if_neg he] at h
  cases h
  have b1 : (z2 != 0) = true := bne_iff_ne.mpr he
  have b2 : (z2 == 0) = false := beq_eq_false_iff_ne.mpr he
  clear hk hr0
  go_enter Tryz.func31, Tryz.ntmps31
  go_wp2_with (first
   | (go_at_call 13; refine ( faults_Check.calls k 8000 A0 c0 l0 z1 z2 _ HR.out hc0 HK.out HT).mono ?_; rintro e w1 ⟨rfl, hb1⟩))
  go_ret2
  exact ⟨_, rfl, Kd.R_nil _ _ _ _ _, hb1⟩
 subst he
 rw [if_pos rfl] at h
 by_cases hl : l0.length ≤ 1000
 case neg => rw [if_neg hl] at h; cases h
 rw [if_pos hl] at h
 have e1 : r1 = rootsUp l0 l0.length := (congrArg Prod.fst (Option.some.inj h)).symm
 have e2 : r2 = 0 := (congrArg Prod.snd (Option.some.inj h)).symm
 subst e2
 have E1 := ak e1
 have HL := ak hl
 clear hk hr0 h e1 hl
 go_enter Tryz.func31, Tryz.ntmps31
 go_wp2_with (first
  | (go_at_call 13; refine ( faults_Check.calls k 8000 A0 c0 l0 z1 0 _ HR.out hc0 HK.out HT).mono ?_; rintro e w1 ⟨rfl, hb1⟩; have HB1 := ak hb1; clear hb1))
 go_loopg [6, 18] l0.length (fun gh v6 v18 wr => ∃ (i : Nat), v18 = .int .i64 (i : Int) ∧ i ≤ l0.length ∧ gh = l0.length - i ∧ Aside0 (Kd.R (Kd.int .i64) 3 wr w.heap.size (fun _ => True) v6 (rootsUp l0 i)) ∧ Aside0 (Below w.heap.size w wr))
 case atStart => exact ⟨0, rfl, Nat.zero_le _, rfl, ⟨Kd.R_nil _ _ _ _ _⟩, HB1⟩
 case round =>
  obtain ⟨i, rfl, hi, rfl, HO, HB⟩ := hrel
  clear HB1
  by_cases hil : i < l0.length
  ·have hii : ((i : Nat) : Int) < (l0.length : Int) := by omega
   have hw : IntKind.i64.wrap ((i : Int) + 1) = ((i + 1 : Nat) : Int) := by rw [IntKind.wrap_i64]; have := HL.out; omega
   have HC := ak (fun W (hB : Below w.heap.size w W) (hg : W.cell? ⟨wr.heap.size, 0, none⟩ = some (.int .i64 (i : Int))) => hasRoot_calls l0 A0 c0 wr.heap.size (i : Int) W (Kd.C_below HR.out hB) HL.out hg)
   obtain ⟨b, hb⟩ : ∃ b, (l0.any fun y => decide (y.f4 = (i : Int))) = b := ⟨_, rfl⟩
   have HN : Aside0 (rootsUp l0 (i + 1) = if b = true then rootsUp l0 i else rootsUp l0 i ++ [(i : Int)]) := ⟨by
    rw [rootsUp_succ]; unfold isRoot; rw [hb]; cases b <;> rfl⟩
   rw [hb] at HC
   clear hb
   have LM := ak (show (rootsUp l0 i).length < 1001 by have := rootsUp_len l0 i; have := HL.out; omega)
   cases b with
   | true =>
    rw [if_pos rfl] at HN
    go_wp2_with (first
     | (go_at_call 64; refine (HC.out _ (wA HB.out _) (box1_cell wr _ _)).mono ?_; rintro e w3 ⟨rfl, hb3⟩; have HO3 := ak (Kd.R_below (Kd.R_alloc HO.out _) hb3); have HB3 := ak ((wA HB.out _).trans (hb3.mono (wA HB.out _).size)); clear hb3))
    go_roundg (l0.length - (i + 1))
    case measure => omega
    case rel => exact ⟨i + 1, rfl, by omega, rfl, ⟨by rw [HN.out]; exact HO3.out⟩, HB3⟩
   | false =>
    rw [if_neg (by decide)] at HN
    go_wp2_with (first
     | ((with_reducible refine gate_builtin (b := .append) (xs := #[.tmp 25, .tmp 27]) rfl ?_); at_builtin; refine Kd.R_append (Kd.int .i64) (w0 := w) w.heap.size rfl (.tmp 25) (.tmp 27) 43 3 (.int .i64 0) 8 rfl Tryz.underlying43 info3_ rfl (by decide) (by omega) u6 (rootsUp l0 i) (i : Int) [.int .i64 (i : Int)] (fun _ => True) (fun _ => False) rfl rfl ?aP (fun _ hk => hk.elim) ?aF ?aO ?aB ?aS ?aL ?_; (case aP => exact rfl); (case aB => exact HB3.out); (case aF => exact (fun _ _ => trivial)); (case aO => exact HO3.out); (case aS => exact HB3.out.size); (case aL => have := LM.out; omega); intro v302 w9 ho hb hg hat; have HO9 := ak ho; have HB9 := ak hb; clear ho hb hg hat)
     | (go_at_call 64; refine (HC.out _ (wA HB.out _) (box1_cell wr _ _)).mono ?_; rintro e w3 ⟨rfl, hb3⟩; have HO3 := ak (Kd.R_below (Kd.R_alloc HO.out _) hb3); have HB3 := ak ((wA HB.out _).trans (hb3.mono (wA HB.out _).size)); have hi3 := Ft.cell_stay (box1_cell wr (.int .i64 (i : Int)) 3) hb3; clear hb3))
    go_roundg (l0.length - (i + 1))
    case measure => omega
    case rel => exact ⟨i + 1, rfl, by omega, rfl, ⟨by rw [HN.out]; exact HO9.out⟩, HB9⟩
  ·obtain rfl : i = l0.length := by omega
   have hii : ¬ ((l0.length : Nat) : Int) < (l0.length : Int) := by omega
   go_wp2
   go_ret2
   rw [E1.out]
   exact ⟨_, rfl, HO.out, HB.out⟩
end Go.Proofs.YtdjkdlbokepoaaaGreatDoor.P
namespace Go.Proofs.YtdjkdlbokepoaaaGreatDoor.P
open Go.RowKit YtdjkdlbokepoaaaGreatDoorW.PrintWords YtdjkdlbokepoaaaGreatDoorW.PrintLast YtdjkdlbokepoaaaGreatDoorW.PrintMore
attribute [local go_sem] max2_int min2_int max_two min_two max_three min_three max_four min_four
set_option linter.unusedVariables false
set_option linter.unusedSimpArgs false
theorem name_world {P : Program} {c : Code} {Q : Exit → Act → World → Prop} {a : Act} {w : World} (F : World → Prop) (h : F w) (k : ∀ W, F W → Code.wp P c Q a W) : Code.wp P c Q a w := k w h
theorem fit32 {n : Int} (h : -2147483648 ≤ n) (h' : n ≤ 2147483647) : IntKind.i32.wrap n = n := by rw [i32_w]; unfold wrap32; omega
set_option maxHeartbeats 8000000 in
set_option maxRecDepth 100000 in
theorem num1_lo (A0 : Option Addr) (c0 : Nat) (a : Int) (w : World) (hr0 : Kd.C (Kd.int .u8) w A0 1 [a]) (hc0 : 1 ≤ c0) (ha : 0 ≤ a ∧ a < 256) (p0 : a < 128) :
  Calls Tryz.prog 118 #[.slice A0 1 c0] w fun e w' => e = .returned (.int .i32 (a)) ∧ Below w.heap.size w w' := by
 have HB := ak (Below.refl w.heap.size w)
 obtain ⟨ad, e0, hx0⟩ := Kd.at_int hr0 0 (by decide) (by decide)
 subst e0
 have hx0 : w.cell? ad = some (.int .u8 a) := by have h := hx0; simpa [rd, Addr.add] using h
 have hw_a := fit32 (n := a) (by omega) (by omega)
 have q0 := decide_eq_true p0
 go_enter Tryz.func118, Tryz.ntmps118
 go_upto_region 3 with (first | ((with_reducible refine gate_dst (N := 4) rfl ?_); refine box_event ?hg (N := 4) ?hd (cs := #[.int .i32 0, .int .i32 0, .int .i32 0, .int .i32 0, .int .i32 0]) (t := 194) ?hr ?_; (case hd => rfl); (case hg => rfl); (case hr => first | (go_simp; done) | (go_simp; rfl)); intro gb hg w5 hbox hb; have n0_ := ak (below_step (by repeat (first | (with_reducible first | exact HB.out | apply wA | apply wN | apply wD) | exact HB.out)) hb); have n1_ := ak (hbox); have n3_ := ak ((by rw [hg]; exact (below_size (by repeat (first | (with_reducible first | exact HB.out | apply wA | apply wN | apply wD) | exact HB.out))) : w.heap.size ≤ gb)); clear HB; have HB := n0_; have BK := n1_; have GE := n3_; clear n0_ n1_ n3_; clear hb hbox hg; have hcz_0 : w5.cell? ⟨gb, 0, none⟩ = some (.int .i32 0) := (blk_cell BK.out 0).trans rfl; have hcz_1 : w5.cell? ⟨gb, 1, none⟩ = some (.int .i32 0) := (blk_cell BK.out 1).trans rfl; have hcz_2 : w5.cell? ⟨gb, 2, none⟩ = some (.int .i32 0) := (blk_cell BK.out 2).trans rfl; have hcz_3 : w5.cell? ⟨gb, 3, none⟩ = some (.int .i32 0) := (blk_cell BK.out 3).trans rfl; have hcz_4 : w5.cell? ⟨gb, 4, none⟩ = some (.int .i32 0) := (blk_cell BK.out 4).trans rfl; have hfz_0 := blk_frozen BK.out 0; have hfz_1 := blk_frozen BK.out 1; have hfz_2 := blk_frozen BK.out 2; have hfz_3 := blk_frozen BK.out 3; have hfz_4 := blk_frozen BK.out 4))
 refine name_world (fun W => W.heap[gb]? = some (.cells #[.int .i32 0, .int .i32 0, .int .i32 192, .int .i32 224, .int .i32 240] 194 (0, 0)) ∧ Below w.heap.size w W) ⟨?bk, ?be⟩ (fun W ⟨BKW, HBW⟩ => ?_)
 case bk => (with_reducible repeat (first | refine bN ?_ _ | refine bD ?_ | refine bA ?_ _)); refine blk_put (cs := #[.int .i32 0, .int .i32 0, .int .i32 192, .int .i32 224, .int .i32 0]) ?_ 4 _ rfl; (with_reducible repeat (first | refine bN ?_ _ | refine bD ?_ | refine bA ?_ _)); refine blk_put (cs := #[.int .i32 0, .int .i32 0, .int .i32 192, .int .i32 0, .int .i32 0]) ?_ 3 _ rfl; (with_reducible repeat (first | refine bN ?_ _ | refine bD ?_ | refine bA ?_ _)); refine blk_put (cs := #[.int .i32 0, .int .i32 0, .int .i32 0, .int .i32 0, .int .i32 0]) ?_ 2 _ rfl; (with_reducible repeat (first | refine bN ?_ _ | refine bD ?_ | refine bA ?_ _)); refine blk_put (cs := #[.int .i32 0, .int .i32 0, .int .i32 0, .int .i32 0, .int .i32 0]) ?_ 1 _ rfl; (with_reducible repeat (first | refine bN ?_ _ | refine bD ?_ | refine bA ?_ _)); refine blk_put (cs := #[.int .i32 0, .int .i32 0, .int .i32 0, .int .i32 0, .int .i32 0]) ?_ 0 _ rfl; (with_reducible repeat (first | refine bN ?_ _ | refine bD ?_ | refine bA ?_ _)); exact BK.out
 case be => repeat (first | (with_reducible first | exact HB.out | apply wA | apply wN | apply wD | refine below_set ?_ GE.out) | exact HB.out)
 have hk2 : W.cell? ⟨gb, 2, none⟩ = some (.int .i32 192) := (blk_cell BKW 2).trans rfl
 have hk3 : W.cell? ⟨gb, 3, none⟩ = some (.int .i32 224) := (blk_cell BKW 3).trans rfl
 have hk4 : W.cell? ⟨gb, 4, none⟩ = some (.int .i32 240) := (blk_cell BKW 4).trans rfl
 have hxW0 := (HBW.cell (World.block_lt_of_cell? w _ hx0)).trans hx0
 clear HB BK
 go_wp2
 refine wp_loop_rounds 4 ?_
 rw [rounds_succ]
 go_wp2
 rw [rounds_succ]
 go_wp2
 rw [rounds_succ]
 go_wp2
 rw [rounds_succ]
 go_wp2
 go_ret
 exact ⟨by first | rfl | (simp [*] <;> rfl), HBW⟩
set_option maxHeartbeats 8000000 in
set_option maxRecDepth 100000 in
theorem num1_hi (A0 : Option Addr) (c0 : Nat) (a : Int) (w : World) (hr0 : Kd.C (Kd.int .u8) w A0 1 [a]) (hc0 : 1 ≤ c0) (ha : 0 ≤ a ∧ a < 256) (p0 : ¬ a < 128) :
  Calls Tryz.prog 118 #[.slice A0 1 c0] w fun e w' => e = .returned (.int .i32 (-1)) ∧ Below w.heap.size w w' := by
 have HB := ak (Below.refl w.heap.size w)
 obtain ⟨ad, e0, hx0⟩ := Kd.at_int hr0 0 (by decide) (by decide)
 subst e0
 have hx0 : w.cell? ad = some (.int .u8 a) := by have h := hx0; simpa [rd, Addr.add] using h
 have hw_a := fit32 (n := a) (by omega) (by omega)
 have q0 := decide_eq_false p0
 go_enter Tryz.func118, Tryz.ntmps118
 go_upto_region 3 with (first | ((with_reducible refine gate_dst (N := 4) rfl ?_); refine box_event ?hg (N := 4) ?hd (cs := #[.int .i32 0, .int .i32 0, .int .i32 0, .int .i32 0, .int .i32 0]) (t := 194) ?hr ?_; (case hd => rfl); (case hg => rfl); (case hr => first | (go_simp; done) | (go_simp; rfl)); intro gb hg w5 hbox hb; have n0_ := ak (below_step (by repeat (first | (with_reducible first | exact HB.out | apply wA | apply wN | apply wD) | exact HB.out)) hb); have n1_ := ak (hbox); have n3_ := ak ((by rw [hg]; exact (below_size (by repeat (first | (with_reducible first | exact HB.out | apply wA | apply wN | apply wD) | exact HB.out))) : w.heap.size ≤ gb)); clear HB; have HB := n0_; have BK := n1_; have GE := n3_; clear n0_ n1_ n3_; clear hb hbox hg; have hcz_0 : w5.cell? ⟨gb, 0, none⟩ = some (.int .i32 0) := (blk_cell BK.out 0).trans rfl; have hcz_1 : w5.cell? ⟨gb, 1, none⟩ = some (.int .i32 0) := (blk_cell BK.out 1).trans rfl; have hcz_2 : w5.cell? ⟨gb, 2, none⟩ = some (.int .i32 0) := (blk_cell BK.out 2).trans rfl; have hcz_3 : w5.cell? ⟨gb, 3, none⟩ = some (.int .i32 0) := (blk_cell BK.out 3).trans rfl; have hcz_4 : w5.cell? ⟨gb, 4, none⟩ = some (.int .i32 0) := (blk_cell BK.out 4).trans rfl; have hfz_0 := blk_frozen BK.out 0; have hfz_1 := blk_frozen BK.out 1; have hfz_2 := blk_frozen BK.out 2; have hfz_3 := blk_frozen BK.out 3; have hfz_4 := blk_frozen BK.out 4))
 refine name_world (fun W => W.heap[gb]? = some (.cells #[.int .i32 0, .int .i32 0, .int .i32 192, .int .i32 224, .int .i32 240] 194 (0, 0)) ∧ Below w.heap.size w W) ⟨?bk, ?be⟩ (fun W ⟨BKW, HBW⟩ => ?_)
 case bk => (with_reducible repeat (first | refine bN ?_ _ | refine bD ?_ | refine bA ?_ _)); refine blk_put (cs := #[.int .i32 0, .int .i32 0, .int .i32 192, .int .i32 224, .int .i32 0]) ?_ 4 _ rfl; (with_reducible repeat (first | refine bN ?_ _ | refine bD ?_ | refine bA ?_ _)); refine blk_put (cs := #[.int .i32 0, .int .i32 0, .int .i32 192, .int .i32 0, .int .i32 0]) ?_ 3 _ rfl; (with_reducible repeat (first | refine bN ?_ _ | refine bD ?_ | refine bA ?_ _)); refine blk_put (cs := #[.int .i32 0, .int .i32 0, .int .i32 0, .int .i32 0, .int .i32 0]) ?_ 2 _ rfl; (with_reducible repeat (first | refine bN ?_ _ | refine bD ?_ | refine bA ?_ _)); refine blk_put (cs := #[.int .i32 0, .int .i32 0, .int .i32 0, .int .i32 0, .int .i32 0]) ?_ 1 _ rfl; (with_reducible repeat (first | refine bN ?_ _ | refine bD ?_ | refine bA ?_ _)); refine blk_put (cs := #[.int .i32 0, .int .i32 0, .int .i32 0, .int .i32 0, .int .i32 0]) ?_ 0 _ rfl; (with_reducible repeat (first | refine bN ?_ _ | refine bD ?_ | refine bA ?_ _)); exact BK.out
 case be => repeat (first | (with_reducible first | exact HB.out | apply wA | apply wN | apply wD | refine below_set ?_ GE.out) | exact HB.out)
 have hk2 : W.cell? ⟨gb, 2, none⟩ = some (.int .i32 192) := (blk_cell BKW 2).trans rfl
 have hk3 : W.cell? ⟨gb, 3, none⟩ = some (.int .i32 224) := (blk_cell BKW 3).trans rfl
 have hk4 : W.cell? ⟨gb, 4, none⟩ = some (.int .i32 240) := (blk_cell BKW 4).trans rfl
 have hxW0 := (HBW.cell (World.block_lt_of_cell? w _ hx0)).trans hx0
 clear HB BK
 go_wp2
 refine wp_loop_rounds 4 ?_
 rw [rounds_succ]
 go_wp2
 rw [rounds_succ]
 go_wp2
 rw [rounds_succ]
 go_wp2
 rw [rounds_succ]
 go_wp2
 go_ret
 exact ⟨by first | rfl | (simp [*] <;> rfl), HBW⟩
set_option maxHeartbeats 8000000 in
set_option maxRecDepth 100000 in
theorem num2_below (A0 : Option Addr) (c0 : Nat) (a b : Int) (w : World) (hr0 : Kd.C (Kd.int .u8) w A0 2 [a, b]) (hc0 : 2 ≤ c0) (ha : 0 ≤ a ∧ a < 256) (hb : 0 ≤ b ∧ b < 256) (p0 : a < 192) :
  Calls Tryz.prog 118 #[.slice A0 2 c0] w fun e w' => e = .returned (.int .i32 (-1)) ∧ Below w.heap.size w w' := by
 have HB := ak (Below.refl w.heap.size w)
 obtain ⟨ad, e0, hx0⟩ := Kd.at_int hr0 0 (by decide) (by decide)
 subst e0
 have hx0 : w.cell? ad = some (.int .u8 a) := by have h := hx0; simpa [rd, Addr.add] using h
 obtain ⟨ad1, e1, hx1⟩ := Kd.at_int hr0 1 (by decide) (by decide)
 obtain rfl := Option.some.inj e1
 have hx1 : w.cell? ⟨ad.block, ad.off + 1, none⟩ = some (.int .u8 b) := by have h := hx1; simpa [rd, Addr.add] using h
 have hw_a := fit32 (n := a) (by omega) (by omega)
 have hw_b := fit32 (n := b) (by omega) (by omega)
 have q0 := decide_eq_true p0
 have z0 := fit32 (n := a - 192) (by omega) (by omega)
 go_enter Tryz.func118, Tryz.ntmps118
 go_upto_region 3 with (first | ((with_reducible refine gate_dst (N := 4) rfl ?_); refine box_event ?hg (N := 4) ?hd (cs := #[.int .i32 0, .int .i32 0, .int .i32 0, .int .i32 0, .int .i32 0]) (t := 194) ?hr ?_; (case hd => rfl); (case hg => rfl); (case hr => first | (go_simp; done) | (go_simp; rfl)); intro gb hg w5 hbox hb; have n0_ := ak (below_step (by repeat (first | (with_reducible first | exact HB.out | apply wA | apply wN | apply wD) | exact HB.out)) hb); have n1_ := ak (hbox); have n3_ := ak ((by rw [hg]; exact (below_size (by repeat (first | (with_reducible first | exact HB.out | apply wA | apply wN | apply wD) | exact HB.out))) : w.heap.size ≤ gb)); clear HB; have HB := n0_; have BK := n1_; have GE := n3_; clear n0_ n1_ n3_; clear hb hbox hg; have hcz_0 : w5.cell? ⟨gb, 0, none⟩ = some (.int .i32 0) := (blk_cell BK.out 0).trans rfl; have hcz_1 : w5.cell? ⟨gb, 1, none⟩ = some (.int .i32 0) := (blk_cell BK.out 1).trans rfl; have hcz_2 : w5.cell? ⟨gb, 2, none⟩ = some (.int .i32 0) := (blk_cell BK.out 2).trans rfl; have hcz_3 : w5.cell? ⟨gb, 3, none⟩ = some (.int .i32 0) := (blk_cell BK.out 3).trans rfl; have hcz_4 : w5.cell? ⟨gb, 4, none⟩ = some (.int .i32 0) := (blk_cell BK.out 4).trans rfl; have hfz_0 := blk_frozen BK.out 0; have hfz_1 := blk_frozen BK.out 1; have hfz_2 := blk_frozen BK.out 2; have hfz_3 := blk_frozen BK.out 3; have hfz_4 := blk_frozen BK.out 4))
 refine name_world (fun W => W.heap[gb]? = some (.cells #[.int .i32 0, .int .i32 0, .int .i32 192, .int .i32 224, .int .i32 240] 194 (0, 0)) ∧ Below w.heap.size w W) ⟨?bk, ?be⟩ (fun W ⟨BKW, HBW⟩ => ?_)
 case bk => (with_reducible repeat (first | refine bN ?_ _ | refine bD ?_ | refine bA ?_ _)); refine blk_put (cs := #[.int .i32 0, .int .i32 0, .int .i32 192, .int .i32 224, .int .i32 0]) ?_ 4 _ rfl; (with_reducible repeat (first | refine bN ?_ _ | refine bD ?_ | refine bA ?_ _)); refine blk_put (cs := #[.int .i32 0, .int .i32 0, .int .i32 192, .int .i32 0, .int .i32 0]) ?_ 3 _ rfl; (with_reducible repeat (first | refine bN ?_ _ | refine bD ?_ | refine bA ?_ _)); refine blk_put (cs := #[.int .i32 0, .int .i32 0, .int .i32 0, .int .i32 0, .int .i32 0]) ?_ 2 _ rfl; (with_reducible repeat (first | refine bN ?_ _ | refine bD ?_ | refine bA ?_ _)); refine blk_put (cs := #[.int .i32 0, .int .i32 0, .int .i32 0, .int .i32 0, .int .i32 0]) ?_ 1 _ rfl; (with_reducible repeat (first | refine bN ?_ _ | refine bD ?_ | refine bA ?_ _)); refine blk_put (cs := #[.int .i32 0, .int .i32 0, .int .i32 0, .int .i32 0, .int .i32 0]) ?_ 0 _ rfl; (with_reducible repeat (first | refine bN ?_ _ | refine bD ?_ | refine bA ?_ _)); exact BK.out
 case be => repeat (first | (with_reducible first | exact HB.out | apply wA | apply wN | apply wD | refine below_set ?_ GE.out) | exact HB.out)
 have hk2 : W.cell? ⟨gb, 2, none⟩ = some (.int .i32 192) := (blk_cell BKW 2).trans rfl
 have hk3 : W.cell? ⟨gb, 3, none⟩ = some (.int .i32 224) := (blk_cell BKW 3).trans rfl
 have hk4 : W.cell? ⟨gb, 4, none⟩ = some (.int .i32 240) := (blk_cell BKW 4).trans rfl
 have hxW0 := (HBW.cell (World.block_lt_of_cell? w _ hx0)).trans hx0
 have hxW1 := (HBW.cell (World.block_lt_of_cell? w _ hx1)).trans hx1
 clear HB BK
 go_wp2
 refine wp_loop_rounds 4 ?_
 rw [rounds_succ]
 go_wp2
 rw [rounds_succ]
 go_wp2
 rw [rounds_succ]
 go_wp2
 rw [rounds_succ]
 go_wp2
 go_ret
 exact ⟨by first | rfl | (simp [*] <;> rfl), HBW⟩
set_option maxHeartbeats 8000000 in
set_option maxRecDepth 100000 in
theorem num2_above (A0 : Option Addr) (c0 : Nat) (a b : Int) (w : World) (hr0 : Kd.C (Kd.int .u8) w A0 2 [a, b]) (hc0 : 2 ≤ c0) (ha : 0 ≤ a ∧ a < 256) (hb : 0 ≤ b ∧ b < 256) (p0 : ¬ a < 192) (p1 : 224 ≤ a) :
  Calls Tryz.prog 118 #[.slice A0 2 c0] w fun e w' => e = .returned (.int .i32 (-1)) ∧ Below w.heap.size w w' := by
 have HB := ak (Below.refl w.heap.size w)
 obtain ⟨ad, e0, hx0⟩ := Kd.at_int hr0 0 (by decide) (by decide)
 subst e0
 have hx0 : w.cell? ad = some (.int .u8 a) := by have h := hx0; simpa [rd, Addr.add] using h
 obtain ⟨ad1, e1, hx1⟩ := Kd.at_int hr0 1 (by decide) (by decide)
 obtain rfl := Option.some.inj e1
 have hx1 : w.cell? ⟨ad.block, ad.off + 1, none⟩ = some (.int .u8 b) := by have h := hx1; simpa [rd, Addr.add] using h
 have hw_a := fit32 (n := a) (by omega) (by omega)
 have hw_b := fit32 (n := b) (by omega) (by omega)
 have q0 := decide_eq_false p0
 have q1 := decide_eq_true p1
 have z0 := fit32 (n := a - 192) (by omega) (by omega)
 go_enter Tryz.func118, Tryz.ntmps118
 go_upto_region 3 with (first | ((with_reducible refine gate_dst (N := 4) rfl ?_); refine box_event ?hg (N := 4) ?hd (cs := #[.int .i32 0, .int .i32 0, .int .i32 0, .int .i32 0, .int .i32 0]) (t := 194) ?hr ?_; (case hd => rfl); (case hg => rfl); (case hr => first | (go_simp; done) | (go_simp; rfl)); intro gb hg w5 hbox hb; have n0_ := ak (below_step (by repeat (first | (with_reducible first | exact HB.out | apply wA | apply wN | apply wD) | exact HB.out)) hb); have n1_ := ak (hbox); have n3_ := ak ((by rw [hg]; exact (below_size (by repeat (first | (with_reducible first | exact HB.out | apply wA | apply wN | apply wD) | exact HB.out))) : w.heap.size ≤ gb)); clear HB; have HB := n0_; have BK := n1_; have GE := n3_; clear n0_ n1_ n3_; clear hb hbox hg; have hcz_0 : w5.cell? ⟨gb, 0, none⟩ = some (.int .i32 0) := (blk_cell BK.out 0).trans rfl; have hcz_1 : w5.cell? ⟨gb, 1, none⟩ = some (.int .i32 0) := (blk_cell BK.out 1).trans rfl; have hcz_2 : w5.cell? ⟨gb, 2, none⟩ = some (.int .i32 0) := (blk_cell BK.out 2).trans rfl; have hcz_3 : w5.cell? ⟨gb, 3, none⟩ = some (.int .i32 0) := (blk_cell BK.out 3).trans rfl; have hcz_4 : w5.cell? ⟨gb, 4, none⟩ = some (.int .i32 0) := (blk_cell BK.out 4).trans rfl; have hfz_0 := blk_frozen BK.out 0; have hfz_1 := blk_frozen BK.out 1; have hfz_2 := blk_frozen BK.out 2; have hfz_3 := blk_frozen BK.out 3; have hfz_4 := blk_frozen BK.out 4))
 refine name_world (fun W => W.heap[gb]? = some (.cells #[.int .i32 0, .int .i32 0, .int .i32 192, .int .i32 224, .int .i32 240] 194 (0, 0)) ∧ Below w.heap.size w W) ⟨?bk, ?be⟩ (fun W ⟨BKW, HBW⟩ => ?_)
 case bk => (with_reducible repeat (first | refine bN ?_ _ | refine bD ?_ | refine bA ?_ _)); refine blk_put (cs := #[.int .i32 0, .int .i32 0, .int .i32 192, .int .i32 224, .int .i32 0]) ?_ 4 _ rfl; (with_reducible repeat (first | refine bN ?_ _ | refine bD ?_ | refine bA ?_ _)); refine blk_put (cs := #[.int .i32 0, .int .i32 0, .int .i32 192, .int .i32 0, .int .i32 0]) ?_ 3 _ rfl; (with_reducible repeat (first | refine bN ?_ _ | refine bD ?_ | refine bA ?_ _)); refine blk_put (cs := #[.int .i32 0, .int .i32 0, .int .i32 0, .int .i32 0, .int .i32 0]) ?_ 2 _ rfl; (with_reducible repeat (first | refine bN ?_ _ | refine bD ?_ | refine bA ?_ _)); refine blk_put (cs := #[.int .i32 0, .int .i32 0, .int .i32 0, .int .i32 0, .int .i32 0]) ?_ 1 _ rfl; (with_reducible repeat (first | refine bN ?_ _ | refine bD ?_ | refine bA ?_ _)); refine blk_put (cs := #[.int .i32 0, .int .i32 0, .int .i32 0, .int .i32 0, .int .i32 0]) ?_ 0 _ rfl; (with_reducible repeat (first | refine bN ?_ _ | refine bD ?_ | refine bA ?_ _)); exact BK.out
 case be => repeat (first | (with_reducible first | exact HB.out | apply wA | apply wN | apply wD | refine below_set ?_ GE.out) | exact HB.out)
 have hk2 : W.cell? ⟨gb, 2, none⟩ = some (.int .i32 192) := (blk_cell BKW 2).trans rfl
 have hk3 : W.cell? ⟨gb, 3, none⟩ = some (.int .i32 224) := (blk_cell BKW 3).trans rfl
 have hk4 : W.cell? ⟨gb, 4, none⟩ = some (.int .i32 240) := (blk_cell BKW 4).trans rfl
 have hxW0 := (HBW.cell (World.block_lt_of_cell? w _ hx0)).trans hx0
 have hxW1 := (HBW.cell (World.block_lt_of_cell? w _ hx1)).trans hx1
 clear HB BK
 go_wp2
 refine wp_loop_rounds 4 ?_
 rw [rounds_succ]
 go_wp2
 rw [rounds_succ]
 go_wp2
 rw [rounds_succ]
 go_wp2
 rw [rounds_succ]
 go_wp2
 go_ret
 exact ⟨by first | rfl | (simp [*] <;> rfl), HBW⟩
set_option maxHeartbeats 8000000 in
set_option maxRecDepth 100000 in
theorem num2_lo1 (A0 : Option Addr) (c0 : Nat) (a b : Int) (w : World) (hr0 : Kd.C (Kd.int .u8) w A0 2 [a, b]) (hc0 : 2 ≤ c0) (ha : 0 ≤ a ∧ a < 256) (hb : 0 ≤ b ∧ b < 256) (p0 : ¬ a < 192) (p1 : ¬ 224 ≤ a) (p2 : b < 128) :
  Calls Tryz.prog 118 #[.slice A0 2 c0] w fun e w' => e = .returned (.int .i32 (-1)) ∧ Below w.heap.size w w' := by
 have HB := ak (Below.refl w.heap.size w)
 obtain ⟨ad, e0, hx0⟩ := Kd.at_int hr0 0 (by decide) (by decide)
 subst e0
 have hx0 : w.cell? ad = some (.int .u8 a) := by have h := hx0; simpa [rd, Addr.add] using h
 obtain ⟨ad1, e1, hx1⟩ := Kd.at_int hr0 1 (by decide) (by decide)
 obtain rfl := Option.some.inj e1
 have hx1 : w.cell? ⟨ad.block, ad.off + 1, none⟩ = some (.int .u8 b) := by have h := hx1; simpa [rd, Addr.add] using h
 have hw_a := fit32 (n := a) (by omega) (by omega)
 have hw_b := fit32 (n := b) (by omega) (by omega)
 have q0 := decide_eq_false p0
 have q1 := decide_eq_false p1
 have q2 := decide_eq_true p2
 have z0 := fit32 (n := a - 192) (by omega) (by omega)
 go_enter Tryz.func118, Tryz.ntmps118
 go_upto_region 3 with (first | ((with_reducible refine gate_dst (N := 4) rfl ?_); refine box_event ?hg (N := 4) ?hd (cs := #[.int .i32 0, .int .i32 0, .int .i32 0, .int .i32 0, .int .i32 0]) (t := 194) ?hr ?_; (case hd => rfl); (case hg => rfl); (case hr => first | (go_simp; done) | (go_simp; rfl)); intro gb hg w5 hbox hb; have n0_ := ak (below_step (by repeat (first | (with_reducible first | exact HB.out | apply wA | apply wN | apply wD) | exact HB.out)) hb); have n1_ := ak (hbox); have n3_ := ak ((by rw [hg]; exact (below_size (by repeat (first | (with_reducible first | exact HB.out | apply wA | apply wN | apply wD) | exact HB.out))) : w.heap.size ≤ gb)); clear HB; have HB := n0_; have BK := n1_; have GE := n3_; clear n0_ n1_ n3_; clear hb hbox hg; have hcz_0 : w5.cell? ⟨gb, 0, none⟩ = some (.int .i32 0) := (blk_cell BK.out 0).trans rfl; have hcz_1 : w5.cell? ⟨gb, 1, none⟩ = some (.int .i32 0) := (blk_cell BK.out 1).trans rfl; have hcz_2 : w5.cell? ⟨gb, 2, none⟩ = some (.int .i32 0) := (blk_cell BK.out 2).trans rfl; have hcz_3 : w5.cell? ⟨gb, 3, none⟩ = some (.int .i32 0) := (blk_cell BK.out 3).trans rfl; have hcz_4 : w5.cell? ⟨gb, 4, none⟩ = some (.int .i32 0) := (blk_cell BK.out 4).trans rfl; have hfz_0 := blk_frozen BK.out 0; have hfz_1 := blk_frozen BK.out 1; have hfz_2 := blk_frozen BK.out 2; have hfz_3 := blk_frozen BK.out 3; have hfz_4 := blk_frozen BK.out 4))
 refine name_world (fun W => W.heap[gb]? = some (.cells #[.int .i32 0, .int .i32 0, .int .i32 192, .int .i32 224, .int .i32 240] 194 (0, 0)) ∧ Below w.heap.size w W) ⟨?bk, ?be⟩ (fun W ⟨BKW, HBW⟩ => ?_)
 case bk => (with_reducible repeat (first | refine bN ?_ _ | refine bD ?_ | refine bA ?_ _)); refine blk_put (cs := #[.int .i32 0, .int .i32 0, .int .i32 192, .int .i32 224, .int .i32 0]) ?_ 4 _ rfl; (with_reducible repeat (first | refine bN ?_ _ | refine bD ?_ | refine bA ?_ _)); refine blk_put (cs := #[.int .i32 0, .int .i32 0, .int .i32 192, .int .i32 0, .int .i32 0]) ?_ 3 _ rfl; (with_reducible repeat (first | refine bN ?_ _ | refine bD ?_ | refine bA ?_ _)); refine blk_put (cs := #[.int .i32 0, .int .i32 0, .int .i32 0, .int .i32 0, .int .i32 0]) ?_ 2 _ rfl; (with_reducible repeat (first | refine bN ?_ _ | refine bD ?_ | refine bA ?_ _)); refine blk_put (cs := #[.int .i32 0, .int .i32 0, .int .i32 0, .int .i32 0, .int .i32 0]) ?_ 1 _ rfl; (with_reducible repeat (first | refine bN ?_ _ | refine bD ?_ | refine bA ?_ _)); refine blk_put (cs := #[.int .i32 0, .int .i32 0, .int .i32 0, .int .i32 0, .int .i32 0]) ?_ 0 _ rfl; (with_reducible repeat (first | refine bN ?_ _ | refine bD ?_ | refine bA ?_ _)); exact BK.out
 case be => repeat (first | (with_reducible first | exact HB.out | apply wA | apply wN | apply wD | refine below_set ?_ GE.out) | exact HB.out)
 have hk2 : W.cell? ⟨gb, 2, none⟩ = some (.int .i32 192) := (blk_cell BKW 2).trans rfl
 have hk3 : W.cell? ⟨gb, 3, none⟩ = some (.int .i32 224) := (blk_cell BKW 3).trans rfl
 have hk4 : W.cell? ⟨gb, 4, none⟩ = some (.int .i32 240) := (blk_cell BKW 4).trans rfl
 have hxW0 := (HBW.cell (World.block_lt_of_cell? w _ hx0)).trans hx0
 have hxW1 := (HBW.cell (World.block_lt_of_cell? w _ hx1)).trans hx1
 clear HB BK
 go_wp2
 refine wp_loop_rounds 4 ?_
 rw [rounds_succ]
 go_wp2
 refine wp_loop_rounds 4 ?_
 rw [rounds_succ]
 go_wp2
 go_ret
 exact ⟨by first | rfl | (simp [*] <;> rfl), HBW⟩
set_option maxHeartbeats 8000000 in
set_option maxRecDepth 100000 in
theorem num2_hi1 (A0 : Option Addr) (c0 : Nat) (a b : Int) (w : World) (hr0 : Kd.C (Kd.int .u8) w A0 2 [a, b]) (hc0 : 2 ≤ c0) (ha : 0 ≤ a ∧ a < 256) (hb : 0 ≤ b ∧ b < 256) (p0 : ¬ a < 192) (p1 : ¬ 224 ≤ a) (p2 : ¬ b < 128) (p3 : 192 ≤ b) :
  Calls Tryz.prog 118 #[.slice A0 2 c0] w fun e w' => e = .returned (.int .i32 (-1)) ∧ Below w.heap.size w w' := by
 have HB := ak (Below.refl w.heap.size w)
 obtain ⟨ad, e0, hx0⟩ := Kd.at_int hr0 0 (by decide) (by decide)
 subst e0
 have hx0 : w.cell? ad = some (.int .u8 a) := by have h := hx0; simpa [rd, Addr.add] using h
 obtain ⟨ad1, e1, hx1⟩ := Kd.at_int hr0 1 (by decide) (by decide)
 obtain rfl := Option.some.inj e1
 have hx1 : w.cell? ⟨ad.block, ad.off + 1, none⟩ = some (.int .u8 b) := by have h := hx1; simpa [rd, Addr.add] using h
 have hw_a := fit32 (n := a) (by omega) (by omega)
 have hw_b := fit32 (n := b) (by omega) (by omega)
 have q0 := decide_eq_false p0
 have q1 := decide_eq_false p1
 have q2 := decide_eq_false p2
 have q3 := decide_eq_true p3
 have z0 := fit32 (n := a - 192) (by omega) (by omega)
 go_enter Tryz.func118, Tryz.ntmps118
 go_upto_region 3 with (first | ((with_reducible refine gate_dst (N := 4) rfl ?_); refine box_event ?hg (N := 4) ?hd (cs := #[.int .i32 0, .int .i32 0, .int .i32 0, .int .i32 0, .int .i32 0]) (t := 194) ?hr ?_; (case hd => rfl); (case hg => rfl); (case hr => first | (go_simp; done) | (go_simp; rfl)); intro gb hg w5 hbox hb; have n0_ := ak (below_step (by repeat (first | (with_reducible first | exact HB.out | apply wA | apply wN | apply wD) | exact HB.out)) hb); have n1_ := ak (hbox); have n3_ := ak ((by rw [hg]; exact (below_size (by repeat (first | (with_reducible first | exact HB.out | apply wA | apply wN | apply wD) | exact HB.out))) : w.heap.size ≤ gb)); clear HB; have HB := n0_; have BK := n1_; have GE := n3_; clear n0_ n1_ n3_; clear hb hbox hg; have hcz_0 : w5.cell? ⟨gb, 0, none⟩ = some (.int .i32 0) := (blk_cell BK.out 0).trans rfl; have hcz_1 : w5.cell? ⟨gb, 1, none⟩ = some (.int .i32 0) := (blk_cell BK.out 1).trans rfl; have hcz_2 : w5.cell? ⟨gb, 2, none⟩ = some (.int .i32 0) := (blk_cell BK.out 2).trans rfl; have hcz_3 : w5.cell? ⟨gb, 3, none⟩ = some (.int .i32 0) := (blk_cell BK.out 3).trans rfl; have hcz_4 : w5.cell? ⟨gb, 4, none⟩ = some (.int .i32 0) := (blk_cell BK.out 4).trans rfl; have hfz_0 := blk_frozen BK.out 0; have hfz_1 := blk_frozen BK.out 1; have hfz_2 := blk_frozen BK.out 2; have hfz_3 := blk_frozen BK.out 3; have hfz_4 := blk_frozen BK.out 4))
 refine name_world (fun W => W.heap[gb]? = some (.cells #[.int .i32 0, .int .i32 0, .int .i32 192, .int .i32 224, .int .i32 240] 194 (0, 0)) ∧ Below w.heap.size w W) ⟨?bk, ?be⟩ (fun W ⟨BKW, HBW⟩ => ?_)
 case bk => (with_reducible repeat (first | refine bN ?_ _ | refine bD ?_ | refine bA ?_ _)); refine blk_put (cs := #[.int .i32 0, .int .i32 0, .int .i32 192, .int .i32 224, .int .i32 0]) ?_ 4 _ rfl; (with_reducible repeat (first | refine bN ?_ _ | refine bD ?_ | refine bA ?_ _)); refine blk_put (cs := #[.int .i32 0, .int .i32 0, .int .i32 192, .int .i32 0, .int .i32 0]) ?_ 3 _ rfl; (with_reducible repeat (first | refine bN ?_ _ | refine bD ?_ | refine bA ?_ _)); refine blk_put (cs := #[.int .i32 0, .int .i32 0, .int .i32 0, .int .i32 0, .int .i32 0]) ?_ 2 _ rfl; (with_reducible repeat (first | refine bN ?_ _ | refine bD ?_ | refine bA ?_ _)); refine blk_put (cs := #[.int .i32 0, .int .i32 0, .int .i32 0, .int .i32 0, .int .i32 0]) ?_ 1 _ rfl; (with_reducible repeat (first | refine bN ?_ _ | refine bD ?_ | refine bA ?_ _)); refine blk_put (cs := #[.int .i32 0, .int .i32 0, .int .i32 0, .int .i32 0, .int .i32 0]) ?_ 0 _ rfl; (with_reducible repeat (first | refine bN ?_ _ | refine bD ?_ | refine bA ?_ _)); exact BK.out
 case be => repeat (first | (with_reducible first | exact HB.out | apply wA | apply wN | apply wD | refine below_set ?_ GE.out) | exact HB.out)
 have hk2 : W.cell? ⟨gb, 2, none⟩ = some (.int .i32 192) := (blk_cell BKW 2).trans rfl
 have hk3 : W.cell? ⟨gb, 3, none⟩ = some (.int .i32 224) := (blk_cell BKW 3).trans rfl
 have hk4 : W.cell? ⟨gb, 4, none⟩ = some (.int .i32 240) := (blk_cell BKW 4).trans rfl
 have hxW0 := (HBW.cell (World.block_lt_of_cell? w _ hx0)).trans hx0
 have hxW1 := (HBW.cell (World.block_lt_of_cell? w _ hx1)).trans hx1
 clear HB BK
 go_wp2
 refine wp_loop_rounds 4 ?_
 rw [rounds_succ]
 go_wp2
 refine wp_loop_rounds 4 ?_
 rw [rounds_succ]
 go_wp2
 go_ret
 exact ⟨by first | rfl | (simp [*] <;> rfl), HBW⟩
set_option maxHeartbeats 8000000 in
set_option maxRecDepth 100000 in
theorem num2_all (A0 : Option Addr) (c0 : Nat) (a b : Int) (w : World) (hr0 : Kd.C (Kd.int .u8) w A0 2 [a, b]) (hc0 : 2 ≤ c0) (ha : 0 ≤ a ∧ a < 256) (hb : 0 ≤ b ∧ b < 256) (p0 : ¬ a < 192) (p1 : ¬ 224 ≤ a) (p2 : ¬ b < 128) (p3 : ¬ 192 ≤ b) :
  Calls Tryz.prog 118 #[.slice A0 2 c0] w fun e w' => e = .returned (.int .i32 ((64 * (a - 192) + b - 128))) ∧ Below w.heap.size w w' := by
 have HB := ak (Below.refl w.heap.size w)
 obtain ⟨ad, e0, hx0⟩ := Kd.at_int hr0 0 (by decide) (by decide)
 subst e0
 have hx0 : w.cell? ad = some (.int .u8 a) := by have h := hx0; simpa [rd, Addr.add] using h
 obtain ⟨ad1, e1, hx1⟩ := Kd.at_int hr0 1 (by decide) (by decide)
 obtain rfl := Option.some.inj e1
 have hx1 : w.cell? ⟨ad.block, ad.off + 1, none⟩ = some (.int .u8 b) := by have h := hx1; simpa [rd, Addr.add] using h
 have hw_a := fit32 (n := a) (by omega) (by omega)
 have hw_b := fit32 (n := b) (by omega) (by omega)
 have q0 := decide_eq_false p0
 have q1 := decide_eq_false p1
 have q2 := decide_eq_false p2
 have q3 := decide_eq_false p3
 have z0 := fit32 (n := a - 192) (by omega) (by omega)
 have z1a := fit32 (n := 64 * (a - 192)) (by omega) (by omega)
 have z1b := fit32 (n := 64 * (a - 192) + b) (by omega) (by omega)
 have z1c := fit32 (n := 64 * (a - 192) + b - 128) (by omega) (by omega)
 go_enter Tryz.func118, Tryz.ntmps118
 go_upto_region 3 with (first | ((with_reducible refine gate_dst (N := 4) rfl ?_); refine box_event ?hg (N := 4) ?hd (cs := #[.int .i32 0, .int .i32 0, .int .i32 0, .int .i32 0, .int .i32 0]) (t := 194) ?hr ?_; (case hd => rfl); (case hg => rfl); (case hr => first | (go_simp; done) | (go_simp; rfl)); intro gb hg w5 hbox hb; have n0_ := ak (below_step (by repeat (first | (with_reducible first | exact HB.out | apply wA | apply wN | apply wD) | exact HB.out)) hb); have n1_ := ak (hbox); have n3_ := ak ((by rw [hg]; exact (below_size (by repeat (first | (with_reducible first | exact HB.out | apply wA | apply wN | apply wD) | exact HB.out))) : w.heap.size ≤ gb)); clear HB; have HB := n0_; have BK := n1_; have GE := n3_; clear n0_ n1_ n3_; clear hb hbox hg; have hcz_0 : w5.cell? ⟨gb, 0, none⟩ = some (.int .i32 0) := (blk_cell BK.out 0).trans rfl; have hcz_1 : w5.cell? ⟨gb, 1, none⟩ = some (.int .i32 0) := (blk_cell BK.out 1).trans rfl; have hcz_2 : w5.cell? ⟨gb, 2, none⟩ = some (.int .i32 0) := (blk_cell BK.out 2).trans rfl; have hcz_3 : w5.cell? ⟨gb, 3, none⟩ = some (.int .i32 0) := (blk_cell BK.out 3).trans rfl; have hcz_4 : w5.cell? ⟨gb, 4, none⟩ = some (.int .i32 0) := (blk_cell BK.out 4).trans rfl; have hfz_0 := blk_frozen BK.out 0; have hfz_1 := blk_frozen BK.out 1; have hfz_2 := blk_frozen BK.out 2; have hfz_3 := blk_frozen BK.out 3; have hfz_4 := blk_frozen BK.out 4))
 refine name_world (fun W => W.heap[gb]? = some (.cells #[.int .i32 0, .int .i32 0, .int .i32 192, .int .i32 224, .int .i32 240] 194 (0, 0)) ∧ Below w.heap.size w W) ⟨?bk, ?be⟩ (fun W ⟨BKW, HBW⟩ => ?_)
 case bk => (with_reducible repeat (first | refine bN ?_ _ | refine bD ?_ | refine bA ?_ _)); refine blk_put (cs := #[.int .i32 0, .int .i32 0, .int .i32 192, .int .i32 224, .int .i32 0]) ?_ 4 _ rfl; (with_reducible repeat (first | refine bN ?_ _ | refine bD ?_ | refine bA ?_ _)); refine blk_put (cs := #[.int .i32 0, .int .i32 0, .int .i32 192, .int .i32 0, .int .i32 0]) ?_ 3 _ rfl; (with_reducible repeat (first | refine bN ?_ _ | refine bD ?_ | refine bA ?_ _)); refine blk_put (cs := #[.int .i32 0, .int .i32 0, .int .i32 0, .int .i32 0, .int .i32 0]) ?_ 2 _ rfl; (with_reducible repeat (first | refine bN ?_ _ | refine bD ?_ | refine bA ?_ _)); refine blk_put (cs := #[.int .i32 0, .int .i32 0, .int .i32 0, .int .i32 0, .int .i32 0]) ?_ 1 _ rfl; (with_reducible repeat (first | refine bN ?_ _ | refine bD ?_ | refine bA ?_ _)); refine blk_put (cs := #[.int .i32 0, .int .i32 0, .int .i32 0, .int .i32 0, .int .i32 0]) ?_ 0 _ rfl; (with_reducible repeat (first | refine bN ?_ _ | refine bD ?_ | refine bA ?_ _)); exact BK.out
 case be => repeat (first | (with_reducible first | exact HB.out | apply wA | apply wN | apply wD | refine below_set ?_ GE.out) | exact HB.out)
 have hk2 : W.cell? ⟨gb, 2, none⟩ = some (.int .i32 192) := (blk_cell BKW 2).trans rfl
 have hk3 : W.cell? ⟨gb, 3, none⟩ = some (.int .i32 224) := (blk_cell BKW 3).trans rfl
 have hk4 : W.cell? ⟨gb, 4, none⟩ = some (.int .i32 240) := (blk_cell BKW 4).trans rfl
 have hxW0 := (HBW.cell (World.block_lt_of_cell? w _ hx0)).trans hx0
 have hxW1 := (HBW.cell (World.block_lt_of_cell? w _ hx1)).trans hx1
 clear HB BK
 go_wp2
 refine wp_loop_rounds 4 ?_
 rw [rounds_succ]
 go_wp2
 refine wp_loop_rounds 4 ?_
 rw [rounds_succ]
 go_wp2
 rw [rounds_succ]
 go_wp2
 go_ret
 exact ⟨by first | rfl | (simp [*] <;> rfl), HBW⟩
set_option maxHeartbeats 8000000 in
set_option maxRecDepth 100000 in
theorem num3_below (A0 : Option Addr) (c0 : Nat) (a b c : Int) (w : World) (hr0 : Kd.C (Kd.int .u8) w A0 3 [a, b, c]) (hc0 : 3 ≤ c0) (ha : 0 ≤ a ∧ a < 256) (hb : 0 ≤ b ∧ b < 256) (hc : 0 ≤ c ∧ c < 256) (p0 : a < 224) :
  Calls Tryz.prog 118 #[.slice A0 3 c0] w fun e w' => e = .returned (.int .i32 (-1)) ∧ Below w.heap.size w w' := by
 have HB := ak (Below.refl w.heap.size w)
 obtain ⟨ad, e0, hx0⟩ := Kd.at_int hr0 0 (by decide) (by decide)
 subst e0
 have hx0 : w.cell? ad = some (.int .u8 a) := by have h := hx0; simpa [rd, Addr.add] using h
 obtain ⟨ad1, e1, hx1⟩ := Kd.at_int hr0 1 (by decide) (by decide)
 obtain rfl := Option.some.inj e1
 have hx1 : w.cell? ⟨ad.block, ad.off + 1, none⟩ = some (.int .u8 b) := by have h := hx1; simpa [rd, Addr.add] using h
 obtain ⟨ad2, e2, hx2⟩ := Kd.at_int hr0 2 (by decide) (by decide)
 obtain rfl := Option.some.inj e2
 have hx2 : w.cell? ⟨ad.block, ad.off + 2, none⟩ = some (.int .u8 c) := by have h := hx2; simpa [rd, Addr.add] using h
 have hw_a := fit32 (n := a) (by omega) (by omega)
 have hw_b := fit32 (n := b) (by omega) (by omega)
 have hw_c := fit32 (n := c) (by omega) (by omega)
 have q0 := decide_eq_true p0
 have z0 := fit32 (n := a - 224) (by omega) (by omega)
 go_enter Tryz.func118, Tryz.ntmps118
 go_upto_region 3 with (first | ((with_reducible refine gate_dst (N := 4) rfl ?_); refine box_event ?hg (N := 4) ?hd (cs := #[.int .i32 0, .int .i32 0, .int .i32 0, .int .i32 0, .int .i32 0]) (t := 194) ?hr ?_; (case hd => rfl); (case hg => rfl); (case hr => first | (go_simp; done) | (go_simp; rfl)); intro gb hg w5 hbox hb; have n0_ := ak (below_step (by repeat (first | (with_reducible first | exact HB.out | apply wA | apply wN | apply wD) | exact HB.out)) hb); have n1_ := ak (hbox); have n3_ := ak ((by rw [hg]; exact (below_size (by repeat (first | (with_reducible first | exact HB.out | apply wA | apply wN | apply wD) | exact HB.out))) : w.heap.size ≤ gb)); clear HB; have HB := n0_; have BK := n1_; have GE := n3_; clear n0_ n1_ n3_; clear hb hbox hg; have hcz_0 : w5.cell? ⟨gb, 0, none⟩ = some (.int .i32 0) := (blk_cell BK.out 0).trans rfl; have hcz_1 : w5.cell? ⟨gb, 1, none⟩ = some (.int .i32 0) := (blk_cell BK.out 1).trans rfl; have hcz_2 : w5.cell? ⟨gb, 2, none⟩ = some (.int .i32 0) := (blk_cell BK.out 2).trans rfl; have hcz_3 : w5.cell? ⟨gb, 3, none⟩ = some (.int .i32 0) := (blk_cell BK.out 3).trans rfl; have hcz_4 : w5.cell? ⟨gb, 4, none⟩ = some (.int .i32 0) := (blk_cell BK.out 4).trans rfl; have hfz_0 := blk_frozen BK.out 0; have hfz_1 := blk_frozen BK.out 1; have hfz_2 := blk_frozen BK.out 2; have hfz_3 := blk_frozen BK.out 3; have hfz_4 := blk_frozen BK.out 4))
 refine name_world (fun W => W.heap[gb]? = some (.cells #[.int .i32 0, .int .i32 0, .int .i32 192, .int .i32 224, .int .i32 240] 194 (0, 0)) ∧ Below w.heap.size w W) ⟨?bk, ?be⟩ (fun W ⟨BKW, HBW⟩ => ?_)
 case bk => (with_reducible repeat (first | refine bN ?_ _ | refine bD ?_ | refine bA ?_ _)); refine blk_put (cs := #[.int .i32 0, .int .i32 0, .int .i32 192, .int .i32 224, .int .i32 0]) ?_ 4 _ rfl; (with_reducible repeat (first | refine bN ?_ _ | refine bD ?_ | refine bA ?_ _)); refine blk_put (cs := #[.int .i32 0, .int .i32 0, .int .i32 192, .int .i32 0, .int .i32 0]) ?_ 3 _ rfl; (with_reducible repeat (first | refine bN ?_ _ | refine bD ?_ | refine bA ?_ _)); refine blk_put (cs := #[.int .i32 0, .int .i32 0, .int .i32 0, .int .i32 0, .int .i32 0]) ?_ 2 _ rfl; (with_reducible repeat (first | refine bN ?_ _ | refine bD ?_ | refine bA ?_ _)); refine blk_put (cs := #[.int .i32 0, .int .i32 0, .int .i32 0, .int .i32 0, .int .i32 0]) ?_ 1 _ rfl; (with_reducible repeat (first | refine bN ?_ _ | refine bD ?_ | refine bA ?_ _)); refine blk_put (cs := #[.int .i32 0, .int .i32 0, .int .i32 0, .int .i32 0, .int .i32 0]) ?_ 0 _ rfl; (with_reducible repeat (first | refine bN ?_ _ | refine bD ?_ | refine bA ?_ _)); exact BK.out
 case be => repeat (first | (with_reducible first | exact HB.out | apply wA | apply wN | apply wD | refine below_set ?_ GE.out) | exact HB.out)
 have hk2 : W.cell? ⟨gb, 2, none⟩ = some (.int .i32 192) := (blk_cell BKW 2).trans rfl
 have hk3 : W.cell? ⟨gb, 3, none⟩ = some (.int .i32 224) := (blk_cell BKW 3).trans rfl
 have hk4 : W.cell? ⟨gb, 4, none⟩ = some (.int .i32 240) := (blk_cell BKW 4).trans rfl
 have hxW0 := (HBW.cell (World.block_lt_of_cell? w _ hx0)).trans hx0
 have hxW1 := (HBW.cell (World.block_lt_of_cell? w _ hx1)).trans hx1
 have hxW2 := (HBW.cell (World.block_lt_of_cell? w _ hx2)).trans hx2
 clear HB BK
 go_wp2
 refine wp_loop_rounds 4 ?_
 rw [rounds_succ]
 go_wp2
 rw [rounds_succ]
 go_wp2
 rw [rounds_succ]
 go_wp2
 rw [rounds_succ]
 go_wp2
 go_ret
 exact ⟨by first | rfl | (simp [*] <;> rfl), HBW⟩
set_option maxHeartbeats 8000000 in
set_option maxRecDepth 100000 in
theorem num3_above (A0 : Option Addr) (c0 : Nat) (a b c : Int) (w : World) (hr0 : Kd.C (Kd.int .u8) w A0 3 [a, b, c]) (hc0 : 3 ≤ c0) (ha : 0 ≤ a ∧ a < 256) (hb : 0 ≤ b ∧ b < 256) (hc : 0 ≤ c ∧ c < 256) (p0 : ¬ a < 224) (p1 : 240 ≤ a) :
  Calls Tryz.prog 118 #[.slice A0 3 c0] w fun e w' => e = .returned (.int .i32 (-1)) ∧ Below w.heap.size w w' := by
 have HB := ak (Below.refl w.heap.size w)
 obtain ⟨ad, e0, hx0⟩ := Kd.at_int hr0 0 (by decide) (by decide)
 subst e0
 have hx0 : w.cell? ad = some (.int .u8 a) := by have h := hx0; simpa [rd, Addr.add] using h
 obtain ⟨ad1, e1, hx1⟩ := Kd.at_int hr0 1 (by decide) (by decide)
 obtain rfl := Option.some.inj e1
 have hx1 : w.cell? ⟨ad.block, ad.off + 1, none⟩ = some (.int .u8 b) := by have h := hx1; simpa [rd, Addr.add] using h
 obtain ⟨ad2, e2, hx2⟩ := Kd.at_int hr0 2 (by decide) (by decide)
 obtain rfl := Option.some.inj e2
 have hx2 : w.cell? ⟨ad.block, ad.off + 2, none⟩ = some (.int .u8 c) := by have h := hx2; simpa [rd, Addr.add] using h
 have hw_a := fit32 (n := a) (by omega) (by omega)
 have hw_b := fit32 (n := b) (by omega) (by omega)
 have hw_c := fit32 (n := c) (by omega) (by omega)
 have q0 := decide_eq_false p0
 have q1 := decide_eq_true p1
 have z0 := fit32 (n := a - 224) (by omega) (by omega)
 go_enter Tryz.func118, Tryz.ntmps118
 go_upto_region 3 with (first | ((with_reducible refine gate_dst (N := 4) rfl ?_); refine box_event ?hg (N := 4) ?hd (cs := #[.int .i32 0, .int .i32 0, .int .i32 0, .int .i32 0, .int .i32 0]) (t := 194) ?hr ?_; (case hd => rfl); (case hg => rfl); (case hr => first | (go_simp; done) | (go_simp; rfl)); intro gb hg w5 hbox hb; have n0_ := ak (below_step (by repeat (first | (with_reducible first | exact HB.out | apply wA | apply wN | apply wD) | exact HB.out)) hb); have n1_ := ak (hbox); have n3_ := ak ((by rw [hg]; exact (below_size (by repeat (first | (with_reducible first | exact HB.out | apply wA | apply wN | apply wD) | exact HB.out))) : w.heap.size ≤ gb)); clear HB; have HB := n0_; have BK := n1_; have GE := n3_; clear n0_ n1_ n3_; clear hb hbox hg; have hcz_0 : w5.cell? ⟨gb, 0, none⟩ = some (.int .i32 0) := (blk_cell BK.out 0).trans rfl; have hcz_1 : w5.cell? ⟨gb, 1, none⟩ = some (.int .i32 0) := (blk_cell BK.out 1).trans rfl; have hcz_2 : w5.cell? ⟨gb, 2, none⟩ = some (.int .i32 0) := (blk_cell BK.out 2).trans rfl; have hcz_3 : w5.cell? ⟨gb, 3, none⟩ = some (.int .i32 0) := (blk_cell BK.out 3).trans rfl; have hcz_4 : w5.cell? ⟨gb, 4, none⟩ = some (.int .i32 0) := (blk_cell BK.out 4).trans rfl; have hfz_0 := blk_frozen BK.out 0; have hfz_1 := blk_frozen BK.out 1; have hfz_2 := blk_frozen BK.out 2; have hfz_3 := blk_frozen BK.out 3; have hfz_4 := blk_frozen BK.out 4))
 refine name_world (fun W => W.heap[gb]? = some (.cells #[.int .i32 0, .int .i32 0, .int .i32 192, .int .i32 224, .int .i32 240] 194 (0, 0)) ∧ Below w.heap.size w W) ⟨?bk, ?be⟩ (fun W ⟨BKW, HBW⟩ => ?_)
 case bk => (with_reducible repeat (first | refine bN ?_ _ | refine bD ?_ | refine bA ?_ _)); refine blk_put (cs := #[.int .i32 0, .int .i32 0, .int .i32 192, .int .i32 224, .int .i32 0]) ?_ 4 _ rfl; (with_reducible repeat (first | refine bN ?_ _ | refine bD ?_ | refine bA ?_ _)); refine blk_put (cs := #[.int .i32 0, .int .i32 0, .int .i32 192, .int .i32 0, .int .i32 0]) ?_ 3 _ rfl; (with_reducible repeat (first | refine bN ?_ _ | refine bD ?_ | refine bA ?_ _)); refine blk_put (cs := #[.int .i32 0, .int .i32 0, .int .i32 0, .int .i32 0, .int .i32 0]) ?_ 2 _ rfl; (with_reducible repeat (first | refine bN ?_ _ | refine bD ?_ | refine bA ?_ _)); refine blk_put (cs := #[.int .i32 0, .int .i32 0, .int .i32 0, .int .i32 0, .int .i32 0]) ?_ 1 _ rfl; (with_reducible repeat (first | refine bN ?_ _ | refine bD ?_ | refine bA ?_ _)); refine blk_put (cs := #[.int .i32 0, .int .i32 0, .int .i32 0, .int .i32 0, .int .i32 0]) ?_ 0 _ rfl; (with_reducible repeat (first | refine bN ?_ _ | refine bD ?_ | refine bA ?_ _)); exact BK.out
 case be => repeat (first | (with_reducible first | exact HB.out | apply wA | apply wN | apply wD | refine below_set ?_ GE.out) | exact HB.out)
 have hk2 : W.cell? ⟨gb, 2, none⟩ = some (.int .i32 192) := (blk_cell BKW 2).trans rfl
 have hk3 : W.cell? ⟨gb, 3, none⟩ = some (.int .i32 224) := (blk_cell BKW 3).trans rfl
 have hk4 : W.cell? ⟨gb, 4, none⟩ = some (.int .i32 240) := (blk_cell BKW 4).trans rfl
 have hxW0 := (HBW.cell (World.block_lt_of_cell? w _ hx0)).trans hx0
 have hxW1 := (HBW.cell (World.block_lt_of_cell? w _ hx1)).trans hx1
 have hxW2 := (HBW.cell (World.block_lt_of_cell? w _ hx2)).trans hx2
 clear HB BK
 go_wp2
 refine wp_loop_rounds 4 ?_
 rw [rounds_succ]
 go_wp2
 rw [rounds_succ]
 go_wp2
 rw [rounds_succ]
 go_wp2
 rw [rounds_succ]
 go_wp2
 go_ret
 exact ⟨by first | rfl | (simp [*] <;> rfl), HBW⟩
set_option maxHeartbeats 8000000 in
set_option maxRecDepth 100000 in
theorem num3_lo1 (A0 : Option Addr) (c0 : Nat) (a b c : Int) (w : World) (hr0 : Kd.C (Kd.int .u8) w A0 3 [a, b, c]) (hc0 : 3 ≤ c0) (ha : 0 ≤ a ∧ a < 256) (hb : 0 ≤ b ∧ b < 256) (hc : 0 ≤ c ∧ c < 256) (p0 : ¬ a < 224) (p1 : ¬ 240 ≤ a) (p2 : b < 128) :
  Calls Tryz.prog 118 #[.slice A0 3 c0] w fun e w' => e = .returned (.int .i32 (-1)) ∧ Below w.heap.size w w' := by
 have HB := ak (Below.refl w.heap.size w)
 obtain ⟨ad, e0, hx0⟩ := Kd.at_int hr0 0 (by decide) (by decide)
 subst e0
 have hx0 : w.cell? ad = some (.int .u8 a) := by have h := hx0; simpa [rd, Addr.add] using h
 obtain ⟨ad1, e1, hx1⟩ := Kd.at_int hr0 1 (by decide) (by decide)
 obtain rfl := Option.some.inj e1
 have hx1 : w.cell? ⟨ad.block, ad.off + 1, none⟩ = some (.int .u8 b) := by have h := hx1; simpa [rd, Addr.add] using h
 obtain ⟨ad2, e2, hx2⟩ := Kd.at_int hr0 2 (by decide) (by decide)
 obtain rfl := Option.some.inj e2
 have hx2 : w.cell? ⟨ad.block, ad.off + 2, none⟩ = some (.int .u8 c) := by have h := hx2; simpa [rd, Addr.add] using h
 have hw_a := fit32 (n := a) (by omega) (by omega)
 have hw_b := fit32 (n := b) (by omega) (by omega)
 have hw_c := fit32 (n := c) (by omega) (by omega)
 have q0 := decide_eq_false p0
 have q1 := decide_eq_false p1
 have q2 := decide_eq_true p2
 have z0 := fit32 (n := a - 224) (by omega) (by omega)
 go_enter Tryz.func118, Tryz.ntmps118
 go_upto_region 3 with (first | ((with_reducible refine gate_dst (N := 4) rfl ?_); refine box_event ?hg (N := 4) ?hd (cs := #[.int .i32 0, .int .i32 0, .int .i32 0, .int .i32 0, .int .i32 0]) (t := 194) ?hr ?_; (case hd => rfl); (case hg => rfl); (case hr => first | (go_simp; done) | (go_simp; rfl)); intro gb hg w5 hbox hb; have n0_ := ak (below_step (by repeat (first | (with_reducible first | exact HB.out | apply wA | apply wN | apply wD) | exact HB.out)) hb); have n1_ := ak (hbox); have n3_ := ak ((by rw [hg]; exact (below_size (by repeat (first | (with_reducible first | exact HB.out | apply wA | apply wN | apply wD) | exact HB.out))) : w.heap.size ≤ gb)); clear HB; have HB := n0_; have BK := n1_; have GE := n3_; clear n0_ n1_ n3_; clear hb hbox hg; have hcz_0 : w5.cell? ⟨gb, 0, none⟩ = some (.int .i32 0) := (blk_cell BK.out 0).trans rfl; have hcz_1 : w5.cell? ⟨gb, 1, none⟩ = some (.int .i32 0) := (blk_cell BK.out 1).trans rfl; have hcz_2 : w5.cell? ⟨gb, 2, none⟩ = some (.int .i32 0) := (blk_cell BK.out 2).trans rfl; have hcz_3 : w5.cell? ⟨gb, 3, none⟩ = some (.int .i32 0) := (blk_cell BK.out 3).trans rfl; have hcz_4 : w5.cell? ⟨gb, 4, none⟩ = some (.int .i32 0) := (blk_cell BK.out 4).trans rfl; have hfz_0 := blk_frozen BK.out 0; have hfz_1 := blk_frozen BK.out 1; have hfz_2 := blk_frozen BK.out 2; have hfz_3 := blk_frozen BK.out 3; have hfz_4 := blk_frozen BK.out 4))
 refine name_world (fun W => W.heap[gb]? = some (.cells #[.int .i32 0, .int .i32 0, .int .i32 192, .int .i32 224, .int .i32 240] 194 (0, 0)) ∧ Below w.heap.size w W) ⟨?bk, ?be⟩ (fun W ⟨BKW, HBW⟩ => ?_)
 case bk => (with_reducible repeat (first | refine bN ?_ _ | refine bD ?_ | refine bA ?_ _)); refine blk_put (cs := #[.int .i32 0, .int .i32 0, .int .i32 192, .int .i32 224, .int .i32 0]) ?_ 4 _ rfl; (with_reducible repeat (first | refine bN ?_ _ | refine bD ?_ | refine bA ?_ _)); refine blk_put (cs := #[.int .i32 0, .int .i32 0, .int .i32 192, .int .i32 0, .int .i32 0]) ?_ 3 _ rfl; (with_reducible repeat (first | refine bN ?_ _ | refine bD ?_ | refine bA ?_ _)); refine blk_put (cs := #[.int .i32 0, .int .i32 0, .int .i32 0, .int .i32 0, .int .i32 0]) ?_ 2 _ rfl; (with_reducible repeat (first | refine bN ?_ _ | refine bD ?_ | refine bA ?_ _)); refine blk_put (cs := #[.int .i32 0, .int .i32 0, .int .i32 0, .int .i32 0, .int .i32 0]) ?_ 1 _ rfl; (with_reducible repeat (first | refine bN ?_ _ | refine bD ?_ | refine bA ?_ _)); refine blk_put (cs := #[.int .i32 0, .int .i32 0, .int .i32 0, .int .i32 0, .int .i32 0]) ?_ 0 _ rfl; (with_reducible repeat (first | refine bN ?_ _ | refine bD ?_ | refine bA ?_ _)); exact BK.out
 case be => repeat (first | (with_reducible first | exact HB.out | apply wA | apply wN | apply wD | refine below_set ?_ GE.out) | exact HB.out)
 have hk2 : W.cell? ⟨gb, 2, none⟩ = some (.int .i32 192) := (blk_cell BKW 2).trans rfl
 have hk3 : W.cell? ⟨gb, 3, none⟩ = some (.int .i32 224) := (blk_cell BKW 3).trans rfl
 have hk4 : W.cell? ⟨gb, 4, none⟩ = some (.int .i32 240) := (blk_cell BKW 4).trans rfl
 have hxW0 := (HBW.cell (World.block_lt_of_cell? w _ hx0)).trans hx0
 have hxW1 := (HBW.cell (World.block_lt_of_cell? w _ hx1)).trans hx1
 have hxW2 := (HBW.cell (World.block_lt_of_cell? w _ hx2)).trans hx2
 clear HB BK
 go_wp2
 refine wp_loop_rounds 4 ?_
 rw [rounds_succ]
 go_wp2
 rw [rounds_succ]
 go_wp2
 refine wp_loop_rounds 4 ?_
 rw [rounds_succ]
 go_wp2
 go_ret
 exact ⟨by first | rfl | (simp [*] <;> rfl), HBW⟩
set_option maxHeartbeats 8000000 in
set_option maxRecDepth 100000 in
theorem num3_hi1 (A0 : Option Addr) (c0 : Nat) (a b c : Int) (w : World) (hr0 : Kd.C (Kd.int .u8) w A0 3 [a, b, c]) (hc0 : 3 ≤ c0) (ha : 0 ≤ a ∧ a < 256) (hb : 0 ≤ b ∧ b < 256) (hc : 0 ≤ c ∧ c < 256) (p0 : ¬ a < 224) (p1 : ¬ 240 ≤ a) (p2 : ¬ b < 128) (p3 : 192 ≤ b) :
  Calls Tryz.prog 118 #[.slice A0 3 c0] w fun e w' => e = .returned (.int .i32 (-1)) ∧ Below w.heap.size w w' := by
 have HB := ak (Below.refl w.heap.size w)
 obtain ⟨ad, e0, hx0⟩ := Kd.at_int hr0 0 (by decide) (by decide)
 subst e0
 have hx0 : w.cell? ad = some (.int .u8 a) := by have h := hx0; simpa [rd, Addr.add] using h
 obtain ⟨ad1, e1, hx1⟩ := Kd.at_int hr0 1 (by decide) (by decide)
 obtain rfl := Option.some.inj e1
 have hx1 : w.cell? ⟨ad.block, ad.off + 1, none⟩ = some (.int .u8 b) := by have h := hx1; simpa [rd, Addr.add] using h
 obtain ⟨ad2, e2, hx2⟩ := Kd.at_int hr0 2 (by decide) (by decide)
 obtain rfl := Option.some.inj e2
 have hx2 : w.cell? ⟨ad.block, ad.off + 2, none⟩ = some (.int .u8 c) := by have h := hx2; simpa [rd, Addr.add] using h
 have hw_a := fit32 (n := a) (by omega) (by omega)
 have hw_b := fit32 (n := b) (by omega) (by omega)
 have hw_c := fit32 (n := c) (by omega) (by omega)
 have q0 := decide_eq_false p0
 have q1 := decide_eq_false p1
 have q2 := decide_eq_false p2
 have q3 := decide_eq_true p3
 have z0 := fit32 (n := a - 224) (by omega) (by omega)
 go_enter Tryz.func118, Tryz.ntmps118
 go_upto_region 3 with (first | ((with_reducible refine gate_dst (N := 4) rfl ?_); refine box_event ?hg (N := 4) ?hd (cs := #[.int .i32 0, .int .i32 0, .int .i32 0, .int .i32 0, .int .i32 0]) (t := 194) ?hr ?_; (case hd => rfl); (case hg => rfl); (case hr => first | (go_simp; done) | (go_simp; rfl)); intro gb hg w5 hbox hb; have n0_ := ak (below_step (by repeat (first | (with_reducible first | exact HB.out | apply wA | apply wN | apply wD) | exact HB.out)) hb); have n1_ := ak (hbox); have n3_ := ak ((by rw [hg]; exact (below_size (by repeat (first | (with_reducible first | exact HB.out | apply wA | apply wN | apply wD) | exact HB.out))) : w.heap.size ≤ gb)); clear HB; have HB := n0_; have BK := n1_; have GE := n3_; clear n0_ n1_ n3_; clear hb hbox hg; have hcz_0 : w5.cell? ⟨gb, 0, none⟩ = some (.int .i32 0) := (blk_cell BK.out 0).trans rfl; have hcz_1 : w5.cell? ⟨gb, 1, none⟩ = some (.int .i32 0) := (blk_cell BK.out 1).trans rfl; have hcz_2 : w5.cell? ⟨gb, 2, none⟩ = some (.int .i32 0) := (blk_cell BK.out 2).trans rfl; have hcz_3 : w5.cell? ⟨gb, 3, none⟩ = some (.int .i32 0) := (blk_cell BK.out 3).trans rfl; have hcz_4 : w5.cell? ⟨gb, 4, none⟩ = some (.int .i32 0) := (blk_cell BK.out 4).trans rfl; have hfz_0 := blk_frozen BK.out 0; have hfz_1 := blk_frozen BK.out 1; have hfz_2 := blk_frozen BK.out 2; have hfz_3 := blk_frozen BK.out 3; have hfz_4 := blk_frozen BK.out 4))
 refine name_world (fun W => W.heap[gb]? = some (.cells #[.int .i32 0, .int .i32 0, .int .i32 192, .int .i32 224, .int .i32 240] 194 (0, 0)) ∧ Below w.heap.size w W) ⟨?bk, ?be⟩ (fun W ⟨BKW, HBW⟩ => ?_)
 case bk => (with_reducible repeat (first | refine bN ?_ _ | refine bD ?_ | refine bA ?_ _)); refine blk_put (cs := #[.int .i32 0, .int .i32 0, .int .i32 192, .int .i32 224, .int .i32 0]) ?_ 4 _ rfl; (with_reducible repeat (first | refine bN ?_ _ | refine bD ?_ | refine bA ?_ _)); refine blk_put (cs := #[.int .i32 0, .int .i32 0, .int .i32 192, .int .i32 0, .int .i32 0]) ?_ 3 _ rfl; (with_reducible repeat (first | refine bN ?_ _ | refine bD ?_ | refine bA ?_ _)); refine blk_put (cs := #[.int .i32 0, .int .i32 0, .int .i32 0, .int .i32 0, .int .i32 0]) ?_ 2 _ rfl; (with_reducible repeat (first | refine bN ?_ _ | refine bD ?_ | refine bA ?_ _)); refine blk_put (cs := #[.int .i32 0, .int .i32 0, .int .i32 0, .int .i32 0, .int .i32 0]) ?_ 1 _ rfl; (with_reducible repeat (first | refine bN ?_ _ | refine bD ?_ | refine bA ?_ _)); refine blk_put (cs := #[.int .i32 0, .int .i32 0, .int .i32 0, .int .i32 0, .int .i32 0]) ?_ 0 _ rfl; (with_reducible repeat (first | refine bN ?_ _ | refine bD ?_ | refine bA ?_ _)); exact BK.out
 case be => repeat (first | (with_reducible first | exact HB.out | apply wA | apply wN | apply wD | refine below_set ?_ GE.out) | exact HB.out)
 have hk2 : W.cell? ⟨gb, 2, none⟩ = some (.int .i32 192) := (blk_cell BKW 2).trans rfl
 have hk3 : W.cell? ⟨gb, 3, none⟩ = some (.int .i32 224) := (blk_cell BKW 3).trans rfl
 have hk4 : W.cell? ⟨gb, 4, none⟩ = some (.int .i32 240) := (blk_cell BKW 4).trans rfl
 have hxW0 := (HBW.cell (World.block_lt_of_cell? w _ hx0)).trans hx0
 have hxW1 := (HBW.cell (World.block_lt_of_cell? w _ hx1)).trans hx1
 have hxW2 := (HBW.cell (World.block_lt_of_cell? w _ hx2)).trans hx2
 clear HB BK
 go_wp2
 refine wp_loop_rounds 4 ?_
 rw [rounds_succ]
 go_wp2
 rw [rounds_succ]
 go_wp2
 refine wp_loop_rounds 4 ?_
 rw [rounds_succ]
 go_wp2
 go_ret
 exact ⟨by first | rfl | (simp [*] <;> rfl), HBW⟩
set_option maxHeartbeats 8000000 in
set_option maxRecDepth 100000 in
theorem num3_lo2 (A0 : Option Addr) (c0 : Nat) (a b c : Int) (w : World) (hr0 : Kd.C (Kd.int .u8) w A0 3 [a, b, c]) (hc0 : 3 ≤ c0) (ha : 0 ≤ a ∧ a < 256) (hb : 0 ≤ b ∧ b < 256) (hc : 0 ≤ c ∧ c < 256) (p0 : ¬ a < 224) (p1 : ¬ 240 ≤ a) (p2 : ¬ b < 128) (p3 : ¬ 192 ≤ b) (p4 : c < 128) :
  Calls Tryz.prog 118 #[.slice A0 3 c0] w fun e w' => e = .returned (.int .i32 (-1)) ∧ Below w.heap.size w w' := by
 have HB := ak (Below.refl w.heap.size w)
 obtain ⟨ad, e0, hx0⟩ := Kd.at_int hr0 0 (by decide) (by decide)
 subst e0
 have hx0 : w.cell? ad = some (.int .u8 a) := by have h := hx0; simpa [rd, Addr.add] using h
 obtain ⟨ad1, e1, hx1⟩ := Kd.at_int hr0 1 (by decide) (by decide)
 obtain rfl := Option.some.inj e1
 have hx1 : w.cell? ⟨ad.block, ad.off + 1, none⟩ = some (.int .u8 b) := by have h := hx1; simpa [rd, Addr.add] using h
 obtain ⟨ad2, e2, hx2⟩ := Kd.at_int hr0 2 (by decide) (by decide)
 obtain rfl := Option.some.inj e2
 have hx2 : w.cell? ⟨ad.block, ad.off + 2, none⟩ = some (.int .u8 c) := by have h := hx2; simpa [rd, Addr.add] using h
 have hw_a := fit32 (n := a) (by omega) (by omega)
 have hw_b := fit32 (n := b) (by omega) (by omega)
 have hw_c := fit32 (n := c) (by omega) (by omega)
 have q0 := decide_eq_false p0
 have q1 := decide_eq_false p1
 have q2 := decide_eq_false p2
 have q3 := decide_eq_false p3
 have q4 := decide_eq_true p4
 have z0 := fit32 (n := a - 224) (by omega) (by omega)
 have z1a := fit32 (n := 64 * (a - 224)) (by omega) (by omega)
 have z1b := fit32 (n := 64 * (a - 224) + b) (by omega) (by omega)
 have z1c := fit32 (n := 64 * (a - 224) + b - 128) (by omega) (by omega)
 go_enter Tryz.func118, Tryz.ntmps118
 go_upto_region 3 with (first | ((with_reducible refine gate_dst (N := 4) rfl ?_); refine box_event ?hg (N := 4) ?hd (cs := #[.int .i32 0, .int .i32 0, .int .i32 0, .int .i32 0, .int .i32 0]) (t := 194) ?hr ?_; (case hd => rfl); (case hg => rfl); (case hr => first | (go_simp; done) | (go_simp; rfl)); intro gb hg w5 hbox hb; have n0_ := ak (below_step (by repeat (first | (with_reducible first | exact HB.out | apply wA | apply wN | apply wD) | exact HB.out)) hb); have n1_ := ak (hbox); have n3_ := ak ((by rw [hg]; exact (below_size (by repeat (first | (with_reducible first | exact HB.out | apply wA | apply wN | apply wD) | exact HB.out))) : w.heap.size ≤ gb)); clear HB; have HB := n0_; have BK := n1_; have GE := n3_; clear n0_ n1_ n3_; clear hb hbox hg; have hcz_0 : w5.cell? ⟨gb, 0, none⟩ = some (.int .i32 0) := (blk_cell BK.out 0).trans rfl; have hcz_1 : w5.cell? ⟨gb, 1, none⟩ = some (.int .i32 0) := (blk_cell BK.out 1).trans rfl; have hcz_2 : w5.cell? ⟨gb, 2, none⟩ = some (.int .i32 0) := (blk_cell BK.out 2).trans rfl; have hcz_3 : w5.cell? ⟨gb, 3, none⟩ = some (.int .i32 0) := (blk_cell BK.out 3).trans rfl; have hcz_4 : w5.cell? ⟨gb, 4, none⟩ = some (.int .i32 0) := (blk_cell BK.out 4).trans rfl; have hfz_0 := blk_frozen BK.out 0; have hfz_1 := blk_frozen BK.out 1; have hfz_2 := blk_frozen BK.out 2; have hfz_3 := blk_frozen BK.out 3; have hfz_4 := blk_frozen BK.out 4))
 refine name_world (fun W => W.heap[gb]? = some (.cells #[.int .i32 0, .int .i32 0, .int .i32 192, .int .i32 224, .int .i32 240] 194 (0, 0)) ∧ Below w.heap.size w W) ⟨?bk, ?be⟩ (fun W ⟨BKW, HBW⟩ => ?_)
 case bk => (with_reducible repeat (first | refine bN ?_ _ | refine bD ?_ | refine bA ?_ _)); refine blk_put (cs := #[.int .i32 0, .int .i32 0, .int .i32 192, .int .i32 224, .int .i32 0]) ?_ 4 _ rfl; (with_reducible repeat (first | refine bN ?_ _ | refine bD ?_ | refine bA ?_ _)); refine blk_put (cs := #[.int .i32 0, .int .i32 0, .int .i32 192, .int .i32 0, .int .i32 0]) ?_ 3 _ rfl; (with_reducible repeat (first | refine bN ?_ _ | refine bD ?_ | refine bA ?_ _)); refine blk_put (cs := #[.int .i32 0, .int .i32 0, .int .i32 0, .int .i32 0, .int .i32 0]) ?_ 2 _ rfl; (with_reducible repeat (first | refine bN ?_ _ | refine bD ?_ | refine bA ?_ _)); refine blk_put (cs := #[.int .i32 0, .int .i32 0, .int .i32 0, .int .i32 0, .int .i32 0]) ?_ 1 _ rfl; (with_reducible repeat (first | refine bN ?_ _ | refine bD ?_ | refine bA ?_ _)); refine blk_put (cs := #[.int .i32 0, .int .i32 0, .int .i32 0, .int .i32 0, .int .i32 0]) ?_ 0 _ rfl; (with_reducible repeat (first | refine bN ?_ _ | refine bD ?_ | refine bA ?_ _)); exact BK.out
 case be => repeat (first | (with_reducible first | exact HB.out | apply wA | apply wN | apply wD | refine below_set ?_ GE.out) | exact HB.out)
 have hk2 : W.cell? ⟨gb, 2, none⟩ = some (.int .i32 192) := (blk_cell BKW 2).trans rfl
 have hk3 : W.cell? ⟨gb, 3, none⟩ = some (.int .i32 224) := (blk_cell BKW 3).trans rfl
 have hk4 : W.cell? ⟨gb, 4, none⟩ = some (.int .i32 240) := (blk_cell BKW 4).trans rfl
 have hxW0 := (HBW.cell (World.block_lt_of_cell? w _ hx0)).trans hx0
 have hxW1 := (HBW.cell (World.block_lt_of_cell? w _ hx1)).trans hx1
 have hxW2 := (HBW.cell (World.block_lt_of_cell? w _ hx2)).trans hx2
 clear HB BK
 go_wp2
 refine wp_loop_rounds 4 ?_
 rw [rounds_succ]
 go_wp2
 rw [rounds_succ]
 go_wp2
 refine wp_loop_rounds 4 ?_
 rw [rounds_succ]
 go_wp2
 rw [rounds_succ]
 go_wp2
 go_ret
 exact ⟨by first | rfl | (simp [*] <;> rfl), HBW⟩
set_option maxHeartbeats 8000000 in
set_option maxRecDepth 100000 in
theorem num3_hi2 (A0 : Option Addr) (c0 : Nat) (a b c : Int) (w : World) (hr0 : Kd.C (Kd.int .u8) w A0 3 [a, b, c]) (hc0 : 3 ≤ c0) (ha : 0 ≤ a ∧ a < 256) (hb : 0 ≤ b ∧ b < 256) (hc : 0 ≤ c ∧ c < 256) (p0 : ¬ a < 224) (p1 : ¬ 240 ≤ a) (p2 : ¬ b < 128) (p3 : ¬ 192 ≤ b) (p4 : ¬ c < 128) (p5 : 192 ≤ c) :
  Calls Tryz.prog 118 #[.slice A0 3 c0] w fun e w' => e = .returned (.int .i32 (-1)) ∧ Below w.heap.size w w' := by
 have HB := ak (Below.refl w.heap.size w)
 obtain ⟨ad, e0, hx0⟩ := Kd.at_int hr0 0 (by decide) (by decide)
 subst e0
 have hx0 : w.cell? ad = some (.int .u8 a) := by have h := hx0; simpa [rd, Addr.add] using h
 obtain ⟨ad1, e1, hx1⟩ := Kd.at_int hr0 1 (by decide) (by decide)
 obtain rfl := Option.some.inj e1
 have hx1 : w.cell? ⟨ad.block, ad.off + 1, none⟩ = some (.int .u8 b) := by have h := hx1; simpa [rd, Addr.add] using h
 obtain ⟨ad2, e2, hx2⟩ := Kd.at_int hr0 2 (by decide) (by decide)
 obtain rfl := Option.some.inj e2
 have hx2 : w.cell? ⟨ad.block, ad.off + 2, none⟩ = some (.int .u8 c) := by have h := hx2; simpa [rd, Addr.add] using h
 have hw_a := fit32 (n := a) (by omega) (by omega)
 have hw_b := fit32 (n := b) (by omega) (by omega)
 have hw_c := fit32 (n := c) (by omega) (by omega)
 have q0 := decide_eq_false p0
 have q1 := decide_eq_false p1
 have q2 := decide_eq_false p2
 have q3 := decide_eq_false p3
 have q4 := decide_eq_false p4
 have q5 := decide_eq_true p5
 have z0 := fit32 (n := a - 224) (by omega) (by omega)
 have z1a := fit32 (n := 64 * (a - 224)) (by omega) (by omega)
 have z1b := fit32 (n := 64 * (a - 224) + b) (by omega) (by omega)
 have z1c := fit32 (n := 64 * (a - 224) + b - 128) (by omega) (by omega)
 go_enter Tryz.func118, Tryz.ntmps118
 go_upto_region 3 with (first | ((with_reducible refine gate_dst (N := 4) rfl ?_); refine box_event ?hg (N := 4) ?hd (cs := #[.int .i32 0, .int .i32 0, .int .i32 0, .int .i32 0, .int .i32 0]) (t := 194) ?hr ?_; (case hd => rfl); (case hg => rfl); (case hr => first | (go_simp; done) | (go_simp; rfl)); intro gb hg w5 hbox hb; have n0_ := ak (below_step (by repeat (first | (with_reducible first | exact HB.out | apply wA | apply wN | apply wD) | exact HB.out)) hb); have n1_ := ak (hbox); have n3_ := ak ((by rw [hg]; exact (below_size (by repeat (first | (with_reducible first | exact HB.out | apply wA | apply wN | apply wD) | exact HB.out))) : w.heap.size ≤ gb)); clear HB; have HB := n0_; have BK := n1_; have GE := n3_; clear n0_ n1_ n3_; clear hb hbox hg; have hcz_0 : w5.cell? ⟨gb, 0, none⟩ = some (.int .i32 0) := (blk_cell BK.out 0).trans rfl; have hcz_1 : w5.cell? ⟨gb, 1, none⟩ = some (.int .i32 0) := (blk_cell BK.out 1).trans rfl; have hcz_2 : w5.cell? ⟨gb, 2, none⟩ = some (.int .i32 0) := (blk_cell BK.out 2).trans rfl; have hcz_3 : w5.cell? ⟨gb, 3, none⟩ = some (.int .i32 0) := (blk_cell BK.out 3).trans rfl; have hcz_4 : w5.cell? ⟨gb, 4, none⟩ = some (.int .i32 0) := (blk_cell BK.out 4).trans rfl; have hfz_0 := blk_frozen BK.out 0; have hfz_1 := blk_frozen BK.out 1; have hfz_2 := blk_frozen BK.out 2; have hfz_3 := blk_frozen BK.out 3; have hfz_4 := blk_frozen BK.out 4))
 refine name_world (fun W => W.heap[gb]? = some (.cells #[.int .i32 0, .int .i32 0, .int .i32 192, .int .i32 224, .int .i32 240] 194 (0, 0)) ∧ Below w.heap.size w W) ⟨?bk, ?be⟩ (fun W ⟨BKW, HBW⟩ => ?_)
 case bk => (with_reducible repeat (first | refine bN ?_ _ | refine bD ?_ | refine bA ?_ _)); refine blk_put (cs := #[.int .i32 0, .int .i32 0, .int .i32 192, .int .i32 224, .int .i32 0]) ?_ 4 _ rfl; (with_reducible repeat (first | refine bN ?_ _ | refine bD ?_ | refine bA ?_ _)); refine blk_put (cs := #[.int .i32 0, .int .i32 0, .int .i32 192, .int .i32 0, .int .i32 0]) ?_ 3 _ rfl; (with_reducible repeat (first | refine bN ?_ _ | refine bD ?_ | refine bA ?_ _)); refine blk_put (cs := #[.int .i32 0, .int .i32 0, .int .i32 0, .int .i32 0, .int .i32 0]) ?_ 2 _ rfl; (with_reducible repeat (first | refine bN ?_ _ | refine bD ?_ | refine bA ?_ _)); refine blk_put (cs := #[.int .i32 0, .int .i32 0, .int .i32 0, .int .i32 0, .int .i32 0]) ?_ 1 _ rfl; (with_reducible repeat (first | refine bN ?_ _ | refine bD ?_ | refine bA ?_ _)); refine blk_put (cs := #[.int .i32 0, .int .i32 0, .int .i32 0, .int .i32 0, .int .i32 0]) ?_ 0 _ rfl; (with_reducible repeat (first | refine bN ?_ _ | refine bD ?_ | refine bA ?_ _)); exact BK.out
 case be => repeat (first | (with_reducible first | exact HB.out | apply wA | apply wN | apply wD | refine below_set ?_ GE.out) | exact HB.out)
 have hk2 : W.cell? ⟨gb, 2, none⟩ = some (.int .i32 192) := (blk_cell BKW 2).trans rfl
 have hk3 : W.cell? ⟨gb, 3, none⟩ = some (.int .i32 224) := (blk_cell BKW 3).trans rfl
 have hk4 : W.cell? ⟨gb, 4, none⟩ = some (.int .i32 240) := (blk_cell BKW 4).trans rfl
 have hxW0 := (HBW.cell (World.block_lt_of_cell? w _ hx0)).trans hx0
 have hxW1 := (HBW.cell (World.block_lt_of_cell? w _ hx1)).trans hx1
 have hxW2 := (HBW.cell (World.block_lt_of_cell? w _ hx2)).trans hx2
 clear HB BK
 go_wp2
 refine wp_loop_rounds 4 ?_
 rw [rounds_succ]
 go_wp2
 rw [rounds_succ]
 go_wp2
 refine wp_loop_rounds 4 ?_
 rw [rounds_succ]
 go_wp2
 rw [rounds_succ]
 go_wp2
 go_ret
 exact ⟨by first | rfl | (simp [*] <;> rfl), HBW⟩
set_option maxHeartbeats 8000000 in
set_option maxRecDepth 100000 in
theorem num3_all (A0 : Option Addr) (c0 : Nat) (a b c : Int) (w : World) (hr0 : Kd.C (Kd.int .u8) w A0 3 [a, b, c]) (hc0 : 3 ≤ c0) (ha : 0 ≤ a ∧ a < 256) (hb : 0 ≤ b ∧ b < 256) (hc : 0 ≤ c ∧ c < 256) (p0 : ¬ a < 224) (p1 : ¬ 240 ≤ a) (p2 : ¬ b < 128) (p3 : ¬ 192 ≤ b) (p4 : ¬ c < 128) (p5 : ¬ 192 ≤ c) :
  Calls Tryz.prog 118 #[.slice A0 3 c0] w fun e w' => e = .returned (.int .i32 ((64 * (64 * (a - 224) + b - 128) + c - 128))) ∧ Below w.heap.size w w' := by
 have HB := ak (Below.refl w.heap.size w)
 obtain ⟨ad, e0, hx0⟩ := Kd.at_int hr0 0 (by decide) (by decide)
 subst e0
 have hx0 : w.cell? ad = some (.int .u8 a) := by have h := hx0; simpa [rd, Addr.add] using h
 obtain ⟨ad1, e1, hx1⟩ := Kd.at_int hr0 1 (by decide) (by decide)
 obtain rfl := Option.some.inj e1
 have hx1 : w.cell? ⟨ad.block, ad.off + 1, none⟩ = some (.int .u8 b) := by have h := hx1; simpa [rd, Addr.add] using h
 obtain ⟨ad2, e2, hx2⟩ := Kd.at_int hr0 2 (by decide) (by decide)
 obtain rfl := Option.some.inj e2
 have hx2 : w.cell? ⟨ad.block, ad.off + 2, none⟩ = some (.int .u8 c) := by have h := hx2; simpa [rd, Addr.add] using h
 have hw_a := fit32 (n := a) (by omega) (by omega)
 have hw_b := fit32 (n := b) (by omega) (by omega)
 have hw_c := fit32 (n := c) (by omega) (by omega)
 have q0 := decide_eq_false p0
 have q1 := decide_eq_false p1
 have q2 := decide_eq_false p2
 have q3 := decide_eq_false p3
 have q4 := decide_eq_false p4
 have q5 := decide_eq_false p5
 have z0 := fit32 (n := a - 224) (by omega) (by omega)
 have z1a := fit32 (n := 64 * (a - 224)) (by omega) (by omega)
 have z1b := fit32 (n := 64 * (a - 224) + b) (by omega) (by omega)
 have z1c := fit32 (n := 64 * (a - 224) + b - 128) (by omega) (by omega)
 have z2a := fit32 (n := 64 * (64 * (a - 224) + b - 128)) (by omega) (by omega)
 have z2b := fit32 (n := 64 * (64 * (a - 224) + b - 128) + c) (by omega) (by omega)
 have z2c := fit32 (n := 64 * (64 * (a - 224) + b - 128) + c - 128) (by omega) (by omega)
 go_enter Tryz.func118, Tryz.ntmps118
 go_upto_region 3 with (first | ((with_reducible refine gate_dst (N := 4) rfl ?_); refine box_event ?hg (N := 4) ?hd (cs := #[.int .i32 0, .int .i32 0, .int .i32 0, .int .i32 0, .int .i32 0]) (t := 194) ?hr ?_; (case hd => rfl); (case hg => rfl); (case hr => first | (go_simp; done) | (go_simp; rfl)); intro gb hg w5 hbox hb; have n0_ := ak (below_step (by repeat (first | (with_reducible first | exact HB.out | apply wA | apply wN | apply wD) | exact HB.out)) hb); have n1_ := ak (hbox); have n3_ := ak ((by rw [hg]; exact (below_size (by repeat (first | (with_reducible first | exact HB.out | apply wA | apply wN | apply wD) | exact HB.out))) : w.heap.size ≤ gb)); clear HB; have HB := n0_; have BK := n1_; have GE := n3_; clear n0_ n1_ n3_; clear hb hbox hg; have hcz_0 : w5.cell? ⟨gb, 0, none⟩ = some (.int .i32 0) := (blk_cell BK.out 0).trans rfl; have hcz_1 : w5.cell? ⟨gb, 1, none⟩ = some (.int .i32 0) := (blk_cell BK.out 1).trans rfl; have hcz_2 : w5.cell? ⟨gb, 2, none⟩ = some (.int .i32 0) := (blk_cell BK.out 2).trans rfl; have hcz_3 : w5.cell? ⟨gb, 3, none⟩ = some (.int .i32 0) := (blk_cell BK.out 3).trans rfl; have hcz_4 : w5.cell? ⟨gb, 4, none⟩ = some (.int .i32 0) := (blk_cell BK.out 4).trans rfl; have hfz_0 := blk_frozen BK.out 0; have hfz_1 := blk_frozen BK.out 1; have hfz_2 := blk_frozen BK.out 2; have hfz_3 := blk_frozen BK.out 3; have hfz_4 := blk_frozen BK.out 4))
 refine name_world (fun W => W.heap[gb]? = some (.cells #[.int .i32 0, .int .i32 0, .int .i32 192, .int .i32 224, .int .i32 240] 194 (0, 0)) ∧ Below w.heap.size w W) ⟨?bk, ?be⟩ (fun W ⟨BKW, HBW⟩ => ?_)
 case bk => (with_reducible repeat (first | refine bN ?_ _ | refine bD ?_ | refine bA ?_ _)); refine blk_put (cs := #[.int .i32 0, .int .i32 0, .int .i32 192, .int .i32 224, .int .i32 0]) ?_ 4 _ rfl; (with_reducible repeat (first | refine bN ?_ _ | refine bD ?_ | refine bA ?_ _)); refine blk_put (cs := #[.int .i32 0, .int .i32 0, .int .i32 192, .int .i32 0, .int .i32 0]) ?_ 3 _ rfl; (with_reducible repeat (first | refine bN ?_ _ | refine bD ?_ | refine bA ?_ _)); refine blk_put (cs := #[.int .i32 0, .int .i32 0, .int .i32 0, .int .i32 0, .int .i32 0]) ?_ 2 _ rfl; (with_reducible repeat (first | refine bN ?_ _ | refine bD ?_ | refine bA ?_ _)); refine blk_put (cs := #[.int .i32 0, .int .i32 0, .int .i32 0, .int .i32 0, .int .i32 0]) ?_ 1 _ rfl; (with_reducible repeat (first | refine bN ?_ _ | refine bD ?_ | refine bA ?_ _)); refine blk_put (cs := #[.int .i32 0, .int .i32 0, .int .i32 0, .int .i32 0, .int .i32 0]) ?_ 0 _ rfl; (with_reducible repeat (first | refine bN ?_ _ | refine bD ?_ | refine bA ?_ _)); exact BK.out
 case be => repeat (first | (with_reducible first | exact HB.out | apply wA | apply wN | apply wD | refine below_set ?_ GE.out) | exact HB.out)
 have hk2 : W.cell? ⟨gb, 2, none⟩ = some (.int .i32 192) := (blk_cell BKW 2).trans rfl
 have hk3 : W.cell? ⟨gb, 3, none⟩ = some (.int .i32 224) := (blk_cell BKW 3).trans rfl
 have hk4 : W.cell? ⟨gb, 4, none⟩ = some (.int .i32 240) := (blk_cell BKW 4).trans rfl
 have hxW0 := (HBW.cell (World.block_lt_of_cell? w _ hx0)).trans hx0
 have hxW1 := (HBW.cell (World.block_lt_of_cell? w _ hx1)).trans hx1
 have hxW2 := (HBW.cell (World.block_lt_of_cell? w _ hx2)).trans hx2
 clear HB BK
 go_wp2
 refine wp_loop_rounds 4 ?_
 rw [rounds_succ]
 go_wp2
 rw [rounds_succ]
 go_wp2
 refine wp_loop_rounds 4 ?_
 rw [rounds_succ]
 go_wp2
 rw [rounds_succ]
 go_wp2
 rw [rounds_succ]
 go_wp2
 go_ret
 exact ⟨by first | rfl | (simp [*] <;> rfl), HBW⟩
set_option maxHeartbeats 8000000 in
set_option maxRecDepth 100000 in
theorem num4_below (A0 : Option Addr) (c0 : Nat) (a b c d : Int) (w : World) (hr0 : Kd.C (Kd.int .u8) w A0 4 [a, b, c, d]) (hc0 : 4 ≤ c0) (ha : 0 ≤ a ∧ a < 256) (hb : 0 ≤ b ∧ b < 256) (hc : 0 ≤ c ∧ c < 256) (hd : 0 ≤ d ∧ d < 256) (p0 : a < 240) :
  Calls Tryz.prog 118 #[.slice A0 4 c0] w fun e w' => e = .returned (.int .i32 (-1)) ∧ Below w.heap.size w w' := by
 have HB := ak (Below.refl w.heap.size w)
 obtain ⟨ad, e0, hx0⟩ := Kd.at_int hr0 0 (by decide) (by decide)
 subst e0
 have hx0 : w.cell? ad = some (.int .u8 a) := by have h := hx0; simpa [rd, Addr.add] using h
 obtain ⟨ad1, e1, hx1⟩ := Kd.at_int hr0 1 (by decide) (by decide)
 obtain rfl := Option.some.inj e1
 have hx1 : w.cell? ⟨ad.block, ad.off + 1, none⟩ = some (.int .u8 b) := by have h := hx1; simpa [rd, Addr.add] using h
 obtain ⟨ad2, e2, hx2⟩ := Kd.at_int hr0 2 (by decide) (by decide)
 obtain rfl := Option.some.inj e2
 have hx2 : w.cell? ⟨ad.block, ad.off + 2, none⟩ = some (.int .u8 c) := by have h := hx2; simpa [rd, Addr.add] using h
 obtain ⟨ad3, e3, hx3⟩ := Kd.at_int hr0 3 (by decide) (by decide)
 obtain rfl := Option.some.inj e3
 have hx3 : w.cell? ⟨ad.block, ad.off + 3, none⟩ = some (.int .u8 d) := by have h := hx3; simpa [rd, Addr.add] using h
 have hw_a := fit32 (n := a) (by omega) (by omega)
 have hw_b := fit32 (n := b) (by omega) (by omega)
 have hw_c := fit32 (n := c) (by omega) (by omega)
 have hw_d := fit32 (n := d) (by omega) (by omega)
 have q0 := decide_eq_true p0
 have z0 := fit32 (n := a - 240) (by omega) (by omega)
 go_enter Tryz.func118, Tryz.ntmps118
 go_upto_region 3 with (first | ((with_reducible refine gate_dst (N := 4) rfl ?_); refine box_event ?hg (N := 4) ?hd (cs := #[.int .i32 0, .int .i32 0, .int .i32 0, .int .i32 0, .int .i32 0]) (t := 194) ?hr ?_; (case hd => rfl); (case hg => rfl); (case hr => first | (go_simp; done) | (go_simp; rfl)); intro gb hg w5 hbox hb; have n0_ := ak (below_step (by repeat (first | (with_reducible first | exact HB.out | apply wA | apply wN | apply wD) | exact HB.out)) hb); have n1_ := ak (hbox); have n3_ := ak ((by rw [hg]; exact (below_size (by repeat (first | (with_reducible first | exact HB.out | apply wA | apply wN | apply wD) | exact HB.out))) : w.heap.size ≤ gb)); clear HB; have HB := n0_; have BK := n1_; have GE := n3_; clear n0_ n1_ n3_; clear hb hbox hg; have hcz_0 : w5.cell? ⟨gb, 0, none⟩ = some (.int .i32 0) := (blk_cell BK.out 0).trans rfl; have hcz_1 : w5.cell? ⟨gb, 1, none⟩ = some (.int .i32 0) := (blk_cell BK.out 1).trans rfl; have hcz_2 : w5.cell? ⟨gb, 2, none⟩ = some (.int .i32 0) := (blk_cell BK.out 2).trans rfl; have hcz_3 : w5.cell? ⟨gb, 3, none⟩ = some (.int .i32 0) := (blk_cell BK.out 3).trans rfl; have hcz_4 : w5.cell? ⟨gb, 4, none⟩ = some (.int .i32 0) := (blk_cell BK.out 4).trans rfl; have hfz_0 := blk_frozen BK.out 0; have hfz_1 := blk_frozen BK.out 1; have hfz_2 := blk_frozen BK.out 2; have hfz_3 := blk_frozen BK.out 3; have hfz_4 := blk_frozen BK.out 4))
 refine name_world (fun W => W.heap[gb]? = some (.cells #[.int .i32 0, .int .i32 0, .int .i32 192, .int .i32 224, .int .i32 240] 194 (0, 0)) ∧ Below w.heap.size w W) ⟨?bk, ?be⟩ (fun W ⟨BKW, HBW⟩ => ?_)
 case bk => (with_reducible repeat (first | refine bN ?_ _ | refine bD ?_ | refine bA ?_ _)); refine blk_put (cs := #[.int .i32 0, .int .i32 0, .int .i32 192, .int .i32 224, .int .i32 0]) ?_ 4 _ rfl; (with_reducible repeat (first | refine bN ?_ _ | refine bD ?_ | refine bA ?_ _)); refine blk_put (cs := #[.int .i32 0, .int .i32 0, .int .i32 192, .int .i32 0, .int .i32 0]) ?_ 3 _ rfl; (with_reducible repeat (first | refine bN ?_ _ | refine bD ?_ | refine bA ?_ _)); refine blk_put (cs := #[.int .i32 0, .int .i32 0, .int .i32 0, .int .i32 0, .int .i32 0]) ?_ 2 _ rfl; (with_reducible repeat (first | refine bN ?_ _ | refine bD ?_ | refine bA ?_ _)); refine blk_put (cs := #[.int .i32 0, .int .i32 0, .int .i32 0, .int .i32 0, .int .i32 0]) ?_ 1 _ rfl; (with_reducible repeat (first | refine bN ?_ _ | refine bD ?_ | refine bA ?_ _)); refine blk_put (cs := #[.int .i32 0, .int .i32 0, .int .i32 0, .int .i32 0, .int .i32 0]) ?_ 0 _ rfl; (with_reducible repeat (first | refine bN ?_ _ | refine bD ?_ | refine bA ?_ _)); exact BK.out
 case be => repeat (first | (with_reducible first | exact HB.out | apply wA | apply wN | apply wD | refine below_set ?_ GE.out) | exact HB.out)
 have hk2 : W.cell? ⟨gb, 2, none⟩ = some (.int .i32 192) := (blk_cell BKW 2).trans rfl
 have hk3 : W.cell? ⟨gb, 3, none⟩ = some (.int .i32 224) := (blk_cell BKW 3).trans rfl
 have hk4 : W.cell? ⟨gb, 4, none⟩ = some (.int .i32 240) := (blk_cell BKW 4).trans rfl
 have hxW0 := (HBW.cell (World.block_lt_of_cell? w _ hx0)).trans hx0
 have hxW1 := (HBW.cell (World.block_lt_of_cell? w _ hx1)).trans hx1
 have hxW2 := (HBW.cell (World.block_lt_of_cell? w _ hx2)).trans hx2
 have hxW3 := (HBW.cell (World.block_lt_of_cell? w _ hx3)).trans hx3
 clear HB BK
 go_wp2
 refine wp_loop_rounds 4 ?_
 rw [rounds_succ]
 go_wp2
 rw [rounds_succ]
 go_wp2
 rw [rounds_succ]
 go_wp2
 rw [rounds_succ]
 go_wp2
 go_ret
 exact ⟨by first | rfl | (simp [*] <;> rfl), HBW⟩
set_option maxHeartbeats 8000000 in
set_option maxRecDepth 100000 in
theorem num4_above (A0 : Option Addr) (c0 : Nat) (a b c d : Int) (w : World) (hr0 : Kd.C (Kd.int .u8) w A0 4 [a, b, c, d]) (hc0 : 4 ≤ c0) (ha : 0 ≤ a ∧ a < 256) (hb : 0 ≤ b ∧ b < 256) (hc : 0 ≤ c ∧ c < 256) (hd : 0 ≤ d ∧ d < 256) (p0 : ¬ a < 240) (p1 : 248 ≤ a) :
  Calls Tryz.prog 118 #[.slice A0 4 c0] w fun e w' => e = .returned (.int .i32 (-1)) ∧ Below w.heap.size w w' := by
 have HB := ak (Below.refl w.heap.size w)
 obtain ⟨ad, e0, hx0⟩ := Kd.at_int hr0 0 (by decide) (by decide)
 subst e0
 have hx0 : w.cell? ad = some (.int .u8 a) := by have h := hx0; simpa [rd, Addr.add] using h
 obtain ⟨ad1, e1, hx1⟩ := Kd.at_int hr0 1 (by decide) (by decide)
 obtain rfl := Option.some.inj e1
 have hx1 : w.cell? ⟨ad.block, ad.off + 1, none⟩ = some (.int .u8 b) := by have h := hx1; simpa [rd, Addr.add] using h
 obtain ⟨ad2, e2, hx2⟩ := Kd.at_int hr0 2 (by decide) (by decide)
 obtain rfl := Option.some.inj e2
 have hx2 : w.cell? ⟨ad.block, ad.off + 2, none⟩ = some (.int .u8 c) := by have h := hx2; simpa [rd, Addr.add] using h
 obtain ⟨ad3, e3, hx3⟩ := Kd.at_int hr0 3 (by decide) (by decide)
 obtain rfl := Option.some.inj e3
 have hx3 : w.cell? ⟨ad.block, ad.off + 3, none⟩ = some (.int .u8 d) := by have h := hx3; simpa [rd, Addr.add] using h
 have hw_a := fit32 (n := a) (by omega) (by omega)
 have hw_b := fit32 (n := b) (by omega) (by omega)
 have hw_c := fit32 (n := c) (by omega) (by omega)
 have hw_d := fit32 (n := d) (by omega) (by omega)
 have q0 := decide_eq_false p0
 have q1 := decide_eq_true p1
 have z0 := fit32 (n := a - 240) (by omega) (by omega)
 go_enter Tryz.func118, Tryz.ntmps118
 go_upto_region 3 with (first | ((with_reducible refine gate_dst (N := 4) rfl ?_); refine box_event ?hg (N := 4) ?hd (cs := #[.int .i32 0, .int .i32 0, .int .i32 0, .int .i32 0, .int .i32 0]) (t := 194) ?hr ?_; (case hd => rfl); (case hg => rfl); (case hr => first | (go_simp; done) | (go_simp; rfl)); intro gb hg w5 hbox hb; have n0_ := ak (below_step (by repeat (first | (with_reducible first | exact HB.out | apply wA | apply wN | apply wD) | exact HB.out)) hb); have n1_ := ak (hbox); have n3_ := ak ((by rw [hg]; exact (below_size (by repeat (first | (with_reducible first | exact HB.out | apply wA | apply wN | apply wD) | exact HB.out))) : w.heap.size ≤ gb)); clear HB; have HB := n0_; have BK := n1_; have GE := n3_; clear n0_ n1_ n3_; clear hb hbox hg; have hcz_0 : w5.cell? ⟨gb, 0, none⟩ = some (.int .i32 0) := (blk_cell BK.out 0).trans rfl; have hcz_1 : w5.cell? ⟨gb, 1, none⟩ = some (.int .i32 0) := (blk_cell BK.out 1).trans rfl; have hcz_2 : w5.cell? ⟨gb, 2, none⟩ = some (.int .i32 0) := (blk_cell BK.out 2).trans rfl; have hcz_3 : w5.cell? ⟨gb, 3, none⟩ = some (.int .i32 0) := (blk_cell BK.out 3).trans rfl; have hcz_4 : w5.cell? ⟨gb, 4, none⟩ = some (.int .i32 0) := (blk_cell BK.out 4).trans rfl; have hfz_0 := blk_frozen BK.out 0; have hfz_1 := blk_frozen BK.out 1; have hfz_2 := blk_frozen BK.out 2; have hfz_3 := blk_frozen BK.out 3; have hfz_4 := blk_frozen BK.out 4))
 refine name_world (fun W => W.heap[gb]? = some (.cells #[.int .i32 0, .int .i32 0, .int .i32 192, .int .i32 224, .int .i32 240] 194 (0, 0)) ∧ Below w.heap.size w W) ⟨?bk, ?be⟩ (fun W ⟨BKW, HBW⟩ => ?_)
 case bk => (with_reducible repeat (first | refine bN ?_ _ | refine bD ?_ | refine bA ?_ _)); refine blk_put (cs := #[.int .i32 0, .int .i32 0, .int .i32 192, .int .i32 224, .int .i32 0]) ?_ 4 _ rfl; (with_reducible repeat (first | refine bN ?_ _ | refine bD ?_ | refine bA ?_ _)); refine blk_put (cs := #[.int .i32 0, .int .i32 0, .int .i32 192, .int .i32 0, .int .i32 0]) ?_ 3 _ rfl; (with_reducible repeat (first | refine bN ?_ _ | refine bD ?_ | refine bA ?_ _)); refine blk_put (cs := #[.int .i32 0, .int .i32 0, .int .i32 0, .int .i32 0, .int .i32 0]) ?_ 2 _ rfl; (with_reducible repeat (first | refine bN ?_ _ | refine bD ?_ | refine bA ?_ _)); refine blk_put (cs := #[.int .i32 0, .int .i32 0, .int .i32 0, .int .i32 0, .int .i32 0]) ?_ 1 _ rfl; (with_reducible repeat (first | refine bN ?_ _ | refine bD ?_ | refine bA ?_ _)); refine blk_put (cs := #[.int .i32 0, .int .i32 0, .int .i32 0, .int .i32 0, .int .i32 0]) ?_ 0 _ rfl; (with_reducible repeat (first | refine bN ?_ _ | refine bD ?_ | refine bA ?_ _)); exact BK.out
 case be => repeat (first | (with_reducible first | exact HB.out | apply wA | apply wN | apply wD | refine below_set ?_ GE.out) | exact HB.out)
 have hk2 : W.cell? ⟨gb, 2, none⟩ = some (.int .i32 192) := (blk_cell BKW 2).trans rfl
 have hk3 : W.cell? ⟨gb, 3, none⟩ = some (.int .i32 224) := (blk_cell BKW 3).trans rfl
 have hk4 : W.cell? ⟨gb, 4, none⟩ = some (.int .i32 240) := (blk_cell BKW 4).trans rfl
 have hxW0 := (HBW.cell (World.block_lt_of_cell? w _ hx0)).trans hx0
 have hxW1 := (HBW.cell (World.block_lt_of_cell? w _ hx1)).trans hx1
 have hxW2 := (HBW.cell (World.block_lt_of_cell? w _ hx2)).trans hx2
 have hxW3 := (HBW.cell (World.block_lt_of_cell? w _ hx3)).trans hx3
 clear HB BK
 go_wp2
 refine wp_loop_rounds 4 ?_
 rw [rounds_succ]
 go_wp2
 rw [rounds_succ]
 go_wp2
 rw [rounds_succ]
 go_wp2
 rw [rounds_succ]
 go_wp2
 go_ret
 exact ⟨by first | rfl | (simp [*] <;> rfl), HBW⟩
set_option maxHeartbeats 8000000 in
set_option maxRecDepth 100000 in
theorem num4_lo1 (A0 : Option Addr) (c0 : Nat) (a b c d : Int) (w : World) (hr0 : Kd.C (Kd.int .u8) w A0 4 [a, b, c, d]) (hc0 : 4 ≤ c0) (ha : 0 ≤ a ∧ a < 256) (hb : 0 ≤ b ∧ b < 256) (hc : 0 ≤ c ∧ c < 256) (hd : 0 ≤ d ∧ d < 256) (p0 : ¬ a < 240) (p1 : ¬ 248 ≤ a) (p2 : b < 128) :
  Calls Tryz.prog 118 #[.slice A0 4 c0] w fun e w' => e = .returned (.int .i32 (-1)) ∧ Below w.heap.size w w' := by
 have HB := ak (Below.refl w.heap.size w)
 obtain ⟨ad, e0, hx0⟩ := Kd.at_int hr0 0 (by decide) (by decide)
 subst e0
 have hx0 : w.cell? ad = some (.int .u8 a) := by have h := hx0; simpa [rd, Addr.add] using h
 obtain ⟨ad1, e1, hx1⟩ := Kd.at_int hr0 1 (by decide) (by decide)
 obtain rfl := Option.some.inj e1
 have hx1 : w.cell? ⟨ad.block, ad.off + 1, none⟩ = some (.int .u8 b) := by have h := hx1; simpa [rd, Addr.add] using h
 obtain ⟨ad2, e2, hx2⟩ := Kd.at_int hr0 2 (by decide) (by decide)
 obtain rfl := Option.some.inj e2
 have hx2 : w.cell? ⟨ad.block, ad.off + 2, none⟩ = some (.int .u8 c) := by have h := hx2; simpa [rd, Addr.add] using h
 obtain ⟨ad3, e3, hx3⟩ := Kd.at_int hr0 3 (by decide) (by decide)
 obtain rfl := Option.some.inj e3
 have hx3 : w.cell? ⟨ad.block, ad.off + 3, none⟩ = some (.int .u8 d) := by have h := hx3; simpa [rd, Addr.add] using h
 have hw_a := fit32 (n := a) (by omega) (by omega)
 have hw_b := fit32 (n := b) (by omega) (by omega)
 have hw_c := fit32 (n := c) (by omega) (by omega)
 have hw_d := fit32 (n := d) (by omega) (by omega)
 have q0 := decide_eq_false p0
 have q1 := decide_eq_false p1
 have q2 := decide_eq_true p2
 have z0 := fit32 (n := a - 240) (by omega) (by omega)
 go_enter Tryz.func118, Tryz.ntmps118
 go_upto_region 3 with (first | ((with_reducible refine gate_dst (N := 4) rfl ?_); refine box_event ?hg (N := 4) ?hd (cs := #[.int .i32 0, .int .i32 0, .int .i32 0, .int .i32 0, .int .i32 0]) (t := 194) ?hr ?_; (case hd => rfl); (case hg => rfl); (case hr => first | (go_simp; done) | (go_simp; rfl)); intro gb hg w5 hbox hb; have n0_ := ak (below_step (by repeat (first | (with_reducible first | exact HB.out | apply wA | apply wN | apply wD) | exact HB.out)) hb); have n1_ := ak (hbox); have n3_ := ak ((by rw [hg]; exact (below_size (by repeat (first | (with_reducible first | exact HB.out | apply wA | apply wN | apply wD) | exact HB.out))) : w.heap.size ≤ gb)); clear HB; have HB := n0_; have BK := n1_; have GE := n3_; clear n0_ n1_ n3_; clear hb hbox hg; have hcz_0 : w5.cell? ⟨gb, 0, none⟩ = some (.int .i32 0) := (blk_cell BK.out 0).trans rfl; have hcz_1 : w5.cell? ⟨gb, 1, none⟩ = some (.int .i32 0) := (blk_cell BK.out 1).trans rfl; have hcz_2 : w5.cell? ⟨gb, 2, none⟩ = some (.int .i32 0) := (blk_cell BK.out 2).trans rfl; have hcz_3 : w5.cell? ⟨gb, 3, none⟩ = some (.int .i32 0) := (blk_cell BK.out 3).trans rfl; have hcz_4 : w5.cell? ⟨gb, 4, none⟩ = some (.int .i32 0) := (blk_cell BK.out 4).trans rfl; have hfz_0 := blk_frozen BK.out 0; have hfz_1 := blk_frozen BK.out 1; have hfz_2 := blk_frozen BK.out 2; have hfz_3 := blk_frozen BK.out 3; have hfz_4 := blk_frozen BK.out 4))
 refine name_world (fun W => W.heap[gb]? = some (.cells #[.int .i32 0, .int .i32 0, .int .i32 192, .int .i32 224, .int .i32 240] 194 (0, 0)) ∧ Below w.heap.size w W) ⟨?bk, ?be⟩ (fun W ⟨BKW, HBW⟩ => ?_)
 case bk => (with_reducible repeat (first | refine bN ?_ _ | refine bD ?_ | refine bA ?_ _)); refine blk_put (cs := #[.int .i32 0, .int .i32 0, .int .i32 192, .int .i32 224, .int .i32 0]) ?_ 4 _ rfl; (with_reducible repeat (first | refine bN ?_ _ | refine bD ?_ | refine bA ?_ _)); refine blk_put (cs := #[.int .i32 0, .int .i32 0, .int .i32 192, .int .i32 0, .int .i32 0]) ?_ 3 _ rfl; (with_reducible repeat (first | refine bN ?_ _ | refine bD ?_ | refine bA ?_ _)); refine blk_put (cs := #[.int .i32 0, .int .i32 0, .int .i32 0, .int .i32 0, .int .i32 0]) ?_ 2 _ rfl; (with_reducible repeat (first | refine bN ?_ _ | refine bD ?_ | refine bA ?_ _)); refine blk_put (cs := #[.int .i32 0, .int .i32 0, .int .i32 0, .int .i32 0, .int .i32 0]) ?_ 1 _ rfl; (with_reducible repeat (first | refine bN ?_ _ | refine bD ?_ | refine bA ?_ _)); refine blk_put (cs := #[.int .i32 0, .int .i32 0, .int .i32 0, .int .i32 0, .int .i32 0]) ?_ 0 _ rfl; (with_reducible repeat (first | refine bN ?_ _ | refine bD ?_ | refine bA ?_ _)); exact BK.out
 case be => repeat (first | (with_reducible first | exact HB.out | apply wA | apply wN | apply wD | refine below_set ?_ GE.out) | exact HB.out)
 have hk2 : W.cell? ⟨gb, 2, none⟩ = some (.int .i32 192) := (blk_cell BKW 2).trans rfl
 have hk3 : W.cell? ⟨gb, 3, none⟩ = some (.int .i32 224) := (blk_cell BKW 3).trans rfl
 have hk4 : W.cell? ⟨gb, 4, none⟩ = some (.int .i32 240) := (blk_cell BKW 4).trans rfl
 have hxW0 := (HBW.cell (World.block_lt_of_cell? w _ hx0)).trans hx0
 have hxW1 := (HBW.cell (World.block_lt_of_cell? w _ hx1)).trans hx1
 have hxW2 := (HBW.cell (World.block_lt_of_cell? w _ hx2)).trans hx2
 have hxW3 := (HBW.cell (World.block_lt_of_cell? w _ hx3)).trans hx3
 clear HB BK
 go_wp2
 refine wp_loop_rounds 4 ?_
 rw [rounds_succ]
 go_wp2
 rw [rounds_succ]
 go_wp2
 rw [rounds_succ]
 go_wp2
 refine wp_loop_rounds 4 ?_
 rw [rounds_succ]
 go_wp2
 go_ret
 exact ⟨by first | rfl | (simp [*] <;> rfl), HBW⟩
set_option maxHeartbeats 8000000 in
set_option maxRecDepth 100000 in
theorem num4_hi1 (A0 : Option Addr) (c0 : Nat) (a b c d : Int) (w : World) (hr0 : Kd.C (Kd.int .u8) w A0 4 [a, b, c, d]) (hc0 : 4 ≤ c0) (ha : 0 ≤ a ∧ a < 256) (hb : 0 ≤ b ∧ b < 256) (hc : 0 ≤ c ∧ c < 256) (hd : 0 ≤ d ∧ d < 256) (p0 : ¬ a < 240) (p1 : ¬ 248 ≤ a) (p2 : ¬ b < 128) (p3 : 192 ≤ b) :
  Calls Tryz.prog 118 #[.slice A0 4 c0] w fun e w' => e = .returned (.int .i32 (-1)) ∧ Below w.heap.size w w' := by
 have HB := ak (Below.refl w.heap.size w)
 obtain ⟨ad, e0, hx0⟩ := Kd.at_int hr0 0 (by decide) (by decide)
 subst e0
 have hx0 : w.cell? ad = some (.int .u8 a) := by have h := hx0; simpa [rd, Addr.add] using h
 obtain ⟨ad1, e1, hx1⟩ := Kd.at_int hr0 1 (by decide) (by decide)
 obtain rfl := Option.some.inj e1
 have hx1 : w.cell? ⟨ad.block, ad.off + 1, none⟩ = some (.int .u8 b) := by have h := hx1; simpa [rd, Addr.add] using h
 obtain ⟨ad2, e2, hx2⟩ := Kd.at_int hr0 2 (by decide) (by decide)
 obtain rfl := Option.some.inj e2
 have hx2 : w.cell? ⟨ad.block, ad.off + 2, none⟩ = some (.int .u8 c) := by have h := hx2; simpa [rd, Addr.add] using h
 obtain ⟨ad3, e3, hx3⟩ := Kd.at_int hr0 3 (by decide) (by decide)
 obtain rfl := Option.some.inj e3
 have hx3 : w.cell? ⟨ad.block, ad.off + 3, none⟩ = some (.int .u8 d) := by have h := hx3; simpa [rd, Addr.add] using h
 have hw_a := fit32 (n := a) (by omega) (by omega)
 have hw_b := fit32 (n := b) (by omega) (by omega)
 have hw_c := fit32 (n := c) (by omega) (by omega)
 have hw_d := fit32 (n := d) (by omega) (by omega)
 have q0 := decide_eq_false p0
 have q1 := decide_eq_false p1
 have q2 := decide_eq_false p2
 have q3 := decide_eq_true p3
 have z0 := fit32 (n := a - 240) (by omega) (by omega)
 go_enter Tryz.func118, Tryz.ntmps118
 go_upto_region 3 with (first | ((with_reducible refine gate_dst (N := 4) rfl ?_); refine box_event ?hg (N := 4) ?hd (cs := #[.int .i32 0, .int .i32 0, .int .i32 0, .int .i32 0, .int .i32 0]) (t := 194) ?hr ?_; (case hd => rfl); (case hg => rfl); (case hr => first | (go_simp; done) | (go_simp; rfl)); intro gb hg w5 hbox hb; have n0_ := ak (below_step (by repeat (first | (with_reducible first | exact HB.out | apply wA | apply wN | apply wD) | exact HB.out)) hb); have n1_ := ak (hbox); have n3_ := ak ((by rw [hg]; exact (below_size (by repeat (first | (with_reducible first | exact HB.out | apply wA | apply wN | apply wD) | exact HB.out))) : w.heap.size ≤ gb)); clear HB; have HB := n0_; have BK := n1_; have GE := n3_; clear n0_ n1_ n3_; clear hb hbox hg; have hcz_0 : w5.cell? ⟨gb, 0, none⟩ = some (.int .i32 0) := (blk_cell BK.out 0).trans rfl; have hcz_1 : w5.cell? ⟨gb, 1, none⟩ = some (.int .i32 0) := (blk_cell BK.out 1).trans rfl; have hcz_2 : w5.cell? ⟨gb, 2, none⟩ = some (.int .i32 0) := (blk_cell BK.out 2).trans rfl; have hcz_3 : w5.cell? ⟨gb, 3, none⟩ = some (.int .i32 0) := (blk_cell BK.out 3).trans rfl; have hcz_4 : w5.cell? ⟨gb, 4, none⟩ = some (.int .i32 0) := (blk_cell BK.out 4).trans rfl; have hfz_0 := blk_frozen BK.out 0; have hfz_1 := blk_frozen BK.out 1; have hfz_2 := blk_frozen BK.out 2; have hfz_3 := blk_frozen BK.out 3; have hfz_4 := blk_frozen BK.out 4))
 refine name_world (fun W => W.heap[gb]? = some (.cells #[.int .i32 0, .int .i32 0, .int .i32 192, .int .i32 224, .int .i32 240] 194 (0, 0)) ∧ Below w.heap.size w W) ⟨?bk, ?be⟩ (fun W ⟨BKW, HBW⟩ => ?_)
 case bk => (with_reducible repeat (first | refine bN ?_ _ | refine bD ?_ | refine bA ?_ _)); refine blk_put (cs := #[.int .i32 0, .int .i32 0, .int .i32 192, .int .i32 224, .int .i32 0]) ?_ 4 _ rfl; (with_reducible repeat (first | refine bN ?_ _ | refine bD ?_ | refine bA ?_ _)); refine blk_put (cs := #[.int .i32 0, .int .i32 0, .int .i32 192, .int .i32 0, .int .i32 0]) ?_ 3 _ rfl; (with_reducible repeat (first | refine bN ?_ _ | refine bD ?_ | refine bA ?_ _)); refine blk_put (cs := #[.int .i32 0, .int .i32 0, .int .i32 0, .int .i32 0, .int .i32 0]) ?_ 2 _ rfl; (with_reducible repeat (first | refine bN ?_ _ | refine bD ?_ | refine bA ?_ _)); refine blk_put (cs := #[.int .i32 0, .int .i32 0, .int .i32 0, .int .i32 0, .int .i32 0]) ?_ 1 _ rfl; (with_reducible repeat (first | refine bN ?_ _ | refine bD ?_ | refine bA ?_ _)); refine blk_put (cs := #[.int .i32 0, .int .i32 0, .int .i32 0, .int .i32 0, .int .i32 0]) ?_ 0 _ rfl; (with_reducible repeat (first | refine bN ?_ _ | refine bD ?_ | refine bA ?_ _)); exact BK.out
 case be => repeat (first | (with_reducible first | exact HB.out | apply wA | apply wN | apply wD | refine below_set ?_ GE.out) | exact HB.out)
 have hk2 : W.cell? ⟨gb, 2, none⟩ = some (.int .i32 192) := (blk_cell BKW 2).trans rfl
 have hk3 : W.cell? ⟨gb, 3, none⟩ = some (.int .i32 224) := (blk_cell BKW 3).trans rfl
 have hk4 : W.cell? ⟨gb, 4, none⟩ = some (.int .i32 240) := (blk_cell BKW 4).trans rfl
 have hxW0 := (HBW.cell (World.block_lt_of_cell? w _ hx0)).trans hx0
 have hxW1 := (HBW.cell (World.block_lt_of_cell? w _ hx1)).trans hx1
 have hxW2 := (HBW.cell (World.block_lt_of_cell? w _ hx2)).trans hx2
 have hxW3 := (HBW.cell (World.block_lt_of_cell? w _ hx3)).trans hx3
 clear HB BK
 go_wp2
 refine wp_loop_rounds 4 ?_
 rw [rounds_succ]
 go_wp2
 rw [rounds_succ]
 go_wp2
 rw [rounds_succ]
 go_wp2
 refine wp_loop_rounds 4 ?_
 rw [rounds_succ]
 go_wp2
 go_ret
 exact ⟨by first | rfl | (simp [*] <;> rfl), HBW⟩
set_option maxHeartbeats 8000000 in
set_option maxRecDepth 100000 in
theorem num4_lo2 (A0 : Option Addr) (c0 : Nat) (a b c d : Int) (w : World) (hr0 : Kd.C (Kd.int .u8) w A0 4 [a, b, c, d]) (hc0 : 4 ≤ c0) (ha : 0 ≤ a ∧ a < 256) (hb : 0 ≤ b ∧ b < 256) (hc : 0 ≤ c ∧ c < 256) (hd : 0 ≤ d ∧ d < 256) (p0 : ¬ a < 240) (p1 : ¬ 248 ≤ a) (p2 : ¬ b < 128) (p3 : ¬ 192 ≤ b) (p4 : c < 128) :
  Calls Tryz.prog 118 #[.slice A0 4 c0] w fun e w' => e = .returned (.int .i32 (-1)) ∧ Below w.heap.size w w' := by
 have HB := ak (Below.refl w.heap.size w)
 obtain ⟨ad, e0, hx0⟩ := Kd.at_int hr0 0 (by decide) (by decide)
 subst e0
 have hx0 : w.cell? ad = some (.int .u8 a) := by have h := hx0; simpa [rd, Addr.add] using h
 obtain ⟨ad1, e1, hx1⟩ := Kd.at_int hr0 1 (by decide) (by decide)
 obtain rfl := Option.some.inj e1
 have hx1 : w.cell? ⟨ad.block, ad.off + 1, none⟩ = some (.int .u8 b) := by have h := hx1; simpa [rd, Addr.add] using h
 obtain ⟨ad2, e2, hx2⟩ := Kd.at_int hr0 2 (by decide) (by decide)
 obtain rfl := Option.some.inj e2
 have hx2 : w.cell? ⟨ad.block, ad.off + 2, none⟩ = some (.int .u8 c) := by have h := hx2; simpa [rd, Addr.add] using h
 obtain ⟨ad3, e3, hx3⟩ := Kd.at_int hr0 3 (by decide) (by decide)
 obtain rfl := Option.some.inj e3
 have hx3 : w.cell? ⟨ad.block, ad.off + 3, none⟩ = some (.int .u8 d) := by have h := hx3; simpa [rd, Addr.add] using h
 have hw_a := fit32 (n := a) (by omega) (by omega)
 have hw_b := fit32 (n := b) (by omega) (by omega)
 have hw_c := fit32 (n := c) (by omega) (by omega)
 have hw_d := fit32 (n := d) (by omega) (by omega)
 have q0 := decide_eq_false p0
 have q1 := decide_eq_false p1
 have q2 := decide_eq_false p2
 have q3 := decide_eq_false p3
 have q4 := decide_eq_true p4
 have z0 := fit32 (n := a - 240) (by omega) (by omega)
 have z1a := fit32 (n := 64 * (a - 240)) (by omega) (by omega)
 have z1b := fit32 (n := 64 * (a - 240) + b) (by omega) (by omega)
 have z1c := fit32 (n := 64 * (a - 240) + b - 128) (by omega) (by omega)
 go_enter Tryz.func118, Tryz.ntmps118
 go_upto_region 3 with (first | ((with_reducible refine gate_dst (N := 4) rfl ?_); refine box_event ?hg (N := 4) ?hd (cs := #[.int .i32 0, .int .i32 0, .int .i32 0, .int .i32 0, .int .i32 0]) (t := 194) ?hr ?_; (case hd => rfl); (case hg => rfl); (case hr => first | (go_simp; done) | (go_simp; rfl)); intro gb hg w5 hbox hb; have n0_ := ak (below_step (by repeat (first | (with_reducible first | exact HB.out | apply wA | apply wN | apply wD) | exact HB.out)) hb); have n1_ := ak (hbox); have n3_ := ak ((by rw [hg]; exact (below_size (by repeat (first | (with_reducible first | exact HB.out | apply wA | apply wN | apply wD) | exact HB.out))) : w.heap.size ≤ gb)); clear HB; have HB := n0_; have BK := n1_; have GE := n3_; clear n0_ n1_ n3_; clear hb hbox hg; have hcz_0 : w5.cell? ⟨gb, 0, none⟩ = some (.int .i32 0) := (blk_cell BK.out 0).trans rfl; have hcz_1 : w5.cell? ⟨gb, 1, none⟩ = some (.int .i32 0) := (blk_cell BK.out 1).trans rfl; have hcz_2 : w5.cell? ⟨gb, 2, none⟩ = some (.int .i32 0) := (blk_cell BK.out 2).trans rfl; have hcz_3 : w5.cell? ⟨gb, 3, none⟩ = some (.int .i32 0) := (blk_cell BK.out 3).trans rfl; have hcz_4 : w5.cell? ⟨gb, 4, none⟩ = some (.int .i32 0) := (blk_cell BK.out 4).trans rfl; have hfz_0 := blk_frozen BK.out 0; have hfz_1 := blk_frozen BK.out 1; have hfz_2 := blk_frozen BK.out 2; have hfz_3 := blk_frozen BK.out 3; have hfz_4 := blk_frozen BK.out 4))
 refine name_world (fun W => W.heap[gb]? = some (.cells #[.int .i32 0, .int .i32 0, .int .i32 192, .int .i32 224, .int .i32 240] 194 (0, 0)) ∧ Below w.heap.size w W) ⟨?bk, ?be⟩ (fun W ⟨BKW, HBW⟩ => ?_)
 case bk => (with_reducible repeat (first | refine bN ?_ _ | refine bD ?_ | refine bA ?_ _)); refine blk_put (cs := #[.int .i32 0, .int .i32 0, .int .i32 192, .int .i32 224, .int .i32 0]) ?_ 4 _ rfl; (with_reducible repeat (first | refine bN ?_ _ | refine bD ?_ | refine bA ?_ _)); refine blk_put (cs := #[.int .i32 0, .int .i32 0, .int .i32 192, .int .i32 0, .int .i32 0]) ?_ 3 _ rfl; (with_reducible repeat (first | refine bN ?_ _ | refine bD ?_ | refine bA ?_ _)); refine blk_put (cs := #[.int .i32 0, .int .i32 0, .int .i32 0, .int .i32 0, .int .i32 0]) ?_ 2 _ rfl; (with_reducible repeat (first | refine bN ?_ _ | refine bD ?_ | refine bA ?_ _)); refine blk_put (cs := #[.int .i32 0, .int .i32 0, .int .i32 0, .int .i32 0, .int .i32 0]) ?_ 1 _ rfl; (with_reducible repeat (first | refine bN ?_ _ | refine bD ?_ | refine bA ?_ _)); refine blk_put (cs := #[.int .i32 0, .int .i32 0, .int .i32 0, .int .i32 0, .int .i32 0]) ?_ 0 _ rfl; (with_reducible repeat (first | refine bN ?_ _ | refine bD ?_ | refine bA ?_ _)); exact BK.out
 case be => repeat (first | (with_reducible first | exact HB.out | apply wA | apply wN | apply wD | refine below_set ?_ GE.out) | exact HB.out)
 have hk2 : W.cell? ⟨gb, 2, none⟩ = some (.int .i32 192) := (blk_cell BKW 2).trans rfl
 have hk3 : W.cell? ⟨gb, 3, none⟩ = some (.int .i32 224) := (blk_cell BKW 3).trans rfl
 have hk4 : W.cell? ⟨gb, 4, none⟩ = some (.int .i32 240) := (blk_cell BKW 4).trans rfl
 have hxW0 := (HBW.cell (World.block_lt_of_cell? w _ hx0)).trans hx0
 have hxW1 := (HBW.cell (World.block_lt_of_cell? w _ hx1)).trans hx1
 have hxW2 := (HBW.cell (World.block_lt_of_cell? w _ hx2)).trans hx2
 have hxW3 := (HBW.cell (World.block_lt_of_cell? w _ hx3)).trans hx3
 clear HB BK
 go_wp2
 refine wp_loop_rounds 4 ?_
 rw [rounds_succ]
 go_wp2
 rw [rounds_succ]
 go_wp2
 rw [rounds_succ]
 go_wp2
 refine wp_loop_rounds 4 ?_
 rw [rounds_succ]
 go_wp2
 rw [rounds_succ]
 go_wp2
 go_ret
 exact ⟨by first | rfl | (simp [*] <;> rfl), HBW⟩
set_option maxHeartbeats 8000000 in
set_option maxRecDepth 100000 in
theorem num4_hi2 (A0 : Option Addr) (c0 : Nat) (a b c d : Int) (w : World) (hr0 : Kd.C (Kd.int .u8) w A0 4 [a, b, c, d]) (hc0 : 4 ≤ c0) (ha : 0 ≤ a ∧ a < 256) (hb : 0 ≤ b ∧ b < 256) (hc : 0 ≤ c ∧ c < 256) (hd : 0 ≤ d ∧ d < 256) (p0 : ¬ a < 240) (p1 : ¬ 248 ≤ a) (p2 : ¬ b < 128) (p3 : ¬ 192 ≤ b) (p4 : ¬ c < 128) (p5 : 192 ≤ c) :
  Calls Tryz.prog 118 #[.slice A0 4 c0] w fun e w' => e = .returned (.int .i32 (-1)) ∧ Below w.heap.size w w' := by
 have HB := ak (Below.refl w.heap.size w)
 obtain ⟨ad, e0, hx0⟩ := Kd.at_int hr0 0 (by decide) (by decide)
 subst e0
 have hx0 : w.cell? ad = some (.int .u8 a) := by have h := hx0; simpa [rd, Addr.add] using h
 obtain ⟨ad1, e1, hx1⟩ := Kd.at_int hr0 1 (by decide) (by decide)
 obtain rfl := Option.some.inj e1
 have hx1 : w.cell? ⟨ad.block, ad.off + 1, none⟩ = some (.int .u8 b) := by have h := hx1; simpa [rd, Addr.add] using h
 obtain ⟨ad2, e2, hx2⟩ := Kd.at_int hr0 2 (by decide) (by decide)
 obtain rfl := Option.some.inj e2
 have hx2 : w.cell? ⟨ad.block, ad.off + 2, none⟩ = some (.int .u8 c) := by have h := hx2; simpa [rd, Addr.add] using h
 obtain ⟨ad3, e3, hx3⟩ := Kd.at_int hr0 3 (by decide) (by decide)
 obtain rfl := Option.some.inj e3
 have hx3 : w.cell? ⟨ad.block, ad.off + 3, none⟩ = some (.int .u8 d) := by have h := hx3; simpa [rd, Addr.add] using h
 have hw_a := fit32 (n := a) (by omega) (by omega)
 have hw_b := fit32 (n := b) (by omega) (by omega)
 have hw_c := fit32 (n := c) (by omega) (by omega)
 have hw_d := fit32 (n := d) (by omega) (by omega)
 have q0 := decide_eq_false p0
 have q1 := decide_eq_false p1
 have q2 := decide_eq_false p2
 have q3 := decide_eq_false p3
 have q4 := decide_eq_false p4
 have q5 := decide_eq_true p5
 have z0 := fit32 (n := a - 240) (by omega) (by omega)
 have z1a := fit32 (n := 64 * (a - 240)) (by omega) (by omega)
 have z1b := fit32 (n := 64 * (a - 240) + b) (by omega) (by omega)
 have z1c := fit32 (n := 64 * (a - 240) + b - 128) (by omega) (by omega)
 go_enter Tryz.func118, Tryz.ntmps118
 go_upto_region 3 with (first | ((with_reducible refine gate_dst (N := 4) rfl ?_); refine box_event ?hg (N := 4) ?hd (cs := #[.int .i32 0, .int .i32 0, .int .i32 0, .int .i32 0, .int .i32 0]) (t := 194) ?hr ?_; (case hd => rfl); (case hg => rfl); (case hr => first | (go_simp; done) | (go_simp; rfl)); intro gb hg w5 hbox hb; have n0_ := ak (below_step (by repeat (first | (with_reducible first | exact HB.out | apply wA | apply wN | apply wD) | exact HB.out)) hb); have n1_ := ak (hbox); have n3_ := ak ((by rw [hg]; exact (below_size (by repeat (first | (with_reducible first | exact HB.out | apply wA | apply wN | apply wD) | exact HB.out))) : w.heap.size ≤ gb)); clear HB; have HB := n0_; have BK := n1_; have GE := n3_; clear n0_ n1_ n3_; clear hb hbox hg; have hcz_0 : w5.cell? ⟨gb, 0, none⟩ = some (.int .i32 0) := (blk_cell BK.out 0).trans rfl; have hcz_1 : w5.cell? ⟨gb, 1, none⟩ = some (.int .i32 0) := (blk_cell BK.out 1).trans rfl; have hcz_2 : w5.cell? ⟨gb, 2, none⟩ = some (.int .i32 0) := (blk_cell BK.out 2).trans rfl; have hcz_3 : w5.cell? ⟨gb, 3, none⟩ = some (.int .i32 0) := (blk_cell BK.out 3).trans rfl; have hcz_4 : w5.cell? ⟨gb, 4, none⟩ = some (.int .i32 0) := (blk_cell BK.out 4).trans rfl; have hfz_0 := blk_frozen BK.out 0; have hfz_1 := blk_frozen BK.out 1; have hfz_2 := blk_frozen BK.out 2; have hfz_3 := blk_frozen BK.out 3; have hfz_4 := blk_frozen BK.out 4))
 refine name_world (fun W => W.heap[gb]? = some (.cells #[.int .i32 0, .int .i32 0, .int .i32 192, .int .i32 224, .int .i32 240] 194 (0, 0)) ∧ Below w.heap.size w W) ⟨?bk, ?be⟩ (fun W ⟨BKW, HBW⟩ => ?_)
 case bk => (with_reducible repeat (first | refine bN ?_ _ | refine bD ?_ | refine bA ?_ _)); refine blk_put (cs := #[.int .i32 0, .int .i32 0, .int .i32 192, .int .i32 224, .int .i32 0]) ?_ 4 _ rfl; (with_reducible repeat (first | refine bN ?_ _ | refine bD ?_ | refine bA ?_ _)); refine blk_put (cs := #[.int .i32 0, .int .i32 0, .int .i32 192, .int .i32 0, .int .i32 0]) ?_ 3 _ rfl; (with_reducible repeat (first | refine bN ?_ _ | refine bD ?_ | refine bA ?_ _)); refine blk_put (cs := #[.int .i32 0, .int .i32 0, .int .i32 0, .int .i32 0, .int .i32 0]) ?_ 2 _ rfl; (with_reducible repeat (first | refine bN ?_ _ | refine bD ?_ | refine bA ?_ _)); refine blk_put (cs := #[.int .i32 0, .int .i32 0, .int .i32 0, .int .i32 0, .int .i32 0]) ?_ 1 _ rfl; (with_reducible repeat (first | refine bN ?_ _ | refine bD ?_ | refine bA ?_ _)); refine blk_put (cs := #[.int .i32 0, .int .i32 0, .int .i32 0, .int .i32 0, .int .i32 0]) ?_ 0 _ rfl; (with_reducible repeat (first | refine bN ?_ _ | refine bD ?_ | refine bA ?_ _)); exact BK.out
 case be => repeat (first | (with_reducible first | exact HB.out | apply wA | apply wN | apply wD | refine below_set ?_ GE.out) | exact HB.out)
 have hk2 : W.cell? ⟨gb, 2, none⟩ = some (.int .i32 192) := (blk_cell BKW 2).trans rfl
 have hk3 : W.cell? ⟨gb, 3, none⟩ = some (.int .i32 224) := (blk_cell BKW 3).trans rfl
 have hk4 : W.cell? ⟨gb, 4, none⟩ = some (.int .i32 240) := (blk_cell BKW 4).trans rfl
 have hxW0 := (HBW.cell (World.block_lt_of_cell? w _ hx0)).trans hx0
 have hxW1 := (HBW.cell (World.block_lt_of_cell? w _ hx1)).trans hx1
 have hxW2 := (HBW.cell (World.block_lt_of_cell? w _ hx2)).trans hx2
 have hxW3 := (HBW.cell (World.block_lt_of_cell? w _ hx3)).trans hx3
 clear HB BK
 go_wp2
 refine wp_loop_rounds 4 ?_
 rw [rounds_succ]
 go_wp2
 rw [rounds_succ]
 go_wp2
 rw [rounds_succ]
 go_wp2
 refine wp_loop_rounds 4 ?_
 rw [rounds_succ]
 go_wp2
 rw [rounds_succ]
 go_wp2
 go_ret
 exact ⟨by first | rfl | (simp [*] <;> rfl), HBW⟩
set_option maxHeartbeats 8000000 in
set_option maxRecDepth 100000 in
theorem num4_lo3 (A0 : Option Addr) (c0 : Nat) (a b c d : Int) (w : World) (hr0 : Kd.C (Kd.int .u8) w A0 4 [a, b, c, d]) (hc0 : 4 ≤ c0) (ha : 0 ≤ a ∧ a < 256) (hb : 0 ≤ b ∧ b < 256) (hc : 0 ≤ c ∧ c < 256) (hd : 0 ≤ d ∧ d < 256) (p0 : ¬ a < 240) (p1 : ¬ 248 ≤ a) (p2 : ¬ b < 128) (p3 : ¬ 192 ≤ b) (p4 : ¬ c < 128) (p5 : ¬ 192 ≤ c) (p6 : d < 128) :
  Calls Tryz.prog 118 #[.slice A0 4 c0] w fun e w' => e = .returned (.int .i32 (-1)) ∧ Below w.heap.size w w' := by
 have HB := ak (Below.refl w.heap.size w)
 obtain ⟨ad, e0, hx0⟩ := Kd.at_int hr0 0 (by decide) (by decide)
 subst e0
 have hx0 : w.cell? ad = some (.int .u8 a) := by have h := hx0; simpa [rd, Addr.add] using h
 obtain ⟨ad1, e1, hx1⟩ := Kd.at_int hr0 1 (by decide) (by decide)
 obtain rfl := Option.some.inj e1
 have hx1 : w.cell? ⟨ad.block, ad.off + 1, none⟩ = some (.int .u8 b) := by have h := hx1; simpa [rd, Addr.add] using h
 obtain ⟨ad2, e2, hx2⟩ := Kd.at_int hr0 2 (by decide) (by decide)
 obtain rfl := Option.some.inj e2
 have hx2 : w.cell? ⟨ad.block, ad.off + 2, none⟩ = some (.int .u8 c) := by have h := hx2; simpa [rd, Addr.add] using h
 obtain ⟨ad3, e3, hx3⟩ := Kd.at_int hr0 3 (by decide) (by decide)
 obtain rfl := Option.some.inj e3
 have hx3 : w.cell? ⟨ad.block, ad.off + 3, none⟩ = some (.int .u8 d) := by have h := hx3; simpa [rd, Addr.add] using h
 have hw_a := fit32 (n := a) (by omega) (by omega)
 have hw_b := fit32 (n := b) (by omega) (by omega)
 have hw_c := fit32 (n := c) (by omega) (by omega)
 have hw_d := fit32 (n := d) (by omega) (by omega)
 have q0 := decide_eq_false p0
 have q1 := decide_eq_false p1
 have q2 := decide_eq_false p2
 have q3 := decide_eq_false p3
 have q4 := decide_eq_false p4
 have q5 := decide_eq_false p5
 have q6 := decide_eq_true p6
 have z0 := fit32 (n := a - 240) (by omega) (by omega)
 have z1a := fit32 (n := 64 * (a - 240)) (by omega) (by omega)
 have z1b := fit32 (n := 64 * (a - 240) + b) (by omega) (by omega)
 have z1c := fit32 (n := 64 * (a - 240) + b - 128) (by omega) (by omega)
 have z2a := fit32 (n := 64 * (64 * (a - 240) + b - 128)) (by omega) (by omega)
 have z2b := fit32 (n := 64 * (64 * (a - 240) + b - 128) + c) (by omega) (by omega)
 have z2c := fit32 (n := 64 * (64 * (a - 240) + b - 128) + c - 128) (by omega) (by omega)
 go_enter Tryz.func118, Tryz.ntmps118
 go_upto_region 3 with (first | ((with_reducible refine gate_dst (N := 4) rfl ?_); refine box_event ?hg (N := 4) ?hd (cs := #[.int .i32 0, .int .i32 0, .int .i32 0, .int .i32 0, .int .i32 0]) (t := 194) ?hr ?_; (case hd => rfl); (case hg => rfl); (case hr => first | (go_simp; done) | (go_simp; rfl)); intro gb hg w5 hbox hb; have n0_ := ak (below_step (by repeat (first | (with_reducible first | exact HB.out | apply wA | apply wN | apply wD) | exact HB.out)) hb); have n1_ := ak (hbox); have n3_ := ak ((by rw [hg]; exact (below_size (by repeat (first | (with_reducible first | exact HB.out | apply wA | apply wN | apply wD) | exact HB.out))) : w.heap.size ≤ gb)); clear HB; have HB := n0_; have BK := n1_; have GE := n3_; clear n0_ n1_ n3_; clear hb hbox hg; have hcz_0 : w5.cell? ⟨gb, 0, none⟩ = some (.int .i32 0) := (blk_cell BK.out 0).trans rfl; have hcz_1 : w5.cell? ⟨gb, 1, none⟩ = some (.int .i32 0) := (blk_cell BK.out 1).trans rfl; have hcz_2 : w5.cell? ⟨gb, 2, none⟩ = some (.int .i32 0) := (blk_cell BK.out 2).trans rfl; have hcz_3 : w5.cell? ⟨gb, 3, none⟩ = some (.int .i32 0) := (blk_cell BK.out 3).trans rfl; have hcz_4 : w5.cell? ⟨gb, 4, none⟩ = some (.int .i32 0) := (blk_cell BK.out 4).trans rfl; have hfz_0 := blk_frozen BK.out 0; have hfz_1 := blk_frozen BK.out 1; have hfz_2 := blk_frozen BK.out 2; have hfz_3 := blk_frozen BK.out 3; have hfz_4 := blk_frozen BK.out 4))
 refine name_world (fun W => W.heap[gb]? = some (.cells #[.int .i32 0, .int .i32 0, .int .i32 192, .int .i32 224, .int .i32 240] 194 (0, 0)) ∧ Below w.heap.size w W) ⟨?bk, ?be⟩ (fun W ⟨BKW, HBW⟩ => ?_)
 case bk => (with_reducible repeat (first | refine bN ?_ _ | refine bD ?_ | refine bA ?_ _)); refine blk_put (cs := #[.int .i32 0, .int .i32 0, .int .i32 192, .int .i32 224, .int .i32 0]) ?_ 4 _ rfl; (with_reducible repeat (first | refine bN ?_ _ | refine bD ?_ | refine bA ?_ _)); refine blk_put (cs := #[.int .i32 0, .int .i32 0, .int .i32 192, .int .i32 0, .int .i32 0]) ?_ 3 _ rfl; (with_reducible repeat (first | refine bN ?_ _ | refine bD ?_ | refine bA ?_ _)); refine blk_put (cs := #[.int .i32 0, .int .i32 0, .int .i32 0, .int .i32 0, .int .i32 0]) ?_ 2 _ rfl; (with_reducible repeat (first | refine bN ?_ _ | refine bD ?_ | refine bA ?_ _)); refine blk_put (cs := #[.int .i32 0, .int .i32 0, .int .i32 0, .int .i32 0, .int .i32 0]) ?_ 1 _ rfl; (with_reducible repeat (first | refine bN ?_ _ | refine bD ?_ | refine bA ?_ _)); refine blk_put (cs := #[.int .i32 0, .int .i32 0, .int .i32 0, .int .i32 0, .int .i32 0]) ?_ 0 _ rfl; (with_reducible repeat (first | refine bN ?_ _ | refine bD ?_ | refine bA ?_ _)); exact BK.out
 case be => repeat (first | (with_reducible first | exact HB.out | apply wA | apply wN | apply wD | refine below_set ?_ GE.out) | exact HB.out)
 have hk2 : W.cell? ⟨gb, 2, none⟩ = some (.int .i32 192) := (blk_cell BKW 2).trans rfl
 have hk3 : W.cell? ⟨gb, 3, none⟩ = some (.int .i32 224) := (blk_cell BKW 3).trans rfl
 have hk4 : W.cell? ⟨gb, 4, none⟩ = some (.int .i32 240) := (blk_cell BKW 4).trans rfl
 have hxW0 := (HBW.cell (World.block_lt_of_cell? w _ hx0)).trans hx0
 have hxW1 := (HBW.cell (World.block_lt_of_cell? w _ hx1)).trans hx1
 have hxW2 := (HBW.cell (World.block_lt_of_cell? w _ hx2)).trans hx2
 have hxW3 := (HBW.cell (World.block_lt_of_cell? w _ hx3)).trans hx3
 clear HB BK
 go_wp2
 refine wp_loop_rounds 4 ?_
 rw [rounds_succ]
 go_wp2
 rw [rounds_succ]
 go_wp2
 rw [rounds_succ]
 go_wp2
 refine wp_loop_rounds 4 ?_
 rw [rounds_succ]
 go_wp2
 rw [rounds_succ]
 go_wp2
 rw [rounds_succ]
 go_wp2
 go_ret
 exact ⟨by first | rfl | (simp [*] <;> rfl), HBW⟩
set_option maxHeartbeats 8000000 in
set_option maxRecDepth 100000 in
theorem num4_hi3 (A0 : Option Addr) (c0 : Nat) (a b c d : Int) (w : World) (hr0 : Kd.C (Kd.int .u8) w A0 4 [a, b, c, d]) (hc0 : 4 ≤ c0) (ha : 0 ≤ a ∧ a < 256) (hb : 0 ≤ b ∧ b < 256) (hc : 0 ≤ c ∧ c < 256) (hd : 0 ≤ d ∧ d < 256) (p0 : ¬ a < 240) (p1 : ¬ 248 ≤ a) (p2 : ¬ b < 128) (p3 : ¬ 192 ≤ b) (p4 : ¬ c < 128) (p5 : ¬ 192 ≤ c) (p6 : ¬ d < 128) (p7 : 192 ≤ d) :
  Calls Tryz.prog 118 #[.slice A0 4 c0] w fun e w' => e = .returned (.int .i32 (-1)) ∧ Below w.heap.size w w' := by
 have HB := ak (Below.refl w.heap.size w)
 obtain ⟨ad, e0, hx0⟩ := Kd.at_int hr0 0 (by decide) (by decide)
 subst e0
 have hx0 : w.cell? ad = some (.int .u8 a) := by have h := hx0; simpa [rd, Addr.add] using h
 obtain ⟨ad1, e1, hx1⟩ := Kd.at_int hr0 1 (by decide) (by decide)
 obtain rfl := Option.some.inj e1
 have hx1 : w.cell? ⟨ad.block, ad.off + 1, none⟩ = some (.int .u8 b) := by have h := hx1; simpa [rd, Addr.add] using h
 obtain ⟨ad2, e2, hx2⟩ := Kd.at_int hr0 2 (by decide) (by decide)
 obtain rfl := Option.some.inj e2
 have hx2 : w.cell? ⟨ad.block, ad.off + 2, none⟩ = some (.int .u8 c) := by have h := hx2; simpa [rd, Addr.add] using h
 obtain ⟨ad3, e3, hx3⟩ := Kd.at_int hr0 3 (by decide) (by decide)
 obtain rfl := Option.some.inj e3
 have hx3 : w.cell? ⟨ad.block, ad.off + 3, none⟩ = some (.int .u8 d) := by have h := hx3; simpa [rd, Addr.add] using h
 have hw_a := fit32 (n := a) (by omega) (by omega)
 have hw_b := fit32 (n := b) (by omega) (by omega)
 have hw_c := fit32 (n := c) (by omega) (by omega)
 have hw_d := fit32 (n := d) (by omega) (by omega)
 have q0 := decide_eq_false p0
 have q1 := decide_eq_false p1
 have q2 := decide_eq_false p2
 have q3 := decide_eq_false p3
 have q4 := decide_eq_false p4
 have q5 := decide_eq_false p5
 have q6 := decide_eq_false p6
 have q7 := decide_eq_true p7
 have z0 := fit32 (n := a - 240) (by omega) (by omega)
 have z1a := fit32 (n := 64 * (a - 240)) (by omega) (by omega)
 have z1b := fit32 (n := 64 * (a - 240) + b) (by omega) (by omega)
 have z1c := fit32 (n := 64 * (a - 240) + b - 128) (by omega) (by omega)
 have z2a := fit32 (n := 64 * (64 * (a - 240) + b - 128)) (by omega) (by omega)
 have z2b := fit32 (n := 64 * (64 * (a - 240) + b - 128) + c) (by omega) (by omega)
 have z2c := fit32 (n := 64 * (64 * (a - 240) + b - 128) + c - 128) (by omega) (by omega)
 go_enter Tryz.func118, Tryz.ntmps118
 go_upto_region 3 with (first | ((with_reducible refine gate_dst (N := 4) rfl ?_); refine box_event ?hg (N := 4) ?hd (cs := #[.int .i32 0, .int .i32 0, .int .i32 0, .int .i32 0, .int .i32 0]) (t := 194) ?hr ?_; (case hd => rfl); (case hg => rfl); (case hr => first | (go_simp; done) | (go_simp; rfl)); intro gb hg w5 hbox hb; have n0_ := ak (below_step (by repeat (first | (with_reducible first | exact HB.out | apply wA | apply wN | apply wD) | exact HB.out)) hb); have n1_ := ak (hbox); have n3_ := ak ((by rw [hg]; exact (below_size (by repeat (first | (with_reducible first | exact HB.out | apply wA | apply wN | apply wD) | exact HB.out))) : w.heap.size ≤ gb)); clear HB; have HB := n0_; have BK := n1_; have GE := n3_; clear n0_ n1_ n3_; clear hb hbox hg; have hcz_0 : w5.cell? ⟨gb, 0, none⟩ = some (.int .i32 0) := (blk_cell BK.out 0).trans rfl; have hcz_1 : w5.cell? ⟨gb, 1, none⟩ = some (.int .i32 0) := (blk_cell BK.out 1).trans rfl; have hcz_2 : w5.cell? ⟨gb, 2, none⟩ = some (.int .i32 0) := (blk_cell BK.out 2).trans rfl; have hcz_3 : w5.cell? ⟨gb, 3, none⟩ = some (.int .i32 0) := (blk_cell BK.out 3).trans rfl; have hcz_4 : w5.cell? ⟨gb, 4, none⟩ = some (.int .i32 0) := (blk_cell BK.out 4).trans rfl; have hfz_0 := blk_frozen BK.out 0; have hfz_1 := blk_frozen BK.out 1; have hfz_2 := blk_frozen BK.out 2; have hfz_3 := blk_frozen BK.out 3; have hfz_4 := blk_frozen BK.out 4))
 refine name_world (fun W => W.heap[gb]? = some (.cells #[.int .i32 0, .int .i32 0, .int .i32 192, .int .i32 224, .int .i32 240] 194 (0, 0)) ∧ Below w.heap.size w W) ⟨?bk, ?be⟩ (fun W ⟨BKW, HBW⟩ => ?_)
 case bk => (with_reducible repeat (first | refine bN ?_ _ | refine bD ?_ | refine bA ?_ _)); refine blk_put (cs := #[.int .i32 0, .int .i32 0, .int .i32 192, .int .i32 224, .int .i32 0]) ?_ 4 _ rfl; (with_reducible repeat (first | refine bN ?_ _ | refine bD ?_ | refine bA ?_ _)); refine blk_put (cs := #[.int .i32 0, .int .i32 0, .int .i32 192, .int .i32 0, .int .i32 0]) ?_ 3 _ rfl; (with_reducible repeat (first | refine bN ?_ _ | refine bD ?_ | refine bA ?_ _)); refine blk_put (cs := #[.int .i32 0, .int .i32 0, .int .i32 0, .int .i32 0, .int .i32 0]) ?_ 2 _ rfl; (with_reducible repeat (first | refine bN ?_ _ | refine bD ?_ | refine bA ?_ _)); refine blk_put (cs := #[.int .i32 0, .int .i32 0, .int .i32 0, .int .i32 0, .int .i32 0]) ?_ 1 _ rfl; (with_reducible repeat (first | refine bN ?_ _ | refine bD ?_ | refine bA ?_ _)); refine blk_put (cs := #[.int .i32 0, .int .i32 0, .int .i32 0, .int .i32 0, .int .i32 0]) ?_ 0 _ rfl; (with_reducible repeat (first | refine bN ?_ _ | refine bD ?_ | refine bA ?_ _)); exact BK.out
 case be => repeat (first | (with_reducible first | exact HB.out | apply wA | apply wN | apply wD | refine below_set ?_ GE.out) | exact HB.out)
 have hk2 : W.cell? ⟨gb, 2, none⟩ = some (.int .i32 192) := (blk_cell BKW 2).trans rfl
 have hk3 : W.cell? ⟨gb, 3, none⟩ = some (.int .i32 224) := (blk_cell BKW 3).trans rfl
 have hk4 : W.cell? ⟨gb, 4, none⟩ = some (.int .i32 240) := (blk_cell BKW 4).trans rfl
 have hxW0 := (HBW.cell (World.block_lt_of_cell? w _ hx0)).trans hx0
 have hxW1 := (HBW.cell (World.block_lt_of_cell? w _ hx1)).trans hx1
 have hxW2 := (HBW.cell (World.block_lt_of_cell? w _ hx2)).trans hx2
 have hxW3 := (HBW.cell (World.block_lt_of_cell? w _ hx3)).trans hx3
 clear HB BK
 go_wp2
 refine wp_loop_rounds 4 ?_
 rw [rounds_succ]
 go_wp2
 rw [rounds_succ]
 go_wp2
 rw [rounds_succ]
 go_wp2
 refine wp_loop_rounds 4 ?_
 rw [rounds_succ]
 go_wp2
 rw [rounds_succ]
 go_wp2
 rw [rounds_succ]
 go_wp2
 go_ret
 exact ⟨by first | rfl | (simp [*] <;> rfl), HBW⟩
set_option maxHeartbeats 8000000 in
set_option maxRecDepth 100000 in
theorem num4_all (A0 : Option Addr) (c0 : Nat) (a b c d : Int) (w : World) (hr0 : Kd.C (Kd.int .u8) w A0 4 [a, b, c, d]) (hc0 : 4 ≤ c0) (ha : 0 ≤ a ∧ a < 256) (hb : 0 ≤ b ∧ b < 256) (hc : 0 ≤ c ∧ c < 256) (hd : 0 ≤ d ∧ d < 256) (p0 : ¬ a < 240) (p1 : ¬ 248 ≤ a) (p2 : ¬ b < 128) (p3 : ¬ 192 ≤ b) (p4 : ¬ c < 128) (p5 : ¬ 192 ≤ c) (p6 : ¬ d < 128) (p7 : ¬ 192 ≤ d) :
  Calls Tryz.prog 118 #[.slice A0 4 c0] w fun e w' => e = .returned (.int .i32 ((64 * (64 * (64 * (a - 240) + b - 128) + c - 128) + d - 128))) ∧ Below w.heap.size w w' := by
 have HB := ak (Below.refl w.heap.size w)
 obtain ⟨ad, e0, hx0⟩ := Kd.at_int hr0 0 (by decide) (by decide)
 subst e0
 have hx0 : w.cell? ad = some (.int .u8 a) := by have h := hx0; simpa [rd, Addr.add] using h
 obtain ⟨ad1, e1, hx1⟩ := Kd.at_int hr0 1 (by decide) (by decide)
 obtain rfl := Option.some.inj e1
 have hx1 : w.cell? ⟨ad.block, ad.off + 1, none⟩ = some (.int .u8 b) := by have h := hx1; simpa [rd, Addr.add] using h
 obtain ⟨ad2, e2, hx2⟩ := Kd.at_int hr0 2 (by decide) (by decide)
 obtain rfl := Option.some.inj e2
 have hx2 : w.cell? ⟨ad.block, ad.off + 2, none⟩ = some (.int .u8 c) := by have h := hx2; simpa [rd, Addr.add] using h
 obtain ⟨ad3, e3, hx3⟩ := Kd.at_int hr0 3 (by decide) (by decide)
 obtain rfl := Option.some.inj e3
 have hx3 : w.cell? ⟨ad.block, ad.off + 3, none⟩ = some (.int .u8 d) := by have h := hx3; simpa [rd, Addr.add] using h
 have hw_a := fit32 (n := a) (by omega) (by omega)
 have hw_b := fit32 (n := b) (by omega) (by omega)
 have hw_c := fit32 (n := c) (by omega) (by omega)
 have hw_d := fit32 (n := d) (by omega) (by omega)
 have q0 := decide_eq_false p0
 have q1 := decide_eq_false p1
 have q2 := decide_eq_false p2
 have q3 := decide_eq_false p3
 have q4 := decide_eq_false p4
 have q5 := decide_eq_false p5
 have q6 := decide_eq_false p6
 have q7 := decide_eq_false p7
 have z0 := fit32 (n := a - 240) (by omega) (by omega)
 have z1a := fit32 (n := 64 * (a - 240)) (by omega) (by omega)
 have z1b := fit32 (n := 64 * (a - 240) + b) (by omega) (by omega)
 have z1c := fit32 (n := 64 * (a - 240) + b - 128) (by omega) (by omega)
 have z2a := fit32 (n := 64 * (64 * (a - 240) + b - 128)) (by omega) (by omega)
 have z2b := fit32 (n := 64 * (64 * (a - 240) + b - 128) + c) (by omega) (by omega)
 have z2c := fit32 (n := 64 * (64 * (a - 240) + b - 128) + c - 128) (by omega) (by omega)
 have z3a := fit32 (n := 64 * (64 * (64 * (a - 240) + b - 128) + c - 128)) (by omega) (by omega)
 have z3b := fit32 (n := 64 * (64 * (64 * (a - 240) + b - 128) + c - 128) + d) (by omega) (by omega)
 have z3c := fit32 (n := 64 * (64 * (64 * (a - 240) + b - 128) + c - 128) + d - 128) (by omega) (by omega)
 go_enter Tryz.func118, Tryz.ntmps118
 go_upto_region 3 with (first | ((with_reducible refine gate_dst (N := 4) rfl ?_); refine box_event ?hg (N := 4) ?hd (cs := #[.int .i32 0, .int .i32 0, .int .i32 0, .int .i32 0, .int .i32 0]) (t := 194) ?hr ?_; (case hd => rfl); (case hg => rfl); (case hr => first | (go_simp; done) | (go_simp; rfl)); intro gb hg w5 hbox hb; have n0_ := ak (below_step (by repeat (first | (with_reducible first | exact HB.out | apply wA | apply wN | apply wD) | exact HB.out)) hb); have n1_ := ak (hbox); have n3_ := ak ((by rw [hg]; exact (below_size (by repeat (first | (with_reducible first | exact HB.out | apply wA | apply wN | apply wD) | exact HB.out))) : w.heap.size ≤ gb)); clear HB; have HB := n0_; have BK := n1_; have GE := n3_; clear n0_ n1_ n3_; clear hb hbox hg; have hcz_0 : w5.cell? ⟨gb, 0, none⟩ = some (.int .i32 0) := (blk_cell BK.out 0).trans rfl; have hcz_1 : w5.cell? ⟨gb, 1, none⟩ = some (.int .i32 0) := (blk_cell BK.out 1).trans rfl; have hcz_2 : w5.cell? ⟨gb, 2, none⟩ = some (.int .i32 0) := (blk_cell BK.out 2).trans rfl; have hcz_3 : w5.cell? ⟨gb, 3, none⟩ = some (.int .i32 0) := (blk_cell BK.out 3).trans rfl; have hcz_4 : w5.cell? ⟨gb, 4, none⟩ = some (.int .i32 0) := (blk_cell BK.out 4).trans rfl; have hfz_0 := blk_frozen BK.out 0; have hfz_1 := blk_frozen BK.out 1; have hfz_2 := blk_frozen BK.out 2; have hfz_3 := blk_frozen BK.out 3; have hfz_4 := blk_frozen BK.out 4))
 refine name_world (fun W => W.heap[gb]? = some (.cells #[.int .i32 0, .int .i32 0, .int .i32 192, .int .i32 224, .int .i32 240] 194 (0, 0)) ∧ Below w.heap.size w W) ⟨?bk, ?be⟩ (fun W ⟨BKW, HBW⟩ => ?_)
 case bk => (with_reducible repeat (first | refine bN ?_ _ | refine bD ?_ | refine bA ?_ _)); refine blk_put (cs := #[.int .i32 0, .int .i32 0, .int .i32 192, .int .i32 224, .int .i32 0]) ?_ 4 _ rfl; (with_reducible repeat (first | refine bN ?_ _ | refine bD ?_ | refine bA ?_ _)); refine blk_put (cs := #[.int .i32 0, .int .i32 0, .int .i32 192, .int .i32 0, .int .i32 0]) ?_ 3 _ rfl; (with_reducible repeat (first | refine bN ?_ _ | refine bD ?_ | refine bA ?_ _)); refine blk_put (cs := #[.int .i32 0, .int .i32 0, .int .i32 0, .int .i32 0, .int .i32 0]) ?_ 2 _ rfl; (with_reducible repeat (first | refine bN ?_ _ | refine bD ?_ | refine bA ?_ _)); refine blk_put (cs := #[.int .i32 0, .int .i32 0, .int .i32 0, .int .i32 0, .int .i32 0]) ?_ 1 _ rfl; (with_reducible repeat (first | refine bN ?_ _ | refine bD ?_ | refine bA ?_ _)); refine blk_put (cs := #[.int .i32 0, .int .i32 0, .int .i32 0, .int .i32 0, .int .i32 0]) ?_ 0 _ rfl; (with_reducible repeat (first | refine bN ?_ _ | refine bD ?_ | refine bA ?_ _)); exact BK.out
 case be => repeat (first | (with_reducible first | exact HB.out | apply wA | apply wN | apply wD | refine below_set ?_ GE.out) | exact HB.out)
 have hk2 : W.cell? ⟨gb, 2, none⟩ = some (.int .i32 192) := (blk_cell BKW 2).trans rfl
 have hk3 : W.cell? ⟨gb, 3, none⟩ = some (.int .i32 224) := (blk_cell BKW 3).trans rfl
 have hk4 : W.cell? ⟨gb, 4, none⟩ = some (.int .i32 240) := (blk_cell BKW 4).trans rfl
 have hxW0 := (HBW.cell (World.block_lt_of_cell? w _ hx0)).trans hx0
 have hxW1 := (HBW.cell (World.block_lt_of_cell? w _ hx1)).trans hx1
 have hxW2 := (HBW.cell (World.block_lt_of_cell? w _ hx2)).trans hx2
 have hxW3 := (HBW.cell (World.block_lt_of_cell? w _ hx3)).trans hx3
 clear HB BK
 go_wp2
 refine wp_loop_rounds 4 ?_
 rw [rounds_succ]
 go_wp2
 rw [rounds_succ]
 go_wp2
 rw [rounds_succ]
 go_wp2
 refine wp_loop_rounds 4 ?_
 rw [rounds_succ]
 go_wp2
 rw [rounds_succ]
 go_wp2
 rw [rounds_succ]
 go_wp2
 rw [rounds_succ]
 go_wp2
 go_ret
 exact ⟨by first | rfl | (simp [*] <;> rfl), HBW⟩
def mummerref02_number.f : List Int → Option Int
 | [a] => if (0 ≤ a ∧ a < 256) then some (if a < 128 then a else -1) else none
 | [a, b] => if (0 ≤ a ∧ a < 256) ∧ (0 ≤ b ∧ b < 256) then some (if a < 192 then -1 else (if 224 ≤ a then -1 else (if b < 128 then -1 else (if 192 ≤ b then -1 else (64 * (a - 192) + b - 128))))) else none
 | [a, b, c] => if (0 ≤ a ∧ a < 256) ∧ (0 ≤ b ∧ b < 256) ∧ (0 ≤ c ∧ c < 256) then some (if a < 224 then -1 else (if 240 ≤ a then -1 else (if b < 128 then -1 else (if 192 ≤ b then -1 else (if c < 128 then -1 else (if 192 ≤ c then -1 else (64 * (64 * (a - 224) + b - 128) + c - 128))))))) else none
 | [a, b, c, d] => if (0 ≤ a ∧ a < 256) ∧ (0 ≤ b ∧ b < 256) ∧ (0 ≤ c ∧ c < 256) ∧ (0 ≤ d ∧ d < 256) then some (if a < 240 then -1 else (if 248 ≤ a then -1 else (if b < 128 then -1 else (if 192 ≤ b then -1 else (if c < 128 then -1 else (if 192 ≤ c then -1 else (if d < 128 then -1 else (if 192 ≤ d then -1 else (64 * (64 * (64 * (a - 240) + b - 128) + c - 128) + d - 128))))))))) else none
 | _ => none
theorem mummerref02_number.calls (A0 : Option Addr) (c0 : Nat) (l0 : List Int) (r : Int) (w : World) (hr0 : Kd.C (Kd.int .u8) w A0 l0.length l0) (hc0 : l0.length ≤ c0) (h : mummerref02_number.f l0 = some r) :
  Calls Tryz.prog 118 #[.slice A0 l0.length c0] w fun e w' => e = .returned (.int .i32 r) ∧ Below w.heap.size w w' := by
 match l0, hr0, hc0, h with
 | [], _, _, h => cases h
 | _ :: _ :: _ :: _ :: _ :: _, _, _, h => cases h
 | [a], hr0, hc0, h =>
  simp only [mummerref02_number.f] at h
  by_cases hb : (0 ≤ a ∧ a < 256)
  ·rw [if_pos hb] at h
   obtain rfl := Option.some.inj h
   have ha := hb
   by_cases p0 : a < 128
   ·rw [if_pos p0]; exact num1_lo A0 c0 a w hr0 hc0 ha p0
   ·rw [if_neg p0]; exact num1_hi A0 c0 a w hr0 hc0 ha p0
  ·rw [if_neg hb] at h; cases h
 | [a, b], hr0, hc0, h =>
  simp only [mummerref02_number.f] at h
  by_cases hb : (0 ≤ a ∧ a < 256) ∧ (0 ≤ b ∧ b < 256)
  ·rw [if_pos hb] at h
   obtain rfl := Option.some.inj h
   obtain ⟨ha, hb⟩ := hb
   by_cases p0 : a < 192
   ·rw [if_pos p0]; exact num2_below A0 c0 a b w hr0 hc0 ha hb p0
   rw [if_neg p0]
   by_cases p1 : 224 ≤ a
   ·rw [if_pos p1]; exact num2_above A0 c0 a b w hr0 hc0 ha hb p0 p1
   rw [if_neg p1]
   by_cases u1 : b < 128
   ·rw [if_pos u1]; exact num2_lo1 A0 c0 a b w hr0 hc0 ha hb p0 p1 u1
   rw [if_neg u1]
   by_cases v1 : 192 ≤ b
   ·rw [if_pos v1]; exact num2_hi1 A0 c0 a b w hr0 hc0 ha hb p0 p1 u1 v1
   rw [if_neg v1]
   exact num2_all A0 c0 a b w hr0 hc0 ha hb p0 p1 u1 v1
  ·rw [if_neg hb] at h; cases h
 | [a, b, c], hr0, hc0, h =>
  simp only [mummerref02_number.f] at h
  by_cases hb : (0 ≤ a ∧ a < 256) ∧ (0 ≤ b ∧ b < 256) ∧ (0 ≤ c ∧ c < 256)
  ·rw [if_pos hb] at h
   obtain rfl := Option.some.inj h
   obtain ⟨ha, hb, hc⟩ := hb
   by_cases p0 : a < 224
   ·rw [if_pos p0]; exact num3_below A0 c0 a b c w hr0 hc0 ha hb hc p0
   rw [if_neg p0]
   by_cases p1 : 240 ≤ a
   ·rw [if_pos p1]; exact num3_above A0 c0 a b c w hr0 hc0 ha hb hc p0 p1
   rw [if_neg p1]
   by_cases u1 : b < 128
   ·rw [if_pos u1]; exact num3_lo1 A0 c0 a b c w hr0 hc0 ha hb hc p0 p1 u1
   rw [if_neg u1]
   by_cases v1 : 192 ≤ b
   ·rw [if_pos v1]; exact num3_hi1 A0 c0 a b c w hr0 hc0 ha hb hc p0 p1 u1 v1
   rw [if_neg v1]
   by_cases u2 : c < 128
   ·rw [if_pos u2]; exact num3_lo2 A0 c0 a b c w hr0 hc0 ha hb hc p0 p1 u1 v1 u2
   rw [if_neg u2]
   by_cases v2 : 192 ≤ c
   ·rw [if_pos v2]; exact num3_hi2 A0 c0 a b c w hr0 hc0 ha hb hc p0 p1 u1 v1 u2 v2
   rw [if_neg v2]
   exact num3_all A0 c0 a b c w hr0 hc0 ha hb hc p0 p1 u1 v1 u2 v2
  ·rw [if_neg hb] at h; cases h
 | [a, b, c, d], hr0, hc0, h =>
  simp only [mummerref02_number.f] at h
  by_cases hb : (0 ≤ a ∧ a < 256) ∧ (0 ≤ b ∧ b < 256) ∧ (0 ≤ c ∧ c < 256) ∧ (0 ≤ d ∧ d < 256)
  ·rw [if_pos hb] at h
   obtain rfl := Option.some.inj h
   obtain ⟨ha, hb, hc, hd⟩ := hb
   by_cases p0 : a < 240
   ·rw [if_pos p0]; exact num4_below A0 c0 a b c d w hr0 hc0 ha hb hc hd p0
   rw [if_neg p0]
   by_cases p1 : 248 ≤ a
   ·rw [if_pos p1]; exact num4_above A0 c0 a b c d w hr0 hc0 ha hb hc hd p0 p1
   rw [if_neg p1]
   by_cases u1 : b < 128
   ·rw [if_pos u1]; exact num4_lo1 A0 c0 a b c d w hr0 hc0 ha hb hc hd p0 p1 u1
   rw [if_neg u1]
   by_cases v1 : 192 ≤ b
   ·rw [if_pos v1]; exact num4_hi1 A0 c0 a b c d w hr0 hc0 ha hb hc hd p0 p1 u1 v1
   rw [if_neg v1]
   by_cases u2 : c < 128
   ·rw [if_pos u2]; exact num4_lo2 A0 c0 a b c d w hr0 hc0 ha hb hc hd p0 p1 u1 v1 u2
   rw [if_neg u2]
   by_cases v2 : 192 ≤ c
   ·rw [if_pos v2]; exact num4_hi2 A0 c0 a b c d w hr0 hc0 ha hb hc hd p0 p1 u1 v1 u2 v2
   rw [if_neg v2]
   by_cases u3 : d < 128
   ·rw [if_pos u3]; exact num4_lo3 A0 c0 a b c d w hr0 hc0 ha hb hc hd p0 p1 u1 v1 u2 v2 u3
   rw [if_neg u3]
   by_cases v3 : 192 ≤ d
   ·rw [if_pos v3]; exact num4_hi3 A0 c0 a b c d w hr0 hc0 ha hb hc hd p0 p1 u1 v1 u2 v2 u3 v3
   rw [if_neg v3]
   exact num4_all A0 c0 a b c d w hr0 hc0 ha hb hc hd p0 p1 u1 v1 u2 v2 u3 v3
  ·rw [if_neg hb] at h; cases h
end Go.Proofs.YtdjkdlbokepoaaaGreatDoor.P
namespace Go.Proofs.YtdjkdlbokepoaaaGreatDoor.P
open Go.RowKit YtdjkdlbokepoaaaGreatDoorW.PrintWords YtdjkdlbokepoaaaGreatDoorW.PrintLast YtdjkdlbokepoaaaGreatDoorW.PrintMore
attribute [local go_sem] max2_int min2_int max_two min_two max_three min_three max_four min_four
set_option linter.unusedVariables false
set_option linter.unusedSimpArgs false
def mummerref02_Is.f (a0 : Int) : Option (Bool) := if a0 ≥ 0 then (if a0 ≤ 1114111 then (if a0 < 55296 then (some true) else (some (decide (a0 > 57343)))) else (some false)) else (some false)
set_option maxHeartbeats 8000000 in
set_option maxRecDepth 100000 in
theorem mummerref02_Is.calls (a0 : Int) (r : Bool) (w : World) (h : mummerref02_Is.f a0 = some r) :
  Calls Tryz.prog 119 #[.int .i32 a0] w fun e w' => e = .returned (.bool r) ∧ Drawn0 w w' := by
 have H : (if a0 ≥ 0 then (if a0 ≤ 1114111 then (if a0 < 55296 then (some true) else (some (decide (a0 > 57343)))) else (some false)) else (some false)) = some r := h
 clear h
 by_cases c2 : a0 ≥ 0
 ·rw [if_pos c2] at H
  have c2b0 : decide (0 ≤ a0) = true := decide_eq_true c2
  clear c2
  by_cases c3 : a0 ≤ 1114111
  ·rw [if_pos c3] at H
   have c3b0 : decide (a0 ≤ 1114111) = true := decide_eq_true c3
   clear c3
   by_cases c4 : a0 < 55296
   ·rw [if_pos c4] at H
    have c4b0 : decide (a0 < 55296) = true := decide_eq_true c4
    clear c4
    obtain rfl := Option.some.inj H
    go_enter Tryz.func119, Tryz.ntmps119
    go_wp2
    go_ret
    exact ⟨by first | rfl | (simp; done) | (simp [*]; done), by repeat (first | exact Drawn0.refl _ | apply Drawn0.step)⟩
   ·rw [if_neg c4] at H
    have c4b0 : decide (a0 < 55296) = false := decide_eq_false c4
    clear c4
    obtain rfl := Option.some.inj H
    go_enter Tryz.func119, Tryz.ntmps119
    go_wp2
    go_ret
    exact ⟨by first | rfl | (simp; done) | (simp [*]; done), by repeat (first | exact Drawn0.refl _ | apply Drawn0.step)⟩
  ·rw [if_neg c3] at H
   have c3b0 : decide (a0 ≤ 1114111) = false := decide_eq_false c3
   clear c3
   obtain rfl := Option.some.inj H
   go_enter Tryz.func119, Tryz.ntmps119
   go_wp2
   go_ret
   exact ⟨by first | rfl | (simp; done) | (simp [*]; done), by repeat (first | exact Drawn0.refl _ | apply Drawn0.step)⟩
 ·rw [if_neg c2] at H
  have c2b0 : decide (0 ≤ a0) = false := decide_eq_false c2
  clear c2
  obtain rfl := Option.some.inj H
  go_enter Tryz.func119, Tryz.ntmps119
  go_wp2
  go_ret
  exact ⟨by first | rfl | (simp; done) | (simp [*]; done), by repeat (first | exact Drawn0.refl _ | apply Drawn0.step)⟩
def mummerref02_Encode.f (a0 : Int) : Option (List Int × Int) := (mummerref02_Is.f a0).bind fun t160 => (if t160 = true then (if a0 < 128 then (some ((([(a0) % 256] : List Int)), 0)) else (if a0 < 2048 then (some ((([(wrap32 (192 + (wrap32 (Int.tdiv a0 64)))) % 256, (wrap32 (128 + (Int.tmod a0 64))) % 256] : List Int)), 0)) else (if a0 < 65536 then (some ((([(wrap32 (224 + (wrap32 (Int.tdiv a0 4096)))) % 256, (wrap32 (128 + (Int.tmod (wrap32 (Int.tdiv a0 64)) 64))) % 256, (wrap32 (128 + (Int.tmod a0 64))) % 256] : List Int)), 0)) else (some ((([(wrap32 (240 + (wrap32 (Int.tdiv a0 262144)))) % 256, (wrap32 (128 + (Int.tmod (wrap32 (Int.tdiv a0 4096)) 64))) % 256, (wrap32 (128 + (Int.tmod (wrap32 (Int.tdiv a0 64)) 64))) % 256, (wrap32 (128 + (Int.tmod a0 64))) % 256] : List Int)), 0))))) else (some (([] : List Int), 7)))
set_option maxHeartbeats 8000000 in
set_option maxRecDepth 100000 in
theorem mummerref02_Encode.calls (a0 : Int) (r1 : List Int) (r2 : Int) (w : World) (h : mummerref02_Encode.f a0 = some (r1, r2)) :
  Calls Tryz.prog 120 #[.int .i32 a0] w fun e w' => ∃ v0_ : Value, e = .returned (.tuple #[v0_, .int .i64 r2]) ∧ Kd.R (Kd.int .u8) 5 w' w.heap.size (fun _ => True) v0_ r1 ∧ Below w.heap.size w w' := by
 have HB := ak (Below.refl w.heap.size w)
 have H : ((mummerref02_Is.f a0).bind fun t160 => (if t160 = true then (if a0 < 128 then (some ((([(a0) % 256] : List Int)), 0)) else (if a0 < 2048 then (some ((([(wrap32 (192 + (wrap32 (Int.tdiv a0 64)))) % 256, (wrap32 (128 + (Int.tmod a0 64))) % 256] : List Int)), 0)) else (if a0 < 65536 then (some ((([(wrap32 (224 + (wrap32 (Int.tdiv a0 4096)))) % 256, (wrap32 (128 + (Int.tmod (wrap32 (Int.tdiv a0 64)) 64))) % 256, (wrap32 (128 + (Int.tmod a0 64))) % 256] : List Int)), 0)) else (some ((([(wrap32 (240 + (wrap32 (Int.tdiv a0 262144)))) % 256, (wrap32 (128 + (Int.tmod (wrap32 (Int.tdiv a0 4096)) 64))) % 256, (wrap32 (128 + (Int.tmod (wrap32 (Int.tdiv a0 64)) 64))) % 256, (wrap32 (128 + (Int.tmod a0 64))) % 256] : List Int)), 0))))) else (some (([] : List Int), 7)))) = some (r1, r2) := h
 clear h
 replace H := Option.bind_eq_some_iff.mp H
 obtain ⟨t160, A20, H⟩ := H
 try dsimp only at H
 have A2 := ak A20
 clear A20
 by_cases c3 : t160 = true
 ·subst c3
  have H1 : (if a0 < 128 then (some ((([(a0) % 256] : List Int)), 0)) else (if a0 < 2048 then (some ((([(wrap32 (192 + (wrap32 (Int.tdiv a0 64)))) % 256, (wrap32 (128 + (Int.tmod a0 64))) % 256] : List Int)), 0)) else (if a0 < 65536 then (some ((([(wrap32 (224 + (wrap32 (Int.tdiv a0 4096)))) % 256, (wrap32 (128 + (Int.tmod (wrap32 (Int.tdiv a0 64)) 64))) % 256, (wrap32 (128 + (Int.tmod a0 64))) % 256] : List Int)), 0)) else (some ((([(wrap32 (240 + (wrap32 (Int.tdiv a0 262144)))) % 256, (wrap32 (128 + (Int.tmod (wrap32 (Int.tdiv a0 4096)) 64))) % 256, (wrap32 (128 + (Int.tmod (wrap32 (Int.tdiv a0 64)) 64))) % 256, (wrap32 (128 + (Int.tmod a0 64))) % 256] : List Int)), 0))))) = some (r1, r2) := by rw [if_pos rfl] at H; exact H
  clear H
  have H := H1
  clear H1
  by_cases c4 : a0 < 128
  ·rw [if_pos c4] at H
   have c4b0 : decide (a0 < 128) = true := decide_eq_true c4
   clear c4
   obtain ⟨y161, hy161⟩ : ∃ y_ : List Int, y_ = (([(a0) % 256] : List Int)) := ⟨_, rfl⟩
   replace H : (some (y161, 0)) = some (r1, r2) := by first | (rw [hy161]; with_reducible exact H) | (have H2_ := (Option.bind_some _ _).symm.trans H; rw [hy161]; with_reducible exact H2_) | (have H2_ := (Option.bind_some _ _).symm.trans H; with_reducible exact H2_) | with_reducible exact H | (rw [hy161]; exact H) | exact H
   have Ny161 := ak hy161
   clear hy161
   simp only [Option.some.injEq, Prod.mk.injEq] at H
   obtain ⟨rfl, rfl⟩ := H
   go_enter Tryz.func120, Tryz.ntmps120
   go_wp2_with (first | ((with_reducible refine gate_callee (f := 119) rfl ?_); refine goesL_ (some 5) rfl rfl Tryz.func119 (by kernel_rfl) rfl #[.int .i32 a0] rfl (by (try simp only [List.map_toArray, List.map_cons, List.map_nil]); first | done | rfl | (simp only [List.length_drop, List.length_take]; rfl)) ?_; (with_reducible refine (mummerref02_Is.calls a0 true _ A2.out).mono ?_); rintro e w' ⟨rfl, ⟨nd, rfl⟩⟩; refine ⟨_, rfl, ?_⟩) | ((with_reducible refine gate_dst (N := 11) rfl ?_); refine Kd.R_lit (Kd.int .u8) _ 5 ?hg (N := 11) ?hd (xs := ([(a0) % 256] : List Int)) (inner := [.int .u8 ((a0) % 256)]) (ok := fun _ => True) (okp := fun _ => True) ?hr ?hp (fun _ hk => hk) trivial (Below.refl _ _) (Nat.le_refl _) (by simp) ?_; (case hd => rfl); (case hg => rfl); (case hr => first | (go_simp; done) | (go_simp; rfl)); (case hp => exact (Reps.one (show Kd.M (Kd.int .u8) _ _ _ ((a0) % 256) [.int .u8 ((a0) % 256)] from rfl) (Reps.none _ _))); intro v162 w5 ho6 hb hg_ hnew_; clear hg_ hnew_; (first | rw [← Ny161.out] at ho6 | (simp only [Int.reduceToNat] at ho6; rw [← Ny161.out] at ho6)); have n0_ := ak (Kd.R_lower ho6 (below_size (by repeat (first | (with_reducible first | exact HB.out | apply wA | apply wN | apply wD) | exact HB.out)))); have n1_ := ak (below_step (by repeat (first | (with_reducible first | exact HB.out | apply wA | apply wN | apply wD) | exact HB.out)) hb); clear HB; have HO163 := n0_; have HB := n1_; clear n0_ n1_; clear hb ho6))
   go_ret2
   exact ⟨_, by first | rfl | (simp [errW_none, errW_some] <;> rfl) | (simp [*, errW_none, errW_some] <;> rfl), by (with_reducible repeat (first | apply Kd.R_alloc | apply Kd.R_drewN | apply Kd.R_drew)); exact HO163.out, by repeat (first | (with_reducible first | exact HB.out | apply wA | apply wN | apply wD) | exact HB.out)⟩
  ·rw [if_neg c4] at H
   have c4b0 : decide (a0 < 128) = false := decide_eq_false c4
   clear c4
   by_cases c7 : a0 < 2048
   ·rw [if_pos c7] at H
    have c7b0 : decide (a0 < 2048) = true := decide_eq_true c7
    clear c7
    obtain ⟨y164, hy164⟩ : ∃ y_ : List Int, y_ = (([(wrap32 (192 + (wrap32 (Int.tdiv a0 64)))) % 256, (wrap32 (128 + (Int.tmod a0 64))) % 256] : List Int)) := ⟨_, rfl⟩
    replace H : (some (y164, 0)) = some (r1, r2) := by first | (rw [hy164]; with_reducible exact H) | (have H2_ := (Option.bind_some _ _).symm.trans H; rw [hy164]; with_reducible exact H2_) | (have H2_ := (Option.bind_some _ _).symm.trans H; with_reducible exact H2_) | with_reducible exact H | (rw [hy164]; exact H) | exact H
    have Ny164 := ak hy164
    clear hy164
    simp only [Option.some.injEq, Prod.mk.injEq] at H
    obtain ⟨rfl, rfl⟩ := H
    go_enter Tryz.func120, Tryz.ntmps120
    go_wp2_with (first | ((with_reducible refine gate_callee (f := 119) rfl ?_); refine goesL_ (some 5) rfl rfl Tryz.func119 (by kernel_rfl) rfl #[.int .i32 a0] rfl (by (try simp only [List.map_toArray, List.map_cons, List.map_nil]); first | done | rfl | (simp only [List.length_drop, List.length_take]; rfl)) ?_; (with_reducible refine (mummerref02_Is.calls a0 true _ A2.out).mono ?_); rintro e w' ⟨rfl, ⟨nd, rfl⟩⟩; refine ⟨_, rfl, ?_⟩) | ((with_reducible refine gate_dst (N := 22) rfl ?_); refine Kd.R_lit (Kd.int .u8) _ 5 ?hg (N := 22) ?hd (xs := ([(wrap32 (192 + (wrap32 (Int.tdiv a0 64)))) % 256, (wrap32 (128 + (Int.tmod a0 64))) % 256] : List Int)) (inner := [.int .u8 ((wrap32 (192 + (wrap32 (Int.tdiv a0 64)))) % 256), .int .u8 ((wrap32 (128 + (Int.tmod a0 64))) % 256)]) (ok := fun _ => True) (okp := fun _ => True) ?hr ?hp (fun _ hk => hk) trivial (Below.refl _ _) (Nat.le_refl _) (by simp) ?_; (case hd => rfl); (case hg => rfl); (case hr => first | (go_simp; done) | (go_simp; rfl)); (case hp => exact (Reps.one (show Kd.M (Kd.int .u8) _ _ _ ((wrap32 (192 + (wrap32 (Int.tdiv a0 64)))) % 256) [.int .u8 ((wrap32 (192 + (wrap32 (Int.tdiv a0 64)))) % 256)] from rfl) (Reps.one (show Kd.M (Kd.int .u8) _ _ _ ((wrap32 (128 + (Int.tmod a0 64))) % 256) [.int .u8 ((wrap32 (128 + (Int.tmod a0 64))) % 256)] from rfl) (Reps.none _ _)))); intro v165 w8 ho9 hb hg_ hnew_; clear hg_ hnew_; (first | rw [← Ny164.out] at ho9 | (simp only [Int.reduceToNat] at ho9; rw [← Ny164.out] at ho9)); have n0_ := ak (Kd.R_lower ho9 (below_size (by repeat (first | (with_reducible first | exact HB.out | apply wA | apply wN | apply wD) | exact HB.out)))); have n1_ := ak (below_step (by repeat (first | (with_reducible first | exact HB.out | apply wA | apply wN | apply wD) | exact HB.out)) hb); clear HB; have HO166 := n0_; have HB := n1_; clear n0_ n1_; clear hb ho9))
    go_ret2
    exact ⟨_, by first | rfl | (simp [errW_none, errW_some] <;> rfl) | (simp [*, errW_none, errW_some] <;> rfl), by (with_reducible repeat (first | apply Kd.R_alloc | apply Kd.R_drewN | apply Kd.R_drew)); exact HO166.out, by repeat (first | (with_reducible first | exact HB.out | apply wA | apply wN | apply wD) | exact HB.out)⟩
   ·rw [if_neg c7] at H
    have c7b0 : decide (a0 < 2048) = false := decide_eq_false c7
    clear c7
    by_cases c10 : a0 < 65536
    ·rw [if_pos c10] at H
     have c10b0 : decide (a0 < 65536) = true := decide_eq_true c10
     clear c10
     obtain ⟨y167, hy167⟩ : ∃ y_ : List Int, y_ = (([(wrap32 (224 + (wrap32 (Int.tdiv a0 4096)))) % 256, (wrap32 (128 + (Int.tmod (wrap32 (Int.tdiv a0 64)) 64))) % 256, (wrap32 (128 + (Int.tmod a0 64))) % 256] : List Int)) := ⟨_, rfl⟩
     replace H : (some (y167, 0)) = some (r1, r2) := by first | (rw [hy167]; with_reducible exact H) | (have H2_ := (Option.bind_some _ _).symm.trans H; rw [hy167]; with_reducible exact H2_) | (have H2_ := (Option.bind_some _ _).symm.trans H; with_reducible exact H2_) | with_reducible exact H | (rw [hy167]; exact H) | exact H
     have Ny167 := ak hy167
     clear hy167
     simp only [Option.some.injEq, Prod.mk.injEq] at H
     obtain ⟨rfl, rfl⟩ := H
     go_enter Tryz.func120, Tryz.ntmps120
     go_wp2_with (first | ((with_reducible refine gate_callee (f := 119) rfl ?_); refine goesL_ (some 5) rfl rfl Tryz.func119 (by kernel_rfl) rfl #[.int .i32 a0] rfl (by (try simp only [List.map_toArray, List.map_cons, List.map_nil]); first | done | rfl | (simp only [List.length_drop, List.length_take]; rfl)) ?_; (with_reducible refine (mummerref02_Is.calls a0 true _ A2.out).mono ?_); rintro e w' ⟨rfl, ⟨nd, rfl⟩⟩; refine ⟨_, rfl, ?_⟩) | ((with_reducible refine gate_dst (N := 38) rfl ?_); refine Kd.R_lit (Kd.int .u8) _ 5 ?hg (N := 38) ?hd (xs := ([(wrap32 (224 + (wrap32 (Int.tdiv a0 4096)))) % 256, (wrap32 (128 + (Int.tmod (wrap32 (Int.tdiv a0 64)) 64))) % 256, (wrap32 (128 + (Int.tmod a0 64))) % 256] : List Int)) (inner := [.int .u8 ((wrap32 (224 + (wrap32 (Int.tdiv a0 4096)))) % 256), .int .u8 ((wrap32 (128 + (Int.tmod (wrap32 (Int.tdiv a0 64)) 64))) % 256), .int .u8 ((wrap32 (128 + (Int.tmod a0 64))) % 256)]) (ok := fun _ => True) (okp := fun _ => True) ?hr ?hp (fun _ hk => hk) trivial (Below.refl _ _) (Nat.le_refl _) (by simp) ?_; (case hd => rfl); (case hg => rfl); (case hr => first | (go_simp; done) | (go_simp; rfl)); (case hp => exact (Reps.one (show Kd.M (Kd.int .u8) _ _ _ ((wrap32 (224 + (wrap32 (Int.tdiv a0 4096)))) % 256) [.int .u8 ((wrap32 (224 + (wrap32 (Int.tdiv a0 4096)))) % 256)] from rfl) (Reps.one (show Kd.M (Kd.int .u8) _ _ _ ((wrap32 (128 + (Int.tmod (wrap32 (Int.tdiv a0 64)) 64))) % 256) [.int .u8 ((wrap32 (128 + (Int.tmod (wrap32 (Int.tdiv a0 64)) 64))) % 256)] from rfl) (Reps.one (show Kd.M (Kd.int .u8) _ _ _ ((wrap32 (128 + (Int.tmod a0 64))) % 256) [.int .u8 ((wrap32 (128 + (Int.tmod a0 64))) % 256)] from rfl) (Reps.none _ _))))); intro v168 w11 ho12 hb hg_ hnew_; clear hg_ hnew_; (first | rw [← Ny167.out] at ho12 | (simp only [Int.reduceToNat] at ho12; rw [← Ny167.out] at ho12)); have n0_ := ak (Kd.R_lower ho12 (below_size (by repeat (first | (with_reducible first | exact HB.out | apply wA | apply wN | apply wD) | exact HB.out)))); have n1_ := ak (below_step (by repeat (first | (with_reducible first | exact HB.out | apply wA | apply wN | apply wD) | exact HB.out)) hb); clear HB; have HO169 := n0_; have HB := n1_; clear n0_ n1_; clear hb ho12))
     go_ret2
     exact ⟨_, by first | rfl | (simp [errW_none, errW_some] <;> rfl) | (simp [*, errW_none, errW_some] <;> rfl), by (with_reducible repeat (first | apply Kd.R_alloc | apply Kd.R_drewN | apply Kd.R_drew)); exact HO169.out, by repeat (first | (with_reducible first | exact HB.out | apply wA | apply wN | apply wD) | exact HB.out)⟩
    ·rw [if_neg c10] at H
     have c10b0 : decide (a0 < 65536) = false := decide_eq_false c10
     clear c10
     obtain ⟨y170, hy170⟩ : ∃ y_ : List Int, y_ = (([(wrap32 (240 + (wrap32 (Int.tdiv a0 262144)))) % 256, (wrap32 (128 + (Int.tmod (wrap32 (Int.tdiv a0 4096)) 64))) % 256, (wrap32 (128 + (Int.tmod (wrap32 (Int.tdiv a0 64)) 64))) % 256, (wrap32 (128 + (Int.tmod a0 64))) % 256] : List Int)) := ⟨_, rfl⟩
     replace H : (some (y170, 0)) = some (r1, r2) := by first | (rw [hy170]; with_reducible exact H) | (have H2_ := (Option.bind_some _ _).symm.trans H; rw [hy170]; with_reducible exact H2_) | (have H2_ := (Option.bind_some _ _).symm.trans H; with_reducible exact H2_) | with_reducible exact H | (rw [hy170]; exact H) | exact H
     have Ny170 := ak hy170
     clear hy170
     simp only [Option.some.injEq, Prod.mk.injEq] at H
     obtain ⟨rfl, rfl⟩ := H
     go_enter Tryz.func120, Tryz.ntmps120
     go_wp2_with (first | ((with_reducible refine gate_callee (f := 119) rfl ?_); refine goesL_ (some 5) rfl rfl Tryz.func119 (by kernel_rfl) rfl #[.int .i32 a0] rfl (by (try simp only [List.map_toArray, List.map_cons, List.map_nil]); first | done | rfl | (simp only [List.length_drop, List.length_take]; rfl)) ?_; (with_reducible refine (mummerref02_Is.calls a0 true _ A2.out).mono ?_); rintro e w' ⟨rfl, ⟨nd, rfl⟩⟩; refine ⟨_, rfl, ?_⟩) | ((with_reducible refine gate_dst (N := 57) rfl ?_); refine Kd.R_lit (Kd.int .u8) _ 5 ?hg (N := 57) ?hd (xs := ([(wrap32 (240 + (wrap32 (Int.tdiv a0 262144)))) % 256, (wrap32 (128 + (Int.tmod (wrap32 (Int.tdiv a0 4096)) 64))) % 256, (wrap32 (128 + (Int.tmod (wrap32 (Int.tdiv a0 64)) 64))) % 256, (wrap32 (128 + (Int.tmod a0 64))) % 256] : List Int)) (inner := [.int .u8 ((wrap32 (240 + (wrap32 (Int.tdiv a0 262144)))) % 256), .int .u8 ((wrap32 (128 + (Int.tmod (wrap32 (Int.tdiv a0 4096)) 64))) % 256), .int .u8 ((wrap32 (128 + (Int.tmod (wrap32 (Int.tdiv a0 64)) 64))) % 256), .int .u8 ((wrap32 (128 + (Int.tmod a0 64))) % 256)]) (ok := fun _ => True) (okp := fun _ => True) ?hr ?hp (fun _ hk => hk) trivial (Below.refl _ _) (Nat.le_refl _) (by simp) ?_; (case hd => rfl); (case hg => rfl); (case hr => first | (go_simp; done) | (go_simp; rfl)); (case hp => exact (Reps.one (show Kd.M (Kd.int .u8) _ _ _ ((wrap32 (240 + (wrap32 (Int.tdiv a0 262144)))) % 256) [.int .u8 ((wrap32 (240 + (wrap32 (Int.tdiv a0 262144)))) % 256)] from rfl) (Reps.one (show Kd.M (Kd.int .u8) _ _ _ ((wrap32 (128 + (Int.tmod (wrap32 (Int.tdiv a0 4096)) 64))) % 256) [.int .u8 ((wrap32 (128 + (Int.tmod (wrap32 (Int.tdiv a0 4096)) 64))) % 256)] from rfl) (Reps.one (show Kd.M (Kd.int .u8) _ _ _ ((wrap32 (128 + (Int.tmod (wrap32 (Int.tdiv a0 64)) 64))) % 256) [.int .u8 ((wrap32 (128 + (Int.tmod (wrap32 (Int.tdiv a0 64)) 64))) % 256)] from rfl) (Reps.one (show Kd.M (Kd.int .u8) _ _ _ ((wrap32 (128 + (Int.tmod a0 64))) % 256) [.int .u8 ((wrap32 (128 + (Int.tmod a0 64))) % 256)] from rfl) (Reps.none _ _)))))); intro v171 w13 ho14 hb hg_ hnew_; clear hg_ hnew_; (first | rw [← Ny170.out] at ho14 | (simp only [Int.reduceToNat] at ho14; rw [← Ny170.out] at ho14)); have n0_ := ak (Kd.R_lower ho14 (below_size (by repeat (first | (with_reducible first | exact HB.out | apply wA | apply wN | apply wD) | exact HB.out)))); have n1_ := ak (below_step (by repeat (first | (with_reducible first | exact HB.out | apply wA | apply wN | apply wD) | exact HB.out)) hb); clear HB; have HO172 := n0_; have HB := n1_; clear n0_ n1_; clear hb ho14))
     go_ret2
     exact ⟨_, by first | rfl | (simp [errW_none, errW_some] <;> rfl) | (simp [*, errW_none, errW_some] <;> rfl), by (with_reducible repeat (first | apply Kd.R_alloc | apply Kd.R_drewN | apply Kd.R_drew)); exact HO172.out, by repeat (first | (with_reducible first | exact HB.out | apply wA | apply wN | apply wD) | exact HB.out)⟩
 ·replace c3 := Bool.eq_false_iff.mpr c3
  subst c3
  have H1 : (some (([] : List Int), 7)) = some (r1, r2) := by rw [if_neg (show ¬ (false = true) by decide)] at H; exact H
  clear H
  have H := H1
  clear H1
  simp only [Option.some.injEq, Prod.mk.injEq] at H
  obtain ⟨rfl, rfl⟩ := H
  go_enter Tryz.func120, Tryz.ntmps120
  go_wp2_with (first | ((with_reducible refine gate_callee (f := 119) rfl ?_); refine goesL_ (some 5) rfl rfl Tryz.func119 (by kernel_rfl) rfl #[.int .i32 a0] rfl (by (try simp only [List.map_toArray, List.map_cons, List.map_nil]); first | done | rfl | (simp only [List.length_drop, List.length_take]; rfl)) ?_; (with_reducible refine (mummerref02_Is.calls a0 false _ A2.out).mono ?_); rintro e w' ⟨rfl, ⟨nd, rfl⟩⟩; refine ⟨_, rfl, ?_⟩))
  go_ret2
  exact ⟨_, by first | rfl | (simp [errW_none, errW_some] <;> rfl) | (simp [*, errW_none, errW_some] <;> rfl), by first | exact Kd.R_nil _ _ _ _ _ | exact Kd.N_nil _ _ _ _ _ | exact Kd.V_nil _ _ _ _ _ | exact Kd.Q_nil _ _ _ _ _ | exact Kd.S_nil _ _ _ _ _, by repeat (first | (with_reducible first | exact HB.out | apply wA | apply wN | apply wD) | exact HB.out)⟩
end Go.Proofs.YtdjkdlbokepoaaaGreatDoor.P
namespace Go.Proofs.YtdjkdlbokepoaaaGreatDoor.P
open Go.RowKit YtdjkdlbokepoaaaGreatDoorW.PrintWords YtdjkdlbokepoaaaGreatDoorW.PrintLast YtdjkdlbokepoaaaGreatDoorW.PrintMore
attribute [local go_sem] max2_int min2_int max_two min_two max_three min_three max_four min_four
set_option linter.unusedVariables false
set_option linter.unusedSimpArgs false
def mummerref02_stands.f (l0 : List Int) : Option (Int × Bool) := (mummerref02_number.f l0).bind fun t173 => ((mummerref02_Is.f t173).bind fun t174 => (if t174 = true then ((mummerref02_Encode.f t173).bind fun bt175 => (some (t173, ((strOfNums l0).toList == (strOfNums bt175.1).toList)))) else (some (0, false))))
set_option maxHeartbeats 8000000 in
set_option maxRecDepth 100000 in
theorem mummerref02_stands.calls (A0 : Option Addr) (c0 : Nat) (l0 : List Int) (r1 : Int) (r2 : Bool) (w : World) (hr0 : Kd.C (Kd.int .u8) w A0 l0.length l0) (hc0 : l0.length ≤ c0) (h : mummerref02_stands.f l0 = some (r1, r2)) :
  Calls Tryz.prog 92 #[.slice A0 l0.length c0] w fun e w' => e = .returned (.tuple #[.int .i32 r1, .bool r2]) ∧ Below w.heap.size w w' := by
 have HR0 := ak hr0
 have HC0 := ak hc0
 clear hr0 hc0
 have HB := ak (Below.refl w.heap.size w)
 have H : ((mummerref02_number.f l0).bind fun t173 => ((mummerref02_Is.f t173).bind fun t174 => (if t174 = true then ((mummerref02_Encode.f t173).bind fun bt175 => (some (t173, ((strOfNums l0).toList == (strOfNums bt175.1).toList)))) else (some (0, false))))) = some (r1, r2) := h
 clear h
 replace H := Option.bind_eq_some_iff.mp H
 obtain ⟨t173, A20, H⟩ := H
 try dsimp only at H
 have A2 := ak A20
 clear A20
 replace H := Option.bind_eq_some_iff.mp H
 obtain ⟨t174, A30, H⟩ := H
 try dsimp only at H
 have A3 := ak A30
 clear A30
 by_cases c4 : t174 = true
 ·subst c4
  have H1 : ((mummerref02_Encode.f t173).bind fun bt175 => (some (t173, ((strOfNums l0).toList == (strOfNums bt175.1).toList)))) = some (r1, r2) := by rw [if_pos rfl] at H; exact H
  clear H
  have H := H1
  clear H1
  replace H := Option.bind_eq_some_iff.mp H
  obtain ⟨⟨t175, t176⟩, A50, H⟩ := H
  replace H : (some (t173, ((strOfNums l0).toList == (strOfNums t175).toList))) = some (r1, r2) := H
  have A5 := ak A50
  clear A50
  simp only [Option.some.injEq, Prod.mk.injEq] at H
  obtain ⟨rfl, rfl⟩ := H
  go_enter Tryz.func92, Tryz.ntmps92
  go_wp2_with (first | (go_at_call 118; (with_reducible refine (mummerref02_number.calls _ _ l0 t173 _ ?side1 ?side2 A2.out).mono ?_); (case side1 => repeat (first | exact HR0.out | (with_reducible refine Kd.C_alloc ?_ _) | (with_reducible refine Kd.C_drewN ?_ _) | (with_reducible refine Kd.C_drew ?_))); (case side2 => exact HC0.out); rintro e w6 ⟨rfl, hb⟩; have n0_ := ak (below_step (by repeat (first | (with_reducible first | exact HB.out | apply wA | apply wN | apply wD) | exact HB.out)) hb); clear HB; have HB := n0_; clear n0_; (try clear hb); (try clear hb2); (try clear hk); (try clear hi)) | (go_at_call 119; (with_reducible refine (mummerref02_Is.calls t173 true _ A3.out).mono ?_); rintro e w' ⟨rfl, ⟨nd, rfl⟩⟩; (try first | exact ⟨rfl, _, World.drewN_drewN _ _ _⟩ | exact ⟨rfl, _, Eq.trans (World.drewN_drewN _ _ _) (congrArg (World.drewN _) (Nat.add_assoc _ _ _))⟩)) | (go_at_call 120; (with_reducible refine (mummerref02_Encode.calls t173 t175 t176 _ A5.out).mono ?_); rintro e w7 ⟨v177, rfl, ho0, hb⟩; have n0_ := ak (Kd.R_lower ho0 (below_size (by repeat (first | (with_reducible first | exact HB.out | apply wA | apply wN | apply wD) | exact HB.out)))); have n1_ := ak (below_step (by repeat (first | (with_reducible first | exact HB.out | apply wA | apply wN | apply wD) | exact HB.out)) hb); clear HB; have HO178 := n0_; have HB := n1_; clear n0_ n1_; (try clear hb); (try clear hb2); (try clear hk); (try clear hi); (try clear ho0); have hcv8 := Kd.C_string (P := Tryz.prog) (A := A0) (c := c0) Tryz.underlying29 Tryz.underlying5 Tryz.underlying9 (Kd.C_below HR0.out HB.out); have hcv9 := own_string (P := Tryz.prog) Tryz.underlying29 Tryz.underlying5 Tryz.underlying9 (Kd.own_of_R HO178.out)))
  have hs1_ := Kd.C_string (P := Tryz.prog) (A := A0) (c := c0) Tryz.underlying29 Tryz.underlying5 Tryz.underlying9 (Kd.C_drew (Kd.C_below HR0.out HB.out))
  have hs2_ := own_string (P := Tryz.prog) Tryz.underlying29 Tryz.underlying5 Tryz.underlying9 (Kd.own_of_R (Kd.R_drew HO178.out))
  refine start_ (n := 8) (S := fun w' => (convert 29 9 (.slice A0 l0.length c0)).run Tryz.prog w' = .ok (.string (strOfNums l0)) w' ∧ (convert 29 9 v177).run Tryz.prog w' = .ok (.string (strOfNums t175)) w') (ds := []) #[false, false, false, false, false, false, false, false] (by kernel_rfl) rfl rfl ⟨hs1_, hs2_⟩ (fun hHeld => ?_)
  refine pure_ (i := 0) (N := some 17) (v := ?_) (a' := ?_) #[true, false, false, false, false, false, false, false] rfl rfl (by kernel_rfl) (fun _ _ _ h => h) (Or.inl ⟨by rfl, ?_⟩) ?_ ?_; rotate_left; · (intro w'; go_simp; with_reducible rfl)
  rotate_left; · (simp only [Act.put, List.setIfInBounds_toArray, List.set_cons_zero, List.set_cons_succ, i64_w, i32_w]; rfl)
  refine pure_ (i := 1) (N := some 18) (v := ?_) (a' := ?_) #[true, true, false, false, false, false, false, false] rfl rfl (by kernel_rfl) (fun _ _ _ h => h) (Or.inl ⟨by rfl, ?_⟩) ?_ ?_; rotate_left; · (intro w'; go_simp; with_reducible rfl)
  rotate_left; · (simp only [Act.put, List.setIfInBounds_toArray, List.set_cons_zero, List.set_cons_succ, i64_w, i32_w]; rfl)
  refine take_ (i := 2) (N := some 19) (v := ?_) (a' := ?_) #[true, true, true, false, false, false, false, false] rfl rfl (by kernel_rfl) (fun _ _ _ h => h) (Or.inl ⟨by rfl, ?_⟩) hHeld ?_ ?_; rotate_left; · (rintro w' ⟨s0, s1⟩; go_simp; with_reducible rfl)
  rotate_left; · (simp only [Act.put, List.setIfInBounds_toArray, List.set_cons_zero, List.set_cons_succ, i64_w, i32_w]; rfl)
  refine pure_ (i := 3) (N := some 20) (v := ?_) (a' := ?_) #[true, true, true, true, false, false, false, false] rfl rfl (by kernel_rfl) (fun _ _ _ h => h) (Or.inl ⟨by rfl, ?_⟩) ?_ ?_; rotate_left; · (intro w'; go_simp; with_reducible rfl)
  rotate_left; · (simp only [Act.put, List.setIfInBounds_toArray, List.set_cons_zero, List.set_cons_succ, i64_w, i32_w]; rfl)
  refine take_ (i := 4) (N := some 21) (v := ?_) (a' := ?_) #[true, true, true, true, true, false, false, false] rfl rfl (by kernel_rfl) (fun _ _ _ h => h) (Or.inl ⟨by rfl, ?_⟩) hHeld ?_ ?_; rotate_left; · (rintro w' ⟨s0, s1⟩; go_simp; with_reducible rfl)
  rotate_left; · (simp only [Act.put, List.setIfInBounds_toArray, List.set_cons_zero, List.set_cons_succ, i64_w, i32_w]; rfl)
  refine pure_ (i := 5) (N := some 22) (v := ?_) (a' := ?_) #[true, true, true, true, true, true, false, false] rfl rfl (by kernel_rfl) (fun _ _ _ h => h) (Or.inl ⟨by rfl, ?_⟩) ?_ ?_; rotate_left; · (intro w'; go_simp; with_reducible rfl)
  rotate_left; · (simp only [Act.put, List.setIfInBounds_toArray, List.set_cons_zero, List.set_cons_succ, i64_w, i32_w]; rfl)
  refine pure_ (i := 6) (N := some 2) (v := ?_) (a' := ?_) #[true, true, true, true, true, true, true, false] rfl rfl (by kernel_rfl) (fun _ _ _ h => h) (Or.inl ⟨by rfl, ?_⟩) ?_ ?_; rotate_left; · (intro w'; go_simp; with_reducible rfl)
  rotate_left; · (simp only [Act.put, List.setIfInBounds_toArray, List.set_cons_zero, List.set_cons_succ, i64_w, i32_w]; rfl)
  refine pure_ (i := 7) (N := some 3) (v := ?_) (a' := ?_) #[true, true, true, true, true, true, true, true] rfl rfl (by kernel_rfl) (fun _ _ _ h => h) (Or.inl ⟨by rfl, ?_⟩) ?_ ?_; rotate_left; · (intro w'; go_simp; with_reducible rfl)
  rotate_left; · (simp only [Act.put, List.setIfInBounds_toArray, List.set_cons_zero, List.set_cons_succ, i64_w, i32_w]; rfl)
  refine done_ (by kernel_rfl) ?_
  try go_wp2
  go_ret2
  exact ⟨by first | rfl | (simp [errW_none, errW_some] <;> rfl) | (simp [*, errW_none, errW_some] <;> rfl), by repeat (first | (with_reducible first | exact HB.out | apply wA | apply wN | apply wD) | exact HB.out)⟩
 ·replace c4 := Bool.eq_false_iff.mpr c4
  subst c4
  have H1 : (some (0, false)) = some (r1, r2) := by rw [if_neg (show ¬ (false = true) by decide)] at H; exact H
  clear H
  have H := H1
  clear H1
  simp only [Option.some.injEq, Prod.mk.injEq] at H
  obtain ⟨rfl, rfl⟩ := H
  go_enter Tryz.func92, Tryz.ntmps92
  go_wp2_with (first | (go_at_call 118; (with_reducible refine (mummerref02_number.calls _ _ l0 t173 _ ?side1 ?side2 A2.out).mono ?_); (case side1 => repeat (first | exact HR0.out | (with_reducible refine Kd.C_alloc ?_ _) | (with_reducible refine Kd.C_drewN ?_ _) | (with_reducible refine Kd.C_drew ?_))); (case side2 => exact HC0.out); rintro e w10 ⟨rfl, hb⟩; have n0_ := ak (below_step (by repeat (first | (with_reducible first | exact HB.out | apply wA | apply wN | apply wD) | exact HB.out)) hb); clear HB; have HB := n0_; clear n0_; (try clear hb); (try clear hb2); (try clear hk); (try clear hi)) | (go_at_call 119; (with_reducible refine (mummerref02_Is.calls t173 false _ A3.out).mono ?_); rintro e w' ⟨rfl, ⟨nd, rfl⟩⟩; (try first | exact ⟨rfl, _, World.drewN_drewN _ _ _⟩ | exact ⟨rfl, _, Eq.trans (World.drewN_drewN _ _ _) (congrArg (World.drewN _) (Nat.add_assoc _ _ _))⟩)))
  repeat (go_quiet (first | (go_at_call 118; (with_reducible refine (mummerref02_number.calls _ _ l0 t173 _ ?side1 ?side2 A2.out).mono ?_); (case side1 => repeat (first | exact HR0.out | (with_reducible refine Kd.C_alloc ?_ _) | (with_reducible refine Kd.C_drewN ?_ _) | (with_reducible refine Kd.C_drew ?_))); (case side2 => exact HC0.out); rintro e w10 ⟨rfl, hb⟩; have n0_ := ak (below_step (by repeat (first | (with_reducible first | exact HB.out | apply wA | apply wN | apply wD) | exact HB.out)) hb); clear HB; have HB := n0_; clear n0_; (try clear hb); (try clear hb2); (try clear hk); (try clear hi)) | (go_at_call 119; (with_reducible refine (mummerref02_Is.calls t173 false _ A3.out).mono ?_); rintro e w' ⟨rfl, ⟨nd, rfl⟩⟩; (try first | exact ⟨rfl, _, World.drewN_drewN _ _ _⟩ | exact ⟨rfl, _, Eq.trans (World.drewN_drewN _ _ _) (congrArg (World.drewN _) (Nat.add_assoc _ _ _))⟩))); try go_wp2_with (first | (go_at_call 118; (with_reducible refine (mummerref02_number.calls _ _ l0 t173 _ ?side1 ?side2 A2.out).mono ?_); (case side1 => repeat (first | exact HR0.out | (with_reducible refine Kd.C_alloc ?_ _) | (with_reducible refine Kd.C_drewN ?_ _) | (with_reducible refine Kd.C_drew ?_))); (case side2 => exact HC0.out); rintro e w10 ⟨rfl, hb⟩; have n0_ := ak (below_step (by repeat (first | (with_reducible first | exact HB.out | apply wA | apply wN | apply wD) | exact HB.out)) hb); clear HB; have HB := n0_; clear n0_; (try clear hb); (try clear hb2); (try clear hk); (try clear hi)) | (go_at_call 119; (with_reducible refine (mummerref02_Is.calls t173 false _ A3.out).mono ?_); rintro e w' ⟨rfl, ⟨nd, rfl⟩⟩; (try first | exact ⟨rfl, _, World.drewN_drewN _ _ _⟩ | exact ⟨rfl, _, Eq.trans (World.drewN_drewN _ _ _) (congrArg (World.drewN _) (Nat.add_assoc _ _ _))⟩))))
  go_ret2
  exact ⟨by first | rfl | (simp [errW_none, errW_some] <;> rfl) | (simp [*, errW_none, errW_some] <;> rfl), by repeat (first | (with_reducible first | exact HB.out | apply wA | apply wN | apply wD) | exact HB.out)⟩
end Go.Proofs.YtdjkdlbokepoaaaGreatDoor.P
namespace Go.Proofs.YtdjkdlbokepoaaaGreatDoor.P
open Go.RowKit YtdjkdlbokepoaaaGreatDoorW.PrintWords YtdjkdlbokepoaaaGreatDoorW.PrintLast YtdjkdlbokepoaaaGreatDoorW.PrintMore
attribute [local go_sem] max2_int min2_int max_two min_two max_three min_three max_four min_four
set_option linter.unusedVariables false
set_option linter.unusedSimpArgs false
mutual
def mummerref02_begins.j2 : Nat → List Int → Int → Option (Bool)
 | 0, _, _ => none
 | k + 1, x0, x3 => if (x0.length : Int) ≥ x3 then (some false) else (mummerref02_begins.l0 k x0 x3 128)
def mummerref02_begins.l0 : Nat → List Int → Int → Int → Option (Bool)
 | 0, _, _, _ => none
 | k + 1, x0, x3, x5 => if x5 ≤ 191 then ((some (([] : List Int) : List Int)).bind fun y180 => (if y180.length + x0.length < 140737488355328 then (mummerref02_begins.l1 k x0 x3 x5 (y180 ++ x0)) else (none))) else (some false)
def mummerref02_begins.l1 : Nat → List Int → Int → Int → List Int → Option (Bool)
 | 0, _, _, _, _ => none
 | k + 1, x0, x3, x5, x6 => if (x6.length : Int) < x3 then (if x6.length < 140737488355328 then (mummerref02_begins.l1 k x0 x3 x5 (x6 ++ [(x5) % 256])) else (none)) else ((mummerref02_stands.f x6).bind fun bt189 => (if bt189.2 = true then (some true) else (mummerref02_begins.l0 k x0 x3 (wrap64 (x5 + 63)))))
def mummerref02_begins.j0 : Nat → List Int → Int → Int → Bool → Option (Bool)
 | 0, _, _, _, _ => none
 | k + 1, x0, x3, x4, x13 => if x13 = true then (mummerref02_begins.j2 k x0 2) else (if x4 ≥ 224 then (mummerref02_begins.j1 k x0 x3 x4 (decide (x4 < 240))) else (mummerref02_begins.j1 k x0 x3 x4 false))
def mummerref02_begins.j1 : Nat → List Int → Int → Int → Bool → Option (Bool)
 | 0, _, _, _, _ => none
 | k + 1, x0, x3, x4, x20 => if x20 = true then (mummerref02_begins.j2 k x0 3) else (if x4 ≥ 240 then (if x4 < 248 then (mummerref02_begins.j2 k x0 4) else (mummerref02_begins.j2 k x0 x3)) else (mummerref02_begins.j2 k x0 x3))
end
def mummerref02_begins.f (k : Nat) (l0 : List Int) : Option (Bool) := if 0 < (l0.length : Int) then (if (wrap32 (rd l0 0)) ≥ 192 then (mummerref02_begins.j0 k l0 0 (wrap32 (rd l0 0)) (decide ((wrap32 (rd l0 0)) < 224))) else (mummerref02_begins.j0 k l0 0 (wrap32 (rd l0 0)) false)) else (none)
theorem mummerref02_begins.mono_l : ∀ k, (∀ y0 y1, LeO (mummerref02_begins.j2 k y0 y1) (mummerref02_begins.j2 (k + 1) y0 y1)) ∧ (∀ y0 y1 y2, LeO (mummerref02_begins.l0 k y0 y1 y2) (mummerref02_begins.l0 (k + 1) y0 y1 y2)) ∧ (∀ y0 y1 y2 y3, LeO (mummerref02_begins.l1 k y0 y1 y2 y3) (mummerref02_begins.l1 (k + 1) y0 y1 y2 y3)) ∧ (∀ y0 y1 y2 y3, LeO (mummerref02_begins.j0 k y0 y1 y2 y3) (mummerref02_begins.j0 (k + 1) y0 y1 y2 y3)) ∧ (∀ y0 y1 y2 y3, LeO (mummerref02_begins.j1 k y0 y1 y2 y3) (mummerref02_begins.j1 (k + 1) y0 y1 y2 y3))
 | 0 => ⟨fun _ _ r h => by simp [mummerref02_begins.j2] at h, fun _ _ _ r h => by simp [mummerref02_begins.l0] at h, fun _ _ _ _ r h => by simp [mummerref02_begins.l1] at h, fun _ _ _ _ r h => by simp [mummerref02_begins.j0] at h, fun _ _ _ _ r h => by simp [mummerref02_begins.j1] at h⟩
 | k + 1 => by
  obtain ⟨ih0, ih1, ih2, ih3, ih4⟩ := mummerref02_begins.mono_l k
  refine ⟨?_, ?_, ?_, ?_, ?_⟩
  ·intro y0 y1
   unfold mummerref02_begins.j2
   repeat' first
   | (with_reducible exact ih0 _ _)
   | (with_reducible exact ih1 _ _ _)
   | (with_reducible exact ih2 _ _ _ _)
   | (with_reducible exact ih3 _ _ _ _)
   | (with_reducible exact ih4 _ _ _ _)
   | (with_reducible exact LeO.refl _)
   | (with_reducible exact LeO.none _)
   | (with_reducible refine LeO.ite ?_ ?_)
   | (with_reducible refine LeO.bind ?_ (fun _ => ?_))
   | exact ih0 _ _
   | exact ih1 _ _ _
   | exact ih2 _ _ _ _
   | exact ih3 _ _ _ _
   | exact ih4 _ _ _ _
   | exact LeO.none _
   | refine LeO.ite ?_ ?_
   | refine LeO.bind ?_ (fun _ => ?_)
  ·intro y0 y1 y2
   unfold mummerref02_begins.l0
   repeat' first
   | (with_reducible exact ih0 _ _)
   | (with_reducible exact ih1 _ _ _)
   | (with_reducible exact ih2 _ _ _ _)
   | (with_reducible exact ih3 _ _ _ _)
   | (with_reducible exact ih4 _ _ _ _)
   | (with_reducible exact LeO.refl _)
   | (with_reducible exact LeO.none _)
   | (with_reducible refine LeO.ite ?_ ?_)
   | (with_reducible refine LeO.bind ?_ (fun _ => ?_))
   | exact ih0 _ _
   | exact ih1 _ _ _
   | exact ih2 _ _ _ _
   | exact ih3 _ _ _ _
   | exact ih4 _ _ _ _
   | exact LeO.none _
   | refine LeO.ite ?_ ?_
   | refine LeO.bind ?_ (fun _ => ?_)
  ·intro y0 y1 y2 y3
   unfold mummerref02_begins.l1
   repeat' first
   | (with_reducible exact ih0 _ _)
   | (with_reducible exact ih1 _ _ _)
   | (with_reducible exact ih2 _ _ _ _)
   | (with_reducible exact ih3 _ _ _ _)
   | (with_reducible exact ih4 _ _ _ _)
   | (with_reducible exact LeO.refl _)
   | (with_reducible exact LeO.none _)
   | (with_reducible refine LeO.ite ?_ ?_)
   | (with_reducible refine LeO.bind ?_ (fun _ => ?_))
   | exact ih0 _ _
   | exact ih1 _ _ _
   | exact ih2 _ _ _ _
   | exact ih3 _ _ _ _
   | exact ih4 _ _ _ _
   | exact LeO.none _
   | refine LeO.ite ?_ ?_
   | refine LeO.bind ?_ (fun _ => ?_)
  ·intro y0 y1 y2 y3
   unfold mummerref02_begins.j0
   repeat' first
   | (with_reducible exact ih0 _ _)
   | (with_reducible exact ih1 _ _ _)
   | (with_reducible exact ih2 _ _ _ _)
   | (with_reducible exact ih3 _ _ _ _)
   | (with_reducible exact ih4 _ _ _ _)
   | (with_reducible exact LeO.refl _)
   | (with_reducible exact LeO.none _)
   | (with_reducible refine LeO.ite ?_ ?_)
   | (with_reducible refine LeO.bind ?_ (fun _ => ?_))
   | exact ih0 _ _
   | exact ih1 _ _ _
   | exact ih2 _ _ _ _
   | exact ih3 _ _ _ _
   | exact ih4 _ _ _ _
   | exact LeO.none _
   | refine LeO.ite ?_ ?_
   | refine LeO.bind ?_ (fun _ => ?_)
  ·intro y0 y1 y2 y3
   unfold mummerref02_begins.j1
   repeat' first
   | (with_reducible exact ih0 _ _)
   | (with_reducible exact ih1 _ _ _)
   | (with_reducible exact ih2 _ _ _ _)
   | (with_reducible exact ih3 _ _ _ _)
   | (with_reducible exact ih4 _ _ _ _)
   | (with_reducible exact LeO.refl _)
   | (with_reducible exact LeO.none _)
   | (with_reducible refine LeO.ite ?_ ?_)
   | (with_reducible refine LeO.bind ?_ (fun _ => ?_))
   | exact ih0 _ _
   | exact ih1 _ _ _
   | exact ih2 _ _ _ _
   | exact ih3 _ _ _ _
   | exact ih4 _ _ _ _
   | exact LeO.none _
   | refine LeO.ite ?_ ?_
   | refine LeO.bind ?_ (fun _ => ?_)
theorem mummerref02_begins.mono : ∀ a0 k, LeO (mummerref02_begins.f k a0) (mummerref02_begins.f (k + 1) a0) := by
 intro a0 k
 obtain ⟨ih0, ih1, ih2, ih3, ih4⟩ := mummerref02_begins.mono_l k
 unfold mummerref02_begins.f
 repeat' first
   | (with_reducible exact ih0 _ _)
   | (with_reducible exact ih1 _ _ _)
   | (with_reducible exact ih2 _ _ _ _)
   | (with_reducible exact ih3 _ _ _ _)
   | (with_reducible exact ih4 _ _ _ _)
   | (with_reducible exact LeO.refl _)
   | (with_reducible exact LeO.none _)
   | (with_reducible refine LeO.ite ?_ ?_)
   | (with_reducible refine LeO.bind ?_ (fun _ => ?_))
   | exact ih0 _ _
   | exact ih1 _ _ _
   | exact ih2 _ _ _ _
   | exact ih3 _ _ _ _
   | exact ih4 _ _ _ _
   | exact LeO.none _
   | refine LeO.ite ?_ ?_
   | refine LeO.bind ?_ (fun _ => ?_)
set_option maxHeartbeats 8000000 in
set_option maxRecDepth 100000 in
theorem mummerref02_begins.calls (k : Nat) (A0 : Option Addr) (c0 : Nat) (l0 : List Int) (r : Bool) (w : World) (hr0 : Kd.C (Kd.int .u8) w A0 l0.length l0) (hc0 : l0.length ≤ c0) (h : mummerref02_begins.f k l0 = some r) :
  Calls Tryz.prog 93 #[.slice A0 l0.length c0] w fun e w' => e = .returned (.bool r) ∧ Below w.heap.size w w' := by
 have HR0 := ak hr0
 have HC0 := ak hc0
 clear hr0 hc0
 have HB := ak (Below.refl w.heap.size w)
 have H : (if 0 < (l0.length : Int) then (if (wrap32 (rd l0 0)) ≥ 192 then (mummerref02_begins.j0 k l0 0 (wrap32 (rd l0 0)) (decide ((wrap32 (rd l0 0)) < 224))) else (mummerref02_begins.j0 k l0 0 (wrap32 (rd l0 0)) false)) else (none)) = some r := h
 clear h
 by_cases c2 : 0 < (l0.length : Int)
 ·rw [if_pos c2] at H
  have c2b0 : decide (0 < (l0.length : Int)) = true := decide_eq_true c2
  have c2b1 : decide (0 < l0.length) = true := decide_eq_true (by omega)
  clear c2
  have HC3 := ak H
  clear H
  have p179 : 0 ≤ (0 : Int) := (by omega)
  have q179 : 0 < (l0.length : Int) := of_decide_eq_true (by first | (with_reducible assumption) | assumption)
  obtain ⟨ad179, e179, hx179_0⟩ := Kd.at_int HR0.out 0 p179 q179
  cases e179
  have qi179 : (0 < l0.length) = True := eq_true (by omega)
  (try rw [show ((0 : Int)).toNat = 0 from rfl] at hx179_0)
  (try rw [Addr.add_zero'] at hx179_0)
  replace p179 := eq_true p179
  replace q179 := eq_true q179
  go_enter Tryz.func93, Tryz.ntmps93
  go_upto_block 0 with (fail)
  go_cut [3] (fun v3 wc => ∃ (kq : Nat) (x3_2 : Int), v3 = .int .i64 x3_2 ∧ Aside0 (mummerref02_begins.j2 kq l0 x3_2 = some r) ∧ Aside0 (kq ≤ k) ∧ Aside0 (Below w.heap.size w wc))
  case first =>
   have H := HC3.out
   clear HC3
   have HC4 := ak H
   clear H
   go_upto_region 3 with (fail)
   go_cut [13] (fun v13 wc => ∃ (kq : Nat) (x13_3 : Bool), v13 = .bool x13_3 ∧ Aside0 (mummerref02_begins.j0 kq l0 0 (wrap32 (rd l0 0)) x13_3 = some r) ∧ Aside0 (kq ≤ k) ∧ Aside0 (Below w.heap.size w wc))
   case first =>
    have H := HC4.out
    clear HC4
    by_cases c5 : (wrap32 (rd l0 0)) ≥ 192
    ·rw [if_pos c5] at H
     have c5b0 : decide (192 ≤ (wrap32 (rd l0 0))) = true := decide_eq_true c5
     clear c5
     (first | rw [c5b0] | (simp only [i64_w, i32_w]; rw [c5b0]) | skip)
     have H' := ak H
     clear H
     go_wp2
     go_meet
     case rel => exact ⟨_, (decide ((wrap32 (rd l0 0)) < 224)), (by first | rfl | (simp; done) | (simp [*]; done)), H', ⟨by first | omega | exact Nat.le_refl _⟩, ⟨by repeat (first | (with_reducible first | exact HB.out | apply wA | apply wN | apply wD) | exact HB.out)⟩⟩
    ·rw [if_neg c5] at H
     have c5b0 : decide (192 ≤ (wrap32 (rd l0 0))) = false := decide_eq_false c5
     clear c5
     (first | rw [c5b0] | (simp only [i64_w, i32_w]; rw [c5b0]) | skip)
     have H' := ak H
     clear H
     go_wp2
     go_meet
     case rel => exact ⟨_, (false), (by first | rfl | (simp; done) | (simp [*]; done)), H', ⟨by first | omega | exact Nat.le_refl _⟩, ⟨by repeat (first | (with_reducible first | exact HB.out | apply wA | apply wN | apply wD) | exact HB.out)⟩⟩
   case rest =>
    clear HC4
    try clear p1
    try clear q1
    try clear hx1
    try clear qi1
    try clear c2
    try clear c2b0
    try clear c2b1
    try clear p2
    try clear p3
    try clear c5
    try clear c5b0
    try clear hx179_0
    try clear p179
    try clear q179
    obtain ⟨kq, x13_3, rfl, HA, HJ3, HB⟩ := hcut
    cases kq with
    | zero => exact absurd HA.out (by simp [mummerref02_begins.j0])
    | succ kj3 =>
     have H := HA.out
     clear HA
     simp only [mummerref02_begins.j0] at H
     by_cases c6 : x13_3 = true
     ·subst c6
      have H1 : (mummerref02_begins.j2 kj3 l0 2) = some r := by rw [if_pos rfl] at H; exact H
      clear H
      have H := H1
      clear H1
      have H' := ak H
      clear H
      go_wp2
      go_meet
      case rel => exact ⟨_, (2), (by first | rfl | (simp; done) | (simp [*]; done)), H', ⟨by have := HJ3.out; first | omega | exact Nat.le_refl _⟩, ⟨by repeat (first | (with_reducible first | exact HB.out | apply wA | apply wN | apply wD) | exact HB.out)⟩⟩
     ·replace c6 := Bool.eq_false_iff.mpr c6
      subst c6
      have H1 : (if (wrap32 (rd l0 0)) ≥ 224 then (mummerref02_begins.j1 kj3 l0 0 (wrap32 (rd l0 0)) (decide ((wrap32 (rd l0 0)) < 240))) else (mummerref02_begins.j1 kj3 l0 0 (wrap32 (rd l0 0)) false)) = some r := by rw [if_neg (show ¬ (false = true) by decide)] at H; exact H
      clear H
      have H := H1
      clear H1
      have HC7 := ak H
      clear H
      go_upto_region 5 with (fail)
      go_cut [20] (fun v20 wc => ∃ (kq : Nat) (x20_6 : Bool), v20 = .bool x20_6 ∧ Aside0 (mummerref02_begins.j1 kq l0 0 (wrap32 (rd l0 0)) x20_6 = some r) ∧ Aside0 (kq ≤ kj3) ∧ Aside0 (Below w.heap.size w wc))
      case first =>
       have H := HC7.out
       clear HC7
       by_cases c8 : (wrap32 (rd l0 0)) ≥ 224
       ·rw [if_pos c8] at H
        have c8b0 : decide (224 ≤ (wrap32 (rd l0 0))) = true := decide_eq_true c8
        clear c8
        (first | rw [c8b0] | (simp only [i64_w, i32_w]; rw [c8b0]) | skip)
        have H' := ak H
        clear H
        go_wp2
        go_meet
        case rel => exact ⟨_, (decide ((wrap32 (rd l0 0)) < 240)), (by first | rfl | (simp; done) | (simp [*]; done)), H', ⟨by have := HJ3.out; first | omega | exact Nat.le_refl _⟩, ⟨by repeat (first | (with_reducible first | exact HB.out | apply wA | apply wN | apply wD) | exact HB.out)⟩⟩
       ·rw [if_neg c8] at H
        have c8b0 : decide (224 ≤ (wrap32 (rd l0 0))) = false := decide_eq_false c8
        clear c8
        (first | rw [c8b0] | (simp only [i64_w, i32_w]; rw [c8b0]) | skip)
        have H' := ak H
        clear H
        go_wp2
        go_meet
        case rel => exact ⟨_, (false), (by first | rfl | (simp; done) | (simp [*]; done)), H', ⟨by have := HJ3.out; first | omega | exact Nat.le_refl _⟩, ⟨by repeat (first | (with_reducible first | exact HB.out | apply wA | apply wN | apply wD) | exact HB.out)⟩⟩
      case rest =>
       clear HC7
       try clear p1
       try clear q1
       try clear hx1
       try clear qi1
       try clear c2
       try clear c2b0
       try clear c2b1
       try clear p2
       try clear p3
       try clear c5
       try clear c5b0
       try clear c6
       try clear c8
       try clear c8b0
       try clear hx179_0
       try clear p1
       try clear p179
       try clear p2
       try clear p3
       try clear q1
       try clear q179
       obtain ⟨kq, x20_6, rfl, HA, HJ6, HB⟩ := hcut
       cases kq with
       | zero => exact absurd HA.out (by simp [mummerref02_begins.j1])
       | succ kj6 =>
        have H := HA.out
        clear HA
        simp only [mummerref02_begins.j1] at H
        by_cases c9 : x20_6 = true
        ·subst c9
         have H1 : (mummerref02_begins.j2 kj6 l0 3) = some r := by rw [if_pos rfl] at H; exact H
         clear H
         have H := H1
         clear H1
         have H' := ak H
         clear H
         go_wp2
         go_meet
         case rel => exact ⟨_, (3), (by first | rfl | (simp; done) | (simp [*]; done)), H', ⟨by have := HJ3.out; have := HJ6.out; first | omega | exact Nat.le_refl _⟩, ⟨by repeat (first | (with_reducible first | exact HB.out | apply wA | apply wN | apply wD) | exact HB.out)⟩⟩
        ·replace c9 := Bool.eq_false_iff.mpr c9
         subst c9
         have H1 : (if (wrap32 (rd l0 0)) ≥ 240 then (if (wrap32 (rd l0 0)) < 248 then (mummerref02_begins.j2 kj6 l0 4) else (mummerref02_begins.j2 kj6 l0 0)) else (mummerref02_begins.j2 kj6 l0 0)) = some r := by rw [if_neg (show ¬ (false = true) by decide)] at H; exact H
         clear H
         have H := H1
         clear H1
         by_cases c10 : (wrap32 (rd l0 0)) ≥ 240
         ·rw [if_pos c10] at H
          have c10b0 : decide (240 ≤ (wrap32 (rd l0 0))) = true := decide_eq_true c10
          clear c10
          by_cases c11 : (wrap32 (rd l0 0)) < 248
          ·rw [if_pos c11] at H
           have c11b0 : decide ((wrap32 (rd l0 0)) < 248) = true := decide_eq_true c11
           clear c11
           have H' := ak H
           clear H
           go_wp2
           go_meet
           case rel => exact ⟨_, (4), (by first | rfl | (simp; done) | (simp [*]; done)), H', ⟨by have := HJ3.out; have := HJ6.out; first | omega | exact Nat.le_refl _⟩, ⟨by repeat (first | (with_reducible first | exact HB.out | apply wA | apply wN | apply wD) | exact HB.out)⟩⟩
          ·rw [if_neg c11] at H
           have c11b0 : decide ((wrap32 (rd l0 0)) < 248) = false := decide_eq_false c11
           clear c11
           have H' := ak H
           clear H
           go_wp2
           go_meet
           case rel => exact ⟨_, (0), (by first | rfl | (simp; done) | (simp [*]; done)), H', ⟨by have := HJ3.out; have := HJ6.out; first | omega | exact Nat.le_refl _⟩, ⟨by repeat (first | (with_reducible first | exact HB.out | apply wA | apply wN | apply wD) | exact HB.out)⟩⟩
         ·rw [if_neg c10] at H
          have c10b0 : decide (240 ≤ (wrap32 (rd l0 0))) = false := decide_eq_false c10
          clear c10
          have H' := ak H
          clear H
          go_wp2
          go_meet
          case rel => exact ⟨_, (0), (by first | rfl | (simp; done) | (simp [*]; done)), H', ⟨by have := HJ3.out; have := HJ6.out; first | omega | exact Nat.le_refl _⟩, ⟨by repeat (first | (with_reducible first | exact HB.out | apply wA | apply wN | apply wD) | exact HB.out)⟩⟩
  case rest =>
   clear HC3
   try clear c1
   try clear p1
   try clear q1
   try clear hx1
   try clear qi1
   try clear c2
   try clear c2b0
   try clear c2b1
   try clear p2
   try clear p3
   try clear c5
   try clear c5b0
   try clear c6
   try clear c8
   try clear c8b0
   try clear c9
   try clear c10
   try clear c10b0
   try clear c11
   try clear c11b0
   try clear hx179_0
   try clear p1
   try clear p179
   try clear p2
   try clear p3
   try clear q1
   try clear q179
   obtain ⟨kq, x3_2, rfl, HA, HJ2, HB⟩ := hcut
   cases kq with
   | zero => exact absurd HA.out (by simp [mummerref02_begins.j2])
   | succ kj2 =>
    have H := HA.out
    clear HA
    simp only [mummerref02_begins.j2] at H
    by_cases c12 : (l0.length : Int) ≥ x3_2
    ·rw [if_pos c12] at H
     have c12b0 : decide (x3_2 ≤ (l0.length : Int)) = true := decide_eq_true c12
     clear c12
     obtain rfl := Option.some.inj H
     go_wp2
     go_ret
     exact ⟨by first | rfl | (simp [errW_none, errW_some] <;> rfl) | (simp [*, errW_none, errW_some] <;> rfl), by repeat (first | (with_reducible first | exact HB.out | apply wA | apply wN | apply wD) | exact HB.out)⟩
    ·rw [if_neg c12] at H
     have c12b0 : decide (x3_2 ≤ (l0.length : Int)) = false := decide_eq_false c12
     clear c12
     have H' := ak H
     clear H
     go_wp2
     go_loopg [5] kj2 (fun kq v5 w' => ∃ (x5_2 : Int), v5 = .int .i64 x5_2 ∧ Aside0 (mummerref02_begins.l0 kq l0 x3_2 x5_2 = some r) ∧ Aside0 (kq ≤ kj2) ∧ Aside0 (Below w.heap.size w w'))
     case atStart => exact ⟨(128), (by first | rfl | (simp; done) | (simp [*]; done)), H', ⟨Nat.le_refl _⟩, ⟨by repeat (first | (with_reducible first | exact HB.out | apply wA | apply wN | apply wD) | exact HB.out)⟩⟩
     case round =>
      clear H'
      try clear c1
      try clear p1
      try clear q1
      try clear hx1
      try clear qi1
      try clear c2
      try clear c2b0
      try clear c2b1
      try clear p2
      try clear p3
      try clear c5
      try clear c5b0
      try clear c6
      try clear c8
      try clear c8b0
      try clear c9
      try clear c10
      try clear c10b0
      try clear c11
      try clear c11b0
      try clear c12
      try clear c12b0
      try clear hx179_0
      try clear p1
      try clear p179
      try clear p2
      try clear p3
      try clear q1
      try clear q179
      obtain ⟨x5_2, rfl, HA, HK2, HB⟩ := hrel
      cases gk with
      | zero => exact absurd HA.out (by simp [mummerref02_begins.l0])
      | succ k2 =>
       have H := HA.out
       clear HA
       simp only [mummerref02_begins.l0] at H
       by_cases c13 : x5_2 ≤ 191
       ·rw [if_pos c13] at H
        have c13b0 : decide (x5_2 ≤ 191) = true := decide_eq_true c13
        clear c13
        obtain ⟨y180, hy180⟩ : ∃ y_ : List Int, y_ = (([] : List Int)) := ⟨_, rfl⟩
        replace H : (if y180.length + l0.length < 140737488355328 then (mummerref02_begins.l1 k2 l0 x3_2 x5_2 (y180 ++ l0)) else (none)) = some r := by first | (rw [hy180]; with_reducible exact H) | (have H2_ := (Option.bind_some _ _).symm.trans H; rw [hy180]; with_reducible exact H2_) | (have H2_ := (Option.bind_some _ _).symm.trans H; with_reducible exact H2_) | with_reducible exact H | (rw [hy180]; exact H) | exact H
        have Ny180 := ak hy180
        clear hy180
        by_cases c14 : y180.length + l0.length < 140737488355328
        ·rw [if_pos c14] at H
         have LMc14 := ak c14
         clear c14
         obtain ⟨y183, hy183⟩ : ∃ y_ : List Int, y_ = (y180 ++ l0) := ⟨_, rfl⟩
         replace H : (mummerref02_begins.l1 k2 l0 x3_2 x5_2 y183) = some r := by first | (rw [hy183]; with_reducible exact H) | (have H2_ := (Option.bind_some _ _).symm.trans H; rw [hy183]; with_reducible exact H2_) | (have H2_ := (Option.bind_some _ _).symm.trans H; with_reducible exact H2_) | with_reducible exact H | (rw [hy183]; exact H) | exact H
         have Ny183 := ak hy183
         clear hy183
         have H' := ak H
         clear H
         go_wp2_with (first | ((with_reducible refine gate_dst (N := 42) rfl ?_); refine Kd.R_lit (Kd.int .u8) _ 5 ?hg (N := 42) ?hd (xs := ([] : List Int)) (inner := []) (ok := fun _ => True) (okp := fun _ => True) ?hr ?hp (fun _ hk => hk) trivial (Below.refl _ _) (Nat.le_refl _) (by simp) ?_; (case hd => rfl); (case hg => rfl); (case hr => first | (go_simp; done) | (go_simp; rfl)); (case hp => exact (Reps.none _ _)); intro v181 w15 ho16 hb hg_ hnew_; clear hg_ hnew_; (first | rw [← Ny180.out] at ho16 | (simp only [Int.reduceToNat] at ho16; rw [← Ny180.out] at ho16)); have n0_ := ak (Kd.R_lower ho16 (below_size (by repeat (first | (with_reducible first | exact HB.out | apply wA | apply wN | apply wD) | exact HB.out)))); have n1_ := ak (below_step (by repeat (first | (with_reducible first | exact HB.out | apply wA | apply wN | apply wD) | exact HB.out)) hb); clear HB; have HO182 := n0_; have HB := n1_; clear n0_ n1_; clear hb ho16) | ((with_reducible refine gate_builtin (b := .append) (xs := #[.tmp 42, .tmp 43]) rfl ?_); at_builtin; refine Kd.R_append_rows (Kd.int .u8) (w0 := w) w.heap.size rfl (.tmp 42) (.tmp 43) 29 5 (.int .u8 0) 1 rfl Tryz.underlying29 info5 rfl (by decide) (by omega) v181 y180 l0 _ _ _ (fun _ => True) (fun _ => False) rfl rfl ?aO ?aR (fun _ _ h => h) (fun _ h => h.elim) ?aF ?aB ?aS ?aL ?_; (case aR => repeat (first | exact (Kd.C_below HR0.out HB.out) | (with_reducible refine Kd.C_alloc ?_ _) | (with_reducible refine Kd.C_drewN ?_ _) | (with_reducible refine Kd.C_drew ?_))); (case aB => exact (by repeat (first | (with_reducible first | exact HB.out | apply wA | apply wN | apply wD) | exact HB.out))); (case aF => exact (fun _ _ => trivial)); (case aO => exact (by (with_reducible repeat (first | apply Kd.R_alloc | apply Kd.R_drewN | apply Kd.R_drew)); exact HO182.out)); (case aS => exact (below_size (by repeat (first | (with_reducible first | exact HB.out | apply wA | apply wN | apply wD) | exact HB.out)))); (case aL => have := LMc14.out; omega); intro v184 w17 ho hb hg hat; rw [← Ny183.out] at ho; have n0_ := ak (hb); have n1_ := ak (ho); clear HB; clear HO182; have HB := n0_; have HO185 := n1_; clear n0_ n1_; clear ho hb hg hat))
         go_loopg [6] k2 (fun kq v6 w' => ∃ (x6_3 : List Int), Aside0 (mummerref02_begins.l1 kq l0 x3_2 x5_2 x6_3 = some r) ∧ Aside0 (kq ≤ k2) ∧ Aside0 (Kd.R (Kd.int .u8) 5 w' w.heap.size (fun _ => True) v6 x6_3) ∧ Aside0 (Below w.heap.size w w'))
         case atStart => exact ⟨(y183), H', ⟨Nat.le_refl _⟩, ⟨by (with_reducible repeat (first | apply Kd.R_alloc | apply Kd.R_drewN | apply Kd.R_drew)); exact HO185.out⟩, ⟨by repeat (first | (with_reducible first | exact HB.out | apply wA | apply wN | apply wD) | exact HB.out)⟩⟩
         case round =>
          clear H'
          try clear c1
          try clear p1
          try clear q1
          try clear hx1
          try clear qi1
          try clear c2
          try clear c2b0
          try clear c2b1
          try clear p2
          try clear p3
          try clear c5
          try clear c5b0
          try clear c6
          try clear c8
          try clear c8b0
          try clear c9
          try clear c10
          try clear c10b0
          try clear c11
          try clear c11b0
          try clear c12
          try clear c12b0
          try clear c13
          try clear c13b0
          try clear c14
          try clear p17
          try clear q17
          try clear hx17
          try clear qi17
          try clear hx179_0
          try clear p1
          try clear p179
          try clear p2
          try clear p3
          try clear q1
          try clear q179
          obtain ⟨x6_3, HA, HK3, HO_6, HB⟩ := hrel
          cases gk with
          | zero => exact absurd HA.out (by simp [mummerref02_begins.l1])
          | succ k3 =>
           have H := HA.out
           clear HA
           simp only [mummerref02_begins.l1] at H
           by_cases c18 : (x6_3.length : Int) < x3_2
           ·rw [if_pos c18] at H
            have c18b0 : decide ((x6_3.length : Int) < x3_2) = true := decide_eq_true c18
            clear c18
            by_cases c19 : x6_3.length < 140737488355328
            ·rw [if_pos c19] at H
             have LMc19 := ak c19
             clear c19
             obtain ⟨y186, hy186⟩ : ∃ y_ : List Int, y_ = (x6_3 ++ [(x5_2) % 256]) := ⟨_, rfl⟩
             replace H : (mummerref02_begins.l1 k3 l0 x3_2 x5_2 y186) = some r := by first | (rw [hy186]; with_reducible exact H) | (have H2_ := (Option.bind_some _ _).symm.trans H; rw [hy186]; with_reducible exact H2_) | (have H2_ := (Option.bind_some _ _).symm.trans H; with_reducible exact H2_) | with_reducible exact H | (rw [hy186]; exact H) | exact H
             have Ny186 := ak hy186
             clear hy186
             have H' := ak H
             clear H
             obtain ⟨Ao20, co20, eo20⟩ := Kd.R_slice HO_6.out
             subst eo20
             go_wp2_with (first | ((with_reducible refine gate_builtin (b := .append) (xs := #[.tmp 49, .tmp 52]) rfl ?_); at_builtin; refine Kd.R_append (Kd.int .u8) (w0 := w) w.heap.size rfl (.tmp 49) (.tmp 52) 29 5 (.int .u8 0) 1 rfl Tryz.underlying29 info5 rfl (by decide) (by omega) (.slice Ao20 x6_3.length co20) x6_3 ((x5_2) % 256) [.int .u8 ((x5_2) % 256)] (fun _ => True) (fun _ => False) rfl rfl ?aP (fun _ hk => hk.elim) ?aF ?aO ?aB ?aS ?aL ?_; (case aP => exact rfl); (case aB => exact (by repeat (first | (with_reducible first | exact HB.out | apply wA | apply wN | apply wD) | exact HB.out))); (case aF => exact (fun _ _ => trivial)); (case aO => exact (by (with_reducible repeat (first | apply Kd.R_alloc | apply Kd.R_drewN | apply Kd.R_drew)); exact HO_6.out)); (case aS => exact (below_size (by repeat (first | (with_reducible first | exact HB.out | apply wA | apply wN | apply wD) | exact HB.out)))); (case aL => have := LMc19.out; omega); intro v187 w21 ho hb hg hat; rw [← Ny186.out] at ho; have n0_ := ak (hb); have n1_ := ak (ho); clear HB; clear HO_6; have HB := n0_; have HO188 := n1_; clear n0_ n1_; clear ho hb hg hat))
             go_roundg k3
             case measure => have := HJ2.out; have := HK2.out; have := HK3.out; omega
             case rel => exact ⟨(y186), H', ⟨by have := HJ2.out; have := HK2.out; have := HK3.out; omega⟩, ⟨by (with_reducible repeat (first | apply Kd.R_alloc | apply Kd.R_drewN | apply Kd.R_drew)); exact HO188.out⟩, ⟨by repeat (first | (with_reducible first | exact HB.out | apply wA | apply wN | apply wD) | exact HB.out)⟩⟩
            ·rw [if_neg c19] at H
             exact absurd H (by simp)
           ·rw [if_neg c18] at H
            have c18b0 : decide ((x6_3.length : Int) < x3_2) = false := decide_eq_false c18
            clear c18
            replace H := Option.bind_eq_some_iff.mp H
            obtain ⟨⟨t189, t190⟩, A220, H⟩ := H
            try dsimp only at H
            have A22 := ak A220
            clear A220
            by_cases c23 : t190 = true
            ·subst c23
             have H1 : (some true) = some r := by rw [if_pos rfl] at H; exact H
             clear H
             have H := H1
             clear H1
             obtain rfl := Option.some.inj H
             obtain ⟨Ao24, co24, eo24⟩ := Kd.R_slice HO_6.out
             subst eo24
             go_wp2_with (first | ((with_reducible refine gate_callee (f := 92) rfl ?_); refine goesL_ (some 56) rfl rfl Tryz.func92 (by kernel_rfl) rfl #[.slice Ao24 x6_3.length co24] rfl (by (try simp only [List.map_toArray, List.map_cons, List.map_nil]); first | done | rfl | (simp only [List.length_drop, List.length_take]; rfl)) ?_; (with_reducible refine (mummerref02_stands.calls _ _ x6_3 t189 true _ ?side1 ?side2 A22.out).mono ?_); (case side1 => repeat (first | exact (Kd.R_reads' HO_6.out).2.2 | (with_reducible refine Kd.C_alloc ?_ _) | (with_reducible refine Kd.C_drewN ?_ _) | (with_reducible refine Kd.C_drew ?_))); (case side2 => exact (Kd.R_reads' HO_6.out).2.1); rintro e w25 ⟨rfl, hb⟩; refine ⟨_, rfl, ?_⟩; have n0_ := ak (Kd.R_below (by (with_reducible repeat (first | apply Kd.R_alloc | apply Kd.R_drewN | apply Kd.R_drew)); exact HO_6.out) hb); have n1_ := ak (below_step (by repeat (first | (with_reducible first | exact HB.out | apply wA | apply wN | apply wD) | exact HB.out)) hb); clear HO_6; clear HB; have HO_6 := n0_; have HB := n1_; clear n0_ n1_; (try clear hb); (try clear hb2); (try clear hk); (try clear hi)))
             go_ret
             exact ⟨by first | rfl | (simp [errW_none, errW_some] <;> rfl) | (simp [*, errW_none, errW_some] <;> rfl), by repeat (first | (with_reducible first | exact HB.out | apply wA | apply wN | apply wD) | exact HB.out)⟩
            ·replace c23 := Bool.eq_false_iff.mpr c23
             subst c23
             have H1 : (mummerref02_begins.l0 k3 l0 x3_2 (wrap64 (x5_2 + 63))) = some r := by rw [if_neg (show ¬ (false = true) by decide)] at H; exact H
             clear H
             have H := H1
             clear H1
             have H' := ak H
             clear H
             obtain ⟨Ao26, co26, eo26⟩ := Kd.R_slice HO_6.out
             subst eo26
             go_wp2_with (first | ((with_reducible refine gate_callee (f := 92) rfl ?_); refine goesL_ (some 56) rfl rfl Tryz.func92 (by kernel_rfl) rfl #[.slice Ao26 x6_3.length co26] rfl (by (try simp only [List.map_toArray, List.map_cons, List.map_nil]); first | done | rfl | (simp only [List.length_drop, List.length_take]; rfl)) ?_; (with_reducible refine (mummerref02_stands.calls _ _ x6_3 t189 false _ ?side1 ?side2 A22.out).mono ?_); (case side1 => repeat (first | exact (Kd.R_reads' HO_6.out).2.2 | (with_reducible refine Kd.C_alloc ?_ _) | (with_reducible refine Kd.C_drewN ?_ _) | (with_reducible refine Kd.C_drew ?_))); (case side2 => exact (Kd.R_reads' HO_6.out).2.1); rintro e w27 ⟨rfl, hb⟩; refine ⟨_, rfl, ?_⟩; have n0_ := ak (Kd.R_below (by (with_reducible repeat (first | apply Kd.R_alloc | apply Kd.R_drewN | apply Kd.R_drew)); exact HO_6.out) hb); have n1_ := ak (below_step (by repeat (first | (with_reducible first | exact HB.out | apply wA | apply wN | apply wD) | exact HB.out)) hb); clear HO_6; clear HB; have HO_6 := n0_; have HB := n1_; clear n0_ n1_; (try clear hb); (try clear hb2); (try clear hk); (try clear hi)))
             go_roundg k3
             case measure => have := HJ2.out; have := HK2.out; have := HK3.out; omega
             case rel => exact ⟨(wrap64 (x5_2 + 63)), (by first | rfl | (simp; done) | (simp [*]; done)), H', ⟨by have := HJ2.out; have := HK2.out; have := HK3.out; omega⟩, ⟨by repeat (first | (with_reducible first | exact HB.out | apply wA | apply wN | apply wD) | exact HB.out)⟩⟩
        ·rw [if_neg c14] at H
         exact absurd H (by simp)
       ·rw [if_neg c13] at H
        have c13b0 : decide (x5_2 ≤ 191) = false := decide_eq_false c13
        clear c13
        obtain rfl := Option.some.inj H
        go_wp2
        go_ret
        exact ⟨by first | rfl | (simp [errW_none, errW_some] <;> rfl) | (simp [*, errW_none, errW_some] <;> rfl), by repeat (first | (with_reducible first | exact HB.out | apply wA | apply wN | apply wD) | exact HB.out)⟩
 ·rw [if_neg c2] at H
  exact absurd H (by simp)
end Go.Proofs.YtdjkdlbokepoaaaGreatDoor.P
