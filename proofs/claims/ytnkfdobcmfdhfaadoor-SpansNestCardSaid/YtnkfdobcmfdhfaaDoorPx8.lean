-- Written by wip/tools/myprint.py of this session over the kit's print; Lean checks it.
import Derived.Test.YtnkfdobcmfdhfaaDoorPx0
namespace Go.Proofs.YtnkfdobcmfdhfaaDoor.P
open Go.RowKit Go.Proofs.YtnkfdobcmfdhfaaDoorW.PrintWords Go.Proofs.YtnkfdobcmfdhfaaDoorW.PrintLast Go.Proofs.YtnkfdobcmfdhfaaDoorW.PrintMore
attribute [local go_sem] max2_int min2_int max_two min_two max_three min_three max_four min_four   -- for this text's walks alone
set_option linter.unusedVariables false
set_option linter.unusedSimpArgs false


/-! ### spans_Lines: function 24 (written by this session) -/
def linesOf : List Nat → Int → List S24
  | [], _ => []
  | n :: r, z => ⟨z, wrap64 (z + n)⟩ :: linesOf r (wrap64 (z + wrap64 ((n : Int) + 1)))
def spans_Lines.f (l0 : List Int) : Option (List S24 × Int) := if l0 = [] then none else (Sc.goodRuns l0).map fun _ => (linesOf (Sc.lens l0 0) 0, 0)
set_option maxHeartbeats 1000000 in
theorem spans_split (a1 : Addr) (n c1 g d : Nat) (xs : List Int) (w : World) (hx : xs.length = n) (hn : n ≤ 8000) (hI : Sc.InB xs = true) (hc1 : ∀ i, i < n → w.cell? (a1.add i) = some (.int .u8 (xs.getD i 0))) (hcap : n ≤ c1) (hsep : w.cell? ⟨g, 0, none⟩ = some (.int .u8 10)) :
    Calls Tryd.prog 48 #[.slice (some a1) n c1, .slice (some ⟨g, 0, none⟩) 1 d] w fun e w' => ∃ done : List Value, Sc.Lens done (Sc.lens xs 0) ∧ e = .returned (.slice (some ⟨w.heap.size, 0, none⟩) done.length done.length) ∧ ∃ q, w' = (w.alloc (.cells done.toArray 45)).drewN q := by
  have hS := ak (Sc.genSplit_own a1 n c1 g d xs w hx hn hI hc1 hcap hsep)
  go_enter Tryd.func48, Tryd.ntmps48
  go_wp2_with (go_at_call 58; refine (hS.out).mono ?_; rintro e w2 ⟨done, hL, rfl, hq⟩)
  go_ret
  exact ⟨done, hL, rfl, hq⟩
set_option maxHeartbeats 4000000 in
set_option maxRecDepth 100000 in
theorem spans_Lines.calls (A0 : Option Addr) (c0 : Nat) (l0 : List Int) (r1 : List S24) (r2 : Int) (w : World) (hr0 : Kd.C (Kd.int .u8) w A0 l0.length l0) (hc0 : l0.length ≤ c0) (h : spans_Lines.f l0 = some (r1, r2)) (HT : Aside0 (Sc.Tab w)) :
    Calls Tryd.prog 24 #[.slice A0 l0.length c0] w fun e w' => ∃ v0_ : Value, e = .returned (.tuple #[v0_, .int .i64 r2]) ∧ Kd.R k24 24 w' w.heap.size (fun _ => True) v0_ r1 ∧ Below w.heap.size w w' := by
  unfold spans_Lines.f at h
  by_cases hne : l0 = []
  · rw [if_pos hne] at h; cases h
  rw [if_neg hne] at h
  obtain ⟨rs, h1, h2⟩ := Option.map_eq_some_iff.mp h
  cases h2
  obtain ⟨hle, hI, hruns⟩ := Sc.goodRuns_ok h1
  have hpos : 0 < l0.length := List.length_pos_iff.2 hne
  have hu24 := Tryd.underlying24
  have hCk := ak (Sc.check_calls l0 A0 c0 rs w hr0 hc0 h1 HT.out)
  obtain ⟨b, off, rfl, hcells⟩ := Sc.Txt_of_C hr0 hI (by rw [strOfNums_size]; exact hpos)
  have hbytes : ∀ i, i < l0.length → w.cell? ((⟨b, off, none⟩ : Addr).add i) = some (.int .u8 (l0.getD i 0)) := fun i hi => by
    rw [Addr.add_lit, hcells i (by rw [strOfNums_size]; exact hi), Sc.str_get l0 hI i hi, List.getD_eq_getElem?_getD, List.getElem?_eq_getElem hi]
    rfl
  have HBy := ak hbytes
  have HLe := ak hle
  have HI := ak hI
  clear hcells hbytes hr0 h hruns h1 hI
  go_enter Tryd.func24, Tryd.ntmps24
  go_wp2_with (first
    | (go_at_call 47; refine (hCk.out).mono ?_; rintro e w1 ⟨rfl, hb1⟩)
    | (go_at_call 48; refine (spans_split ⟨b, off, none⟩ l0.length c0 w1.heap.size 1 l0 _ rfl HLe.out HI.out (fun i hi => Sc.cell_alloc_l _ ((hb1.cell (World.block_lt_of_cell? w _ (HBy.out i hi))).trans (HBy.out i hi))) hc0 (by first | exact (Sc.cell_new_l _ _ _).1 | exact cell_one_new _ _ _)).mono ?_; rintro e w2 ⟨done, hL, rfl, q, rfl⟩))
  obtain ⟨ws, hws⟩ : ∃ ws, ((w1.alloc (.cells #[.int .u8 10] 5)).alloc (.cells done.toArray 45)).drewN q = ws := ⟨_, rfl⟩
  have hbs : Below w.heap.size w ws := by rw [← hws]; apply wN; exact (((hb1.alloc hb1.size _).alloc (by simp; have := hb1.size; omega) _))
  have hcs : ∀ (j : Nat) (v : Value), done[j]? = some v → ws.cell? ⟨w1.heap.size + 1, j, none⟩ = some v := fun j v hj => by
    rw [← hws]
    have h2 := World.alloc_heap_new (w1.alloc (.cells #[.int .u8 10] 5)) (.cells done.toArray 45)
    rw [World.size_alloc] at h2
    show (((w1.alloc (.cells #[.int .u8 10] 5)).alloc (.cells done.toArray 45))).cell? _ = _
    simp only [World.cell?, h2]
    simpa using hj
  have hlt : w1.heap.size + 1 < ws.heap.size := by rw [← hws]; simp [World.drewN]
  have HLen := ak hL.1
  have HLn := ak (Sc.lens_le l0 0)
  (try simp only [World.size_alloc])
  rw [hws]
  have HCS := ak hcs
  have HL := ak hL
  clear hws hcs hL hCk HBy
  go_loopg [6, 7, 22] done.length (fun gh v6 v7 v22 wr => ∃ (x6 : List S24) (j : Nat) (z : Int), v7 = .int .i64 z ∧ v22 = .int .i64 (j : Int) ∧ j ≤ done.length ∧ gh = done.length - j ∧ x6.length = j ∧ Aside0 (x6 ++ linesOf ((Sc.lens l0 0).drop j) z = linesOf (Sc.lens l0 0) 0) ∧ Aside0 (Kd.R k24 24 wr ws.heap.size (fun _ => True) v6 x6) ∧ Aside0 (Below ws.heap.size ws wr))
  case atStart => exact ⟨[], 0, 0, rfl, rfl, Nat.zero_le _, rfl, rfl, ⟨rfl⟩, ⟨Kd.R_nil _ _ _ _ _⟩, ⟨Below.refl _ _⟩⟩
  case round =>
    obtain ⟨x6, j, z, rfl, rfl, hj, rfl, hx6, HE, HO, HB⟩ := hrel
    by_cases hjl : j < done.length
    · have hji : ((j : Nat) : Int) < (done.length : Int) := by omega
      obtain ⟨A, c, hv⟩ := HL.out.2 j _ (List.getElem?_eq_getElem hjl)
      have hcell : wr.cell? ⟨w1.heap.size + 1, j, none⟩ = some (.slice A ((Sc.lens l0 0).getD j 0) c) := by
        have h2 := HCS.out j _ (List.getElem?_eq_getElem hjl)
        rw [hv] at h2
        exact (HB.out.cell (p := ⟨w1.heap.size + 1, j, none⟩) hlt).trans h2
      obtain ⟨y, hy⟩ : ∃ y, (Sc.lens l0 0).getD j 0 = y := ⟨_, rfl⟩
      rw [hy] at hcell
      have HE2 : Aside0 ((x6 ++ [(⟨z, wrap64 (z + y)⟩ : S24)]) ++ linesOf ((Sc.lens l0 0).drop (j + 1)) (wrap64 (z + wrap64 ((y : Int) + 1))) = linesOf (Sc.lens l0 0) 0) := ⟨by
        rw [← HE.out]
        have hjl2 : j < (Sc.lens l0 0).length := by have := HLen.out; omega
        rw [List.drop_eq_getElem_cons hjl2, linesOf]
        have : (Sc.lens l0 0)[j] = y := by rw [← hy, List.getD_eq_getElem?_getD, List.getElem?_eq_getElem hjl2]; rfl
        rw [this, List.append_assoc]; rfl⟩
      clear hv hy
      have LM := ak (show x6.length < 8001 by have := HLen.out; have := HLn.out; have := HLe.out; omega)
      go_wp2_with (first | ((with_reducible refine gate_builtin (b := .append) (xs := #[.tmp 26, .tmp 33]) rfl ?_); at_builtin; refine Kd.R_append k24 (w0 := ws) ws.heap.size rfl (.tmp 26) (.tmp 33) 22 24 (.agg #[(.int .i64 0), (.int .i64 0)]) 16 rfl Tryd.underlying22 info24 rfl (by decide) (by omega) u6 x6 (⟨z, wrap64 (z + y)⟩ : S24) [.int .i64 z, .int .i64 (wrap64 (z + y))] (fun _ => True) (fun _ => False) rfl rfl ?aP (fun _ hk => hk.elim) ?aF ?aO ?aB ?aS ?aL ?_; (case aP => exact k24_mkM _ _ _ (⟨z, wrap64 (z + y)⟩ : S24)); (case aB => exact (by repeat (first | (with_reducible first | exact HB.out | apply wA | apply wN | apply wD) | exact HB.out))); (case aF => exact (fun _ _ => trivial)); (case aO => exact (by (with_reducible repeat (first | apply Kd.R_alloc | apply Kd.R_drewN | apply Kd.R_drew)); exact HO.out)); (case aS => exact (below_size (by repeat (first | (with_reducible first | exact HB.out | apply wA | apply wN | apply wD) | exact HB.out)))); (case aL => have := LM.out; omega); intro v302 w9 ho hb hg hat; have n0_ := ak (hb); have n1_ := ak (ho); clear HB; clear HO; have HB := n0_; have HO := n1_; clear n0_ n1_; clear ho hb hg hat))
      go_roundg (done.length - (j + 1))
      case measure => omega
      case rel => exact ⟨x6 ++ [(⟨z, wrap64 (z + y)⟩ : S24)], j + 1, wrap64 (z + wrap64 ((y : Int) + 1)), by first | rfl | simp, congrArg (Value.int .i64) (by have := HLen.out; have := HLn.out; have := HLe.out; (try rw [i64_w]); unfold wrap64; omega), by omega, rfl, by simp [hx6], HE2, ⟨by (with_reducible repeat (first | apply Kd.R_alloc | apply Kd.R_drewN | apply Kd.R_drew)); exact HO.out⟩, ⟨by repeat (first | (with_reducible first | exact HB.out | apply wA | apply wN | apply wD) | exact HB.out)⟩⟩
    · obtain rfl : j = done.length := by omega
      have hji : ¬ ((done.length : Nat) : Int) < (done.length : Int) := by omega
      have HE2 : Aside0 (x6 = linesOf (Sc.lens l0 0) 0) := ⟨by
        rw [← HE.out, List.drop_of_length_le (by have := HLen.out; omega), linesOf, List.append_nil]⟩
      go_wp2
      go_ret2
      rw [← HE2.out]
      exact ⟨_, rfl, by (with_reducible repeat (first | apply Kd.R_alloc | apply Kd.R_drewN | apply Kd.R_drew)); exact Kd.R_lower HO.out hbs.size, hbs.trans (HB.out.mono hbs.size)⟩


/-! ### utf8_RuneStart: function 70 (written by this session) -/
def utf8_RuneStart.f (a0 : Int) : Option Bool := if 0 ≤ a0 ∧ a0 < 256 then some (Lib.runeStart a0) else none
theorem utf8_RuneStart.calls (a0 : Int) (r : Bool) (w : World) (h : utf8_RuneStart.f a0 = some r) :
    Calls Tryd.prog 70 #[.int .u8 a0] w fun e w' => e = .returned (.bool r) ∧ w' = w := by
  unfold utf8_RuneStart.f at h
  by_cases hs : 0 ≤ a0 ∧ a0 < 256
  · rw [if_pos hs] at h
    obtain rfl := Option.some.inj h
    exact Tryd.utf8_RuneStart a0 w hs.1 hs.2
  · rw [if_neg hs] at h; cases h

end Go.Proofs.YtnkfdobcmfdhfaaDoor.P
