import Derived.Test.YtkalbdeopogbpaaGreatDoorKX24
import Derived.Test.YtkalbdeopogbpaaGreatDoorKX28
import Derived.Lib.SmallJoins
import Derived.Deep.QuietTactic
import Derived.BigQuiet
import Derived.IntWalk
import Derived.Lib.ItoaLen
namespace Go.Proofs.YtkalbdeopogbpaaGreatDoor.P.Wd
open Go.RowKit Go.Shelf Go.Sort Go.Proofs.YtkalbdeopogbpaaGreatDoorW Go.Proofs.YtkalbdeopogbpaaGreatDoorW.PrintWords Go.Proofs.YtkalbdeopogbpaaGreatDoorW.PrintLast Go.Proofs.YtkalbdeopogbpaaGreatDoorW.PrintMore
set_option linter.unusedVariables false
/-- The library's table of powers of ten stands. -/
def Tab (w : World) : Prop := Lib.TabIs Tryz.prog w "internal/strconv.uint64pow10" .u64 Lib.pow10Tab
theorem Tab.stay {w w' : World} (h : Tab w) (hb : Below w.heap.size w w') : Tab w' := Joins.tab_stays (g := 3) (by kernel_rfl) h hb (Nat.le_refl _)
theorem below_grow (w : World) (os : Array Obj) : Below w.heap.size w (grow w os) := ⟨rfl, rfl, rfl, by simp [grow], fun k hk => by simp [grow, Array.getElem?_append_left hk]⟩
theorem itoa_calls (n : Int) (h0 : 0 ≤ n) (h1 : n ≤ 1000000000) (w : World) (ht : Tab w) :
    Calls Tryz.prog 36 #[.int .i64 n] w fun e w' => e = .returned (.string ⟨(Lib.itoa n).toArray⟩) ∧ Below w.heap.size w w' := by
  refine (Tryz.strconv_Itoa n (by omega) (by omega) w ht).mono ?_
  rintro e w' ⟨rfl, k, os, rfl⟩
  exact ⟨rfl, (pw_below_drewN (Below.refl _ w) k).trans (below_grow (w.drewN k) os)⟩
/-- The builder that List has made: block B, holding acc. -/
def Bld (B : Nat) (acc : List UInt8) (w : World) : Prop := Lib.IsBuilder 52 5 B B (Lib.byteCells acc) w
theorem BuilderAt.below {T e : TypeId} {B b : Nat} {p : Value} {bs : List Value} {w w' : World} (h : Lib.BuilderAt T e B b p bs w) (hb : Below w.heap.size w w') : Lib.BuilderAt T e B b p bs w' := by
  have hlt := h.lt
  obtain ⟨h1, v, h2, h3, h4⟩ := h
  exact ⟨h1, v, (hb.block b hlt).trans h2, pw_own_below h3 hb, h4⟩
theorem Bld.below {B : Nat} {acc : List UInt8} {w w' : World} (h : Bld B acc w) (hb : Below w.heap.size w w') : Bld B acc w' := by
  rcases h with h | h
  · exact .inl (BuilderAt.below h hb)
  · exact .inr (BuilderAt.below h hb)
theorem cell_spot {w : World} {a : Addr} {v : Value} (h : w.cell? a = some v) : a.spot = none := by
  cases hs : a.spot with
  | none => rfl
  | some s =>
    simp [World.cell?, hs] at h
    split at h <;> cases h
theorem bld_len {B : Nat} {acc : List UInt8} {w : World} (h : Bld B acc w) :
    Calls Tryz.prog 33 #[.pointer (some ⟨B, 0, none⟩)] w fun e w' => e = .returned (.int .i64 acc.length) ∧ w' = w := by
  have h2 := Tryz.Builder_Len B B (Lib.byteCells acc) w h
  rwa [show (Lib.byteCells acc).length = acc.length by simp [Lib.byteCells]] at h2
theorem bld_byte {B : Nat} {acc : List UInt8} {w : World} (h : Bld B acc w) (hl : acc.length ≤ 1000000) (hB : B ≤ w.heap.size) :
    Calls Tryz.prog 34 #[.pointer (some ⟨B, 0, none⟩), .int .u8 44] w fun e w' => e = .returned .nilIface ∧ Bld B (acc ++ [44]) w' ∧ Below B w w' := by
  refine (writeByte B B (Lib.byteCells acc) 44 w h (by simp [Lib.byteCells]; omega) hB).mono ?_
  rintro e w' ⟨rfl, h1, h2⟩
  refine ⟨rfl, .inr ?_, h2⟩
  have : Lib.byteCells (acc ++ [44]) = Lib.byteCells acc ++ [.int .u8 44] := by simp [Lib.byteCells]
  rw [this]
  exact h1
theorem bld_str {B : Nat} {acc : List UInt8} {w : World} (s : ByteArray) (h : Bld B acc w) (hl : acc.length ≤ 1000000) (hs : s.size ≤ 1000000) (hB : B ≤ w.heap.size) :
    Calls Tryz.prog 35 #[.pointer (some ⟨B, 0, none⟩), .string s] w fun e w' => e = .returned (.tuple #[.int .i64 s.size, .nilIface]) ∧ Bld B (acc ++ s.data.toList) w' ∧ Below B w w' := by
  refine (writeString B B (Lib.byteCells acc) s w h (by simp [Lib.byteCells]; omega) hB).mono ?_
  rintro e w' ⟨rfl, h1, h2⟩
  refine ⟨rfl, .inr ?_, h2⟩
  have : Lib.byteCells (acc ++ s.data.toList) = Lib.byteCells acc ++ Lib.strCells s := by simp [Lib.byteCells, Lib.strCells]
  rw [this]
  exact h1
def runLen : Int → List Int → Nat
  | _, [] => 0
  | x, y :: r => if y = x + 1 then runLen y r + 1 else 0
def listGo : Nat → List Int → List UInt8 → List UInt8
  | 0, _, acc => acc
  | _ + 1, [], acc => acc
  | f + 1, x :: r, acc => listGo f (r.drop (runLen x r)) (acc ++ (if acc = [] then [] else [44]) ++ Lib.itoa x ++ (if runLen x r = 0 then [] else 45 :: Lib.itoa (x + (runLen x r : Int))))
def formK (l : List Int) : Nat → Int
  | 0 => 0
  | k + 1 => if 0 < k ∧ l.getD k 0 ≤ l.getD (k - 1) 0 then 6 else formK l k
def outB (n : Int) : Bool := decide (n < 0) || decide (1000000000 < n)
def listS (l : List Int) : ByteArray × Int :=
  if 500 < l.length then ((⟨#[]⟩ : ByteArray), 3) else if l.any outB = true then ((⟨#[]⟩ : ByteArray), 7) else if formK l l.length ≠ 0 then ((⟨#[]⟩ : ByteArray), formK l l.length) else if l = [] then ((⟨#[45]⟩ : ByteArray), 0) else (⟨(listGo l.length l []).toArray⟩, 0)
theorem runLen_le : ∀ (r : List Int) (x : Int), runLen x r ≤ r.length
  | [], _ => Nat.le_refl _
  | y :: r, x => by
    unfold runLen
    split
    · have := runLen_le r y
      simp; omega
    · exact Nat.zero_le _
theorem runLen_stop (l : List Int) (j : Nat) (h : l.length ≤ j + 1) : runLen (l.getD j 0) (l.drop (j + 1)) = 0 := by
  rw [List.drop_of_length_le h]; rfl
theorem runLen_next (l : List Int) (j : Nat) (h : j + 1 < l.length) : runLen (l.getD j 0) (l.drop (j + 1)) = if l.getD (j + 1) 0 = l.getD j 0 + 1 then runLen (l.getD (j + 1) 0) (l.drop (j + 1 + 1)) + 1 else 0 := by
  rw [List.drop_eq_getElem_cons h]
  have e : l.getD (j + 1) 0 = l[j + 1] := by rw [List.getD_eq_getElem?_getD, List.getElem?_eq_getElem h]; rfl
  rw [e]
  rfl
/-- What a run adds. -/
def seg (acc : List UInt8) (x : Int) (k : Nat) : List UInt8 := acc ++ (if acc = [] then [] else [44]) ++ Lib.itoa x ++ (if k = 0 then [] else 45 :: Lib.itoa (x + (k : Int)))
theorem itoa_le (n : Int) (h0 : 0 ≤ n) (h1 : n ≤ 1000000000) : (Lib.itoa n).length ≤ 21 := Lib.itoa_length_le n (by omega) (by omega)
theorem seg_len (acc : List UInt8) (x : Int) (k : Nat) (h0 : 0 ≤ x) (h1 : x + (k : Int) ≤ 1000000000) : (seg acc x k).length ≤ acc.length + 44 := by
  have a1 := itoa_le x h0 (by omega)
  have a2 := itoa_le (x + (k : Int)) (by omega) h1
  unfold seg
  by_cases c1 : acc = [] <;> by_cases c2 : k = 0 <;> simp [c1, c2] <;> omega
theorem itoa_size (y : Int) (h0 : 0 ≤ y) (h1 : y ≤ 1000000000) : (⟨(Lib.itoa y).toArray⟩ : ByteArray).size ≤ 1000000 := by
  have h := itoa_le y h0 h1
  have e2 : (⟨(Lib.itoa y).toArray⟩ : ByteArray).size = (Lib.itoa y).length := by show (Lib.itoa y).toArray.size = _; simp
  omega
theorem dash_size (y : Int) (h0 : 0 ≤ y) (h1 : y ≤ 1000000000) : ((⟨#[45]⟩ : ByteArray).size : Int) + ((⟨(Lib.itoa y).toArray⟩ : ByteArray).size : Int) ≤ 100 := by
  have h := itoa_le y h0 h1
  have e1 : (⟨#[45]⟩ : ByteArray).size = 1 := rfl
  have e2 : (⟨(Lib.itoa y).toArray⟩ : ByteArray).size = (Lib.itoa y).length := by show (Lib.itoa y).toArray.size = _; simp
  omega
theorem dash_size2 (y : Int) (h0 : 0 ≤ y) (h1 : y ≤ 1000000000) : ((⟨#[45]⟩ : ByteArray) ++ (⟨(Lib.itoa y).toArray⟩ : ByteArray)).size ≤ 1000000 := by
  have h := dash_size y h0 h1
  rw [ByteArray.size_append]
  omega
theorem dash_data (y : Int) : ((⟨#[45]⟩ : ByteArray) ++ (⟨(Lib.itoa y).toArray⟩ : ByteArray)).data.toList = 45 :: Lib.itoa y := by
  simp [ByteArray.data_append]
theorem listGo_step (l : List Int) (i j f : Nat) (acc : List UInt8) (hi : i < l.length) (hij : i ≤ j) (h : runLen (l.getD i 0) (l.drop (i + 1)) = j - i) : listGo (f + 1) (l.drop i) acc = listGo f (l.drop (j + 1)) (seg acc (l.getD i 0) (j - i)) := by
  have e : l.getD i 0 = l[i] := by rw [List.getD_eq_getElem?_getD, List.getElem?_eq_getElem hi]; rfl
  rw [e] at h ⊢
  rw [List.drop_eq_getElem_cons hi, listGo, h, List.drop_drop, show i + 1 + (j - i) = j + 1 by omega]
  rfl
theorem listGo_nil (f : Nat) (acc : List UInt8) : listGo f [] acc = acc := by cases f <;> rfl
theorem formK_val (l : List Int) : ∀ k, formK l k = 0 ∨ formK l k = 6
  | 0 => .inl rfl
  | k + 1 => by
    unfold formK
    split
    · exact .inr rfl
    · exact formK_val l k
theorem cell_l {l : List Int} {w wr : World} {A : Option Addr} {n : Nat} (h : Kd.C (Kd.int .i64) w A n l) (hb : Below w.heap.size w wr) (j : Nat) (hj : j < l.length) : ∃ bb off, A = some ⟨bb, off, none⟩ ∧ wr.cell? ⟨bb, off + j, none⟩ = some (.int .i64 (l.getD j 0)) := by
  obtain ⟨ad, rfl, hx0⟩ := Kd.at_int h (j : Int) (by omega) (by have := h.1; omega)
  have hrd : PrintWords.rd l (j : Int) = l.getD j 0 := by simp [PrintWords.rd]
  rw [hrd] at hx0
  simp only [Int.toNat_natCast] at hx0
  obtain ⟨bb, off, sp⟩ := ad
  have hs : sp = none := by
    obtain ⟨ad', e7, h7⟩ := Kd.at_int h (0 : Int) (Int.le_refl _) (by have := h.1; omega)
    cases e7
    have h8 := cell_spot h7
    simpa [Addr.add] using h8
  subst hs
  refine ⟨bb, off, rfl, ?_⟩
  rw [Addr.add_lit] at hx0
  exact (hb.cell (World.block_lt_of_cell? w _ hx0)).trans hx0
set_option maxHeartbeats 1000000 in
set_option maxRecDepth 100000 in
theorem list_calls (l : List Int) (A : Option Addr) (c : Nat) (w : World) (hr : Kd.C (Kd.int .i64) w A l.length l) (ht : Tab w) :
    Calls Tryz.prog 15 #[.slice A l.length c] w fun e w' => e = .returned (.tuple #[.string (listS l).1, .int .i64 (listS l).2]) ∧ Below w.heap.size w w' := by
  have HR := Aside0.mk hr
  have HT := Aside0.mk ht
  clear hr ht
  by_cases h5 : (500 : Int) < (l.length : Int)
  · have hS : Aside0 (listS l = ((⟨#[]⟩ : ByteArray), 3)) := ⟨by unfold listS; rw [if_pos (by omega)]⟩
    go_enter Tryz.func15, Tryz.ntmps15
    go_wp2
    go_ret2
    rw [hS.out]
    exact ⟨rfl, Below.refl _ _⟩
  · have b5 : decide ((500 : Int) < (l.length : Int)) = false := decide_eq_false h5
    have HL : Aside0 (l.length ≤ 500) := ⟨by omega⟩
    obtain ⟨S, hS⟩ : ∃ S, listS l = S := ⟨_, rfl⟩
    rw [hS]
    have HS := Aside0.mk hS
    clear h5 hS
    go_enter Tryz.func15, Tryz.ntmps15
    go_wp2
    have HB0 := Aside0.mk ((Below.refl w.heap.size w).alloc (Nat.le_refl _) (.cells #[.pointer none, .slice none 0 0] 52))
    go_loop [4, 6] (fun v4 v6 => ∃ k : Nat, k ≤ l.length ∧ v6 = .int .i64 (k : Int) ∧ v4 = .int .i64 (formK l k) ∧ Aside0 (∀ j, j < k → outB (l.getD j 0) = false)) (fun _ v6 => l.length - (intOf v6).toNat)
    case atStart => exact ⟨0, Nat.zero_le _, rfl, rfl, ⟨fun j hj => by omega⟩⟩
    case round =>
      obtain ⟨k, hk, rfl, rfl, HO⟩ := hrel
      by_cases hlt : k < l.length
      · obtain ⟨bb, off, rfl, hx⟩ := cell_l HR.out HB0.out k hlt
        have hlt' : (k : Int) < (l.length : Int) := by omega
        have HK := Aside0.mk hlt
        have HF := Aside0.mk (show formK l (k + 1) = if 0 < k ∧ l.getD k 0 ≤ l.getD (k - 1) 0 then 6 else formK l k from rfl)
        have HP : Aside0 (0 < k → (w.alloc (.cells #[.pointer none, .slice none 0 0] 52)).cell? ⟨bb, off + (k - 1), none⟩ = some (.int .i64 (l.getD (k - 1) 0))) := ⟨fun hk0 => by
          obtain ⟨bb', off', e, hc⟩ := cell_l HR.out HB0.out (k - 1) (by omega)
          cases e
          exact hc⟩
        obtain ⟨x, hx2⟩ : ∃ x, l.getD k 0 = x := ⟨_, rfl⟩
        obtain ⟨y, hy2⟩ : ∃ y, l.getD (k - 1) 0 = y := ⟨_, rfl⟩
        obtain ⟨f, hf2⟩ : ∃ f, formK l k = f := ⟨_, rfl⟩
        rw [hx2] at hx
        rw [hx2, hy2, hf2] at HF
        rw [hy2] at HP
        rw [hf2]
        have HX := Aside0.mk hx2
        clear hx2 hy2 hf2 hlt
        by_cases ho : outB x = true
        · have hS7 : Aside0 (S = ((⟨#[]⟩ : ByteArray), 7)) := ⟨by
            rw [← HS.out]
            unfold listS
            rw [if_neg (by have := HL.out; omega), if_pos]
            rw [List.any_eq_true]
            refine ⟨x, ?_, ho⟩
            rw [← HX.out, List.getD_eq_getElem?_getD, List.getElem?_eq_getElem HK.out]
            exact List.getElem_mem HK.out⟩
          unfold outB at ho
          by_cases hx0 : x < 0
          · have b0 : decide (x < 0) = true := decide_eq_true hx0
            clear ho hx0
            go_wp2
            go_ret2
            rw [hS7.out]
            exact ⟨rfl, HB0.out⟩
          · have b0 : decide (x < 0) = false := decide_eq_false hx0
            have b1 : decide (1000000000 < x) = true := by rw [b0] at ho; simpa using ho
            clear ho hx0
            go_wp2
            go_ret2
            rw [hS7.out]
            exact ⟨rfl, HB0.out⟩
        · have ho2 : outB x = false := by simpa using ho
          have HO2 : Aside0 (∀ j, j < k + 1 → outB (l.getD j 0) = false) := ⟨fun j hj => by
            by_cases e : j = k
            · subst e; rw [HX.out]; exact ho2
            · exact HO.out j (by omega)⟩
          unfold outB at ho2
          rw [Bool.or_eq_false_iff] at ho2
          obtain ⟨b0, b1⟩ := ho2
          clear ho
          by_cases hk0 : k = 0
          · subst hk0
            have hxa : (w.alloc (.cells #[.pointer none, .slice none 0 0] 52)).cell? ⟨bb, off, none⟩ = some (.int .i64 x) := by simpa using hx
            have hF : Aside0 (formK l 1 = f) := ⟨by rw [HF.out, if_neg (by omega)]⟩
            go_wp2
            go_round
            case rel => exact ⟨1, by have := HK.out; omega, rfl, by rw [hF.out], HO2⟩
            case measure => simp [intOf]; have := HK.out; omega
          · have hk1 : (0 : Int) < (k : Int) := by omega
            have bk : decide ((0 : Int) < (k : Int)) = true := decide_eq_true hk1
            have hxp := HP.out (by omega)
            have hkb : (k : Int) ≤ 500 := by have := HL.out; omega
            by_cases hle : x ≤ y
            · have b2 : decide (x ≤ y) = true := decide_eq_true hle
              have hF : Aside0 (formK l (k + 1) = 6) := ⟨by rw [HF.out, if_pos ⟨by omega, hle⟩]⟩
              clear hle hk0
              go_wp2
              go_round
              case rel => exact ⟨k + 1, by have := HK.out; omega, by go_num, by rw [hF.out], HO2⟩
              case measure => simp [intOf]; have := HK.out; omega
            · have b2 : decide (x ≤ y) = false := decide_eq_false hle
              have hF : Aside0 (formK l (k + 1) = f) := ⟨by rw [HF.out, if_neg (fun h => hle h.2)]⟩
              clear hle hk0
              go_wp2
              go_round
              case rel => exact ⟨k + 1, by have := HK.out; omega, by go_num, by rw [hF.out], HO2⟩
              case measure => simp [intOf]; have := HK.out; omega
      · obtain rfl : k = l.length := by omega
        have hany : ¬ l.any outB = true := by
          rw [List.any_eq_true]
          rintro ⟨x, hx, ho⟩
          obtain ⟨i, hi, rfl⟩ := List.getElem_of_mem hx
          have := HO.out i hi
          rw [List.getD_eq_getElem?_getD, List.getElem?_eq_getElem hi] at this
          exact absurd (ho.symm.trans this) (by decide)
        obtain ⟨f, hf2⟩ : ∃ f, formK l l.length = f := ⟨_, rfl⟩
        rw [hf2]
        by_cases hf0 : f = 0
        · subst hf0
          have hS1 : Aside0 (S = if l = [] then ((⟨#[45]⟩ : ByteArray), 0) else (⟨(listGo l.length l []).toArray⟩, 0)) := ⟨by
            rw [← HS.out]
            unfold listS
            rw [if_neg (by have := HL.out; omega), if_neg hany, hf2, if_neg (by simp)]⟩
          clear hany hf2
          have HBld := Aside0.mk (show Bld w.heap.size [] (w.alloc (.cells #[.pointer none, .slice none 0 0] 52)) from Lib.fresh_isBuilder 52 5 w)
          have HT0 := Aside0.mk (HT.out.stay HB0.out)
          go_wp2
          go_loopw [8] (fun v8 wr => ∃ (i f : Nat) (acc : List UInt8), v8 = .int .i64 (i : Int) ∧ i ≤ l.length ∧ Aside0 (l.length - i ≤ f ∧ listGo f (l.drop i) acc = listGo l.length l []) ∧ Aside0 (acc.length ≤ 50 * i) ∧ Aside0 (Bld w.heap.size acc wr) ∧ Aside0 (Below w.heap.size w wr)) (fun v8 _ => l.length - (intOf v8).toNat)
          case atStart => exact ⟨0, l.length, [], rfl, Nat.zero_le _, ⟨Nat.le_refl _, rfl⟩, ⟨Nat.le_refl _⟩, HBld, HB0⟩
          case round =>
            clear HBld HB0 HT0
            obtain ⟨i, f, acc, rfl, hi, HG, HA, HBld, HB⟩ := hrel
            obtain ⟨wo, hwo⟩ : ∃ wo : World, wo = wr := ⟨_, rfl⟩
            subst hwo
            by_cases hlt : i < l.length
            · obtain ⟨bb, off, rfl, hx⟩ := cell_l HR.out HB.out i hlt
              have hlt' : (i : Int) < (l.length : Int) := by omega
              have HI := Aside0.mk hlt
              obtain ⟨x, hx2⟩ : ∃ x, l.getD i 0 = x := ⟨_, rfl⟩
              rw [hx2] at hx
              have HX := Aside0.mk hx2
              have hxb := HO.out i hlt
              rw [hx2] at hxb
              unfold outB at hxb
              rw [Bool.or_eq_false_iff, decide_eq_false_iff_not, decide_eq_false_iff_not] at hxb
              have HXB := Aside0.mk hxb
              clear hx2 hlt hxb
              go_wp2
              go_loopw [8] (fun v8 w2 => ∃ (j q : Nat), v8 = .int .i64 (j : Int) ∧ i ≤ j ∧ j < l.length ∧ w2 = wo.drewN q ∧ Aside0 (runLen x (l.drop (i + 1)) = (j - i) + runLen (l.getD j 0) (l.drop (j + 1))) ∧ Aside0 (l.getD j 0 = x + ((j - i : Nat) : Int))) (fun v8 _ => l.length - (intOf v8).toNat)
              case atStart => exact ⟨i, 0, rfl, Nat.le_refl _, HI.out, rfl, ⟨by rw [HX.out]; omega⟩, ⟨by rw [HX.out]; simp⟩⟩
              case round =>
                obtain ⟨j, q, rfl, hij, hj, rfl, HRun, HV⟩ := hrel
                obtain ⟨y, hy2⟩ : ∃ y, l.getD j 0 = y := ⟨_, rfl⟩
                have HY := Aside0.mk hy2
                rw [hy2] at HRun HV
                have hxj : wo.cell? ⟨bb, off + j, none⟩ = some (.int .i64 y) := by
                  obtain ⟨bb', off', e, hc⟩ := cell_l HR.out HB.out j hj
                  cases e
                  rw [hy2] at hc
                  exact hc
                have hyb : y < 1000000001 := by
                  have h2 := HO.out j hj
                  rw [hy2] at h2
                  unfold outB at h2
                  rw [Bool.or_eq_false_iff, decide_eq_false_iff_not, decide_eq_false_iff_not] at h2
                  omega
                have hyb0 : 0 ≤ y := by
                  have h2 := HO.out j hj
                  rw [hy2] at h2
                  unfold outB at h2
                  rw [Bool.or_eq_false_iff, decide_eq_false_iff_not, decide_eq_false_iff_not] at h2
                  omega
                have HJ := Aside0.mk hj
                have hjb : (j : Int) < 500 := by have := HL.out; omega
                have hji : (j : Int) < (l.length : Int) := by omega
                clear hy2
                by_cases hn : j + 1 < l.length
                · obtain ⟨z, hz2⟩ : ∃ z, l.getD (j + 1) 0 = z := ⟨_, rfl⟩
                  have HZ := Aside0.mk hz2
                  have hxn : wo.cell? ⟨bb, off + (j + 1), none⟩ = some (.int .i64 z) := by
                    obtain ⟨bb', off', e, hc⟩ := cell_l HR.out HB.out (j + 1) hn
                    cases e
                    rw [hz2] at hc
                    exact hc
                  have HN := Aside0.mk hn
                  have hni : (j : Int) + 1 < (l.length : Int) := by omega
                  have bn : decide ((j : Int) + 1 < (l.length : Int)) = true := decide_eq_true hni
                  have hw1 : IntKind.i64.wrap ((j : Int) + 1) = (j : Int) + 1 := IntWalk.i64_in _ (by omega)
                  have hw2 : IntKind.i64.wrap (y + 1) = y + 1 := IntWalk.i64_in _ (by omega)
                  have ht1 : ((j : Int) + 1).toNat = j + 1 := by omega
                  have h01 : 0 ≤ (j : Int) + 1 := by omega
                  clear hz2 hn
                  by_cases hzy : z = y + 1
                  · have bz : (z == y + 1) = true := beq_iff_eq.mpr hzy
                    have HZY := Aside0.mk hzy
                    clear hzy
                    go_wp2
                    go_quiet (fail)
                    go_wp2
                    go_roundw
                    case rel => exact ⟨j + 1, q + nq, by go_num, by omega, HN.out, rfl, ⟨by rw [HRun.out, ← HY.out, runLen_next l j HN.out, HZ.out, HY.out, if_pos HZY.out]; omega⟩, ⟨by rw [HZ.out, HZY.out, HV.out]; omega⟩⟩
                    case measure => simp [intOf]; have := HJ.out; omega
                  · have bz : (z == y + 1) = false := beq_eq_false_iff_ne.mpr hzy
                    have hzy' := hzy
                    clear hzy
                    replace hzy' := Aside0.mk hzy'
                    go_wp2
                    go_quiet (fail)
                    have hstop : runLen y (l.drop (j + 1)) = 0 := by rw [← HY.out, runLen_next l j HN.out, HZ.out, HY.out, if_neg hzy'.out]
                    have HRl : runLen x (l.drop (i + 1)) = j - i := by rw [HRun.out, hstop]; omega
                    obtain ⟨f, rfl⟩ : ∃ f', f = f' + 1 := ⟨f - 1, by have := HG.out.1; have := HI.out; omega⟩
                    have HG1 : Aside0 (l.length - (j + 1) ≤ f) := ⟨by have := HG.out.1; omega⟩
                    have HG2 : Aside0 (listGo f (l.drop (j + 1)) (seg acc x (j - i)) = listGo l.length l []) := ⟨by rw [← HG.out.2, listGo_step l i j f acc HI.out hij (by rw [HX.out]; exact HRl), HX.out]⟩
                    have hxb0 : 0 ≤ x ∧ x ≤ 1000000000 := by have := HXB.out; omega
                    have HX0 := Aside0.mk hxb0.1
                    have HX1 := Aside0.mk hxb0.2
                    have HY0 := Aside0.mk hyb0
                    have HY1 : Aside0 (y ≤ 1000000000) := ⟨by omega⟩
                    have HSL : Aside0 ((seg acc x (j - i)).length ≤ 50 * (j + 1)) := ⟨by have h8 := seg_len acc x (j - i) hxb0.1 (by rw [← HV.out]; omega); have h9 := HA.out; omega⟩
                    have HA2 : Aside0 (acc.length ≤ 25000) := ⟨by have h9 := HA.out; have := HL.out; have := HI.out; omega⟩
                    have HBd0 := Aside0.mk (HBld.out.below (pw_below_drewN (Below.refl _ wo) (q + nq)))
                    have HBw0 := Aside0.mk (pw_below_drewN HB.out (q + nq))
                    have hbb : Aside0 (bb < w.heap.size) := ⟨by obtain ⟨b3, o3, e3, h3⟩ := cell_l HR.out (Below.refl _ w) j HJ.out; cases e3; exact World.block_lt_of_cell? w ⟨bb, off + j, none⟩ h3⟩
                    have hxw : Aside0 (w.cell? ⟨bb, off + j, none⟩ = some (.int .i64 y)) := ⟨by obtain ⟨b3, o3, e3, h3⟩ := cell_l HR.out (Below.refl _ w) j HJ.out; cases e3; rw [HY.out] at h3; exact h3⟩
                    clear hxb0 hyb0 hyb HRl hstop
                    by_cases hac : acc = []
                    · subst hac
                      by_cases hji0 : j = i
                      · have hyx : y = x := by rw [HV.out, hji0]; simp
                        have bxy : decide (x < y) = false := by rw [hyx]; simp
                        have HSeg : Aside0 (seg [] x (j - i) = [] ++ Lib.itoa x) := ⟨by unfold seg; rw [if_pos rfl, if_pos (by omega)]; simp⟩
                        clear hyx hji0
                        go_wp2_with (first
                          | (go_at_call 33; refine (bld_len HBd0.out).mono ?_; rintro e w4 ⟨rfl, rfl⟩)
                          | (go_at_call 36; with_reducible refine Calls.mono (itoa_calls x HX0.out HX1.out _ (HT.out.stay HBw0.out)) ?_; rintro e w5 ⟨rfl, h2⟩; have HBd2 := Aside0.mk (HBd0.out.below h2); have HBw2 := Aside0.mk (below_step HBw0.out h2); clear h2)
                          | (go_at_call 35; with_reducible refine Calls.mono (bld_str ⟨(Lib.itoa x).toArray⟩ HBd2.out (by have := HA2.out; first | (simp; done) | (simp; omega)) (itoa_size x HX0.out HX1.out) HBw2.out.size) ?_; rintro e w6 ⟨rfl, h1, h2⟩; have HBd3 := Aside0.mk h1; have HBw3 := Aside0.mk (HBw2.out.trans h2); have hxj3 := (HBw3.out.cell hbb.out).trans hxw.out; clear h1 h2))
                        go_roundw
                        case rel => exact ⟨j + 1, f, seg [] x (j - i), by go_num, by have := HJ.out; omega, ⟨by have := HG1.out; omega, HG2.out⟩, HSL, ⟨by rw [HSeg.out]; exact HBd3.out⟩, HBw3⟩
                        case measure => simp [intOf]; have := HJ.out; omega
                      · have hyx : x < y := by rw [HV.out]; omega
                        have bxy : decide (x < y) = true := decide_eq_true hyx
                        have HSeg : Aside0 (seg [] x (j - i) = [] ++ Lib.itoa x ++ ((⟨#[45]⟩ : ByteArray) ++ ⟨(Lib.itoa y).toArray⟩).data.toList) := ⟨by unfold seg; rw [if_pos rfl, if_neg (by omega)]; rw [← HV.out, dash_data] <;> simp⟩
                        clear hyx hji0
                        go_wp2_with (first
                          | (go_at_call 33; refine (bld_len HBd0.out).mono ?_; rintro e w4 ⟨rfl, rfl⟩)
                          | (go_at_call 36; with_reducible refine Calls.mono (itoa_calls x HX0.out HX1.out _ (HT.out.stay HBw0.out)) ?_; rintro e w5 ⟨rfl, h2⟩; have HBd2 := Aside0.mk (HBd0.out.below h2); have HBw2 := Aside0.mk (below_step HBw0.out h2); clear h2)
                          | (go_at_call 35; with_reducible refine Calls.mono (bld_str ⟨(Lib.itoa x).toArray⟩ HBd2.out (by have := HA2.out; first | (simp; done) | (simp; omega)) (itoa_size x HX0.out HX1.out) HBw2.out.size) ?_; rintro e w6 ⟨rfl, h1, h2⟩; have HBd3 := Aside0.mk h1; have HBw3 := Aside0.mk (HBw2.out.trans h2); have hxj3 := (HBw3.out.cell hbb.out).trans hxw.out; clear h1 h2)
                          | (go_at_call 36; with_reducible refine Calls.mono (itoa_calls y HY0.out HY1.out _ (HT.out.stay HBw3.out)) ?_; rintro e w7 ⟨rfl, h2⟩; have HBd4 := Aside0.mk (HBd3.out.below h2); have HBw4 := Aside0.mk (below_step HBw3.out h2); have hsz : ((⟨#[45]⟩ : ByteArray).size : Int) + ((⟨(Lib.itoa y).toArray⟩ : ByteArray).size : Int) ≤ 100 := dash_size y HY0.out HY1.out; clear h2)
                          | (go_at_call 35; with_reducible refine Calls.mono (bld_str _ HBd4.out (by have := HA2.out; have := itoa_le x HX0.out HX1.out; first | (simp; done) | (simp; omega)) (dash_size2 y HY0.out HY1.out) HBw4.out.size) ?_; rintro e w8 ⟨rfl, h1, h2⟩; have HBd5 := Aside0.mk h1; have HBw5 := Aside0.mk (HBw4.out.trans h2); clear h1 h2))
                        go_roundw
                        case rel => exact ⟨j + 1, f, seg [] x (j - i), by go_num, by have := HJ.out; omega, ⟨by have := HG1.out; omega, HG2.out⟩, HSL, ⟨by rw [HSeg.out]; exact HBd5.out⟩, HBw5⟩
                        case measure => simp [intOf]; have := HJ.out; omega
                    · have hacN : 0 < acc.length := List.length_pos_iff.2 hac
                      have bac : decide ((0 : Int) < (acc.length : Int)) = true := decide_eq_true (by omega)
                      have bac2 : decide (0 < acc.length) = true := decide_eq_true hacN
                      by_cases hji0 : j = i
                      · have hyx : y = x := by rw [HV.out, hji0]; simp
                        have bxy : decide (x < y) = false := by rw [hyx]; simp
                        have HSeg : Aside0 (seg acc x (j - i) = acc ++ [44] ++ Lib.itoa x) := ⟨by unfold seg; rw [if_neg hac, if_pos (by omega)]; simp⟩
                        clear hyx hji0
                        clear hac
                        go_wp2_with (first
                          | (go_at_call 33; refine (bld_len HBd0.out).mono ?_; rintro e w4 ⟨rfl, rfl⟩)
                          | (go_at_call 34; refine (bld_byte HBd0.out (by have := HA2.out; omega) HBw0.out.size).mono ?_; rintro e w4 ⟨rfl, h1, h2⟩; have HBd1 := Aside0.mk h1; have HBw1 := Aside0.mk (HBw0.out.trans h2); clear h1 h2)
                          | (go_at_call 36; with_reducible refine Calls.mono (itoa_calls x HX0.out HX1.out _ (HT.out.stay HBw1.out)) ?_; rintro e w5 ⟨rfl, h2⟩; have HBd2 := Aside0.mk (HBd1.out.below h2); have HBw2 := Aside0.mk (below_step HBw1.out h2); clear h2)
                          | (go_at_call 35; with_reducible refine Calls.mono (bld_str ⟨(Lib.itoa x).toArray⟩ HBd2.out (by have := HA2.out; first | (simp; done) | (simp; omega)) (itoa_size x HX0.out HX1.out) HBw2.out.size) ?_; rintro e w6 ⟨rfl, h1, h2⟩; have HBd3 := Aside0.mk h1; have HBw3 := Aside0.mk (HBw2.out.trans h2); have hxj3 := (HBw3.out.cell hbb.out).trans hxw.out; clear h1 h2))
                        go_roundw
                        case rel => exact ⟨j + 1, f, seg acc x (j - i), by go_num, by have := HJ.out; omega, ⟨by have := HG1.out; omega, HG2.out⟩, HSL, ⟨by rw [HSeg.out]; exact HBd3.out⟩, HBw3⟩
                        case measure => simp [intOf]; have := HJ.out; omega
                      · have hyx : x < y := by rw [HV.out]; omega
                        have bxy : decide (x < y) = true := decide_eq_true hyx
                        have HSeg : Aside0 (seg acc x (j - i) = acc ++ [44] ++ Lib.itoa x ++ ((⟨#[45]⟩ : ByteArray) ++ ⟨(Lib.itoa y).toArray⟩).data.toList) := ⟨by unfold seg; rw [if_neg hac, if_neg (by omega)]; rw [← HV.out, dash_data] <;> simp⟩
                        clear hyx hji0
                        clear hac
                        go_wp2_with (first
                          | (go_at_call 33; refine (bld_len HBd0.out).mono ?_; rintro e w4 ⟨rfl, rfl⟩)
                          | (go_at_call 34; refine (bld_byte HBd0.out (by have := HA2.out; omega) HBw0.out.size).mono ?_; rintro e w4 ⟨rfl, h1, h2⟩; have HBd1 := Aside0.mk h1; have HBw1 := Aside0.mk (HBw0.out.trans h2); clear h1 h2)
                          | (go_at_call 36; with_reducible refine Calls.mono (itoa_calls x HX0.out HX1.out _ (HT.out.stay HBw1.out)) ?_; rintro e w5 ⟨rfl, h2⟩; have HBd2 := Aside0.mk (HBd1.out.below h2); have HBw2 := Aside0.mk (below_step HBw1.out h2); clear h2)
                          | (go_at_call 35; with_reducible refine Calls.mono (bld_str ⟨(Lib.itoa x).toArray⟩ HBd2.out (by have := HA2.out; first | (simp; done) | (simp; omega)) (itoa_size x HX0.out HX1.out) HBw2.out.size) ?_; rintro e w6 ⟨rfl, h1, h2⟩; have HBd3 := Aside0.mk h1; have HBw3 := Aside0.mk (HBw2.out.trans h2); have hxj3 := (HBw3.out.cell hbb.out).trans hxw.out; clear h1 h2)
                          | (go_at_call 36; with_reducible refine Calls.mono (itoa_calls y HY0.out HY1.out _ (HT.out.stay HBw3.out)) ?_; rintro e w7 ⟨rfl, h2⟩; have HBd4 := Aside0.mk (HBd3.out.below h2); have HBw4 := Aside0.mk (below_step HBw3.out h2); have hsz : ((⟨#[45]⟩ : ByteArray).size : Int) + ((⟨(Lib.itoa y).toArray⟩ : ByteArray).size : Int) ≤ 100 := dash_size y HY0.out HY1.out; clear h2)
                          | (go_at_call 35; with_reducible refine Calls.mono (bld_str _ HBd4.out (by have := HA2.out; have := itoa_le x HX0.out HX1.out; first | (simp; done) | (simp; omega)) (dash_size2 y HY0.out HY1.out) HBw4.out.size) ?_; rintro e w8 ⟨rfl, h1, h2⟩; have HBd5 := Aside0.mk h1; have HBw5 := Aside0.mk (HBw4.out.trans h2); clear h1 h2))
                        go_roundw
                        case rel => exact ⟨j + 1, f, seg acc x (j - i), by go_num, by have := HJ.out; omega, ⟨by have := HG1.out; omega, HG2.out⟩, HSL, ⟨by rw [HSeg.out]; exact HBd5.out⟩, HBw5⟩
                        case measure => simp [intOf]; have := HJ.out; omega
                · have bn : decide ((j : Int) + 1 < (l.length : Int)) = false := decide_eq_false (by omega)
                  have hw1 : IntKind.i64.wrap ((j : Int) + 1) = (j : Int) + 1 := IntWalk.i64_in _ (by omega)
                  go_wp2
                  go_quiet (fail)
                  have hstop : runLen y (l.drop (j + 1)) = 0 := by rw [← HY.out, runLen_stop l j (by omega)]
                  have HRl : runLen x (l.drop (i + 1)) = j - i := by rw [HRun.out, hstop]; omega
                  obtain ⟨f, rfl⟩ : ∃ f', f = f' + 1 := ⟨f - 1, by have := HG.out.1; have := HI.out; omega⟩
                  have HG1 : Aside0 (l.length - (j + 1) ≤ f) := ⟨by have := HG.out.1; omega⟩
                  have HG2 : Aside0 (listGo f (l.drop (j + 1)) (seg acc x (j - i)) = listGo l.length l []) := ⟨by rw [← HG.out.2, listGo_step l i j f acc HI.out hij (by rw [HX.out]; exact HRl), HX.out]⟩
                  have hxb0 : 0 ≤ x ∧ x ≤ 1000000000 := by have := HXB.out; omega
                  have HX0 := Aside0.mk hxb0.1
                  have HX1 := Aside0.mk hxb0.2
                  have HY0 := Aside0.mk hyb0
                  have HY1 : Aside0 (y ≤ 1000000000) := ⟨by omega⟩
                  have HSL : Aside0 ((seg acc x (j - i)).length ≤ 50 * (j + 1)) := ⟨by have h8 := seg_len acc x (j - i) hxb0.1 (by rw [← HV.out]; omega); have h9 := HA.out; omega⟩
                  have HA2 : Aside0 (acc.length ≤ 25000) := ⟨by have h9 := HA.out; have := HL.out; have := HI.out; omega⟩
                  have HBd0 := Aside0.mk (HBld.out.below (pw_below_drewN (Below.refl _ wo) (q + nq)))
                  have HBw0 := Aside0.mk (pw_below_drewN HB.out (q + nq))
                  have hbb : Aside0 (bb < w.heap.size) := ⟨by obtain ⟨b3, o3, e3, h3⟩ := cell_l HR.out (Below.refl _ w) j HJ.out; cases e3; exact World.block_lt_of_cell? w ⟨bb, off + j, none⟩ h3⟩
                  have hxw : Aside0 (w.cell? ⟨bb, off + j, none⟩ = some (.int .i64 y)) := ⟨by obtain ⟨b3, o3, e3, h3⟩ := cell_l HR.out (Below.refl _ w) j HJ.out; cases e3; rw [HY.out] at h3; exact h3⟩
                  clear hxb0 hyb0 hyb HRl hstop
                  by_cases hac : acc = []
                  · subst hac
                    by_cases hji0 : j = i
                    · have hyx : y = x := by rw [HV.out, hji0]; simp
                      have bxy : decide (x < y) = false := by rw [hyx]; simp
                      have HSeg : Aside0 (seg [] x (j - i) = [] ++ Lib.itoa x) := ⟨by unfold seg; rw [if_pos rfl, if_pos (by omega)]; simp⟩
                      clear hyx hji0
                      go_wp2_with (first
                        | (go_at_call 33; refine (bld_len HBd0.out).mono ?_; rintro e w4 ⟨rfl, rfl⟩)
                        | (go_at_call 36; with_reducible refine Calls.mono (itoa_calls x HX0.out HX1.out _ (HT.out.stay HBw0.out)) ?_; rintro e w5 ⟨rfl, h2⟩; have HBd2 := Aside0.mk (HBd0.out.below h2); have HBw2 := Aside0.mk (below_step HBw0.out h2); clear h2)
                        | (go_at_call 35; with_reducible refine Calls.mono (bld_str ⟨(Lib.itoa x).toArray⟩ HBd2.out (by have := HA2.out; first | (simp; done) | (simp; omega)) (itoa_size x HX0.out HX1.out) HBw2.out.size) ?_; rintro e w6 ⟨rfl, h1, h2⟩; have HBd3 := Aside0.mk h1; have HBw3 := Aside0.mk (HBw2.out.trans h2); have hxj3 := (HBw3.out.cell hbb.out).trans hxw.out; clear h1 h2))
                      go_roundw
                      case rel => exact ⟨j + 1, f, seg [] x (j - i), by go_num, by have := HJ.out; omega, ⟨by have := HG1.out; omega, HG2.out⟩, HSL, ⟨by rw [HSeg.out]; exact HBd3.out⟩, HBw3⟩
                      case measure => simp [intOf]; have := HJ.out; omega
                    · have hyx : x < y := by rw [HV.out]; omega
                      have bxy : decide (x < y) = true := decide_eq_true hyx
                      have HSeg : Aside0 (seg [] x (j - i) = [] ++ Lib.itoa x ++ ((⟨#[45]⟩ : ByteArray) ++ ⟨(Lib.itoa y).toArray⟩).data.toList) := ⟨by unfold seg; rw [if_pos rfl, if_neg (by omega)]; rw [← HV.out, dash_data] <;> simp⟩
                      clear hyx hji0
                      go_wp2_with (first
                        | (go_at_call 33; refine (bld_len HBd0.out).mono ?_; rintro e w4 ⟨rfl, rfl⟩)
                        | (go_at_call 36; with_reducible refine Calls.mono (itoa_calls x HX0.out HX1.out _ (HT.out.stay HBw0.out)) ?_; rintro e w5 ⟨rfl, h2⟩; have HBd2 := Aside0.mk (HBd0.out.below h2); have HBw2 := Aside0.mk (below_step HBw0.out h2); clear h2)
                        | (go_at_call 35; with_reducible refine Calls.mono (bld_str ⟨(Lib.itoa x).toArray⟩ HBd2.out (by have := HA2.out; first | (simp; done) | (simp; omega)) (itoa_size x HX0.out HX1.out) HBw2.out.size) ?_; rintro e w6 ⟨rfl, h1, h2⟩; have HBd3 := Aside0.mk h1; have HBw3 := Aside0.mk (HBw2.out.trans h2); have hxj3 := (HBw3.out.cell hbb.out).trans hxw.out; clear h1 h2)
                        | (go_at_call 36; with_reducible refine Calls.mono (itoa_calls y HY0.out HY1.out _ (HT.out.stay HBw3.out)) ?_; rintro e w7 ⟨rfl, h2⟩; have HBd4 := Aside0.mk (HBd3.out.below h2); have HBw4 := Aside0.mk (below_step HBw3.out h2); have hsz : ((⟨#[45]⟩ : ByteArray).size : Int) + ((⟨(Lib.itoa y).toArray⟩ : ByteArray).size : Int) ≤ 100 := dash_size y HY0.out HY1.out; clear h2)
                        | (go_at_call 35; with_reducible refine Calls.mono (bld_str _ HBd4.out (by have := HA2.out; have := itoa_le x HX0.out HX1.out; first | (simp; done) | (simp; omega)) (dash_size2 y HY0.out HY1.out) HBw4.out.size) ?_; rintro e w8 ⟨rfl, h1, h2⟩; have HBd5 := Aside0.mk h1; have HBw5 := Aside0.mk (HBw4.out.trans h2); clear h1 h2))
                      go_roundw
                      case rel => exact ⟨j + 1, f, seg [] x (j - i), by go_num, by have := HJ.out; omega, ⟨by have := HG1.out; omega, HG2.out⟩, HSL, ⟨by rw [HSeg.out]; exact HBd5.out⟩, HBw5⟩
                      case measure => simp [intOf]; have := HJ.out; omega
                  · have hacN : 0 < acc.length := List.length_pos_iff.2 hac
                    have bac : decide ((0 : Int) < (acc.length : Int)) = true := decide_eq_true (by omega)
                    have bac2 : decide (0 < acc.length) = true := decide_eq_true hacN
                    by_cases hji0 : j = i
                    · have hyx : y = x := by rw [HV.out, hji0]; simp
                      have bxy : decide (x < y) = false := by rw [hyx]; simp
                      have HSeg : Aside0 (seg acc x (j - i) = acc ++ [44] ++ Lib.itoa x) := ⟨by unfold seg; rw [if_neg hac, if_pos (by omega)]; simp⟩
                      clear hyx hji0
                      clear hac
                      go_wp2_with (first
                        | (go_at_call 33; refine (bld_len HBd0.out).mono ?_; rintro e w4 ⟨rfl, rfl⟩)
                        | (go_at_call 34; refine (bld_byte HBd0.out (by have := HA2.out; omega) HBw0.out.size).mono ?_; rintro e w4 ⟨rfl, h1, h2⟩; have HBd1 := Aside0.mk h1; have HBw1 := Aside0.mk (HBw0.out.trans h2); clear h1 h2)
                        | (go_at_call 36; with_reducible refine Calls.mono (itoa_calls x HX0.out HX1.out _ (HT.out.stay HBw1.out)) ?_; rintro e w5 ⟨rfl, h2⟩; have HBd2 := Aside0.mk (HBd1.out.below h2); have HBw2 := Aside0.mk (below_step HBw1.out h2); clear h2)
                        | (go_at_call 35; with_reducible refine Calls.mono (bld_str ⟨(Lib.itoa x).toArray⟩ HBd2.out (by have := HA2.out; first | (simp; done) | (simp; omega)) (itoa_size x HX0.out HX1.out) HBw2.out.size) ?_; rintro e w6 ⟨rfl, h1, h2⟩; have HBd3 := Aside0.mk h1; have HBw3 := Aside0.mk (HBw2.out.trans h2); have hxj3 := (HBw3.out.cell hbb.out).trans hxw.out; clear h1 h2))
                      go_roundw
                      case rel => exact ⟨j + 1, f, seg acc x (j - i), by go_num, by have := HJ.out; omega, ⟨by have := HG1.out; omega, HG2.out⟩, HSL, ⟨by rw [HSeg.out]; exact HBd3.out⟩, HBw3⟩
                      case measure => simp [intOf]; have := HJ.out; omega
                    · have hyx : x < y := by rw [HV.out]; omega
                      have bxy : decide (x < y) = true := decide_eq_true hyx
                      have HSeg : Aside0 (seg acc x (j - i) = acc ++ [44] ++ Lib.itoa x ++ ((⟨#[45]⟩ : ByteArray) ++ ⟨(Lib.itoa y).toArray⟩).data.toList) := ⟨by unfold seg; rw [if_neg hac, if_neg (by omega)]; rw [← HV.out, dash_data] <;> simp⟩
                      clear hyx hji0
                      clear hac
                      go_wp2_with (first
                        | (go_at_call 33; refine (bld_len HBd0.out).mono ?_; rintro e w4 ⟨rfl, rfl⟩)
                        | (go_at_call 34; refine (bld_byte HBd0.out (by have := HA2.out; omega) HBw0.out.size).mono ?_; rintro e w4 ⟨rfl, h1, h2⟩; have HBd1 := Aside0.mk h1; have HBw1 := Aside0.mk (HBw0.out.trans h2); clear h1 h2)
                        | (go_at_call 36; with_reducible refine Calls.mono (itoa_calls x HX0.out HX1.out _ (HT.out.stay HBw1.out)) ?_; rintro e w5 ⟨rfl, h2⟩; have HBd2 := Aside0.mk (HBd1.out.below h2); have HBw2 := Aside0.mk (below_step HBw1.out h2); clear h2)
                        | (go_at_call 35; with_reducible refine Calls.mono (bld_str ⟨(Lib.itoa x).toArray⟩ HBd2.out (by have := HA2.out; first | (simp; done) | (simp; omega)) (itoa_size x HX0.out HX1.out) HBw2.out.size) ?_; rintro e w6 ⟨rfl, h1, h2⟩; have HBd3 := Aside0.mk h1; have HBw3 := Aside0.mk (HBw2.out.trans h2); have hxj3 := (HBw3.out.cell hbb.out).trans hxw.out; clear h1 h2)
                        | (go_at_call 36; with_reducible refine Calls.mono (itoa_calls y HY0.out HY1.out _ (HT.out.stay HBw3.out)) ?_; rintro e w7 ⟨rfl, h2⟩; have HBd4 := Aside0.mk (HBd3.out.below h2); have HBw4 := Aside0.mk (below_step HBw3.out h2); have hsz : ((⟨#[45]⟩ : ByteArray).size : Int) + ((⟨(Lib.itoa y).toArray⟩ : ByteArray).size : Int) ≤ 100 := dash_size y HY0.out HY1.out; clear h2)
                        | (go_at_call 35; with_reducible refine Calls.mono (bld_str _ HBd4.out (by have := HA2.out; have := itoa_le x HX0.out HX1.out; first | (simp; done) | (simp; omega)) (dash_size2 y HY0.out HY1.out) HBw4.out.size) ?_; rintro e w8 ⟨rfl, h1, h2⟩; have HBd5 := Aside0.mk h1; have HBw5 := Aside0.mk (HBw4.out.trans h2); clear h1 h2))
                      go_roundw
                      case rel => exact ⟨j + 1, f, seg acc x (j - i), by go_num, by have := HJ.out; omega, ⟨by have := HG1.out; omega, HG2.out⟩, HSL, ⟨by rw [HSeg.out]; exact HBd5.out⟩, HBw5⟩
                      case measure => simp [intOf]; have := HJ.out; omega
            · obtain rfl : i = l.length := by omega
              have hacc : acc = listGo l.length l [] := by
                have h2 := HG.out.2
                rwa [List.drop_length, listGo_nil] at h2
              by_cases hl : l = []
              · subst hl
                have hS2 : Aside0 (S = ((⟨#[45]⟩ : ByteArray), 0)) := ⟨by rw [hS1.out, if_pos rfl]⟩
                clear hacc
                go_wp2
                go_ret2
                rw [hS2.out]
                exact ⟨rfl, HB.out⟩
              · have hS2 : Aside0 (S = ((⟨acc.toArray⟩ : ByteArray), 0)) := ⟨by rw [hS1.out, if_neg hl, ← hacc]⟩
                have hpos : 0 < l.length := List.length_pos_iff.2 hl
                have bz : ((l.length : Int) == 0) = false := beq_eq_false_iff_ne.mpr (by omega)
                clear hacc hl
                go_wp2_with (go_at_call 37; refine (Tryz.Builder_String_any w.heap.size w.heap.size acc _ HBld.out HB.out.size).mono ?_; rintro e w4 ⟨rfl, h2⟩; have HB2 := Aside0.mk (HB.out.trans h2); clear h2)
                go_ret2
                rw [hS2.out]
                exact ⟨rfl, HB2.out⟩
        · have hf6 : f = 6 := by
            rcases formK_val l l.length with h | h
            · exact absurd (hf2.symm.trans h) hf0
            · exact hf2.symm.trans h
          subst hf6
          have hS1 : Aside0 (S = ((⟨#[]⟩ : ByteArray), 6)) := ⟨by
            rw [← HS.out]
            unfold listS
            rw [if_neg (by have := HL.out; omega), if_neg hany, hf2, if_pos (by simp)]⟩
          have hpos : (0 : Int) < (l.length : Int) := by
            rcases Nat.eq_zero_or_pos l.length with h | h
            · rw [h] at hf2; cases hf2
            · omega
          have bp : decide ((0 : Int) < (l.length : Int)) = true := decide_eq_true hpos
          clear hany hf2 hf0
          go_wp2
          refine wp_loop_rounds 1 ?_
          rw [rounds_succ]
          go_wp2
          go_ret2
          rw [hS1.out]
          exact ⟨rfl, HB0.out⟩
end Go.Proofs.YtkalbdeopogbpaaGreatDoor.P.Wd
