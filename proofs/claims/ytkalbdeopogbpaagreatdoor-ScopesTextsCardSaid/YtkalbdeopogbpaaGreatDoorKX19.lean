import Derived.Test.YtkalbdeopogbpaaGreatDoorKX1
import Derived.Test.YtkalbdeopogbpaaGreatDoorKX18
import Derived.Sort.OwnSortedInts
namespace Go.Proofs.YtkalbdeopogbpaaGreatDoor.P.Sc
open Go.RowKit Go.Shelf Go.Sort Go.Proofs.YtkalbdeopogbpaaGreatDoorW.PrintWords Go.Proofs.YtkalbdeopogbpaaGreatDoorW.PrintLast Go.Proofs.YtkalbdeopogbpaaGreatDoorW.PrintMore
set_option linter.unusedVariables false
/-- A slice of ints of the call's own. -/
def OwnI (w : World) (base : Nat) (v : Value) (xs : List Int) : Prop := w.ownsRow base 3 1 v xs.length (xs.map (Value.int .i64))
theorem OwnI.len {w : World} {base : Nat} {v : Value} {xs : List Int} (h : OwnI w base v xs) : ∃ A c, v = .slice A xs.length c ∧ xs.length ≤ c := by
  rcases h.2 with ⟨rfl, h0⟩ | ⟨g, cap, cur, rfl, hbase, hb, h1, h2, h3, h4⟩
  · exact ⟨none, 0, by rw [h0], by omega⟩
  · exact ⟨_, _, rfl, h1⟩
theorem OwnI.low {w : World} {base base' : Nat} {v : Value} {xs : List Int} (h : OwnI w base v xs) (hb : base' ≤ base) : OwnI w base' v xs := ownsRow_low h hb
theorem OwnI.base {w : World} {base : Nat} {v : Value} {xs : List Int} (h : OwnI w base v xs) : ∀ k, v.ownBlock = some k → base ≤ k := fun k hk => (World.ownsRow.lt h k hk).1
theorem OwnI.below {w w' : World} {base : Nat} {v : Value} {xs : List Int} (h : OwnI w base v xs) (hb : Below w.heap.size w w') : OwnI w' base v xs := pw_own_below h hb
theorem OwnI.reads {w : World} {base : Nat} {v : Value} {xs : List Int} (h : OwnI w base v xs) : ∃ A c, v = .slice A xs.length c ∧ xs.length ≤ c ∧ Kd.C (Kd.int .i64) w A xs.length xs :=
  Kd.R_reads (Kd.R_of_own h (ok := fun _ => True) (fun _ _ => trivial))
theorem own_cut {w : World} {base g cap n m : Nat} {xs : List Value} (h : w.ownsRow base 3 1 (.slice (some ⟨g, 0, none⟩) n cap) n xs) (hm : m ≤ n) : w.ownsRow base 3 1 (.slice (some ⟨g, 0, none⟩) m cap) m (xs.take m) := by
  obtain ⟨h1, h2⟩ := h
  rcases h2 with ⟨h, _⟩ | ⟨g', cap', cur, hv, hb, hh, hn, hc, hs, ht⟩
  · cases h
  · cases hv
    refine ⟨by rw [List.length_take]; omega, .inr ⟨g, cap, cur, rfl, hb, hh, by omega, hc, hs, ?_⟩⟩
    rw [← ht, List.take_take]
    congr 1
    omega
theorem grow_none (w : World) : grow w #[] = w := by cases w; simp [grow]
theorem grownBy_put {w : World} {g n : Nat} (d : Array Int) : w.grownBy (putRow (Value.int .i64) (Sort.ahead w n) g 0 d) (some g) := by
  have h := grownBy_sortedI (w := w) (g := g) (n := n) (os := #[]) d
  rwa [grow_none] at h
theorem own_put {w : World} {base g cap n : Nat} {cur : Array Value} {ss ts : List Int} (hl : ts.length = ss.length) (hbase : base ≤ g) (hb : w.heap[g]? = some (.cells cur 3 (0, 0)))
    (h1 : ss.length ≤ cap) (h2 : cap ≤ maxLen) (h3 : cur.size = cap * 1) :
    (putRow (Value.int .i64) (Sort.ahead w n) g 0 ts.toArray).ownsRow base 3 1 (.slice (some ⟨g, 0, none⟩) ss.length cap) ss.length (ts.map (Value.int .i64)) := by
  have h := ownsRow_sortedI (n := n) (os := #[]) hl hbase hb h1 h2 h3
  rwa [grow_none] at h
theorem sort_own {w : World} {base : Nat} {v : Value} {xs : List Int} (h : OwnI w base v xs) (hl : xs.length < 4611686018427387904) :
    Calls Tryz.prog 22 #[v] w fun e w' => e = .returned (.tuple #[]) ∧ OwnI w' base v (srt xs) ∧ w.grownBy w' v.ownBlock := by
  rcases h.2 with ⟨rfl, h0⟩ | ⟨g, cap, cur, rfl, hbase, hb, h1, h2, h3, h4⟩
  · have hx : xs = [] := List.length_eq_zero_iff.1 h0
    subst hx
    refine (Tryz.slices_Sort_int_none none 0 w).mono ?_
    rintro e w' ⟨rfl, rfl⟩
    exact ⟨rfl, by simpa [srt] using h, ⟨rfl, rfl, rfl, Nat.le_refl _, fun _ _ _ => rfl⟩⟩
  · refine (Tryz.slices_Sort_int g 0 cap xs w (holds_of_blockI hb (by simpa using h4)) (Array.getElem?_eq_some_iff.1 hb).1 hl).mono ?_
    rintro e w' ⟨rfl, n, os, rfl⟩
    refine ⟨rfl, ?_, grownBy_sortedI _⟩
    have hk := ownsRow_sortedI (w := w) (n := n) (os := os) (ts := srt xs) (ss := xs) (srt_length xs) hbase hb h1 h2 h3
    unfold OwnI
    rw [srt_length]
    exact hk
theorem compactUpTo_le (d : Array Int) : ∀ m, (Lib.compactUpTo d m).length ≤ m
  | 0 => by simp [Lib.compactUpTo]
  | m + 1 => by
    rw [Lib.compactUpTo_succ, List.length_append]
    have := compactUpTo_le d m
    split <;> simp <;> omega
theorem compact_le (xs : List Int) : (Lib.compact xs).length ≤ xs.length := by
  have := compactUpTo_le xs.toArray xs.toArray.size
  simpa [Lib.compact] using this
theorem compact_own {w : World} {base : Nat} {v : Value} {xs : List Int} (h : OwnI w base v xs) (hl : xs.length ≤ 9223372036854775807) :
    Calls Tryz.prog 24 #[v] w fun e w' => ∃ v', e = .returned v' ∧ OwnI w' base v' (Lib.compact xs) ∧ w.grownBy w' v.ownBlock := by
  rcases h.2 with ⟨rfl, h0⟩ | ⟨g, cap, cur, rfl, hbase, hb, h1, h2, h3, h4⟩
  · have hx : xs = [] := List.length_eq_zero_iff.1 h0
    subst hx
    refine (Tryz.slices_Compact_int_empty none 0 w).mono ?_
    rintro e w' ⟨rfl, rfl⟩
    exact ⟨_, rfl, h, ⟨rfl, rfl, rfl, Nat.le_refl _, fun _ _ _ => rfl⟩⟩
  · refine (Tryz.slices_Compact_int g 0 cap xs w (holds_of_blockI hb (by simpa using h4)) hl h1).mono ?_
    rintro e w' ⟨rfl, q, rfl⟩
    refine ⟨_, rfl, ?_, grownBy_put _⟩
    have hle : (Lib.compact xs).length ≤ xs.length := compact_le xs
    have hk := own_put (w := w) (n := q) (ts := Lib.compact xs ++ List.replicate (xs.length - (Lib.compact xs).length) 0) (ss := xs) (by simp; omega) hbase hb h1 h2 h3
    have hk2 := own_cut hk hle
    unfold OwnI
    rw [List.map_append, List.take_left' (by simp)] at hk2
    exact hk2
theorem search_own {w : World} {base : Nat} {v : Value} {xs : List Int} (h : OwnI w base v xs) (hl : xs.length < 4611686018427387904) (hs : xs.Pairwise (· ≤ ·)) (n : Int) :
    Calls Tryz.prog 57 #[v, .int .i64 n] w fun e w' => e = .returned (.tuple #[.int .i64 (xs.countP (· < n) : Nat), .bool (xs.contains n)]) ∧ ∃ q, w' = w.drewN q := by
  rcases h.2 with ⟨rfl, h0⟩ | ⟨g, cap, cur, rfl, hbase, hb, h1, h2, h3, h4⟩
  · have hx : xs = [] := List.length_eq_zero_iff.1 h0
    subst hx
    refine (Tryz.slices_BinarySearch_int_empty none 0 n w).mono ?_
    rintro e w' ⟨rfl, rfl⟩
    exact ⟨rfl, 0, rfl⟩
  · have hc := holds_of_blockI hb (by simpa using h4)
    refine (Tryz.slices_BinarySearch_int g 0 xs.length cap xs n w (Nat.le_refl _) hl (fun j hj => by
      have := (hc j (by simpa using hj)).1
      rw [this]; simp [hj]) (by rwa [List.take_length])).mono ?_
    rintro e w' ⟨rfl, q, rfl⟩
    rw [List.take_length]
    exact ⟨rfl, q, rfl⟩
theorem delete_own {w : World} {base : Nat} {v : Value} {xs : List Int} (h : OwnI w base v xs) (i : Nat) (hi : i < xs.length) :
    Calls Tryz.prog 26 #[v, .int .i64 (i : Int), .int .i64 ((i + 1 : Nat) : Int)] w fun e w' => ∃ v', e = .returned v' ∧ OwnI w' base v' (xs.take i ++ xs.drop (i + 1)) ∧ w.grownBy w' v.ownBlock := by
  rcases h.2 with ⟨rfl, h0⟩ | ⟨g, cap, cur, rfl, hbase, hb, h1, h2, h3, h4⟩
  · omega
  · have hm : cap ≤ 9223372036854775807 := by simpa [maxLen] using h2
    refine (Tryz.slices_Delete_int g 0 cap i (i + 1) xs w (holds_of_blockI hb (by simpa using h4)) h1 hm (by omega) (by omega)).mono ?_
    rintro e w' ⟨rfl, q, rfl⟩
    refine ⟨_, rfl, ?_, grownBy_put _⟩
    have hlen : (xs.take i ++ xs.drop (i + 1)).length = xs.length - 1 := by simp; omega
    have hk := own_put (w := w) (n := q) (ts := xs.take i ++ xs.drop (i + 1) ++ List.replicate (i + 1 - i) 0) (ss := xs) (by simp; omega) hbase hb h1 h2 h3
    have hk2 := own_cut hk (m := xs.length - 1) (by omega)
    unfold OwnI
    rw [List.map_append, List.take_left' (by simp; omega)] at hk2
    rw [hlen]
    rw [show xs.length - (i + 1 - i) = xs.length - 1 by omega]
    exact hk2
theorem cells_of {w : World} {g : Nat} {cur : Array Value} {T : TypeId} (hb : w.heap[g]? = some (.cells cur T (0, 0))) (j : Nat) : w.cell? ⟨g, j, none⟩ = cur[j]? := Lib.cell_of_heap hb j
theorem one_ints (xs : List Int) : ∀ v ∈ xs.map (Value.int .i64), v.oneCell' = true := by
  intro v hv
  obtain ⟨x, _, rfl⟩ := List.mem_map.1 hv
  rfl
theorem zeros_one (n : Nat) : Builtin.zeroCells (Value.int .i64 0).cells n = (List.replicate n (Value.int .i64 0)).toArray := by
  rw [← Array.toList_inj]
  simp only [Builtin.zeroCells, Value.cells]
  rw [List.eq_replicate_iff]
  simp [Nat.mod_one]
theorem shift_list (C ys : List Value) (v : Value) (i n : Nat) (ht : C.take n = ys) (hn : ys.length = n) (hi : i ≤ n) (hC : n + 1 ≤ C.length) :
    ((C.take (i + 1) ++ ys.drop i ++ C.drop (i + 1 + (ys.drop i).length)).take i ++ [v] ++ (C.take (i + 1) ++ ys.drop i ++ C.drop (i + 1 + (ys.drop i).length)).drop (i + 1)).take (n + 1) = ys.take i ++ v :: ys.drop i := by
  have h1 : (C.take (i + 1) ++ ys.drop i ++ C.drop (i + 1 + (ys.drop i).length)).take i = ys.take i := by
    rw [List.append_assoc, List.take_append_of_le_length (by rw [List.length_take]; omega), List.take_take, Nat.min_eq_left (by omega), ← ht, List.take_take, Nat.min_eq_left (by omega)]
  have h2 : (C.take (i + 1) ++ ys.drop i ++ C.drop (i + 1 + (ys.drop i).length)).drop (i + 1) = ys.drop i ++ C.drop (i + 1 + (ys.drop i).length) := by
    rw [List.append_assoc, List.drop_left' (by rw [List.length_take]; omega)]
  rw [h1, h2, ← List.append_assoc, List.take_left' (by simp; omega)]
  simp
theorem grow_list (A R Y : List Value) (v : Value) (i n : Nat) (hA : A.length = i) (hY : Y.length = n - i ∧ i ≤ n) :
    ((A ++ [v] ++ R).take (i + 1) ++ Y ++ (A ++ [v] ++ R).drop (i + 1 + Y.length)).take (n + 1) = A ++ v :: Y := by
  rw [List.take_left' (l₁ := A ++ [v]) (by simp; omega), List.take_left' (by simp; omega)]
  simp
theorem insert_own {w : World} {base : Nat} {v : Value} {xs : List Int} (h : OwnI w base v xs) (hbs : base ≤ w.heap.size) (hn : xs.length ≤ 20000) (i : Nat) (hi : i ≤ xs.length) (x : Int) (vb : Nat) (hvb : w.heap[vb]? = some (.cells #[.int .i64 x] 3 (0, 0))) (hne : v.ownBlock ≠ some vb) :
    Calls Tryz.prog 29 #[v, .int .i64 (i : Int), .slice (some ⟨vb, 0, none⟩) 1 1] w fun e w' => ∃ v', e = .returned v' ∧ OwnI w' base v' (xs.take i ++ x :: xs.drop i) ∧ Below base w w' := by
  have hvs : ∀ j u, ([Value.int .i64 x] : List Value)[j]? = some u → w.cell? ⟨vb, 0 + j, none⟩ = some u := by
    intro j u hj
    rw [Nat.zero_add, cells_of hvb]
    rw [← Array.getElem?_toList]
    exact hj
  have h1v : ∀ u ∈ ([Value.int .i64 x] : List Value), u.oneCell' = true := by intro u hu; simp at hu; subst hu; rfl
  have hlen : (xs.take i ++ x :: xs.drop i).length = xs.length + 1 := by simp; omega
  have hend : ∀ (A : Option Addr) (c : Nat), i = xs.length → v = .slice A xs.length c → xs.length ≤ c → c < xs.length + 1 → (A = none → xs.length = 0) → (∀ a, A = some a → ∀ j u, (xs.map (Value.int .i64))[j]? = some u → w.cell? (a.add j) = some u) →
      Calls Tryz.prog 29 #[v, .int .i64 (i : Int), .slice (some ⟨vb, 0, none⟩) 1 1] w fun e w' => ∃ v', e = .returned v' ∧ OwnI w' base v' (xs.take i ++ x :: xs.drop i) ∧ Below base w w' := by
    intro A c hin hv hlc hcl hA hcs
    subst hin
    subst hv
    refine Calls.mono (Any2.slices_Insert_int_end_grow Tryz.laysNm221 A xs.length c vb 0 1 1 (xs.map (Value.int .i64)) [.int .i64 x] w (by omega) hlc hcl (by omega) (by simp) rfl hA hcs hvs h1v) ?_
    rintro e w' ⟨rfl, rfl⟩
    refine ⟨_, rfl, ⟨by simp, .inr ⟨w.heap.size, grownCap w (xs.length + 1) c 3, (xs.map (Value.int .i64) ++ [Value.int .i64 x]).toArray ++ Builtin.zeroCells (Value.int .i64 0).cells (grownCap w (xs.length + 1) c 3 - (xs.length + 1)), ?_, hbs, World.alloc_heap_new w.drew _, ?_, ?_, ?_, ?_⟩⟩, ?_⟩
    · rw [hlen]; rfl
    · rw [hlen]; exact grownCap_ge _ _ _ _
    · exact grownCap_le_maxLen _ _ _ _ (by unfold maxLen; omega)
    · have hge := grownCap_ge w (xs.length + 1) c 3
      rw [zeros_one]
      simp
      show xs.length + 1 + (grownCap w (xs.length + 1) c 3 - (xs.length + 1)) = grownCap w (xs.length + 1) c 3
      omega
    · rw [hlen, Array.toList_append]
      rw [List.take_left' (by simp)]
      simp
    · exact ((Below.refl base w).drew).alloc hbs _
  rcases h.2 with ⟨rfl, h0⟩ | ⟨g, cap, cur, rfl, hbase, hb, h1, h2, h3, h4⟩
  · exact hend none 0 (by omega) (by rw [h0]) (by omega) (by omega) (fun _ => h0) (fun a ha => by cases ha)
  · have hcm : cap ≤ 9223372036854775807 := by simpa [maxLen] using h2
    have hcur : cur.size = cap := by omega
    have ht : cur.toList.take xs.length = xs.map (Value.int .i64) := by simpa using h4
    have hcs : ∀ j u, (xs.map (Value.int .i64))[j]? = some u → w.cell? ⟨g, 0 + j, none⟩ = some u := by
      intro j u hj
      rw [Nat.zero_add, cells_of hb, ← Array.getElem?_toList]
      rw [← ht] at hj
      have hjl : j < xs.length := by
        have := (List.getElem?_eq_some_iff.1 hj).1
        simp at this; omega
      rwa [List.getElem?_take_of_lt hjl] at hj
    have hsome : ∀ j, j < cap → (w.cell? ⟨g, j, none⟩).isSome = true := by
      intro j hj
      rw [cells_of hb, Array.getElem?_eq_getElem (by omega)]; rfl
    have hfz : ∀ j, w.frozen? ⟨g, j, none⟩ = false := fun j => Lib.frozen_of_heap hb j
    by_cases hroom : xs.length + 1 ≤ cap
    · by_cases hin : i < xs.length
      · have hvg : vb ≠ g := by intro e; subst e; exact hne rfl
        refine Calls.mono (Any2.slices_Insert_int_shift Tryz.laysNm221 g 0 xs.length cap i vb 0 1 1 (xs.map (Value.int .i64)) [.int .i64 x] w hin (by omega) hroom hcm hvg (by simp) rfl hcs (fun j hj => by rw [Nat.zero_add]; exact hsome j (by omega)) (fun j _ => hfz _) hvs (one_ints xs) h1v 3 3 1 cap (by simp [World.shape?, hvb]) (by simp [World.shape?, hb, hcur]) (by omega) (Lib.frozen_of_heap hvb 0) (Lib.frozen_of_heap hvb 1)) ?_
        rintro e w' ⟨rfl, rfl⟩
        obtain ⟨cur1, k1, k2, k3⟩ := setCells_row (g := g) (e := 3) ((xs.map (Value.int .i64)).drop i) (0 + (i + 1)) w.drew cur hb (by simp; omega)
        obtain ⟨cur2, k4, k5, k6⟩ := setCells_row (g := g) (e := 3) [.int .i64 x] (0 + i) _ cur1 k1 (by simp; omega)
        obtain ⟨o1, o2, o3, o4⟩ := setCells_same g ((xs.map (Value.int .i64)).drop i) (0 + (i + 1)) w.drew
        obtain ⟨p1, p2, p3, p4⟩ := setCells_same g [.int .i64 x] (0 + i) (w.drew.setCells g (0 + (i + 1)) ((xs.map (Value.int .i64)).drop i))
        refine ⟨_, rfl, ⟨by simp, .inr ⟨g, cap, cur2, by rw [hlen], hbase, k4, by omega, h2, by omega, ?_⟩⟩, ?_⟩
        · rw [hlen, k6, k3]
          simp only [Nat.zero_add, Nat.mul_one, List.length_singleton]
          rw [shift_list cur.toList (xs.map (Value.int .i64)) (.int .i64 x) i xs.length ht (by simp) (by omega) (by have hcl : cur.toList.length = cur.size := Array.length_toList; omega)]
          simp
        · refine ⟨?_, ?_, ?_, ?_, ?_⟩
          · rw [p1, o1]; rfl
          · rw [p2, o2]; rfl
          · rw [p3, o3]; rfl
          · rw [p4, o4]; exact Nat.le_refl _
          · intro k hk
            rw [setCells_far _ _ k (by omega), setCells_far _ _ k (by omega)]; rfl
      · obtain rfl : i = xs.length := by omega
        refine Calls.mono (Any2.slices_Insert_int_end_room Tryz.laysNm221 g 0 xs.length cap vb 0 1 1 [.int .i64 x] w (by omega) hroom hcm rfl (fun j hj => hsome _ (by omega)) (fun j _ => hfz _) hvs h1v) ?_
        rintro e w' ⟨rfl, rfl⟩
        obtain ⟨cur2, k4, k5, k6⟩ := setCells_row (g := g) (e := 3) [.int .i64 x] (0 + xs.length) w cur hb (by simp; omega)
        obtain ⟨p1, p2, p3, p4⟩ := setCells_same g [.int .i64 x] (0 + xs.length) w
        refine ⟨_, rfl, ⟨by simp, .inr ⟨g, cap, cur2, by rw [hlen], hbase, k4, by omega, h2, by omega, ?_⟩⟩, ?_⟩
        · rw [hlen, k6]
          simp only [Nat.zero_add, Nat.mul_one, List.length_singleton]
          rw [ht, List.take_left' (by simp)]
          simp
        · refine ⟨p1, p2, p3, ?_, ?_⟩
          · rw [p4]; exact Nat.le_refl _
          · intro k hk
            rw [setCells_far _ _ k (by omega)]
    · by_cases hin : i < xs.length
      · refine Calls.mono (Tryz.slices_Insert_int_grow g 0 xs.length cap i vb 0 1 1 (xs.map (Value.int .i64)) [.int .i64 x] w hin (by omega) h1 (by omega) (by omega) (by simp) rfl hcs hvs (one_ints xs) h1v) ?_
        rintro e w' ⟨rfl, rfl⟩
        have hge := grownCap_ge w (xs.length + 1) cap 3
        generalize hgc : grownCap w (xs.length + 1) cap 3 = gc at hge
        have hgm : gc ≤ maxLen := by rw [← hgc]; exact grownCap_le_maxLen _ _ _ _ (by unfold maxLen; omega)
        simp only [zeros_one]
        generalize hC : (((xs.map (Value.int .i64)).take i).toArray ++ (List.replicate (xs.length + 1 - i) (Value.int .i64 0)).toArray ++ (List.replicate (gc - (xs.length + 1)) (Value.int .i64 0)).toArray) = C
        have hCs : C.size = gc := by rw [← hC]; simp; omega
        have hCt : C.toList.take i = (xs.take i).map (Value.int .i64) := by
          rw [← hC]; simp only [Array.toList_append]
          rw [List.append_assoc, List.take_left' (by simp; omega)]
          simp
        have hnew : ((w.alloc (.cells C 3)).drew).heap[w.heap.size]? = some (.cells C 3 (0, 0)) := World.alloc_heap_new w _
        obtain ⟨cur1, k1, k2, k3⟩ := setCells_row (g := w.heap.size) (e := 3) [.int .i64 x] i _ C hnew (by simp; omega)
        obtain ⟨cur2, k4, k5, k6⟩ := setCells_row (g := w.heap.size) (e := 3) ((xs.map (Value.int .i64)).drop i) (i + 1) ((w.alloc (.cells C 3)).drew.setCells w.heap.size i [.int .i64 x]).drew cur1 k1 (by simp; omega)
        obtain ⟨o1, o2, o3, o4⟩ := setCells_same w.heap.size [.int .i64 x] i (w.alloc (.cells C 3)).drew
        obtain ⟨p1, p2, p3, p4⟩ := setCells_same w.heap.size ((xs.map (Value.int .i64)).drop i) (i + 1) ((w.alloc (.cells C 3)).drew.setCells w.heap.size i [.int .i64 x]).drew
        refine ⟨_, rfl, ⟨by simp, .inr ⟨w.heap.size, gc, cur2, by rw [hlen], hbs, k4, by omega, hgm, by omega, ?_⟩⟩, ?_⟩
        · rw [hlen, k6, k3]
          simp only [Nat.mul_one, List.length_singleton]
          rw [hCt, grow_list ((xs.take i).map (Value.int .i64)) (C.toList.drop (i + 1)) ((xs.map (Value.int .i64)).drop i) (.int .i64 x) i xs.length (by simp; omega) (by simp; omega)]
          simp
        · refine ⟨?_, ?_, ?_, ?_, ?_⟩
          · rw [p1]; exact o1
          · rw [p2]; exact o2
          · rw [p3]; exact o3
          · rw [p4]; show w.heap.size ≤ ((w.alloc (.cells C 3)).drew.setCells w.heap.size i [.int .i64 x]).heap.size
            rw [o4]; simp [World.drew]
          · intro k hk
            rw [setCells_far _ _ k (by omega)]
            show ((w.alloc (.cells C 3)).drew.setCells w.heap.size i [.int .i64 x]).heap[k]? = _
            rw [setCells_far _ _ k (by omega)]
            exact Lib.alloc_old w _ k (by omega)
      · obtain rfl : i = xs.length := by omega
        exact hend (some ⟨g, 0, none⟩) cap rfl rfl h1 (by omega) (fun hh => by cases hh) (fun a ha j u hj => by cases ha; rw [Addr.add_lit]; exact hcs j u hj)
end Go.Proofs.YtkalbdeopogbpaaGreatDoor.P.Sc
