import Derived.Test.YtdjkdlbokepoaaaGreatDoorKA16
import Derived.Test.YtdjkdlbokepoaaaGreatDoorKA20
namespace Go.Proofs.YtdjkdlbokepoaaaGreatDoor.P.Sc
open Go.RowKit Go.Shelf YtdjkdlbokepoaaaGreatDoorW.PrintWords YtdjkdlbokepoaaaGreatDoorW.PrintLast YtdjkdlbokepoaaaGreatDoorW.PrintMore
attribute [local go_sem] Oper.semAt_some
set_option linter.unusedVariables false
set_option linter.unusedSimpArgs false
def errS (s : ByteArray) (p : Nat) : Int := if Short (s.get! p).toNat (s.get! (p + 1)).toNat (s.get! (p + 2)).toNat (s.size - p) then 320 else 6
set_option maxRecDepth 100000 in
set_option maxHeartbeats 4000000 in
theorem decode_bad (s : ByteArray) (b off cap at_ : Nat) (w : World) (hT : Tab w) (hs : s.size ≤ 1000000) (hcap : s.size ≤ cap) (hp : ∀ j, j < s.size → w.cell? ⟨b, off + j, none⟩ = some (.int .u8 (s.get! j).toNat))
  (hat : at_ < s.size) (hd : Utf8.decode s at_ = (65533, 1)) :
  Calls Tryz.prog 79 #[.slice (some ⟨b, off, none⟩) s.size cap, .int .i64 at_] w fun e w' => e = .returned (.tuple #[.int .i32 0, .int .i64 0, .int .i64 (errS s at_)]) ∧ Below w.heap.size w w' := by
 have hsz : (s.extract at_ s.size).size = s.size - at_ := Lib.tail_size _ _
 have cD : ∀ W, Below w.heap.size w W → Tab W → Calls Tryz.prog 104 #[.slice (some ⟨b, off + at_, none⟩) (s.size - at_) (cap - at_)] W fun e w' => e = .returned (.tuple #[.int .i32 65533, .int .i64 1]) ∧ Below W.heap.size W w' := fun W hW hTW => by
  have := Tryz.utf8_DecodeRune (s.extract at_ s.size) b (off + at_) (cap - at_) W hTW (fun j hj => by
   rw [hsz] at hj
   rw [Lib.tail_get!, Nat.add_assoc]
   have h1 := hp (at_ + j) (by omega)
   exact (hW.cell (p := ⟨b, off + (at_ + j), none⟩) (World.block_lt_of_cell? w _ h1)).trans h1)
  rw [hsz, decodeGo_tail s at_ hat, hd] at this
  exact this
 have cF : ∀ W, Below w.heap.size w W → Tab W → Calls Tryz.prog 105 #[.slice (some ⟨b, off + at_, none⟩) (s.size - at_) (cap - at_)] W fun e w' => e = .returned (.bool (!decide (Short (s.get! at_).toNat (s.get! (at_ + 1)).toNat (s.get! (at_ + 2)).toNat (s.size - at_)))) ∧ Below W.heap.size W w' := fun W hW hTW => by
  have hc : ∀ j, at_ + j < s.size → W.cell? ⟨b, off + at_ + j, none⟩ = some (.int .u8 ((s.get! (at_ + j)).toNat : Int)) := fun j hj => by
   have h1 := hp (at_ + j) hj
   rw [Nat.add_assoc]
   exact (hW.cell (p := ⟨b, off + (at_ + j), none⟩) (World.block_lt_of_cell? w _ h1)).trans h1
  exact full_calls (off + at_) b (cap - at_) (s.size - at_) _ _ _ W hTW (by omega) (UInt8.toNat_lt _) (UInt8.toNat_lt _) (UInt8.toNat_lt _) (by have h_ := hc 0 (by omega); rw [Nat.add_zero] at h_; exact h_) (fun h => hc 1 (by omega)) (fun h => hc 2 (by omega))
 have b1 : decide ((at_ : Int) < 0) = false := decide_eq_false (by omega)
 have b2 : decide ((s.size : Int) ≤ (at_ : Int)) = false := decide_eq_false (by omega)
 unfold errS
 by_cases sh : Short (s.get! at_).toNat (s.get! (at_ + 1)).toNat (s.get! (at_ + 2)).toNat (s.size - at_)
 ·rw [decide_eq_true sh] at cF
  rw [if_pos sh]
  go_enter Tryz.func79, Tryz.ntmps79
  go_wp2_with (first
   | (go_at_call 104; refine (cD _ (Below.refl _ _) hT).mono ?_; rintro e w2 ⟨rfl, hb⟩)
   | (go_at_call 105; refine (cF _ hb (hT.stay hb)).mono ?_; rintro e w3 ⟨rfl, hb2⟩))
  go_ret3
  exact ⟨rfl, below_step hb hb2⟩
 ·rw [decide_eq_false sh] at cF
  rw [if_neg sh]
  go_enter Tryz.func79, Tryz.ntmps79
  go_wp2_with (first
   | (go_at_call 104; refine (cD _ (Below.refl _ _) hT).mono ?_; rintro e w2 ⟨rfl, hb⟩)
   | (go_at_call 105; refine (cF _ hb (hT.stay hb)).mono ?_; rintro e w3 ⟨rfl, hb2⟩))
  go_ret3
  exact ⟨rfl, below_step hb hb2⟩
inductive RunsB (s : ByteArray) : Nat → List (Nat × Nat) → Nat → Prop
 | stop {q : Nat} : q < s.size → Utf8.decode s q = (65533, 1) → RunsB s q [] q
 | step {at_ r n q : Nat} {rest : List (Nat × Nat)} : at_ < s.size → Utf8.decode s at_ = (r, n) → (r ≠ 65533 ∨ 1 < n) → Lib.runeLen (r : Int) = (n : Int) → 1 ≤ n → at_ + n ≤ s.size → RunsB s (at_ + n) rest q → RunsB s at_ ((at_, r) :: rest) q
set_option maxRecDepth 100000 in
set_option maxHeartbeats 1000000 in
theorem all1_inB (n : Nat) (hn : 1 ≤ n) (l Bs cap : Nat) (A : Option Addr) (s : ByteArray) (rs : List (Nat × Nat)) (q : Nat) (hs : s.size ≤ 8000) (hcap : s.size ≤ cap) (hrs : RunsB s 0 rs q) (J Jx : List (Nat × Nat) → World → Prop) (hJd : ∀ pre W W', J pre W → W.grownBy W' none → J pre W')
  (hY : ∀ pre x W, J pre W → pre.length < rs.length → YieldAt Fence.wide (n - 1) Tryz.prog l #[.int .i64 (x : Nat × Nat).1, .int .i32 x.2] W fun e W' =>
   (e = .returned (.bool true) ∧ J (pre ++ [x]) W' ∧ KB Bs A cap s W W') ∨ (e = .returned (.bool false) ∧ Jx (pre ++ [x]) W'))
  (W : World) (hX : TX Bs A cap s W) (h0 : J [] W) :
  CallsIn Fence.wide n Tryz.prog 103 #[.func (.yield l) #[] #[], .pointer (some ⟨Bs, 0, none⟩)] W fun e W' => (∃ v, e = .returned v) ∧
   (J rs W' ∨ (∃ pre, Jx pre W')) := by
 refine callsIn_of_wp Tryz.func103 rfl trivial ?_ rfl
 simp only [Tryz.ntmps103, List.size_toArray, List.length_cons, List.length_nil, Nat.reduceAdd, Nat.reduceSub, Array.replicate_succ, Array.replicate_zero, List.push_toArray, List.append_toArray, List.nil_append, List.cons_append]
 gi_wp2
 gi_loopw [3] (fun i wr => ∃ (pre rest : List (Nat × Nat)) (at_ : Nat), pre ++ rest = rs ∧ RunsB s at_ rest q ∧ i = .int .i64 (at_ : Int) ∧ J pre wr ∧ TX Bs A cap s wr)
  (fun i _ => s.size - (intOf i).toNat)
 case atStart => exact ⟨[], rs, 0, rfl, hrs, rfl, h0, hX⟩
 case round =>
  obtain ⟨pre, rest, at_, hpr, hR0, rfl, hJs, hTX⟩ := hrel
  have hbox := hTX.box
  cases hR0 with
  | stop hat hd =>
   rw [List.append_nil] at hpr
   subst hpr
   obtain ⟨b, off, rfl, hcells⟩ := hTX.txt (by omega)
   have c1 : decide ((q : Int) < (s.size : Int)) = true := decide_eq_true (by omega)
   have he : (errS s q != 0) = true := bne_iff_ne.mpr (by unfold errS; split <;> decide)
   have he2 : (errS s q == 0) = false := beq_eq_false_iff_ne.mpr (by unfold errS; split <;> decide)
   gi_wp2_with (refine ⟨trivial, (callsIn_wide.2 (decode_bad s b off cap q _ hTX.tab (by omega) hcap hcells hat hd)).mono ?_⟩; rintro e wd ⟨rfl, hb⟩)
   refine ⟨(fun f h => by cases h), ?_⟩
   gi_wp2
   refine bodyPost_ret (results_none rfl _ _ _) rfl ?_
   exact ⟨⟨_, rfl⟩, .inl (hJd _ _ _ hJs (grownBy_of_below hb))⟩
  | @step _ r m _ rest hat hd hok hlen hm hle hrest =>
   obtain ⟨b, off, rfl, hcells⟩ := hTX.txt (by omega)
   have c1 : decide ((at_ : Int) < (s.size : Int)) = true := decide_eq_true (by omega)
   gi_wp2_with (refine ⟨trivial, (callsIn_wide.2 (decode_good s b off cap at_ r m _ hTX.tab (by omega) hcap hcells hat hd hok)).mono ?_⟩; rintro e wd ⟨rfl, hb⟩; have hTd : TX Bs (some ⟨b, off, none⟩) cap s wd := hTX.grow (grownBy_of_below hb) (fun r e => by cases e); obtain ⟨fn, tmps, assign, body, hy, hR⟩ := hY pre (at_, r) wd (hJd _ _ _ hJs (grownBy_of_below hb)) (by rw [← hpr]; simp); dsimp only at hy; clear hY hd hcells hlen)
   refine hR.mono ?_
   rintro e W3 (⟨rfl, hJ3, hk3⟩ | ⟨rfl, hJx3⟩)
   ·gi_wp2
    go_roundw
    case rel => exact ⟨pre ++ [(at_, r)], rest, at_ + m, by rw [List.append_assoc]; exact hpr, hrest, by simp, hJ3, hk3 hTd⟩
    case measure => simp [intOf]; omega
   ·gi_wp2
    refine bodyPost_ret (results_none rfl _ _ _) rfl ?_
    exact ⟨⟨_, rfl⟩, .inr ⟨_, hJx3⟩⟩
theorem all_stopsB (n : Nat) (hn : 1 ≤ n) (Bs cap : Nat) (A : Option Addr) (s : ByteArray) (rs : List (Nat × Nat)) (q : Nat) (hs : s.size ≤ 8000) (hcap : s.size ≤ cap) (hrs : RunsB s 0 rs q) (w : World) (hX : TX Bs A cap s w) :
  SeqStopsK Fence.wide n Tryz.prog 103 #[.pointer (some ⟨Bs, 0, none⟩)] (fun x : Nat × Nat => #[Value.int .i64 x.1, .int .i32 x.2]) (KB Bs A cap s) (fun ys => ys = rs) (fun _ => True) rs.length w := fun l J Jx W hW hJ _ hY h0 => by
 refine (all1_inB n hn l Bs cap A s rs q hs hcap hrs J Jx (fun pre W V h hg => hJ pre W V none h hg (fun r e => by cases e)) hY W (below_TX rfl hX hW) h0).mono ?_
 rintro e W' ⟨he, h | ⟨pre, h⟩⟩
 ·exact ⟨he, .inl ⟨_, rfl, h⟩⟩
 ·exact ⟨he, .inr ⟨pre, trivial, h⟩⟩
theorem fin_runsB {s : ByteArray} (hs : s.size ≤ 8000) {at_ q : Nat} {rs : List (Nat × Nat)} (h : RunsB s at_ rs q) : ∀ z : Int, z = at_ → rs.foldl (fun _ x => wrap64 ((x.1 : Int) + Lib.runeLen x.2)) z = (q : Int) := by
 induction h with
 | stop _ _ => intro z hz; exact hz
 | step hat hd hok hlen hm hle _ ih =>
  intro z hz
  rw [List.foldl_cons]
  apply ih
  rw [hlen, ← i64_w, IntKind.wrap_i64]
  omega
set_option maxRecDepth 100000 in
set_option maxHeartbeats 2000000 in
theorem check_inB (A : Option Addr) (cap : Nat) (s : ByteArray) (rs : List (Nat × Nat)) (q : Nat) (hs : s.size ≤ 8000) (hcap : s.size ≤ cap) (hrs : RunsB s 0 rs q) (hq : q < s.size) (hd : Utf8.decode s q = (65533, 1)) (w : World) (hT : Txt w A s) (hG : Tab w) :
  CallsIn Fence.wide 3 Tryz.prog 45 #[.slice A s.size cap] w fun e W' => e = .returned (.tuple #[.int .i64 (q : Int), .int .i64 (errS s q)]) ∧ Below w.heap.size w W' := by
 refine callsIn_of_wp_marks Tryz.func45 rfl trivial ?_ rfl
 simp only [Tryz.ntmps45, List.size_toArray, List.length_cons, List.length_nil, Nat.reduceAdd, Nat.reduceSub, Array.replicate_succ, Array.replicate_zero, List.push_toArray, List.append_toArray, List.nil_append, List.cons_append]
 have b1 : decide ((8000 : Int) < (s.size : Int)) = false := decide_eq_false (by omega)
 gi_wp2_with (refine ⟨trivial, (all_in _ _ _ _ _).mono ?_⟩; rintro e w' ⟨rfl, rfl⟩)
 have d0 := cell_new_l w (.int .i64 0) 3
 have d2 := cell_new_l (w.alloc (.cells #[.int .i64 0] 3)) (.slice A s.size cap) 29
 simp only [World.size_alloc] at d2
 have hB0 : Below w.heap.size w ((w.alloc (.cells #[.int .i64 0] 3)).alloc (.cells #[.slice A s.size cap] 29)) := ((Below.refl _ w).alloc (Nat.le_refl _) _).alloc (by simp) _
 refine wpIn_rangeFunc_ownF rfl (by omega) (gf := 103) (lb := #[.pointer (some ⟨w.heap.size + 1, 0, none⟩)]) rfl trivial (enters_of Tryz.func103 (by kernel_rfl) rfl)
  (all_stopsB 2 (by omega) (w.heap.size + 1) cap A s rs q hs hcap hrs _ ⟨d2.1, hT.stay hB0, hG.stay hB0⟩) KB.t (fun W l o o' _ ho hc _ => KB.b W l o o' ho hc) (Below.refl _ _) (fun _ => rfl)
  (fun pre W => (W.cell? ⟨w.heap.size, 0, none⟩ = some (.int .i64 (fin pre)) ∧ W.frozen? ⟨w.heap.size, 0, none⟩ = false) ∧ Below w.heap.size w W)
  (fun c pre W => False)
  (OwnFrom.and (Own.from (fun p A B row hs hg hr => ⟨cell_kept hs.1 hg hr, (frozen_kept hs.1 hg hr).trans hs.2⟩) _) (ownFrom_below (Nat.le_refl _) (by simp; omega)))
  (fun _ _ _ _ _ hs _ _ => hs)
  ⟨⟨cell_alloc_l _ d0.1, frozen_alloc_l _ d0.1 d0.2⟩, hB0⟩
  (fun x => { tmps := #[.slice A s.size cap, undef, .pointer (some ⟨w.heap.size, 0, none⟩), .int .i64 0, .int .i64 x.1, .int .i32 x.2, .slice A s.size cap, .int .i64 s.size, .bool false, .slice A s.size cap, .func (.func 103) #[] #[.pointer (some ⟨w.heap.size + 1, 0, none⟩)], .int .i64 x.1, .int .i32 x.2, undef, undef, undef, undef, undef, undef, undef, undef, undef, undef, undef, undef, undef, undef, undef, undef, undef], defers := [] }) ?assign ?body ?done ?stop
 case assign =>
  intro l x W K hK
  gi_wp2
  exact hK
 case body =>
  rintro l pre x W ⟨⟨hc0, hf0⟩, hB⟩ _
  clear d0 d2 hB0
  have hn : 1 ≤ 3 - 1 - 1 := by omega
  gi_wp2_with (refine ⟨trivial, (CallsIn.inRound l (callsIn_wide.2 (Tryz.utf8_RuneLen x.2 _))).mono ?_⟩; rintro e w1 ⟨rfl, rfl⟩)
  have hB2 := hB.setCell (p := ⟨w.heap.size, 0, none⟩) (Nat.le_refl _) (.int .i64 (wrap64 ((x.1 : Int) + Lib.runeLen x.2)))
  refine ⟨KeepsOthers.setCell _ _ _, fun e => ⟨by rw [cell_far _ (by simp)]; exact e.box, hT.stay hB2, hG.stay hB2⟩, ⟨?_, by rw [World.frozen?_setCell]; exact hf0⟩, hB2⟩
  rw [fin_snoc]
  exact World.cell?_setCell_same' _ _ _ (by rw [hc0]; rfl)
 case done =>
  rintro D ys W hD rfl ⟨⟨hc0, hf0⟩, hB⟩ hK
  clear d0 d2 hB0
  have hfin : fin ys = (q : Int) := fin_runsB hs hrs 0 rfl
  rw [hfin] at hc0
  obtain ⟨b, off, rfl, hcells⟩ := hT.stay hB (by omega)
  have c1 : decide ((q : Int) < (s.size : Int)) = true := decide_eq_true (by omega)
  have hDW := hG.stay hB
  gi_wp2_with (refine ⟨trivial, (callsIn_wide.2 (decode_bad s b off cap q _ hDW (by omega) hcap hcells hq hd)).mono ?_⟩; rintro e wd ⟨rfl, hb2⟩; have hc1 := cell_kept hc0 (grownBy_of_below hb2) (fun r e => by cases e); have hf1 := (frozen_kept hc0 (grownBy_of_below hb2) (fun r e => by cases e)).trans hf0)
  have hlt : D < W.heap.size := (Array.getElem?_eq_some_iff.1 hK).1
  have hKd : wd.heap[D]? = some (Obj.deferred (some [])) := (hb2.block D hlt).trans hK
  have hK' := (KeepsOthers.setCell wd ⟨w.heap.size, 0, none⟩ (.int .i64 (q : Int))).same D _ hKd rfl
  refine ⟨by simp, .inl ⟨_, _, rfl, run_takeDeferred hK', ?_⟩⟩
  have hc5 := cell_kept (World.cell?_setCell_same' wd ⟨w.heap.size, 0, none⟩ (.int .i64 (q : Int)) (by rw [hc1]; rfl)) (grownBy_putObj' _ D (.deferred none)) (fun r e => by cases e; exact ⟨_, hK', rfl⟩)
  refine ⟨.tuple #[.int .i64 (q : Int), .int .i64 (errS s q)], ?_, rfl, ((below_step hB hb2).setCell (p := ⟨w.heap.size, 0, none⟩) (Nat.le_refl _) _).trans (belowK_b (w := w) (Nat.le_refl _) _ D _ _ (by simp at hD; omega) hK' rfl rfl)⟩
  simp [results, Tryz.f45, go_sem, hc5]
 case stop =>
  rintro D c pre W hD _ h hK
  exact h.elim
set_option maxHeartbeats 2000000 in
theorem check_long (A : Option Addr) (n cap : Nat) (hn : 8000 < n) (w : World) :
  Calls Tryz.prog 45 #[.slice A n cap] w fun e W' => e = .returned (.tuple #[.int .i64 0, .int .i64 3]) ∧ Below w.heap.size w W' := by
 have b1 : decide ((8000 : Int) < (n : Int)) = true := decide_eq_true (by omega)
 have hB := Below.refl w.heap.size w
 go_enter Tryz.func45, Tryz.ntmps45
 go_wp2
 have d0 := (cell_new_l w (.int .i64 0) 3).1
 refine bodyPost_ret (v := .tuple #[.int .i64 0, .int .i64 3]) ?hr rfl ?hp
 case hp => exact ⟨rfl, below_alloc hB _⟩
 case hr =>
  simp [results, Tryz.f45, go_sem, d0]
def badF (s : ByteArray) : Nat → Nat → Option Nat
 | 0, _ => none
 | k + 1, p => if p < s.size ∧ Utf8.decode s p = (65533, 1) then some p else (if p < s.size ∧ ((Utf8.decode s p).1 ≠ 65533 ∨ 1 < (Utf8.decode s p).2) ∧ Lib.runeLen ((Utf8.decode s p).1 : Int) = ((Utf8.decode s p).2 : Int) ∧ 1 ≤ (Utf8.decode s p).2 ∧ p + (Utf8.decode s p).2 ≤ s.size then badF s k (p + (Utf8.decode s p).2) else none)
theorem badF_ok (s : ByteArray) : ∀ (k p q : Nat), badF s k p = some q → (∃ rs, RunsB s p rs q) ∧ q < s.size ∧ Utf8.decode s q = (65533, 1)
 | 0, _, _, h => by cases h
 | k + 1, p, q, h => by
  simp only [badF] at h
  by_cases c : p < s.size ∧ Utf8.decode s p = (65533, 1)
  ·rw [if_pos c] at h
   cases h
   exact ⟨⟨[], .stop c.1 c.2⟩, c.1, c.2⟩
  ·rw [if_neg c] at h
   by_cases c2 : p < s.size ∧ ((Utf8.decode s p).1 ≠ 65533 ∨ 1 < (Utf8.decode s p).2) ∧ Lib.runeLen ((Utf8.decode s p).1 : Int) = ((Utf8.decode s p).2 : Int) ∧ 1 ≤ (Utf8.decode s p).2 ∧ p + (Utf8.decode s p).2 ≤ s.size
   ·rw [if_pos c2] at h
    obtain ⟨⟨rs, h1⟩, h2, h3⟩ := badF_ok s k _ _ h
    obtain ⟨a, b, c, d, e⟩ := c2
    exact ⟨⟨_, .step (n := (Utf8.decode s p).2) a rfl b c d e h1⟩, h2, h3⟩
   ·rw [if_neg c2] at h; cases h
def checkL (l : List Int) : Option (Int × Int) := if 8000 < l.length then some (0, 3) else (if InB l = true then (match runsF (l.length + 1) (strOfNums l) 0 with
 | some _ => some ((l.length : Int), 0)
 | none => Option.map (fun q : Nat => ((q : Int), errS (strOfNums l) q)) (badF (strOfNums l) (l.length + 1) 0)) else none)
theorem checkL_good {l : List Int} {rs : List (Nat × Nat)} (h : goodRuns l = some rs) : checkL l = some ((l.length : Int), 0) := by
 unfold goodRuns at h
 unfold checkL
 by_cases c : l.length ≤ 8000 ∧ InB l = true
 ·rw [if_pos c] at h
  rw [if_neg (by omega), if_pos c.2, h]
 ·rw [if_neg c] at h; cases h
theorem check_all (l : List Int) (A : Option Addr) (c : Nat) (r1 r2 : Int) (w : World) (hr : Kd.C (Kd.int .u8) w A l.length l) (hc : l.length ≤ c) (h : checkL l = some (r1, r2)) (hG : Tab w) :
  Calls Tryz.prog 45 #[.slice A l.length c] w fun e w' => e = .returned (.tuple #[.int .i64 r1, .int .i64 r2]) ∧ Below w.heap.size w w' := by
 unfold checkL at h
 by_cases c1 : 8000 < l.length
 ·rw [if_pos c1] at h
  cases h
  exact check_long A l.length c c1 w
 ·rw [if_neg c1] at h
  by_cases hI : InB l = true
  ·rw [if_pos hI] at h
   cases hr2 : runsF (l.length + 1) (strOfNums l) 0 with
   | some rs =>
    rw [hr2] at h
    cases h
    exact check_calls l A c rs w hr hc (by unfold goodRuns; rw [if_pos ⟨by omega, hI⟩, hr2]) hG
   | none =>
    rw [hr2] at h
    obtain ⟨q, h1, h2⟩ := Option.map_eq_some_iff.mp h
    cases h2
    obtain ⟨⟨rs, g1⟩, g2, g3⟩ := badF_ok _ _ _ _ h1
    have := check_inB A c (strOfNums l) rs q (by rw [strOfNums_size]; omega) (by rw [strOfNums_size]; exact hc) g1 g2 g3 w (Txt_of_C hr hI) hG
    rw [strOfNums_size] at this
    exact callsIn_wide.1 this
  ·rw [if_neg hI] at h; cases h
end Go.Proofs.YtdjkdlbokepoaaaGreatDoor.P.Sc
