import Derived.Test.YtdjkdlbokepoaaaGreatDoorKM53
import Derived.Test.YtdjkdlbokepoaaaGreatDoorKM36
import Derived.Test.YtdjkdlbokepoaaaGreatDoorKM48
namespace Go.Proofs.YtdjkdlbokepoaaaGreatDoor.P
open Go.RowKit Go.Proofs.YtdjkdlbokepoaaaGreatDoorW.PrintWords Go.Proofs.YtdjkdlbokepoaaaGreatDoorW.PrintLast Go.Proofs.YtdjkdlbokepoaaaGreatDoorW.PrintMore Sc
set_option linter.unusedVariables false
set_option linter.unusedSimpArgs false
set_option maxRecDepth 20000
theorem bt_get (s : ByteArray) (i : Nat) (x : UInt8) (h : s.data.toList[i]? = some x) : bt s (i : Int) = (x.toNat : Int) := by
  obtain ⟨h1, h2⟩ := List.getElem?_eq_some_iff.1 h
  have h1' : i < s.size := by simpa using h1
  unfold bt
  rw [dif_pos (show ((i : Nat) : Int).toNat < s.size from h1')]
  have e : s[i]'h1' = x := h2
  have e' : (s[((i : Nat) : Int).toNat]'h1') = x := e
  rw [e']
theorem ext_mid (x0 : ByteArray) (pre A post : List UInt8) (hx : x0.data.toList = pre ++ (A ++ post)) : x0.extract pre.length (pre.length + A.length) = ⟨A.toArray⟩ := by
  apply ByteArray.ext
  apply Array.toList_inj.1
  rw [ByteArray.data_extract, Array.toList_extract, hx, List.extract_eq_take_drop]
  simp
theorem lines_app (x0 : ByteArray) (pre A post : List UInt8) (hx : x0.data.toList = pre ++ (A ++ 10 :: post)) (hA : ∀ b ∈ A, b ≠ 10) (hs : x0.size ≤ 1000000) (out : List ByteArray) (ho : out.length ≤ 10000) (k : Nat) :
    ∀ (d j : Nat), j + d = A.length → mummerlaw08_lines.l0 (k + d + 1) x0 out (pre.length : Int) ((pre.length + j : Nat) : Int) = mummerlaw08_lines.l0 k x0 (out ++ [⟨A.toArray⟩]) ((pre.length + A.length + 1 : Nat) : Int) ((pre.length + A.length + 1 : Nat) : Int) := by
  have hsz : x0.size = pre.length + (A.length + (post.length + 1)) := by
    have : x0.data.toList.length = x0.size := by simp
    rw [← this, hx]; simp
  intro d
  induction d with
  | zero =>
    intro j hj
    obtain rfl : j = A.length := by omega
    have hb : bt x0 ((pre.length + A.length : Nat) : Int) = 10 := bt_get _ _ 10 (by
      rw [hx, List.getElem?_append_right (by omega), List.getElem?_append_right (by omega), show pre.length + A.length - pre.length - A.length = 0 by omega]; rfl)
    rw [mummerlaw08_lines.l0, if_pos (by omega), if_pos (by omega), if_pos hb, if_pos (by omega), if_pos (by omega), if_pos (by omega), if_pos (by omega), w64 (by omega) (by omega), Int.toNat_natCast, Int.toNat_natCast, ext_mid x0 pre A _ hx, show ((pre.length + A.length : Nat) : Int) + 1 = ((pre.length + A.length + 1 : Nat) : Int) by omega]
  | succ d ih =>
    intro j hj
    have hlt : j < A.length := by omega
    have hb : bt x0 ((pre.length + j : Nat) : Int) = (A[j].toNat : Int) := bt_get _ _ _ (by
      rw [hx, List.getElem?_append_right (by omega), show pre.length + j - pre.length = j by omega, List.getElem?_append_left hlt, List.getElem?_eq_getElem hlt])
    have hne : ¬ (A[j].toNat : Int) = 10 := fun h => hA _ (List.getElem_mem hlt) (by
      apply UInt8.toNat_inj.1
      show A[j].toNat = 10
      omega)
    rw [show k + (d + 1) + 1 = (k + d + 1) + 1 by omega, mummerlaw08_lines.l0, if_pos (by omega), if_pos (by omega), hb, if_neg hne, w64 (by omega) (by omega), show ((pre.length + j : Nat) : Int) + 1 = ((pre.length + (j + 1) : Nat) : Int) by omega]
    exact ih (j + 1) (by omega)
def sp2 : ByteArray := ⟨#[32, 32]⟩
theorem picT_data (m : ByteArray) (line : List Int) (col : Int) (w : Nat) :
    (picT m line col w).data.toList = m.data.toList ++ 10 :: ((sp2 ++ strOfNums line).data.toList ++ 10 :: (((sp2 ++ rep 32 (col - 1).toNat) ++ rep 94 (max w 1)).data.toList ++ [10])) := by
  have e3 : sp3.data.toList = [10, 32, 32] := rfl
  have e2 : sp2.data.toList = [32, 32] := rfl
  have e1 : (⟨#[10]⟩ : ByteArray).data.toList = [10] := rfl
  unfold picT
  simp only [appData, e1, e2, e3, List.append_assoc, List.cons_append, List.nil_append]
theorem line_nonl {l : List Int} (hI : Sc.InB l = true) (z te : Nat) (h1 : te ≤ l.length) (hn : ∀ i, z ≤ i → i < te → lb l i ≠ 10) : NoNl (strOfNums ((l.take te).drop z)) := by
  intro x hx e
  subst e
  have e2 : (strOfNums ((l.take te).drop z)).data.toList = ((l.take te).drop z).map fun n => UInt8.ofNat n.toNat := by
    show (((l.take te).drop z).map fun n => UInt8.ofNat n.toNat).toArray.toList = _
    simp
  rw [e2, List.mem_map] at hx
  obtain ⟨y, hy, e⟩ := hx
  obtain ⟨i, hi, rfl⟩ := List.mem_iff_getElem.1 hy
  rw [List.length_drop, List.length_take] at hi
  rw [List.getElem_drop, List.getElem_take, ← lb_get l (z + i) (by omega)] at e
  have hb := lb_in hI (i := z + i) (by omega)
  have h := hn (z + i) (by omega) (by omega)
  have e1 := congrArg UInt8.toNat e
  rw [UInt8.toNat_ofNat'] at e1
  have : (10 : UInt8).toNat = 10 := rfl
  omega
theorem rep_nonl (c : UInt8) (h : c ≠ 10) (n : Nat) : NoNl (rep c n) := by
  intro x hx
  unfold rep at hx
  have : x ∈ List.replicate n c := by simpa using hx
  rw [(List.mem_replicate.1 this).2]
  exact h
/-- The second and the third line of a picture. -/
def LP (l : List Int) (x : S41) (B C : ByteArray) : Prop := ∃ F te : Nat, x.f2.f0 = (F : Int) ∧ F ≤ te ∧ te ≤ l.length ∧ (te = l.length ∨ lb l te = 10) ∧ (∀ i, begN l F ≤ i → i < te → lb l i ≠ 10) ∧
  B = sp2 ++ strOfNums ((l.take te).drop (begN l F)) ∧ C = (sp2 ++ rep 32 (colV l F - 1).toNat) ++ rep 94 (max (cwN l (mkC F x.f2.f1) te) 1)
theorem mkD (s : ByteArray) : (⟨s.data.toList.toArray⟩ : ByteArray) = s := by apply ByteArray.ext; simp
theorem lines_pic {l : List Int} (hI : Sc.InB l = true) (hl : l.length ≤ 600) {rs : List (Nat × Nat)} (hr : GR l 0 rs) (x : S41) (i : Int) (hx : errF l.length x i = 0) (x0 : ByteArray) (pre post : List UInt8) (h0 : x0.data.toList = pre ++ ((pv l x).data.toList ++ post)) (hs : x0.size ≤ 1000000) (out : List ByteArray) (ho : out.length ≤ 9000) (k : Nat) :
    ∃ A B C, LP l x B C ∧ mummerlaw08_lines.l0 (k + (pv l x).size) x0 out (pre.length : Int) (pre.length : Int) = mummerlaw08_lines.l0 k x0 (out ++ [A, B, C]) ((pre.length + (pv l x).size : Nat) : Int) ((pre.length + (pv l x).size : Nat) : Int) := by
  obtain ⟨msg, F, te, h1, h2, h3, h4, h5, h6, h7, h8, _⟩ := pic_same hI (by omega) hr x i hx
  have e : pv l x = picT msg ((l.take te).drop (begN l F)) (colV l F) (cwN l (mkC F x.f2.f1) te) := by unfold pv; rw [h8 _ (Nat.le_refl _)]; rfl
  rw [e] at h0 ⊢
  have hsz := picT_size msg ((l.take te).drop (begN l F)) (colV l F) (cwN l (mkC F x.f2.f1) te)
  rw [picT_data] at h0
  generalize hB : sp2 ++ strOfNums ((l.take te).drop (begN l F)) = B at h0
  generalize hC : (sp2 ++ rep 32 (colV l F - 1).toNat) ++ rep 94 (max (cwN l (mkC F x.f2.f1) te) 1) = C at h0
  have sB : B.size = 2 + ((l.take te).drop (begN l F)).length := by
    have c : sp2.size = 2 := rfl
    rw [← hB, ByteArray.size_append, strOfNums_size, c]
  have sC : C.size = 2 + (colV l F - 1).toNat + max (cwN l (mkC F x.f2.f1) te) 1 := by
    have c : sp2.size = 2 := rfl
    rw [← hC, ByteArray.size_append, ByteArray.size_append, rep_size, rep_size, c]
  have n2 : NoNl sp2 := by decide
  have nB : NoNl B := by rw [← hB]; exact n2.app (line_nonl hI _ _ h3 h5)
  have nC : NoNl C := by rw [← hC]; exact (n2.app (rep_nonl 32 (by decide) _)).app (rep_nonl 94 (by decide) _)
  have lm : msg.data.toList.length = msg.size := by simp
  have lB : B.data.toList.length = B.size := by simp
  have lC : C.data.toList.length = C.size := by simp
  refine ⟨msg, B, C, ⟨F, te, h1, h2, h3, h4, h5, hB.symm, hC.symm⟩, ?_⟩
  have s1 := lines_app x0 pre msg.data.toList (B.data.toList ++ 10 :: (C.data.toList ++ 10 :: post)) (by rw [h0]; simp) h7 hs out (by omega) (k + C.size + 1 + B.size + 1) msg.size 0 (by rw [lm]; omega)
  have s2 := lines_app x0 (pre ++ (msg.data.toList ++ [10])) B.data.toList (C.data.toList ++ 10 :: post) (by rw [h0]; simp) nB hs (out ++ [msg]) (by simp; omega) (k + C.size + 1) B.size 0 (by rw [lB]; omega)
  have s3 := lines_app x0 (pre ++ (msg.data.toList ++ [10]) ++ (B.data.toList ++ [10])) C.data.toList post (by rw [h0]; simp) nC hs (out ++ [msg] ++ [B]) (by simp; omega) k C.size 0 (by rw [lC]; omega)
  simp only [mkD, Nat.add_zero, lm] at s1
  have p2 : (pre ++ (msg.data.toList ++ [10])).length = pre.length + msg.size + 1 := by rw [List.length_append, List.length_append, lm, List.length_singleton]; omega
  have p3 : (pre ++ (msg.data.toList ++ [10]) ++ (B.data.toList ++ [10])).length = pre.length + msg.size + 1 + B.size + 1 := by rw [List.length_append, p2, List.length_append, lB, List.length_singleton]; omega
  simp only [mkD, Nat.add_zero, p2, lB] at s2
  simp only [mkD, Nat.add_zero, p3, lC] at s3
  rw [hsz]
  rw [show k + (msg.size + 3 + ((l.take te).drop (begN l F)).length + 3 + (colV l F - 1).toNat + max (cwN l (mkC F x.f2.f1) te) 1 + 1) = k + C.size + 1 + B.size + 1 + msg.size + 1 by omega, s1, s2, s3]
  rw [show pre.length + (msg.size + 3 + ((l.take te).drop (begN l F)).length + 3 + (colV l F - 1).toNat + max (cwN l (mkC F x.f2.f1) te) 1 + 1) = pre.length + msg.size + 1 + B.size + 1 + C.size + 1 by omega]
  simp
theorem catP_data (l : List Int) (l1 : List S41) : ∀ (r : List Int) (acc : ByteArray), ∃ post, (catP l l1 r acc).data.toList = acc.data.toList ++ post
  | [], acc => ⟨[], by rw [catP]; simp⟩
  | i :: r, acc => by
    obtain ⟨post, h⟩ := catP_data l l1 r (acc ++ pv l (rd_T41 l1 i))
    refine ⟨(pv l (rd_T41 l1 i)).data.toList ++ post, ?_⟩
    rw [catP, h, appData, List.append_assoc]
theorem lines_cat {l : List Int} (hI : Sc.InB l = true) (hl : l.length ≤ 600) {rs : List (Nat × Nat)} (hr : GR l 0 rs) {l1 : List S41} (hc : (chkV l.length l1).2 = 0) (x0 : ByteArray) (hs : x0.size ≤ 1000000) :
    ∀ (r : List Int) (acc : ByteArray) (out : List ByteArray), x0 = catP l l1 r acc → (∀ x ∈ r, 0 ≤ x ∧ x < (l1.length : Int)) → out.length + 3 * r.length ≤ 9000 → ∀ k, x0.size < k + acc.size →
      ∃ xs, mummerlaw08_lines.l0 k x0 out (acc.size : Int) (acc.size : Int) = some (out ++ xs) ∧ xs.length = 3 * r.length ∧ ∀ (j : Nat) (i : Int), r[j]? = some i → ∃ B C, xs[3 * j + 1]? = some B ∧ xs[3 * j + 2]? = some C ∧ LP l (rd_T41 l1 i) B C
  | [], acc, out, h, hm, ho, k, hk => by
    rw [catP] at h
    subst h
    obtain ⟨k, rfl⟩ : ∃ K, k = K + 1 := ⟨k - 1, by omega⟩
    refine ⟨[], ?_, rfl, fun j i h => by simp at h⟩
    rw [mummerlaw08_lines.l0, if_neg (by omega)]
    simp
  | i :: r, acc, out, h, hm, ho, k, hk => by
    rw [List.length_cons] at ho
    have hi := hm i List.mem_cons_self
    obtain ⟨n, rfl⟩ : ∃ n : Nat, i = (n : Int) := ⟨i.toNat, by omega⟩
    have hv := (chk_ok _ _ hc).2 n (by omega)
    have h' := h
    rw [catP] at h
    obtain ⟨post, hp⟩ := catP_data l l1 r (acc ++ pv l (rd_T41 l1 (n : Int)))
    rw [← h, appData, List.append_assoc] at hp
    have la : acc.data.toList.length = acc.size := by simp
    have hsz : x0.size = acc.size + ((pv l (rd_T41 l1 (n : Int))).size + post.length) := by
      have e : x0.data.toList.length = x0.size := by simp
      rw [← e, hp, List.length_append, List.length_append]; simp
    obtain ⟨A, B, C, hLP, e⟩ := lines_pic hI hl hr (rd_T41 l1 (n : Int)) (n : Int) hv x0 acc.data.toList post hp hs out (by omega) (k - (pv l (rd_T41 l1 (n : Int))).size)
    rw [la, Nat.sub_add_cancel (by omega)] at e
    obtain ⟨xs, x1, x2, x3⟩ := lines_cat hI hl hr hc x0 hs r (acc ++ pv l (rd_T41 l1 (n : Int))) (out ++ [A, B, C]) h (fun x hx => hm x (List.mem_cons_of_mem _ hx)) (by simp; omega) (k - (pv l (rd_T41 l1 (n : Int))).size) (by rw [ByteArray.size_append]; omega)
    rw [ByteArray.size_append] at x1
    refine ⟨[A, B, C] ++ xs, ?_, by rw [List.length_append, x2, List.length_cons]; simp; omega, fun j i hj => ?_⟩
    · rw [e, x1, List.append_assoc]
    · cases j with
      | zero =>
        have : (n : Int) = i := by simpa using hj
        subst this
        exact ⟨B, C, rfl, rfl, hLP⟩
      | succ j =>
        obtain ⟨B', C', b1, b2, b3⟩ := x3 j i (by simpa using hj)
        refine ⟨B', C', ?_, ?_, b3⟩
        · rw [show 3 * (j + 1) + 1 = 3 + (3 * j + 1) by omega, List.getElem?_append_right (by simp), ← b1]; simp
        · rw [show 3 * (j + 1) + 2 = 3 + (3 * j + 2) by omega, List.getElem?_append_right (by simp), ← b2]; simp
end Go.Proofs.YtdjkdlbokepoaaaGreatDoor.P
