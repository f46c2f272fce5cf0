/- Chapter 7: what the printed functions of the reference compute. -/
import Derived.Test.YtjgelmfkoefclaaTidyLaw
import Derived.Test.YtjgelmfkoefclaaPAllx16
import Derived.Test.YtjgelmfkoefclaaPAllx17
import Derived.Test.YtjgelmfkoefclaaPAllx21
import Derived.Test.YtjgelmfkoefclaaPAllx2
import Derived.Test.YtjgelmfkoefclaaPAllx4
import Derived.Test.YtjgelmfkoefclaaRead
namespace Go.Proofs.Ytjgelmfkoefclaa.Pure
open Go.RowKit Go.Proofs.YtjgelmfkoefclaaW.PrintWords Go.Proofs.YtjgelmfkoefclaaW.PrintLast Go.Proofs.YtjgelmfkoefclaaW.PrintMore Go.Proofs.Ytjgelmfkoefclaa.PAll
set_option linter.unusedVariables false
set_option linter.unusedSimpArgs false

theorem toList_nil (s : ByteArray) : s.toList = ([] : List UInt8) ↔ s.size = 0 := by
  have h : s.toList.length = s.size := by rw [ByteArray.toList_eq]; exact data_length s
  rw [← h]
  exact List.length_eq_zero_iff.symm

theorem texts_l0 (k : Nat) : ∀ (s : ByteArray) (o : List S54), s.size < k → o.length + s.size < 4398046511104 → barqueref06_Texts.l0 k o s = some (o ++ flushN s.size s) := by
  induction k with
  | zero => intro s o h; omega
  | succ k ih =>
    intro s o hk ho
    simp only [barqueref06_Texts.l0]
    by_cases h4 : s.size > 4096
    · rw [if_pos (by omega), if_pos (by omega), if_pos (by omega), if_pos (by omega), ih]
      · rw [flushN_step s (by omega), show min s.size 4096 = 4096 from by omega, List.append_assoc, List.singleton_append]
      · rw [ByteArray.size_extract]; omega
      · rw [ByteArray.size_extract, List.length_append, List.length_singleton]; omega
    · rw [if_neg (by omega)]
      by_cases h0 : s.size = 0
      · rw [if_pos ((toList_nil s).2 h0), flushN_zero s h0, List.append_nil]
      · rw [if_neg (fun h => h0 ((toList_nil s).1 h)), if_pos (by omega), flushN_step s h0, show min s.size 4096 = s.size from by omega, show s.extract 0 s.size = s from by simp, show s.extract s.size s.size = ⟨#[]⟩ from by simp; rfl, flushN_zero _ rfl]
theorem copy_f (o : List S54) (p q : Int) (t : ByteArray) (ho : o.length < 4398046511104) : barqueref06_Copy.f o p q = some (tidyCopy o ⟨p, q, t⟩) := by
  unfold barqueref06_Copy.f
  rcases list_last o with rfl | ⟨o, y, rfl⟩
  · rw [if_neg (by simp only [List.length_nil]; unfold wrap64; omega), if_pos ho, copy_nil]; rfl
  · have hw : wrap64 (((o ++ [y]).length : Int) - 1) = (((o ++ [y]).length - 1 : Nat) : Int) := by
      rw [List.length_append, List.length_singleton] at *; unfold wrap64; omega
    have hl : 0 < (o ++ [y]).length := by simp
    rw [hw, if_pos (by omega), if_pos (by omega), if_pos (by omega), rd68_last, Int.toNat_natCast]
    by_cases h2 : y.f2.size = 0
    · rw [if_pos ((toList_nil _).2 h2)]
      by_cases hp : wrap64 (y.f0 + y.f1) = p
      · rw [if_pos hp, copy_merge o y ⟨p, q, t⟩ h2 hp, set_last]
      · rw [if_neg hp, if_pos ho, copy_new o y ⟨p, q, t⟩ (fun h => hp h.2)]
    · rw [if_neg (fun h => h2 ((toList_nil _).1 h)), if_pos ho, copy_new o y ⟨p, q, t⟩ (fun h => h2 h.1)]

theorem rd70_nat (l : List S59) (i : Nat) (h : i < l.length) : rd_T59 l (i : Int) = l[i] := by
  unfold rd_T59
  rw [Int.toNat_natCast, List.getD_eq_getElem?_getD, List.getElem?_eq_getElem h]; rfl
theorem rd68_nat (l : List S54) (i : Nat) (h : i < l.length) : rd_T54 l (i : Int) = l[i] := by
  unfold rd_T54
  rw [Int.toNat_natCast, List.getD_eq_getElem?_getD, List.getElem?_eq_getElem h]; rfl
theorem steps_l0 (bs : List S59) (hn : bs.length ≤ 1000000) (d : Nat) : ∀ (k i : Nat) (o : List S54) (s : ByteArray), bs.length - i = d → i ≤ bs.length → o.length + s.size ≤ i → 2 * d + bs.length + 5 < k →
    barqueref07_Steps.l0 k bs o s (i : Nat) = some (((bs.drop i).foldl stepS (s, o)).2 ++ flushN ((bs.drop i).foldl stepS (s, o)).1.size ((bs.drop i).foldl stepS (s, o)).1) := by
  induction d with
  | zero =>
    intro k i o s hd hi ho hk
    obtain ⟨k, rfl⟩ : ∃ m, k = m + 3 := ⟨k - 3, by omega⟩
    have hi' : i = bs.length := by omega
    rw [barqueref07_Steps.l0, if_pos (by omega), if_neg (by omega), barqueref07_Steps.j1, if_neg (by decide)]
    unfold barqueref06_Texts.f
    rw [texts_l0 _ s o (by omega) (by omega), Option.bind_some, if_neg (by omega), barqueref07_Steps.l0, if_neg (by unfold wrap64; omega), hi', List.drop_length]
    rfl
  | succ d ih =>
    intro k i o s hd hi ho hk
    obtain ⟨k, rfl⟩ : ∃ m, k = m + 2 := ⟨k - 2, by omega⟩
    have hil : i < bs.length := by omega
    have hw : wrap64 ((i : Int) + 1) = ((i + 1 : Nat) : Int) := by unfold wrap64; omega
    rw [barqueref07_Steps.l0, if_pos (by omega), if_pos (by omega), if_pos (by omega), barqueref07_Steps.j1, rd70_nat bs i hil, List.drop_eq_getElem_cons hil, List.foldl_cons]
    obtain ⟨b, hb⟩ : ∃ b, b = bs[i] := ⟨_, rfl⟩
    rw [← hb]
    by_cases ht : b.f0 = true
    · rw [if_pos ht, if_pos (by omega), if_pos (by omega), Option.bind_some]
      have hs1 : (strOfNums [b.f2]).size = 1 := by simp [strOfNums, ByteArray.size]
      rw [if_pos (by omega), hw, ih k (i + 1) o _ (by omega) (by omega) (by rw [ByteArray.size_append]; omega) (by omega)]
      simp only [stepS, ht, if_true]
    · rw [if_neg ht]
      unfold barqueref06_Texts.f
      have hfl := flushN_length s.size s
      rw [texts_l0 _ s o (by omega) (by omega), Option.bind_some, if_pos (by omega), if_pos (by omega), copy_f _ _ _ ⟨#[]⟩ (by rw [List.length_append]; omega), Option.bind_some, hw]
      have hcl := tidyCopy_length (o ++ flushN s.size s) ⟨b.f1, 1, ⟨#[]⟩⟩
      rw [List.length_append] at hcl
      have e0 : (⟨#[]⟩ : ByteArray).size = 0 := rfl
      rw [ih k (i + 1) _ _ (by omega) (by omega) (by rw [e0]; omega) (by omega)]
      simp only [stepS, ht, if_false, Bool.false_eq_true]
theorem steps_f (bs : List S59) (hn : bs.length ≤ 1000000) (k : Nat) (hk : 3 * bs.length + 5 < k) : barqueref07_Steps.f k bs = some (stepsV bs) := by
  unfold barqueref07_Steps.f
  have := steps_l0 bs hn bs.length k 0 [] ⟨#[]⟩ (by omega) (by omega) (Nat.le_refl _) (by omega)
  rw [List.drop_zero] at this
  exact this

theorem bytes_l1 (l : List S54) (i : Nat) (hi : i < l.length) (d : Nat) : ∀ (k j : Nat) (acc : List S59), (rd_T54 l i).f2.size - j = d → j ≤ (rd_T54 l i).f2.size → (rd_T54 l i).f2.size ≤ 1000000 → acc.length + d < 5864062014805 →
    barqueref07_Bytes.l1 (k + d + 1) l acc (i : Nat) (j : Nat) = barqueref07_Bytes.l0 k l (acc ++ (told (rd_T54 l i).f2).drop j) (wrap64 ((i : Int) + 1)) := by
  have htl : ∀ s : ByteArray, (told s).length = s.size := fun s => by simp [told]
  induction d with
  | zero =>
    intro k j acc hd hj hm ha
    rw [barqueref07_Bytes.l1, if_pos (by omega), if_pos (by omega), if_neg (by omega), List.drop_of_length_le (by rw [htl]; omega), List.append_nil]
  | succ d ih =>
    intro k j acc hd hj hm ha
    rw [show k + (d + 1) + 1 = (k + d + 1) + 1 from by omega, barqueref07_Bytes.l1, if_pos (by omega), if_pos (by omega), if_pos (by omega), if_pos (by omega), if_pos (by omega),
      show wrap64 ((j : Int) + 1) = ((j + 1 : Nat) : Int) from by unfold wrap64; omega, ih k (j + 1) _ (by omega) (by omega) hm (by rw [List.length_append, List.length_singleton]; omega)]
    have hjl : j < (told (rd_T54 l i).f2).length := by rw [htl]; omega
    rw [List.drop_eq_getElem_cons hjl, List.append_assoc, List.singleton_append]
    simp [told]
theorem bytes_l2 (l : List S54) (i : Nat) (hi : i < l.length) (d : Nat) : ∀ (k j : Nat) (acc : List S59), (rd_T54 l i).f1.toNat - j = d → (rd_T54 l i).f1.toNat ≤ 1000000 → j ≤ (rd_T54 l i).f1.toNat → acc.length + d < 5864062014805 →
    barqueref07_Bytes.l2 (k + d + 1) l acc (i : Nat) (j : Nat) = barqueref07_Bytes.l0 k l (acc ++ (froms (rd_T54 l i).f0 (rd_T54 l i).f1.toNat).drop j) (wrap64 ((i : Int) + 1)) := by
  have htl : ∀ p n, (froms p n).length = n := fun p n => by simp [froms]
  induction d with
  | zero =>
    intro k j acc hd hm hj ha
    rw [barqueref07_Bytes.l2, if_pos (by omega), if_pos (by omega), if_neg (by omega), List.drop_of_length_le (by rw [htl]; omega), List.append_nil]
  | succ d ih =>
    intro k j acc hd hm hj ha
    rw [show k + (d + 1) + 1 = (k + d + 1) + 1 from by omega, barqueref07_Bytes.l2, if_pos (by omega), if_pos (by omega), if_pos (by omega), if_pos (by omega),
      show wrap64 ((j : Int) + 1) = ((j + 1 : Nat) : Int) from by unfold wrap64; omega, ih k (j + 1) _ (by omega) hm (by omega) (by rw [List.length_append, List.length_singleton]; omega)]
    have hjl : j < (froms (rd_T54 l i).f0 (rd_T54 l i).f1.toNat).length := by rw [htl]; omega
    rw [List.drop_eq_getElem_cons hjl, List.append_assoc, List.singleton_append]
    simp [froms]
theorem bytes1_length (x : S54) : (bytes1 x).length ≤ x.f2.size + x.f1.toNat := by
  unfold bytes1 told froms
  split <;> simp
theorem bytesV_length (l : List S54) : (bytesV l).length ≤ textSum l + lenSum l := by
  induction l with
  | nil => simp [bytesV]
  | cons x l ih =>
    have h := bytes1_length x
    unfold bytesV textSum lenSum at *
    simp only [List.flatMap_cons, List.length_append, List.map_cons, List.foldr_cons]
    omega
theorem bytes_l0 (l : List S54) (hn : l.length ≤ 1000000) (hx : ∀ x ∈ l, x.f2.size ≤ 1000000 ∧ x.f1.toNat ≤ 1000000) (d : Nat) : ∀ (k i : Nat) (acc : List S59), l.length - i = d → i ≤ l.length → acc.length + (bytesV (l.drop i)).length < 5864062014805 → (bytesV (l.drop i)).length + 2 * d < k →
    barqueref07_Bytes.l0 k l acc (i : Nat) = some (acc ++ bytesV (l.drop i)) := by
  induction d with
  | zero =>
    intro k i acc hd hi ha hk
    obtain ⟨k, rfl⟩ : ∃ m, k = m + 1 := ⟨k - 1, by omega⟩
    rw [barqueref07_Bytes.l0, if_neg (by omega), List.drop_of_length_le (by omega)]
    simp [bytesV]
  | succ d ih =>
    intro k i acc hd hi ha hk
    have hil : i < l.length := by omega
    have hw : wrap64 ((i : Int) + 1) = ((i + 1 : Nat) : Int) := by unfold wrap64; omega
    have hdr : l.drop i = l[i] :: l.drop (i + 1) := List.drop_eq_getElem_cons hil
    have hb : bytesV (l.drop i) = bytes1 (rd_T54 l i) ++ bytesV (l.drop (i + 1)) := by rw [hdr, rd68_nat l i hil]; rfl
    have hxi := hx l[i] (List.getElem_mem hil)
    rw [← rd68_nat l i hil] at hxi
    rw [hb, List.length_append] at ha hk
    rw [hb]
    by_cases h2 : (rd_T54 l i).f2.size = 0
    · have e1 : bytes1 (rd_T54 l i) = froms (rd_T54 l i).f0 (rd_T54 l i).f1.toNat := by unfold bytes1; rw [if_neg (by omega)]
      have hl : (froms (rd_T54 l i).f0 (rd_T54 l i).f1.toNat).length = (rd_T54 l i).f1.toNat := by simp [froms]
      rw [e1] at ha hk ⊢
      rw [hl] at ha hk
      obtain ⟨k', rfl⟩ : ∃ m, k = m + (rd_T54 l i).f1.toNat + 1 + 1 := ⟨k - (rd_T54 l i).f1.toNat - 2, by omega⟩
      rw [barqueref07_Bytes.l0, if_pos (by omega), if_pos (by omega), if_pos ((toList_nil _).2 h2), show (0 : Int) = ((0 : Nat) : Int) from rfl, bytes_l2 l i hil _ k' 0 acc (by omega) hxi.2 (by omega) (by omega), List.drop_zero, hw,
        ih k' (i + 1) _ (by omega) (by omega) (by rw [List.length_append, hl]; omega) (by omega), List.append_assoc]
    · have e1 : bytes1 (rd_T54 l i) = told (rd_T54 l i).f2 := by unfold bytes1; rw [if_pos h2]
      have hl : (told (rd_T54 l i).f2).length = (rd_T54 l i).f2.size := by simp [told]
      rw [e1] at ha hk ⊢
      rw [hl] at ha hk
      obtain ⟨k', rfl⟩ : ∃ m, k = m + (rd_T54 l i).f2.size + 1 + 1 := ⟨k - (rd_T54 l i).f2.size - 2, by omega⟩
      rw [barqueref07_Bytes.l0, if_pos (by omega), if_pos (by omega), if_neg (fun h => h2 ((toList_nil _).1 h)), show (0 : Int) = ((0 : Nat) : Int) from rfl, bytes_l1 l i hil _ k' 0 acc (by omega) (by omega) hxi.1 (by omega), List.drop_zero, hw,
        ih k' (i + 1) _ (by omega) (by omega) (by rw [List.length_append, hl]; omega) (by omega), List.append_assoc]
theorem bytes_f (l : List S54) (hn : l.length ≤ 1000000) (hx : ∀ x ∈ l, x.f2.size ≤ 1000000 ∧ x.f1.toNat ≤ 1000000) (k : Nat) (hk : (bytesV l).length + 2 * l.length < k) (hl : (bytesV l).length < 5864062014805) : barqueref07_Bytes.f k l = some (bytesV l) := by
  unfold barqueref07_Bytes.f
  have := bytes_l0 l hn hx l.length k 0 [] (by omega) (by omega) (by rw [List.drop_zero]; simpa using hl) (by rw [List.drop_zero]; exact hk)
  rw [List.drop_zero, List.nil_append] at this
  exact this

theorem same_l0 (l : List S54) (hn : l.length ≤ 1000000) (d : Nat) : ∀ (k i : Nat), l.length - i = d → i ≤ l.length → d < k → barqueref06_Steps.l0 k l l (i : Nat) = some true := by
  induction d with
  | zero =>
    intro k i hd hi hk
    obtain ⟨k, rfl⟩ : ∃ m, k = m + 1 := ⟨k - 1, by omega⟩
    rw [barqueref06_Steps.l0, if_neg (by omega)]
  | succ d ih =>
    intro k i hd hi hk
    obtain ⟨k, rfl⟩ : ∃ m, k = m + 1 := ⟨k - 1, by omega⟩
    rw [barqueref06_Steps.l0, if_pos (by omega), if_pos (by omega), if_pos (by omega), if_neg (by simp), show wrap64 ((i : Int) + 1) = ((i + 1 : Nat) : Int) from by unfold wrap64; omega, ih k (i + 1) (by omega) (by omega) (by omega)]
theorem same_f (l : List S54) (hn : l.length ≤ 1000000) (k : Nat) (hk : l.length < k) : barqueref06_Steps.f k l l = some true := by
  unfold barqueref06_Steps.f
  rw [if_pos rfl]
  exact same_l0 l hn l.length k 0 (by omega) (by omega) hk

theorem awake_tidy : tidyV [(⟨0, 0, (⟨#[97]⟩ : ByteArray)⟩ : S54), (⟨0, 0, (⟨#[98]⟩ : ByteArray)⟩ : S54), (⟨0, 4, (⟨#[]⟩ : ByteArray)⟩ : S54), (⟨4, 2, (⟨#[]⟩ : ByteArray)⟩ : S54)] = [⟨0, 0, ⟨#[97, 98]⟩⟩, ⟨0, 6, ⟨#[]⟩⟩] := by kernel_rfl
theorem awake07 (k : Nat) : barquelaw07_awake.f k = some true := by
  unfold barquelaw07_awake.f chain_Tidy.f
  rw [if_pos ⟨by decide, Nat.le_trans (Nat.le_of_eq (show textSum _ = 2 from rfl)) (by decide)⟩, Option.bind_some, awake_tidy]
  rw [if_pos (by rfl), if_pos (by decide), if_pos (by show (⟨#[97, 98]⟩ : ByteArray).toList = [97, 98]; rw [ByteArray.toList_eq]), if_pos (by decide)]
  show some ((0 : Int) == 0 && ((6 : Int) == 6 && ((⟨#[]⟩ : ByteArray).toList == []))) = some true
  rw [ByteArray.toList_eq]
  rfl

theorem wrap_nn (m q : Nat) (h : m + q ≤ 1000000) : wrap64 ((m : Int) + (q : Int)) = ((m + q : Nat) : Int) := by unfold wrap64; omega
theorem wrap_ni (m : Nat) (q : Int) (h : m + q.toNat ≤ 1000000) (hq : 0 < q) : wrap64 ((m : Int) + q) = ((m + q.toNat : Nat) : Int) := by
  obtain ⟨r, rfl⟩ : ∃ r : Nat, q = r := ⟨q.toNat, by omega⟩
  rw [Int.toNat_natCast] at *
  exact wrap_nn m r h
theorem small_l0 (l : List S54) (g0 g1 : ByteArray) (g2 : Int) (d : Nat) : ∀ (k i n : Nat), i + d = 100 → i ≤ l.length → n ≤ 6000 → 2 * d + 3 < k →
    ∃ b, barquelaw07_small.l0 k (n : Nat) (i : Nat) g0 g1 g2 l = some b ∧ (b = true → l.length ≤ 100 ∧ n + textSum (l.drop i) + lenSum (l.drop i) ≤ 6000) := by
  induction d with
  | zero =>
    intro k i n hd hi hn hk
    obtain ⟨k, rfl⟩ : ∃ m, k = m + 2 := ⟨k - 2, by omega⟩
    rw [barquelaw07_small.l0]
    by_cases hl : i < l.length
    · rw [if_pos (by omega), if_pos (by omega), barquelaw07_small.j1, if_pos rfl]
      exact ⟨false, rfl, fun h => by cases h⟩
    · rw [if_neg (by omega)]
      refine ⟨true, rfl, fun _ => ⟨by omega, ?_⟩⟩
      rw [List.drop_of_length_le (by omega)]; simpa [textSum, lenSum] using hn
  | succ d ih =>
    intro k i n hd hi hn hk
    obtain ⟨k, rfl⟩ : ∃ m, k = m + 2 := ⟨k - 2, by omega⟩
    rw [barquelaw07_small.l0]
    by_cases hl : i < l.length
    · rw [if_pos (by omega), if_neg (by omega), if_pos (by omega)]
      have hdr : l.drop i = l[i] :: l.drop (i + 1) := List.drop_eq_getElem_cons hl
      rw [← rd68_nat l i hl] at hdr
      have ht : textSum (l.drop i) = (rd_T54 l i).f2.size + textSum (l.drop (i + 1)) := by rw [hdr]; rfl
      have hls : lenSum (l.drop i) = (rd_T54 l i).f1.toNat + lenSum (l.drop (i + 1)) := by rw [hdr]; rfl
      obtain ⟨x, hx⟩ : ∃ x, rd_T54 l (i : Int) = x := ⟨_, rfl⟩
      rw [hx] at ht hls ⊢
      clear hdr
      rw [ht, hls]
      by_cases h3 : x.f1 > 3000
      · rw [if_pos h3, barquelaw07_small.j1, if_pos rfl]
        exact ⟨false, rfl, fun h => by cases h⟩
      · rw [if_neg h3, barquelaw07_small.j1]
        simp only [hx]
        by_cases h4 : x.f2.size > 4096
        · rw [if_pos (decide_eq_true (by omega))]
          exact ⟨false, rfl, fun h => by cases h⟩
        · rw [if_neg (by rw [decide_eq_true_eq]; omega), if_pos (by omega), if_pos (by omega)]
          rw [wrap_nn n x.f2.size (by omega)]
          by_cases h5 : x.f1 > 0
          · rw [if_pos h5]
            rw [wrap_ni (n + x.f2.size) x.f1 (by omega) (by omega)]
            by_cases h6 : n + x.f2.size + x.f1.toNat > 6000
            · rw [if_pos (by omega)]
              exact ⟨false, rfl, fun h => by cases h⟩
            · rw [if_neg (by omega), show wrap64 ((i : Int) + 1) = ((i + 1 : Nat) : Int) from wrap_nn i 1 (by omega)]
              obtain ⟨b, hb, hc⟩ := ih k (i + 1) (n + x.f2.size + x.f1.toNat) (by omega) (by omega) (by omega) (by omega)
              exact ⟨b, hb, fun h => by have := hc h; omega⟩
          · rw [if_neg h5]
            by_cases h6 : n + x.f2.size > 6000
            · rw [if_pos (by omega)]
              exact ⟨false, rfl, fun h => by cases h⟩
            · rw [if_neg (by omega), show wrap64 ((i : Int) + 1) = ((i + 1 : Nat) : Int) from wrap_nn i 1 (by omega)]
              obtain ⟨b, hb, hc⟩ := ih k (i + 1) (n + x.f2.size) (by omega) (by omega) (by omega) (by omega)
              exact ⟨b, hb, fun h => by have := hc h; omega⟩
    · rw [if_neg (by omega)]
      refine ⟨true, rfl, fun _ => ⟨by omega, ?_⟩⟩
      rw [List.drop_of_length_le (by omega)]; simpa [textSum, lenSum] using hn
theorem small_f (l : List S54) (g0 g1 : ByteArray) (g2 : Int) (k : Nat) (hk : 204 < k) : ∃ b, barquelaw07_small.f k g0 g1 g2 l = some b ∧ (b = true → l.length ≤ 100 ∧ textSum l + lenSum l ≤ 6000) := by
  obtain ⟨b, hb, hc⟩ := small_l0 l g0 g1 g2 100 k 0 0 rfl (by omega) (by omega) (by omega)
  rw [List.drop_zero] at hc
  exact ⟨b, hb, fun h => by have := hc h; omega⟩
theorem text_mem (l : List S54) (x : S54) (h : x ∈ l) : x.f2.size ≤ textSum l := by
  induction l with
  | nil => cases h
  | cons y l ih =>
    unfold textSum at *
    simp only [List.map_cons, List.foldr_cons]
    rcases List.mem_cons.mp h with rfl | h
    · omega
    · have := ih h; omega
end Go.Proofs.Ytjgelmfkoefclaa.Pure
