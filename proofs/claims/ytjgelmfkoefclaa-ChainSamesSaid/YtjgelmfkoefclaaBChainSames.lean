/- The last part of the proof of the law ChainSames (texts of this session, joined by wip/tools/tail.py): every call of it answers true, and what it was handed reads behind the call as it did before. No condition. -/
import Derived.Test.YtjgelmfkoefclaaBasd
import Derived.Test.YtjgelmfkoefclaaPAllx16
import Derived.Test.YtjgelmfkoefclaaPAllx17
import Derived.BigQuiet
import Derived.Deep.DeepMust
import Derived.RegionTactic
import Derived.Deep.RegionHeld3
import Derived.IntWalk
import Derived.Test.YtjgelmfkoefclaaGivSame
import Derived.Test.YtjgelmfkoefclaaGivDs
import Derived.Test.YtjgelmfkoefclaaGivCompose
import Derived.Test.YtjgelmfkoefclaaRows
import Derived.Test.YtjgelmfkoefclaaChecked
import Derived.WalkKit
import Derived.ProofKit
import Derived.OpenShut
import Derived.ShutString
import Derived.ChangeOld
import Derived.Below
import Derived.SizedLaws
import Derived.Lib.SmallJoins
-- from YtjgelmfkoefclaaStepsLaw
/- What the reference's Steps and Bytes compute (the part of PureTidy that ChainSames wants). -/
namespace Go.Proofs.Ytjgelmfkoefclaa.Pure
open Go.RowKit Go.Proofs.YtjgelmfkoefclaaW.PrintWords Go.Proofs.YtjgelmfkoefclaaW.PrintLast Go.Proofs.YtjgelmfkoefclaaW.PrintMore Go.Proofs.Ytjgelmfkoefclaa.PAll
set_option linter.unusedVariables false
set_option linter.unusedSimpArgs false
theorem toList_nil (s : ByteArray) : s.toList = ([] : List UInt8) ↔ s.size = 0 := by
  have h : s.toList.length = s.size := by rw [ByteArray.toList_eq]; exact data_length s
  rw [← h]
  exact List.length_eq_zero_iff.symm

theorem texts_l0 (k : Nat) : ∀ (s : ByteArray) (o : List S54), s.size < k → o.length + s.size < 4398046511104 → barqueref06_Texts.l0 k o s = some (o ++ flushN s.size s) := by
  induction k with
  | zero => intro s o h; omega
  | succ k ih =>
    intro s o hk ho
    simp only [barqueref06_Texts.l0]
    by_cases h4 : s.size > 4096
    · rw [if_pos (by omega), if_pos (by omega), if_pos (by omega), if_pos (by omega), ih]
      · rw [flushN_step s (by omega), show min s.size 4096 = 4096 from by omega, List.append_assoc, List.singleton_append]
      · rw [ByteArray.size_extract]; omega
      · rw [ByteArray.size_extract, List.length_append, List.length_singleton]; omega
    · rw [if_neg (by omega)]
      by_cases h0 : s.size = 0
      · rw [if_pos ((toList_nil s).2 h0), flushN_zero s h0, List.append_nil]
      · rw [if_neg (fun h => h0 ((toList_nil s).1 h)), if_pos (by omega), flushN_step s h0, show min s.size 4096 = s.size from by omega, show s.extract 0 s.size = s from by simp, show s.extract s.size s.size = ⟨#[]⟩ from by simp; rfl, flushN_zero _ rfl]
theorem copy_f (o : List S54) (p q : Int) (t : ByteArray) (ho : o.length < 4398046511104) : barqueref06_Copy.f o p q = some (tidyCopy o ⟨p, q, t⟩) := by
  unfold barqueref06_Copy.f
  rcases list_last o with rfl | ⟨o, y, rfl⟩
  · rw [if_neg (by simp only [List.length_nil]; unfold wrap64; omega), if_pos ho, copy_nil]; rfl
  · have hw : wrap64 (((o ++ [y]).length : Int) - 1) = (((o ++ [y]).length - 1 : Nat) : Int) := by
      rw [List.length_append, List.length_singleton] at *; unfold wrap64; omega
    have hl : 0 < (o ++ [y]).length := by simp
    rw [hw, if_pos (by omega), if_pos (by omega), if_pos (by omega), rd68_last, Int.toNat_natCast]
    by_cases h2 : y.f2.size = 0
    · rw [if_pos ((toList_nil _).2 h2)]
      by_cases hp : wrap64 (y.f0 + y.f1) = p
      · rw [if_pos hp, copy_merge o y ⟨p, q, t⟩ h2 hp, set_last]
      · rw [if_neg hp, if_pos ho, copy_new o y ⟨p, q, t⟩ (fun h => hp h.2)]
    · rw [if_neg (fun h => h2 ((toList_nil _).1 h)), if_pos ho, copy_new o y ⟨p, q, t⟩ (fun h => h2 h.1)]

theorem steps_l0 (bs : List S59) (hn : bs.length ≤ 1000000) (d : Nat) : ∀ (k i : Nat) (o : List S54) (s : ByteArray), bs.length - i = d → i ≤ bs.length → o.length + s.size ≤ i → 2 * d + bs.length + 5 < k →
    barqueref07_Steps.l0 k bs o s (i : Nat) = some (((bs.drop i).foldl stepS (s, o)).2 ++ flushN ((bs.drop i).foldl stepS (s, o)).1.size ((bs.drop i).foldl stepS (s, o)).1) := by
  induction d with
  | zero =>
    intro k i o s hd hi ho hk
    obtain ⟨k, rfl⟩ : ∃ m, k = m + 3 := ⟨k - 3, by omega⟩
    have hi' : i = bs.length := by omega
    rw [barqueref07_Steps.l0, if_pos (by omega), if_neg (by omega), barqueref07_Steps.j1, if_neg (by decide)]
    unfold barqueref06_Texts.f
    rw [texts_l0 _ s o (by omega) (by omega), Option.bind_some, if_neg (by omega), barqueref07_Steps.l0, if_neg (by unfold wrap64; omega), hi', List.drop_length]
    rfl
  | succ d ih =>
    intro k i o s hd hi ho hk
    obtain ⟨k, rfl⟩ : ∃ m, k = m + 2 := ⟨k - 2, by omega⟩
    have hil : i < bs.length := by omega
    have hw : wrap64 ((i : Int) + 1) = ((i + 1 : Nat) : Int) := by unfold wrap64; omega
    rw [barqueref07_Steps.l0, if_pos (by omega), if_pos (by omega), if_pos (by omega), barqueref07_Steps.j1, rd70_nat bs i hil, List.drop_eq_getElem_cons hil, List.foldl_cons]
    obtain ⟨b, hb⟩ : ∃ b, b = bs[i] := ⟨_, rfl⟩
    rw [← hb]
    by_cases ht : b.f0 = true
    · rw [if_pos ht, if_pos (by omega), if_pos (by omega), Option.bind_some]
      have hs1 : (strOfNums [b.f2]).size = 1 := by simp [strOfNums, ByteArray.size]
      rw [if_pos (by omega), hw, ih k (i + 1) o _ (by omega) (by omega) (by rw [ByteArray.size_append]; omega) (by omega)]
      simp only [stepS, ht, if_true]
    · rw [if_neg ht]
      unfold barqueref06_Texts.f
      have hfl := flushN_length s.size s
      rw [texts_l0 _ s o (by omega) (by omega), Option.bind_some, if_pos (by omega), if_pos (by omega), copy_f _ _ _ ⟨#[]⟩ (by rw [List.length_append]; omega), Option.bind_some, hw]
      have hcl := tidyCopy_length (o ++ flushN s.size s) ⟨b.f1, 1, ⟨#[]⟩⟩
      rw [List.length_append] at hcl
      have e0 : (⟨#[]⟩ : ByteArray).size = 0 := rfl
      rw [ih k (i + 1) _ _ (by omega) (by omega) (by rw [e0]; omega) (by omega)]
      simp only [stepS, ht, if_false, Bool.false_eq_true]
theorem steps_f (bs : List S59) (hn : bs.length ≤ 1000000) (k : Nat) (hk : 3 * bs.length + 5 < k) : barqueref07_Steps.f k bs = some (stepsV bs) := by
  unfold barqueref07_Steps.f
  have := steps_l0 bs hn bs.length k 0 [] ⟨#[]⟩ (by omega) (by omega) (Nat.le_refl _) (by omega)
  rw [List.drop_zero] at this
  exact this

theorem bytes_l1 (l : List S54) (i : Nat) (hi : i < l.length) (d : Nat) : ∀ (k j : Nat) (acc : List S59), (rd_T54 l i).f2.size - j = d → j ≤ (rd_T54 l i).f2.size → (rd_T54 l i).f2.size ≤ 1000000 → acc.length + d < 5864062014805 →
    barqueref07_Bytes.l1 (k + d + 1) l acc (i : Nat) (j : Nat) = barqueref07_Bytes.l0 k l (acc ++ (told (rd_T54 l i).f2).drop j) (wrap64 ((i : Int) + 1)) := by
  have htl : ∀ s : ByteArray, (told s).length = s.size := fun s => by simp [told]
  induction d with
  | zero =>
    intro k j acc hd hj hm ha
    rw [barqueref07_Bytes.l1, if_pos (by omega), if_pos (by omega), if_neg (by omega), List.drop_of_length_le (by rw [htl]; omega), List.append_nil]
  | succ d ih =>
    intro k j acc hd hj hm ha
    rw [show k + (d + 1) + 1 = (k + d + 1) + 1 from by omega, barqueref07_Bytes.l1, if_pos (by omega), if_pos (by omega), if_pos (by omega), if_pos (by omega), if_pos (by omega),
      show wrap64 ((j : Int) + 1) = ((j + 1 : Nat) : Int) from by unfold wrap64; omega, ih k (j + 1) _ (by omega) (by omega) hm (by rw [List.length_append, List.length_singleton]; omega)]
    have hjl : j < (told (rd_T54 l i).f2).length := by rw [htl]; omega
    rw [List.drop_eq_getElem_cons hjl, List.append_assoc, List.singleton_append]
    simp [told]
theorem bytes_l2 (l : List S54) (i : Nat) (hi : i < l.length) (d : Nat) : ∀ (k j : Nat) (acc : List S59), (rd_T54 l i).f1.toNat - j = d → (rd_T54 l i).f1.toNat ≤ 1000000 → j ≤ (rd_T54 l i).f1.toNat → acc.length + d < 5864062014805 →
    barqueref07_Bytes.l2 (k + d + 1) l acc (i : Nat) (j : Nat) = barqueref07_Bytes.l0 k l (acc ++ (froms (rd_T54 l i).f0 (rd_T54 l i).f1.toNat).drop j) (wrap64 ((i : Int) + 1)) := by
  have htl : ∀ p n, (froms p n).length = n := fun p n => by simp [froms]
  induction d with
  | zero =>
    intro k j acc hd hm hj ha
    rw [barqueref07_Bytes.l2, if_pos (by omega), if_pos (by omega), if_neg (by omega), List.drop_of_length_le (by rw [htl]; omega), List.append_nil]
  | succ d ih =>
    intro k j acc hd hm hj ha
    rw [show k + (d + 1) + 1 = (k + d + 1) + 1 from by omega, barqueref07_Bytes.l2, if_pos (by omega), if_pos (by omega), if_pos (by omega), if_pos (by omega),
      show wrap64 ((j : Int) + 1) = ((j + 1 : Nat) : Int) from by unfold wrap64; omega, ih k (j + 1) _ (by omega) hm (by omega) (by rw [List.length_append, List.length_singleton]; omega)]
    have hjl : j < (froms (rd_T54 l i).f0 (rd_T54 l i).f1.toNat).length := by rw [htl]; omega
    rw [List.drop_eq_getElem_cons hjl, List.append_assoc, List.singleton_append]
    simp [froms]
theorem bytes1_length (x : S54) : (bytes1 x).length ≤ x.f2.size + x.f1.toNat := by
  unfold bytes1 told froms
  split <;> simp
theorem bytesV_length (l : List S54) : (bytesV l).length ≤ textSum l + lenSum l := by
  induction l with
  | nil => simp [bytesV]
  | cons x l ih =>
    have h := bytes1_length x
    unfold bytesV textSum lenSum at *
    simp only [List.flatMap_cons, List.length_append, List.map_cons, List.foldr_cons]
    omega
theorem bytes_l0 (l : List S54) (hn : l.length ≤ 1000000) (hx : ∀ x ∈ l, x.f2.size ≤ 1000000 ∧ x.f1.toNat ≤ 1000000) (d : Nat) : ∀ (k i : Nat) (acc : List S59), l.length - i = d → i ≤ l.length → acc.length + (bytesV (l.drop i)).length < 5864062014805 → (bytesV (l.drop i)).length + 2 * d < k →
    barqueref07_Bytes.l0 k l acc (i : Nat) = some (acc ++ bytesV (l.drop i)) := by
  induction d with
  | zero =>
    intro k i acc hd hi ha hk
    obtain ⟨k, rfl⟩ : ∃ m, k = m + 1 := ⟨k - 1, by omega⟩
    rw [barqueref07_Bytes.l0, if_neg (by omega), List.drop_of_length_le (by omega)]
    simp [bytesV]
  | succ d ih =>
    intro k i acc hd hi ha hk
    have hil : i < l.length := by omega
    have hw : wrap64 ((i : Int) + 1) = ((i + 1 : Nat) : Int) := by unfold wrap64; omega
    have hdr : l.drop i = l[i] :: l.drop (i + 1) := List.drop_eq_getElem_cons hil
    have hb : bytesV (l.drop i) = bytes1 (rd_T54 l i) ++ bytesV (l.drop (i + 1)) := by rw [hdr, rd68_nat l i hil]; rfl
    have hxi := hx l[i] (List.getElem_mem hil)
    rw [← rd68_nat l i hil] at hxi
    rw [hb, List.length_append] at ha hk
    rw [hb]
    by_cases h2 : (rd_T54 l i).f2.size = 0
    · have e1 : bytes1 (rd_T54 l i) = froms (rd_T54 l i).f0 (rd_T54 l i).f1.toNat := by unfold bytes1; rw [if_neg (by omega)]
      have hl : (froms (rd_T54 l i).f0 (rd_T54 l i).f1.toNat).length = (rd_T54 l i).f1.toNat := by simp [froms]
      rw [e1] at ha hk ⊢
      rw [hl] at ha hk
      obtain ⟨k', rfl⟩ : ∃ m, k = m + (rd_T54 l i).f1.toNat + 1 + 1 := ⟨k - (rd_T54 l i).f1.toNat - 2, by omega⟩
      rw [barqueref07_Bytes.l0, if_pos (by omega), if_pos (by omega), if_pos ((toList_nil _).2 h2), show (0 : Int) = ((0 : Nat) : Int) from rfl, bytes_l2 l i hil _ k' 0 acc (by omega) hxi.2 (by omega) (by omega), List.drop_zero, hw,
        ih k' (i + 1) _ (by omega) (by omega) (by rw [List.length_append, hl]; omega) (by omega), List.append_assoc]
    · have e1 : bytes1 (rd_T54 l i) = told (rd_T54 l i).f2 := by unfold bytes1; rw [if_pos h2]
      have hl : (told (rd_T54 l i).f2).length = (rd_T54 l i).f2.size := by simp [told]
      rw [e1] at ha hk ⊢
      rw [hl] at ha hk
      obtain ⟨k', rfl⟩ : ∃ m, k = m + (rd_T54 l i).f2.size + 1 + 1 := ⟨k - (rd_T54 l i).f2.size - 2, by omega⟩
      rw [barqueref07_Bytes.l0, if_pos (by omega), if_pos (by omega), if_neg (fun h => h2 ((toList_nil _).1 h)), show (0 : Int) = ((0 : Nat) : Int) from rfl, bytes_l1 l i hil _ k' 0 acc (by omega) (by omega) hxi.1 (by omega), List.drop_zero, hw,
        ih k' (i + 1) _ (by omega) (by omega) (by rw [List.length_append, hl]; omega) (by omega), List.append_assoc]
theorem bytes_f (l : List S54) (hn : l.length ≤ 1000000) (hx : ∀ x ∈ l, x.f2.size ≤ 1000000 ∧ x.f1.toNat ≤ 1000000) (k : Nat) (hk : (bytesV l).length + 2 * l.length < k) (hl : (bytesV l).length < 5864062014805) : barqueref07_Bytes.f k l = some (bytesV l) := by
  unfold barqueref07_Bytes.f
  have := bytes_l0 l hn hx l.length k 0 [] (by omega) (by omega) (by rw [List.drop_zero]; simpa using hl) (by rw [List.drop_zero]; exact hk)
  rw [List.drop_zero, List.nil_append] at this
  exact this

end Go.Proofs.Ytjgelmfkoefclaa.Pure

-- from YtjgelmfkoefclaaWalkChainSames
/- Chapter 7: the delta that leaves all as it is (printed by wip/tools/sames.py). -/
namespace Go.Proofs.Ytjgelmfkoefclaa.chainSames
open Go.RowKit Go.Proofs.YtjgelmfkoefclaaW.PrintWords Go.Proofs.YtjgelmfkoefclaaW.PrintLast Go.Proofs.YtjgelmfkoefclaaW.PrintMore Go.Proofs.Ytjgelmfkoefclaa.PAll Go.Proofs.Ytjgelmfkoefclaa Go.Proofs.Ytjgelmfkoefclaa.Pure
set_option linter.unusedVariables false
set_option linter.unusedSimpArgs false
attribute [local go_sem] max2_int min2_int max_two min_two
theorem C_two (w : World) (s t : ByteArray) : Kd.C Kd.string (w.alloc (.cells #[.string s, .string t] 9 (0, 0))) (some ⟨w.heap.size, 0, none⟩) 2 [s, t] := by
  refine ⟨rfl, by decide, fun _ => ⟨_, rfl, fun j p hp => ⟨[.string p], rfl, rfl, fun i u hu => ?_⟩⟩⟩
  have hb := blk_new w (.cells #[.string s, .string t] 9 (0, 0))
  have hi : i = 0 := by
    have := (List.getElem?_eq_some_iff.1 hu).1
    simpa using this
  subst hi
  injection hu with hu
  subst hu
  rw [Addr.add_lit, Nat.zero_add]
  match j, hp with
  | 0, hp => injection hp with hp; subst hp; exact (blk_cell hb 0).trans rfl
  | 1, hp => injection hp with hp; subst hp; exact (blk_cell hb 1).trans rfl
theorem same_right (mk : ByteArray) (sz : Int) (h : sameOk mk sz) : delta_Right.f 20 mk mk sz (sameL sz.toNat) = some true := by
  obtain ⟨a1, a2, a3⟩ := h
  obtain ⟨n, rfl⟩ := Int.eq_ofNat_of_zero_le a2
  have hL := same_lay (n := n) (by omega)
  have e0 : (sameL n).length ≤ 1 := by unfold sameL; split <;> simp
  rw [Int.toNat_natCast, Right_f mk mk (n : Int) (sameL n) (okB_fit hL.1).in (by omega) 20 (by omega), lay_right (by omega) hL a1 a1]
theorem same_ok_calls (mk : ByteArray) (n : Nat) (hm : mk.size = 32) (hn : n ≤ 1000) (w : World) :
    Calls Try.prog 23 #[.string mk, .int .i64 (n : Nat)] w fun e w' => ∃ v : Value, e = .returned (.tuple #[.agg #[.string mk, .string mk, .int .i64 (n : Nat), v], .int .i64 0]) ∧ Kd.R k54 54 w' w.heap.size (fun _ => True) v (sameL n) ∧ Below w.heap.size w w' := by
  refine (same_calls mk (n : Nat) (by omega) w).mono ?_
  rintro _ w' ⟨r1, r2, r3, v, r4, r5, rfl, hr, hb, ⟨_, e1, e2, e3, e4, e5⟩ | ⟨hno, _⟩⟩
  · subst r1 r2 r3 r5
    rw [Int.toNat_natCast] at e4
    rw [e4] at hr
    exact ⟨v, rfl, hr, hb⟩
  · exact absurd ⟨hm, by omega, by omega⟩ hno
theorem C_keep {w w' : World} {A : Option Addr} {n : Nat} {xs : List S54} (h : Kd.C k54 w A n xs) (hb : ∀ ad, A = some ad → w'.heap[ad.block]? = w.heap[ad.block]?) : Kd.C k54 w' A n xs := by
  obtain ⟨h1, h2, h3⟩ := h
  refine ⟨h1, h2, fun hn => ?_⟩
  obtain ⟨ad, e, hcc⟩ := h3 hn
  refine ⟨ad, e, fun j p hp => ?_⟩
  obtain ⟨c, c1, c2, c3⟩ := hcc j p hp
  obtain rfl := k54_open c2
  refine ⟨_, c1, k54_mk w' p, fun i u hu => ?_⟩
  have hblk : (ad.add (j * k54.sz + i)).block = ad.block := by unfold Addr.add; split <;> rfl
  exact (World.cell?_of_block (a := ad.add (j * k54.sz + i)) (by rw [hblk]; exact hb ad e)).trans (c3 i u hu)
/-- A delta stays where another block is written. -/
theorem Dt.keep {w : World} {g gx k : Nat} {u : Value} {a b : ByteArray} {n : Int} {A : Option Addr} {c : Nat} {l : List S54} (h : Dt w g 0 1 2 3 a b n A c l) (hg : g ≠ gx) (hA : ∀ ad, A = some ad → ad.block ≠ gx) : Dt (w.setCell ⟨gx, k, none⟩ u) g 0 1 2 3 a b n A c l := by
  obtain ⟨⟨h0, h1, h2, h3⟩, h4, h5⟩ := h
  have hh : (w.setCell ⟨gx, k, none⟩ u).heap[g]? = w.heap[g]? := Below.heap_setCell w ⟨gx, k, none⟩ u g (fun e => hg e)
  exact ⟨⟨(World.cell?_of_block (a := ⟨g, 0, none⟩) hh).trans h0, (World.cell?_of_block (a := ⟨g, 1, none⟩) hh).trans h1, (World.cell?_of_block (a := ⟨g, 2, none⟩) hh).trans h2, (World.cell?_of_block (a := ⟨g, 3, none⟩) hh).trans h3⟩, h4, C_keep h5 (fun ad e => Below.heap_setCell w ⟨gx, k, none⟩ u ad.block (fun e2 => hA ad e e2))⟩
set_option maxHeartbeats 8000000 in
set_option maxRecDepth 100000 in
theorem walked0 (s t : ByteArray) (bl : Int) (mk : ByteArray) (sz : Int) (w : World) (hbl : -9223372036854775808 ≤ bl ∧ bl ≤ 9223372036854775807) (hsz : -9223372036854775808 ≤ sz ∧ sz ≤ 9223372036854775807) :
    Calls Try.prog 8 #[.string s, .string t, .int .i64 bl, .string mk, .int .i64 sz] w fun e w' => e = .returned (.bool true) ∧ Below w.heap.size w w' := by
  obtain ⟨r, hr, hr6, hr1⟩ := few_f [s, t]
  have hr2 := few_len [s, t] r (by simp) hr
  have hr2 : r.length = 2 := hr2
  have HFW : Aside0 (∀ wx, Kd.C Kd.string wx (some ⟨w.heap.size, 0, none⟩) 2 [s, t] → Calls Try.prog 19 #[.slice (some ⟨w.heap.size, 0, none⟩) 2 2] wx fun e w' => ∃ v0_, e = .returned v0_ ∧ Kd.R Kd.string 9 w' wx.heap.size (fun _ => True) v0_ r ∧ Below wx.heap.size wx w') := ⟨fun wx h => barquelaw07_few.calls 20 (some ⟨w.heap.size, 0, none⟩) 2 [s, t] r wx h (Nat.le_refl _) hr⟩
  have HAW := Aside0.mk (fun wx => barquelaw07_awake.calls 0 true wx (awake07 0))
  have HR1 := Aside0.mk hr1
  have HR2 := Aside0.mk hr2
  clear hr hr6 hr1 hr2
  go_enter Try.func8, Try.ntmps8
  go_upto_region 2 with (go_at_call 19; go_loud ((with_reducible refine (HFW.out _ (C_two w s t)).mono ?_); rintro _ wa ⟨vf, rfl, hrr, hbb⟩; have HRF := Aside0.mk hrr; have HBA := Aside0.mk (show Below w.heap.size w wa from below_step (below_alloc (Below.refl _ _) _) hbb); obtain ⟨Af, cf, hvf⟩ := Kd.R_slice hrr; subst hvf; clear hrr hbb))
  have HSC := Aside0.mk (same_calls mk sz hsz wa)
  go_cut [12, 13] (fun v12 v13 wz => ∃ (g : Nat) (A3 : Option Addr) (c3 : Nat) (r1 r2 : ByteArray) (r3 : Int) (r4 : List S54) (r5 : Int), v12 = .pointer (some ⟨g, 0, none⟩) ∧ v13 = .int .i64 r5 ∧ Aside0 (Dt wz g 0 1 2 3 r1 r2 r3 A3 c3 r4) ∧ Aside0 (SameR mk sz r1 r2 r3 r4 r5) ∧ Aside0 (Below wa.heap.size wa wz))
  case first =>
    go_wp2_with (go_at_call 23; go_loud ((with_reducible refine HSC.out.mono ?_); rintro _ wb ⟨r1, r2, r3, v3, r4, r5, rfl, hr, hbb, hsr⟩; have HRA := Aside0.mk hr; have HBA2 := Aside0.mk hbb; have HSR := Aside0.mk hsr; obtain ⟨A3, c3, hv3⟩ := Kd.R_slice hr; subst hv3; clear hr hbb hsr))
    go_meet
    case rel =>
      obtain ⟨_, k1, k2⟩ := Kd.R_reads' HRA.out
      exact ⟨wb.heap.size, A3, c3, r1, r2, r3, r4, r5, rfl, rfl, ⟨Dt.blk (blk_new wb _) k1 (Kd.C_below k2 (below_alloc (Below.refl _ _) _))⟩, HSR, ⟨below_step HBA2.out (below_alloc (Below.refl _ _) _)⟩⟩
  case rest =>
  obtain ⟨gd, Agd, cgd, r1, r2, r3, r4, r5, rfl, rfl, HZ, HANS, HBZ⟩ := hcut
  go_upto_region 3 with fail
  go_cut [57] (fun v57 wz => v57 = .bool false ∧ Aside0 (Below wc.heap.size wc wz))
  case first =>
    rcases HANS.out with ⟨hso, e1, e2, e3, e4, e5⟩ | ⟨hno, e1, e2, e3, e4, e5⟩
    · subst r1 r2 r3 r4 r5
      have HRG := Aside0.mk (delta_Right.calls 20 mk mk sz Agd cgd (sameL sz.toNat) true wc HZ.out.2.2 HZ.out.2.1 (same_right mk sz hso))
      obtain ⟨a1, a2, a3⟩ := hso
      obtain ⟨⟨x0, x1, x2, x3⟩, _, _⟩ := HZ.out
      have d1 : ((mk.size : Int) == 32) = true := beq_iff_eq.mpr (by omega)
      have d2 : decide (0 ≤ sz) = true := decide_eq_true a2
      have d3 : decide (sz ≤ 524288) = true := decide_eq_true a3
      go_wp2_with (go_at_call 24; go_loud ((with_reducible refine HRG.out.mono ?_); rintro _ wx ⟨rfl, hbb⟩; have HBX := Aside0.mk hbb; clear hbb))
      go_meet
      case rel => exact ⟨rfl, HBX⟩
    · subst r1 r2 r3 r4 r5
      by_cases b1 : mk.size = 32
      · have d1 : ((mk.size : Int) == 32) = true := beq_iff_eq.mpr (by omega)
        by_cases b2 : 0 ≤ sz
        · have d2 : decide (0 ≤ sz) = true := decide_eq_true b2
          have b3 : ¬ sz ≤ 524288 := fun h => hno ⟨b1, b2, h⟩
          have d3 : decide (sz ≤ 524288) = false := decide_eq_false b3
          go_wp2_with fail
          go_meet
          case rel => exact ⟨rfl, ⟨Below.refl _ _⟩⟩
        · have d2 : decide (0 ≤ sz) = false := decide_eq_false b2
          go_wp2_with fail
          go_meet
          case rel => exact ⟨rfl, ⟨Below.refl _ _⟩⟩
      · have d1 : ((mk.size : Int) == 32) = false := beq_eq_false_iff_ne.mpr (by omega)
        go_wp2_with fail
        go_meet
        case rel => exact ⟨rfl, ⟨Below.refl _ _⟩⟩
  case rest =>
  obtain ⟨rfl, HBY⟩ := hcut
  have HW := Aside0.mk (below_step HBA.out (below_step HBZ.out HBY.out))
  obtain ⟨q, cq, hvq, _, _, _⟩ := Kd.R_form HRF.out (by have := HR2.out; omega)
  injection hvq with hvq _ hvc
  subst hvq hvc
  obtain ⟨_, hcl, hCl⟩ := Kd.R_reads' HRF.out
  have HCL := Aside0.mk (Kd.C_below (Kd.C_below hCl HBZ.out) HBY.out)
  clear hcl hCl
  have hL : ∀ i, i < r.length → ∃ x, r[i]? = some x := fun i hi => ⟨_, List.getElem?_eq_getElem hi⟩
  obtain ⟨s0, hs0⟩ := hL 0 (by have := HR2.out; omega)
  obtain ⟨t0, ht0⟩ := hL 1 (by have := HR2.out; omega)
  have hz0 : s0.size ≤ 1000 := HR1.out _ (List.mem_of_getElem? hs0)
  have hzt : t0.size ≤ 1000 := HR1.out _ (List.mem_of_getElem? ht0)
  have hcell : ∀ (wx : World), Kd.C Kd.string wx (some ⟨q, 0, none⟩) r.length r → ∀ (i : Nat) x, r[i]? = some x → wx.cell? ⟨q, i, none⟩ = some (.string x) := fun wx hC i x hx => by
    obtain ⟨ad, hA, g⟩ := Kd.at_string hC (i : Int) (by omega) (by have := (List.getElem?_eq_some_iff.1 hx).1; omega)
    injection hA with hA
    subst hA
    rw [Int.toNat_natCast, Addr.add_lit, Nat.zero_add] at g
    unfold rdOf at g
    rw [Int.toNat_natCast, List.getD_eq_getElem?_getD, hx] at g
    exact g
  have b00 : 0 < r.length := by have := HR2.out; omega
  have b01 : 1 < r.length := by have := HR2.out; omega
  have b02 : (0 : Int) < (r.length : Int) := by omega
  have b03 : (1 : Int) < (r.length : Int) := by omega
  have HG0 := Aside0.mk (hcell _ HCL.out 0 s0 hs0)
  have HG1 := Aside0.mk (hcell _ HCL.out 1 t0 ht0)
  clear hL hs0 ht0 hcell
  go_upto_region 6 with (go_at_call 20; go_loud ((with_reducible refine (ideal_calls _).mono ?_); rintro _ wb ⟨b, M, rfl, hbk, hb1, hb2, hbb⟩; have HBKB := Aside0.mk hbk; have HBM := Aside0.mk (And.intro hb1 hb2); have HWB := Aside0.mk (below_step HW.out hbb); have g0 := cell_b HG0.out hbb; have g1 := cell_b HG1.out hbb; clear hbk hb1 hb2 hbb))
  have n0 := World.new_ne wb _ g0
  have hbw : w.heap.size ≤ wb.heap.size := HWB.out.size
  by_cases hblk : 16 ≤ bl ∧ bl ≤ 1024
  · obtain ⟨k2, k3⟩ := hblk
    obtain ⟨bn, rfl⟩ := Int.eq_ofNat_of_zero_le (by omega : 0 ≤ bl)
    have HNS : Aside0 (nB s0.size bn ≤ 1000) := ⟨by have := nB_le s0.size bn (by omega); omega⟩
    have HOF := Aside0.mk (fun wx (h : Bk wx b M []) => of_calls b M [] s0 t0 bn wx h (by have := HNS.out; rw [List.length_nil]; omega) (by omega) (by omega) (by omega) (by omega))
    go_cut [15, 16] (fun v15 v16 wz => ∃ (g : Nat) (A3 : Option Addr) (c3 : Nat) (st : List S54) (m0 m1 : ByteArray), v15 = .pointer (some ⟨g, 0, none⟩) ∧ v16 = .int .i64 0 ∧ Aside0 (Dt wz g 0 1 2 3 m0 m1 (t0.size : Nat) A3 c3 st) ∧ Aside0 (wz.heap[g]? = some (.cells #[.string m0, .string m1, .int .i64 (t0.size : Nat), .slice A3 st.length c3] 24 (0, 0))) ∧ Aside0 (wb.grownBy wz (some M)) ∧ Aside0 (m0.size = 32 ∧ m1.size = 32) ∧ Aside0 (Lay s0.size t0.size st) ∧ wb.heap.size ≤ g)
    case first =>
      go_region_held3 (fun w' => w'.cell? ⟨q, 0, none⟩ = some (.string s0) ∧ w'.cell? ⟨q, 1, none⟩ = some (.string t0)) (go_keep) (first | (go_at_call 25; ((with_reducible refine (HOF.out _ ?hbk).mono ?_); (case hbk => exact HBKB.out.below (by repeat (first | (with_reducible first | exact Below.refl _ _ | apply pw_below_drewN | apply below_drew1 | apply below_alloc) | exact Below.refl _ _))); rintro _ wa ⟨v, st, bk2, rfl, hr, hg, hbk, hx, hl2, hm1, hm2, hok, hrun⟩; have HRA := Aside0.mk hr; have HGA := Aside0.mk hg; have HBA := Aside0.mk hbk; have HOA := Aside0.mk (And.intro hok hrun); obtain ⟨A3, c3, hv3⟩ := Kd.R_slice hr; subst hv3; have e1 := cell_gbM (cell_bw g0 (by repeat (first | (with_reducible first | exact Below.refl _ _ | apply pw_below_drewN | apply below_drew1 | apply below_alloc) | exact Below.refl _ _))) (HBKB.out.below (by repeat (first | (with_reducible first | exact Below.refl _ _ | apply pw_below_drewN | apply below_drew1 | apply below_alloc) | exact Below.refl _ _))) hg; have e2 := cell_gbM (cell_bw g1 (by repeat (first | (with_reducible first | exact Below.refl _ _ | apply pw_below_drewN | apply below_drew1 | apply below_alloc) | exact Below.refl _ _))) (HBKB.out.below (by repeat (first | (with_reducible first | exact Below.refl _ _ | apply pw_below_drewN | apply below_drew1 | apply below_alloc) | exact Below.refl _ _))) hg; have nn2 := World.new_ne wa _ e1; (try (have hz := blk_gb hg (show ((wb.alloc (.cells #[.string ⟨#[]⟩, .string ⟨#[]⟩, .int .i64 0, .slice none 0 0] 24 (0, 0))).drew).heap[wb.heap.size]? = some (.cells #[.string ⟨#[]⟩, .string ⟨#[]⟩, .int .i64 0, .slice none 0 0] 24 (0, 0)) from blk_new wb _) (by have := HBKB.out.lt; omega); have HZA := Aside0.mk hz; obtain ⟨y0, y1, y2, y3⟩ := blk4 hz; obtain ⟨z0, z1, z2, z3⟩ := blk4f hz; clear hz)); clear hr hg hbk hx hl2 hm1 hm2 hok hrun)))
      all_goals
        have HGW : Aside0 (wb.grownBy wa (some M)) := ⟨gb_trans (gb_of (by repeat (first | (with_reducible first | exact Below.refl _ _ | apply pw_below_drewN | apply below_drew1 | apply below_alloc) | exact Below.refl _ _)) (some M)) HGA.out⟩
        have HLA : Aside0 (Lay s0.size t0.size st) := ⟨HOA.out.1, by
          have e := run_len (L8 s0) st (by rw [L8_len]; exact HOA.out.1)
          rw [HOA.out.2, L8_len] at e
          exact e.symm⟩
        obtain ⟨m0, hm0⟩ : ∃ m0, m0 = markV bk2 s0 := ⟨_, rfl⟩
        obtain ⟨m1, hm1⟩ : ∃ m1, m1 = markV bk2 t0 := ⟨_, rfl⟩
        have HMS : Aside0 (m0.size = 32 ∧ m1.size = 32) := ⟨by rw [hm0, hm1]; exact ⟨markV_size _ _, markV_size _ _⟩⟩
        rw [← hm0, ← hm1]
        clear hm0 hm1
        go_wp2_with fail
        go_meet
      case rel =>
        obtain ⟨_, k1, k2⟩ := Kd.R_reads' HRA.out
        exact ⟨wa.heap.size, A3, c3, st, m0, m1, rfl, rfl, ⟨Dt.blk (blk_new wa _) k1 (Kd.C_below k2 (below_alloc (Below.refl _ _) _))⟩, ⟨blk_new wa _⟩, ⟨gb_below HGW.out (below_alloc (Below.refl _ _) _)⟩, HMS, HLA, HGW.out.size⟩
      case rel =>
        have hoe : Oe wb wa b M bk2 (.slice A3 st.length c3) st := ⟨HGW.out, HBA.out, ⟨HBKB.out.ltb, HBKB.out.lt⟩, Kd.R_lower HRA.out (by show wb.heap.size + 1 ≤ _; simp)⟩
        have hof := (((hoe.set 0 (.string m0)).set 1 (.string m1)).set 2 (.int .i64 t0.size)).set 3 (.slice A3 st.length c3)
        obtain ⟨_, k1, k2⟩ := Kd.R_reads' hof.r
        have hbk : ((((wa.setCell ⟨wb.heap.size, 0, none⟩ (.string m0)).setCell ⟨wb.heap.size, 1, none⟩ (.string m1)).setCell ⟨wb.heap.size, 2, none⟩ (.int .i64 t0.size)).setCell ⟨wb.heap.size, 3, none⟩ (.slice A3 st.length c3)).heap[wb.heap.size]? = some (.cells #[.string m0, .string m1, .int .i64 t0.size, .slice A3 st.length c3] 24 (0, 0)) := by
          refine blk_put (cs := #[.string m0, .string m1, .int .i64 t0.size, .slice none 0 0]) ?_ 3 _ rfl
          refine blk_put (cs := #[.string m0, .string m1, .int .i64 0, .slice none 0 0]) ?_ 2 _ rfl
          refine blk_put (cs := #[.string m0, .string ⟨#[]⟩, .int .i64 0, .slice none 0 0]) ?_ 1 _ rfl
          exact blk_put (cs := #[.string ⟨#[]⟩, .string ⟨#[]⟩, .int .i64 0, .slice none 0 0]) HZA.out 0 _ rfl
        exact ⟨wb.heap.size, A3, c3, st, m0, m1, rfl, rfl, ⟨Dt.blk hbk k1 k2⟩, ⟨hbk⟩, ⟨hof.gb⟩, HMS, HLA, Nat.le_refl _⟩
    case rest =>
    obtain ⟨gx, Ax, cx, st, m0, m1, rfl, rfl, HX, HXB, HGX, HMS, HLA, hgx⟩ := hcut
    have HG0 := Aside0.mk (cell_gbM g0 HBKB.out HGX.out)
    have HG1 := Aside0.mk (cell_gbM g1 HBKB.out HGX.out)
    have HW := Aside0.mk (show Below w.heap.size w wc from below_gb (gb_trans (gb_of HWB.out (some M)) HGX.out) (Nat.le_trans HW.out.size HBM.out.2) (Nat.le_refl _))
    have hgw : w.heap.size ≤ gx := Nat.le_trans hbw hgx
    clear g0 g1 n0 k2 k3 hbw hgx
    have ef : ((0 : Int) != 0) = false := rfl
    -- Same {zn}
    go_upto_region 9 with fail
    have HSO := Aside0.mk (fun wx => same_ok_calls m0 s0.size HMS.out.1 hz0 wx)
    obtain ⟨⟨x0, x1, x2, x3⟩, _, _⟩ := HX.out
    have g0 := HG0.out
    have g1 := HG1.out
    have nx := World.new_ne wc _ x0
    have ny := World.new_ne wc _ g0
    go_cut [17, 18] (fun v6 v7 wz => ∃ (g : Nat) (A3 : Option Addr) (c3 : Nat), v6 = .pointer (some ⟨g, 0, none⟩) ∧ v7 = .int .i64 0 ∧ Aside0 (Dt wz g 0 1 2 3 m0 m0 (s0.size : Nat) A3 c3 (sameL s0.size)) ∧ Aside0 (Below wc.heap.size wc wz))
    case first =>
      go_region_held3 (fun w' => w'.cell? ⟨gx, 0, none⟩ = some (.string m0) ∧ w'.cell? ⟨q, 0, none⟩ = some (.string s0)) (go_keep) (first | (go_at_call 23; ((with_reducible refine (HSO.out _).mono ?_); rintro _ wa ⟨v3, rfl, hr, hbb⟩; have HRA := Aside0.mk hr; have HBA := Aside0.mk hbb; obtain ⟨A3, c3, hv3⟩ := Kd.R_slice hr; subst hv3; have e0 := cell_b (cell_b x0 (by repeat (first | (with_reducible first | exact Below.refl _ _ | apply pw_below_drewN | apply below_drew1 | apply below_alloc) | exact Below.refl _ _))) hbb; have e1 := cell_b (cell_b g0 (by repeat (first | (with_reducible first | exact Below.refl _ _ | apply pw_below_drewN | apply below_drew1 | apply below_alloc) | exact Below.refl _ _))) hbb; have nn2 := World.new_ne wa _ e0; have nn3 := World.new_ne wa _ e1; (try (have hz := blk_below (show ((wc.alloc (.cells #[.string ⟨#[]⟩, .string ⟨#[]⟩, .int .i64 0, .slice none 0 0] 24 (0, 0))).drew).heap[wc.heap.size]? = some (.cells #[.string ⟨#[]⟩, .string ⟨#[]⟩, .int .i64 0, .slice none 0 0] 24 (0, 0)) from blk_new wc _) hbb; have HZA := Aside0.mk hz; obtain ⟨z0, z1, z2, z3⟩ := blk4 hz; obtain ⟨zf0, zf1, zf2, zf3⟩ := blk4f hz; clear hz)); clear hr hbb)))
      all_goals
        have HWB2 : Aside0 (Below wc.heap.size wc wa) := ⟨below_step (by repeat (first | (with_reducible first | exact Below.refl _ _ | apply pw_below_drewN | apply below_drew1 | apply below_alloc) | exact Below.refl _ _)) HBA.out⟩
        go_wp2_with fail
        go_meet
      case rel =>
        obtain ⟨_, k1, k2⟩ := Kd.R_reads' HRA.out
        exact ⟨wa.heap.size, A3, c3, rfl, rfl, ⟨Dt.blk (blk_new wa _) k1 (Kd.C_below k2 (below_alloc (Below.refl _ _) _))⟩, ⟨below_step HWB2.out (below_alloc (Below.refl _ _) _)⟩⟩
      case rel =>
        have hob : Ob wc wa (.slice A3 (sameL s0.size).length c3) (sameL s0.size) := ⟨gb_of HWB2.out _, Kd.R_lower HRA.out (by show wc.heap.size + 1 ≤ _; simp)⟩
        obtain ⟨u1, u2⟩ := hob.four HZA.out m0 m0 (s0.size : Nat)
        exact ⟨wc.heap.size, A3, c3, rfl, rfl, ⟨u1⟩, ⟨u2⟩⟩
    case rest =>
    obtain ⟨gY, AY, cY, rfl, rfl, HY, HBY⟩ := hcut
    clear x0 x1 x2 x3 g0 g1 nx ny HSO
    have HX := Aside0.mk (HX.out.below HBY.out)
    have HG0 := Aside0.mk (cell_b HG0.out HBY.out)
    have HG1 := Aside0.mk (cell_b HG1.out HBY.out)
    have HXB := Aside0.mk (blk_below HXB.out HBY.out)
    have HW := Aside0.mk (below_step HW.out HBY.out)
    -- Same {zn}
    go_upto_region 10 with fail
    have HSO := Aside0.mk (fun wx => same_ok_calls m1 t0.size HMS.out.2 hzt wx)
    obtain ⟨⟨x0, x1, x2, x3⟩, _, _⟩ := HX.out
    have g0 := HG0.out
    have g1 := HG1.out
    have nx := World.new_ne wc _ x0
    have ny := World.new_ne wc _ g0
    go_cut [19, 20] (fun v6 v7 wz => ∃ (g : Nat) (A3 : Option Addr) (c3 : Nat), v6 = .pointer (some ⟨g, 0, none⟩) ∧ v7 = .int .i64 0 ∧ Aside0 (Dt wz g 0 1 2 3 m1 m1 (t0.size : Nat) A3 c3 (sameL t0.size)) ∧ Aside0 (Below wc.heap.size wc wz))
    case first =>
      go_region_held3 (fun w' => w'.cell? ⟨gx, 1, none⟩ = some (.string m1) ∧ w'.cell? ⟨q, 1, none⟩ = some (.string t0)) (go_keep) (first | (go_at_call 23; ((with_reducible refine (HSO.out _).mono ?_); rintro _ wa ⟨v3, rfl, hr, hbb⟩; have HRA := Aside0.mk hr; have HBA := Aside0.mk hbb; obtain ⟨A3, c3, hv3⟩ := Kd.R_slice hr; subst hv3; have e0 := cell_b (cell_b x1 (by repeat (first | (with_reducible first | exact Below.refl _ _ | apply pw_below_drewN | apply below_drew1 | apply below_alloc) | exact Below.refl _ _))) hbb; have e1 := cell_b (cell_b g1 (by repeat (first | (with_reducible first | exact Below.refl _ _ | apply pw_below_drewN | apply below_drew1 | apply below_alloc) | exact Below.refl _ _))) hbb; have nn2 := World.new_ne wa _ e0; have nn3 := World.new_ne wa _ e1; (try (have hz := blk_below (show ((wc.alloc (.cells #[.string ⟨#[]⟩, .string ⟨#[]⟩, .int .i64 0, .slice none 0 0] 24 (0, 0))).drew).heap[wc.heap.size]? = some (.cells #[.string ⟨#[]⟩, .string ⟨#[]⟩, .int .i64 0, .slice none 0 0] 24 (0, 0)) from blk_new wc _) hbb; have HZA := Aside0.mk hz; obtain ⟨z0, z1, z2, z3⟩ := blk4 hz; obtain ⟨zf0, zf1, zf2, zf3⟩ := blk4f hz; clear hz)); clear hr hbb)))
      all_goals
        have HWB2 : Aside0 (Below wc.heap.size wc wa) := ⟨below_step (by repeat (first | (with_reducible first | exact Below.refl _ _ | apply pw_below_drewN | apply below_drew1 | apply below_alloc) | exact Below.refl _ _)) HBA.out⟩
        go_wp2_with fail
        go_meet
      case rel =>
        obtain ⟨_, k1, k2⟩ := Kd.R_reads' HRA.out
        exact ⟨wa.heap.size, A3, c3, rfl, rfl, ⟨Dt.blk (blk_new wa _) k1 (Kd.C_below k2 (below_alloc (Below.refl _ _) _))⟩, ⟨below_step HWB2.out (below_alloc (Below.refl _ _) _)⟩⟩
      case rel =>
        have hob : Ob wc wa (.slice A3 (sameL t0.size).length c3) (sameL t0.size) := ⟨gb_of HWB2.out _, Kd.R_lower HRA.out (by show wc.heap.size + 1 ≤ _; simp)⟩
        obtain ⟨u1, u2⟩ := hob.four HZA.out m1 m1 (t0.size : Nat)
        exact ⟨wc.heap.size, A3, c3, rfl, rfl, ⟨u1⟩, ⟨u2⟩⟩
    case rest =>
    obtain ⟨gQ, AQ, cQ, rfl, rfl, HQ, HBQ⟩ := hcut
    clear x0 x1 x2 x3 g0 g1 nx ny HSO
    have HX := Aside0.mk (HX.out.below HBQ.out)
    have HY := Aside0.mk (HY.out.below HBQ.out)
    have HG0 := Aside0.mk (cell_b HG0.out HBQ.out)
    have HG1 := Aside0.mk (cell_b HG1.out HBQ.out)
    have HXB := Aside0.mk (blk_below HXB.out HBQ.out)
    have HW := Aside0.mk (below_step HW.out HBQ.out)
    have hst : st.length ≤ 1000 := by
      have e0 := len_le_sum st (fun y hy => (stepOk_len (HLA.out.all y hy)).1)
      have e1 := HLA.out.2
      omega
    have hby : (bytesV st).length = t0.size := HLA.out.len
    obtain ⟨fin, hfin⟩ : ∃ fin, fin = stepsV (bytesV st) := ⟨_, rfl⟩
    have F1 := lay_compK 3000000 (by omega) (by omega) (by omega) (by omega) (same_lay (n := s0.size) (by omega)) HLA.out HMS.out.1 HMS.out.1 HMS.out.2
    have F2 := lay_compK 3000000 (by omega) (by omega) (by omega) (by omega) HLA.out (same_lay (n := t0.size) (by omega)) HMS.out.1 HMS.out.2 HMS.out.2
    have hss := sames (by omega) (by omega) HLA.out
    rw [hss.1, ← hfin] at F1
    rw [hss.2, ← hfin] at F2
    have HF1 := Aside0.mk F1
    have HF2 := Aside0.mk F2
    have HBF := Aside0.mk (bytes_f st (by omega) (fun x hx => by
      have h1 := HLA.out.all x hx
      unfold stepOk at h1
      split at h1 <;> omega) 10000000 (by omega) (by omega))
    have HSF := Aside0.mk (steps_f (bytesV st) (by omega) 10000000 (by omega))
    rw [← hfin] at HSF
    have HSA : Aside0 (barqueref06_Same.f 3000000 m0 m1 (t0.size : Nat) fin m0 m1 (t0.size : Nat) fin = some true) := ⟨by
      obtain ⟨c1, _⟩ := lay_compL (by omega) (by omega) (by omega) (same_lay (n := s0.size) (by omega)) HLA.out
      rw [hss.1, ← hfin] at c1
      have e0 := len_le_sum fin (fun y hy => (stepOk_len (c1.all y hy)).1)
      have e1 := c1.2
      exact same_all 3000000 _ _ _ _ (by omega) (by omega)⟩
    clear F1 F2 hss hfin hby hst
    go_upto_region 11 with fail
    obtain ⟨⟨x0, x1, x2, x3⟩, xl, xc⟩ := HY.out
    obtain ⟨⟨y0, y1, y2, y3⟩, yl, yc⟩ := HX.out
    have HCO := Aside0.mk (chain_Compose.calls 3000000 m0 m0 (s0.size : Nat) AY cY (sameL s0.size) m0 m1 (t0.size : Nat) Ax cx st m0 m1 (t0.size : Nat) fin 0 wc xc xl yc yl HF1.out)
    clear xl xc yl yc
    go_cut [21, 22] (fun v6 v7 wz => ∃ (g : Nat) (A3 : Option Addr) (c3 : Nat), v6 = .pointer (some ⟨g, 0, none⟩) ∧ v7 = .int .i64 0 ∧ Aside0 (Dt wz g 0 1 2 3 m0 m1 (t0.size : Nat) A3 c3 fin) ∧ Aside0 (Below wc.heap.size wc wz) ∧ Aside0 (wc.heap.size ≤ g ∧ ∀ ad, A3 = some ad → wc.heap.size ≤ ad.block))
    case first =>
      go_wp2_with (go_at_call 12; go_loud ((with_reducible refine HCO.out.mono ?_); rintro _ wa ⟨v3, rfl, hr, hbb⟩; have HRA := Aside0.mk hr; have HBA2 := Aside0.mk hbb; obtain ⟨A3, c3, hv3⟩ := Kd.R_slice hr; subst hv3; clear hr hbb))
      go_meet
      case rel =>
        obtain ⟨_, k1, k2⟩ := Kd.R_reads' HRA.out
        exact ⟨wa.heap.size, A3, c3, rfl, rfl, ⟨Dt.blk (blk_new wa _) k1 (Kd.C_below k2 (below_alloc (Below.refl _ _) _))⟩, ⟨below_step HBA2.out (below_alloc (Below.refl _ _) _)⟩, ⟨HBA2.out.size, fun ad e => Kd.R_base HRA.out ad.block (by rw [e]; rfl)⟩⟩
    case rest =>
    obtain ⟨gU, AU, cU, rfl, rfl, HU, HBU, HOU⟩ := hcut
    have HNU : Aside0 (gU ≠ gx ∧ ∀ ad, AU = some ad → ad.block ≠ gx) := ⟨by
      have h1 := blk_lt HXB.out
      exact ⟨by have := HOU.out.1; omega, fun ad e => by have := HOU.out.2 ad e; omega⟩⟩
    clear x0 x1 x2 x3 y0 y1 y2 y3 HCO HOU
    have HX := Aside0.mk (HX.out.below HBU.out)
    have HY := Aside0.mk (HY.out.below HBU.out)
    have HQ := Aside0.mk (HQ.out.below HBU.out)
    have HG0 := Aside0.mk (cell_b HG0.out HBU.out)
    have HG1 := Aside0.mk (cell_b HG1.out HBU.out)
    have HXB := Aside0.mk (blk_below HXB.out HBU.out)
    have HW := Aside0.mk (below_step HW.out HBU.out)
    go_upto_region 12 with fail
    obtain ⟨⟨x0, x1, x2, x3⟩, xl, xc⟩ := HX.out
    obtain ⟨⟨y0, y1, y2, y3⟩, yl, yc⟩ := HQ.out
    have HCO := Aside0.mk (chain_Compose.calls 3000000 m0 m1 (t0.size : Nat) Ax cx st m1 m1 (t0.size : Nat) AQ cQ (sameL t0.size) m0 m1 (t0.size : Nat) fin 0 wc xc xl yc yl HF2.out)
    clear xl xc yl yc
    go_cut [23, 24] (fun v6 v7 wz => ∃ (g : Nat) (A3 : Option Addr) (c3 : Nat), v6 = .pointer (some ⟨g, 0, none⟩) ∧ v7 = .int .i64 0 ∧ Aside0 (Dt wz g 0 1 2 3 m0 m1 (t0.size : Nat) A3 c3 fin) ∧ Aside0 (Below wc.heap.size wc wz) ∧ Aside0 (wc.heap.size ≤ g ∧ ∀ ad, A3 = some ad → wc.heap.size ≤ ad.block))
    case first =>
      go_wp2_with (go_at_call 12; go_loud ((with_reducible refine HCO.out.mono ?_); rintro _ wa ⟨v3, rfl, hr, hbb⟩; have HRA := Aside0.mk hr; have HBA2 := Aside0.mk hbb; obtain ⟨A3, c3, hv3⟩ := Kd.R_slice hr; subst hv3; clear hr hbb))
      go_meet
      case rel =>
        obtain ⟨_, k1, k2⟩ := Kd.R_reads' HRA.out
        exact ⟨wa.heap.size, A3, c3, rfl, rfl, ⟨Dt.blk (blk_new wa _) k1 (Kd.C_below k2 (below_alloc (Below.refl _ _) _))⟩, ⟨below_step HBA2.out (below_alloc (Below.refl _ _) _)⟩, ⟨HBA2.out.size, fun ad e => Kd.R_base HRA.out ad.block (by rw [e]; rfl)⟩⟩
    case rest =>
    obtain ⟨gV, AV, cV, rfl, rfl, HV, HBV, HOV⟩ := hcut
    have HNV : Aside0 (gV ≠ gx ∧ ∀ ad, AV = some ad → ad.block ≠ gx) := ⟨by
      have h1 := blk_lt HXB.out
      exact ⟨by have := HOV.out.1; omega, fun ad e => by have := HOV.out.2 ad e; omega⟩⟩
    clear x0 x1 x2 x3 y0 y1 y2 y3 HCO HOV
    have HX := Aside0.mk (HX.out.below HBV.out)
    have HY := Aside0.mk (HY.out.below HBV.out)
    have HQ := Aside0.mk (HQ.out.below HBV.out)
    have HU := Aside0.mk (HU.out.below HBV.out)
    have HG0 := Aside0.mk (cell_b HG0.out HBV.out)
    have HG1 := Aside0.mk (cell_b HG1.out HBV.out)
    have HXB := Aside0.mk (blk_below HXB.out HBV.out)
    have HW := Aside0.mk (below_step HW.out HBV.out)
    go_upto_region 13 with fail
    obtain ⟨⟨x0, x1, x2, x3⟩, xl, xc⟩ := HX.out
    have HBB1 := Aside0.mk (barqueref07_Bytes.calls 10000000 Ax cx st (bytesV st) wc xc xl HBF.out)
    clear xl xc
    go_upto_region 14 with (first | (go_at_call 27; go_loud ((with_reducible refine HBB1.out.mono ?_); rintro _ wd ⟨vb, rfl, hr, hbb⟩; obtain ⟨Ab, cb, hvb⟩ := Kd.R_slice hr; subst hvb; have HRB := Aside0.mk hr; have HBD := Aside0.mk hbb; clear hr hbb)) | (go_at_call 26; go_loud ((with_reducible refine (barqueref07_Steps.calls 10000000 Ab cb (bytesV st) fin wd (Kd.R_reads' HRB.out).2.2 (Kd.R_reads' HRB.out).2.1 HSF.out).mono ?_); rintro _ we ⟨vs, rfl, hr, hbb⟩; obtain ⟨As, cs, hvs⟩ := Kd.R_slice hr; subst hvs; have HRS := Aside0.mk hr; have HBE := Aside0.mk hbb; have HXE := Aside0.mk (blk_below (blk_below HXB.out HBD.out) hbb); clear hr hbb x0 x1 x2 x3; obtain ⟨x0, x1, x2, x3⟩ := blk4 HXE.out; obtain ⟨f0, f1, f2, f3⟩ := blk4f HXE.out)))
    obtain ⟨wf, hwf⟩ : ∃ wf, wf = we.setCell ⟨gx, 3, none⟩ (.slice As fin.length cs) := ⟨_, rfl⟩
    rw [← hwf]
    have hgx : gx < wc.heap.size := blk_lt HXB.out
    have hgd : wc.heap.size ≤ wd.heap.size := HBD.out.size
    have HXF : Aside0 (Dt wf gx 0 1 2 3 m0 m1 (t0.size : Nat) As cs fin) := ⟨by
      rw [hwf]
      obtain ⟨_, k1, k2⟩ := Kd.R_reads' HRS.out
      exact Dt.blk (blk_put (cs := #[.string m0, .string m1, .int .i64 (t0.size : Nat), .slice Ax st.length cx]) HXE.out 3 _ rfl) k1 (C_keep k2 (fun ad e => Below.heap_setCell we ⟨gx, 3, none⟩ _ ad.block (fun e2 => by
        have h1 := Kd.R_base HRS.out ad.block (by rw [e]; rfl)
        have h2 : ad.block = gx := e2
        omega)))⟩
    have HUF : Aside0 (Dt wf gU 0 1 2 3 m0 m1 (t0.size : Nat) AU cU fin) := ⟨by rw [hwf]; exact Dt.keep ((HU.out.below HBD.out).below HBE.out) HNU.out.1 HNU.out.2⟩
    have HVF : Aside0 (Dt wf gV 0 1 2 3 m0 m1 (t0.size : Nat) AV cV fin) := ⟨by rw [hwf]; exact Dt.keep ((HV.out.below HBD.out).below HBE.out) HNV.out.1 HNV.out.2⟩
    have HWF : Aside0 (Below w.heap.size w wf) := ⟨by rw [hwf]; exact (below_step (below_step HW.out HBD.out) HBE.out).setCell (p := ⟨gx, 3, none⟩) hgw _⟩
    clear hwf x0 x1 x2 x3 f0 f1 f2 f3 hgx hgd
    obtain ⟨⟨x0, x1, x2, x3⟩, xl, xc⟩ := HXF.out
    obtain ⟨⟨u0, u1, u2, u3⟩, ul, uc⟩ := HUF.out
    obtain ⟨⟨v0, v1, v2, v3⟩, vl, vc⟩ := HVF.out
    have HS1 := Aside0.mk (barqueref06_Same.calls 3000000 m0 m1 (t0.size : Nat) AU cU fin m0 m1 (t0.size : Nat) As cs fin true wf uc ul xc xl HSA.out)
    have HS2 := Aside0.mk (fun wx (hb : Below wf.heap.size wf wx) => barqueref06_Same.calls 3000000 m0 m1 (t0.size : Nat) AV cV fin m0 m1 (t0.size : Nat) As cs fin true wx (Kd.C_below vc hb) vl (Kd.C_below xc hb) xl HSA.out)
    clear xl xc ul uc vl vc
    go_wp2_with (first | (go_at_call 14; go_loud (first | ((with_reducible refine HS1.out.mono ?_); rintro _ wg ⟨rfl, hbb⟩; have HBG := Aside0.mk hbb; have x0' := cell_b x0 hbb; have x1' := cell_b x1 hbb; have x2' := cell_b x2 hbb; have x3' := cell_b x3 hbb; have v0' := cell_b v0 hbb; have v1' := cell_b v1 hbb; have v2' := cell_b v2 hbb; have v3' := cell_b v3 hbb; clear hbb) | ((with_reducible refine (HS2.out _ HBG.out).mono ?_); rintro _ wh ⟨rfl, hbb⟩; have HBH := Aside0.mk (below_step (below_step HWF.out HBG.out) hbb); clear hbb))) | (go_at_call 11; go_loud ((with_reducible refine (HAW.out _).mono ?_); rintro _ wy ⟨rfl, hbb⟩; have HBYY := Aside0.mk (below_step HBH.out hbb); clear hbb)))
    go_ret
    exact ⟨rfl, HBYY.out⟩
  · have hbad : bl < 16 ∨ 1024 < bl := by omega
    have HOF := Aside0.mk (fun wx => of_bad (.pointer (some ⟨b, 0, none⟩)) s0 t0 bl wx hbad)
    clear hblk
    go_cut [15, 16] (fun v15 v16 wz => ∃ (g : Nat), v15 = .pointer (some ⟨g, 0, none⟩) ∧ v16 = .int .i64 1 ∧ Aside0 (Below wb.heap.size wb wz))
    case first =>
      go_region_held3 (fun w' => w'.cell? ⟨q, 0, none⟩ = some (.string s0) ∧ w'.cell? ⟨q, 1, none⟩ = some (.string t0)) (go_keep) (first | (go_at_call 25; ((with_reducible refine (HOF.out _).mono ?_); rintro _ wa ⟨rfl, hbb⟩; have HBA := Aside0.mk hbb; have e1 := cell_b (cell_b g0 (by repeat (first | (with_reducible first | exact Below.refl _ _ | apply pw_below_drewN | apply below_drew1 | apply below_alloc) | exact Below.refl _ _))) hbb; have e2 := cell_b (cell_b g1 (by repeat (first | (with_reducible first | exact Below.refl _ _ | apply pw_below_drewN | apply below_drew1 | apply below_alloc) | exact Below.refl _ _))) hbb; have nn2 := World.new_ne wa _ e1; (try (have hz := blk_below (show ((wb.alloc (.cells #[.string ⟨#[]⟩, .string ⟨#[]⟩, .int .i64 0, .slice none 0 0] 24 (0, 0))).drew).heap[wb.heap.size]? = some (.cells #[.string ⟨#[]⟩, .string ⟨#[]⟩, .int .i64 0, .slice none 0 0] 24 (0, 0)) from blk_new wb _) hbb; have HZA := Aside0.mk hz; obtain ⟨y0, y1, y2, y3⟩ := blk4 hz; obtain ⟨z0, z1, z2, z3⟩ := blk4f hz; clear hz)); clear hbb)))
      all_goals
        have HGW : Aside0 (Below wb.heap.size wb wa) := ⟨below_step (by repeat (first | (with_reducible first | exact Below.refl _ _ | apply pw_below_drewN | apply below_drew1 | apply below_alloc) | exact Below.refl _ _)) HBA.out⟩
        go_wp2_with fail
        go_meet
      case rel =>
        exact ⟨wa.heap.size, rfl, rfl, ⟨below_step HGW.out (below_alloc (Below.refl _ _) _)⟩⟩
      case rel =>
        exact ⟨wb.heap.size, rfl, rfl, ⟨(((HGW.out.setCell (p := ⟨wb.heap.size, 0, none⟩) (Nat.le_refl _) _).setCell (p := ⟨wb.heap.size, 1, none⟩) (Nat.le_refl _) _).setCell (p := ⟨wb.heap.size, 2, none⟩) (Nat.le_refl _) _).setCell (p := ⟨wb.heap.size, 3, none⟩) (Nat.le_refl _) _⟩⟩
    case rest =>
    obtain ⟨gx, rfl, rfl, HBX⟩ := hcut
    have HWX := Aside0.mk (below_step HWB.out HBX.out)
    go_wp2_with (go_at_call 11; go_loud ((with_reducible refine (HAW.out _).mono ?_); rintro _ wx ⟨rfl, hbb⟩; have HBQ := Aside0.mk (below_step HWX.out hbb); clear hbb))
    go_ret
    exact ⟨rfl, HBQ.out⟩
theorem walked (a0 : ByteArray) (a1 : ByteArray) (a2 : Int) (a3 : ByteArray) (a4 : Int) (W : World) (w0 : a0.size ≤ maxLen) (w1 : a1.size ≤ maxLen) (w2 : (Lit.int .i64 a2).wf = true) (w3 : a3.size ≤ maxLen) (w4 : (Lit.int .i64 a4).wf = true) :
    Calls Try.prog 8 #[.string a0, .string a1, .int .i64 a2, .string a3, .int .i64 a4] W fun e w' => e = .returned (.bool true) ∧ Below W.heap.size W w' :=
  walked0 a0 a1 a2 a3 a4 W (bounds_i64 w2) (bounds_i64 w4)
end Go.Proofs.Ytjgelmfkoefclaa.chainSames

-- from YtjgelmfkoefclaaLawChainSames
/- The law ChainSames of the given program: every call of it answers true, and what it was handed reads behind the call as it did before. No condition. (The row, out of the walk; laid by wip/tools/rows.py.) -/
namespace Go.Proofs.Ytjgelmfkoefclaa.chainSames
open Go.ChangeShapes Go.WideShapes Go.ChangeAt Go.RowKit
open Go.ChangeMaps (open_string shut_string)
open Go.Proofs.YtjgelmfkoefclaaW.PrintWords
open Go.Proofs.YtjgelmfkoefclaaW.PrintLast
open Go.Proofs.YtjgelmfkoefclaaW.PrintMore
open Go.Proofs.Ytjgelmfkoefclaa.PAll
open Go.Proofs.Ytjgelmfkoefclaa
set_option linter.unusedVariables false
set_option linter.unusedSimpArgs false
theorem own : ownKnob Try.prog.godebug = none := by kernel_rfl
theorem laidOut : laidOutB Try.prog = true := by kernel_rfl
set_option maxRecDepth 100000 in
set_option maxHeartbeats 1000000 in
theorem lifted (os : Os) (started : os.Started) (H : Type) (enc : TypeId × Value → H) :
    ReturnsInHanded {} Try.checked os 8 .any (Rows.chainSamesSpec.pre6 enc Try.prog Try.f8 Rows.chainSamesRow.domain false) (Rows.chainSamesSpec.post enc Try.prog Try.f8 false true false false) := by
  refine returnsInHanded_of_change_sized (C := Try.checked) own started (by kernel_rfl) Try.func8
    (ChangeSpec.witness6 (enc := enc) (C := Try.checked) false ⟨#[], #[.string ByteArray.empty, .string ByteArray.empty, .int .i64 0, .string ByteArray.empty, .int .i64 0], []⟩ 8 (by kernel_rfl) (by kernel_rfl) (by kernel_rfl) (by kernel_rfl)) ?_
  intro W base args ds gs before hval0 hW hcnd hsz0 _
  have hsz : (DataW.weightsEach Try.prog (Try.f8.params.toList ++ Rows.chainSamesSpec.plain.varTypes Try.prog) (ds ++ gs)).all (· ≤ reachBytes) = true := hsz0
  have hval : ∀ (j : Nat) t v, Try.f8.params[j]? = some t → args[j]? = some v → Value.okWide Try.prog W .any base t v := hval0
  have hW' := hW
  obtain ⟨p, q, hA0, hV, rfl, hfz, hnd⟩ := hW
  have hA : DataW.TrodAll enc Try.prog W 0 (fun _ => true) true Try.f8.params.toList args.toList ds p := hA0
  rw [Try.params8] at hA hval hsz
  obtain ⟨v0, vs0, d0, ds0, p0, q0, hargs, rfl, rfl, h0, r0⟩ := trodAll_cons hA
  obtain ⟨v1, vs1, d1, ds1, p1, q1, rfl, rfl, rfl, h1, r1⟩ := trodAll_cons r0
  obtain ⟨v2, vs2, d2, ds2, p2, q2, rfl, rfl, rfl, h2, r2⟩ := trodAll_cons r1
  obtain ⟨v3, vs3, d3, ds3, p3, q3, rfl, rfl, rfl, h3, r3⟩ := trodAll_cons r2
  obtain ⟨v4, vs4, d4, ds4, p4, q4, rfl, rfl, rfl, h4, r4⟩ := trodAll_cons r3
  obtain ⟨rfl, rfl, rfl⟩ := trodAll_nil r4
  obtain rfl : args = #[v0, v1, v2, v3, v4] := by cases args; simp_all
  obtain ⟨rfl, rfl⟩ := trodVars_none hV
  obtain ⟨a0, rfl, rfl, rfl, w0⟩ := open_string Try.underlying9 (hval 0 9 v0 rfl rfl) h0
  obtain ⟨a1, rfl, rfl, rfl, w1⟩ := open_string Try.underlying9 (hval 1 9 v1 rfl rfl) h1
  obtain ⟨a2, rfl, rfl, rfl, w2⟩ := open_int Try.underlying3 (hval 2 3 v2 rfl rfl) h2
  obtain ⟨a3, rfl, rfl, rfl, w3⟩ := open_string Try.underlying9 (hval 3 9 v3 rfl rfl) h3
  obtain ⟨a4, rfl, rfl, rfl, w4⟩ := open_int Try.underlying3 (hval 4 3 v4 rfl rfl) h4
  clear hA0 hval0 hsz0 hsz
  refine (walked a0 a1 a2 a3 a4 W w0 w1 w2 w3 w4).mono fun e W' ⟨he, bel⟩ => ?_
  subst he
  exact ⟨_, rfl, _, _, _, [], _, [], hW', trodAll_mk1 (shut_bool Try.underlying4 _), (trodAll_cons_mk (shut_string Try.underlying9 w0) (trodAll_cons_mk (shut_string Try.underlying9 w1) (trodAll_cons_mk (shut_int Try.underlying3 w2) (trodAll_cons_mk (shut_string Try.underlying9 w3) (trodAll_cons_mk (shut_int Try.underlying3 w4) trodAll_mk0))))), rfl, bel.frame _, fun h => by cases h⟩
theorem over : Rows.chainSamesRow.holds Try.pinned (OpenSpec.ofChange Rows.chainSamesSpec) :=
  OpenClaim.holds_of_wide 8 Try.f8 rfl rfl rfl rfl rfl rfl rfl ⟨rfl, rfl, rfl, rfl, rfl⟩ rfl rfl rfl rfl rfl (by kernel_rfl) Try.func8 (by kernel_rfl)
    (of_decide_eq_true (by kernel_rfl)) (by unfold Func.isWrapper; first | (rw [if_pos (by decide +kernel)]; kernel_rfl) | (rw [if_neg (by decide +kernel)]; exact ⟨rfl, rfl⟩))
    (fun os started H enc _ => lifted os started H enc)
theorem proved : Rows.ChainSamesSaid := over
#print axioms proved
end Go.Proofs.Ytjgelmfkoefclaa.chainSames
namespace Go.Proofs.Ytjgelmfkoefclaa
/-- The row, under a short name, for the claim. -/
theorem chainSames_holds : Rows.ChainSamesSaid := chainSames.proved
end Go.Proofs.Ytjgelmfkoefclaa

