/- Steps and bytes: a tidy text of steps is what its bytes make. -/
import Derived.Test.YtjgelmfkoefclaaGivFlush
namespace Go.Proofs.Ytjgelmfkoefclaa.Pure
open Go.RowKit Go.Proofs.YtjgelmfkoefclaaW.PrintWords Go.Proofs.YtjgelmfkoefclaaW.PrintLast Go.Proofs.YtjgelmfkoefclaaW.PrintMore Go.Proofs.Ytjgelmfkoefclaa.PAll
set_option linter.unusedVariables false
set_option linter.unusedSimpArgs false

def in64 (n : Int) : Prop := -9223372036854775808 ≤ n ∧ n ≤ 9223372036854775807
theorem wrap_in {n : Int} (h : in64 n) : wrap64 n = n := by unfold in64 at h; unfold wrap64; omega
theorem wrap_add (a b : Int) : wrap64 (a + wrap64 b) = wrap64 (a + b) := by unfold wrap64; omega
theorem wrap_addl (a b : Int) : wrap64 (wrap64 a + b) = wrap64 (a + b) := by unfold wrap64; omega

def told (s : ByteArray) : List S59 := (List.range s.size).map (fun i => ⟨true, 0, bt s (i : Nat)⟩)
def froms (p : Int) (n : Nat) : List S59 := (List.range n).map (fun k => ⟨false, wrap64 (p + (k : Nat)), 0⟩)
def bytes1 (x : S54) : List S59 := if x.f2.size ≠ 0 then told x.f2 else froms x.f0 x.f1.toNat
def bytesV (l : List S54) : List S59 := l.flatMap bytes1

def stepS (st : ByteArray × List S54) (b : S59) : ByteArray × List S54 :=
  if b.f0 then (st.1 ++ strOfNums [b.f2], st.2) else (⟨#[]⟩, tidyCopy (st.2 ++ flushN st.1.size st.1) ⟨b.f1, 1, ⟨#[]⟩⟩)
def stepsF (bs : List S59) : ByteArray × List S54 := bs.foldl stepS (⟨#[]⟩, [])
def stepsV (bs : List S59) : List S54 := (stepsF bs).2 ++ flushN (stepsF bs).1.size (stepsF bs).1

theorem rd68_last (o : List S54) (y : S54) : rd_T54 (o ++ [y]) (((o ++ [y]).length - 1 : Nat) : Int) = y := by
  unfold rd_T54
  rw [Int.toNat_natCast]
  simp
theorem set_last (o : List S54) (y z : S54) : (o ++ [y]).set ((o ++ [y]).length - 1) z = o ++ [z] := by
  simp
theorem copy_nil (x : S54) : tidyCopy [] x = [⟨x.f0, x.f1, ⟨#[]⟩⟩] := by simp [tidyCopy]
theorem copy_merge (o : List S54) (y x : S54) (h2 : y.f2.size = 0) (hp : wrap64 (y.f0 + y.f1) = x.f0) : tidyCopy (o ++ [y]) x = o ++ [⟨y.f0, wrap64 (y.f1 + x.f1), y.f2⟩] := by
  unfold tidyCopy
  rw [rd68_last, if_pos ⟨by simp, h2, hp⟩, set_last]
theorem copy_new (o : List S54) (y x : S54) (h : ¬ (y.f2.size = 0 ∧ wrap64 (y.f0 + y.f1) = x.f0)) : tidyCopy (o ++ [y]) x = o ++ [y] ++ [⟨x.f0, x.f1, ⟨#[]⟩⟩] := by
  unfold tidyCopy
  rw [rd68_last, if_neg (fun hh => h hh.2)]
theorem list_last {α : Type} (o : List α) : o = [] ∨ ∃ o' y, o = o' ++ [y] := by
  cases h : o.reverse with
  | nil => exact .inl (List.reverse_eq_nil_iff.mp h)
  | cons y t => exact .inr ⟨t.reverse, y, by rw [← List.reverse_reverse o, h, List.reverse_cons]⟩
theorem copy_copy (o : List S54) (p a b : Int) (s t u : ByteArray) : tidyCopy (tidyCopy o ⟨p, a, s⟩) ⟨wrap64 (p + a), b, t⟩ = tidyCopy o ⟨p, wrap64 (a + b), u⟩ := by
  have e0 : (⟨#[]⟩ : ByteArray).size = 0 := rfl
  rcases list_last o with rfl | ⟨o, y, rfl⟩
  · rw [copy_nil, copy_nil]
    exact copy_merge [] ⟨p, a, ⟨#[]⟩⟩ ⟨wrap64 (p + a), b, t⟩ e0 rfl
  · by_cases h : y.f2.size = 0 ∧ wrap64 (y.f0 + y.f1) = p
    · rw [copy_merge _ _ _ h.1 h.2, copy_merge _ _ _ h.1 h.2, copy_merge]
      · simp only [wrap_addl, wrap_add, Int.add_assoc]
      · exact h.1
      · show wrap64 (y.f0 + wrap64 (y.f1 + a)) = wrap64 (p + a)
        rw [← h.2, wrap_add, wrap_addl, Int.add_assoc]
    · rw [copy_new o y ⟨p, a, s⟩ h, copy_new o y ⟨p, wrap64 (a + b), u⟩ h]
      exact copy_merge (o ++ [y]) ⟨p, a, ⟨#[]⟩⟩ ⟨wrap64 (p + a), b, t⟩ e0 rfl

theorem told_one (s : ByteArray) (m : Nat) (hm : m < s.size) : s.extract 0 m ++ strOfNums [bt s (m : Nat)] = s.extract 0 (m + 1) := by
  have e : bt s (m : Nat) = ((s[m]'hm).toNat : Int) := by
    unfold bt
    rw [dif_pos (by rw [Int.toNat_natCast]; exact hm)]
    simp only [Int.toNat_natCast]
  rw [e]
  unfold strOfNums
  apply ByteArray.ext
  rw [ByteArray.data_append, ByteArray.data_extract, ByteArray.data_extract]
  apply Array.toList_inj.mp
  simp only [List.map_cons, List.map_nil, Int.toNat_natCast, UInt8.ofNat_toNat, Array.toList_append, Array.toList_extract, List.extract_eq_take_drop, List.drop_zero, Nat.sub_zero]
  rw [List.take_add_one]
  congr 1
  have hm' : m < s.data.size := hm
  rw [List.getElem?_eq_getElem (by rw [Array.length_toList]; exact hm')]
  rfl
theorem told_fold (s : ByteArray) (m : Nat) (hm : m ≤ s.size) (h : ByteArray) (o : List S54) : ((List.range m).map (fun i => (⟨true, 0, bt s (i : Nat)⟩ : S59))).foldl stepS (h, o) = (h ++ s.extract 0 m, o) := by
  induction m with
  | zero => simp
  | succ m ih =>
    rw [List.range_succ, List.map_append, List.foldl_append, ih (by omega)]
    show (h ++ s.extract 0 m ++ strOfNums [bt s (m : Nat)], o) = _
    rw [ByteArray.append_assoc, told_one s m (by omega)]
theorem froms_fold (p : Int) (hp : in64 p) (m : Nat) (hm : m ≤ 9223372036854775806) (h : ByteArray) (o : List S54) : (froms p (m + 1)).foldl stepS (h, o) = (⟨#[]⟩, tidyCopy (o ++ flushN h.size h) ⟨p, (m + 1 : Nat), ⟨#[]⟩⟩) := by
  induction m with
  | zero =>
    show stepS (h, o) ⟨false, wrap64 (p + (0 : Nat)), 0⟩ = _
    rw [show wrap64 (p + (0 : Nat)) = p from by rw [show p + ((0 : Nat) : Int) = p from by omega]; exact wrap_in hp]
    rfl
  | succ m ih =>
    unfold froms at *
    rw [List.range_succ, List.map_append, List.foldl_append, ih (by omega)]
    show ((⟨#[]⟩ : ByteArray), tidyCopy (tidyCopy (o ++ flushN h.size h) ⟨p, ((m + 1 : Nat) : Int), ⟨#[]⟩⟩ ++ flushN (⟨#[]⟩ : ByteArray).size ⟨#[]⟩) ⟨wrap64 (p + ((m + 1 : Nat) : Int)), 1, ⟨#[]⟩⟩) = _
    rw [flushN_zero ⟨#[]⟩ rfl, List.append_nil, copy_copy _ _ _ _ _ _ ⟨#[]⟩, wrap_in (by unfold in64; omega)]
    rfl
theorem bytes1_fold (x : S54) (h0 : in64 x.f0) (h1 : in64 x.f1) (st : ByteArray × List S54) : (bytes1 x).foldl stepS st = tidyS st x := by
  obtain ⟨h, o⟩ := st
  unfold bytes1 tidyS
  split
  · unfold told
    rw [told_fold _ _ (Nat.le_refl _)]
    simp
  · split
    · rename_i hq
      rw [show x.f1.toNat = 0 from by omega]
      rfl
    · rename_i h2 hq
      obtain ⟨m, hm⟩ : ∃ m, x.f1.toNat = m + 1 := ⟨x.f1.toNat - 1, by omega⟩
      unfold in64 at h1
      rw [hm, froms_fold _ h0 m (by omega)]
      have e : ((m + 1 : Nat) : Int) = x.f1 := by omega
      unfold tidyCopy
      simp only [e]
theorem steps_bytes (l : List S54) (h : ∀ x ∈ l, in64 x.f0 ∧ in64 x.f1) : stepsV (bytesV l) = tidyV l := by
  have key : ∀ (l : List S54), (∀ x ∈ l, in64 x.f0 ∧ in64 x.f1) → ∀ st, (bytesV l).foldl stepS st = l.foldl tidyS st := by
    intro l
    induction l with
    | nil => intro _ st; rfl
    | cons x l ih =>
      intro h st
      unfold bytesV at *
      rw [List.flatMap_cons, List.foldl_append, bytes1_fold _ (h x (List.mem_cons_self ..)).1 (h x (List.mem_cons_self ..)).2, ih (fun y hy => h y (List.mem_cons_of_mem _ hy))]
      rfl
  unfold stepsV stepsF tidyV tidyF
  rw [key l h]

def lenSum (l : List S54) : Nat := (l.map (fun x => x.f1.toNat)).foldr (· + ·) 0
theorem bytesV_append (a b : List S54) : bytesV (a ++ b) = bytesV a ++ bytesV b := by unfold bytesV; exact List.flatMap_append
theorem bytesV_one (x : S54) : bytesV [x] = bytes1 x := by simp [bytesV]
theorem textSum_append (a b : List S54) : textSum (a ++ b) = textSum a + textSum b := by
  unfold textSum
  induction a with
  | nil => simp
  | cons x a ih => simp only [List.cons_append, List.map_cons, List.foldr_cons] at *; omega
theorem textSum_one (x : S54) : textSum [x] = x.f2.size := by simp [textSum]
theorem lenSum_append (a b : List S54) : lenSum (a ++ b) = lenSum a + lenSum b := by
  unfold lenSum
  induction a with
  | nil => simp
  | cons x a ih => simp only [List.cons_append, List.map_cons, List.foldr_cons] at *; omega
theorem lenSum_one (x : S54) : lenSum [x] = x.f1.toNat := by simp [lenSum]
theorem told_append (s t : ByteArray) : told (s ++ t) = told s ++ told t := by
  unfold told
  rw [ByteArray.size_append, List.range_add, List.map_append, List.map_map]
  congr 1
  · apply List.map_congr_left
    intro i hi
    rw [List.mem_range] at hi
    have : bt (s ++ t) (i : Nat) = bt s (i : Nat) := by
      unfold bt
      simp only [Int.toNat_natCast]
      rw [dif_pos hi, dif_pos (by rw [ByteArray.size_append]; omega), ByteArray.getElem_append_left hi]
    rw [this]
  · apply List.map_congr_left
    intro i hi
    rw [List.mem_range] at hi
    have : bt (s ++ t) ((s.size + i : Nat) : Int) = bt t (i : Nat) := by
      unfold bt
      simp only [Int.toNat_natCast]
      rw [dif_pos hi, dif_pos (by rw [ByteArray.size_append]; omega), ByteArray.getElem_append_right (by omega)]
      congr 3
      omega
    simp only [Function.comp, this]
theorem flushN_bytes (k : Nat) (s : ByteArray) (h : s.size ≤ k) : bytesV (flushN k s) = told s ∧ textSum (flushN k s) = s.size ∧ lenSum (flushN k s) = 0 ∧ ∀ y ∈ flushN k s, y.f0 = 0 ∧ y.f1 = 0 := by
  induction k generalizing s with
  | zero =>
    have h0 : s.size = 0 := by omega
    rw [flushN]
    refine ⟨by unfold told; rw [h0]; rfl, h0.symm, rfl, fun y hy => by cases hy⟩
  | succ k ih =>
    rw [flushN]
    split
    · rename_i h0
      refine ⟨by unfold told; rw [h0]; rfl, h0.symm, rfl, fun y hy => by cases hy⟩
    · rename_i h0
      have hs : (s.extract (min s.size 4096) s.size).size = s.size - min s.size 4096 := by simp [ByteArray.size_extract]
      have h1 : (s.extract 0 (min s.size 4096)).size = min s.size 4096 := by rw [ByteArray.size_extract]; omega
      obtain ⟨i1, i2, i3, i4⟩ := ih (s.extract (min s.size 4096) s.size) (by omega)
      have es : s.extract 0 (min s.size 4096) ++ s.extract (min s.size 4096) s.size = s := by
        rw [ByteArray.extract_append_extract]; simp
      refine ⟨?_, ?_, ?_, ?_⟩
      · rw [← List.singleton_append, bytesV_append, i1, bytesV_one, show bytes1 ⟨0, 0, s.extract 0 (min s.size 4096)⟩ = told (s.extract 0 (min s.size 4096)) from by unfold bytes1; rw [if_pos (by show (s.extract 0 (min s.size 4096)).size ≠ 0; omega)], ← told_append, es]
      · rw [← List.singleton_append, textSum_append, i2, textSum_one, hs]
        show (s.extract 0 (min s.size 4096)).size + _ = _
        omega
      · rw [← List.singleton_append, lenSum_append, i3, lenSum_one]; rfl
      · intro y hy
        rcases List.mem_cons.mp hy with rfl | hy
        · exact ⟨rfl, rfl⟩
        · exact i4 y hy

/-- What holds of steps that stand under way. -/
def Fine (o : List S54) : Prop := ∀ y ∈ o, in64 y.f0 ∧ 0 ≤ y.f1 ∧ y.f1 ≤ lenSum o
theorem lenSum_mem (o : List S54) (y : S54) (h : y ∈ o) : y.f1 ≤ lenSum o := by
  induction o with
  | nil => cases h
  | cons x o ih =>
    unfold lenSum at *
    simp only [List.map_cons, List.foldr_cons]
    rcases List.mem_cons.mp h with rfl | h
    · omega
    · have := ih h; omega
theorem froms_add (p : Int) (a b : Nat) : froms p (a + b) = froms p a ++ froms (wrap64 (p + a)) b := by
  unfold froms
  rw [List.range_add, List.map_append, List.map_map]
  congr 1
  apply List.map_congr_left
  intro i _
  simp only [Function.comp]
  rw [wrap_addl]
  congr 2
  omega
theorem copy_fine (o : List S54) (x : S54) (ho : ∀ y ∈ o, in64 y.f0 ∧ 0 ≤ y.f1) (hx0 : in64 x.f0) (hx : 0 < x.f1) (hl : (lenSum o : Int) + x.f1 ≤ 9223372036854775807) :
    bytesV (tidyCopy o x) = bytesV o ++ froms x.f0 x.f1.toNat ∧ textSum (tidyCopy o x) = textSum o ∧ (lenSum (tidyCopy o x) : Int) = lenSum o + x.f1 ∧ ∀ y ∈ tidyCopy o x, in64 y.f0 ∧ 0 ≤ y.f1 := by
  have e0 : (⟨#[]⟩ : ByteArray).size = 0 := rfl
  have new : bytesV (o ++ [⟨x.f0, x.f1, ⟨#[]⟩⟩]) = bytesV o ++ froms x.f0 x.f1.toNat ∧ textSum (o ++ [⟨x.f0, x.f1, ⟨#[]⟩⟩]) = textSum o ∧ (lenSum (o ++ [⟨x.f0, x.f1, ⟨#[]⟩⟩]) : Int) = lenSum o + x.f1 ∧ ∀ y ∈ o ++ [⟨x.f0, x.f1, ⟨#[]⟩⟩], in64 y.f0 ∧ 0 ≤ y.f1 := by
    refine ⟨?_, ?_, ?_, ?_⟩
    · rw [bytesV_append, bytesV_one]; unfold bytes1; rw [if_neg (fun h => h e0)]
    · rw [textSum_append, textSum_one]; rfl
    · rw [lenSum_append, lenSum_one]; simp only []; omega
    · intro y hy
      rcases List.mem_append.mp hy with hy | hy
      · exact ho y hy
      · rw [List.mem_singleton.mp hy]; exact ⟨hx0, by show 0 ≤ x.f1; omega⟩
  rcases list_last o with rfl | ⟨o, y, rfl⟩
  · rw [copy_nil]; exact new
  · by_cases h : y.f2.size = 0 ∧ wrap64 (y.f0 + y.f1) = x.f0
    · rw [copy_merge _ _ _ h.1 h.2]
      have hy := ho y (List.mem_append_right _ (List.mem_singleton.mpr rfl))
      have hyl : y.f1 ≤ lenSum (o ++ [y]) := lenSum_mem _ y (List.mem_append_right _ (List.mem_singleton.mpr rfl))
      have hw : wrap64 (y.f1 + x.f1) = y.f1 + x.f1 := wrap_in (by unfold in64; omega)
      rw [hw]
      refine ⟨?_, ?_, ?_, ?_⟩
      · rw [bytesV_append, bytesV_one, bytesV_append, bytesV_one, List.append_assoc]
        congr 1
        unfold bytes1
        rw [if_neg (fun hh => hh h.1), if_neg (fun hh => hh h.1)]
        show froms y.f0 (y.f1 + x.f1).toNat = _
        rw [show (y.f1 + x.f1).toNat = y.f1.toNat + x.f1.toNat from by omega, froms_add, show ((y.f1.toNat : Nat) : Int) = y.f1 from by omega, h.2]
      · rw [textSum_append, textSum_one, textSum_append, textSum_one]
      · rw [lenSum_append, lenSum_one, lenSum_append, lenSum_one]; simp only []; omega
      · intro z hz
        rcases List.mem_append.mp hz with hz | hz
        · exact ho z (List.mem_append_left _ hz)
        · rw [List.mem_singleton.mp hz]; exact ⟨hy.1, by show 0 ≤ y.f1 + x.f1; omega⟩
    · rw [copy_new _ _ _ h]; exact new

/-- What the tidying keeps. -/
structure Inv (l : List S54) (st : ByteArray × List S54) : Prop where
  b : bytesV st.2 ++ told st.1 = bytesV l
  t : textSum st.2 + st.1.size = textSum l
  n : lenSum st.2 ≤ lenSum l
  f : ∀ y ∈ st.2, in64 y.f0 ∧ 0 ≤ y.f1
theorem inv_step (l : List S54) (st : ByteArray × List S54) (x : S54) (h : Inv l st) (hx0 : in64 x.f0) (hl : lenSum (l ++ [x]) ≤ 9223372036854775807) : Inv (l ++ [x]) (tidyS st x) := by
  obtain ⟨s, o⟩ := st
  obtain ⟨hb, ht, hn, hf⟩ := h
  simp only at hb ht hn hf
  rw [lenSum_append, lenSum_one] at hl
  unfold tidyS
  split
  · rename_i h2
    refine ⟨?_, ?_, ?_, hf⟩
    · show bytesV o ++ told (s ++ x.f2) = _
      rw [told_append, ← List.append_assoc, hb, bytesV_append, bytesV_one]; unfold bytes1; rw [if_pos h2]
    · show textSum o + (s ++ x.f2).size = _
      rw [ByteArray.size_append, textSum_append, textSum_one]; omega
    · show lenSum o ≤ _
      rw [lenSum_append]; omega
  · rename_i h2
    have e2 : x.f2.size = 0 := by omega
    split
    · rename_i hq
      refine ⟨?_, ?_, ?_, hf⟩
      · show bytesV o ++ told s = _
        rw [hb, bytesV_append, bytesV_one]; unfold bytes1; rw [if_neg h2, show x.f1.toNat = 0 from by omega]; simp [froms]
      · show textSum o + s.size = _
        rw [textSum_append, textSum_one]; omega
      · show lenSum o ≤ _
        rw [lenSum_append]; omega
    · rename_i hq
      obtain ⟨f1, f2, f3, f4⟩ := flushN_bytes s.size s (Nat.le_refl _)
      have hlo : lenSum (o ++ flushN s.size s) = lenSum o := by rw [lenSum_append, f3]; rfl
      obtain ⟨c1, c2, c3, c4⟩ := copy_fine (o ++ flushN s.size s) x (fun y hy => by
        rcases List.mem_append.mp hy with hy | hy
        · exact hf y hy
        · have := f4 y hy; rw [this.1, this.2]; exact ⟨by unfold in64; omega, by omega⟩) hx0 (by omega) (by rw [hlo]; omega)
      refine ⟨?_, ?_, ?_, c4⟩
      · show bytesV (tidyCopy (o ++ flushN s.size s) x) ++ told ⟨#[]⟩ = _
        rw [c1, bytesV_append, f1, hb, bytesV_append, bytesV_one, show told ⟨#[]⟩ = [] from rfl, List.append_nil]; unfold bytes1; rw [if_neg h2]
      · show textSum (tidyCopy (o ++ flushN s.size s) x) + 0 = _
        rw [c2, textSum_append, f2, textSum_append, textSum_one]; omega
      · show lenSum (tidyCopy (o ++ flushN s.size s) x) ≤ _
        rw [lenSum_append, lenSum_one]; omega
theorem inv_all (l : List S54) (h : ∀ x ∈ l, in64 x.f0) (hl : lenSum l ≤ 9223372036854775807) : Inv l (tidyF l) := by
  have key : ∀ (r p : List S54) (st : ByteArray × List S54), Inv p st → (∀ x ∈ r, in64 x.f0) → lenSum (p ++ r) ≤ 9223372036854775807 → Inv (p ++ r) (r.foldl tidyS st) := by
    intro r
    induction r with
    | nil => intro p st hi _ _; rw [List.append_nil]; exact hi
    | cons x r ih =>
      intro p st hi hx hl
      rw [List.foldl_cons, show p ++ x :: r = (p ++ [x]) ++ r from by simp]
      rw [show p ++ x :: r = (p ++ [x]) ++ r from by simp] at hl
      refine ih (p ++ [x]) _ (inv_step p st x hi (hx x (List.mem_cons_self ..)) (by rw [lenSum_append] at hl; omega)) (fun y hy => hx y (List.mem_cons_of_mem _ hy)) hl
  exact key l [] (⟨#[]⟩, []) ⟨rfl, rfl, Nat.le_refl _, fun y hy => by cases hy⟩ h hl
theorem tidy_bytes (l : List S54) (h : ∀ x ∈ l, in64 x.f0) (hl : lenSum l ≤ 9223372036854775807) :
    bytesV (tidyV l) = bytesV l ∧ textSum (tidyV l) = textSum l ∧ lenSum (tidyV l) ≤ lenSum l ∧ ∀ y ∈ tidyV l, in64 y.f0 ∧ 0 ≤ y.f1 := by
  obtain ⟨hb, ht, hn, hf⟩ := inv_all l h hl
  obtain ⟨f1, f2, f3, f4⟩ := flushN_bytes (tidyF l).1.size (tidyF l).1 (Nat.le_refl _)
  unfold tidyV
  refine ⟨by rw [bytesV_append, f1, hb], by rw [textSum_append, f2, ht], by rw [lenSum_append, f3]; exact hn, fun y hy => ?_⟩
  rcases List.mem_append.mp hy with hy | hy
  · exact hf y hy
  · have := f4 y hy; rw [this.1, this.2]; exact ⟨by unfold in64; omega, by omega⟩
/-- To tidy twice is to tidy once. -/
theorem tidy_tidy (l : List S54) (h : ∀ x ∈ l, in64 x.f0 ∧ in64 x.f1) (hl : lenSum l ≤ 9223372036854775807) : tidyV (tidyV l) = tidyV l := by
  obtain ⟨b, t, n, f⟩ := tidy_bytes l (fun x hx => (h x hx).1) hl
  rw [← steps_bytes (tidyV l) (fun y hy => ⟨(f y hy).1, by have := lenSum_mem _ y hy; have := (f y hy).2; unfold in64; omega⟩), b, steps_bytes l h]
end Go.Proofs.Ytjgelmfkoefclaa.Pure
