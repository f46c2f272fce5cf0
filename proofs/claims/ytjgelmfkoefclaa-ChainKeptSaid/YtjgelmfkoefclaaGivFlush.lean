import Derived.Deep.RegionLaw
import Derived.Outline
import Derived.Deep.DeepMust
import Derived.RegionTactic
import Derived.ChangeAlike
import Derived.Test.YtjgelmfkoefclaaPAllx0
namespace Go.Proofs.Ytjgelmfkoefclaa.PAll
open Go.RowKit Go.Proofs.YtjgelmfkoefclaaW.PrintWords Go.Proofs.YtjgelmfkoefclaaW.PrintLast Go.Proofs.YtjgelmfkoefclaaW.PrintMore
set_option linter.unusedVariables false
set_option linter.unusedSimpArgs false
attribute [local go_sem] max2_int min2_int max_two min_two

/-- A text as steps of at most 4096 bytes (k: at least as many as there are bytes). -/
def flushN : Nat → ByteArray → List S54
  | 0, _ => []
  | k + 1, s => if s.size = 0 then [] else ⟨0, 0, s.extract 0 (min s.size 4096)⟩ :: flushN k (s.extract (min s.size 4096) s.size)
theorem flushN_succ (k : Nat) (s : ByteArray) (h : s.size ≤ k) : flushN (k + 1) s = flushN k s := by
  induction k generalizing s with
  | zero => have h0 : s.size = 0 := by omega
            simp [flushN, h0]
  | succ k ih =>
    rw [flushN]
    conv => rhs; rw [flushN]
    split
    · rfl
    · rw [ih]
      simp [ByteArray.size_extract]; omega
theorem flushN_more (k d : Nat) (s : ByteArray) (h : s.size ≤ k) : flushN (k + d) s = flushN k s := by
  induction d with
  | zero => rfl
  | succ d ih => rw [← Nat.add_assoc, flushN_succ _ _ (by omega), ih]
theorem flushN_step (t : ByteArray) (h : t.size ≠ 0) : flushN t.size t = ⟨0, 0, t.extract 0 (min t.size 4096)⟩ :: flushN (t.extract (min t.size 4096) t.size).size (t.extract (min t.size 4096) t.size) := by
  have e : t.size = (t.extract (min t.size 4096) t.size).size + (min t.size 4096 - 1) + 1 := by simp [ByteArray.size_extract]; omega
  rw [show flushN t.size t = flushN ((t.extract (min t.size 4096) t.size).size + (min t.size 4096 - 1) + 1) t from by rw [← e], flushN, if_neg h, flushN_more _ _ _ (Nat.le_refl _)]
theorem flushN_zero (t : ByteArray) (h : t.size = 0) : flushN t.size t = [] := by rw [h, flushN]

/-- The two held blocks and the row of steps, as they stand under way. -/
structure FR (bh bo base : Nat) (ok : Nat → Prop) (v : Value) (w wr : World) (t : ByteArray) (v' : Value) (ys : List S54) : Prop where
  hh : wr.heap[bh]? = some (.cells #[.string t] 9 (0, 0))
  ho : wr.heap[bo]? = some (.cells #[v'] 22 (0, 0))
  R : Kd.R k54 54 wr base ok v' ys
  kp : Kept w wr (fun k => k = bh ∨ k = bo ∨ some k = v.ownBlock)
  bl : Below base w wr
  ow : v'.ownBlock = v.ownBlock ∨ ∃ b, v'.ownBlock = some b ∧ w.heap.size ≤ b

section
variable {bh bo base : Nat} {ok : Nat → Prop} {v : Value} {w wr : World} {t : ByteArray} {v' : Value} {ys : List S54}
theorem FR.drew (h : FR bh bo base ok v w wr t v' ys) : FR bh bo base ok v w wr.drew t v' ys := ⟨h.hh, h.ho, Kd.R_drew h.R, h.kp, below_drew h.bl, h.ow⟩
theorem FR.alloc (h : FR bh bo base ok v w wr t v' ys) (o : Obj) : FR bh bo base ok v' (wr.alloc o) (wr.alloc o) t v' ys := ⟨blk_alloc h.hh _, blk_alloc h.ho _, Kd.R_alloc h.R _, Kept.refl _ _, Below.refl _ _, .inl rfl⟩
theorem FR.drewN (h : FR bh bo base ok v w wr t v' ys) (m : Nat) : FR bh bo base ok v w (wr.drewN m) t v' ys := ⟨h.hh, h.ho, Kd.R_drewN h.R m, h.kp, pw_below_drewN h.bl m, h.ow⟩
theorem FR.held (h : FR bh bo base ok v w wr t v' ys) (hok : ∀ k, ok k → k ≠ bh ∧ k ≠ bo) (hne : bh ≠ bo) (hbh : base ≤ bh) (t2 : ByteArray) : FR bh bo base ok v w (wr.setCell ⟨bh, 0, none⟩ (.string t2)) t2 v' ys :=
  ⟨blk_put h.hh 0 _ rfl, blk_far h.ho (Ne.symm hne) _, Kd.R_far h.R (fun k hk => (hok k hk).1) _, h.kp.setCell (.inl (.inl rfl)) _, h.bl.setCell (p := ⟨bh, 0, none⟩) hbh _, h.ow⟩
theorem FR.grown (h : FR bh bo base ok v w wr t v' ys) (hok : ∀ k, ok k → k ≠ bh ∧ k ≠ bo) {w1 : World} (hG : wr.grownBy w1 v'.ownBlock) : w1.heap[bh]? = some (.cells #[.string t] 9 (0, 0)) ∧ w1.heap[bo]? = some (.cells #[v'] 22 (0, 0)) :=
  ⟨blk_grown h.hh hG (Kd.R_away h.R (fun k hk => (hok k hk).1)), blk_grown h.ho hG (Kd.R_away h.R (fun k hk => (hok k hk).2))⟩
theorem FR.out (h : FR bh bo base ok v w wr t v' ys) (hok : ∀ k, ok k → k ≠ bh ∧ k ≠ bo) (hne : bh ≠ bo) (hbo : base ≤ bo) {w1 : World} {v1 : Value} {zs : List S54} (hR : Kd.R k54 54 w1 base ok v1 zs) (hB : Below base wr w1) (hG : wr.grownBy w1 v'.ownBlock)
    (hO : v1.ownBlock = v'.ownBlock ∨ ∃ b, v1.ownBlock = some b ∧ wr.heap.size ≤ b) : FR bh bo base ok v w (w1.setCell ⟨bo, 0, none⟩ v1) t v1 zs := by
  obtain ⟨g1, g2⟩ := h.grown hok hG
  refine ⟨blk_far g1 hne _, blk_put g2 0 _ rfl, Kd.R_far hR (fun k hk => (hok k hk).2) _, ?_, (h.bl.trans hB).setCell (p := ⟨bo, 0, none⟩) hbo _, ?_⟩
  · refine Kept.setCell (Kept.of_grown hG h.kp ?_) (.inl (.inr (.inl rfl))) _
    intro k hk
    rcases h.ow with e | ⟨b, e, hb⟩
    · exact .inl (.inr (.inr (hk.symm.trans e)))
    · rw [hk] at e; injection e with e; subst e; exact .inr hb
  · rcases hO with e | ⟨b, e, hb⟩
    · rw [e]; exact h.ow
    · exact .inr ⟨b, e, Nat.le_trans h.kp.1 hb⟩
end

/-- What the closure leaves. -/
def FlushPost (bh bo : Nat) (base : Nat) (ok : Nat → Prop) (v : Value) (xs : List S54) (w : World) (e : Ending) (w' : World) : Prop :=
  e = .returned (.tuple #[]) ∧ ∃ v' t, t.size = 0 ∧ FR bh bo base ok v w w' t v' xs

set_option maxHeartbeats 2000000 in
set_option maxRecDepth 100000 in
theorem flush_calls (bh bo : Nat) (base : Nat) (ok : Nat → Prop) (v : Value) (xs : List S54) (s : ByteArray) (w : World) (hf : FR bh bo base ok v w w s v xs)
    (hbase : base ≤ w.heap.size) (hbh : base ≤ bh) (hbo : base ≤ bo) (hne : bh ≠ bo) (hok : ∀ k, ok k → k ≠ bh ∧ k ≠ bo) (hfr : ∀ k, w.heap.size ≤ k → ok k) (hs : s.size ≤ 1000000000) (hx : xs.length ≤ 1000000000) :
    Calls Try.prog 32 #[.pointer (some ⟨bh, 0, none⟩), .pointer (some ⟨bo, 0, none⟩)] w (FlushPost bh bo base ok v (xs ++ flushN s.size s) w) := by
  have HF := Aside0.mk hf
  have HOK := Aside0.mk hok
  have HFR := Aside0.mk hfr
  clear hf hok hfr
  go_enter Try.func32, Try.ntmps32
  go_wp2_with fail
  go_loopg [] s.size (fun kq wr => ∃ (t : ByteArray) (v' : Value) (ys : List S54), Aside0 (FR bh bo base ok v w wr t v' ys) ∧ Aside0 (ys ++ flushN t.size t = xs ++ flushN s.size s) ∧ Aside0 (t.size ≤ kq) ∧ Aside0 (kq ≤ s.size) ∧ Aside0 (ys.length + t.size ≤ xs.length + s.size))
  case atStart => exact ⟨s, v, xs, HF, ⟨rfl⟩, ⟨Nat.le_refl _⟩, ⟨Nat.le_refl _⟩, ⟨Nat.le_refl _⟩⟩
  case round =>
    obtain ⟨t, v', ys, HF1, HE, HK, HKS, HL⟩ := hrel
    have hht : wr.cell? ⟨bh, 0, none⟩ = some (.string t) := (blk_cell HF1.out.hh 0).trans rfl
    have hhv : wr.cell? ⟨bo, 0, none⟩ = some v' := (blk_cell HF1.out.ho 0).trans rfl
    have hfh : wr.frozen? ⟨bh, 0, none⟩ = false := blk_frozen HF1.out.hh 0
    have hfo : wr.frozen? ⟨bo, 0, none⟩ = false := blk_frozen HF1.out.ho 0
    have htl : t.toList.length = t.size := by rw [ByteArray.toList_eq]; exact data_length t
    by_cases hz : t.size = 0
    · have hem : t.toList.isEmpty = true := by rw [List.isEmpty_iff, ← List.length_eq_zero_iff, htl]; exact hz
      go_wp2_with fail
      go_end0
      exact ⟨rfl, v', t, hz, by have := HE.out; rw [flushN_zero t hz, List.append_nil] at this; rw [← this]; exact HF1.out⟩
    · have hem : t.toList.isEmpty = false := by rw [Bool.eq_false_iff, Ne, List.isEmpty_iff, ← List.length_eq_zero_iff, htl]; exact hz
      have HFR1 : Aside0 (∀ k, wr.drew.heap.size ≤ k → ok k) := ⟨fun k hk => HFR.out k (Nat.le_trans HF1.out.kp.1 hk)⟩
      have HBW1 : Aside0 (base ≤ wr.drew.heap.size) := ⟨Nat.le_trans hbase HF1.out.kp.1⟩
      have HLY : Aside0 ((ys.length + 1) * 32 ≤ 140737488355328) := ⟨by have := HL.out; omega⟩
      have HGB : ∀ (w1 : World), wr.drew.grownBy w1 v'.ownBlock → Aside0 (w1.heap[bo]? = some (.cells #[v'] 22 (0, 0))) := fun w1 hG => ⟨(HF1.out.drew.grown HOK.out hG).2⟩
      have hca : ∀ X, (wr.alloc X).cell? ⟨bo, 0, none⟩ = some v' := fun X => (blk_cell (blk_alloc HF1.out.ho X) 0).trans rfl
      by_cases h4 : 4096 < t.size
      · have h4b : decide (4096 < t.size) = true := decide_eq_true h4
        have h4i : (4096 : Int) ≤ ↑t.size := by omega
        go_wp2_with fail
        go_region_law (refine Kd.R_append_step k54 (w0 := wr.drew) (W := wr.drew) base ?aW (.tmp 8) (.tmp 13) 22 54 (.agg #[(.int .i64 0), (.int .i64 0), (.string ⟨#[]⟩)]) 32 ?aO Try.underlying22 info54 (by decide) (by decide) (by decide) v' ys (⟨0, 0, t.extract 0 4096⟩ : S54) [.int .i64 0, .int .i64 0, .string (t.extract 0 4096)] ok (fun _ => False) ?aS ?aX (k54_mkM _ _ _ (⟨0, 0, t.extract 0 4096⟩ : S54)) (fun _ hk => hk.elim) HFR1.out (Kd.R_drew HF1.out.R) (Below.refl _ _) HBW1.out HLY.out ?_; (case aW => rfl); (case aO => rfl); (case aS => rfl); (case aX => rfl); intro v1 w1 hR1 hB1 hG1 hO1; have hc1 : w1.cell? ⟨bo, 0, none⟩ = some v' := (blk_cell (HGB w1 hG1).out 0).trans rfl; have hf1 : w1.frozen? ⟨bo, 0, none⟩ = false := blk_frozen (HGB w1 hG1).out 0; obtain ⟨A1, c1, hv1⟩ := Kd.R_slice hR1; rw [List.length_append, List.length_singleton] at hv1; subst hv1; have HF2 := Aside0.mk (FR.out HF1.out.drew HOK.out hne hbo hR1 hB1 hG1 hO1); clear hR1 hB1 hG1 hO1)
        all_goals
          generalize (World.setCell w1 ⟨bo, 0, none⟩ _) = W2 at HF2 ⊢
          clear hc1 hf1
          have hht2 : W2.cell? ⟨bh, 0, none⟩ = some (.string t) := (blk_cell HF2.out.hh 0).trans rfl
          have hfh2 : W2.frozen? ⟨bh, 0, none⟩ = false := blk_frozen HF2.out.hh 0
          go_wp2_with fail
          go_roundg (t.extract 4096 t.size).size
          case measure => have := HK.out; simp only [ByteArray.size_extract]; omega
          case rel =>
            refine ⟨t.extract 4096 t.size, _, _, ⟨FR.held HF2.out HOK.out hne hbh _⟩, ⟨?_⟩, ⟨Nat.le_refl _⟩, ⟨?_⟩, ⟨?_⟩⟩
            · rw [← HE.out, flushN_step t hz, show min t.size 4096 = 4096 from by omega, List.append_assoc, List.singleton_append]
            · have := HK.out; have := HKS.out; simp only [ByteArray.size_extract]; omega
            · have := HL.out; simp only [ByteArray.size_extract, List.length_append, List.length_singleton]; omega
      · have h4b : decide (4096 < t.size) = false := decide_eq_false h4
        have hex : t.extract t.size t.size = ByteArray.empty := by simp
        have hfull : t.extract 0 t.size = t := by simp
        go_wp2_with fail
        go_region_law (refine Kd.R_append_step k54 (w0 := wr.drew) (W := wr.drew) base ?aW (.tmp 8) (.tmp 13) 22 54 (.agg #[(.int .i64 0), (.int .i64 0), (.string ⟨#[]⟩)]) 32 ?aO Try.underlying22 info54 (by decide) (by decide) (by decide) v' ys (⟨0, 0, t⟩ : S54) [.int .i64 0, .int .i64 0, .string (t)] ok (fun _ => False) ?aS ?aX (k54_mkM _ _ _ (⟨0, 0, t⟩ : S54)) (fun _ hk => hk.elim) HFR1.out (Kd.R_drew HF1.out.R) (Below.refl _ _) HBW1.out HLY.out ?_; (case aW => rfl); (case aO => rfl); (case aS => rfl); (case aX => rfl); intro v1 w1 hR1 hB1 hG1 hO1; have hc1 : w1.cell? ⟨bo, 0, none⟩ = some v' := (blk_cell (HGB w1 hG1).out 0).trans rfl; have hf1 : w1.frozen? ⟨bo, 0, none⟩ = false := blk_frozen (HGB w1 hG1).out 0; obtain ⟨A1, c1, hv1⟩ := Kd.R_slice hR1; rw [List.length_append, List.length_singleton] at hv1; subst hv1; have HF2 := Aside0.mk (FR.out HF1.out.drew HOK.out hne hbo hR1 hB1 hG1 hO1); clear hR1 hB1 hG1 hO1)
        all_goals
          generalize (World.setCell w1 ⟨bo, 0, none⟩ _) = W2 at HF2 ⊢
          clear hc1 hf1
          have hht2 : W2.cell? ⟨bh, 0, none⟩ = some (.string t) := (blk_cell HF2.out.hh 0).trans rfl
          have hfh2 : W2.frozen? ⟨bh, 0, none⟩ = false := blk_frozen HF2.out.hh 0
          go_wp2_with fail
          go_roundg (ByteArray.empty).size
          case measure => have := HK.out; simp only [ByteArray.size_empty]; omega
          case rel =>
            refine ⟨ByteArray.empty, _, _, ⟨FR.held HF2.out HOK.out hne hbh _⟩, ⟨?_⟩, ⟨Nat.le_refl _⟩, ⟨?_⟩, ⟨?_⟩⟩
            · rw [← HE.out, flushN_step t hz, show min t.size 4096 = t.size from by omega, List.append_assoc, List.singleton_append, hex, hfull]
            · have := HK.out; have := HKS.out; simp only [ByteArray.size_empty]; omega
            · have := HL.out; simp only [ByteArray.size_empty, List.length_append, List.length_singleton]; omega

/-- A copy behind steps. -/
def tidyCopy (o : List S54) (x : S54) : List S54 :=
  if o.length ≠ 0 ∧ (rd_T54 o (o.length - 1 : Nat)).f2.size = 0 ∧ wrap64 ((rd_T54 o (o.length - 1 : Nat)).f0 + (rd_T54 o (o.length - 1 : Nat)).f1) = x.f0 then
    o.set (o.length - 1) ⟨(rd_T54 o (o.length - 1 : Nat)).f0, wrap64 ((rd_T54 o (o.length - 1 : Nat)).f1 + x.f1), (rd_T54 o (o.length - 1 : Nat)).f2⟩
  else o ++ [⟨x.f0, x.f1, ⟨#[]⟩⟩]
def tidyS (st : ByteArray × List S54) (x : S54) : ByteArray × List S54 :=
  if x.f2.size ≠ 0 then (st.1 ++ x.f2, st.2) else if x.f1 ≤ 0 then st else (⟨#[]⟩, tidyCopy (st.2 ++ flushN st.1.size st.1) x)
def tidyF (l : List S54) : ByteArray × List S54 := l.foldl tidyS (⟨#[]⟩, [])
def tidyV (l : List S54) : List S54 := (tidyF l).2 ++ flushN (tidyF l).1.size (tidyF l).1
def textSum (l : List S54) : Nat := (l.map (fun x => x.f2.size)).foldr (· + ·) 0
def TidyOk (l : List S54) : Prop := l.length ≤ 1000000 ∧ textSum l ≤ 500000000
instance (l : List S54) : Decidable (TidyOk l) := by unfold TidyOk; infer_instance

theorem flushN_length (k : Nat) (s : ByteArray) : (flushN k s).length ≤ s.size := by
  induction k generalizing s with
  | zero => simp [flushN]
  | succ k ih =>
    rw [flushN]
    split
    · simp
    · have := ih (s.extract (min s.size 4096) s.size)
      simp only [ByteArray.size_extract] at this
      simp only [List.length_cons]
      omega
theorem tidyCopy_length (o : List S54) (x : S54) : (tidyCopy o x).length ≤ o.length + 1 := by
  unfold tidyCopy
  split <;> simp
theorem tidyF_length (l : List S54) : (tidyF l).1.size + (tidyF l).2.length ≤ textSum l + l.length := by
  have key : ∀ (l : List S54) (st : ByteArray × List S54), (l.foldl tidyS st).1.size + (l.foldl tidyS st).2.length ≤ textSum l + l.length + st.1.size + st.2.length := by
    intro l
    induction l with
    | nil => intro st; simp [textSum]
    | cons x l ih =>
      intro st
      rw [List.foldl_cons]
      refine Nat.le_trans (ih _) ?_
      have h1 : (tidyS st x).1.size + (tidyS st x).2.length ≤ x.f2.size + 1 + st.1.size + st.2.length := by
        unfold tidyS
        split
        · simp only [ByteArray.size_append]; omega
        · split
          · omega
          · have := tidyCopy_length (st.2 ++ flushN st.1.size st.1) x
            have h3 := flushN_length st.1.size st.1
            simp only [List.length_append] at this
            show 0 + (tidyCopy (st.2 ++ flushN st.1.size st.1) x).length ≤ _
            omega
      simp only [textSum, List.map_cons, List.foldr_cons, List.length_cons] at *
      omega
  have := key l (⟨#[]⟩, [])
  have h0 : (⟨#[]⟩ : ByteArray).size = 0 := rfl
  simp only [h0, List.length_nil, Nat.add_zero] at this
  exact this
theorem textSum_take (l : List S54) (k : Nat) : textSum (l.take k) ≤ textSum l := by
  induction l generalizing k with
  | nil => simp [textSum]
  | cons x l ih =>
    cases k with
    | zero => simp [textSum]
    | succ k => have := ih k; simp only [textSum, List.take_succ_cons, List.map_cons, List.foldr_cons] at *; omega
theorem text_le (l : List S54) (k : Nat) : (rd_T54 l (k : Int)).f2.size ≤ textSum l := by
  unfold rd_T54
  rw [Int.toNat_natCast]
  induction l generalizing k with
  | nil => show (0 : Nat) ≤ _; omega
  | cons x l ih =>
    cases k with
    | zero => simp only [textSum, List.map_cons, List.foldr_cons, List.getD_cons_zero]; omega
    | succ k => have := ih k; simp only [textSum, List.map_cons, List.foldr_cons, List.getD_cons_succ] at *; omega
theorem tidyF_succ (l : List S54) (k : Nat) (h : k < l.length) : tidyF (l.take (k + 1)) = tidyS (tidyF (l.take k)) (rd_T54 l k) := by
  unfold tidyF rd_T54
  rw [List.take_add_one, List.foldl_append, Int.toNat_natCast, List.getD_eq_getElem?_getD, List.getElem?_eq_getElem h]
  rfl

theorem FR.self {bh bo base : Nat} {ok : Nat → Prop} {v : Value} {w wr : World} {t : ByteArray} {v' : Value} {ys : List S54} (h : FR bh bo base ok v w wr t v' ys) : FR bh bo base ok v' wr wr t v' ys := ⟨h.hh, h.ho, h.R, Kept.refl _ _, Below.refl _ _, .inl rfl⟩

end Go.Proofs.Ytjgelmfkoefclaa.PAll
