/- chain.Same. -/
import Derived.BigQuiet
import Derived.Test.YtjgelmfkoefclaaSamesLaw
import Derived.Test.YtjgelmfkoefclaaBasd
namespace Go.Proofs.Ytjgelmfkoefclaa.PAll
open Go.RowKit Go.Proofs.YtjgelmfkoefclaaW.PrintWords Go.Proofs.YtjgelmfkoefclaaW.PrintLast Go.Proofs.YtjgelmfkoefclaaW.PrintMore Go.Proofs.Ytjgelmfkoefclaa.Pure
set_option linter.unusedVariables false
set_option linter.unusedSimpArgs false

theorem R_one (W : World) (base : Nat) (hb : base ≤ W.heap.size) (x : S54) : Kd.R k54 54 (W.alloc (.cells #[.int .i64 x.f0, .int .i64 x.f1, .string x.f2] 54 (0, 0))) base (fun _ => True) (.slice (some ⟨W.heap.size, 0, none⟩) 1 1) [x] := by
  refine ⟨fun k hk => trivial, [.int .i64 x.f0, .int .i64 x.f1, .string x.f2], ?_, ?_⟩
  · exact World.ownsRow_lit (base := base) (e := 54) (size := 3) W #[.int .i64 x.f0, .int .i64 x.f1, .string x.f2] 1 hb (by simp [maxLen]) rfl
  · exact Reps.snoc (Reps.none _ _) (k54_mkM _ _ _ x) rfl
def SameR (mk : ByteArray) (sz : Int) (r1 r2 : ByteArray) (r3 : Int) (r4 : List S54) (r5 : Int) : Prop :=
  (sameOk mk sz ∧ r1 = mk ∧ r2 = mk ∧ r3 = sz ∧ r4 = sameL sz.toNat ∧ r5 = 0) ∨ (¬ sameOk mk sz ∧ r1 = ⟨#[]⟩ ∧ r2 = ⟨#[]⟩ ∧ r3 = 0 ∧ r4 = [] ∧ r5 = 1)
theorem same_eq (mk : ByteArray) (sz : Int) (l : List S54) (h : l = sameL sz.toNat) : l = sameL sz.toNat := h
theorem same_key (mk : ByteArray) (sz : Int) (l : List S54) (hl : l = sameL sz.toNat) : (sameOk mk sz → rightV mk mk sz l = true) ∧ (¬ sameOk mk sz → rightV mk mk sz l = false) := by
  refine ⟨fun h => ?_, fun h => decide_eq_false (fun hp => h ⟨hp.1, hp.2.2.1, hp.2.2.2.1⟩)⟩
  obtain ⟨h1, h2, h3⟩ := h
  obtain ⟨n, rfl⟩ := Int.eq_ofNat_of_zero_le h2
  rw [hl, Int.toNat_natCast]
  exact lay_right (by omega) (same_lay (by omega)) h1 h1
set_option maxHeartbeats 1000000 in
set_option maxRecDepth 100000 in
theorem same_calls (mk : ByteArray) (sz : Int) (hsz : -9223372036854775808 ≤ sz ∧ sz ≤ 9223372036854775807) (w : World) :
    Calls Try.prog 23 #[.string mk, .int .i64 sz] w fun e w' => ∃ (r1 r2 : ByteArray) (r3 : Int) (v : Value) (r4 : List S54) (r5 : Int), e = .returned (.tuple #[.agg #[.string r1, .string r2, .int .i64 r3, v], .int .i64 r5]) ∧ Kd.R k54 54 w' w.heap.size (fun _ => True) v r4 ∧ Below w.heap.size w w' ∧ SameR mk sz r1 r2 r3 r4 r5 := by
  obtain ⟨W1, hW1⟩ : ∃ W1, W1 = w.alloc (.cells #[.string ⟨#[]⟩, .string ⟨#[]⟩, .int .i64 0, .slice none 0 0] 24 (0, 0)) := ⟨_, rfl⟩
  have HZ : Aside0 (W1.heap[w.heap.size]? = some (.cells #[.string ⟨#[]⟩, .string ⟨#[]⟩, .int .i64 0, .slice none 0 0] 24 (0, 0))) := ⟨by rw [hW1]; exact blk_new _ _⟩
  have HBW : Aside0 (Below w.heap.size w W1) := ⟨by rw [hW1]; exact below_alloc (Below.refl _ _) _⟩
  obtain ⟨W2, hW2⟩ : ∃ W2, W2 = W1.alloc (.cells #[.string mk, .string mk, .int .i64 sz, .slice none 0 0] 24 (0, 0)) := ⟨_, rfl⟩
  have HZ2 : Aside0 (W2.heap[w.heap.size]? = some (.cells #[.string ⟨#[]⟩, .string ⟨#[]⟩, .int .i64 0, .slice none 0 0] 24 (0, 0))) := ⟨by rw [hW2]; exact blk_alloc HZ.out _⟩
  have HD2 : Aside0 (W2.heap[W1.heap.size]? = some (.cells #[.string mk, .string mk, .int .i64 sz, .slice none 0 0] 24 (0, 0))) := ⟨by rw [hW2]; exact blk_new _ _⟩
  have HB2 : Aside0 (Below w.heap.size w W2) := ⟨by rw [hW2]; exact below_alloc HBW.out _⟩
  have HW1 := Aside0.mk hW1
  have HW2 := Aside0.mk hW2
  clear hW1 hW2
  go_enter Try.func23, Try.ntmps23
  go_upto_region 1 with fail
  rw [← HW1.out]
  go_upto_region 2 with fail
  rw [← HW2.out]
  by_cases h0 : 0 < sz
  · have d0 : decide (0 < sz) = true := decide_eq_true h0
    obtain ⟨x0, x1, x2, x3⟩ := blk4 (blk_alloc HD2.out (.cells #[.int .i64 0, .int .i64 sz, .string ⟨#[]⟩] 54 (0, 0)))
    obtain ⟨y0, y1, y2, y3⟩ := blk4f (blk_alloc HD2.out (.cells #[.int .i64 0, .int .i64 sz, .string ⟨#[]⟩] 54 (0, 0)))
    go_upto_region 4 with fail
    obtain ⟨W4, hW4⟩ : ∃ W4, W4 = (W2.alloc (.cells #[.int .i64 0, .int .i64 sz, .string ⟨#[]⟩] 54 (0, 0))).setCell ⟨W1.heap.size, 3, none⟩ (.slice (some ⟨W2.heap.size, 0, none⟩) 1 1) := ⟨_, rfl⟩
    rw [← hW4]
    have hlt : w.heap.size < W1.heap.size := blk_lt HZ.out
    have hlt2 : W1.heap.size < W2.heap.size := blk_lt HD2.out
    have HZ4 : Aside0 (W4.heap[w.heap.size]? = some (.cells #[.string ⟨#[]⟩, .string ⟨#[]⟩, .int .i64 0, .slice none 0 0] 24 (0, 0))) := ⟨by
      rw [hW4, Below.heap_setCell _ ⟨W1.heap.size, 3, none⟩ _ _ (fun e => by have e2 : w.heap.size = W1.heap.size := e; omega)]
      exact blk_alloc HZ2.out _⟩
    have HD4 : Aside0 (W4.heap[W1.heap.size]? = some (.cells #[.string mk, .string mk, .int .i64 sz, .slice (some ⟨W2.heap.size, 0, none⟩) 1 1] 24 (0, 0))) := ⟨by
      rw [hW4]
      exact blk_put (cs := #[.string mk, .string mk, .int .i64 sz, .slice none 0 0]) (blk_alloc HD2.out _) 3 _ rfl⟩
    have HB4 : Aside0 (Below w.heap.size w W4) := ⟨by rw [hW4]; exact (below_alloc HB2.out _).setCell (p := ⟨W1.heap.size, 3, none⟩) (Nat.le_of_lt hlt) _⟩
    have HR4 : Aside0 (Kd.R k54 54 W4 W2.heap.size (fun k => k ≠ w.heap.size ∧ k ≠ W1.heap.size) (.slice (some ⟨W2.heap.size, 0, none⟩) 1 1) [⟨0, sz, ⟨#[]⟩⟩]) := ⟨by
      rw [hW4]
      have h := R_one W2 W2.heap.size (Nat.le_refl _) ⟨0, sz, ⟨#[]⟩⟩
      exact Kd.R_mono (Kd.R_far (p := ⟨W1.heap.size, 3, none⟩) (Kd.R_mono (Kd.R_bound h) (ok' := fun k => W2.heap.size ≤ k) (fun k hk => hk.2.1)) (fun k hk => by show k ≠ W1.heap.size; omega) _) (fun k hk => by constructor <;> omega)⟩
    clear hW4 x0 x1 x2 x3 y0 y1 y2 y3
    have hin : In64 [(⟨0, sz, ⟨#[]⟩⟩ : S54)] := fun x hx => by rw [List.mem_singleton.1 hx]; exact ⟨(by show (-9223372036854775808 : Int) ≤ 0; omega), (by show (0 : Int) ≤ 9223372036854775807; omega)⟩
    have hrt := Right_f mk mk sz [(⟨0, sz, ⟨#[]⟩⟩ : S54)] hin (by simp) 20 (by simp)
    have hkey := same_key mk sz [(⟨0, sz, ⟨#[]⟩⟩ : S54)] (by unfold sameL; first | (rw [if_pos (by omega), show ((sz.toNat : Nat) : Int) = sz by omega]) | (rw [if_neg (by omega)]))
    by_cases hok : sameOk mk sz
    · rw [hkey.1 hok] at hrt
      have HRG : Aside0 (Calls Try.prog 24 #[.agg #[.string mk, .string mk, .int .i64 sz, .slice (some ⟨W2.heap.size, 0, none⟩) 1 1]] W4 fun e w' => e = .returned (.bool true) ∧ Below W4.heap.size W4 w') := ⟨delta_Right.calls 20 mk mk sz (some ⟨W2.heap.size, 0, none⟩) 1 [(⟨0, sz, ⟨#[]⟩⟩ : S54)] true W4 (Kd.R_reads' HR4.out).2.2 (Nat.le_refl _) hrt⟩
      clear hrt hkey
      obtain ⟨x0, x1, x2, x3⟩ := blk4 HD4.out
      go_upto_region 6 with (go_at_call 24; go_loud ((with_reducible refine HRG.out.mono ?_); rintro _ wa ⟨rfl, hbb⟩; have HBA := Aside0.mk (below_step HB4.out hbb); have HZA := Aside0.mk (blk_below HZ4.out hbb); have HDA := Aside0.mk (blk_below HD4.out hbb); have HRA := Aside0.mk (Kd.R_below HR4.out hbb); clear hbb; obtain ⟨y0, y1, y2, y3⟩ := blk4 HZA.out; obtain ⟨g0, g1, g2, g3⟩ := blk4f HZA.out; obtain ⟨x0, x1, x2, x3⟩ := blk4 HDA.out))
      go_wp2_with fail
      refine bodyPost_ret (results_ct rfl _ _ w.heap.size 24 #[.string mk, .string mk, .int .i64 sz, .slice (some ⟨W2.heap.size, 0, none⟩) 1 1] (0, 0) _ rfl ?blk0 Try.underlying24 rfl (by kernel_rfl)) rfl ?_
      case blk0 =>
          refine blk_put (cs := #[.string mk, .string mk, .int .i64 sz, .slice none 0 0]) ?_ 3 _ rfl
          refine blk_put (cs := #[.string mk, .string mk, .int .i64 0, .slice none 0 0]) ?_ 2 _ rfl
          refine blk_put (cs := #[.string mk, .string ⟨#[]⟩, .int .i64 0, .slice none 0 0]) ?_ 1 _ rfl
          exact blk_put (cs := #[.string ⟨#[]⟩, .string ⟨#[]⟩, .int .i64 0, .slice none 0 0]) HZA.out 0 _ rfl
      have hR := Kd.R_far (p := ⟨w.heap.size, 3, none⟩) (Kd.R_far (p := ⟨w.heap.size, 2, none⟩) (Kd.R_far (p := ⟨w.heap.size, 1, none⟩) (Kd.R_far (p := ⟨w.heap.size, 0, none⟩) HRA.out (fun k hk => hk.1) (.string mk)) (fun k hk => hk.1) (.string mk)) (fun k hk => hk.1) (.int .i64 sz)) (fun k hk => hk.1) (.slice (some ⟨W2.heap.size, 0, none⟩) 1 1)
      exact ⟨mk, mk, sz, _, [(⟨0, sz, ⟨#[]⟩⟩ : S54)], 0, rfl, Kd.R_lower (Kd.R_mono hR (fun _ _ => trivial)) (Nat.le_of_lt (Nat.lt_trans hlt hlt2)), (((HBA.out.setCell (p := ⟨w.heap.size, 0, none⟩) (Nat.le_refl _) _).setCell (p := ⟨w.heap.size, 1, none⟩) (Nat.le_refl _) _).setCell (p := ⟨w.heap.size, 2, none⟩) (Nat.le_refl _) _).setCell (p := ⟨w.heap.size, 3, none⟩) (Nat.le_refl _) _, .inl ⟨hok, rfl, rfl, rfl, same_eq mk sz [(⟨0, sz, ⟨#[]⟩⟩ : S54)] (by unfold sameL; first | (rw [if_pos (by omega), show ((sz.toNat : Nat) : Int) = sz by omega]) | (rw [if_neg (by omega)])), rfl⟩⟩
    · rw [hkey.2 hok] at hrt
      have HRG : Aside0 (Calls Try.prog 24 #[.agg #[.string mk, .string mk, .int .i64 sz, .slice (some ⟨W2.heap.size, 0, none⟩) 1 1]] W4 fun e w' => e = .returned (.bool false) ∧ Below W4.heap.size W4 w') := ⟨delta_Right.calls 20 mk mk sz (some ⟨W2.heap.size, 0, none⟩) 1 [(⟨0, sz, ⟨#[]⟩⟩ : S54)] false W4 (Kd.R_reads' HR4.out).2.2 (Nat.le_refl _) hrt⟩
      clear hrt hkey
      obtain ⟨x0, x1, x2, x3⟩ := blk4 HD4.out
      go_wp2_with (go_at_call 24; go_loud ((with_reducible refine HRG.out.mono ?_); rintro _ wa ⟨rfl, hbb⟩; have HBA := Aside0.mk (below_step HB4.out hbb); have HZA := Aside0.mk (blk_below HZ4.out hbb); clear hbb; obtain ⟨y0, y1, y2, y3⟩ := blk4 HZA.out; obtain ⟨g0, g1, g2, g3⟩ := blk4f HZA.out))
      refine bodyPost_ret (results_ct rfl _ _ w.heap.size 24 #[.string ⟨#[]⟩, .string ⟨#[]⟩, .int .i64 0, .slice none 0 0] (0, 0) _ rfl ?blk1 Try.underlying24 rfl (by kernel_rfl)) rfl ?_
      case blk1 =>
          refine blk_put (cs := #[.string ⟨#[]⟩, .string ⟨#[]⟩, .int .i64 0, .slice none 0 0]) ?_ 3 _ rfl
          refine blk_put (cs := #[.string ⟨#[]⟩, .string ⟨#[]⟩, .int .i64 0, .slice none 0 0]) ?_ 2 _ rfl
          refine blk_put (cs := #[.string ⟨#[]⟩, .string ⟨#[]⟩, .int .i64 0, .slice none 0 0]) ?_ 1 _ rfl
          exact blk_put (cs := #[.string ⟨#[]⟩, .string ⟨#[]⟩, .int .i64 0, .slice none 0 0]) HZA.out 0 _ rfl
      exact ⟨⟨#[]⟩, ⟨#[]⟩, 0, _, [], 1, rfl, Kd.R_nil _ _ _ _ _, (((HBA.out.setCell (p := ⟨w.heap.size, 0, none⟩) (Nat.le_refl _) _).setCell (p := ⟨w.heap.size, 1, none⟩) (Nat.le_refl _) _).setCell (p := ⟨w.heap.size, 2, none⟩) (Nat.le_refl _) _).setCell (p := ⟨w.heap.size, 3, none⟩) (Nat.le_refl _) _, .inr ⟨hok, rfl, rfl, rfl, rfl, rfl⟩⟩
  · have d0 : decide (0 < sz) = false := decide_eq_false h0
    obtain ⟨x0, x1, x2, x3⟩ := blk4 HD2.out
    have hlt : w.heap.size < W1.heap.size := blk_lt HZ.out
    have hlt2 : W1.heap.size < W2.heap.size := blk_lt HD2.out
    have HZ4 := HZ2
    have HD4 := HD2
    have HB4 := HB2
    have HR4 : Aside0 (Kd.R k54 54 W2 W2.heap.size (fun k => k ≠ w.heap.size ∧ k ≠ W1.heap.size) (.slice none 0 0) []) := ⟨Kd.R_nil _ _ _ _ _⟩
    have hin : In64 ([] : List S54) := fun x hx => by cases hx
    have hrt := Right_f mk mk sz ([] : List S54) hin (by simp) 20 (by simp)
    have hkey := same_key mk sz ([] : List S54) (by unfold sameL; first | (rw [if_pos (by omega), show ((sz.toNat : Nat) : Int) = sz by omega]) | (rw [if_neg (by omega)]))
    by_cases hok : sameOk mk sz
    · rw [hkey.1 hok] at hrt
      have HRG : Aside0 (Calls Try.prog 24 #[.agg #[.string mk, .string mk, .int .i64 sz, .slice none 0 0]] W2 fun e w' => e = .returned (.bool true) ∧ Below W2.heap.size W2 w') := ⟨delta_Right.calls 20 mk mk sz (none) 0 ([] : List S54) true W2 (Kd.R_reads' HR4.out).2.2 (Nat.le_refl _) hrt⟩
      clear hrt hkey
      obtain ⟨x0, x1, x2, x3⟩ := blk4 HD4.out
      go_upto_region 6 with (go_at_call 24; go_loud ((with_reducible refine HRG.out.mono ?_); rintro _ wa ⟨rfl, hbb⟩; have HBA := Aside0.mk (below_step HB4.out hbb); have HZA := Aside0.mk (blk_below HZ4.out hbb); have HDA := Aside0.mk (blk_below HD4.out hbb); have HRA := Aside0.mk (Kd.R_below HR4.out hbb); clear hbb; obtain ⟨y0, y1, y2, y3⟩ := blk4 HZA.out; obtain ⟨g0, g1, g2, g3⟩ := blk4f HZA.out; obtain ⟨x0, x1, x2, x3⟩ := blk4 HDA.out))
      go_wp2_with fail
      refine bodyPost_ret (results_ct rfl _ _ w.heap.size 24 #[.string mk, .string mk, .int .i64 sz, .slice none 0 0] (0, 0) _ rfl ?blk2 Try.underlying24 rfl (by kernel_rfl)) rfl ?_
      case blk2 =>
          refine blk_put (cs := #[.string mk, .string mk, .int .i64 sz, .slice none 0 0]) ?_ 3 _ rfl
          refine blk_put (cs := #[.string mk, .string mk, .int .i64 0, .slice none 0 0]) ?_ 2 _ rfl
          refine blk_put (cs := #[.string mk, .string ⟨#[]⟩, .int .i64 0, .slice none 0 0]) ?_ 1 _ rfl
          exact blk_put (cs := #[.string ⟨#[]⟩, .string ⟨#[]⟩, .int .i64 0, .slice none 0 0]) HZA.out 0 _ rfl
      have hR := Kd.R_far (p := ⟨w.heap.size, 3, none⟩) (Kd.R_far (p := ⟨w.heap.size, 2, none⟩) (Kd.R_far (p := ⟨w.heap.size, 1, none⟩) (Kd.R_far (p := ⟨w.heap.size, 0, none⟩) HRA.out (fun k hk => hk.1) (.string mk)) (fun k hk => hk.1) (.string mk)) (fun k hk => hk.1) (.int .i64 sz)) (fun k hk => hk.1) (.slice none 0 0)
      exact ⟨mk, mk, sz, _, ([] : List S54), 0, rfl, Kd.R_lower (Kd.R_mono hR (fun _ _ => trivial)) (Nat.le_of_lt (Nat.lt_trans hlt hlt2)), (((HBA.out.setCell (p := ⟨w.heap.size, 0, none⟩) (Nat.le_refl _) _).setCell (p := ⟨w.heap.size, 1, none⟩) (Nat.le_refl _) _).setCell (p := ⟨w.heap.size, 2, none⟩) (Nat.le_refl _) _).setCell (p := ⟨w.heap.size, 3, none⟩) (Nat.le_refl _) _, .inl ⟨hok, rfl, rfl, rfl, same_eq mk sz ([] : List S54) (by unfold sameL; first | (rw [if_pos (by omega), show ((sz.toNat : Nat) : Int) = sz by omega]) | (rw [if_neg (by omega)])), rfl⟩⟩
    · rw [hkey.2 hok] at hrt
      have HRG : Aside0 (Calls Try.prog 24 #[.agg #[.string mk, .string mk, .int .i64 sz, .slice none 0 0]] W2 fun e w' => e = .returned (.bool false) ∧ Below W2.heap.size W2 w') := ⟨delta_Right.calls 20 mk mk sz (none) 0 ([] : List S54) false W2 (Kd.R_reads' HR4.out).2.2 (Nat.le_refl _) hrt⟩
      clear hrt hkey
      obtain ⟨x0, x1, x2, x3⟩ := blk4 HD4.out
      go_wp2_with (go_at_call 24; go_loud ((with_reducible refine HRG.out.mono ?_); rintro _ wa ⟨rfl, hbb⟩; have HBA := Aside0.mk (below_step HB4.out hbb); have HZA := Aside0.mk (blk_below HZ4.out hbb); clear hbb; obtain ⟨y0, y1, y2, y3⟩ := blk4 HZA.out; obtain ⟨g0, g1, g2, g3⟩ := blk4f HZA.out))
      refine bodyPost_ret (results_ct rfl _ _ w.heap.size 24 #[.string ⟨#[]⟩, .string ⟨#[]⟩, .int .i64 0, .slice none 0 0] (0, 0) _ rfl ?blk3 Try.underlying24 rfl (by kernel_rfl)) rfl ?_
      case blk3 =>
          refine blk_put (cs := #[.string ⟨#[]⟩, .string ⟨#[]⟩, .int .i64 0, .slice none 0 0]) ?_ 3 _ rfl
          refine blk_put (cs := #[.string ⟨#[]⟩, .string ⟨#[]⟩, .int .i64 0, .slice none 0 0]) ?_ 2 _ rfl
          refine blk_put (cs := #[.string ⟨#[]⟩, .string ⟨#[]⟩, .int .i64 0, .slice none 0 0]) ?_ 1 _ rfl
          exact blk_put (cs := #[.string ⟨#[]⟩, .string ⟨#[]⟩, .int .i64 0, .slice none 0 0]) HZA.out 0 _ rfl
      exact ⟨⟨#[]⟩, ⟨#[]⟩, 0, _, [], 1, rfl, Kd.R_nil _ _ _ _ _, (((HBA.out.setCell (p := ⟨w.heap.size, 0, none⟩) (Nat.le_refl _) _).setCell (p := ⟨w.heap.size, 1, none⟩) (Nat.le_refl _) _).setCell (p := ⟨w.heap.size, 2, none⟩) (Nat.le_refl _) _).setCell (p := ⟨w.heap.size, 3, none⟩) (Nat.le_refl _) _, .inr ⟨hok, rfl, rfl, rfl, rfl, rfl⟩⟩
end Go.Proofs.Ytjgelmfkoefclaa.PAll
