import Derived.BigQuiet
import Derived.Outline
import Derived.Deep.DeepMust
import Derived.RegionTactic
import Derived.ChangeAlike
import Derived.Test.YtjgelmfkoefclaaPAllx7
namespace Go.Proofs.Ytjgelmfkoefclaa.PAll
open Go.RowKit Go.Proofs.YtjgelmfkoefclaaW.PrintWords Go.Proofs.YtjgelmfkoefclaaW.PrintLast Go.Proofs.YtjgelmfkoefclaaW.PrintMore
set_option linter.unusedVariables false
set_option linter.unusedSimpArgs false
attribute [local go_sem] max2_int min2_int max_two min_two

/-- Where step k begins. -/
def sumT (l : List S54) (k : Nat) : Int := (l.take k).foldl (fun n x => wrap64 (n + wrap64 (x.f1 + (x.f2.size : Int)))) 0
def fromT (l : List S54) (k : Nat) : List Int := (List.range k).map (sumT l)
theorem sumT_succ (l : List S54) (k : Nat) (h : k < l.length) : sumT l (k + 1) = wrap64 (sumT l k + wrap64 ((rd_T54 l k).f1 + ((rd_T54 l k).f2.size : Int))) := by
  unfold sumT rd_T54
  rw [List.take_add_one, List.foldl_append, Int.toNat_natCast, List.getD_eq_getElem?_getD, List.getElem?_eq_getElem h]
  rfl
theorem fromT_succ (l : List S54) (k : Nat) : fromT l (k + 1) = fromT l k ++ [sumT l k] := by
  unfold fromT; rw [List.range_succ, List.map_append]; rfl
theorem fromT_length (l : List S54) (k : Nat) : (fromT l k).length = k := by simp [fromT]

set_option maxHeartbeats 2000000 in
set_option maxRecDepth 100000 in
theorem laid_calls (A0 : Option Addr) (c0 : Nat) (l : List S54) (w : World) (hr0 : Kd.C k54 w A0 l.length l) (hc0 : l.length ≤ c0) (hln : l.length ≤ 1000000) :
    Calls Try.prog 29 #[.slice A0 l.length c0] w fun e w' => ∃ (b : Nat) (v : Value), e = .returned (.pointer (some ⟨b, 0, none⟩)) ∧ w.heap.size ≤ b ∧ w'.heap[b]? = some (.cells #[.slice A0 l.length c0, v] 82 (0, 0)) ∧ Kd.R (Kd.int .i64) 3 w' w.heap.size (fun k => w.heap.size + 1 ≤ k) v (fromT l l.length) ∧ Below w.heap.size w w' := by
  have HR0 := Aside0.mk hr0
  have HC0 := Aside0.mk hc0
  clear hr0 hc0
  go_enter Try.func29, Try.ntmps29
  go_wp2_with fail
  go_loopw [4, 12] (fun v4 v12 wr => ∃ (k : Nat) (v' : Value), k ≤ l.length ∧ v4 = .int .i64 (sumT l k) ∧ v12 = .int .i64 k ∧ Aside0 (wr.heap[w.heap.size]? = some (.cells #[.slice A0 l.length c0, v'] 82 (0, 0))) ∧ Aside0 (Kd.R (Kd.int .i64) 3 wr w.heap.size (fun b => w.heap.size + 1 ≤ b) v' (fromT l k)) ∧ Aside0 (Below w.heap.size w wr)) (fun _ v12 _ => l.length - (intOf v12).toNat)
  case atStart => exact ⟨0, .slice none 0 0, Nat.zero_le _, rfl, rfl, ⟨blk_new w _⟩, ⟨Kd.R_nil _ _ _ _ _⟩, ⟨below_alloc (Below.refl _ _) _⟩⟩
  case round =>
    obtain ⟨k, v', hk, rfl, rfl, HBL, HR, HB⟩ := hrel
    by_cases hlt : k < l.length
    · have hb1 : decide (k < l.length) = true := decide_eq_true hlt
      obtain ⟨ad, rfl, g0, g1, g2⟩ := at_T54 (Kd.C_below HR0.out HB.out) (k : Int) (by omega) (by omega)
      have HT := Aside0.mk (sumT_succ l k hlt)
      obtain ⟨x, hx⟩ : ∃ x, x = rd_T54 l (k : Int) := ⟨_, rfl⟩
      rw [← hx] at g0 g1 g2 HT
      rw [Int.toNat_natCast] at g0 g1 g2
      obtain ⟨p, q, t⟩ := x
      clear hx
      obtain ⟨sm, hsm⟩ : ∃ sm, sm = sumT l k := ⟨_, rfl⟩
      rw [← hsm] at HT ⊢
      have HSM := Aside0.mk hsm
      clear hsm
      have hB1 : w.heap.size + 1 ≤ wr.heap.size := by have := blk_lt HBL.out; omega
      have hc1 : ∀ X, (wr.alloc X).cell? ⟨w.heap.size, 1, none⟩ = some v' := fun X => (blk_cell (blk_alloc HBL.out X) 1).trans rfl
      have HRL := Aside0.mk (fromT_length l k)
      obtain ⟨fs, hfs⟩ : ∃ fs, fs = fromT l k := ⟨_, rfl⟩
      rw [← hfs] at HR HRL
      have HFS := Aside0.mk hfs
      clear hfs
      have HSA : Aside0 (w.heap.size ≤ wr.heap.size) := ⟨by omega⟩
      have HSB : Aside0 (w.heap.size + 1 ≤ wr.heap.size) := ⟨by omega⟩
      have hf1 : ∀ X, (wr.alloc X).frozen? ⟨w.heap.size, 1, none⟩ = false := fun X => blk_frozen (blk_alloc HBL.out X) 1
      go_wp2_with (first | ((with_reducible refine gate_builtin (b := .append) (xs := #[.tmp 20, .tmp 22]) rfl ?_); at_builtin; go_loud (refine Kd.R_append (Kd.int .i64) (w0 := wr) w.heap.size rfl (.tmp 20) (.tmp 22) 69 3 (.int .i64 0) 8 rfl Try.underlying69 info3 rfl (by decide) (by omega) v' fs sm [.int .i64 sm] (fun b => w.heap.size + 1 ≤ b) (fun _ => False) rfl ?aX ?aP (fun _ hk => hk.elim) ?aF ?aO ?aB ?aS ?aL ?_; (case aX => (show (Value.slice (some ⟨wr.heap.size + 1, 0, none⟩) 1 1) = _; simp)); (case aP => exact rfl); (case aF => exact (fun q_ hq_ => by have := HSB.out; simp at hq_; omega)); (case aO => exact (by (with_reducible repeat (first | apply Kd.R_alloc | apply Kd.R_drewN | apply Kd.R_drew)); exact HR.out)); (case aB => exact ((Below.refl w.heap.size wr).alloc HSA.out _)); (case aS => exact (Nat.le_trans HSA.out (by simp))); (case aL => have := HRL.out; omega); intro v1 w1 hR1 hB1 hG1 hO1; have hgr : w1.heap[w.heap.size]? = some (.cells #[.slice (some ad) l.length c0, v'] 82 (0, 0)) := blk_grown (blk_alloc HBL.out _) hG1 (Kd.R_away HR.out (fun k_ hk => by omega)); have hcc : w1.cell? ⟨w.heap.size, 1, none⟩ = some v' := (blk_cell hgr 1).trans rfl; have hff : w1.frozen? ⟨w.heap.size, 1, none⟩ = false := blk_frozen hgr 1; have HGR := Aside0.mk hgr; clear hgr; obtain ⟨A1, c1, hv1⟩ := Kd.R_slice hR1; rw [List.length_append, List.length_singleton] at hv1; subst hv1; have HR3 := Aside0.mk hR1; have HB3 := Aside0.mk hB1; have HX3 := Aside0.mk (show w1.heap[wr.heap.size]? = some (.cells #[.int .i64 p, .int .i64 q, .string t] 54 (0, 0)) from blk_grown (blk_new wr _) hG1 (fun e => by have := Kd.R_lt HR.out _ e.symm; omega)); have hx0 : w1.cell? ⟨wr.heap.size, 0, none⟩ = some (.int .i64 p) := (blk_cell HX3.out 0).trans rfl; have hx1 : w1.cell? ⟨wr.heap.size, 1, none⟩ = some (.int .i64 q) := (blk_cell HX3.out 1).trans rfl; have hx2 : w1.cell? ⟨wr.heap.size, 2, none⟩ = some (.string t) := (blk_cell HX3.out 2).trans rfl; clear hR1 hB1 hG1 hO1)) | (go_at_call 40; go_loud (refine (chain_length.calls p q t _ _ rfl).mono ?_; rintro _ wb ⟨rfl, hbb⟩; have HBB := Aside0.mk hbb; clear hbb)))
      go_roundw
      case rel =>
        refine ⟨k + 1, .slice A1 (fs.length + 1) c1, by omega, ?_, by go_num, ⟨?_⟩, ⟨?_⟩, ⟨?_⟩⟩
        · rw [HT.out]
        · exact blk_below (blk_put HGR.out 1 _ rfl) HBB.out
        · rw [fromT_succ, ← HFS.out, ← HSM.out]
          exact Kd.R_below (Kd.R_far HR3.out (fun k_ hk => by show k_ ≠ w.heap.size; omega) _) HBB.out
        · exact below_step ((HB.out.trans HB3.out).setCell (p := ⟨w.heap.size, 1, none⟩) (Nat.le_refl _) _) HBB.out
      case measure => simp [intOf]; omega
    · have hke : k = l.length := by omega
      subst hke
      go_wp2_with fail
      go_ret
      exact ⟨w.heap.size, v', rfl, Nat.le_refl _, HBL.out, HR.out, HB.out⟩
end Go.Proofs.Ytjgelmfkoefclaa.PAll
