import Derived.BigQuiet
import Derived.Outline
import Derived.Deep.DeepMust
import Derived.RegionTactic
import Derived.Test.YtjgelmfkoefclaaPAllx0
namespace Go.Proofs.Ytjgelmfkoefclaa.PAll
open Go.RowKit Go.Proofs.YtjgelmfkoefclaaW.PrintWords Go.Proofs.YtjgelmfkoefclaaW.PrintLast Go.Proofs.YtjgelmfkoefclaaW.PrintMore
set_option linter.unusedVariables false
set_option linter.unusedSimpArgs false
attribute [local go_sem] max2_int min2_int max_two min_two

set_option maxHeartbeats 2000000 in
set_option maxRecDepth 100000 in
theorem search1_calls (bs bx : Nat) (A : Option Addr) (c : Nat) (l : List Int) (x : Int) (i : Nat) (w : World) (hbs : w.heap[bs]? = some (.cells #[.slice A l.length c] 69 (0, 0))) (hbx : w.heap[bx]? = some (.cells #[.int .i64 x] 3 (0, 0))) (hC : Kd.C (Kd.int .i64) w A l.length l) (hi : i < l.length) :
    Calls Try.prog 64 #[.int .i64 i, .pointer (some ⟨bs, 0, none⟩), .pointer (some ⟨bx, 0, none⟩)] w fun e w' => e = .returned (.bool (decide (x ≤ rd l (i : Nat)))) ∧ Below w.heap.size w w' := by
  have hcs : w.cell? ⟨bs, 0, none⟩ = some (.slice A l.length c) := (blk_cell hbs 0).trans rfl
  have hcx : w.cell? ⟨bx, 0, none⟩ = some (.int .i64 x) := (blk_cell hbx 0).trans rfl
  obtain ⟨ad, rfl, g0⟩ := Kd.at_int hC (i : Nat) (by omega) (by omega)
  rw [Int.toNat_natCast] at g0
  have hib : decide (i < l.length) = true := decide_eq_true hi
  have HC := Aside0.mk hC
  clear hC hbs hbx
  generalize rd l (i : Nat) = y at *
  go_enter Try.func64, Try.ntmps64
  go_wp2_with fail
  go_quiet (fail)
  go_wp2_with fail
  go_ret
  exact ⟨rfl, by first | exact pw_below_drewN (Below.refl _ _) _ | exact below_drew (Below.refl _ _)⟩

/-- Where x would lie in an ascending row. -/
def SearchPost (l : List Int) (x : Int) (r : Nat) : Prop := r ≤ l.length ∧ (∀ q : Nat, q < r → rd l (q : Nat) < x) ∧ ∀ q : Nat, r ≤ q → q < l.length → x ≤ rd l (q : Nat)
set_option maxHeartbeats 2000000 in
set_option maxRecDepth 100000 in
theorem search_calls (bs bx : Nat) (A : Option Addr) (c : Nat) (l : List Int) (x : Int) (w : World) (hbs : w.heap[bs]? = some (.cells #[.slice A l.length c] 69 (0, 0))) (hbx : w.heap[bx]? = some (.cells #[.int .i64 x] 3 (0, 0))) (hC : Kd.C (Kd.int .i64) w A l.length l) (hl : l.length ≤ 1000000)
    (hs : ∀ a b : Nat, a ≤ b → b < l.length → rd l (a : Nat) ≤ rd l (b : Nat)) :
    Calls Try.prog 63 #[.int .i64 l.length, .func (.func 64) #[] #[.pointer (some ⟨bs, 0, none⟩), .pointer (some ⟨bx, 0, none⟩)]] w fun e w' => ∃ r : Nat, e = .returned (.int .i64 r) ∧ SearchPost l x r ∧ Below w.heap.size w w' := by
  have HBS := Aside0.mk hbs
  have HBX := Aside0.mk hbx
  have HC := Aside0.mk hC
  have HS := Aside0.mk hs
  clear hbs hbx hC hs
  go_enter Try.func63, Try.ntmps63
  go_wp2_with fail
  go_loopw [5, 6] (fun v5 v6 wr => ∃ i j : Nat, v5 = .int .i64 i ∧ v6 = .int .i64 j ∧ i ≤ j ∧ j ≤ l.length ∧ Aside0 (∀ q : Nat, q < i → rd l (q : Nat) < x) ∧ Aside0 (∀ q : Nat, j ≤ q → q < l.length → x ≤ rd l (q : Nat)) ∧ Aside0 (Below w.heap.size w wr)) (fun v5 v6 _ => (intOf v6 - intOf v5).toNat)
  case atStart => exact ⟨0, l.length, rfl, rfl, by omega, by omega, ⟨fun q h => by omega⟩, ⟨fun q h h2 => by omega⟩, ⟨Below.refl _ _⟩⟩
  case round =>
    obtain ⟨i, j, rfl, rfl, hij, hjl, HI, HJ, HB⟩ := hrel
    by_cases hlt : i < j
    · have hb1 : decide (i < j) = true := decide_eq_true hlt
      obtain ⟨h, hh⟩ : ∃ h : Nat, (i + j) / 2 = h := ⟨_, rfl⟩
      have hhi : ((i : Int) + (j : Int)) / 2 = (h : Int) := by omega
      have hil : i ≤ h := by omega
      have hhj : h < j := by omega
      have hc := search1_calls bs bx A c l x h wr (blk_below HBS.out HB.out) (blk_below HBX.out HB.out) (Kd.C_below HC.out HB.out) (by omega)
      have HCC := Aside0.mk hc
      clear hc
      by_cases hy : x ≤ rd l (h : Nat)
      · have hyb : decide (x ≤ rd l (h : Nat)) = true := decide_eq_true hy
        have HY := Aside0.mk hy
        clear hy
        rw [hyb] at HCC
        clear hyb
        go_wp2_with (go_at_call 64; (try rw [hhi]); refine HCC.out.mono ?_; rintro _ wb ⟨rfl, hbb⟩; have HBB := Aside0.mk hbb; clear hbb)
        go_roundw
        case rel =>
          refine ⟨i, h, rfl, by first | rfl | (rw [hhi]), hil, by omega, HI, ⟨fun q h1 h2 => Int.le_trans HY.out (HS.out h q h1 h2)⟩, ⟨below_step HB.out HBB.out⟩⟩
        case measure => simp [intOf]; omega
      · have hyb : decide (x ≤ rd l (h : Nat)) = false := decide_eq_false hy
        have HY := Aside0.mk hy
        clear hy
        rw [hyb] at HCC
        clear hyb
        go_wp2_with (go_at_call 64; (try rw [hhi]); refine HCC.out.mono ?_; rintro _ wb ⟨rfl, hbb⟩; have HBB := Aside0.mk hbb; clear hbb)
        go_roundw
        case rel =>
          refine ⟨h + 1, j, by first | go_num | (rw [hhi]; go_num), rfl, by omega, hjl, ⟨fun q h1 => by have := HS.out q h (by omega) (by omega); have := HY.out; omega⟩, HJ, ⟨below_step HB.out HBB.out⟩⟩
        case measure => simp [intOf]; omega
    · have hb1 : decide (i < j) = false := decide_eq_false hlt
      have hej : i = j := by omega
      subst hej
      go_wp2_with fail
      go_ret
      exact ⟨i, rfl, ⟨hjl, HI.out, HJ.out⟩, HB.out⟩

set_option maxHeartbeats 2000000 in
set_option maxRecDepth 100000 in
theorem searchInts_calls (A : Option Addr) (c : Nat) (l : List Int) (x : Int) (w : World) (hC : Kd.C (Kd.int .i64) w A l.length l) (hl : l.length ≤ 1000000) (hs : ∀ a b : Nat, a ≤ b → b < l.length → rd l (a : Nat) ≤ rd l (b : Nat)) :
    Calls Try.prog 41 #[.slice A l.length c, .int .i64 x] w fun e w' => ∃ r : Nat, e = .returned (.int .i64 r) ∧ SearchPost l x r ∧ Below w.heap.size w w' := by
  have hnew : ((w.alloc (.cells #[.slice A l.length c] 69 (0, 0))).alloc (.cells #[.int .i64 x] 3 (0, 0))).heap[w.heap.size + 1]? = some (.cells #[.int .i64 x] 3 (0, 0)) := by
    have := blk_new (w.alloc (.cells #[.slice A l.length c] 69 (0, 0))) (.cells #[.int .i64 x] 3 (0, 0))
    rwa [World.size_alloc] at this
  have HC := Aside0.mk (search_calls w.heap.size (w.heap.size + 1) A c l x _ (blk_alloc (blk_new w _) (.cells #[.int .i64 x] 3 (0, 0))) hnew (Kd.C_below hC (below_alloc (below_alloc (Below.refl _ _) _) _)) hl hs)
  clear hC hs hnew
  go_enter Try.func41, Try.ntmps41
  go_wp2_with (go_at_call 63; refine HC.out.mono ?_; rintro _ wb ⟨r, rfl, hp, hbb⟩; have HP := Aside0.mk hp; have HBB := Aside0.mk hbb; clear hp hbb)
  go_ret
  exact ⟨r, rfl, HP.out, below_step (below_alloc (below_alloc (Below.refl _ _) _) _) HBB.out⟩
end Go.Proofs.Ytjgelmfkoefclaa.PAll
