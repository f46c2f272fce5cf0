/- A table's last block. -/
import Derived.BigQuiet
import Derived.Deep.DeepMust
import Derived.RegionTactic
import Derived.Deep.RegionHeld3
import Derived.Deep.RegionLaw
import Derived.StillTailTactics
import Derived.Test.YtjgelmfkoefclaaGivFind
import Derived.Test.YtjgelmfkoefclaaGivRoll
namespace Go.Proofs.Ytjgelmfkoefclaa.PAll
open Go.RowKit Go.Proofs.YtjgelmfkoefclaaW.PrintWords Go.Proofs.YtjgelmfkoefclaaW.PrintLast Go.Proofs.YtjgelmfkoefclaaW.PrintMore
set_option linter.unusedVariables false
set_option linter.unusedSimpArgs false

theorem cell_keep {w w' : World} {M : Nat} {p : Addr} {v : Value} (hg : w.grownBy w' (some M)) (hne : M < p.block) (h : w.cell? p = some v) : w'.cell? p = some v :=
  (World.cell?_of_block (a := p) (hg.block p.block (World.block_lt_of_cell? w p h) (fun e => by injection e with e; omega))).trans h
set_option maxHeartbeats 4000000 in
set_option maxRecDepth 100000 in
theorem tail_calls (w0 : World) (T b M : Nat) (bl n : Nat) (ws : List Int) (ss : List ByteArray) (nb : Nat) (l : List ByteArray) (s : ByteArray) (h0 : 16 ≤ bl) (h1 : bl ≤ 1024) (hn : n ≤ 524288) (hs : s.size = n % bl) (hws : ws.length = nB n bl) (hss : ss.length = ws.length) (w : World) (hT : Tb w0 w T bl n ws ss nb) (hb : Bk w b M l) (hM : M < w0.heap.size) (hl : l.length < 10000000) :
    Calls Try.prog 73 #[.pointer (some ⟨T, 0, none⟩), .pointer (some ⟨b, 0, none⟩), .string s] w fun e w' => ∃ (tb : Bool) (l' : List ByteArray), e = .returned (.bool tb) ∧ Ext l l' ∧ l'.length ≤ l.length + 1 ∧ Bk w' b M l' ∧ w.grownBy w' (some M) ∧ (tb = true → 0 < s.size ∧ rdOf ByteArray.empty ss ((ws.length - 1 : Nat) : Int) = markV l' s ∧ s ∈ l') := by
  have HTB := Aside0.mk hT
  have HBK := Aside0.mk hb
  have HL := Aside0.mk hl
  obtain ⟨hge, vW, vS, A, c, vk, ks, hz, hw, hsr, _⟩ := hT
  obtain ⟨Aw, cw, hvw⟩ := Kd.R_slice hw
  subst hvw
  obtain ⟨As, cs, hvs⟩ := Kd.R_slice hsr
  subst hvs
  have HW := Aside0.mk hw
  have HSR := Aside0.mk hsr
  have HZ := Aside0.mk hz
  obtain ⟨m, hm⟩ : ∃ m : Nat, m = n % bl := ⟨_, rfl⟩
  have hrem : (n : Int) % (bl : Int) = (m : Int) := by rw [hm]; rfl
  have hsm : s.size = m := by omega
  have HS := Aside0.mk hsm
  have HM := Aside0.mk hrem
  have hmm : m ≤ 1024 := by have := Nat.mod_lt n (show 0 < bl by omega); omega
  have hp : 0 < m → 0 < ws.length := fun h => by
    rw [hws]; unfold nB
    have : m ≤ n := by rw [hm]; exact Nat.mod_le _ _
    exact Nat.div_pos (by omega) (by omega)
  have HP := Aside0.mk hp
  have HSS := Aside0.mk hss
  have hb0 : ¬ (bl : Int) = 0 := by omega
  have hnl : ws.length ≤ 1000000 := by rw [hws]; have := nB_le n bl (by omega); omega
  obtain ⟨t0, t1, t2, t3, t4, t5⟩ := blk6 hz
  clear hb hl hz hw hsr hrem hp hss hws hm hs hsm
  go_enter Try.func73, Try.ntmps73
  go_wp2_with fail
  go_quiet (fail)
  go_upto_region 5 with fail
  rw [HM.out]
  refine wp_world (fun W hW => ?_)
  have HBW : Aside0 (Below w.heap.size w W) := ⟨by rw [hW]; exact pw_below_drewN (Below.refl _ _) _⟩
  have HZ2 := Aside0.mk (blk_below HZ.out HBW.out)
  have HW2 := Aside0.mk (Kd.R_below HW.out HBW.out)
  have HSR2 := Aside0.mk (Kd.R_below HSR.out HBW.out)
  have HBK2 := Aside0.mk (HBK.out.below HBW.out)
  have HGW := Aside0.mk (gb_of HBW.out (some M))
  clear hW t0 t1 t2 t3 t4 t5 HZ HW HSR HBK
  obtain ⟨t0, t1, t2, t3, t4, t5⟩ := blk6 HZ2.out
  by_cases hm0 : m = 0
  · as_aux_lemma =>
      have hb1 : decide (0 < m) = false := decide_eq_false (by omega)
      have hb2 : decide ((0 : Int) < (m : Int)) = false := decide_eq_false (by omega)
      clear hm0
      go_quiet (fail)
      go_wp2_with fail
      go_ret
      exact ⟨false, l, rfl, Ext.refl _, by omega, HBK2.out.below (by repeat (first | (with_reducible first | exact Below.refl _ _ | apply pw_below_drewN | apply below_drew1) | exact Below.refl _ _)), gb_trans HGW.out (by repeat (first | exact gb_refl _ _ | apply gb_drewN | apply gb_drew)), fun h => by cases h⟩
  · have hb1 : decide (0 < m) = true := decide_eq_true (by omega)
    have hb2 : decide ((0 : Int) < (m : Int)) = true := decide_eq_true (by omega)
    have hb3 : ((s.size : Int) == (m : Int)) = true := beq_iff_eq.mpr (by have := HS.out; omega)
    have hlw := HP.out (by omega)
    obtain ⟨la, hla⟩ : ∃ la : Nat, ws.length = la + 1 := ⟨ws.length - 1, by omega⟩
    have HLA : Aside0 ((ws.length : Int) - 1 = (la : Int)) := ⟨by omega⟩
    have HLB : Aside0 (ws.length - 1 = la) := ⟨by omega⟩
    rw [HLA.out]
    obtain ⟨qw, c1, hw1, _, hw3, _⟩ := Kd.R_form HW2.out hlw
    injection hw1 with hw1 hw1b hw1c
    subst hw1
    obtain ⟨qs, c2, hs1, _, hs3, _⟩ := Kd.R_form HSR2.out (by have := HSS.out; omega)
    injection hs1 with hs1 hs1b hs1c
    subst hs1
    obtain ⟨hwc, _⟩ := Kd.R_celln (enc := Value.int .i64) (h1 := fun _ => rfl) (0 : Int) HW2.out (la : Int) (by omega) (by omega)
    obtain ⟨hsc, _⟩ := Kd.R_celln (enc := Value.string) (h1 := fun _ => rfl) ByteArray.empty HSR2.out (la : Int) (by omega) (by have := HSS.out; omega)
    rw [Int.toNat_natCast] at hwc hsc
    obtain ⟨x, hx⟩ : ∃ x, x = rdOf (0 : Int) ws (la : Int) := ⟨_, rfl⟩
    obtain ⟨sx, hsx⟩ : ∃ sx, sx = rdOf ByteArray.empty ss (la : Int) := ⟨_, rfl⟩
    rw [← hx] at hwc
    rw [← hsx] at hsc
    have HSX := Aside0.mk hsx
    have q1 : (la : Int) < (ws.length : Int) := by omega
    have q2 : (la : Int) < (ss.length : Int) := by have := HSS.out; omega
    have q1b : decide (la < ws.length) = true := decide_eq_true (by omega)
    have q2b : decide (la < ss.length) = true := decide_eq_true (by omega)
    obtain ⟨r, hr, hr0, hr1⟩ := roll_f s (by have := HS.out; omega) 2000000 (by have := HS.out; omega)
    have HRC : Aside0 (∀ wx, Calls Try.prog 47 #[.string s] wx fun e w' => e = .returned (.int .i64 r) ∧ ∃ q, w' = wx.drewN q) := ⟨fun wx => (roll_Sum.calls 2000000 s r wx hr).mono (fun e w' h => ⟨h.1, h.2.out⟩)⟩
    have HQW : Aside0 (M < qw) := ⟨by have := Kd.R_base HW2.out qw (by simp [Value.ownBlock]); omega⟩
    have HQS : Aside0 (M < qs) := ⟨by have := Kd.R_base HSR2.out qs (by simp [Value.ownBlock]); omega⟩
    have HMT : Aside0 (M < T) := ⟨by omega⟩
    have HMX : Aside0 (s.size ≤ maxLen) := ⟨by have := HS.out; unfold maxLen; omega⟩
    clear hw1b hw1c hs1b hs1c hx hsx hr hr0 hr1 hw3 hs3 hla
    by_cases hrx : r = x
    · as_aux_lemma =>
        have hb4 : (r == x) = true := beq_iff_eq.mpr hrx
        subst hrx
        go_region_held3 (fun w' => w'.cell? ⟨T, 2, none⟩ = some (.slice (some ⟨qw, 0, none⟩) ws.length cw) ∧ w'.cell? ⟨T, 3, none⟩ = some (.slice (some ⟨qs, 0, none⟩) ss.length cs) ∧ w'.cell? ⟨qw, la, none⟩ = some (.int .i64 r) ∧ w'.cell? ⟨qs, la, none⟩ = some (.string sx)) (go_keep) (first | (go_at_call 47; ((with_reducible refine (HRC.out _).mono ?_); rintro _ wb ⟨rfl, ⟨nd, rfl⟩⟩)) | (go_at_call 36; ((with_reducible refine (mark_calls b M l s _ ?hbk HL.out HMX.out).mono ?_); (case hbk => exact HBK2.out.below (by repeat (first | (with_reducible first | exact Below.refl _ _ | apply pw_below_drewN | apply below_drew1) | exact Below.refl _ _))); rintro _ wc ⟨rfl, hbk, hgb⟩; have HBC := Aside0.mk hbk; have HGC := Aside0.mk hgb; clear hbk hgb; have e1 := cell_keep HGC.out (p := ⟨T, 2, none⟩) HMT.out t2; have e2 := cell_keep HGC.out (p := ⟨T, 3, none⟩) HMT.out t3; have e3 := cell_keep HGC.out (p := ⟨qw, la, none⟩) HQW.out hwc; have e4 := cell_keep HGC.out (p := ⟨qs, la, none⟩) HQS.out hsc)))
        go_wp2_with fail
        go_ret
        refine ⟨_, addT l s, rfl, Ext.add _ _, (addT_length _ _).1, HBC.out, gb_trans HGW.out (gb_trans (by repeat (first | exact gb_refl _ _ | apply gb_drewN | apply gb_drew)) HGC.out), fun h => ⟨by have := HS.out; omega, ?_, addT_mem _ _⟩⟩
        rw [HLB.out, ← HSX.out]
        exact (toL_inj (beq_iff_eq.mp h)).symm
    · as_aux_lemma =>
        have hb4 : (r == x) = false := beq_eq_false_iff_ne.mpr hrx
        go_quiet ((go_at_call 47; exact Calls.quiet_of (HRC.out _)))
        go_wp2_with fail
        go_ret
        exact ⟨false, l, rfl, Ext.refl _, by omega, HBK2.out.below (by repeat (first | (with_reducible first | exact Below.refl _ _ | apply pw_below_drewN | apply below_drew1) | exact Below.refl _ _)), gb_trans HGW.out (by repeat (first | exact gb_refl _ _ | apply gb_drewN | apply gb_drew)), fun h => by cases h⟩
end Go.Proofs.Ytjgelmfkoefclaa.PAll
