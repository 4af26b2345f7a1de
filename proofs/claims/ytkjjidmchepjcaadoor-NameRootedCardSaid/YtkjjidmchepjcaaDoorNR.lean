/- The walk of the law NameRooted. -/
import Derived.Test.YtkjjidmchepjcaaDoorProg
import Derived.WalkKit
import Derived.ProofKit
import Derived.Lib.Hide
import Derived.WalkLawsBesides
import Derived.WalkSpells
import Derived.Deep.RegionWith
import Derived.Deep.QuietTactic
import Derived.BigQuiet
import Derived.Deep.DeepCutAuto
import Derived.Deep.CutBlock
import Derived.OpenShut
import Derived.OwnWalk
import Derived.Test.YtkjjidmchepjcaaDoorNF
import Derived.Test.YtkjjidmchepjcaaDoorCU
import Derived.Test.YtkjjidmchepjcaaDoorBN
namespace Go.Proofs.YtkjjidmchepjcaaDoor.nm
open Go Go.RowKit Go.ChangeShapes Go.WideShapes
set_option linter.unusedVariables false
set_option linter.unusedSimpArgs false
set_option maxRecDepth 100000 in
set_option maxHeartbeats 8000000 in
theorem cand_rooted (s : ByteArray) (m : Int) (W : World) (c : List UInt8) (ad : Option Addr) (n cp : Nat) (d : Int) (hs : s.size ≤ 1000000) (hm : W.cell? ⟨0, 0, none⟩ = some (.int .i64 m)) (hc : cleanL s.data.toList = (c, true, true)) :
    Calls Tryd.prog 34 #[.string s, .slice ad n cp, .int .i64 d] W fun e w' => ∃ g, e = .returned (.slice (some ⟨g, 0, none⟩) 1 1) ∧ w'.cell? ⟨g, 0, none⟩ = some (sV c) ∧ Below W.heap.size W w' := by
  have h := clean_calls s m W hs hm
  rw [hc] at h
  obtain ⟨C, hC⟩ : ∃ C, bsl c = C := ⟨_, rfl⟩
  have h2 : Calls Tryd.prog 37 #[.string s] W fun e w' => e = .returned (.tuple #[.string C, .bool true, .bool true]) ∧ Below W.heap.size W w' := by rw [← hC]; exact h
  have HC := Lib.hid hC
  have H := Lib.hid h2
  clear h h2 hC hc
  go_enter Tryd.func34, Tryd.ntmps34
  go_wp2_with (first
    | (go_at_call 37; refine H.out.mono ?_; rintro e w2 ⟨rfl, hb2⟩; have HB2 := Lib.hid hb2; clear hb2)
    | fail)
  go_ret
  refine ⟨w2.heap.size, rfl, ?_, HB2.out.alloc HB2.out.size _⟩
  rw [World.cell?_alloc_mark]
  show some (Value.string C) = _
  rw [← HC.out]
set_option maxRecDepth 100000 in
set_option maxHeartbeats 8000000 in
theorem namerooted_walk {H : Type} {enc : TypeId × Value → H} (W : World) (base : Nat) (m : Int) (hm : W.cell? ⟨0, 0, none⟩ = some (.int .i64 m))
    (v0 : Value) (d0 : DataW H) (p0 : List MemPlace) (k0 : Value.okWide Tryd.prog W .any base 9 v0) (h0 : DataW.Trod enc Tryd.prog W 0 (fun _ => true) true 9 v0 d0 p0)
    (v1 : Value) (d1 : DataW H) (p1 : List MemPlace) (k1 : Value.okWide Tryd.prog W .any base 33 v1) (h1 : DataW.Trod enc Tryd.prog W 0 (fun _ => true) true 33 v1 d1 p1)
    (v2 : Value) (d2 : DataW H) (p2 : List MemPlace) (k2 : Value.okWide Tryd.prog W .any base 3 v2) (h2 : DataW.Trod enc Tryd.prog W 0 (fun _ => true) true 3 v2 d2 p2) :
    Calls Tryd.prog 13 #[v0, v1, v2] W fun e w' => e = .returned (.bool true) ∧ Below W.heap.size W w' := by
  obtain ⟨s, rfl, _, _, hsb⟩ := Go.ChangeMaps.open_string Tryd.underlying9 k0 h0
  obtain ⟨ad, n, cp, rfl⟩ := okWide_slice Tryd.underlying33 k1
  obtain ⟨d, rfl, _, _, _⟩ := open_int Tryd.underlying3 k2 h2
  unfold maxLen at hsb
  have HSB := Lib.hid hsb
  have hcs := ac.cutS_size s 250
  obtain ⟨t, ht⟩ : ∃ t, ac.cutS s 250 = t := ⟨_, rfl⟩
  rw [ht] at hcs
  have HT := Lib.hid ht
  have HM := Lib.hid hm
  clear k0 k1 k2 h0 h1 h2 hsb ht hm
  rcases clean_fail (l := t.data.toList) with ⟨q, r, hq⟩ | hq
  · obtain ⟨hag, hql⟩ := clean_again hq
    have hrc := fun w => rclean_calls t w (by omega)
    rw [hq] at hrc
    obtain ⟨C, hC⟩ : ∃ C, bsl q = C := ⟨_, rfl⟩
    have hcat : C ++ ⟨#[46]⟩ = bsl (q ++ [46]) := by rw [← hC]; exact bsl_app q [46]
    have hsz : (C ++ ⟨#[46]⟩ : ByteArray).size ≤ 1000000 := by
      rw [hcat]
      show (q ++ [46]).toArray.size ≤ _
      simp
      omega
    have hdat : (C ++ ⟨#[46]⟩ : ByteArray).data.toList = q ++ [46] := by rw [hcat]
    have hcand := fun w (hm : w.cell? ⟨0, 0, none⟩ = some (.int .i64 m)) => cand_rooted (C ++ ⟨#[46]⟩) m w q ad n cp d hsz hm (by rw [hdat]; exact hag)
    have hrc2 : ∀ w, Calls Tryd.prog 39 #[.string t] w fun e w' => e = .returned (.tuple #[.string C, .bool r, .bool true]) ∧ Below w.heap.size w w' := by rw [← hC]; exact hrc
    have hcand2 : ∀ w, w.cell? ⟨0, 0, none⟩ = some (.int .i64 m) → Calls Tryd.prog 34 #[.string (C ++ ⟨#[46]⟩), .slice ad n cp, .int .i64 d] w fun e w' => ∃ g, e = .returned (.slice (some ⟨g, 0, none⟩) 1 1) ∧ w'.cell? ⟨g, 0, none⟩ = some (.string C) ∧ Below w.heap.size w w' := by rw [← hC]; rw [← hC] at hcand; exact hcand
    have HRC := Lib.hid hrc2
    have HCA := Lib.hid hcand2
    have hC253 : C.size ≤ 253 := by
      rw [← hC]
      show q.toArray.size ≤ 253
      simpa using hql
    clear hrc hrc2 hcand hcand2 hC hcat hsz hdat hag hql hq
    go_enter Tryd.func13, Tryd.ntmps13
    rcases (show 8 < n ∨ n ≤ 8 by omega) with h8 | h8
    · go_wp2_with (first
        | (go_at_call 31; refine (bgnames.begun _).mono ?_; rintro e w1 ⟨rfl, hb1⟩; have HB1 := Lib.hid hb1; clear hb1)
        | (go_at_call 32; refine (ac.cut_calls s 250 _ (by omega) HSB.out).mono ?_; rintro e w2 ⟨rfl, rfl⟩; rw [HT.out])
        | (go_at_call 39; refine (HRC.out _).mono ?_; rintro e w3 ⟨rfl, hb3⟩; have HB3 := Lib.hid (lb.below_then HB1.out hb3); clear hb3)
        | fail)
      go_ret
      exact ⟨rfl, HB3.out⟩
    · go_wp2_with (first
        | (go_at_call 31; refine (bgnames.begun _).mono ?_; rintro e w1 ⟨rfl, hb1⟩; have HB1 := Lib.hid hb1; clear hb1)
        | (go_at_call 32; refine (ac.cut_calls s 250 _ (by omega) HSB.out).mono ?_; rintro e w2 ⟨rfl, rfl⟩; rw [HT.out])
        | (go_at_call 39; refine (HRC.out _).mono ?_; rintro e w3 ⟨rfl, hb3⟩; have HB3 := Lib.hid (lb.below_then HB1.out hb3); clear hb3)
        | (go_at_call 34; refine (HCA.out w3 ((HB3.out.cell (p := ⟨0, 0, none⟩) (World.block_lt_of_cell? W _ HM.out)).trans HM.out)).mono ?_; rintro e w4 ⟨g, rfl, hg4, hb4⟩; have HB4 := Lib.hid (lb.below_then HB3.out hb4); clear hb4)
        | fail)
      go_ret
      exact ⟨by first | rfl | simp, HB4.out⟩
  · have hrc := fun w => rclean_calls t w (by omega)
    rw [hq] at hrc
    have HRC := Lib.hid hrc
    clear hrc hq
    go_enter Tryd.func13, Tryd.ntmps13
    go_wp2_with (first
      | (go_at_call 31; refine (bgnames.begun _).mono ?_; rintro e w1 ⟨rfl, hb1⟩; have HB1 := Lib.hid hb1; clear hb1)
      | (go_at_call 32; refine (ac.cut_calls s 250 _ (by omega) HSB.out).mono ?_; rintro e w2 ⟨rfl, rfl⟩; rw [HT.out])
      | (go_at_call 39; refine (HRC.out _).mono ?_; rintro e w3 ⟨rfl, hb3⟩; have HB3 := Lib.hid (lb.below_then HB1.out hb3); clear hb3)
      | fail)
    go_ret
    exact ⟨rfl, HB3.out⟩
end Go.Proofs.YtkjjidmchepjcaaDoor.nm
