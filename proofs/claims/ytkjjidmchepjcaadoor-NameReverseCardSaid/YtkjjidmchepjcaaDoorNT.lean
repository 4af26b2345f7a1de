/- The reference's Reverse; the walk of the law NameReverse. -/
import Derived.Test.YtkjjidmchepjcaaDoorProg
import Derived.WalkKit
import Derived.ProofKit
import Derived.Lib.Hide
import Derived.WalkLawsBesides
import Derived.WalkSpells
import Derived.Deep.RegionWith
import Derived.Deep.QuietTactic
import Derived.BigQuiet
import Derived.Deep.DeepCutAuto
import Derived.Deep.CutBlock
import Derived.OwnWalk
import Derived.Test.YtkjjidmchepjcaaDoorNQ
import Derived.Test.YtkjjidmchepjcaaDoorNH
import Derived.Test.YtkjjidmchepjcaaDoorCU
import Derived.Test.YtkjjidmchepjcaaDoorBN
namespace Go.Proofs.YtkjjidmchepjcaaDoor.nm
open Go Go.RowKit Go.ChangeShapes Go.WideShapes
set_option linter.unusedVariables false
set_option linter.unusedSimpArgs false
theorem inter_flat : ∀ (D : List (List UInt8)) (r : List UInt8), D ≠ [] → ([46] : List UInt8).intercalate D ++ 46 :: r = D.flatMap (· ++ [46]) ++ r
  | [], _, h => absurd rfl h
  | [x], r, _ => by simp [List.intercalate]
  | x :: y :: X, r, _ => by
    have h2 := inter_flat (y :: X) r (by simp)
    have e : ([46] : List UInt8).intercalate (x :: y :: X) = x ++ 46 :: ([46] : List UInt8).intercalate (y :: X) := by simp [List.intercalate]
    rw [e, List.flatMap_cons, List.append_assoc, List.append_assoc, List.cons_append, h2]
    simp
theorem rev_at4 (s : ByteArray) (k : Nat) (h : s.size = 4) (hk : k < 4) : s.data.toList.reverse.take (k + 1) = s.data.toList.reverse.take k ++ [s.data.toList.getD (3 - k) 0] := by
  have hsl : s.data.toList.length = 4 := h
  have hl : s.data.toList.reverse.length = 4 := by rw [List.length_reverse]; exact hsl
  rw [List.take_succ_eq_append_getElem (by omega)]
  congr 2
  rw [List.getElem_reverse]
  have : 3 - k < s.data.toList.length := by omega
  rw [List.getD_eq_getElem?_getD, List.getElem?_eq_getElem this, Option.getD_some]
  congr 1
  omega
def dotted (L : List UInt8) : List UInt8 := L.flatMap fun c => decL c.toNat ++ [46]
theorem dotted_len : ∀ L : List UInt8, (dotted L).length ≤ 4 * L.length
  | [] => Nat.le_refl _
  | x :: L => by
    have h1 := decL_len x.toNat
    have h2 := dotted_len L
    simp only [dotted, List.flatMap_cons, List.length_append, List.length_cons, List.length_nil] at h2 ⊢
    omega
set_option maxRecDepth 100000 in
set_option maxHeartbeats 8000000 in
theorem rrev4_calls (s : ByteArray) (W : World) (h4 : s.size = 4) :
    Calls Tryd.prog 38 #[.string s] W fun e w' => e = .returned (sV (dotted s.data.toList.reverse ++ sfx4)) ∧ Below W.heap.size W w' := by
  have hat := fun k hk => rev_at4 s k h4 hk
  have hL4 : s.data.toList.reverse.length = 4 := by rw [List.length_reverse]; exact h4
  obtain ⟨L, hL⟩ : ∃ L, s.data.toList.reverse = L := ⟨_, rfl⟩
  rw [hL] at hat hL4 ⊢
  have HAT := Lib.hid hat
  have HL4 := Lib.hid hL4
  clear hat hL4 hL
  go_enter Tryd.func38, Tryd.ntmps38
  go_upto_block 1 with fail
  go_cut [3] (fun sv wx => sv = .string (bsl (dotted L)) ∧ Below W.heap.size W wx)
  case first =>
    go_wp2_with fail
    go_loopw [3, 4] (fun sv iv wr => ∃ k : Nat, k ≤ 4 ∧ iv = .int .i64 (3 - (k : Int)) ∧ sv = .string (bsl (dotted (L.take k))) ∧ Below W.heap.size W wr) (fun _ iv _ => (intOf iv + 1).toNat)
    case atStart => exact ⟨0, Nat.zero_le _, rfl, rfl, Below.refl _ _⟩
    case round =>
      obtain ⟨k, hk, rfl, rfl, hb⟩ := hrel
      have HB := Lib.hid hb
      clear hb
      by_cases hlt : k < 4
      · have hst := HAT.out k hlt
        obtain ⟨x, hx'⟩ : ∃ x, s.data.toList.getD (3 - k) 0 = x := ⟨_, rfl⟩
        have hlt3 : 3 - k < s.size := by omega
        have hat : s[3 - k] = x := by rw [at_data, hx']
        rw [hx'] at hst
        have hc255 : x.toNat < 256 := x.toNat_lt
        have hnx : dotted (L.take (k + 1)) = dotted (L.take k) ++ (decL x.toNat ++ [46]) := by
          rw [hst]
          simp [dotted]
        obtain ⟨T, hT⟩ : ∃ T, bsl (decL x.toNat) = T := ⟨_, rfl⟩
        obtain ⟨S, hS⟩ : ∃ S, bsl (dotted (L.take k)) = S := ⟨_, rfl⟩
        have hTs : T.size ≤ 3 := by rw [← hT, bsz]; exact decL_len _
        have hSs : S.size ≤ 16 := by
          rw [← hS, bsz]
          have := dotted_len (L.take k)
          simp at this
          omega
        have hdc : ∀ w, Calls Tryd.prog 78 #[.int .i64 (x.toNat : Int)] w fun e w' => e = .returned (.string T) ∧ Below w.heap.size w w' := by rw [← hT]; exact fun w => dec_calls x.toNat hc255 w
        have hfin : S ++ (T ++ ⟨#[46]⟩) = bsl (dotted (L.take (k + 1))) := by
          rw [← hS, ← hT, hnx, show (⟨#[46]⟩ : ByteArray) = bsl [46] from rfl, bsl_app, bsl_app]
        have HDC := Lib.hid hdc
        have HFIN := Lib.hid hfin
        clear hst hx' hnx hT hdc hfin
        rw [hS]
        clear hS
        go_wp2_with (first
          | (go_at_call 78; refine (HDC.out _).mono ?_; rintro e w3 ⟨rfl, hb3⟩; have HB3 := Lib.hid (lb.below_then HB.out hb3); clear hb3)
          | fail)
        refine ⟨⟨k + 1, by omega, by go_num, ?_, HB3.out⟩, by simp [intOf]; omega⟩
        exact congrArg Value.string HFIN.out
      · obtain rfl : k = 4 := by omega
        have hfull : L.take 4 = L := by rw [← HL4.out, List.take_length]
        rw [hfull]
        clear hfull
        go_wp2_with fail
        go_meet
        exact ⟨rfl, HB.out⟩
  case rest =>
  obtain ⟨rfl, hb⟩ := hcut
  have hSs := dotted_len L
  rw [HL4.out] at hSs
  obtain ⟨S, hS⟩ : ∃ S, bsl (dotted L) = S := ⟨_, rfl⟩
  have hSz : S.size ≤ 16 := by rw [← hS, bsz]; omega
  have hfin : S ++ ⟨#[105, 110, 45, 97, 100, 100, 114, 46, 97, 114, 112, 97]⟩ = bsl (dotted L ++ sfx4) := by rw [← hS]; exact bsl_app _ _
  have HFIN := Lib.hid hfin
  have HB := Lib.hid hb
  rw [hS]
  clear hb hfin hS hSs
  go_wp2_with fail
  go_ret
  exact ⟨congrArg (fun b => Ending.returned (Value.string b)) HFIN.out, HB.out⟩
theorem dig_hex : ∀ v : Fin 16, (ByteArray.extract ⟨#[48, 49, 50, 51, 52, 53, 54, 55, 56, 57, 97, 98, 99, 100, 101, 102]⟩ v.val (v.val + 1)).data.toList = [hexC v.val] := by decide +kernel
theorem dig_at (v : Nat) (h : v < 16) : ByteArray.extract ⟨#[48, 49, 50, 51, 52, 53, 54, 55, 56, 57, 97, 98, 99, 100, 101, 102]⟩ v (v + 1) = bsl [hexC v] := by
  have := dig_hex ⟨v, h⟩
  rw [← this, bsl_back]
def dotted6 (L : List UInt8) : List UInt8 := L.flatMap fun c => [hexC (c.toNat % 16), 46, hexC (c.toNat / 16), 46]
theorem dotted6_len : ∀ L : List UInt8, (dotted6 L).length = 4 * L.length
  | [] => rfl
  | x :: L => by
    have h2 := dotted6_len L
    simp only [dotted6, List.flatMap_cons, List.length_append, List.length_cons, List.length_nil] at h2 ⊢
    omega
set_option maxRecDepth 100000 in
set_option maxHeartbeats 8000000 in
theorem rrev16_calls (s : ByteArray) (W : World) (h16 : s.size = 16) :
    Calls Tryd.prog 38 #[.string s] W fun e w' => e = .returned (sV (dotted6 s.data.toList.reverse ++ sfx6)) ∧ Below W.heap.size W w' := by
  have hat := fun k hk => rev_at s k h16 hk
  have hL16 : s.data.toList.reverse.length = 16 := by rw [List.length_reverse]; exact h16
  obtain ⟨L, hL⟩ : ∃ L, s.data.toList.reverse = L := ⟨_, rfl⟩
  rw [hL] at hat hL16 ⊢
  have HAT := Lib.hid hat
  have HL16 := Lib.hid hL16
  clear hat hL16 hL
  go_enter Tryd.func38, Tryd.ntmps38
  go_upto_block 3 with fail
  go_cut [3] (fun sv wx => sv = .string (bsl (dotted6 L)) ∧ ∃ q, wx = W.drewN q)
  case first =>
    go_wp2_with fail
    go_loopw [3, 5] (fun sv iv wr => ∃ k : Nat, k ≤ 16 ∧ iv = .int .i64 (15 - (k : Int)) ∧ sv = .string (bsl (dotted6 (L.take k))) ∧ ∃ q, wr = W.drewN q) (fun _ iv _ => (intOf iv + 1).toNat)
    case atStart => exact ⟨0, Nat.zero_le _, rfl, rfl, 0, rfl⟩
    case round =>
      obtain ⟨k, hk, rfl, rfl, q, rfl⟩ := hrel
      by_cases hlt : k < 16
      · have hst := HAT.out k hlt
        obtain ⟨x, hx'⟩ : ∃ x, s.data.toList.getD (15 - k) 0 = x := ⟨_, rfl⟩
        have hlt3 : 15 - k < s.size := by omega
        have hat : s[15 - k] = x := by rw [at_data, hx']
        rw [hx'] at hst
        have hc255 : x.toNat < 256 := x.toNat_lt
        have hnx : dotted6 (L.take (k + 1)) = dotted6 (L.take k) ++ [hexC (x.toNat % 16), 46, hexC (x.toNat / 16), 46] := by
          rw [hst]
          simp [dotted6]
        obtain ⟨S, hS⟩ : ∃ S, bsl (dotted6 (L.take k)) = S := ⟨_, rfl⟩
        have hSs : S.size ≤ 64 := by
          rw [← hS, bsz, dotted6_len]
          simp
          omega
        have hd1 := dig_at (x.toNat % 16) (by omega)
        have hd2 := dig_at (x.toNat / 16) (by omega)
        have HNX := Lib.hid hnx
        have HD1 := Lib.hid hd1
        have HD2 := Lib.hid hd2
        have HS := Lib.hid hS
        rw [hS]
        clear hst hx' hnx hS hd1 hd2
        go_upto_region 13 with fail
        go_quiet (fail)
        go_upto_region 14 with fail
        obtain ⟨v, hv⟩ : ∃ v : Nat, x.toNat % 16 = v := ⟨_, rfl⟩
        obtain ⟨u, hu⟩ : ∃ u : Nat, x.toNat / 16 = u := ⟨_, rfl⟩
        have hvi : (x.toNat : Int) % 16 = (v : Int) := by omega
        have hui : (x.toNat : Int) / 16 = (u : Int) := by omega
        have hv16 : v < 16 := by omega
        have hu16 : u < 16 := by omega
        simp only [hvi, hui]
        have hfin : S ++ (ByteArray.extract ⟨#[48, 49, 50, 51, 52, 53, 54, 55, 56, 57, 97, 98, 99, 100, 101, 102]⟩ v (v + 1) ++ ⟨#[46]⟩ ++ ByteArray.extract ⟨#[48, 49, 50, 51, 52, 53, 54, 55, 56, 57, 97, 98, 99, 100, 101, 102]⟩ u (u + 1) ++ ⟨#[46]⟩) = bsl (dotted6 (L.take (k + 1))) := by
          rw [← HS.out, HNX.out, dig_at v hv16, dig_at u hu16, hv, hu, show (⟨#[46]⟩ : ByteArray) = bsl [46] from rfl, bsl_app, bsl_app, bsl_app, bsl_app]
          rfl
        have HFIN := Lib.hid hfin
        clear hfin hv hu hvi hui
        go_quiet (fail)
        go_wp2
        refine ⟨⟨k + 1, by omega, by go_num, congrArg Value.string HFIN.out, _, rfl⟩, by simp [intOf]; omega⟩
      · obtain rfl : k = 16 := by omega
        have hfull : L.take 16 = L := by rw [← HL16.out, List.take_length]
        rw [hfull]
        clear hfull
        go_wp2_with fail
        go_meet
        exact ⟨rfl, q, rfl⟩
  case rest =>
  obtain ⟨rfl, q, rfl⟩ := hcut
  have hSs := dotted6_len L
  rw [HL16.out] at hSs
  obtain ⟨S, hS⟩ : ∃ S, bsl (dotted6 L) = S := ⟨_, rfl⟩
  have hSz : S.size ≤ 64 := by rw [← hS, bsz]; omega
  have hfin : S ++ ⟨#[105, 112, 54, 46, 97, 114, 112, 97]⟩ = bsl (dotted6 L ++ sfx6) := by rw [← hS]; exact bsl_app _ _
  have HFIN := Lib.hid hfin
  rw [hS]
  clear hfin hS hSs
  go_wp2_with fail
  go_ret
  exact ⟨congrArg (fun b => Ending.returned (Value.string b)) HFIN.out, lb.drewN_of (Below.refl _ _) _⟩
theorem revx_calls (s : ByteArray) (W : World) (h4 : s.size ≠ 4) (h16 : s.size ≠ 16) :
    Calls Tryd.prog 36 #[.string s] W fun e w' => e = .returned (.string ⟨#[]⟩) ∧ W = w' := by
  have e1 : ((s.size : Int) == 4) = false := by rw [beq_eq_false_iff_ne]; omega
  have e2 : ((s.size : Int) == 16) = false := by rw [beq_eq_false_iff_ne]; omega
  go_enter Tryd.func36, Tryd.ntmps36
  go_wp2
  go_ret
  exact ⟨rfl, by trivial⟩
theorem rrevx_calls (s : ByteArray) (W : World) (h4 : s.size ≠ 4) (h16 : s.size ≠ 16) :
    Calls Tryd.prog 38 #[.string s] W fun e w' => e = .returned (.string ⟨#[]⟩) ∧ W = w' := by
  have e1 : ((s.size : Int) == 4) = false := by rw [beq_eq_false_iff_ne]; omega
  have e2 : ((s.size : Int) == 16) = false := by rw [beq_eq_false_iff_ne]; omega
  go_enter Tryd.func38, Tryd.ntmps38
  go_wp2
  go_ret
  exact ⟨rfl, by trivial⟩
/-! What is made so is a name. -/
theorem spl_app (p l : List UInt8) (h : ∀ c ∈ p, (c == 46) = false) : spl 46 (p ++ 46 :: l) = p :: spl 46 l := by
  induction p with
  | nil => exact spl_hit 46 l
  | cons x p ih =>
    have hx := h x (by simp)
    have := ih (fun c hc => h c (by simp [hc]))
    obtain ⟨q, qs, h1, h2⟩ := spl_cons 46 x (p ++ 46 :: l) hx
    rw [List.cons_append, h2]
    rw [this] at h1
    simp only [List.cons.injEq] at h1
    rw [← h1.1, ← h1.2]
theorem dec_lab : ∀ n : Fin 256, labelB (decL n.val) = true ∧ (decL n.val).all (fun c => !(c == 46)) = true := by decide +kernel
theorem hex_lab : ∀ n : Fin 16, labelB [hexC n.val] = true ∧ ([hexC n.val] : List UInt8).all (fun c => !(c == 46)) = true := by decide +kernel
theorem spl_inter : ∀ (D : List (List UInt8)) (r : List UInt8), (∀ p ∈ D, labelB p = true ∧ p.all (fun c => !(c == 46)) = true) → (spl 46 r).all labelB = true → (spl 46 (D.flatMap (· ++ [46]) ++ r)).all labelB = true
  | [], r, _, h => h
  | p :: D, r, hD, h => by
    obtain ⟨h1, h2⟩ := hD p (by simp)
    have h3 := spl_inter D r (fun q hq => hD q (by simp [hq])) h
    have e : (p :: D).flatMap (· ++ [46]) ++ r = p ++ 46 :: (D.flatMap (· ++ [46]) ++ r) := by simp
    rw [e, spl_app p _ (fun c hc => by
      have := List.all_eq_true.1 h2 c hc
      simpa using this), List.all_cons, h1, h3]
    rfl
theorem ok_of {D : List (List UInt8)} {r : List UInt8} (hD : ∀ p ∈ D, labelB p = true ∧ p.all (fun c => !(c == 46)) = true) (hr : (spl 46 r).all labelB = true) (hl : (D.flatMap (· ++ [46]) ++ r).length ≤ 253) (hlast : r.getLast? = some 97) :
    ∃ n q, cleanL (D.flatMap (· ++ [46]) ++ r) = (n, q, true) := by
  have hne : r ≠ [] := by intro h; rw [h] at hlast; cases hlast
  have hroot : root (D.flatMap (· ++ [46]) ++ r) = (D.flatMap (· ++ [46]) ++ r, false) := by
    unfold root
    rw [List.getLast?_append, hlast]
    simp
  refine ⟨_, _, clean_yes ?_⟩
  rw [hroot]
  unfold okN
  simp only
  rw [spl_inter D r hD hr, decide_eq_true hl]
  simp [hne]
theorem four_flat (L : List UInt8) : (four L).flatMap (· ++ [46]) = dotted L.reverse := by
  unfold four dotted
  rw [List.flatMap_map]
theorem six_flat (L : List UInt8) : (sixteen L).flatMap (· ++ [46]) = dotted6 L.reverse := by
  unfold sixteen dotted6
  induction L.reverse with
  | nil => rfl
  | cons x M ih =>
    rw [List.flatMap_cons, List.flatMap_append, ih, List.flatMap_cons]
    rfl
set_option maxRecDepth 100000 in
set_option maxHeartbeats 8000000 in
theorem namereverse_walk {H : Type} {enc : TypeId × Value → H} (W : World) (base : Nat) (m : Int) (hm : W.cell? ⟨0, 0, none⟩ = some (.int .i64 m)) (hpow : PowAt W) (hdb : DbAt W)
    (v0 : Value) (d0 : DataW H) (p0 : List MemPlace) (k0 : Value.okWide Tryd.prog W .any base 9 v0) (h0 : DataW.Trod enc Tryd.prog W 0 (fun _ => true) true 9 v0 d0 p0) :
    Calls Tryd.prog 12 #[v0] W fun e w' => e = .returned (.bool true) ∧ Below W.heap.size W w' := by
  obtain ⟨s, rfl, _, _, hsb⟩ := Go.ChangeMaps.open_string Tryd.underlying9 k0 h0
  unfold maxLen at hsb
  have HSB := Lib.hid hsb
  have hcs := ac.cutS_size s 20
  obtain ⟨t, ht⟩ : ∃ t, ac.cutS s 20 = t := ⟨_, rfl⟩
  rw [ht] at hcs
  have HT := Lib.hid ht
  have HM := Lib.hid hm
  clear k0 h0 hsb ht hm
  -- what both make of it, and what Clean says of that
  have key : ∀ (r : ByteArray) (ok : Bool), (∀ w, Below W.heap.size W w → Calls Tryd.prog 36 #[.string t] w fun e w' => e = .returned (.string r) ∧ Below w.heap.size w w') → (∀ w, Below W.heap.size W w → Calls Tryd.prog 38 #[.string t] w fun e w' => e = .returned (.string r) ∧ Below w.heap.size w w') → r.size ≤ 1000 → (∃ n q, cleanL r.data.toList = (n, q, ok)) →
      ((((t.size : Int) == 4) = true ∧ ok = true) ∨ (((t.size : Int) == 4) = false ∧ ((t.size : Int) == 16) = ok)) →
      Calls Tryd.prog 12 #[.string s] W fun e w' => e = .returned (.bool true) ∧ Below W.heap.size W w' := by
    intro r ok hr1 hr2 hrs hcl hok
    obtain ⟨n, q, hcl⟩ := hcl
    have hc := fun w hm => clean_to r m w n q ok (by omega) hm hcl (bsl n) rfl
    have HR1 := Lib.hid hr1
    have HR2 := Lib.hid hr2
    have HC := Lib.hid hc
    clear hr1 hr2 hcl hc
    go_enter Tryd.func12, Tryd.ntmps12
    rcases hok with ⟨hk1, rfl⟩ | ⟨hk1, hk2⟩
    · go_wp2_with (first
        | (go_at_call 31; refine (bgnames.begun _).mono ?_; rintro e w1 ⟨rfl, hb1⟩; have HB1 := Lib.hid hb1; clear hb1)
        | (go_at_call 32; refine (ac.cut_calls s 20 _ (by omega) HSB.out).mono ?_; rintro e w2 ⟨rfl, rfl⟩; rw [HT.out])
        | (go_at_call 36; refine (HR1.out _ HB1.out).mono ?_; rintro e w3 ⟨rfl, hb3⟩; have HB3 := Lib.hid (lb.below_then HB1.out hb3); clear hb3)
        | (go_at_call 37; refine (HC.out _ (MaxAt HM.out HB3.out)).mono ?_; rintro e w4 ⟨rfl, hb4⟩; have HB4 := Lib.hid (lb.below_then HB3.out hb4); clear hb4)
        | (go_at_call 38; refine (HR2.out _ HB4.out).mono ?_; rintro e w5 ⟨rfl, hb5⟩; have HB5 := Lib.hid (lb.below_then HB4.out hb5); clear hb5)
        | fail)
      go_ret
      exact ⟨rfl, HB5.out⟩
    · cases ok
      all_goals
        go_wp2_with (first
          | (go_at_call 31; refine (bgnames.begun _).mono ?_; rintro e w1 ⟨rfl, hb1⟩; have HB1 := Lib.hid hb1; clear hb1)
          | (go_at_call 32; refine (ac.cut_calls s 20 _ (by omega) HSB.out).mono ?_; rintro e w2 ⟨rfl, rfl⟩; rw [HT.out])
          | (go_at_call 36; refine (HR1.out _ HB1.out).mono ?_; rintro e w3 ⟨rfl, hb3⟩; have HB3 := Lib.hid (lb.below_then HB1.out hb3); clear hb3)
          | (go_at_call 37; refine (HC.out _ (MaxAt HM.out HB3.out)).mono ?_; rintro e w4 ⟨rfl, hb4⟩; have HB4 := Lib.hid (lb.below_then HB3.out hb4); clear hb4)
          | (go_at_call 38; refine (HR2.out _ HB4.out).mono ?_; rintro e w5 ⟨rfl, hb5⟩; have HB5 := Lib.hid (lb.below_then HB4.out hb5); clear hb5)
          | fail)
        go_ret
        exact ⟨rfl, HB5.out⟩
  have htl : t.data.toList.length = t.size := rfl
  rcases (show t.size = 4 ∨ t.size = 16 ∨ (t.size ≠ 4 ∧ t.size ≠ 16) by omega) with h4 | h16 | ⟨h4, h16⟩
  · have hne : four t.data.toList ≠ [] := by
      intro h
      have h1 : (four t.data.toList).length = t.data.toList.length := by simp [four]
      rw [h, htl, h4] at h1
      cases h1
    have heq : ([46] : List UInt8).intercalate (four t.data.toList) ++ 46 :: sfx4 = dotted t.data.toList.reverse ++ sfx4 := by rw [inter_flat _ _ hne, four_flat]
    have hdl := dotted_len t.data.toList.reverse
    have hdl2 : (dotted t.data.toList.reverse ++ sfx4).length ≤ 253 := by
      simp only [List.length_append]
      rw [List.length_reverse, htl] at hdl
      simp [sfx4]
      omega
    refine key (bsl (dotted t.data.toList.reverse ++ sfx4)) true (fun w hb => ?_) (fun w hb => rrev4_calls t w h4) (by rw [bsz]; omega) ?_ (.inl ⟨by rw [h4]; rfl, rfl⟩)
    · have := rev4_calls t w h4 (hpow.below hb)
      rw [heq] at this
      exact this
    · show ∃ n q, cleanL (dotted t.data.toList.reverse ++ sfx4) = (n, q, true)
      rw [← four_flat] at hdl2 ⊢
      refine ok_of ?_ (by decide +kernel) hdl2 (by decide)
      intro p hp
      obtain ⟨c, _, rfl⟩ := List.mem_map.1 hp
      exact dec_lab ⟨c.toNat, c.toNat_lt⟩
  · have hne : sixteen t.data.toList ≠ [] := by
      intro h
      have := congrArg List.length h
      unfold sixteen at this
      rw [hx_len, List.length_reverse, htl] at this
      simp at this
      omega
    have heq : ([46] : List UInt8).intercalate (sixteen t.data.toList) ++ 46 :: sfx6 = dotted6 t.data.toList.reverse ++ sfx6 := by rw [inter_flat _ _ hne, six_flat]
    have hdl := dotted6_len t.data.toList.reverse
    have hdl2 : (dotted6 t.data.toList.reverse ++ sfx6).length ≤ 253 := by
      simp only [List.length_append]
      rw [List.length_reverse, htl] at hdl
      simp [sfx6]
      omega
    refine key (bsl (dotted6 t.data.toList.reverse ++ sfx6)) true (fun w hb => ?_) (fun w hb => rrev16_calls t w h16) (by rw [bsz]; omega) ?_ (.inr ⟨by rw [h16]; rfl, by rw [h16]; rfl⟩)
    · have := rev16_calls t w h16 (hdb.below hb)
      rw [heq] at this
      exact this
    · show ∃ n q, cleanL (dotted6 t.data.toList.reverse ++ sfx6) = (n, q, true)
      rw [← six_flat] at hdl2 ⊢
      refine ok_of ?_ (by decide +kernel) hdl2 (by decide)
      intro p hp
      obtain ⟨c, _, hc⟩ := List.mem_flatMap.1 hp
      have h255 := c.toNat_lt
      simp [hx] at hc
      rcases hc with rfl | rfl
      · exact hex_lab ⟨c.toNat % 16, by omega⟩
      · exact hex_lab ⟨c.toNat / 16, by omega⟩
  · refine key ⟨#[]⟩ false (fun w hb => (revx_calls t w h4 h16).mono ?_) (fun w hb => (rrevx_calls t w h4 h16).mono ?_) (by decide) ⟨[], false, by decide⟩ (.inr ⟨by rw [beq_eq_false_iff_ne]; omega, by rw [beq_eq_false_iff_ne]; omega⟩)
    · rintro e w' ⟨rfl, rfl⟩
      exact ⟨rfl, Below.refl _ _⟩
    · rintro e w' ⟨rfl, rfl⟩
      exact ⟨rfl, Below.refl _ _⟩
end Go.Proofs.YtkjjidmchepjcaaDoor.nm
