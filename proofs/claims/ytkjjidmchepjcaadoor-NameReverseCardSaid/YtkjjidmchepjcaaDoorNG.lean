/- Rows of texts of the call's own: opened, searched, appended, held against each other; what is asked for a name, in plain words. -/
import Derived.Test.YtkjjidmchepjcaaDoorProg
import Derived.WalkKit
import Derived.ProofKit
import Derived.Lib.Hide
import Derived.WalkLawsBesides
import Derived.WalkSpells
import Derived.Deep.RegionWith
import Derived.OpenShut
import Derived.ChangeSlices
import Derived.SliceStrings
import Derived.Deep.Slices
import Derived.Deep.QuietTactic
import Derived.BigQuiet
import Derived.Deep.DeepCutAuto
import Derived.Deep.CutBlock
import Derived.OwnWalk
import Derived.Laws.AppendOwnNone
import Derived.Test.YtkjjidmchepjcaaDoorNF
namespace Go.Proofs.YtkjjidmchepjcaaDoor.nm
open Go Go.RowKit Go.ChangeShapes Go.WideShapes
set_option linter.unusedVariables false
set_option linter.unusedSimpArgs false
/-! Plain. -/
def dd : List (List UInt8) → List (List UInt8) → List (List UInt8)
  | acc, [] => acc
  | acc, x :: xs => dd (if acc.contains x then acc else acc ++ [x]) xs
theorem dd_app : ∀ (a acc b : List (List UInt8)), dd acc (a ++ b) = dd (dd acc a) b
  | [], _, _ => rfl
  | x :: a, acc, b => by simp only [List.cons_append, dd]; exact dd_app a _ b
theorem dd_one (acc : List (List UInt8)) (x : List UInt8) : dd acc [x] = if acc.contains x then acc else acc ++ [x] := rfl
theorem dd_len : ∀ (a acc : List (List UInt8)), (dd acc a).length ≤ acc.length + a.length
  | [], acc => Nat.le_refl _
  | x :: a, acc => by
    have := dd_len a (if acc.contains x then acc else acc ++ [x])
    simp only [dd, List.length_cons]
    split at this <;> rename_i h
    · rw [if_pos h]; omega
    · rw [if_neg h]; simp at this; omega
/-- What one word of a search list adds. -/
def one (n x : List UInt8) : List (List UInt8) :=
  if (cleanL x).2.2 = true then (if (cleanL (n ++ [46] ++ (cleanL x).1)).2.2 = true then [(cleanL (n ++ [46] ++ (cleanL x).1)).1] else []) else []
def moreL (n : List UInt8) (X : List (List UInt8)) : List (List UInt8) := X.flatMap (one n)
def candL (l : List UInt8) (X : List (List UInt8)) (d : Int) : List (List UInt8) :=
  if (cleanL l).2.2 = true then
    if (cleanL l).2.1 = true then [(cleanL l).1] else
    dd [] (if ((cleanL l).1.count 46 : Int) < d then moreL (cleanL l).1 (X.take 6) ++ [(cleanL l).1] else (cleanL l).1 :: moreL (cleanL l).1 (X.take 6))
  else []
theorem one_len (n x : List UInt8) : (one n x).length ≤ 1 := by
  unfold one
  split
  · split <;> simp
  · simp
theorem moreL_len (n : List UInt8) : ∀ X : List (List UInt8), (moreL n X).length ≤ X.length
  | [] => Nat.le_refl _
  | x :: X => by
    have h1 := one_len n x
    have h2 := moreL_len n X
    simp only [moreL, List.flatMap_cons, List.length_append, List.length_cons] at h2 ⊢
    omega
theorem moreL_next (n : List UInt8) (X : List (List UInt8)) (k : Nat) (h : k < X.length) : moreL n (X.take (k + 1)) = moreL n (X.take k) ++ one n X[k] := by
  rw [List.take_succ_eq_append_getElem h, moreL, List.flatMap_append, List.flatMap_cons, List.flatMap_nil, List.append_nil]
  rfl
theorem one_no {n x : List UInt8} (h : (cleanL x).2.2 = false) : one n x = [] := by
  unfold one; rw [h]; rfl
theorem one_no2 {n x d : List UInt8} {r : Bool} (h : cleanL x = (d, r, true)) (h2 : (cleanL (n ++ [46] ++ d)).2.2 = false) : one n x = [] := by
  unfold one; rw [h]; simp only [if_true]; rw [h2]; rfl
theorem one_yes {n x d f : List UInt8} {r q : Bool} (h : cleanL x = (d, r, true)) (h2 : cleanL (n ++ [46] ++ d) = (f, q, true)) : one n x = [f] := by
  unfold one; rw [h]; simp only [if_true]; rw [h2]; rfl
/-! Rows. -/
def TxtIn (W : World) (ad : Option Addr) (X : List (List UInt8)) : Prop := X = [] ∨ ∃ b o, ad = some ⟨b, o, none⟩ ∧ ∀ k (h : k < X.length), W.cell? ⟨b, o + k, none⟩ = some (.string (bsl X[k]))
theorem TxtIn.below {W w : World} {ad : Option Addr} {X : List (List UInt8)} (h : TxtIn W ad X) (hb : Below W.heap.size W w) : TxtIn w ad X := by
  rcases h with h | ⟨b, o, h1, h2⟩
  · exact .inl h
  · exact .inr ⟨b, o, h1, fun k hk => (hb.cell (p := ⟨b, o + k, none⟩) (World.block_lt_of_cell? W _ (h2 k hk))).trans (h2 k hk)⟩
theorem own_cap {w : World} {B e s n c : Nat} {ad : Option Addr} {xs : List Value} (h : w.ownsRow B e s (.slice ad n c) n xs) : n ≤ c := by
  rcases h.2 with ⟨h1, h2, h3⟩ | ⟨g, cap, cur, h1, _, _, h2, _⟩
  · cases h1; exact Nat.le_refl _
  · cases h1; exact h2
theorem txt_own {w : World} {B c : Nat} {ad : Option Addr} {X : List (List UInt8)} (h : w.ownsRow B 9 1 (.slice ad X.length c) X.length (X.map sV)) : TxtIn w ad X := by
  rcases Nat.eq_zero_or_pos X.length with h0 | h0
  · exact .inl (List.eq_nil_of_length_eq_zero h0)
  · obtain ⟨g, c', hg⟩ := lb.row_addr h h0
    cases hg
    refine .inr ⟨g, 0, rfl, fun k hk => ?_⟩
    rw [Nat.zero_add, cell_piece h hk]
theorem TxtIn.take {W : World} {ad : Option Addr} {X : List (List UInt8)} (h : TxtIn W ad X) (m : Nat) : TxtIn W ad (X.take m) := by
  rcases h with h | ⟨b, o, h1, h2⟩
  · subst h; exact .inl (by simp)
  · refine .inr ⟨b, o, h1, fun k hk => ?_⟩
    simp at hk
    rw [h2 k (by omega)]
    simp
theorem flat_of {w : World} {a : Addr} {v : Value} (h : w.cell? a = some v) : a.spot = none := by
  unfold World.cell? at h
  obtain ⟨b, o, s⟩ := a
  split at h
  · cases s <;> simp_all
  · cases h
set_option maxRecDepth 100000 in
theorem cells_str1 : Tryd.prog.cellsOf 9 = 1 := by kernel_rfl
set_option maxRecDepth 100000 in
/-- A row of texts that came in. -/
theorem texts_open {H : Type} {enc : TypeId × Value → H} {W : World} {sp : Nat → Bool} {hd : Bool} {base : Nat} {v : Value} {d : DataW H} {p : List MemPlace} (hk : Value.okWide Tryd.prog W .any base 33 v) (h : DataW.Trod enc Tryd.prog W 0 sp hd 33 v d p) :
    ∃ ad m c X, v = .slice ad m c ∧ X.length = m ∧ m ≤ c ∧ m ≤ 9223372036854775807 ∧ (∀ s ∈ X, s.length ≤ 9223372036854775807) ∧ TxtIn W ad X := by
  obtain ⟨fuel, h⟩ := h
  obtain ⟨a0, m0, c0, rfl⟩ := okWide_slice Tryd.underlying33 hk
  rcases open_strings Tryd.underlying33 Tryd.underlying9 cells_str1 h with ⟨h1, _⟩ | ⟨a, len, cap, ss, h0, _, h1, h2, h3, _, h4, h5⟩
  · simp [Value.cells] at h1
    obtain ⟨rfl, rfl, rfl⟩ := h1
    exact ⟨none, 0, 0, [], rfl, rfl, Nat.le_refl _, by decide, by simp, .inl rfl⟩
  · simp [Value.cells] at h0
    obtain ⟨rfl, rfl, rfl⟩ := h0
    have hle : m0 ≤ ss.length := by rw [h3]; split <;> omega
    unfold maxLen at h2
    refine ⟨some a, m0, c0, (ss.take m0).map (fun s => s.data.toList), rfl, by simp; omega, h1, by omega, ?_, ?_⟩
    · intro s hs
      obtain ⟨u, hu, rfl⟩ := List.mem_map.1 hs
      have := h5 u (List.mem_of_mem_take hu)
      unfold maxLen at this
      have e : u.data.toList.length = u.size := rfl
      omega
    · rcases Nat.eq_zero_or_pos m0 with h0 | h0
      · subst h0; exact .inl (by simp)
      · right
        have hs : a.spot = none := by
          have h6 := flat_of (h4 0 (by omega))
          simpa [Addr.add] using h6
        obtain ⟨b, o, s⟩ := a
        simp only at hs
        subst hs
        refine ⟨b, o, rfl, fun k hk => ?_⟩
        have hk' : k < m0 := by simp at hk; omega
        have h6 := h4 k (by omega)
        rw [lb.add_flat] at h6
        rw [h6]
        simp [List.getD, List.getElem?_eq_getElem (show k < ss.length by omega), bsl_back]
/-- An append of a row of texts. -/
theorem catT {ops : Array Oper} {rest : List Oper} {o : Oper} {a : Act} {Q : Exit → Act → World → Prop} (hgd : o.guard = none) (s x : Operand) (t : TypeId)
    (ho : o.op = .call { callee := .builtin .append, args := #[s, x], argTypes := #[t, t] })
    (i : TypeInfo) (z : Value) (ht : Tryd.prog.underlying t = some (.slice 9)) (hi : Tryd.prog.info? 9 = some i) (hz : i.zero = some z) (hsize : i.size = 1) (hby : i.bytes = 16) (hzs : z.cells.size = 1)
    (B : Nat) (w : World) (v : Value) (n : Nat) (xs : List Value) (hs : a.eval s = v) (hown : w.ownsRow B 9 1 v n xs) (hB : B ≤ w.heap.size)
    (B2 : Nat) (ad : Option Addr) (c : Nat) (X : List (List UInt8)) (hx : a.eval x = .slice ad X.length c) (hsrc : w.ownsRow B2 9 1 (.slice ad X.length c) X.length (X.map sV))
    (hbytes : n + X.length ≤ 1000000)
    (h : ∀ v' w', w'.ownsRow B 9 1 v' (n + X.length) (xs ++ X.map sV) → w.grownBy w' v.ownBlock → wpList Tryd.prog ops Q rest (a.put o.dst v') w') : wpList Tryd.prog ops Q (o :: rest) a w := by
  rcases hsrc.2 with ⟨h1, h0⟩ | ⟨g, cap, cur, h1, _⟩
  · have hX : X = [] := List.eq_nil_of_length_eq_zero h0
    subst hX
    have e1 : Value.slice ad ([] : List (List UInt8)).length c = .slice none 0 0 := h1
    rw [e1] at hx
    refine wpList_append_own_none hgd s x t ho B 9 i 1 ht hi v n xs hs hown hx ?_
    exact h v w (by simpa using hown) (lb.grown_of_below (Below.refl _ _) _)
  · cases h1
    refine wpList_append_own _ hgd s x t ho B 9 i z 1 16 ht hi hz hsize hby hzs (by decide) v n xs hs hown ⟨g, 0, none⟩ X.length c (X.map sV) hx (by simp) (fun j u hj => ?_) (fun u hu => ?_) (by unfold maxLen; omega) (by omega) hB ?_
    · have hjl : j < X.length := by simpa using (List.getElem?_eq_some_iff.1 hj).1
      rw [lb.add_flat, Nat.zero_add, lb.row_at hsrc hjl]
      exact hj
    · obtain ⟨q, _, rfl⟩ := List.mem_map.1 hu
      rfl
    · intro v' w' h2 h3 _
      exact h v' w' h2 h3
theorem contains_calls (W : World) (B c : Nat) (ad : Option Addr) (n : Nat) (X : List (List UInt8)) (x : List UInt8) (hn : X.length = n) (h : W.ownsRow B 9 1 (.slice ad n c) n (X.map sV)) :
    Calls Tryd.prog 68 #[.slice ad n c, sV x] W fun e w' => e = .returned (.bool (X.contains x)) ∧ W = w' := by
  subst hn
  rcases h.2 with ⟨h1, h0⟩ | ⟨g, cap, cur, h1, _⟩
  · have hX : X = [] := List.eq_nil_of_length_eq_zero h0
    subst hX
    refine (Tryd.slices_Contains_string_empty ad c (bsl x) W).mono ?_
    rintro e w' ⟨rfl, hw⟩
    exact ⟨rfl, hw.symm⟩
  · cases h1
    have hm := lb.own_max h
    refine (Tryd.slices_Contains_string g 0 X.length c (X.map bsl) (bsl x) W (by simp) hm ?_).mono ?_
    · intro j hj
      have hj' : j < X.length := by simpa using hj
      rw [Nat.zero_add, cell_piece h hj']
      simp [List.getD, hj']
    · rintro e w' ⟨rfl, hw⟩
      refine ⟨?_, hw.symm⟩
      have : Lib.containsS ((X.map bsl).take X.length) (bsl x) = X.contains x := by
        rw [Bool.eq_iff_iff, Lib.containsS_iff, List.take_of_length_le (by simp), List.contains_iff_mem, List.mem_map]
        constructor
        · rintro ⟨y, hy, he⟩
          rw [← bsl_inj he]; exact hy
        · intro hy
          exact ⟨x, hy, rfl⟩
      rw [this]
set_option maxRecDepth 100000 in
set_option maxHeartbeats 4000000 in
theorem among_calls (W : World) (ad : Option Addr) (n c : Nat) (X : List (List UInt8)) (x : List UInt8) (hn : X.length = n) (hm : n ≤ 1000000) (hc : n ≤ c) (hin : TxtIn W ad X) :
    Calls Tryd.prog 70 #[.slice ad n c, sV x] W fun e w' => e = .returned (.bool (X.contains x)) ∧ W = w' := by
  obtain ⟨r, hr⟩ : ∃ r, X.contains x = r := ⟨_, rfl⟩
  obtain ⟨S, hS⟩ : ∃ S, bsl x = S := ⟨_, rfl⟩
  have hsv : sV x = .string S := by rw [← hS]
  rw [hr, hsv]
  have HR := Lib.hid hr
  have HS := Lib.hid hS
  have HN := Lib.hid hn
  have HIN := Lib.hid hin
  clear hr hS hn hin hsv
  go_enter Tryd.func70, Tryd.ntmps70
  go_wp2
  go_loopw [5] (fun iv wr => ∃ k : Nat, k ≤ n ∧ iv = .int .i64 k ∧ (X.take k).contains x = false ∧ wr = W) (fun iv _ => n - (intOf iv).toNat)
  case atStart => exact ⟨0, Nat.zero_le _, rfl, rfl, rfl⟩
  case round =>
    obtain ⟨k, hk, rfl, hno, rfl⟩ := hrel
    have HNO := Lib.hid hno
    clear hno
    by_cases hlt : k < n
    · have hkX : k < X.length := by rw [HN.out]; exact hlt
      obtain ⟨b, o, rfl, hcell⟩ := HIN.out.resolve_left (by intro h0; rw [h0] at hkX; cases hkX)
      have e1 := hcell k hkX
      obtain ⟨y, hy⟩ : ∃ y, X[k] = y := ⟨_, rfl⟩
      rw [hy] at e1
      have hnext : (X.take (k + 1)).contains x = ((X.take k).contains x || (y == x)) := by
        rw [List.take_succ_eq_append_getElem hkX, hy, Bool.eq_iff_iff]
        simp only [List.contains_iff_mem, List.mem_append, Bool.or_eq_true, List.mem_singleton, beq_iff_eq]
        exact or_congr Iff.rfl eq_comm
      have hmem : y ∈ X := by rw [← hy]; exact List.getElem_mem hkX
      have HNEXT := Lib.hid hnext
      have HMEM := Lib.hid hmem
      clear hcell hnext hmem hy
      by_cases hyx : y = x
      · have hrt : r = true := by rw [← HR.out, List.contains_iff_mem, ← hyx]; exact HMEM.out
        subst hrt
        have e2 : wr.cell? ⟨b, o + k, none⟩ = some (.string S) := by rw [e1, hyx, HS.out]
        clear e1 hyx
        go_wp2
        go_ret
        exact ⟨rfl, by trivial⟩
      · have hne : ((bsl y).toList == S.toList) = false := by
          rw [beq_eq_false_iff_ne, ← HS.out, ByteArray.toList_eq, ByteArray.toList_eq]
          intro h
          exact hyx (by simpa using h)
        have HF : Hid ((X.take (k + 1)).contains x = false) := Lib.hid (by rw [HNEXT.out, HNO.out, beq_eq_false_iff_ne.2 hyx]; rfl)
        obtain ⟨Y, hY⟩ : ∃ Y, bsl y = Y := ⟨_, rfl⟩
        rw [hY] at e1 hne
        clear hY hyx
        go_wp2
        exact ⟨⟨k + 1, by omega, by go_num, HF.out, by trivial⟩, by simp [intOf]; omega⟩
    · obtain rfl : k = n := by omega
      have hrf : r = false := by
        rw [← HR.out]
        have := HNO.out
        rwa [← HN.out, List.take_length] at this
      subst hrf
      go_wp2
      go_ret
      exact ⟨rfl, by trivial⟩
set_option maxRecDepth 100000 in
set_option maxHeartbeats 4000000 in
theorem eqt_calls (ad1 ad2 : Option Addr) (c1 c2 n : Nat) (X : List (List UInt8)) (W : World) (hl : X.length = n) (hn : n ≤ 9223372036854775807) (h1 : TxtIn W ad1 X) (h2 : TxtIn W ad2 X) :
    Calls Tryd.prog 33 #[.slice ad1 n c1, .slice ad2 n c2] W fun e w' => e = .returned (.bool true) ∧ ∃ q, w' = W.drewN q := by
  have HC1 := Lib.hid h1
  have HC2 := Lib.hid h2
  have HL := Lib.hid hl
  clear h1 h2 hl
  go_enter Tryd.func33, Tryd.ntmps33
  go_wp2
  go_loopw [5] (fun iv wr => ∃ k : Nat, k ≤ n ∧ iv = .int .i64 k ∧ ∃ q, wr = W.drewN q) (fun iv _ => n - (intOf iv).toNat)
  case atStart => exact ⟨0, Nat.zero_le _, rfl, 0, rfl⟩
  case round =>
    obtain ⟨k, hk, rfl, q, rfl⟩ := hrel
    by_cases hlt : k < n
    · have hkX : k < X.length := by rw [HL.out]; exact hlt
      obtain ⟨b1, o1, rfl, hc1⟩ := HC1.out.resolve_left (by intro h0; rw [h0] at hkX; cases hkX)
      obtain ⟨b2, o2, rfl, hc2⟩ := HC2.out.resolve_left (by intro h0; rw [h0] at hkX; cases hkX)
      have e1 := hc1 k hkX
      have e2 := hc2 k hkX
      obtain ⟨s, hs⟩ : ∃ s, bsl X[k] = s := ⟨_, rfl⟩
      rw [hs] at e1 e2
      clear hs hc1 hc2
      go_wp2
      go_quiet (fail)
      go_wp2
      go_roundw
      case rel => exact ⟨k + 1, by omega, by go_num, _, rfl⟩
      case measure => simp [intOf]; omega
    · obtain rfl : k = n := by omega
      go_wp2
      go_ret
      exact ⟨rfl, q, rfl⟩
theorem dots_calls (s : ByteArray) (W : World) :
    Calls Tryd.prog 67 #[.string s] W fun e w' => e = .returned (.int .i64 (s.data.toList.count 46 : Nat)) ∧ W = w' := by
  have h := Tryd.strings_Count_one s 46 W
  have HC := Lib.hid h
  clear h
  go_enter Tryd.func67, Tryd.ntmps67
  go_wp2_with (first
    | (go_at_call 93; refine HC.out.mono ?_; rintro e w2 ⟨rfl, rfl⟩)
    | fail)
  go_ret
  exact ⟨rfl, by trivial⟩
theorem rdots_calls (s : ByteArray) (W : World) (hs : s.size ≤ 1000000) :
    Calls Tryd.prog 69 #[.string s] W fun e w' => e = .returned (.int .i64 (s.data.toList.count 46 : Nat)) ∧ Below W.heap.size W w' := by
  have h := rsplit_calls s 46 W hs
  have hl := spl_length 46 s.data.toList
  have hc : s.data.toList.count 46 ≤ s.data.toList.length := List.count_le_length
  have hsz : s.data.toList.length = s.size := rfl
  rw [hl] at h
  obtain ⟨n, hn⟩ : ∃ n, s.data.toList.count 46 = n := ⟨_, rfl⟩
  rw [hn] at h hc ⊢
  have h2 : Calls Tryd.prog 79 #[.string s, .int .u8 46] W fun e w' => ∃ v, e = .returned v ∧ w'.ownsRow W.heap.size 9 1 v (n + 1) ((spl 46 s.data.toList).map sV) ∧ Below W.heap.size W w' := h
  have HC := Lib.hid h2
  have hn9 : n ≤ 1000000 := by omega
  clear h h2 hl hc hsz hn
  go_enter Tryd.func69, Tryd.ntmps69
  go_wp2_with (first
    | (go_at_call 79; refine HC.out.mono ?_; rintro e w2 ⟨v, rfl, ho, hb⟩; obtain ⟨a, c, rfl⟩ := lb.own_shape ho; have HB := Lib.hid hb; clear ho hb)
    | fail)
  go_ret
  exact ⟨by first | rfl | go_num, HB.out⟩
end Go.Proofs.YtkjjidmchepjcaaDoor.nm
