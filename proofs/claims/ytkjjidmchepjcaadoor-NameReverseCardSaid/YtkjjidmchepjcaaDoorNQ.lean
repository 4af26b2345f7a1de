/- names.Reverse and the reference's: what they make of an address. -/
import Derived.Test.YtkjjidmchepjcaaDoorProg
import Derived.WalkKit
import Derived.ProofKit
import Derived.Lib.Hide
import Derived.WalkLawsBesides
import Derived.WalkSpells
import Derived.Deep.RegionWith
import Derived.Deep.QuietTactic
import Derived.BigQuiet
import Derived.Deep.DeepCutAuto
import Derived.Deep.CutBlock
import Derived.OwnWalk
import Derived.Lib.AppendIntMem
import Derived.Lib.ItoaNum
import Derived.Laws.BitsAllLaws
import Derived.Test.YtkjjidmchepjcaaDoorNP
namespace Go.Proofs.YtkjjidmchepjcaaDoor.nm
open Go Go.RowKit
set_option linter.unusedVariables false
set_option linter.unusedSimpArgs false
theorem bsz (l : List UInt8) : (bsl l).size = l.length := by
  show l.toArray.size = _
  simp
/-- The table of powers lies in its block. -/
def PowAt (W : World) : Prop := W.heap[1]? = some (.cells (Lib.pow10Tab.map fun z => Value.int .u64 z).toArray 157 (0, 0))
theorem PowAt.below {W w : World} (h : PowAt W) (hb : Below W.heap.size W w) : PowAt w := by
  unfold PowAt at h ⊢
  rw [hb.block 1 (Array.getElem?_eq_some_iff.1 h).1]
  exact h
theorem pow_g : Tryd.prog.globalNamed "internal/strconv.uint64pow10" = some 1 := by kernel_rfl
theorem pow_ty : (Tryd.prog.globals[1]?).map (·.type) = some 157 := by kernel_rfl
theorem pow_ce : Tryd.prog.cellsOf 116 = 1 := by kernel_rfl
theorem pow_ct : Tryd.prog.cellsOf 157 = 20 := by kernel_rfl
theorem pow_lt : 1 < Tryd.prog.globals.size := by rw [Tryd.globals_size]; decide
set_option maxRecDepth 100000 in
theorem pow_row : ∃ zero, ((begin Tryd.prog (fun _ _ => 0) default).world.heap[1]?).bind Obj.row? = some (zero, 157) := ⟨(List.replicate 20 (Value.int .u64 0)).toArray, by kernel_rfl⟩
theorem pow_at {W : World} (hsh : W.ShapedOpen Tryd.prog) (hT : Lib.TabIs Tryd.prog W "internal/strconv.uint64pow10" .u64 Lib.pow10Tab) : PowAt W := by
  obtain ⟨zero, hz⟩ := pow_row
  exact Vai.row_of_tab hsh hT pow_g pow_lt hz
theorem PowAt.tab {W : World} (h : PowAt W) : Lib.TabIs Tryd.prog W "internal/strconv.uint64pow10" .u64 Lib.pow10Tab := by
  unfold Lib.TabIs World.var?
  rw [pow_g]
  simp only [Option.bind_some]
  rw [show W.heap[1]? = _ from h]
theorem itoa_calls (c : UInt8) (W : World) (h : PowAt W) : Calls Tryd.prog 71 #[.int .i64 (c.toNat : Int)] W fun e w' => e = .returned (sV (decL c.toNat)) ∧ Below W.heap.size W w' := by
  have hc := c.toNat_lt
  refine (Tryd.strconv_Itoa (c.toNat : Int) (by omega) (by omega) W h.tab).mono ?_
  rintro e w' ⟨rfl, k, os, rfl⟩
  have := itoa_dec ⟨c.toNat, hc⟩
  simp only at this
  rw [this]
  exact ⟨rfl, Lib.below_grow _ _ (Nat.le_refl _) _ _⟩
theorem join_calls (W : World) (B g c n : Nat) (X : List (List UInt8)) (hn : X.length = n) (hn9 : n ≤ 1000) (h : W.ownsRow B 9 1 (.slice (some ⟨g, 0, none⟩) n c) n (X.map sV)) (hl : (([46] : List UInt8).intercalate X).length ≤ 100000) :
    Calls Tryd.prog 72 #[.slice (some ⟨g, 0, none⟩) n c, .string ⟨#[46]⟩] W fun e w' => e = .returned (sV (([46] : List UInt8).intercalate X)) ∧ Below W.heap.size W w' := by
  subst hn
  have hm : (X.map bsl).map (·.data.toList) = X := by
    rw [List.map_map]
    conv => rhs; rw [← List.map_id X]
    exact List.map_congr_left fun x _ => rfl
  have hj : Lib.join ((X.map bsl).map (·.data.toList)) ((⟨#[46]⟩ : ByteArray).data.toList) = ([46] : List UInt8).intercalate X := by rw [hm]; rfl
  have := Tryd.strings_Join g 0 c (X.map bsl) ⟨#[46]⟩ W (fun j x hj => by
    have hjl : j < X.length := by simpa using (List.getElem?_eq_some_iff.1 hj).1
    rw [Nat.zero_add, cell_piece h hjl]
    simp only [List.getElem?_map, List.getElem?_eq_getElem hjl, Option.map_some, Option.some.injEq] at hj
    rw [hj]) (lb.own_block h g rfl).2 (by simp; omega) (by simpa using own_cap h) (by rw [hj]; omega)
  rw [List.length_map] at this
  refine this.mono ?_
  rintro e w' ⟨rfl, hb⟩
  rw [hj]
  exact ⟨rfl, hb⟩
/-- The pieces of an address of the first kind. -/
def four (l : List UInt8) : List (List UInt8) := l.reverse.map fun c => decL c.toNat
def sfx4 : List UInt8 := [105, 110, 45, 97, 100, 100, 114, 46, 97, 114, 112, 97]
theorem decL_len (n : Nat) : (decL n).length ≤ 3 := by
  unfold decL
  split
  · simp
  · split <;> simp
theorem inter_len : ∀ (X : List (List UInt8)) (m : Nat), (∀ x ∈ X, x.length ≤ m) → (([46] : List UInt8).intercalate X).length ≤ (m + 1) * X.length
  | [], _, _ => by simp [List.intercalate]
  | [x], m, h => by
    have := h x (by simp)
    simp [List.intercalate]
    omega
  | x :: y :: X, m, h => by
    have h1 := h x (by simp)
    have h2 := inter_len (y :: X) m (fun u hu => h u (by simp [hu]))
    have e : ([46] : List UInt8).intercalate (x :: y :: X) = x ++ 46 :: ([46] : List UInt8).intercalate (y :: X) := by simp [List.intercalate]
    rw [e]
    simp only [List.length_append, List.length_cons, Nat.mul_add, Nat.mul_one] at h2 ⊢
    omega
theorem four_at (s : ByteArray) (k : Nat) (h : s.size = 4) (hk : k < 4) : (four s.data.toList).take (k + 1) = (four s.data.toList).take k ++ [decL ((s.data.toList.getD (3 - k) 0).toNat)] := by
  have hl : (four s.data.toList).length = 4 := by
    have : s.data.toList.length = s.size := rfl
    simp [four]
    omega
  have hsl : s.data.toList.length = 4 := h
  rw [List.take_succ_eq_append_getElem (by omega)]
  congr 2
  unfold four
  rw [List.getElem_map, List.getElem_reverse]
  congr 2
  have : 3 - k < s.data.toList.length := by omega
  rw [List.getD_eq_getElem?_getD, List.getElem?_eq_getElem this, Option.getD_some]
  congr 1
  omega
set_option maxRecDepth 100000 in
set_option maxHeartbeats 8000000 in
theorem rev4_calls (s : ByteArray) (W : World) (h4 : s.size = 4) (hp : PowAt W) :
    Calls Tryd.prog 36 #[.string s] W fun e w' => e = .returned (sV (([46] : List UInt8).intercalate (four s.data.toList) ++ 46 :: sfx4)) ∧ Below W.heap.size W w' := by
  obtain ⟨i1, hj1, hy0, hy1, hy2⟩ := info_parts info_str
  have hat := fun k hk => four_at s k h4 hk
  have hD4 : (four s.data.toList).length = 4 := by
    have : s.data.toList.length = 4 := h4
    simp [four, this]
  have hDl : ∀ x ∈ four s.data.toList, x.length ≤ 3 := by
    intro x hx
    obtain ⟨c, _, rfl⟩ := List.mem_map.1 hx
    exact decL_len _
  obtain ⟨D, hD⟩ : ∃ D, four s.data.toList = D := ⟨_, rfl⟩
  rw [hD] at hat hD4 hDl ⊢
  have hil := inter_len D 3 hDl
  have HAT := Lib.hid hat
  have HP := Lib.hid hp
  have HD4 := Lib.hid hD4
  clear hat hp hD4 hDl hD
  go_enter Tryd.func36, Tryd.ntmps36
  go_upto_block 1 with fail
  go_cut [3] (fun lv wx => wx.ownsRow W.heap.size 9 1 lv 4 (D.map sV) ∧ Below W.heap.size W wx)
  case first =>
    go_wp2_with fail
    go_loopw [3, 13] (fun lv iv wr => ∃ k : Nat, k ≤ 4 ∧ iv = .int .i64 k ∧ wr.ownsRow W.heap.size 9 1 lv k ((D.take k).map sV) ∧ Below W.heap.size W wr) (fun _ iv _ => 4 - (intOf iv).toNat)
    case atStart => exact ⟨0, Nat.zero_le _, rfl, lb.own_nil _ _ _ _, Below.refl _ _⟩
    case round =>
      obtain ⟨k, hk, rfl, ho, hb⟩ := hrel
      obtain ⟨al, cl, rfl⟩ := lb.own_shape ho
      have HO := Lib.hid ho
      have HB := Lib.hid hb
      clear ho hb
      by_cases hlt : k < 4
      · have hst := HAT.out k hlt
        obtain ⟨x, hx⟩ : ∃ x, s.data.toList.getD (3 - k) 0 = x := ⟨_, rfl⟩
        have hlt3 : 3 - k < s.size := by omega
        have hat : s[3 - k] = x := by rw [at_data, hx]
        rw [hx] at hst
        have HST := Lib.hid hst
        obtain ⟨T, hT⟩ : ∃ T, bsl (decL x.toNat) = T := ⟨_, rfl⟩
        have hit : ∀ w, PowAt w → Calls Tryd.prog 71 #[.int .i64 (x.toNat : Int)] w fun e w' => e = .returned (.string T) ∧ Below w.heap.size w w' := by rw [← hT]; exact fun w h => itoa_calls x w h
        have HIT := Lib.hid hit
        have HTT := Lib.hid hT
        have hc255 : x.toNat < 256 := x.toNat_lt
        clear hst hx hT hit
        go_wp2_with (first
          | (go_at_call 71; refine (HIT.out _ (HP.out.below HB.out)).mono ?_; rintro e w3 ⟨rfl, hb3⟩; have HB3 := Lib.hid (lb.below_then HB.out hb3); have HO3 := Lib.hid (lb.own_later HO.out hb3); clear hb3)
          | (at_builtin; refine lb.app1 rfl (.tmp 16) (.tmp 26) 33 rfl 9 i1 (.string ⟨#[]⟩) 1 16 Tryd.underlying33 hj1 hy0 hy1 hy2 rfl (by decide) W _ _ k _ [.string T] rfl HO3.out HB3.out rfl rfl (by intro u hu; simp at hu; subst hu; rfl) (by omega) (by omega) ?_; intro v4 w4 ho4 hb4 hk4; have HO4 := Lib.hid ho4; have HB4 := Lib.hid hb4; clear ho4 hb4 hk4)
          | fail)
        refine ⟨⟨k + 1, by omega, by go_num, ?_, HB4.out⟩, by simp [intOf]; omega⟩
        rw [HST.out]
        refine lb.own_cast HO4.out ?_ rfl
        rw [← HTT.out]
        simp
      · obtain rfl : k = 4 := by omega
        have hfull : D.take 4 = D := by rw [← HD4.out, List.take_length]
        have hO := HO.out
        rw [hfull] at hO
        have HOF := Lib.hid hO
        clear hO hfull
        go_wp2_with fail
        go_meet
        exact ⟨HOF.out, HB.out⟩
  case rest =>
  obtain ⟨ho, hb⟩ := hcut
  obtain ⟨g, c, rfl⟩ := lb.row_addr ho (by omega)
  have hjc := join_calls wc W.heap.size g c 4 D HD4.out (by omega) ho (by rw [HD4.out] at hil; omega)
  obtain ⟨J, hJ⟩ : ∃ J, bsl (([46] : List UInt8).intercalate D) = J := ⟨_, rfl⟩
  have hjc2 : Calls Tryd.prog 72 #[.slice (some ⟨g, 0, none⟩) 4 c, .string ⟨#[46]⟩] wc fun e w' => e = .returned (.string J) ∧ Below wc.heap.size wc w' := by rw [← hJ]; exact hjc
  have hJs : J.size ≤ 1000 := by rw [← hJ, bsz]; rw [HD4.out] at hil; omega
  have hfin : J ++ ⟨#[46, 105, 110, 45, 97, 100, 100, 114, 46, 97, 114, 112, 97]⟩ = bsl (([46] : List UInt8).intercalate D ++ 46 :: sfx4) := by rw [← hJ]; exact bsl_app _ _
  have HJ := Lib.hid hjc2
  have HFIN := Lib.hid hfin
  have HB := Lib.hid hb
  clear ho hb hjc hjc2 hJ hfin
  go_wp2_with (first
    | (go_at_call 72; refine HJ.out.mono ?_; rintro e w3 ⟨rfl, hb3⟩; have HB3 := Lib.hid (lb.below_then HB.out hb3); clear hb3)
    | fail)
  go_ret
  exact ⟨congrArg (fun b => Ending.returned (Value.string b)) HFIN.out, HB3.out⟩
/-- The pieces of an address of the second kind. -/
def hx (c : UInt8) : List (List UInt8) := [[hexC (c.toNat % 16)], [hexC (c.toNat / 16)]]
def sixteen (l : List UInt8) : List (List UInt8) := l.reverse.flatMap hx
def sfx6 : List UInt8 := [105, 112, 54, 46, 97, 114, 112, 97]
theorem hx_len : ∀ L : List UInt8, (L.flatMap hx).length = 2 * L.length
  | [] => rfl
  | x :: L => by simp only [List.flatMap_cons, List.length_append, hx_len L, List.length_cons]; simp [hx]; omega
theorem rev_at (s : ByteArray) (k : Nat) (h : s.size = 16) (hk : k < 16) : s.data.toList.reverse.take (k + 1) = s.data.toList.reverse.take k ++ [s.data.toList.getD (15 - k) 0] := by
  have hsl : s.data.toList.length = 16 := h
  have hl : s.data.toList.reverse.length = 16 := by rw [List.length_reverse]; exact hsl
  rw [List.take_succ_eq_append_getElem (by omega)]
  congr 2
  rw [List.getElem_reverse]
  have : 15 - k < s.data.toList.length := by omega
  rw [List.getD_eq_getElem?_getD, List.getElem?_eq_getElem this, Option.getD_some]
  congr 1
  omega
theorem and15 (x : UInt8) : bits .and .u64 ((x.toNat : Nat) : Int) 15 = ((x.toNat % 16 : Nat) : Int) := by
  have h := u64_and_nat x.toNat 15 (by have := x.toNat_lt; omega) (by omega)
  rw [show ((15 : Nat) : Int) = 15 from rfl] at h
  rw [h, Nat.and_two_pow_sub_one_eq_mod x.toNat 4]
/-- An append of two texts. -/
theorem app2 {ops : Array Oper} {rest : List Oper} {o : Oper} {a : Act} {Q : Exit → Act → World → Prop} (hgd : o.guard = none) (s x : Operand) (i : TypeInfo)
    (hi : Tryd.prog.info? 9 = some i) (hz : i.zero = some (.string ⟨#[]⟩)) (hsize : i.size = 1) (hby : i.bytes = 16)
    (W w : World) (v : Value) (n : Nat) (xs : List Value) (T U : ByteArray) (hs : a.eval s = v) (hown : w.ownsRow W.heap.size 9 1 v n xs) (hb : Below W.heap.size W w)
    (hx : a.eval x = .slice (some ⟨w.heap.size, 0, none⟩) 2 2) (h63 : n + 2 ≤ 1000000)
    (h : ∀ v' w', w'.ownsRow W.heap.size 9 1 v' (n + 2) (xs ++ [.string T, .string U]) → Below W.heap.size W w' → wpList Tryd.prog ops Q rest (a.put o.dst v') w')
    (ho : o.op = .call { callee := .builtin .append, args := #[s, x], argTypes := #[33, 33] } := by rfl) :
    wpList Tryd.prog ops Q (o :: rest) a (w.alloc (.cells #[.string T, .string U] 9)) := by
  refine wpList_append_own _ hgd s x 33 ho W.heap.size 9 i (.string ⟨#[]⟩) 1 16 Tryd.underlying33 hi hz hsize hby rfl (by decide) v n xs hs (hown.alloc _) ⟨w.heap.size, 0, none⟩ 2 2 [.string T, .string U] hx rfl (fun j u hj => ?_) (fun u hu => ?_) (by unfold maxLen; omega) (by omega) (Nat.le_trans hb.size (lb.below_alloc w _).size) ?_
  · rw [lb.add_flat, Nat.zero_add]
    have := World.cell?_alloc_mark w #[.string T, .string U] 9 (0, 0) j
    rw [this]
    simpa using hj
  · simp at hu
    rcases hu with rfl | rfl <;> rfl
  · intro v' w' h2 h3 _
    exact h v' w' h2 ((hb.alloc hb.size _).grown h3 (Nat.le_trans hb.size (lb.below_alloc w _).size) (fun k hk => (lb.own_block hown k hk).1))
set_option maxRecDepth 100000 in
set_option maxHeartbeats 8000000 in
theorem rev16_calls (s : ByteArray) (W : World) (h16 : s.size = 16) (hp : DbAt W) :
    Calls Tryd.prog 36 #[.string s] W fun e w' => e = .returned (sV (([46] : List UInt8).intercalate (sixteen s.data.toList) ++ 46 :: sfx6)) ∧ Below W.heap.size W w' := by
  obtain ⟨i1, hj1, hy0, hy1, hy2⟩ := info_parts info_str
  have hat := fun k hk => rev_at s k h16 hk
  have hL16 : s.data.toList.reverse.length = 16 := by rw [List.length_reverse]; exact h16
  have hsx : sixteen s.data.toList = s.data.toList.reverse.flatMap hx := rfl
  obtain ⟨L, hL⟩ : ∃ L, s.data.toList.reverse = L := ⟨_, rfl⟩
  rw [hL] at hat hL16 hsx
  rw [hsx]
  have hDl : ∀ x ∈ L.flatMap hx, x.length ≤ 1 := by
    intro x hx'
    obtain ⟨c, _, hc⟩ := List.mem_flatMap.1 hx'
    simp [hx] at hc
    rcases hc with rfl | rfl <;> simp
  have hil := inter_len (L.flatMap hx) 1 hDl
  have h32 := hx_len L
  rw [hL16] at h32
  rw [h32] at hil
  have HAT := Lib.hid hat
  have HP := Lib.hid hp
  have HL16 := Lib.hid hL16
  have H32 := Lib.hid h32
  clear hat hp hL16 hDl hL hsx h32
  go_enter Tryd.func36, Tryd.ntmps36
  go_upto_block 3 with fail
  go_cut [3] (fun lv wx => wx.ownsRow W.heap.size 9 1 lv 32 ((L.flatMap hx).map sV) ∧ Below W.heap.size W wx)
  case first =>
    go_wp2_with fail
    go_loopw [3, 36] (fun lv iv wr => ∃ k : Nat, k ≤ 16 ∧ iv = .int .i64 k ∧ wr.ownsRow W.heap.size 9 1 lv (2 * k) (((L.take k).flatMap hx).map sV) ∧ Below W.heap.size W wr) (fun _ iv _ => 16 - (intOf iv).toNat)
    case atStart => exact ⟨0, Nat.zero_le _, rfl, lb.own_nil _ _ _ _, Below.refl _ _⟩
    case round =>
      obtain ⟨k, hk, rfl, ho, hb⟩ := hrel
      obtain ⟨al, cl, rfl⟩ := lb.own_shape ho
      have HO := Lib.hid ho
      have HB := Lib.hid hb
      clear ho hb
      by_cases hlt : k < 16
      · have hst := HAT.out k hlt
        obtain ⟨x, hx'⟩ : ∃ x, s.data.toList.getD (15 - k) 0 = x := ⟨_, rfl⟩
        have hlt3 : 15 - k < s.size := by omega
        have hat : s[15 - k] = x := by rw [at_data, hx']
        rw [hx'] at hst
        have HST := Lib.hid hst
        have hc255 : x.toNat < 256 := x.toNat_lt
        have hand := and15 x
        have h1 : ∀ w, DbAt w → Calls Tryd.prog 73 #[.int .u64 ((x.toNat : Int) % 16), .int .i64 16] w fun e w' => e = .returned (sV [hexC (x.toNat % 16)]) ∧ Below w.heap.size w w' := fun w h => by
          have := hex_calls (x.toNat % 16) (by omega) w h
          rw [show ((x.toNat % 16 : Nat) : Int) = (x.toNat : Int) % 16 by omega] at this
          exact this
        have h2 : ∀ w, DbAt w → Calls Tryd.prog 73 #[.int .u64 ((x.toNat : Int) / 16), .int .i64 16] w fun e w' => e = .returned (sV [hexC (x.toNat / 16)]) ∧ Below w.heap.size w w' := fun w h => by
          have := hex_calls (x.toNat / 16) (by omega) w h
          rw [show ((x.toNat / 16 : Nat) : Int) = (x.toNat : Int) / 16 by omega] at this
          exact this
        have hnx : (L.take (k + 1)).flatMap hx = (L.take k).flatMap hx ++ [[hexC (x.toNat % 16)], [hexC (x.toNat / 16)]] := by
          rw [hst, List.flatMap_append]
          rfl
        obtain ⟨T, hT⟩ : ∃ T, bsl [hexC (x.toNat % 16)] = T := ⟨_, rfl⟩
        obtain ⟨U, hU⟩ : ∃ U, bsl [hexC (x.toNat / 16)] = U := ⟨_, rfl⟩
        have h1' : ∀ w, DbAt w → Calls Tryd.prog 73 #[.int .u64 ((x.toNat : Int) % 16), .int .i64 16] w fun e w' => e = .returned (.string T) ∧ Below w.heap.size w w' := by rw [← hT]; exact h1
        have h2' : ∀ w, DbAt w → Calls Tryd.prog 73 #[.int .u64 ((x.toNat : Int) / 16), .int .i64 16] w fun e w' => e = .returned (.string U) ∧ Below w.heap.size w w' := by rw [← hU]; exact h2
        have HNX := Lib.hid hnx
        have H1 := Lib.hid h1'
        have H2 := Lib.hid h2'
        have HT := Lib.hid hT
        have HU := Lib.hid hU
        clear hst hx' h1 h2 h1' h2' hnx hT hU
        go_wp2_with (first
          | (go_at_call 73; (with_reducible refine (H1.out _ (HP.out.below HB.out)).mono ?_); rintro e w3 ⟨rfl, hb3⟩; have HB3 := Lib.hid (lb.below_then HB.out hb3); have HO3 := Lib.hid (lb.own_later HO.out hb3); clear hb3)
          | (go_at_call 73; refine (H2.out _ (HP.out.below HB3.out)).mono ?_; rintro e w4 ⟨rfl, hb4⟩; have HB4 := Lib.hid (lb.below_then HB3.out hb4); have HO4 := Lib.hid (lb.own_later HO3.out hb4); clear hb4)
          | (at_builtin; refine app2 rfl (.tmp 47) (.tmp 54) i1 hj1 hy0 hy1 hy2 W _ _ (2 * k) _ T U rfl HO4.out HB4.out rfl (by omega) ?_; intro v5 w5 ho5 hb5; have HO5 := Lib.hid ho5; have HB5 := Lib.hid hb5; clear ho5 hb5)
          | fail)
        refine ⟨⟨k + 1, by omega, by go_num, ?_, HB5.out⟩, by simp [intOf]; omega⟩
        rw [HNX.out]
        refine lb.own_cast HO5.out ?_ (by omega)
        rw [← HT.out, ← HU.out]
        simp
      · obtain rfl : k = 16 := by omega
        have hfull : L.take 16 = L := by rw [← HL16.out, List.take_length]
        have hO := HO.out
        rw [hfull] at hO
        have HOF := Lib.hid hO
        clear hO hfull
        go_wp2_with fail
        go_meet
        exact ⟨HOF.out, HB.out⟩
  case rest =>
  obtain ⟨ho, hb⟩ := hcut
  obtain ⟨g, c, rfl⟩ := lb.row_addr ho (by omega)
  have hd32 := H32.out
  have hjc := join_calls wc W.heap.size g c 32 (L.flatMap hx) hd32 (by omega) ho (by omega)
  obtain ⟨J, hJ⟩ : ∃ J, bsl (([46] : List UInt8).intercalate (L.flatMap hx)) = J := ⟨_, rfl⟩
  have hjc2 : Calls Tryd.prog 72 #[.slice (some ⟨g, 0, none⟩) 32 c, .string ⟨#[46]⟩] wc fun e w' => e = .returned (.string J) ∧ Below wc.heap.size wc w' := by rw [← hJ]; exact hjc
  have hJs : J.size ≤ 1000 := by rw [← hJ, bsz]; omega
  have hfin : J ++ ⟨#[46, 105, 112, 54, 46, 97, 114, 112, 97]⟩ = bsl (([46] : List UInt8).intercalate (L.flatMap hx) ++ 46 :: sfx6) := by rw [← hJ]; exact bsl_app _ _
  have HJ := Lib.hid hjc2
  have HFIN := Lib.hid hfin
  have HB := Lib.hid hb
  clear ho hb hjc hjc2 hJ hfin hd32 H32 HL16 HAT
  go_wp2_with (first
    | (go_at_call 72; refine HJ.out.mono ?_; rintro e w3 ⟨rfl, hb3⟩; have HB3 := Lib.hid (lb.below_then HB.out hb3); clear hb3)
    | fail)
  go_ret
  exact ⟨congrArg (fun b => Ending.returned (Value.string b)) HFIN.out, HB3.out⟩
end Go.Proofs.YtkjjidmchepjcaaDoor.nm
