/- The walk of the law JournalBig. -/
import Derived.Test.YtgfkgoiaoglhnaaProg
import Derived.WalkKit
import Derived.ProofKit
import Derived.Lib.Hide
import Derived.WalkLawsBesides
import Derived.WalkSpells
import Derived.Deep.RegionWith
import Derived.Deep.DeepCutAuto
import Derived.Deep.CutBlock
import Derived.OwnWalk
import Derived.Test.YtgfkgoiaoglhnaaJP
import Derived.Test.YtgfkgoiaoglhnaaBJ
namespace Go.Proofs.Ytgfkgoiaoglhnaa.jr
open Go Go.RowKit
set_option linter.unusedVariables false
set_option linter.unusedSimpArgs false
set_option maxRecDepth 100000 in
theorem info_str : (Try.prog.info? 9).map (fun i => (i.zero, i.size, i.bytes)) = some (some (.string ⟨#[]⟩), 1, 16) := by kernel_rfl
/-- Zeros. -/
def zl (n : Nat) : List UInt8 := List.replicate n 0
def zs (n : Nat) : ByteArray := ⟨(zl n).toArray⟩
theorem zs_size (n : Nat) : (zs n).size = n := by simp [zs, zl, ByteArray.size]
theorem made_zl (n : Nat) : (madeCells (Value.cells (.int .u8 0)) (n * 1)).toList = lb.vB (zl n) := by
  unfold madeCells lb.vB zl
  rw [Nat.mul_one, List.map_replicate]
  apply List.ext_getElem
  · simp
  · intro j h1 h2
    simp [Value.cells]
    rw [Nat.mod_one]
    rfl
theorem conv_SB {w : World} {ad : Option Addr} {n c : Nat} {l : List UInt8} (h : lb.SB w ad l c) (hn : l.length = n) :
    (convert 51 9 (.slice ad n c)).run Try.prog w = .ok (lb.sV l) w := by
  subst hn
  cases ad with
  | none =>
    have := h.nil rfl
    have := h.le
    obtain rfl : l = [] := List.eq_nil_of_length_eq_zero (by omega)
    subst_vars
    exact run_convert_bytes_string (P := Try.prog) w 51 9 5 none 0 0 Try.underlying51 Try.underlying5 Try.underlying9
  | some a =>
    refine run_convert_bytes_back (P := Try.prog) w 51 9 5 a c l Try.underlying51 Try.underlying5 Try.underlying9 (fun j hj => ?_)
    rcases h.at_ with h0 | ⟨b, o, he, hc⟩
    · subst h0; simp at hj
    · cases he
      rw [lb.add_flat, hc j hj]
      simp [List.getD, hj]
theorem zl_len (n : Nat) : (zl n).length = n := by simp [zl]
theorem own_sb {w : World} {B e g n c : Nat} {l : List UInt8} (h : w.ownsRow B e 1 (.slice (some ⟨g, 0, none⟩) n c) n (lb.vB l)) (hl : l.length = n) : lb.SB w (some ⟨g, 0, none⟩) l c := by
  subst hl
  obtain ⟨ad, c', he, hs⟩ := lb.own_bytes h
  cases he
  exact hs
/-- make([]byte, n), also where it stands behind a guard that holds. -/
theorem mkz {ops : Array Oper} {rest : List Oper} {o : Oper} {a : Act} {Q : Exit → Act → World → Prop} (hw : Region.wanted o (yielded ops a.tmps) = true) (l c : Operand) (hop : o.op = Op.makeSlice 51 l c)
    (n : Nat) (hl : a.eval l = .int .i64 (n : Int)) (hc : a.eval c = .int .i64 (n : Int)) (hn : n ≤ 1000000) (W w : World) (hb : Below W.heap.size W w)
    (h : ∀ w', lb.SB w' (some ⟨w.heap.size, 0, none⟩) (zl n) n → Below w.heap.size w w' → wpList Try.prog ops Q rest (a.put o.dst (.slice (some ⟨w.heap.size, 0, none⟩) n n)) w') : wpList Try.prog ops Q (o :: rest) a w := by
  obtain ⟨i0, hi, hz0, hz1, hz2⟩ := info_parts info_u8
  refine wpList_step fun K hK' => ?_
  rw [if_pos hw]
  obtain ⟨w', hrun, r1, r2⟩ := run_make_full (P := Try.prog) w w.heap.size 51 5 i0 (.int .u8 0) 1 Try.underlying51 hi hz0 hz1 .i64 .i64 n (by rw [hz2]; omega) (by unfold maxLen; omega) (Nat.le_refl _)
  rw [made_zl] at r1
  unfold Oper.wp
  simp [execOp, hop, hl, hc, hrun, Result.andThen]
  exact hK' _ _ (h w' (own_sb r1 (zl_len n)) ((Below.refl _ _).grown r2 (Nat.le_refl _) (fun k hk => by cases hk)))
theorem cvz {ops : Array Oper} {rest : List Oper} {o : Oper} {a : Act} {Q : Exit → Act → World → Prop} (hw : Region.wanted o (yielded ops a.tmps) = true) (x : Operand) (hop : o.op = Op.convert 51 9 x)
    (g n : Nat) (w : World) (hx : a.eval x = .slice (some ⟨g, 0, none⟩) n n) (hs : lb.SB w (some ⟨g, 0, none⟩) (zl n) n)
    (h : wpList Try.prog ops Q rest (a.put o.dst (.string (zs n))) w) : wpList Try.prog ops Q (o :: rest) a w := by
  refine wpList_step fun K hK' => ?_
  rw [if_pos hw]
  have hrun := conv_SB hs (zl_len n)
  unfold Oper.wp
  simp only [execOp, hop, hx, Sem.run_bind, Sem.run_pure, Result.andThen_ok, hrun]
  exact hK' _ _ h
theorem zs_sV (n : Nat) : lb.sV (zl n) = .string (zs n) := rfl
/-! The three entries are not kept. -/
theorem wText_bad {w : Wr} (s : ByteArray) (h : w.bad = true) : (wText w s).bad = true := by simp [wText, h]
theorem wNum_bad {w : Wr} (x : Int) (h : w.bad = true) : (wNum w x).bad = true := by simp [wNum, h]
theorem wCount_bad {w : Wr} (n : Nat) (h : w.bad = true) : (wCount w n).bad = true := by simp [wCount, h]
theorem fold_bad {α : Type} {f : Wr → α → Wr} (hf : ∀ w x, w.bad = true → (f w x).bad = true) : ∀ (l : List α) (w : Wr), w.bad = true → (l.foldl f w).bad = true
  | [], _, h => h
  | x :: l, w, h => fold_bad hf l (f w x) (hf w x h)
theorem list_bad {w : Wr} (X : List ByteArray) (h : w.bad = true) : (wList w X).bad = true := fold_bad (fun w x => wText_bad x) _ _ (wCount_bad _ h)
theorem put_bad (e : En) (h : (p4 e).bad = true ∨ (p5 e).bad = true) : putL e = [] := by
  unfold putL
  rw [if_pos]
  left
  have h5 : (p5 e).bad = true := by
    rcases h with h | h
    · exact list_bad _ h
    · exact h
  exact fold_bad (fun w d hw => wNum_bad _ (wText_bad _ hw)) _ _ (wCount_bad _ (list_bad _ h5))
theorem p4_bad (e : En) (h : (p3 e).bad = true) : (p4 e).bad = true := fold_bad (fun w x => wNum_bad x) _ _ h
def eNames : En := ⟨⟨#[]⟩, 0, List.replicate 64 (zs 300), [], 0, 0, 0, []⟩
def eKey : En := ⟨zs 301, 0, [], [], 0, 0, 0, []⟩
def ePort : En := ⟨⟨#[]⟩, 0, [], [], -1, 0, 0, []⟩
theorem eKey_not : putL eKey = [] := by
  apply put_bad
  left
  apply p4_bad
  have h : (p1 eKey).bad = true := by
    simp only [p1, wText, eKey, zs_size]
    simp
  simp only [p3, h, Bool.true_or]
theorem ePort_not : putL ePort = [] := by
  apply put_bad
  left
  simp only [p4, nums, ePort, List.foldl]
  apply wNum_bad
  apply wNum_bad
  simp [wNum]
set_option maxRecDepth 100000 in
theorem fold_long (s : ByteArray) (hs : s.size = 300) (B : Nat) (hB : B = 6000) (k : Nat) : ∀ w : Wr, B < w.L + 300 * (k + 1) → ((List.replicate (k + 1) s).foldl wText w).bad = true := by
  induction k with
  | zero =>
    intro w h
    have h1 : (List.replicate (0 + 1) s).foldl wText w = wText w s := rfl
    rw [h1]
    unfold wText
    rw [hs]
    have : decide (6000 < w.L + 300) = true := decide_eq_true (by omega)
    simp only [this, Bool.or_true]
  | succ k ih =>
    intro w h
    rw [List.replicate_succ, List.foldl_cons]
    have hl : (wText w s).L = w.L + s.size := rfl
    exact ih (wText w s) (by rw [hl, hs]; omega)
theorem eNames_not : putL eNames = [] := by
  apply put_bad
  right
  have hn : eNames.names = List.replicate (63 + 1) (zs 300) := rfl
  unfold p5 wList
  rw [hn, List.take_of_length_le (by simp)]
  exact fold_long _ (zs_size 300) 6000 rfl 63 _ (by omega)
theorem e_ok (e : En) (h1 : e.key.size ≤ 1000) (h2 : ∀ s ∈ e.names, s.size ≤ 1000) (h3 : e.addrs = []) (h4 : e.deps = []) (h5 : e.names.length ≤ 1000) (h6 : ∀ x ∈ nums e, -9223372036854775808 ≤ x ∧ x ≤ 9223372036854775807) : EnOk e :=
  ⟨h1, h2, by rw [h3]; simp, by rw [h4]; simp, h5, by rw [h3]; simp, by rw [h4]; simp, h6, by rw [h4]; simp⟩
theorem put_not (W : World) (e : En) (a1 a2 a3 : Option Addr) (n1 c1 n2 c2 n3 c3 : Nat) (hp : putL e = []) (hk : EnOk e) (he : EnAt W e a1 a2 a3 n1 c1 n2 c2 n3 c3) :
    Calls Try.prog 32 #[.agg (enCells e a1 a2 a3 n1 c1 n2 c2 n3 c3)] W fun en w' => ∃ ad c, en = .returned (.slice ad 0 c) ∧ Below W.heap.size W w' := by
  refine (put_entry W e a1 a2 a3 n1 c1 n2 c2 n3 c3 hk he).mono ?_
  rintro en w' ⟨v, rfl, ho, hb⟩
  rw [hp] at ho
  obtain ⟨ad, c, rfl⟩ := lb.own_shape ho
  exact ⟨ad, c, rfl, hb⟩
theorem put_names (W : World) (B g c : Nat) (ho : W.ownsRow B 9 1 (.slice (some ⟨g, 0, none⟩) 64 c) 64 (List.replicate 64 (.string (zs 300)))) (hc : 64 ≤ c) :
    Calls Try.prog 32 #[.agg #[.string ⟨#[]⟩, .int .i64 0, .slice (some ⟨g, 0, none⟩) 64 c, .slice none 0 0, .int .i64 0, .int .i64 0, .int .i64 0, .slice none 0 0]] W fun en w' => ∃ ad c, en = .returned (.slice ad 0 c) ∧ Below W.heap.size W w' := by
  refine put_not W eNames (some ⟨g, 0, none⟩) none none 64 c 0 0 0 0 eNames_not ?_ ?_
  · refine e_ok _ (by show (0 : Nat) ≤ 1000; omega) ?_ rfl rfl (by simp [eNames]) (by simp [nums, eNames])
    intro s hs
    have : s = zs 300 := by simp [eNames] at hs; exact hs
    rw [this, zs_size]
    omega
  · refine ⟨by simp [eNames], rfl, rfl, hc, Nat.le_refl _, Nat.le_refl _, .inr ⟨g, 0, rfl, fun k hk => ?_⟩, .inl rfl, .inl rfl⟩
    have hk' : k < 64 := by simpa [eNames] using hk
    have hz : eNames.names[k] = zs 300 := List.getElem_replicate (by simpa using hk')
    rw [Nat.zero_add, lb.row_at ho hk', List.getElem?_replicate, if_pos hk']
    exact congrArg (fun s => some (Value.string s)) hz.symm
theorem put_key (W : World) : Calls Try.prog 32 #[.agg #[.string (zs 301), .int .i64 0, .slice none 0 0, .slice none 0 0, .int .i64 0, .int .i64 0, .int .i64 0, .slice none 0 0]] W fun en w' => ∃ ad c, en = .returned (.slice ad 0 c) ∧ Below W.heap.size W w' := by
  refine put_not W eKey none none none 0 0 0 0 0 0 eKey_not ?_ ⟨rfl, rfl, rfl, Nat.le_refl _, Nat.le_refl _, Nat.le_refl _, .inl rfl, .inl rfl, .inl rfl⟩
  exact e_ok _ (by show (zs 301).size ≤ 1000; rw [zs_size]; omega) (by simp [eKey]) rfl rfl (by simp [eKey]) (by simp [nums, eKey])
theorem put_port (W : World) : Calls Try.prog 32 #[.agg #[.string ⟨#[]⟩, .int .i64 0, .slice none 0 0, .slice none 0 0, .int .i64 (-1), .int .i64 0, .int .i64 0, .slice none 0 0]] W fun en w' => ∃ ad c, en = .returned (.slice ad 0 c) ∧ Below W.heap.size W w' := by
  refine put_not W ePort none none none 0 0 0 0 0 0 ePort_not ?_ ⟨rfl, rfl, rfl, Nat.le_refl _, Nat.le_refl _, Nat.le_refl _, .inl rfl, .inl rfl, .inl rfl⟩
  exact e_ok _ (by show (0 : Nat) ≤ 1000; omega) (by simp [ePort]) rfl rfl (by simp [ePort]) (by simp [nums, ePort])
theorem frame_z (g n m : Nat) (W : World) (h : lb.SB W (some ⟨g, 0, none⟩) (zl n) n) (hn : n ≤ 1000000) (hm : m = if 8192 < n then 0 else 8 + n) :
    Calls Try.prog 31 #[.slice (some ⟨g, 0, none⟩) n n] W fun e w' => ∃ ad c, e = .returned (.slice ad m c) ∧ Below W.heap.size W w' := by
  have hc := frame_calls (some ⟨g, 0, none⟩) n (zl n) W h (by rw [zl_len]; exact hn)
  rw [zl_len] at hc
  refine hc.mono ?_
  rintro e w' ⟨v, rfl, ho, hb⟩
  have : (frameL (zl n)).length = m := by
    subst hm
    by_cases h8 : 8192 < n
    · rw [if_pos h8, frame_big (by rw [zl_len]; exact h8)]; rfl
    · rw [if_neg h8, frame_len (by rw [zl_len]; omega), zl_len]
  rw [this] at ho
  obtain ⟨ad, c, rfl⟩ := lb.own_shape ho
  exact ⟨ad, c, rfl, hb⟩
set_option maxRecDepth 100000 in
set_option maxHeartbeats 4000000 in
theorem jbig_walk (W : World) : Calls Try.prog 7 #[] W fun e w' => e = .returned (.bool true) ∧ Below W.heap.size W w' := by
  obtain ⟨i1, hj, hy0, hy1, hy2⟩ := info_parts info_str
  obtain ⟨z3, hz3⟩ : ∃ z, zs 300 = z := ⟨_, rfl⟩
  obtain ⟨z4, hz4⟩ : ∃ z, zs 301 = z := ⟨_, rfl⟩
  have HZ3 := Lib.hid hz3
  have HZ4 := Lib.hid hz4
  have put_key4 := put_key
  rw [hz4] at put_key4
  have PK := Lib.hid put_key4
  clear put_key4
  have HCV : Hid (∀ (w : World) (g n : Nat), lb.SB w (some ⟨g, 0, none⟩) (zl n) n → (convert 51 9 (.slice (some ⟨g, 0, none⟩) n n)).run Try.prog w = .ok (.string (zs n)) w) := Lib.hid (fun w g n h => conv_SB h (zl_len n))
  clear hz3 hz4
  go_enter Try.func7, Try.ntmps7
  go_upto_block 0 with fail
  go_cut [1] (fun nv wx => ∃ ad c, nv = .slice ad 64 c ∧ wx.ownsRow W.heap.size 9 1 (.slice ad 64 c) 64 (List.replicate 64 (.string z3)) ∧ Below W.heap.size W wx)
  case first =>
    go_wp2_with fail
    go_loopw [1, 2] (fun nv iv wr => ∃ k : Nat, k ≤ 64 ∧ iv = .int .i64 (k : Int) ∧ wr.ownsRow W.heap.size 9 1 nv k (List.replicate k (.string z3)) ∧ Below W.heap.size W wr) (fun _ iv _ => 64 - (intOf iv).toNat)
    case atStart => exact ⟨0, by omega, rfl, lb.own_nil _ _ _ _, Below.refl _ _⟩
    case round =>
      obtain ⟨k, hk, rfl, ho, hb⟩ := hrel
      obtain ⟨al, cl, rfl⟩ := lb.own_shape ho
      have HO := Lib.hid ho
      have HB := Lib.hid hb
      clear ho hb
      rcases (show k < 64 ∨ k = 64 by omega) with hlt | rfl
      · go_wp2_with (first
          | (refine mkz (by simp [Region.wanted]) _ _ rfl 300 rfl rfl (by decide) W wr HB.out ?_; intro w3 hs3 hb3; have hcv := HCV.out w3 wr.heap.size 300 hs3; rw [HZ3.out] at hcv; have HO3 := Lib.hid (lb.own_later HO.out hb3); have HB3 := Lib.hid (lb.below_then HB.out hb3); clear hs3 hb3)
          | (at_builtin; refine lb.app1 rfl (.tmp 7) (.tmp 10) 34 rfl 9 i1 (.string ⟨#[]⟩) 1 16 Try.underlying34 hj hy0 hy1 hy2 rfl (by decide) W w3 (.slice al k cl) k (List.replicate k (.string z3)) [.string z3] rfl HO3.out HB3.out rfl rfl (by intro u hu; simp at hu; subst hu; rfl) (by omega) (by omega) ?_; intro v4 w4 ho4 hb4 hk4; have HO4 := Lib.hid ho4; have HB4 := Lib.hid hb4; clear ho4 hb4 hk4)
          | fail)
        refine ⟨⟨k + 1, by omega, by go_num, ?_, HB4.out⟩, by simp [intOf]; omega⟩
        have := HO4.out
        rw [← List.replicate_succ'] at this
        exact this
      · go_wp2_with fail
        go_meet
        exact ⟨al, cl, rfl, HO.out, HB.out⟩
  case rest =>
    obtain ⟨ad, c, rfl, ho, hb⟩ := hcut
    obtain ⟨g, c', hgc⟩ := lb.row_addr ho (by omega)
    cases hgc
    have HO := Lib.hid ho
    have HB := Lib.hid hb
    have hc64 : 64 ≤ c := by
      rcases ho.2 with ⟨h, _⟩ | ⟨g2, cap, cur, h, _, _, hn, _⟩
      · cases h
      · cases h; exact hn
    clear ho hb
    go_wp2_with (first
      | (go_at_call 30; refine (bgjournal.begun _).mono ?_; rintro e w1 ⟨rfl, hb1⟩; have HB1 := Lib.hid (lb.below_then HB.out hb1); have HO1 := Lib.hid (lb.own_later HO.out hb1); clear hb1)
      | (refine mkz (by simp [Region.wanted, yielded]) _ _ rfl 8193 rfl rfl (by decide) W w1 HB1.out ?_; intro w3 hs3 hb3; have HS3 := Lib.hid hs3; have HO3 := Lib.hid (lb.own_later HO1.out hb3); have HB3 := Lib.hid (lb.below_then HB1.out hb3); clear hs3 hb3)
      | (go_at_call 31; refine (frame_z w1.heap.size 8193 0 w3 HS3.out (by omega) (by simp)).mono ?_; rintro e w4 ⟨a4, c4, rfl, hb4⟩; have HO4 := Lib.hid (lb.own_later HO3.out hb4); have HB4 := Lib.hid (lb.below_then HB3.out hb4); clear hb4 HS3)
      | (refine mkz (by simp [Region.wanted, yielded]) _ _ rfl 8192 rfl rfl (by decide) W w4 HB4.out ?_; intro w5 hs5 hb5; have HS5 := Lib.hid hs5; have HO5 := Lib.hid (lb.own_later HO4.out hb5); have HB5 := Lib.hid (lb.below_then HB4.out hb5); clear hs5 hb5)
      | (go_at_call 31; refine (frame_z w4.heap.size 8192 8200 w5 HS5.out (by omega) (by simp)).mono ?_; rintro e w6 ⟨a6, c6, rfl, hb6⟩; have HO6 := Lib.hid (lb.own_later HO5.out hb6); have HB6 := Lib.hid (lb.below_then HB5.out hb6); clear hb6 HS5)
      | (go_at_call 32; ((with_reducible refine (put_names w6 W.heap.size g c (by rw [HZ3.out]; exact HO6.out) hc64).mono ?_); rintro e w7 ⟨a7, c7, rfl, hb7⟩); have HB7 := Lib.hid (lb.below_then HB6.out hb7); clear hb7 HO6)
      | (refine mkz (by simp [Region.wanted, yielded]) _ _ rfl 301 rfl rfl (by decide) W w7 HB7.out ?_; intro w8 hs8 hb8; refine cvz (by simp [Region.wanted, yielded, Act.put]) _ rfl w7.heap.size 301 w8 (by simp [Act.eval, Act.put]) hs8 ?_; rw [HZ4.out]; have HB8 := Lib.hid (lb.below_then HB7.out hb8); clear hs8 hb8)
      | (go_at_call 32; ((with_reducible refine (PK.out w8).mono ?_); rintro e w9 ⟨a9, c9, rfl, hb9⟩); have HB9 := Lib.hid (lb.below_then HB8.out hb9); clear hb9 HB8)
      | (go_at_call 32; ((with_reducible refine (put_port w9).mono ?_); rintro e w10 ⟨a10, c10, rfl, hb10⟩); have HB10 := Lib.hid (lb.below_then HB9.out hb10); clear hb10)
      | fail)
    go_ret
    exact ⟨rfl, HB10.out⟩
theorem jbig_row {H : Type} {enc : TypeId × Value → H} (W : World) (base : Nat) : Calls Try.prog 7 #[] W fun e w' => e = .returned (.bool true) ∧ Below W.heap.size W w' := jbig_walk W
end Go.Proofs.Ytgfkgoiaoglhnaa.jr
