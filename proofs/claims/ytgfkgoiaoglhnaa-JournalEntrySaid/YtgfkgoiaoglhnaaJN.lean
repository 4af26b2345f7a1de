/- What is written is read back: the plain law of records, the other way. -/
import Derived.Test.YtgfkgoiaoglhnaaProg
import Derived.WalkKit
import Derived.ProofKit
import Derived.Lib.Hide
import Derived.WalkLawsBesides
import Derived.WalkSpells
import Derived.Deep.RegionWith
import Derived.Test.YtgfkgoiaoglhnaaJH
namespace Go.Proofs.Ytgfkgoiaoglhnaa.jr
open Go Go.RowKit
set_option linter.unusedVariables false
set_option linter.unusedSimpArgs false
def eT (s : ByteArray) : List UInt8 := leB s.size 2 ++ s.data.toList
def eN (x : Int) : List UInt8 := leB (x % 18446744073709551616).toNat 8
def eC (n : Nat) : List UInt8 := [UInt8.ofNat n]
def eD (d : ByteArray × Int) : List UInt8 := eT d.1 ++ eN d.2
def sumB : List ByteArray → Nat
  | [] => 0
  | s :: X => s.size + sumB X
def sumD : List (ByteArray × Int) → Nat
  | [] => 0
  | d :: X => d.1.size + sumD X
theorem bs_back (s : ByteArray) : bs s.data.toList = s := by
  cases s; simp [bs]
theorem map_bs_back (X : List ByteArray) : (X.map fun s => s.data.toList).map bs = X := by
  rw [List.map_map]
  conv => rhs; rw [← List.map_id X]
  exact List.map_congr_left fun s _ => bs_back s
theorem leN_mod (n : Nat) : ∀ k, leN (leB n k) = n % 256 ^ k
  | 0 => by simp [leB, leN, Nat.mod_one]
  | k + 1 => by
    rw [leB, leN_snoc, leN_mod n k, leB_len, Nat.pow_succ, Nat.mod_mul]
    have : (byteAt n k).toNat = n / 256 ^ k % 256 := by simp [byteAt]
    rw [this]
theorem rTake_app (a rest : List UInt8) (L : Int) (n : Nat) (hn : a.length = n) : rTake ⟨a ++ rest, L, false⟩ n = (a, ⟨rest, L, false⟩) := by
  subst hn
  rw [rTake_ok rfl (by simp)]
  simp
theorem rText_app (s : ByteArray) (rest : List UInt8) (L : Int) (h1 : s.size ≤ 300) (h2 : L + s.size ≤ 6000) : rText ⟨eT s ++ rest, L, false⟩ = (s.data.toList, ⟨rest, L + s.size, false⟩) := by
  have t : rTake ⟨eT s ++ rest, L, false⟩ 2 = (leB s.size 2, ⟨s.data.toList ++ rest, L, false⟩) := by
    unfold eT; rw [List.append_assoc]; exact rTake_app _ _ _ _ (leB_len _ _)
  have hn : leN (leB s.size 2) = s.size := by
    rw [leN_mod]
    exact Nat.mod_eq_of_lt (by show s.size < 65536; omega)
  have hh : rHead ⟨eT s ++ rest, L, false⟩ = (s.size, ⟨s.data.toList ++ rest, L + s.size, false⟩) := by
    unfold rHead
    rw [t]
    simp only [hn]
    have d1 : decide (300 < s.size) = false := decide_eq_false (by omega)
    have d2 : decide ((6000 : Int) < L + (s.size : Int)) = false := decide_eq_false (by omega)
    rw [d1, d2]
    rfl
  unfold rText
  rw [hh]
  exact rTake_app _ _ _ _ (size_list s)
theorem rNum_app (x : Int) (rest : List UInt8) (L : Int) (h : 0 ≤ x ∧ x ≤ 9223372036854775807) : rNum ⟨eN x ++ rest, L, false⟩ = (x, ⟨rest, L, false⟩) := by
  have t : rTake ⟨eN x ++ rest, L, false⟩ 8 = (eN x, ⟨rest, L, false⟩) := rTake_app _ _ _ _ (leB_len _ _)
  have hn : leN (eN x) = x.toNat := by
    unfold eN
    rw [leN_mod]
    have : (256 : Nat) ^ 8 = 18446744073709551616 := rfl
    rw [this]
    omega
  have hs : s64 (leN (eN x)) = x := by
    rw [hn]
    unfold s64
    rw [if_pos (by omega)]
    omega
  unfold rNum
  rw [t]
  simp only [hs]
  have d1 : decide (x < 0) = false := decide_eq_false (by omega)
  rw [d1]
  rfl
theorem rCount_app (n : Nat) (rest : List UInt8) (L : Int) (h : n ≤ 64) : rCount ⟨eC n ++ rest, L, false⟩ = (n, ⟨rest, L, false⟩) := by
  have t : rTake ⟨eC n ++ rest, L, false⟩ 1 = (eC n, ⟨rest, L, false⟩) := rTake_app _ _ _ _ rfl
  have hn : leN (eC n) = n := by
    simp [eC, leN]
    omega
  unfold rCount
  rw [t]
  simp only [hn]
  have d1 : decide (64 < n) = false := decide_eq_false (by omega)
  rw [d1]
  rfl
theorem rGo_app (rest : List UInt8) : ∀ (X : List ByteArray) (L : Int), (∀ s ∈ X, s.size ≤ 300) → L + (sumB X : Int) ≤ 6000 → rGo X.length ⟨X.flatMap eT ++ rest, L, false⟩ = (X.map (fun s => s.data.toList), ⟨rest, L + (sumB X : Int), false⟩)
  | [], L, _, _ => by simp [rGo, sumB]
  | s :: X, L, hX, hL => by
    have h1 := hX s (by simp)
    have hs : (sumB (s :: X) : Int) = (s.size : Int) + (sumB X : Int) := by simp [sumB]
    rw [hs] at hL
    have ht := rText_app s (X.flatMap eT ++ rest) L h1 (by omega)
    rw [List.flatMap_cons, List.append_assoc, List.length_cons]
    unfold rGo
    rw [if_neg (by simp), ht]
    simp only
    rw [rGo_app rest X (L + s.size) (fun u hu => hX u (by simp [hu])) (by omega), hs]
    simp [Int.add_assoc]
theorem rList_app (X : List ByteArray) (rest : List UInt8) (L : Int) (hl : X.length ≤ 64) (hX : ∀ s ∈ X, s.size ≤ 300) (hL : L + (sumB X : Int) ≤ 6000) : rList ⟨eC X.length ++ (X.flatMap eT ++ rest), L, false⟩ = (X.map (fun s => s.data.toList), ⟨rest, L + (sumB X : Int), false⟩) := by
  unfold rList
  rw [rCount_app _ _ _ hl]
  exact rGo_app rest X L hX hL
theorem rD_app (rest : List UInt8) : ∀ (X : List (ByteArray × Int)) (L : Int), (∀ d ∈ X, d.1.size ≤ 300 ∧ 0 ≤ d.2 ∧ d.2 ≤ 9223372036854775807) → L + (sumD X : Int) ≤ 6000 → rD X.length ⟨X.flatMap eD ++ rest, L, false⟩ = (X, ⟨rest, L + (sumD X : Int), false⟩)
  | [], L, _, _ => by simp [rD, sumD]
  | d :: X, L, hX, hL => by
    obtain ⟨h1, h2⟩ := hX d (by simp)
    have hs : (sumD (d :: X) : Int) = (d.1.size : Int) + (sumD X : Int) := by simp [sumD]
    rw [hs] at hL
    have ht := rText_app d.1 (eN d.2 ++ (X.flatMap eD ++ rest)) L h1 (by omega)
    have hn := rNum_app d.2 (X.flatMap eD ++ rest) (L + d.1.size) h2
    rw [List.flatMap_cons, List.length_cons]
    unfold eD
    rw [List.append_assoc, List.append_assoc]
    unfold rD
    rw [if_neg (by simp)]
    have ht' : rText ⟨eT d.1 ++ (eN d.2 ++ (List.flatMap (fun d => eT d.1 ++ eN d.2) X ++ rest)), L, false⟩ = (d.1.data.toList, ⟨eN d.2 ++ (X.flatMap eD ++ rest), L + d.1.size, false⟩) := ht
    rw [ht']
    simp only
    rw [hn]
    simp only
    rw [rD_app rest X (L + d.1.size) (fun u hu => hX u (by simp [hu])) (by omega), bs_back, hs]
    simp [Int.add_assoc]
/-- What may be kept. -/
structure EnGood (e : En) : Prop where
  key : e.key.size ≤ 300
  names : ∀ s ∈ e.names, s.size ≤ 300
  addrs : ∀ s ∈ e.addrs, s.size ≤ 300
  deps : ∀ d ∈ e.deps, d.1.size ≤ 300 ∧ 0 ≤ d.2 ∧ d.2 ≤ 9223372036854775807
  ln : e.names.length ≤ 64
  la : e.addrs.length ≤ 64
  ld : e.deps.length ≤ 64
  sum : sumB e.names + sumB e.addrs + sumD e.deps ≤ 6000
  code : 0 ≤ e.code ∧ e.code ≤ 65535
  port : 0 ≤ e.port ∧ e.port ≤ 65535
  life : 0 ≤ e.life ∧ e.life ≤ 9223372036854775807
  exp : 0 ≤ e.exp ∧ e.exp ≤ 9223372036854775807
def w12 (e : En) : List UInt8 := e.deps.flatMap eD ++ []
def w11 (e : En) : List UInt8 := eC e.deps.length ++ w12 e
def w10 (e : En) : List UInt8 := eC e.addrs.length ++ (e.addrs.flatMap eT ++ w11 e)
def w9 (e : En) : List UInt8 := eC e.names.length ++ (e.names.flatMap eT ++ w10 e)
def w8 (e : En) : List UInt8 := eN e.exp ++ w9 e
def w7 (e : En) : List UInt8 := eN e.life ++ w8 e
def w5 (e : En) : List UInt8 := eN e.port ++ w7 e
def w4 (e : En) : List UInt8 := eN e.code ++ w5 e
def w2 (e : En) : List UInt8 := eT e.key ++ w4 e
def enc (e : En) : List UInt8 := [1] ++ w2 e
theorem read_enc (e : En) (G : EnGood e) (hlen : (enc e).length ≤ 8192) : readOk (enc e) = true ∧ kindL (enc e) = 1 ∧ readE (enc e) = e := by
  have hs := G.sum
  have d0 : decide (8192 < (enc e).length) = false := decide_eq_false (by omega)
  have e1 : q1 (enc e) = ([1], ⟨w2 e, 0, false⟩) := by
    unfold q1
    rw [d0]
    exact rTake_app [1] _ 0 1 rfl
  have e2 : q2 (enc e) = (e.key.data.toList, ⟨w4 e, 0 + (e.key.size : Int), false⟩) := by
    unfold q2
    rw [e1]
    exact rText_app _ _ _ G.key (by have := G.key; omega)
  have e3 : q3 (enc e) = ⟨w4 e, 0, false⟩ := by
    unfold q3
    rw [e2]
  have e4 : q4 (enc e) = (e.code, ⟨w5 e, 0, false⟩) := by
    unfold q4
    rw [e3]
    exact rNum_app _ _ _ (by have := G.code; omega)
  have e5 : q5 (enc e) = (e.port, ⟨w7 e, 0, false⟩) := by
    unfold q5
    rw [e4]
    exact rNum_app _ _ _ (by have := G.port; omega)
  have e6 : q6 (enc e) = ⟨w7 e, 0, false⟩ := by
    unfold q6
    rw [e4, e5]
    have d1 : decide ((65535 : Int) < e.code) = false := decide_eq_false (by have := G.code; omega)
    have d2 : decide ((65535 : Int) < e.port) = false := decide_eq_false (by have := G.port; omega)
    simp only [d1, d2, Bool.or_false]
  have e7 : q7 (enc e) = (e.life, ⟨w8 e, 0, false⟩) := by
    unfold q7
    rw [e6]
    exact rNum_app _ _ _ G.life
  have e8 : q8 (enc e) = (e.exp, ⟨w9 e, 0, false⟩) := by
    unfold q8
    rw [e7]
    exact rNum_app _ _ _ G.exp
  have e9 : q9 (enc e) = (e.names.map (fun s => s.data.toList), ⟨w10 e, 0 + (sumB e.names : Int), false⟩) := by
    unfold q9
    rw [e8]
    exact rList_app _ _ _ G.ln G.names (by omega)
  have e10 : q10 (enc e) = (e.addrs.map (fun s => s.data.toList), ⟨w11 e, 0 + (sumB e.names : Int) + (sumB e.addrs : Int), false⟩) := by
    unfold q10
    rw [e9]
    exact rList_app _ _ _ G.la G.addrs (by omega)
  have e11 : q11 (enc e) = (e.deps.length, ⟨w12 e, 0 + (sumB e.names : Int) + (sumB e.addrs : Int), false⟩) := by
    unfold q11
    rw [e10]
    exact rCount_app _ _ _ G.ld
  have e12 : q12 (enc e) = (e.deps, ⟨[], 0 + (sumB e.names : Int) + (sumB e.addrs : Int) + (sumD e.deps : Int), false⟩) := by
    unfold q12
    rw [e11]
    exact rD_app [] e.deps _ G.deps (by omega)
  have hk : kindL (enc e) = 1 := by
    unfold kindL
    rw [e1]
    rfl
  refine ⟨?_, hk, ?_⟩
  · unfold readOk readF
    rw [if_pos hk, e12, hk]
    rfl
  · unfold readE
    rw [if_pos hk, e2, e4, e5, e7, e8, e9, e10, e12]
    simp only
    rw [bs_back, map_bs_back, map_bs_back]
/-! What is written, where nothing is wrong. -/
theorem wText_good (w : Wr) (s : ByteArray) (h1 : s.size ≤ 300) (h2 : w.L + s.size ≤ 6000) : wText w s = ⟨w.b ++ eT s, w.L + s.size, w.bad⟩ := by
  unfold wText eT
  have d1 : decide (300 < s.size) = false := decide_eq_false (by omega)
  have d2 : decide (6000 < w.L + s.size) = false := decide_eq_false (by omega)
  rw [d1, d2, List.append_assoc, Bool.or_false, Bool.or_false]
theorem wNum_good (w : Wr) (x : Int) (h : 0 ≤ x) : wNum w x = ⟨w.b ++ eN x, w.L, w.bad⟩ := by
  unfold wNum eN
  have d1 : decide (x < 0) = false := decide_eq_false (by omega)
  rw [d1, Bool.or_false]
theorem wCount_good (w : Wr) (n : Nat) (h : n ≤ 64) : wCount w n = ⟨w.b ++ eC n, w.L, w.bad⟩ := by
  unfold wCount eC
  have d1 : decide (64 < n) = false := decide_eq_false (by omega)
  rw [d1, Bool.or_false]
theorem foldT : ∀ (X : List ByteArray) (w : Wr), (∀ s ∈ X, s.size ≤ 300) → w.L + sumB X ≤ 6000 → X.foldl wText w = ⟨w.b ++ X.flatMap eT, w.L + sumB X, w.bad⟩
  | [], w, _, _ => by simp [sumB]
  | s :: X, w, hX, hL => by
    have hs : sumB (s :: X) = s.size + sumB X := rfl
    rw [hs] at hL ⊢
    rw [List.foldl_cons, wText_good w s (hX s (by simp)) (by omega), foldT X _ (fun u hu => hX u (by simp [hu])) (by simp only; omega), List.flatMap_cons, ← List.append_assoc]
    simp only
    rw [Nat.add_assoc]
theorem foldDp : ∀ (X : List (ByteArray × Int)) (w : Wr), (∀ d ∈ X, d.1.size ≤ 300 ∧ 0 ≤ d.2) → w.L + sumD X ≤ 6000 → X.foldl wDep w = ⟨w.b ++ X.flatMap eD, w.L + sumD X, w.bad⟩
  | [], w, _, _ => by simp [sumD]
  | d :: X, w, hX, hL => by
    have hs : sumD (d :: X) = d.1.size + sumD X := rfl
    rw [hs] at hL ⊢
    obtain ⟨h1, h2⟩ := hX d (by simp)
    have h3 : wDep w d = ⟨w.b ++ eD d, w.L + d.1.size, w.bad⟩ := by
      unfold wDep eD
      rw [wText_good w d.1 h1 (by omega), wNum_good _ _ h2, List.append_assoc]
    rw [List.foldl_cons, h3, foldDp X _ (fun u hu => hX u (by simp [hu])) (by simp only; omega), List.flatMap_cons, ← List.append_assoc]
    simp only
    rw [Nat.add_assoc]
theorem wList_good (w : Wr) (X : List ByteArray) (hl : X.length ≤ 64) (hX : ∀ s ∈ X, s.size ≤ 300) (hL : w.L + sumB X ≤ 6000) : wList w X = ⟨w.b ++ eC X.length ++ X.flatMap eT, w.L + sumB X, w.bad⟩ := by
  unfold wList
  rw [List.take_of_length_le hl, wCount_good _ _ hl, foldT X ⟨w.b ++ eC X.length, w.L, w.bad⟩ hX hL]
theorem put_enc (e : En) (G : EnGood e) (hlen : (enc e).length ≤ 8192) : putL e = enc e := by
  have hs := G.sum
  have h1 : p1 e = ⟨[1] ++ eT e.key, 0 + e.key.size, false⟩ := wText_good p0 e.key G.key (by have := G.key; show 0 + e.key.size ≤ 6000; omega)
  have h3 : p3 e = ⟨[1] ++ eT e.key, 0, false⟩ := by
    unfold p3
    rw [h1]
    have d1 : decide ((65535 : Int) < e.code) = false := decide_eq_false (by have := G.code; omega)
    have d2 : decide ((65535 : Int) < e.port) = false := decide_eq_false (by have := G.port; omega)
    simp only [d1, d2, Bool.or_false]
  have h4 : p4 e = ⟨[1] ++ eT e.key ++ eN e.code ++ eN e.port ++ eN e.life ++ eN e.exp, 0, false⟩ := by
    unfold p4 nums
    simp only [List.foldl_cons, List.foldl_nil]
    rw [h3, wNum_good _ _ G.code.1, wNum_good _ _ G.port.1, wNum_good _ _ G.life.1, wNum_good _ _ G.exp.1]
  have h5 : p5 e = ⟨(p4 e).b ++ eC e.names.length ++ e.names.flatMap eT, (p4 e).L + sumB e.names, (p4 e).bad⟩ := wList_good (p4 e) e.names G.ln G.names (by rw [h4]; simp only; omega)
  have h6 : p6 e = ⟨(p5 e).b ++ eC e.addrs.length ++ e.addrs.flatMap eT, (p5 e).L + sumB e.addrs, (p5 e).bad⟩ := wList_good (p5 e) e.addrs G.la G.addrs (by rw [h5, h4]; simp only; omega)
  have h7 : p7 e = ⟨(p6 e).b ++ eC e.deps.length, (p6 e).L, (p6 e).bad⟩ := wCount_good (p6 e) e.deps.length G.ld
  have h8 : putW e = ⟨(p7 e).b ++ e.deps.flatMap eD, (p7 e).L + sumD e.deps, (p7 e).bad⟩ := by
    unfold putW
    rw [List.take_of_length_le G.ld]
    exact foldDp e.deps (p7 e) (fun d hd => ⟨(G.deps d hd).1, (G.deps d hd).2.1⟩) (by rw [h7, h6, h5, h4]; simp only; omega)
  have hb : (putW e).b = enc e := by
    rw [h8, h7, h6, h5, h4]
    unfold enc w2 w4 w5 w7 w8 w9 w10 w11 w12
    simp only [List.append_assoc, List.append_nil]
  have hbad : (putW e).bad = false := by rw [h8, h7, h6, h5, h4]
  unfold putL
  rw [hb, hbad, if_neg (by simp; omega)]
/-! What may not be kept. -/
theorem wText_bad {w : Wr} (s : ByteArray) (h : w.bad = true) : (wText w s).bad = true := by simp [wText, h]
theorem wNum_bad {w : Wr} (x : Int) (h : w.bad = true) : (wNum w x).bad = true := by simp [wNum, h]
theorem wCount_bad {w : Wr} (n : Nat) (h : w.bad = true) : (wCount w n).bad = true := by simp [wCount, h]
theorem fold_bad {α : Type} {f : Wr → α → Wr} (hf : ∀ w x, w.bad = true → (f w x).bad = true) : ∀ (l : List α) (w : Wr), w.bad = true → (l.foldl f w).bad = true
  | [], _, h => h
  | x :: l, w, h => fold_bad hf l (f w x) (hf w x h)
theorem fold_one {α : Type} {f : Wr → α → Wr} (hf : ∀ w x, w.bad = true → (f w x).bad = true) (x : α) (hx : ∀ w, (f w x).bad = true) : ∀ (l : List α) (w : Wr), x ∈ l → (l.foldl f w).bad = true
  | [], _, h => by cases h
  | y :: l, w, h => by
    rcases List.mem_cons.1 h with rfl | h
    · exact fold_bad hf l _ (hx w)
    · exact fold_one hf x hx l _ h
theorem list_bad {w : Wr} (X : List ByteArray) (h : w.bad = true) : (wList w X).bad = true := fold_bad (fun w x => wText_bad x) _ _ (wCount_bad _ h)
theorem wNum_neg (w : Wr) (x : Int) (h : x < 0) : (wNum w x).bad = true := by simp [wNum, h]
theorem put_no (e : En) (hl : e.deps.length ≤ 64) (h : ¬ ((0 ≤ e.code ∧ e.code ≤ 65535) ∧ (0 ≤ e.port ∧ e.port ≤ 65535) ∧ 0 ≤ e.life ∧ 0 ≤ e.exp ∧ ∀ d ∈ e.deps, 0 ≤ d.2)) : putL e = [] := by
  have hput : (putW e).bad = true := by
    by_cases hd : ∀ d ∈ e.deps, 0 ≤ d.2
    · have h4 : (p4 e).bad = true := by
        have hn : e.code < 0 ∨ e.port < 0 ∨ e.life < 0 ∨ e.exp < 0 ∨ 65535 < e.code ∨ 65535 < e.port := by
          rcases Decidable.em (e.code < 0 ∨ e.port < 0 ∨ e.life < 0 ∨ e.exp < 0 ∨ 65535 < e.code ∨ 65535 < e.port) with h1 | h1
          · exact h1
          · exact absurd ⟨by omega, by omega, by omega, by omega, hd⟩ h
        have step : ∀ (w : Wr) (x : Int), w.bad = true → (wNum w x).bad = true := fun w x => wNum_bad x
        unfold p4
        rcases hn with h1 | h1 | h1 | h1 | h1 | h1
        · exact fold_one step _ (fun w => wNum_neg w _ h1) _ _ (by simp [nums])
        · exact fold_one step e.port (fun w => wNum_neg w _ h1) _ _ (by simp [nums])
        · exact fold_one step e.life (fun w => wNum_neg w _ h1) _ _ (by simp [nums])
        · exact fold_one step e.exp (fun w => wNum_neg w _ h1) _ _ (by simp [nums])
        · exact fold_bad step _ _ (by simp [p3, h1])
        · exact fold_bad step _ _ (by simp [p3, h1])
      exact fold_bad (fun w d hw => wNum_bad _ (wText_bad _ hw)) _ _ (wCount_bad _ (list_bad _ (list_bad _ h4)))
    · have hd' : ∃ d ∈ e.deps, d.2 < 0 := by
        apply Classical.byContradiction
        intro hc
        exact hd fun d hm => by
          apply Classical.byContradiction
          intro h0
          exact hc ⟨d, hm, by omega⟩
      obtain ⟨d, hm, hneg⟩ := hd'
      unfold putW
      rw [List.take_of_length_le hl]
      exact fold_one (fun w d hw => wNum_bad _ (wText_bad _ hw)) d (fun w => wNum_neg _ _ hneg) _ _ hm
  unfold putL
  rw [if_pos (.inl hput)]
/-! Drop. -/
theorem drop_back (s : ByteArray) (hs : s.size ≤ 300) : readOk (dropL s) = true ∧ kindL (dropL s) = 2 ∧ (readE (dropL s)).key = s ∧ (dropL s).length ≤ 400 := by
  have h1 : wText ⟨[2], 0, false⟩ s = ⟨[2] ++ eT s, 0 + s.size, false⟩ := wText_good ⟨[2], 0, false⟩ s hs (by simp only; omega)
  have hd : dropL s = [2] ++ (eT s ++ []) := by
    unfold dropL
    rw [h1, List.append_nil]
    rfl
  rw [hd]
  have hl : ([2] ++ (eT s ++ []) : List UInt8).length = 3 + s.size := by
    unfold eT
    simp only [List.length_append, leB_len, size_list, List.length_cons, List.length_nil]
    omega
  have d0 : decide (8192 < ([2] ++ (eT s ++ []) : List UInt8).length) = false := decide_eq_false (by omega)
  have e1 : q1 ([2] ++ (eT s ++ [])) = ([2], ⟨eT s ++ [], 0, false⟩) := by
    unfold q1
    rw [d0]
    exact rTake_app [2] _ 0 1 rfl
  have e2 : q2 ([2] ++ (eT s ++ [])) = (s.data.toList, ⟨[], 0 + (s.size : Int), false⟩) := by
    unfold q2
    rw [e1]
    exact rText_app _ _ _ hs (by omega)
  have hk : kindL ([2] ++ (eT s ++ [])) = 2 := by
    unfold kindL
    rw [e1]
    rfl
  refine ⟨?_, hk, ?_, by omega⟩
  · unfold readOk readF q3
    rw [hk, e2]
    rfl
  · unfold readE
    rw [hk, e2]
    exact bs_back s
/-! An entry that was cut. -/
theorem sumB_le (n : Nat) : ∀ X : List ByteArray, (∀ s ∈ X, s.size ≤ n) → sumB X ≤ n * X.length
  | [], _ => Nat.zero_le _
  | s :: X, h => by
    have h1 := h s (by simp)
    have h2 := sumB_le n X (fun u hu => h u (by simp [hu]))
    simp only [sumB, List.length_cons, Nat.mul_add, Nat.mul_one]
    omega
theorem sumD_le (n : Nat) : ∀ X : List (ByteArray × Int), (∀ d ∈ X, d.1.size ≤ n) → sumD X ≤ n * X.length
  | [], _ => Nat.zero_le _
  | s :: X, h => by
    have h1 := h s (by simp)
    have h2 := sumD_le n X (fun u hu => h u (by simp [hu]))
    simp only [sumD, List.length_cons, Nat.mul_add, Nat.mul_one]
    omega
theorem eT_len (s : ByteArray) : (eT s).length = 2 + s.size := by simp only [eT, List.length_append, leB_len, size_list]
theorem flatT_len : ∀ X : List ByteArray, (X.flatMap eT).length = 2 * X.length + sumB X
  | [] => rfl
  | s :: X => by simp only [List.flatMap_cons, List.length_append, eT_len, flatT_len X, List.length_cons, sumB]; omega
theorem flatD_len : ∀ X : List (ByteArray × Int), (X.flatMap eD).length = 10 * X.length + sumD X
  | [] => rfl
  | s :: X => by simp only [List.flatMap_cons, List.length_append, eD, eT_len, eN, leB_len, flatD_len X, List.length_cons, sumD]; omega
def NumsOk (e : En) : Prop := (0 ≤ e.code ∧ e.code ≤ 65535) ∧ (0 ≤ e.port ∧ e.port ≤ 65535) ∧ 0 ≤ e.life ∧ 0 ≤ e.exp ∧ ∀ d ∈ e.deps, 0 ≤ d.2
/-- How small an entry is that was cut. -/
structure Small (e : En) : Prop where
  key : e.key.size ≤ 300
  names : ∀ s ∈ e.names, s.size ≤ 40
  addrs : ∀ s ∈ e.addrs, s.size ≤ 40
  deps : ∀ d ∈ e.deps, d.1.size ≤ 40
  ln : e.names.length ≤ 5
  la : e.addrs.length ≤ 5
  ld : e.deps.length ≤ 3
theorem cut_small (e : En) : Small (cutE e) := by
  refine ⟨ac.cutS_size _ _, cutT_size _, cutT_size _, ?_, cutT_len _, cutT_len _, ?_⟩
  · intro d hd
    obtain ⟨u, _, rfl⟩ := List.mem_map.1 hd
    exact ac.cutS_size _ _
  · show ((e.deps.take 3).map _).length ≤ 3
    simp
    omega
theorem small_good {e : En} (h : Small e) (hk : EnOk e) (hn : NumsOk e) : EnGood e ∧ (enc e).length ≤ 8192 := by
  have s1 := sumB_le 40 _ h.names
  have s2 := sumB_le 40 _ h.addrs
  have s3 := sumD_le 40 _ h.deps
  have l1 := h.ln
  have l2 := h.la
  have l3 := h.ld
  have k1 := h.key
  obtain ⟨n1, n2, n3, n4, n5⟩ := hn
  have m := hk.2.2.2.2.2.2.2.1
  have ml := m e.life (by simp [nums])
  have me := m e.exp (by simp [nums])
  refine ⟨⟨k1, fun s hs => by have := h.names s hs; omega, fun s hs => by have := h.addrs s hs; omega, ?_, by omega, by omega, by omega, by omega, n1, n2, ⟨n3, ml.2⟩, ⟨n4, me.2⟩⟩, ?_⟩
  · intro d hd
    have := h.deps d hd
    exact ⟨by omega, n5 d hd, (hk.2.2.2.2.2.2.2.2 d hd).2⟩
  · unfold enc w2 w4 w5 w7 w8 w9 w10 w11 w12
    simp only [List.length_append, eT_len, eN, leB_len, eC, flatT_len, flatD_len, List.length_cons, List.length_nil]
    omega
/-- An entry that was cut, and may be kept: what Put makes is read as it. -/
theorem cut_back {e : En} (h : Small e) (hk : EnOk e) (hn : NumsOk e) : readOk (putL e) = true ∧ kindL (putL e) = 1 ∧ readE (putL e) = e ∧ (putL e).length ≤ 8192 := by
  obtain ⟨G, hl⟩ := small_good h hk hn
  rw [put_enc e G hl]
  obtain ⟨a, b, c⟩ := read_enc e G hl
  exact ⟨a, b, c, hl⟩
end Go.Proofs.Ytgfkgoiaoglhnaa.jr
