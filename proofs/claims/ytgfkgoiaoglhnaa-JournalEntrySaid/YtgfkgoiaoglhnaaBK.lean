/- conciergelaw0.Code of the error that Read gives: by the evaluator over its code. -/
import Derived.Test.YtgfkgoiaoglhnaaProg
import Derived.WalkKit
import Derived.ProofKit
import Derived.Lib.Hide
import Derived.WalkLawsBesides
import Derived.WalkSpells
import Derived.Deep.RegionWith
import Derived.Below
import Derived.Test.YtgfkgoiaoglhnaaBJ
namespace Go.Proofs.Ytgfkgoiaoglhnaa.bgjournal
open Go Go.RowKit
/-- What an evaluation says that returns a whole number. -/
noncomputable def intOf? (r : Option (Vai.FR × Vai.Mem)) : Option Int :=
  match r with
  | some (.ret (.int .i64 n), _) => some n
  | _ => none
theorem intOf?_some {r : Option (Vai.FR × Vai.Mem)} {n : Int} (h : intOf? r = some n) : ∃ σ, r = some (.ret (.int .i64 n), σ) := by
  unfold intOf? at h
  split at h
  · cases h; exact ⟨_, rfl⟩
  · cases h
theorem int_of_eval {G : Vai.Sym} {call : Vai.CallF} (hc : Vai.CallOk Try.prog G call) {f : FuncId} {args : Array Value} {n : Int} (hw : Vai.wfA 8192 args) (he : intOf? (call f args Vai.mem0) = some n) (W : World) :
    Calls Try.prog f (Vai.concA (Vai.mu0 G) args) W fun e w' => e = .returned (.int .i64 n) ∧ Below W.heap.size W w' := by
  obtain ⟨σ, hs⟩ := intOf?_some he
  refine Calls.mono (hc f args Vai.mem0 _ σ hs (Vai.mu0 G) W.heap.size W (Vai.rel0 G W) hw) ?_
  rintro en w' ⟨μ', hr, hx, hm⟩
  exact ⟨hm.1, hx.below (Vai.rel0 G W)⟩
set_option maxRecDepth 100000 in
theorem code_is : intOf? (plainCall 17 #[.iface 32 (.int .i64 10)] Vai.mem0) = some 10 := by kernel_rfl
theorem code (W : World) : Calls Try.prog 17 #[.iface 32 (.int .i64 10)] W fun e w' => e = .returned (.int .i64 10) ∧ Below W.heap.size W w' :=
  int_of_eval (plain_ok fun _ => .bool false) (args := #[.iface 32 (.int .i64 10)]) (by simp [Vai.wfA, Vai.wfL, Vai.wf]) code_is W
end Go.Proofs.Ytgfkgoiaoglhnaa.bgjournal
