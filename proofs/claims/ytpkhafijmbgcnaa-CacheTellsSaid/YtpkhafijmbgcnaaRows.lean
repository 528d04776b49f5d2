/-
  No cell of these rows narrows 'for every input' (looked for: loops, veiled, ifaces, maps, wideKeys, modest, calm, conditions, laid).
  DERIVED. THE GIVEN ROWS OF THIS SEAT. 6 by the template 'for every input the law returns true; each argument reads behind the call as it read before'; 0 by the template 'total and deterministic' (their statements: YtpkhafijmbgcnaaTotals.lean).
  GIVEN WITH THE SEED: the statements are not yours to turn. If you find one false, say at which input.
  Laid BY PROGRAM, IN A SANDBOX (cutbox-rows.mjs): the forced cells as the released guide's own fill.sh prints them over the translation a810e7a1852825cf… (all of the seat's roots in one cut). By AI agents, Wed Nov 11 2026. No macro, syntax, notation, axiom, sorry.
-/
import Derived.Test.YtpkhafijmbgcnaaChecked
import GoSem.Claim
import GoSem.ClaimJoined
import GoSem.ClaimMapViews
import Derived.JoinedTies
import Derived.KernelRfl
namespace Go.Proofs.Ytpkhafijmbgcnaa
/- THE CELL 'sum', in the pinned program and in every row, IS THE sha256 OF THE DUMP (.gsa) THAT YtpkhafijmbgcnaaProg.lean LOADS. Nothing in Lean hashes anything: it is a label: what it is worth is what the hold of that sum in a sandbox is worth. -/
noncomputable def Try.pinned : Pinned := { name := "ytpkhafijmbgcnaa", sum := "a810e7a1852825cfc3159ab535efa338ecefe2fecb4cac9167c4489126eb34f7", checked := Try.checked }
namespace Rows
def none {H : Type} : Left H := { results := [], args := [] }

/-- 'pressmarklaw21.CacheTells': WHATEVER THE INPUT: true; the input reads as it did. -/
def cacheTellsSpec : ChangeSpec := { name := "cacheTells", fn := fun _ => fun
  | [d1, d2, d3, d4, d5, d6, d7] => { results := [.lit (.bool true)], args := [d1, d2, d3, d4, d5, d6, d7] }
  | _ => none }
def cacheTellsRow : OpenClaim := { program := "ytpkhafijmbgcnaa", sum := "a810e7a1852825cfc3159ab535efa338ecefe2fecb4cac9167c4489126eb34f7", func := "pressmark/pressmarklaw21.CacheTells", spec := "cacheTells", unfollowed := true, recurses := true, apart := false }
def CacheTellsSaid : Prop := cacheTellsRow.holds Try.pinned (OpenSpec.ofChange cacheTellsSpec)

/-- ITS FALSE NEIGHBOUR: 'it returns false'. Refute it at one input. -/
def cacheTellsWrong : ChangeSpec := { name := "cacheTells", fn := fun _ => fun
  | [d1, d2, d3, d4, d5, d6, d7] => { results := [.lit (.bool false)], args := [d1, d2, d3, d4, d5, d6, d7] }
  | _ => none }
def CacheTellsWrongFalsely : Prop := cacheTellsRow.holds Try.pinned (OpenSpec.ofChange cacheTellsWrong)

/-- 'pressmarklaw21.CacheList': WHATEVER THE INPUT: true; the input reads as it did. -/
def cacheListSpec : ChangeSpec := { name := "cacheList", fn := fun _ => fun
  | [d1, d2] => { results := [.lit (.bool true)], args := [d1, d2] }
  | _ => none }
def cacheListRow : OpenClaim := { program := "ytpkhafijmbgcnaa", sum := "a810e7a1852825cfc3159ab535efa338ecefe2fecb4cac9167c4489126eb34f7", func := "pressmark/pressmarklaw21.CacheList", spec := "cacheList", unfollowed := true, recurses := true, apart := false }
def CacheListSaid : Prop := cacheListRow.holds Try.pinned (OpenSpec.ofChange cacheListSpec)

/-- ITS FALSE NEIGHBOUR: 'it returns false'. Refute it at one input. -/
def cacheListWrong : ChangeSpec := { name := "cacheList", fn := fun _ => fun
  | [d1, d2] => { results := [.lit (.bool false)], args := [d1, d2] }
  | _ => none }
def CacheListWrongFalsely : Prop := cacheListRow.holds Try.pinned (OpenSpec.ofChange cacheListWrong)

/-- 'pressmarklaw21.CacheMore': WHATEVER THE INPUT: true; the input reads as it did. -/
def cacheMoreSpec : ChangeSpec := { name := "cacheMore", fn := fun _ => fun
  | [d1, d2, d3] => { results := [.lit (.bool true)], args := [d1, d2, d3] }
  | _ => none }
def cacheMoreRow : OpenClaim := { program := "ytpkhafijmbgcnaa", sum := "a810e7a1852825cfc3159ab535efa338ecefe2fecb4cac9167c4489126eb34f7", func := "pressmark/pressmarklaw21.CacheMore", spec := "cacheMore", unfollowed := true, recurses := true, apart := false }
def CacheMoreSaid : Prop := cacheMoreRow.holds Try.pinned (OpenSpec.ofChange cacheMoreSpec)

/-- ITS FALSE NEIGHBOUR: 'it returns false'. Refute it at one input. -/
def cacheMoreWrong : ChangeSpec := { name := "cacheMore", fn := fun _ => fun
  | [d1, d2, d3] => { results := [.lit (.bool false)], args := [d1, d2, d3] }
  | _ => none }
def CacheMoreWrongFalsely : Prop := cacheMoreRow.holds Try.pinned (OpenSpec.ofChange cacheMoreWrong)

/-- 'pressmarklaw21.CacheKeeps': WHATEVER THE INPUT: true; the input reads as it did. -/
def cacheKeepsSpec : ChangeSpec := { name := "cacheKeeps", fn := fun _ => fun
  | [d1, d2, d3, d4] => { results := [.lit (.bool true)], args := [d1, d2, d3, d4] }
  | _ => none }
def cacheKeepsRow : OpenClaim := { program := "ytpkhafijmbgcnaa", sum := "a810e7a1852825cfc3159ab535efa338ecefe2fecb4cac9167c4489126eb34f7", func := "pressmark/pressmarklaw21.CacheKeeps", spec := "cacheKeeps", unfollowed := true, recurses := true, apart := false }
def CacheKeepsSaid : Prop := cacheKeepsRow.holds Try.pinned (OpenSpec.ofChange cacheKeepsSpec)

/-- ITS FALSE NEIGHBOUR: 'it returns false'. Refute it at one input. -/
def cacheKeepsWrong : ChangeSpec := { name := "cacheKeeps", fn := fun _ => fun
  | [d1, d2, d3, d4] => { results := [.lit (.bool false)], args := [d1, d2, d3, d4] }
  | _ => none }
def CacheKeepsWrongFalsely : Prop := cacheKeepsRow.holds Try.pinned (OpenSpec.ofChange cacheKeepsWrong)

/-- 'pressmarklaw21.CacheClock': WHATEVER THE INPUT: true; the input reads as it did. -/
def cacheClockSpec : ChangeSpec := { name := "cacheClock", fn := fun _ => fun
  | [d1, d2, d3] => { results := [.lit (.bool true)], args := [d1, d2, d3] }
  | _ => none }
def cacheClockRow : OpenClaim := { program := "ytpkhafijmbgcnaa", sum := "a810e7a1852825cfc3159ab535efa338ecefe2fecb4cac9167c4489126eb34f7", func := "pressmark/pressmarklaw21.CacheClock", spec := "cacheClock", unfollowed := true, recurses := true, apart := false }
def CacheClockSaid : Prop := cacheClockRow.holds Try.pinned (OpenSpec.ofChange cacheClockSpec)

/-- ITS FALSE NEIGHBOUR: 'it returns false'. Refute it at one input. -/
def cacheClockWrong : ChangeSpec := { name := "cacheClock", fn := fun _ => fun
  | [d1, d2, d3] => { results := [.lit (.bool false)], args := [d1, d2, d3] }
  | _ => none }
def CacheClockWrongFalsely : Prop := cacheClockRow.holds Try.pinned (OpenSpec.ofChange cacheClockWrong)

/-- 'pressmarklaw21.CacheSame': WHATEVER THE INPUT: true; the input reads as it did. -/
def cacheSameSpec : ChangeSpec := { name := "cacheSame", fn := fun _ => fun
  | [d1, d2, d3, d4] => { results := [.lit (.bool true)], args := [d1, d2, d3, d4] }
  | _ => none }
def cacheSameRow : OpenClaim := { program := "ytpkhafijmbgcnaa", sum := "a810e7a1852825cfc3159ab535efa338ecefe2fecb4cac9167c4489126eb34f7", func := "pressmark/pressmarklaw21.CacheSame", spec := "cacheSame", unfollowed := true, recurses := true, apart := false }
def CacheSameSaid : Prop := cacheSameRow.holds Try.pinned (OpenSpec.ofChange cacheSameSpec)

/-- ITS FALSE NEIGHBOUR: 'it returns false'. Refute it at one input. -/
def cacheSameWrong : ChangeSpec := { name := "cacheSame", fn := fun _ => fun
  | [d1, d2, d3, d4] => { results := [.lit (.bool false)], args := [d1, d2, d3, d4] }
  | _ => none }
def CacheSameWrongFalsely : Prop := cacheSameRow.holds Try.pinned (OpenSpec.ofChange cacheSameWrong)

/- THE SECOND FORM. 'bulk': how many values and letters a reading holds, each counted each time it is reached (what is shared counts as often as it is met; a slice's spare places count too). A statement '..UptoSaid' is the law's where the arguments, and the package variables that the reading takes, are together of bulk at most 1048576: NARROWER than '..Said'. Prove '..Said' where nothing that the law and all that it calls make is longer than what came in: it says more and counts as full. Else prove '..UptoSaid'. A law counts once. -/
mutual
def uptoBulk {H : Type} : DataW H → Nat
  | .lit (.string bytes) => bytes.length + 1
  | .lit _ => 1
  | .nil => 1
  | .ptr d => uptoBulk d + 1
  | .slice elems spare => uptoBulkAll elems + uptoBulkAll spare + 1
  | .agg parts => uptoBulkAll parts + 1
  | .iface _ d => uptoBulk d + 1
  | .map entries => uptoBulkEntries entries + 1
  | .held _ => 1
def uptoBulkAll {H : Type} : List (DataW H) → Nat
  | [] => 0
  | d :: r => uptoBulk d + uptoBulkAll r
def uptoBulkEntries {H : Type} : List (Lit × DataW H) → Nat
  | [] => 0
  | x :: r => uptoBulkEntry x + uptoBulkEntries r
def uptoBulkEntry {H : Type} : Lit × DataW H → Nat
  | (.string bytes, d) => bytes.length + uptoBulk d + 1
  | (_, d) => uptoBulk d + 1
 end
def uptoSmall : (H : Type) → List (DataW H) → Bool := fun _ ds => decide (uptoBulkAll ds ≤ 1048576)
def OpenSpec.upto (s : _root_.Go.ChangeSpec) : _root_.Go.OpenSpec := { _root_.Go.OpenSpec.ofChange s with cond := some uptoSmall }

/-- 'pressmarklaw21.CacheTells', WHERE WHAT IT READS IS OF BULK AT MOST 1048576: true; the input reads as it did. -/
def cacheTellsUptoRow : OpenClaim := { program := "ytpkhafijmbgcnaa", sum := "a810e7a1852825cfc3159ab535efa338ecefe2fecb4cac9167c4489126eb34f7", func := "pressmark/pressmarklaw21.CacheTells", spec := "cacheTells", unfollowed := true, recurses := true, apart := false, narrowed := true }
def CacheTellsUptoSaid : Prop := cacheTellsUptoRow.holds Try.pinned (OpenSpec.upto cacheTellsSpec)

/-- 'pressmarklaw21.CacheList', WHERE WHAT IT READS IS OF BULK AT MOST 1048576: true; the input reads as it did. -/
def cacheListUptoRow : OpenClaim := { program := "ytpkhafijmbgcnaa", sum := "a810e7a1852825cfc3159ab535efa338ecefe2fecb4cac9167c4489126eb34f7", func := "pressmark/pressmarklaw21.CacheList", spec := "cacheList", unfollowed := true, recurses := true, apart := false, narrowed := true }
def CacheListUptoSaid : Prop := cacheListUptoRow.holds Try.pinned (OpenSpec.upto cacheListSpec)

/-- 'pressmarklaw21.CacheMore', WHERE WHAT IT READS IS OF BULK AT MOST 1048576: true; the input reads as it did. -/
def cacheMoreUptoRow : OpenClaim := { program := "ytpkhafijmbgcnaa", sum := "a810e7a1852825cfc3159ab535efa338ecefe2fecb4cac9167c4489126eb34f7", func := "pressmark/pressmarklaw21.CacheMore", spec := "cacheMore", unfollowed := true, recurses := true, apart := false, narrowed := true }
def CacheMoreUptoSaid : Prop := cacheMoreUptoRow.holds Try.pinned (OpenSpec.upto cacheMoreSpec)

/-- 'pressmarklaw21.CacheKeeps', WHERE WHAT IT READS IS OF BULK AT MOST 1048576: true; the input reads as it did. -/
def cacheKeepsUptoRow : OpenClaim := { program := "ytpkhafijmbgcnaa", sum := "a810e7a1852825cfc3159ab535efa338ecefe2fecb4cac9167c4489126eb34f7", func := "pressmark/pressmarklaw21.CacheKeeps", spec := "cacheKeeps", unfollowed := true, recurses := true, apart := false, narrowed := true }
def CacheKeepsUptoSaid : Prop := cacheKeepsUptoRow.holds Try.pinned (OpenSpec.upto cacheKeepsSpec)

/-- 'pressmarklaw21.CacheClock', WHERE WHAT IT READS IS OF BULK AT MOST 1048576: true; the input reads as it did. -/
def cacheClockUptoRow : OpenClaim := { program := "ytpkhafijmbgcnaa", sum := "a810e7a1852825cfc3159ab535efa338ecefe2fecb4cac9167c4489126eb34f7", func := "pressmark/pressmarklaw21.CacheClock", spec := "cacheClock", unfollowed := true, recurses := true, apart := false, narrowed := true }
def CacheClockUptoSaid : Prop := cacheClockUptoRow.holds Try.pinned (OpenSpec.upto cacheClockSpec)

/-- 'pressmarklaw21.CacheSame', WHERE WHAT IT READS IS OF BULK AT MOST 1048576: true; the input reads as it did. -/
def cacheSameUptoRow : OpenClaim := { program := "ytpkhafijmbgcnaa", sum := "a810e7a1852825cfc3159ab535efa338ecefe2fecb4cac9167c4489126eb34f7", func := "pressmark/pressmarklaw21.CacheSame", spec := "cacheSame", unfollowed := true, recurses := true, apart := false, narrowed := true }
def CacheSameUptoSaid : Prop := cacheSameUptoRow.holds Try.pinned (OpenSpec.upto cacheSameSpec)

end Rows
end Go.Proofs.Ytpkhafijmbgcnaa
