/-
  No cell of these rows narrows 'for every input' (looked for: loops, veiled, ifaces, maps, wideKeys, modest, calm, conditions, laid).
  DERIVED. THE GIVEN ROWS OF THIS SEAT. 15 by the template 'for every input the law returns true; each argument reads behind the call as it read before'; 0 by the template 'total and deterministic' (their statements: YtgjffndpegjenaaGreatTotals.lean).
  GIVEN WITH THE SEED: the statements are not yours to turn. If you find one false, say at which input.
  Laid BY PROGRAM, IN A SANDBOX (cutbox-rows.mjs): the forced cells as the released guide's own fill.sh prints them over the translation 9a79fa7d411b6c43… (all of the seat's roots in one cut). By AI agents, Wed Nov 11 2026. No macro, syntax, notation, axiom, sorry.
-/
import Derived.Test.YtgjffndpegjenaaGreatChecked
import GoSem.Claim
import GoSem.ClaimJoined
import GoSem.ClaimMapViews
import Derived.JoinedTies
import Derived.KernelRfl
namespace Go.Proofs.YtgjffndpegjenaaGreat
/- THE CELL 'sum', in the pinned program and in every row, IS THE sha256 OF THE DUMP (.gsa) THAT YtgjffndpegjenaaGreatProg.lean LOADS. Nothing in Lean hashes anything: it is a label: what it is worth is what the hold of that sum in a sandbox is worth. -/
noncomputable def Tryz.pinned : Pinned := { name := "ytgjffndpegjenaagreat", sum := "9a79fa7d411b6c430bbd85f1911107bbe9087c11ca93de18661f0a54ba1a754a", checked := Tryz.checked }
namespace Rows
def none {H : Type} : Left H := { results := [], args := [] }

/-- 'almonrylaw16.KernelOrders': WHATEVER THE INPUT: true; the input reads as it did. -/
def kernelOrdersSpec : ChangeSpec := { name := "kernelOrders", fn := fun _ => fun
  | [d1, d2] => { results := [.lit (.bool true)], args := [d1, d2] }
  | _ => none }
def kernelOrdersRow : OpenClaim := { program := "ytgjffndpegjenaagreat", sum := "9a79fa7d411b6c430bbd85f1911107bbe9087c11ca93de18661f0a54ba1a754a", func := "almonry/almonrylaw16.KernelOrders", spec := "kernelOrders", unfollowed := true, recurses := true, plainKeys := false, apart := false }
def KernelOrdersSaid : Prop := kernelOrdersRow.holds Tryz.pinned (OpenSpec.ofChange kernelOrdersSpec)

/-- ITS FALSE NEIGHBOUR: 'it returns false'. Refute it at one input. -/
def kernelOrdersWrong : ChangeSpec := { name := "kernelOrders", fn := fun _ => fun
  | [d1, d2] => { results := [.lit (.bool false)], args := [d1, d2] }
  | _ => none }
def KernelOrdersWrongFalsely : Prop := kernelOrdersRow.holds Tryz.pinned (OpenSpec.ofChange kernelOrdersWrong)

/-- 'almonrylaw21.CanonPuts': WHATEVER THE INPUT: true; the input reads as it did. -/
def canonPutsSpec : ChangeSpec := { name := "canonPuts", fn := fun _ => fun
  | [d1, d2, d3] => { results := [.lit (.bool true)], args := [d1, d2, d3] }
  | _ => none }
def canonPutsRow : OpenClaim := { program := "ytgjffndpegjenaagreat", sum := "9a79fa7d411b6c430bbd85f1911107bbe9087c11ca93de18661f0a54ba1a754a", func := "almonry/almonrylaw21.CanonPuts", spec := "canonPuts", inPlace := ["internal/abi.NoEscape"], unfollowed := true, recurses := true, plainKeys := false, apart := false }
def CanonPutsSaid : Prop := canonPutsRow.holds Tryz.pinned (OpenSpec.ofChange canonPutsSpec)

/-- ITS FALSE NEIGHBOUR: 'it returns false'. Refute it at one input. -/
def canonPutsWrong : ChangeSpec := { name := "canonPuts", fn := fun _ => fun
  | [d1, d2, d3] => { results := [.lit (.bool false)], args := [d1, d2, d3] }
  | _ => none }
def CanonPutsWrongFalsely : Prop := canonPutsRow.holds Tryz.pinned (OpenSpec.ofChange canonPutsWrong)

/-- 'almonrylaw21.CanonBack': WHATEVER THE INPUT: true; the input reads as it did. -/
def canonBackSpec : ChangeSpec := { name := "canonBack", fn := fun _ => fun
  | [d1, d2, d3] => { results := [.lit (.bool true)], args := [d1, d2, d3] }
  | _ => none }
def canonBackRow : OpenClaim := { program := "ytgjffndpegjenaagreat", sum := "9a79fa7d411b6c430bbd85f1911107bbe9087c11ca93de18661f0a54ba1a754a", func := "almonry/almonrylaw21.CanonBack", spec := "canonBack", inPlace := ["internal/abi.NoEscape"], unfollowed := true, recurses := true, plainKeys := false, apart := false }
def CanonBackSaid : Prop := canonBackRow.holds Tryz.pinned (OpenSpec.ofChange canonBackSpec)

/-- ITS FALSE NEIGHBOUR: 'it returns false'. Refute it at one input. -/
def canonBackWrong : ChangeSpec := { name := "canonBack", fn := fun _ => fun
  | [d1, d2, d3] => { results := [.lit (.bool false)], args := [d1, d2, d3] }
  | _ => none }
def CanonBackWrongFalsely : Prop := canonBackRow.holds Tryz.pinned (OpenSpec.ofChange canonBackWrong)

/-- 'almonrylaw20.ViewTells': WHATEVER THE INPUT: true; the input reads as it did. -/
def viewTellsSpec : ChangeSpec := { name := "viewTells", fn := fun _ => fun
  | [d1, d2] => { results := [.lit (.bool true)], args := [d1, d2] }
  | _ => none }
def viewTellsRow : OpenClaim := { program := "ytgjffndpegjenaagreat", sum := "9a79fa7d411b6c430bbd85f1911107bbe9087c11ca93de18661f0a54ba1a754a", func := "almonry/almonrylaw20.ViewTells", spec := "viewTells", inPlace := ["math.Float64frombits", "math.Float64bits"], unfollowed := true, recurses := true, plainKeys := false, apart := false }
def ViewTellsSaid : Prop := viewTellsRow.holds Tryz.pinned (OpenSpec.ofChange viewTellsSpec)

/-- ITS FALSE NEIGHBOUR: 'it returns false'. Refute it at one input. -/
def viewTellsWrong : ChangeSpec := { name := "viewTells", fn := fun _ => fun
  | [d1, d2] => { results := [.lit (.bool false)], args := [d1, d2] }
  | _ => none }
def ViewTellsWrongFalsely : Prop := viewTellsRow.holds Tryz.pinned (OpenSpec.ofChange viewTellsWrong)

/-- 'almonrylaw20.ViewTurned': WHATEVER THE INPUT: true; the input reads as it did. -/
def viewTurnedSpec : ChangeSpec := { name := "viewTurned", fn := fun _ => fun
  | [d1, d2] => { results := [.lit (.bool true)], args := [d1, d2] }
  | _ => none }
def viewTurnedRow : OpenClaim := { program := "ytgjffndpegjenaagreat", sum := "9a79fa7d411b6c430bbd85f1911107bbe9087c11ca93de18661f0a54ba1a754a", func := "almonry/almonrylaw20.ViewTurned", spec := "viewTurned", inPlace := ["math.Float64frombits", "math.Float64bits"], unfollowed := true, recurses := true, plainKeys := false, apart := false }
def ViewTurnedSaid : Prop := viewTurnedRow.holds Tryz.pinned (OpenSpec.ofChange viewTurnedSpec)

/-- ITS FALSE NEIGHBOUR: 'it returns false'. Refute it at one input. -/
def viewTurnedWrong : ChangeSpec := { name := "viewTurned", fn := fun _ => fun
  | [d1, d2] => { results := [.lit (.bool false)], args := [d1, d2] }
  | _ => none }
def ViewTurnedWrongFalsely : Prop := viewTurnedRow.holds Tryz.pinned (OpenSpec.ofChange viewTurnedWrong)

/-- 'almonrylaw19.OpMay': WHATEVER THE INPUT: true; the input reads as it did. -/
def opMaySpec : ChangeSpec := { name := "opMay", fn := fun _ => fun
  | [d1, d2] => { results := [.lit (.bool true)], args := [d1, d2] }
  | _ => none }
def opMayRow : OpenClaim := { program := "ytgjffndpegjenaagreat", sum := "9a79fa7d411b6c430bbd85f1911107bbe9087c11ca93de18661f0a54ba1a754a", func := "almonry/almonrylaw19.OpMay", spec := "opMay", inPlace := ["math.Float64bits"], unfollowed := true, recurses := true, plainKeys := false, apart := false }
def OpMaySaid : Prop := opMayRow.holds Tryz.pinned (OpenSpec.ofChange opMaySpec)

/-- ITS FALSE NEIGHBOUR: 'it returns false'. Refute it at one input. -/
def opMayWrong : ChangeSpec := { name := "opMay", fn := fun _ => fun
  | [d1, d2] => { results := [.lit (.bool false)], args := [d1, d2] }
  | _ => none }
def OpMayWrongFalsely : Prop := opMayRow.holds Tryz.pinned (OpenSpec.ofChange opMayWrong)

/-- 'almonrylaw19.OpMakes': WHATEVER THE INPUT: true; the input reads as it did. -/
def opMakesSpec : ChangeSpec := { name := "opMakes", fn := fun _ => fun
  | [d] => { results := [.lit (.bool true)], args := [d] }
  | _ => none }
def opMakesRow : OpenClaim := { program := "ytgjffndpegjenaagreat", sum := "9a79fa7d411b6c430bbd85f1911107bbe9087c11ca93de18661f0a54ba1a754a", func := "almonry/almonrylaw19.OpMakes", spec := "opMakes", inPlace := ["math.Float64bits"], unfollowed := true, recurses := true, plainKeys := false, apart := false }
def OpMakesSaid : Prop := opMakesRow.holds Tryz.pinned (OpenSpec.ofChange opMakesSpec)

/-- ITS FALSE NEIGHBOUR: 'it returns false'. Refute it at one input. -/
def opMakesWrong : ChangeSpec := { name := "opMakes", fn := fun _ => fun
  | [d] => { results := [.lit (.bool false)], args := [d] }
  | _ => none }
def OpMakesWrongFalsely : Prop := opMakesRow.holds Tryz.pinned (OpenSpec.ofChange opMakesWrong)

/-- 'almonrylaw19.OpDoes': WHATEVER THE INPUT: true; the input reads as it did. -/
def opDoesSpec : ChangeSpec := { name := "opDoes", fn := fun _ => fun
  | [d] => { results := [.lit (.bool true)], args := [d] }
  | _ => none }
def opDoesRow : OpenClaim := { program := "ytgjffndpegjenaagreat", sum := "9a79fa7d411b6c430bbd85f1911107bbe9087c11ca93de18661f0a54ba1a754a", func := "almonry/almonrylaw19.OpDoes", spec := "opDoes", inPlace := ["math.Float64bits"], unfollowed := true, recurses := true, plainKeys := false, apart := false }
def OpDoesSaid : Prop := opDoesRow.holds Tryz.pinned (OpenSpec.ofChange opDoesSpec)

/-- ITS FALSE NEIGHBOUR: 'it returns false'. Refute it at one input. -/
def opDoesWrong : ChangeSpec := { name := "opDoes", fn := fun _ => fun
  | [d] => { results := [.lit (.bool false)], args := [d] }
  | _ => none }
def OpDoesWrongFalsely : Prop := opDoesRow.holds Tryz.pinned (OpenSpec.ofChange opDoesWrong)

/-- 'almonrylaw19.OpOne': WHATEVER THE INPUT: true; the input reads as it did. -/
def opOneSpec : ChangeSpec := { name := "opOne", fn := fun _ => fun
  | [d] => { results := [.lit (.bool true)], args := [d] }
  | _ => none }
def opOneRow : OpenClaim := { program := "ytgjffndpegjenaagreat", sum := "9a79fa7d411b6c430bbd85f1911107bbe9087c11ca93de18661f0a54ba1a754a", func := "almonry/almonrylaw19.OpOne", spec := "opOne", inPlace := ["math.Float64bits"], unfollowed := true, recurses := true, plainKeys := false, apart := false }
def OpOneSaid : Prop := opOneRow.holds Tryz.pinned (OpenSpec.ofChange opOneSpec)

/-- ITS FALSE NEIGHBOUR: 'it returns false'. Refute it at one input. -/
def opOneWrong : ChangeSpec := { name := "opOne", fn := fun _ => fun
  | [d] => { results := [.lit (.bool false)], args := [d] }
  | _ => none }
def OpOneWrongFalsely : Prop := opOneRow.holds Tryz.pinned (OpenSpec.ofChange opOneWrong)

/-- 'almonrylaw26.MailPuts': WHATEVER THE INPUT: true; the input reads as it did. -/
def mailPutsSpec : ChangeSpec := { name := "mailPuts", fn := fun _ => fun
  | [d] => { results := [.lit (.bool true)], args := [d] }
  | _ => none }
def mailPutsRow : OpenClaim := { program := "ytgjffndpegjenaagreat", sum := "9a79fa7d411b6c430bbd85f1911107bbe9087c11ca93de18661f0a54ba1a754a", func := "almonry/almonrylaw26.MailPuts", spec := "mailPuts", inPlace := ["internal/abi.NoEscape"], unfollowed := true, recurses := true, plainKeys := false, apart := false }
def MailPutsSaid : Prop := mailPutsRow.holds Tryz.pinned (OpenSpec.ofChange mailPutsSpec)

/-- ITS FALSE NEIGHBOUR: 'it returns false'. Refute it at one input. -/
def mailPutsWrong : ChangeSpec := { name := "mailPuts", fn := fun _ => fun
  | [d] => { results := [.lit (.bool false)], args := [d] }
  | _ => none }
def MailPutsWrongFalsely : Prop := mailPutsRow.holds Tryz.pinned (OpenSpec.ofChange mailPutsWrong)

/-- 'almonrylaw26.MailReads': WHATEVER THE INPUT: true; the input reads as it did. -/
def mailReadsSpec : ChangeSpec := { name := "mailReads", fn := fun _ => fun
  | [d] => { results := [.lit (.bool true)], args := [d] }
  | _ => none }
def mailReadsRow : OpenClaim := { program := "ytgjffndpegjenaagreat", sum := "9a79fa7d411b6c430bbd85f1911107bbe9087c11ca93de18661f0a54ba1a754a", func := "almonry/almonrylaw26.MailReads", spec := "mailReads", inPlace := ["internal/abi.NoEscape"], unfollowed := true, recurses := true, plainKeys := false, apart := false }
def MailReadsSaid : Prop := mailReadsRow.holds Tryz.pinned (OpenSpec.ofChange mailReadsSpec)

/-- ITS FALSE NEIGHBOUR: 'it returns false'. Refute it at one input. -/
def mailReadsWrong : ChangeSpec := { name := "mailReads", fn := fun _ => fun
  | [d] => { results := [.lit (.bool false)], args := [d] }
  | _ => none }
def MailReadsWrongFalsely : Prop := mailReadsRow.holds Tryz.pinned (OpenSpec.ofChange mailReadsWrong)

/-- 'almonrylaw26.MailBack': WHATEVER THE INPUT: true; the input reads as it did. -/
def mailBackSpec : ChangeSpec := { name := "mailBack", fn := fun _ => fun
  | [d1, d2] => { results := [.lit (.bool true)], args := [d1, d2] }
  | _ => none }
def mailBackRow : OpenClaim := { program := "ytgjffndpegjenaagreat", sum := "9a79fa7d411b6c430bbd85f1911107bbe9087c11ca93de18661f0a54ba1a754a", func := "almonry/almonrylaw26.MailBack", spec := "mailBack", inPlace := ["internal/abi.NoEscape"], unfollowed := true, recurses := true, plainKeys := false, apart := false }
def MailBackSaid : Prop := mailBackRow.holds Tryz.pinned (OpenSpec.ofChange mailBackSpec)

/-- ITS FALSE NEIGHBOUR: 'it returns false'. Refute it at one input. -/
def mailBackWrong : ChangeSpec := { name := "mailBack", fn := fun _ => fun
  | [d1, d2] => { results := [.lit (.bool false)], args := [d1, d2] }
  | _ => none }
def MailBackWrongFalsely : Prop := mailBackRow.holds Tryz.pinned (OpenSpec.ofChange mailBackWrong)

/-- 'almonrylaw23.CatalogPrunes': WHATEVER THE INPUT: true; the input reads as it did. -/
def catalogPrunesSpec : ChangeSpec := { name := "catalogPrunes", fn := fun _ => fun
  | [d] => { results := [.lit (.bool true)], args := [d] }
  | _ => none }
def catalogPrunesRow : OpenClaim := { program := "ytgjffndpegjenaagreat", sum := "9a79fa7d411b6c430bbd85f1911107bbe9087c11ca93de18661f0a54ba1a754a", func := "almonry/almonrylaw23.CatalogPrunes", spec := "catalogPrunes", unfollowed := true, recurses := true, plainKeys := false, apart := false }
def CatalogPrunesSaid : Prop := catalogPrunesRow.holds Tryz.pinned (OpenSpec.ofChange catalogPrunesSpec)

/-- ITS FALSE NEIGHBOUR: 'it returns false'. Refute it at one input. -/
def catalogPrunesWrong : ChangeSpec := { name := "catalogPrunes", fn := fun _ => fun
  | [d] => { results := [.lit (.bool false)], args := [d] }
  | _ => none }
def CatalogPrunesWrongFalsely : Prop := catalogPrunesRow.holds Tryz.pinned (OpenSpec.ofChange catalogPrunesWrong)

/-- 'almonrylaw23.CatalogPlays': WHATEVER THE INPUT: true; the input reads as it did. -/
def catalogPlaysSpec : ChangeSpec := { name := "catalogPlays", fn := fun _ => fun
  | [d] => { results := [.lit (.bool true)], args := [d] }
  | _ => none }
def catalogPlaysRow : OpenClaim := { program := "ytgjffndpegjenaagreat", sum := "9a79fa7d411b6c430bbd85f1911107bbe9087c11ca93de18661f0a54ba1a754a", func := "almonry/almonrylaw23.CatalogPlays", spec := "catalogPlays", unfollowed := true, recurses := true, plainKeys := false, apart := false }
def CatalogPlaysSaid : Prop := catalogPlaysRow.holds Tryz.pinned (OpenSpec.ofChange catalogPlaysSpec)

/-- ITS FALSE NEIGHBOUR: 'it returns false'. Refute it at one input. -/
def catalogPlaysWrong : ChangeSpec := { name := "catalogPlays", fn := fun _ => fun
  | [d] => { results := [.lit (.bool false)], args := [d] }
  | _ => none }
def CatalogPlaysWrongFalsely : Prop := catalogPlaysRow.holds Tryz.pinned (OpenSpec.ofChange catalogPlaysWrong)

/-- 'almonrylaw23.CatalogKeeps': WHATEVER THE INPUT: true; the input reads as it did. -/
def catalogKeepsSpec : ChangeSpec := { name := "catalogKeeps", fn := fun _ => fun
  | [d] => { results := [.lit (.bool true)], args := [d] }
  | _ => none }
def catalogKeepsRow : OpenClaim := { program := "ytgjffndpegjenaagreat", sum := "9a79fa7d411b6c430bbd85f1911107bbe9087c11ca93de18661f0a54ba1a754a", func := "almonry/almonrylaw23.CatalogKeeps", spec := "catalogKeeps", unfollowed := true, recurses := true, plainKeys := false, apart := false }
def CatalogKeepsSaid : Prop := catalogKeepsRow.holds Tryz.pinned (OpenSpec.ofChange catalogKeepsSpec)

/-- ITS FALSE NEIGHBOUR: 'it returns false'. Refute it at one input. -/
def catalogKeepsWrong : ChangeSpec := { name := "catalogKeeps", fn := fun _ => fun
  | [d] => { results := [.lit (.bool false)], args := [d] }
  | _ => none }
def CatalogKeepsWrongFalsely : Prop := catalogKeepsRow.holds Tryz.pinned (OpenSpec.ofChange catalogKeepsWrong)

/- THE SECOND FORM. 'bulk': how many values and letters a reading holds, each counted each time it is reached (what is shared counts as often as it is met; a slice's spare places count too). A statement '..UptoSaid' is the law's where the arguments, and the package variables that the reading takes, are together of bulk at most 1048576: NARROWER than '..Said'. Prove '..Said' where nothing that the law and all that it calls make is longer than what came in: it says more and counts as full. Else prove '..UptoSaid'. A law counts once. -/
mutual
def uptoBulk {H : Type} : DataW H → Nat
  | .lit (.string bytes) => bytes.length + 1
  | .lit _ => 1
  | .nil => 1
  | .ptr d => uptoBulk d + 1
  | .slice elems spare => uptoBulkAll elems + uptoBulkAll spare + 1
  | .agg parts => uptoBulkAll parts + 1
  | .iface _ d => uptoBulk d + 1
  | .map entries => uptoBulkEntries entries + 1
  | .held _ => 1
def uptoBulkAll {H : Type} : List (DataW H) → Nat
  | [] => 0
  | d :: r => uptoBulk d + uptoBulkAll r
def uptoBulkEntries {H : Type} : List (Lit × DataW H) → Nat
  | [] => 0
  | x :: r => uptoBulkEntry x + uptoBulkEntries r
def uptoBulkEntry {H : Type} : Lit × DataW H → Nat
  | (.string bytes, d) => bytes.length + uptoBulk d + 1
  | (_, d) => uptoBulk d + 1
 end
def uptoSmall : (H : Type) → List (DataW H) → Bool := fun _ ds => decide (uptoBulkAll ds ≤ 1048576)
def OpenSpec.upto (s : _root_.Go.ChangeSpec) : _root_.Go.OpenSpec := { _root_.Go.OpenSpec.ofChange s with cond := some uptoSmall }

/-- 'almonrylaw16.KernelOrders', WHERE WHAT IT READS IS OF BULK AT MOST 1048576: true; the input reads as it did. -/
def kernelOrdersUptoRow : OpenClaim := { program := "ytgjffndpegjenaagreat", sum := "9a79fa7d411b6c430bbd85f1911107bbe9087c11ca93de18661f0a54ba1a754a", func := "almonry/almonrylaw16.KernelOrders", spec := "kernelOrders", unfollowed := true, recurses := true, plainKeys := false, apart := false, narrowed := true }
def KernelOrdersUptoSaid : Prop := kernelOrdersUptoRow.holds Tryz.pinned (OpenSpec.upto kernelOrdersSpec)

/-- 'almonrylaw21.CanonPuts', WHERE WHAT IT READS IS OF BULK AT MOST 1048576: true; the input reads as it did. -/
def canonPutsUptoRow : OpenClaim := { program := "ytgjffndpegjenaagreat", sum := "9a79fa7d411b6c430bbd85f1911107bbe9087c11ca93de18661f0a54ba1a754a", func := "almonry/almonrylaw21.CanonPuts", spec := "canonPuts", inPlace := ["internal/abi.NoEscape"], unfollowed := true, recurses := true, plainKeys := false, apart := false, narrowed := true }
def CanonPutsUptoSaid : Prop := canonPutsUptoRow.holds Tryz.pinned (OpenSpec.upto canonPutsSpec)

/-- 'almonrylaw21.CanonBack', WHERE WHAT IT READS IS OF BULK AT MOST 1048576: true; the input reads as it did. -/
def canonBackUptoRow : OpenClaim := { program := "ytgjffndpegjenaagreat", sum := "9a79fa7d411b6c430bbd85f1911107bbe9087c11ca93de18661f0a54ba1a754a", func := "almonry/almonrylaw21.CanonBack", spec := "canonBack", inPlace := ["internal/abi.NoEscape"], unfollowed := true, recurses := true, plainKeys := false, apart := false, narrowed := true }
def CanonBackUptoSaid : Prop := canonBackUptoRow.holds Tryz.pinned (OpenSpec.upto canonBackSpec)

/-- 'almonrylaw20.ViewTells', WHERE WHAT IT READS IS OF BULK AT MOST 1048576: true; the input reads as it did. -/
def viewTellsUptoRow : OpenClaim := { program := "ytgjffndpegjenaagreat", sum := "9a79fa7d411b6c430bbd85f1911107bbe9087c11ca93de18661f0a54ba1a754a", func := "almonry/almonrylaw20.ViewTells", spec := "viewTells", inPlace := ["math.Float64frombits", "math.Float64bits"], unfollowed := true, recurses := true, plainKeys := false, apart := false, narrowed := true }
def ViewTellsUptoSaid : Prop := viewTellsUptoRow.holds Tryz.pinned (OpenSpec.upto viewTellsSpec)

/-- 'almonrylaw20.ViewTurned', WHERE WHAT IT READS IS OF BULK AT MOST 1048576: true; the input reads as it did. -/
def viewTurnedUptoRow : OpenClaim := { program := "ytgjffndpegjenaagreat", sum := "9a79fa7d411b6c430bbd85f1911107bbe9087c11ca93de18661f0a54ba1a754a", func := "almonry/almonrylaw20.ViewTurned", spec := "viewTurned", inPlace := ["math.Float64frombits", "math.Float64bits"], unfollowed := true, recurses := true, plainKeys := false, apart := false, narrowed := true }
def ViewTurnedUptoSaid : Prop := viewTurnedUptoRow.holds Tryz.pinned (OpenSpec.upto viewTurnedSpec)

/-- 'almonrylaw19.OpMay', WHERE WHAT IT READS IS OF BULK AT MOST 1048576: true; the input reads as it did. -/
def opMayUptoRow : OpenClaim := { program := "ytgjffndpegjenaagreat", sum := "9a79fa7d411b6c430bbd85f1911107bbe9087c11ca93de18661f0a54ba1a754a", func := "almonry/almonrylaw19.OpMay", spec := "opMay", inPlace := ["math.Float64bits"], unfollowed := true, recurses := true, plainKeys := false, apart := false, narrowed := true }
def OpMayUptoSaid : Prop := opMayUptoRow.holds Tryz.pinned (OpenSpec.upto opMaySpec)

/-- 'almonrylaw19.OpMakes', WHERE WHAT IT READS IS OF BULK AT MOST 1048576: true; the input reads as it did. -/
def opMakesUptoRow : OpenClaim := { program := "ytgjffndpegjenaagreat", sum := "9a79fa7d411b6c430bbd85f1911107bbe9087c11ca93de18661f0a54ba1a754a", func := "almonry/almonrylaw19.OpMakes", spec := "opMakes", inPlace := ["math.Float64bits"], unfollowed := true, recurses := true, plainKeys := false, apart := false, narrowed := true }
def OpMakesUptoSaid : Prop := opMakesUptoRow.holds Tryz.pinned (OpenSpec.upto opMakesSpec)

/-- 'almonrylaw19.OpDoes', WHERE WHAT IT READS IS OF BULK AT MOST 1048576: true; the input reads as it did. -/
def opDoesUptoRow : OpenClaim := { program := "ytgjffndpegjenaagreat", sum := "9a79fa7d411b6c430bbd85f1911107bbe9087c11ca93de18661f0a54ba1a754a", func := "almonry/almonrylaw19.OpDoes", spec := "opDoes", inPlace := ["math.Float64bits"], unfollowed := true, recurses := true, plainKeys := false, apart := false, narrowed := true }
def OpDoesUptoSaid : Prop := opDoesUptoRow.holds Tryz.pinned (OpenSpec.upto opDoesSpec)

/-- 'almonrylaw19.OpOne', WHERE WHAT IT READS IS OF BULK AT MOST 1048576: true; the input reads as it did. -/
def opOneUptoRow : OpenClaim := { program := "ytgjffndpegjenaagreat", sum := "9a79fa7d411b6c430bbd85f1911107bbe9087c11ca93de18661f0a54ba1a754a", func := "almonry/almonrylaw19.OpOne", spec := "opOne", inPlace := ["math.Float64bits"], unfollowed := true, recurses := true, plainKeys := false, apart := false, narrowed := true }
def OpOneUptoSaid : Prop := opOneUptoRow.holds Tryz.pinned (OpenSpec.upto opOneSpec)

/-- 'almonrylaw26.MailPuts', WHERE WHAT IT READS IS OF BULK AT MOST 1048576: true; the input reads as it did. -/
def mailPutsUptoRow : OpenClaim := { program := "ytgjffndpegjenaagreat", sum := "9a79fa7d411b6c430bbd85f1911107bbe9087c11ca93de18661f0a54ba1a754a", func := "almonry/almonrylaw26.MailPuts", spec := "mailPuts", inPlace := ["internal/abi.NoEscape"], unfollowed := true, recurses := true, plainKeys := false, apart := false, narrowed := true }
def MailPutsUptoSaid : Prop := mailPutsUptoRow.holds Tryz.pinned (OpenSpec.upto mailPutsSpec)

/-- 'almonrylaw26.MailReads', WHERE WHAT IT READS IS OF BULK AT MOST 1048576: true; the input reads as it did. -/
def mailReadsUptoRow : OpenClaim := { program := "ytgjffndpegjenaagreat", sum := "9a79fa7d411b6c430bbd85f1911107bbe9087c11ca93de18661f0a54ba1a754a", func := "almonry/almonrylaw26.MailReads", spec := "mailReads", inPlace := ["internal/abi.NoEscape"], unfollowed := true, recurses := true, plainKeys := false, apart := false, narrowed := true }
def MailReadsUptoSaid : Prop := mailReadsUptoRow.holds Tryz.pinned (OpenSpec.upto mailReadsSpec)

/-- 'almonrylaw26.MailBack', WHERE WHAT IT READS IS OF BULK AT MOST 1048576: true; the input reads as it did. -/
def mailBackUptoRow : OpenClaim := { program := "ytgjffndpegjenaagreat", sum := "9a79fa7d411b6c430bbd85f1911107bbe9087c11ca93de18661f0a54ba1a754a", func := "almonry/almonrylaw26.MailBack", spec := "mailBack", inPlace := ["internal/abi.NoEscape"], unfollowed := true, recurses := true, plainKeys := false, apart := false, narrowed := true }
def MailBackUptoSaid : Prop := mailBackUptoRow.holds Tryz.pinned (OpenSpec.upto mailBackSpec)

/-- 'almonrylaw23.CatalogPrunes', WHERE WHAT IT READS IS OF BULK AT MOST 1048576: true; the input reads as it did. -/
def catalogPrunesUptoRow : OpenClaim := { program := "ytgjffndpegjenaagreat", sum := "9a79fa7d411b6c430bbd85f1911107bbe9087c11ca93de18661f0a54ba1a754a", func := "almonry/almonrylaw23.CatalogPrunes", spec := "catalogPrunes", unfollowed := true, recurses := true, plainKeys := false, apart := false, narrowed := true }
def CatalogPrunesUptoSaid : Prop := catalogPrunesUptoRow.holds Tryz.pinned (OpenSpec.upto catalogPrunesSpec)

/-- 'almonrylaw23.CatalogPlays', WHERE WHAT IT READS IS OF BULK AT MOST 1048576: true; the input reads as it did. -/
def catalogPlaysUptoRow : OpenClaim := { program := "ytgjffndpegjenaagreat", sum := "9a79fa7d411b6c430bbd85f1911107bbe9087c11ca93de18661f0a54ba1a754a", func := "almonry/almonrylaw23.CatalogPlays", spec := "catalogPlays", unfollowed := true, recurses := true, plainKeys := false, apart := false, narrowed := true }
def CatalogPlaysUptoSaid : Prop := catalogPlaysUptoRow.holds Tryz.pinned (OpenSpec.upto catalogPlaysSpec)

/-- 'almonrylaw23.CatalogKeeps', WHERE WHAT IT READS IS OF BULK AT MOST 1048576: true; the input reads as it did. -/
def catalogKeepsUptoRow : OpenClaim := { program := "ytgjffndpegjenaagreat", sum := "9a79fa7d411b6c430bbd85f1911107bbe9087c11ca93de18661f0a54ba1a754a", func := "almonry/almonrylaw23.CatalogKeeps", spec := "catalogKeeps", unfollowed := true, recurses := true, plainKeys := false, apart := false, narrowed := true }
def CatalogKeepsUptoSaid : Prop := catalogKeepsUptoRow.holds Tryz.pinned (OpenSpec.upto catalogKeepsSpec)

end Rows
end Go.Proofs.YtgjffndpegjenaaGreat
