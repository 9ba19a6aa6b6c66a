/-
  NARROWER THAN 'FOR EVERY INPUT', by the rows' own cells (each row's printed sentence says how): ShaTells: laid · RowsNames: laid · RowsTrue: laid · ShaParts: laid · ShaNames: laid · ShaBack: laid · RowsFit: laid · RowsJoin: laid · RowsTell: laid.
  DERIVED. THE GIVEN ROWS OF THIS SEAT. 9 by the template 'for every input the law returns true; each argument reads behind the call as it read before'; 0 by the template 'total and deterministic' (their statements: YtoaimcobcgomjaaDoorTotals.lean).
  GIVEN WITH THE SEED: the statements are not yours to turn. If you find one false, say at which input.
  Laid BY PROGRAM, IN A SANDBOX (cutbox-rows.mjs): the forced cells as the released guide's own fill.sh prints them over the translation fa93430bdc65a740… (all of the seat's roots in one cut). By AI agents, Wed Nov 11 2026. No macro, syntax, notation, axiom, sorry.
-/
import Derived.Test.YtoaimcobcgomjaaDoorChecked
import GoSem.Claim
import GoSem.ClaimJoined
import GoSem.ClaimMapViews
import Derived.JoinedTies
import Derived.KernelRfl
namespace Go.Proofs.YtoaimcobcgomjaaDoor
/- THE CELL 'sum', in the pinned program and in every row, IS THE sha256 OF THE DUMP (.gsa) THAT YtoaimcobcgomjaaDoorProg.lean LOADS. Nothing in Lean hashes anything: it is a label: what it is worth is what the hold of that sum in a sandbox is worth. -/
noncomputable def Tryd.pinned : Pinned := { name := "ytoaimcobcgomjaadoor", sum := "fa93430bdc65a740fa8abd6474d0d7a882582300305273949c7cda7c7d44731c", checked := Tryd.checked }
namespace Rows
def none {H : Type} : Left H := { results := [], args := [] }

/- WHAT THE LISTED PACKAGE-LEVEL VARIABLES READ AS WHEN THE CALL BEGINS. Each datum BY PROGRAM (the guide's laid-datum.mjs) off the statement by which the dump's own 'gosem.cut.vars' lays the variable. In a bare row this is a premise. The card (YtoaimcobcgomjaaDoorCards.lean) ties it to the program's text. -/
def laid_beadroll_sha_k {H : Type} : DataW H := .agg [.lit (.int .u32 1116352408), .lit (.int .u32 1899447441), .lit (.int .u32 3049323471), .lit (.int .u32 3921009573), .lit (.int .u32 961987163), .lit (.int .u32 1508970993), .lit (.int .u32 2453635748), .lit (.int .u32 2870763221), .lit (.int .u32 3624381080), .lit (.int .u32 310598401), .lit (.int .u32 607225278), .lit (.int .u32 1426881987), .lit (.int .u32 1925078388), .lit (.int .u32 2162078206), .lit (.int .u32 2614888103), .lit (.int .u32 3248222580), .lit (.int .u32 3835390401), .lit (.int .u32 4022224774), .lit (.int .u32 264347078), .lit (.int .u32 604807628), .lit (.int .u32 770255983), .lit (.int .u32 1249150122), .lit (.int .u32 1555081692), .lit (.int .u32 1996064986), .lit (.int .u32 2554220882), .lit (.int .u32 2821834349), .lit (.int .u32 2952996808), .lit (.int .u32 3210313671), .lit (.int .u32 3336571891), .lit (.int .u32 3584528711), .lit (.int .u32 113926993), .lit (.int .u32 338241895), .lit (.int .u32 666307205), .lit (.int .u32 773529912), .lit (.int .u32 1294757372), .lit (.int .u32 1396182291), .lit (.int .u32 1695183700), .lit (.int .u32 1986661051), .lit (.int .u32 2177026350), .lit (.int .u32 2456956037), .lit (.int .u32 2730485921), .lit (.int .u32 2820302411), .lit (.int .u32 3259730800), .lit (.int .u32 3345764771), .lit (.int .u32 3516065817), .lit (.int .u32 3600352804), .lit (.int .u32 4094571909), .lit (.int .u32 275423344), .lit (.int .u32 430227734), .lit (.int .u32 506948616), .lit (.int .u32 659060556), .lit (.int .u32 883997877), .lit (.int .u32 958139571), .lit (.int .u32 1322822218), .lit (.int .u32 1537002063), .lit (.int .u32 1747873779), .lit (.int .u32 1955562222), .lit (.int .u32 2024104815), .lit (.int .u32 2227730452), .lit (.int .u32 2361852424), .lit (.int .u32 2428436474), .lit (.int .u32 2756734187), .lit (.int .u32 3204031479), .lit (.int .u32 3329325298)]

/-- 'beadrolllaw02.ShaTells': WHATEVER THE INPUT: true; the input reads as it did. -/
def shaTellsSpec : ChangeSpec := { name := "shaTells", fn := fun _ => fun
  | [d1, d2] => { results := [.lit (.bool true)], args := [d1, d2] }
  | _ => none }
def shaTellsRow : OpenClaim := { program := "ytoaimcobcgomjaadoor", sum := "fa93430bdc65a740fa8abd6474d0d7a882582300305273949c7cda7c7d44731c", func := "beadroll/beadrolllaw02.ShaTells", spec := "shaTells", named := ["beadroll/sha.k"], apart := false, laid := [("beadroll/sha.k", laid_beadroll_sha_k)] }
def ShaTellsSaid : Prop := shaTellsRow.holds Tryd.pinned (OpenSpec.ofChange shaTellsSpec)

/-- ITS FALSE NEIGHBOUR: 'it returns false'. Refute it at one input. -/
def shaTellsWrong : ChangeSpec := { name := "shaTells", fn := fun _ => fun
  | [d1, d2] => { results := [.lit (.bool false)], args := [d1, d2] }
  | _ => none }
def ShaTellsWrongFalsely : Prop := shaTellsRow.holds Tryd.pinned (OpenSpec.ofChange shaTellsWrong)

/-- 'beadrolllaw13.RowsNames': WHATEVER THE INPUT: true; the input reads as it did. -/
def rowsNamesSpec : ChangeSpec := { name := "rowsNames", fn := fun _ => fun
  | [] => { results := [.lit (.bool true)], args := [] }
  | _ => none }
def rowsNamesRow : OpenClaim := { program := "ytoaimcobcgomjaadoor", sum := "fa93430bdc65a740fa8abd6474d0d7a882582300305273949c7cda7c7d44731c", func := "beadroll/beadrolllaw13.RowsNames", spec := "rowsNames", unfollowed := true, recurses := true, named := ["beadroll/sha.k"], apart := false, laid := [("beadroll/sha.k", laid_beadroll_sha_k)] }
def RowsNamesSaid : Prop := rowsNamesRow.holds Tryd.pinned (OpenSpec.ofChange rowsNamesSpec)

/-- ITS FALSE NEIGHBOUR: 'it returns false'. Refute it at one input. -/
def rowsNamesWrong : ChangeSpec := { name := "rowsNames", fn := fun _ => fun
  | [] => { results := [.lit (.bool false)], args := [] }
  | _ => none }
def RowsNamesWrongFalsely : Prop := rowsNamesRow.holds Tryd.pinned (OpenSpec.ofChange rowsNamesWrong)

/-- 'beadrolllaw13.RowsTrue': WHATEVER THE INPUT: true; the input reads as it did. -/
def rowsTrueSpec : ChangeSpec := { name := "rowsTrue", fn := fun _ => fun
  | [d1, d2] => { results := [.lit (.bool true)], args := [d1, d2] }
  | _ => none }
def rowsTrueRow : OpenClaim := { program := "ytoaimcobcgomjaadoor", sum := "fa93430bdc65a740fa8abd6474d0d7a882582300305273949c7cda7c7d44731c", func := "beadroll/beadrolllaw13.RowsTrue", spec := "rowsTrue", unfollowed := true, recurses := true, named := ["beadroll/sha.k"], apart := false, laid := [("beadroll/sha.k", laid_beadroll_sha_k)] }
def RowsTrueSaid : Prop := rowsTrueRow.holds Tryd.pinned (OpenSpec.ofChange rowsTrueSpec)

/-- ITS FALSE NEIGHBOUR: 'it returns false'. Refute it at one input. -/
def rowsTrueWrong : ChangeSpec := { name := "rowsTrue", fn := fun _ => fun
  | [d1, d2] => { results := [.lit (.bool false)], args := [d1, d2] }
  | _ => none }
def RowsTrueWrongFalsely : Prop := rowsTrueRow.holds Tryd.pinned (OpenSpec.ofChange rowsTrueWrong)

/-- 'beadrolllaw02.ShaParts': WHATEVER THE INPUT: true; the input reads as it did. -/
def shaPartsSpec : ChangeSpec := { name := "shaParts", fn := fun _ => fun
  | [d1, d2, d3] => { results := [.lit (.bool true)], args := [d1, d2, d3] }
  | _ => none }
def shaPartsRow : OpenClaim := { program := "ytoaimcobcgomjaadoor", sum := "fa93430bdc65a740fa8abd6474d0d7a882582300305273949c7cda7c7d44731c", func := "beadroll/beadrolllaw02.ShaParts", spec := "shaParts", inPlace := ["internal/abi.NoEscape"], named := ["beadroll/sha.k"], apart := false, laid := [("beadroll/sha.k", laid_beadroll_sha_k)] }
def ShaPartsSaid : Prop := shaPartsRow.holds Tryd.pinned (OpenSpec.ofChange shaPartsSpec)

/-- ITS FALSE NEIGHBOUR: 'it returns false'. Refute it at one input. -/
def shaPartsWrong : ChangeSpec := { name := "shaParts", fn := fun _ => fun
  | [d1, d2, d3] => { results := [.lit (.bool false)], args := [d1, d2, d3] }
  | _ => none }
def ShaPartsWrongFalsely : Prop := shaPartsRow.holds Tryd.pinned (OpenSpec.ofChange shaPartsWrong)

/-- 'beadrolllaw02.ShaNames': WHATEVER THE INPUT: true; the input reads as it did. -/
def shaNamesSpec : ChangeSpec := { name := "shaNames", fn := fun _ => fun
  | [] => { results := [.lit (.bool true)], args := [] }
  | _ => none }
def shaNamesRow : OpenClaim := { program := "ytoaimcobcgomjaadoor", sum := "fa93430bdc65a740fa8abd6474d0d7a882582300305273949c7cda7c7d44731c", func := "beadroll/beadrolllaw02.ShaNames", spec := "shaNames", inPlace := ["internal/bytealg.IndexByteString", "internal/abi.NoEscape"], named := ["beadroll/sha.k"], apart := false, laid := [("beadroll/sha.k", laid_beadroll_sha_k)] }
def ShaNamesSaid : Prop := shaNamesRow.holds Tryd.pinned (OpenSpec.ofChange shaNamesSpec)

/-- ITS FALSE NEIGHBOUR: 'it returns false'. Refute it at one input. -/
def shaNamesWrong : ChangeSpec := { name := "shaNames", fn := fun _ => fun
  | [] => { results := [.lit (.bool false)], args := [] }
  | _ => none }
def ShaNamesWrongFalsely : Prop := shaNamesRow.holds Tryd.pinned (OpenSpec.ofChange shaNamesWrong)

/-- 'beadrolllaw02.ShaBack': WHATEVER THE INPUT: true; the input reads as it did. -/
def shaBackSpec : ChangeSpec := { name := "shaBack", fn := fun _ => fun
  | [d1, d2] => { results := [.lit (.bool true)], args := [d1, d2] }
  | _ => none }
def shaBackRow : OpenClaim := { program := "ytoaimcobcgomjaadoor", sum := "fa93430bdc65a740fa8abd6474d0d7a882582300305273949c7cda7c7d44731c", func := "beadroll/beadrolllaw02.ShaBack", spec := "shaBack", inPlace := ["internal/abi.NoEscape", "internal/bytealg.IndexByteString"], named := ["beadroll/sha.k"], apart := false, laid := [("beadroll/sha.k", laid_beadroll_sha_k)] }
def ShaBackSaid : Prop := shaBackRow.holds Tryd.pinned (OpenSpec.ofChange shaBackSpec)

/-- ITS FALSE NEIGHBOUR: 'it returns false'. Refute it at one input. -/
def shaBackWrong : ChangeSpec := { name := "shaBack", fn := fun _ => fun
  | [d1, d2] => { results := [.lit (.bool false)], args := [d1, d2] }
  | _ => none }
def ShaBackWrongFalsely : Prop := shaBackRow.holds Tryd.pinned (OpenSpec.ofChange shaBackWrong)

/-- 'beadrolllaw13.RowsFit': WHATEVER THE INPUT: true; the input reads as it did. -/
def rowsFitSpec : ChangeSpec := { name := "rowsFit", fn := fun _ => fun
  | [d1, d2, d3, d4, d5] => { results := [.lit (.bool true)], args := [d1, d2, d3, d4, d5] }
  | _ => none }
def rowsFitRow : OpenClaim := { program := "ytoaimcobcgomjaadoor", sum := "fa93430bdc65a740fa8abd6474d0d7a882582300305273949c7cda7c7d44731c", func := "beadroll/beadrolllaw13.RowsFit", spec := "rowsFit", recurses := true, named := ["beadroll/sha.k"], apart := false, laid := [("beadroll/sha.k", laid_beadroll_sha_k)] }
def RowsFitSaid : Prop := rowsFitRow.holds Tryd.pinned (OpenSpec.ofChange rowsFitSpec)

/-- ITS FALSE NEIGHBOUR: 'it returns false'. Refute it at one input. -/
def rowsFitWrong : ChangeSpec := { name := "rowsFit", fn := fun _ => fun
  | [d1, d2, d3, d4, d5] => { results := [.lit (.bool false)], args := [d1, d2, d3, d4, d5] }
  | _ => none }
def RowsFitWrongFalsely : Prop := rowsFitRow.holds Tryd.pinned (OpenSpec.ofChange rowsFitWrong)

/-- 'beadrolllaw13.RowsJoin': WHATEVER THE INPUT: true; the input reads as it did. -/
def rowsJoinSpec : ChangeSpec := { name := "rowsJoin", fn := fun _ => fun
  | [d1, d2] => { results := [.lit (.bool true)], args := [d1, d2] }
  | _ => none }
def rowsJoinRow : OpenClaim := { program := "ytoaimcobcgomjaadoor", sum := "fa93430bdc65a740fa8abd6474d0d7a882582300305273949c7cda7c7d44731c", func := "beadroll/beadrolllaw13.RowsJoin", spec := "rowsJoin", unfollowed := true, recurses := true, named := ["beadroll/sha.k"], apart := false, laid := [("beadroll/sha.k", laid_beadroll_sha_k)] }
def RowsJoinSaid : Prop := rowsJoinRow.holds Tryd.pinned (OpenSpec.ofChange rowsJoinSpec)

/-- ITS FALSE NEIGHBOUR: 'it returns false'. Refute it at one input. -/
def rowsJoinWrong : ChangeSpec := { name := "rowsJoin", fn := fun _ => fun
  | [d1, d2] => { results := [.lit (.bool false)], args := [d1, d2] }
  | _ => none }
def RowsJoinWrongFalsely : Prop := rowsJoinRow.holds Tryd.pinned (OpenSpec.ofChange rowsJoinWrong)

/-- 'beadrolllaw13.RowsTell': WHATEVER THE INPUT: true; the input reads as it did. -/
def rowsTellSpec : ChangeSpec := { name := "rowsTell", fn := fun _ => fun
  | [d1, d2] => { results := [.lit (.bool true)], args := [d1, d2] }
  | _ => none }
def rowsTellRow : OpenClaim := { program := "ytoaimcobcgomjaadoor", sum := "fa93430bdc65a740fa8abd6474d0d7a882582300305273949c7cda7c7d44731c", func := "beadroll/beadrolllaw13.RowsTell", spec := "rowsTell", unfollowed := true, recurses := true, named := ["beadroll/sha.k"], apart := false, laid := [("beadroll/sha.k", laid_beadroll_sha_k)] }
def RowsTellSaid : Prop := rowsTellRow.holds Tryd.pinned (OpenSpec.ofChange rowsTellSpec)

/-- ITS FALSE NEIGHBOUR: 'it returns false'. Refute it at one input. -/
def rowsTellWrong : ChangeSpec := { name := "rowsTell", fn := fun _ => fun
  | [d1, d2] => { results := [.lit (.bool false)], args := [d1, d2] }
  | _ => none }
def RowsTellWrongFalsely : Prop := rowsTellRow.holds Tryd.pinned (OpenSpec.ofChange rowsTellWrong)

/- THE SECOND FORM. 'bulk': how many values and letters a reading holds, each counted each time it is reached (what is shared counts as often as it is met; a slice's spare places count too). A statement '..UptoSaid' is the law's where the arguments, and the package variables that the reading takes, are together of bulk at most 1048576: NARROWER than '..Said'. Prove '..Said' where nothing that the law and all that it calls make is longer than what came in: it says more and counts as full. Else prove '..UptoSaid'. A law counts once. -/
mutual
def uptoBulk {H : Type} : DataW H → Nat
  | .lit (.string bytes) => bytes.length + 1
  | .lit _ => 1
  | .nil => 1
  | .ptr d => uptoBulk d + 1
  | .slice elems spare => uptoBulkAll elems + uptoBulkAll spare + 1
  | .agg parts => uptoBulkAll parts + 1
  | .iface _ d => uptoBulk d + 1
  | .map entries => uptoBulkEntries entries + 1
  | .held _ => 1
def uptoBulkAll {H : Type} : List (DataW H) → Nat
  | [] => 0
  | d :: r => uptoBulk d + uptoBulkAll r
def uptoBulkEntries {H : Type} : List (Lit × DataW H) → Nat
  | [] => 0
  | x :: r => uptoBulkEntry x + uptoBulkEntries r
def uptoBulkEntry {H : Type} : Lit × DataW H → Nat
  | (.string bytes, d) => bytes.length + uptoBulk d + 1
  | (_, d) => uptoBulk d + 1
 end
def uptoSmall : (H : Type) → List (DataW H) → Bool := fun _ ds => decide (uptoBulkAll ds ≤ 1048576)
def OpenSpec.upto (s : _root_.Go.ChangeSpec) : _root_.Go.OpenSpec := { _root_.Go.OpenSpec.ofChange s with cond := some uptoSmall }

/-- 'beadrolllaw02.ShaTells', WHERE WHAT IT READS IS OF BULK AT MOST 1048576: true; the input reads as it did. -/
def shaTellsUptoRow : OpenClaim := { program := "ytoaimcobcgomjaadoor", sum := "fa93430bdc65a740fa8abd6474d0d7a882582300305273949c7cda7c7d44731c", func := "beadroll/beadrolllaw02.ShaTells", spec := "shaTells", named := ["beadroll/sha.k"], apart := false, laid := [("beadroll/sha.k", laid_beadroll_sha_k)], narrowed := true }
def ShaTellsUptoSaid : Prop := shaTellsUptoRow.holds Tryd.pinned (OpenSpec.upto shaTellsSpec)

/-- 'beadrolllaw13.RowsNames', WHERE WHAT IT READS IS OF BULK AT MOST 1048576: true; the input reads as it did. -/
def rowsNamesUptoRow : OpenClaim := { program := "ytoaimcobcgomjaadoor", sum := "fa93430bdc65a740fa8abd6474d0d7a882582300305273949c7cda7c7d44731c", func := "beadroll/beadrolllaw13.RowsNames", spec := "rowsNames", unfollowed := true, recurses := true, named := ["beadroll/sha.k"], apart := false, laid := [("beadroll/sha.k", laid_beadroll_sha_k)], narrowed := true }
def RowsNamesUptoSaid : Prop := rowsNamesUptoRow.holds Tryd.pinned (OpenSpec.upto rowsNamesSpec)

/-- 'beadrolllaw13.RowsTrue', WHERE WHAT IT READS IS OF BULK AT MOST 1048576: true; the input reads as it did. -/
def rowsTrueUptoRow : OpenClaim := { program := "ytoaimcobcgomjaadoor", sum := "fa93430bdc65a740fa8abd6474d0d7a882582300305273949c7cda7c7d44731c", func := "beadroll/beadrolllaw13.RowsTrue", spec := "rowsTrue", unfollowed := true, recurses := true, named := ["beadroll/sha.k"], apart := false, laid := [("beadroll/sha.k", laid_beadroll_sha_k)], narrowed := true }
def RowsTrueUptoSaid : Prop := rowsTrueUptoRow.holds Tryd.pinned (OpenSpec.upto rowsTrueSpec)

/-- 'beadrolllaw02.ShaParts', WHERE WHAT IT READS IS OF BULK AT MOST 1048576: true; the input reads as it did. -/
def shaPartsUptoRow : OpenClaim := { program := "ytoaimcobcgomjaadoor", sum := "fa93430bdc65a740fa8abd6474d0d7a882582300305273949c7cda7c7d44731c", func := "beadroll/beadrolllaw02.ShaParts", spec := "shaParts", inPlace := ["internal/abi.NoEscape"], named := ["beadroll/sha.k"], apart := false, laid := [("beadroll/sha.k", laid_beadroll_sha_k)], narrowed := true }
def ShaPartsUptoSaid : Prop := shaPartsUptoRow.holds Tryd.pinned (OpenSpec.upto shaPartsSpec)

/-- 'beadrolllaw02.ShaNames', WHERE WHAT IT READS IS OF BULK AT MOST 1048576: true; the input reads as it did. -/
def shaNamesUptoRow : OpenClaim := { program := "ytoaimcobcgomjaadoor", sum := "fa93430bdc65a740fa8abd6474d0d7a882582300305273949c7cda7c7d44731c", func := "beadroll/beadrolllaw02.ShaNames", spec := "shaNames", inPlace := ["internal/bytealg.IndexByteString", "internal/abi.NoEscape"], named := ["beadroll/sha.k"], apart := false, laid := [("beadroll/sha.k", laid_beadroll_sha_k)], narrowed := true }
def ShaNamesUptoSaid : Prop := shaNamesUptoRow.holds Tryd.pinned (OpenSpec.upto shaNamesSpec)

/-- 'beadrolllaw02.ShaBack', WHERE WHAT IT READS IS OF BULK AT MOST 1048576: true; the input reads as it did. -/
def shaBackUptoRow : OpenClaim := { program := "ytoaimcobcgomjaadoor", sum := "fa93430bdc65a740fa8abd6474d0d7a882582300305273949c7cda7c7d44731c", func := "beadroll/beadrolllaw02.ShaBack", spec := "shaBack", inPlace := ["internal/abi.NoEscape", "internal/bytealg.IndexByteString"], named := ["beadroll/sha.k"], apart := false, laid := [("beadroll/sha.k", laid_beadroll_sha_k)], narrowed := true }
def ShaBackUptoSaid : Prop := shaBackUptoRow.holds Tryd.pinned (OpenSpec.upto shaBackSpec)

/-- 'beadrolllaw13.RowsFit', WHERE WHAT IT READS IS OF BULK AT MOST 1048576: true; the input reads as it did. -/
def rowsFitUptoRow : OpenClaim := { program := "ytoaimcobcgomjaadoor", sum := "fa93430bdc65a740fa8abd6474d0d7a882582300305273949c7cda7c7d44731c", func := "beadroll/beadrolllaw13.RowsFit", spec := "rowsFit", recurses := true, named := ["beadroll/sha.k"], apart := false, laid := [("beadroll/sha.k", laid_beadroll_sha_k)], narrowed := true }
def RowsFitUptoSaid : Prop := rowsFitUptoRow.holds Tryd.pinned (OpenSpec.upto rowsFitSpec)

/-- 'beadrolllaw13.RowsJoin', WHERE WHAT IT READS IS OF BULK AT MOST 1048576: true; the input reads as it did. -/
def rowsJoinUptoRow : OpenClaim := { program := "ytoaimcobcgomjaadoor", sum := "fa93430bdc65a740fa8abd6474d0d7a882582300305273949c7cda7c7d44731c", func := "beadroll/beadrolllaw13.RowsJoin", spec := "rowsJoin", unfollowed := true, recurses := true, named := ["beadroll/sha.k"], apart := false, laid := [("beadroll/sha.k", laid_beadroll_sha_k)], narrowed := true }
def RowsJoinUptoSaid : Prop := rowsJoinUptoRow.holds Tryd.pinned (OpenSpec.upto rowsJoinSpec)

/-- 'beadrolllaw13.RowsTell', WHERE WHAT IT READS IS OF BULK AT MOST 1048576: true; the input reads as it did. -/
def rowsTellUptoRow : OpenClaim := { program := "ytoaimcobcgomjaadoor", sum := "fa93430bdc65a740fa8abd6474d0d7a882582300305273949c7cda7c7d44731c", func := "beadroll/beadrolllaw13.RowsTell", spec := "rowsTell", unfollowed := true, recurses := true, named := ["beadroll/sha.k"], apart := false, laid := [("beadroll/sha.k", laid_beadroll_sha_k)], narrowed := true }
def RowsTellUptoSaid : Prop := rowsTellUptoRow.holds Tryd.pinned (OpenSpec.upto rowsTellSpec)

end Rows
end Go.Proofs.YtoaimcobcgomjaaDoor
