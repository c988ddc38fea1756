/- Ends: a part. Conditions: none. -/
import Derived.LaidOnce
import Derived.LaidSub
import Derived.SevenTiedAt
import Derived.Test.YtmanpggemmgnnaaGreatDoorRows
import Derived.Test.YtmanpggemmgnnaaGreatDoorA90
set_option linter.all false
set_option maxHeartbeats 8000000
set_option maxRecDepth 1000000
namespace Go.Proofs.YtmanpggemmgnnaaGreatDoor
noncomputable section
open Go
def GW{p:Prop}(h:p:=by kernel_rfl):p:=h
def seatTie1:Tryz.prog.laidByTextLater [("math/bits.deBruijn32tab",Rows.laid_math_bits_deBruijn32tab),("math/bits.deBruijn64tab",Rows.laid_math_bits_deBruijn64tab),("internal/strconv.uint64pow10",Rows.laid_internal_strconv_uint64pow10),("unicode/utf8.acceptRanges",Rows.laid_unicode_utf8_acceptRanges),("errors.errorType",Rows.laid_errors_errorType),("strconv.ErrRange",Rows.laid_strconv_ErrRange),("strconv.ErrSyntax",Rows.laid_strconv_ErrSyntax),("refserve/wire.ErrMore",Rows.laid_refserve_wire_ErrMore)] [.data,.data,.data,.data,.handle,.sentinel,.sentinel,.sentinel] true:=
 Program.laidByTextLater_by_one 98 8 65 GW GW GW GW GW GW (λ_ _=>GW)
def pin_laid_unicode_utf8_first:Tryz.pinned.checked.prog.pinnedFits "unicode/utf8.first"=true:=GW
def noOwnUnsafe:Tryz.pinned.checked.prog.headLifts.contains "ownunsafe"=false:=GW
def fits1:Tryz.pinned.checked.prog.listedFits [("math/bits.deBruijn32tab",Rows.laid_math_bits_deBruijn32tab),("math/bits.deBruijn64tab",Rows.laid_math_bits_deBruijn64tab),("internal/strconv.uint64pow10",Rows.laid_internal_strconv_uint64pow10),("unicode/utf8.acceptRanges",Rows.laid_unicode_utf8_acceptRanges),("errors.errorType",Rows.laid_errors_errorType),("strconv.ErrRange",Rows.laid_strconv_ErrRange),("strconv.ErrSyntax",Rows.laid_strconv_ErrSyntax),("refserve/wire.ErrMore",Rows.laid_refserve_wire_ErrMore),("unicode/utf8.first",Rows.laid_unicode_utf8_first)]=true:=by
 unfold Program.listedFits;rw[noOwnUnsafe]
 kernel_rfl
def tie:Tryz.prog.laidByTextLater [("math/bits.deBruijn32tab",Rows.laid_math_bits_deBruijn32tab),("math/bits.deBruijn64tab",Rows.laid_math_bits_deBruijn64tab),("internal/strconv.uint64pow10",Rows.laid_internal_strconv_uint64pow10),("unicode/utf8.acceptRanges",Rows.laid_unicode_utf8_acceptRanges),("errors.errorType",Rows.laid_errors_errorType),("strconv.ErrRange",Rows.laid_strconv_ErrRange),("strconv.ErrSyntax",Rows.laid_strconv_ErrSyntax),("refserve/wire.ErrMore",Rows.laid_refserve_wire_ErrMore)] [.data,.data,.data,.data,.handle,.sentinel,.sentinel,.sentinel] true:=
 Program.laidByTextLater.sub seatTie1 ["math/bits.deBruijn32tab","math/bits.deBruijn64tab","internal/strconv.uint64pow10","unicode/utf8.acceptRanges","errors.errorType","strconv.ErrRange","strconv.ErrSyntax","refserve/wire.ErrMore"] GW GW
def ends_row_tie:Rows.endsRow.laidByTextAt .later Tryz.pinned [.data,.data,.data,.data,.handle,.sentinel,.sentinel,.sentinel,.pinned] true:=
 OpenClaim.laidByTextAt_pinned rfl rfl tie rfl rfl rfl rfl (λy hy _e=>by
  simp only[Rows.endsRow,rI,List.zip_nil_right,bm,List.mem_nil_iff,gb]at hy;rcases hy with rfl|rfl|rfl|rfl|rfl|rfl|rfl|rfl|rfl
  ·cases _e
  ·cases _e
  ·cases _e
  ·cases _e
  ·cases _e
  ·cases _e
  ·cases _e
  ·cases _e
  ·exact⟨pin_laid_unicode_utf8_first,GW⟩) fits1
