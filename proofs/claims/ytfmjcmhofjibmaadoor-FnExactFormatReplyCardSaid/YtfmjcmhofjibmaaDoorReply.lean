/- Contracts of the laws' own helpers: replies. -/
import Derived.Test.YtfmjcmhofjibmaaDoorMem2
namespace Go.Proofs.YtfmjcmhofjibmaaDoor
open Go.ChangeShapes Go.WideShapes Go.ChangeAt Go.RowKit
set_option maxRecDepth 100000
def replyV (r : Pu.ReplyD) : Value := .agg #[.int .i64 r.code, .int .i64 r.value, .string r.text, .int .i64 r.want, .int .i64 r.had]
end Go.Proofs.YtfmjcmhofjibmaaDoor
