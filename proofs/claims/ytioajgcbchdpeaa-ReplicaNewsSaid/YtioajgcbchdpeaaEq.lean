/- Equations on runs: structs compared. -/
import Derived.Test.YtioajgcbchdpeaaSameW
namespace Go.Proofs.Ytioajgcbchdpeaa
open Go.RowKit
set_option maxHeartbeats 400000
set_option maxRecDepth 100000
theorem op_dec (a b : Scu.Op) : decide (a = b) = (a.kind == b.kind && (a.at_ == b.at_ && (a.snap == b.snap && decide (a.data = b.data)))) := by
  cases a; cases b
  rw [Bool.eq_iff_iff]
  simp
theorem reply_dec (a b : Scu.Reply) : decide (a = b) = (a.code == b.code && (a.n == b.n && decide (a.data = b.data))) := by
  cases a; cases b
  rw [Bool.eq_iff_iff]
  simp
theorem last_dec (a b : Scu.Last) : decide (a = b) = (a.num == b.num && decide (a.reply = b.reply)) := by
  cases a; cases b
  rw [Bool.eq_iff_iff]
  simp
theorem request_dec (a b : Scu.Request) : decide (a = b) = (a.client == b.client && (a.num == b.num && decide (a.op = b.op))) := by
  cases a; cases b
  rw [Bool.eq_iff_iff]
  simp
theorem run_eql_reply (a b : Scu.Reply) (W : World) : (binOp .eql 43 (.agg #[.int .i64 a.code, .int .i64 a.n, .string a.data]) (.agg #[.int .i64 b.code, .int .i64 b.n, .string b.data])).run Try.prog W = .ok (.bool (decide (a = b))) W := by
  rw [reply_dec, ← str_beq]
  simp [go_sem]
  repeat' split
  all_goals simp_all
theorem run_neq_last (a b : Scu.Last) (W : World) : (binOp .neq 109 (.agg #[.int .i64 a.num, .int .i64 a.reply.code, .int .i64 a.reply.n, .string a.reply.data]) (.agg #[.int .i64 b.num, .int .i64 b.reply.code, .int .i64 b.reply.n, .string b.reply.data])).run Try.prog W = .ok (.bool (!decide (a = b))) W := by
  rw [last_dec, reply_dec, ← str_beq]
  simp [go_sem]
  repeat' split
  all_goals simp_all
end Go.Proofs.Ytioajgcbchdpeaa
