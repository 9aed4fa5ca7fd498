/- Part 8: words and walks under the laws of the whole. -/
import Derived.Test.YtnpphdaakookcaaDoorQ5
set_option linter.unusedVariables false
set_option linter.unusedSimpArgs false
set_option maxHeartbeats 4000000
set_option maxRecDepth 100000
namespace Go.Proofs.YtnpphdaakookcaaDoor
open Go.RowKit
abbrev zR : Array Value := #[.int .i64 0, .int .i64 0, .int .i64 0, .bool false, .slice none 0 0, .int .i64 0, .slice none 0 0, .slice none 0 0, .slice none 0 0, .slice none 0 0]
abbrev rN (r : Scu.Replica) (A : Option Addr) (n c : Nat) (B : Option Addr) (d : Nat) (C : Option Addr) (e : Nat) (D : Option Addr) (f : Nat) (E : Option Addr) (g : Nat) : Array Value := #[.int .i64 r.me, .int .i64 r.kept.view, .int .i64 r.kept.normal, .bool r.kept.calm, .slice A n c, .int .i64 r.kept.commit, .slice B r.have_.length d, .slice C r.wants.length e, .slice D r.gives.length f, .slice E r.given.length g]
abbrev rL (r : Scu.Replica) (A : Option Addr) (n c : Nat) (B : Option Addr) (d : Nat) (C : Option Addr) (e : Nat) (D : Option Addr) (f : Nat) (E : Option Addr) (g : Nat) : List Value := [.int .i64 r.me, .int .i64 r.kept.view, .int .i64 r.kept.normal, .bool r.kept.calm, .slice A n c, .int .i64 r.kept.commit, .slice B r.have_.length d, .slice C r.wants.length e, .slice D r.gives.length f, .slice E r.given.length g]
abbrev aN (a : Scu.Act) : Array Value := #[.int .i64 a.kind, .int .i64 a.c, .int .i64 a.r, .int .i64 a.k, .int .i64 a.n, .int .i64 a.op.kind, .int .i64 a.op.at_, .int .i64 a.op.snap, .string a.op.data]
abbrev mN (m : Scu.Message) (A : Option Addr) (n c : Nat) : Array Value := #[.int .i64 m.kind, .int .i64 m.from_, .int .i64 m.tq, .int .i64 m.view, .int .i64 m.normal, .int .i64 m.commit, .int .i64 m.n, .slice A n c]
end Go.Proofs.YtnpphdaakookcaaDoor
