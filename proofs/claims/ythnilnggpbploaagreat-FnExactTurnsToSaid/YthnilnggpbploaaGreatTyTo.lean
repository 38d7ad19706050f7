/- Structs copied, as the laws do. Printed by a program. -/
import Derived.Test.YthnilnggpbploaaGreatTySz
import Derived.Test.YthnilnggpbploaaGreatOwn2
import Derived.Test.YthnilnggpbploaaGreatIntS
namespace Go.Proofs.YthnilnggpbploaaGreat
open Go.RowKit
open Cel (rd own rd_len rd_one own_rd own_lt rd_below rd_mono own_keep)

theorem ne2 (n : Nat) : ¬ n = n + 1 + 1 := by omega
theorem own_Val {w : World} {x : ValD} (hx : okVal x) : own w [.int .i64 x.K, .int .i64 x.N, .string x.S] x [] :=
  ⟨[.int .i64 x.K], [.int .i64 x.N, .string x.S], [], [], rfl, by simp, ⟨rfl, hx.1, rfl⟩, ⟨[.int .i64 x.N], [.string x.S], [], [], rfl, by simp, ⟨rfl, hx.2.1, rfl⟩, ⟨rfl, hx.2.2, rfl⟩⟩⟩
def zeroVal : ValD := ⟨0, 0, ⟨#[]⟩⟩
theorem okzeroVal : okVal zeroVal := ⟨⟨by decide, by decide⟩, ⟨by decide, by decide⟩, (Nat.zero_le _)⟩
def ToVal (x : ValD) (w : World) (e : Ending) (w' : World) : Prop :=
  e = .returned (.agg #[.int .i64 x.K, .int .i64 x.N, .string x.S]) ∧ Below w.heap.size w w'
theorem own_Fact {w : World} {x : FactD} (hx : okFact x) {u0 : Value} {f0 : List Nat} (h0 : OwnS w x.Fields u0 f0) : own w [.string x.Kind, u0] x f0 :=
  ⟨[.string x.Kind], [u0], [], f0, rfl, by simp, ⟨rfl, hx, rfl⟩, ⟨u0, rfl, h0⟩⟩
def zeroFact : FactD := ⟨⟨#[]⟩, []⟩
theorem okzeroFact : okFact zeroFact := (Nat.zero_le _)
def ToFact (x : FactD) (w : World) (e : Ending) (w' : World) : Prop :=
  ∃ a0 c0 f0, e = .returned (.agg #[.string x.Kind, .slice a0 x.Fields.length c0]) ∧ OwnS w' x.Fields (.slice a0 x.Fields.length c0) f0 ∧ Fr w.heap.size f0 ∧ Below w.heap.size w w'
theorem own_Item {w : World} {x : ItemD} (hx : okItem x) {u0 : Value} {f0 : List Nat} (h0 : OwnS w x.F.Fields u0 f0) : own w [.int .i64 x.Id, .string x.F.Kind, u0] x f0 :=
  ⟨[.int .i64 x.Id], [.string x.F.Kind, u0], [], f0, rfl, by simp, ⟨rfl, hx.1, rfl⟩, own_Fact hx.2 h0⟩
def zeroItem : ItemD := ⟨0, zeroFact⟩
theorem okzeroItem : okItem zeroItem := ⟨⟨by decide, by decide⟩, okzeroFact⟩
def ToItem (x : ItemD) (w : World) (e : Ending) (w' : World) : Prop :=
  ∃ a0 c0 f0, e = .returned (.agg #[.int .i64 x.Id, .string x.F.Kind, .slice a0 x.F.Fields.length c0]) ∧ OwnS w' x.F.Fields (.slice a0 x.F.Fields.length c0) f0 ∧ Fr w.heap.size f0 ∧ Below w.heap.size w w'
theorem own_Store {w : World} {x : StoreD} (hx : okStore x) {u0 : Value} {f0 : List Nat} (h0 : OwnS w x.Items u0 f0) : own w [u0, .int .i64 x.Next] x f0 :=
  ⟨[u0], [.int .i64 x.Next], f0, [], rfl, by simp, ⟨u0, rfl, h0⟩, ⟨rfl, hx, rfl⟩⟩
def zeroStore : StoreD := ⟨[], 0⟩
theorem okzeroStore : okStore zeroStore := ⟨by decide, by decide⟩
def ToStore (x : StoreD) (w : World) (e : Ending) (w' : World) : Prop :=
  ∃ a0 c0 f0, e = .returned (.agg #[.slice a0 x.Items.length c0, .int .i64 x.Next]) ∧ OwnS w' x.Items (.slice a0 x.Items.length c0) f0 ∧ Fr w.heap.size f0 ∧ Below w.heap.size w w'
theorem own_Arg {w : World} {x : ArgD} (hx : okArg x) : own w [.int .i64 x.K, .string x.S, .int .i64 x.V.K, .int .i64 x.V.N, .string x.V.S] x [] :=
  ⟨[.int .i64 x.K], [.string x.S, .int .i64 x.V.K, .int .i64 x.V.N, .string x.V.S], [], [], rfl, by simp, ⟨rfl, hx.1, rfl⟩, ⟨[.string x.S], [.int .i64 x.V.K, .int .i64 x.V.N, .string x.V.S], [], [], rfl, by simp, ⟨rfl, hx.2.1, rfl⟩, own_Val hx.2.2⟩⟩
def zeroArg : ArgD := ⟨0, ⟨#[]⟩, zeroVal⟩
theorem okzeroArg : okArg zeroArg := ⟨⟨by decide, by decide⟩, (Nat.zero_le _), okzeroVal⟩
def ToArg (x : ArgD) (w : World) (e : Ending) (w' : World) : Prop :=
  e = .returned (.agg #[.int .i64 x.K, .string x.S, .int .i64 x.V.K, .int .i64 x.V.N, .string x.V.S]) ∧ Below w.heap.size w w'
theorem own_Pat {w : World} {x : PatD} (hx : okPat x) {u0 : Value} {f0 : List Nat} (h0 : OwnS w x.Args u0 f0) : own w [.string x.Kind, u0, .bool x.Not] x f0 :=
  ⟨[.string x.Kind], [u0, .bool x.Not], [], f0, rfl, by simp, ⟨rfl, hx, rfl⟩, ⟨[u0], [.bool x.Not], f0, [], rfl, by simp, ⟨u0, rfl, h0⟩, ⟨rfl, rfl⟩⟩⟩
def zeroPat : PatD := ⟨⟨#[]⟩, [], false⟩
theorem okzeroPat : okPat zeroPat := (Nat.zero_le _)
def ToPat (x : PatD) (w : World) (e : Ending) (w' : World) : Prop :=
  ∃ a0 c0 f0, e = .returned (.agg #[.string x.Kind, .slice a0 x.Args.length c0, .bool x.Not]) ∧ OwnS w' x.Args (.slice a0 x.Args.length c0) f0 ∧ Fr w.heap.size f0 ∧ Below w.heap.size w w'
theorem own_Bind {w : World} {x : BindD} (hx : okBind x) : own w [.string x.Name, .int .i64 x.V.K, .int .i64 x.V.N, .string x.V.S] x [] :=
  ⟨[.string x.Name], [.int .i64 x.V.K, .int .i64 x.V.N, .string x.V.S], [], [], rfl, by simp, ⟨rfl, hx.1, rfl⟩, own_Val hx.2⟩
def zeroBind : BindD := ⟨⟨#[]⟩, zeroVal⟩
theorem okzeroBind : okBind zeroBind := ⟨(Nat.zero_le _), okzeroVal⟩
def ToBind (x : BindD) (w : World) (e : Ending) (w' : World) : Prop :=
  e = .returned (.agg #[.string x.Name, .int .i64 x.V.K, .int .i64 x.V.N, .string x.V.S]) ∧ Below w.heap.size w w'
theorem own_Cond {w : World} {x : CondD} (hx : okCond x) : own w [.int .i64 x.Op, .int .i64 x.L.K, .string x.L.S, .int .i64 x.L.V.K, .int .i64 x.L.V.N, .string x.L.V.S, .int .i64 x.R.K, .string x.R.S, .int .i64 x.R.V.K, .int .i64 x.R.V.N, .string x.R.V.S] x [] :=
  ⟨[.int .i64 x.Op], [.int .i64 x.L.K, .string x.L.S, .int .i64 x.L.V.K, .int .i64 x.L.V.N, .string x.L.V.S, .int .i64 x.R.K, .string x.R.S, .int .i64 x.R.V.K, .int .i64 x.R.V.N, .string x.R.V.S], [], [], rfl, by simp, ⟨rfl, hx.1, rfl⟩, ⟨[.int .i64 x.L.K, .string x.L.S, .int .i64 x.L.V.K, .int .i64 x.L.V.N, .string x.L.V.S], [.int .i64 x.R.K, .string x.R.S, .int .i64 x.R.V.K, .int .i64 x.R.V.N, .string x.R.V.S], [], [], rfl, by simp, own_Arg hx.2.1, own_Arg hx.2.2⟩⟩
def zeroCond : CondD := ⟨0, zeroArg, zeroArg⟩
theorem okzeroCond : okCond zeroCond := ⟨⟨by decide, by decide⟩, okzeroArg, okzeroArg⟩
def ToCond (x : CondD) (w : World) (e : Ending) (w' : World) : Prop :=
  e = .returned (.agg #[.int .i64 x.Op, .int .i64 x.L.K, .string x.L.S, .int .i64 x.L.V.K, .int .i64 x.L.V.N, .string x.L.V.S, .int .i64 x.R.K, .string x.R.S, .int .i64 x.R.V.K, .int .i64 x.R.V.N, .string x.R.V.S]) ∧ Below w.heap.size w w'
theorem own_Expr {w : World} {x : ExprD} (hx : okExpr x) : own w [.string x.Op, .int .i64 x.L.K, .string x.L.S, .int .i64 x.L.V.K, .int .i64 x.L.V.N, .string x.L.V.S, .int .i64 x.R.K, .string x.R.S, .int .i64 x.R.V.K, .int .i64 x.R.V.N, .string x.R.V.S] x [] :=
  ⟨[.string x.Op], [.int .i64 x.L.K, .string x.L.S, .int .i64 x.L.V.K, .int .i64 x.L.V.N, .string x.L.V.S, .int .i64 x.R.K, .string x.R.S, .int .i64 x.R.V.K, .int .i64 x.R.V.N, .string x.R.V.S], [], [], rfl, by simp, ⟨rfl, hx.1, rfl⟩, ⟨[.int .i64 x.L.K, .string x.L.S, .int .i64 x.L.V.K, .int .i64 x.L.V.N, .string x.L.V.S], [.int .i64 x.R.K, .string x.R.S, .int .i64 x.R.V.K, .int .i64 x.R.V.N, .string x.R.V.S], [], [], rfl, by simp, own_Arg hx.2.1, own_Arg hx.2.2⟩⟩
def zeroExpr : ExprD := ⟨⟨#[]⟩, zeroArg, zeroArg⟩
theorem okzeroExpr : okExpr zeroExpr := ⟨(Nat.zero_le _), okzeroArg, okzeroArg⟩
def ToExpr (x : ExprD) (w : World) (e : Ending) (w' : World) : Prop :=
  e = .returned (.agg #[.string x.Op, .int .i64 x.L.K, .string x.L.S, .int .i64 x.L.V.K, .int .i64 x.L.V.N, .string x.L.V.S, .int .i64 x.R.K, .string x.R.S, .int .i64 x.R.V.K, .int .i64 x.R.V.N, .string x.R.V.S]) ∧ Below w.heap.size w w'
theorem own_Act {w : World} {x : ActD} (hx : okAct x) {u0 : Value} {f0 : List Nat} (h0 : OwnS w x.Args u0 f0) : own w [.int .i64 x.Kind, .string x.Name, u0, .int .i64 x.N, .string x.Undo] x f0 :=
  ⟨[.int .i64 x.Kind], [.string x.Name, u0, .int .i64 x.N, .string x.Undo], [], f0, rfl, by simp, ⟨rfl, hx.1, rfl⟩, ⟨[.string x.Name], [u0, .int .i64 x.N, .string x.Undo], [], f0, rfl, by simp, ⟨rfl, hx.2.1, rfl⟩, ⟨[u0], [.int .i64 x.N, .string x.Undo], f0, [], rfl, by simp, ⟨u0, rfl, h0⟩, ⟨[.int .i64 x.N], [.string x.Undo], [], [], rfl, by simp, ⟨rfl, hx.2.2.1, rfl⟩, ⟨rfl, hx.2.2.2, rfl⟩⟩⟩⟩⟩
def zeroAct : ActD := ⟨0, ⟨#[]⟩, [], 0, ⟨#[]⟩⟩
theorem okzeroAct : okAct zeroAct := ⟨⟨by decide, by decide⟩, (Nat.zero_le _), ⟨by decide, by decide⟩, (Nat.zero_le _)⟩
def ToAct (x : ActD) (w : World) (e : Ending) (w' : World) : Prop :=
  ∃ a0 c0 f0, e = .returned (.agg #[.int .i64 x.Kind, .string x.Name, .slice a0 x.Args.length c0, .int .i64 x.N, .string x.Undo]) ∧ OwnS w' x.Args (.slice a0 x.Args.length c0) f0 ∧ Fr w.heap.size f0 ∧ Below w.heap.size w w'
theorem own_Rule {w : World} {x : RuleD} (hx : okRule x) {u0 u1 u2 : Value} {f0 f1 f2 : List Nat} (h0 : OwnS w x.Pats u0 f0) (h1 : OwnS w x.Conds u1 f1) (h2 : OwnS w x.Acts u2 f2) : own w [.string x.Name, .int .i64 x.Sal, u0, u1, u2] x (f0 ++ (f1 ++ f2)) :=
  ⟨[.string x.Name], [.int .i64 x.Sal, u0, u1, u2], [], (f0 ++ (f1 ++ f2)), rfl, by simp, ⟨rfl, hx.1, rfl⟩, ⟨[.int .i64 x.Sal], [u0, u1, u2], [], (f0 ++ (f1 ++ f2)), rfl, by simp, ⟨rfl, hx.2, rfl⟩, ⟨[u0], [u1, u2], f0, (f1 ++ f2), rfl, by simp, ⟨u0, rfl, h0⟩, ⟨[u1], [u2], f1, f2, rfl, by simp, ⟨u1, rfl, h1⟩, ⟨u2, rfl, h2⟩⟩⟩⟩⟩
def zeroRule : RuleD := ⟨⟨#[]⟩, 0, [], [], []⟩
theorem okzeroRule : okRule zeroRule := ⟨(Nat.zero_le _), ⟨by decide, by decide⟩⟩
def ToRule (x : RuleD) (w : World) (e : Ending) (w' : World) : Prop :=
  ∃ a0 a1 a2 c0 c1 c2 f0 f1 f2, e = .returned (.agg #[.string x.Name, .int .i64 x.Sal, .slice a0 x.Pats.length c0, .slice a1 x.Conds.length c1, .slice a2 x.Acts.length c2]) ∧ OwnS w' x.Pats (.slice a0 x.Pats.length c0) f0 ∧ OwnS w' x.Conds (.slice a1 x.Conds.length c1) f1 ∧ OwnS w' x.Acts (.slice a2 x.Acts.length c2) f2 ∧ Fr w.heap.size (f0 ++ (f1 ++ f2)) ∧ Below w.heap.size w w'
theorem own_Def {w : World} {x : DefD} (hx : okDef x) {u0 : Value} {f0 : List Nat} (h0 : OwnS w x.Rules u0 f0) : own w [.string x.Name, u0] x f0 :=
  ⟨[.string x.Name], [u0], [], f0, rfl, by simp, ⟨rfl, hx, rfl⟩, ⟨u0, rfl, h0⟩⟩
def zeroDef : DefD := ⟨⟨#[]⟩, []⟩
theorem okzeroDef : okDef zeroDef := (Nat.zero_le _)
def ToDef (x : DefD) (w : World) (e : Ending) (w' : World) : Prop :=
  ∃ a0 c0 f0, e = .returned (.agg #[.string x.Name, .slice a0 x.Rules.length c0]) ∧ OwnS w' x.Rules (.slice a0 x.Rules.length c0) f0 ∧ Fr w.heap.size f0 ∧ Below w.heap.size w w'
theorem own_Match {w : World} {x : MatchD} (hx : okMatch x) {u0 u1 : Value} {f0 f1 : List Nat} (h0 : OwnS w x.Ids u0 f0) (h1 : OwnS w x.Binds u1 f1) : own w [.int .i64 x.Rule, u0, u1] x (f0 ++ f1) :=
  ⟨[.int .i64 x.Rule], [u0, u1], [], (f0 ++ f1), rfl, by simp, ⟨rfl, hx, rfl⟩, ⟨[u0], [u1], f0, f1, rfl, by simp, ⟨u0, rfl, h0⟩, ⟨u1, rfl, h1⟩⟩⟩
def zeroMatch : MatchD := ⟨0, [], []⟩
theorem okzeroMatch : okMatch zeroMatch := ⟨by decide, by decide⟩
def ToMatch (x : MatchD) (w : World) (e : Ending) (w' : World) : Prop :=
  ∃ a0 a1 c0 c1 f0 f1, e = .returned (.agg #[.int .i64 x.Rule, .slice a0 x.Ids.length c0, .slice a1 x.Binds.length c1]) ∧ OwnS w' x.Ids (.slice a0 x.Ids.length c0) f0 ∧ OwnS w' x.Binds (.slice a1 x.Binds.length c1) f1 ∧ Fr w.heap.size (f0 ++ f1) ∧ Below w.heap.size w w'
theorem own_Timer {w : World} {x : TimerD} (hx : okTimer x) {u0 : Value} {f0 : List Nat} (h0 : OwnS w x.F.Fields u0 f0) : own w [.int .i64 x.At, .string x.F.Kind, u0] x f0 :=
  ⟨[.int .i64 x.At], [.string x.F.Kind, u0], [], f0, rfl, by simp, ⟨rfl, hx.1, rfl⟩, own_Fact hx.2 h0⟩
def zeroTimer : TimerD := ⟨0, zeroFact⟩
theorem okzeroTimer : okTimer zeroTimer := ⟨⟨by decide, by decide⟩, okzeroFact⟩
def ToTimer (x : TimerD) (w : World) (e : Ending) (w' : World) : Prop :=
  ∃ a0 c0 f0, e = .returned (.agg #[.int .i64 x.At, .string x.F.Kind, .slice a0 x.F.Fields.length c0]) ∧ OwnS w' x.F.Fields (.slice a0 x.F.Fields.length c0) f0 ∧ Fr w.heap.size f0 ∧ Below w.heap.size w w'
theorem own_Task {w : World} {x : TaskD} (hx : okTask x) {u0 : Value} {f0 : List Nat} (h0 : OwnS w x.F.Fields u0 f0) : own w [.string x.F.Kind, u0, .string x.Undo, .int .i64 x.State, .int .i64 x.Tries, .int .i64 x.Due, .int .i64 x.V.K, .int .i64 x.V.N, .string x.V.S] x f0 :=
  ⟨[.string x.F.Kind, u0], [.string x.Undo, .int .i64 x.State, .int .i64 x.Tries, .int .i64 x.Due, .int .i64 x.V.K, .int .i64 x.V.N, .string x.V.S], f0, [], rfl, by simp, own_Fact hx.1 h0, ⟨[.string x.Undo], [.int .i64 x.State, .int .i64 x.Tries, .int .i64 x.Due, .int .i64 x.V.K, .int .i64 x.V.N, .string x.V.S], [], [], rfl, by simp, ⟨rfl, hx.2.1, rfl⟩, ⟨[.int .i64 x.State], [.int .i64 x.Tries, .int .i64 x.Due, .int .i64 x.V.K, .int .i64 x.V.N, .string x.V.S], [], [], rfl, by simp, ⟨rfl, hx.2.2.1, rfl⟩, ⟨[.int .i64 x.Tries], [.int .i64 x.Due, .int .i64 x.V.K, .int .i64 x.V.N, .string x.V.S], [], [], rfl, by simp, ⟨rfl, hx.2.2.2.1, rfl⟩, ⟨[.int .i64 x.Due], [.int .i64 x.V.K, .int .i64 x.V.N, .string x.V.S], [], [], rfl, by simp, ⟨rfl, hx.2.2.2.2.1, rfl⟩, own_Val hx.2.2.2.2.2⟩⟩⟩⟩⟩
def zeroTask : TaskD := ⟨zeroFact, ⟨#[]⟩, 0, 0, 0, zeroVal⟩
theorem okzeroTask : okTask zeroTask := ⟨okzeroFact, (Nat.zero_le _), ⟨by decide, by decide⟩, ⟨by decide, by decide⟩, ⟨by decide, by decide⟩, okzeroVal⟩
def ToTask (x : TaskD) (w : World) (e : Ending) (w' : World) : Prop :=
  ∃ a0 c0 f0, e = .returned (.agg #[.string x.F.Kind, .slice a0 x.F.Fields.length c0, .string x.Undo, .int .i64 x.State, .int .i64 x.Tries, .int .i64 x.Due, .int .i64 x.V.K, .int .i64 x.V.N, .string x.V.S]) ∧ OwnS w' x.F.Fields (.slice a0 x.F.Fields.length c0) f0 ∧ Fr w.heap.size f0 ∧ Below w.heap.size w w'
theorem own_Undo {w : World} {x : UndoD} (hx : okUndo x) {u0 : Value} {f0 : List Nat} (h0 : OwnS w x.F.Fields u0 f0) : own w [.string x.Key, .string x.F.Kind, u0] x f0 :=
  ⟨[.string x.Key], [.string x.F.Kind, u0], [], f0, rfl, by simp, ⟨rfl, hx.1, rfl⟩, own_Fact hx.2 h0⟩
def zeroUndo : UndoD := ⟨⟨#[]⟩, zeroFact⟩
theorem okzeroUndo : okUndo zeroUndo := ⟨(Nat.zero_le _), okzeroFact⟩
def ToUndo (x : UndoD) (w : World) (e : Ending) (w' : World) : Prop :=
  ∃ a0 c0 f0, e = .returned (.agg #[.string x.Key, .string x.F.Kind, .slice a0 x.F.Fields.length c0]) ∧ OwnS w' x.F.Fields (.slice a0 x.F.Fields.length c0) f0 ∧ Fr w.heap.size f0 ∧ Below w.heap.size w w'
theorem own_Inst {w : World} {x : InstD} (hx : okInst x) {u0 u1 u2 u3 u4 : Value} {f0 f1 f2 f3 f4 : List Nat} (h0 : OwnS w x.S.Items u0 f0) (h1 : OwnS w x.Fired u1 f1) (h2 : OwnS w x.Tasks u2 f2) (h3 : OwnS w x.Timers u3 f3) (h4 : OwnS w x.Undos u4 f4) : own w [u0, .int .i64 x.S.Next, u1, u2, u3, u4, .int .i64 x.State, .int .i64 x.Now] x (f0 ++ (f1 ++ (f2 ++ (f3 ++ f4)))) :=
  ⟨[u0, .int .i64 x.S.Next], [u1, u2, u3, u4, .int .i64 x.State, .int .i64 x.Now], f0, (f1 ++ (f2 ++ (f3 ++ f4))), rfl, by simp, own_Store hx.1 h0, ⟨[u1], [u2, u3, u4, .int .i64 x.State, .int .i64 x.Now], f1, (f2 ++ (f3 ++ f4)), rfl, by simp, ⟨u1, rfl, h1⟩, ⟨[u2], [u3, u4, .int .i64 x.State, .int .i64 x.Now], f2, (f3 ++ f4), rfl, by simp, ⟨u2, rfl, h2⟩, ⟨[u3], [u4, .int .i64 x.State, .int .i64 x.Now], f3, f4, rfl, by simp, ⟨u3, rfl, h3⟩, ⟨[u4], [.int .i64 x.State, .int .i64 x.Now], f4, [], rfl, by simp, ⟨u4, rfl, h4⟩, ⟨[.int .i64 x.State], [.int .i64 x.Now], [], [], rfl, by simp, ⟨rfl, hx.2.1, rfl⟩, ⟨rfl, hx.2.2, rfl⟩⟩⟩⟩⟩⟩⟩
def zeroInst : InstD := ⟨zeroStore, [], [], [], [], 0, 0⟩
theorem okzeroInst : okInst zeroInst := ⟨okzeroStore, ⟨by decide, by decide⟩, ⟨by decide, by decide⟩⟩
def ToInst (x : InstD) (w : World) (e : Ending) (w' : World) : Prop :=
  ∃ a0 a1 a2 a3 a4 c0 c1 c2 c3 c4 f0 f1 f2 f3 f4, e = .returned (.agg #[.slice a0 x.S.Items.length c0, .int .i64 x.S.Next, .slice a1 x.Fired.length c1, .slice a2 x.Tasks.length c2, .slice a3 x.Timers.length c3, .slice a4 x.Undos.length c4, .int .i64 x.State, .int .i64 x.Now]) ∧ OwnS w' x.S.Items (.slice a0 x.S.Items.length c0) f0 ∧ OwnS w' x.Fired (.slice a1 x.Fired.length c1) f1 ∧ OwnS w' x.Tasks (.slice a2 x.Tasks.length c2) f2 ∧ OwnS w' x.Timers (.slice a3 x.Timers.length c3) f3 ∧ OwnS w' x.Undos (.slice a4 x.Undos.length c4) f4 ∧ Fr w.heap.size (f0 ++ (f1 ++ (f2 ++ (f3 ++ f4)))) ∧ Below w.heap.size w w'
theorem own_Work {w : World} {x : WorkD} (hx : okWork x) {u0 u1 u2 u3 u4 : Value} {f0 f1 f2 f3 f4 : List Nat} (h0 : OwnS w x.X.S.Items u0 f0) (h1 : OwnS w x.X.Fired u1 f1) (h2 : OwnS w x.X.Tasks u2 f2) (h3 : OwnS w x.X.Timers u3 f3) (h4 : OwnS w x.X.Undos u4 f4) : own w [.string x.Name, .string x.Def, u0, .int .i64 x.X.S.Next, u1, u2, u3, u4, .int .i64 x.X.State, .int .i64 x.X.Now] x (f0 ++ (f1 ++ (f2 ++ (f3 ++ f4)))) :=
  ⟨[.string x.Name], [.string x.Def, u0, .int .i64 x.X.S.Next, u1, u2, u3, u4, .int .i64 x.X.State, .int .i64 x.X.Now], [], (f0 ++ (f1 ++ (f2 ++ (f3 ++ f4)))), rfl, by simp, ⟨rfl, hx.1, rfl⟩, ⟨[.string x.Def], [u0, .int .i64 x.X.S.Next, u1, u2, u3, u4, .int .i64 x.X.State, .int .i64 x.X.Now], [], (f0 ++ (f1 ++ (f2 ++ (f3 ++ f4)))), rfl, by simp, ⟨rfl, hx.2.1, rfl⟩, own_Inst hx.2.2 h0 h1 h2 h3 h4⟩⟩
def zeroWork : WorkD := ⟨⟨#[]⟩, ⟨#[]⟩, zeroInst⟩
theorem okzeroWork : okWork zeroWork := ⟨(Nat.zero_le _), (Nat.zero_le _), okzeroInst⟩
def ToWork (x : WorkD) (w : World) (e : Ending) (w' : World) : Prop :=
  ∃ a0 a1 a2 a3 a4 c0 c1 c2 c3 c4 f0 f1 f2 f3 f4, e = .returned (.agg #[.string x.Name, .string x.Def, .slice a0 x.X.S.Items.length c0, .int .i64 x.X.S.Next, .slice a1 x.X.Fired.length c1, .slice a2 x.X.Tasks.length c2, .slice a3 x.X.Timers.length c3, .slice a4 x.X.Undos.length c4, .int .i64 x.X.State, .int .i64 x.X.Now]) ∧ OwnS w' x.X.S.Items (.slice a0 x.X.S.Items.length c0) f0 ∧ OwnS w' x.X.Fired (.slice a1 x.X.Fired.length c1) f1 ∧ OwnS w' x.X.Tasks (.slice a2 x.X.Tasks.length c2) f2 ∧ OwnS w' x.X.Timers (.slice a3 x.X.Timers.length c3) f3 ∧ OwnS w' x.X.Undos (.slice a4 x.X.Undos.length c4) f4 ∧ Fr w.heap.size (f0 ++ (f1 ++ (f2 ++ (f3 ++ f4)))) ∧ Below w.heap.size w w'
theorem own_Book {w : World} {x : BookD} (hx : okBook x) {u0 u1 : Value} {f0 f1 : List Nat} (h0 : OwnS w x.Defs u0 f0) (h1 : OwnS w x.Works u1 f1) : own w [u0, u1, .int .i64 x.Now, .int .i64 x.Ring] x (f0 ++ f1) :=
  ⟨[u0], [u1, .int .i64 x.Now, .int .i64 x.Ring], f0, f1, rfl, by simp, ⟨u0, rfl, h0⟩, ⟨[u1], [.int .i64 x.Now, .int .i64 x.Ring], f1, [], rfl, by simp, ⟨u1, rfl, h1⟩, ⟨[.int .i64 x.Now], [.int .i64 x.Ring], [], [], rfl, by simp, ⟨rfl, hx.1, rfl⟩, ⟨rfl, hx.2, rfl⟩⟩⟩⟩
def zeroBook : BookD := ⟨[], [], 0, 0⟩
theorem okzeroBook : okBook zeroBook := ⟨⟨by decide, by decide⟩, ⟨by decide, by decide⟩⟩
def ToBook (x : BookD) (w : World) (e : Ending) (w' : World) : Prop :=
  ∃ a0 a1 c0 c1 f0 f1, e = .returned (.agg #[.slice a0 x.Defs.length c0, .slice a1 x.Works.length c1, .int .i64 x.Now, .int .i64 x.Ring]) ∧ OwnS w' x.Defs (.slice a0 x.Defs.length c0) f0 ∧ OwnS w' x.Works (.slice a1 x.Works.length c1) f1 ∧ Fr w.heap.size (f0 ++ f1) ∧ Below w.heap.size w w'
set_option maxRecDepth 20000 in
theorem toVal_w (x : ValD) (w : World) :
    Calls Tryz.prog 409 #[.agg #[.int .i64 x.K, .int .i64 x.N, .string x.S]] w (ToVal x w) := by
  go_enter Tryz.func409, Tryz.ntmps409
  go_wp2
  refine ret_mk (.agg #[.int .i64 x.K, .int .i64 x.N, .string x.S]) (by simp [results, Tryz.results409, go_sem]) rfl ⟨rfl, (by simp (maxDischargeDepth := 60))⟩
set_option maxRecDepth 20000 in
theorem toSVal_w (l : List ValD) (v : Value) (w : World) (h : Sl w l v) (hs : sznSVal l ≤ 1048576) :
    Calls Tryz.prog 449 #[v] w (RetS l w) := by
  obtain ⟨a, c, rfl, hl, -⟩ := h.open
  have hsz : Hid (sznSVal l = l.length + (l.map sznVal).sum) := rfl
  have hlen : l.length ≤ 1048576 := by have := hsz.out; omega
  have hmk : ∀ w, (Instr.makeSlice 41 (.int .i64 l.length) (.int .i64 l.length)).run Tryz.prog w = .ok (.slice (some ⟨w.heap.size, 0, none⟩) l.length l.length) (w.alloc (.cells (madeCells #[.int .i64 0, .int .i64 0, .string ⟨#[]⟩] (l.length * 3)) 125)) :=
    make_row 41 125 (.agg #[.int .i64 0, .int .i64 0, .string ⟨#[]⟩]) 3 32 Tryz.underlying41 (by kernel_rfl) rfl l.length l.length rfl (by omega) (by decide)
  have hZ : OwnS (w.alloc (.cells (madeCells #[.int .i64 0, .int .i64 0, .string ⟨#[]⟩] (l.length * 3)) 125)) (List.replicate l.length zeroVal) (.slice (some ⟨w.heap.size, 0, none⟩) l.length l.length) [w.heap.size] :=
    OwnS.zeroed w #[.int .i64 0, .int .i64 0, .string ⟨#[]⟩] 125 zeroVal l.length (by simp [maxLen]; omega) rfl (fun w => own_Val (w := w) okzeroVal)
  go_enter Tryz.func449, Tryz.ntmps449
  go_wp2
  go_loopw [4] (fun i wr => ∃ (k : Nat) (fp : List Nat), i = .int .i64 k ∧ k ≤ l.length ∧ OwnS wr (l.take k ++ List.replicate (l.length - k) zeroVal) (.slice (some ⟨w.heap.size, 0, none⟩) l.length l.length) fp ∧ Fr w.heap.size fp ∧ Below w.heap.size w wr) (fun i _ => l.length - (intOf i).toNat)
  case atStart => exact ⟨0, [w.heap.size], rfl, by omega, by simpa using hZ, by simp [Fr], by simp⟩
  case round =>
    clear hmk hZ
    obtain ⟨k, fp, rfl, hk, ho, hf, hB⟩ := hrel
    by_cases hlt : k < l.length
    · obtain ⟨b, o, rfl, hbl, hok, hc⟩ := (h.to hB).atVal k hlt
      have hle : sznVal l[k] ≤ 1048576 := by have h1 := sum_step sznVal l k hlt; have h2 := sum_le sznVal l (k + 1); have := hsz.out; omega
      have hput := Lib.hid (set_fill l zeroVal k hlt)
      generalize l[k] = x at *
      obtain ⟨c0, c1, c2⟩ := hc
      skip
      go_wp2_with fail
      refine (toVal_w x  _ ).mono ?_
      rintro e w1 ⟨rfl, hb1⟩
      have hx := own_Val hok (w := w1)
      have ho1 := ho.below hb1
      have hd : ∀ b ∈ ([] : List Nat), b ∉ fp := by simp
      obtain ⟨fp', p1, p2, p3⟩ := ho1.put hf.1 k (by simp; omega) hx hd (by simp)
      obtain ⟨-, hg, hz, hsp⟩ := ho1.spare
      obtain ⟨z0, e0⟩ := hsp k hlt 0 (by decide); replace e0 : w1.cell? ⟨w.heap.size, k * 3, none⟩ = some z0 := e0; obtain ⟨z1, e1⟩ := hsp k hlt 1 (by decide); replace e1 : w1.cell? ⟨w.heap.size, k * 3 + 1, none⟩ = some z1 := e1; obtain ⟨z2, e2⟩ := hsp k hlt 2 (by decide); replace e2 : w1.cell? ⟨w.heap.size, k * 3 + 2, none⟩ = some z2 := e2
      rw [hput.out] at p1
      clear hsp hx
      go_wp2
      go_roundw
      case rel => exact ⟨k + 1, fp', by go_num, by omega, p1, ⟨p2, fun b hb => by rcases p3 b hb with h | h; exact hf.2 b h; cases h⟩, below_setCells (via hB hb1) (Nat.le_refl _) _ [.int .i64 x.K, .int .i64 x.N, .string x.S]⟩
      case measure => simp [intOf]; omega
    · obtain rfl : k = l.length := by omega
      rw [List.take_length, Nat.sub_self, List.replicate_zero, List.append_nil] at ho
      go_wp2
      go_ret
      exact ⟨_, _, fp, rfl, ho, hf, hB⟩
set_option maxRecDepth 20000 in
theorem toFact_w (x : FactD) (v0 : Value) (w : World) (s0 : Sl w x.Fields v0) (hs : sznFact x ≤ 1048576) :
    Calls Tryz.prog 408 #[.agg #[.string x.Kind, v0]] w (ToFact x w) := by
  obtain ⟨a0, c0, rfl, hl0, -⟩ := s0.open
  have hsz : sznFact x = x.Kind.size + sznSVal x.Fields := rfl
  have g1 : sznSVal x.Fields ≤ 1048576 := by omega
  clear hsz hs
  go_enter Tryz.func408, Tryz.ntmps408
  go_wp2_with fail
  refine (toSVal_w x.Fields _ _ (s0.to (by simp (maxDischargeDepth := 60))) g1).mono ?_
  rintro e w1 ⟨A0, C0, f0, rfl, o0, hf1, hb1⟩
  have B1 := via (w0 := w) (by simp (maxDischargeDepth := 60)) hb1
  have z1 : w.heap.size + 3 ≤ w1.heap.size := by have := hb1.size; simp at this; omega
  have X1 : Bx w1 w.heap.size [.string x.Kind, .slice a0 x.Fields.length c0] := Bx.via (by simp (maxDischargeDepth := 60)) hb1
  have R1 : Bx w1 (w.heap.size + 1) [.string ⟨#[]⟩, .slice none 0 0] := Bx.via (by simp (maxDischargeDepth := 60)) hb1
  have O1 : Bx w1 (w.heap.size + 1 + 1) [.string x.Kind, .slice none 0 0] := Bx.via (by simp (maxDischargeDepth := 60)) hb1
  have r0 : Rng (w.heap.size + 3) w1.heap.size f0 := fun b hb => ⟨Nat.le_trans (by simp) (hf1.2 b (by simp [hb])), o0.lt b hb⟩
  have x0 := X1.c 0 _ rfl
  have y0 := R1.c 0 _ rfl
  have k0 := O1.c 0 _ rfl
  have x1 := X1.c 1 _ rfl
  have y1 := R1.c 1 _ rfl
  have k1 := O1.c 1 _ rfl
  have zx := X1.z
  have zr := R1.z
  have zo := O1.z
  go_wp2
  have H1 : Fr w.heap.size f0 := hf1.mono (by simp; omega)
  have hF : Fr w.heap.size f0 := H1
  refine ret_mk (.agg #[.string x.Kind, .slice A0 x.Fields.length C0]) (by simp [results, Tryz.results408, go_sem, *]) rfl ⟨A0, C0, f0, rfl, (((o0.out r0 (by simp) _).out r0 (by simp) _).out r0 (by simp) _), hF, (by simp (maxDischargeDepth := 60) [bl_le, B1])⟩
set_option maxRecDepth 20000 in
theorem toItem_w (x : ItemD) (v0 : Value) (w : World) (s0 : Sl w x.F.Fields v0) (hs : sznItem x ≤ 1048576) :
    Calls Tryz.prog 405 #[.agg #[.int .i64 x.Id, .string x.F.Kind, v0]] w (ToItem x w) := by
  obtain ⟨a0, c0, rfl, hl0, -⟩ := s0.open
  have hsz : sznItem x = sznFact x.F := rfl
  have g1 : sznFact x.F ≤ 1048576 := by omega
  clear hsz hs
  go_enter Tryz.func405, Tryz.ntmps405
  go_wp2_with fail
  refine (toFact_w x.F _ _ (s0.to (by simp (maxDischargeDepth := 60))) g1).mono ?_
  rintro e w1 ⟨A0, C0, f0, rfl, o0, hf1, hb1⟩
  have B1 := via (w0 := w) (by simp (maxDischargeDepth := 60)) hb1
  have z1 : w.heap.size + 3 ≤ w1.heap.size := by have := hb1.size; simp at this; omega
  have X1 : Bx w1 w.heap.size [.int .i64 x.Id, .string x.F.Kind, .slice a0 x.F.Fields.length c0] := Bx.via (by simp (maxDischargeDepth := 60)) hb1
  have R1 : Bx w1 (w.heap.size + 1) [.int .i64 0, .string ⟨#[]⟩, .slice none 0 0] := Bx.via (by simp (maxDischargeDepth := 60)) hb1
  have O1 : Bx w1 (w.heap.size + 1 + 1) [.int .i64 x.Id, .string ⟨#[]⟩, .slice none 0 0] := Bx.via (by simp (maxDischargeDepth := 60)) hb1
  have r0 : Rng (w.heap.size + 3) w1.heap.size f0 := fun b hb => ⟨Nat.le_trans (by simp) (hf1.2 b (by simp [hb])), o0.lt b hb⟩
  have x0 := X1.c 0 _ rfl
  have y0 := R1.c 0 _ rfl
  have k0 := O1.c 0 _ rfl
  have x1 := X1.c 1 _ rfl
  have y1 := R1.c 1 _ rfl
  have k1 := O1.c 1 _ rfl
  have x2 := X1.c 2 _ rfl
  have y2 := R1.c 2 _ rfl
  have k2 := O1.c 2 _ rfl
  have zx := X1.z
  have zr := R1.z
  have zo := O1.z
  go_wp2
  have H1 : Fr w.heap.size f0 := hf1.mono (by simp; omega)
  have hF : Fr w.heap.size f0 := H1
  refine ret_mk (.agg #[.int .i64 x.Id, .string x.F.Kind, .slice A0 x.F.Fields.length C0]) (by simp [results, Tryz.results405, go_sem, *]) rfl ⟨A0, C0, f0, rfl, (((((o0.out r0 (by simp) _).out r0 (by simp) _).out r0 (by simp) _).out r0 (by simp) _).out r0 (by simp) _), hF, (by simp (maxDischargeDepth := 60) [bl_le, B1])⟩
set_option maxRecDepth 20000 in
theorem toSItem_w (l : List ItemD) (v : Value) (w : World) (h : Sl w l v) (hs : sznSItem l ≤ 1048576) :
    Calls Tryz.prog 342 #[v] w (RetS l w) := by
  obtain ⟨a, c, rfl, hl, -⟩ := h.open
  have hsz : Hid (sznSItem l = l.length + (l.map sznItem).sum) := rfl
  have hlen : l.length ≤ 1048576 := by have := hsz.out; omega
  have hmk : ∀ w, (Instr.makeSlice 61 (.int .i64 l.length) (.int .i64 l.length)).run Tryz.prog w = .ok (.slice (some ⟨w.heap.size, 0, none⟩) l.length l.length) (w.alloc (.cells (madeCells #[.int .i64 0, .string ⟨#[]⟩, .slice none 0 0] (l.length * 3)) 192)) :=
    make_row 61 192 (.agg #[.int .i64 0, .string ⟨#[]⟩, .slice none 0 0]) 3 48 Tryz.underlying61 (by kernel_rfl) rfl l.length l.length rfl (by omega) (by decide)
  have hZ : OwnS (w.alloc (.cells (madeCells #[.int .i64 0, .string ⟨#[]⟩, .slice none 0 0] (l.length * 3)) 192)) (List.replicate l.length zeroItem) (.slice (some ⟨w.heap.size, 0, none⟩) l.length l.length) [w.heap.size] :=
    OwnS.zeroed w #[.int .i64 0, .string ⟨#[]⟩, .slice none 0 0] 192 zeroItem l.length (by simp [maxLen]; omega) rfl (fun w => own_Item (w := w) okzeroItem (OwnS.nil w))
  go_enter Tryz.func342, Tryz.ntmps342
  go_wp2
  go_loopw [4] (fun i wr => ∃ (k : Nat) (fp : List Nat), i = .int .i64 k ∧ k ≤ l.length ∧ OwnS wr (l.take k ++ List.replicate (l.length - k) zeroItem) (.slice (some ⟨w.heap.size, 0, none⟩) l.length l.length) fp ∧ Fr w.heap.size fp ∧ Below w.heap.size w wr) (fun i _ => l.length - (intOf i).toNat)
  case atStart => exact ⟨0, [w.heap.size], rfl, by omega, by simpa using hZ, by simp [Fr], by simp⟩
  case round =>
    clear hmk hZ
    obtain ⟨k, fp, rfl, hk, ho, hf, hB⟩ := hrel
    by_cases hlt : k < l.length
    · obtain ⟨b, o, v0, rfl, hbl, hok, hc, s0⟩ := (h.to hB).atItem k hlt
      have hle : sznItem l[k] ≤ 1048576 := by have h1 := sum_step sznItem l k hlt; have h2 := sum_le sznItem l (k + 1); have := hsz.out; omega
      have hput := Lib.hid (set_fill l zeroItem k hlt)
      generalize l[k] = x at *
      obtain ⟨c0, c1, c2⟩ := hc
      obtain ⟨a0, q0, rfl, hl0, -⟩ := s0.open
      go_wp2_with fail
      refine (toItem_w x _ _ s0 hle).mono ?_
      rintro e w1 ⟨A0, C0, f0, rfl, o0, hf1, hb1⟩
      have hx := own_Item hok o0
      have ho1 := ho.below hb1
      have hd : ∀ b ∈ f0, b ∉ fp := fun b hb hb2 => by have := ho.lt b hb2; have := hf1.2 b hb; omega
      obtain ⟨fp', p1, p2, p3⟩ := ho1.put hf.1 k (by simp; omega) hx hd hf1.1
      obtain ⟨-, hg, hz, hsp⟩ := ho1.spare
      obtain ⟨z0, e0⟩ := hsp k hlt 0 (by decide); replace e0 : w1.cell? ⟨w.heap.size, k * 3, none⟩ = some z0 := e0; obtain ⟨z1, e1⟩ := hsp k hlt 1 (by decide); replace e1 : w1.cell? ⟨w.heap.size, k * 3 + 1, none⟩ = some z1 := e1; obtain ⟨z2, e2⟩ := hsp k hlt 2 (by decide); replace e2 : w1.cell? ⟨w.heap.size, k * 3 + 2, none⟩ = some z2 := e2
      rw [hput.out] at p1
      clear hsp hx
      go_wp2
      go_roundw
      case rel => exact ⟨k + 1, fp', by go_num, by omega, p1, ⟨p2, fun b hb => by rcases p3 b hb with h | h; exact hf.2 b h; exact Nat.le_trans hB.size (hf1.2 b h)⟩, below_setCells (via hB hb1) (Nat.le_refl _) _ [.int .i64 x.Id, .string x.F.Kind, .slice A0 x.F.Fields.length C0]⟩
      case measure => simp [intOf]; omega
    · obtain rfl : k = l.length := by omega
      rw [List.take_length, Nat.sub_self, List.replicate_zero, List.append_nil] at ho
      go_wp2
      go_ret
      exact ⟨_, _, fp, rfl, ho, hf, hB⟩
set_option maxRecDepth 20000 in
theorem toStore_w (x : StoreD) (v0 : Value) (w : World) (s0 : Sl w x.Items v0) (hs : sznStore x ≤ 1048576) :
    Calls Tryz.prog 248 #[.agg #[v0, .int .i64 x.Next]] w (ToStore x w) := by
  obtain ⟨a0, c0, rfl, hl0, -⟩ := s0.open
  have hsz : sznStore x = sznSItem x.Items := rfl
  have g1 : sznSItem x.Items ≤ 1048576 := by omega
  clear hsz hs
  go_enter Tryz.func248, Tryz.ntmps248
  go_wp2_with fail
  refine (toSItem_w x.Items _ _ (s0.to (by simp (maxDischargeDepth := 60))) g1).mono ?_
  rintro e w1 ⟨A0, C0, f0, rfl, o0, hf1, hb1⟩
  have B1 := via (w0 := w) (by simp (maxDischargeDepth := 60)) hb1
  have z1 : w.heap.size + 3 ≤ w1.heap.size := by have := hb1.size; simp at this; omega
  have X1 : Bx w1 w.heap.size [.slice a0 x.Items.length c0, .int .i64 x.Next] := Bx.via (by simp (maxDischargeDepth := 60)) hb1
  have R1 : Bx w1 (w.heap.size + 1) [.slice none 0 0, .int .i64 0] := Bx.via (by simp (maxDischargeDepth := 60)) hb1
  have O1 : Bx w1 (w.heap.size + 1 + 1) [.slice none 0 0, .int .i64 0] := Bx.via (by simp (maxDischargeDepth := 60)) hb1
  have r0 : Rng (w.heap.size + 3) w1.heap.size f0 := fun b hb => ⟨Nat.le_trans (by simp) (hf1.2 b (by simp [hb])), o0.lt b hb⟩
  have x0 := X1.c 0 _ rfl
  have y0 := R1.c 0 _ rfl
  have k0 := O1.c 0 _ rfl
  have x1 := X1.c 1 _ rfl
  have y1 := R1.c 1 _ rfl
  have k1 := O1.c 1 _ rfl
  have zx := X1.z
  have zr := R1.z
  have zo := O1.z
  go_wp2
  have H1 : Fr w.heap.size f0 := hf1.mono (by simp; omega)
  have hF : Fr w.heap.size f0 := H1
  refine ret_mk (.agg #[.slice A0 x.Items.length C0, .int .i64 x.Next]) (by simp [results, Tryz.results248, go_sem, *]) rfl ⟨A0, C0, f0, rfl, ((((o0.out r0 (by simp) _).out r0 (by simp) _).out r0 (by simp) _).out r0 (by simp) _), hF, (by simp (maxDischargeDepth := 60) [bl_le, B1])⟩
set_option maxRecDepth 20000 in
theorem toArg_w (x : ArgD) (w : World) :
    Calls Tryz.prog 446 #[.agg #[.int .i64 x.K, .string x.S, .int .i64 x.V.K, .int .i64 x.V.N, .string x.V.S]] w (ToArg x w) := by
  go_enter Tryz.func446, Tryz.ntmps446
  go_wp2_with fail
  refine (toVal_w x.V  _ ).mono ?_
  rintro e w1 ⟨rfl, hb1⟩
  have B1 := via (w0 := w) (by simp (maxDischargeDepth := 60)) hb1
  have z1 : w.heap.size + 3 ≤ w1.heap.size := by have := hb1.size; simp at this; omega
  have X1 : Bx w1 w.heap.size [.int .i64 x.K, .string x.S, .int .i64 x.V.K, .int .i64 x.V.N, .string x.V.S] := Bx.via (by simp (maxDischargeDepth := 60)) hb1
  have R1 : Bx w1 (w.heap.size + 1) [.int .i64 0, .string ⟨#[]⟩, .int .i64 0, .int .i64 0, .string ⟨#[]⟩] := Bx.via (by simp (maxDischargeDepth := 60)) hb1
  have O1 : Bx w1 (w.heap.size + 1 + 1) [.int .i64 x.K, .string x.S, .int .i64 0, .int .i64 0, .string ⟨#[]⟩] := Bx.via (by simp (maxDischargeDepth := 60)) hb1
  have x0 := X1.c 0 _ rfl
  have y0 := R1.c 0 _ rfl
  have k0 := O1.c 0 _ rfl
  have x1 := X1.c 1 _ rfl
  have y1 := R1.c 1 _ rfl
  have k1 := O1.c 1 _ rfl
  have x2 := X1.c 2 _ rfl
  have y2 := R1.c 2 _ rfl
  have k2 := O1.c 2 _ rfl
  have x3 := X1.c 3 _ rfl
  have y3 := R1.c 3 _ rfl
  have k3 := O1.c 3 _ rfl
  have x4 := X1.c 4 _ rfl
  have y4 := R1.c 4 _ rfl
  have k4 := O1.c 4 _ rfl
  have zx := X1.z
  have zr := R1.z
  have zo := O1.z
  go_wp2
  refine ret_mk (.agg #[.int .i64 x.K, .string x.S, .int .i64 x.V.K, .int .i64 x.V.N, .string x.V.S]) (by simp [results, Tryz.results446, go_sem, *]) rfl ⟨rfl, (by simp (maxDischargeDepth := 60) [bl_le, B1])⟩
set_option maxRecDepth 20000 in
theorem toSArg_w (l : List ArgD) (v : Value) (w : World) (h : Sl w l v) (hs : sznSArg l ≤ 1048576) :
    Calls Tryz.prog 445 #[v] w (RetS l w) := by
  obtain ⟨a, c, rfl, hl, -⟩ := h.open
  have hsz : Hid (sznSArg l = l.length + (l.map sznArg).sum) := rfl
  have hlen : l.length ≤ 1048576 := by have := hsz.out; omega
  have hmk : ∀ w, (Instr.makeSlice 274 (.int .i64 l.length) (.int .i64 l.length)).run Tryz.prog w = .ok (.slice (some ⟨w.heap.size, 0, none⟩) l.length l.length) (w.alloc (.cells (madeCells #[.int .i64 0, .string ⟨#[]⟩, .int .i64 0, .int .i64 0, .string ⟨#[]⟩] (l.length * 5)) 262)) :=
    make_row 274 262 (.agg #[.int .i64 0, .string ⟨#[]⟩, .int .i64 0, .int .i64 0, .string ⟨#[]⟩]) 5 56 Tryz.underlying274 (by kernel_rfl) rfl l.length l.length rfl (by omega) (by decide)
  have hZ : OwnS (w.alloc (.cells (madeCells #[.int .i64 0, .string ⟨#[]⟩, .int .i64 0, .int .i64 0, .string ⟨#[]⟩] (l.length * 5)) 262)) (List.replicate l.length zeroArg) (.slice (some ⟨w.heap.size, 0, none⟩) l.length l.length) [w.heap.size] :=
    OwnS.zeroed w #[.int .i64 0, .string ⟨#[]⟩, .int .i64 0, .int .i64 0, .string ⟨#[]⟩] 262 zeroArg l.length (by simp [maxLen]; omega) rfl (fun w => own_Arg (w := w) okzeroArg)
  go_enter Tryz.func445, Tryz.ntmps445
  go_wp2
  go_loopw [4] (fun i wr => ∃ (k : Nat) (fp : List Nat), i = .int .i64 k ∧ k ≤ l.length ∧ OwnS wr (l.take k ++ List.replicate (l.length - k) zeroArg) (.slice (some ⟨w.heap.size, 0, none⟩) l.length l.length) fp ∧ Fr w.heap.size fp ∧ Below w.heap.size w wr) (fun i _ => l.length - (intOf i).toNat)
  case atStart => exact ⟨0, [w.heap.size], rfl, by omega, by simpa using hZ, by simp [Fr], by simp⟩
  case round =>
    clear hmk hZ
    obtain ⟨k, fp, rfl, hk, ho, hf, hB⟩ := hrel
    by_cases hlt : k < l.length
    · obtain ⟨b, o, rfl, hbl, hok, hc⟩ := (h.to hB).atArg k hlt
      have hle : sznArg l[k] ≤ 1048576 := by have h1 := sum_step sznArg l k hlt; have h2 := sum_le sznArg l (k + 1); have := hsz.out; omega
      have hput := Lib.hid (set_fill l zeroArg k hlt)
      generalize l[k] = x at *
      obtain ⟨c0, c1, c2, c3, c4⟩ := hc
      skip
      go_wp2_with fail
      refine (toArg_w x  _ ).mono ?_
      rintro e w1 ⟨rfl, hb1⟩
      have hx := own_Arg hok (w := w1)
      have ho1 := ho.below hb1
      have hd : ∀ b ∈ ([] : List Nat), b ∉ fp := by simp
      obtain ⟨fp', p1, p2, p3⟩ := ho1.put hf.1 k (by simp; omega) hx hd (by simp)
      obtain ⟨-, hg, hz, hsp⟩ := ho1.spare
      obtain ⟨z0, e0⟩ := hsp k hlt 0 (by decide); replace e0 : w1.cell? ⟨w.heap.size, k * 5, none⟩ = some z0 := e0; obtain ⟨z1, e1⟩ := hsp k hlt 1 (by decide); replace e1 : w1.cell? ⟨w.heap.size, k * 5 + 1, none⟩ = some z1 := e1; obtain ⟨z2, e2⟩ := hsp k hlt 2 (by decide); replace e2 : w1.cell? ⟨w.heap.size, k * 5 + 2, none⟩ = some z2 := e2; obtain ⟨z3, e3⟩ := hsp k hlt 3 (by decide); replace e3 : w1.cell? ⟨w.heap.size, k * 5 + 3, none⟩ = some z3 := e3; obtain ⟨z4, e4⟩ := hsp k hlt 4 (by decide); replace e4 : w1.cell? ⟨w.heap.size, k * 5 + 4, none⟩ = some z4 := e4
      rw [hput.out] at p1
      clear hsp hx
      go_wp2
      go_roundw
      case rel => exact ⟨k + 1, fp', by go_num, by omega, p1, ⟨p2, fun b hb => by rcases p3 b hb with h | h; exact hf.2 b h; cases h⟩, below_setCells (via hB hb1) (Nat.le_refl _) _ [.int .i64 x.K, .string x.S, .int .i64 x.V.K, .int .i64 x.V.N, .string x.V.S]⟩
      case measure => simp [intOf]; omega
    · obtain rfl : k = l.length := by omega
      rw [List.take_length, Nat.sub_self, List.replicate_zero, List.append_nil] at ho
      go_wp2
      go_ret
      exact ⟨_, _, fp, rfl, ho, hf, hB⟩
set_option maxRecDepth 20000 in
theorem toPat_w (x : PatD) (v0 : Value) (w : World) (s0 : Sl w x.Args v0) (hs : sznPat x ≤ 1048576) :
    Calls Tryz.prog 402 #[.agg #[.string x.Kind, v0, .bool x.Not]] w (ToPat x w) := by
  obtain ⟨a0, c0, rfl, hl0, -⟩ := s0.open
  have hsz : sznPat x = x.Kind.size + sznSArg x.Args := rfl
  have g1 : sznSArg x.Args ≤ 1048576 := by omega
  clear hsz hs
  go_enter Tryz.func402, Tryz.ntmps402
  go_wp2_with fail
  refine (toSArg_w x.Args _ _ (s0.to (by simp (maxDischargeDepth := 60))) g1).mono ?_
  rintro e w1 ⟨A0, C0, f0, rfl, o0, hf1, hb1⟩
  have B1 := via (w0 := w) (by simp (maxDischargeDepth := 60)) hb1
  have z1 : w.heap.size + 3 ≤ w1.heap.size := by have := hb1.size; simp at this; omega
  have X1 : Bx w1 w.heap.size [.string x.Kind, .slice a0 x.Args.length c0, .bool x.Not] := Bx.via (by simp (maxDischargeDepth := 60)) hb1
  have R1 : Bx w1 (w.heap.size + 1) [.string ⟨#[]⟩, .slice none 0 0, .bool false] := Bx.via (by simp (maxDischargeDepth := 60)) hb1
  have O1 : Bx w1 (w.heap.size + 1 + 1) [.string x.Kind, .slice none 0 0, .bool false] := Bx.via (by simp (maxDischargeDepth := 60)) hb1
  have r0 : Rng (w.heap.size + 3) w1.heap.size f0 := fun b hb => ⟨Nat.le_trans (by simp) (hf1.2 b (by simp [hb])), o0.lt b hb⟩
  have x0 := X1.c 0 _ rfl
  have y0 := R1.c 0 _ rfl
  have k0 := O1.c 0 _ rfl
  have x1 := X1.c 1 _ rfl
  have y1 := R1.c 1 _ rfl
  have k1 := O1.c 1 _ rfl
  have x2 := X1.c 2 _ rfl
  have y2 := R1.c 2 _ rfl
  have k2 := O1.c 2 _ rfl
  have zx := X1.z
  have zr := R1.z
  have zo := O1.z
  go_wp2
  have H1 : Fr w.heap.size f0 := hf1.mono (by simp; omega)
  have hF : Fr w.heap.size f0 := H1
  refine ret_mk (.agg #[.string x.Kind, .slice A0 x.Args.length C0, .bool x.Not]) (by simp [results, Tryz.results402, go_sem, *]) rfl ⟨A0, C0, f0, rfl, (((((o0.out r0 (by simp) _).out r0 (by simp) _).out r0 (by simp) _).out r0 (by simp) _).out r0 (by simp) _), hF, (by simp (maxDischargeDepth := 60) [bl_le, B1])⟩
set_option maxRecDepth 20000 in
theorem toSPat_w (l : List PatD) (v : Value) (w : World) (h : Sl w l v) (hs : sznSPat l ≤ 1048576) :
    Calls Tryz.prog 339 #[v] w (RetS l w) := by
  obtain ⟨a, c, rfl, hl, -⟩ := h.open
  have hsz : Hid (sznSPat l = l.length + (l.map sznPat).sum) := rfl
  have hlen : l.length ≤ 1048576 := by have := hsz.out; omega
  have hmk : ∀ w, (Instr.makeSlice 170 (.int .i64 l.length) (.int .i64 l.length)).run Tryz.prog w = .ok (.slice (some ⟨w.heap.size, 0, none⟩) l.length l.length) (w.alloc (.cells (madeCells #[.string ⟨#[]⟩, .slice none 0 0, .bool false] (l.length * 3)) 276)) :=
    make_row 170 276 (.agg #[.string ⟨#[]⟩, .slice none 0 0, .bool false]) 3 48 Tryz.underlying170 (by kernel_rfl) rfl l.length l.length rfl (by omega) (by decide)
  have hZ : OwnS (w.alloc (.cells (madeCells #[.string ⟨#[]⟩, .slice none 0 0, .bool false] (l.length * 3)) 276)) (List.replicate l.length zeroPat) (.slice (some ⟨w.heap.size, 0, none⟩) l.length l.length) [w.heap.size] :=
    OwnS.zeroed w #[.string ⟨#[]⟩, .slice none 0 0, .bool false] 276 zeroPat l.length (by simp [maxLen]; omega) rfl (fun w => own_Pat (w := w) okzeroPat (OwnS.nil w))
  go_enter Tryz.func339, Tryz.ntmps339
  go_wp2
  go_loopw [4] (fun i wr => ∃ (k : Nat) (fp : List Nat), i = .int .i64 k ∧ k ≤ l.length ∧ OwnS wr (l.take k ++ List.replicate (l.length - k) zeroPat) (.slice (some ⟨w.heap.size, 0, none⟩) l.length l.length) fp ∧ Fr w.heap.size fp ∧ Below w.heap.size w wr) (fun i _ => l.length - (intOf i).toNat)
  case atStart => exact ⟨0, [w.heap.size], rfl, by omega, by simpa using hZ, by simp [Fr], by simp⟩
  case round =>
    clear hmk hZ
    obtain ⟨k, fp, rfl, hk, ho, hf, hB⟩ := hrel
    by_cases hlt : k < l.length
    · obtain ⟨b, o, v0, rfl, hbl, hok, hc, s0⟩ := (h.to hB).atPat k hlt
      have hle : sznPat l[k] ≤ 1048576 := by have h1 := sum_step sznPat l k hlt; have h2 := sum_le sznPat l (k + 1); have := hsz.out; omega
      have hput := Lib.hid (set_fill l zeroPat k hlt)
      generalize l[k] = x at *
      obtain ⟨c0, c1, c2⟩ := hc
      obtain ⟨a0, q0, rfl, hl0, -⟩ := s0.open
      go_wp2_with fail
      refine (toPat_w x _ _ s0 hle).mono ?_
      rintro e w1 ⟨A0, C0, f0, rfl, o0, hf1, hb1⟩
      have hx := own_Pat hok o0
      have ho1 := ho.below hb1
      have hd : ∀ b ∈ f0, b ∉ fp := fun b hb hb2 => by have := ho.lt b hb2; have := hf1.2 b hb; omega
      obtain ⟨fp', p1, p2, p3⟩ := ho1.put hf.1 k (by simp; omega) hx hd hf1.1
      obtain ⟨-, hg, hz, hsp⟩ := ho1.spare
      obtain ⟨z0, e0⟩ := hsp k hlt 0 (by decide); replace e0 : w1.cell? ⟨w.heap.size, k * 3, none⟩ = some z0 := e0; obtain ⟨z1, e1⟩ := hsp k hlt 1 (by decide); replace e1 : w1.cell? ⟨w.heap.size, k * 3 + 1, none⟩ = some z1 := e1; obtain ⟨z2, e2⟩ := hsp k hlt 2 (by decide); replace e2 : w1.cell? ⟨w.heap.size, k * 3 + 2, none⟩ = some z2 := e2
      rw [hput.out] at p1
      clear hsp hx
      go_wp2
      go_roundw
      case rel => exact ⟨k + 1, fp', by go_num, by omega, p1, ⟨p2, fun b hb => by rcases p3 b hb with h | h; exact hf.2 b h; exact Nat.le_trans hB.size (hf1.2 b h)⟩, below_setCells (via hB hb1) (Nat.le_refl _) _ [.string x.Kind, .slice A0 x.Args.length C0, .bool x.Not]⟩
      case measure => simp [intOf]; omega
    · obtain rfl : k = l.length := by omega
      rw [List.take_length, Nat.sub_self, List.replicate_zero, List.append_nil] at ho
      go_wp2
      go_ret
      exact ⟨_, _, fp, rfl, ho, hf, hB⟩
set_option maxRecDepth 20000 in
theorem toBind_w (x : BindD) (w : World) :
    Calls Tryz.prog 448 #[.agg #[.string x.Name, .int .i64 x.V.K, .int .i64 x.V.N, .string x.V.S]] w (ToBind x w) := by
  go_enter Tryz.func448, Tryz.ntmps448
  go_wp2_with fail
  refine (toVal_w x.V  _ ).mono ?_
  rintro e w1 ⟨rfl, hb1⟩
  have B1 := via (w0 := w) (by simp (maxDischargeDepth := 60)) hb1
  have z1 : w.heap.size + 3 ≤ w1.heap.size := by have := hb1.size; simp at this; omega
  have X1 : Bx w1 w.heap.size [.string x.Name, .int .i64 x.V.K, .int .i64 x.V.N, .string x.V.S] := Bx.via (by simp (maxDischargeDepth := 60)) hb1
  have R1 : Bx w1 (w.heap.size + 1) [.string ⟨#[]⟩, .int .i64 0, .int .i64 0, .string ⟨#[]⟩] := Bx.via (by simp (maxDischargeDepth := 60)) hb1
  have O1 : Bx w1 (w.heap.size + 1 + 1) [.string x.Name, .int .i64 0, .int .i64 0, .string ⟨#[]⟩] := Bx.via (by simp (maxDischargeDepth := 60)) hb1
  have x0 := X1.c 0 _ rfl
  have y0 := R1.c 0 _ rfl
  have k0 := O1.c 0 _ rfl
  have x1 := X1.c 1 _ rfl
  have y1 := R1.c 1 _ rfl
  have k1 := O1.c 1 _ rfl
  have x2 := X1.c 2 _ rfl
  have y2 := R1.c 2 _ rfl
  have k2 := O1.c 2 _ rfl
  have x3 := X1.c 3 _ rfl
  have y3 := R1.c 3 _ rfl
  have k3 := O1.c 3 _ rfl
  have zx := X1.z
  have zr := R1.z
  have zo := O1.z
  go_wp2
  refine ret_mk (.agg #[.string x.Name, .int .i64 x.V.K, .int .i64 x.V.N, .string x.V.S]) (by simp [results, Tryz.results448, go_sem, *]) rfl ⟨rfl, (by simp (maxDischargeDepth := 60) [bl_le, B1])⟩
set_option maxRecDepth 20000 in
theorem toSBind_w (l : List BindD) (v : Value) (w : World) (h : Sl w l v) (hs : sznSBind l ≤ 1048576) :
    Calls Tryz.prog 407 #[v] w (RetS l w) := by
  obtain ⟨a, c, rfl, hl, -⟩ := h.open
  have hsz : Hid (sznSBind l = l.length + (l.map sznBind).sum) := rfl
  have hlen : l.length ≤ 1048576 := by have := hsz.out; omega
  have hmk : ∀ w, (Instr.makeSlice 73 (.int .i64 l.length) (.int .i64 l.length)).run Tryz.prog w = .ok (.slice (some ⟨w.heap.size, 0, none⟩) l.length l.length) (w.alloc (.cells (madeCells #[.string ⟨#[]⟩, .int .i64 0, .int .i64 0, .string ⟨#[]⟩] (l.length * 4)) 239)) :=
    make_row 73 239 (.agg #[.string ⟨#[]⟩, .int .i64 0, .int .i64 0, .string ⟨#[]⟩]) 4 48 Tryz.underlying73 (by kernel_rfl) rfl l.length l.length rfl (by omega) (by decide)
  have hZ : OwnS (w.alloc (.cells (madeCells #[.string ⟨#[]⟩, .int .i64 0, .int .i64 0, .string ⟨#[]⟩] (l.length * 4)) 239)) (List.replicate l.length zeroBind) (.slice (some ⟨w.heap.size, 0, none⟩) l.length l.length) [w.heap.size] :=
    OwnS.zeroed w #[.string ⟨#[]⟩, .int .i64 0, .int .i64 0, .string ⟨#[]⟩] 239 zeroBind l.length (by simp [maxLen]; omega) rfl (fun w => own_Bind (w := w) okzeroBind)
  go_enter Tryz.func407, Tryz.ntmps407
  go_wp2
  go_loopw [4] (fun i wr => ∃ (k : Nat) (fp : List Nat), i = .int .i64 k ∧ k ≤ l.length ∧ OwnS wr (l.take k ++ List.replicate (l.length - k) zeroBind) (.slice (some ⟨w.heap.size, 0, none⟩) l.length l.length) fp ∧ Fr w.heap.size fp ∧ Below w.heap.size w wr) (fun i _ => l.length - (intOf i).toNat)
  case atStart => exact ⟨0, [w.heap.size], rfl, by omega, by simpa using hZ, by simp [Fr], by simp⟩
  case round =>
    clear hmk hZ
    obtain ⟨k, fp, rfl, hk, ho, hf, hB⟩ := hrel
    by_cases hlt : k < l.length
    · obtain ⟨b, o, rfl, hbl, hok, hc⟩ := (h.to hB).atBind k hlt
      have hle : sznBind l[k] ≤ 1048576 := by have h1 := sum_step sznBind l k hlt; have h2 := sum_le sznBind l (k + 1); have := hsz.out; omega
      have hput := Lib.hid (set_fill l zeroBind k hlt)
      generalize l[k] = x at *
      obtain ⟨c0, c1, c2, c3⟩ := hc
      skip
      go_wp2_with fail
      refine (toBind_w x  _ ).mono ?_
      rintro e w1 ⟨rfl, hb1⟩
      have hx := own_Bind hok (w := w1)
      have ho1 := ho.below hb1
      have hd : ∀ b ∈ ([] : List Nat), b ∉ fp := by simp
      obtain ⟨fp', p1, p2, p3⟩ := ho1.put hf.1 k (by simp; omega) hx hd (by simp)
      obtain ⟨-, hg, hz, hsp⟩ := ho1.spare
      obtain ⟨z0, e0⟩ := hsp k hlt 0 (by decide); replace e0 : w1.cell? ⟨w.heap.size, k * 4, none⟩ = some z0 := e0; obtain ⟨z1, e1⟩ := hsp k hlt 1 (by decide); replace e1 : w1.cell? ⟨w.heap.size, k * 4 + 1, none⟩ = some z1 := e1; obtain ⟨z2, e2⟩ := hsp k hlt 2 (by decide); replace e2 : w1.cell? ⟨w.heap.size, k * 4 + 2, none⟩ = some z2 := e2; obtain ⟨z3, e3⟩ := hsp k hlt 3 (by decide); replace e3 : w1.cell? ⟨w.heap.size, k * 4 + 3, none⟩ = some z3 := e3
      rw [hput.out] at p1
      clear hsp hx
      go_wp2
      go_roundw
      case rel => exact ⟨k + 1, fp', by go_num, by omega, p1, ⟨p2, fun b hb => by rcases p3 b hb with h | h; exact hf.2 b h; cases h⟩, below_setCells (via hB hb1) (Nat.le_refl _) _ [.string x.Name, .int .i64 x.V.K, .int .i64 x.V.N, .string x.V.S]⟩
      case measure => simp [intOf]; omega
    · obtain rfl : k = l.length := by omega
      rw [List.take_length, Nat.sub_self, List.replicate_zero, List.append_nil] at ho
      go_wp2
      go_ret
      exact ⟨_, _, fp, rfl, ho, hf, hB⟩
set_option maxRecDepth 20000 in
theorem toCond_w (x : CondD) (w : World) :
    Calls Tryz.prog 403 #[.agg #[.int .i64 x.Op, .int .i64 x.L.K, .string x.L.S, .int .i64 x.L.V.K, .int .i64 x.L.V.N, .string x.L.V.S, .int .i64 x.R.K, .string x.R.S, .int .i64 x.R.V.K, .int .i64 x.R.V.N, .string x.R.V.S]] w (ToCond x w) := by
  go_enter Tryz.func403, Tryz.ntmps403
  go_wp2_with fail
  refine (toArg_w x.L  _ ).mono ?_
  rintro e w1 ⟨rfl, hb1⟩
  have B1 := via (w0 := w) (by simp (maxDischargeDepth := 60)) hb1
  have z1 : w.heap.size + 3 ≤ w1.heap.size := by have := hb1.size; simp at this; omega
  have X1 : Bx w1 w.heap.size [.int .i64 x.Op, .int .i64 x.L.K, .string x.L.S, .int .i64 x.L.V.K, .int .i64 x.L.V.N, .string x.L.V.S, .int .i64 x.R.K, .string x.R.S, .int .i64 x.R.V.K, .int .i64 x.R.V.N, .string x.R.V.S] := Bx.via (by simp (maxDischargeDepth := 60)) hb1
  have R1 : Bx w1 (w.heap.size + 1) [.int .i64 0, .int .i64 0, .string ⟨#[]⟩, .int .i64 0, .int .i64 0, .string ⟨#[]⟩, .int .i64 0, .string ⟨#[]⟩, .int .i64 0, .int .i64 0, .string ⟨#[]⟩] := Bx.via (by simp (maxDischargeDepth := 60)) hb1
  have O1 : Bx w1 (w.heap.size + 1 + 1) [.int .i64 x.Op, .int .i64 0, .string ⟨#[]⟩, .int .i64 0, .int .i64 0, .string ⟨#[]⟩, .int .i64 0, .string ⟨#[]⟩, .int .i64 0, .int .i64 0, .string ⟨#[]⟩] := Bx.via (by simp (maxDischargeDepth := 60)) hb1
  have x0 := X1.c 0 _ rfl
  have y0 := R1.c 0 _ rfl
  have k0 := O1.c 0 _ rfl
  have x1 := X1.c 1 _ rfl
  have y1 := R1.c 1 _ rfl
  have k1 := O1.c 1 _ rfl
  have x2 := X1.c 2 _ rfl
  have y2 := R1.c 2 _ rfl
  have k2 := O1.c 2 _ rfl
  have x3 := X1.c 3 _ rfl
  have y3 := R1.c 3 _ rfl
  have k3 := O1.c 3 _ rfl
  have x4 := X1.c 4 _ rfl
  have y4 := R1.c 4 _ rfl
  have k4 := O1.c 4 _ rfl
  have x5 := X1.c 5 _ rfl
  have y5 := R1.c 5 _ rfl
  have k5 := O1.c 5 _ rfl
  have x6 := X1.c 6 _ rfl
  have y6 := R1.c 6 _ rfl
  have k6 := O1.c 6 _ rfl
  have x7 := X1.c 7 _ rfl
  have y7 := R1.c 7 _ rfl
  have k7 := O1.c 7 _ rfl
  have x8 := X1.c 8 _ rfl
  have y8 := R1.c 8 _ rfl
  have k8 := O1.c 8 _ rfl
  have x9 := X1.c 9 _ rfl
  have y9 := R1.c 9 _ rfl
  have k9 := O1.c 9 _ rfl
  have x10 := X1.c 10 _ rfl
  have y10 := R1.c 10 _ rfl
  have k10 := O1.c 10 _ rfl
  have zx := X1.z
  have zr := R1.z
  have zo := O1.z
  go_wp2_with fail
  refine (toArg_w x.R  _ ).mono ?_
  rintro e w2 ⟨rfl, hb2⟩
  have B2 := via (w0 := w) (by simp (maxDischargeDepth := 60) [bl_le, B1]) hb2
  have z2 : w.heap.size + 3 ≤ w2.heap.size := by have := hb2.size; simp at this; omega
  have X2 : Bx w2 w.heap.size [.int .i64 x.Op, .int .i64 x.L.K, .string x.L.S, .int .i64 x.L.V.K, .int .i64 x.L.V.N, .string x.L.V.S, .int .i64 x.R.K, .string x.R.S, .int .i64 x.R.V.K, .int .i64 x.R.V.N, .string x.R.V.S] := Bx.via (by simp (maxDischargeDepth := 60) [ne2, X1]) hb2
  have R2 : Bx w2 (w.heap.size + 1) [.int .i64 0, .int .i64 0, .string ⟨#[]⟩, .int .i64 0, .int .i64 0, .string ⟨#[]⟩, .int .i64 0, .string ⟨#[]⟩, .int .i64 0, .int .i64 0, .string ⟨#[]⟩] := Bx.via (by simp (maxDischargeDepth := 60) [R1]) hb2
  have O2 : Bx w2 (w.heap.size + 1 + 1) [.int .i64 x.Op, .int .i64 x.L.K, .string x.L.S, .int .i64 x.L.V.K, .int .i64 x.L.V.N, .string x.L.V.S, .int .i64 0, .string ⟨#[]⟩, .int .i64 0, .int .i64 0, .string ⟨#[]⟩] := Bx.via (((((O1.set 1 (.int .i64 x.L.K)).set 2 (.string x.L.S)).set 3 (.int .i64 x.L.V.K)).set 4 (.int .i64 x.L.V.N)).set 5 (.string x.L.V.S)) hb2
  clear k0 x0 y0 k1 x1 y1 k2 x2 y2 k3 x3 y3 k4 x4 y4 k5 x5 y5 k6 x6 y6 k7 x7 y7 k8 x8 y8 k9 x9 y9 k10 x10 y10 zx zr zo
  have x0 := X2.c 0 _ rfl
  have y0 := R2.c 0 _ rfl
  have k0 := O2.c 0 _ rfl
  have x1 := X2.c 1 _ rfl
  have y1 := R2.c 1 _ rfl
  have k1 := O2.c 1 _ rfl
  have x2 := X2.c 2 _ rfl
  have y2 := R2.c 2 _ rfl
  have k2 := O2.c 2 _ rfl
  have x3 := X2.c 3 _ rfl
  have y3 := R2.c 3 _ rfl
  have k3 := O2.c 3 _ rfl
  have x4 := X2.c 4 _ rfl
  have y4 := R2.c 4 _ rfl
  have k4 := O2.c 4 _ rfl
  have x5 := X2.c 5 _ rfl
  have y5 := R2.c 5 _ rfl
  have k5 := O2.c 5 _ rfl
  have x6 := X2.c 6 _ rfl
  have y6 := R2.c 6 _ rfl
  have k6 := O2.c 6 _ rfl
  have x7 := X2.c 7 _ rfl
  have y7 := R2.c 7 _ rfl
  have k7 := O2.c 7 _ rfl
  have x8 := X2.c 8 _ rfl
  have y8 := R2.c 8 _ rfl
  have k8 := O2.c 8 _ rfl
  have x9 := X2.c 9 _ rfl
  have y9 := R2.c 9 _ rfl
  have k9 := O2.c 9 _ rfl
  have x10 := X2.c 10 _ rfl
  have y10 := R2.c 10 _ rfl
  have k10 := O2.c 10 _ rfl
  have zx := X2.z
  have zr := R2.z
  have zo := O2.z
  go_wp2
  refine ret_mk (.agg #[.int .i64 x.Op, .int .i64 x.L.K, .string x.L.S, .int .i64 x.L.V.K, .int .i64 x.L.V.N, .string x.L.V.S, .int .i64 x.R.K, .string x.R.S, .int .i64 x.R.V.K, .int .i64 x.R.V.N, .string x.R.V.S]) (by simp [results, Tryz.results403, go_sem, *]) rfl ⟨rfl, (by simp (maxDischargeDepth := 60) [bl_le, B2])⟩
set_option maxRecDepth 20000 in
theorem toSCond_w (l : List CondD) (v : Value) (w : World) (h : Sl w l v) (hs : sznSCond l ≤ 1048576) :
    Calls Tryz.prog 340 #[v] w (RetS l w) := by
  obtain ⟨a, c, rfl, hl, -⟩ := h.open
  have hsz : Hid (sznSCond l = l.length + (l.map sznCond).sum) := rfl
  have hlen : l.length ≤ 1048576 := by have := hsz.out; omega
  have hmk : ∀ w, (Instr.makeSlice 171 (.int .i64 l.length) (.int .i64 l.length)).run Tryz.prog w = .ok (.slice (some ⟨w.heap.size, 0, none⟩) l.length l.length) (w.alloc (.cells (madeCells #[.int .i64 0, .int .i64 0, .string ⟨#[]⟩, .int .i64 0, .int .i64 0, .string ⟨#[]⟩, .int .i64 0, .string ⟨#[]⟩, .int .i64 0, .int .i64 0, .string ⟨#[]⟩] (l.length * 11)) 264)) :=
    make_row 171 264 (.agg #[.int .i64 0, .int .i64 0, .string ⟨#[]⟩, .int .i64 0, .int .i64 0, .string ⟨#[]⟩, .int .i64 0, .string ⟨#[]⟩, .int .i64 0, .int .i64 0, .string ⟨#[]⟩]) 11 120 Tryz.underlying171 (by kernel_rfl) rfl l.length l.length rfl (by omega) (by decide)
  have hZ : OwnS (w.alloc (.cells (madeCells #[.int .i64 0, .int .i64 0, .string ⟨#[]⟩, .int .i64 0, .int .i64 0, .string ⟨#[]⟩, .int .i64 0, .string ⟨#[]⟩, .int .i64 0, .int .i64 0, .string ⟨#[]⟩] (l.length * 11)) 264)) (List.replicate l.length zeroCond) (.slice (some ⟨w.heap.size, 0, none⟩) l.length l.length) [w.heap.size] :=
    OwnS.zeroed w #[.int .i64 0, .int .i64 0, .string ⟨#[]⟩, .int .i64 0, .int .i64 0, .string ⟨#[]⟩, .int .i64 0, .string ⟨#[]⟩, .int .i64 0, .int .i64 0, .string ⟨#[]⟩] 264 zeroCond l.length (by simp [maxLen]; omega) rfl (fun w => own_Cond (w := w) okzeroCond)
  go_enter Tryz.func340, Tryz.ntmps340
  go_wp2
  go_loopw [4] (fun i wr => ∃ (k : Nat) (fp : List Nat), i = .int .i64 k ∧ k ≤ l.length ∧ OwnS wr (l.take k ++ List.replicate (l.length - k) zeroCond) (.slice (some ⟨w.heap.size, 0, none⟩) l.length l.length) fp ∧ Fr w.heap.size fp ∧ Below w.heap.size w wr) (fun i _ => l.length - (intOf i).toNat)
  case atStart => exact ⟨0, [w.heap.size], rfl, by omega, by simpa using hZ, by simp [Fr], by simp⟩
  case round =>
    clear hmk hZ
    obtain ⟨k, fp, rfl, hk, ho, hf, hB⟩ := hrel
    by_cases hlt : k < l.length
    · obtain ⟨b, o, rfl, hbl, hok, hc⟩ := (h.to hB).atCond k hlt
      have hle : sznCond l[k] ≤ 1048576 := by have h1 := sum_step sznCond l k hlt; have h2 := sum_le sznCond l (k + 1); have := hsz.out; omega
      have hput := Lib.hid (set_fill l zeroCond k hlt)
      generalize l[k] = x at *
      obtain ⟨c0, c1, c2, c3, c4, c5, c6, c7, c8, c9, c10⟩ := hc
      skip
      go_wp2_with fail
      refine (toCond_w x  _ ).mono ?_
      rintro e w1 ⟨rfl, hb1⟩
      have hx := own_Cond hok (w := w1)
      have ho1 := ho.below hb1
      have hd : ∀ b ∈ ([] : List Nat), b ∉ fp := by simp
      obtain ⟨fp', p1, p2, p3⟩ := ho1.put hf.1 k (by simp; omega) hx hd (by simp)
      obtain ⟨-, hg, hz, hsp⟩ := ho1.spare
      obtain ⟨z0, e0⟩ := hsp k hlt 0 (by decide); replace e0 : w1.cell? ⟨w.heap.size, k * 11, none⟩ = some z0 := e0; obtain ⟨z1, e1⟩ := hsp k hlt 1 (by decide); replace e1 : w1.cell? ⟨w.heap.size, k * 11 + 1, none⟩ = some z1 := e1; obtain ⟨z2, e2⟩ := hsp k hlt 2 (by decide); replace e2 : w1.cell? ⟨w.heap.size, k * 11 + 2, none⟩ = some z2 := e2; obtain ⟨z3, e3⟩ := hsp k hlt 3 (by decide); replace e3 : w1.cell? ⟨w.heap.size, k * 11 + 3, none⟩ = some z3 := e3; obtain ⟨z4, e4⟩ := hsp k hlt 4 (by decide); replace e4 : w1.cell? ⟨w.heap.size, k * 11 + 4, none⟩ = some z4 := e4; obtain ⟨z5, e5⟩ := hsp k hlt 5 (by decide); replace e5 : w1.cell? ⟨w.heap.size, k * 11 + 5, none⟩ = some z5 := e5; obtain ⟨z6, e6⟩ := hsp k hlt 6 (by decide); replace e6 : w1.cell? ⟨w.heap.size, k * 11 + 6, none⟩ = some z6 := e6; obtain ⟨z7, e7⟩ := hsp k hlt 7 (by decide); replace e7 : w1.cell? ⟨w.heap.size, k * 11 + 7, none⟩ = some z7 := e7; obtain ⟨z8, e8⟩ := hsp k hlt 8 (by decide); replace e8 : w1.cell? ⟨w.heap.size, k * 11 + 8, none⟩ = some z8 := e8; obtain ⟨z9, e9⟩ := hsp k hlt 9 (by decide); replace e9 : w1.cell? ⟨w.heap.size, k * 11 + 9, none⟩ = some z9 := e9; obtain ⟨z10, e10⟩ := hsp k hlt 10 (by decide); replace e10 : w1.cell? ⟨w.heap.size, k * 11 + 10, none⟩ = some z10 := e10
      rw [hput.out] at p1
      clear hsp hx
      go_wp2
      go_roundw
      case rel => exact ⟨k + 1, fp', by go_num, by omega, p1, ⟨p2, fun b hb => by rcases p3 b hb with h | h; exact hf.2 b h; cases h⟩, below_setCells (via hB hb1) (Nat.le_refl _) _ [.int .i64 x.Op, .int .i64 x.L.K, .string x.L.S, .int .i64 x.L.V.K, .int .i64 x.L.V.N, .string x.L.V.S, .int .i64 x.R.K, .string x.R.S, .int .i64 x.R.V.K, .int .i64 x.R.V.N, .string x.R.V.S]⟩
      case measure => simp [intOf]; omega
    · obtain rfl : k = l.length := by omega
      rw [List.take_length, Nat.sub_self, List.replicate_zero, List.append_nil] at ho
      go_wp2
      go_ret
      exact ⟨_, _, fp, rfl, ho, hf, hB⟩
set_option maxRecDepth 20000 in
theorem toExpr_w (x : ExprD) (w : World) :
    Calls Tryz.prog 474 #[.agg #[.string x.Op, .int .i64 x.L.K, .string x.L.S, .int .i64 x.L.V.K, .int .i64 x.L.V.N, .string x.L.V.S, .int .i64 x.R.K, .string x.R.S, .int .i64 x.R.V.K, .int .i64 x.R.V.N, .string x.R.V.S]] w (ToExpr x w) := by
  go_enter Tryz.func474, Tryz.ntmps474
  go_wp2_with fail
  refine (toArg_w x.L  _ ).mono ?_
  rintro e w1 ⟨rfl, hb1⟩
  have B1 := via (w0 := w) (by simp (maxDischargeDepth := 60)) hb1
  have z1 : w.heap.size + 3 ≤ w1.heap.size := by have := hb1.size; simp at this; omega
  have X1 : Bx w1 w.heap.size [.string x.Op, .int .i64 x.L.K, .string x.L.S, .int .i64 x.L.V.K, .int .i64 x.L.V.N, .string x.L.V.S, .int .i64 x.R.K, .string x.R.S, .int .i64 x.R.V.K, .int .i64 x.R.V.N, .string x.R.V.S] := Bx.via (by simp (maxDischargeDepth := 60)) hb1
  have R1 : Bx w1 (w.heap.size + 1) [.string ⟨#[]⟩, .int .i64 0, .string ⟨#[]⟩, .int .i64 0, .int .i64 0, .string ⟨#[]⟩, .int .i64 0, .string ⟨#[]⟩, .int .i64 0, .int .i64 0, .string ⟨#[]⟩] := Bx.via (by simp (maxDischargeDepth := 60)) hb1
  have O1 : Bx w1 (w.heap.size + 1 + 1) [.string x.Op, .int .i64 0, .string ⟨#[]⟩, .int .i64 0, .int .i64 0, .string ⟨#[]⟩, .int .i64 0, .string ⟨#[]⟩, .int .i64 0, .int .i64 0, .string ⟨#[]⟩] := Bx.via (by simp (maxDischargeDepth := 60)) hb1
  have x0 := X1.c 0 _ rfl
  have y0 := R1.c 0 _ rfl
  have k0 := O1.c 0 _ rfl
  have x1 := X1.c 1 _ rfl
  have y1 := R1.c 1 _ rfl
  have k1 := O1.c 1 _ rfl
  have x2 := X1.c 2 _ rfl
  have y2 := R1.c 2 _ rfl
  have k2 := O1.c 2 _ rfl
  have x3 := X1.c 3 _ rfl
  have y3 := R1.c 3 _ rfl
  have k3 := O1.c 3 _ rfl
  have x4 := X1.c 4 _ rfl
  have y4 := R1.c 4 _ rfl
  have k4 := O1.c 4 _ rfl
  have x5 := X1.c 5 _ rfl
  have y5 := R1.c 5 _ rfl
  have k5 := O1.c 5 _ rfl
  have x6 := X1.c 6 _ rfl
  have y6 := R1.c 6 _ rfl
  have k6 := O1.c 6 _ rfl
  have x7 := X1.c 7 _ rfl
  have y7 := R1.c 7 _ rfl
  have k7 := O1.c 7 _ rfl
  have x8 := X1.c 8 _ rfl
  have y8 := R1.c 8 _ rfl
  have k8 := O1.c 8 _ rfl
  have x9 := X1.c 9 _ rfl
  have y9 := R1.c 9 _ rfl
  have k9 := O1.c 9 _ rfl
  have x10 := X1.c 10 _ rfl
  have y10 := R1.c 10 _ rfl
  have k10 := O1.c 10 _ rfl
  have zx := X1.z
  have zr := R1.z
  have zo := O1.z
  go_wp2_with fail
  refine (toArg_w x.R  _ ).mono ?_
  rintro e w2 ⟨rfl, hb2⟩
  have B2 := via (w0 := w) (by simp (maxDischargeDepth := 60) [bl_le, B1]) hb2
  have z2 : w.heap.size + 3 ≤ w2.heap.size := by have := hb2.size; simp at this; omega
  have X2 : Bx w2 w.heap.size [.string x.Op, .int .i64 x.L.K, .string x.L.S, .int .i64 x.L.V.K, .int .i64 x.L.V.N, .string x.L.V.S, .int .i64 x.R.K, .string x.R.S, .int .i64 x.R.V.K, .int .i64 x.R.V.N, .string x.R.V.S] := Bx.via (by simp (maxDischargeDepth := 60) [ne2, X1]) hb2
  have R2 : Bx w2 (w.heap.size + 1) [.string ⟨#[]⟩, .int .i64 0, .string ⟨#[]⟩, .int .i64 0, .int .i64 0, .string ⟨#[]⟩, .int .i64 0, .string ⟨#[]⟩, .int .i64 0, .int .i64 0, .string ⟨#[]⟩] := Bx.via (by simp (maxDischargeDepth := 60) [R1]) hb2
  have O2 : Bx w2 (w.heap.size + 1 + 1) [.string x.Op, .int .i64 x.L.K, .string x.L.S, .int .i64 x.L.V.K, .int .i64 x.L.V.N, .string x.L.V.S, .int .i64 0, .string ⟨#[]⟩, .int .i64 0, .int .i64 0, .string ⟨#[]⟩] := Bx.via (((((O1.set 1 (.int .i64 x.L.K)).set 2 (.string x.L.S)).set 3 (.int .i64 x.L.V.K)).set 4 (.int .i64 x.L.V.N)).set 5 (.string x.L.V.S)) hb2
  clear k0 x0 y0 k1 x1 y1 k2 x2 y2 k3 x3 y3 k4 x4 y4 k5 x5 y5 k6 x6 y6 k7 x7 y7 k8 x8 y8 k9 x9 y9 k10 x10 y10 zx zr zo
  have x0 := X2.c 0 _ rfl
  have y0 := R2.c 0 _ rfl
  have k0 := O2.c 0 _ rfl
  have x1 := X2.c 1 _ rfl
  have y1 := R2.c 1 _ rfl
  have k1 := O2.c 1 _ rfl
  have x2 := X2.c 2 _ rfl
  have y2 := R2.c 2 _ rfl
  have k2 := O2.c 2 _ rfl
  have x3 := X2.c 3 _ rfl
  have y3 := R2.c 3 _ rfl
  have k3 := O2.c 3 _ rfl
  have x4 := X2.c 4 _ rfl
  have y4 := R2.c 4 _ rfl
  have k4 := O2.c 4 _ rfl
  have x5 := X2.c 5 _ rfl
  have y5 := R2.c 5 _ rfl
  have k5 := O2.c 5 _ rfl
  have x6 := X2.c 6 _ rfl
  have y6 := R2.c 6 _ rfl
  have k6 := O2.c 6 _ rfl
  have x7 := X2.c 7 _ rfl
  have y7 := R2.c 7 _ rfl
  have k7 := O2.c 7 _ rfl
  have x8 := X2.c 8 _ rfl
  have y8 := R2.c 8 _ rfl
  have k8 := O2.c 8 _ rfl
  have x9 := X2.c 9 _ rfl
  have y9 := R2.c 9 _ rfl
  have k9 := O2.c 9 _ rfl
  have x10 := X2.c 10 _ rfl
  have y10 := R2.c 10 _ rfl
  have k10 := O2.c 10 _ rfl
  have zx := X2.z
  have zr := R2.z
  have zo := O2.z
  go_wp2
  refine ret_mk (.agg #[.string x.Op, .int .i64 x.L.K, .string x.L.S, .int .i64 x.L.V.K, .int .i64 x.L.V.N, .string x.L.V.S, .int .i64 x.R.K, .string x.R.S, .int .i64 x.R.V.K, .int .i64 x.R.V.N, .string x.R.V.S]) (by simp [results, Tryz.results474, go_sem, *]) rfl ⟨rfl, (by simp (maxDischargeDepth := 60) [bl_le, B2])⟩
set_option maxRecDepth 20000 in
theorem toSExpr_w (l : List ExprD) (v : Value) (w : World) (h : Sl w l v) (hs : sznSExpr l ≤ 1048576) :
    Calls Tryz.prog 447 #[v] w (RetS l w) := by
  obtain ⟨a, c, rfl, hl, -⟩ := h.open
  have hsz : Hid (sznSExpr l = l.length + (l.map sznExpr).sum) := rfl
  have hlen : l.length ≤ 1048576 := by have := hsz.out; omega
  have hmk : ∀ w, (Instr.makeSlice 243 (.int .i64 l.length) (.int .i64 l.length)).run Tryz.prog w = .ok (.slice (some ⟨w.heap.size, 0, none⟩) l.length l.length) (w.alloc (.cells (madeCells #[.string ⟨#[]⟩, .int .i64 0, .string ⟨#[]⟩, .int .i64 0, .int .i64 0, .string ⟨#[]⟩, .int .i64 0, .string ⟨#[]⟩, .int .i64 0, .int .i64 0, .string ⟨#[]⟩] (l.length * 11)) 319)) :=
    make_row 243 319 (.agg #[.string ⟨#[]⟩, .int .i64 0, .string ⟨#[]⟩, .int .i64 0, .int .i64 0, .string ⟨#[]⟩, .int .i64 0, .string ⟨#[]⟩, .int .i64 0, .int .i64 0, .string ⟨#[]⟩]) 11 128 Tryz.underlying243 (by kernel_rfl) rfl l.length l.length rfl (by omega) (by decide)
  have hZ : OwnS (w.alloc (.cells (madeCells #[.string ⟨#[]⟩, .int .i64 0, .string ⟨#[]⟩, .int .i64 0, .int .i64 0, .string ⟨#[]⟩, .int .i64 0, .string ⟨#[]⟩, .int .i64 0, .int .i64 0, .string ⟨#[]⟩] (l.length * 11)) 319)) (List.replicate l.length zeroExpr) (.slice (some ⟨w.heap.size, 0, none⟩) l.length l.length) [w.heap.size] :=
    OwnS.zeroed w #[.string ⟨#[]⟩, .int .i64 0, .string ⟨#[]⟩, .int .i64 0, .int .i64 0, .string ⟨#[]⟩, .int .i64 0, .string ⟨#[]⟩, .int .i64 0, .int .i64 0, .string ⟨#[]⟩] 319 zeroExpr l.length (by simp [maxLen]; omega) rfl (fun w => own_Expr (w := w) okzeroExpr)
  go_enter Tryz.func447, Tryz.ntmps447
  go_wp2
  go_loopw [4] (fun i wr => ∃ (k : Nat) (fp : List Nat), i = .int .i64 k ∧ k ≤ l.length ∧ OwnS wr (l.take k ++ List.replicate (l.length - k) zeroExpr) (.slice (some ⟨w.heap.size, 0, none⟩) l.length l.length) fp ∧ Fr w.heap.size fp ∧ Below w.heap.size w wr) (fun i _ => l.length - (intOf i).toNat)
  case atStart => exact ⟨0, [w.heap.size], rfl, by omega, by simpa using hZ, by simp [Fr], by simp⟩
  case round =>
    clear hmk hZ
    obtain ⟨k, fp, rfl, hk, ho, hf, hB⟩ := hrel
    by_cases hlt : k < l.length
    · obtain ⟨b, o, rfl, hbl, hok, hc⟩ := (h.to hB).atExpr k hlt
      have hle : sznExpr l[k] ≤ 1048576 := by have h1 := sum_step sznExpr l k hlt; have h2 := sum_le sznExpr l (k + 1); have := hsz.out; omega
      have hput := Lib.hid (set_fill l zeroExpr k hlt)
      generalize l[k] = x at *
      obtain ⟨c0, c1, c2, c3, c4, c5, c6, c7, c8, c9, c10⟩ := hc
      skip
      go_wp2_with fail
      refine (toExpr_w x  _ ).mono ?_
      rintro e w1 ⟨rfl, hb1⟩
      have hx := own_Expr hok (w := w1)
      have ho1 := ho.below hb1
      have hd : ∀ b ∈ ([] : List Nat), b ∉ fp := by simp
      obtain ⟨fp', p1, p2, p3⟩ := ho1.put hf.1 k (by simp; omega) hx hd (by simp)
      obtain ⟨-, hg, hz, hsp⟩ := ho1.spare
      obtain ⟨z0, e0⟩ := hsp k hlt 0 (by decide); replace e0 : w1.cell? ⟨w.heap.size, k * 11, none⟩ = some z0 := e0; obtain ⟨z1, e1⟩ := hsp k hlt 1 (by decide); replace e1 : w1.cell? ⟨w.heap.size, k * 11 + 1, none⟩ = some z1 := e1; obtain ⟨z2, e2⟩ := hsp k hlt 2 (by decide); replace e2 : w1.cell? ⟨w.heap.size, k * 11 + 2, none⟩ = some z2 := e2; obtain ⟨z3, e3⟩ := hsp k hlt 3 (by decide); replace e3 : w1.cell? ⟨w.heap.size, k * 11 + 3, none⟩ = some z3 := e3; obtain ⟨z4, e4⟩ := hsp k hlt 4 (by decide); replace e4 : w1.cell? ⟨w.heap.size, k * 11 + 4, none⟩ = some z4 := e4; obtain ⟨z5, e5⟩ := hsp k hlt 5 (by decide); replace e5 : w1.cell? ⟨w.heap.size, k * 11 + 5, none⟩ = some z5 := e5; obtain ⟨z6, e6⟩ := hsp k hlt 6 (by decide); replace e6 : w1.cell? ⟨w.heap.size, k * 11 + 6, none⟩ = some z6 := e6; obtain ⟨z7, e7⟩ := hsp k hlt 7 (by decide); replace e7 : w1.cell? ⟨w.heap.size, k * 11 + 7, none⟩ = some z7 := e7; obtain ⟨z8, e8⟩ := hsp k hlt 8 (by decide); replace e8 : w1.cell? ⟨w.heap.size, k * 11 + 8, none⟩ = some z8 := e8; obtain ⟨z9, e9⟩ := hsp k hlt 9 (by decide); replace e9 : w1.cell? ⟨w.heap.size, k * 11 + 9, none⟩ = some z9 := e9; obtain ⟨z10, e10⟩ := hsp k hlt 10 (by decide); replace e10 : w1.cell? ⟨w.heap.size, k * 11 + 10, none⟩ = some z10 := e10
      rw [hput.out] at p1
      clear hsp hx
      go_wp2
      go_roundw
      case rel => exact ⟨k + 1, fp', by go_num, by omega, p1, ⟨p2, fun b hb => by rcases p3 b hb with h | h; exact hf.2 b h; cases h⟩, below_setCells (via hB hb1) (Nat.le_refl _) _ [.string x.Op, .int .i64 x.L.K, .string x.L.S, .int .i64 x.L.V.K, .int .i64 x.L.V.N, .string x.L.V.S, .int .i64 x.R.K, .string x.R.S, .int .i64 x.R.V.K, .int .i64 x.R.V.N, .string x.R.V.S]⟩
      case measure => simp [intOf]; omega
    · obtain rfl : k = l.length := by omega
      rw [List.take_length, Nat.sub_self, List.replicate_zero, List.append_nil] at ho
      go_wp2
      go_ret
      exact ⟨_, _, fp, rfl, ho, hf, hB⟩
set_option maxRecDepth 20000 in
theorem toAct_w (x : ActD) (v0 : Value) (w : World) (s0 : Sl w x.Args v0) (hs : sznAct x ≤ 1048576) :
    Calls Tryz.prog 404 #[.agg #[.int .i64 x.Kind, .string x.Name, v0, .int .i64 x.N, .string x.Undo]] w (ToAct x w) := by
  obtain ⟨a0, c0, rfl, hl0, -⟩ := s0.open
  have hsz : sznAct x = x.Name.size + sznSExpr x.Args + x.Undo.size := rfl
  have g1 : sznSExpr x.Args ≤ 1048576 := by omega
  clear hsz hs
  go_enter Tryz.func404, Tryz.ntmps404
  go_wp2_with fail
  refine (toSExpr_w x.Args _ _ (s0.to (by simp (maxDischargeDepth := 60))) g1).mono ?_
  rintro e w1 ⟨A0, C0, f0, rfl, o0, hf1, hb1⟩
  have B1 := via (w0 := w) (by simp (maxDischargeDepth := 60)) hb1
  have z1 : w.heap.size + 3 ≤ w1.heap.size := by have := hb1.size; simp at this; omega
  have X1 : Bx w1 w.heap.size [.int .i64 x.Kind, .string x.Name, .slice a0 x.Args.length c0, .int .i64 x.N, .string x.Undo] := Bx.via (by simp (maxDischargeDepth := 60)) hb1
  have R1 : Bx w1 (w.heap.size + 1) [.int .i64 0, .string ⟨#[]⟩, .slice none 0 0, .int .i64 0, .string ⟨#[]⟩] := Bx.via (by simp (maxDischargeDepth := 60)) hb1
  have O1 : Bx w1 (w.heap.size + 1 + 1) [.int .i64 x.Kind, .string x.Name, .slice none 0 0, .int .i64 0, .string ⟨#[]⟩] := Bx.via (by simp (maxDischargeDepth := 60)) hb1
  have r0 : Rng (w.heap.size + 3) w1.heap.size f0 := fun b hb => ⟨Nat.le_trans (by simp) (hf1.2 b (by simp [hb])), o0.lt b hb⟩
  have x0 := X1.c 0 _ rfl
  have y0 := R1.c 0 _ rfl
  have k0 := O1.c 0 _ rfl
  have x1 := X1.c 1 _ rfl
  have y1 := R1.c 1 _ rfl
  have k1 := O1.c 1 _ rfl
  have x2 := X1.c 2 _ rfl
  have y2 := R1.c 2 _ rfl
  have k2 := O1.c 2 _ rfl
  have x3 := X1.c 3 _ rfl
  have y3 := R1.c 3 _ rfl
  have k3 := O1.c 3 _ rfl
  have x4 := X1.c 4 _ rfl
  have y4 := R1.c 4 _ rfl
  have k4 := O1.c 4 _ rfl
  have zx := X1.z
  have zr := R1.z
  have zo := O1.z
  go_wp2
  have H1 : Fr w.heap.size f0 := hf1.mono (by simp; omega)
  have hF : Fr w.heap.size f0 := H1
  refine ret_mk (.agg #[.int .i64 x.Kind, .string x.Name, .slice A0 x.Args.length C0, .int .i64 x.N, .string x.Undo]) (by simp [results, Tryz.results404, go_sem, *]) rfl ⟨A0, C0, f0, rfl, ((((((((o0.out r0 (by simp) _).out r0 (by simp) _).out r0 (by simp) _).out r0 (by simp) _).out r0 (by simp) _).out r0 (by simp) _).out r0 (by simp) _).out r0 (by simp) _), hF, (by simp (maxDischargeDepth := 60) [bl_le, B1])⟩
set_option maxRecDepth 20000 in
theorem toSAct_w (l : List ActD) (v : Value) (w : World) (h : Sl w l v) (hs : sznSAct l ≤ 1048576) :
    Calls Tryz.prog 341 #[v] w (RetS l w) := by
  obtain ⟨a, c, rfl, hl, -⟩ := h.open
  have hsz : Hid (sznSAct l = l.length + (l.map sznAct).sum) := rfl
  have hlen : l.length ≤ 1048576 := by have := hsz.out; omega
  have hmk : ∀ w, (Instr.makeSlice 172 (.int .i64 l.length) (.int .i64 l.length)).run Tryz.prog w = .ok (.slice (some ⟨w.heap.size, 0, none⟩) l.length l.length) (w.alloc (.cells (madeCells #[.int .i64 0, .string ⟨#[]⟩, .slice none 0 0, .int .i64 0, .string ⟨#[]⟩] (l.length * 5)) 245)) :=
    make_row 172 245 (.agg #[.int .i64 0, .string ⟨#[]⟩, .slice none 0 0, .int .i64 0, .string ⟨#[]⟩]) 5 72 Tryz.underlying172 (by kernel_rfl) rfl l.length l.length rfl (by omega) (by decide)
  have hZ : OwnS (w.alloc (.cells (madeCells #[.int .i64 0, .string ⟨#[]⟩, .slice none 0 0, .int .i64 0, .string ⟨#[]⟩] (l.length * 5)) 245)) (List.replicate l.length zeroAct) (.slice (some ⟨w.heap.size, 0, none⟩) l.length l.length) [w.heap.size] :=
    OwnS.zeroed w #[.int .i64 0, .string ⟨#[]⟩, .slice none 0 0, .int .i64 0, .string ⟨#[]⟩] 245 zeroAct l.length (by simp [maxLen]; omega) rfl (fun w => own_Act (w := w) okzeroAct (OwnS.nil w))
  go_enter Tryz.func341, Tryz.ntmps341
  go_wp2
  go_loopw [4] (fun i wr => ∃ (k : Nat) (fp : List Nat), i = .int .i64 k ∧ k ≤ l.length ∧ OwnS wr (l.take k ++ List.replicate (l.length - k) zeroAct) (.slice (some ⟨w.heap.size, 0, none⟩) l.length l.length) fp ∧ Fr w.heap.size fp ∧ Below w.heap.size w wr) (fun i _ => l.length - (intOf i).toNat)
  case atStart => exact ⟨0, [w.heap.size], rfl, by omega, by simpa using hZ, by simp [Fr], by simp⟩
  case round =>
    clear hmk hZ
    obtain ⟨k, fp, rfl, hk, ho, hf, hB⟩ := hrel
    by_cases hlt : k < l.length
    · obtain ⟨b, o, v0, rfl, hbl, hok, hc, s0⟩ := (h.to hB).atAct k hlt
      have hle : sznAct l[k] ≤ 1048576 := by have h1 := sum_step sznAct l k hlt; have h2 := sum_le sznAct l (k + 1); have := hsz.out; omega
      have hput := Lib.hid (set_fill l zeroAct k hlt)
      generalize l[k] = x at *
      obtain ⟨c0, c1, c2, c3, c4⟩ := hc
      obtain ⟨a0, q0, rfl, hl0, -⟩ := s0.open
      go_wp2_with fail
      refine (toAct_w x _ _ s0 hle).mono ?_
      rintro e w1 ⟨A0, C0, f0, rfl, o0, hf1, hb1⟩
      have hx := own_Act hok o0
      have ho1 := ho.below hb1
      have hd : ∀ b ∈ f0, b ∉ fp := fun b hb hb2 => by have := ho.lt b hb2; have := hf1.2 b hb; omega
      obtain ⟨fp', p1, p2, p3⟩ := ho1.put hf.1 k (by simp; omega) hx hd hf1.1
      obtain ⟨-, hg, hz, hsp⟩ := ho1.spare
      obtain ⟨z0, e0⟩ := hsp k hlt 0 (by decide); replace e0 : w1.cell? ⟨w.heap.size, k * 5, none⟩ = some z0 := e0; obtain ⟨z1, e1⟩ := hsp k hlt 1 (by decide); replace e1 : w1.cell? ⟨w.heap.size, k * 5 + 1, none⟩ = some z1 := e1; obtain ⟨z2, e2⟩ := hsp k hlt 2 (by decide); replace e2 : w1.cell? ⟨w.heap.size, k * 5 + 2, none⟩ = some z2 := e2; obtain ⟨z3, e3⟩ := hsp k hlt 3 (by decide); replace e3 : w1.cell? ⟨w.heap.size, k * 5 + 3, none⟩ = some z3 := e3; obtain ⟨z4, e4⟩ := hsp k hlt 4 (by decide); replace e4 : w1.cell? ⟨w.heap.size, k * 5 + 4, none⟩ = some z4 := e4
      rw [hput.out] at p1
      clear hsp hx
      go_wp2
      go_roundw
      case rel => exact ⟨k + 1, fp', by go_num, by omega, p1, ⟨p2, fun b hb => by rcases p3 b hb with h | h; exact hf.2 b h; exact Nat.le_trans hB.size (hf1.2 b h)⟩, below_setCells (via hB hb1) (Nat.le_refl _) _ [.int .i64 x.Kind, .string x.Name, .slice A0 x.Args.length C0, .int .i64 x.N, .string x.Undo]⟩
      case measure => simp [intOf]; omega
    · obtain rfl : k = l.length := by omega
      rw [List.take_length, Nat.sub_self, List.replicate_zero, List.append_nil] at ho
      go_wp2
      go_ret
      exact ⟨_, _, fp, rfl, ho, hf, hB⟩
set_option maxRecDepth 20000 in
theorem toRule_w (x : RuleD) (v0 v1 v2 : Value) (w : World) (s0 : Sl w x.Pats v0) (s1 : Sl w x.Conds v1) (s2 : Sl w x.Acts v2) (hs : sznRule x ≤ 1048576) :
    Calls Tryz.prog 247 #[.agg #[.string x.Name, .int .i64 x.Sal, v0, v1, v2]] w (ToRule x w) := by
  obtain ⟨a0, c0, rfl, hl0, -⟩ := s0.open
  obtain ⟨a1, c1, rfl, hl1, -⟩ := s1.open
  obtain ⟨a2, c2, rfl, hl2, -⟩ := s2.open
  have hsz : sznRule x = x.Name.size + sznSPat x.Pats + sznSCond x.Conds + sznSAct x.Acts := rfl
  have g1 : sznSPat x.Pats ≤ 1048576 := by omega
  have g2 : sznSCond x.Conds ≤ 1048576 := by omega
  have g3 : sznSAct x.Acts ≤ 1048576 := by omega
  clear hsz hs
  go_enter Tryz.func247, Tryz.ntmps247
  go_wp2_with fail
  refine (toSPat_w x.Pats _ _ (s0.to (by simp (maxDischargeDepth := 60))) g1).mono ?_
  rintro e w1 ⟨A0, C0, f0, rfl, o0, hf1, hb1⟩
  have B1 := via (w0 := w) (by simp (maxDischargeDepth := 60)) hb1
  have z1 : w.heap.size + 3 ≤ w1.heap.size := by have := hb1.size; simp at this; omega
  have X1 : Bx w1 w.heap.size [.string x.Name, .int .i64 x.Sal, .slice a0 x.Pats.length c0, .slice a1 x.Conds.length c1, .slice a2 x.Acts.length c2] := Bx.via (by simp (maxDischargeDepth := 60)) hb1
  have R1 : Bx w1 (w.heap.size + 1) [.string ⟨#[]⟩, .int .i64 0, .slice none 0 0, .slice none 0 0, .slice none 0 0] := Bx.via (by simp (maxDischargeDepth := 60)) hb1
  have O1 : Bx w1 (w.heap.size + 1 + 1) [.string x.Name, .int .i64 x.Sal, .slice none 0 0, .slice none 0 0, .slice none 0 0] := Bx.via (by simp (maxDischargeDepth := 60)) hb1
  have r0 : Rng (w.heap.size + 3) w1.heap.size f0 := fun b hb => ⟨Nat.le_trans (by simp) (hf1.2 b (by simp [hb])), o0.lt b hb⟩
  have x0 := X1.c 0 _ rfl
  have y0 := R1.c 0 _ rfl
  have k0 := O1.c 0 _ rfl
  have x1 := X1.c 1 _ rfl
  have y1 := R1.c 1 _ rfl
  have k1 := O1.c 1 _ rfl
  have x2 := X1.c 2 _ rfl
  have y2 := R1.c 2 _ rfl
  have k2 := O1.c 2 _ rfl
  have x3 := X1.c 3 _ rfl
  have y3 := R1.c 3 _ rfl
  have k3 := O1.c 3 _ rfl
  have x4 := X1.c 4 _ rfl
  have y4 := R1.c 4 _ rfl
  have k4 := O1.c 4 _ rfl
  have zx := X1.z
  have zr := R1.z
  have zo := O1.z
  go_wp2_with fail
  refine (toSCond_w x.Conds _ _ (s1.to (by simp (maxDischargeDepth := 60) [bl_le, B1])) g2).mono ?_
  rintro e w2 ⟨A1, C1, f1, rfl, o1, hf2, hb2⟩
  have B2 := via (w0 := w) (by simp (maxDischargeDepth := 60) [bl_le, B1]) hb2
  have z2 : w.heap.size + 3 ≤ w2.heap.size := by have := hb2.size; simp at this; omega
  have X2 : Bx w2 w.heap.size [.string x.Name, .int .i64 x.Sal, .slice a0 x.Pats.length c0, .slice a1 x.Conds.length c1, .slice a2 x.Acts.length c2] := Bx.via (by simp (maxDischargeDepth := 60) [ne2, X1]) hb2
  have R2 : Bx w2 (w.heap.size + 1) [.string ⟨#[]⟩, .int .i64 0, .slice none 0 0, .slice none 0 0, .slice none 0 0] := Bx.via (by simp (maxDischargeDepth := 60) [R1]) hb2
  have O2 : Bx w2 (w.heap.size + 1 + 1) [.string x.Name, .int .i64 x.Sal, .slice A0 x.Pats.length C0, .slice none 0 0, .slice none 0 0] := Bx.via (O1.set 2 (.slice A0 x.Pats.length C0)) hb2
  have r1 : Rng (w.heap.size + 3) w2.heap.size f1 := fun b hb => ⟨Nat.le_trans (by simpa using z1) (hf2.2 b (by simp [hb])), o1.lt b hb⟩
  clear k0 x0 y0 k1 x1 y1 k2 x2 y2 k3 x3 y3 k4 x4 y4 zx zr zo
  have x0 := X2.c 0 _ rfl
  have y0 := R2.c 0 _ rfl
  have k0 := O2.c 0 _ rfl
  have x1 := X2.c 1 _ rfl
  have y1 := R2.c 1 _ rfl
  have k1 := O2.c 1 _ rfl
  have x2 := X2.c 2 _ rfl
  have y2 := R2.c 2 _ rfl
  have k2 := O2.c 2 _ rfl
  have x3 := X2.c 3 _ rfl
  have y3 := R2.c 3 _ rfl
  have k3 := O2.c 3 _ rfl
  have x4 := X2.c 4 _ rfl
  have y4 := R2.c 4 _ rfl
  have k4 := O2.c 4 _ rfl
  have zx := X2.z
  have zr := R2.z
  have zo := O2.z
  go_wp2_with fail
  refine (toSAct_w x.Acts _ _ (s2.to (by simp (maxDischargeDepth := 60) [bl_le, B2])) g3).mono ?_
  rintro e w3 ⟨A2, C2, f2, rfl, o2, hf3, hb3⟩
  have B3 := via (w0 := w) (by simp (maxDischargeDepth := 60) [bl_le, B2]) hb3
  have z3 : w.heap.size + 3 ≤ w3.heap.size := by have := hb3.size; simp at this; omega
  have X3 : Bx w3 w.heap.size [.string x.Name, .int .i64 x.Sal, .slice a0 x.Pats.length c0, .slice a1 x.Conds.length c1, .slice a2 x.Acts.length c2] := Bx.via (by simp (maxDischargeDepth := 60) [ne2, X2]) hb3
  have R3 : Bx w3 (w.heap.size + 1) [.string ⟨#[]⟩, .int .i64 0, .slice none 0 0, .slice none 0 0, .slice none 0 0] := Bx.via (by simp (maxDischargeDepth := 60) [R2]) hb3
  have O3 : Bx w3 (w.heap.size + 1 + 1) [.string x.Name, .int .i64 x.Sal, .slice A0 x.Pats.length C0, .slice A1 x.Conds.length C1, .slice none 0 0] := Bx.via (O2.set 3 (.slice A1 x.Conds.length C1)) hb3
  have r2 : Rng (w.heap.size + 3) w3.heap.size f2 := fun b hb => ⟨Nat.le_trans (by simpa using z2) (hf3.2 b (by simp [hb])), o2.lt b hb⟩
  clear k0 x0 y0 k1 x1 y1 k2 x2 y2 k3 x3 y3 k4 x4 y4 zx zr zo
  have x0 := X3.c 0 _ rfl
  have y0 := R3.c 0 _ rfl
  have k0 := O3.c 0 _ rfl
  have x1 := X3.c 1 _ rfl
  have y1 := R3.c 1 _ rfl
  have k1 := O3.c 1 _ rfl
  have x2 := X3.c 2 _ rfl
  have y2 := R3.c 2 _ rfl
  have k2 := O3.c 2 _ rfl
  have x3 := X3.c 3 _ rfl
  have y3 := R3.c 3 _ rfl
  have k3 := O3.c 3 _ rfl
  have x4 := X3.c 4 _ rfl
  have y4 := R3.c 4 _ rfl
  have k4 := O3.c 4 _ rfl
  have zx := X3.z
  have zr := R3.z
  have zo := O3.z
  go_wp2
  have H3 : Fr w2.heap.size f2 := hf3.mono (by simp)
  have H2 : Fr w1.heap.size (f1 ++ f2) := by simpa using fr_app (C := w2.heap.size) (hf2.mono (by simp)) (fun b hb => by  exact o1.lt b hb) (H3.mono (by omega)) (by have := hb2.size; simp at this; omega)
  have H1 : Fr w.heap.size (f0 ++ (f1 ++ f2)) := by simpa using fr_app (C := w1.heap.size) (hf1.mono (by simp; omega)) (fun b hb => by  exact o0.lt b hb) (H2.mono (by omega)) (by have := hb1.size; simp at this; omega)
  have hF : Fr w.heap.size (f0 ++ (f1 ++ f2)) := H1
  refine ret_mk (.agg #[.string x.Name, .int .i64 x.Sal, .slice A0 x.Pats.length C0, .slice A1 x.Conds.length C1, .slice A2 x.Acts.length C2]) (by simp [results, Tryz.results247, go_sem, *]) rfl ⟨A0, A1, A2, C0, C1, C2, f0, f1, f2, rfl, ((((((((((o0.out r0 (by simp) _).below hb2).out r0 (by simp) _).below hb3).out r0 (by simp) _).out r0 (by simp) _).out r0 (by simp) _).out r0 (by simp) _).out r0 (by simp) _).out r0 (by simp) _), ((((((((o1.out r1 (by simp) _).below hb3).out r1 (by simp) _).out r1 (by simp) _).out r1 (by simp) _).out r1 (by simp) _).out r1 (by simp) _).out r1 (by simp) _), ((((((o2.out r2 (by simp) _).out r2 (by simp) _).out r2 (by simp) _).out r2 (by simp) _).out r2 (by simp) _).out r2 (by simp) _), hF, (by simp (maxDischargeDepth := 60) [bl_le, B3])⟩
set_option maxRecDepth 20000 in
theorem toSRule_w (l : List RuleD) (v : Value) (w : World) (h : Sl w l v) (hs : sznSRule l ≤ 1048576) :
    Calls Tryz.prog 165 #[v] w (RetS l w) := by
  obtain ⟨a, c, rfl, hl, -⟩ := h.open
  have hsz : Hid (sznSRule l = l.length + (l.map sznRule).sum) := rfl
  have hlen : l.length ≤ 1048576 := by have := hsz.out; omega
  have hmk : ∀ w, (Instr.makeSlice 58 (.int .i64 l.length) (.int .i64 l.length)).run Tryz.prog w = .ok (.slice (some ⟨w.heap.size, 0, none⟩) l.length l.length) (w.alloc (.cells (madeCells #[.string ⟨#[]⟩, .int .i64 0, .slice none 0 0, .slice none 0 0, .slice none 0 0] (l.length * 5)) 174)) :=
    make_row 58 174 (.agg #[.string ⟨#[]⟩, .int .i64 0, .slice none 0 0, .slice none 0 0, .slice none 0 0]) 5 96 Tryz.underlying58 (by kernel_rfl) rfl l.length l.length rfl (by omega) (by decide)
  have hZ : OwnS (w.alloc (.cells (madeCells #[.string ⟨#[]⟩, .int .i64 0, .slice none 0 0, .slice none 0 0, .slice none 0 0] (l.length * 5)) 174)) (List.replicate l.length zeroRule) (.slice (some ⟨w.heap.size, 0, none⟩) l.length l.length) [w.heap.size] :=
    OwnS.zeroed w #[.string ⟨#[]⟩, .int .i64 0, .slice none 0 0, .slice none 0 0, .slice none 0 0] 174 zeroRule l.length (by simp [maxLen]; omega) rfl (fun w => own_Rule (w := w) okzeroRule (OwnS.nil w) (OwnS.nil w) (OwnS.nil w))
  go_enter Tryz.func165, Tryz.ntmps165
  go_wp2
  go_loopw [4] (fun i wr => ∃ (k : Nat) (fp : List Nat), i = .int .i64 k ∧ k ≤ l.length ∧ OwnS wr (l.take k ++ List.replicate (l.length - k) zeroRule) (.slice (some ⟨w.heap.size, 0, none⟩) l.length l.length) fp ∧ Fr w.heap.size fp ∧ Below w.heap.size w wr) (fun i _ => l.length - (intOf i).toNat)
  case atStart => exact ⟨0, [w.heap.size], rfl, by omega, by simpa using hZ, by simp [Fr], by simp⟩
  case round =>
    clear hmk hZ
    obtain ⟨k, fp, rfl, hk, ho, hf, hB⟩ := hrel
    by_cases hlt : k < l.length
    · obtain ⟨b, o, v0, v1, v2, rfl, hbl, hok, hc, s0, s1, s2⟩ := (h.to hB).atRule k hlt
      have hle : sznRule l[k] ≤ 1048576 := by have h1 := sum_step sznRule l k hlt; have h2 := sum_le sznRule l (k + 1); have := hsz.out; omega
      have hput := Lib.hid (set_fill l zeroRule k hlt)
      generalize l[k] = x at *
      obtain ⟨c0, c1, c2, c3, c4⟩ := hc
      obtain ⟨a0, q0, rfl, hl0, -⟩ := s0.open; obtain ⟨a1, q1, rfl, hl1, -⟩ := s1.open; obtain ⟨a2, q2, rfl, hl2, -⟩ := s2.open
      go_wp2_with fail
      refine (toRule_w x _ _ _ _ s0 s1 s2 hle).mono ?_
      rintro e w1 ⟨A0, A1, A2, C0, C1, C2, f0, f1, f2, rfl, o0, o1, o2, hf1, hb1⟩
      have hx := own_Rule hok o0 o1 o2
      have ho1 := ho.below hb1
      have hd : ∀ b ∈ (f0 ++ (f1 ++ f2)), b ∉ fp := fun b hb hb2 => by have := ho.lt b hb2; have := hf1.2 b hb; omega
      obtain ⟨fp', p1, p2, p3⟩ := ho1.put hf.1 k (by simp; omega) hx hd hf1.1
      obtain ⟨-, hg, hz, hsp⟩ := ho1.spare
      obtain ⟨z0, e0⟩ := hsp k hlt 0 (by decide); replace e0 : w1.cell? ⟨w.heap.size, k * 5, none⟩ = some z0 := e0; obtain ⟨z1, e1⟩ := hsp k hlt 1 (by decide); replace e1 : w1.cell? ⟨w.heap.size, k * 5 + 1, none⟩ = some z1 := e1; obtain ⟨z2, e2⟩ := hsp k hlt 2 (by decide); replace e2 : w1.cell? ⟨w.heap.size, k * 5 + 2, none⟩ = some z2 := e2; obtain ⟨z3, e3⟩ := hsp k hlt 3 (by decide); replace e3 : w1.cell? ⟨w.heap.size, k * 5 + 3, none⟩ = some z3 := e3; obtain ⟨z4, e4⟩ := hsp k hlt 4 (by decide); replace e4 : w1.cell? ⟨w.heap.size, k * 5 + 4, none⟩ = some z4 := e4
      rw [hput.out] at p1
      clear hsp hx
      go_wp2
      go_roundw
      case rel => exact ⟨k + 1, fp', by go_num, by omega, p1, ⟨p2, fun b hb => by rcases p3 b hb with h | h; exact hf.2 b h; exact Nat.le_trans hB.size (hf1.2 b h)⟩, below_setCells (via hB hb1) (Nat.le_refl _) _ [.string x.Name, .int .i64 x.Sal, .slice A0 x.Pats.length C0, .slice A1 x.Conds.length C1, .slice A2 x.Acts.length C2]⟩
      case measure => simp [intOf]; omega
    · obtain rfl : k = l.length := by omega
      rw [List.take_length, Nat.sub_self, List.replicate_zero, List.append_nil] at ho
      go_wp2
      go_ret
      exact ⟨_, _, fp, rfl, ho, hf, hB⟩
set_option maxRecDepth 20000 in
theorem toDef_w (x : DefD) (v0 : Value) (w : World) (s0 : Sl w x.Rules v0) (hs : sznDef x ≤ 1048576) :
    Calls Tryz.prog 93 #[.agg #[.string x.Name, v0]] w (ToDef x w) := by
  obtain ⟨a0, c0, rfl, hl0, -⟩ := s0.open
  have hsz : sznDef x = x.Name.size + sznSRule x.Rules := rfl
  have g1 : sznSRule x.Rules ≤ 1048576 := by omega
  clear hsz hs
  go_enter Tryz.func93, Tryz.ntmps93
  go_wp2_with fail
  refine (toSRule_w x.Rules _ _ (s0.to (by simp (maxDischargeDepth := 60))) g1).mono ?_
  rintro e w1 ⟨A0, C0, f0, rfl, o0, hf1, hb1⟩
  have B1 := via (w0 := w) (by simp (maxDischargeDepth := 60)) hb1
  have z1 : w.heap.size + 3 ≤ w1.heap.size := by have := hb1.size; simp at this; omega
  have X1 : Bx w1 w.heap.size [.string x.Name, .slice a0 x.Rules.length c0] := Bx.via (by simp (maxDischargeDepth := 60)) hb1
  have R1 : Bx w1 (w.heap.size + 1) [.string ⟨#[]⟩, .slice none 0 0] := Bx.via (by simp (maxDischargeDepth := 60)) hb1
  have O1 : Bx w1 (w.heap.size + 1 + 1) [.string x.Name, .slice none 0 0] := Bx.via (by simp (maxDischargeDepth := 60)) hb1
  have r0 : Rng (w.heap.size + 3) w1.heap.size f0 := fun b hb => ⟨Nat.le_trans (by simp) (hf1.2 b (by simp [hb])), o0.lt b hb⟩
  have x0 := X1.c 0 _ rfl
  have y0 := R1.c 0 _ rfl
  have k0 := O1.c 0 _ rfl
  have x1 := X1.c 1 _ rfl
  have y1 := R1.c 1 _ rfl
  have k1 := O1.c 1 _ rfl
  have zx := X1.z
  have zr := R1.z
  have zo := O1.z
  go_wp2
  have H1 : Fr w.heap.size f0 := hf1.mono (by simp; omega)
  have hF : Fr w.heap.size f0 := H1
  refine ret_mk (.agg #[.string x.Name, .slice A0 x.Rules.length C0]) (by simp [results, Tryz.results93, go_sem, *]) rfl ⟨A0, C0, f0, rfl, (((o0.out r0 (by simp) _).out r0 (by simp) _).out r0 (by simp) _), hF, (by simp (maxDischargeDepth := 60) [bl_le, B1])⟩
set_option maxRecDepth 20000 in
theorem toSDef_w (l : List DefD) (v : Value) (w : World) (h : Sl w l v) (hs : sznSDef l ≤ 1048576) :
    Calls Tryz.prog 46 #[v] w (RetS l w) := by
  obtain ⟨a, c, rfl, hl, -⟩ := h.open
  have hsz : Hid (sznSDef l = l.length + (l.map sznDef).sum) := rfl
  have hlen : l.length ≤ 1048576 := by have := hsz.out; omega
  have hmk : ∀ w, (Instr.makeSlice 28 (.int .i64 l.length) (.int .i64 l.length)).run Tryz.prog w = .ok (.slice (some ⟨w.heap.size, 0, none⟩) l.length l.length) (w.alloc (.cells (madeCells #[.string ⟨#[]⟩, .slice none 0 0] (l.length * 2)) 60)) :=
    make_row 28 60 (.agg #[.string ⟨#[]⟩, .slice none 0 0]) 2 40 Tryz.underlying28 (by kernel_rfl) rfl l.length l.length rfl (by omega) (by decide)
  have hZ : OwnS (w.alloc (.cells (madeCells #[.string ⟨#[]⟩, .slice none 0 0] (l.length * 2)) 60)) (List.replicate l.length zeroDef) (.slice (some ⟨w.heap.size, 0, none⟩) l.length l.length) [w.heap.size] :=
    OwnS.zeroed w #[.string ⟨#[]⟩, .slice none 0 0] 60 zeroDef l.length (by simp [maxLen]; omega) rfl (fun w => own_Def (w := w) okzeroDef (OwnS.nil w))
  go_enter Tryz.func46, Tryz.ntmps46
  go_wp2
  go_loopw [4] (fun i wr => ∃ (k : Nat) (fp : List Nat), i = .int .i64 k ∧ k ≤ l.length ∧ OwnS wr (l.take k ++ List.replicate (l.length - k) zeroDef) (.slice (some ⟨w.heap.size, 0, none⟩) l.length l.length) fp ∧ Fr w.heap.size fp ∧ Below w.heap.size w wr) (fun i _ => l.length - (intOf i).toNat)
  case atStart => exact ⟨0, [w.heap.size], rfl, by omega, by simpa using hZ, by simp [Fr], by simp⟩
  case round =>
    clear hmk hZ
    obtain ⟨k, fp, rfl, hk, ho, hf, hB⟩ := hrel
    by_cases hlt : k < l.length
    · obtain ⟨b, o, v0, rfl, hbl, hok, hc, s0⟩ := (h.to hB).atDef k hlt
      have hle : sznDef l[k] ≤ 1048576 := by have h1 := sum_step sznDef l k hlt; have h2 := sum_le sznDef l (k + 1); have := hsz.out; omega
      have hput := Lib.hid (set_fill l zeroDef k hlt)
      generalize l[k] = x at *
      obtain ⟨c0, c1⟩ := hc
      obtain ⟨a0, q0, rfl, hl0, -⟩ := s0.open
      go_wp2_with fail
      refine (toDef_w x _ _ s0 hle).mono ?_
      rintro e w1 ⟨A0, C0, f0, rfl, o0, hf1, hb1⟩
      have hx := own_Def hok o0
      have ho1 := ho.below hb1
      have hd : ∀ b ∈ f0, b ∉ fp := fun b hb hb2 => by have := ho.lt b hb2; have := hf1.2 b hb; omega
      obtain ⟨fp', p1, p2, p3⟩ := ho1.put hf.1 k (by simp; omega) hx hd hf1.1
      obtain ⟨-, hg, hz, hsp⟩ := ho1.spare
      obtain ⟨z0, e0⟩ := hsp k hlt 0 (by decide); replace e0 : w1.cell? ⟨w.heap.size, k * 2, none⟩ = some z0 := e0; obtain ⟨z1, e1⟩ := hsp k hlt 1 (by decide); replace e1 : w1.cell? ⟨w.heap.size, k * 2 + 1, none⟩ = some z1 := e1
      rw [hput.out] at p1
      clear hsp hx
      go_wp2
      go_roundw
      case rel => exact ⟨k + 1, fp', by go_num, by omega, p1, ⟨p2, fun b hb => by rcases p3 b hb with h | h; exact hf.2 b h; exact Nat.le_trans hB.size (hf1.2 b h)⟩, below_setCells (via hB hb1) (Nat.le_refl _) _ [.string x.Name, .slice A0 x.Rules.length C0]⟩
      case measure => simp [intOf]; omega
    · obtain rfl : k = l.length := by omega
      rw [List.take_length, Nat.sub_self, List.replicate_zero, List.append_nil] at ho
      go_wp2
      go_ret
      exact ⟨_, _, fp, rfl, ho, hf, hB⟩
set_option maxRecDepth 20000 in
theorem toMatch_w (x : MatchD) (v0 v1 : Value) (w : World) (s0 : Sl w x.Ids v0) (s1 : Sl w x.Binds v1) (hs : sznMatch x ≤ 1048576) :
    Calls Tryz.prog 343 #[.agg #[.int .i64 x.Rule, v0, v1]] w (ToMatch x w) := by
  obtain ⟨a0, c0, rfl, hl0, -⟩ := s0.open
  obtain ⟨a1, c1, rfl, hl1, -⟩ := s1.open
  have hsz : sznMatch x = sznSInt x.Ids + sznSBind x.Binds := rfl
  have g1 : sznSInt x.Ids ≤ 1048576 := by omega
  have g2 : sznSBind x.Binds ≤ 1048576 := by omega
  clear hsz hs
  go_enter Tryz.func343, Tryz.ntmps343
  go_wp2_with fail
  refine (toSInt_w x.Ids _ _ (s0.to (by simp (maxDischargeDepth := 60))) g1).mono ?_
  rintro e w1 ⟨A0, C0, f0, rfl, o0, hf1, hb1⟩
  have B1 := via (w0 := w) (by simp (maxDischargeDepth := 60)) hb1
  have z1 : w.heap.size + 3 ≤ w1.heap.size := by have := hb1.size; simp at this; omega
  have X1 : Bx w1 w.heap.size [.int .i64 x.Rule, .slice a0 x.Ids.length c0, .slice a1 x.Binds.length c1] := Bx.via (by simp (maxDischargeDepth := 60)) hb1
  have R1 : Bx w1 (w.heap.size + 1) [.int .i64 0, .slice none 0 0, .slice none 0 0] := Bx.via (by simp (maxDischargeDepth := 60)) hb1
  have O1 : Bx w1 (w.heap.size + 1 + 1) [.int .i64 x.Rule, .slice none 0 0, .slice none 0 0] := Bx.via (by simp (maxDischargeDepth := 60)) hb1
  have r0 : Rng (w.heap.size + 3) w1.heap.size f0 := fun b hb => ⟨Nat.le_trans (by simp) (hf1.2 b (by simp [hb])), o0.lt b hb⟩
  have x0 := X1.c 0 _ rfl
  have y0 := R1.c 0 _ rfl
  have k0 := O1.c 0 _ rfl
  have x1 := X1.c 1 _ rfl
  have y1 := R1.c 1 _ rfl
  have k1 := O1.c 1 _ rfl
  have x2 := X1.c 2 _ rfl
  have y2 := R1.c 2 _ rfl
  have k2 := O1.c 2 _ rfl
  have zx := X1.z
  have zr := R1.z
  have zo := O1.z
  go_wp2_with fail
  refine (toSBind_w x.Binds _ _ (s1.to (by simp (maxDischargeDepth := 60) [bl_le, B1])) g2).mono ?_
  rintro e w2 ⟨A1, C1, f1, rfl, o1, hf2, hb2⟩
  have B2 := via (w0 := w) (by simp (maxDischargeDepth := 60) [bl_le, B1]) hb2
  have z2 : w.heap.size + 3 ≤ w2.heap.size := by have := hb2.size; simp at this; omega
  have X2 : Bx w2 w.heap.size [.int .i64 x.Rule, .slice a0 x.Ids.length c0, .slice a1 x.Binds.length c1] := Bx.via (by simp (maxDischargeDepth := 60) [ne2, X1]) hb2
  have R2 : Bx w2 (w.heap.size + 1) [.int .i64 0, .slice none 0 0, .slice none 0 0] := Bx.via (by simp (maxDischargeDepth := 60) [R1]) hb2
  have O2 : Bx w2 (w.heap.size + 1 + 1) [.int .i64 x.Rule, .slice A0 x.Ids.length C0, .slice none 0 0] := Bx.via (O1.set 1 (.slice A0 x.Ids.length C0)) hb2
  have r1 : Rng (w.heap.size + 3) w2.heap.size f1 := fun b hb => ⟨Nat.le_trans (by simpa using z1) (hf2.2 b (by simp [hb])), o1.lt b hb⟩
  clear k0 x0 y0 k1 x1 y1 k2 x2 y2 zx zr zo
  have x0 := X2.c 0 _ rfl
  have y0 := R2.c 0 _ rfl
  have k0 := O2.c 0 _ rfl
  have x1 := X2.c 1 _ rfl
  have y1 := R2.c 1 _ rfl
  have k1 := O2.c 1 _ rfl
  have x2 := X2.c 2 _ rfl
  have y2 := R2.c 2 _ rfl
  have k2 := O2.c 2 _ rfl
  have zx := X2.z
  have zr := R2.z
  have zo := O2.z
  go_wp2
  have H2 : Fr w1.heap.size f1 := hf2.mono (by simp)
  have H1 : Fr w.heap.size (f0 ++ f1) := by simpa using fr_app (C := w1.heap.size) (hf1.mono (by simp; omega)) (fun b hb => by  exact o0.lt b hb) (H2.mono (by omega)) (by have := hb1.size; simp at this; omega)
  have hF : Fr w.heap.size (f0 ++ f1) := H1
  refine ret_mk (.agg #[.int .i64 x.Rule, .slice A0 x.Ids.length C0, .slice A1 x.Binds.length C1]) (by simp [results, Tryz.results343, go_sem, *]) rfl ⟨A0, A1, C0, C1, f0, f1, rfl, ((((((o0.out r0 (by simp) _).below hb2).out r0 (by simp) _).out r0 (by simp) _).out r0 (by simp) _).out r0 (by simp) _), ((((o1.out r1 (by simp) _).out r1 (by simp) _).out r1 (by simp) _).out r1 (by simp) _), hF, (by simp (maxDischargeDepth := 60) [bl_le, B2])⟩
set_option maxRecDepth 20000 in
theorem toSMatch_w (l : List MatchD) (v : Value) (w : World) (h : Sl w l v) (hs : sznSMatch l ≤ 1048576) :
    Calls Tryz.prog 249 #[v] w (RetS l w) := by
  obtain ⟨a, c, rfl, hl, -⟩ := h.open
  have hsz : Hid (sznSMatch l = l.length + (l.map sznMatch).sum) := rfl
  have hlen : l.length ≤ 1048576 := by have := hsz.out; omega
  have hmk : ∀ w, (Instr.makeSlice 64 (.int .i64 l.length) (.int .i64 l.length)).run Tryz.prog w = .ok (.slice (some ⟨w.heap.size, 0, none⟩) l.length l.length) (w.alloc (.cells (madeCells #[.int .i64 0, .slice none 0 0, .slice none 0 0] (l.length * 3)) 75)) :=
    make_row 64 75 (.agg #[.int .i64 0, .slice none 0 0, .slice none 0 0]) 3 56 Tryz.underlying64 (by kernel_rfl) rfl l.length l.length rfl (by omega) (by decide)
  have hZ : OwnS (w.alloc (.cells (madeCells #[.int .i64 0, .slice none 0 0, .slice none 0 0] (l.length * 3)) 75)) (List.replicate l.length zeroMatch) (.slice (some ⟨w.heap.size, 0, none⟩) l.length l.length) [w.heap.size] :=
    OwnS.zeroed w #[.int .i64 0, .slice none 0 0, .slice none 0 0] 75 zeroMatch l.length (by simp [maxLen]; omega) rfl (fun w => own_Match (w := w) okzeroMatch (OwnS.nil w) (OwnS.nil w))
  go_enter Tryz.func249, Tryz.ntmps249
  go_wp2
  go_loopw [4] (fun i wr => ∃ (k : Nat) (fp : List Nat), i = .int .i64 k ∧ k ≤ l.length ∧ OwnS wr (l.take k ++ List.replicate (l.length - k) zeroMatch) (.slice (some ⟨w.heap.size, 0, none⟩) l.length l.length) fp ∧ Fr w.heap.size fp ∧ Below w.heap.size w wr) (fun i _ => l.length - (intOf i).toNat)
  case atStart => exact ⟨0, [w.heap.size], rfl, by omega, by simpa using hZ, by simp [Fr], by simp⟩
  case round =>
    clear hmk hZ
    obtain ⟨k, fp, rfl, hk, ho, hf, hB⟩ := hrel
    by_cases hlt : k < l.length
    · obtain ⟨b, o, v0, v1, rfl, hbl, hok, hc, s0, s1⟩ := (h.to hB).atMatch k hlt
      have hle : sznMatch l[k] ≤ 1048576 := by have h1 := sum_step sznMatch l k hlt; have h2 := sum_le sznMatch l (k + 1); have := hsz.out; omega
      have hput := Lib.hid (set_fill l zeroMatch k hlt)
      generalize l[k] = x at *
      obtain ⟨c0, c1, c2⟩ := hc
      obtain ⟨a0, q0, rfl, hl0, -⟩ := s0.open; obtain ⟨a1, q1, rfl, hl1, -⟩ := s1.open
      go_wp2_with fail
      refine (toMatch_w x _ _ _ s0 s1 hle).mono ?_
      rintro e w1 ⟨A0, A1, C0, C1, f0, f1, rfl, o0, o1, hf1, hb1⟩
      have hx := own_Match hok o0 o1
      have ho1 := ho.below hb1
      have hd : ∀ b ∈ (f0 ++ f1), b ∉ fp := fun b hb hb2 => by have := ho.lt b hb2; have := hf1.2 b hb; omega
      obtain ⟨fp', p1, p2, p3⟩ := ho1.put hf.1 k (by simp; omega) hx hd hf1.1
      obtain ⟨-, hg, hz, hsp⟩ := ho1.spare
      obtain ⟨z0, e0⟩ := hsp k hlt 0 (by decide); replace e0 : w1.cell? ⟨w.heap.size, k * 3, none⟩ = some z0 := e0; obtain ⟨z1, e1⟩ := hsp k hlt 1 (by decide); replace e1 : w1.cell? ⟨w.heap.size, k * 3 + 1, none⟩ = some z1 := e1; obtain ⟨z2, e2⟩ := hsp k hlt 2 (by decide); replace e2 : w1.cell? ⟨w.heap.size, k * 3 + 2, none⟩ = some z2 := e2
      rw [hput.out] at p1
      clear hsp hx
      go_wp2
      go_roundw
      case rel => exact ⟨k + 1, fp', by go_num, by omega, p1, ⟨p2, fun b hb => by rcases p3 b hb with h | h; exact hf.2 b h; exact Nat.le_trans hB.size (hf1.2 b h)⟩, below_setCells (via hB hb1) (Nat.le_refl _) _ [.int .i64 x.Rule, .slice A0 x.Ids.length C0, .slice A1 x.Binds.length C1]⟩
      case measure => simp [intOf]; omega
    · obtain rfl : k = l.length := by omega
      rw [List.take_length, Nat.sub_self, List.replicate_zero, List.append_nil] at ho
      go_wp2
      go_ret
      exact ⟨_, _, fp, rfl, ho, hf, hB⟩
set_option maxRecDepth 20000 in
theorem toTimer_w (x : TimerD) (v0 : Value) (w : World) (s0 : Sl w x.F.Fields v0) (hs : sznTimer x ≤ 1048576) :
    Calls Tryz.prog 345 #[.agg #[.int .i64 x.At, .string x.F.Kind, v0]] w (ToTimer x w) := by
  obtain ⟨a0, c0, rfl, hl0, -⟩ := s0.open
  have hsz : sznTimer x = sznFact x.F := rfl
  have g1 : sznFact x.F ≤ 1048576 := by omega
  clear hsz hs
  go_enter Tryz.func345, Tryz.ntmps345
  go_wp2_with fail
  refine (toFact_w x.F _ _ (s0.to (by simp (maxDischargeDepth := 60))) g1).mono ?_
  rintro e w1 ⟨A0, C0, f0, rfl, o0, hf1, hb1⟩
  have B1 := via (w0 := w) (by simp (maxDischargeDepth := 60)) hb1
  have z1 : w.heap.size + 3 ≤ w1.heap.size := by have := hb1.size; simp at this; omega
  have X1 : Bx w1 w.heap.size [.int .i64 x.At, .string x.F.Kind, .slice a0 x.F.Fields.length c0] := Bx.via (by simp (maxDischargeDepth := 60)) hb1
  have R1 : Bx w1 (w.heap.size + 1) [.int .i64 0, .string ⟨#[]⟩, .slice none 0 0] := Bx.via (by simp (maxDischargeDepth := 60)) hb1
  have O1 : Bx w1 (w.heap.size + 1 + 1) [.int .i64 x.At, .string ⟨#[]⟩, .slice none 0 0] := Bx.via (by simp (maxDischargeDepth := 60)) hb1
  have r0 : Rng (w.heap.size + 3) w1.heap.size f0 := fun b hb => ⟨Nat.le_trans (by simp) (hf1.2 b (by simp [hb])), o0.lt b hb⟩
  have x0 := X1.c 0 _ rfl
  have y0 := R1.c 0 _ rfl
  have k0 := O1.c 0 _ rfl
  have x1 := X1.c 1 _ rfl
  have y1 := R1.c 1 _ rfl
  have k1 := O1.c 1 _ rfl
  have x2 := X1.c 2 _ rfl
  have y2 := R1.c 2 _ rfl
  have k2 := O1.c 2 _ rfl
  have zx := X1.z
  have zr := R1.z
  have zo := O1.z
  go_wp2
  have H1 : Fr w.heap.size f0 := hf1.mono (by simp; omega)
  have hF : Fr w.heap.size f0 := H1
  refine ret_mk (.agg #[.int .i64 x.At, .string x.F.Kind, .slice A0 x.F.Fields.length C0]) (by simp [results, Tryz.results345, go_sem, *]) rfl ⟨A0, C0, f0, rfl, (((((o0.out r0 (by simp) _).out r0 (by simp) _).out r0 (by simp) _).out r0 (by simp) _).out r0 (by simp) _), hF, (by simp (maxDischargeDepth := 60) [bl_le, B1])⟩
set_option maxRecDepth 20000 in
theorem toSTimer_w (l : List TimerD) (v : Value) (w : World) (h : Sl w l v) (hs : sznSTimer l ≤ 1048576) :
    Calls Tryz.prog 251 #[v] w (RetS l w) := by
  obtain ⟨a, c, rfl, hl, -⟩ := h.open
  have hsz : Hid (sznSTimer l = l.length + (l.map sznTimer).sum) := rfl
  have hlen : l.length ≤ 1048576 := by have := hsz.out; omega
  have hmk : ∀ w, (Instr.makeSlice 66 (.int .i64 l.length) (.int .i64 l.length)).run Tryz.prog w = .ok (.slice (some ⟨w.heap.size, 0, none⟩) l.length l.length) (w.alloc (.cells (madeCells #[.int .i64 0, .string ⟨#[]⟩, .slice none 0 0] (l.length * 3)) 197)) :=
    make_row 66 197 (.agg #[.int .i64 0, .string ⟨#[]⟩, .slice none 0 0]) 3 48 Tryz.underlying66 (by kernel_rfl) rfl l.length l.length rfl (by omega) (by decide)
  have hZ : OwnS (w.alloc (.cells (madeCells #[.int .i64 0, .string ⟨#[]⟩, .slice none 0 0] (l.length * 3)) 197)) (List.replicate l.length zeroTimer) (.slice (some ⟨w.heap.size, 0, none⟩) l.length l.length) [w.heap.size] :=
    OwnS.zeroed w #[.int .i64 0, .string ⟨#[]⟩, .slice none 0 0] 197 zeroTimer l.length (by simp [maxLen]; omega) rfl (fun w => own_Timer (w := w) okzeroTimer (OwnS.nil w))
  go_enter Tryz.func251, Tryz.ntmps251
  go_wp2
  go_loopw [4] (fun i wr => ∃ (k : Nat) (fp : List Nat), i = .int .i64 k ∧ k ≤ l.length ∧ OwnS wr (l.take k ++ List.replicate (l.length - k) zeroTimer) (.slice (some ⟨w.heap.size, 0, none⟩) l.length l.length) fp ∧ Fr w.heap.size fp ∧ Below w.heap.size w wr) (fun i _ => l.length - (intOf i).toNat)
  case atStart => exact ⟨0, [w.heap.size], rfl, by omega, by simpa using hZ, by simp [Fr], by simp⟩
  case round =>
    clear hmk hZ
    obtain ⟨k, fp, rfl, hk, ho, hf, hB⟩ := hrel
    by_cases hlt : k < l.length
    · obtain ⟨b, o, v0, rfl, hbl, hok, hc, s0⟩ := (h.to hB).atTimer k hlt
      have hle : sznTimer l[k] ≤ 1048576 := by have h1 := sum_step sznTimer l k hlt; have h2 := sum_le sznTimer l (k + 1); have := hsz.out; omega
      have hput := Lib.hid (set_fill l zeroTimer k hlt)
      generalize l[k] = x at *
      obtain ⟨c0, c1, c2⟩ := hc
      obtain ⟨a0, q0, rfl, hl0, -⟩ := s0.open
      go_wp2_with fail
      refine (toTimer_w x _ _ s0 hle).mono ?_
      rintro e w1 ⟨A0, C0, f0, rfl, o0, hf1, hb1⟩
      have hx := own_Timer hok o0
      have ho1 := ho.below hb1
      have hd : ∀ b ∈ f0, b ∉ fp := fun b hb hb2 => by have := ho.lt b hb2; have := hf1.2 b hb; omega
      obtain ⟨fp', p1, p2, p3⟩ := ho1.put hf.1 k (by simp; omega) hx hd hf1.1
      obtain ⟨-, hg, hz, hsp⟩ := ho1.spare
      obtain ⟨z0, e0⟩ := hsp k hlt 0 (by decide); replace e0 : w1.cell? ⟨w.heap.size, k * 3, none⟩ = some z0 := e0; obtain ⟨z1, e1⟩ := hsp k hlt 1 (by decide); replace e1 : w1.cell? ⟨w.heap.size, k * 3 + 1, none⟩ = some z1 := e1; obtain ⟨z2, e2⟩ := hsp k hlt 2 (by decide); replace e2 : w1.cell? ⟨w.heap.size, k * 3 + 2, none⟩ = some z2 := e2
      rw [hput.out] at p1
      clear hsp hx
      go_wp2
      go_roundw
      case rel => exact ⟨k + 1, fp', by go_num, by omega, p1, ⟨p2, fun b hb => by rcases p3 b hb with h | h; exact hf.2 b h; exact Nat.le_trans hB.size (hf1.2 b h)⟩, below_setCells (via hB hb1) (Nat.le_refl _) _ [.int .i64 x.At, .string x.F.Kind, .slice A0 x.F.Fields.length C0]⟩
      case measure => simp [intOf]; omega
    · obtain rfl : k = l.length := by omega
      rw [List.take_length, Nat.sub_self, List.replicate_zero, List.append_nil] at ho
      go_wp2
      go_ret
      exact ⟨_, _, fp, rfl, ho, hf, hB⟩
set_option maxRecDepth 20000 in
theorem toTask_w (x : TaskD) (v0 : Value) (w : World) (s0 : Sl w x.F.Fields v0) (hs : sznTask x ≤ 1048576) :
    Calls Tryz.prog 344 #[.agg #[.string x.F.Kind, v0, .string x.Undo, .int .i64 x.State, .int .i64 x.Tries, .int .i64 x.Due, .int .i64 x.V.K, .int .i64 x.V.N, .string x.V.S]] w (ToTask x w) := by
  obtain ⟨a0, c0, rfl, hl0, -⟩ := s0.open
  have hsz : sznTask x = sznFact x.F + x.Undo.size + sznVal x.V := rfl
  have g1 : sznFact x.F ≤ 1048576 := by omega
  clear hsz hs
  go_enter Tryz.func344, Tryz.ntmps344
  go_wp2_with fail
  refine (toFact_w x.F _ _ (s0.to (by simp (maxDischargeDepth := 60))) g1).mono ?_
  rintro e w1 ⟨A0, C0, f0, rfl, o0, hf1, hb1⟩
  have B1 := via (w0 := w) (by simp (maxDischargeDepth := 60)) hb1
  have z1 : w.heap.size + 3 ≤ w1.heap.size := by have := hb1.size; simp at this; omega
  have X1 : Bx w1 w.heap.size [.string x.F.Kind, .slice a0 x.F.Fields.length c0, .string x.Undo, .int .i64 x.State, .int .i64 x.Tries, .int .i64 x.Due, .int .i64 x.V.K, .int .i64 x.V.N, .string x.V.S] := Bx.via (by simp (maxDischargeDepth := 60)) hb1
  have R1 : Bx w1 (w.heap.size + 1) [.string ⟨#[]⟩, .slice none 0 0, .string ⟨#[]⟩, .int .i64 0, .int .i64 0, .int .i64 0, .int .i64 0, .int .i64 0, .string ⟨#[]⟩] := Bx.via (by simp (maxDischargeDepth := 60)) hb1
  have O1 : Bx w1 (w.heap.size + 1 + 1) [.string ⟨#[]⟩, .slice none 0 0, .string ⟨#[]⟩, .int .i64 0, .int .i64 0, .int .i64 0, .int .i64 0, .int .i64 0, .string ⟨#[]⟩] := Bx.via (by simp (maxDischargeDepth := 60)) hb1
  have r0 : Rng (w.heap.size + 3) w1.heap.size f0 := fun b hb => ⟨Nat.le_trans (by simp) (hf1.2 b (by simp [hb])), o0.lt b hb⟩
  have x0 := X1.c 0 _ rfl
  have y0 := R1.c 0 _ rfl
  have k0 := O1.c 0 _ rfl
  have x1 := X1.c 1 _ rfl
  have y1 := R1.c 1 _ rfl
  have k1 := O1.c 1 _ rfl
  have x2 := X1.c 2 _ rfl
  have y2 := R1.c 2 _ rfl
  have k2 := O1.c 2 _ rfl
  have x3 := X1.c 3 _ rfl
  have y3 := R1.c 3 _ rfl
  have k3 := O1.c 3 _ rfl
  have x4 := X1.c 4 _ rfl
  have y4 := R1.c 4 _ rfl
  have k4 := O1.c 4 _ rfl
  have x5 := X1.c 5 _ rfl
  have y5 := R1.c 5 _ rfl
  have k5 := O1.c 5 _ rfl
  have x6 := X1.c 6 _ rfl
  have y6 := R1.c 6 _ rfl
  have k6 := O1.c 6 _ rfl
  have x7 := X1.c 7 _ rfl
  have y7 := R1.c 7 _ rfl
  have k7 := O1.c 7 _ rfl
  have x8 := X1.c 8 _ rfl
  have y8 := R1.c 8 _ rfl
  have k8 := O1.c 8 _ rfl
  have zx := X1.z
  have zr := R1.z
  have zo := O1.z
  go_wp2_with fail
  refine (toVal_w x.V  _ ).mono ?_
  rintro e w2 ⟨rfl, hb2⟩
  have B2 := via (w0 := w) (by simp (maxDischargeDepth := 60) [bl_le, B1]) hb2
  have z2 : w.heap.size + 3 ≤ w2.heap.size := by have := hb2.size; simp at this; omega
  have X2 : Bx w2 w.heap.size [.string x.F.Kind, .slice a0 x.F.Fields.length c0, .string x.Undo, .int .i64 x.State, .int .i64 x.Tries, .int .i64 x.Due, .int .i64 x.V.K, .int .i64 x.V.N, .string x.V.S] := Bx.via (by simp (maxDischargeDepth := 60) [ne2, X1]) hb2
  have R2 : Bx w2 (w.heap.size + 1) [.string ⟨#[]⟩, .slice none 0 0, .string ⟨#[]⟩, .int .i64 0, .int .i64 0, .int .i64 0, .int .i64 0, .int .i64 0, .string ⟨#[]⟩] := Bx.via (by simp (maxDischargeDepth := 60) [R1]) hb2
  have O2 : Bx w2 (w.heap.size + 1 + 1) [.string x.F.Kind, .slice A0 x.F.Fields.length C0, .string x.Undo, .int .i64 x.State, .int .i64 x.Tries, .int .i64 x.Due, .int .i64 0, .int .i64 0, .string ⟨#[]⟩] := Bx.via ((((((O1.set 0 (.string x.F.Kind)).set 1 (.slice A0 x.F.Fields.length C0)).set 2 (.string x.Undo)).set 3 (.int .i64 x.State)).set 4 (.int .i64 x.Tries)).set 5 (.int .i64 x.Due)) hb2
  clear k0 x0 y0 k1 x1 y1 k2 x2 y2 k3 x3 y3 k4 x4 y4 k5 x5 y5 k6 x6 y6 k7 x7 y7 k8 x8 y8 zx zr zo
  have x0 := X2.c 0 _ rfl
  have y0 := R2.c 0 _ rfl
  have k0 := O2.c 0 _ rfl
  have x1 := X2.c 1 _ rfl
  have y1 := R2.c 1 _ rfl
  have k1 := O2.c 1 _ rfl
  have x2 := X2.c 2 _ rfl
  have y2 := R2.c 2 _ rfl
  have k2 := O2.c 2 _ rfl
  have x3 := X2.c 3 _ rfl
  have y3 := R2.c 3 _ rfl
  have k3 := O2.c 3 _ rfl
  have x4 := X2.c 4 _ rfl
  have y4 := R2.c 4 _ rfl
  have k4 := O2.c 4 _ rfl
  have x5 := X2.c 5 _ rfl
  have y5 := R2.c 5 _ rfl
  have k5 := O2.c 5 _ rfl
  have x6 := X2.c 6 _ rfl
  have y6 := R2.c 6 _ rfl
  have k6 := O2.c 6 _ rfl
  have x7 := X2.c 7 _ rfl
  have y7 := R2.c 7 _ rfl
  have k7 := O2.c 7 _ rfl
  have x8 := X2.c 8 _ rfl
  have y8 := R2.c 8 _ rfl
  have k8 := O2.c 8 _ rfl
  have zx := X2.z
  have zr := R2.z
  have zo := O2.z
  go_wp2
  have H1 : Fr w.heap.size f0 := hf1.mono (by simp; omega)
  have hF : Fr w.heap.size f0 := H1
  refine ret_mk (.agg #[.string x.F.Kind, .slice A0 x.F.Fields.length C0, .string x.Undo, .int .i64 x.State, .int .i64 x.Tries, .int .i64 x.Due, .int .i64 x.V.K, .int .i64 x.V.N, .string x.V.S]) (by simp [results, Tryz.results344, go_sem, *]) rfl ⟨A0, C0, f0, rfl, (((((((((((((((((((o0.out r0 (by simp) _).out r0 (by simp) _).out r0 (by simp) _).out r0 (by simp) _).out r0 (by simp) _).out r0 (by simp) _).below hb2).out r0 (by simp) _).out r0 (by simp) _).out r0 (by simp) _).out r0 (by simp) _).out r0 (by simp) _).out r0 (by simp) _).out r0 (by simp) _).out r0 (by simp) _).out r0 (by simp) _).out r0 (by simp) _).out r0 (by simp) _).out r0 (by simp) _), hF, (by simp (maxDischargeDepth := 60) [bl_le, B2])⟩
set_option maxRecDepth 20000 in
theorem toSTask_w (l : List TaskD) (v : Value) (w : World) (h : Sl w l v) (hs : sznSTask l ≤ 1048576) :
    Calls Tryz.prog 250 #[v] w (RetS l w) := by
  obtain ⟨a, c, rfl, hl, -⟩ := h.open
  have hsz : Hid (sznSTask l = l.length + (l.map sznTask).sum) := rfl
  have hlen : l.length ≤ 1048576 := by have := hsz.out; omega
  have hmk : ∀ w, (Instr.makeSlice 65 (.int .i64 l.length) (.int .i64 l.length)).run Tryz.prog w = .ok (.slice (some ⟨w.heap.size, 0, none⟩) l.length l.length) (w.alloc (.cells (madeCells #[.string ⟨#[]⟩, .slice none 0 0, .string ⟨#[]⟩, .int .i64 0, .int .i64 0, .int .i64 0, .int .i64 0, .int .i64 0, .string ⟨#[]⟩] (l.length * 9)) 127)) :=
    make_row 65 127 (.agg #[.string ⟨#[]⟩, .slice none 0 0, .string ⟨#[]⟩, .int .i64 0, .int .i64 0, .int .i64 0, .int .i64 0, .int .i64 0, .string ⟨#[]⟩]) 9 112 Tryz.underlying65 (by kernel_rfl) rfl l.length l.length rfl (by omega) (by decide)
  have hZ : OwnS (w.alloc (.cells (madeCells #[.string ⟨#[]⟩, .slice none 0 0, .string ⟨#[]⟩, .int .i64 0, .int .i64 0, .int .i64 0, .int .i64 0, .int .i64 0, .string ⟨#[]⟩] (l.length * 9)) 127)) (List.replicate l.length zeroTask) (.slice (some ⟨w.heap.size, 0, none⟩) l.length l.length) [w.heap.size] :=
    OwnS.zeroed w #[.string ⟨#[]⟩, .slice none 0 0, .string ⟨#[]⟩, .int .i64 0, .int .i64 0, .int .i64 0, .int .i64 0, .int .i64 0, .string ⟨#[]⟩] 127 zeroTask l.length (by simp [maxLen]; omega) rfl (fun w => own_Task (w := w) okzeroTask (OwnS.nil w))
  go_enter Tryz.func250, Tryz.ntmps250
  go_wp2
  go_loopw [4] (fun i wr => ∃ (k : Nat) (fp : List Nat), i = .int .i64 k ∧ k ≤ l.length ∧ OwnS wr (l.take k ++ List.replicate (l.length - k) zeroTask) (.slice (some ⟨w.heap.size, 0, none⟩) l.length l.length) fp ∧ Fr w.heap.size fp ∧ Below w.heap.size w wr) (fun i _ => l.length - (intOf i).toNat)
  case atStart => exact ⟨0, [w.heap.size], rfl, by omega, by simpa using hZ, by simp [Fr], by simp⟩
  case round =>
    clear hmk hZ
    obtain ⟨k, fp, rfl, hk, ho, hf, hB⟩ := hrel
    by_cases hlt : k < l.length
    · obtain ⟨b, o, v0, rfl, hbl, hok, hc, s0⟩ := (h.to hB).atTask k hlt
      have hle : sznTask l[k] ≤ 1048576 := by have h1 := sum_step sznTask l k hlt; have h2 := sum_le sznTask l (k + 1); have := hsz.out; omega
      have hput := Lib.hid (set_fill l zeroTask k hlt)
      generalize l[k] = x at *
      obtain ⟨c0, c1, c2, c3, c4, c5, c6, c7, c8⟩ := hc
      obtain ⟨a0, q0, rfl, hl0, -⟩ := s0.open
      go_wp2_with fail
      refine (toTask_w x _ _ s0 hle).mono ?_
      rintro e w1 ⟨A0, C0, f0, rfl, o0, hf1, hb1⟩
      have hx := own_Task hok o0
      have ho1 := ho.below hb1
      have hd : ∀ b ∈ f0, b ∉ fp := fun b hb hb2 => by have := ho.lt b hb2; have := hf1.2 b hb; omega
      obtain ⟨fp', p1, p2, p3⟩ := ho1.put hf.1 k (by simp; omega) hx hd hf1.1
      obtain ⟨-, hg, hz, hsp⟩ := ho1.spare
      obtain ⟨z0, e0⟩ := hsp k hlt 0 (by decide); replace e0 : w1.cell? ⟨w.heap.size, k * 9, none⟩ = some z0 := e0; obtain ⟨z1, e1⟩ := hsp k hlt 1 (by decide); replace e1 : w1.cell? ⟨w.heap.size, k * 9 + 1, none⟩ = some z1 := e1; obtain ⟨z2, e2⟩ := hsp k hlt 2 (by decide); replace e2 : w1.cell? ⟨w.heap.size, k * 9 + 2, none⟩ = some z2 := e2; obtain ⟨z3, e3⟩ := hsp k hlt 3 (by decide); replace e3 : w1.cell? ⟨w.heap.size, k * 9 + 3, none⟩ = some z3 := e3; obtain ⟨z4, e4⟩ := hsp k hlt 4 (by decide); replace e4 : w1.cell? ⟨w.heap.size, k * 9 + 4, none⟩ = some z4 := e4; obtain ⟨z5, e5⟩ := hsp k hlt 5 (by decide); replace e5 : w1.cell? ⟨w.heap.size, k * 9 + 5, none⟩ = some z5 := e5; obtain ⟨z6, e6⟩ := hsp k hlt 6 (by decide); replace e6 : w1.cell? ⟨w.heap.size, k * 9 + 6, none⟩ = some z6 := e6; obtain ⟨z7, e7⟩ := hsp k hlt 7 (by decide); replace e7 : w1.cell? ⟨w.heap.size, k * 9 + 7, none⟩ = some z7 := e7; obtain ⟨z8, e8⟩ := hsp k hlt 8 (by decide); replace e8 : w1.cell? ⟨w.heap.size, k * 9 + 8, none⟩ = some z8 := e8
      rw [hput.out] at p1
      clear hsp hx
      go_wp2
      go_roundw
      case rel => exact ⟨k + 1, fp', by go_num, by omega, p1, ⟨p2, fun b hb => by rcases p3 b hb with h | h; exact hf.2 b h; exact Nat.le_trans hB.size (hf1.2 b h)⟩, below_setCells (via hB hb1) (Nat.le_refl _) _ [.string x.F.Kind, .slice A0 x.F.Fields.length C0, .string x.Undo, .int .i64 x.State, .int .i64 x.Tries, .int .i64 x.Due, .int .i64 x.V.K, .int .i64 x.V.N, .string x.V.S]⟩
      case measure => simp [intOf]; omega
    · obtain rfl : k = l.length := by omega
      rw [List.take_length, Nat.sub_self, List.replicate_zero, List.append_nil] at ho
      go_wp2
      go_ret
      exact ⟨_, _, fp, rfl, ho, hf, hB⟩
set_option maxRecDepth 20000 in
theorem toUndo_w (x : UndoD) (v0 : Value) (w : World) (s0 : Sl w x.F.Fields v0) (hs : sznUndo x ≤ 1048576) :
    Calls Tryz.prog 346 #[.agg #[.string x.Key, .string x.F.Kind, v0]] w (ToUndo x w) := by
  obtain ⟨a0, c0, rfl, hl0, -⟩ := s0.open
  have hsz : sznUndo x = x.Key.size + sznFact x.F := rfl
  have g1 : sznFact x.F ≤ 1048576 := by omega
  clear hsz hs
  go_enter Tryz.func346, Tryz.ntmps346
  go_wp2_with fail
  refine (toFact_w x.F _ _ (s0.to (by simp (maxDischargeDepth := 60))) g1).mono ?_
  rintro e w1 ⟨A0, C0, f0, rfl, o0, hf1, hb1⟩
  have B1 := via (w0 := w) (by simp (maxDischargeDepth := 60)) hb1
  have z1 : w.heap.size + 3 ≤ w1.heap.size := by have := hb1.size; simp at this; omega
  have X1 : Bx w1 w.heap.size [.string x.Key, .string x.F.Kind, .slice a0 x.F.Fields.length c0] := Bx.via (by simp (maxDischargeDepth := 60)) hb1
  have R1 : Bx w1 (w.heap.size + 1) [.string ⟨#[]⟩, .string ⟨#[]⟩, .slice none 0 0] := Bx.via (by simp (maxDischargeDepth := 60)) hb1
  have O1 : Bx w1 (w.heap.size + 1 + 1) [.string x.Key, .string ⟨#[]⟩, .slice none 0 0] := Bx.via (by simp (maxDischargeDepth := 60)) hb1
  have r0 : Rng (w.heap.size + 3) w1.heap.size f0 := fun b hb => ⟨Nat.le_trans (by simp) (hf1.2 b (by simp [hb])), o0.lt b hb⟩
  have x0 := X1.c 0 _ rfl
  have y0 := R1.c 0 _ rfl
  have k0 := O1.c 0 _ rfl
  have x1 := X1.c 1 _ rfl
  have y1 := R1.c 1 _ rfl
  have k1 := O1.c 1 _ rfl
  have x2 := X1.c 2 _ rfl
  have y2 := R1.c 2 _ rfl
  have k2 := O1.c 2 _ rfl
  have zx := X1.z
  have zr := R1.z
  have zo := O1.z
  go_wp2
  have H1 : Fr w.heap.size f0 := hf1.mono (by simp; omega)
  have hF : Fr w.heap.size f0 := H1
  refine ret_mk (.agg #[.string x.Key, .string x.F.Kind, .slice A0 x.F.Fields.length C0]) (by simp [results, Tryz.results346, go_sem, *]) rfl ⟨A0, C0, f0, rfl, (((((o0.out r0 (by simp) _).out r0 (by simp) _).out r0 (by simp) _).out r0 (by simp) _).out r0 (by simp) _), hF, (by simp (maxDischargeDepth := 60) [bl_le, B1])⟩
set_option maxRecDepth 20000 in
theorem toSUndo_w (l : List UndoD) (v : Value) (w : World) (h : Sl w l v) (hs : sznSUndo l ≤ 1048576) :
    Calls Tryz.prog 252 #[v] w (RetS l w) := by
  obtain ⟨a, c, rfl, hl, -⟩ := h.open
  have hsz : Hid (sznSUndo l = l.length + (l.map sznUndo).sum) := rfl
  have hlen : l.length ≤ 1048576 := by have := hsz.out; omega
  have hmk : ∀ w, (Instr.makeSlice 67 (.int .i64 l.length) (.int .i64 l.length)).run Tryz.prog w = .ok (.slice (some ⟨w.heap.size, 0, none⟩) l.length l.length) (w.alloc (.cells (madeCells #[.string ⟨#[]⟩, .string ⟨#[]⟩, .slice none 0 0] (l.length * 3)) 200)) :=
    make_row 67 200 (.agg #[.string ⟨#[]⟩, .string ⟨#[]⟩, .slice none 0 0]) 3 56 Tryz.underlying67 (by kernel_rfl) rfl l.length l.length rfl (by omega) (by decide)
  have hZ : OwnS (w.alloc (.cells (madeCells #[.string ⟨#[]⟩, .string ⟨#[]⟩, .slice none 0 0] (l.length * 3)) 200)) (List.replicate l.length zeroUndo) (.slice (some ⟨w.heap.size, 0, none⟩) l.length l.length) [w.heap.size] :=
    OwnS.zeroed w #[.string ⟨#[]⟩, .string ⟨#[]⟩, .slice none 0 0] 200 zeroUndo l.length (by simp [maxLen]; omega) rfl (fun w => own_Undo (w := w) okzeroUndo (OwnS.nil w))
  go_enter Tryz.func252, Tryz.ntmps252
  go_wp2
  go_loopw [4] (fun i wr => ∃ (k : Nat) (fp : List Nat), i = .int .i64 k ∧ k ≤ l.length ∧ OwnS wr (l.take k ++ List.replicate (l.length - k) zeroUndo) (.slice (some ⟨w.heap.size, 0, none⟩) l.length l.length) fp ∧ Fr w.heap.size fp ∧ Below w.heap.size w wr) (fun i _ => l.length - (intOf i).toNat)
  case atStart => exact ⟨0, [w.heap.size], rfl, by omega, by simpa using hZ, by simp [Fr], by simp⟩
  case round =>
    clear hmk hZ
    obtain ⟨k, fp, rfl, hk, ho, hf, hB⟩ := hrel
    by_cases hlt : k < l.length
    · obtain ⟨b, o, v0, rfl, hbl, hok, hc, s0⟩ := (h.to hB).atUndo k hlt
      have hle : sznUndo l[k] ≤ 1048576 := by have h1 := sum_step sznUndo l k hlt; have h2 := sum_le sznUndo l (k + 1); have := hsz.out; omega
      have hput := Lib.hid (set_fill l zeroUndo k hlt)
      generalize l[k] = x at *
      obtain ⟨c0, c1, c2⟩ := hc
      obtain ⟨a0, q0, rfl, hl0, -⟩ := s0.open
      go_wp2_with fail
      refine (toUndo_w x _ _ s0 hle).mono ?_
      rintro e w1 ⟨A0, C0, f0, rfl, o0, hf1, hb1⟩
      have hx := own_Undo hok o0
      have ho1 := ho.below hb1
      have hd : ∀ b ∈ f0, b ∉ fp := fun b hb hb2 => by have := ho.lt b hb2; have := hf1.2 b hb; omega
      obtain ⟨fp', p1, p2, p3⟩ := ho1.put hf.1 k (by simp; omega) hx hd hf1.1
      obtain ⟨-, hg, hz, hsp⟩ := ho1.spare
      obtain ⟨z0, e0⟩ := hsp k hlt 0 (by decide); replace e0 : w1.cell? ⟨w.heap.size, k * 3, none⟩ = some z0 := e0; obtain ⟨z1, e1⟩ := hsp k hlt 1 (by decide); replace e1 : w1.cell? ⟨w.heap.size, k * 3 + 1, none⟩ = some z1 := e1; obtain ⟨z2, e2⟩ := hsp k hlt 2 (by decide); replace e2 : w1.cell? ⟨w.heap.size, k * 3 + 2, none⟩ = some z2 := e2
      rw [hput.out] at p1
      clear hsp hx
      go_wp2
      go_roundw
      case rel => exact ⟨k + 1, fp', by go_num, by omega, p1, ⟨p2, fun b hb => by rcases p3 b hb with h | h; exact hf.2 b h; exact Nat.le_trans hB.size (hf1.2 b h)⟩, below_setCells (via hB hb1) (Nat.le_refl _) _ [.string x.Key, .string x.F.Kind, .slice A0 x.F.Fields.length C0]⟩
      case measure => simp [intOf]; omega
    · obtain rfl : k = l.length := by omega
      rw [List.take_length, Nat.sub_self, List.replicate_zero, List.append_nil] at ho
      go_wp2
      go_ret
      exact ⟨_, _, fp, rfl, ho, hf, hB⟩
set_option maxRecDepth 20000 in
theorem toInst_w (x : InstD) (v0 v1 v2 v3 v4 : Value) (w : World) (s0 : Sl w x.S.Items v0) (s1 : Sl w x.Fired v1) (s2 : Sl w x.Tasks v2) (s3 : Sl w x.Timers v3) (s4 : Sl w x.Undos v4) (hs : sznInst x ≤ 1048576) :
    Calls Tryz.prog 166 #[.agg #[v0, .int .i64 x.S.Next, v1, v2, v3, v4, .int .i64 x.State, .int .i64 x.Now]] w (ToInst x w) := by
  obtain ⟨a0, c0, rfl, hl0, -⟩ := s0.open
  obtain ⟨a1, c1, rfl, hl1, -⟩ := s1.open
  obtain ⟨a2, c2, rfl, hl2, -⟩ := s2.open
  obtain ⟨a3, c3, rfl, hl3, -⟩ := s3.open
  obtain ⟨a4, c4, rfl, hl4, -⟩ := s4.open
  have hsz : sznInst x = sznStore x.S + sznSMatch x.Fired + sznSTask x.Tasks + sznSTimer x.Timers + sznSUndo x.Undos := rfl
  have g1 : sznStore x.S ≤ 1048576 := by omega
  have g2 : sznSMatch x.Fired ≤ 1048576 := by omega
  have g3 : sznSTask x.Tasks ≤ 1048576 := by omega
  have g4 : sznSTimer x.Timers ≤ 1048576 := by omega
  have g5 : sznSUndo x.Undos ≤ 1048576 := by omega
  clear hsz hs
  go_enter Tryz.func166, Tryz.ntmps166
  go_wp2_with fail
  refine (toStore_w x.S _ _ (s0.to (by simp (maxDischargeDepth := 60))) g1).mono ?_
  rintro e w1 ⟨A0, C0, f0, rfl, o0, hf1, hb1⟩
  have B1 := via (w0 := w) (by simp (maxDischargeDepth := 60)) hb1
  have z1 : w.heap.size + 3 ≤ w1.heap.size := by have := hb1.size; simp at this; omega
  have X1 : Bx w1 w.heap.size [.slice a0 x.S.Items.length c0, .int .i64 x.S.Next, .slice a1 x.Fired.length c1, .slice a2 x.Tasks.length c2, .slice a3 x.Timers.length c3, .slice a4 x.Undos.length c4, .int .i64 x.State, .int .i64 x.Now] := Bx.via (by simp (maxDischargeDepth := 60)) hb1
  have R1 : Bx w1 (w.heap.size + 1) [.slice none 0 0, .int .i64 0, .slice none 0 0, .slice none 0 0, .slice none 0 0, .slice none 0 0, .int .i64 0, .int .i64 0] := Bx.via (by simp (maxDischargeDepth := 60)) hb1
  have O1 : Bx w1 (w.heap.size + 1 + 1) [.slice none 0 0, .int .i64 0, .slice none 0 0, .slice none 0 0, .slice none 0 0, .slice none 0 0, .int .i64 0, .int .i64 0] := Bx.via (by simp (maxDischargeDepth := 60)) hb1
  have r0 : Rng (w.heap.size + 3) w1.heap.size f0 := fun b hb => ⟨Nat.le_trans (by simp) (hf1.2 b (by simp [hb])), o0.lt b hb⟩
  have x0 := X1.c 0 _ rfl
  have y0 := R1.c 0 _ rfl
  have k0 := O1.c 0 _ rfl
  have x1 := X1.c 1 _ rfl
  have y1 := R1.c 1 _ rfl
  have k1 := O1.c 1 _ rfl
  have x2 := X1.c 2 _ rfl
  have y2 := R1.c 2 _ rfl
  have k2 := O1.c 2 _ rfl
  have x3 := X1.c 3 _ rfl
  have y3 := R1.c 3 _ rfl
  have k3 := O1.c 3 _ rfl
  have x4 := X1.c 4 _ rfl
  have y4 := R1.c 4 _ rfl
  have k4 := O1.c 4 _ rfl
  have x5 := X1.c 5 _ rfl
  have y5 := R1.c 5 _ rfl
  have k5 := O1.c 5 _ rfl
  have x6 := X1.c 6 _ rfl
  have y6 := R1.c 6 _ rfl
  have k6 := O1.c 6 _ rfl
  have x7 := X1.c 7 _ rfl
  have y7 := R1.c 7 _ rfl
  have k7 := O1.c 7 _ rfl
  have zx := X1.z
  have zr := R1.z
  have zo := O1.z
  go_wp2_with fail
  refine (toSMatch_w x.Fired _ _ (s1.to (by simp (maxDischargeDepth := 60) [bl_le, B1])) g2).mono ?_
  rintro e w2 ⟨A1, C1, f1, rfl, o1, hf2, hb2⟩
  have B2 := via (w0 := w) (by simp (maxDischargeDepth := 60) [bl_le, B1]) hb2
  have z2 : w.heap.size + 3 ≤ w2.heap.size := by have := hb2.size; simp at this; omega
  have X2 : Bx w2 w.heap.size [.slice a0 x.S.Items.length c0, .int .i64 x.S.Next, .slice a1 x.Fired.length c1, .slice a2 x.Tasks.length c2, .slice a3 x.Timers.length c3, .slice a4 x.Undos.length c4, .int .i64 x.State, .int .i64 x.Now] := Bx.via (by simp (maxDischargeDepth := 60) [ne2, X1]) hb2
  have R2 : Bx w2 (w.heap.size + 1) [.slice none 0 0, .int .i64 0, .slice none 0 0, .slice none 0 0, .slice none 0 0, .slice none 0 0, .int .i64 0, .int .i64 0] := Bx.via (by simp (maxDischargeDepth := 60) [R1]) hb2
  have O2 : Bx w2 (w.heap.size + 1 + 1) [.slice A0 x.S.Items.length C0, .int .i64 x.S.Next, .slice none 0 0, .slice none 0 0, .slice none 0 0, .slice none 0 0, .int .i64 0, .int .i64 0] := Bx.via ((O1.set 0 (.slice A0 x.S.Items.length C0)).set 1 (.int .i64 x.S.Next)) hb2
  have r1 : Rng (w.heap.size + 3) w2.heap.size f1 := fun b hb => ⟨Nat.le_trans (by simpa using z1) (hf2.2 b (by simp [hb])), o1.lt b hb⟩
  clear k0 x0 y0 k1 x1 y1 k2 x2 y2 k3 x3 y3 k4 x4 y4 k5 x5 y5 k6 x6 y6 k7 x7 y7 zx zr zo
  have x0 := X2.c 0 _ rfl
  have y0 := R2.c 0 _ rfl
  have k0 := O2.c 0 _ rfl
  have x1 := X2.c 1 _ rfl
  have y1 := R2.c 1 _ rfl
  have k1 := O2.c 1 _ rfl
  have x2 := X2.c 2 _ rfl
  have y2 := R2.c 2 _ rfl
  have k2 := O2.c 2 _ rfl
  have x3 := X2.c 3 _ rfl
  have y3 := R2.c 3 _ rfl
  have k3 := O2.c 3 _ rfl
  have x4 := X2.c 4 _ rfl
  have y4 := R2.c 4 _ rfl
  have k4 := O2.c 4 _ rfl
  have x5 := X2.c 5 _ rfl
  have y5 := R2.c 5 _ rfl
  have k5 := O2.c 5 _ rfl
  have x6 := X2.c 6 _ rfl
  have y6 := R2.c 6 _ rfl
  have k6 := O2.c 6 _ rfl
  have x7 := X2.c 7 _ rfl
  have y7 := R2.c 7 _ rfl
  have k7 := O2.c 7 _ rfl
  have zx := X2.z
  have zr := R2.z
  have zo := O2.z
  go_wp2_with fail
  refine (toSTask_w x.Tasks _ _ (s2.to (by simp (maxDischargeDepth := 60) [bl_le, B2])) g3).mono ?_
  rintro e w3 ⟨A2, C2, f2, rfl, o2, hf3, hb3⟩
  have B3 := via (w0 := w) (by simp (maxDischargeDepth := 60) [bl_le, B2]) hb3
  have z3 : w.heap.size + 3 ≤ w3.heap.size := by have := hb3.size; simp at this; omega
  have X3 : Bx w3 w.heap.size [.slice a0 x.S.Items.length c0, .int .i64 x.S.Next, .slice a1 x.Fired.length c1, .slice a2 x.Tasks.length c2, .slice a3 x.Timers.length c3, .slice a4 x.Undos.length c4, .int .i64 x.State, .int .i64 x.Now] := Bx.via (by simp (maxDischargeDepth := 60) [ne2, X2]) hb3
  have R3 : Bx w3 (w.heap.size + 1) [.slice none 0 0, .int .i64 0, .slice none 0 0, .slice none 0 0, .slice none 0 0, .slice none 0 0, .int .i64 0, .int .i64 0] := Bx.via (by simp (maxDischargeDepth := 60) [R2]) hb3
  have O3 : Bx w3 (w.heap.size + 1 + 1) [.slice A0 x.S.Items.length C0, .int .i64 x.S.Next, .slice A1 x.Fired.length C1, .slice none 0 0, .slice none 0 0, .slice none 0 0, .int .i64 0, .int .i64 0] := Bx.via (O2.set 2 (.slice A1 x.Fired.length C1)) hb3
  have r2 : Rng (w.heap.size + 3) w3.heap.size f2 := fun b hb => ⟨Nat.le_trans (by simpa using z2) (hf3.2 b (by simp [hb])), o2.lt b hb⟩
  clear k0 x0 y0 k1 x1 y1 k2 x2 y2 k3 x3 y3 k4 x4 y4 k5 x5 y5 k6 x6 y6 k7 x7 y7 zx zr zo
  have x0 := X3.c 0 _ rfl
  have y0 := R3.c 0 _ rfl
  have k0 := O3.c 0 _ rfl
  have x1 := X3.c 1 _ rfl
  have y1 := R3.c 1 _ rfl
  have k1 := O3.c 1 _ rfl
  have x2 := X3.c 2 _ rfl
  have y2 := R3.c 2 _ rfl
  have k2 := O3.c 2 _ rfl
  have x3 := X3.c 3 _ rfl
  have y3 := R3.c 3 _ rfl
  have k3 := O3.c 3 _ rfl
  have x4 := X3.c 4 _ rfl
  have y4 := R3.c 4 _ rfl
  have k4 := O3.c 4 _ rfl
  have x5 := X3.c 5 _ rfl
  have y5 := R3.c 5 _ rfl
  have k5 := O3.c 5 _ rfl
  have x6 := X3.c 6 _ rfl
  have y6 := R3.c 6 _ rfl
  have k6 := O3.c 6 _ rfl
  have x7 := X3.c 7 _ rfl
  have y7 := R3.c 7 _ rfl
  have k7 := O3.c 7 _ rfl
  have zx := X3.z
  have zr := R3.z
  have zo := O3.z
  go_wp2_with fail
  refine (toSTimer_w x.Timers _ _ (s3.to (by simp (maxDischargeDepth := 60) [bl_le, B3])) g4).mono ?_
  rintro e w4 ⟨A3, C3, f3, rfl, o3, hf4, hb4⟩
  have B4 := via (w0 := w) (by simp (maxDischargeDepth := 60) [bl_le, B3]) hb4
  have z4 : w.heap.size + 3 ≤ w4.heap.size := by have := hb4.size; simp at this; omega
  have X4 : Bx w4 w.heap.size [.slice a0 x.S.Items.length c0, .int .i64 x.S.Next, .slice a1 x.Fired.length c1, .slice a2 x.Tasks.length c2, .slice a3 x.Timers.length c3, .slice a4 x.Undos.length c4, .int .i64 x.State, .int .i64 x.Now] := Bx.via (by simp (maxDischargeDepth := 60) [ne2, X3]) hb4
  have R4 : Bx w4 (w.heap.size + 1) [.slice none 0 0, .int .i64 0, .slice none 0 0, .slice none 0 0, .slice none 0 0, .slice none 0 0, .int .i64 0, .int .i64 0] := Bx.via (by simp (maxDischargeDepth := 60) [R3]) hb4
  have O4 : Bx w4 (w.heap.size + 1 + 1) [.slice A0 x.S.Items.length C0, .int .i64 x.S.Next, .slice A1 x.Fired.length C1, .slice A2 x.Tasks.length C2, .slice none 0 0, .slice none 0 0, .int .i64 0, .int .i64 0] := Bx.via (O3.set 3 (.slice A2 x.Tasks.length C2)) hb4
  have r3 : Rng (w.heap.size + 3) w4.heap.size f3 := fun b hb => ⟨Nat.le_trans (by simpa using z3) (hf4.2 b (by simp [hb])), o3.lt b hb⟩
  clear k0 x0 y0 k1 x1 y1 k2 x2 y2 k3 x3 y3 k4 x4 y4 k5 x5 y5 k6 x6 y6 k7 x7 y7 zx zr zo
  have x0 := X4.c 0 _ rfl
  have y0 := R4.c 0 _ rfl
  have k0 := O4.c 0 _ rfl
  have x1 := X4.c 1 _ rfl
  have y1 := R4.c 1 _ rfl
  have k1 := O4.c 1 _ rfl
  have x2 := X4.c 2 _ rfl
  have y2 := R4.c 2 _ rfl
  have k2 := O4.c 2 _ rfl
  have x3 := X4.c 3 _ rfl
  have y3 := R4.c 3 _ rfl
  have k3 := O4.c 3 _ rfl
  have x4 := X4.c 4 _ rfl
  have y4 := R4.c 4 _ rfl
  have k4 := O4.c 4 _ rfl
  have x5 := X4.c 5 _ rfl
  have y5 := R4.c 5 _ rfl
  have k5 := O4.c 5 _ rfl
  have x6 := X4.c 6 _ rfl
  have y6 := R4.c 6 _ rfl
  have k6 := O4.c 6 _ rfl
  have x7 := X4.c 7 _ rfl
  have y7 := R4.c 7 _ rfl
  have k7 := O4.c 7 _ rfl
  have zx := X4.z
  have zr := R4.z
  have zo := O4.z
  go_wp2_with fail
  refine (toSUndo_w x.Undos _ _ (s4.to (by simp (maxDischargeDepth := 60) [bl_le, B4])) g5).mono ?_
  rintro e w5 ⟨A4, C4, f4, rfl, o4, hf5, hb5⟩
  have B5 := via (w0 := w) (by simp (maxDischargeDepth := 60) [bl_le, B4]) hb5
  have z5 : w.heap.size + 3 ≤ w5.heap.size := by have := hb5.size; simp at this; omega
  have X5 : Bx w5 w.heap.size [.slice a0 x.S.Items.length c0, .int .i64 x.S.Next, .slice a1 x.Fired.length c1, .slice a2 x.Tasks.length c2, .slice a3 x.Timers.length c3, .slice a4 x.Undos.length c4, .int .i64 x.State, .int .i64 x.Now] := Bx.via (by simp (maxDischargeDepth := 60) [ne2, X4]) hb5
  have R5 : Bx w5 (w.heap.size + 1) [.slice none 0 0, .int .i64 0, .slice none 0 0, .slice none 0 0, .slice none 0 0, .slice none 0 0, .int .i64 0, .int .i64 0] := Bx.via (by simp (maxDischargeDepth := 60) [R4]) hb5
  have O5 : Bx w5 (w.heap.size + 1 + 1) [.slice A0 x.S.Items.length C0, .int .i64 x.S.Next, .slice A1 x.Fired.length C1, .slice A2 x.Tasks.length C2, .slice A3 x.Timers.length C3, .slice none 0 0, .int .i64 0, .int .i64 0] := Bx.via (O4.set 4 (.slice A3 x.Timers.length C3)) hb5
  have r4 : Rng (w.heap.size + 3) w5.heap.size f4 := fun b hb => ⟨Nat.le_trans (by simpa using z4) (hf5.2 b (by simp [hb])), o4.lt b hb⟩
  clear k0 x0 y0 k1 x1 y1 k2 x2 y2 k3 x3 y3 k4 x4 y4 k5 x5 y5 k6 x6 y6 k7 x7 y7 zx zr zo
  have x0 := X5.c 0 _ rfl
  have y0 := R5.c 0 _ rfl
  have k0 := O5.c 0 _ rfl
  have x1 := X5.c 1 _ rfl
  have y1 := R5.c 1 _ rfl
  have k1 := O5.c 1 _ rfl
  have x2 := X5.c 2 _ rfl
  have y2 := R5.c 2 _ rfl
  have k2 := O5.c 2 _ rfl
  have x3 := X5.c 3 _ rfl
  have y3 := R5.c 3 _ rfl
  have k3 := O5.c 3 _ rfl
  have x4 := X5.c 4 _ rfl
  have y4 := R5.c 4 _ rfl
  have k4 := O5.c 4 _ rfl
  have x5 := X5.c 5 _ rfl
  have y5 := R5.c 5 _ rfl
  have k5 := O5.c 5 _ rfl
  have x6 := X5.c 6 _ rfl
  have y6 := R5.c 6 _ rfl
  have k6 := O5.c 6 _ rfl
  have x7 := X5.c 7 _ rfl
  have y7 := R5.c 7 _ rfl
  have k7 := O5.c 7 _ rfl
  have zx := X5.z
  have zr := R5.z
  have zo := O5.z
  go_wp2
  have H5 : Fr w4.heap.size f4 := hf5.mono (by simp)
  have H4 : Fr w3.heap.size (f3 ++ f4) := by simpa using fr_app (C := w4.heap.size) (hf4.mono (by simp)) (fun b hb => by  exact o3.lt b hb) (H5.mono (by omega)) (by have := hb4.size; simp at this; omega)
  have H3 : Fr w2.heap.size (f2 ++ (f3 ++ f4)) := by simpa using fr_app (C := w3.heap.size) (hf3.mono (by simp)) (fun b hb => by  exact o2.lt b hb) (H4.mono (by omega)) (by have := hb3.size; simp at this; omega)
  have H2 : Fr w1.heap.size (f1 ++ (f2 ++ (f3 ++ f4))) := by simpa using fr_app (C := w2.heap.size) (hf2.mono (by simp)) (fun b hb => by  exact o1.lt b hb) (H3.mono (by omega)) (by have := hb2.size; simp at this; omega)
  have H1 : Fr w.heap.size (f0 ++ (f1 ++ (f2 ++ (f3 ++ f4)))) := by simpa using fr_app (C := w1.heap.size) (hf1.mono (by simp; omega)) (fun b hb => by  exact o0.lt b hb) (H2.mono (by omega)) (by have := hb1.size; simp at this; omega)
  have hF : Fr w.heap.size (f0 ++ (f1 ++ (f2 ++ (f3 ++ f4)))) := H1
  refine ret_mk (.agg #[.slice A0 x.S.Items.length C0, .int .i64 x.S.Next, .slice A1 x.Fired.length C1, .slice A2 x.Tasks.length C2, .slice A3 x.Timers.length C3, .slice A4 x.Undos.length C4, .int .i64 x.State, .int .i64 x.Now]) (by simp [results, Tryz.results166, go_sem, *]) rfl ⟨A0, A1, A2, A3, A4, C0, C1, C2, C3, C4, f0, f1, f2, f3, f4, rfl, ((((((((((((((((((((o0.out r0 (by simp) _).out r0 (by simp) _).below hb2).out r0 (by simp) _).below hb3).out r0 (by simp) _).below hb4).out r0 (by simp) _).below hb5).out r0 (by simp) _).out r0 (by simp) _).out r0 (by simp) _).out r0 (by simp) _).out r0 (by simp) _).out r0 (by simp) _).out r0 (by simp) _).out r0 (by simp) _).out r0 (by simp) _).out r0 (by simp) _).out r0 (by simp) _), (((((((((((((((((o1.out r1 (by simp) _).below hb3).out r1 (by simp) _).below hb4).out r1 (by simp) _).below hb5).out r1 (by simp) _).out r1 (by simp) _).out r1 (by simp) _).out r1 (by simp) _).out r1 (by simp) _).out r1 (by simp) _).out r1 (by simp) _).out r1 (by simp) _).out r1 (by simp) _).out r1 (by simp) _).out r1 (by simp) _), (((((((((((((((o2.out r2 (by simp) _).below hb4).out r2 (by simp) _).below hb5).out r2 (by simp) _).out r2 (by simp) _).out r2 (by simp) _).out r2 (by simp) _).out r2 (by simp) _).out r2 (by simp) _).out r2 (by simp) _).out r2 (by simp) _).out r2 (by simp) _).out r2 (by simp) _).out r2 (by simp) _), (((((((((((((o3.out r3 (by simp) _).below hb5).out r3 (by simp) _).out r3 (by simp) _).out r3 (by simp) _).out r3 (by simp) _).out r3 (by simp) _).out r3 (by simp) _).out r3 (by simp) _).out r3 (by simp) _).out r3 (by simp) _).out r3 (by simp) _).out r3 (by simp) _), (((((((((((o4.out r4 (by simp) _).out r4 (by simp) _).out r4 (by simp) _).out r4 (by simp) _).out r4 (by simp) _).out r4 (by simp) _).out r4 (by simp) _).out r4 (by simp) _).out r4 (by simp) _).out r4 (by simp) _).out r4 (by simp) _), hF, (by simp (maxDischargeDepth := 60) [bl_le, B5])⟩
set_option maxRecDepth 20000 in
theorem toWork_w (x : WorkD) (v0 v1 v2 v3 v4 : Value) (w : World) (s0 : Sl w x.X.S.Items v0) (s1 : Sl w x.X.Fired v1) (s2 : Sl w x.X.Tasks v2) (s3 : Sl w x.X.Timers v3) (s4 : Sl w x.X.Undos v4) (hs : sznWork x ≤ 1048576) :
    Calls Tryz.prog 94 #[.agg #[.string x.Name, .string x.Def, v0, .int .i64 x.X.S.Next, v1, v2, v3, v4, .int .i64 x.X.State, .int .i64 x.X.Now]] w (ToWork x w) := by
  obtain ⟨a0, c0, rfl, hl0, -⟩ := s0.open
  obtain ⟨a1, c1, rfl, hl1, -⟩ := s1.open
  obtain ⟨a2, c2, rfl, hl2, -⟩ := s2.open
  obtain ⟨a3, c3, rfl, hl3, -⟩ := s3.open
  obtain ⟨a4, c4, rfl, hl4, -⟩ := s4.open
  have hsz : sznWork x = x.Name.size + x.Def.size + sznInst x.X := rfl
  have g1 : sznInst x.X ≤ 1048576 := by omega
  clear hsz hs
  go_enter Tryz.func94, Tryz.ntmps94
  go_wp2_with fail
  refine (toInst_w x.X _ _ _ _ _ _ (s0.to (by simp (maxDischargeDepth := 60))) (s1.to (by simp (maxDischargeDepth := 60))) (s2.to (by simp (maxDischargeDepth := 60))) (s3.to (by simp (maxDischargeDepth := 60))) (s4.to (by simp (maxDischargeDepth := 60))) g1).mono ?_
  rintro e w1 ⟨A0, A1, A2, A3, A4, C0, C1, C2, C3, C4, f0, f1, f2, f3, f4, rfl, o0, o1, o2, o3, o4, hf1, hb1⟩
  have B1 := via (w0 := w) (by simp (maxDischargeDepth := 60)) hb1
  have z1 : w.heap.size + 3 ≤ w1.heap.size := by have := hb1.size; simp at this; omega
  have X1 : Bx w1 w.heap.size [.string x.Name, .string x.Def, .slice a0 x.X.S.Items.length c0, .int .i64 x.X.S.Next, .slice a1 x.X.Fired.length c1, .slice a2 x.X.Tasks.length c2, .slice a3 x.X.Timers.length c3, .slice a4 x.X.Undos.length c4, .int .i64 x.X.State, .int .i64 x.X.Now] := Bx.via (by simp (maxDischargeDepth := 60)) hb1
  have R1 : Bx w1 (w.heap.size + 1) [.string ⟨#[]⟩, .string ⟨#[]⟩, .slice none 0 0, .int .i64 0, .slice none 0 0, .slice none 0 0, .slice none 0 0, .slice none 0 0, .int .i64 0, .int .i64 0] := Bx.via (by simp (maxDischargeDepth := 60)) hb1
  have O1 : Bx w1 (w.heap.size + 1 + 1) [.string x.Name, .string x.Def, .slice none 0 0, .int .i64 0, .slice none 0 0, .slice none 0 0, .slice none 0 0, .slice none 0 0, .int .i64 0, .int .i64 0] := Bx.via (by simp (maxDischargeDepth := 60)) hb1
  have r0 : Rng (w.heap.size + 3) w1.heap.size f0 := fun b hb => ⟨Nat.le_trans (by simp) (hf1.2 b (by simp [hb])), o0.lt b hb⟩
  have r1 : Rng (w.heap.size + 3) w1.heap.size f1 := fun b hb => ⟨Nat.le_trans (by simp) (hf1.2 b (by simp [hb])), o1.lt b hb⟩
  have r2 : Rng (w.heap.size + 3) w1.heap.size f2 := fun b hb => ⟨Nat.le_trans (by simp) (hf1.2 b (by simp [hb])), o2.lt b hb⟩
  have r3 : Rng (w.heap.size + 3) w1.heap.size f3 := fun b hb => ⟨Nat.le_trans (by simp) (hf1.2 b (by simp [hb])), o3.lt b hb⟩
  have r4 : Rng (w.heap.size + 3) w1.heap.size f4 := fun b hb => ⟨Nat.le_trans (by simp) (hf1.2 b (by simp [hb])), o4.lt b hb⟩
  have x0 := X1.c 0 _ rfl
  have y0 := R1.c 0 _ rfl
  have k0 := O1.c 0 _ rfl
  have x1 := X1.c 1 _ rfl
  have y1 := R1.c 1 _ rfl
  have k1 := O1.c 1 _ rfl
  have x2 := X1.c 2 _ rfl
  have y2 := R1.c 2 _ rfl
  have k2 := O1.c 2 _ rfl
  have x3 := X1.c 3 _ rfl
  have y3 := R1.c 3 _ rfl
  have k3 := O1.c 3 _ rfl
  have x4 := X1.c 4 _ rfl
  have y4 := R1.c 4 _ rfl
  have k4 := O1.c 4 _ rfl
  have x5 := X1.c 5 _ rfl
  have y5 := R1.c 5 _ rfl
  have k5 := O1.c 5 _ rfl
  have x6 := X1.c 6 _ rfl
  have y6 := R1.c 6 _ rfl
  have k6 := O1.c 6 _ rfl
  have x7 := X1.c 7 _ rfl
  have y7 := R1.c 7 _ rfl
  have k7 := O1.c 7 _ rfl
  have x8 := X1.c 8 _ rfl
  have y8 := R1.c 8 _ rfl
  have k8 := O1.c 8 _ rfl
  have x9 := X1.c 9 _ rfl
  have y9 := R1.c 9 _ rfl
  have k9 := O1.c 9 _ rfl
  have zx := X1.z
  have zr := R1.z
  have zo := O1.z
  go_wp2
  have H1 : Fr w.heap.size (f0 ++ (f1 ++ (f2 ++ (f3 ++ f4)))) := hf1.mono (by simp; omega)
  have hF : Fr w.heap.size (f0 ++ (f1 ++ (f2 ++ (f3 ++ f4)))) := H1
  refine ret_mk (.agg #[.string x.Name, .string x.Def, .slice A0 x.X.S.Items.length C0, .int .i64 x.X.S.Next, .slice A1 x.X.Fired.length C1, .slice A2 x.X.Tasks.length C2, .slice A3 x.X.Timers.length C3, .slice A4 x.X.Undos.length C4, .int .i64 x.X.State, .int .i64 x.X.Now]) (by simp [results, Tryz.results94, go_sem, *]) rfl ⟨A0, A1, A2, A3, A4, C0, C1, C2, C3, C4, f0, f1, f2, f3, f4, rfl, ((((((((((((((((((o0.out r0 (by simp) _).out r0 (by simp) _).out r0 (by simp) _).out r0 (by simp) _).out r0 (by simp) _).out r0 (by simp) _).out r0 (by simp) _).out r0 (by simp) _).out r0 (by simp) _).out r0 (by simp) _).out r0 (by simp) _).out r0 (by simp) _).out r0 (by simp) _).out r0 (by simp) _).out r0 (by simp) _).out r0 (by simp) _).out r0 (by simp) _).out r0 (by simp) _), ((((((((((((((((((o1.out r1 (by simp) _).out r1 (by simp) _).out r1 (by simp) _).out r1 (by simp) _).out r1 (by simp) _).out r1 (by simp) _).out r1 (by simp) _).out r1 (by simp) _).out r1 (by simp) _).out r1 (by simp) _).out r1 (by simp) _).out r1 (by simp) _).out r1 (by simp) _).out r1 (by simp) _).out r1 (by simp) _).out r1 (by simp) _).out r1 (by simp) _).out r1 (by simp) _), ((((((((((((((((((o2.out r2 (by simp) _).out r2 (by simp) _).out r2 (by simp) _).out r2 (by simp) _).out r2 (by simp) _).out r2 (by simp) _).out r2 (by simp) _).out r2 (by simp) _).out r2 (by simp) _).out r2 (by simp) _).out r2 (by simp) _).out r2 (by simp) _).out r2 (by simp) _).out r2 (by simp) _).out r2 (by simp) _).out r2 (by simp) _).out r2 (by simp) _).out r2 (by simp) _), ((((((((((((((((((o3.out r3 (by simp) _).out r3 (by simp) _).out r3 (by simp) _).out r3 (by simp) _).out r3 (by simp) _).out r3 (by simp) _).out r3 (by simp) _).out r3 (by simp) _).out r3 (by simp) _).out r3 (by simp) _).out r3 (by simp) _).out r3 (by simp) _).out r3 (by simp) _).out r3 (by simp) _).out r3 (by simp) _).out r3 (by simp) _).out r3 (by simp) _).out r3 (by simp) _), ((((((((((((((((((o4.out r4 (by simp) _).out r4 (by simp) _).out r4 (by simp) _).out r4 (by simp) _).out r4 (by simp) _).out r4 (by simp) _).out r4 (by simp) _).out r4 (by simp) _).out r4 (by simp) _).out r4 (by simp) _).out r4 (by simp) _).out r4 (by simp) _).out r4 (by simp) _).out r4 (by simp) _).out r4 (by simp) _).out r4 (by simp) _).out r4 (by simp) _).out r4 (by simp) _), hF, (by simp (maxDischargeDepth := 60) [bl_le, B1])⟩
set_option maxRecDepth 20000 in
theorem toSWork_w (l : List WorkD) (v : Value) (w : World) (h : Sl w l v) (hs : sznSWork l ≤ 1048576) :
    Calls Tryz.prog 47 #[v] w (RetS l w) := by
  obtain ⟨a, c, rfl, hl, -⟩ := h.open
  have hsz : Hid (sznSWork l = l.length + (l.map sznWork).sum) := rfl
  have hlen : l.length ≤ 1048576 := by have := hsz.out; omega
  have hmk : ∀ w, (Instr.makeSlice 29 (.int .i64 l.length) (.int .i64 l.length)).run Tryz.prog w = .ok (.slice (some ⟨w.heap.size, 0, none⟩) l.length l.length) (w.alloc (.cells (madeCells #[.string ⟨#[]⟩, .string ⟨#[]⟩, .slice none 0 0, .int .i64 0, .slice none 0 0, .slice none 0 0, .slice none 0 0, .slice none 0 0, .int .i64 0, .int .i64 0] (l.length * 10)) 114)) :=
    make_row 29 114 (.agg #[.string ⟨#[]⟩, .string ⟨#[]⟩, .slice none 0 0, .int .i64 0, .slice none 0 0, .slice none 0 0, .slice none 0 0, .slice none 0 0, .int .i64 0, .int .i64 0]) 10 176 Tryz.underlying29 (by kernel_rfl) rfl l.length l.length rfl (by omega) (by decide)
  have hZ : OwnS (w.alloc (.cells (madeCells #[.string ⟨#[]⟩, .string ⟨#[]⟩, .slice none 0 0, .int .i64 0, .slice none 0 0, .slice none 0 0, .slice none 0 0, .slice none 0 0, .int .i64 0, .int .i64 0] (l.length * 10)) 114)) (List.replicate l.length zeroWork) (.slice (some ⟨w.heap.size, 0, none⟩) l.length l.length) [w.heap.size] :=
    OwnS.zeroed w #[.string ⟨#[]⟩, .string ⟨#[]⟩, .slice none 0 0, .int .i64 0, .slice none 0 0, .slice none 0 0, .slice none 0 0, .slice none 0 0, .int .i64 0, .int .i64 0] 114 zeroWork l.length (by simp [maxLen]; omega) rfl (fun w => own_Work (w := w) okzeroWork (OwnS.nil w) (OwnS.nil w) (OwnS.nil w) (OwnS.nil w) (OwnS.nil w))
  go_enter Tryz.func47, Tryz.ntmps47
  go_wp2
  go_loopw [4] (fun i wr => ∃ (k : Nat) (fp : List Nat), i = .int .i64 k ∧ k ≤ l.length ∧ OwnS wr (l.take k ++ List.replicate (l.length - k) zeroWork) (.slice (some ⟨w.heap.size, 0, none⟩) l.length l.length) fp ∧ Fr w.heap.size fp ∧ Below w.heap.size w wr) (fun i _ => l.length - (intOf i).toNat)
  case atStart => exact ⟨0, [w.heap.size], rfl, by omega, by simpa using hZ, by simp [Fr], by simp⟩
  case round =>
    clear hmk hZ
    obtain ⟨k, fp, rfl, hk, ho, hf, hB⟩ := hrel
    by_cases hlt : k < l.length
    · obtain ⟨b, o, v0, v1, v2, v3, v4, rfl, hbl, hok, hc, s0, s1, s2, s3, s4⟩ := (h.to hB).atWork k hlt
      have hle : sznWork l[k] ≤ 1048576 := by have h1 := sum_step sznWork l k hlt; have h2 := sum_le sznWork l (k + 1); have := hsz.out; omega
      have hput := Lib.hid (set_fill l zeroWork k hlt)
      generalize l[k] = x at *
      obtain ⟨c0, c1, c2, c3, c4, c5, c6, c7, c8, c9⟩ := hc
      obtain ⟨a0, q0, rfl, hl0, -⟩ := s0.open; obtain ⟨a1, q1, rfl, hl1, -⟩ := s1.open; obtain ⟨a2, q2, rfl, hl2, -⟩ := s2.open; obtain ⟨a3, q3, rfl, hl3, -⟩ := s3.open; obtain ⟨a4, q4, rfl, hl4, -⟩ := s4.open
      go_wp2_with fail
      refine (toWork_w x _ _ _ _ _ _ s0 s1 s2 s3 s4 hle).mono ?_
      rintro e w1 ⟨A0, A1, A2, A3, A4, C0, C1, C2, C3, C4, f0, f1, f2, f3, f4, rfl, o0, o1, o2, o3, o4, hf1, hb1⟩
      have hx := own_Work hok o0 o1 o2 o3 o4
      have ho1 := ho.below hb1
      have hd : ∀ b ∈ (f0 ++ (f1 ++ (f2 ++ (f3 ++ f4)))), b ∉ fp := fun b hb hb2 => by have := ho.lt b hb2; have := hf1.2 b hb; omega
      obtain ⟨fp', p1, p2, p3⟩ := ho1.put hf.1 k (by simp; omega) hx hd hf1.1
      obtain ⟨-, hg, hz, hsp⟩ := ho1.spare
      obtain ⟨z0, e0⟩ := hsp k hlt 0 (by decide); replace e0 : w1.cell? ⟨w.heap.size, k * 10, none⟩ = some z0 := e0; obtain ⟨z1, e1⟩ := hsp k hlt 1 (by decide); replace e1 : w1.cell? ⟨w.heap.size, k * 10 + 1, none⟩ = some z1 := e1; obtain ⟨z2, e2⟩ := hsp k hlt 2 (by decide); replace e2 : w1.cell? ⟨w.heap.size, k * 10 + 2, none⟩ = some z2 := e2; obtain ⟨z3, e3⟩ := hsp k hlt 3 (by decide); replace e3 : w1.cell? ⟨w.heap.size, k * 10 + 3, none⟩ = some z3 := e3; obtain ⟨z4, e4⟩ := hsp k hlt 4 (by decide); replace e4 : w1.cell? ⟨w.heap.size, k * 10 + 4, none⟩ = some z4 := e4; obtain ⟨z5, e5⟩ := hsp k hlt 5 (by decide); replace e5 : w1.cell? ⟨w.heap.size, k * 10 + 5, none⟩ = some z5 := e5; obtain ⟨z6, e6⟩ := hsp k hlt 6 (by decide); replace e6 : w1.cell? ⟨w.heap.size, k * 10 + 6, none⟩ = some z6 := e6; obtain ⟨z7, e7⟩ := hsp k hlt 7 (by decide); replace e7 : w1.cell? ⟨w.heap.size, k * 10 + 7, none⟩ = some z7 := e7; obtain ⟨z8, e8⟩ := hsp k hlt 8 (by decide); replace e8 : w1.cell? ⟨w.heap.size, k * 10 + 8, none⟩ = some z8 := e8; obtain ⟨z9, e9⟩ := hsp k hlt 9 (by decide); replace e9 : w1.cell? ⟨w.heap.size, k * 10 + 9, none⟩ = some z9 := e9
      rw [hput.out] at p1
      clear hsp hx
      go_wp2
      go_roundw
      case rel => exact ⟨k + 1, fp', by go_num, by omega, p1, ⟨p2, fun b hb => by rcases p3 b hb with h | h; exact hf.2 b h; exact Nat.le_trans hB.size (hf1.2 b h)⟩, below_setCells (via hB hb1) (Nat.le_refl _) _ [.string x.Name, .string x.Def, .slice A0 x.X.S.Items.length C0, .int .i64 x.X.S.Next, .slice A1 x.X.Fired.length C1, .slice A2 x.X.Tasks.length C2, .slice A3 x.X.Timers.length C3, .slice A4 x.X.Undos.length C4, .int .i64 x.X.State, .int .i64 x.X.Now]⟩
      case measure => simp [intOf]; omega
    · obtain rfl : k = l.length := by omega
      rw [List.take_length, Nat.sub_self, List.replicate_zero, List.append_nil] at ho
      go_wp2
      go_ret
      exact ⟨_, _, fp, rfl, ho, hf, hB⟩
set_option maxRecDepth 20000 in
theorem toBook_w (x : BookD) (v0 v1 : Value) (w : World) (s0 : Sl w x.Defs v0) (s1 : Sl w x.Works v1) (hs : sznBook x ≤ 1048576) :
    Calls Tryz.prog 12 #[.agg #[v0, v1, .int .i64 x.Now, .int .i64 x.Ring]] w (ToBook x w) := by
  obtain ⟨a0, c0, rfl, hl0, -⟩ := s0.open
  obtain ⟨a1, c1, rfl, hl1, -⟩ := s1.open
  have hsz : sznBook x = sznSDef x.Defs + sznSWork x.Works := rfl
  have g1 : sznSDef x.Defs ≤ 1048576 := by omega
  have g2 : sznSWork x.Works ≤ 1048576 := by omega
  clear hsz hs
  go_enter Tryz.func12, Tryz.ntmps12
  go_wp2_with fail
  refine (toSDef_w x.Defs _ _ (s0.to (by simp (maxDischargeDepth := 60))) g1).mono ?_
  rintro e w1 ⟨A0, C0, f0, rfl, o0, hf1, hb1⟩
  have B1 := via (w0 := w) (by simp (maxDischargeDepth := 60)) hb1
  have z1 : w.heap.size + 3 ≤ w1.heap.size := by have := hb1.size; simp at this; omega
  have X1 : Bx w1 w.heap.size [.slice a0 x.Defs.length c0, .slice a1 x.Works.length c1, .int .i64 x.Now, .int .i64 x.Ring] := Bx.via (by simp (maxDischargeDepth := 60)) hb1
  have R1 : Bx w1 (w.heap.size + 1) [.slice none 0 0, .slice none 0 0, .int .i64 0, .int .i64 0] := Bx.via (by simp (maxDischargeDepth := 60)) hb1
  have O1 : Bx w1 (w.heap.size + 1 + 1) [.slice none 0 0, .slice none 0 0, .int .i64 0, .int .i64 0] := Bx.via (by simp (maxDischargeDepth := 60)) hb1
  have r0 : Rng (w.heap.size + 3) w1.heap.size f0 := fun b hb => ⟨Nat.le_trans (by simp) (hf1.2 b (by simp [hb])), o0.lt b hb⟩
  have x0 := X1.c 0 _ rfl
  have y0 := R1.c 0 _ rfl
  have k0 := O1.c 0 _ rfl
  have x1 := X1.c 1 _ rfl
  have y1 := R1.c 1 _ rfl
  have k1 := O1.c 1 _ rfl
  have x2 := X1.c 2 _ rfl
  have y2 := R1.c 2 _ rfl
  have k2 := O1.c 2 _ rfl
  have x3 := X1.c 3 _ rfl
  have y3 := R1.c 3 _ rfl
  have k3 := O1.c 3 _ rfl
  have zx := X1.z
  have zr := R1.z
  have zo := O1.z
  go_wp2_with fail
  refine (toSWork_w x.Works _ _ (s1.to (by simp (maxDischargeDepth := 60) [bl_le, B1])) g2).mono ?_
  rintro e w2 ⟨A1, C1, f1, rfl, o1, hf2, hb2⟩
  have B2 := via (w0 := w) (by simp (maxDischargeDepth := 60) [bl_le, B1]) hb2
  have z2 : w.heap.size + 3 ≤ w2.heap.size := by have := hb2.size; simp at this; omega
  have X2 : Bx w2 w.heap.size [.slice a0 x.Defs.length c0, .slice a1 x.Works.length c1, .int .i64 x.Now, .int .i64 x.Ring] := Bx.via (by simp (maxDischargeDepth := 60) [ne2, X1]) hb2
  have R2 : Bx w2 (w.heap.size + 1) [.slice none 0 0, .slice none 0 0, .int .i64 0, .int .i64 0] := Bx.via (by simp (maxDischargeDepth := 60) [R1]) hb2
  have O2 : Bx w2 (w.heap.size + 1 + 1) [.slice A0 x.Defs.length C0, .slice none 0 0, .int .i64 0, .int .i64 0] := Bx.via (O1.set 0 (.slice A0 x.Defs.length C0)) hb2
  have r1 : Rng (w.heap.size + 3) w2.heap.size f1 := fun b hb => ⟨Nat.le_trans (by simpa using z1) (hf2.2 b (by simp [hb])), o1.lt b hb⟩
  clear k0 x0 y0 k1 x1 y1 k2 x2 y2 k3 x3 y3 zx zr zo
  have x0 := X2.c 0 _ rfl
  have y0 := R2.c 0 _ rfl
  have k0 := O2.c 0 _ rfl
  have x1 := X2.c 1 _ rfl
  have y1 := R2.c 1 _ rfl
  have k1 := O2.c 1 _ rfl
  have x2 := X2.c 2 _ rfl
  have y2 := R2.c 2 _ rfl
  have k2 := O2.c 2 _ rfl
  have x3 := X2.c 3 _ rfl
  have y3 := R2.c 3 _ rfl
  have k3 := O2.c 3 _ rfl
  have zx := X2.z
  have zr := R2.z
  have zo := O2.z
  go_wp2
  have H2 : Fr w1.heap.size f1 := hf2.mono (by simp)
  have H1 : Fr w.heap.size (f0 ++ f1) := by simpa using fr_app (C := w1.heap.size) (hf1.mono (by simp; omega)) (fun b hb => by  exact o0.lt b hb) (H2.mono (by omega)) (by have := hb1.size; simp at this; omega)
  have hF : Fr w.heap.size (f0 ++ f1) := H1
  refine ret_mk (.agg #[.slice A0 x.Defs.length C0, .slice A1 x.Works.length C1, .int .i64 x.Now, .int .i64 x.Ring]) (by simp [results, Tryz.results12, go_sem, *]) rfl ⟨A0, A1, C0, C1, f0, f1, rfl, (((((((((o0.out r0 (by simp) _).below hb2).out r0 (by simp) _).out r0 (by simp) _).out r0 (by simp) _).out r0 (by simp) _).out r0 (by simp) _).out r0 (by simp) _).out r0 (by simp) _), (((((((o1.out r1 (by simp) _).out r1 (by simp) _).out r1 (by simp) _).out r1 (by simp) _).out r1 (by simp) _).out r1 (by simp) _).out r1 (by simp) _), hF, (by simp (maxDischargeDepth := 60) [bl_le, B2])⟩
end Go.Proofs.YthnilnggpbploaaGreat
