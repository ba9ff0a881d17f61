import Derived.Test.YtkknoimjgifhlaaGreatDoorTyr3
namespace Go.Proofs.YtkknoimjgifhlaaGreatDoor
open Go
set_option linter.unusedVariables false
set_option linter.unusedSimpArgs false
set_option maxHeartbeats 80000000
set_option maxRecDepth 100000
abbrev pt (b o:Nat):Value:=.pointer (some ⟨b,o,none⟩)
structure QY where
 Kind:Int
 Tx:Int
 Key:Str
 End:Str
 Value:Str
 Limit:Int
 Engine:Int
instance:Inhabited QY:=⟨⟨0,0,[],[],[],0,0⟩⟩
def Yk:Rep QY where
 sz:=7
 R:=fun _ x cs=>cs=[.int .u8 x.Kind,.int .i64 x.Tx,.string (bs x.Key),.string (bs x.End),.string (bs x.Value),.int .i64 x.Limit,.int .u8 x.Engine]
 len:=fun h=>by subst h;rfl
 one:=by
  intro M x cs h
  subst h
  exact fun v hv=>List.all_eq_true.1 (show (List.all [.int .u8 x.Kind,.int .i64 x.Tx,.string (bs x.Key),.string (bs x.End),.string (bs x.Value),.int .i64 x.Limit,.int .u8 x.Engine] (·.oneCell'))=true from rfl) v hv
 mono:=fun _ h=>h
structure Qp where
 Key:Str
 Value:Str
instance:Inhabited Qp:=⟨⟨[],[]⟩⟩
def Qq:Rep Qp where
 sz:=2
 R:=fun _ x cs=>cs=[.string (bs x.Key),.string (bs x.Value)]
 len:=fun h=>by subst h;rfl
 one:=by
  intro M x cs h
  subst h
  exact fun v hv=>List.all_eq_true.1 (show (List.all [.string (bs x.Key),.string (bs x.Value)] (·.oneCell'))=true from rfl) v hv
 mono:=fun _ h=>h
structure Ql where
 Err:Int
 Found:Bool
 Value:Str
 Pairs:(List Qp)
instance:Inhabited Ql:=⟨⟨0,false,[],[]⟩⟩
def J7:Rep Ql where
 sz:=4
 R:=fun M x cs=>∃ v3,SlR Qq M v3 x.Pairs∧cs=[.int .i64 x.Err,.bool x.Found,.string (bs x.Value),v3]
 len:=fun ⟨v3,h3,h⟩=>by subst h;rfl
 one:=by
  rintro M x cs ⟨v3,h3,h⟩
  subst h
  obtain ⟨A3,c3,rfl,_⟩:=h3.form
  exact fun v hv=>List.all_eq_true.1 (show (List.all [.int .i64 x.Err,.bool x.Found,.string (bs x.Value),.slice A3 x.Pairs.length c3] (·.oneCell'))=true from rfl) v hv
 mono:=fun hM ⟨v3,h3,h⟩=>⟨v3,SlR.mono h3 hM,h⟩
structure QL where
 What:Int
 Task:Int
 Call:Int
 Answer:Ql
instance:Inhabited QL:=⟨⟨0,0,0,⟨0,false,[],[]⟩⟩⟩
def Qs:Rep QL where
 sz:=7
 R:=fun M x cs=>∃ v6,SlR Qq M v6 x.Answer.Pairs∧cs=[.int .u8 x.What,.int .i64 x.Task,.int .i64 x.Call,.int .i64 x.Answer.Err,.bool x.Answer.Found,.string (bs x.Answer.Value),v6]
 len:=fun ⟨v6,h6,h⟩=>by subst h;rfl
 one:=by
  rintro M x cs ⟨v6,h6,h⟩
  subst h
  obtain ⟨A6,c6,rfl,_⟩:=h6.form
  exact fun v hv=>List.all_eq_true.1 (show (List.all [.int .u8 x.What,.int .i64 x.Task,.int .i64 x.Call,.int .i64 x.Answer.Err,.bool x.Answer.Found,.string (bs x.Answer.Value),.slice A6 x.Answer.Pairs.length c6] (·.oneCell'))=true from rfl) v hv
 mono:=fun hM ⟨v6,h6,h⟩=>⟨v6,SlR.mono h6 hM,h⟩
structure QI where
 Tasks:Int
 Active:Int
 Keys:Int
 Depth:Int
 TS:Int
 KeyLen:Int
 ValLen:Int
 Fan:Int
instance:Inhabited QI:=⟨⟨0,0,0,0,0,0,0,0⟩⟩
def J6:Rep QI where
 sz:=8
 R:=fun _ x cs=>cs=[.int .i64 x.Tasks,.int .i64 x.Active,.int .i64 x.Keys,.int .i64 x.Depth,.int .i64 x.TS,.int .i64 x.KeyLen,.int .i64 x.ValLen,.int .i64 x.Fan]
 len:=fun h=>by subst h;rfl
 one:=by
  intro M x cs h
  subst h
  exact fun v hv=>List.all_eq_true.1 (show (List.all [.int .i64 x.Tasks,.int .i64 x.Active,.int .i64 x.Keys,.int .i64 x.Depth,.int .i64 x.TS,.int .i64 x.KeyLen,.int .i64 x.ValLen,.int .i64 x.Fan] (·.oneCell'))=true from rfl) v hv
 mono:=fun _ h=>h
structure QU where
 Writer:Int
 TS:Int
 Tomb:Bool
 Value:Str
instance:Inhabited QU:=⟨⟨0,0,false,[]⟩⟩
def ZL:Rep QU where
 sz:=4
 R:=fun _ x cs=>cs=[.int .i64 x.Writer,.int .i64 x.TS,.bool x.Tomb,.string (bs x.Value)]
 len:=fun h=>by subst h;rfl
 one:=by
  intro M x cs h
  subst h
  exact fun v hv=>List.all_eq_true.1 (show (List.all [.int .i64 x.Writer,.int .i64 x.TS,.bool x.Tomb,.string (bs x.Value)] (·.oneCell'))=true from rfl) v hv
 mono:=fun _ h=>h
structure YQ where
 at_:Int
 calls:Int
instance:Inhabited YQ:=⟨⟨0,0⟩⟩
def Zu:Rep YQ where
 sz:=2
 R:=fun _ x cs=>cs=[.int .i64 x.at_,.int .i64 x.calls]
 len:=fun h=>by subst h;rfl
 one:=by
  intro M x cs h
  subst h
  exact fun v hv=>List.all_eq_true.1 (show (List.all [.int .i64 x.at_,.int .i64 x.calls] (·.oneCell'))=true from rfl) v hv
 mono:=fun _ h=>h
structure Qg where
 tasks:(List YQ)
 l:(List QL)
instance:Inhabited Qg:=⟨⟨[],[]⟩⟩
def r_event_Recorder:Rep Qg where
 sz:=2
 R:=fun M x cs=>∃ v0 v1,SlR Zu M v0 x.tasks∧SlR Qs M v1 x.l∧cs=[v0,v1]
 len:=fun ⟨v0,v1,h0,h1,h⟩=>by subst h;rfl
 one:=by
  rintro M x cs ⟨v0,v1,h0,h1,h⟩
  subst h
  obtain ⟨A0,c0,rfl,_⟩:=h0.form
  obtain ⟨A1,c1,rfl,_⟩:=h1.form
  exact fun v hv=>List.all_eq_true.1 (show (List.all [.slice A0 x.tasks.length c0,.slice A1 x.l.length c1] (·.oneCell'))=true from rfl) v hv
 mono:=fun hM ⟨v0,v1,h0,h1,h⟩=>⟨v0,v1,SlR.mono h0 hM,SlR.mono h1 hM,h⟩
structure Y7 where
 task:Int
 n:Int
instance:Inhabited Y7:=⟨⟨0,0⟩⟩
def r_model_name:Rep Y7 where
 sz:=2
 R:=fun _ x cs=>cs=[.int .i64 x.task,.int .i64 x.n]
 len:=fun h=>by subst h;rfl
 one:=by
  intro M x cs h
  subst h
  exact fun v hv=>List.all_eq_true.1 (show (List.all [.int .i64 x.task,.int .i64 x.n] (·.oneCell'))=true from rfl) v hv
 mono:=fun _ h=>h
structure Xf where
 state:Int
 snapshot:Int
instance:Inhabited Xf:=⟨⟨0,0⟩⟩
def Qe:Rep Xf where
 sz:=2
 R:=fun _ x cs=>cs=[.int .u8 x.state,.int .i64 x.snapshot]
 len:=fun h=>by subst h;rfl
 one:=by
  intro M x cs h
  subst h
  exact fun v hv=>List.all_eq_true.1 (show (List.all [.int .u8 x.state,.int .i64 x.snapshot] (·.oneCell'))=true from rfl) v hv
 mono:=fun _ h=>h
structure Qh where
 l:(List QU)
 intent:QU
instance:Inhabited Qh:=⟨⟨[],⟨0,0,false,[]⟩⟩⟩
def Qx:Rep Qh where
 sz:=5
 R:=fun M x cs=>∃ v0,SlR ZL M v0 x.l∧cs=[v0,.int .i64 x.intent.Writer,.int .i64 x.intent.TS,.bool x.intent.Tomb,.string (bs x.intent.Value)]
 len:=fun ⟨v0,h0,h⟩=>by subst h;rfl
 one:=by
  rintro M x cs ⟨v0,h0,h⟩
  subst h
  obtain ⟨A0,c0,rfl,_⟩:=h0.form
  exact fun v hv=>List.all_eq_true.1 (show (List.all [.slice A0 x.l.length c0,.int .i64 x.intent.Writer,.int .i64 x.intent.TS,.bool x.intent.Tomb,.string (bs x.intent.Value)] (·.oneCell'))=true from rfl) v hv
 mono:=fun hM ⟨v0,h0,h⟩=>⟨v0,SlR.mono h0 hM,h⟩
structure QW where
 c:QI
 names:(List (Y7×Int))
 many:(List (Int×Int))
 txs:(List Xf)
 rows:(List (Str×Qh))
 clock:Int
 floor:Int
instance:Inhabited QW:=⟨⟨⟨0,0,0,0,0,0,0,0⟩,[],[],[],[],0,0⟩⟩
structure ZX where
 Task:Int
 Call:Int
 Answer:Ql
 Mark:Int
 Back:Int
instance:Inhabited ZX:=⟨⟨0,0,⟨0,false,[],[]⟩,0,0⟩⟩
def Zz:Rep ZX where
 sz:=8
 R:=fun M x cs=>∃ v5,SlR Qq M v5 x.Answer.Pairs∧cs=[.int .i64 x.Task,.int .i64 x.Call,.int .i64 x.Answer.Err,.bool x.Answer.Found,.string (bs x.Answer.Value),v5,.int .i64 x.Mark,.int .i64 x.Back]
 len:=fun ⟨v5,h5,h⟩=>by subst h;rfl
 one:=by
  rintro M x cs ⟨v5,h5,h⟩
  subst h
  obtain ⟨A5,c5,rfl,_⟩:=h5.form
  exact fun v hv=>List.all_eq_true.1 (show (List.all [.int .i64 x.Task,.int .i64 x.Call,.int .i64 x.Answer.Err,.bool x.Answer.Found,.string (bs x.Answer.Value),.slice A5 x.Answer.Pairs.length c5,.int .i64 x.Mark,.int .i64 x.Back] (·.oneCell'))=true from rfl) v hv
 mono:=fun hM ⟨v5,h5,h⟩=>⟨v5,SlR.mono h5 hM,h⟩
structure Z2 where
 programs:(List (List QY))
 r:Qg
 m:QW
 done:(List ZX)
 last:(List Int)
instance:Inhabited Z2:=⟨⟨[],⟨[],[]⟩,⟨⟨0,0,0,0,0,0,0,0⟩,[],[],[],[],0,0⟩,[],[]⟩⟩
structure Qf where
 Task:Int
 N:Int
 State:Int
 Snapshot:Int
instance:Inhabited Qf:=⟨⟨0,0,0,0⟩⟩
def QD:Rep Qf where
 sz:=4
 R:=fun _ x cs=>cs=[.int .i64 x.Task,.int .i64 x.N,.int .u8 x.State,.int .i64 x.Snapshot]
 len:=fun h=>by subst h;rfl
 one:=by
  intro M x cs h
  subst h
  exact fun v hv=>List.all_eq_true.1 (show (List.all [.int .i64 x.Task,.int .i64 x.N,.int .u8 x.State,.int .i64 x.Snapshot] (·.oneCell'))=true from rfl) v hv
 mono:=fun _ h=>h
structure Qk where
 Key:Str
 L:(List QU)
 Has:Bool
 I:QU
instance:Inhabited Qk:=⟨⟨[],[],false,⟨0,0,false,[]⟩⟩⟩
def Qa:Rep Qk where
 sz:=7
 R:=fun M x cs=>∃ v1,SlR ZL M v1 x.L∧cs=[.string (bs x.Key),v1,.bool x.Has,.int .i64 x.I.Writer,.int .i64 x.I.TS,.bool x.I.Tomb,.string (bs x.I.Value)]
 len:=fun ⟨v1,h1,h⟩=>by subst h;rfl
 one:=by
  rintro M x cs ⟨v1,h1,h⟩
  subst h
  obtain ⟨A1,c1,rfl,_⟩:=h1.form
  exact fun v hv=>List.all_eq_true.1 (show (List.all [.string (bs x.Key),.slice A1 x.L.length c1,.bool x.Has,.int .i64 x.I.Writer,.int .i64 x.I.TS,.bool x.I.Tomb,.string (bs x.I.Value)] (·.oneCell'))=true from rfl) v hv
 mono:=fun hM ⟨v1,h1,h⟩=>⟨v1,SlR.mono h1 hM,h⟩
structure QE where
 C:QI
 T:(List Qf)
 L:(List Qk)
 Time:Int
 Low:Int
instance:Inhabited QE:=⟨⟨⟨0,0,0,0,0,0,0,0⟩,[],[],0,0⟩⟩
def r_ferrymanref16_Model:Rep QE where
 sz:=12
 R:=fun M x cs=>∃ v8 v9,SlR QD M v8 x.T∧SlR Qa M v9 x.L∧cs=[.int .i64 x.C.Tasks,.int .i64 x.C.Active,.int .i64 x.C.Keys,.int .i64 x.C.Depth,.int .i64 x.C.TS,.int .i64 x.C.KeyLen,.int .i64 x.C.ValLen,.int .i64 x.C.Fan,v8,v9,.int .i64 x.Time,.int .i64 x.Low]
 len:=fun ⟨v8,v9,h8,h9,h⟩=>by subst h;rfl
 one:=by
  rintro M x cs ⟨v8,v9,h8,h9,h⟩
  subst h
  obtain ⟨A8,c8,rfl,_⟩:=h8.form
  obtain ⟨A9,c9,rfl,_⟩:=h9.form
  exact fun v hv=>List.all_eq_true.1 (show (List.all [.int .i64 x.C.Tasks,.int .i64 x.C.Active,.int .i64 x.C.Keys,.int .i64 x.C.Depth,.int .i64 x.C.TS,.int .i64 x.C.KeyLen,.int .i64 x.C.ValLen,.int .i64 x.C.Fan,.slice A8 x.T.length c8,.slice A9 x.L.length c9,.int .i64 x.Time,.int .i64 x.Low] (·.oneCell'))=true from rfl) v hv
 mono:=fun hM ⟨v8,v9,h8,h9,h⟩=>⟨v8,v9,SlR.mono h8 hM,SlR.mono h9 hM,h⟩
structure QQ where
 Task:Int
 Call:Int
 Answer:Ql
 Mark:Int
 Back:Int
instance:Inhabited QQ:=⟨⟨0,0,⟨0,false,[],[]⟩,0,0⟩⟩
def ZA:Rep QQ where
 sz:=8
 R:=fun M x cs=>∃ v5,SlR Qq M v5 x.Answer.Pairs∧cs=[.int .i64 x.Task,.int .i64 x.Call,.int .i64 x.Answer.Err,.bool x.Answer.Found,.string (bs x.Answer.Value),v5,.int .i64 x.Mark,.int .i64 x.Back]
 len:=fun ⟨v5,h5,h⟩=>by subst h;rfl
 one:=by
  rintro M x cs ⟨v5,h5,h⟩
  subst h
  obtain ⟨A5,c5,rfl,_⟩:=h5.form
  exact fun v hv=>List.all_eq_true.1 (show (List.all [.int .i64 x.Task,.int .i64 x.Call,.int .i64 x.Answer.Err,.bool x.Answer.Found,.string (bs x.Answer.Value),.slice A5 x.Answer.Pairs.length c5,.int .i64 x.Mark,.int .i64 x.Back] (·.oneCell'))=true from rfl) v hv
 mono:=fun hM ⟨v5,h5,h⟩=>⟨v5,SlR.mono h5 hM,h⟩
structure St48 where
 many:Int
 slots:Int
 anchor:Int
instance:Inhabited St48:=⟨⟨0,0,0⟩⟩
def r_St48:Rep St48 where
 sz:=3
 R:=fun _ x cs=>cs=[.int .i64 x.many,.int .i64 x.slots,.int .i64 x.anchor]
 len:=fun h=>by subst h;rfl
 one:=by
  intro M x cs h
  subst h
  exact fun v hv=>List.all_eq_true.1 (show (List.all [.int .i64 x.many,.int .i64 x.slots,.int .i64 x.anchor] (·.oneCell'))=true from rfl) v hv
 mono:=fun _ h=>h
structure X5 where
 n:Int
 low:Int
 high:Int
instance:Inhabited X5:=⟨⟨0,0,0⟩⟩
def r_text_bound:Rep X5 where
 sz:=3
 R:=fun _ x cs=>cs=[.int .i64 x.n,.int .i64 x.low,.int .i64 x.high]
 len:=fun h=>by subst h;rfl
 one:=by
  intro M x cs h
  subst h
  exact fun v hv=>List.all_eq_true.1 (show (List.all [.int .i64 x.n,.int .i64 x.low,.int .i64 x.high] (·.oneCell'))=true from rfl) v hv
 mono:=fun _ h=>h
theorem key3:KeyT Tryz.prog 3 (Value.int .i64):=QAg Tryz.underlying3
theorem key9:KeyT Tryz.prog 9 encS:=QAf Tryz.underlying9
instance:DecidableEq Y7:=fun a b=>decidable_of_iff (a.task=b.task∧a.n=b.n) ⟨fun h=>by cases a;cases b;simp_all,fun h=>by subst h;simp⟩
def QM (x:Y7):Value:=.agg #[.int .i64 x.task,.int .i64 x.n]
theorem key132:KeyT Tryz.prog 132 QM:=Ke Tryz.underlying132 (fun w a b=>by
  have h:=eq132 w a.task a.n b.task b.n
  have e:((a.task==b.task)&&(a.n==b.n))=decide (a=b):=by
   by_cases hc:a=b
   ·subst hc;simp
   ·have:¬ (a.task=b.task∧a.n=b.n):=fun hh=>hc (by cases a;cases b;simp_all)
    rw [decide_eq_false hc]
    simp only [← Bool.decide_and,Bool.and_eq_false_iff,beq_eq_false_iff_ne,ne_eq];by_cases h1:a.task=b.task<;>simp_all
  rw [← e];exact h)
 (fun w e a=>by
  have hi:∀ (n:Nat) (t:TypeId) (k:IntKind) (x:Int),Tryz.prog.underlying t=some (.int k)→(Instr.checkKey e (n+1) t (.int k x)).run Tryz.prog w=.ok () w:=fun n t k x hu=>by simp [Instr.checkKey,run_underlying hu,Result.andThen]
  have hb:∀ (n:Nat) (t:TypeId) (x:Bool),Tryz.prog.underlying t=some .bool→(Instr.checkKey e (n+1) t (.bool x)).run Tryz.prog w=.ok () w:=fun n t x hu=>by simp [Instr.checkKey,run_underlying hu,Result.andThen]
  have p0:(part 3 #[.int .i64 a.task,.int .i64 a.n] 0).run Tryz.prog w=.ok (.int .i64 a.task) w:=VW ty3 rfl
  have p1:(part 3 #[.int .i64 a.task,.int .i64 a.n] 1).run Tryz.prog w=.ok (.int .i64 a.n) w:=VW ty3 rfl
  have h:∀ n,(Instr.checkKey e (n+2) 132 (QM a)).run Tryz.prog w=.ok () w:=fun n=>by
   unfold Instr.checkKey
   simp [QM,run_underlying Tryz.underlying132,Result.andThen,p0,p1,hi n 3 _ _ Tryz.underlying3]
  exact h 9998) (fun a=>by
  have h:∀ n,Instr.sameBits (n+2) (QM a) (QM a)=true:=fun n=>by simp [Instr.sameBits,QM]
  exact h 9998)
abbrev B23 (b:Nat) (x:QI) :Asr:=Blk b (.cells #[.int .i64 x.Tasks,.int .i64 x.Active,.int .i64 x.Keys,.int .i64 x.Depth,.int .i64 x.TS,.int .i64 x.KeyLen,.int .i64 x.ValLen,.int .i64 x.Fan] 23 (0,0))
abbrev B38 (b:Nat) (x:Ql) (A3:Option Addr) (c3:Nat):Asr:=Blk b (.cells #[.int .i64 x.Err,.bool x.Found,.string (bs x.Value),.slice A3 x.Pairs.length c3] 38 (0,0))
abbrev B40 (b:Nat) (x:QL) (A6:Option Addr) (c6:Nat):Asr:=Blk b (.cells #[.int .u8 x.What,.int .i64 x.Task,.int .i64 x.Call,.int .i64 x.Answer.Err,.bool x.Answer.Found,.string (bs x.Answer.Value),.slice A6 x.Answer.Pairs.length c6] 40 (0,0))
abbrev B43 (b:Nat) (x:QY) :Asr:=Blk b (.cells #[.int .u8 x.Kind,.int .i64 x.Tx,.string (bs x.Key),.string (bs x.End),.string (bs x.Value),.int .i64 x.Limit,.int .u8 x.Engine] 43 (0,0))
abbrev B61 (b:Nat) (x:ZX) (A5:Option Addr) (c5:Nat):Asr:=Blk b (.cells #[.int .i64 x.Task,.int .i64 x.Call,.int .i64 x.Answer.Err,.bool x.Answer.Found,.string (bs x.Answer.Value),.slice A5 x.Answer.Pairs.length c5,.int .i64 x.Mark,.int .i64 x.Back] 61 (0,0))
abbrev B69 (b:Nat) (x:QE) (A8:Option Addr) (c8:Nat) (A9:Option Addr) (c9:Nat):Asr:=Blk b (.cells #[.int .i64 x.C.Tasks,.int .i64 x.C.Active,.int .i64 x.C.Keys,.int .i64 x.C.Depth,.int .i64 x.C.TS,.int .i64 x.C.KeyLen,.int .i64 x.C.ValLen,.int .i64 x.C.Fan,.slice A8 x.T.length c8,.slice A9 x.L.length c9,.int .i64 x.Time,.int .i64 x.Low] 69 (0,0))
abbrev B85 (b:Nat) (x:Z2) (A0:Option Addr) (c0:Nat) (b1:Nat) (b2:Nat) (A3:Option Addr) (c3:Nat) (A4:Option Addr) (c4:Nat):Asr:=Blk b (.cells #[.slice A0 x.programs.length c0,.pointer (some ⟨b1,0,none⟩),.pointer (some ⟨b2,0,none⟩),.slice A3 x.done.length c3,.slice A4 x.last.length c4] 85 (0,0))
abbrev B88 (b:Nat) (x:QU) :Asr:=Blk b (.cells #[.int .i64 x.Writer,.int .i64 x.TS,.bool x.Tomb,.string (bs x.Value)] 88 (0,0))
abbrev B90 (b:Nat) (x:Qh) (A0:Option Addr) (c0:Nat):Asr:=Blk b (.cells #[.slice A0 x.l.length c0,.int .i64 x.intent.Writer,.int .i64 x.intent.TS,.bool x.intent.Tomb,.string (bs x.intent.Value)] 90 (0,0))
abbrev B96 (b:Nat) (x:QW) (A8:Option Addr) (A9:Option Addr) (A10:Option Addr) (c10:Nat) (A11:Option Addr):Asr:=Blk b (.cells #[.int .i64 x.c.Tasks,.int .i64 x.c.Active,.int .i64 x.c.Keys,.int .i64 x.c.Depth,.int .i64 x.c.TS,.int .i64 x.c.KeyLen,.int .i64 x.c.ValLen,.int .i64 x.c.Fan,.map (mb A8),.map (mb A9),.slice A10 x.txs.length c10,.map (mb A11),.int .i64 x.clock,.int .i64 x.floor] 96 (0,0))
abbrev B110 (b:Nat) (x:Qk) (A1:Option Addr) (c1:Nat):Asr:=Blk b (.cells #[.string (bs x.Key),.slice A1 x.L.length c1,.bool x.Has,.int .i64 x.I.Writer,.int .i64 x.I.TS,.bool x.I.Tomb,.string (bs x.I.Value)] 110 (0,0))
abbrev cz22:Array Value:=#[.pointer none,vI 4]
abbrev cz21:Array Value:=#[.pointer none,vI 1]
abbrev cz20:Array Value:=#[vI 0,vI 0,vU 0,vI 0]
abbrev cz19:Qh:=⟨[],⟨0,0,false,[]⟩⟩
abbrev cz18:Array Value:=#[vI 0,vI 0,.bool false,vS ([]:Str)]
abbrev cz17:Array Value:=#[vI 1,vI 2,vI 1,vI 2,vI 9,vI 2,vI 2,vI 3]
abbrev cz16:Array Value:=#[vI 0,.bool false,vS ([]:Str),.slice none 0 0]
abbrev cz15:Array Value:=#[vI 35,.bool false,vS ([]:Str),.slice none 0 0]
abbrev cz14:Array Value:=#[vI 33,.bool false,vS ([]:Str),.slice none 0 0]
abbrev cz13:Array Value:=#[vI 34,.bool false,vS ([]:Str),.slice none 0 0]
abbrev cz12:Array Value:=#[.slice none 0 0,vI 0,vI 0,.bool false,vS ([]:Str)]
abbrev cz11:Ql:=⟨(0:Int),false,([]:Str),([]:List Qp)⟩
abbrev cz10:Ql:=⟨(35:Int),false,([]:Str),([]:List Qp)⟩
abbrev cz9:Ql:=⟨(33:Int),false,([]:Str),([]:List Qp)⟩
abbrev cz8:Ql:=⟨(34:Int),false,([]:Str),([]:List Qp)⟩
abbrev cz7:Ql:=⟨(0:Int),false,([]:Str),([]:(List Qp))⟩
abbrev cz6:Array Value:=#[vU 0,vI 0,vI 0,vI 0,.bool false,vS ([]:Str),.slice none 0 0]
abbrev cz5:Array Value:=#[vU 0,vI 0,vS ([]:Str),vS ([]:Str),vS ([]:Str),vI 0,vU 0]
abbrev cz4:Array Value:=#[vI 0,vI 0,vI 0,.bool false,vS ([]:Str),.slice none 0 0,vI 0,vI 0]
abbrev cz3:Array Value:=#[vS ([]:Str),.slice none 0 0,.bool false,vI 0,vI 0,.bool false,vS ([]:Str)]
abbrev cz2:Array Value:=#[.nilFunc,.func (.func 145) #[] #[],.func (.func 147) #[] #[],.func (.func 149) #[] #[]]
abbrev cz1:Array Value:=#[.nilFunc,.func (.func 123) #[] #[],.func (.func 124) #[] #[],.func (.func 125) #[] #[],.func (.func 126) #[] #[],.func (.func 127) #[] #[],.func (.func 128) #[] #[],.func (.func 129) #[] #[],.func (.func 130) #[] #[],.func (.func 131) #[] #[]]
abbrev cz0:Str:=[0,1,2,2,3,3,3,3,4,4,4,4,4,4,4,4,5,5,5,5,5,5,5,5,5,5,5,5,5,5,5,5,6,6,6,6,6,6,6,6,6,6,6,6,6,6,6,6,6,6,6,6,6,6,6,6,6,6,6,6,6,6,6,6,7,7,7,7,7,7,7,7,7,7,7,7,7,7,7,7,7,7,7,7,7,7,7,7,7,7,7,7,7,7,7,7,7,7,7,7,7,7,7,7,7,7,7,7,7,7,7,7,7,7,7,7,7,7,7,7,7,7,7,7,7,7,7,7,8,8,8,8,8,8,8,8,8,8,8,8,8,8,8,8,8,8,8,8,8,8,8,8,8,8,8,8,8,8,8,8,8,8,8,8,8,8,8,8,8,8,8,8,8,8,8,8,8,8,8,8,8,8,8,8,8,8,8,8,8,8,8,8,8,8,8,8,8,8,8,8,8,8,8,8,8,8,8,8,8,8,8,8,8,8,8,8,8,8,8,8,8,8,8,8,8,8,8,8,8,8,8,8,8,8,8,8,8,8,8,8,8,8,8,8,8,8,8,8,8,8,8,8,8,8,8,8]
abbrev Qo (x:QY):Array Value:=#[vU x.Kind,vI x.Tx,vS x.Key,vS x.End,vS x.Value,vI x.Limit,vU x.Engine]
abbrev QF (x:QI):Array Value:=#[vI x.Tasks,vI x.Active,vI x.Keys,vI x.Depth,vI x.TS,vI x.KeyLen,vI x.ValLen,vI x.Fan]
abbrev Y4 (x:QU):Array Value:=#[vI x.Writer,vI x.TS,.bool x.Tomb,vS x.Value]
abbrev qP (x:St48):Array Value:=#[vI x.many,vI x.slots,vI x.anchor]
abbrev UT (x:X5):Array Value:=#[vI x.n,vI x.low,vI x.high]
end Go.Proofs.YtkknoimjgifhlaaGreatDoor
