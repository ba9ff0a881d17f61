import Derived.Test.YtcngjjlhdlbogaaDoorTyp3
namespace Go.Proofs.YtcngjjlhdlbogaaDoor
open Go
set_option linter.unusedVariables false
set_option linter.unusedSimpArgs false
set_option maxHeartbeats 80000000
set_option maxRecDepth 100000
abbrev pt (b o:Nat):Value:=.pointer (some ⟨b,o,none⟩)
structure Qw where
 Tasks:Int
 Active:Int
 Keys:Int
 Depth:Int
 TS:Int
 KeyLen:Int
 ValLen:Int
 Fan:Int
instance:Inhabited Qw:=⟨⟨0,0,0,0,0,0,0,0⟩⟩
def Uu:Rep Qw where
 sz:=8
 R:=fun _ x cs=>cs=[.int .i64 x.Tasks,.int .i64 x.Active,.int .i64 x.Keys,.int .i64 x.Depth,.int .i64 x.TS,.int .i64 x.KeyLen,.int .i64 x.ValLen,.int .i64 x.Fan]
 len:=fun h=>by subst h;rfl
 one:=by
  intro M x cs h
  subst h
  exact fun v hv=>List.all_eq_true.1 (show (List.all [.int .i64 x.Tasks,.int .i64 x.Active,.int .i64 x.Keys,.int .i64 x.Depth,.int .i64 x.TS,.int .i64 x.KeyLen,.int .i64 x.ValLen,.int .i64 x.Fan] (·.oneCell'))=true from rfl) v hv
 mono:=fun _ h=>h
structure QS where
 Writer:Int
 TS:Int
 Tomb:Bool
 Value:Str
instance:Inhabited QS:=⟨⟨0,0,false,[]⟩⟩
def Q4:Rep QS where
 sz:=4
 R:=fun _ x cs=>cs=[.int .i64 x.Writer,.int .i64 x.TS,.bool x.Tomb,.string (bs x.Value)]
 len:=fun h=>by subst h;rfl
 one:=by
  intro M x cs h
  subst h
  exact fun v hv=>List.all_eq_true.1 (show (List.all [.int .i64 x.Writer,.int .i64 x.TS,.bool x.Tomb,.string (bs x.Value)] (·.oneCell'))=true from rfl) v hv
 mono:=fun _ h=>h
structure ZE where
 Kind:Int
 Tx:Int
 Key:Str
 End:Str
 Value:Str
 Limit:Int
 Engine:Int
instance:Inhabited ZE:=⟨⟨0,0,[],[],[],0,0⟩⟩
def Jj:Rep ZE where
 sz:=7
 R:=fun _ x cs=>cs=[.int .u8 x.Kind,.int .i64 x.Tx,.string (bs x.Key),.string (bs x.End),.string (bs x.Value),.int .i64 x.Limit,.int .u8 x.Engine]
 len:=fun h=>by subst h;rfl
 one:=by
  intro M x cs h
  subst h
  exact fun v hv=>List.all_eq_true.1 (show (List.all [.int .u8 x.Kind,.int .i64 x.Tx,.string (bs x.Key),.string (bs x.End),.string (bs x.Value),.int .i64 x.Limit,.int .u8 x.Engine] (·.oneCell'))=true from rfl) v hv
 mono:=fun _ h=>h
structure Zi where
 task:Int
 n:Int
instance:Inhabited Zi:=⟨⟨0,0⟩⟩
def r_model_name:Rep Zi where
 sz:=2
 R:=fun _ x cs=>cs=[.int .i64 x.task,.int .i64 x.n]
 len:=fun h=>by subst h;rfl
 one:=by
  intro M x cs h
  subst h
  exact fun v hv=>List.all_eq_true.1 (show (List.all [.int .i64 x.task,.int .i64 x.n] (·.oneCell'))=true from rfl) v hv
 mono:=fun _ h=>h
structure Z9 where
 state:Int
 snapshot:Int
instance:Inhabited Z9:=⟨⟨0,0⟩⟩
def QL:Rep Z9 where
 sz:=2
 R:=fun _ x cs=>cs=[.int .u8 x.state,.int .i64 x.snapshot]
 len:=fun h=>by subst h;rfl
 one:=by
  intro M x cs h
  subst h
  exact fun v hv=>List.all_eq_true.1 (show (List.all [.int .u8 x.state,.int .i64 x.snapshot] (·.oneCell'))=true from rfl) v hv
 mono:=fun _ h=>h
structure Ql where
 l:(List QS)
 intent:QS
instance:Inhabited Ql:=⟨⟨[],⟨0,0,false,[]⟩⟩⟩
def Qk:Rep Ql where
 sz:=5
 R:=fun M x cs=>∃ v0,SlR Q4 M v0 x.l∧cs=[v0,.int .i64 x.intent.Writer,.int .i64 x.intent.TS,.bool x.intent.Tomb,.string (bs x.intent.Value)]
 len:=fun ⟨v0,h0,h⟩=>by subst h;rfl
 one:=by
  rintro M x cs ⟨v0,h0,h⟩
  subst h
  obtain ⟨A0,c0,rfl,_⟩:=h0.form
  exact fun v hv=>List.all_eq_true.1 (show (List.all [.slice A0 x.l.length c0,.int .i64 x.intent.Writer,.int .i64 x.intent.TS,.bool x.intent.Tomb,.string (bs x.intent.Value)] (·.oneCell'))=true from rfl) v hv
 mono:=fun hM ⟨v0,h0,h⟩=>⟨v0,SlR.mono h0 hM,h⟩
structure QJ where
 c:Qw
 names:(List (Zi×Int))
 many:(List (Int×Int))
 txs:(List Z9)
 rows:(List (Str×Ql))
 clock:Int
 floor:Int
instance:Inhabited QJ:=⟨⟨⟨0,0,0,0,0,0,0,0⟩,[],[],[],[],0,0⟩⟩
structure Qf where
 Key:Str
 Value:Str
instance:Inhabited Qf:=⟨⟨[],[]⟩⟩
def Qm:Rep Qf where
 sz:=2
 R:=fun _ x cs=>cs=[.string (bs x.Key),.string (bs x.Value)]
 len:=fun h=>by subst h;rfl
 one:=by
  intro M x cs h
  subst h
  exact fun v hv=>List.all_eq_true.1 (show (List.all [.string (bs x.Key),.string (bs x.Value)] (·.oneCell'))=true from rfl) v hv
 mono:=fun _ h=>h
structure Qc where
 Err:Int
 Found:Bool
 Value:Str
 Pairs:(List Qf)
instance:Inhabited Qc:=⟨⟨0,false,[],[]⟩⟩
def r_api_Answer:Rep Qc where
 sz:=4
 R:=fun M x cs=>∃ v3,SlR Qm M v3 x.Pairs∧cs=[.int .i64 x.Err,.bool x.Found,.string (bs x.Value),v3]
 len:=fun ⟨v3,h3,h⟩=>by subst h;rfl
 one:=by
  rintro M x cs ⟨v3,h3,h⟩
  subst h
  obtain ⟨A3,c3,rfl,_⟩:=h3.form
  exact fun v hv=>List.all_eq_true.1 (show (List.all [.int .i64 x.Err,.bool x.Found,.string (bs x.Value),.slice A3 x.Pairs.length c3] (·.oneCell'))=true from rfl) v hv
 mono:=fun hM ⟨v3,h3,h⟩=>⟨v3,SlR.mono h3 hM,h⟩
structure YG where
 Task:Int
 Call:ZE
instance:Inhabited YG:=⟨⟨0,⟨0,0,[],[],[],0,0⟩⟩⟩
def Xi:Rep YG where
 sz:=8
 R:=fun _ x cs=>cs=[.int .i64 x.Task,.int .u8 x.Call.Kind,.int .i64 x.Call.Tx,.string (bs x.Call.Key),.string (bs x.Call.End),.string (bs x.Call.Value),.int .i64 x.Call.Limit,.int .u8 x.Call.Engine]
 len:=fun h=>by subst h;rfl
 one:=by
  intro M x cs h
  subst h
  exact fun v hv=>List.all_eq_true.1 (show (List.all [.int .i64 x.Task,.int .u8 x.Call.Kind,.int .i64 x.Call.Tx,.string (bs x.Call.Key),.string (bs x.Call.End),.string (bs x.Call.Value),.int .i64 x.Call.Limit,.int .u8 x.Call.Engine] (·.oneCell'))=true from rfl) v hv
 mono:=fun _ h=>h
structure Qj where
 Task:Int
 N:Int
 State:Int
 Snapshot:Int
instance:Inhabited Qj:=⟨⟨0,0,0,0⟩⟩
def QY:Rep Qj where
 sz:=4
 R:=fun _ x cs=>cs=[.int .i64 x.Task,.int .i64 x.N,.int .u8 x.State,.int .i64 x.Snapshot]
 len:=fun h=>by subst h;rfl
 one:=by
  intro M x cs h
  subst h
  exact fun v hv=>List.all_eq_true.1 (show (List.all [.int .i64 x.Task,.int .i64 x.N,.int .u8 x.State,.int .i64 x.Snapshot] (·.oneCell'))=true from rfl) v hv
 mono:=fun _ h=>h
structure QR where
 Key:Str
 L:(List QS)
 Has:Bool
 I:QS
instance:Inhabited QR:=⟨⟨[],[],false,⟨0,0,false,[]⟩⟩⟩
def QU:Rep QR where
 sz:=7
 R:=fun M x cs=>∃ v1,SlR Q4 M v1 x.L∧cs=[.string (bs x.Key),v1,.bool x.Has,.int .i64 x.I.Writer,.int .i64 x.I.TS,.bool x.I.Tomb,.string (bs x.I.Value)]
 len:=fun ⟨v1,h1,h⟩=>by subst h;rfl
 one:=by
  rintro M x cs ⟨v1,h1,h⟩
  subst h
  obtain ⟨A1,c1,rfl,_⟩:=h1.form
  exact fun v hv=>List.all_eq_true.1 (show (List.all [.string (bs x.Key),.slice A1 x.L.length c1,.bool x.Has,.int .i64 x.I.Writer,.int .i64 x.I.TS,.bool x.I.Tomb,.string (bs x.I.Value)] (·.oneCell'))=true from rfl) v hv
 mono:=fun hM ⟨v1,h1,h⟩=>⟨v1,SlR.mono h1 hM,h⟩
structure QH where
 C:Qw
 T:(List Qj)
 L:(List QR)
 Time:Int
 Low:Int
instance:Inhabited QH:=⟨⟨⟨0,0,0,0,0,0,0,0⟩,[],[],0,0⟩⟩
def r_ferrymanref16_Model:Rep QH where
 sz:=12
 R:=fun M x cs=>∃ v8 v9,SlR QY M v8 x.T∧SlR QU M v9 x.L∧cs=[.int .i64 x.C.Tasks,.int .i64 x.C.Active,.int .i64 x.C.Keys,.int .i64 x.C.Depth,.int .i64 x.C.TS,.int .i64 x.C.KeyLen,.int .i64 x.C.ValLen,.int .i64 x.C.Fan,v8,v9,.int .i64 x.Time,.int .i64 x.Low]
 len:=fun ⟨v8,v9,h8,h9,h⟩=>by subst h;rfl
 one:=by
  rintro M x cs ⟨v8,v9,h8,h9,h⟩
  subst h
  obtain ⟨A8,c8,rfl,_⟩:=h8.form
  obtain ⟨A9,c9,rfl,_⟩:=h9.form
  exact fun v hv=>List.all_eq_true.1 (show (List.all [.int .i64 x.C.Tasks,.int .i64 x.C.Active,.int .i64 x.C.Keys,.int .i64 x.C.Depth,.int .i64 x.C.TS,.int .i64 x.C.KeyLen,.int .i64 x.C.ValLen,.int .i64 x.C.Fan,.slice A8 x.T.length c8,.slice A9 x.L.length c9,.int .i64 x.Time,.int .i64 x.Low] (·.oneCell'))=true from rfl) v hv
 mono:=fun hM ⟨v8,v9,h8,h9,h⟩=>⟨v8,v9,SlR.mono h8 hM,SlR.mono h9 hM,h⟩
structure XO where
 n:Int
 low:Int
 high:Int
instance:Inhabited XO:=⟨⟨0,0,0⟩⟩
def r_text_bound:Rep XO where
 sz:=3
 R:=fun _ x cs=>cs=[.int .i64 x.n,.int .i64 x.low,.int .i64 x.high]
 len:=fun h=>by subst h;rfl
 one:=by
  intro M x cs h
  subst h
  exact fun v hv=>List.all_eq_true.1 (show (List.all [.int .i64 x.n,.int .i64 x.low,.int .i64 x.high] (·.oneCell'))=true from rfl) v hv
 mono:=fun _ h=>h
theorem key3:KeyT Tryd.prog 3 (Value.int .i64):=K0 Tryd.underlying3
theorem key9:KeyT Tryd.prog 9 encS:=Kz Tryd.underlying9
instance:DecidableEq Zi:=fun a b=>decidable_of_iff (a.task=b.task∧a.n=b.n) ⟨fun h=>by cases a;cases b;simp_all,fun h=>by subst h;simp⟩
def QF (x:Zi):Value:=.agg #[.int .i64 x.task,.int .i64 x.n]
theorem key104:KeyT Tryd.prog 104 QF:=JO Tryd.underlying104 (fun w a b=>by
  have h:=eq104 w a.task a.n b.task b.n
  have e:((a.task==b.task)&&(a.n==b.n))=decide (a=b):=by
   by_cases hc:a=b
   ·subst hc;simp
   ·have:¬ (a.task=b.task∧a.n=b.n):=fun hh=>hc (by cases a;cases b;simp_all)
    rw [decide_eq_false hc]
    simp only [← Bool.decide_and,Bool.and_eq_false_iff,beq_eq_false_iff_ne,ne_eq];by_cases h1:a.task=b.task <;> simp_all
  rw [← e];exact h)
 (fun w e a=>by
  have hi:∀ (n:Nat) (t:TypeId) (k:IntKind) (x:Int),Tryd.prog.underlying t=some (.int k)→(Instr.checkKey e (n+1) t (.int k x)).run Tryd.prog w=.ok () w:=fun n t k x hu=>by simp [Instr.checkKey,run_underlying hu,Result.andThen]
  have hb:∀ (n:Nat) (t:TypeId) (x:Bool),Tryd.prog.underlying t=some .bool→(Instr.checkKey e (n+1) t (.bool x)).run Tryd.prog w=.ok () w:=fun n t x hu=>by simp [Instr.checkKey,run_underlying hu,Result.andThen]
  have p0:(part 3 #[.int .i64 a.task,.int .i64 a.n] 0).run Tryd.prog w=.ok (.int .i64 a.task) w:=XN ty3 rfl
  have p1:(part 3 #[.int .i64 a.task,.int .i64 a.n] 1).run Tryd.prog w=.ok (.int .i64 a.n) w:=XN ty3 rfl
  have h:∀ n,(Instr.checkKey e (n+2) 104 (QF a)).run Tryd.prog w=.ok () w:=fun n=>by
   unfold Instr.checkKey
   simp [QF,run_underlying Tryd.underlying104,Result.andThen,p0,p1,hi n 3 _ _ Tryd.underlying3]
  exact h 9998) (fun a=>by
  have h:∀ n,Instr.sameBits (n+2) (QF a) (QF a)=true:=fun n=>by simp [Instr.sameBits,QF]
  exact h 9998)
abbrev B23 (b:Nat) (x:Qw) :Asr:=Blk b (.cells #[.int .i64 x.Tasks,.int .i64 x.Active,.int .i64 x.Keys,.int .i64 x.Depth,.int .i64 x.TS,.int .i64 x.KeyLen,.int .i64 x.ValLen,.int .i64 x.Fan] 23 (0,0))
abbrev B37 (b:Nat) (x:ZE) :Asr:=Blk b (.cells #[.int .u8 x.Kind,.int .i64 x.Tx,.string (bs x.Key),.string (bs x.End),.string (bs x.Value),.int .i64 x.Limit,.int .u8 x.Engine] 37 (0,0))
abbrev B39 (b:Nat) (x:YG) :Asr:=Blk b (.cells #[.int .i64 x.Task,.int .u8 x.Call.Kind,.int .i64 x.Call.Tx,.string (bs x.Call.Key),.string (bs x.Call.End),.string (bs x.Call.Value),.int .i64 x.Call.Limit,.int .u8 x.Call.Engine] 39 (0,0))
abbrev B43 (b:Nat) (x:Qc) (A3:Option Addr) (c3:Nat):Asr:=Blk b (.cells #[.int .i64 x.Err,.bool x.Found,.string (bs x.Value),.slice A3 x.Pairs.length c3] 43 (0,0))
abbrev B61 (b:Nat) (x:QS) :Asr:=Blk b (.cells #[.int .i64 x.Writer,.int .i64 x.TS,.bool x.Tomb,.string (bs x.Value)] 61 (0,0))
abbrev B94 (b:Nat) (x:QJ) (A8:Option Addr) (A9:Option Addr) (A10:Option Addr) (c10:Nat) (A11:Option Addr):Asr:=Blk b (.cells #[.int .i64 x.c.Tasks,.int .i64 x.c.Active,.int .i64 x.c.Keys,.int .i64 x.c.Depth,.int .i64 x.c.TS,.int .i64 x.c.KeyLen,.int .i64 x.c.ValLen,.int .i64 x.c.Fan,.map (mb A8),.map (mb A9),.slice A10 x.txs.length c10,.map (mb A11),.int .i64 x.clock,.int .i64 x.floor] 94 (0,0))
abbrev B101 (b:Nat) (x:Ql) (A0:Option Addr) (c0:Nat):Asr:=Blk b (.cells #[.slice A0 x.l.length c0,.int .i64 x.intent.Writer,.int .i64 x.intent.TS,.bool x.intent.Tomb,.string (bs x.intent.Value)] 101 (0,0))
abbrev B121 (b:Nat) (x:QH) (A8:Option Addr) (c8:Nat) (A9:Option Addr) (c9:Nat):Asr:=Blk b (.cells #[.int .i64 x.C.Tasks,.int .i64 x.C.Active,.int .i64 x.C.Keys,.int .i64 x.C.Depth,.int .i64 x.C.TS,.int .i64 x.C.KeyLen,.int .i64 x.C.ValLen,.int .i64 x.C.Fan,.slice A8 x.T.length c8,.slice A9 x.L.length c9,.int .i64 x.Time,.int .i64 x.Low] 121 (0,0))
abbrev B127 (b:Nat) (x:QR) (A1:Option Addr) (c1:Nat):Asr:=Blk b (.cells #[.string (bs x.Key),.slice A1 x.L.length c1,.bool x.Has,.int .i64 x.I.Writer,.int .i64 x.I.TS,.bool x.I.Tomb,.string (bs x.I.Value)] 127 (0,0))
abbrev cz19:Array Value:=#[vI 0,vI 0,vU 0,vI 0]
abbrev cz18:Ql:=⟨[],⟨0,0,false,[]⟩⟩
abbrev cz17:Str:=[115,112,111,105,108,116]
abbrev cz16:Array Value:=#[vI 0,vI 0,.bool false,vS ([]:Str)]
abbrev cz15:Array Value:=#[vI 2,vI 2,vI 2,vI 2,vI 2,vI 2,vI 2,vI 3]
abbrev cz14:Array Value:=#[vI 0,.bool false,vS ([]:Str),.slice none 0 0]
abbrev cz13:Array Value:=#[vI 35,.bool false,vS ([]:Str),.slice none 0 0]
abbrev cz12:Array Value:=#[vI 33,.bool false,vS ([]:Str),.slice none 0 0]
abbrev cz11:Array Value:=#[vI 34,.bool false,vS ([]:Str),.slice none 0 0]
abbrev cz10:Array Value:=#[vI (-7),.bool false,vS ([]:Str),.slice none 0 0]
abbrev cz9:Array Value:=#[.slice none 0 0,vI 0,vI 0,.bool false,vS ([]:Str)]
abbrev cz8:Qc:=⟨(0:Int),false,([]:Str),([]:List Qf)⟩
abbrev cz7:Qc:=⟨(35:Int),false,([]:Str),([]:List Qf)⟩
abbrev cz6:Qc:=⟨(33:Int),false,([]:Str),([]:List Qf)⟩
abbrev cz5:Qc:=⟨(34:Int),false,([]:Str),([]:List Qf)⟩
abbrev cz4:Qc:=⟨(-7:Int),false,([]:Str),([]:(List Qf))⟩
abbrev cz3:Array Value:=#[vS ([]:Str),.slice none 0 0,.bool false,vI 0,vI 0,.bool false,vS ([]:Str)]
abbrev cz2:Array Value:=#[vI 0,vI 0,vI 0,vI 0,vI 0,vI 0,vI 0,vI 0,.slice none 0 0,.slice none 0 0,vI 0,vI 0]
abbrev cz1:Array Value:=#[.nilFunc,.func (.func 124) #[] #[],.func (.func 125) #[] #[],.func (.func 126) #[] #[],.func (.func 127) #[] #[],.func (.func 128) #[] #[],.func (.func 129) #[] #[],.func (.func 130) #[] #[],.func (.func 131) #[] #[],.func (.func 132) #[] #[]]
abbrev cz0:Str:=[0,1,2,2,3,3,3,3,4,4,4,4,4,4,4,4,5,5,5,5,5,5,5,5,5,5,5,5,5,5,5,5,6,6,6,6,6,6,6,6,6,6,6,6,6,6,6,6,6,6,6,6,6,6,6,6,6,6,6,6,6,6,6,6,7,7,7,7,7,7,7,7,7,7,7,7,7,7,7,7,7,7,7,7,7,7,7,7,7,7,7,7,7,7,7,7,7,7,7,7,7,7,7,7,7,7,7,7,7,7,7,7,7,7,7,7,7,7,7,7,7,7,7,7,7,7,7,7,8,8,8,8,8,8,8,8,8,8,8,8,8,8,8,8,8,8,8,8,8,8,8,8,8,8,8,8,8,8,8,8,8,8,8,8,8,8,8,8,8,8,8,8,8,8,8,8,8,8,8,8,8,8,8,8,8,8,8,8,8,8,8,8,8,8,8,8,8,8,8,8,8,8,8,8,8,8,8,8,8,8,8,8,8,8,8,8,8,8,8,8,8,8,8,8,8,8,8,8,8,8,8,8,8,8,8,8,8,8,8,8,8,8,8,8,8,8,8,8,8,8,8,8,8,8,8,8]
end Go.Proofs.YtcngjjlhdlbogaaDoor
