import Derived.Test.YtnjbjpaiepefoaaGreatDoorTyt1
namespace Go.Proofs.YtnjbjpaiepefoaaGreatDoor
open Go
set_option linter.unusedVariables false
set_option linter.unusedSimpArgs false
set_option maxHeartbeats 80000000
set_option maxRecDepth 100000
abbrev pt (b o:Nat):Value:=.pointer (some ⟨b,o,none⟩)
structure QZ where
 Kind:Int
 Tx:Int
 Key:Str
 End:Str
 Value:Str
 Limit:Int
 Engine:Int
instance:Inhabited QZ:=⟨⟨0,0,[],[],[],0,0⟩⟩
def Yp:Rep QZ where
 sz:=7
 R:=fun _ x cs=>cs=[.int .u8 x.Kind,.int .i64 x.Tx,.string (bs x.Key),.string (bs x.End),.string (bs x.Value),.int .i64 x.Limit,.int .u8 x.Engine]
 len:=fun h=>by subst h;rfl
 one:=by
  intro M x cs h
  subst h
  exact fun v hv=>List.all_eq_true.1 (show (List.all [.int .u8 x.Kind,.int .i64 x.Tx,.string (bs x.Key),.string (bs x.End),.string (bs x.Value),.int .i64 x.Limit,.int .u8 x.Engine] (·.oneCell'))=true from rfl) v hv
 mono:=fun _ h=>h
structure Qo where
 Key:Str
 Value:Str
instance:Inhabited Qo:=⟨⟨[],[]⟩⟩
def Ql:Rep Qo where
 sz:=2
 R:=fun _ x cs=>cs=[.string (bs x.Key),.string (bs x.Value)]
 len:=fun h=>by subst h;rfl
 one:=by
  intro M x cs h
  subst h
  exact fun v hv=>List.all_eq_true.1 (show (List.all [.string (bs x.Key),.string (bs x.Value)] (·.oneCell'))=true from rfl) v hv
 mono:=fun _ h=>h
structure Qk where
 Err:Int
 Found:Bool
 Value:Str
 Pairs:(List Qo)
instance:Inhabited Qk:=⟨⟨0,false,[],[]⟩⟩
def Ks:Rep Qk where
 sz:=4
 R:=fun M x cs=>∃ v3,SlR Ql M v3 x.Pairs∧cs=[.int .i64 x.Err,.bool x.Found,.string (bs x.Value),v3]
 len:=fun ⟨v3,h3,h⟩=>by subst h;rfl
 one:=by
  rintro M x cs ⟨v3,h3,h⟩
  subst h
  obtain ⟨A3,c3,rfl,_⟩:=h3.form
  exact fun v hv=>List.all_eq_true.1 (show (List.all [.int .i64 x.Err,.bool x.Found,.string (bs x.Value),.slice A3 x.Pairs.length c3] (·.oneCell'))=true from rfl) v hv
 mono:=fun hM ⟨v3,h3,h⟩=>⟨v3,SlR.mono h3 hM,h⟩
structure QB where
 What:Int
 Task:Int
 Call:Int
 Answer:Qk
instance:Inhabited QB:=⟨⟨0,0,0,⟨0,false,[],[]⟩⟩⟩
def QV:Rep QB where
 sz:=7
 R:=fun M x cs=>∃ v6,SlR Ql M v6 x.Answer.Pairs∧cs=[.int .u8 x.What,.int .i64 x.Task,.int .i64 x.Call,.int .i64 x.Answer.Err,.bool x.Answer.Found,.string (bs x.Answer.Value),v6]
 len:=fun ⟨v6,h6,h⟩=>by subst h;rfl
 one:=by
  rintro M x cs ⟨v6,h6,h⟩
  subst h
  obtain ⟨A6,c6,rfl,_⟩:=h6.form
  exact fun v hv=>List.all_eq_true.1 (show (List.all [.int .u8 x.What,.int .i64 x.Task,.int .i64 x.Call,.int .i64 x.Answer.Err,.bool x.Answer.Found,.string (bs x.Answer.Value),.slice A6 x.Answer.Pairs.length c6] (·.oneCell'))=true from rfl) v hv
 mono:=fun hM ⟨v6,h6,h⟩=>⟨v6,SlR.mono h6 hM,h⟩
structure Qb where
 Tasks:Int
 Active:Int
 Keys:Int
 Depth:Int
 TS:Int
 KeyLen:Int
 ValLen:Int
 Fan:Int
instance:Inhabited Qb:=⟨⟨0,0,0,0,0,0,0,0⟩⟩
def Kr:Rep Qb where
 sz:=8
 R:=fun _ x cs=>cs=[.int .i64 x.Tasks,.int .i64 x.Active,.int .i64 x.Keys,.int .i64 x.Depth,.int .i64 x.TS,.int .i64 x.KeyLen,.int .i64 x.ValLen,.int .i64 x.Fan]
 len:=fun h=>by subst h;rfl
 one:=by
  intro M x cs h
  subst h
  exact fun v hv=>List.all_eq_true.1 (show (List.all [.int .i64 x.Tasks,.int .i64 x.Active,.int .i64 x.Keys,.int .i64 x.Depth,.int .i64 x.TS,.int .i64 x.KeyLen,.int .i64 x.ValLen,.int .i64 x.Fan] (·.oneCell'))=true from rfl) v hv
 mono:=fun _ h=>h
structure QS where
 Writer:Int
 TS:Int
 Tomb:Bool
 Value:Str
instance:Inhabited QS:=⟨⟨0,0,false,[]⟩⟩
def ZG:Rep QS where
 sz:=4
 R:=fun _ x cs=>cs=[.int .i64 x.Writer,.int .i64 x.TS,.bool x.Tomb,.string (bs x.Value)]
 len:=fun h=>by subst h;rfl
 one:=by
  intro M x cs h
  subst h
  exact fun v hv=>List.all_eq_true.1 (show (List.all [.int .i64 x.Writer,.int .i64 x.TS,.bool x.Tomb,.string (bs x.Value)] (·.oneCell'))=true from rfl) v hv
 mono:=fun _ h=>h
structure Yh where
 at_:Int
 calls:Int
instance:Inhabited Yh:=⟨⟨0,0⟩⟩
def YG:Rep Yh where
 sz:=2
 R:=fun _ x cs=>cs=[.int .i64 x.at_,.int .i64 x.calls]
 len:=fun h=>by subst h;rfl
 one:=by
  intro M x cs h
  subst h
  exact fun v hv=>List.all_eq_true.1 (show (List.all [.int .i64 x.at_,.int .i64 x.calls] (·.oneCell'))=true from rfl) v hv
 mono:=fun _ h=>h
structure Qj where
 tasks:(List Yh)
 l:(List QB)
instance:Inhabited Qj:=⟨⟨[],[]⟩⟩
def r_event_Recorder:Rep Qj where
 sz:=2
 R:=fun M x cs=>∃ v0 v1,SlR YG M v0 x.tasks∧SlR QV M v1 x.l∧cs=[v0,v1]
 len:=fun ⟨v0,v1,h0,h1,h⟩=>by subst h;rfl
 one:=by
  rintro M x cs ⟨v0,v1,h0,h1,h⟩
  subst h
  obtain ⟨A0,c0,rfl,_⟩:=h0.form
  obtain ⟨A1,c1,rfl,_⟩:=h1.form
  exact fun v hv=>List.all_eq_true.1 (show (List.all [.slice A0 x.tasks.length c0,.slice A1 x.l.length c1] (·.oneCell'))=true from rfl) v hv
 mono:=fun hM ⟨v0,v1,h0,h1,h⟩=>⟨v0,v1,SlR.mono h0 hM,SlR.mono h1 hM,h⟩
structure XW where
 task:Int
 n:Int
instance:Inhabited XW:=⟨⟨0,0⟩⟩
def r_model_name:Rep XW where
 sz:=2
 R:=fun _ x cs=>cs=[.int .i64 x.task,.int .i64 x.n]
 len:=fun h=>by subst h;rfl
 one:=by
  intro M x cs h
  subst h
  exact fun v hv=>List.all_eq_true.1 (show (List.all [.int .i64 x.task,.int .i64 x.n] (·.oneCell'))=true from rfl) v hv
 mono:=fun _ h=>h
structure Xd where
 state:Int
 snapshot:Int
instance:Inhabited Xd:=⟨⟨0,0⟩⟩
def QU:Rep Xd where
 sz:=2
 R:=fun _ x cs=>cs=[.int .u8 x.state,.int .i64 x.snapshot]
 len:=fun h=>by subst h;rfl
 one:=by
  intro M x cs h
  subst h
  exact fun v hv=>List.all_eq_true.1 (show (List.all [.int .u8 x.state,.int .i64 x.snapshot] (·.oneCell'))=true from rfl) v hv
 mono:=fun _ h=>h
structure Qm where
 l:(List QS)
 intent:QS
instance:Inhabited Qm:=⟨⟨[],⟨0,0,false,[]⟩⟩⟩
def Qv:Rep Qm where
 sz:=5
 R:=fun M x cs=>∃ v0,SlR ZG M v0 x.l∧cs=[v0,.int .i64 x.intent.Writer,.int .i64 x.intent.TS,.bool x.intent.Tomb,.string (bs x.intent.Value)]
 len:=fun ⟨v0,h0,h⟩=>by subst h;rfl
 one:=by
  rintro M x cs ⟨v0,h0,h⟩
  subst h
  obtain ⟨A0,c0,rfl,_⟩:=h0.form
  exact fun v hv=>List.all_eq_true.1 (show (List.all [.slice A0 x.l.length c0,.int .i64 x.intent.Writer,.int .i64 x.intent.TS,.bool x.intent.Tomb,.string (bs x.intent.Value)] (·.oneCell'))=true from rfl) v hv
 mono:=fun hM ⟨v0,h0,h⟩=>⟨v0,SlR.mono h0 hM,h⟩
structure QQ where
 c:Qb
 names:(List (XW×Int))
 many:(List (Int×Int))
 txs:(List Xd)
 rows:(List (Str×Qm))
 clock:Int
 floor:Int
instance:Inhabited QQ:=⟨⟨⟨0,0,0,0,0,0,0,0⟩,[],[],[],[],0,0⟩⟩
structure Qw where
 Task:Int
 Call:Int
 Answer:Qk
 Mark:Int
 Back:Int
instance:Inhabited Qw:=⟨⟨0,0,⟨0,false,[],[]⟩,0,0⟩⟩
def KR:Rep Qw where
 sz:=8
 R:=fun M x cs=>∃ v5,SlR Ql M v5 x.Answer.Pairs∧cs=[.int .i64 x.Task,.int .i64 x.Call,.int .i64 x.Answer.Err,.bool x.Answer.Found,.string (bs x.Answer.Value),v5,.int .i64 x.Mark,.int .i64 x.Back]
 len:=fun ⟨v5,h5,h⟩=>by subst h;rfl
 one:=by
  rintro M x cs ⟨v5,h5,h⟩
  subst h
  obtain ⟨A5,c5,rfl,_⟩:=h5.form
  exact fun v hv=>List.all_eq_true.1 (show (List.all [.int .i64 x.Task,.int .i64 x.Call,.int .i64 x.Answer.Err,.bool x.Answer.Found,.string (bs x.Answer.Value),.slice A5 x.Answer.Pairs.length c5,.int .i64 x.Mark,.int .i64 x.Back] (·.oneCell'))=true from rfl) v hv
 mono:=fun hM ⟨v5,h5,h⟩=>⟨v5,SlR.mono h5 hM,h⟩
structure XA where
 programs:(List (List QZ))
 r:Qj
 m:QQ
 done:(List Qw)
 last:(List Int)
instance:Inhabited XA:=⟨⟨[],⟨[],[]⟩,⟨⟨0,0,0,0,0,0,0,0⟩,[],[],[],[],0,0⟩,[],[]⟩⟩
structure Qh where
 Task:Int
 N:Int
 State:Int
 Snapshot:Int
instance:Inhabited Qh:=⟨⟨0,0,0,0⟩⟩
def QE:Rep Qh where
 sz:=4
 R:=fun _ x cs=>cs=[.int .i64 x.Task,.int .i64 x.N,.int .u8 x.State,.int .i64 x.Snapshot]
 len:=fun h=>by subst h;rfl
 one:=by
  intro M x cs h
  subst h
  exact fun v hv=>List.all_eq_true.1 (show (List.all [.int .i64 x.Task,.int .i64 x.N,.int .u8 x.State,.int .i64 x.Snapshot] (·.oneCell'))=true from rfl) v hv
 mono:=fun _ h=>h
structure Qn where
 Key:Str
 L:(List QS)
 Has:Bool
 I:QS
instance:Inhabited Qn:=⟨⟨[],[],false,⟨0,0,false,[]⟩⟩⟩
def Qg:Rep Qn where
 sz:=7
 R:=fun M x cs=>∃ v1,SlR ZG M v1 x.L∧cs=[.string (bs x.Key),v1,.bool x.Has,.int .i64 x.I.Writer,.int .i64 x.I.TS,.bool x.I.Tomb,.string (bs x.I.Value)]
 len:=fun ⟨v1,h1,h⟩=>by subst h;rfl
 one:=by
  rintro M x cs ⟨v1,h1,h⟩
  subst h
  obtain ⟨A1,c1,rfl,_⟩:=h1.form
  exact fun v hv=>List.all_eq_true.1 (show (List.all [.string (bs x.Key),.slice A1 x.L.length c1,.bool x.Has,.int .i64 x.I.Writer,.int .i64 x.I.TS,.bool x.I.Tomb,.string (bs x.I.Value)] (·.oneCell'))=true from rfl) v hv
 mono:=fun hM ⟨v1,h1,h⟩=>⟨v1,SlR.mono h1 hM,h⟩
structure QG where
 C:Qb
 T:(List Qh)
 L:(List Qn)
 Time:Int
 Low:Int
instance:Inhabited QG:=⟨⟨⟨0,0,0,0,0,0,0,0⟩,[],[],0,0⟩⟩
def r_ferrymanref16_Model:Rep QG where
 sz:=12
 R:=fun M x cs=>∃ v8 v9,SlR QE M v8 x.T∧SlR Qg M v9 x.L∧cs=[.int .i64 x.C.Tasks,.int .i64 x.C.Active,.int .i64 x.C.Keys,.int .i64 x.C.Depth,.int .i64 x.C.TS,.int .i64 x.C.KeyLen,.int .i64 x.C.ValLen,.int .i64 x.C.Fan,v8,v9,.int .i64 x.Time,.int .i64 x.Low]
 len:=fun ⟨v8,v9,h8,h9,h⟩=>by subst h;rfl
 one:=by
  rintro M x cs ⟨v8,v9,h8,h9,h⟩
  subst h
  obtain ⟨A8,c8,rfl,_⟩:=h8.form
  obtain ⟨A9,c9,rfl,_⟩:=h9.form
  exact fun v hv=>List.all_eq_true.1 (show (List.all [.int .i64 x.C.Tasks,.int .i64 x.C.Active,.int .i64 x.C.Keys,.int .i64 x.C.Depth,.int .i64 x.C.TS,.int .i64 x.C.KeyLen,.int .i64 x.C.ValLen,.int .i64 x.C.Fan,.slice A8 x.T.length c8,.slice A9 x.L.length c9,.int .i64 x.Time,.int .i64 x.Low] (·.oneCell'))=true from rfl) v hv
 mono:=fun hM ⟨v8,v9,h8,h9,h⟩=>⟨v8,v9,SlR.mono h8 hM,SlR.mono h9 hM,h⟩
structure Qi where
 Task:Int
 Call:Int
 Answer:Qk
 Mark:Int
 Back:Int
instance:Inhabited Qi:=⟨⟨0,0,⟨0,false,[],[]⟩,0,0⟩⟩
def Yu:Rep Qi where
 sz:=8
 R:=fun M x cs=>∃ v5,SlR Ql M v5 x.Answer.Pairs∧cs=[.int .i64 x.Task,.int .i64 x.Call,.int .i64 x.Answer.Err,.bool x.Answer.Found,.string (bs x.Answer.Value),v5,.int .i64 x.Mark,.int .i64 x.Back]
 len:=fun ⟨v5,h5,h⟩=>by subst h;rfl
 one:=by
  rintro M x cs ⟨v5,h5,h⟩
  subst h
  obtain ⟨A5,c5,rfl,_⟩:=h5.form
  exact fun v hv=>List.all_eq_true.1 (show (List.all [.int .i64 x.Task,.int .i64 x.Call,.int .i64 x.Answer.Err,.bool x.Answer.Found,.string (bs x.Answer.Value),.slice A5 x.Answer.Pairs.length c5,.int .i64 x.Mark,.int .i64 x.Back] (·.oneCell'))=true from rfl) v hv
 mono:=fun hM ⟨v5,h5,h⟩=>⟨v5,SlR.mono h5 hM,h⟩
structure VV where
 n:Int
 low:Int
 high:Int
instance:Inhabited VV:=⟨⟨0,0,0⟩⟩
def r_text_bound:Rep VV where
 sz:=3
 R:=fun _ x cs=>cs=[.int .i64 x.n,.int .i64 x.low,.int .i64 x.high]
 len:=fun h=>by subst h;rfl
 one:=by
  intro M x cs h
  subst h
  exact fun v hv=>List.all_eq_true.1 (show (List.all [.int .i64 x.n,.int .i64 x.low,.int .i64 x.high] (·.oneCell'))=true from rfl) v hv
 mono:=fun _ h=>h
def YR:NR Qw Qo where
 sz:=8
 cells:=fun x v=>[.int .i64 x.Task,.int .i64 x.Call,.int .i64 x.Answer.Err,.bool x.Answer.Found,.string (bs x.Answer.Value),v,.int .i64 x.Mark,.int .i64 x.Back]
 get:=fun x=>x.Answer.Pairs
 ri:=Ql
 ti:=66
 len:=fun _ _=>rfl
 one:=fun x v h u hu=>List.all_eq_true.1 (show List.all [.int .i64 x.Task,.int .i64 x.Call,.int .i64 x.Answer.Err,.bool x.Answer.Found,.string (bs x.Answer.Value),v,.int .i64 x.Mark,.int .i64 x.Back] (·.oneCell')=true by simp only [List.all_cons,List.all_nil,h];rfl) u hu
theorem nr_replay_Done:∀ (M:Hp) x v,SlR YR.ri M v (YR.get x)→KR.R M x (YR.cells x v):=fun _ _ _ h=>⟨_,h,rfl⟩
theorem key3:KeyT Tryz.prog 3 (Value.int .i64):=QBX Tryz.underlying3
theorem key9:KeyT Tryz.prog 9 encS:=QBW Tryz.underlying9
instance:DecidableEq XW:=fun a b=>decidable_of_iff (a.task=b.task∧a.n=b.n) ⟨fun h=>by cases a;cases b;simp_all,fun h=>by subst h;simp⟩
def QF (x:XW):Value:=.agg #[.int .i64 x.task,.int .i64 x.n]
theorem key144:KeyT Tryz.prog 144 QF:=qX Tryz.underlying144 (fun w a b=>by
  have h:=eq144 w a.task a.n b.task b.n
  have e:((a.task==b.task)&&(a.n==b.n))=decide (a=b):=by
   by_cases hc:a=b
   ·subst hc;simp
   ·have:¬ (a.task=b.task∧a.n=b.n):=fun hh=>hc (by cases a;cases b;simp_all)
    rw [decide_eq_false hc]
    simp only [← Bool.decide_and,Bool.and_eq_false_iff,beq_eq_false_iff_ne,ne_eq];by_cases h1:a.task=b.task<;>simp_all
  rw [← e];exact h)
 (fun w e a=>by
  have hi:∀ (n:Nat) (t:TypeId) (k:IntKind) (x:Int),Tryz.prog.underlying t=some (.int k)→(Instr.checkKey e (n+1) t (.int k x)).run Tryz.prog w=.ok () w:=fun n t k x hu=>by simp [Instr.checkKey,run_underlying hu,Result.andThen]
  have hb:∀ (n:Nat) (t:TypeId) (x:Bool),Tryz.prog.underlying t=some .bool→(Instr.checkKey e (n+1) t (.bool x)).run Tryz.prog w=.ok () w:=fun n t x hu=>by simp [Instr.checkKey,run_underlying hu,Result.andThen]
  have p0:(part 3 #[.int .i64 a.task,.int .i64 a.n] 0).run Tryz.prog w=.ok (.int .i64 a.task) w:=Vc ty3 rfl
  have p1:(part 3 #[.int .i64 a.task,.int .i64 a.n] 1).run Tryz.prog w=.ok (.int .i64 a.n) w:=Vc ty3 rfl
  have h:∀ n,(Instr.checkKey e (n+2) 144 (QF a)).run Tryz.prog w=.ok () w:=fun n=>by
   unfold Instr.checkKey
   simp [QF,run_underlying Tryz.underlying144,Result.andThen,p0,p1,hi n 3 _ _ Tryz.underlying3]
  exact h 9998) (fun a=>by
  have h:∀ n,Instr.sameBits (n+2) (QF a) (QF a)=true:=fun n=>by simp [Instr.sameBits,QF]
  exact h 9998)
abbrev B23 (b:Nat) (x:Qb) :Asr:=Blk b (.cells #[.int .i64 x.Tasks,.int .i64 x.Active,.int .i64 x.Keys,.int .i64 x.Depth,.int .i64 x.TS,.int .i64 x.KeyLen,.int .i64 x.ValLen,.int .i64 x.Fan] 23 (0,0))
abbrev B48 (b:Nat) (x:QG) (A8:Option Addr) (c8:Nat) (A9:Option Addr) (c9:Nat):Asr:=Blk b (.cells #[.int .i64 x.C.Tasks,.int .i64 x.C.Active,.int .i64 x.C.Keys,.int .i64 x.C.Depth,.int .i64 x.C.TS,.int .i64 x.C.KeyLen,.int .i64 x.C.ValLen,.int .i64 x.C.Fan,.slice A8 x.T.length c8,.slice A9 x.L.length c9,.int .i64 x.Time,.int .i64 x.Low] 48 (0,0))
abbrev B51 (b:Nat) (x:QS) :Asr:=Blk b (.cells #[.int .i64 x.Writer,.int .i64 x.TS,.bool x.Tomb,.string (bs x.Value)] 51 (0,0))
abbrev B56 (b:Nat) (x:Qn) (A1:Option Addr) (c1:Nat):Asr:=Blk b (.cells #[.string (bs x.Key),.slice A1 x.L.length c1,.bool x.Has,.int .i64 x.I.Writer,.int .i64 x.I.TS,.bool x.I.Tomb,.string (bs x.I.Value)] 56 (0,0))
abbrev B62 (b:Nat) (x:Qk) (A3:Option Addr) (c3:Nat):Asr:=Blk b (.cells #[.int .i64 x.Err,.bool x.Found,.string (bs x.Value),.slice A3 x.Pairs.length c3] 62 (0,0))
abbrev B64 (b:Nat) (x:QB) (A6:Option Addr) (c6:Nat):Asr:=Blk b (.cells #[.int .u8 x.What,.int .i64 x.Task,.int .i64 x.Call,.int .i64 x.Answer.Err,.bool x.Answer.Found,.string (bs x.Answer.Value),.slice A6 x.Answer.Pairs.length c6] 64 (0,0))
abbrev B69 (b:Nat) (x:QZ) :Asr:=Blk b (.cells #[.int .u8 x.Kind,.int .i64 x.Tx,.string (bs x.Key),.string (bs x.End),.string (bs x.Value),.int .i64 x.Limit,.int .u8 x.Engine] 69 (0,0))
abbrev B86 (b:Nat) (x:XA) (A0:Option Addr) (c0:Nat) (b1:Nat) (b2:Nat) (A3:Option Addr) (c3:Nat) (A4:Option Addr) (c4:Nat):Asr:=Blk b (.cells #[.slice A0 x.programs.length c0,.pointer (some ⟨b1,0,none⟩),.pointer (some ⟨b2,0,none⟩),.slice A3 x.done.length c3,.slice A4 x.last.length c4] 86 (0,0))
abbrev B102 (b:Nat) (x:Qm) (A0:Option Addr) (c0:Nat):Asr:=Blk b (.cells #[.slice A0 x.l.length c0,.int .i64 x.intent.Writer,.int .i64 x.intent.TS,.bool x.intent.Tomb,.string (bs x.intent.Value)] 102 (0,0))
abbrev B107 (b:Nat) (x:QQ) (A8:Option Addr) (A9:Option Addr) (A10:Option Addr) (c10:Nat) (A11:Option Addr):Asr:=Blk b (.cells #[.int .i64 x.c.Tasks,.int .i64 x.c.Active,.int .i64 x.c.Keys,.int .i64 x.c.Depth,.int .i64 x.c.TS,.int .i64 x.c.KeyLen,.int .i64 x.c.ValLen,.int .i64 x.c.Fan,.map (mb A8),.map (mb A9),.slice A10 x.txs.length c10,.map (mb A11),.int .i64 x.clock,.int .i64 x.floor] 107 (0,0))
abbrev cz22:Array Value:=#[.pointer none,vI 4]
abbrev cz21:Array Value:=#[.pointer none,vI 1]
abbrev cz20:Array Value:=#[vI 0,vI 0,vU 0,vI 0]
abbrev cz19:Qm:=⟨[],⟨0,0,false,[]⟩⟩
abbrev cz18:Array Value:=#[vI 0,vI 0,.bool false,vS ([]:Str)]
abbrev cz17:Array Value:=#[vI 0,.bool false,vS ([]:Str),.slice none 0 0]
abbrev cz16:Array Value:=#[vI 35,.bool false,vS ([]:Str),.slice none 0 0]
abbrev cz15:Array Value:=#[vI 33,.bool false,vS ([]:Str),.slice none 0 0]
abbrev cz14:Array Value:=#[vI 34,.bool false,vS ([]:Str),.slice none 0 0]
abbrev cz13:Array Value:=#[.slice none 0 0,vI 0,vI 0,.bool false,vS ([]:Str)]
abbrev cz12:Qk:=⟨(0:Int),false,([]:Str),([]:List Qo)⟩
abbrev cz11:Qk:=⟨(35:Int),false,([]:Str),([]:List Qo)⟩
abbrev cz10:Qk:=⟨(33:Int),false,([]:Str),([]:List Qo)⟩
abbrev cz9:Qk:=⟨(34:Int),false,([]:Str),([]:List Qo)⟩
abbrev cz8:Qk:=⟨(0:Int),false,([]:Str),([]:(List Qo))⟩
abbrev cz7:Array Value:=#[vU 1,vI 0,vS ([]:Str),vS ([]:Str),vS ([]:Str),vI 0,vU 0]
abbrev cz6:Array Value:=#[vU 0,vI 0,vI 0,vI 0,.bool false,vS ([]:Str),.slice none 0 0]
abbrev cz5:Array Value:=#[vU 0,vI 0,vS ([]:Str),vS ([]:Str),vS ([]:Str),vI 0,vU 0]
abbrev cz4:Array Value:=#[vS ([]:Str),.slice none 0 0,.bool false,vI 0,vI 0,.bool false,vS ([]:Str)]
abbrev cz3:Array Value:=#[.nilFunc,.func (.func 151) #[] #[],.func (.func 153) #[] #[],.func (.func 155) #[] #[]]
abbrev cz2:QZ:=⟨(1:Int),(0:Int),([]:Str),([]:Str),([]:Str),(0:Int),(0:Int)⟩
abbrev cz1:Array Value:=#[.nilFunc,.func (.func 158) #[] #[],.func (.func 159) #[] #[],.func (.func 160) #[] #[],.func (.func 161) #[] #[],.func (.func 162) #[] #[],.func (.func 163) #[] #[],.func (.func 164) #[] #[],.func (.func 165) #[] #[],.func (.func 166) #[] #[]]
abbrev cz0:Str:=[0,1,2,2,3,3,3,3,4,4,4,4,4,4,4,4,5,5,5,5,5,5,5,5,5,5,5,5,5,5,5,5,6,6,6,6,6,6,6,6,6,6,6,6,6,6,6,6,6,6,6,6,6,6,6,6,6,6,6,6,6,6,6,6,7,7,7,7,7,7,7,7,7,7,7,7,7,7,7,7,7,7,7,7,7,7,7,7,7,7,7,7,7,7,7,7,7,7,7,7,7,7,7,7,7,7,7,7,7,7,7,7,7,7,7,7,7,7,7,7,7,7,7,7,7,7,7,7,8,8,8,8,8,8,8,8,8,8,8,8,8,8,8,8,8,8,8,8,8,8,8,8,8,8,8,8,8,8,8,8,8,8,8,8,8,8,8,8,8,8,8,8,8,8,8,8,8,8,8,8,8,8,8,8,8,8,8,8,8,8,8,8,8,8,8,8,8,8,8,8,8,8,8,8,8,8,8,8,8,8,8,8,8,8,8,8,8,8,8,8,8,8,8,8,8,8,8,8,8,8,8,8,8,8,8,8,8,8,8,8,8,8,8,8,8,8,8,8,8,8,8,8,8,8,8,8]
abbrev ZJ (x:QZ):Array Value:=#[vU x.Kind,vI x.Tx,vS x.Key,vS x.End,vS x.Value,vI x.Limit,vU x.Engine]
abbrev QN (x:Qb):Array Value:=#[vI x.Tasks,vI x.Active,vI x.Keys,vI x.Depth,vI x.TS,vI x.KeyLen,vI x.ValLen,vI x.Fan]
abbrev Z2 (x:QS):Array Value:=#[vI x.Writer,vI x.TS,.bool x.Tomb,vS x.Value]
abbrev U1 (x:VV):Array Value:=#[vI x.n,vI x.low,vI x.high]
end Go.Proofs.YtnjbjpaiepefoaaGreatDoor
