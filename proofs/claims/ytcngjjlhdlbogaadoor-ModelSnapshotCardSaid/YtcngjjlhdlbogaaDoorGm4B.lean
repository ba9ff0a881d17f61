import Derived.Test.YtcngjjlhdlbogaaDoorTym4
namespace Go.Proofs.YtcngjjlhdlbogaaDoor
open Go
set_option linter.unusedVariables false
set_option linter.unusedSimpArgs false
abbrev pt (b o:Nat):Value:=.pointer (some ⟨b,o,none⟩)
structure api_Config where
 Tasks:Int
 Active:Int
 Keys:Int
 Depth:Int
 TS:Int
 KeyLen:Int
 ValLen:Int
 Fan:Int
instance:Inhabited api_Config:=⟨⟨0,0,0,0,0,0,0,0⟩⟩
def r_api_Config:Rep api_Config where
 sz:=8
 R:=fun _ x cs=>cs=[.int .i64 x.Tasks,.int .i64 x.Active,.int .i64 x.Keys,.int .i64 x.Depth,.int .i64 x.TS,.int .i64 x.KeyLen,.int .i64 x.ValLen,.int .i64 x.Fan]
 len:=fun h=>by subst h;rfl
 one:=by
  intro M x cs h
  subst h
  exact fun v hv=>List.all_eq_true.1 (show (List.all [.int .i64 x.Tasks,.int .i64 x.Active,.int .i64 x.Keys,.int .i64 x.Depth,.int .i64 x.TS,.int .i64 x.KeyLen,.int .i64 x.ValLen,.int .i64 x.Fan] (·.oneCell'))=true from rfl) v hv
 mono:=fun _ h=>h
structure api_Version where
 Writer:Int
 TS:Int
 Tomb:Bool
 Value:Str
instance:Inhabited api_Version:=⟨⟨0,0,false,[]⟩⟩
def r_api_Version:Rep api_Version where
 sz:=4
 R:=fun _ x cs=>cs=[.int .i64 x.Writer,.int .i64 x.TS,.bool x.Tomb,.string (bs x.Value)]
 len:=fun h=>by subst h;rfl
 one:=by
  intro M x cs h
  subst h
  exact fun v hv=>List.all_eq_true.1 (show (List.all [.int .i64 x.Writer,.int .i64 x.TS,.bool x.Tomb,.string (bs x.Value)] (·.oneCell'))=true from rfl) v hv
 mono:=fun _ h=>h
structure api_Call where
 Kind:Int
 Tx:Int
 Key:Str
 End:Str
 Value:Str
 Limit:Int
 Engine:Int
instance:Inhabited api_Call:=⟨⟨0,0,[],[],[],0,0⟩⟩
def r_api_Call:Rep api_Call where
 sz:=7
 R:=fun _ x cs=>cs=[.int .u8 x.Kind,.int .i64 x.Tx,.string (bs x.Key),.string (bs x.End),.string (bs x.Value),.int .i64 x.Limit,.int .u8 x.Engine]
 len:=fun h=>by subst h;rfl
 one:=by
  intro M x cs h
  subst h
  exact fun v hv=>List.all_eq_true.1 (show (List.all [.int .u8 x.Kind,.int .i64 x.Tx,.string (bs x.Key),.string (bs x.End),.string (bs x.Value),.int .i64 x.Limit,.int .u8 x.Engine] (·.oneCell'))=true from rfl) v hv
 mono:=fun _ h=>h
structure model_name where
 task:Int
 n:Int
instance:Inhabited model_name:=⟨⟨0,0⟩⟩
def r_model_name:Rep model_name where
 sz:=2
 R:=fun _ x cs=>cs=[.int .i64 x.task,.int .i64 x.n]
 len:=fun h=>by subst h;rfl
 one:=by
  intro M x cs h
  subst h
  exact fun v hv=>List.all_eq_true.1 (show (List.all [.int .i64 x.task,.int .i64 x.n] (·.oneCell'))=true from rfl) v hv
 mono:=fun _ h=>h
structure model_tx where
 state:Int
 snapshot:Int
instance:Inhabited model_tx:=⟨⟨0,0⟩⟩
def r_model_tx:Rep model_tx where
 sz:=2
 R:=fun _ x cs=>cs=[.int .u8 x.state,.int .i64 x.snapshot]
 len:=fun h=>by subst h;rfl
 one:=by
  intro M x cs h
  subst h
  exact fun v hv=>List.all_eq_true.1 (show (List.all [.int .u8 x.state,.int .i64 x.snapshot] (·.oneCell'))=true from rfl) v hv
 mono:=fun _ h=>h
structure model_row where
 l:(List api_Version)
 intent:api_Version
instance:Inhabited model_row:=⟨⟨[],⟨0,0,false,[]⟩⟩⟩
def r_model_row:Rep model_row where
 sz:=5
 R:=fun M x cs=>∃ v0,SlR r_api_Version M v0 x.l∧cs=[v0,.int .i64 x.intent.Writer,.int .i64 x.intent.TS,.bool x.intent.Tomb,.string (bs x.intent.Value)]
 len:=fun ⟨v0,h0,h⟩=>by subst h;rfl
 one:=by
  rintro M x cs ⟨v0,h0,h⟩
  subst h
  obtain ⟨A0,c0,rfl,_⟩:=h0.form
  exact fun v hv=>List.all_eq_true.1 (show (List.all [.slice A0 x.l.length c0,.int .i64 x.intent.Writer,.int .i64 x.intent.TS,.bool x.intent.Tomb,.string (bs x.intent.Value)] (·.oneCell'))=true from rfl) v hv
 mono:=fun hM ⟨v0,h0,h⟩=>⟨v0,SlR.mono h0 hM,h⟩
structure model_Model where
 c:api_Config
 names:(List (model_name×Int))
 many:(List (Int×Int))
 txs:(List model_tx)
 rows:(List (Str×model_row))
 clock:Int
 floor:Int
instance:Inhabited model_Model:=⟨⟨⟨0,0,0,0,0,0,0,0⟩,[],[],[],[],0,0⟩⟩
structure api_Pair where
 Key:Str
 Value:Str
instance:Inhabited api_Pair:=⟨⟨[],[]⟩⟩
def r_api_Pair:Rep api_Pair where
 sz:=2
 R:=fun _ x cs=>cs=[.string (bs x.Key),.string (bs x.Value)]
 len:=fun h=>by subst h;rfl
 one:=by
  intro M x cs h
  subst h
  exact fun v hv=>List.all_eq_true.1 (show (List.all [.string (bs x.Key),.string (bs x.Value)] (·.oneCell'))=true from rfl) v hv
 mono:=fun _ h=>h
structure api_Answer where
 Err:Int
 Found:Bool
 Value:Str
 Pairs:(List api_Pair)
instance:Inhabited api_Answer:=⟨⟨0,false,[],[]⟩⟩
def r_api_Answer:Rep api_Answer where
 sz:=4
 R:=fun M x cs=>∃ v3,SlR r_api_Pair M v3 x.Pairs∧cs=[.int .i64 x.Err,.bool x.Found,.string (bs x.Value),v3]
 len:=fun ⟨v3,h3,h⟩=>by subst h;rfl
 one:=by
  rintro M x cs ⟨v3,h3,h⟩
  subst h
  obtain ⟨A3,c3,rfl,_⟩:=h3.form
  exact fun v hv=>List.all_eq_true.1 (show (List.all [.int .i64 x.Err,.bool x.Found,.string (bs x.Value),.slice A3 x.Pairs.length c3] (·.oneCell'))=true from rfl) v hv
 mono:=fun hM ⟨v3,h3,h⟩=>⟨v3,SlR.mono h3 hM,h⟩
structure ferrymanlaw16_Turn where
 Task:Int
 Call:api_Call
instance:Inhabited ferrymanlaw16_Turn:=⟨⟨0,⟨0,0,[],[],[],0,0⟩⟩⟩
def r_ferrymanlaw16_Turn:Rep ferrymanlaw16_Turn where
 sz:=8
 R:=fun _ x cs=>cs=[.int .i64 x.Task,.int .u8 x.Call.Kind,.int .i64 x.Call.Tx,.string (bs x.Call.Key),.string (bs x.Call.End),.string (bs x.Call.Value),.int .i64 x.Call.Limit,.int .u8 x.Call.Engine]
 len:=fun h=>by subst h;rfl
 one:=by
  intro M x cs h
  subst h
  exact fun v hv=>List.all_eq_true.1 (show (List.all [.int .i64 x.Task,.int .u8 x.Call.Kind,.int .i64 x.Call.Tx,.string (bs x.Call.Key),.string (bs x.Call.End),.string (bs x.Call.Value),.int .i64 x.Call.Limit,.int .u8 x.Call.Engine] (·.oneCell'))=true from rfl) v hv
 mono:=fun _ h=>h
structure ferrymanlaw16_fact where
 ts:Int
 key:Str
 tomb:Bool
 value:Str
instance:Inhabited ferrymanlaw16_fact:=⟨⟨0,[],false,[]⟩⟩
def r_ferrymanlaw16_fact:Rep ferrymanlaw16_fact where
 sz:=4
 R:=fun _ x cs=>cs=[.int .i64 x.ts,.string (bs x.key),.bool x.tomb,.string (bs x.value)]
 len:=fun h=>by subst h;rfl
 one:=by
  intro M x cs h
  subst h
  exact fun v hv=>List.all_eq_true.1 (show (List.all [.int .i64 x.ts,.string (bs x.key),.bool x.tomb,.string (bs x.value)] (·.oneCell'))=true from rfl) v hv
 mono:=fun _ h=>h
structure ferrymanlaw16_life where
 task:Int
 n:Int
 snapshot:Int
 writes:(List ferrymanlaw16_fact)
 begun:Int
 over:Int
instance:Inhabited ferrymanlaw16_life:=⟨⟨0,0,0,[],0,0⟩⟩
def r_ferrymanlaw16_life:Rep ferrymanlaw16_life where
 sz:=6
 R:=fun M x cs=>∃ v3,SlR r_ferrymanlaw16_fact M v3 x.writes∧cs=[.int .i64 x.task,.int .i64 x.n,.int .i64 x.snapshot,v3,.int .i64 x.begun,.int .i64 x.over]
 len:=fun ⟨v3,h3,h⟩=>by subst h;rfl
 one:=by
  rintro M x cs ⟨v3,h3,h⟩
  subst h
  obtain ⟨A3,c3,rfl,_⟩:=h3.form
  exact fun v hv=>List.all_eq_true.1 (show (List.all [.int .i64 x.task,.int .i64 x.n,.int .i64 x.snapshot,.slice A3 x.writes.length c3,.int .i64 x.begun,.int .i64 x.over] (·.oneCell'))=true from rfl) v hv
 mono:=fun hM ⟨v3,h3,h⟩=>⟨v3,SlR.mono h3 hM,h⟩
structure ferrymanlaw16_log where
 time:Int
 facts:(List ferrymanlaw16_fact)
 lives:(List ferrymanlaw16_life)
instance:Inhabited ferrymanlaw16_log:=⟨⟨0,[],[]⟩⟩
def r_ferrymanlaw16_log:Rep ferrymanlaw16_log where
 sz:=3
 R:=fun M x cs=>∃ v1 v2,SlR r_ferrymanlaw16_fact M v1 x.facts∧SlR r_ferrymanlaw16_life M v2 x.lives∧cs=[.int .i64 x.time,v1,v2]
 len:=fun ⟨v1,v2,h1,h2,h⟩=>by subst h;rfl
 one:=by
  rintro M x cs ⟨v1,v2,h1,h2,h⟩
  subst h
  obtain ⟨A1,c1,rfl,_⟩:=h1.form
  obtain ⟨A2,c2,rfl,_⟩:=h2.form
  exact fun v hv=>List.all_eq_true.1 (show (List.all [.int .i64 x.time,.slice A1 x.facts.length c1,.slice A2 x.lives.length c2] (·.oneCell'))=true from rfl) v hv
 mono:=fun hM ⟨v1,v2,h1,h2,h⟩=>⟨v1,v2,SlR.mono h1 hM,SlR.mono h2 hM,h⟩
structure text_bound where
 n:Int
 low:Int
 high:Int
instance:Inhabited text_bound:=⟨⟨0,0,0⟩⟩
def r_text_bound:Rep text_bound where
 sz:=3
 R:=fun _ x cs=>cs=[.int .i64 x.n,.int .i64 x.low,.int .i64 x.high]
 len:=fun h=>by subst h;rfl
 one:=by
  intro M x cs h
  subst h
  exact fun v hv=>List.all_eq_true.1 (show (List.all [.int .i64 x.n,.int .i64 x.low,.int .i64 x.high] (·.oneCell'))=true from rfl) v hv
 mono:=fun _ h=>h
def n_ferrymanlaw16_life:NR ferrymanlaw16_life ferrymanlaw16_fact where
 sz:=6
 cells:=fun x v=>[.int .i64 x.task,.int .i64 x.n,.int .i64 x.snapshot,v,.int .i64 x.begun,.int .i64 x.over]
 get:=fun x=>x.writes
 ri:=r_ferrymanlaw16_fact
 ti:=54
 len:=fun _ _=>rfl
 one:=fun x v h u hu=>List.all_eq_true.1 (show List.all [.int .i64 x.task,.int .i64 x.n,.int .i64 x.snapshot,v,.int .i64 x.begun,.int .i64 x.over] (·.oneCell')=true by simp only [List.all_cons,List.all_nil,h];rfl) u hu
theorem nr_ferrymanlaw16_life:∀ (M:Hp) x v,SlR n_ferrymanlaw16_life.ri M v (n_ferrymanlaw16_life.get x)→r_ferrymanlaw16_life.R M x (n_ferrymanlaw16_life.cells x v):=fun _ _ _ h=>⟨_,h,rfl⟩
theorem key3:KeyT Tryd.prog 3 (Value.int .i64):=keyT_int Tryd.underlying3
theorem key9:KeyT Tryd.prog 9 encS:=keyT_str Tryd.underlying9
instance:DecidableEq model_name:=fun a b=>decidable_of_iff (a.task=b.task∧a.n=b.n) ⟨fun h=>by cases a;cases b;simp_all,fun h=>by subst h;simp⟩
def enc_model_name (x:model_name):Value:=.agg #[.int .i64 x.task,.int .i64 x.n]
theorem key104:KeyT Tryd.prog 104 enc_model_name:=keyT_struct Tryd.underlying104 (fun w a b=>by
  have h:=eq104 w a.task a.n b.task b.n
  have e:((a.task==b.task)&&(a.n==b.n))=decide (a=b):=by
   by_cases hc:a=b
   ·subst hc;simp
   ·have:¬ (a.task=b.task∧a.n=b.n):=fun hh=>hc (by cases a;cases b;simp_all)
    rw [decide_eq_false hc]
    simp only [← Bool.decide_and,Bool.and_eq_false_iff,beq_eq_false_iff_ne,ne_eq];by_cases h1:a.task=b.task<;>simp_all
  rw [← e];exact h)
 (fun w e a=>by
  have hi:∀ (n:Nat) (t:TypeId) (k:IntKind) (x:Int),Tryd.prog.underlying t=some (.int k)→(Instr.checkKey e (n+1) t (.int k x)).run Tryd.prog w=.ok () w:=fun n t k x hu=>by simp [Instr.checkKey,run_underlying hu,Result.andThen]
  have hb:∀ (n:Nat) (t:TypeId) (x:Bool),Tryd.prog.underlying t=some .bool→(Instr.checkKey e (n+1) t (.bool x)).run Tryd.prog w=.ok () w:=fun n t x hu=>by simp [Instr.checkKey,run_underlying hu,Result.andThen]
  have p0:(part 3 #[.int .i64 a.task,.int .i64 a.n] 0).run Tryd.prog w=.ok (.int .i64 a.task) w:=part_one ty3 rfl
  have p1:(part 3 #[.int .i64 a.task,.int .i64 a.n] 1).run Tryd.prog w=.ok (.int .i64 a.n) w:=part_one ty3 rfl
  have h:∀ n,(Instr.checkKey e (n+2) 104 (enc_model_name a)).run Tryd.prog w=.ok () w:=fun n=>by
   unfold Instr.checkKey
   simp [enc_model_name,run_underlying Tryd.underlying104,Result.andThen,p0,p1,hi n 3 _ _ Tryd.underlying3]
  exact h 9998) (fun a=>by
  have h:∀ n,Instr.sameBits (n+2) (enc_model_name a) (enc_model_name a)=true:=fun n=>by simp [Instr.sameBits,enc_model_name]
  exact h 9998)
abbrev B23 (b:Nat) (x:api_Config) :Asr:=Blk b (.cells #[.int .i64 x.Tasks,.int .i64 x.Active,.int .i64 x.Keys,.int .i64 x.Depth,.int .i64 x.TS,.int .i64 x.KeyLen,.int .i64 x.ValLen,.int .i64 x.Fan] 23 (0,0))
abbrev B37 (b:Nat) (x:api_Call) :Asr:=Blk b (.cells #[.int .u8 x.Kind,.int .i64 x.Tx,.string (bs x.Key),.string (bs x.End),.string (bs x.Value),.int .i64 x.Limit,.int .u8 x.Engine] 37 (0,0))
abbrev B39 (b:Nat) (x:ferrymanlaw16_Turn) :Asr:=Blk b (.cells #[.int .i64 x.Task,.int .u8 x.Call.Kind,.int .i64 x.Call.Tx,.string (bs x.Call.Key),.string (bs x.Call.End),.string (bs x.Call.Value),.int .i64 x.Call.Limit,.int .u8 x.Call.Engine] 39 (0,0))
abbrev B43 (b:Nat) (x:api_Answer) (A3:Option Addr) (c3:Nat):Asr:=Blk b (.cells #[.int .i64 x.Err,.bool x.Found,.string (bs x.Value),.slice A3 x.Pairs.length c3] 43 (0,0))
abbrev B52 (b:Nat) (x:ferrymanlaw16_life) (A3:Option Addr) (c3:Nat):Asr:=Blk b (.cells #[.int .i64 x.task,.int .i64 x.n,.int .i64 x.snapshot,.slice A3 x.writes.length c3,.int .i64 x.begun,.int .i64 x.over] 52 (0,0))
abbrev B54 (b:Nat) (x:ferrymanlaw16_fact) :Asr:=Blk b (.cells #[.int .i64 x.ts,.string (bs x.key),.bool x.tomb,.string (bs x.value)] 54 (0,0))
abbrev B61 (b:Nat) (x:api_Version) :Asr:=Blk b (.cells #[.int .i64 x.Writer,.int .i64 x.TS,.bool x.Tomb,.string (bs x.Value)] 61 (0,0))
abbrev B94 (b:Nat) (x:model_Model) (A8:Option Addr) (A9:Option Addr) (A10:Option Addr) (c10:Nat) (A11:Option Addr):Asr:=Blk b (.cells #[.int .i64 x.c.Tasks,.int .i64 x.c.Active,.int .i64 x.c.Keys,.int .i64 x.c.Depth,.int .i64 x.c.TS,.int .i64 x.c.KeyLen,.int .i64 x.c.ValLen,.int .i64 x.c.Fan,.map (mb A8),.map (mb A9),.slice A10 x.txs.length c10,.map (mb A11),.int .i64 x.clock,.int .i64 x.floor] 94 (0,0))
abbrev B101 (b:Nat) (x:model_row) (A0:Option Addr) (c0:Nat):Asr:=Blk b (.cells #[.slice A0 x.l.length c0,.int .i64 x.intent.Writer,.int .i64 x.intent.TS,.bool x.intent.Tomb,.string (bs x.intent.Value)] 101 (0,0))
end Go.Proofs.YtcngjjlhdlbogaaDoor
