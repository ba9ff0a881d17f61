import Derived.Test.YtkknoimjgifhlaaDoorTyr1
namespace Go.Proofs.YtkknoimjgifhlaaDoor
open Go
set_option linter.unusedVariables false
set_option linter.unusedSimpArgs false
abbrev pt (b o : Nat) : Value := .pointer (some ⟨b, o, none⟩)
structure api_Config where
  Tasks : Int
  Active : Int
  Keys : Int
  Depth : Int
  TS : Int
  KeyLen : Int
  ValLen : Int
  Fan : Int
instance : Inhabited api_Config := ⟨⟨0, 0, 0, 0, 0, 0, 0, 0⟩⟩
def r_api_Config : Rep api_Config where
  sz := 8
  R := fun _ x cs => cs = [.int .i64 x.Tasks, .int .i64 x.Active, .int .i64 x.Keys, .int .i64 x.Depth, .int .i64 x.TS, .int .i64 x.KeyLen, .int .i64 x.ValLen, .int .i64 x.Fan]
  len := fun h => by subst h; rfl
  one := by
    intro M x cs h
    subst h
    exact fun v hv => List.all_eq_true.1 (show (List.all [.int .i64 x.Tasks, .int .i64 x.Active, .int .i64 x.Keys, .int .i64 x.Depth, .int .i64 x.TS, .int .i64 x.KeyLen, .int .i64 x.ValLen, .int .i64 x.Fan] (·.oneCell')) = true from rfl) v hv
  mono := fun _ h => h
structure api_Call where
  Kind : Int
  Tx : Int
  Key : Str
  End : Str
  Value : Str
  Limit : Int
  Engine : Int
instance : Inhabited api_Call := ⟨⟨0, 0, [], [], [], 0, 0⟩⟩
def r_api_Call : Rep api_Call where
  sz := 7
  R := fun _ x cs => cs = [.int .u8 x.Kind, .int .i64 x.Tx, .string (bs x.Key), .string (bs x.End), .string (bs x.Value), .int .i64 x.Limit, .int .u8 x.Engine]
  len := fun h => by subst h; rfl
  one := by
    intro M x cs h
    subst h
    exact fun v hv => List.all_eq_true.1 (show (List.all [.int .u8 x.Kind, .int .i64 x.Tx, .string (bs x.Key), .string (bs x.End), .string (bs x.Value), .int .i64 x.Limit, .int .u8 x.Engine] (·.oneCell')) = true from rfl) v hv
  mono := fun _ h => h
structure api_Version where
  Writer : Int
  TS : Int
  Tomb : Bool
  Value : Str
instance : Inhabited api_Version := ⟨⟨0, 0, false, []⟩⟩
def r_api_Version : Rep api_Version where
  sz := 4
  R := fun _ x cs => cs = [.int .i64 x.Writer, .int .i64 x.TS, .bool x.Tomb, .string (bs x.Value)]
  len := fun h => by subst h; rfl
  one := by
    intro M x cs h
    subst h
    exact fun v hv => List.all_eq_true.1 (show (List.all [.int .i64 x.Writer, .int .i64 x.TS, .bool x.Tomb, .string (bs x.Value)] (·.oneCell')) = true from rfl) v hv
  mono := fun _ h => h
structure api_Pair where
  Key : Str
  Value : Str
instance : Inhabited api_Pair := ⟨⟨[], []⟩⟩
def r_api_Pair : Rep api_Pair where
  sz := 2
  R := fun _ x cs => cs = [.string (bs x.Key), .string (bs x.Value)]
  len := fun h => by subst h; rfl
  one := by
    intro M x cs h
    subst h
    exact fun v hv => List.all_eq_true.1 (show (List.all [.string (bs x.Key), .string (bs x.Value)] (·.oneCell')) = true from rfl) v hv
  mono := fun _ h => h
structure api_Answer where
  Err : Int
  Found : Bool
  Value : Str
  Pairs : (List api_Pair)
instance : Inhabited api_Answer := ⟨⟨0, false, [], []⟩⟩
def r_api_Answer : Rep api_Answer where
  sz := 4
  R := fun M x cs => ∃ v3, SlR r_api_Pair M v3 x.Pairs ∧ cs = [.int .i64 x.Err, .bool x.Found, .string (bs x.Value), v3]
  len := fun ⟨v3, h3, h⟩ => by subst h; rfl
  one := by
    rintro M x cs ⟨v3, h3, h⟩
    subst h
    obtain ⟨A3, c3, rfl, _⟩ := h3.form
    exact fun v hv => List.all_eq_true.1 (show (List.all [.int .i64 x.Err, .bool x.Found, .string (bs x.Value), .slice A3 x.Pairs.length c3] (·.oneCell')) = true from rfl) v hv
  mono := fun hM ⟨v3, h3, h⟩ => ⟨v3, SlR.mono h3 hM, h⟩
structure api_Event where
  What : Int
  Task : Int
  Call : Int
  Answer : api_Answer
instance : Inhabited api_Event := ⟨⟨0, 0, 0, ⟨0, false, [], []⟩⟩⟩
def r_api_Event : Rep api_Event where
  sz := 7
  R := fun M x cs => ∃ v6, SlR r_api_Pair M v6 x.Answer.Pairs ∧ cs = [.int .u8 x.What, .int .i64 x.Task, .int .i64 x.Call, .int .i64 x.Answer.Err, .bool x.Answer.Found, .string (bs x.Answer.Value), v6]
  len := fun ⟨v6, h6, h⟩ => by subst h; rfl
  one := by
    rintro M x cs ⟨v6, h6, h⟩
    subst h
    obtain ⟨A6, c6, rfl, _⟩ := h6.form
    exact fun v hv => List.all_eq_true.1 (show (List.all [.int .u8 x.What, .int .i64 x.Task, .int .i64 x.Call, .int .i64 x.Answer.Err, .bool x.Answer.Found, .string (bs x.Answer.Value), .slice A6 x.Answer.Pairs.length c6] (·.oneCell')) = true from rfl) v hv
  mono := fun hM ⟨v6, h6, h⟩ => ⟨v6, SlR.mono h6 hM, h⟩
structure event_task where
  at_ : Int
  calls : Int
instance : Inhabited event_task := ⟨⟨0, 0⟩⟩
def r_event_task : Rep event_task where
  sz := 2
  R := fun _ x cs => cs = [.int .i64 x.at_, .int .i64 x.calls]
  len := fun h => by subst h; rfl
  one := by
    intro M x cs h
    subst h
    exact fun v hv => List.all_eq_true.1 (show (List.all [.int .i64 x.at_, .int .i64 x.calls] (·.oneCell')) = true from rfl) v hv
  mono := fun _ h => h
structure event_Recorder where
  tasks : (List event_task)
  l : (List api_Event)
instance : Inhabited event_Recorder := ⟨⟨[], []⟩⟩
def r_event_Recorder : Rep event_Recorder where
  sz := 2
  R := fun M x cs => ∃ v0 v1, SlR r_event_task M v0 x.tasks ∧ SlR r_api_Event M v1 x.l ∧ cs = [v0, v1]
  len := fun ⟨v0, v1, h0, h1, h⟩ => by subst h; rfl
  one := by
    rintro M x cs ⟨v0, v1, h0, h1, h⟩
    subst h
    obtain ⟨A0, c0, rfl, _⟩ := h0.form
    obtain ⟨A1, c1, rfl, _⟩ := h1.form
    exact fun v hv => List.all_eq_true.1 (show (List.all [.slice A0 x.tasks.length c0, .slice A1 x.l.length c1] (·.oneCell')) = true from rfl) v hv
  mono := fun hM ⟨v0, v1, h0, h1, h⟩ => ⟨v0, v1, SlR.mono h0 hM, SlR.mono h1 hM, h⟩
structure model_name where
  task : Int
  n : Int
instance : Inhabited model_name := ⟨⟨0, 0⟩⟩
def r_model_name : Rep model_name where
  sz := 2
  R := fun _ x cs => cs = [.int .i64 x.task, .int .i64 x.n]
  len := fun h => by subst h; rfl
  one := by
    intro M x cs h
    subst h
    exact fun v hv => List.all_eq_true.1 (show (List.all [.int .i64 x.task, .int .i64 x.n] (·.oneCell')) = true from rfl) v hv
  mono := fun _ h => h
structure model_tx where
  state : Int
  snapshot : Int
instance : Inhabited model_tx := ⟨⟨0, 0⟩⟩
def r_model_tx : Rep model_tx where
  sz := 2
  R := fun _ x cs => cs = [.int .u8 x.state, .int .i64 x.snapshot]
  len := fun h => by subst h; rfl
  one := by
    intro M x cs h
    subst h
    exact fun v hv => List.all_eq_true.1 (show (List.all [.int .u8 x.state, .int .i64 x.snapshot] (·.oneCell')) = true from rfl) v hv
  mono := fun _ h => h
structure model_row where
  l : (List api_Version)
  intent : api_Version
instance : Inhabited model_row := ⟨⟨[], ⟨0, 0, false, []⟩⟩⟩
def r_model_row : Rep model_row where
  sz := 5
  R := fun M x cs => ∃ v0, SlR r_api_Version M v0 x.l ∧ cs = [v0, .int .i64 x.intent.Writer, .int .i64 x.intent.TS, .bool x.intent.Tomb, .string (bs x.intent.Value)]
  len := fun ⟨v0, h0, h⟩ => by subst h; rfl
  one := by
    rintro M x cs ⟨v0, h0, h⟩
    subst h
    obtain ⟨A0, c0, rfl, _⟩ := h0.form
    exact fun v hv => List.all_eq_true.1 (show (List.all [.slice A0 x.l.length c0, .int .i64 x.intent.Writer, .int .i64 x.intent.TS, .bool x.intent.Tomb, .string (bs x.intent.Value)] (·.oneCell')) = true from rfl) v hv
  mono := fun hM ⟨v0, h0, h⟩ => ⟨v0, SlR.mono h0 hM, h⟩
structure model_Model where
  c : api_Config
  names : (List (model_name × Int))
  many : (List (Int × Int))
  txs : (List model_tx)
  rows : (List (Str × model_row))
  clock : Int
  floor : Int
instance : Inhabited model_Model := ⟨⟨⟨0, 0, 0, 0, 0, 0, 0, 0⟩, [], [], [], [], 0, 0⟩⟩
structure replay_Done where
  Task : Int
  Call : Int
  Answer : api_Answer
  Mark : Int
  Back : Int
instance : Inhabited replay_Done := ⟨⟨0, 0, ⟨0, false, [], []⟩, 0, 0⟩⟩
def r_replay_Done : Rep replay_Done where
  sz := 8
  R := fun M x cs => ∃ v5, SlR r_api_Pair M v5 x.Answer.Pairs ∧ cs = [.int .i64 x.Task, .int .i64 x.Call, .int .i64 x.Answer.Err, .bool x.Answer.Found, .string (bs x.Answer.Value), v5, .int .i64 x.Mark, .int .i64 x.Back]
  len := fun ⟨v5, h5, h⟩ => by subst h; rfl
  one := by
    rintro M x cs ⟨v5, h5, h⟩
    subst h
    obtain ⟨A5, c5, rfl, _⟩ := h5.form
    exact fun v hv => List.all_eq_true.1 (show (List.all [.int .i64 x.Task, .int .i64 x.Call, .int .i64 x.Answer.Err, .bool x.Answer.Found, .string (bs x.Answer.Value), .slice A5 x.Answer.Pairs.length c5, .int .i64 x.Mark, .int .i64 x.Back] (·.oneCell')) = true from rfl) v hv
  mono := fun hM ⟨v5, h5, h⟩ => ⟨v5, SlR.mono h5 hM, h⟩
structure replay_run where
  programs : (List (List api_Call))
  r : event_Recorder
  m : model_Model
  done : (List replay_Done)
  last : (List Int)
instance : Inhabited replay_run := ⟨⟨[], ⟨[], []⟩, ⟨⟨0, 0, 0, 0, 0, 0, 0, 0⟩, [], [], [], [], 0, 0⟩, [], []⟩⟩
structure St62 where
  many : Int
  slots : Int
  anchor : Int
instance : Inhabited St62 := ⟨⟨0, 0, 0⟩⟩
def r_St62 : Rep St62 where
  sz := 3
  R := fun _ x cs => cs = [.int .i64 x.many, .int .i64 x.slots, .int .i64 x.anchor]
  len := fun h => by subst h; rfl
  one := by
    intro M x cs h
    subst h
    exact fun v hv => List.all_eq_true.1 (show (List.all [.int .i64 x.many, .int .i64 x.slots, .int .i64 x.anchor] (·.oneCell')) = true from rfl) v hv
  mono := fun _ h => h
structure text_bound where
  n : Int
  low : Int
  high : Int
instance : Inhabited text_bound := ⟨⟨0, 0, 0⟩⟩
def r_text_bound : Rep text_bound where
  sz := 3
  R := fun _ x cs => cs = [.int .i64 x.n, .int .i64 x.low, .int .i64 x.high]
  len := fun h => by subst h; rfl
  one := by
    intro M x cs h
    subst h
    exact fun v hv => List.all_eq_true.1 (show (List.all [.int .i64 x.n, .int .i64 x.low, .int .i64 x.high] (·.oneCell')) = true from rfl) v hv
  mono := fun _ h => h
theorem key3 : KeyT Tryd.prog 3 (Value.int .i64) := keyT_int Tryd.underlying3
theorem key9 : KeyT Tryd.prog 9 encS := keyT_str Tryd.underlying9
instance : DecidableEq model_name := fun a b => decidable_of_iff (a.task = b.task ∧ a.n = b.n) ⟨fun h => by cases a; cases b; simp_all, fun h => by subst h; simp⟩
def enc_model_name (x : model_name) : Value := .agg #[.int .i64 x.task, .int .i64 x.n]
theorem key107 : KeyT Tryd.prog 107 enc_model_name := keyT_struct Tryd.underlying107 (fun w a b => by
    have h := eq107 w a.task a.n b.task b.n
    have e : ((a.task == b.task) && (a.n == b.n)) = decide (a = b) := by
      by_cases hc : a = b
      · subst hc; simp
      · have : ¬ (a.task = b.task ∧ a.n = b.n) := fun hh => hc (by cases a; cases b; simp_all)
        rw [decide_eq_false hc]
        simp only [← Bool.decide_and, Bool.and_eq_false_iff, beq_eq_false_iff_ne, ne_eq]; by_cases h1 : a.task = b.task <;> simp_all
    rw [← e]; exact h)
  (fun w e a => by
    have hi : ∀ (n : Nat) (t : TypeId) (k : IntKind) (x : Int), Tryd.prog.underlying t = some (.int k) → (Instr.checkKey e (n + 1) t (.int k x)).run Tryd.prog w = .ok () w := fun n t k x hu => by simp [Instr.checkKey, run_underlying hu, Result.andThen]
    have hb : ∀ (n : Nat) (t : TypeId) (x : Bool), Tryd.prog.underlying t = some .bool → (Instr.checkKey e (n + 1) t (.bool x)).run Tryd.prog w = .ok () w := fun n t x hu => by simp [Instr.checkKey, run_underlying hu, Result.andThen]
    have p0 : (part 3 #[.int .i64 a.task, .int .i64 a.n] 0).run Tryd.prog w = .ok (.int .i64 a.task) w := part_one ty3 rfl
    have p1 : (part 3 #[.int .i64 a.task, .int .i64 a.n] 1).run Tryd.prog w = .ok (.int .i64 a.n) w := part_one ty3 rfl
    have h : ∀ n, (Instr.checkKey e (n + 2) 107 (enc_model_name a)).run Tryd.prog w = .ok () w := fun n => by
      unfold Instr.checkKey
      simp [enc_model_name, run_underlying Tryd.underlying107, Result.andThen, p0, p1, hi n 3 _ _ Tryd.underlying3]
    exact h 9998) (fun a => by
    have h : ∀ n, Instr.sameBits (n + 2) (enc_model_name a) (enc_model_name a) = true := fun n => by simp [Instr.sameBits, enc_model_name]
    exact h 9998)
abbrev B23 (b : Nat) (x : api_Config)  : Asr := Blk b (.cells #[.int .i64 x.Tasks, .int .i64 x.Active, .int .i64 x.Keys, .int .i64 x.Depth, .int .i64 x.TS, .int .i64 x.KeyLen, .int .i64 x.ValLen, .int .i64 x.Fan] 23 (0, 0))
abbrev B36 (b : Nat) (x : api_Answer) (A3 : Option Addr) (c3 : Nat) : Asr := Blk b (.cells #[.int .i64 x.Err, .bool x.Found, .string (bs x.Value), .slice A3 x.Pairs.length c3] 36 (0, 0))
abbrev B38 (b : Nat) (x : api_Event) (A6 : Option Addr) (c6 : Nat) : Asr := Blk b (.cells #[.int .u8 x.What, .int .i64 x.Task, .int .i64 x.Call, .int .i64 x.Answer.Err, .bool x.Answer.Found, .string (bs x.Answer.Value), .slice A6 x.Answer.Pairs.length c6] 38 (0, 0))
abbrev B42 (b : Nat) (x : api_Call)  : Asr := Blk b (.cells #[.int .u8 x.Kind, .int .i64 x.Tx, .string (bs x.Key), .string (bs x.End), .string (bs x.Value), .int .i64 x.Limit, .int .u8 x.Engine] 42 (0, 0))
abbrev B53 (b : Nat) (x : replay_Done) (A5 : Option Addr) (c5 : Nat) : Asr := Blk b (.cells #[.int .i64 x.Task, .int .i64 x.Call, .int .i64 x.Answer.Err, .bool x.Answer.Found, .string (bs x.Answer.Value), .slice A5 x.Answer.Pairs.length c5, .int .i64 x.Mark, .int .i64 x.Back] 53 (0, 0))
abbrev B72 (b : Nat) (x : replay_run) (A0 : Option Addr) (c0 : Nat) (b1 : Nat) (b2 : Nat) (A3 : Option Addr) (c3 : Nat) (A4 : Option Addr) (c4 : Nat) : Asr := Blk b (.cells #[.slice A0 x.programs.length c0, .pointer (some ⟨b1, 0, none⟩), .pointer (some ⟨b2, 0, none⟩), .slice A3 x.done.length c3, .slice A4 x.last.length c4] 72 (0, 0))
abbrev B75 (b : Nat) (x : api_Version)  : Asr := Blk b (.cells #[.int .i64 x.Writer, .int .i64 x.TS, .bool x.Tomb, .string (bs x.Value)] 75 (0, 0))
abbrev B77 (b : Nat) (x : model_row) (A0 : Option Addr) (c0 : Nat) : Asr := Blk b (.cells #[.slice A0 x.l.length c0, .int .i64 x.intent.Writer, .int .i64 x.intent.TS, .bool x.intent.Tomb, .string (bs x.intent.Value)] 77 (0, 0))
abbrev B83 (b : Nat) (x : model_Model) (A8 : Option Addr) (A9 : Option Addr) (A10 : Option Addr) (c10 : Nat) (A11 : Option Addr) : Asr := Blk b (.cells #[.int .i64 x.c.Tasks, .int .i64 x.c.Active, .int .i64 x.c.Keys, .int .i64 x.c.Depth, .int .i64 x.c.TS, .int .i64 x.c.KeyLen, .int .i64 x.c.ValLen, .int .i64 x.c.Fan, .map (mb A8), .map (mb A9), .slice A10 x.txs.length c10, .map (mb A11), .int .i64 x.clock, .int .i64 x.floor] 83 (0, 0))
end Go.Proofs.YtkknoimjgifhlaaDoor
