import Derived.Test.YtnjbjpaiepefoaaGreatDoorSlA
import Derived.Deep.LoopGhost
import Derived.OrdersHeld
import Derived.OrdersIn
import Derived.TacticsIn
import Derived.RangeFuncIn
import Derived.RangeFuncRecord
import Derived.RangeFuncLeaves
namespace Go.Proofs.YtnjbjpaiepefoaaGreatDoor
open Go
set_option linter.unusedVariables false
abbrev Rho:=Nat→Value
def upd (ρ:Rho) (d:Nat) (v:Value):Rho:=fun i=>cond (Nat.beq i d) v (ρ i)
theorem qB (ρ:Rho) (d:Nat) (v:Value):upd ρ d v d=v:=by simp [upd]
theorem QBG {ρ:Rho} {d i:Nat} {v:Value} (h:i≠d):upd ρ d v i=ρ i:=by
 have:Nat.beq i d=false:=by cases e:Nat.beq i d with | false=>rfl | true=>exact absurd (Nat.eq_of_beq_eq_true e) h
 simp [upd,this]
theorem QB5 (ρ:Rho) (d:Nat) (v:Value) (h:ρ d=v):upd ρ d v=ρ:=by
 funext i
 by_cases e:i=d
 ·subst e;rw [qB,h]
 ·exact QBG e
def evR (ρ:Rho):Operand→Value
 | .tmp t=>ρ t
 | .const v=>v
 | .global g=>.pointer (some ⟨g,0,none⟩)
 | .func f=>.func (.func f) #[] #[]
structure Rd where
 lp:Option Nat
 n0:Nat
def mark (D:Nat):Deferred:={ target:=.collected D,args:=#[] }
inductive Marks (n0:Nat) (w:World):List Deferred→Prop
 | nil:Marks n0 w []
 | cons {D:Nat} {l:List Deferred} (h0:n0≤D) (h:w.heap[D]?=some (.deferred (some []))) (hf:mark D ∉ l) (hl:Marks n0 w l):Marks n0 w (mark D::l)
theorem Marks.ext {n0:Nat} {w w':World} {l:List Deferred} (h:Marks n0 w l) (E:Ext w w'):Marks n0 w' l:=by
 induction h with
 | nil=>exact .nil
 | cons h0 h hf _ ih=>exact .cons h0 (E.defs _ _ h rfl) hf ih
theorem Marks.fresh {n0:Nat} {w:World} {l:List Deferred} (h:Marks n0 w l) {D:Nat} (hD:w.heap.size≤D):mark D ∉ l:=by
 induction h with
 | nil=>exact List.not_mem_nil
 | @cons E l h0 h hf _ ih =>
  intro hm;rcases List.mem_cons.1 hm with e | e
  ·have:D=E:=by simpa [mark] using e
   subst this;have:=(Array.getElem?_eq_some_iff.1 h).1;omega
  ·exact ih e
structure Reg (r:Rd) (N:Nat) (a:Act) (ρ:Rho) (w:World):Prop where
 size:a.tmps.size=N
 get:∀ i,a.tmps.getD i undef=ρ i
 marks:Marks r.n0 w a.defers
 old:r.n0≤w.heap.size
 inl:∀ l,r.lp=some l→∃ rc:Loop,w.heap[l]?=some (.loop rc)
theorem Reg.eval {r:Rd} {N:Nat} {a:Act} {ρ:Rho} {w:World} (h:Reg r N a ρ w):a.eval=evR ρ:=by
 funext x;cases x<;>simp [Act.eval,evR,h.get]
theorem Reg.put {r:Rd} {N d:Nat} {a:Act} {ρ:Rho} {w w':World} (h:Reg r N a ρ w) (hd:d<N) (v:Value) (E:Ext w w'):Reg r N (a.put (some d) v) (upd ρ d v) w':=by
 refine ⟨by simp [Act.put,h.size],fun i=>?_,h.marks.ext E,Nat.le_trans h.old E.size,fun l hl=>let ⟨_,B⟩:=h.inl l hl;E.loops _ _ B⟩
 by_cases e:i=d
 ·subst e;rw [qB];simp [Act.put,h.size,hd]
 ·rw [QBG e,← h.get i];simp [Act.put,Ne.symm e]
theorem Reg.ext {r:Rd} {N:Nat} {a:Act} {ρ:Rho} {w w':World} (h:Reg r N a ρ w) (E:Ext w w'):Reg r N a ρ w':=⟨h.size,h.get,h.marks.ext E,Nat.le_trans h.old E.size,fun l hl=>let ⟨_,B⟩:=h.inl l hl;E.loops _ _ B⟩
def yR (ops:Array Oper) (ρ:Rho) (j:Nat):Option Bool :=
 match (ops[j]?).bind (·.dst) with
 | some d=>match ρ d with | .bool b=>some b | _=>none
 | none=>none
theorem Reg.yielded {r:Rd} {N:Nat} {a:Act} {ρ:Rho} {w:World} (h:Reg r N a ρ w) (ops:Array Oper) (j:Nat):yielded ops a.tmps j=yR ops ρ j:=by
 unfold Go.yielded yR
 cases hb:(ops[j]?).bind (·.dst) with
 | none=>rfl
 | some d =>
  simp only [Option.bind_some];have hd:=h.get d;rw [Array.getD_eq_getD_getElem?] at hd
  cases hv:a.tmps[d]? with
  | none=>rw [hv] at hd;rw [← hd];rfl
  | some x=>rw [hv] at hd;rw [← hd];cases x<;>rfl
theorem Reg.wanted {r:Rd} {N:Nat} {a:Act} {ρ:Rho} {w:World} (h:Reg r N a ρ w) (ops:Array Oper) (o:Oper):Region.wanted o (Go.yielded ops a.tmps)=Region.wanted o (yR ops ρ):=by
 have:Go.yielded ops a.tmps=yR ops ρ:=funext fun j=>h.yielded ops j;rw [this]
abbrev Post:=Exit→Rho→World→Prop
def lift (r:Rd) (N:Nat) (Q:Post):Exit→Act→World→Prop:=fun e a w=>∃ ρ,Reg r N a ρ w∧Q e ρ w
def Fw (r:Option Nat):Fence:={ Fence.wide with round:=r }
theorem KJ {r:Option Nat} {n:Nat} {P:Program} {f:FuncId} {args:Array Value} {w:World} {R:Ending→World→Prop}:CallsIn (Fw r) n P f args w R↔Calls P f args w R :=
 Iff.trans (show CallsIn (Fw r) n P f args w R↔CallsIn Fence.wide n P f args w R from Iff.rfl) callsIn_wide
def Wp (r:Rd) (P:Program) (N:Nat) (c:Code) (Q:Post) (ρ:Rho) (w:World):Prop:=∀ a,Reg r N a ρ w→c.wpIn (Fw r.lp) 0 P (lift r N Q) a w
def Wl (r:Rd) (P:Program) (N:Nat) (ops:Array Oper) (Q:Post) (l:List Oper) (ρ:Rho) (w:World):Prop:=∀ a,Reg r N a ρ w→wpListIn (Fw r.lp) 0 P ops (lift r N Q) l a w
def isDefer:Op→Bool
 | .defer _=>true
 | _=>false
theorem UD {r:Option Nat} {ρ:Operand→Value} {o:Oper} (h:isDefer o.op=false):o.semAt r ρ=execOp ρ o:=Oper.semAt_eq r ρ o (fun c e=>by rw [e] at h;cases h)
def thenR (next:Rho→World→Prop) (Q:Post):Post
 | .normal,ρ,w=>next ρ w
 | e,ρ,w=>Q e ρ w
def blockR (id:Nat) (Q:Post):Post
 | .exit id',ρ,w=>cond (Nat.beq id' id) (Q .normal ρ w) (Q (.exit id') ρ w)
 | e,ρ,w=>Q e ρ w
section
variable {r:Rd} {P:Program} {N:Nat} {ops:Array Oper} {Q Q':Post} {l rest:List Oper} {ρ:Rho} {w w':World} {x y c:Code} {t d id:Nat}
theorem Wp.mono (h:Wp r P N c Q ρ w) (hq:∀ e ρ w,Q e ρ w→Q' e ρ w):Wp r P N c Q' ρ w:=fun a ha=>Code.wpIn_mono (fun e a w ⟨ρ,hr,q⟩=>⟨ρ,hr,hq _ _ _ q⟩) (h a ha)
theorem QT (h:Q .normal ρ w):Wp r P N .skip Q ρ w:=fun a ha=>wpIn_skip ⟨ρ,ha,h⟩
theorem Yn (h:Q (.exit id) ρ w):Wp r P N (.exit id) Q ρ w:=fun a ha=>wpIn_exit ⟨ρ,ha,h⟩
theorem QR (h:Q .ret ρ w):Wp r P N .ret Q ρ w:=fun a ha=>wpIn_ret ⟨ρ,ha,h⟩
theorem QJ (h:Wp r P N x (thenR (fun ρ w=>Wp r P N y Q ρ w) Q) ρ w):Wp r P N (.seq x y) Q ρ w:=fun a ha=>wpIn_seq (Code.wpIn_mono (fun e a w ⟨ρ,hr,q⟩=>by
 cases e<;>first | exact q a hr | exact ⟨ρ,hr,q⟩) (h a ha))
theorem QAb {o:Operand} (b:Bool) (ho:evR ρ o=.bool b) (E:b=true→Wp r P N x Q ρ w) (G:b=false→Wp r P N y Q ρ w):Wp r P N (.cond o x y) Q ρ w:=fun a ha=>by
 have B:a.eval o=.bool b:=by rw [ha.eval];exact ho
 cases b with
 | true=>exact wpIn_cond_true B (E rfl a ha)
 | false=>exact wpIn_cond_false B (G rfl a ha)
theorem QD {o:Operand} (ho:evR ρ o=.bool true) (h:Wp r P N x Q ρ w):Wp r P N (.cond o x y) Q ρ w:=QAb true ho (fun _=>h) (fun h=>by cases h)
theorem QA {o:Operand} (ho:evR ρ o=.bool false) (h:Wp r P N y Q ρ w):Wp r P N (.cond o x y) Q ρ w:=QAb false ho (fun h=>by cases h) (fun _=>h)
theorem Zg (h:Wp r P N c (blockR id Q) ρ w):Wp r P N (.block id c) Q ρ w:=fun a ha=>wpIn_block (Code.wpIn_mono (fun e a w ⟨ρ,hr,q⟩=>by
 cases e with
 | exit id' =>
  simp only [Exit.inBlock,blockR] at *
  by_cases e:id'=id
  ·subst e;simp only [Nat.beq_refl,cond_true] at q;simp only [if_true];exact ⟨ρ,hr,q⟩
  ·have:Nat.beq id' id=false:=by cases e':Nat.beq id' id with | false=>rfl | true=>exact absurd (Nat.eq_of_beq_eq_true e') e
   simp only [this,cond_false] at q;simp only [e,if_false];exact ⟨ρ,hr,q⟩
 | _=>exact ⟨ρ,hr,q⟩) (h a ha))
theorem QA7 (h:Wl r P N ops Q ops.toList ρ w):Wp r P N (.region id ops false) Q ρ w:=fun a ha=>wpIn_region_list (h a ha)
theorem Y8 (I:Nat→Rho→World→Prop) (n₀:Nat) (h₀:I n₀ ρ w)
  (round:∀ n ρ w,I n ρ w→Wp r P N c (thenR (fun ρ' w'=>∃ m,m<n∧I m ρ' w') Q) ρ w):Wp r P N (.loop c) Q ρ w:=fun a ha=>by
 refine wpIn_loop (fun a w=>∃ n ρ,Reg r N a ρ w∧I n ρ w) (fun a w=>leastOf fun n=>∃ ρ,Reg r N a ρ w∧I n ρ w) ⟨n₀,ρ,ha,h₀⟩ ?_;intro a w hI;obtain ⟨⟨ρ,hr,hI'⟩,hmin⟩:=leastOf_spec (p:=fun n=>∃ ρ,Reg r N a ρ w∧I n ρ w) hI;refine Code.wpIn_mono ?_ (round _ ρ w hI' a hr);rintro e a' w' ⟨ρ',hr',q⟩
 cases e with
 | normal =>
  obtain ⟨m,hm,B⟩:=q;exact ⟨⟨m,ρ',hr',B⟩,Nat.lt_of_le_of_lt ((leastOf_spec (p:=fun n=>∃ ρ,Reg r N a' ρ w'∧I n ρ w') ⟨m,ρ',hr',B⟩).2 m ⟨ρ',hr',B⟩) hm⟩
 | _=>exact ⟨ρ',hr',q⟩
theorem QH (h:Q .normal ρ w):Wl r P N ops Q [] ρ w:=fun a ha=>⟨ρ,ha,h⟩
theorem UC {o:Oper} (v:Value) (hg:o.guard=none) (ho:o.dst=some d) (hd:Nat.blt d N=true) (hr:(execOp (evR ρ) o).run P w=.ok (.value v) w') (hE:Ext w w') (h:Wl r P N ops Q rest (upd ρ d v) w') (hdf:isDefer o.op=false:=by rfl):Wl r P N ops Q (o::rest) ρ w:=fun a ha=>by
 simp only [wpListIn,Region.wanted,hg,if_true];refine ⟨fun _ _=>trivial,?_⟩;rw [UD hdf,ha.eval,hr];show wpListIn (Fw r.lp) 0 P ops _ rest (a.put o.dst v) w';rw [ho];exact h _ (ha.put (by simpa using hd) v hE)
theorem JK {o:Oper} (hg:o.guard=none) (ho:o.dst=none) (hr:(execOp (evR ρ) o).run P w=.ok .skip w') (hE:Ext w w') (h:Wl r P N ops Q rest ρ w') (hdf:isDefer o.op=false:=by rfl):Wl r P N ops Q (o::rest) ρ w:=fun a ha=>by
 simp only [wpListIn,Region.wanted,hg,if_true];refine ⟨fun _ _=>trivial,?_⟩;rw [UD hdf,ha.eval,hr];show wpListIn (Fw r.lp) 0 P ops _ rest (a.put o.dst undef) w';rw [ho];exact h _ (ha.ext hE)
theorem UI {o:Oper} {f:FuncId} {args:Array Value} {R:Value→World→Prop} (hg:o.guard=none) (hr:(execOp (evR ρ) o).run P w=.ok (.enter f args) w') (hE:∀ v w'',R v w''→Ext w w'')
  (hc:Calls P f args w' fun e w''=>∃ v,e=.returned v∧R v w'') (hd:(match o.dst with | some d=>Nat.blt d N | none=>true)=true)
  (h:∀ v w'',R v w''→Wl r P N ops Q rest (match o.dst with | some d=>upd ρ d v | none=>ρ) w'') (hdf:isDefer o.op=false:=by rfl):Wl r P N ops Q (o::rest) ρ w:=fun a ha=>by
 simp only [wpListIn,Region.wanted,hg,if_true];refine ⟨fun _ _=>trivial,?_⟩;rw [UD hdf,ha.eval,hr];refine ⟨fun h=>(by cases h),KJ.2 (Calls.mono hc ?_)⟩;rintro e w'' ⟨v,rfl,hR⟩;show wpListIn (Fw r.lp) 0 P ops _ rest (a.put o.dst v) w'';have B:=h v w'' hR;have E:=hE v w'' hR
 cases hdst:o.dst with
 | none=>rw [hdst] at B;exact B _ (ha.ext E)
 | some d=>rw [hdst] at B hd;exact B _ (ha.put (by simpa using hd) v E)
theorem QBq {o:Oper} {lp:Nat} {f:FuncId} {tmps:Array Value} {asg body:Code} {R:Value→World→Prop} (hg:o.guard=none) (ho:o.dst=some d) (hd:Nat.blt d N=true) (hr:(execOp (evR ρ) o).run P w=.ok (.round lp f tmps asg body) w') (hE:∀ v w'',R v w''→Ext w w'')
  (hc:RoundIn (Fw r.lp) 0 P lp f tmps asg body w' fun e w''=>∃ v,e=.returned v∧R v w'')
  (h:∀ v w'',R v w''→Wl r P N ops Q rest (upd ρ d v) w'') (hdf:isDefer o.op=false:=by rfl):Wl r P N ops Q (o::rest) ρ w:=fun a ha=>by
 simp only [wpListIn,Region.wanted,hg,if_true];refine ⟨fun _ _=>trivial,?_⟩;rw [UD hdf,ha.eval,hr];refine ⟨fun h=>(by cases h),RoundIn.mono hc ?_⟩;rintro e w'' ⟨v,rfl,hR⟩;show wpListIn (Fw r.lp) 0 P ops _ rest (a.put o.dst v) w'';rw [ho];exact h v w'' hR _ (ha.put (by simpa using hd) v (hE v w'' hR))
theorem Wl_yes {o:Oper} {j:Nat} {b:Bool} (hg:o.guard=some (j,b)) (hy:yR ops ρ j=some b) (h:Wl r P N ops Q ({ o with guard:=none }::rest) ρ w):Wl r P N ops Q (o::rest) ρ w:=fun a ha=>by
 have B:=h a ha;have hw:Region.wanted o (Go.yielded ops a.tmps)=true:=by rw [ha.wanted];simp [Region.wanted,hg,hy]
 simp only [wpListIn,hw,if_true];simp only [wpListIn,Region.wanted,if_true] at B;exact B
theorem Wl_no {o:Oper} {j:Nat} {b:Bool} (hg:o.guard=some (j,b)) (ho:o.dst=some d) (hd:Nat.blt d N=true) (hy:(yR ops ρ j==some b)=false) (h:Wl r P N ops Q rest (upd ρ d undef) w):Wl r P N ops Q (o::rest) ρ w:=fun a ha=>by
 have hw:Region.wanted o (Go.yielded ops a.tmps)=false:=by rw [ha.wanted];simpa [Region.wanted,hg] using hy
 simp only [wpListIn,hw];rw [ho];exact ⟨fun _ _=>trivial,h _ (ha.put (by simpa using hd) undef (Ext.refl _))⟩
def onlyN (K:Rho→World→Prop):Post
 | .normal,ρ,w=>K ρ w
 | _,_,_=>False
theorem Ju {F:Fence} {o:Oper} {a:Act} {w:World} {K K':Act→World→Prop} {Q1 E:Exit→Act→World→Prop} (h:∀ a w,K a w→K' a w) (hp:∀ c a w,Q1 (.panic c) a w→E (.panic c) a w) (ho:LetsOut Q1→LetsOut E)
  (hh:o.wpIn F 0 P a w K Q1):o.wpIn F 0 P a w K' E:=by
 unfold Oper.wpIn at *;refine ⟨hh.1,?_⟩;have hh:=hh.2;generalize (o.semAt F.round a.eval).run P w=r at *
 cases r with
 | ok x w' =>
  cases x<;>simp only [Oper.uponIn] at hh ⊢ <;>
   first
    | exact h _ _ hh
    | exact ⟨hh.1,CallsIn.mono hh.2 (fun e w'' B=>by cases e<;>first | exact h _ _ B | exact hp _ _ _ B | exact ho B)⟩
    | exact ⟨hh.1,RowsIn.mono hh.2 (fun _ _ B=>h _ _ B)⟩
    | exact ⟨hh.1,RoundIn.mono hh.2 (fun e w'' B=>by cases e<;>first | exact h _ _ B | exact hp _ _ _ B | exact ho B)⟩
 | halt x w'=>cases x<;>simp only [Oper.uponIn] at hh ⊢<;>first | exact hh | exact hp _ _ _ hh
theorem QAQ {J:Rho→World→Prop} {B:Exit→Act→World→Prop}:∀ c a w,lift r N (onlyN J) (.panic c) a w→B (.panic c) a w:=fun _ _ _ ⟨_,_,h⟩=>h.elim
theorem QAR {J:Rho→World→Prop} {B:Exit→Act→World→Prop}:LetsOut (lift r N (onlyN J))→LetsOut B:=fun ⟨_,_,_,_,h⟩=>h.elim
theorem Wl_cut (J:Rho→World→Prop) {l1 l2:List Oper} (h:Wl r P N ops (onlyN J) l1 ρ w) (k:∀ ρ w,J ρ w→Wl r P N ops Q l2 ρ w):Wl r P N ops Q (l1++l2) ρ w:=by
 have key:∀ (l1:List Oper) (a:Act) (w:World),wpListIn (Fw r.lp) 0 P ops (lift r N (onlyN J)) l1 a w→wpListIn (Fw r.lp) 0 P ops (lift r N Q) (l1++l2) a w:=by
  intro l1
  induction l1 with
  | nil=>rintro a w ⟨ρ',hr,hj⟩;exact k ρ' w hj a hr
  | cons o l1 ih =>
   intro a w h;simp only [List.cons_append,wpListIn] at h ⊢
   split at h
   ·rename_i hw;simp only [hw,if_true];exact Ju ih QAQ QAR h
   ·rename_i hw;simp only [hw];exact ⟨fun _ _=>trivial,ih _ _ h.2⟩
 exact fun a ha=>key l1 a w (h a ha)
end
def Con (P:Program) (f:FuncId) (args:Array Value) (M:Hp) (Γ:List Asr) (Φ:Value→Hp→List Asr→Prop):Prop :=
 ∀ w F,St w M F Γ→Calls P f args w fun e w'=>∃ v,e=.returned v∧∃ M' B,M.le M'∧Ext w w'∧St w' M' F B∧Φ v M' B
theorem Con.mono {P:Program} {f:FuncId} {args:Array Value} {M:Hp} {Γ:List Asr} {Φ Φ':Value→Hp→List Asr→Prop} (h:Con P f args M Γ Φ) (hq:∀ v M' B,M.le M'→Φ v M' B→Φ' v M' B):Con P f args M Γ Φ' :=
 fun w F S=>Calls.mono (h w F S) fun e w' ⟨v,G,M',B,E,hE,S',hΦ⟩=>⟨v,G,M',B,E,hE,S',hq _ _ _ E hΦ⟩
theorem Con.at {P:Program} {f:FuncId} {args:Array Value} {M F:Hp} {Γ Δ:List Asr} {Φ:Value→Hp→List Asr→Prop} {w:World} (h:Con P f args M Γ Φ) (S:St w M F (Γ++Δ)) :
  Calls P f args w fun e w'=>∃ v,e=.returned v∧∃ M' B,M.le M'∧Ext w w'∧St w' M' F (B++Δ)∧Φ v M' B:=by
 obtain ⟨g,G,U,H,K⟩:=S.part;refine Calls.mono (h w _ K) ?_;rintro e w' ⟨v,O,M',B,E,hE,S',hΦ⟩;exact ⟨v,O,M',B,E,hE,S'.join E G H,hΦ⟩
def resV (ρ:Rho):ResultVar→Sem Value
 | .tmp t=>pure (ρ t)
 | .cell a t=>do loadVar t (← asAddr (ρ a))
def resR (rs:Array ResultVar) (ρ:Rho):Sem Value:=do
 let vs ← rs.mapM (resV ρ)
 pure (if h:vs.size=1 then vs[0] else .tuple vs)
theorem Reg.results {r:Rd} {N:Nat} {a:Act} {ρ:Rho} {w:World} (h:Reg r N a ρ w) (fn:Func):results fn a.tmps=resR fn.results ρ:=by
 unfold Go.results resR
 congr 2
 funext x
 cases x<;>simp only [h.get,resV]
def nth:List Value→Nat→Value
 | [],_=>undef
 | v::_,0=>v
 | _::l,i+1=>nth l i
theorem QBO:∀ (l:List Value) (i:Nat),nth l i=(l[i]?).getD undef
 | [],_=>rfl
 | _::_,0=>rfl
 | _::l,i+1=>by simpa [nth] using QBO l i
def rho0 (args:Array Value):Rho:=fun i=>nth args.toList i
theorem reg0 {r:Rd} {N:Nat} {w:World} (args:Array Value) (h:args.size≤N) (hr:r.n0≤w.heap.size) (hl:r.lp=none):Reg r N { tmps:=args++Array.replicate (N-args.size) undef,defers:=[] } (rho0 args) w:=by
 refine ⟨by simp;omega,fun i=>?_,.nil,hr,fun l e=>by rw [hl] at e;cases e⟩;simp only [rho0,QBO,Array.getElem?_toList,Array.getD_eq_getD_getElem?,Array.getElem?_append,Array.getElem?_replicate]
 split
 ·rfl
 ·rename_i hi
  rw [Array.getElem?_eq_none (by omega)]
  split<;>rfl
def endR (P:Program) (rs:Array ResultVar) (w:World) (M F:Hp) (Φ:Value→Hp→List Asr→Prop):Post:=fun e ρ w' =>
 match e with
 | .normal | .ret=>∃ v M' B,(∀ w1,Hp.of w1=Hp.of w'→(resR rs ρ).run P w1=.ok v w1)∧M.le M'∧Ext w w'∧St w' M' F B∧Φ v M' B
 | _=>False
theorem Ext.take {w w1 w':World} {D:Nat} (h:Ext w w1) (hD:w.heap.size≤D) (hw:w'=w1.putObj D (.deferred none)):Ext w w':=by
 subst hw;have key:∀ (b:Nat) (o:Obj),w.heap[b]?=some o→b≠D:=fun b o hb e=>by have:=(Array.getElem?_eq_some_iff.1 hb).1;omega
 refine ⟨h.os,h.tape,h.output,by simpa using h.size,fun b o hb hd=>?_,fun b r hb=>?_,h.drawn⟩
 ·rw [World.putObj_heap_other (key b _ hb)];exact h.defs _ _ hb hd
 ·rw [World.putObj_heap_other (key b _ hb)];exact h.loops _ _ hb
theorem QCK {w:World} {D:Nat} (h:w.heap[D]?=some (.deferred (some []))):Hp.of (w.putObj D (.deferred none))=Hp.of w:=by
 funext b
 by_cases e:b=D
 ·subst e;unfold Hp.of;rw [World.putObj_heap_same (Array.getElem?_eq_some_iff.1 h).1,h];rfl
 ·exact Hp.of_congr (World.putObj_heap_other e)
theorem St.of_eq {w w':World} {M F:Hp} {Γ:List Asr} (S:St w M F Γ) (h:Hp.of w'=Hp.of w):St w' M F Γ:=by
 obtain ⟨g,hs,B,E,G,H,K,O⟩:=S.ex;exact ⟨g,hs,B,E,G,h ▸ H,h ▸ K,h ▸ O⟩
theorem Kz {P:Program} {fn:Func} {tmps:Array Value} {R:Ending→World→Prop} {n0:Nat} {l:List Deferred} {w:World} (h:Marks n0 w l) (K:World→Prop)
  (hK:K w) (hs:∀ D w,n0≤D→w.heap[D]?=some (.deferred (some []))→K w→K (w.putObj D (.deferred none))) (G:∀ w,K w→LeavesIn Fence.wide 0 P fn tmps R [] .returning w):LeavesInM Fence.wide 0 P fn tmps R l .returning w:=by
 induction l generalizing w with
 | nil=>exact G w hK
 | cons d l ih =>
  cases h with
  | @cons D _ h0 h hf hl =>
   refine ⟨by simp,.inl ⟨D,_,rfl,run_takeDeferred h,ih ?_ (hs D w h0 h hK)⟩⟩
   have:∀ (l':List Deferred),mark D ∉ l'→Marks n0 w l'→Marks n0 (w.putObj D (.deferred none)) l':=by
    intro l' hn hm
    induction hm with
    | nil=>exact .nil
    | @cons E l' B H hf' _ ih' =>
     have hne:E≠D:=fun e=>hn (e ▸ List.mem_cons_self);exact .cons B ((World.putObj_heap_other hne).trans H) hf' (ih' (fun hm=>hn (List.mem_cons_of_mem _ hm)))
   exact this l hf hl
theorem VY {P:Program} {f:FuncId} {fn:Func} {c:Code} {N:Nat} {rs:Array ResultVar} {args:Array Value} {M:Hp} {Γ:List Asr} {Φ:Value→Hp→List Asr→Prop}
  (hf:P.funcs[f]?=some fn) (hb:fn.body=some c) (hN:fn.ntmps=N) (hrs:fn.results=rs) (ha:Nat.ble args.size N=true)
  (h:∀ w F r,St w M F Γ→r.lp=none→Wp r P N c (endR P rs w M F Φ) (rho0 args) w):Con P f args M Γ Φ:=by
 intro w F S;subst hN hrs
 have key:∀ (a:Act) (w':World) (ρ:Rho),Reg ⟨none,w.heap.size⟩ fn.ntmps a ρ w'→(∃ v M' B,(∀ w1,Hp.of w1=Hp.of w'→(resR fn.results ρ).run P w1=.ok v w1)∧M.le M'∧Ext w w'∧St w' M' F B∧Φ v M' B) →
   LeavesInM Fence.wide 0 P fn a.tmps (fun e w'=>∃ v,e=.returned v∧∃ M' B,M.le M'∧Ext w w'∧St w' M' F B∧Φ v M' B) a.defers .returning w':=by
  rintro a w' ρ hr ⟨v,M',B,G,H,K,O,U⟩;refine Kz hr.marks (fun E=>Hp.of E=Hp.of w'∧Ext w E) ⟨rfl,K⟩ (fun D E h0 hD ⟨ho,hE⟩=>⟨(QCK hD).trans ho,hE.take h0 rfl⟩) (fun E ⟨ho,hE⟩=>?_);exact ⟨v,by rw [hr.results];exact G E ho,v,rfl,M',B,H,hE,O.of_eq ho,U⟩
 refine callsIn_wide.1 (callsIn_of_wp_marks (n:=0) hf hb trivial (Code.wpIn_mono ?_ (h w F ⟨none,w.heap.size⟩ S rfl _ (reg0 args (by simpa using ha) (Nat.le_refl _) rfl))));rintro e a w' ⟨ρ,hr,q⟩
 cases e with
 | normal=>exact key a w' ρ hr q
 | ret=>exact key a w' ρ hr q
 | _=>exact q.elim
end Go.Proofs.YtnjbjpaiepefoaaGreatDoor
