import Derived.Test.YtnjbjpaiepefoaaGreatDoorSlF
namespace Go.Proofs.YtnjbjpaiepefoaaGreatDoor
open Go
set_option linter.unusedVariables false
set_option linter.unusedSimpArgs false
def Star (Γ:List Asr):Asr:=⟨fun M h=>Sats M Γ h,fun B hs=>Sats.mono B hs⟩
def AE {ι:Type} (p:ι→List Asr) (φ:Hp→ι→Prop) (hφ:∀ (M M':Hp) (i:ι),M.le M'→φ M i→φ M' i):Asr :=
 ⟨fun M h=>∃ i,φ M i∧Sats M (p i) h,fun B ⟨i,E,G⟩=>⟨i,hφ _ _ i B E,G.mono B⟩⟩
section
variable {w:World} {M F:Hp} {Γ Δ:List Asr}
theorem Sats.flat {M:Hp} {g:Hp} (h:Sats M (Star Γ::Δ) g):Sats M (Γ++Δ) g:=by
 obtain ⟨B,E,hd,e,ha,hs⟩:=h;subst e;exact Sats.append hd (show Sats M Γ B from ha) hs
theorem St.open_star (S:St w M F (Star Γ::Δ)):St w M F (Γ++Δ):=S.sub fun h=>⟨_,Hp.le_refl _,h.flat⟩
theorem St.close_star (S:St w M F (Γ++Δ)):St w M F (Star Γ::Δ):=S.sub fun h=>by
 obtain ⟨B,E,hd,e,ha,hb⟩:=h.split;exact ⟨_,Hp.le_refl _,B,E,hd,e,(show (Star Γ).sat M B from ha),hb⟩
theorem St.open_ex {ι:Type} {p:ι→List Asr} {φ:Hp→ι→Prop} {hφ:∀ (M M':Hp) (i:ι),M.le M'→φ M i→φ M' i} (S:St w M F (AE p φ hφ::Δ)):∃ i,φ M i∧St w M F (p i++Δ):=by
 obtain ⟨g,⟨B,E,hd,e,⟨i,hi,hs⟩,hr⟩,G,H,K,O,U,V⟩:=S.ex;subst e;exact ⟨i,hi,⟨B.union E,Sats.append hd hs hr,G,H,K,O,U,V⟩⟩
theorem St.close_ex {ι:Type} {p:ι→List Asr} {φ:Hp→ι→Prop} {hφ:∀ (M M':Hp) (i:ι),M.le M'→φ M i→φ M' i} (i:ι) (hi:φ M i) (S:St w M F (p i++Δ)):St w M F (AE p φ hφ::Δ):=S.sub fun h=>by
 obtain ⟨B,E,hd,e,ha,hb⟩:=h.split;exact ⟨_,Hp.le_refl _,B,E,hd,e,⟨i,hi,ha⟩,hb⟩
theorem St.swap {A B:Asr} (S:St w M F (A::B::Γ)):St w M F (B::A::Γ):=S.sub fun h=>by
 obtain ⟨G,O,hd,e,ha,K,H,hd',e',hb,hs⟩:=h;subst e e';have E:=Hp.disj_union.1 hd;refine ⟨_,Hp.le_refl _,K,G.union H,Hp.disj_union.2 ⟨Hp.disj_symm E.1,hd'⟩,?_,hb,G,H,E.2,rfl,ha,hs⟩;rw [← Hp.union_assoc,← Hp.union_assoc,Hp.union_comm E.1]
end
def Yld (P:Program) (lp:Nat) (args:List Value) (M:Hp) (A:Asr) (Φ:Bool→Hp→Asr→Prop):Prop :=
 ∀ w F,St w M F [A]→∃ (f:FuncId) (tmps:Array Value) (asg body:Code),(Instr.yield lp args.toArray).run P w=.ok (.round lp f tmps asg body) w ∧
  RoundIn Fence.wide 0 P lp f tmps asg body w fun e w'=>∃ b,e=.returned (.bool b)∧∃ M' A',M.le M'∧Ext w w'∧St w' M' F [A']∧Φ b M' A'
theorem QB0 {P:Program} {ρ:Rho} {w:World} {dst:Option Tmp} {as:List Operand} {ts:Array TypeId} {ty:TypeId} {ps:String} {af:Array Edge} {g:Option (Nat×Bool)} {t:Tmp} {lp:Nat} {x:Next} (ht:ρ t=.func (.yield lp) #[] #[]) (h:(Instr.yield lp (as.map (evR ρ)).toArray).run P w=.ok x w) :
  (execOp (evR ρ) ⟨dst,.call ⟨.value (.tmp t),as.toArray,ts⟩,ty,ps,af,g⟩).run P w=.ok x w:=by
 simpa [execOp,resolve,invoke,Deferred.ofValue,evR,ht] using h
theorem QBL {r:Option Nat} {P:Program} {lp:Nat} {f:FuncId} {tmps:Array Value} {asg body:Code} {w:World} {R:Ending→World→Prop}:RoundIn (Fw r) 0 P lp f tmps asg body w R↔RoundIn Fence.wide 0 P lp f tmps asg body w R:=Iff.rfl
section
variable {rn:Rd} {P:Program} {N:Nat} {ops:Array Oper} {Q:Post} {rest:List Oper} {ρ:Rho} {w:World} {M F:Hp} {Γ2:List Asr} {A:Asr} {Φ:Bool→Hp→Asr→Prop} {d:Nat} {T:TypeId} {ps:String} {af:Array Edge}
theorem QAd {lp:Nat} {as:List Operand} {ts:Array TypeId} {args:List Value} {tt:Tmp} (ht:ρ tt=.func (.yield lp) #[] #[]) (Y:Yld P lp args M A Φ) (S:St w M F (A::Γ2)) (ha:as.map (evR ρ)=args) (hd:Nat.blt d N=true)
  (K:∀ b w' M' A',M.le M'→Ext w w'→St w' M' F (A'::Γ2)→Φ b M' A'→Wl rn P N ops Q rest (upd ρ d (.bool b)) w'):Wl rn P N ops Q (⟨some d,.call ⟨.value (.tmp tt),as.toArray,ts⟩,T,ps,af,none⟩::rest) ρ w:=by
 subst ha;obtain ⟨g,E,U,G,H⟩:=St.part (Γ:=[A]) (Δ:=Γ2) S;obtain ⟨f,tmps,asg,body,hy,hR⟩:=Y w _ H;refine QBq (R:=fun v w'=>∃ b,v=.bool b∧∃ M' A',M.le M'∧Ext w w'∧St w' M' F (A'::Γ2)∧Φ b M' A') rfl rfl hd (QB0 ht hy) ?_ (QBL.2 (RoundIn.mono hR ?_)) ?_
 ·rintro v w'' ⟨_,_,_,_,_,h,_⟩;exact h
 ·rintro e w' ⟨b,O,M',A',B,hE,S',hΦ⟩;exact ⟨_,O,b,rfl,M',A',B,hE,St.join (Γ:=[A']) B E G S',hΦ⟩
 ·rintro v w' ⟨b,rfl,M',A',B,hE,S',hΦ⟩;exact K b w' M' A' B hE S' hΦ
end
def parR (ρ:Rho):List Nat→List Value→Rho
 | t::ts,v::vs=>parR (upd ρ t v) ts vs
 | _,_=>ρ
theorem QAP {r r':Rd} {N:Nat} {w w':World}:∀ (ps:List Nat) (vs:List Value) (tmps:Array Value) (ρ:Rho),(∀ t∈ps,t<N)→Reg r' N { tmps:=tmps,defers:=[] } ρ w' →
  Reg r' N { tmps:=(ps.zip vs).foldl (fun tmps (t,a)=>tmps.setIfInBounds t a) tmps,defers:=[] } (parR ρ ps vs) w'
 | [],_,_,_,_,h=>h
 | _::_,[],_,_,_,h=>h
 | t::ps,v::vs,tmps,ρ,hp,h=>by
  simp only [List.zip_cons_cons,List.foldl_cons,parR];exact QAP (r:=r) (w:=w) ps vs _ _ (fun t h=>hp t (List.mem_cons_of_mem _ h)) (h.put (hp t List.mem_cons_self) v (Ext.refl _))
def leftBy {σ ε:Type} (jump:ε→Code):Exit→σ⊕ε→Prop
 | .normal,.inl _=>True
 | .ret,.inr x=>jump x=.ret
 | .exit id,.inr x=>jump x=.exit id
 | _,_=>False
def afterR {σ ε:Type} (rn:Rd) (P:Program) (N:Nat) (jump:ε→Code) (Q:Post) (ρ:Rho) (w:World):σ⊕ε→Prop
 | .inl _=>Q .normal ρ w
 | .inr x=>Wp rn P N (jump x) Q ρ w
def recOf {σ ε:Type} (rec:LoopState→Option Code→Loop) (jump:ε→Code):σ⊕ε→Loop
 | .inl _=>rec .ready none
 | .inr x=>rec .done (some (jump x))
def endB {σ ε:Type} (jump:ε→Code) (st:σ⊕ε) (I:σ⊕ε→Asr) (M F:Hp) (w:World):Post:=fun e _ w' =>
 leftBy jump e st∧∃ M',M.le M'∧Ext w w'∧St w' M' F [I st]
theorem Jm {σ ε:Type} {jump:ε→Code} {st:σ⊕ε} {I:σ⊕ε→Asr} {M F M':Hp} {w w':World} {e:Exit} {ρ:Rho} (h:leftBy jump e st) (B:M.le M') (hE:Ext w w') (S:St w' M' F [I st]):endB jump st I M F w e ρ w':=⟨h,M',B,hE,S⟩
theorem Ext.put {w:World} {b:Nat} {r r':Loop} (h:w.heap[b]?=some (.loop r)):Ext w (w.putObj b (.loop r')):=by
 have hb:=(Array.getElem?_eq_some_iff.1 h).1;refine ⟨rfl,rfl,rfl,by simp,fun c o hc hd=>?_,fun c x hc=>?_,Nat.le_refl _⟩
 ·by_cases e:c=b
  ·subst e;rw [h] at hc;cases hc;cases hd
  ·rw [World.putObj_heap_other e];exact hc
 ·by_cases e:c=b
  ·subst e;exact ⟨_,World.putObj_heap_same hb⟩
  ·exact ⟨x,by rw [World.putObj_heap_other e];exact hc⟩
theorem St.put {w:World} {M F:Hp} {Γ:List Asr} {b:Nat} {r r':Loop} (S:St w M F Γ) (i:Nat) (hi:Γ[i]?=some (Blk b (.loop r))):St (w.putObj b (.loop r')) M F (Γ.set i (Blk b (.loop r'))) :=
 S.set_blk i hi (World.putObj_heap_same (Array.getElem?_eq_some_iff.1 (S.blk i hi)).1) (fun c hc=>World.putObj_heap_other hc)
def isNorm {σ ε:Type}:σ⊕ε→Bool
 | .inl _=>true
 | .inr _=>false
def Iter {α σ ε:Type} (P:Program) (gf:FuncId) (caps:List Value) (M:Hp) (enc:Hp→α→List Value→Prop) (bd:α→σ→Option (σ⊕ε)) (G:σ) (st:σ⊕ε) (Γi:List Asr) (Ψ:Hp→List Asr→Prop):Prop :=
 ∀ (lp:Nat) (B:σ⊕ε→Asr),
  (∀ (M':Hp) (x:α) (vs:List Value) (s:σ) (t:σ⊕ε),M.le M'→enc M' x vs→bd x s=some t→Yld P lp vs M' (B (.inl s)) (fun b _ A'=>b=isNorm t∧A'=B t)) →
  Con P gf (Value.func (.yield lp) #[] #[]::caps).toArray M (B (.inl G)::Γi) (fun _ M' E=>∃ Γi',E=B st::Γi'∧Ψ M' Γi')
theorem KL {σ ε:Type} {rn:Rd} {P:Program} {N:Nat} {jump:ε→Code} {Q:Post} {ρ:Rho} {w:World} {x:σ} (h:Q .normal ρ w):afterR rn P N jump Q ρ w (.inl x):=h
theorem QBp {σ ε:Type} {rn:Rd} {P:Program} {N:Nat} {jump:ε→Code} {Q:Post} {ρ:Rho} {w:World} {x:ε} (h:Wp rn P N (jump x) Q ρ w):afterR rn P N jump Q ρ w (Sum.inr x:σ⊕ε):=h
def toL {σ ε:Type}:σ⊕ε→Option σ
 | .inl s=>some s
 | .inr _=>none
theorem OLe.toL {σ ε:Type} {t:σ⊕ε}:OLe (toL t) (toL t):=fun _ h=>h
theorem toL_eq {σ ε:Type} {t:σ⊕ε} {s:σ} (h:toL t=some s):t=.inl s:=by
 cases t with
 | inl x=>cases h;rfl
 | inr x=>cases h
theorem Uh {α σ ε:Type} {rn:Rd} {P:Program} {N:Nat} {Q:Post} {ρ:Rho} {w:World} {M F:Hp} {Γi Γr:List Asr} {g:Operand} {ps:List Nat} {asg body:Code} {gf:FuncId} {caps:List Value} {enc:Hp→α→List Value→Prop} {bd:α→σ→Option (σ⊕ε)} {s0:σ} {st:σ⊕ε} {Ψ:Hp→List Asr→Prop}
  (I:σ⊕ε→Asr) (jump:ε→Code) (Fn:IsFn P gf) (hg:evR ρ g=.func (.func gf) #[] caps.toArray) (S:St w M F (I (.inl s0)::(Γi++Γr)))
  (hps:∀ M x vs,enc M x vs→vs.length=ps.length) (hpN:∀ t∈ps,t<N)
  (hit:Iter P gf caps M enc bd s0 st Γi Ψ)
  (hbody:∀ (n lp:Nat) (M1 F1:Hp) (x:α) (vs:List Value) (s:σ) (t:σ⊕ε) (w1:World),M.le M1→enc M1 x vs→bd x s=some t→St w1 M1 F1 [I (.inl s)] →
   Wp ⟨some lp,n⟩ P N asg (onlyN fun ρ1 O=>∃ V Γ2,M1.le V∧Ext w1 O∧St O V F1 Γ2∧∀ w3 F3,Ext O w3→St w3 V F3 Γ2→Wp ⟨some lp,n⟩ P N body (endB jump t I V F3 w3) ρ1 w3) (parR ρ ps vs) w1)
  (K:∀ w' M' Γi',M.le M'→Ext w w'→Ψ M' Γi'→St w' M' F (I st::(Γi'++Γr))→afterR rn P N jump Q ρ w' st):Wp rn P N (.rangeFunc g ps.toArray asg body) Q ρ w:=by
 intro a ha;refine wpIn_rangeFunc ?_;intro fn _;obtain ⟨fnn,hf,hb,hn⟩:=Fn.ex;have hb':fnn.body≠none:=by intro e;rw [e] at hb;cases hb
 have hn':fnn.name ≠ "runtime.NumGoroutine":=by simpa using hn
 obtain ⟨D,mk,w1,hent,al,S1,hreg⟩:∃ (D:Nat) (mk:List Deferred) (w1:World),(Instr.enterLoop fn a.tmps ps.toArray asg body rn.lp).run P w=.ok (w1.heap.size,mk) (w1.alloc (.loop { state:=.ready,pending:=none,fn,tmps:=a.tmps,params:=ps.toArray,assign:=asg,body,defers:=D }))∧Ext w w1∧St w1 M F (I (.inl s0)::(Γi++Γr))∧∀ w',Ext w1 w'→Reg rn N { a with defers:=mk++a.defers } ρ w':=by
  cases hlp:rn.lp with
  | none =>
   refine ⟨w.heap.size,[mark w.heap.size],w.alloc (.deferred (some [])),?_,Ext.alloc _ _,S.alloc_junk _,fun w' E=>?_⟩
   ·rw [run_enterLoop_outer];simp [mark]
   ·refine ⟨ha.size,ha.get,.cons ha.old (E.defs _ _ (Hp.alloc_new _ _) rfl) (ha.marks.fresh (Nat.le_refl _)) (ha.marks.ext ((Ext.alloc _ _).trans E)),Nat.le_trans ha.old ((Ext.alloc _ _).trans E).size,fun l e=>?_⟩;rw [hlp] at e;cases e
  | some l =>
   obtain ⟨rc,hrc⟩:=ha.inl l hlp;refine ⟨rc.defers,[],w,?_,Ext.refl _,S,fun w' E=>ha.ext E⟩;unfold Instr.enterLoop;simp only [Sem.run_bind,run_getLoop hrc,run_newObj,Result.andThen_ok,Sem.run_pure]
   rfl
 obtain ⟨rec,am,hst,hpe,hpar,htmps,hasgE,hbodyE,hwith⟩:∃ rec:LoopState→Option Code→Loop,({ state:=.ready,pending:=none,fn,tmps:=a.tmps,params:=ps.toArray,assign:=asg,body,defers:=D }:Loop)=rec .ready none ∧
   (∀ s p,(rec s p).state=s)∧(∀ s p,(rec s p).pending=p)∧(∀ s p,(rec s p).params=ps.toArray)∧(∀ s p,(rec s p).tmps=a.tmps)∧(∀ s p,(rec s p).assign=asg)∧(∀ s p,(rec s p).body=body) ∧
   (∀ s p s' p',({ rec s p with state:=s',pending:=p' }:Loop)=rec s' p') :=
  ⟨fun s p=>{ state:=s,pending:=p,fn,tmps:=a.tmps,params:=ps.toArray,assign:=asg,body,defers:=D },rfl,fun _ _=>rfl,fun _ _=>rfl,fun _ _=>rfl,fun _ _=>rfl,fun _ _=>rfl,fun _ _=>rfl,fun _ _ _ _=>rfl⟩
 rw [am] at hent;have S2:=S1.alloc_blk (.loop (rec .ready none)) rfl
 let B:σ⊕ε→Asr:=fun t=>Star [Blk w1.heap.size (.loop (recOf rec jump t)),I t]
 have S3:St (w1.alloc (.loop (rec .ready none))) M F ((B (.inl s0)::Γi)++Γr):=by
  show St _ M F (Star [_,_]::(Γi++Γr));exact St.close_star S2
 have hY:∀ (M':Hp) (x:α) (vs:List Value) (s:σ) (t:σ⊕ε),M.le M'→enc M' x vs→bd x s=some t→Yld P w1.heap.size vs M' (B (.inl s)) (fun b _ A'=>b=isNorm t∧A'=B t):=by
  intro M' x vs s t hM henc hbd v F' SB;have a8:St v M' F' [Blk w1.heap.size (.loop (rec .ready none)),I (.inl s)]:=St.open_star SB;have hl:=a8.blk 0 rfl;have hlen:vs.toArray.size=(rec .ready none).params.size:=by rw [hpar];simpa using hps _ _ _ henc
  have hy:=run_yield (P:=P) hl hlen;refine ⟨_,_,_,_,hy,roundIn_of_wpIn trivial ?_⟩;have an:St v M' F' ([I (.inl s)]++[Blk w1.heap.size (.loop (rec .ready none))]):=a8.swap;obtain ⟨g,g1,g2,g3,g4⟩:=an.part
  have a6:Reg ⟨some w1.heap.size,v.heap.size⟩ N { tmps:=((rec .ready none).params.zip vs.toArray).foldl (fun tmps (t,a)=>tmps.setIfInBounds t a) (rec .ready none).tmps,defers:=[] } (parR ρ ps vs) v:=by
   have:Reg ⟨some w1.heap.size,v.heap.size⟩ N { tmps:=a.tmps,defers:=[] } ρ v:=⟨ha.size,ha.get,.nil,Nat.le_refl _,fun l e=>by cases e;exact ⟨_,hl⟩⟩;have:=QAP (r:=rn) (w:=v) ps vs a.tmps ρ hpN this;rw [hpar,htmps]
   simpa [Array.zip,← Array.foldl_toList,List.zip] using this
  have hasg:=hbody v.heap.size w1.heap.size M' _ x vs s t v hM henc hbd g4 _ a6;rw [hasgE,hbodyE];refine Code.wpIn_mono ?_ hasg;rintro e a1 v2 ⟨ρ1,ap,q⟩
  cases e with
  | normal =>
   obtain ⟨V,Γ2,a9,W,S4,hB⟩:=q;have Y:=S4.join a9 g1 g3;have aa:(Γ2++[Blk w1.heap.size (.loop (rec .ready none))])[Γ2.length]?=some (Blk w1.heap.size (.loop (rec .ready none))):=by simp
   have ab:=Y.blk _ aa;refine ⟨_,run_beginRound ab (hst _ _),?_⟩;have ebz:({ rec .ready none with state:=.busy }:Loop)=rec .busy none:=(congrArg (fun x=>({ rec .ready none with state:=.busy,pending:=x }:Loop)) (hpe _ _)).trans (hwith _ _ _ _);rw [ebz];have S6:=Y.put (r':=rec .busy none) _ aa
   have hset:(Γ2++[Blk w1.heap.size (.loop (rec .ready none))]).set Γ2.length (Blk w1.heap.size (.loop (rec .busy none)))=Γ2++[Blk w1.heap.size (.loop (rec .busy none))]:=by
    rw [List.set_append_right _ _ (Nat.le_refl _)];simp
   rw [hset] at S6;have Z:Ext v2 (v2.putObj w1.heap.size (.loop (rec .busy none))):=Ext.put ab;obtain ⟨k,k1,k2,k3,k4⟩:=S6.part;refine Code.wpIn_mono ?_ (hB _ _ Z k4 _ (ap.ext Z));rintro e a3 v3 ⟨ρ3,bi,hc,M3,ac,a0,S7⟩;have S8:=S7.join ac k1 k3;have ad:=S8.blk 1 rfl
   have fin:∀ (jp:Option Code),(isNorm t=jp.isNone)→(∀ y,t=.inr y→jp=some (jump y))→∃ x H,(Instr.endRound w1.heap.size jp).run P v3=.ok x H∧∃ b,Ending.returned x=.returned (.bool b)∧∃ M' A',M'.le M'∧V.le M'∧Ext v H∧St H M' F' [A']∧b=isNorm t∧A'=B t:=by
    intro jp ae au;have av:=run_endRound (P:=P) jp ad;refine ⟨_,_,av,_,rfl,M3,_,Hp.le_refl _,ac,?_,?_,ae.symm,rfl⟩
    ·exact ((W.trans Z).trans a0).trans (Ext.put ad)
    ·have S9:=S8.put (r':={ rec .busy none with state:=if jp.isNone then .ready else .done,pending:=jp }) 1 rfl
     have e9:({ rec .busy none with state:=if jp.isNone then .ready else .done,pending:=jp }:Loop)=recOf rec jump t:=by
      rw [hwith]
      cases t with
      | inl y=>cases jp with
       | none=>rfl
       | some c=>cases ae
      | inr y=>rw [au y rfl];rfl
     rw [e9] at S9 ⊢;exact St.close_star (Δ:=[]) (St.swap S9)
   have U:∀ (jp:Option Code),(isNorm t=jp.isNone)→(∀ y,t=.inr y→jp=some (jump y))→∃ x H,(Instr.endRound w1.heap.size jp).run P v3=.ok x H∧∃ b,Ending.returned x=.returned (.bool b)∧∃ M'' A',M'.le M''∧Ext v H∧St H M'' F' [A']∧b=isNorm t∧A'=B t:=by
    intro jp h1 h2;obtain ⟨x,H,h3,b,h4,M'',A',_,h5,h6,h7,h8⟩:=fin jp h1 h2;exact ⟨x,H,h3,b,h4,M'',A',Hp.le_trans a9 h5,h6,h7,h8⟩
   cases e with
   | normal =>
    cases t with
    | inl y=>exact U none rfl (fun y e=>by cases e)
    | inr y=>exact hc.elim
   | ret =>
    cases t with
    | inl y=>exact hc.elim
    | inr y=>exact U (some .ret) rfl (fun z e=>by cases e;rw [show jump y=.ret from hc])
   | exit id =>
    cases t with
    | inl y=>exact hc.elim
    | inr y=>exact U (some (.exit id)) rfl (fun z e=>by cases e;rw [show jump y=.exit id from hc])
   | _=>cases t<;>exact hc.elim
  | _=>exact q.elim
 have hcon:=(hit w1.heap.size B hY).at S3;obtain ⟨G,ag⟩:∃ G,G=w1.alloc (.loop (rec .ready none)):=⟨_,rfl⟩;rw [← ag] at hent hcon
 have hres:(resolve a.eval (rangeCall g w1.heap.size) 0).run P G=.ok { target:=.fn (.func gf) caps.toArray,args:=#[.func (.yield w1.heap.size) #[] #[]] } G:=by
  have hg':a.eval g=.func (.func gf) #[] caps.toArray:=by rw [ha.eval];exact hg
  have hc':∀ v,a.eval (.const v)=v:=fun _=>rfl;simp [resolve,rangeCall,Deferred.ofValue,hg',hc']
 have hinv:(invoke (.fn (.func gf) caps.toArray) #[.func (.yield w1.heap.size) #[] #[]]).run P G=.ok (.enter gf (#[.func (.yield w1.heap.size) #[] #[]]++caps.toArray)) G:=by
  simp [invoke,callFunc,hf,hb',hn']
 refine ⟨w1.heap.size,mk,G,_,G,gf,_,G,hent,hres,fun _ _=>trivial,hinv,fun h=>Bool.noConfusion h,?_⟩
 ·have eargs:(Value.func (.yield w1.heap.size) #[] #[]::caps).toArray=#[.func (.yield w1.heap.size) #[] #[]]++caps.toArray:=by simp
  rw [eargs] at hcon;refine KJ.2 (Calls.mono hcon ?_);rintro e O ⟨v,rfl,M',bj,hM,W,S4,Γi',rfl,hΨ⟩;have Y:St O M' F ([Blk w1.heap.size (.loop (recOf rec jump st)),I st]++(Γi'++Γr)):=St.open_star (by simpa using S4);have hl:=Y.blk 0 rfl;have hend:=run_endLoop (P:=P) hl (by cases st<;>simp [recOf,hst]);have S6:=(Y.put (r':={ recOf rec jump st with state:=.exhausted }) 0 rfl).drop 0;have a0:Ext O (O.putObj w1.heap.size (.loop { recOf rec jump st with state:=.exhausted })):=Ext.put hl;have hEa:=((ag ▸ Ext.alloc w1 (.loop (rec .ready none)):Ext w1 G).trans W).trans a0;have hK:=K _ M' Γi' hM (al.trans hEa) hΨ (by simpa using S6);have hR:=hreg _ hEa;obtain ⟨c,hc⟩:∃ c,c=(recOf rec jump st).pending:=⟨_,rfl⟩;refine ⟨c,O.putObj w1.heap.size (.loop { recOf rec jump st with state:=.exhausted }),hc ▸ hend,?_⟩
  cases st with
  | inl y=>obtain rfl:c=none:=hc.trans (hpe _ _);exact ⟨ρ,hR,hK⟩
  | inr y=>obtain rfl:c=some (jump y):=hc.trans (hpe _ _);exact hK _ hR
end Go.Proofs.YtnjbjpaiepefoaaGreatDoor
