import Derived.Test.YtcngjjlhdlbogaaDoorPureRef2
namespace Go.Proofs.YtcngjjlhdlbogaaDoor
open Go Go.RowKit
set_option linter.unusedVariables false
set_option linter.unusedSimpArgs false
set_option maxRecDepth 100000
def setF (K:RK):List RK→List RK→Bool→List RK×Bool
 | [],out,d=>(out,d)
 | y::r,out,d=>setF K r ((if cfS y.Key K.Key≥0∧d=false then out++[K] else out)++if cfS y.Key K.Key≠0 then [y] else []) (d||decide (cfS y.Key K.Key≥0))
theorem qa (x:RM) (K:RK) (hl:x.L.length≤1000000) (hk:∀ y∈x.L,y.Key.length≤64):∀ (j i:Nat) (out:List RK) (d:Bool),i+j=x.L.length→out.length≤2*i→∀ k,j+64<k→ZL x K k out d (i:Int)=some (setF K (x.L.drop i) out d):=by
 intro j
 induction j with
 | zero =>
  intro i out d hi ho k hk'
  obtain ⟨k,rfl⟩:∃ q,k=q+1:=⟨k-1,by omega⟩
  rw [ZL.eq_2,if_neg (by simp;omega),List.drop_of_length_le (by omega)];rfl
 | succ j ih =>
  intro i out d hi ho k hk'
  obtain ⟨k,rfl⟩:∃ q,k=q+1:=⟨k-1,by omega⟩
  have hlt:i<x.L.length:=by omega
  have hy:=hk _ (List.getElem_mem hlt)
  rw [ZL.eq_2,if_pos (by simpa using hlt),if_pos (inR hlt),rdN hlt,Vb k _ _ (by omega) (by omega),Option.bind_some,wr1 (by omega),List.drop_eq_getElem_cons hlt,setF]
  by_cases c:cfS x.L[i].Key K.Key≥0∧d=false
  ·rw [if_pos (by simpa using c),if_pos (by simp;omega),Option.bind_some,if_pos c]
   dsimp only
   by_cases c2:cfS x.L[i].Key K.Key=0
   ·rw [if_neg (by simpa using c2),Option.bind_some,Option.bind_some,if_neg (by simpa using c2),List.append_nil]
    dsimp only
    rw [ih (i+1) _ _ (by omega) (by simp;omega) k (by omega)]
    simp [c.1,c.2]
   ·rw [if_pos (by simpa using c2),if_pos (inR hlt),if_pos (by simp;omega),Option.bind_some,Option.bind_some,if_pos c2]
    dsimp only
    rw [ih (i+1) _ _ (by omega) (by simp;omega) k (by omega)]
    simp [c.1,c.2]
  ·rw [if_neg (by simpa using c),Option.bind_some,if_neg c]
   dsimp only
   have ed:(d||decide (cfS x.L[i].Key K.Key≥0))=d:=by
    cases d
    ·have:¬ cfS x.L[i].Key K.Key≥0:=fun h=>c ⟨h,rfl⟩
     simp [this]
    ·rfl
   rw [ed]
   by_cases c2:cfS x.L[i].Key K.Key=0
   ·rw [if_neg (by simpa using c2),Option.bind_some,Option.bind_some,if_neg (by simpa using c2),List.append_nil]
    exact ih (i+1) _ _ (by omega) (by dsimp only;omega) k (by omega)
   ·rw [if_pos (by simpa using c2),if_pos (inR hlt),if_pos (by simp;omega),Option.bind_some,Option.bind_some,if_pos c2]
    exact ih (i+1) _ _ (by omega) (by dsimp only;simp;omega) k (by omega)
def setV (K:RK) (L:List RK):List RK:=if (setF K L [] (goneK K)).2=false then (setF K L [] (goneK K)).1++[K] else (setF K L [] (goneK K)).1
theorem JA (K:RK):∀ (L out:List RK) (d:Bool),(setF K L out d).1.length≤out.length+2*L.length
 | [],out,d=>by simp [setF]
 | y::r,out,d=>by
  unfold setF
  refine Nat.le_trans (JA K r _ _) ?_
  rw [List.length_append,List.length_cons]
  split<;>split<;>simp<;>omega
theorem Uv (x:RM) (K:RK) (hl:x.L.length≤1000000) (hk:∀ y∈x.L,y.Key.length≤64) (k:Nat) (h:x.L.length+64<k):ZC k x K=some ⟨x.C,x.T,setV K x.L,x.Time,x.Low⟩:=by
 have h0:ZL x K k [] (goneK K) (0:Int)=some (setF K x.L [] (goneK K)):=qa x K hl hk x.L.length 0 [] _ (by omega) (by simp) k h
 have hlen:=JA K x.L [] (goneK K)
 unfold goneK at h0 hlen
 unfold ZC setV goneK
 rw [h0,Option.bind_some]
 generalize setF K x.L [] (((K.L.length:Int)==(0:Int))&&!K.Has)=r at *
 obtain ⟨out,d⟩:=r
 dsimp only at hlen ⊢
 cases d
 ·rw [if_pos (show false=false from rfl),if_pos (show (!false)=true from rfl),if_pos (by simp at hlen ⊢;omega),Option.bind_some]
 ·rfl
theorem qV (x:RM) (K:RK):∀ (k:Nat) (out:List RK) (d:Bool) (i:Int),Zu x K k out d i=ZL x K k out d i:=by
 intro k
 induction k with
 | zero=>intro out d i;rfl
 | succ k ih=>intro out d i;rw [Zu.eq_2,ZL.eq_2];simp only [ih]
theorem set_eq (k:Nat) (x:RM) (K:RK):Z2 k x K=ZC k x K:=by
 unfold Z2 ZC;simp only [qV]
theorem K3 {a b:Str} (h:ltS a b=true):cfS b a>0:=by
 have h1:ltS b a=false:=X9.asymmA h
 have h2:¬ cfS b a<0:=fun q=>by rw [Kx.2 q] at h1;cases h1
 have h3:cfS b a≠0:=fun q=>J6 h (UT _ _ q).symm
 omega
theorem Up {K:RK}:∀ (a r out:List RK) (d:Bool),(∀ z∈a,ltS z.Key K.Key=true)→setF K (a++r) out d=setF K r (out++a) d
 | [],r,out,d,_=>by simp
 | z::a,r,out,d,h=>by
  have hz:=Kx.1 (h z List.mem_cons_self)
  have n1:¬ (cfS z.Key K.Key≥0∧d=false):=fun q=>by omega
  have n2:cfS z.Key K.Key≠0:=by omega
  have n3:¬ cfS z.Key K.Key≥0:=by omega
  rw [List.cons_append,setF,if_neg n1,if_pos n2]
  simp only [n3,decide_false,Bool.or_false]
  rw [Up a r _ d fun y hy=>h y (List.mem_cons_of_mem _ hy)]
  simp
theorem Uq {K:RK}:∀ (b out:List RK),(∀ z∈b,ltS K.Key z.Key=true)→setF K b out true=(out++b,true)
 | [],out,_=>by simp [setF]
 | z::b,out,h=>by
  have hz:=K3 (h z List.mem_cons_self)
  rw [setF,if_neg (by simp),if_pos (by omega),Bool.true_or,Uq b _ fun y hy=>h y (List.mem_cons_of_mem _ hy)]
  simp
theorem J0 {K y:RK} (a b:List RK) (ha:∀ z∈a,ltS z.Key K.Key=true) (hy:y.Key=K.Key) (hb:∀ z∈b,ltS K.Key z.Key=true):setV K (a++y::b)=a++((if goneK K=true then [] else [K])++b):=by
 have h0:cfS y.Key K.Key=0:=by rw [hy];exact Vm _
 unfold setV
 rw [Up a _ _ _ ha,setF]
 simp only [h0,ge_iff_le,Int.le_refl,decide_true,Bool.or_true,true_and,ne_eq,not_true_eq_false,if_false,List.append_nil,List.nil_append]
 rw [Uq b _ hb]
 cases goneK K<;>simp
theorem qW {K:RK} (a b:List RK) (ha:∀ z∈a,ltS z.Key K.Key=true) (hb:∀ z∈b,ltS K.Key z.Key=true):setV K (a++b)=a++((if goneK K=true then [] else [K])++b):=by
 unfold setV
 rw [Up a _ _ _ ha]
 cases b with
 | nil=>cases goneK K<;>simp [setF]
 | cons z b =>
  have hz:=K3 (hb z List.mem_cons_self)
  have hb':∀ y∈b,ltS K.Key y.Key=true:=fun y hy=>hb y (List.mem_cons_of_mem _ hy)
  have n2:cfS z.Key K.Key≠0:=by omega
  have n3:cfS z.Key K.Key≥0:=by omega
  rw [setF]
  simp only [n3,n2,decide_true,Bool.or_true,true_and,ne_eq,not_false_eq_true,if_true,List.nil_append]
  rw [Uq b _ hb']
  cases goneK K<;>simp
theorem U9 (key:Str):∀ L:List RK,L.Pairwise (fun a b=>ltS a.Key b.Key=true)→∃ a b,(∀ z∈a,ltS z.Key key=true)∧(∀ z∈b,ltS key z.Key=true)∧(L=a++b∨∃ y,y.Key=key∧L=a++y::b)
 | [],_=>⟨[],[],fun _ h=>(by cases h),fun _ h=>(by cases h),.inl rfl⟩
 | y::L,h=>by
  have hp:=List.pairwise_cons.1 h
  by_cases c:ltS y.Key key=true
  ·obtain ⟨a,b,h1,h2,h3⟩:=U9 key L hp.2
   refine ⟨y::a,b,fun z hz=>?_,h2,?_⟩
   ·rcases List.mem_cons.1 hz with rfl | hz
    ·exact c
    ·exact h1 z hz
   ·rcases h3 with rfl | ⟨w,hw,rfl⟩
    ·exact .inl rfl
    ·exact .inr ⟨w,hw,rfl⟩
  ·by_cases d:ltS key y.Key=true
   ·refine ⟨[],y::L,fun _ h=>(by cases h),fun z hz=>?_,.inl rfl⟩
    rcases List.mem_cons.1 hz with rfl | hz
    ·exact d
    ·exact VU _ _ _ d (hp.1 z hz)
   ·have e:y.Key=key:=Xo _ _ (by simpa using c) (by simpa using d)
    exact ⟨[],L,fun _ h=>(by cases h),fun z hz=>by rw [← e];exact hp.1 z hz,.inr ⟨y,e,rfl⟩⟩
section
variable {n:Nat} {m:Mod} {x:RM}
theorem Rel.put (R:Rel m x) (I:Inv n m) {key:Str} {r:Ql} (hg:gone r=false) (hk:key.length≤64):Rel { m with rows:=mput m.rows key r } ⟨x.C,x.T,setV (keyOf (key,r)) x.L,x.Time,x.Low⟩:=by
 have hgK:goneK (keyOf (key,r))=false:=by rw [Vk];exact hg
 obtain ⟨a,b,ha,hb,hL⟩:=U9 key x.L R.so
 have hV:setV (keyOf (key,r)) x.L=a++keyOf (key,r)::b:=by
  rcases hL with h | ⟨y,hy,h⟩
  ·rw [h,qW a b ha hb,hgK];rfl
  ·rw [h,J0 a b ha hy hb,hgK];rfl
 have hsub:∀ z,z∈a∨z∈b↔z∈x.L∧z.Key≠key:=fun z=>by
  constructor
  ·rintro (h | h)
   ·exact ⟨by rcases hL with e | ⟨y,_,e⟩<;>rw [e]<;>simp [h],J6 (ha z h)⟩
   ·exact ⟨by rcases hL with e | ⟨y,_,e⟩<;>rw [e]<;>simp [h],(J6 (hb z h)).symm⟩
  ·rintro ⟨h,hne⟩
   rcases hL with e | ⟨y,hy,e⟩
   ·rw [e] at h;exact List.mem_append.1 h
   ·rw [e] at h
    rcases List.mem_append.1 h with h | h
    ·exact .inl h
    ·rcases List.mem_cons.1 h with rfl | h
     ·exact absurd hy hne
     ·exact .inr h
 have hso:(a++b).Pairwise fun a b=>ltS a.Key b.Key=true:=by
  rcases hL with e | ⟨y,_,e⟩
  ·rw [← e];exact R.so
  ·have:=R.so
   rw [e] at this
   exact this.sublist (List.Sublist.append_left (List.sublist_cons_self y b) a)
 have hp:=List.pairwise_append.1 hso
 refine ⟨R.c,R.t,R.n1,R.n2,R.n3,R.mn,?_,fun y=>?_,fun y hy=>?_,fun y hy=>?_,R.ti,R.lo⟩
 ·show (setV (keyOf (key,r)) x.L).Pairwise _
  rw [hV]
  refine List.pairwise_append.2 ⟨hp.1,List.pairwise_cons.2 ⟨hb,hp.2.1⟩,fun u hu v hv=>?_⟩
  rcases List.mem_cons.1 hv with rfl | hv
  ·exact ha u hu
  ·exact hp.2.2 u hu v hv
 ·show y∈setV (keyOf (key,r)) x.L↔∃ p∈mput m.rows key r,y=keyOf p
  rw [hV]
  constructor
  ·intro h
   rcases List.mem_append.1 h with h | h
   ·obtain ⟨h1,h2⟩:=(hsub y).1 (.inl h)
    obtain ⟨p,hp,rfl⟩:=(R.me y).1 h1
    exact ⟨p,(Xr I.nd p).2 (.inr ⟨hp,h2⟩),rfl⟩
   ·rcases List.mem_cons.1 h with rfl | h
    ·exact ⟨(key,r),(Xr I.nd _).2 (.inl rfl),rfl⟩
    ·obtain ⟨h1,h2⟩:=(hsub y).1 (.inr h)
     obtain ⟨p,hp,rfl⟩:=(R.me y).1 h1
     exact ⟨p,(Xr I.nd p).2 (.inr ⟨hp,h2⟩),rfl⟩
  ·rintro ⟨p,hp,rfl⟩
   rcases (Xr I.nd p).1 hp with rfl | ⟨h1,h2⟩
   ·simp
   ·rcases (hsub (keyOf p)).2 ⟨(R.me _).2 ⟨p,h1,rfl⟩,h2⟩ with h | h<;>simp [h]
 ·have hy:y∈setV (keyOf (key,r)) x.L:=hy
  rw [hV] at hy
  rcases List.mem_append.1 hy with h | h
  ·exact R.go y ((hsub y).1 (.inl h)).1
  ·rcases List.mem_cons.1 h with rfl | h
   ·exact hgK
   ·exact R.go y ((hsub y).1 (.inr h)).1
 ·have hy:y∈setV (keyOf (key,r)) x.L:=hy
  rw [hV] at hy
  rcases List.mem_append.1 hy with h | h
  ·exact R.kl y ((hsub y).1 (.inl h)).1
  ·rcases List.mem_cons.1 h with rfl | h
   ·exact hk
   ·exact R.kl y ((hsub y).1 (.inr h)).1
theorem Rel.write_ev (R:Rel m x) (I:Inv n m) (hn:n≤1000000) {w:Int} (h1:1≤w) (h2:w≤(m.txs.length:Int)) (key val:Str) (tomb:Bool) (hk:key.length≤64):∃ x',Ev (fun k=>Zl k x w key val tomb) ((writeS m key ⟨w,0,tomb,val⟩).1,x')∧Rel (writeS m key ⟨w,0,tomb,val⟩).2 x':=by
 have h3:=I.tl
 have h4:=R.tlen
 have hr:=(I.row key).1
 have hll:=R.llen I
 have hrl:=I.rl
 obtain ⟨i,hi⟩:=Int.eq_ofNat_of_zero_le (show 0≤w-1 by omega)
 have hlt:i<x.T.length:=by omega
 have hof:=R.of_ev I hn key
 have hsee:=R.see_ev I hn h1 h2 (key,rowOf m key) (by show (rowOf m key).l.length≤1000000;omega)
 have hput:=fun hg=>R.put (key:=key) (r:=⟨(rowOf m key).l,⟨w,0,tomb,val⟩⟩) I hg hk
 unfold Zl writeS
 rw [wr (x:=w-1) (by omega) (by omega),hi,rdN hlt,R.tx hlt]
 dsimp only
 generalize rowOf m key=r at *
 by_cases c1:r.intent.Writer≠w∧r.intent.Writer≠0
 ·rw [if_pos (Or.inl c1)]
  exact ⟨x,hof.bind (Ev.bind (v:=true) (Ev.pos (by simp [keyOf,c1.1,c1.2]) (Ev.pure _)) (Ev.pos rfl (Ev.pure _))),R⟩
 ·have b1':Ev (fun k=>(if ((keyOf (key,r)).Has&&((keyOf (key,r)).I.Writer != w))=true then some (true) else (if 0≤(i:Int)∧(i:Int)<(x.T.length:Int) then (Option.bind (Yl k (keyOf (key,r)).L (x.T[i].Snapshot)) (fun t76=>some (t76))) else none))) (clash r.l x.T[i].Snapshot):=by
   refine Ev.neg ?_ (Ev.chk ⟨by omega,by omega⟩ (Ev.bind ⟨0,fun k _=>Ki r.l _ k⟩ (Ev.pure _)))
   simp only [keyOf,Bool.and_eq_true,decide_eq_true_eq,bne_iff_ne,ne_eq]
   exact fun q=>c1 ⟨q.2,q.1⟩
  cases c2:clash r.l x.T[i].Snapshot with
  | true =>
   rw [c2] at b1'
   rw [if_pos (Or.inr rfl)]
   exact ⟨x,hof.bind (b1'.bind (Ev.pos rfl (Ev.pure _))),R⟩
  | false =>
   rw [c2] at b1'
   rw [if_neg (by
    rintro (h | h)
    ·exact c1 h
    ·cases h)]
   by_cases c3:tomb=true∧(seeS m w r).2=false
   ·rw [if_pos c3]
    exact ⟨x,hof.bind (b1'.bind (Ev.neg (by simp) (hsee.bind (Ev.pos (by simp [c3.1,c3.2]) (Ev.pure _))))),R⟩
   ·rw [if_neg c3]
    have n3:¬ (tomb&&!(seeS m w r).2)=true:=by
     simp only [Bool.and_eq_true,Bool.not_eq_true'];exact c3
    by_cases c4:r.intent.Writer=0∧(r.l=[]∧(m.rows.length:Int)≥m.c.Keys∨(r.l.length:Int)≥m.c.Depth)
    ·rw [if_pos c4]
     refine ⟨x,hof.bind (b1'.bind (Ev.neg (by simp) (hsee.bind (Ev.neg n3 (Ev.pos ?_ (Ev.pure _)))))),R⟩
     rw [R.c,hll]
     rcases c4 with ⟨c5,c6 | c6⟩<;>simp [keyOf,c5,c6]
    ·rw [if_neg c4]
     have hw0:w≠0:=by omega
     have hset:=Uv x (keyOf (key,⟨r.l,⟨w,0,tomb,val⟩⟩)) (by omega) R.kl
     have eK:(⟨key,r.l,true,⟨w,0,tomb,val⟩⟩:RK)=keyOf (key,⟨r.l,⟨w,0,tomb,val⟩⟩):=by simp [keyOf,hw0]
     refine ⟨⟨x.C,x.T,setV (keyOf (key,⟨r.l,⟨w,0,tomb,val⟩⟩)) x.L,x.Time,x.Low⟩,hof.bind (b1'.bind (Ev.neg (by simp) (hsee.bind (Ev.neg n3 (Ev.neg ?_ ?_))))),hput (by simp [gone,hw0])⟩
     ·rw [R.c,hll]
      intro q
      simp only [keyOf,Bool.and_eq_true,Bool.or_eq_true,Bool.not_eq_true',decide_eq_false_iff_not,Decidable.not_not,beq_iff_eq,decide_eq_true_eq,ne_eq] at q
      refine c4 ⟨q.1,?_⟩
      rcases q.2 with ⟨q1,q2⟩ | q1
      ·exact .inl ⟨List.length_eq_zero_iff.1 (by omega),q2⟩
      ·exact .inr (by simpa using q1)
     ·refine Ev.bind (v:=⟨x.C,x.T,setV (keyOf (key,⟨r.l,⟨w,0,tomb,val⟩⟩)) x.L,x.Time,x.Low⟩) ⟨x.L.length+65,fun k hk=>?_⟩ (Ev.pure _)
      show ZC k x (⟨key,r.l,true,⟨w,0,tomb,val⟩⟩:RK)=_
      rw [eK];exact hset k (by omega)
end
end Go.Proofs.YtcngjjlhdlbogaaDoor
