/- Lemmas: DlV, DlW, DlX, DlY, DlZ, DlZA, DlZB, DlZC, DlZD, DlZE, DlZF, DlZGa, DlZG, DlZH, DlZI, FCode0, FCode1. -/
import Derived.Test.YtaaaefcmpgpkgaaGreatDoorT01
set_option maxHeartbeats 16000000
set_option linter.all false
open Bool renaming and_eq_true → ZvN, or_eq_true → ZvW
open Go.Proofs.Tryz renaming prog → ZvJ
open List renaming getElem_of_mem → ZvX, length_append → ZvT, length_cons → Zv0
open Nat renaming le_refl → ZvR
open Option renaming map_eq_some_iff → ZvO
open Option.some renaming injEq → ZvD
open Prod.mk renaming injEq → ZvL
namespace Go.DL
open Go
variable [Znt]
inductive Res where
 | ret (d:D)
 | panic (d:D)
def Zqd (g:G) (w:World):Ending→Res→Prop
 | .returned v,.ret d=>Rep g w v d
 | .panicked ch,.panic d=>∃ v,ch=[{ v,recovered:=false }]∧Rep g w v d
 | _,_=>False
def Zfu (g:G) (w:World) (Φ:Res→St→Prop) (e:Ending) (w':World):Prop :=
 ∃ g' s' r,Ext g w g' w'∧Wo g' s' w'∧Zqd g' w' e r∧Φ r s'
section
variable {P:Program}
def ZK (P:Program) (f:FuncId) (args:List D) (s:St) (Φ:Res→St→Prop):Prop :=
 (∃ fn,P.funcs[f]? = some fn∧fn.body.isSome=true∧(fn.name == "runtime.NumGoroutine")=false) ∧
 ∀ g w (vs:List Value),Wo g s w→ZZ (Rep g w) vs args→Calls P f vs.toArray w (Zfu g w Φ)
theorem ZK.mono {f:FuncId} {args:List D} {s:St} {Φ Φ':Res→St→Prop} (h:ZK P f args s Φ) (hp:∀ r s',Φ r s'→Φ' r s'):ZK P f args s Φ' :=
 ⟨h.1,fun g w vs hs ha=>(h.2 g w vs hs ha).mono fun _ _ ⟨g',s',r,a,b,c,d⟩=>⟨g',s',r,a,b,c,hp _ _ d⟩⟩
def Zit (P:Program) (f:FuncId) (cs:List Frame) (Φ:Res→St→Prop):Zp9 P where
 T g w m:=∃ e w' fr,Comes P m (lone fr cs w') e∧fr.fn=f∧fr.leaving P w' e∧Zfu g w Φ e w'
 back g w m m' hs h:=let ⟨e,w',fr,a,b⟩:=h; ⟨e,w',fr,a.of_steps hs,b⟩
 ext g w g' w' m hx h:=by
  obtain ⟨e,w2,fr,a,b,c,g2,s2,r,d1,d2,d3,d4⟩:=h
  exact ⟨e,w2,fr,a,b,c,g2,s2,r,hx.trans d1,d2,d3,d4⟩
def ZkB (P:Program) (an:Ann) (f:FuncId) (N:Nat) (cs:List Frame) (Φ:Res→St→Prop):Fr P where
 T:=Zit P f cs Φ
 b:={ (default:Frame) with fn:=f,kind:=.normal,roundOf:=none }
 cs:=cs
 N:=N
 ds:=[]
 an:=an
def QZ:Nat→List D→Env
 | _,[]=>[]
 | i,d :: ds=>(i,.d d) :: QZ (i + 1) ds
theorem Zmg:∀ (ds:List D) (i t:Nat) (e:E),Ye (QZ i ds) t=some e→∃ d,e = .d d∧i≤t∧ds[t - i]? = some d
 | [],i,t,e,h=>by simp [QZ,Ye] at h
 | d :: ds,i,t,e,h=>by
  simp only [QZ,Ye] at h
  by_cases hit:i=t
  ·subst hit; simp only [if_true,ZvD] at h; subst h; exact ⟨d,rfl,ZvR _,by simp⟩
  ·simp only [hit,if_false] at h
   obtain ⟨d',h1,h2,h3⟩:=Zmg ds (i + 1) t e h
   refine ⟨d',h1,by omega,?_⟩
   rw [show t - i=(t - (i + 1)) + 1 from by omega,List.getElem?_cons_succ]; exact h3
theorem Zfl {g:G} {w:World} {s:St} (hs:Wo g s w) {vs:List Value} {args:List D} (ha:ZZ (Rep g w) vs args) (n:Nat) :
  ZI g (fun _=>0) w (vs.toArray++Array.replicate n undef) (QZ 0 args) [] s:={
 st:=hs
 loc l cs h:=by simp [Zl] at h
 locKept l cs h:=by simp [Zl] at h
 locSt l cs h:=by simp [Zl] at h
 inj l l' cs cs' h:=by simp [Zl] at h
 env t e h:=by
  obtain ⟨d,rfl,_,hd⟩:=Zmg args 0 t e h
  simp only [Nat.sub_zero] at hd
  have hlt:t < vs.length:=by rw [ha.len]; exact (List.getElem?_eq_some_iff.1 hd).1
  have:(vs.toArray++Array.replicate n undef).getD t undef=vs[t]:=by
   simp [Array.getD_eq_getD_getElem?,Array.getElem?_append,hlt]
  rw [this]
  exact ha.get t _ d (by simp [hlt]) hd }
theorem Zg1 {an:Ann} {f:FuncId} {df:DF} (hf:cf P an f=some df) {args:List D} {s:St} {Φ:Res→St→Prop}
  (h:∀ cs,ZD (ZkB P an f df.n cs Φ) [.code df.body] (QZ 0 args) [] s):ZK P f args s Φ:=by
 unfold cf at hf
 split at hf <;> (try (simp at hf; done))
 rename_i fn hfn
 split at hf <;> (try (simp at hf; done))
 rename_i c hc
 split at hf <;> (try (simp at hf; done))
 rename_i hname
 split at hf <;> simp at hf
 rename_i rs d hrs hd
 subst hf
 refine ⟨⟨fn,hfn,by simp [hc],by simpa using hname⟩,fun g w vs hs ha=>?_⟩
 intro cs
 have henter:Frame.enter P f vs.toArray .normal =
   (ZkB P an f fn.ntmps cs Φ).b.atR { tmps:=vs.toArray++Array.replicate (fn.ntmps - vs.length) undef,defers:=[] } [.code c]:=by
  simp [Frame.enter,Frame.atR,hfn,hc,ZkB]
 have:=h cs [.code c] (.code hd .nil) g (fun _=>0) w (vs.toArray++Array.replicate (fn.ntmps - vs.length) undef) (by simp [ZkB]; omega) (Zfl hs ha _)
 obtain ⟨e,w',fr,a,b,c',d'⟩:=this
 refine ⟨e,w',fr,d',?_,b,c'⟩
 rw [henter]
 exact a
def Jx (ρ:Env) (L:Loc) (s:St):RV→Option (Prop × D)
 | .tmp t=>match Ye ρ t with
  | some (.d x)=>some (True,x)
  | some (.when c (.d x))=>some (c=true,x)
  | _=>none
 | .cell1 t=>match Ye ρ t with
  | some e=>(K3 L s e).map (True,·)
  | none=>none
 | .cellN t n=>match Ye ρ t with
  | some e=>(Qe L s n e).map fun r=>(r.1,.agg r.2)
  | none=>none
def KI (ρ:Env) (L:Loc) (s:St):List RV→Option (Prop × List D)
 | []=>some (True,[])
 | r :: rs=>match Jx ρ L s r,KI ρ L s rs with
  | some (p,d),some (q,ds)=>some (p∧q,d :: ds)
  | _,_=>none
def Jw:List D→D
 | [d]=>d
 | ds=>.tup ds
def ZiB (tmps:Array Value):ResultVar→Sem Value
 | .tmp t=>pure (tmps.getD t undef)
 | .cell a t=>do loadVar t (← asAddr (tmps.getD a undef))
theorem ZkV (fn:Func) (tmps:Array Value):results fn tmps=(do
  let vs ← fn.results.mapM (ZiB tmps)
  pure (if h:vs.size=1 then vs[0] else .tuple vs)):=by
 unfold results
 congr 1
theorem Zvv {g:G} {ν:Nat→Nat} {w:World} {tmps:Array Value} {ρ:Env} {L:Loc} {s:St} (m:ZI g ν w tmps ρ L s) {r:ResultVar} {rv:RV} (hc:crv P r=some rv) {p:Prop} {d:D} (h:Jx ρ L s rv=some (p,d)) (hp:p) :
  ∃ v,(ZiB tmps r).run P w = .ok v w∧Rep g w v d:=by
 cases r with
 | tmp t =>
  simp only [crv,ZvD] at hc
  subst hc
  simp only [Jx] at h
  split at h <;> simp only [ZvD,ZvL,reduceCtorEq] at h
  ·rename_i x hx
   obtain ⟨rfl,rfl⟩:=h
   exact ⟨_,rfl,m.env t _ hx⟩
  ·rename_i c x hx
   obtain ⟨rfl,rfl⟩:=h
   exact ⟨_,rfl,(m.env t _ hx).1 hp⟩
 | cell a t =>
  simp only [crv] at hc
  split at hc <;> simp at hc
  ·rename_i n ha hsz
   subst hc
   simp only [Jx] at h
   split at h <;> (try (simp at h; done))
   rename_i e he
   simp only [ZvO,ZvL] at h
   obtain ⟨⟨q,ds⟩,hq,rfl,rfl⟩:=h
   obtain ⟨ad,hv,vs,hrun,hrep⟩:=ZkP (P:=P) m.loc m.st (m.env a e he) hq hp
   exact ⟨.agg vs.toArray,by simp only [ZiB,hv,asAddr]; simp [loadVar,ZeP ha,WX hsz,hrun],hrep⟩
  ·rename_i n ha hsz
   subst hc
   simp only [Jx] at h
   split at h <;> (try (simp at h; done))
   rename_i e he
   simp only [ZvO,ZvL] at h
   obtain ⟨x,hx,_,rfl⟩:=h
   obtain ⟨b,o,y,hv,hy,hr,_⟩:=Zkf m.loc m.st (m.env a e he) hx
   exact ⟨y,by simp only [ZiB,hv,asAddr]; simp [loadVar,ZdG ha,hy],hr⟩
theorem Zsn {g:G} {ν:Nat→Nat} {w:World} {tmps:Array Value} {ρ:Env} {L:Loc} {s:St} (m:ZI g ν w tmps ρ L s):∀ {rs:List ResultVar} {rvs:List RV},Zlr P rs=some rvs→∀ {p:Prop} {ds:List D},
  KI ρ L s rvs=some (p,ds)→p→∃ vs:List Value,(rs.mapM (ZiB tmps)).run P w = .ok vs w∧ZZ (Rep g w) vs ds
 | [],rvs,hc,p,ds,h,hp=>by
  simp only [Zlr,ZvD] at hc
  subst hc
  simp only [KI,ZvD,ZvL] at h
  obtain ⟨rfl,rfl⟩:=h
  exact ⟨[],by simp,.nil⟩
 | r :: rs,rvs,hc,p,ds,h,hp=>by
  simp only [Zlr] at hc
  split at hc <;> simp at hc
  rename_i x xs hx hxs
  subst hc
  simp only [KI] at h
  split at h <;> simp only [ZvD,ZvL,reduceCtorEq] at h
  rename_i p1 d1 p2 ds' h1 h2
  obtain ⟨rfl,rfl⟩:=h
  obtain ⟨v,hv1,hv2⟩:=Zvv m hx h1 hp.1
  obtain ⟨vs,hvs1,hvs2⟩:=Zsn m hxs h2 hp.2
  exact ⟨v :: vs,by simp only [List.mapM_cons,Sem.run_bind]; rw [hv1]; simp only [Result.andThen_ok,hvs1,Sem.run_pure],.cons hv2 hvs2⟩
def D.Le (d d':D):Prop:=∀ g w v,Rep g w v d→Rep g w v d'
theorem D.Le.refl (d:D):d.Le d:=fun _ _ _ h=>h
theorem ZkW {g:G} {ν:Nat→Nat} {w:World} {tmps:Array Value} {ρ:Env} {L:Loc} {s:St} (m:ZI g ν w tmps ρ L s) {fn:Func} {rvs:List RV} (hc:Zlr P fn.results.toList=some rvs) {p:Prop} {ds:List D}
  (h:KI ρ L s rvs=some (p,ds)) (hp:p):∃ v,(results fn tmps).run P w = .ok v w∧Rep g w v (Jw ds):=by
 obtain ⟨vs,h1,h2⟩:=Zsn m hc h hp
 have hmap:(fn.results.mapM (ZiB tmps)).run P w = .ok vs.toArray w:=by
  rw [Array.mapM_eq_mapM_toList]
  simp [h1]
 by_cases hone:vs.length=1
 ·match vs,hone,h2 with
  | [v],_,.cons hv .nil =>
   refine ⟨v,?_,hv⟩
   rw [ZkV]
   simp [hmap]
 ·refine ⟨.tuple vs.toArray,?_,?_⟩
  ·rw [ZkV]
   simp [hmap,hone]
  ·have hlen:=h2.len
   have:Jw ds = .tup ds:=by
    match ds,hlen with
    | [],_=>rfl
    | [_],hl=>exact absurd hl hone
    | _ :: _ :: _,_=>rfl
   rw [this]
   exact .tup vs ds hlen h2.get
def St.sub (s' s:St):Prop:=∀ b o,s' b=some o→s b=some o
theorem Wo.sub {g:G} {w:World} {s s':St} (h:Wo g s w) (hs:s'.sub s):Wo g s' w:={
 obj b o ho:=h.obj b o (hs b o ho)
 kept b o ho:=h.kept b o (hs b o ho)
 fresh:=h.fresh
 tabs:=h.tabs }
end
end Go.DL
namespace Go.DL
open Go
variable [Znt]
section
variable {P:Program}
def Kw (F:Fr P) (ρ:Env) (L:Loc) (d:D) (s:St):Prop :=
 ∀ g ν w v todo tmps,F.N≤tmps.size→ZI g ν w tmps ρ L s→Rep g w v d→F.T.T g w (lone { F.b.atR ⟨tmps,F.ds⟩ todo with mode:=.panicking [{ v,recovered:=false }] } F.cs w)
theorem ZI.empty {g:G} {ν:Nat→Nat} {w:World} {tmps:Array Value} {ρ:Env} {L:Loc} {s:St} (m:ZI g ν w tmps ρ L s):ZI g ν w tmps [] [] s:={
 st:=m.st
 loc l cs h:=by simp [Zl] at h
 locKept l cs h:=by simp [Zl] at h
 locSt l cs h:=by simp [Zl] at h
 inj l l' cs cs' h:=by simp [Zl] at h
 env t e h:=by simp [Ye] at h }
theorem Kw.weak {F:Fr P} {d:D} {s:St} (h:Kw F [] [] d s) (ρ:Env) (L:Loc):Kw F ρ L d s :=
 fun g ν w v todo tmps hN m hr=>h g ν w v todo tmps hN m.empty hr
def ZeR (g:G) (ν:Nat→Nat) (L:Loc):G:={ g with kept:=fun b=>g.kept b∨∃ l cs,Zl L l=some cs∧b=ν l }
theorem KS {g g':G} {w:World} {v:Value} {d:D} (h:Rep g w v d) (hp:g'.prot=g.prot):Rep g' w v d :=
 h.mono0 (fun b=>by rw [hp]; exact ZvR _) (fun _ _ _=>rfl) (fun _ _ h=>h)
theorem Zsl {g g':G} {ν:Nat→Nat} {w:World} {L:Loc} {v:Value} {e:E} (h:Z5 g ν w L v e) (hp:g'.prot=g.prot):Z5 g' ν w L v e:=by
 induction e with
 | d x=>exact KS h hp
 | loc l o=>exact h
 | when c e ih=>exact ⟨fun hc=>ih (h.1 hc),h.2⟩
theorem ZkO {g g':G} {w:World} {b:Nat} {o:Y6} (h:Qb g w b o) (hp:g'.prot=g.prot):Qb g' w b o:=by
 cases o with
 | cells ds =>
  obtain ⟨h0,vs,T,h1,h2,h3,h4⟩:=h
  exact ⟨by rw [hp]; exact h0,vs,T,h1,h2,fun i v d hv hd=>KS (h3 i v d hv hd) hp,h4⟩
 | map es =>
  obtain ⟨h0,en,cl,h1,h2,h3,h4,h5,h6⟩:=h
  exact ⟨by rw [hp]; exact h0,en,cl,h1,h2,fun i v d hv hd=>KS (h3 i v d hv hd) hp,fun i v d hv hd=>KS (h4 i v d hv hd) hp,h5,h6⟩
 | tip k =>
  obtain ⟨h0,h1⟩:=h
  exact ⟨by rw [hp]; exact h0,h1⟩
 | mapE kp es k n =>
  obtain ⟨h0,io,h1,en,cl,h2,h3,h4,h5,h6,h7⟩:=h
  exact ⟨by rw [hp]; exact h0,io,h1,en,cl,h2,h3,fun i v d hi hv hd=>KS (h4 i v d hi hv hd) hp,fun i v d hi hv hd=>KS (h5 i v d hi hv hd) hp,fun e he=>⟨KS (h6 e he).1 hp,(h6 e he).2⟩,h7⟩
 | loop r st =>
  obtain ⟨h0,l,h1,h2,h3,h4,h5,h6,h7,h8,h9⟩:=h
  exact ⟨by rw [hp]; exact h0,l,h1,h2,h3,h4,h5,h6,h7,fun t e he=>Zsl (h8 t e he) hp,h9⟩
 | dfr =>
  obtain ⟨h0,h1⟩:=h
  exact ⟨by rw [hp]; exact h0,h1⟩
theorem ZI.callSt {g:G} {ν:Nat→Nat} {w:World} {tmps:Array Value} {ρ:Env} {L:Loc} {s:St} (m:ZI g ν w tmps ρ L s):Wo (ZeR g ν L) s w:={
 obj b o ho:=ZkO (m.st.obj b o ho) rfl
 kept b o ho:=by
  rintro (h | ⟨l,cs,hl,rfl⟩)
  ·exact m.st.kept b o ho h
  ·rw [m.locSt l cs hl] at ho; simp at ho
 fresh b hb:=⟨(m.st.fresh b hb).1,by
  rintro (h | ⟨l,cs,hl,rfl⟩)
  ·exact (m.st.fresh b hb).2 h
  ·have:=(m.loc l cs hl).lt; omega⟩
 tabs n cs hc:=KS (m.st.tabs n cs hc) rfl }
theorem ZI.afterCall {g g':G} {ν:Nat→Nat} {w w':World} {tmps:Array Value} {ρ:Env} {L:Loc} {s s':St} (m:ZI g ν w tmps ρ L s) (hx:Ext (ZeR g ν L) w g' w') (hs:Wo g' s' w') :
  Ext g w { g' with kept:=g.kept } w'∧ZI { g' with kept:=g.kept } ν w' tmps ρ L s':=by
 have hext:Ext g w { g' with kept:=g.kept } w' :=
  ⟨hx.size,hx.prot,hx.cell,hx.hdr,fun b hb=>hx.kept b (.inl hb),fun b hb=>hx.keptProt b (.inl hb),rfl,hx.os,hx.output,hx.tape⟩
 refine ⟨hext,⟨⟨fun b o ho=>ZkO (hs.obj b o ho) rfl,fun b o ho hk=>hs.kept b o ho (by rw [hx.keptEq]; exact .inl hk),fun b hb=>⟨(hs.fresh b hb).1,fun hk=>(hs.fresh b hb).2 (by rw [hx.keptEq]; exact .inl hk)⟩,fun n cs hc=>KS (hs.tabs n cs hc) rfl⟩,?_,m.locKept,?_,m.inj,?_⟩⟩
 ·intro l cs hl
  exact (m.loc l cs hl).mono hext (hx.kept _ (.inr ⟨l,cs,hl,rfl⟩)) (hx.keptProt _ (.inr ⟨l,cs,hl,rfl⟩))
 ·intro l cs hl
  cases hsl:s' (ν l) with
  | none=>rfl
  | some o=>exact absurd (by rw [hx.keptEq]; exact .inr ⟨l,cs,hl,rfl⟩) (hs.kept _ o hsl)
 ·intro t e he
  exact (m.env t e he).mono hext
theorem Zpz {op:Op} {f:Opd} {xs:List Opd} (h:ck P op=some (.call f xs)):∃ f' args ats,op = .call ⟨.value f',args,ats⟩∧YJ f'=some f∧ZbE args.toList=some xs:=by
 unfold ck at h
 split at h
 ·simp at h
 ·split at h <;> (try (simp at h; done))
  all_goals (try (repeat' (split at h <;> (try (simp at h; done)))))
  simp only [ZvD,K.call.injEq] at h
  obtain ⟨rfl,rfl⟩:=h
  rename_i c _ _ f' hcal _ _ f xs hf hxs
  obtain ⟨callee,args,ats⟩:=c
  simp only at hcal
  exact ⟨f',args,ats,by rw [hcal],hf,hxs⟩
theorem ZsR {op:Op} {x:Opd} (h:ck P op=some (.panic x)):∃ x',op = .panic x'∧YJ x'=some x:=by
 unfold ck at h
 split at h
 ·simp at h
 ·split at h <;> (try (simp at h; done))
  all_goals (try (repeat' (split at h <;> (try (simp at h; done)))))
  simp only [ZvO,K.panic.injEq,exists_eq_right] at h
  exact ⟨_,rfl,h⟩
def ZeZ (P:Program):Next→Option Frame
 | .enter f args=>some (Frame.enter P f args .normal)
 | .round l f tmps a b=>some (Frame.round l f tmps a b .normal)
 | _=>none
def Zuy (P:Program) (m:Machine) (c:Frame) (cs:List Frame) (e:Ending) (w':World):Prop :=
 match e with
 | .returned v=>Steps P m (lone (c.finish v) cs w')
 | .panicked ch=>Steps P m (lone (c.raise ch) cs w')
 | .outgrown=>False
def Qw (P:Program) (f:D) (args:List D) (s:St) (Φ:Res→St→Prop):Prop :=
 ∀ g w fv (vs:List Value),Wo g s w→Rep g w fv f→ZZ (Rep g w) vs args →
  ∃ d nx fr,(Deferred.ofValue fv vs.toArray).run P w = .ok d w∧(invoke d.target d.args).run P w = .ok nx w∧ZeZ P nx=some fr ∧
   ∀ c cs,∃ e w',Zfu g w Φ e w'∧Zuy P (lone fr (c :: cs) w) c cs e w'
theorem ZK.V {f:FuncId} {first args caps:List D} {s:St} {Φ:Res→St→Prop} (h:ZK P f (first++args++caps) s Φ):Qw P (.fn (.func f) first caps) args s Φ:=by
 intro g w fv vs hs hf ha
 cases hf with
 | fn _ fs cs' _ _ hn1 hn2 h1 h2 =>
 obtain ⟨⟨fn,hfn1,hfn2,hfn3⟩,hcall⟩:=h
 have hall:ZZ (Rep g w) (fs++vs++cs') (first++args++caps):=((Wa hn1 h1).append ha).append (Wa hn2 h2)
 have hbody:fn.body.isNone=false:=by cases hb:fn.body <;> simp [hb] at hfn2 ⊢
 refine ⟨_,.enter f (fs++vs++cs').toArray,_,by simp [Deferred.ofValue]; rfl,?_,rfl,fun c cs=>?_⟩
 ·simp only [invoke,callFunc,Sem.run_bind,run_program,Result.andThen_ok,hfn1,hfn3,hbody,Bool.false_eq_true,if_false,Sem.run_pure]
  simp
 ·obtain ⟨e,w',fr,hp,hcomes,hfrf,hleave⟩:=hcall g w _ hs hall (c :: cs)
  refine ⟨e,w',hp,?_⟩
  cases e with
  | returned v=>exact Steps.trans hcomes (.one (step_leave_returned hleave))
  | panicked ch=>exact Steps.trans hcomes (.one (step_leave_panicked hleave))
  | outgrown =>
   obtain ⟨g',s',r,b1,b2,b3,b4⟩:=hp
   cases r <;> exact b3.elim
theorem QF {F:Fr P} {kp:Option (List Nat)} {dk:List Zp} {o:DOp} {os:List DOp} {ρ:Env} {L:Loc} {s:St} (hg:Zu ρ o.guard=some true) {fx:Opd} {xs:List Opd} (hk:o.k = .call fx xs)
  {p q:Prop} {f:D} {es:List E} {ds:List D} (hf:ZV ρ true fx=some (q,.d f)) (ha:Wc ρ true xs=some (p,es)) (hds:K4 es=some ds) (hp:p) (hq:q)
  {Ψ:Res→St→Prop} (hc:Qw P f ds s Ψ)
  (hret:∀ d s',Ψ (.ret d) s'→DO F kp dk os (ZQ ρ o.dst (.d d)) L s') (hpan:∀ d s',Ψ (.panic d) s'→Kw F ρ L d s'):DO F kp dk (o :: os) ρ L s:=by
 refine KL fun oo g ν w tmps ops i r k hoo hck hcg hdst hd hN m hr hkk=>?_
 have hw:=Y7 m hcg hg
 have hnd:=Wp hck (by rw [hk]; rfl)
 rw [hk] at hck
 obtain ⟨f',args,ats,hop,hf',hxs⟩:=Zpz hck
 have hfr:Rep g w _ _:=Y2 m hf' rfl hf hq F.ds
 have hargs:=QU (ZcR m rfl F.ds hxs ha hp) hds
 generalize hfv:(Act.mk tmps F.ds).eval f'=fv at hfr
 have hall:ZZ (Rep (ZeR g ν L) w) (args.toList.map (Act.mk tmps F.ds).eval) ds:=Wa hargs.len (fun i a b hx hy=>KS (hargs.get i a b hx hy) rfl)
 obtain ⟨d,nx,fr,hd1,hd2,hd3,hC⟩:=hc (ZeR g ν L) w fv _ m.callSt (KS hfr rfl) hall
 have hmap:(Array.map (Act.mk tmps F.ds).eval args)=(args.toList.map (Act.mk tmps F.ds).eval).toArray:=by apply Array.ext'; simp
 have hrun:(execOp (Act.mk tmps F.ds).eval oo).run P w = .ok nx w:=by
  simp only [execOp,hop,resolve,hfv,hmap,Sem.run_bind,hd1,Result.andThen_ok,hd2]
 have henter:step P (lone (F.b.atR ⟨tmps,F.ds⟩ (.inRegion ops (i :: r) :: k)) F.cs w) =
   .next (lone fr (F.b.atR ⟨tmps,F.ds⟩ (.inRegion ops (i :: r) :: k) :: F.cs) w):=by
  refine step_lone_go ?_
  rw [stepGR_op hoo hw,Oper.semAt_eq _ _ _ hnd]
  cases nx <;> simp only [ZeZ,ZvD,reduceCtorEq] at hd3 <;> subst hd3 <;> simp [stepG.apply,hrun,Frame.atR]
 obtain ⟨e,w',⟨g',s',res,x1,x2,x3,x4⟩,hback⟩:=hC (F.b.atR ⟨tmps,F.ds⟩ (.inRegion ops (i :: r) :: k)) F.cs
 obtain ⟨hext,hm⟩:=m.afterCall x1 x2
 cases e with
 | returned v =>
  cases res with
  | panic d=>exact x3.elim
  | ret d =>
   have hfin:(F.b.atR ⟨tmps,F.ds⟩ (.inRegion ops (i :: r) :: k)).finish v=F.b.atR ((Act.mk tmps F.ds).put oo.dst v) (.inRegion ops r :: k):=by rw [Frame.finish_atR,hoo]; rfl
   have hsteps:Steps P (lone (F.b.atR ⟨tmps,F.ds⟩ (.inRegion ops (i :: r) :: k)) F.cs w) (lone (F.b.atR ((Act.mk tmps F.ds).put oo.dst v) (.inRegion ops r :: k)) F.cs w'):=by
    refine .head henter ?_
    rw [← hfin]; exact hback
   refine F.T.back _ _ _ _ hsteps ?_
   rw [hdst]
   obtain ⟨tmps',e1,e2,m'⟩:=Zer hm hN hd (v:=v) (e:=.d d) (KS x3 rfl) F.ds
   rw [e1]
   exact F.T.ext _ _ _ _ _ hext (hret d s' x4 ops r k hr hkk _ _ _ tmps' e2 m')
 | panicked ch =>
  cases res with
  | ret d=>exact x3.elim
  | panic d =>
   obtain ⟨v,rfl,hv⟩:=x3
   have hsteps:Steps P (lone (F.b.atR ⟨tmps,F.ds⟩ (.inRegion ops (i :: r) :: k)) F.cs w) (lone { F.b.atR ⟨tmps,F.ds⟩ (.inRegion ops (i :: r) :: k) with mode:=.panicking [{ v,recovered:=false }] } F.cs w'):=by
    refine .head henter ?_
    rw [← Frame.raise_atR]; exact hback
   refine F.T.back _ _ _ _ hsteps ?_
   exact F.T.ext _ _ _ _ _ hext (hpan d s' x4 _ _ _ v _ _ hN hm (KS hv rfl))
 | outgrown=>exact hback.elim
theorem Z4 {F:Fr P} {kp:Option (List Nat)} {dk:List Zp} {o:DOp} {os:List DOp} {ρ:Env} {L:Loc} {s:St} (hg:Zu ρ o.guard=some true) {fx:Opd} {xs:List Opd} (hk:o.k = .call fx xs)
  {p q:Prop} {f:FuncId} {first caps:List D} {es:List E} {ds:List D} (hf:ZV ρ true fx=some (q,.d (.fn (.func f) first caps))) (ha:Wc ρ true xs=some (p,es)) (hds:K4 es=some ds) (hp:p) (hq:q)
  {Ψ:Res→St→Prop} (hc:ZK P f (first++ds++caps) s Ψ)
  (hret:∀ d s',Ψ (.ret d) s'→DO F kp dk os (ZQ ρ o.dst (.d d)) L s') (hpan:∀ d s',Ψ (.panic d) s'→Kw F ρ L d s'):DO F kp dk (o :: os) ρ L s :=
 QF hg hk hf ha hds hp hq hc.V hret hpan
theorem Znk {F:Fr P} {kp:Option (List Nat)} {dk:List Zp} {o:DOp} {os:List DOp} {ρ:Env} {L:Loc} {s:St} (hg:Zu ρ o.guard=some true) {x:Opd} (hk:o.k = .panic x)
  {p:Prop} {t:TypeId} {d:D} (ha:ZV ρ true x=some (p,.d (.iface t d))) (hp:p) (h:Kw F ρ L (.iface t d) s):DO F kp dk (o :: os) ρ L s:=by
 refine KL fun oo g ν w tmps ops i r k hoo hck hcg hdst hd hN m hr hkk=>?_
 have hw:=Y7 m hcg hg
 have hnd:=Wp hck (by rw [hk]; rfl)
 rw [hk] at hck
 obtain ⟨x',hop,hx'⟩:=ZsR hck
 have hrep:Rep g w _ _:=Y2 m hx' rfl ha hp F.ds
 generalize hv:(Act.mk tmps F.ds).eval x'=v at hrep
 have hrun:(execOp (Act.mk tmps F.ds).eval oo).run P w = .halt (.panic v) w:=by
  cases hrep
  simp [execOp,hop,hv,Instr.panic]
 refine F.T.back _ _ _ _ (.one (step_lone_go (fr':={ F.b.atR ⟨tmps,F.ds⟩ (.inRegion ops (i :: r) :: k) with mode:=.panicking [{ v,recovered:=false }] }) (cs':=F.cs) (w':=w) ?_)) (h g ν w v _ _ hN m hrep)
 rw [stepGR_op hoo hw,Oper.semAt_eq _ _ _ hnd]
 rw [← Frame.raise_atR]
 simp [stepG.apply,hrun]
end
end Go.DL
namespace Go.DL
open Go
variable [Znt]
section
variable {P:Program}
def Zap:D→Option Value
 | .int k n=>some (.int k n)
 | .bool b=>some (.bool b)
 | .str l=>some (.string ⟨l.toArray⟩)
 | .nilsl=>some (.slice none 0 0)
 | .nilptr=>some (.pointer none)
 | .ptr b o=>some (.pointer (some ⟨b,o,none⟩))
 | .map b=>some (.map (some b))
 | .nilmap=>some (.map none)
 | .nilfn=>some .nilFunc
 | .niliface=>some .nilIface
 | _=>none
def ZgO:List D→Option (List Value)
 | []=>some []
 | d :: r=>match Zap d,ZgO r with
  | some v,some vs=>some (v :: vs)
  | _,_=>none
theorem Zp1 {g:G} {w:World} {v v':Value} {d:D} (h:Rep g w v d) (hv:Zap d=some v'):v=v':=by
 cases h <;> simp only [Zap,ZvD,reduceCtorEq] at hv <;> (try exact hv)
 rename_i s l h hb
 rw [← hv]
 cases s
 simp only at h
 rw [← h]
theorem ZiH {g:G} {w:World}:∀ {vs vs':List Value} {ds:List D},ZZ (Rep g w) vs ds→ZgO ds=some vs'→vs=vs'
 | _,_,_,.nil,h=>by simp only [ZgO,ZvD] at h; exact h
 | _,_,_,.cons h1 h2,h=>by
  simp only [ZgO] at h
  split at h <;> simp only [ZvD,reduceCtorEq] at h
  rename_i v vs e1 e2
  rw [← h,Zp1 h1 e1,ZiH h2 e2]
def Zeu:D→Prop
 | .int k n=>inR k n
 | .str l=>l.length≤big
 | d=>(Zap d).isSome=true
def Zbw:List D→Prop
 | []=>True
 | d :: r=>Zeu d∧Zbw r
theorem Zmt {d:D} (h:Zeu d):∃ v,Zap d=some v∧v.one1=true∧∀ g w,Rep g w v d:=by
 cases d <;> simp only [Zeu,Zap,Option.isSome_none,Bool.false_eq_true] at h
 ·exact ⟨_,rfl,rfl,fun g w=>.int _ _ h⟩
 ·exact ⟨_,rfl,rfl,fun g w=>.bool _⟩
 ·exact ⟨_,rfl,rfl,fun g w=>.str _ _ rfl h⟩
 ·exact ⟨_,rfl,rfl,fun g w=>.nilsl⟩
 ·exact ⟨_,rfl,rfl,fun g w=>.nilptr⟩
 ·exact ⟨_,rfl,rfl,fun g w=>.ptr _ _⟩
 ·exact ⟨_,rfl,rfl,fun g w=>.map _⟩
 ·exact ⟨_,rfl,rfl,fun g w=>.nilmap⟩
 ·exact ⟨_,rfl,rfl,fun g w=>.nilfn⟩
 ·exact ⟨_,rfl,rfl,fun g w=>.niliface⟩
theorem Zb3:∀ {ds:List D},Zbw ds→∃ vs,ZgO ds=some vs∧(∀ v∈vs,v.one1=true)∧∀ g w,ZZ (Rep g w) vs ds
 | [],_=>⟨[],rfl,by simp,fun g w=>.nil⟩
 | d :: r,h=>by
  obtain ⟨v,h1,h2,h3⟩:=Zmt h.1
  obtain ⟨vs,g1,g2,g3⟩:=Zb3 h.2
  exact ⟨v :: vs,by simp [ZgO,h1,g1],by simp only [List.mem_cons,forall_eq_or_imp]; exact ⟨h2,g2⟩,fun g w=>.cons (h3 g w) (g3 g w)⟩
inductive DD where
 | mark (q:Nat)
 | fn (i:FuncId) (args caps:List D)
def DD.def:DD→Deferred
 | .mark q=>{ target:=.collected q,args:=#[] }
 | .fn i args caps=>{ target:=.fn (.func i) ((ZgO caps).getD []).toArray,args:=((ZgO args).getD []).toArray }
def Zbu (g:G) (w:World) (m:FrameMode):Option D→Prop
 | none=>m = .returning
 | some d=>∃ v,m = .panicking [{ v,recovered:=false }]∧Rep g w v d
def ZbN (P:Program) (i:FuncId) (args:List D) (pd:Option D) (s:St) (Ψ:Bool→St→Prop):Prop :=
 (∃ fn,P.funcs[i]? = some fn∧fn.body.isSome=true∧(fn.name == "runtime.NumGoroutine")=false) ∧
 ∀ g w (vs:List Value) (cf:Frame) (cs:List Frame),Wo g s w→ZZ (Rep g w) vs args→Zbu g w cf.mode pd →
  ∃ g' w' s' b,Ext g w g' w'∧Wo g' s' w'∧Ψ b s' ∧
   Steps P (lone (Frame.enter P i vs.toArray .deferred) (cf :: cs) w) (lone { cf with mode:=if b then .returning else cf.mode } cs w')
def Unw (P:Program):List DD→Option D→St→(Option D→St→Prop)→Prop
 | [],m,s,Ψ=>Ψ m s
 | .mark q :: r,m,s,Ψ=>s q=some .dfr∧Unw P r m (s.del q) Ψ
 | .fn i args caps :: r,m,s,Ψ=>Zbw args∧Zbw caps∧ZbN P i (args++caps) m s fun b s'=>Unw P r (if b then none else m) s' Ψ
theorem Zck {g:G} {w:World} (b:Nat) (o:Obj) (hb:hdr w b=none) (hp:g.prot b=0) (hk:¬ g.kept b):Ext g w g { w with heap:=w.heap.setIfInBounds b o } where
 size:=by simp
 prot _:=ZvR _
 cell b' o' ho:=by
  by_cases h:b'=b
  ·subst h; omega
  ·exact JY (by simp [Array.getElem?_setIfInBounds,Ne.symm h])
 hdr b' x hx:=by
  by_cases h:b'=b
  ·subst h; rw [hb] at hx; simp at hx
  ·rw [Zbs (w:=w) (by simp [Array.getElem?_setIfInBounds,Ne.symm h])]; exact hx
 kept b' hb':=by
  have h:b'≠b:=fun h=>hk (h ▸ hb')
  simp [Array.getElem?_setIfInBounds,Ne.symm h]
 keptProt _ _:=rfl
 keptEq:=rfl
 os:=rfl
 output:=rfl
 tape:=rfl
theorem ZI.drop {g:G} {ν:Nat→Nat} {w w':World} {tmps:Array Value} {ρ:Env} {L:Loc} {s:St} (m:ZI g ν w tmps ρ L s) {b:Nat} {o:Y6} (hb:s b=some o) (he:Ext g w g w') (hsz:w'.heap.size=w.heap.size)
  (hoth:∀ c,c≠b→w'.heap[c]? = w.heap[c]?):ZI g ν w' tmps ρ L (s.del b):={
 st:=⟨fun c x hx=>by
    simp only [St.del] at hx
    by_cases hc:c=b
    ·simp [hc] at hx
    ·simp only [hc,if_false] at hx; exact (m.st.obj c x hx).mono he (hoth c hc) rfl,
   fun c x hx=>by
    simp only [St.del] at hx
    by_cases hc:c=b
    ·simp [hc] at hx
    ·simp only [hc,if_false] at hx; exact m.st.kept c x hx,
   fun c hc=>m.st.fresh c (by omega),fun n cs hc=>(m.st.tabs n cs hc).mono he⟩
 loc l cs hl:=(m.loc l cs hl).mono he (hoth _ (fun h=>by have:=m.locSt l cs hl; rw [h,hb] at this; simp at this)) rfl
 locKept:=m.locKept
 locSt l cs hl:=by
  simp only [St.del]
  split
  ·rfl
  ·exact m.locSt l cs hl
 inj:=m.inj
 env t e ht:=(m.env t e ht).mono he }
theorem Zst {fr:Frame} {cs:List Frame} {w:World} {q:Nat} {ds:List Deferred} {args:Array Value} (hm:fr.mode≠.run) (hd:fr.defers={ target:=.collected q,args } :: ds) (hq:w.heap[q]? = some (.deferred (some []))) :
  step P (lone fr cs w) = .next (lone { fr with defers:=ds } cs { w with heap:=w.heap.setIfInBounds q (.deferred none) }):=by
 have hrun:(Instr.takeDeferred q).run P w = .ok [] { w with heap:=w.heap.setIfInBounds q (.deferred none) }:=by
  simp [Instr.takeDeferred,getObj,setObj,Sem.run,hq,Result.andThen]
 refine step_lone_go ?_
 cases hmode:fr.mode with
 | run=>exact absurd hmode hm
 | returning=>simp [stepG,unwind,hmode,hd,Sem.runT_eq,hrun]
 | panicking chain=>simp [stepG,unwind,hmode,hd,Sem.runT_eq,hrun]
theorem ZkK {g:G} {w:World} {m:FrameMode} {o:Option D} (h:Zbu g w m o):m≠.run:=by
 cases o with
 | none=>simp only [Zbu] at h; rw [h]; simp
 | some d=>obtain ⟨v,h,_⟩:=h; rw [h]; simp
theorem ZkJ {g g':G} {w w':World} {m:FrameMode} {o:Option D} (h:Zbu g w m o) (he:Ext g w g' w'):Zbu g' w' m o:=by
 cases o with
 | none=>exact h
 | some d=>obtain ⟨v,h,hr⟩:=h; exact ⟨v,h,hr.mono he⟩
theorem Zib {Ψ:Option D→St→Prop}:∀ (dds:List DD) {m:Option D} {s:St},Unw P dds m s Ψ→∀ {g:G} {ν:Nat→Nat} {w:World} {ρ:Env} {L:Loc} {fr:Frame} {cs:List Frame},ZI g ν w fr.tmps ρ L s→fr.defers=dds.map DD.def→Zbu g w fr.mode m →
  ∃ g' w' m' s' md,Ext g w g' w'∧ZI g' ν w' fr.tmps ρ L s'∧Ψ m' s'∧Zbu g' w' md m'∧Steps P (lone fr cs w) (lone { fr with defers:=[],mode:=md } cs w')
 | [],m,s,h,g,ν,w,ρ,L,fr,cs,M,hd,hm=>by
  refine ⟨g,w,m,s,fr.mode,Ext.refl g w,M,h,hm,?_⟩
  have:({ fr with defers:=[],mode:=fr.mode }:Frame)=fr:=by cases fr; simp only at hd; subst hd; rfl
  rw [this]; exact Steps.refl P _
 | .mark q :: r,m,s,h,g,ν,w,ρ,L,fr,cs,M,hd,hm=>by
  obtain ⟨hq,hu⟩:=h
  obtain ⟨hp0,hh⟩:=M.st.obj q _ hq
  have he:=Zck (g:=g) (w:=w) q (.deferred none) (by simp [hdr,hh]) hp0 (M.st.kept q _ hq)
  have M':=M.drop hq he (by simp) (fun c hc=>J5 _ hc)
  obtain ⟨g',w',m',s',md,a1,a2,a3,a4,a5⟩:=Zib r hu (fr:={ fr with defers:=r.map DD.def }) (cs:=cs) M' rfl (ZkJ hm he)
  exact ⟨g',w',m',s',md,he.trans a1,a2,a3,a4,.head (Zst (ZkK hm) hd hh) a5⟩
 | .fn i args caps :: r,m,s,h,g,ν,w,ρ,L,fr,cs,M,hd,hm=>by
  obtain ⟨hr1,hr2,⟨fn,hfn1,hfn2,hfn3⟩,hc⟩:=h
  obtain ⟨as9,ha1,_,ha2⟩:=Zb3 hr1
  obtain ⟨vs,hv1,_,hv2⟩:=Zb3 hr2
  have hm':Zbu (ZeR g ν L) w ({ fr with defers:=r.map DD.def }:Frame).mode m:=by
   cases m with
   | none=>exact hm
   | some d=>obtain ⟨v,h1,h2⟩:=hm; exact ⟨v,h1,KS h2 rfl⟩
  obtain ⟨g1,w1,s1,b,x1,x2,x3,x4⟩:=hc (ZeR g ν L) w (as9++vs) { fr with defers:=r.map DD.def } cs M.callSt ((ha2 _ _).append (hv2 _ _)) hm'
  obtain ⟨hext,hm1⟩:=M.afterCall x1 x2
  have hbody:fn.body.isNone=false:=by cases hb:fn.body <;> simp [hb] at hfn2 ⊢
  have hstep:step P (lone fr cs w) = .next (lone (Frame.enter P i (as9++vs).toArray .deferred) ({ fr with defers:=r.map DD.def } :: cs) w):=by
   refine step_defer (d:=DD.def (.fn i args caps)) (fv:=.func i) (cap:=vs.toArray) (ZkK hm) hd (by simp [DD.def,hv1]) ?_
   simp only [DD.def,hv1,ha1,Option.getD_some,invoke,callFunc,Sem.run_bind,run_program,Result.andThen_ok,hfn1,hfn3,hbody,Bool.false_eq_true,if_false,Sem.run_pure]
   simp
  have hmd:Zbu { g1 with kept:=g.kept } w1 (if b then .returning else fr.mode) (if b then none else m):=by
   cases b
   ·simp only [Bool.false_eq_true,if_false]; exact ZkJ hm hext
   ·rfl
  obtain ⟨g',w',m',s',md,a1,a2,a3,a4,a5⟩:=Zib r x3 (fr:={ fr with defers:=r.map DD.def,mode:=if b then .returning else fr.mode }) (cs:=cs) hm1 rfl hmd
  exact ⟨g',w',m',s',md,hext.trans a1,a2,a3,a4,.head hstep (Steps.trans x4 a5)⟩
def Kd {P:Program} (F:Fr P) (rs:List RV) (Φ:Res→St→Prop) (dds:List DD):Prop :=
 ∃ an f df cs,cf P an f=some df∧rs=df.res∧F={ ZkB P an f df.n cs Φ with ds:=dds.map DD.def }
theorem St.sub_refl (s:St):s.sub s:=fun _ _ h=>h
def Zii (ρ:Env) (L:Loc) (rs:List RV) (Φ:Res→St→Prop):Option D→St→Prop
 | none,s=>∃ p ds d s',KI ρ L s rs=some (p,ds)∧p∧(Jw ds).Le d∧s'.sub s∧Φ (.ret d) s'
 | some d,s=>∃ d' s',d.Le d'∧s'.sub s∧Φ (.panic d') s'
theorem Zn1 {an:Ann} {f:FuncId} {df:DF} (hf:cf P an f=some df) {cs:List Frame} {Φ:Res→St→Prop} {g:G} {ν:Nat→Nat} {w:World} {fr:Frame} {ρ:Env} {L:Loc} {s:St} {m:Option D} {dds:List DD} (hfn:fr.fn=f) (hkind:fr.kind = .normal)
  (M:ZI g ν w fr.tmps ρ L s) (hd:fr.defers=dds.map DD.def) (hm:Zbu g w fr.mode m) (hu:Unw P dds m s (Zii ρ L df.res Φ)):(Zit P f cs Φ).T g w (lone fr cs w):=by
 obtain ⟨g',w',m',s',md,a1,a2,a3,a4,a5⟩:=Zib dds hu (cs:=cs) M hd hm
 unfold cf at hf
 split at hf <;> (try (simp at hf; done))
 rename_i fn hfn'
 split at hf <;> (try (simp at hf; done))
 split at hf <;> (try (simp at hf; done))
 split at hf <;> simp at hf
 rename_i rs d' hrs hd'
 subst hf
 cases m' with
 | none =>
  obtain ⟨p,ds,d,s2,h1,h2,h3,h4,h5⟩:=a3
  obtain ⟨v,hv1,hv2⟩:=ZkW a2 hrs h1 h2
  exact ⟨.returned v,w',_,a5,hfn,⟨a4,rfl,hkind,fn,by rw [← hfn'] ; exact congrArg _ hfn,hv1⟩,g',s2,.ret d,a1,a2.st.sub h4,h3 _ _ _ hv2,h5⟩
 | some d =>
  obtain ⟨d',s2,h1,h2,h3⟩:=a3
  obtain ⟨v,hv1,hv2⟩:=a4
  exact ⟨.panicked [{ v,recovered:=false }],w',_,a5,hfn,⟨hv1,rfl,fn,by rw [← hfn']; exact congrArg _ hfn⟩,g',s2,.panic d',a1,a2.st.sub h2,⟨v,rfl,h1 _ _ _ hv2⟩,h3⟩
theorem Kd.retU {F:Fr P} {rs:List RV} {Φ:Res→St→Prop} {dds:List DD} (hF:Kd F rs Φ dds) {dk:List Zp} {ρ:Env} {L:Loc} {s:St} (h:Unw P dds none s (Zii ρ L rs Φ)):ZD F (.code .ret :: dk) ρ L s:=by
 obtain ⟨an,f,df,cs,hf,rfl,rfl⟩:=hF
 intro k hk
 cases hk with
 | code hc ht =>
  obtain rfl:=ZnF hc
  intro g ν w tmps hN m
  refine (Zit P f cs Φ).back _ _ _ _ (.one (stepR_ret rfl)) ?_
  exact Zn1 (m:=none) hf rfl rfl (dds:=dds) m rfl rfl h
theorem Kd.finU {F:Fr P} {rs:List RV} {Φ:Res→St→Prop} {dds:List DD} (hF:Kd F rs Φ dds) {ρ:Env} {L:Loc} {s:St} (h:Unw P dds none s (Zii ρ L rs Φ)):ZD F [] ρ L s:=by
 obtain ⟨an,f,df,cs,hf,rfl,rfl⟩:=hF
 intro k hk
 cases hk
 intro g ν w tmps hN m
 refine (Zit P f cs Φ).back _ _ _ _ (.one (stepR_end rfl)) ?_
 exact Zn1 (m:=none) hf rfl rfl (dds:=dds) m rfl rfl h
theorem Kd.panU {F:Fr P} {rs:List RV} {Φ:Res→St→Prop} {dds:List DD} (hF:Kd F rs Φ dds) {ρ:Env} {L:Loc} {d:D} {s:St} (h:Unw P dds (some d) s (Zii ρ L rs Φ)):Kw F ρ L d s:=by
 obtain ⟨an,f,df,cs,hf,rfl,rfl⟩:=hF
 intro g ν w v todo tmps hN m hr
 exact Zn1 (m:=some d) hf rfl rfl (dds:=dds) m rfl ⟨v,rfl,hr⟩ h
theorem Kd.ret {F:Fr P} {rs:List RV} {Φ:Res→St→Prop} (hF:Kd F rs Φ []) {dk:List Zp} {ρ:Env} {L:Loc} {s:St} {p:Prop} {ds:List D} (d:D) (s':St) (h1:KI ρ L s rs=some (p,ds)) (h2:p) (h3:(Jw ds).Le d) (h4:s'.sub s) (h5:Φ (.ret d) s') :
  ZD F (.code .ret :: dk) ρ L s:=hF.retU ⟨p,ds,d,s',h1,h2,h3,h4,h5⟩
theorem Kd.fin {F:Fr P} {rs:List RV} {Φ:Res→St→Prop} (hF:Kd F rs Φ []) {ρ:Env} {L:Loc} {s:St} {p:Prop} {ds:List D} (d:D) (s':St) (h1:KI ρ L s rs=some (p,ds)) (h2:p) (h3:(Jw ds).Le d) (h4:s'.sub s) (h5:Φ (.ret d) s') :
  ZD F [] ρ L s:=hF.finU ⟨p,ds,d,s',h1,h2,h3,h4,h5⟩
theorem Kd.pan {F:Fr P} {rs:List RV} {Φ:Res→St→Prop} (hF:Kd F rs Φ []) {ρ:Env} {L:Loc} {d:D} {s:St} (s':St) (h1:s'.sub s) (h2:Φ (.panic d) s'):Kw F ρ L d s:=hF.panU ⟨d,s',D.Le.refl d,h1,h2⟩
theorem ZP {an:Ann} {f:FuncId} {df:DF} (hf:cf P an f=some df) {args:List D} {s:St} {Φ:Res→St→Prop}
  (h:∀ F:Fr P,Kd F df.res Φ []→ZD F [.code df.body] (QZ 0 args) [] s):ZK P f args s Φ :=
 Zg1 hf fun cs=>h _ ⟨an,f,df,cs,hf,rfl,rfl⟩
end
end Go.DL
namespace Go.DL
open Go
variable [Znt]
def Z7 (P:Program) (f:FuncId) (args:List D) (d:D):Prop:=∀ s,ZK P f args s fun r s'=>r = .ret d∧s'=s
theorem YO {P:Program} {an:Ann} {f:FuncId} {df:DF} (hf:cf P an f=some df) {args:List D} {d:D}
  (h:∀ (F:Fr P) (s:St),(∀ {dk:List Zp} {ρ:Env} {L:Loc} {s':St} {p:Prop} {ds:List D},KI ρ L s' df.res=some (p,ds)→p→(Jw ds).Le d→s.sub s'→ZD F (.code .ret :: dk) ρ L s') →
   ZD F [.code df.body] (QZ 0 args) [] s):Z7 P f args d :=
 fun s=>ZP hf fun F hF=>h F s fun h1 h2 h3 h4=>hF.ret d s h1 h2 h3 h4 ⟨rfl,rfl⟩
theorem K8 {P:Program} {F:Fr P} {kp:Option (List Nat)} {dk:List Zp} {o:DOp} {os:List DOp} {ρ:Env} {L:Loc} {s:St} (hg:Zu ρ o.guard=some true) {fx:Opd} {xs:List Opd} (hk:o.k = .call fx xs)
  {p q:Prop} {f:FuncId} {first caps:List D} {es:List E} {ds:List D} (hf:ZV ρ true fx=some (q,.d (.fn (.func f) first caps))) (ha:Wc ρ true xs=some (p,es)) (hds:K4 es=some ds) (hp:p) (hq:q)
  {d:D} (hc:Z7 P f (first++ds++caps) d) (h:DO F kp dk os (ZQ ρ o.dst (.d d)) L s):DO F kp dk (o :: os) ρ L s :=
 Z4 hg hk hf ha hds hp hq (hc s) (fun d' s' ⟨h1,h2⟩=>by simp only [Res.ret.injEq] at h1; subst h1; subst h2; exact h) (fun d' s' ⟨h1,_⟩=>by simp at h1)
end Go.DL
namespace Go.DL
open Go
variable [Znt]
section
variable {P:Program}
theorem ZuB {F:Fr P} {kp:Option (List Nat)} {dk:List Zp} {os:List DOp} {ρ ρ':Env} {L:Loc} {s:St} (h:∀ g ν w tmps,ZI g ν w tmps ρ L s→ZI g ν w tmps ρ' L s) (h':DO F kp dk os ρ' L s) :
  DO F kp dk os ρ L s:=fun ops is k hops hk g ν w tmps hN m=>h' ops is k hops hk g ν w tmps hN (h g ν w tmps m)
theorem ZI.headWhen {g:G} {ν:Nat→Nat} {w:World} {tmps:Array Value} {ρ:Env} {L:Loc} {s:St} {dst:Option Nat} {e:E} (m:ZI g ν w tmps (ZQ ρ dst e) L s):ZI g ν w tmps (ZQ ρ dst (.when true e)) L s:=by
 cases dst with
 | none=>exact m
 | some t =>
  refine { m with env:=fun u x hx=>?_ }
  simp only [ZQ,Ye] at hx
  by_cases h:t=u
  ·simp only [h,if_true,ZvD] at hx
   subst hx
   exact ⟨fun _=>m.env u e (by simp [ZQ,Ye,h]),fun h=>by simp at h⟩
  ·simp only [h,if_false] at hx
   exact m.env u x (by simp [ZQ,Ye,h,hx])
theorem JB {F:Fr P} {kp:Option (List Nat)} {dk:List Zp} {o:DOp} {os:List DOp} {ρ:Env} {L:Loc} {s:St} (hg:Zu ρ o.guard=some false) {e:E}
  (h:DO F kp dk os (ZQ ρ o.dst (.when false e)) L s):DO F kp dk (o :: os) ρ L s:=by
 refine KL fun oo g ν w tmps ops i r k hoo hck hcg hdst hd hN m hr hkk=>?_
 exact ZbH (P:=P) hN m hoo hdst hd (Y7 m hcg hg) (h ops r k hr hkk)
theorem ZaN {F:Fr P} {kp:Option (List Nat)} {dk:List Zp} {o:DOp} {os:List DOp} {ρ:Env} {L:Loc} {s:St} {c:Bool} (hg:Zu ρ o.guard=some c) {fx:Opd} {xs:List Opd} (hk:o.k = .call fx xs)
  {p q:Prop} {f:FuncId} {first caps:List D} {es:List E} {ds:List D} (hf:ZV ρ c fx=some (q,.d (.fn (.func f) first caps))) (ha:Wc ρ c xs=some (p,es)) (hds:K4 es=some ds)
  {d:D} (hc:c=true→p∧q∧Z7 P f (first++ds++caps) d) (h:DO F kp dk os (ZQ ρ o.dst (.when c (.d d))) L s):DO F kp dk (o :: os) ρ L s:=by
 cases c
 ·exact JB hg h
 ·obtain ⟨h1,h2,h3⟩:=hc rfl
  exact K8 hg hk hf ha hds h1 h2 h3 (ZuB (fun g ν w tmps m=>m.headWhen) h)
theorem ZI.sub {g:G} {ν:Nat→Nat} {w:World} {tmps:Array Value} {ρ:Env} {L:Loc} {s s':St} (m:ZI g ν w tmps ρ L s) (hs:s'.sub s):ZI g ν w tmps ρ L s':={
 st:=m.st.sub hs
 loc:=m.loc
 locKept:=m.locKept
 locSt l cs hl:=by
  cases hx:s' (ν l) with
  | none=>rfl
  | some o=>have:=hs _ _ hx; rw [m.locSt l cs hl] at this; simp at this
 inj:=m.inj
 env:=m.env }
theorem JN {F:Fr P} {dk:List Zp} {ρ:Env} {L:Loc} {s s':St} (hs:s'.sub s) (h:ZD F dk ρ L s'):ZD F dk ρ L s :=
 fun k hk g ν w tmps hN m=>h k hk g ν w tmps hN (m.sub hs)
end
end Go.DL
namespace Go.DL
open Go
variable [Znt]
inductive Sch (T:Tab):(Nat→Bool)→List Nat→Prop where
 | nil {l} (h:∀ i,i < T.length→l i=true):Sch T l []
 | cons {l i is} (hi:i < T.length) (hl:l i=false) (hd:∀ d∈T.deps i,l d=true) (t:Sch T (fun j=>j == i || l j) is):Sch T l (i :: is)
def ZR (ρ ρ':Env) (ns:List Nat):Prop:=∀ t∈ns,Ye ρ' t=Ye ρ t
theorem Yi {ρ ρ':Env} {c:Bool} {x:Opd} (h:ZR ρ ρ' (Yw x)):ZV ρ' c x=ZV ρ c x:=by
 cases x with
 | cst d=>rfl
 | tmp t=>simp only [ZV,h t (by simp [Yw])]
theorem Qu {ρ ρ':Env} {c:Bool}:∀ {xs:List Opd},ZR ρ ρ' (ZbJ xs)→Wc ρ' c xs=Wc ρ c xs
 | [],_=>rfl
 | x :: xs,h=>by
  have h1:ZR ρ ρ' (Yw x):=fun t ht=>h t (by simp [ZbJ]; exact .inl ht)
  have h2:ZR ρ ρ' (ZbJ xs):=fun t ht=>h t (by simp only [ZbJ,List.flatMap_cons,List.mem_append]; exact .inr ht)
  simp only [Wc,Yi h1,Qu h2]
theorem Kb {ρ ρ':Env} {g:Option (Nat × Bool)} (h:ZR ρ ρ' (Zeg g)):Zu ρ' g=Zu ρ g:=by
 cases g with
 | none=>rfl
 | some x=>obtain ⟨t,w⟩:=x; simp only [Zu,h t (by simp [Zeg])]
theorem Zi9 {ρ ρ':Env} {c:Bool} {x a b:Opd} (h:ZR ρ ρ' (Yw x++Yw a++Yw b)):Zc8 ρ' c x a b=Zc8 ρ c x a b:=by
 have h1:ZR ρ ρ' (Yw x):=fun t ht=>h t (by simp [ht])
 have h2:ZR ρ ρ' (Yw a):=fun t ht=>h t (by simp [ht])
 have h3:ZR ρ ρ' (Yw b):=fun t ht=>h t (by simp [ht])
 simp only [Zc8,Yi h1]
 split
 ·rw [Yi h2,Yi h3]
 ·rfl
theorem ZmH {L L':Loc} {s:St} {e:E} (h:∀ x o,e = .loc x o→Zl L' x=Zl L x):K3 L' s e=K3 L s e:=by
 cases e with
 | d v=>cases v <;> rfl
 | loc l o=>simp only [K3,h l o rfl]
 | when c e=>rfl
theorem ZmN {L L':Loc} {s:St} {n:Nat} {e:E} (h:∀ x o,e = .loc x o→Zl L' x=Zl L x):Qe L' s n e=Qe L s n e:=by
 cases e with
 | d v=>cases v <;> rfl
 | loc l o=>simp only [Qe,h l o rfl]
 | when c e=>rfl
theorem ZoG {L L':Loc} {s:St} {q:Q} {es:List E} (h:Zcq (.q q [])=true→∀ x o,.loc x o∈es→Zl L' x=Zl L x):qv L' s q es=qv L s q es:=by
 by_cases hl:Zcq (.q q [])=true
 ·replace h:=h hl
  cases q <;> simp [Zcq] at hl
  ·match es with
   | [a]=>simp only [qv,ZmH (e:=a) fun x o ha=>h x o (by rw [ha]; exact List.mem_singleton_self _)]
   | []=>rfl
   | _ :: _ :: _=>rfl
  ·match es with
   | [a]=>simp only [qv,ZmN (e:=a) fun x o ha=>h x o (by rw [ha]; exact List.mem_singleton_self _)]
   | []=>rfl
   | _ :: _ :: _=>rfl
 ·clear h
  unfold qv
  split <;> first | rfl | (exfalso; exact hl rfl) | skip
def WW:K→Bool
 | .q _ _ | .pick _ _ _ | .bsl _ _ _ _ _ | .s2b _=>true
 | _=>false
theorem Zpm {o:DOp} {ρ ρ':Env} {L L':Loc} {s s1:St} {side:Prop} {ρ1:Env} {L1:Loc} (hst:ZU o ρ L s = .ok side ρ1 L1 s1) (hs:side) (hgt:Zu ρ o.guard=some true) (hk:WW o.k=true) (ha:ZR ρ ρ' (ZN o))
  (hl:Zcq o.k=true→∀ q xs p es,o.k = .q q xs→Wc ρ true xs=some (p,es)→p→∀ x o,.loc x o∈es→Zl L' x=Zl L x):∃ e,ρ1=ZQ ρ o.dst e∧L1=L∧s1=s∧ZU o ρ' L' s = .ok side (ZQ ρ' o.dst e) L' s:=by
 obtain ⟨dst,gd,k⟩:=o
 have hg:=Kb (g:=gd) (fun t ht=>ha t (by simp [ZN,ht]))
 have hn:ZR ρ ρ' (Wn k):=fun t ht=>ha t (by simp [ZN,ht])
 simp only at hgt
 unfold ZU at hst ⊢
 simp only [hg,hgt] at hst ⊢
 cases k with
 | q q xs =>
  simp only at hst ⊢
  rw [Qu hn]
  split at hst <;> (try (simp at hst; done))
  rename_i p es hes
  try simp only [hes]
  split at hst <;> (try (simp at hst; done))
  rename_i sd e hq
  have hp:p:=by
   split at hst <;> (simp only [SR.ok.injEq] at hst; obtain ⟨rfl,-,-,-⟩:=hst)
   ·exact hs.1
   ·exact (hs trivial).1
  have hqc:qv L' s q es=qv L s q es:=ZoG fun hld=>hl (by cases q <;> simp_all [Zcq]) q xs p es rfl hes hp
  simp only [hqc,hq]
  split at hst <;> (simp only [SR.ok.injEq] at hst; obtain ⟨rfl,rfl,rfl,rfl⟩:=hst)
  ·exact ⟨e,rfl,rfl,rfl,rfl⟩
  ·exact ⟨_,rfl,rfl,rfl,rfl⟩
 | pick x a b =>
  simp only at hst ⊢
  rw [Zi9 hn]
  split at hst <;> (try (simp at hst; done))
  rename_i p v hp
  try simp only [hp]
  split at hst <;> (simp only [SR.ok.injEq] at hst; obtain ⟨rfl,rfl,rfl,rfl⟩:=hst)
  ·exact ⟨_,rfl,rfl,rfl,rfl⟩
  ·exact ⟨_,rfl,rfl,rfl,rfl⟩
 | bsl len n z is xs =>
  simp only at hst ⊢
  rw [Qu hn]
  split at hst <;> (try (simp at hst; done))
  rename_i p es hes
  try simp only [hes]
  split at hst <;> (try (simp at hst; done))
  rename_i ds hds
  try simp only [hds]
  split at hst <;> (simp only [SR.ok.injEq] at hst; obtain ⟨rfl,rfl,rfl,rfl⟩:=hst)
  ·exact ⟨_,rfl,rfl,rfl,rfl⟩
  ·exact ⟨_,rfl,rfl,rfl,rfl⟩
 | s2b x =>
  simp only at hst ⊢
  rw [Yi hn]
  split at hst <;> (try (simp at hst; done))
  rename_i p l hl
  try simp only [hl]
  split at hst <;> (simp only [SR.ok.injEq] at hst; obtain ⟨rfl,rfl,rfl,rfl⟩:=hst)
  ·exact ⟨_,rfl,rfl,rfl,rfl⟩
  ·exact ⟨_,rfl,rfl,rfl,rfl⟩
 | _=>simp [WW] at hk
theorem Zjf {o:DOp} {ρ:Env} {L:Loc} {s s1:St} {side:Prop} {ρ1:Env} {L1:Loc} (hst:ZU o ρ L s = .ok side ρ1 L1 s1) (hgt:Zu ρ o.guard=some false) (hk:WW o.k=true):∃ e,ρ1=ZQ ρ o.dst (.when false e)∧L1=L∧s1=s:=by
 obtain ⟨dst,gd,k⟩:=o
 have hgn:∃ x,gd=some x:=by
  cases gd with
  | none=>simp [Zu] at hgt
  | some x=>exact ⟨x,rfl⟩
 obtain ⟨x,rfl⟩:=hgn
 simp only at hgt
 unfold ZU at hst
 simp only [hgt] at hst
 cases k with
 | q q xs =>
  simp only at hst
  split at hst <;> (try (simp at hst; done))
  split at hst <;> (try (simp at hst; done))
  simp only [SR.ok.injEq] at hst; obtain ⟨rfl,rfl,rfl,rfl⟩:=hst
  exact ⟨_,rfl,rfl,rfl⟩
 | pick x a b =>
  simp only at hst
  split at hst <;> (try (simp at hst; done))
  simp only [SR.ok.injEq] at hst; obtain ⟨rfl,rfl,rfl,rfl⟩:=hst
  exact ⟨_,rfl,rfl,rfl⟩
 | bsl len n z is xs =>
  simp only at hst
  split at hst <;> (try (simp at hst; done))
  split at hst <;> (try (simp at hst; done))
  simp only [SR.ok.injEq] at hst; obtain ⟨rfl,rfl,rfl,rfl⟩:=hst
  exact ⟨_,rfl,rfl,rfl⟩
 | s2b x =>
  simp only at hst
  split at hst <;> (try (simp at hst; done))
  simp only [SR.ok.injEq] at hst; obtain ⟨rfl,rfl,rfl,rfl⟩:=hst
  exact ⟨_,rfl,rfl,rfl⟩
 | _=>simp [WW] at hk
theorem Zgo {s s':St} {L L':Loc}:∀ {B:List (Nat × Rd)},QR s s' L L' B→(∀ n b,(n,.blk b)∈B→s' b=s b)∧(∀ n l,(n,.loc l)∈B→Zl L' l=Zl L l)
 | [],_=>⟨fun n b h=>by simp at h,fun n b h=>by simp at h⟩
 | (m,.blk c) :: B,h=>by
  obtain ⟨h1,h2⟩:=Zgo h.2
  refine ⟨fun n b hb=>?_,fun n l hl=>h2 n l (by simpa using hl)⟩
  rcases List.mem_cons.1 hb with hb | hb
  ·simp only [ZvL,Rd.blk.injEq] at hb; rw [hb.2]; exact h.1
  ·exact h1 n b hb
 | (m,.loc c) :: B,h=>by
  obtain ⟨h1,h2⟩:=Zgo h.2
  refine ⟨fun n b hb=>h1 n b (by simpa using hb),fun n l hl=>?_⟩
  rcases List.mem_cons.1 hl with hl | hl
  ·simp only [ZvL,Rd.loc.injEq] at hl; rw [hl.2]; exact h.1
  ·exact h2 n l hl
theorem Zfg (s:St) (L:Loc):∀ B,QR s s L L B
 | []=>trivial
 | (_,.blk _) :: B=>⟨rfl,Zfg s L B⟩
 | (_,.loc _) :: B=>⟨rfl,Zfg s L B⟩
theorem Zc4 (fl:List Nat) (s:St) (L:Loc) (B:List (Nat × Rd)):Kl fl s s L L B:=Zfg s L _
theorem Zb0:∀ (B:List (Nat × Rd)),WP [] B=[]
 | []=>rfl
 | _ :: B=>Zb0 B
theorem Zai {s s':St} {L L':Loc} {B:List (Nat × Rd)}:Kl [] s s' L L' B:=by
 unfold Kl; rw [Zb0]; trivial
theorem QS {fl:List Nat} {x:Nat × Rd}:∀ {B:List (Nat × Rd)},x∈WP fl B↔ZaA x.1 fl=true∧x∈B
 | []=>by simp [WP]
 | y :: B=>by
  simp only [WP]
  split
  ·rename_i h
   simp only [List.mem_cons,QS (B:=B)]
   constructor
   ·rintro (rfl | ⟨h1,h2⟩)
    ·exact ⟨h,.inl rfl⟩
    ·exact ⟨h1,.inr h2⟩
   ·rintro ⟨h1,rfl | h2⟩
    ·exact .inl rfl
    ·exact .inr ⟨h1,h2⟩
  ·rename_i h
   simp only [List.mem_cons,QS (B:=B)]
   constructor
   ·rintro ⟨h1,h2⟩; exact ⟨h1,.inr h2⟩
   ·rintro ⟨h1,rfl | h2⟩
    ·exact absurd h1 h
    ·exact ⟨h1,h2⟩
theorem ZqR {o:DOp} {ρ:Env} {x:Rd}:(Zbl o,x)∈Qq o ρ↔x∈KE o ρ:=by simp [Qq]
theorem ZhJ {o:DOp} {ρ ρ':Env} (h:ZR ρ ρ' (ZN o)):KE o ρ'=KE o ρ:=by
 obtain ⟨dst,gd,k⟩:=o
 have hg:=Kb (g:=gd) (fun t ht=>h t (by simp [ZN,ht]))
 cases k with
 | q q xs =>
  have hn:ZR ρ ρ' (ZbJ xs):=fun t ht=>h t (by simp [ZN,Wn,ht])
  simp only [KE,hg]
  split
  ·cases Zu ρ gd with
   | none=>rfl
   | some c=>simp only [Qu hn]
  ·rfl
 | _=>rfl
theorem Ztm {L:Loc} {s s':St} {q:Q} {es:List E} (h:Kg (.q q [])=true→∀ e r,es=e :: r→∀ b,.blk b∈QT e→s' b=s b):qv L s' q es=qv L s q es:=by
 by_cases hl:Kg (.q q [])=true
 ·replace h:=h hl
  match es with
  | [] =>
   cases q
   case conv c=>cases c <;> first | rfl | simp [Kg] at hl
   all_goals simp [Kg] at hl <;> rfl
  | e :: r =>
   replace h:=h e r rfl
   have hc:∀ b o,e = .d (.ptr b o)→YS s' b=YS s b:=fun b o he=>by subst he; simp only [YS,h b (by simp [QT])]
   have hm:∀ b,e = .d (.map b)→QM s' b=QM s b:=fun b he=>by subst he; simp only [QM,h b (by simp [QT])]
   have hms:∀ b o n cap z,e = .d (.msl b o n cap z)→YS s' b=YS s b:=fun b o n cap z he=>by subst he; simp only [YS,h b (by simp [QT])]
   have hconv:q = .conv .b2s→qv L s' q (e :: r)=qv L s q (e :: r):=fun hq=>by
    subst hq
    cases r with
    | nil =>
     cases e with
     | d v=>cases v <;> first | rfl | (simp only [qv]; rw [hms _ _ _ _ _ rfl])
     | _=>rfl
    | cons =>
     cases e with
     | d v=>cases v <;> rfl
     | _=>rfl
   cases q
   case conv c=>cases c <;> first | (simp [Kg] at hl; done) | exact hconv rfl
   all_goals simp [Kg] at hl
   ·cases r with
    | nil =>
     simp only [qv]
     congr 1
     cases e with
     | d v=>cases v <;> first | rfl | (simp only [K3]; rw [hc _ _ rfl])
     | _=>rfl
    | cons=>rfl
   ·cases r with
    | nil =>
     simp only [qv]
     congr 1
     cases e with
     | d v=>cases v <;> first | rfl | (simp only [Qe]; rw [hc _ _ rfl])
     | _=>rfl
    | cons=>rfl
   ·match r with
    | [] =>
     cases e with
     | d v=>cases v <;> rfl
     | _=>rfl
    | [e2] =>
     cases e with
     | d v =>
      cases e2 with
      | d v2=>cases v <;> first | rfl | (simp only [qv]; rw [hm _ rfl])
      | _=>cases v <;> rfl
     | _=>cases e2 <;> rfl
    | e2 :: _ :: _ =>
     cases e with
     | d v=>cases v <;> (cases e2 <;> rfl)
     | _=>cases e2 <;> rfl
   ·cases r with
    | nil =>
     cases e with
     | d v=>cases v <;> first | rfl | (simp only [qv]; rw [hm _ rfl])
     | _=>rfl
    | cons =>
     cases e with
     | d v=>cases v <;> rfl
     | _=>rfl
 ·clear h
  cases q
  case conv c=>cases c <;> first | (simp [Kg] at hl; done) | (unfold qv; rfl) | (unfold qv; split <;> first | rfl | (rename_i hx; cases hx))
  all_goals first | (simp [Kg] at hl; done) | (unfold qv; rfl) | (unfold qv; split <;> first | rfl | (rename_i hx; cases hx))
theorem Zpn {o:DOp} {ρ:Env} {L:Loc} {s s':St} {side:Prop} {ρ1:Env} (hst:ZU o ρ L s = .ok side ρ1 L s) (hk:WW o.k=true) (hgt:Zu ρ o.guard=some true) (h:∀ b,.blk b∈KE o ρ→s' b=s b):ZU o ρ L s' = .ok side ρ1 L s':=by
 obtain ⟨dst,gd,k⟩:=o
 unfold ZU at hst ⊢
 obtain ⟨c,hg,hc⟩:∃ c,Zu ρ gd=some c∧c=true:=⟨true,hgt,rfl⟩
 simp only [hg] at hst ⊢
 cases k with
 | q q xs =>
  simp only at hst ⊢
  split at hst <;> (try (simp at hst; done))
  rename_i p es hes
  have hqc:qv L s' q es=qv L s q es:=Ztm fun hl e r he b hb=>h b (by
   subst he
   have hl':Kg (.q q xs)=true:=by
    cases q
    case conv c=>cases c <;> simp_all [Kg]
    all_goals simp_all [Kg]
   subst hc
   simp only [KE,hl',if_true,hg,hes]; exact hb)
  simp only [hqc]
  split at hst <;> (try (simp at hst; done))
  split at hst <;> (simp only [SR.ok.injEq] at hst; obtain ⟨rfl,rfl,-,-⟩:=hst; rfl)
 | pick x a b =>
  simp only at hst ⊢
  split at hst <;> (try (simp at hst; done))
  split at hst <;> (simp only [SR.ok.injEq] at hst; obtain ⟨rfl,rfl,-,-⟩:=hst; rfl)
 | bsl len n z is xs =>
  simp only at hst ⊢
  split at hst <;> (try (simp at hst; done))
  split at hst <;> (try (simp at hst; done))
  split at hst <;> (simp only [SR.ok.injEq] at hst; obtain ⟨rfl,rfl,-,-⟩:=hst; rfl)
 | s2b x =>
  simp only at hst ⊢
  split at hst <;> (try (simp at hst; done))
  split at hst <;> (simp only [SR.ok.injEq] at hst; obtain ⟨rfl,rfl,-,-⟩:=hst; rfl)
 | _=>simp [WW] at hk
def ZaP (o:DOp) (x:Nat):Prop:=o.dst=some x∧∃ z,o.k = .alloc z
def Qf (o:DOp) (ρ:Env) (L:Loc) (s:St) (B:List (Nat × Rd)):Prop :=
 (WW o.k=true∧Zu ρ o.guard=some true∧(∀ b∈KE o ρ,(Zbl o,b)∈B)∧∃ side e,side∧ZU o ρ L s = .ok side (ZQ ρ o.dst e) L s∧∀ t,o.dst=some t→Ye ρ t=some e) ∨
 (WW o.k=true∧Zu ρ o.guard=some false∧∃ e,∀ t,o.dst=some t→Ye ρ t=some (.when false e)) ∨
 (∃ t z,o=⟨some t,none,.alloc z⟩∧Ye ρ t=some (.loc t 0)∧Zl L t=some z)
structure Inv (T:Tab) (ms:List Nat) (A rest:List Nat) (ρ:Env) (L:Loc) (s:St) (B:List (Nat × Rd)) (l:Nat→Bool) (ρ':Env) (L':Loc):Prop where
 closed:∀ i,i < T.length→l i=true→∀ d∈T.deps i,l d=true
 restN:∀ r∈rest,l r=false
 doneN:∀ i,i < T.length→i ∉ rest→i ∉ A→l i=true
 alt:∀ a∈A,a < T.length
 pair:∀ p∈A,∀ a∈A,(ms.getD p 0).testBit a=true∨nd (T.op a).dst (ZN (T.op p))=true
 uniq:∀ p∈A,∀ a∈A,p≠a→ndd (T.op p).dst (T.op a).dst=true
 env:∀ t,Ye ρ' t=Ye ρ t∨∃ a∈A,l a=false∧(T.op a).dst=some t
 loc0:∀ a∈A,l a=false→∀ x,ZaP (T.op a) x→Zl L' x=none
 loc:∀ x,Zl L' x=Zl L x∨∃ a∈A,l a=false∧ZaP (T.op a) x
 pend:∀ a∈A,l a=false→Qf (T.op a) ρ L s B
def Zd0 (T:Tab) (ms:List Nat):Prop :=
 ∀ (l:Nat→Bool),(∀ i,i < T.length→l i=true→∀ d∈T.deps i,l d=true)→∀ i,i < T.length→(∀ d∈T.deps i,l d=true)→∀ a,(ms.getD i 0).testBit a=true→l a=true
theorem Qf.state {o:DOp} {ρ:Env} {L:Loc} {s s':St} {B:List (Nat × Rd)} (h:Qf o ρ L s B) (hB:∀ b,.blk b∈KE o ρ→s' b=s b):Qf o ρ L s' B:=by
 rcases h with ⟨hk,hg,hr,side,e,hs,hst,he⟩ | h | h
 ·exact .inl ⟨hk,hg,hr,side,e,hs,Zpn hst hk hg hB,he⟩
 ·exact .inr (.inl h)
 ·exact .inr (.inr h)
theorem Qf.more {o:DOp} {ρ:Env} {L:Loc} {s:St} {B B':List (Nat × Rd)} (h:Qf o ρ L s B) (hB:∀ b∈KE o ρ,(Zbl o,b)∈B→(Zbl o,b)∈B'):Qf o ρ L s B':=by
 rcases h with ⟨hk,hg,hr,h⟩ | h | h
 ·exact .inl ⟨hk,hg,fun b hb=>hB b hb (hr b hb),h⟩
 ·exact .inr (.inl h)
 ·exact .inr (.inr h)
theorem Zpb {o:DOp} {ρ:Env} (h:Zu ρ o.guard=some false):KE o ρ=[]:=by
 obtain ⟨dst,gd,k⟩:=o
 cases k <;> simp only [KE]
 simp only at h
 simp [h]
theorem Zpa {o:DOp} {ρ:Env} (h:Kg o.k=false):KE o ρ=[]:=by
 obtain ⟨dst,gd,k⟩:=o
 cases k <;> simp only [KE]
 rename_i q xs
 simp only at h
 simp [h]
section
variable {P:Program}
theorem Zl0 {F:Fr P} {kp:Option (List Nat)} {dk:List Zp} {os:List DOp} {ρ:Env} {L:Loc} {s:St} (h:∀ g ν w tmps,ZI g ν w tmps ρ L s→DO F kp dk os ρ L s):DO F kp dk os ρ L s :=
 fun ops is k hops hk g ν w tmps hN m=>h g ν w tmps m ops is k hops hk g ν w tmps hN m
theorem Zjq {g:G} {ν:Nat→Nat} {w:World} {tmps:Array Value} {ρ:Env} {L:Loc} {s:St} (m:ZI g ν w tmps ρ L s):∀ {xs:List Opd} {p:Prop} {es:List E},Wc ρ true xs=some (p,es)→p→∀ x o,.loc x o∈es→∃ cs,Zl L x=some cs
 | [],p,es,h,_,x,o,hx=>by simp only [Wc,ZvD,ZvL] at h; obtain ⟨_,rfl⟩:=h; simp at hx
 | y :: ys,p,es,h,hp,x,o,hx=>by
  simp only [Wc] at h
  split at h <;> simp only [ZvD,ZvL,reduceCtorEq] at h
  rename_i p1 e1 p2 es' h1 h2
  obtain ⟨rfl,rfl⟩:=h
  rcases List.mem_cons.1 hx with hx | hx
  ·subst hx
   cases y with
   | cst d=>simp [ZV] at h1
   | tmp t =>
    simp only [ZV] at h1
    split at h1
    ·rename_i c' e' he
     simp only [ZvD,ZvL] at h1
     obtain ⟨rfl,rfl⟩:=h1
     exact ((m.env t _ he).1 (by simpa using hp.1)).1
    ·rename_i e' _ he
     simp only [ZvD,ZvL] at h1
     obtain ⟨rfl,rfl⟩:=h1
     exact (m.env t _ he).1
    ·simp at h1
  ·exact Zjq m h2 hp.2 x o hx
theorem Zpt {F:Fr P} {kp:Option (List Nat)} {dk:List Zp} {o:DOp} {os:List DOp} {ρ ρ':Env} {L L':Loc} {s:St} {side:Prop} {e:E} (hst:ZU o ρ L s = .ok side (ZQ ρ o.dst e) L s) (hs:side) (hk:WW o.k=true)
  (ha:ZR ρ ρ' (ZN o)) (hl:∀ x,Zl L' x=Zl L x∨Zl L' x=none) (h:DO F kp dk os (ZQ ρ' o.dst e) L' s):DO F kp dk (o :: os) ρ' L' s:=by
 have hput:∀ e',ZQ ρ o.dst e=ZQ ρ o.dst e'→ZQ ρ' o.dst e=ZQ ρ' o.dst e':=fun e' h=>by
  cases hd:o.dst with
  | none=>rfl
  | some t=>simp only [hd,ZQ,List.cons.injEq,ZvL,true_and,and_true] at h; rw [h]
 have hg:=Kb (g:=o.guard) (fun t ht=>ha t (by simp [ZN,ht]))
 cases hc:Zu ρ o.guard with
 | none=>unfold ZU at hst; simp [hc] at hst
 | some c =>
  cases c
  ·obtain ⟨e',h1,-,-⟩:=Zjf hst hc hk
   rw [hput _ h1] at h
   exact JB (by rw [hg,hc]) h
  ·refine Zl0 fun g ν w tmps m=>?_
   obtain ⟨e',h1,-,-,h2⟩:=Zpm (ρ':=ρ') (L':=L') hst hs hc hk ha (fun hld q xs p es hkq hes hp x of hx=>by
    have hn:ZR ρ ρ' (ZbJ xs):=fun t ht=>ha t (by simp [ZN,hkq,Wn,ht])
    obtain ⟨cs,hcs⟩:=Zjq m (by rw [Qu hn]; exact hes) hp x of hx
    rcases hl x with h | h
    ·exact h
    ·rw [h] at hcs; simp at hcs)
   rw [hput _ h1] at h
   exact JW h2 hs h
end
end Go.DL
namespace Go.DL
open Go
variable [Znt]
theorem ZaZ {a b:Option Nat} (h:ndd a b=true):ndd b a=true:=by
 cases a <;> cases b <;> simp only [ndd,bne_iff_ne,ne_eq] at h ⊢
 exact fun h'=>h h'.symm
theorem ZaY {a b:Option Nat} (h:ndd a b=true) {t:Nat} (ha:a=some t):b≠some t:=by
 subst ha
 cases b with
 | none=>simp
 | some u=>simp only [ndd,bne_iff_ne] at h; intro hb; simp only [ZvD] at hb; exact h hb.symm
theorem ZfJ {d:Option Nat} {l:List Nat} (h:nd d l=true) {t:Nat} (ht:d=some t):t ∉ l:=by
 subst ht; simpa [nd] using h
theorem QA {ρ:Env} {dst:Option Nat} {e:E} {ns:List Nat} (h:nd dst ns=true):ZR ρ (ZQ ρ dst e) ns:=by
 intro t ht
 cases dst with
 | none=>rfl
 | some u =>
  have:¬ u=t:=fun hu=>ZfJ h rfl (hu ▸ ht)
  simp [ZQ,Ye,this]
theorem Km (ρ:Env) (dst:Option Nat) (e:E) (t:Nat):Ye (ZQ ρ dst e) t=if dst=some t then some e else Ye ρ t:=by
 cases dst with
 | none=>simp [ZQ]
 | some u=>simp [ZQ,Ye]
theorem Zuj {L:Loc} {s:St} {q:Q} {es:List E} {r:Prop × E} (hq:qv L s q es=some r) (hl:Zcq (.q q [])=true) {x o:Nat} (hx:.loc x o∈es):∃ cs,Zl L x=some cs:=by
 cases q <;> simp [Zcq] at hl
 ·match es with
  | [a] =>
   simp only [List.mem_singleton] at hx
   subst hx
   simp only [qv,K3] at hq
   cases h:Zl L x with
   | none=>simp [h] at hq
   | some cs=>exact ⟨cs,rfl⟩
  | []=>simp at hx
  | _ :: _ :: _=>simp [qv] at hq
 ·match es with
  | [a] =>
   simp only [List.mem_singleton] at hx
   subst hx
   simp only [qv,Qe] at hq
   cases h:Zl L x with
   | none=>simp [h] at hq
   | some cs=>exact ⟨cs,rfl⟩
  | []=>simp at hx
  | _ :: _ :: _=>simp [qv] at hq
theorem ZgK {o:DOp} {ρ ρ':Env} {L L':Loc} {s s1:St} {side:Prop} {ρ1:Env} {L1:Loc} (hst:ZU o ρ L s = .ok side ρ1 L1 s1) (hk:WW o.k=true) (ha:ZR ρ ρ' (ZN o))
  (hl:L'=L∨Zu ρ o.guard=some true∧∀ x,.loc x∈KE o ρ→Zl L' x=Zl L x):∃ e,ρ1=ZQ ρ o.dst e∧L1=L∧s1=s∧ZU o ρ' L' s = .ok side (ZQ ρ' o.dst e) L' s:=by
 obtain ⟨dst,gd,k⟩:=o
 have hg:=Kb (g:=gd) (fun t ht=>ha t (by simp [ZN,ht]))
 have hn:ZR ρ ρ' (Wn k):=fun t ht=>ha t (by simp [ZN,ht])
 unfold ZU at hst ⊢
 simp only [hg] at hst ⊢
 cases hc:Zu ρ gd with
 | none=>simp [hc] at hst
 | some c =>
 simp only [hc] at hst ⊢
 cases k with
 | q q xs =>
  simp only at hst ⊢
  rw [Qu hn]
  split at hst <;> (try (simp at hst; done))
  rename_i p es hes
  try simp only [hes]
  split at hst <;> (try (simp at hst; done))
  rename_i sd e hq
  have hqc:qv L' s q es=qv L s q es:=ZoG fun hld x of hx=>by
   rcases hl with rfl | ⟨hgt,hl⟩
   ·rfl
   obtain rfl:c=true:=by simpa [hc] using hgt
   refine hl x ?_
   have hrd:Kg (.q q xs)=true:=by cases q <;> simp_all [Zcq,Kg]
   have hes1:es=[.loc x of]:=by
    have hq':∃ r,qv L s q es=some r:=⟨_,hq⟩
    cases q <;> simp [Zcq] at hld
    ·match es with
     | [a]=>simp only [List.mem_singleton] at hx; rw [hx]
     | []=>simp at hx
     | _ :: _ :: _=>simp [qv] at hq'
    ·match es with
     | [a]=>simp only [List.mem_singleton] at hx; rw [hx]
     | []=>simp at hx
     | _ :: _ :: _=>simp [qv] at hq'
   subst hes1
   simp only [KE,hrd,if_true,hc,hes,QT,List.mem_singleton]
  simp only [hqc,hq]
  split at hst <;> (simp only [SR.ok.injEq] at hst; obtain ⟨rfl,rfl,rfl,rfl⟩:=hst)
  ·exact ⟨e,rfl,rfl,rfl,rfl⟩
  ·exact ⟨_,rfl,rfl,rfl,rfl⟩
 | pick x a b =>
  simp only at hst ⊢
  rw [Zi9 hn]
  split at hst <;> (try (simp at hst; done))
  rename_i p v hp
  try simp only [hp]
  split at hst <;> (simp only [SR.ok.injEq] at hst; obtain ⟨rfl,rfl,rfl,rfl⟩:=hst)
  ·exact ⟨_,rfl,rfl,rfl,rfl⟩
  ·exact ⟨_,rfl,rfl,rfl,rfl⟩
 | bsl len n z is xs =>
  simp only at hst ⊢
  rw [Qu hn]
  split at hst <;> (try (simp at hst; done))
  rename_i p es hes
  try simp only [hes]
  split at hst <;> (try (simp at hst; done))
  rename_i ds hds
  try simp only [hds]
  split at hst <;> (simp only [SR.ok.injEq] at hst; obtain ⟨rfl,rfl,rfl,rfl⟩:=hst)
  ·exact ⟨_,rfl,rfl,rfl,rfl⟩
  ·exact ⟨_,rfl,rfl,rfl,rfl⟩
 | s2b x =>
  simp only at hst ⊢
  rw [Yi hn]
  split at hst <;> (try (simp at hst; done))
  rename_i p l hl
  try simp only [hl]
  split at hst <;> (simp only [SR.ok.injEq] at hst; obtain ⟨rfl,rfl,rfl,rfl⟩:=hst)
  ·exact ⟨_,rfl,rfl,rfl,rfl⟩
  ·exact ⟨_,rfl,rfl,rfl,rfl⟩
 | _=>simp [WW] at hk
theorem Qf.mono {o:DOp} {ρ ρ1:Env} {L L1:Loc} {s:St} {B:List (Nat × Rd)} (h:Qf o ρ L s B) (ha:ZR ρ ρ1 (ZN o)) (hd:∀ t,o.dst=some t→Ye ρ1 t=Ye ρ t)
  (hl:∀ x,.loc x∈KE o ρ→Zl L1 x=Zl L x) (hal:∀ t,ZaP o t→Zl L1 t=Zl L t):Qf o ρ1 L1 s B:=by
 rcases h with ⟨hk,hgt,hrd,side,e,hs,hst,he⟩ | ⟨hk,hgf,e,he⟩ | ⟨t,z,rfl,h1,h2⟩
 ·left
  obtain ⟨e',h1,-,-,h2⟩:=ZgK hst hk ha (.inr ⟨hgt,hl⟩)
  refine ⟨hk,by rw [Kb fun t ht=>ha t (by simp [ZN,ht])]; exact hgt,by rw [ZhJ ha]; exact hrd,side,e',hs,h2,fun t ht=>?_⟩
  rw [hd t ht,he t ht]
  rw [ht] at h1
  simp only [ZQ,List.cons.injEq,ZvL,true_and,and_true] at h1
  rw [h1]
 ·exact .inr (.inl ⟨hk,by rw [Kb fun t ht=>ha t (by simp [ZN,ht])]; exact hgf,e,fun t ht=>by rw [hd t ht,he t ht]⟩)
 ·right; right
  exact ⟨t,z,rfl,by rw [hd t rfl]; exact h1,by rw [hal t ⟨rfl,z,rfl⟩]; exact h2⟩
theorem Zcc {o:DOp} {x:Nat} (h:ZaP o x):WW o.k=false:=by
 obtain ⟨_,z,hz⟩:=h; rw [hz]; rfl
section
variable {P:Program}
theorem Zhk {F:Fr P} {kp:Option (List Nat)} {dk:List Zp} {T:Tab} {ms:List Nat} {A rest:List Nat} {ρ:Env} {L:Loc} {l:Nat→Bool} {ρ':Env} {L':Loc} {s:St} {B:List (Nat × Rd)} {p:Nat} {os:List DOp}
  (hm:Zd0 T ms) (inv:Inv T ms A rest ρ L s B l ρ' L') (hA:p∈A) (hdis:p ∉ rest) (hl:l p=false) (hdeps:∀ d∈T.deps p,l d=true)
  (h:∀ ρ2 L2,Inv T ms A rest ρ L s B (fun j=>j == p || l j) ρ2 L2→DO F kp dk os ρ2 L2 s):DO F kp dk (T.op p :: os) ρ' L' s:=by
 have hpn:=inv.alt p hA
 have hforced:=hm l inv.closed p hpn hdeps
 have hag:ZR ρ ρ' (ZN (T.op p)):=by
  intro t ht
  rcases inv.env t with h | ⟨a,ha,hla,hda⟩
  ·exact h
  ·exfalso
   rcases inv.pair p hA a ha with hb | hb
   ·rw [hforced a hb] at hla; simp at hla
   ·exact ZfJ hb hda ht
 have hloc:∀ x,Zl L' x=Zl L x∨Zl L' x=none:=fun x=>by
  rcases inv.loc x with h | ⟨a,ha,hla,hx⟩
  ·exact .inl h
  ·exact .inr (inv.loc0 a ha hla x hx)
 have hclosed:∀ i,i < T.length→(i == p || l i)=true→∀ d∈T.deps i,(d == p || l d)=true:=fun i hi hli d hd=>by
  simp only [ZvW,beq_iff_eq] at hli ⊢
  rcases hli with rfl | hli
  ·exact .inr (hdeps d hd)
  ·exact .inr (inv.closed i hi hli d hd)
 have hrestN:∀ r∈rest,(r == p || l r)=false:=fun r hr=>by
  simp only [Bool.or_eq_false_iff,beq_eq_false_iff_ne]
  exact ⟨fun h=>hdis (h ▸ hr),inv.restN r hr⟩
 have hdone:∀ i,i < T.length→i ∉ rest→i ∉ A→(i == p || l i)=true:=fun i hi h1 h2=>by simp [inv.doneN i hi h1 h2]
 have hl2:∀ a,(a == p || l a)=false→a≠p∧l a=false:=fun a ha=>by simpa using ha
 have hl2':∀ a,a≠p→l a=false→(a == p || l a)=false:=fun a ha h=>by simp [ha,h]
 rcases inv.pend p hA hl with ⟨hk,hgt,hrd,side,e,hs,hst,he⟩ | ⟨hk,hgf,e0,he0⟩ | ⟨t,z,ho,h1,h2⟩
 rotate_left
 ·obtain ⟨e,he,hE⟩:∃ e,(∀ t,(T.op p).dst=some t→Ye ρ t=some e)∧e = .when false e0:=⟨_,he0,rfl⟩
  refine JB (e:=e0) (by rw [Kb fun t ht=>hag t (by simp [ZN,ht])]; exact hgf) ?_
  rw [← hE]
  refine h _ _ ?_
  refine ⟨hclosed,hrestN,hdone,inv.alt,inv.pair,inv.uniq,fun t=>?_,fun a ha hla x hx=>inv.loc0 a ha (hl2 a hla).2 x hx,fun x=>?_,fun a ha hla=>inv.pend a ha (hl2 a hla).2⟩
  ·rw [Km]
   by_cases hd:(T.op p).dst=some t
   ·rw [if_pos hd]; exact .inl (he t hd).symm
   ·rw [if_neg hd]
    rcases inv.env t with h | ⟨a,ha,hla,hda⟩
    ·exact .inl h
    ·exact .inr ⟨a,ha,hl2' a (fun hap=>hd (hap ▸ hda)) hla,hda⟩
  ·rcases inv.loc x with h | ⟨a,ha,hla,hx⟩
   ·exact .inl h
   ·refine .inr ⟨a,ha,hl2' a (fun hap=>?_) hla,hx⟩
    have:=Zcc hx
    rw [hap,hk] at this; simp at this
 rotate_left
 ·refine Zpt hst hs hk hag hloc (h _ _ ?_)
  refine ⟨hclosed,hrestN,hdone,inv.alt,inv.pair,inv.uniq,fun t=>?_,fun a ha hla x hx=>inv.loc0 a ha (hl2 a hla).2 x hx,fun x=>?_,fun a ha hla=>inv.pend a ha (hl2 a hla).2⟩
  ·rw [Km]
   by_cases hd:(T.op p).dst=some t
   ·rw [if_pos hd]; exact .inl (he t hd).symm
   ·rw [if_neg hd]
    rcases inv.env t with h | ⟨a,ha,hla,hda⟩
    ·exact .inl h
    ·exact .inr ⟨a,ha,hl2' a (fun hap=>hd (hap ▸ hda)) hla,hda⟩
  ·rcases inv.loc x with h | ⟨a,ha,hla,hx⟩
   ·exact .inl h
   ·refine .inr ⟨a,ha,hl2' a (fun hap=>?_) hla,hx⟩
    have:=Zcc hx
    rw [hap,hk] at this; simp at this
 ·have hal:ZaP (T.op p) t:=⟨by rw [ho],z,by rw [ho]⟩
  have hnone:=inv.loc0 p hA hl t hal
  refine Zng (o:=T.op p) (t:=t) (by rw [ho]) (by rw [ho]) (z:=z) (by rw [ho]) (by simp [Zay,hnone]) (h _ _ ?_)
  have hdp:(T.op p).dst=some t:=by rw [ho]
  refine ⟨hclosed,hrestN,hdone,inv.alt,inv.pair,inv.uniq,fun u=>?_,fun a ha hla x hx=>?_,fun x=>?_,fun a ha hla=>inv.pend a ha (hl2 a hla).2⟩
  ·simp only [Ye]
   by_cases hd:t=u
   ·subst hd; simp [h1]
   ·simp only [hd,if_false]
    rcases inv.env u with h | ⟨a,ha,hla,hda⟩
    ·exact .inl h
    ·exact .inr ⟨a,ha,hl2' a (fun hap=>hd (by rw [hap,hdp] at hda; simpa using hda)) hla,hda⟩
  ·obtain ⟨hap,hla⟩:=hl2 a hla
   have:¬ t=x:=fun htx=>ZaY (inv.uniq p hA a ha hap.symm) hdp (htx ▸ hx.1)
   simp only [Zl,this,if_false]
   exact inv.loc0 a ha hla x hx
  ·simp only [Zl]
   by_cases hd:t=x
   ·subst hd; simp [h2]
   ·simp only [hd,if_false]
    rcases inv.loc x with h | ⟨a,ha,hla,hx⟩
    ·exact .inl h
    ·exact .inr ⟨a,ha,hl2' a (fun hap=>hd (by have:=hx.1; rw [hap,hdp] at this; simpa using this)) hla,hx⟩
theorem ZqQ {F:Fr P} {kp:Option (List Nat)} {dk:List Zp} {T:Tab} {ms:List Nat} {A rest:List Nat} {ρ:Env} {L:Loc} {s:St} {B:List (Nat × Rd)} {i:Nat}
  (hm:Zd0 T ms) (hi:i < T.length) (hdis:∀ p∈A,p ∉ i :: rest) (hready:∀ r∈rest,∃ d∈T.deps r,d∈i :: rest)
  (cb:∀ l ρ' L' is,Inv T ms A (i :: rest) ρ L s B l ρ' L'→(∀ d∈T.deps i,l d=true)→Sch T (fun j=>j == i || l j) is→DO F kp dk (T.op i :: is.map T.op) ρ' L' s)
  {l:Nat→Bool} {is:List Nat} (sch:Sch T l is):∀ {ρ':Env} {L':Loc},Inv T ms A (i :: rest) ρ L s B l ρ' L'→DO F kp dk (is.map T.op) ρ' L' s:=by
 induction sch with
 | nil h=>intro ρ' L' inv; have:=inv.restN i (by simp); rw [h i hi] at this; simp at this
 | @cons l p is hp hlp hd t ih =>
  intro ρ' L' inv
  by_cases hpi:p=i
  ·subst hpi; exact cb l ρ' L' is inv hd t
  ·by_cases hpr:p∈rest
   ·obtain ⟨d,hd1,hd2⟩:=hready p hpr
    have:=inv.restN d hd2
    rw [hd d hd1] at this; simp at this
   ·by_cases hpA:p∈A
    ·exact Zhk hm inv hpA (hdis p hpA) hlp hd fun ρ2 L2 inv2=>ih inv2
    ·have:=inv.doneN p hp (by simp [hpi,hpr]) hpA
     rw [hlp] at this; simp at this
theorem Zjh {L L':Loc} (h:∀ x,Zl L' x=Zl L x):∀ ls,ZaJ L' ls=ZaJ L ls
 | []=>rfl
 | l :: ls=>by simp only [ZaJ,h l,Zjh h ls]
theorem Zi5 {ρ ρ':Env} (h:∀ x,Ye ρ' x=Ye ρ x):∀ ks,Wy ρ' ks=Wy ρ ks
 | []=>rfl
 | k :: ks=>by simp only [Wy,h k,Zi5 h ks]
theorem Zsg {F:Fr P} {ks:List Nat} {dk:List Zp} {T:Tab} {ms:List Nat} {A:List Nat} {ρ:Env} {L:Loc} {s:St} {B:List (Nat × Rd)} (hm:Zd0 T ms)
  (h:ZD F dk (Wy ρ ks) (ZbI (Wy ρ ks) L) s) {l:Nat→Bool} {is:List Nat} (sch:Sch T l is):∀ {ρ':Env} {L':Loc},Inv T ms A [] ρ L s B l ρ' L'→DO F (some ks) dk (is.map T.op) ρ' L' s:=by
 induction sch with
 | nil hall =>
  intro ρ' L' inv
  have h1:∀ t,Ye ρ' t=Ye ρ t:=fun t=>by
   rcases inv.env t with h | ⟨a,ha,hla,_⟩
   ·exact h
   ·rw [hall a (inv.alt a ha)] at hla; simp at hla
  have h2:∀ t,Zl L' t=Zl L t:=fun t=>by
   rcases inv.loc t with h | ⟨a,ha,hla,_⟩
   ·exact h
   ·rw [hall a (inv.alt a ha)] at hla; simp at hla
  refine Zg4 ?_
  show ZD F dk (Wy ρ' ks) (ZbI (Wy ρ' ks) L') s
  rw [Zi5 h1]
  simp only [ZbI,Zjh h2]
  exact h
 | @cons l p is hp hlp hd t ih =>
  intro ρ' L' inv
  by_cases hpA:p∈A
  ·exact Zhk hm inv hpA (by simp) hlp hd fun ρ2 L2 inv2=>ih inv2
  ·have:=inv.doneN p hp (by simp) hpA
   rw [hlp] at this; simp at this
def DOA (F:Fr P) (kp:Option (List Nat)) (dk:List Zp) (os:List (DOp × List Nat)) (ρ:Env) (L:Loc) (s:St) (B:List (Nat × Rd)):Prop :=
 ∀ (T:Tab) ms fl (fk:Option Nat) A rest is l ρ' L',Zd0 T ms→ZaS T ms fl fk A rest=true→(∀ p∈A,p ∉ rest)→os=rest.map (fun i=>(T.mk fk i,fl i))→Inv T ms A rest ρ L s B l ρ' L'→Sch T l is→DO F kp dk (is.map T.op) ρ' L' s
theorem Zlc {F:Fr P} {ks:List Nat} {dk:List Zp} {ρ:Env} {L:Loc} {s:St} {B:List (Nat × Rd)} (h:ZD F dk (Wy ρ ks) (ZbI (Wy ρ ks) L) s):DOA F (some ks) dk [] ρ L s B:=by
 intro T ms fl fk A rest is l ρ' L' hm hc hdis hos inv sch
 have hr:rest=[]:=by cases rest <;> simp at hos ⊢
 subst hr
 exact Zsg hm h sch inv
theorem Zjg {o:DOp} {ρ:Env} {L:Loc} {s s1:St} {side:Prop} {ρ1:Env} {L1:Loc} (hst:ZU o ρ L s = .ok side ρ1 L1 s1) (hk:WW o.k=true):∃ e,ρ1=ZQ ρ o.dst e∧L1=L∧s1=s:=by
 obtain ⟨e,h1,h2,h3,_⟩:=ZgK (ρ':=ρ) (L':=L) hst hk (fun _ _=>rfl) (.inl rfl)
 exact ⟨e,h1,h2,h3⟩
theorem Zpl {o:DOp} {ρ:Env} {L:Loc} {s s1:St} {side:Prop} {ρ1:Env} {L1:Loc} {z:List D} (hst:ZU o ρ L s = .ok side ρ1 L1 s1) (hk:o.k = .alloc z):∃ t,o=⟨some t,none,.alloc z⟩∧side=(Zay L t=false)∧ρ1=(t,.loc t 0) :: ρ∧L1=(t,z) :: L∧s1=s:=by
 obtain ⟨dst,gd,k⟩:=o
 simp only at hk
 subst hk
 unfold ZU at hst
 cases hg:Zu ρ gd with
 | none=>simp [hg] at hst
 | some c =>
  simp only [hg] at hst
  split at hst <;> simp only [SR.ok.injEq,reduceCtorEq] at hst
  rename_i t
  obtain ⟨rfl,rfl,rfl,rfl⟩:=hst
  exact ⟨t,rfl,rfl,rfl,rfl,rfl⟩
theorem Ziw {T:Tab} {fk:Option Nat} {i:Nat} {o:DOp} (h:T.mk fk i=o) (hk:∀ k,o.k≠.fork k):fk≠some i∧T.op i=o:=by
 unfold Tab.mk at h
 split at h
 ·subst h; exact absurd rfl (hk _)
 ·exact ⟨‹_›,h⟩
theorem Zf7 {T:Tab} {ms:List Nat} {fl:Nat→List Nat} {A rest:List Nat} {fk:Option Nat} {i:Nat} (hfk:fk≠some i) (h:ZaS T ms fl fk A (i :: rest)=true) :
  i < T.length∧(∀ d∈T.deps i,d ∉ i :: rest)∧i ∉ rest∧(∀ a∈A,(ms.getD i 0).testBit a=true∨nd (T.op a).dst (ZN (T.op i))=true) ∧
  ((ZbX T A i=true∧ZaS T ms fl fk (i :: A) rest=true) ∨
   (Zhe T (fl i) (A.filter fun a=>!(ms.getD i 0).testBit a) rest i=true∧ZaS T ms fl fk (A.filter fun a=>!(ms.getD i 0).testBit a) rest=true∧ZbX T A i=false)):=by
 simp only [ZaS,hfk,if_false,ZvN,decide_eq_true_eq,List.all_eq_true,Bool.not_eq_true',List.contains_eq_mem,decide_eq_false_iff_not] at h
 obtain ⟨⟨⟨⟨h1,h2⟩,h3⟩,h4⟩,h5⟩:=h
 refine ⟨h1,h2,h3,fun a ha=>?_,?_⟩
 ·cases hb:(ms.getD i 0).testBit a
  ·exact .inr (h4 a (List.mem_filter.2 ⟨ha,by simp only [hb]; rfl⟩))
  ·exact .inl rfl
 ·split at h5
  ·rename_i hp; exact .inl ⟨hp,h5⟩
  ·rename_i hp; simp only [ZvN] at h5; exact .inr ⟨by simpa using h5.1,h5.2,by simpa using hp⟩
theorem ZiZ {T:Tab} {ms:List Nat} {fl:Nat→List Nat}:∀ {A rest:List Nat},ZaS T ms fl none A rest=chk T ms fl A rest
 | _,[]=>rfl
 | A,i :: rest=>by simp only [ZaS,chk,reduceCtorEq,if_false,ZiZ]
theorem Zc0 {T:Tab} {fl:List Nat} {free rest:List Nat} {i:Nat} (h:Zhe T fl free rest i=true) :
  Zlm (T.op i).k=true∧(∀ r∈rest,∃ d∈T.deps r,d∈i :: rest) ∧
  ∀ a∈free,nd (T.op i).dst (ZN (T.op a))=true∧ndd (T.op i).dst (T.op a).dst=true∧(ZaA (Zbl (T.op a)) fl=false→Kg (T.op a).k=false):=by
 simp only [Zhe,ZvN,List.all_eq_true,List.any_eq_true,List.contains_eq_mem,decide_eq_true_eq,Bool.not_eq_true',ZvW] at h
 obtain ⟨⟨h1,h2⟩,h3⟩:=h
 refine ⟨h1,h2,fun a ha=>?_⟩
 obtain ⟨⟨h4,h5⟩,h6⟩:=h3 a ha
 refine ⟨h4,h5,fun hs=>?_⟩
 rw [hs] at h6; simpa using h6
theorem Zd9 {T:Tab} {A:List Nat} {i:Nat} (h:ZbX T A i=true) :
  WB (T.op i).k=true∧nd (T.op i).dst (ZN (T.op i))=true∧∀ a∈A,nd (T.op i).dst (ZN (T.op a))=true∧ndd (T.op i).dst (T.op a).dst=true:=by
 simp only [ZbX,ZvN,List.all_eq_true] at h
 exact ⟨by cases hk:(T.op i).k <;> rw [hk] at h <;> simp [pqK] at h <;> rfl,h.1.2,h.2⟩
theorem Inv.bar {T:Tab} {ms A rest:List Nat} {ρ:Env} {L:Loc} {s s2:St} {B B2:List (Nat × Rd)} {l:Nat→Bool} {ρ':Env} {L':Loc} {i:Nat} (hm:Zd0 T ms) (inv:Inv T ms A (i :: rest) ρ L s B l ρ' L') (hdis:∀ p∈A,p ∉ i :: rest) (hi:i < T.length)
  (hir:i ∉ rest) (hd:∀ d∈T.deps i,l d=true) (hf:∀ a∈A.filter (fun a=>!(ms.getD i 0).testBit a),nd (T.op i).dst (ZN (T.op a))=true∧ndd (T.op i).dst (T.op a).dst=true) (e:E)
  {L2 L2':Loc} (hL:∀ x,Zl L' x=Zl L x→Zl L2' x=Zl L2 x) (h0:∀ x,(∀ a,ndd (T.op i).dst (T.op a).dst=true→ZaP (T.op a) x→Zl L' x=none→Zl L2' x=none))
  (hp:∀ a∈A.filter (fun a=>!(ms.getD i 0).testBit a),l a=false→Qf (T.op a) ρ L s B→Qf (T.op a) (ZQ ρ (T.op i).dst e) L2 s2 B2) :
  Inv T ms (A.filter fun a=>!(ms.getD i 0).testBit a) rest (ZQ ρ (T.op i).dst e) L2 s2 B2 (fun j=>j == i || l j) (ZQ ρ' (T.op i).dst e) L2':=by
 have hforced:=hm l inv.closed i hi hd
 have hfree:∀ a∈A,l a=false→a∈A.filter fun a=>!(ms.getD i 0).testBit a:=fun a ha hla=>by
  refine List.mem_filter.2 ⟨ha,?_⟩
  cases hb:(ms.getD i 0).testBit a
  ·rfl
  ·rw [hforced a hb] at hla; simp at hla
 have hsub:∀ a∈A.filter (fun a=>!(ms.getD i 0).testBit a),a∈A:=fun a ha=>(List.mem_filter.1 ha).1
 have hl2:∀ a,(a == i || l a)=false→a≠i∧l a=false:=fun a ha=>by simpa using ha
 have hl2':∀ a∈A,l a=false→(a == i || l a)=false:=fun a ha h=>by
  have:a≠i:=fun hai=>hdis a ha (by simp [hai])
  simp [this,h]
 refine ⟨fun j hj hlj d hdj=>?_,fun r hr=>?_,fun j hj h1 h2=>?_,fun a ha=>inv.alt a (hsub a ha),fun p hp' a ha=>inv.pair p (hsub p hp') a (hsub a ha),fun p hp' a ha=>inv.uniq p (hsub p hp') a (hsub a ha),fun t=>?_,fun a ha hla x hx=>?_,
  fun x=>?_,fun a ha hla=>hp a ha (hl2 a hla).2 (inv.pend a (hsub a ha) (hl2 a hla).2)⟩
 ·simp only [ZvW,beq_iff_eq] at hlj ⊢
  rcases hlj with rfl | hlj
  ·exact .inr (hd d hdj)
  ·exact .inr (inv.closed j hj hlj d hdj)
 ·simp only [Bool.or_eq_false_iff,beq_eq_false_iff_ne]
  exact ⟨fun h=>hir (h ▸ hr),inv.restN r (by simp [hr])⟩
 ·by_cases hji:j=i
  ·simp [hji]
  ·by_cases hjA:j∈A
   ·cases hlj:l j
    ·exact absurd (hfree j hjA hlj) h2
    ·simp
   ·simp [inv.doneN j hj (by simp [hji,h1]) hjA]
 ·rw [Km,Km]
  by_cases ht:(T.op i).dst=some t
  ·simp [ht]
  ·simp only [ht,if_false]
   rcases inv.env t with h | ⟨a,ha,hla,hda⟩
   ·exact .inl h
   ·exact .inr ⟨a,hfree a ha hla,hl2' a ha hla,hda⟩
 ·exact h0 x a (hf a ha).2 hx (inv.loc0 a (hsub a ha) (hl2 a hla).2 x hx)
 ·rcases inv.loc x with h | ⟨a,ha,hla,hx⟩
  ·exact .inl (hL x h)
  ·exact .inr ⟨a,hfree a ha hla,hl2' a ha hla,hx⟩
theorem Qf.keep {o:DOp} {ρ:Env} {L L2:Loc} {s s2:St} {B:List (Nat × Rd)} {fl:List Nat} (h:Qf o ρ L s B) (hk:Kl fl s s2 L L2 B) (hf:ZaA (Zbl o) fl=false→Kg o.k=false) (hal:∀ t,ZaP o t→Zl L2 t=Zl L t):Qf o ρ L2 s2 (WP fl B):=by
 cases hfl:ZaA (Zbl o) fl
 ·have hr:=Zpa (ρ:=ρ) (hf hfl)
  exact ((h.state (s':=s2) (fun b hb=>by rw [hr] at hb; simp at hb)).more (fun b hb=>by rw [hr] at hb; simp at hb)).mono (fun _ _=>rfl) (fun _ _=>rfl) (fun x hx=>by rw [hr] at hx; simp at hx) hal
 ·have hm:=Zgo (show QR s s2 L L2 (WP fl B) from hk)
  have hin:∀ b,(Zbl o,b)∈B→(Zbl o,b)∈WP fl B:=fun b hb=>QS.2 ⟨hfl,hb⟩
  rcases h with ⟨hq,hg,hr,h'⟩ | ⟨hq,hg,h'⟩ | h'
  ·exact ((Qf.state (s':=s2) (.inl ⟨hq,hg,hr,h'⟩) (fun b hb=>hm.1 _ b (hin _ (hr _ hb)))).more (B':=WP fl B) (fun b _ hb=>hin b hb)).mono (fun _ _=>rfl) (fun _ _=>rfl) (fun x hx=>hm.2 _ x (hin _ (hr _ hx))) hal
  ·exact .inr (.inl ⟨hq,hg,h'⟩)
  ·exact (Qf.more (B':=WP fl B) (s:=s2) (.inr (.inr h'):Qf o ρ L s2 B) (fun b _ hb=>hin b hb)).mono (fun _ _=>rfl) (fun _ _=>rfl) (fun x hx=>by
    obtain ⟨t,z,rfl,_⟩:=h'
    simp [KE] at hx) hal
theorem Zu4 {L:Loc} {s:St} {q:Q} {es:List E} {r:Prop × E} (hq:qv L s q es=some r) {e:E} {es':List E} (he:es=e :: es') (hr:Kg (.q q [])=true) {x:Nat} (hx:.loc x∈QT e):∃ cs,Zl L x=some cs:=by
 subst he
 cases e with
 | d v=>cases v <;> simp [QT] at hx
 | when c e=>simp [QT] at hx
 | loc l o =>
  simp only [QT,List.mem_singleton,Rd.loc.injEq] at hx
  subst hx
  by_cases hl:Zcq (.q q [])=true
  ·exact Zuj hq hl (x:=x) (o:=o) (by simp)
  ·cases q
   case conv c =>
    cases c <;> simp [Kg] at hr
    cases es' <;> simp [qv] at hq
   all_goals simp [Kg,Zcq] at hr hl
   ·cases es' with
    | nil=>simp [qv] at hq
    | cons e2 r2=>cases r2 <;> simp [qv] at hq
   ·cases es' <;> simp [qv] at hq
theorem Qf.loc {o:DOp} {ρ:Env} {L:Loc} {s:St} {B:List (Nat × Rd)} (h:Qf o ρ L s B) {x:Nat} (hx:.loc x∈KE o ρ):∃ cs,Zl L x=some cs:=by
 rcases h with ⟨hk,hgt,hr,side,e,hs,hst,he⟩ | ⟨hk,hgf,_⟩ | ⟨t,z,rfl,_⟩
 rotate_left
 ·rw [Zpb hgf] at hx; simp at hx
 rotate_left
 ·obtain ⟨dst,gd,k⟩:=o
  cases k with
  | q q xs =>
   simp only [KE] at hx
   split at hx <;> (try (simp at hx; done))
   rename_i hrd
   unfold ZU at hst
   have hg:Zu ρ gd=some true:=hgt
   ·simp only [hg] at hx hst
    cases ha:Wc ρ true xs with
    | none=>simp [ha] at hx
    | some pe =>
     obtain ⟨p,es⟩:=pe
     simp only [ha] at hx hst
     cases es with
     | nil=>simp at hx
     | cons e1 es' =>
      simp only at hx
      split at hst <;> (try (simp at hst; done))
      rename_i sd e2 hq
      exact Zu4 hq rfl (by
       cases q
       case conv c=>cases c <;> simp_all [Kg]
       all_goals simp_all [Kg]) hx
  | _=>simp [KE] at hx
 ·simp [KE] at hx
theorem Zas {F:Fr P} {kp:Option (List Nat)} {dk:List Zp} {o:DOp} {f:List Nat} {os:List (DOp × List Nat)} {ρ:Env} {L:Loc} {s:St} {B:List (Nat × Rd)} (R:E→St→Prop) (hk:WB o.k=false)
  (h1:∀ ρ' L' os',ZR ρ ρ' (ZN o)→(∀ e s2,R e s2→DO F kp dk os' (ZQ ρ' o.dst e) L' s2)→DO F kp dk (o :: os') ρ' L' s)
  (h2:∀ e s2,R e s2→Kl f s s2 L L B∧DOA F kp dk os (ZQ ρ o.dst e) L s2 (WP f B)) :
  DOA F kp dk ((o,f) :: os) ρ L s B:=by
 intro T ms fl fk A rest is l ρ' L' hm hc hdis hos inv sch
 cases rest with
 | nil=>simp at hos
 | cons i rest =>
  simp only [List.map_cons,List.cons.injEq,ZvL] at hos
  obtain ⟨⟨ho,rfl⟩,rfl⟩:=hos
  obtain ⟨hfk,rfl⟩:=Ziw ho.symm (fun k h=>by rw [h] at hk; simp [WB] at hk)
  obtain ⟨hi,hdeps,hir,hnm,hcs⟩:=Zf7 hfk hc
  rcases hcs with ⟨hp,_⟩ | ⟨hb,hc',_⟩
  ·have:=(Zd9 hp).1; rw [hk] at this; simp at this
  ·obtain ⟨hbk,hready,hfree⟩:=Zc0 hb
   refine ZqQ hm hi hdis hready (fun l ρ' L' is inv hd sch=>?_) sch inv
   have hforced:=hm l inv.closed i hi hd
   have hag:ZR ρ ρ' (ZN (T.op i)):=by
    intro t ht
    rcases inv.env t with h | ⟨a,ha,hla,hda⟩
    ·exact h
    ·exfalso
     rcases hnm a ha with hb | hb
     ·rw [hforced a hb] at hla; simp at hla
     ·exact ZfJ hb hda ht
   refine h1 ρ' L' _ hag fun e s2 hR=>?_
   obtain ⟨hkB,h2'⟩:=h2 e s2 hR
   refine h2' T ms fl fk _ rest is _ _ _ hm hc' (fun p hp hpr=>hdis p (List.mem_filter.1 hp).1 (by simp [hpr])) rfl (inv.bar hm hdis hi hir hd (fun a ha=>⟨(hfree a ha).1,(hfree a ha).2.1⟩) e (fun _ h=>h) (fun _ _ _ _ h=>h) fun a ha hla hpe=>?_) sch
   refine (hpe.keep hkB (hfree a ha).2.2 (fun _ _=>rfl)).mono (QA (hfree a ha).1) (fun t ht=>?_) (fun _ _=>rfl) (fun _ _=>rfl)
   rw [Km]
   have:=ZaY (ZaZ (hfree a ha).2.1) ht
   simp [this]
theorem ZnJ {T:Tab} {fl:List Nat} {free:List Nat} {i:Nat} (h:ZfA T fl free i=true) :
  Zlm (T.op i).k=true∧WB (T.op i).k=false∧(∀ a∈free,nd (T.op a).dst (ZN (T.op i))=true) ∧
  ∀ a∈free,nd (T.op i).dst (ZN (T.op a))=true∧ndd (T.op i).dst (T.op a).dst=true∧(ZaA (Zbl (T.op a)) fl=false→Kg (T.op a).k=false):=by
 simp only [ZfA,ZvN,List.all_eq_true,Bool.not_eq_true',ZvW] at h
 obtain ⟨⟨⟨h1,h2⟩,h3⟩,h4⟩:=h
 refine ⟨h1,h2,h3,fun a ha=>?_⟩
 obtain ⟨⟨h4,h5⟩,h6⟩:=h4 a ha
 refine ⟨h4,h5,fun hs=>?_⟩
 rw [hs] at h6; simpa using h6
theorem Zu9 {F:Fr P} {kp:Option (List Nat)} {dk:List Zp} {T:Tab} {ms:List Nat} {A rest:List Nat} {ρ:Env} {L:Loc} {s:St} {B:List (Nat × Rd)} {i j:Nat}
  (hm:Zd0 T ms) (hi:i < T.length) (hdis:∀ p∈A,p ∉ i :: j :: rest) (hready:∀ r∈rest,∃ d∈T.deps r,d∈i :: j :: rest)
  (cb:∀ k,k=i∨k=j→∀ l ρ' L' is,Inv T ms A (i :: j :: rest) ρ L s B l ρ' L'→(∀ d∈T.deps k,l d=true)→Sch T (fun q=>q == k || l q) is→DO F kp dk (T.op k :: is.map T.op) ρ' L' s)
  {l:Nat→Bool} {is:List Nat} (sch:Sch T l is):∀ {ρ':Env} {L':Loc},Inv T ms A (i :: j :: rest) ρ L s B l ρ' L'→DO F kp dk (is.map T.op) ρ' L' s:=by
 induction sch with
 | nil h=>intro ρ' L' inv; have:=inv.restN i (by simp); rw [h i hi] at this; simp at this
 | @cons l p is hp hlp hd t ih =>
  intro ρ' L' inv
  by_cases hpi:p=i
  ·exact cb p (.inl hpi) l ρ' L' is inv hd t
  ·by_cases hpj:p=j
   ·exact cb p (.inr hpj) l ρ' L' is inv hd t
   ·by_cases hpr:p∈rest
    ·obtain ⟨d,hd1,hd2⟩:=hready p hpr
     have:=inv.restN d hd2
     rw [hd d hd1] at this; simp at this
    ·by_cases hpA:p∈A
     ·exact Zhk hm inv hpA (hdis p hpA) hlp hd fun ρ2 L2 inv2=>ih inv2
     ·have:=inv.doneN p hp (by simp [hpi,hpj,hpr]) hpA
      rw [hlp] at this; simp at this
theorem Inv.swap {T:Tab} {ms A rest:List Nat} {ρ:Env} {L:Loc} {s:St} {B:List (Nat × Rd)} {l:Nat→Bool} {ρ':Env} {L':Loc} {i j:Nat} (h:Inv T ms A (i :: j :: rest) ρ L s B l ρ' L'):Inv T ms A (j :: i :: rest) ρ L s B l ρ' L' :=
 { h with
  restN:=fun r hr=>h.restN r (by simp at hr ⊢; rcases hr with h | h | h <;> simp [h])
  doneN:=fun k hk h1 h2=>h.doneN k hk (by simp at h1 ⊢; exact ⟨h1.2.1,h1.1,h1.2.2⟩) h2 }
theorem Zoa {F:Fr P} {kp:Option (List Nat)} {dk:List Zp} {T:Tab} {ms:List Nat} {fl:Nat→List Nat} {A rest:List Nat} {ρ:Env} {L:Loc} {s:St} {B:List (Nat × Rd)} {i j:Nat} (hm:Zd0 T ms) (hi:i < T.length) (hdis:∀ p∈A,p ∉ i :: j :: rest) (hij:i≠j) (hir:i ∉ rest)
  (hb:ZfA T (fl i) (A.filter fun a=>!(ms.getD i 0).testBit a) i=true) (hc':chk T ms fl (A.filter fun a=>!(ms.getD i 0).testBit a) (j :: rest)=true) (R:E→St→Prop)
  (h1:∀ ρ' L' os',ZR ρ ρ' (ZN (T.op i))→(∀ e s2,R e s2→DO F kp dk os' (ZQ ρ' (T.op i).dst e) L' s2)→DO F kp dk (T.op i :: os') ρ' L' s)
  (h2:∀ e s2,R e s2→Kl (fl i) s s2 L L B∧DOA F kp dk ((j :: rest).map fun i=>(T.op i,fl i)) (ZQ ρ (T.op i).dst e) L s2 (WP (fl i) B))
  {l:Nat→Bool} {ρ':Env} {L':Loc} {is:List Nat} (inv:Inv T ms A (i :: j :: rest) ρ L s B l ρ' L') (hd:∀ d∈T.deps i,l d=true) (sch:Sch T (fun q=>q == i || l q) is):DO F kp dk (T.op i :: is.map T.op) ρ' L' s:=by
 obtain ⟨hbk,hpk,hnm,hfree⟩:=ZnJ hb
 have hforced:=hm l inv.closed i hi hd
 have hag:ZR ρ ρ' (ZN (T.op i)):=by
  intro t ht
  rcases inv.env t with h | ⟨a,ha,hla,hda⟩
  ·exact h
  ·exfalso
   cases hb:(ms.getD i 0).testBit a
   ·exact ZfJ (hnm a (List.mem_filter.2 ⟨ha,by simp only [hb]; rfl⟩)) hda ht
   ·rw [hforced a hb] at hla; simp at hla
 refine h1 ρ' L' _ hag fun e s2 hR=>?_
 obtain ⟨hkB,h2'⟩:=h2 e s2 hR
 refine h2' T ms fl none _ (j :: rest) is _ _ _ hm (by rw [ZiZ]; exact hc') (fun p hp hpr=>hdis p (List.mem_filter.1 hp).1 (List.mem_cons_of_mem _ hpr)) rfl
  (inv.bar hm hdis hi (by simp [hij,hir]) hd (fun a ha=>⟨(hfree a ha).1,(hfree a ha).2.1⟩) e (fun _ h=>h) (fun _ _ _ _ h=>h) fun a ha hla hpe=>?_) sch
 refine (hpe.keep hkB (hfree a ha).2.2 (fun _ _=>rfl)).mono (QA (hfree a ha).1) (fun t ht=>?_) (fun _ _=>rfl) (fun _ _=>rfl)
 rw [Km]
 have:=ZaY (ZaZ (hfree a ha).2.1) ht
 simp [this]
theorem Znf {F:Fr P} {kp:Option (List Nat)} {dk:List Zp} {o1 o2:DOp} {f1 f2:List Nat} {os:List (DOp × List Nat)} {ρ:Env} {L:Loc} {s:St} {B:List (Nat × Rd)} (R1 R2:E→St→Prop) (hk2:WB o2.k=false)
  (h1:∀ ρ' L' os',ZR ρ ρ' (ZN o1)→(∀ e s2,R1 e s2→DO F kp dk os' (ZQ ρ' o1.dst e) L' s2)→DO F kp dk (o1 :: os') ρ' L' s)
  (h1':∀ e s2,R1 e s2→Kl f1 s s2 L L B∧DOA F kp dk ((o2,f2) :: os) (ZQ ρ o1.dst e) L s2 (WP f1 B))
  (h2:∀ ρ' L' os',ZR ρ ρ' (ZN o2)→(∀ e s2,R2 e s2→DO F kp dk os' (ZQ ρ' o2.dst e) L' s2)→DO F kp dk (o2 :: os') ρ' L' s)
  (h2':∀ e s2,R2 e s2→Kl f2 s s2 L L B∧DOA F kp dk ((o1,f1) :: os) (ZQ ρ o2.dst e) L s2 (WP f2 B)) :
  DOA F kp dk ((Zis o1,f1) :: (o2,f2) :: os) ρ L s B:=by
 intro T ms fl fk A rest is l ρ' L' hm hc hdis hos inv sch
 match rest,hos,hc,hdis,inv with
 | [],hos,_,_,_=>simp at hos
 | [_],hos,_,_,_=>simp at hos
 | i :: j :: rest,hos,hc,hdis,inv =>
  simp only [List.map_cons,List.cons.injEq,ZvL] at hos
  obtain ⟨⟨ho1,rfl⟩,⟨ho2,rfl⟩,rfl⟩:=hos
  obtain ⟨hfj,rfl⟩:=Ziw ho2.symm (fun k h=>by rw [h] at hk2; simp [WB] at hk2)
  by_cases hfi:fk=some i
  ·have hoi:T.op i=o1:=by
    simp only [Tab.mk,hfi,if_true,Zis] at ho1
    obtain ⟨d1,g1,k1⟩:=o1
    cases hti:T.op i
    rw [hti] at ho1
    simp only [DOp.mk.injEq,K.fork.injEq] at ho1
    obtain ⟨rfl,rfl,rfl⟩:=ho1
    rfl
   subst hoi
   simp only [ZaS,hfi,if_true,Zpy,ZvN,decide_eq_true_eq,List.all_eq_true,Bool.not_eq_true',List.contains_eq_mem,decide_eq_false_iff_not,bne_iff_ne,ne_eq,List.any_eq_true] at hc
   obtain ⟨⟨⟨⟨⟨⟨⟨⟨⟨⟨⟨c1,c2⟩,c3⟩,c4⟩,c5⟩,c6⟩,c7⟩,c8⟩,c9⟩,c10⟩,c11⟩,c12⟩:=hc
   have hmk:∀ r∈rest,T.mk fk r=T.op r:=fun r hr=>by
    unfold Tab.mk
    rw [if_neg]
    rw [hfi]; intro h; simp only [ZvD] at h; exact c6 (h ▸ hr)
   have hmap:(rest.map fun r=>(T.mk fk r,fl r))=rest.map fun r=>(T.op r,fl r):=List.map_congr_left fun r hr=>by rw [hmk r hr]
   rw [hmap] at h1' h2'
   refine Zu9 hm c1 hdis c8 (fun k hk l ρ' L' is inv hd sch=>?_) sch inv
   rcases hk with rfl | rfl
   ·exact Zoa (fl:=fl) (R:=R1) hm c1 hdis (by simpa using c5) c6 c9 c11 h1 (fun e s2 hR=>by
     have:=h1' e s2 hR
     simpa only [List.map_cons] using this) inv hd sch
   ·exact Zoa (fl:=fl) (R:=R2) (j:=i) hm c2 (fun p hp hpr=>hdis p hp (by simp at hpr ⊢; rcases hpr with h | h | h <;> simp [h])) (fun h=>c5 (by simpa using h.symm)) c7 c10 c12 h2 (fun e s2 hR=>by
     have:=h2' e s2 hR
     simpa only [List.map_cons] using this) inv.swap hd sch
  ·exfalso
   have hti:T.op i=Zis o1:=by simpa only [Tab.mk,hfi,if_false] using ho1.symm
   obtain ⟨_,_,_,_,hcs⟩:=Zf7 hfi hc
   rcases hcs with ⟨hp,_⟩ | ⟨hb,_⟩
   ·simp only [ZbX,hti,Zis,pqK,Bool.false_and,Bool.false_eq_true] at hp
   ·have:=(Zc0 hb).1
    rw [hti] at this
    simp [Zis,Zlm] at this
end
end Go.DL
namespace Go.DL
open Go
variable [Znt]
theorem Zh7 {ρ:Env} {L:Loc} {s s1:St} {p q ok side:Prop} {a:E} {n:Nat} {xs:List D} {ρ1:Env} {L1:Loc} (h:QV ρ L s p q ok a n xs = .ok side ρ1 L1 s1) :
  ρ1=ρ∧((∃ l off cs,a = .loc l off∧L1=(l,ZC cs off xs) :: L∧s1=s∧Zl L l=some cs∧∀ ρ' L',Zl L' l=Zl L l→QV ρ' L' s p q ok a n xs = .ok side ρ' ((l,ZC cs off xs) :: L') s) ∨
   (L1=L∧∀ ρ' L',QV ρ' L' s p q ok a n xs = .ok side ρ' L' s1)):=by
 obtain ⟨rfl,⟨l,off,cs,rfl,hL,rfl,rfl,rfl⟩ | ⟨b,off,cs,rfl,hL,rfl,rfl,rfl⟩⟩:=Ze6 h
 ·exact ⟨rfl,.inl ⟨l,off,cs,rfl,rfl,rfl,hL,fun ρ' L' hl=>by simp only [QV,hl,hL]⟩⟩
 ·exact ⟨rfl,.inr ⟨rfl,fun ρ' L'=>by simp only [QV,hL]⟩⟩
theorem Zpo {o:DOp} {ρ:Env} {L:Loc} {s s1:St} {side:Prop} {ρ1:Env} {L1:Loc} (hst:ZU o ρ L s = .ok side ρ1 L1 s1) (hk:Zdq o.k=true) :
  ρ1=ρ∧o.dst=none∧((∃ lx cs new,L1=(lx,new) :: L∧s1=s∧Zl L lx=some cs ∧
   ∀ ρ' L',ZR ρ ρ' (ZN o)→Zl L' lx=Zl L lx→ZU o ρ' L' s = .ok side ρ' ((lx,new) :: L') s) ∨
   (L1=L∧∀ ρ' L',ZR ρ ρ' (ZN o)→ZU o ρ' L' s = .ok side ρ' L' s1)):=by
 obtain ⟨dst,gd,k⟩:=o
 cases hg:Zu ρ gd with
 | none=>unfold ZU at hst; simp [hg] at hst
 | some c =>
 cases k with
 | store1 a v =>
  unfold ZU at hst
  simp only [hg] at hst
  split at hst <;> (try (simp at hst; done))
  rename_i p ea q x ha hv
  obtain ⟨rfl,⟨l,off,cs,rfl,rfl,rfl,hL,hcong⟩ | ⟨rfl,hcong⟩⟩:=Zh7 hst
  ·refine ⟨rfl,rfl,.inl ⟨l,cs,_,rfl,rfl,hL,fun ρ' L' hag hl=>?_⟩⟩
   have h1:ZR ρ1 ρ' (Yw a):=fun t ht=>hag t (by simp [ZN,Wn,ht])
   have h2:ZR ρ1 ρ' (Yw v):=fun t ht=>hag t (by simp [ZN,Wn,ht])
   unfold ZU
   simp only [Zu,Yi h1,Yi h2,ha,hv]
   exact hcong ρ' L' hl
  ·refine ⟨rfl,rfl,.inr ⟨rfl,fun ρ' L' hag=>?_⟩⟩
   have h1:ZR ρ1 ρ' (Yw a):=fun t ht=>hag t (by simp [ZN,Wn,ht])
   have h2:ZR ρ1 ρ' (Yw v):=fun t ht=>hag t (by simp [ZN,Wn,ht])
   unfold ZU
   simp only [Zu,Yi h1,Yi h2,ha,hv]
   exact hcong ρ' L'
 | storeN n a v =>
  unfold ZU at hst
  simp only [hg] at hst
  split at hst <;> (try (simp at hst; done))
  rename_i p ea q xs ha hv
  obtain ⟨rfl,⟨l,off,cs,rfl,rfl,rfl,hL,hcong⟩ | ⟨rfl,hcong⟩⟩:=Zh7 hst
  ·refine ⟨rfl,rfl,.inl ⟨l,cs,_,rfl,rfl,hL,fun ρ' L' hag hl=>?_⟩⟩
   have h1:ZR ρ1 ρ' (Yw a):=fun t ht=>hag t (by simp [ZN,Wn,ht])
   have h2:ZR ρ1 ρ' (Yw v):=fun t ht=>hag t (by simp [ZN,Wn,ht])
   unfold ZU
   simp only [Zu,Yi h1,Yi h2,ha,hv]
   exact hcong ρ' L' hl
  ·refine ⟨rfl,rfl,.inr ⟨rfl,fun ρ' L' hag=>?_⟩⟩
   have h1:ZR ρ1 ρ' (Yw a):=fun t ht=>hag t (by simp [ZN,Wn,ht])
   have h2:ZR ρ1 ρ' (Yw v):=fun t ht=>hag t (by simp [ZN,Wn,ht])
   unfold ZU
   simp only [Zu,Yi h1,Yi h2,ha,hv]
   exact hcong ρ' L'
 | _=>simp [Zdq] at hk
def Zop:K→Bool
 | .mapupd _ _ _ _ | .delete _ _ _ | .entst _ _ _=>true
 | _=>false
theorem Zss {o:DOp} {ρ:Env} {L:Loc} {s s1:St} {side:Prop} {ρ1:Env} {L1:Loc} (hst:ZU o ρ L s = .ok side ρ1 L1 s1) (hk:Zop o.k=true) :
  ρ1=ρ∧o.dst=none∧L1=L∧∀ ρ' L',ZR ρ ρ' (ZN o)→ZU o ρ' L' s = .ok side ρ' L' s1:=by
 obtain ⟨dst,gd,k⟩:=o
 cases hg:Zu ρ gd with
 | none=>unfold ZU at hst; simp [hg] at hst
 | some c =>
 cases k with
 | mapupd kp m k v =>
  unfold ZU at hst
  simp only [hg] at hst
  split at hst <;> (try (simp at hst; done))
  rename_i p b q dk r dv hm hkk hv
  split at hst <;> (try (simp at hst; done))
  rename_i es hes
  split at hst <;> simp only [SR.ok.injEq,reduceCtorEq] at hst
  rename_i es' hes'
  obtain ⟨rfl,rfl,rfl,rfl⟩:=hst
  refine ⟨rfl,rfl,rfl,fun ρ' L' hag=>?_⟩
  have h1:ZR ρ ρ' (Yw m):=fun t ht=>hag t (by simp [ZN,Wn,ht])
  have h2:ZR ρ ρ' (Yw k):=fun t ht=>hag t (by simp [ZN,Wn,ht])
  have h3:ZR ρ ρ' (Yw v):=fun t ht=>hag t (by simp [ZN,Wn,ht])
  unfold ZU
  simp only [Zu,Yi h1,Yi h2,Yi h3,hm,hkk,hv,hes,hes']
 | delete kp m k =>
  unfold ZU at hst
  simp only [hg] at hst
  split at hst <;> (try (simp at hst; done))
  rename_i p b q dk hm hkk
  split at hst <;> (try (simp at hst; done))
  rename_i es hes
  split at hst <;> simp only [SR.ok.injEq,reduceCtorEq] at hst
  rename_i es' hes'
  obtain ⟨rfl,rfl,rfl,rfl⟩:=hst
  refine ⟨rfl,rfl,rfl,fun ρ' L' hag=>?_⟩
  have h1:ZR ρ ρ' (Yw m):=fun t ht=>hag t (by simp [ZN,Wn,ht])
  have h2:ZR ρ ρ' (Yw k):=fun t ht=>hag t (by simp [ZN,Wn,ht])
  unfold ZU
  simp only [Zu,Yi h1,Yi h2,hm,hkk,hes,hes']
 | entst m k v =>
  unfold ZU at hst
  simp only [hg] at hst
  split at hst <;> (try (simp at hst; done))
  rename_i p b q n r dv hm hkk hv
  split at hst <;> (try (simp at hst; done))
  rename_i kp es dk n' hes
  split at hst <;> simp only [SR.ok.injEq,reduceCtorEq] at hst
  rename_i es' hes'
  obtain ⟨rfl,rfl,rfl,rfl⟩:=hst
  refine ⟨rfl,rfl,rfl,fun ρ' L' hag=>?_⟩
  have h1:ZR ρ ρ' (Yw m):=fun t ht=>hag t (by simp [ZN,Wn,ht])
  have h2:ZR ρ ρ' (Yw k):=fun t ht=>hag t (by simp [ZN,Wn,ht])
  have h3:ZR ρ ρ' (Yw v):=fun t ht=>hag t (by simp [ZN,Wn,ht])
  unfold ZU
  simp only [Zu,Yi h1,Yi h2,Yi h3,hm,hkk,hv,hes,hes']
 | _=>simp [Zop] at hk
theorem Zsq {o:DOp} {ρ:Env} {L:Loc} {s:St} {side:Prop} {pre:Nat→Prop} {ρf:Nat→Env} {sf:Nat→St} (hst:ZU o ρ L s = .all side pre ρf sf) :
  WB o.k=false∧∃ (t:Nat) (ef:Nat→E),o.dst=some t∧(ρf=fun b=>(t,ef b) :: ρ)∧∀ ρ' L',ZR ρ ρ' (ZN o)→ZU o ρ' L' s = .all side pre (fun b=>(t,ef b) :: ρ') sf:=by
 obtain ⟨dst,gd,k⟩:=o
 cases hg:Zu ρ gd with
 | none=>unfold ZU at hst; simp [hg] at hst
 | some c =>
 cases k with
 | mkmap =>
  unfold ZU at hst
  simp only [hg] at hst
  split at hst <;> simp only [SR.all.injEq,reduceCtorEq] at hst
  obtain ⟨rfl,rfl,rfl,rfl⟩:=hst
  refine ⟨rfl,_,fun b=>.d (.map b),rfl,rfl,fun ρ' L' hag=>?_⟩
  unfold ZU
  simp only [Zu]
 | mkslice e n by_ z l c =>
  unfold ZU at hst
  simp only [hg] at hst
  split at hst <;> simp only [SR.all.injEq,reduceCtorEq] at hst
  rename_i t p k1 lv q k2 hv hl hc
  obtain ⟨rfl,rfl,rfl,rfl⟩:=hst
  refine ⟨rfl,t,fun b=>.d (.msl b 0 lv.toNat hv.toNat n),rfl,rfl,fun ρ' L' hag=>?_⟩
  have h1:ZR ρ ρ' (Yw l):=fun t ht=>hag t (by simp [ZN,Wn,ht])
  have h2:ZR ρ ρ' (Yw c):=fun t ht=>hag t (by simp [ZN,Wn,ht])
  unfold ZU
  simp only [Zu,Yi h1,Yi h2,hl,hc]
 | mapent kp z m k =>
  unfold ZU at hst
  simp only [hg] at hst
  split at hst <;> (try (simp at hst; done))
  rename_i t p b q dk hm hkk
  split at hst <;> (try (simp at hst; done))
  rename_i es hes
  split at hst <;> simp only [SR.all.injEq,reduceCtorEq] at hst
  rename_i v hv
  obtain ⟨rfl,rfl,rfl,rfl⟩:=hst
  refine ⟨rfl,t,fun n=>.d (.tup [v,.stamp n]),rfl,rfl,fun ρ' L' hag=>?_⟩
  have h1:ZR ρ ρ' (Yw m):=fun t ht=>hag t (by simp [ZN,Wn,ht])
  have h2:ZR ρ ρ' (Yw k):=fun t ht=>hag t (by simp [ZN,Wn,ht])
  unfold ZU
  simp only [Zu,Yi h1,Yi h2,hm,hkk,hes,hv]
 | store1 a v =>
  unfold ZU at hst
  simp only [hg] at hst
  split at hst <;> (try (simp at hst; done))
  exact absurd hst ZdQ
 | storeN n a v =>
  unfold ZU at hst
  simp only [hg] at hst
  split at hst <;> (try (simp at hst; done))
  exact absurd hst ZdQ
 | _ =>
  unfold ZU at hst
  simp only [hg] at hst
  first
   | (simp at hst; done)
   | repeat' (split at hst <;> (try (simp at hst; done)))
theorem Zq9 {o:DOp} {ρ:Env} {L:Loc} {s s1:St} {side:Prop} {ρ1:Env} {L1:Loc} (hst:ZU o ρ L s = .ok side ρ1 L1 s1):WW o.k=true∨(∃ z,o.k = .alloc z)∨Zdq o.k=true∨(∃ x,o.k = .box x)∨Zop o.k=true:=by
 obtain ⟨dst,gd,k⟩:=o
 unfold ZU at hst
 cases hg:Zu ρ gd with
 | none=>simp [hg] at hst
 | some c =>
  simp only [hg] at hst
  cases k with
  | q q xs=>exact .inl rfl
  | pick x a b=>exact .inl rfl
  | bsl len n z is xs=>exact .inl rfl
  | s2b x=>exact .inl rfl
  | alloc z=>exact .inr (.inl ⟨z,rfl⟩)
  | store1 a v=>exact .inr (.inr (.inl rfl))
  | storeN n a v=>exact .inr (.inr (.inl rfl))
  | box x=>exact .inr (.inr (.inr (.inl ⟨x,rfl⟩)))
  | mapupd kp m k v=>exact .inr (.inr (.inr (.inr rfl)))
  | delete kp m k=>exact .inr (.inr (.inr (.inr rfl)))
  | entst m k v=>exact .inr (.inr (.inr (.inr rfl)))
  | mkmap=>simp only at hst; split at hst <;> simp at hst
  | mkslice e n by_ z l c=>simp only at hst; split at hst <;> simp at hst
  | mapent kp z m k =>
   simp only at hst
   split at hst <;> (try (simp at hst; done))
   split at hst <;> (try (simp at hst; done))
   split at hst <;> simp at hst
  | call f xs=>simp at hst
  | append e n by_ z x y=>simp at hst
  | panic x=>simp at hst
  | defer f xs=>simp at hst
  | recover=>simp at hst
  | clear n z x=>simp at hst
  | copy n x y=>simp at hst
  | fork k=>simp at hst
section
variable {P:Program}
theorem Zsv {o:DOp} {ρ:Env} {L L':Loc} {side:Prop} {ρ1:Env} {lx:Nat} {new:List D} {g:G} {ν:Nat→Nat} {w:World} {tmps:Array Value} {s:St} (hst:ZU o ρ L s = .ok side ρ1 ((lx,new) :: L) s) (hk:Zdq o.k=true) (hs:side)
  (m:ZI g ν w tmps ρ L' s):∃ cs,Zl L' lx=some cs:=by
 have key:∀ {p q ok:Prop} {a:Opd} {ea:E} {n:Nat} {xs:List D},ZV ρ true a=some (p,ea)→QV ρ L s p q ok ea n xs = .ok side ρ1 ((lx,new) :: L) s→∃ cs,Zl L' lx=some cs:=by
  intro p q ok a ea n xs ha h
  obtain ⟨rfl,⟨l,off,cs,rfl,hL,rfl,h1,h2⟩ | ⟨b,off,cs,rfl,hL,rfl,h1,h2⟩⟩:=Ze6 h
  ·simp only [List.cons.injEq,ZvL,and_true] at h1
   obtain ⟨rfl,rfl⟩:=h1
   exact Zjq m (xs:=[a]) (p:=p∧True) (es:=[.loc lx off]) (by simp [Wc,ha]) ⟨hs.1,trivial⟩ lx off (by simp)
  ·exact absurd (congrArg List.length h1) (by simp)
 obtain ⟨dst,gd,k⟩:=o
 cases hg:Zu ρ gd with
 | none=>unfold ZU at hst; simp [hg] at hst
 | some c =>
 cases k with
 | store1 a v =>
  unfold ZU at hst
  simp only [hg] at hst
  split at hst <;> (try (simp at hst; done))
  rename_i p ea q x ha hv
  exact key ha hst
 | storeN n a v =>
  unfold ZU at hst
  simp only [hg] at hst
  split at hst <;> (try (simp at hst; done))
  rename_i p ea q xs ha hv
  exact key ha hst
 | _=>simp [Zdq] at hk
theorem Zsr {o:DOp} {ρ ρ1:Env} {L L1:Loc} {s s1:St} {side:Prop} {x:Opd} (hst:ZU o ρ L s = .ok side ρ1 L1 s1) (hk:o.k = .box x) :
  ∃ t p v,o.dst=some t∧o.guard=none∧side=(p∧Zay L t=false∧Qi v=true)∧ρ1=(t,.loc t 0) :: ρ∧L1=(t,cellsOf v) :: L∧s1=s ∧
   ∀ ρ' L',ZR ρ ρ' (ZN o)→ZU o ρ' L' s = .ok (p∧Zay L' t=false∧Qi v=true) ((t,.loc t 0) :: ρ') ((t,cellsOf v) :: L') s:=by
 obtain ⟨dst,gd,k⟩:=o
 simp only at hk
 subst hk
 unfold ZU at hst
 cases hg:Zu ρ gd with
 | none=>simp [hg] at hst
 | some c =>
  simp only [hg] at hst
  split at hst <;> simp only [SR.ok.injEq,reduceCtorEq] at hst
  rename_i t p v hx
  obtain ⟨rfl,rfl,rfl,rfl⟩:=hst
  refine ⟨t,p,v,rfl,rfl,rfl,rfl,rfl,rfl,fun ρ' L' hag=>?_⟩
  have h1:ZR ρ ρ' (Yw x):=fun u hu=>hag u (by simp [ZN,Wn,hu])
  unfold ZU
  simp only [Zu,Yi h1,hx]
theorem Zh6 {o:DOp} {ρ ρ1:Env} {L L1:Loc} {s s1:St} {side:Prop} (hst:ZU o ρ L s = .ok side ρ1 L1 s1):∀ k,o.k≠.fork k:=fun k hk=>by
 obtain ⟨dst,gd,k'⟩:=o
 simp only at hk
 subst hk
 unfold ZU at hst
 cases hg:Zu ρ gd <;> simp [hg] at hst
theorem Zad {F:Fr P} {kp:Option (List Nat)} {dk:List Zp} {o:DOp} {f:List Nat} {os:List (DOp × List Nat)} {ρ ρ1:Env} {L L1:Loc} {s s1:St} {B:List (Nat × Rd)} {side:Prop} (hst:ZU o ρ L s = .ok side ρ1 L1 s1) (hs:side)
  (h:if WB o.k then DOA F kp dk os ρ1 L1 s1 (Qq o ρ++B) else Kl f s s1 L L1 B∧DOA F kp dk os ρ1 L1 s1 (Qq o ρ++WP f B)):DOA F kp dk ((o,f) :: os) ρ L s B:=by
 intro T ms fl fk A rest is l ρ' L' hm hc hdis hos inv sch
 cases rest with
 | nil=>simp at hos
 | cons i rest =>
  simp only [List.map_cons,List.cons.injEq,ZvL] at hos
  obtain ⟨⟨ho,rfl⟩,rfl⟩:=hos
  obtain ⟨hfk,rfl⟩:=Ziw ho.symm (Zh6 hst)
  obtain ⟨hi,hdeps,hir,hnm,hcs⟩:=Zf7 hfk hc
  have hli:=inv.restN i (by simp)
  rcases hcs with ⟨hp,hc'⟩ | ⟨hb,hc',hnp⟩
  ·obtain ⟨hp1,hp2,hp3⟩:=Zd9 hp
   rw [hp1] at h
   simp only [if_true] at h
   have hiA:i ∉ A:=fun hA=>hdis i hA (by simp)
   have key:∀ (hget:∀ t,(T.op i).dst=some t∨Ye ρ1 t=Ye ρ t) (hagr:∀ a∈A,ZR ρ ρ1 (ZN (T.op a))) (hL:∀ x,Zl L1 x=Zl L x∨(ZaP (T.op i) x∧Zl L x=none)) (hL0:∀ x,ZaP (T.op i) x→Zl L x=none)
     (hpend:Qf (T.op i) ρ1 L1 s (Qq (T.op i) ρ++B)) (hs1:s1=s),DO F kp dk (is.map T.op) ρ' L' s:=by
    intro hget hagr hL hL0 hpend hs1
    subst hs1
    refine h T ms fl fk (i :: A) rest is l ρ' L' hm hc' (fun p hp hpr=>?_) rfl ⟨inv.closed,fun r hr=>inv.restN r (by simp [hr]),fun j hj h1 h2=>?_,fun a ha=>?_,fun p hp a ha=>?_,fun p hp a ha hpa=>?_,fun t=>?_,fun a ha hla x hx=>?_,fun x=>?_,fun a ha hla=>?_⟩ sch
    ·rcases List.mem_cons.1 hp with rfl | hp
     ·exact hir hpr
     ·exact hdis p hp (by simp [hpr])
    ·simp only [List.mem_cons,not_or] at h2
     exact inv.doneN j hj (by simp [h2.1,h1]) h2.2
    ·rcases List.mem_cons.1 ha with rfl | ha
     ·exact hi
     ·exact inv.alt a ha
    ·rcases List.mem_cons.1 hp with rfl | hpA <;> rcases List.mem_cons.1 ha with rfl | haA
     ·exact .inr hp2
     ·exact hnm a haA
     ·exact .inr (hp3 p hpA).1
     ·exact inv.pair p hpA a haA
    ·rcases List.mem_cons.1 hp with rfl | hpA <;> rcases List.mem_cons.1 ha with rfl | haA
     ·exact absurd rfl hpa
     ·exact (hp3 a haA).2
     ·exact ZaZ (hp3 p hpA).2
     ·exact inv.uniq p hpA a haA hpa
    ·rcases hget t with hd | hg
     ·exact .inr ⟨i,by simp,hli,hd⟩
     ·rw [hg]
      rcases inv.env t with h | ⟨a,ha,hla,hda⟩
      ·exact .inl h
      ·exact .inr ⟨a,by simp [ha],hla,hda⟩
    ·rcases List.mem_cons.1 ha with rfl | ha
     ·have:=hL0 x hx
      rcases inv.loc x with h | ⟨b,hb,hlb,hxb⟩
      ·rw [h]; exact this
      ·exact inv.loc0 b hb hlb x hxb
     ·exact inv.loc0 a ha hla x hx
    ·rcases hL x with hx | ⟨hx,_⟩
     ·rw [hx]
      rcases inv.loc x with h | ⟨b,hb,hlb,hxb⟩
      ·exact .inl h
      ·exact .inr ⟨b,by simp [hb],hlb,hxb⟩
     ·exact .inr ⟨i,by simp,hli,hx⟩
    ·rcases List.mem_cons.1 ha with rfl | ha
     ·exact hpend
     ·refine ((inv.pend a ha hla).more (B':=Qq (T.op i) ρ++B) (fun b _ hb=>List.mem_append_right _ hb)).mono (hagr a ha) (fun t ht=>?_) (fun x hx=>?_) (fun t hal=>?_)
      ·rcases hget t with hd | hg
       ·exact absurd ht (ZaY (hp3 a ha).2 hd)
       ·exact hg
      ·obtain ⟨cs,hcs⟩:=(inv.pend a ha hla).loc hx
       rcases hL x with h | ⟨_,h⟩
       ·exact h
       ·rw [h] at hcs; simp at hcs
      ·rcases hL t with h | ⟨h,_⟩
       ·exact h
       ·exact absurd hal.1 (ZaY (hp3 a ha).2 h.1)
   by_cases hq:WW (T.op i).k=true
   ·obtain ⟨e,rfl,rfl,rfl⟩:=Zjg hst hq
    have hgc:=Kb (g:=(T.op i).guard) (ρ:=ρ) (ρ':=ZQ ρ (T.op i).dst e) (fun t ht=>QA hp2 t (by simp [ZN,ht]))
    refine key (fun t=>?_) (fun a ha=>QA (hp3 a ha).1) (fun x=>.inl rfl) (fun x hx=>by have:=Zcc hx; rw [hq] at this; simp at this) ?_ rfl
    ·rw [Km]
     by_cases ht:(T.op i).dst=some t
     ·exact .inl ht
     ·exact .inr (by simp [ht])
    ·cases hgv:Zu ρ (T.op i).guard with
     | none=>unfold ZU at hst; simp [hgv] at hst
     | some c =>
     cases c
     ·obtain ⟨e',h1,-,-⟩:=Zjf hst hgv hq
      refine .inr (.inl ⟨hq,by rw [hgc,hgv],e',fun t ht=>?_⟩)
      rw [h1,Km,if_pos ht]
     ·obtain ⟨e',h1,-,-,h2⟩:=ZgK (ρ':=ZQ ρ (T.op i).dst e) (L':=L1) hst hq (QA hp2) (.inl rfl)
      refine .inl ⟨hq,by rw [hgc,hgv],by rw [ZhJ (QA hp2)]; exact fun b hb=>List.mem_append_left _ (ZqR.2 hb),side,e',hs,h2,fun t ht=>?_⟩
      rw [h1,Km,if_pos ht]
   ·obtain ⟨z,hz⟩:∃ z,(T.op i).k = .alloc z:=by
     cases hk:(T.op i).k <;> first | exact absurd hk (Zh6 hst _) | simp_all [WB,WW]
    obtain ⟨t,ho,rfl,rfl,rfl,rfl⟩:=Zpl hst hz
    have hnone:Zl L t=none:=by
     cases hg:Zl L t <;> simp [Zay,hg] at hs ⊢
    have hdt:(T.op i).dst=some t:=by rw [ho]
    refine key (fun u=>?_) (fun a ha=>?_) (fun x=>?_) (fun x hx=>?_) (.inr (.inr ⟨t,z,ho,by simp [Ye],by simp [Zl]⟩)) rfl
    ·by_cases htu:t=u
     ·exact .inl (by rw [hdt,htu])
     ·exact .inr (by simp [Ye,htu])
    ·have:=QA (ρ:=ρ) (e:=.loc t 0) (hp3 a ha).1
     rw [hdt] at this; exact this
    ·by_cases htx:t=x
     ·subst htx; exact .inr ⟨⟨hdt,z,hz⟩,hnone⟩
     ·exact .inl (by simp [Zl,htx])
    ·have:=hx.1
     rw [hdt] at this
     simp only [ZvD] at this
     subst this; exact hnone
  ·obtain ⟨hbk,hready,hfree⟩:=Zc0 hb
   have hkB:Kl (fl i) s s1 L L1 B∨WB (T.op i).k=true:=by
    cases hpk:WB (T.op i).k
    ·rw [hpk] at h; exact .inl h.1
    ·exact .inr rfl
   have hD:∃ B2,(B2=Qq (T.op i) ρ++B∧WB (T.op i).k=true∨B2=Qq (T.op i) ρ++WP (fl i) B∧WB (T.op i).k=false)∧DOA F kp dk (rest.map fun i=>(T.mk fk i,fl i)) ρ1 L1 s1 B2:=by
    cases hpk:WB (T.op i).k
    ·rw [hpk] at h; exact ⟨_,.inr ⟨rfl,rfl⟩,h.2⟩
    ·rw [hpk] at h; exact ⟨_,.inl ⟨rfl,rfl⟩,h⟩
   clear h
   obtain ⟨B2,hB2,h⟩:=hD
   have hsubB:∀ b∈WP (fl i) B,b∈B2:=fun b hb=>by
    rcases hB2 with ⟨rfl,_⟩ | ⟨rfl,_⟩
    ·exact List.mem_append_right _ (QS.1 hb).2
    ·exact List.mem_append_right _ hb
   refine ZqQ hm hi hdis hready (fun l ρ' L' is inv hd sch=>?_) sch inv
   have hforced:=hm l inv.closed i hi hd
   have hag:ZR ρ ρ' (ZN (T.op i)):=by
    intro t ht
    rcases inv.env t with h | ⟨a,ha,hla,hda⟩
    ·exact h
    ·exfalso
     rcases hnm a ha with hb | hb
     ·rw [hforced a hb] at hla; simp at hla
     ·exact ZfJ hb hda ht
   have hloc:∀ x,Zl L' x=Zl L x∨Zl L' x=none:=fun x=>by
    rcases inv.loc x with h | ⟨a,ha,hla,hx⟩
    ·exact .inl h
    ·exact .inr (inv.loc0 a ha hla x hx)
   have hdis':∀ p∈A.filter (fun a=>!(ms.getD i 0).testBit a),p ∉ rest:=fun p hp hpr=>hdis p (List.mem_filter.1 hp).1 (by simp [hpr])
   rcases Zq9 hst with hq | ⟨z,hz⟩ | hq | ⟨x,hx⟩ | hq
   ·obtain ⟨e,rfl,rfl,rfl⟩:=Zjg hst hq
    refine Zpt hst hs hq hag hloc ?_
    refine h T ms fl fk _ rest is _ _ _ hm hc' hdis' rfl (inv.bar hm hdis hi hir hd (fun a ha=>⟨(hfree a ha).1,(hfree a ha).2.1⟩) e (fun _ h=>h) (fun _ _ _ _ h=>h) fun a ha hla hpe=>?_) sch
    refine ((hpe.keep (fl:=fl i) (Zc4 _ _ _ _) (hfree a ha).2.2 (fun _ _=>rfl)).more (fun b _ hb=>hsubB _ hb)).mono (QA (hfree a ha).1) (fun t ht=>?_) (fun _ _=>rfl) (fun _ _=>rfl)
    rw [Km]
    have:=ZaY (ZaZ (hfree a ha).2.1) ht
    simp [this]
   ·rw [hz] at hbk; simp [Zlm] at hbk
   ·obtain ⟨rfl,hdn,⟨lx,cs,new,rfl,rfl,hlx,hcong⟩ | ⟨rfl,hcong⟩⟩:=Zpo hst hq
    ·refine Zl0 fun g ν w tmps m=>?_
     have hst0:ZU (T.op i) ρ' ((lx,cs) :: L') s1 = .ok side ρ' ((lx,new) :: (lx,cs) :: L') s1:=hcong ρ' _ hag (by simp [Zl,hlx])
     have hpl:Zl L' lx=Zl L lx:=by
      obtain ⟨c2,hc2⟩:∃ cs,Zl L' lx=some cs:=Zsv (L:=(lx,cs) :: L') hst0 hq hs m
      rcases hloc lx with h | h
      ·exact h
      ·rw [h] at hc2; simp at hc2
     refine JW (hcong ρ' L' hag hpl) hs ?_
     have hput:∀ r:Env,ZQ r (T.op i).dst (.d .undef)=r:=fun r=>by rw [hdn]; rfl
     have hb:=inv.bar (s2:=s1) (B2:=B2) hm hdis hi hir hd (fun a ha=>⟨(hfree a ha).1,(hfree a ha).2.1⟩) (.d .undef) (L2:=(lx,new) :: L) (L2':=(lx,new) :: L') (fun x hx=>by simp only [Zl,hx]) (fun x _ _ _ hx=>by
      by_cases hxl:lx=x
      ·subst hxl; rw [hpl,hlx] at hx; simp at hx
      ·simp only [Zl,hxl,if_false]; exact hx) (fun a ha hla hpe=>?_)
     ·rw [hput,hput] at hb
      exact h T ms fl fk _ rest is _ _ _ hm hc' hdis' rfl hb sch
     ·rw [hput]
      have hkB':Kl (fl i) s1 s1 L ((lx,new) :: L) B:=by
       rcases hkB with h | h
       ·exact h
       ·cases hkk:(T.op i).k <;> rw [hkk] at hq h <;> simp [Zdq,WB] at hq h
      refine (hpe.keep hkB' (hfree a ha).2.2 (fun t hal=>?_)).more (fun b _ hb=>hsubB _ hb)
      have hn:=inv.loc0 a (List.mem_filter.1 ha).1 hla t hal
      have:¬ lx=t:=fun h=>by subst h; rw [hpl,hlx] at hn; simp at hn
      simp [Zl,this]
    ·refine JW (hcong ρ' L' hag) hs ?_
     have hput:∀ r:Env,ZQ r (T.op i).dst (.d .undef)=r:=fun r=>by rw [hdn]; rfl
     have hb:=inv.bar (s2:=s1) (B2:=B2) hm hdis hi hir hd (fun a ha=>⟨(hfree a ha).1,(hfree a ha).2.1⟩) (.d .undef) (L2:=L1) (L2':=L') (fun x hx=>hx) (fun _ _ _ _ hx=>hx) (fun a ha hla hpe=>by
      rw [hput]; exact (hpe.keep (hkB.resolve_right (by cases hkk:(T.op i).k <;> rw [hkk] at hq <;> simp [Zdq,Zop] at hq <;> simp [WB])) (hfree a ha).2.2 (fun _ _=>rfl)).more (fun b _ hb=>hsubB _ hb))
     rw [hput,hput] at hb
     exact h T ms fl fk _ rest is _ _ _ hm hc' hdis' rfl hb sch
   ·obtain ⟨t,p,v,hdt,hgn,rfl,rfl,rfl,rfl,hcong⟩:=Zsr hst hx
    obtain ⟨hs1,hs2,hs3⟩:=hs
    have hnone:Zl L t=none:=by
     cases hg:Zl L t <;> simp [Zay,hg] at hs2 ⊢
    have hnone':Zl L' t=none:=by
     rcases hloc t with h | h
     ·rw [h]; exact hnone
     ·exact h
    refine JW (hcong ρ' L' hag) ⟨hs1,by simp [Zay,hnone'],hs3⟩ ?_
    have hb:=inv.bar (s2:=s1) (B2:=B2) hm hdis hi hir hd (fun a ha=>⟨(hfree a ha).1,(hfree a ha).2.1⟩) (.loc t 0) (L2:=(t,cellsOf v) :: L) (L2':=(t,cellsOf v) :: L') (fun x hx=>by simp only [Zl,hx]) (fun x a hna hal hx=>by
      have:¬ t=x:=fun h=>by subst h; exact ZaY hna hdt hal.1
      simp only [Zl,this,if_false]; exact hx) (fun a ha hla hpe=>?_)
    ·rw [hdt] at hb
     exact h T ms fl fk _ rest is _ _ _ hm hc' hdis' rfl hb sch
    ·have hkB':Kl (fl i) s1 s1 L ((t,cellsOf v) :: L) B:=hkB.resolve_right (by rw [hx]; simp [WB])
     have hnd:∀ u,ZaP (T.op a) u→¬ t=u:=fun u hal h=>by subst h; exact ZaY (hfree a ha).2.1 hdt hal.1
     refine ((hpe.keep hkB' (hfree a ha).2.2 (fun u hal=>by simp [Zl,hnd u hal])).more (fun b _ hb=>hsubB _ hb)).mono (QA (hfree a ha).1) (fun u hu=>?_) (fun _ _=>rfl) (fun _ _=>rfl)
     rw [Km]
     have:=ZaY (ZaZ (hfree a ha).2.1) hu
     simp [this]
   ·obtain ⟨rfl,hdn,rfl,hcong⟩:=Zss hst hq
    refine JW (hcong ρ' L' hag) hs ?_
    have hput:∀ r:Env,ZQ r (T.op i).dst (.d .undef)=r:=fun r=>by rw [hdn]; rfl
    have hb:=inv.bar (s2:=s1) (B2:=B2) hm hdis hi hir hd (fun a ha=>⟨(hfree a ha).1,(hfree a ha).2.1⟩) (.d .undef) (L2:=L1) (L2':=L') (fun x hx=>hx) (fun _ _ _ _ hx=>hx) (fun a ha hla hpe=>by
     rw [hput]; exact (hpe.keep (hkB.resolve_right (by cases hkk:(T.op i).k <;> rw [hkk] at hq <;> simp [Zdq,Zop] at hq <;> simp [WB])) (hfree a ha).2.2 (fun _ _=>rfl)).more (fun b _ hb=>hsubB _ hb))
    rw [hput,hput] at hb
    exact h T ms fl fk _ rest is _ _ _ hm hc' hdis' rfl hb sch
theorem Zrh {F:Fr P} {kp:Option (List Nat)} {dk:List Zp} {o:DOp} {f:List Nat} {os:List (DOp × List Nat)} {ρ:Env} {L:Loc} {s:St} {B:List (Nat × Rd)} (hg:Zu ρ o.guard=some false) (hk:WW o.k=true) (e:E)
  (h:DOA F kp dk os (ZQ ρ o.dst (.when false e)) L s B):DOA F kp dk ((o,f) :: os) ρ L s B:=by
 intro T ms fl fk A rest is l ρ' L' hm hc hdis hos inv sch
 cases rest with
 | nil=>simp at hos
 | cons i rest =>
  simp only [List.map_cons,List.cons.injEq,ZvL] at hos
  obtain ⟨⟨ho,rfl⟩,rfl⟩:=hos
  obtain ⟨hfk,rfl⟩:=Ziw ho.symm (fun k h=>by rw [h] at hk; simp [WW] at hk)
  obtain ⟨hi,hdeps,hir,hnm,hcs⟩:=Zf7 hfk hc
  have hli:=inv.restN i (by simp)
  have hnal:∀ x,¬ ZaP (T.op i) x:=fun x hx=>by have:=Zcc hx; rw [hk] at this; simp at this
  rcases hcs with ⟨hp,hc'⟩ | ⟨hb,hc',hnp⟩
  ·obtain ⟨hp1,hp2,hp3⟩:=Zd9 hp
   have hgc:=Kb (g:=(T.op i).guard) (ρ:=ρ) (ρ':=ZQ ρ (T.op i).dst (.when false e)) (fun t ht=>QA hp2 t (by simp [ZN,ht]))
   refine h T ms fl fk (i :: A) rest is l ρ' L' hm hc' (fun p hp hpr=>?_) rfl ⟨inv.closed,fun r hr=>inv.restN r (by simp [hr]),fun j hj h1 h2=>?_,fun a ha=>?_,fun p hp a ha=>?_,fun p hp a ha hpa=>?_,fun t=>?_,fun a ha hla x hx=>?_,fun x=>?_,fun a ha hla=>?_⟩ sch
   ·rcases List.mem_cons.1 hp with rfl | hp
    ·exact hir hpr
    ·exact hdis p hp (by simp [hpr])
   ·simp only [List.mem_cons,not_or] at h2
    exact inv.doneN j hj (by simp [h2.1,h1]) h2.2
   ·rcases List.mem_cons.1 ha with rfl | ha
    ·exact hi
    ·exact inv.alt a ha
   ·rcases List.mem_cons.1 hp with rfl | hpA <;> rcases List.mem_cons.1 ha with rfl | haA
    ·exact .inr hp2
    ·exact hnm a haA
    ·exact .inr (hp3 p hpA).1
    ·exact inv.pair p hpA a haA
   ·rcases List.mem_cons.1 hp with rfl | hpA <;> rcases List.mem_cons.1 ha with rfl | haA
    ·exact absurd rfl hpa
    ·exact (hp3 a haA).2
    ·exact ZaZ (hp3 p hpA).2
    ·exact inv.uniq p hpA a haA hpa
   ·rw [Km]
    by_cases ht:(T.op i).dst=some t
    ·exact .inr ⟨i,by simp,hli,ht⟩
    ·rw [if_neg ht]
     rcases inv.env t with h | ⟨a,ha,hla,hda⟩
     ·exact .inl h
     ·exact .inr ⟨a,by simp [ha],hla,hda⟩
   ·rcases List.mem_cons.1 ha with rfl | ha
    ·exact absurd hx (hnal x)
    ·exact inv.loc0 a ha hla x hx
   ·rcases inv.loc x with h | ⟨b,hb,hlb,hxb⟩
    ·exact .inl h
    ·exact .inr ⟨b,by simp [hb],hlb,hxb⟩
   ·rcases List.mem_cons.1 ha with rfl | ha
    ·exact .inr (.inl ⟨hk,by rw [hgc,hg],e,fun t ht=>by rw [Km,if_pos ht]⟩)
    ·refine (inv.pend a ha hla).mono (QA (hp3 a ha).1) (fun t ht=>?_) (fun _ _=>rfl) (fun _ _=>rfl)
     rw [Km,if_neg (ZaY (ZaZ (hp3 a ha).2) ht)]
  ·obtain ⟨hbk,hready,hfree⟩:=Zc0 hb
   refine ZqQ hm hi hdis hready (fun l ρ' L' is inv hd sch=>?_) sch inv
   have hforced:=hm l inv.closed i hi hd
   have hag:ZR ρ ρ' (ZN (T.op i)):=by
    intro t ht
    rcases inv.env t with h | ⟨a,ha,hla,hda⟩
    ·exact h
    ·exfalso
     rcases hnm a ha with hb | hb
     ·rw [hforced a hb] at hla; simp at hla
     ·exact ZfJ hb hda ht
   have hdis':∀ p∈A.filter (fun a=>!(ms.getD i 0).testBit a),p ∉ rest:=fun p hp hpr=>hdis p (List.mem_filter.1 hp).1 (by simp [hpr])
   refine JB (e:=e) (by rw [Kb fun t ht=>hag t (by simp [ZN,ht])]; exact hg) ?_
   refine h T ms fl fk _ rest is _ _ _ hm hc' hdis' rfl (inv.bar hm hdis hi hir hd (fun a ha=>⟨(hfree a ha).1,(hfree a ha).2.1⟩) (.when false e) (fun _ h=>h) (fun _ _ _ _ h=>h) fun a ha hla hpe=>?_) sch
   refine hpe.mono (QA (hfree a ha).1) (fun t ht=>?_) (fun _ _=>rfl) (fun _ _=>rfl)
   rw [Km]
   have:=ZaY (ZaZ (hfree a ha).2.1) ht
   simp [this]
theorem Zps {F:Fr P} {kp:Option (List Nat)} {dk:List Zp} {o:DOp} {f:List Nat} {os:List (DOp × List Nat)} {ρ:Env} {L:Loc} {s:St} {B:List (Nat × Rd)} {side:Prop} {pre:Nat→Prop} {ρf:Nat→Env} {sf:Nat→St} (hst:ZU o ρ L s = .all side pre ρf sf) (hs:side)
  (h:∀ b,pre b→Kl f s (sf b) L L B∧DOA F kp dk os (ρf b) L (sf b) (WP f B)):DOA F kp dk ((o,f) :: os) ρ L s B:=by
 obtain ⟨hp,t,ef,hdt,rfl,hcong⟩:=Zsq hst
 refine Zas (fun e s2=>∃ b,pre b∧e=ef b∧s2=sf b) hp (fun ρ' L' os' hag hcont=>?_) (fun e s2 ⟨b,hb,he,h2⟩=>?_)
 ·refine Zri (hcong ρ' L' hag) hs fun b hb=>?_
  have:=hcont (ef b) (sf b) ⟨b,hb,rfl,rfl⟩
  rw [hdt] at this; exact this
 ·subst he; subst h2
  have:=h b hb
  rw [hdt]; exact this
theorem Zih {F:Fr P} {ks:List Nat} {dk:List Zp}:∀ {os:List (DOp × List Nat)} {ρ:Env} {L:Loc} {s:St} {B:List (Nat × Rd)},
  Zf9 (fun ρ L s=>ZD F dk (Wy ρ ks) (ZbI (Wy ρ ks) L) s) (fun os ρ L s B=>DOA F (some ks) dk os ρ L s B) os ρ L s B→DOA F (some ks) dk os ρ L s B
 | [],ρ,L,s,B,h=>Zlc h
 | (o,f) :: os,ρ,L,s,B,h=>by
  simp only [Zf9] at h
  split at h
  ·rename_i sd ρ' L' s' hst
   by_cases hp:WB o.k=true
   ·rw [if_pos hp] at h
    exact Zad hst h.1 (by rw [if_pos hp]; exact Zih h.2)
   ·rw [if_neg hp] at h
    exact Zad hst h.1 (by rw [if_neg hp]; exact ⟨h.2.1,Zih h.2.2⟩)
  ·rename_i sd pre ρ' s' hst
   exact Zps hst h.1 fun b hb=>⟨(h.2 b hb).1,Zih (h.2 b hb).2⟩
  ·exact h
end
end Go.DL
namespace Go.DL
open Go
variable [Znt]
theorem ZfW {bs:List Nat}:∀ {ds:List Nat} {a:Nat},(Zcr bs ds).testBit a=true→∃ d∈ds,a=d∨(bs.getD d 0).testBit a=true
 | [],a,h=>by simp [Zcr] at h
 | d :: ds,a,h=>by
  simp only [Zcr,Nat.testBit_or,ZvW] at h
  rcases h with (h | h) | h
  ·exact ⟨d,by simp,.inr h⟩
  ·refine ⟨d,by simp,.inl ?_⟩
   rw [Nat.one_shiftLeft,Nat.testBit_two_pow] at h
   exact (of_decide_eq_true h).symm
  ·obtain ⟨d',h1,h2⟩:=ZfW h
   exact ⟨d',by simp [h1],h2⟩
theorem Zos (l:Nat→Bool) (all:List (List Nat)) (hcl:∀ i,i < all.length→l i=true→∀ d∈all.getD i [],l d=true) :
  ∀ (r:List (List Nat)) (acc:List Nat) (pre:List (List Nat)),all=pre++r→acc.length=pre.length →
   (∀ i,i < acc.length→(∀ d∈all.getD i [],l d=true)→∀ a,(acc.getD i 0).testBit a=true→l a=true) →
   ∀ i,i < all.length→(∀ d∈all.getD i [],l d=true)→∀ a,((Zgu r acc).getD i 0).testBit a=true→l a=true
 | [],acc,pre,hall,hlen,hacc=>by
  intro i hi
  simp only [Zgu]
  exact hacc i (by rw [hlen]; simp only [hall,List.append_nil] at hi; exact hi)
 | d :: r,acc,pre,hall,hlen,hacc=>by
  simp only [Zgu]
  refine Zos l all hcl r (acc++[Zcr acc d]) (pre++[d]) (by simp [hall]) (by simp [hlen]) fun i hi hd a ha=>?_
  simp only [ZvT,Zv0,List.length_nil] at hi
  by_cases hia:i < acc.length
  ·have e:(acc++[Zcr acc d]).getD i 0=acc.getD i 0:=by simp [List.getD,List.getElem?_append,hia]
   rw [e] at ha
   exact hacc i hia hd a ha
  ·have hie:i=acc.length:=by omega
   subst hie
   have e:(acc++[Zcr acc d]).getD acc.length 0=Zcr acc d:=by simp [List.getD]
   rw [e] at ha
   have e2:all.getD acc.length []=d:=by rw [hall,hlen]; simp [List.getD]
   rw [e2] at hd
   obtain ⟨d',h1,h2⟩:=ZfW ha
   rcases h2 with rfl | h2
   ·exact hd a h1
   ·by_cases hlt:d' < acc.length
    ·exact hacc d' hlt (hcl d' (by rw [hall]; simp; omega) (hd d' h1)) a h2
    ·have:acc.getD d' 0=0:=by simp [List.getD,List.getElem?_eq_none (Nat.le_of_not_lt hlt)]
     rw [this] at h2; simp at h2
def cnt (l:Nat→Bool):Nat→Nat
 | 0=>0
 | n + 1=>cnt l n + if l n then 0 else 1
theorem ZnS {l l':Nat→Bool}:∀ {n:Nat},(∀ i,i < n→l' i=l i)→cnt l' n=cnt l n
 | 0,_=>rfl
 | n + 1,h=>by
  have:=ZnS (l:=l) (l':=l') (n:=n) fun i hi=>h i (by omega)
  simp only [cnt,h n (by omega),this]
theorem ZpA {l:Nat→Bool} {i:Nat}:∀ {n:Nat},i < n→l i=false→cnt (fun j=>j == i || l j) n + 1=cnt l n
 | n + 1,hi,hl=>by
  by_cases hn:i=n
  ·subst hn
   have:cnt (fun j=>j == i || l j) i=cnt l i:=ZnS fun j hj=>by
    have:¬ j=i:=by omega
    simp [this]
   simp [cnt,this,hl]
  ·have h:=ZpA (n:=n) (by omega) hl
   have hni:¬ n=i:=fun h=>hn h.symm
   have:(n == i || l n)=l n:=by simp [hni]
   simp only [cnt,this]; omega
theorem ZnT {l:Nat→Bool}:∀ {n:Nat},cnt l n=0→∀ i,i < n→l i=true
 | n + 1,h,i,hi=>by
  simp only [cnt] at h
  by_cases hn:i=n
  ·subst hn
   cases hl:l i
   ·simp [hl] at h
   ·rfl
  ·exact ZnT (n:=n) (by omega) i (by omega)
theorem ZrD (l:Nat→Bool):∀ n,cnt l n≤n
 | 0=>ZvR _
 | n + 1=>by have:=ZrD l n; simp only [cnt]; split <;> omega
theorem Zr3 {ops:Array Oper} {listed:Array Bool} {i:Nat} (h:i∈Region.ready .any ops listed) :
  ∃ o,ops[i]? = some o∧listed.getD i true=false∧∀ d∈Za0 o,listed.getD d false=true:=by
 simp only [Region.ready,List.mem_filter,List.mem_range,ZvN,Bool.not_eq_true'] at h
 obtain ⟨hi,hl,ha⟩:=h
 refine ⟨ops[i],by simp [hi],hl,fun d hd=>?_⟩
 simp only [hi,Array.getElem?_eq_getElem,Option.map_some,Option.getD_some,Array.all_eq_true] at ha
 simp only [Za0,List.mem_map,List.mem_filter] at hd
 obtain ⟨e,⟨he,hb⟩,rfl⟩:=hd
 obtain ⟨n,hn,hen⟩:=ZvX he
 have hn':n < ops[i].after.size:=by simpa using hn
 have h2:=ha n hn'
 have:ops[i].after[n]=e:=by rw [← hen]; simp
 rw [this] at h2
 simpa [hb] using h2
theorem Zsj {ops:Array Oper} {listed:Array Bool} {i:Nat} {o:Oper} (ho:ops[i]? = some o) (hl:listed.getD i true=false) (hd:∀ d∈Za0 o,listed.getD d false=true):i∈Region.ready .any ops listed:=by
 obtain ⟨hi,rfl⟩:=Array.getElem?_eq_some_iff.1 ho
 simp only [Region.ready,List.mem_filter,List.mem_range,ZvN,Bool.not_eq_true']
 refine ⟨hi,hl,?_⟩
 simp only [hi,Array.getElem?_eq_getElem,Option.map_some,Option.getD_some,Array.all_eq_true]
 intro n hn
 cases hb:Region.binds .any ops[i].after[n]
 ·simp
 ·simp only [Bool.not_true,Bool.false_or]
  exact hd _ (by
   simp only [Za0,List.mem_map,List.mem_filter]
   exact ⟨_,⟨by simp,hb⟩,rfl⟩)
theorem Zvd {ops:Array Oper} {T:Tab} (hT:T.length=ops.size) (hdep:∀ i o,ops[i]? = some o→T.deps i=Za0 o) (hlt:∀ i,i < T.length→∀ d∈T.deps i,d < i) :
  ∀ (fuel t:Nat) (listed:Array Bool),listed.size=ops.size→cnt (fun j=>listed.getD j false) ops.size≤fuel →
   Sch T (fun j=>listed.getD j false) (Region.linearise.go .any ops fuel t listed []):=by
 have hready:∀ listed:Array Bool,listed.size=ops.size→Region.ready .any ops listed=[]→∀ i,i < ops.size→listed.getD i false=true:=by
  intro listed hsz hr i
  induction i using Nat.strongRecOn with
  | ind i ih =>
   intro hi
   cases hl:listed.getD i false
   ·exfalso
    have hi':i < listed.size:=by omega
    have hlt':listed.getD i true=false:=by simpa [Array.getD,hi'] using hl
    have hm:i∈Region.ready .any ops listed:=Zsj (o:=ops[i]) (by simp [hi]) hlt' fun d hd=>by
     have hdi:d < i:=hlt i (by omega) d (by rw [hdep i ops[i] (by simp [hi])]; exact hd)
     exact ih d hdi (by omega)
    rw [hr] at hm; simp at hm
   ·rfl
 intro fuel
 induction fuel with
 | zero =>
  intro t listed hsz hc
  simp only [Region.linearise.go,List.reverse_nil]
  exact .nil fun i hi=>ZnT (Nat.le_zero.1 hc) i (by omega)
 | succ fuel ih =>
  intro t listed hsz hc
  simp only [Region.linearise.go]
  change Sch T _ (match (Region.ready .any ops listed)[t % (Region.ready .any ops listed).length]? with
   | some i=>Region.linearise.go .any ops fuel (t / (Region.ready .any ops listed).length) (listed.setIfInBounds i true) [i]
   | none=>[].reverse)
  cases hi:(Region.ready .any ops listed)[t % (Region.ready .any ops listed).length]? with
  | none =>
   have hnil:Region.ready .any ops listed=[]:=by
    cases hr:Region.ready .any ops listed with
    | nil=>rfl
    | cons x xs =>
     rw [hr] at hi
     have hl:t % (x :: xs).length < (x :: xs).length:=Nat.mod_lt _ (by simp)
     rw [List.getElem?_eq_getElem hl] at hi; simp at hi
   exact .nil fun i hi'=>hready listed hsz hnil i (by omega)
  | some i =>
   simp only []
   rw [linearise_go_acc,List.reverse_singleton,List.singleton_append]
   obtain ⟨o,ho,hl,hd⟩:=Zr3 (List.mem_of_getElem? hi)
   obtain ⟨his,-⟩:=Array.getElem?_eq_some_iff.1 ho
   have hisl:i < listed.size:=by omega
   have hlf:listed.getD i false=false:=by simpa [Array.getD,hisl] using hl
   have hfun:(fun j=>(listed.setIfInBounds i true).getD j false)=fun j=>j == i || listed.getD j false:=by
    funext j
    simp only [Array.getD_eq_getD_getElem?,Array.getElem?_setIfInBounds]
    by_cases hij:i=j
    ·subst hij; simp [hisl]
    ·have:¬ j=i:=fun h=>hij h.symm
     simp [hij,this]
   refine .cons (by omega) hlf (fun d hd'=>hd d (by rw [← hdep i o ho]; exact hd')) ?_
   rw [← hfun]
   refine ih _ _ (by simp [hsz]) ?_
   rw [hfun]
   have:=ZpA (l:=fun j=>listed.getD j false) his hlf
   omega
section
variable {P:Program}
theorem ZtX {an:Ann} {N:Nat} {c:Code} {order:List Nat} {os:List (DOp × List Nat)} {ks:Option (List Nat)} (h:cc P an N c=some (.regD order os ks)) :
  ∃ id ops,c = .region id ops true∧ccD P an N id ops=some (order,os,ks):=by
 unfold cc at h; split at h <;> simp_all
 ·obtain ⟨a,b,c',h1,h2,h3,h4⟩:=h; exact ⟨_,_,⟨rfl,rfl⟩,by rw [h1]; simp [h2,h3,h4]⟩
 all_goals (split at h <;> simp at h)
end
end Go.DL
namespace Go.DL
open Go
variable [Znt]
theorem Zve {T:Tab} {l:Nat→Bool} {is:List Nat} (h:Sch T l is):∀ i∈is,i < T.length:=by
 induction h with
 | nil h=>simp
 | cons hi hl hd t ih=>intro i hi'; rcases List.mem_cons.1 hi' with rfl | h; exact hi; exact ih i h
section
variable {P:Program}
theorem ZnU {N:Nat} {ops:Array Oper}:∀ {is:List Nat} {l:List DOp},Zax P N ops is=some l→l.length=is.length∧∀ (j i:Nat),is[j]? = some i→∃ o d,ops[i]? = some o∧cop P N ops o=some d∧l[j]? = some d
 | [],l,h=>by simp only [Zax,ZvD] at h; subst h; simp
 | i :: is,l,h=>by
  simp only [Zax] at h
  split at h <;> (try (simp at h; done))
  rename_i o ho
  split at h <;> simp only [ZvD,reduceCtorEq] at h
  rename_i d ds hd hds
  subst h
  obtain ⟨h1,h2⟩:=ZnU hds
  refine ⟨by simp [h1],fun j i' hj=>?_⟩
  cases j with
  | zero=>simp only [List.getElem?_cons_zero,ZvD] at hj; subst hj; exact ⟨o,d,ho,hd,by simp⟩
  | succ j=>simp only [List.getElem?_cons_succ] at hj ⊢; exact h2 j i' hj
theorem ZpB {N:Nat} {ops:Array Oper} {f:Nat→DOp}:∀ {is:List Nat},(∀ i∈is,∃ o,ops[i]? = some o∧cop P N ops o=some (f i))→Zax P N ops is=some (is.map f)
 | [],_=>rfl
 | i :: is,h=>by
  obtain ⟨o,h1,h2⟩:=h i (by simp)
  have:=ZpB (is:=is) fun j hj=>h j (by simp [hj])
  simp only [Zax,h1,h2,this,List.map_cons]
theorem ZrP (g:G) (w:World) (n:Nat):Ext g w g { w with drawn:=n }:=⟨ZvR _,fun _=>ZvR _,fun _ _ _=>rfl,fun _ _ h=>h,fun _ _=>rfl,fun _ _=>rfl,rfl,rfl,rfl,rfl⟩
theorem ZI.drawn {g:G} {ν:Nat→Nat} {w:World} {tmps:Array Value} {ρ:Env} {L:Loc} {s:St} (m:ZI g ν w tmps ρ L s) (n:Nat):ZI g ν { w with drawn:=n } tmps ρ L s:=by
 have hg:Zau g w g { w with drawn:=n }:=⟨ZvR _,fun _ _=>rfl,fun _ _=>rfl,fun b hb=>(m.st.fresh b hb).1,rfl,rfl,rfl,rfl⟩
 exact m.grow hg
theorem Zi0:∀ {n:Nat} {ds:List (List Nat)},Zkm n ds=true→∀ i l,ds[i]? = some l→∀ d∈l,d < n + i
 | n,[],_,i,l,hi=>by simp at hi
 | n,x :: r,h,i,l,hi=>by
  simp only [Zkm,ZvN,List.all_eq_true,decide_eq_true_eq] at h
  cases i with
  | zero=>simp only [List.getElem?_cons_zero,ZvD] at hi; subst hi; exact fun d hd=>h.1 d hd
  | succ i=>simp only [List.getElem?_cons_succ] at hi; intro d hd; have:=Zi0 h.2 i l hi d hd; omega
theorem Zdb {F:Fr P} {order:List Nat} {os:List (DOp × List Nat)} {ks:Option (List Nat)} {dk:List Zp} {ρ:Env} {L:Loc} {s:St} (h:DOA F ks dk os ρ L s []):ZD F (.code (.regD order os ks) :: dk) ρ L s:=by
 intro k hk
 cases hk with
 | code hc ht =>
 obtain ⟨id,ops,rfl,hD⟩:=ZtX hc
 unfold ccD at hD
 generalize ZsX F.an id=fk at hD
 split at hD <;> (try (simp at hD; done))
 rename_i l order' kp hcops _ _
 simp only at hD
 split at hD <;> simp only [ZvD,ZvL,reduceCtorEq] at hD
 rename_i hcond
 obtain ⟨rfl,rfl,rfl⟩:=hD
 simp only [ZvN] at hcond
 obtain ⟨⟨⟨hmix,hlt⟩,hperm⟩,hchk⟩:=hcond
 obtain ⟨hlen,hget⟩:=ZnU hcops
 simp only [List.length_range] at hlen
 generalize hds:ops.toList.map Za0=ds at hlt hchk h
 have hdl:ds.length=ops.size:=by rw [← hds]; simp
 generalize hT:List.zip l ds=T at hchk h
 have hTl:List.length T=ops.size:=by rw [← hT]; simp [hlen,hdl]
 have hTi:∀ (i:Nat) (o:Oper),ops[i]? = some o→∃ d,cop P F.N ops o=some d∧T[i]? = some (d,Za0 o):=by
  intro i o ho
  obtain ⟨hi,-⟩:=Array.getElem?_eq_some_iff.1 ho
  obtain ⟨o',d,h1,h2,h3⟩:=hget i i (by simp [hi])
  rw [ho] at h1
  obtain rfl:=Option.some.inj h1
  refine ⟨d,h2,?_⟩
  rw [← hT,List.getElem?_zip_eq_some]
  exact ⟨h3,by rw [← hds]; simp [ho]⟩
 have hdeps:∀ (i:Nat) (o:Oper),ops[i]? = some o→Tab.deps T i=Za0 o:=fun i o ho=>by
  obtain ⟨d,_,h2⟩:=hTi i o ho
  simp [Tab.deps,List.getD,h2]
 have hop:∀ i,i < List.length T→∃ o,ops[i]? = some o∧cop P F.N ops o=some (Tab.op T i):=fun i hi=>by
  have hi':i < ops.size:=by omega
  obtain ⟨d,h1,h2⟩:=hTi i ops[i] (by simp [hi'])
  exact ⟨ops[i],by simp [hi'],by simp [Tab.op,List.getD,h2,h1]⟩
 have hdl2:∀ i,i < List.length T→∀ d∈Tab.deps T i,d < i:=fun i hi d hd=>by
  have hi':i < ops.size:=by omega
  have he:=hdeps i ops[i] (by simp [hi'])
  have:=Zi0 hlt i (Za0 ops[i]) (by rw [← hds]; simp [hi']) d (by rw [← he]; exact hd)
  omega
 have hdsT:∀ i,i < List.length T→ds.getD i []=Tab.deps T i:=fun i hi=>by
  have hi':i < ops.size:=by omega
  rw [hdeps i ops[i] (by simp [hi']),← hds]
  simp [List.getD,hi']
 intro g ν w tmps hN m
 refine F.T.back _ _ _ _ (.one stepR_region_draw) ?_
 refine F.T.ext g w g { w with drawn:=w.drawn + 1 } _ (ZrP g w _) ?_
 have hsc:∀ t,Region.schedule (P.follows .mixedOrders) ops t=Region.linearise .any ops t:=fun t=>by simp [Region.schedule,hmix]
 rw [hsc]
 have hl0:∀ j,(Array.replicate ops.size false).getD j false=false:=fun j=>by
  simp only [Array.getD_eq_getD_getElem?,Array.getElem?_replicate]
  split <;> rfl
 have hsch:=Zvd (ops:=ops) (T:=T) hTl hdeps hdl2 ops.size (w.tape w.drawn (.order F.b.fn id)) (Array.replicate ops.size false) (by simp) (ZrD _ _)
 have hDO:=h T (Zgu ds []) (fun i=>(F.an.get (id + 1000000 * (i + 4))).getD []) _ [] order' _ _ ρ L ?_ hchk (by simp) rfl ?_ hsch
 ·refine hDO ops _ _ (ZpB fun i hi=>hop i (Zve hsch i hi)) ht g ν _ tmps hN (m.drawn _)
 ·intro lf hcl i hi hd a ha
  refine Zos lf ds (fun i hi hli d hd=>?_) ds [] [] rfl rfl (fun i hi=>by simp at hi) i (by omega) (fun d hd'=>hd d (by rw [← hdsT i hi]; exact hd')) a ha
  exact hcl i (by omega) hli d (by rw [← hdsT i (by omega)]; exact hd)
 ·refine ⟨fun i hi hli=>?_,fun r hr=>hl0 r,fun i hi h1 h2=>?_,by simp,by simp,by simp,fun t=>.inl rfl,by simp,fun x=>.inl rfl,by simp⟩
  ·rw [hl0] at hli; simp at hli
  ·exfalso
   simp only [Zsc,List.all_eq_true,List.mem_range,List.contains_eq_mem,decide_eq_true_eq] at hperm
   exact h1 (hperm i (by omega))
theorem ZeN {F:Fr P} {kp:Option (List Nat)} {dk:List Zp} {o:DOp} {f:List Nat} {os:List (DOp × List Nat)} {ρ:Env} {L:Loc} {s:St} {B:List (Nat × Rd)} (hg:Zu ρ o.guard=some true) {fx:Opd} {xs:List Opd} (hk:o.k = .call fx xs)
  {p q:Prop} {fd:D} {es:List E} {ds:List D} (hf:ZV ρ true fx=some (q,.d fd)) (ha:Wc ρ true xs=some (p,es)) (hds:K4 es=some ds) (hp:p) (hq:q)
  {Ψ:Res→St→Prop} (hc:Qw P fd ds s Ψ)
  (hret:∀ d s',Ψ (.ret d) s'→Kl f s s' L L B∧DOA F kp dk os (ZQ ρ o.dst (.d d)) L s' (WP f B)) (hpan:∀ d s',Ψ (.panic d) s'→Kw F [] [] d s'):DOA F kp dk ((o,f) :: os) ρ L s B:=by
 refine Zas (fun e s'=>∃ d,e = .d d∧Ψ (.ret d) s') (by rw [hk]; rfl) (fun ρ' L' os' hag hcont=>?_) (fun e s2 ⟨d,he,hd⟩=>by subst he; exact hret d s2 hd)
 have h1:ZR ρ ρ' (Yw fx):=fun t ht=>hag t (by simp [ZN,hk,Wn,ht])
 have h2:ZR ρ ρ' (ZbJ xs):=fun t ht=>hag t (by simp [ZN,hk,Wn,ht])
 have h3:ZR ρ ρ' (Zeg o.guard):=fun t ht=>hag t (by simp [ZN,ht])
 exact QF (by rw [Kb h3]; exact hg) hk (by rw [Yi h1]; exact hf) (by rw [Qu h2]; exact ha) hds hp hq hc (fun d s' hd=>hcont (.d d) s' ⟨d,rfl,hd⟩) (fun d s' hd=>(hpan d s' hd).weak _ _)
theorem ZaM {F:Fr P} {kp:Option (List Nat)} {dk:List Zp} {o:DOp} {f:List Nat} {os:List (DOp × List Nat)} {ρ:Env} {L:Loc} {s:St} {B:List (Nat × Rd)} (hg:Zu ρ o.guard=some true) {fx:Opd} {xs:List Opd} (hk:o.k = .call fx xs)
  {p q:Prop} {fi:FuncId} {first caps:List D} {es:List E} {ds:List D} (hf:ZV ρ true fx=some (q,.d (.fn (.func fi) first caps))) (ha:Wc ρ true xs=some (p,es)) (hds:K4 es=some ds) (hp:p) (hq:q)
  {Ψ:Res→St→Prop} (hc:ZK P fi (first++ds++caps) s Ψ)
  (hret:∀ d s',Ψ (.ret d) s'→Kl f s s' L L B∧DOA F kp dk os (ZQ ρ o.dst (.d d)) L s' (WP f B)) (hpan:∀ d s',Ψ (.panic d) s'→Kw F [] [] d s'):DOA F kp dk ((o,f) :: os) ρ L s B :=
 ZeN hg hk hf ha hds hp hq hc.V hret hpan
theorem ZlW {F:Fr P} {kp:Option (List Nat)} {dk:List Zp} {o:DOp} {f:List Nat} {os:List (DOp × List Nat)} {ρ:Env} {L:Loc} {s:St} {B:List (Nat × Rd)} (hg:Zu ρ o.guard=some true) {x:Opd} (hk:o.k = .panic x)
  {p:Prop} {t:TypeId} {d:D} (ha:ZV ρ true x=some (p,.d (.iface t d))) (hp:p) (h:Kw F [] [] (.iface t d) s):DOA F kp dk ((o,f) :: os) ρ L s B:=by
 refine Zas (fun _ _=>False) (by rw [hk]; rfl) (fun ρ' L' os' hag hcont=>?_) (fun e s2 h=>h.elim)
 have h1:ZR ρ ρ' (Yw x):=fun t ht=>hag t (by simp [ZN,hk,Wn,ht])
 have h3:ZR ρ ρ' (Zeg o.guard):=fun t ht=>hag t (by simp [ZN,ht])
 exact Znk (by rw [Kb h3]; exact hg) hk (by rw [Yi h1]; exact ha) hp (h.weak _ _)
theorem ZdY {F:Fr P} {kp:Option (List Nat)} {dk:List Zp} {o:DOp} {f:List Nat} {os:List (DOp × List Nat)} {ρ:Env} {L:Loc} {s:St} {B:List (Nat × Rd)} (hg:Zu ρ o.guard=some false) (hk:WB o.k=false) {e:E}
  (h:DOA F kp dk os (ZQ ρ o.dst (.when false e)) L s (WP f B)):DOA F kp dk ((o,f) :: os) ρ L s B:=by
 refine Zas (fun e' s'=>e' = .when false e∧s'=s) hk (fun ρ' L' os' hag hcont=>?_) (fun e s2 ⟨h1,h2⟩=>by subst h1; subst h2; exact ⟨Zc4 _ _ _ _,h⟩)
 have h3:ZR ρ ρ' (Zeg o.guard):=fun t ht=>hag t (by simp [ZN,ht])
 exact JB (by rw [Kb h3]; exact hg) (hcont _ _ ⟨rfl,rfl⟩)
theorem ZjY {F:Fr P} {kp:Option (List Nat)} {dk:List Zp} {o:DOp} {f:List Nat} {os:List (DOp × List Nat)} {ρ:Env} {L:Loc} {s:St} {B:List (Nat × Rd)} {c:Bool} (hg:Zu ρ o.guard=some c) {fx:Opd} {xs:List Opd} (hk:o.k = .call fx xs)
  {p q:Prop} {fi:FuncId} {first caps:List D} {es:List E} {ds:List D} (hf:ZV ρ c fx=some (q,.d (.fn (.func fi) first caps))) (ha:Wc ρ c xs=some (p,es)) (hds:K4 es=some ds)
  {d:D} (hc:c=true→p∧q∧Z7 P fi (first++ds++caps) d) (h:DOA F kp dk os (ZQ ρ o.dst (.when c (.d d))) L s (WP f B)):DOA F kp dk ((o,f) :: os) ρ L s B:=by
 refine Zas (fun e' s'=>e' = .when c (.d d)∧s'=s) (by rw [hk]; rfl) (fun ρ' L' os' hag hcont=>?_) (fun e s2 ⟨h1,h2⟩=>by subst h1; subst h2; exact ⟨Zc4 _ _ _ _,h⟩)
 have h1:ZR ρ ρ' (Yw fx):=fun t ht=>hag t (by simp [ZN,hk,Wn,ht])
 have h2:ZR ρ ρ' (ZbJ xs):=fun t ht=>hag t (by simp [ZN,hk,Wn,ht])
 have h3:ZR ρ ρ' (Zeg o.guard):=fun t ht=>hag t (by simp [ZN,ht])
 exact ZaN (by rw [Kb h3]; exact hg) hk (by rw [Yi h1]; exact hf) (by rw [Qu h2]; exact ha) hds hc (hcont _ _ ⟨rfl,rfl⟩)
theorem J9 {F:Fr P} {kp:Option (List Nat)} {dk:List Zp} {o:DOp} {f:List Nat} {os:List (DOp × List Nat)} {ρ:Env} {L:Loc} {s:St} {B:List (Nat × Rd)} (hg:Zu ρ o.guard=some true) {fx:Opd} {xs:List Opd} (hk:o.k = .call fx xs)
  {p q:Prop} {fi:FuncId} {first caps:List D} {es:List E} {ds:List D} (hf:ZV ρ true fx=some (q,.d (.fn (.func fi) first caps))) (ha:Wc ρ true xs=some (p,es)) (hds:K4 es=some ds) (hp:p) (hq:q)
  {d:D} (hc:Z7 P fi (first++ds++caps) d) (h:DOA F kp dk os (ZQ ρ o.dst (.d d)) L s (WP f B)):DOA F kp dk ((o,f) :: os) ρ L s B :=
 ZaM hg hk hf ha hds hp hq (hc s) (fun d' s' ⟨h1,h2⟩=>by simp only [Res.ret.injEq] at h1; subst h1; subst h2; exact ⟨Zc4 _ _ _ _,h⟩) (fun d' s' ⟨h1,_⟩=>by simp at h1)
end
end Go.DL
namespace Go.DL
open Go
variable [Znt]
section
variable {P:Program}
def Zbo (P:Program) (w:World) (size m:Nat) (x:Value) (news:List Value):Prop :=
 (∀ w2,(Builtin.lenOf x).run P w2 = .ok m w2)∧∀ w2:World,w2.heap=w.heap→(Builtin.firstCells size m x).run P w2 = .ok news.toArray w2
theorem Zl1 {w:World} {t u ty e:TypeId} {tu:TypeDesc} {i:TypeInfo} (ht:P.underlying t=some (.slice e)) (hu:P.underlying u=some tu) (hnu:∀ k,tu≠.int k) (hi:P.info? e=some i) {base:Option Addr} {n cap:Nat} {x:Value}
  (hx:Zbo P w i.size 0 x []) (hroom:n≤cap):(Builtin.append_ #[t,u] ty #[.slice base n cap,x]).run P w = .ok (.slice base n cap) w:=by
 obtain ⟨h1,h2⟩:=hx
 have h2:=h2 w rfl
 have hz:(match tu with | .int _=>true | _=>false)=false:=by cases tu <;> first | rfl | exact absurd rfl (hnu _)
 cases base with
 | none=>simp [Builtin.append_,run_underlying ht,run_underlying hu,hz,sizeOf,typeInfo,hi,h1,h2,hroom]
 | some a=>simp [Builtin.append_,run_underlying ht,run_underlying hu,hz,sizeOf,typeInfo,hi,h1,h2,hroom,storeCells]
theorem Znz {w:World} {t u ty e:TypeId} {tu:TypeDesc} {i:TypeInfo} (ht:P.underlying t=some (.slice e)) (hu:P.underlying u=some tu) (hnu:∀ k,tu≠.int k) (hi:P.info? e=some i) {g n cap m:Nat} {x:Value} {news:List Value}
  (hx:Zbo P w i.size m x news) {cur:Array Value} {T:TypeId} (hg:w.heap[g]? = some (.cells cur T (0,0))) (h1:∀ u∈news,u.oneCell'=true) (hroom:n + m≤cap) (hfit:n * i.size + news.length≤cur.size) :
  (Builtin.append_ #[t,u] ty #[.slice (some ⟨g,0,none⟩) n cap,x]).run P w =
   .ok (.slice (some ⟨g,0,none⟩) (n + m) cap) (w.setRow g (cur.toList.take (n * i.size)++news++cur.toList.drop (n * i.size + news.length)).toArray):=by
 obtain ⟨hx1,hx2⟩:=hx
 have hx2:=hx2 w rfl
 have hz:(match tu with | .int _=>true | _=>false)=false:=by cases tu <;> first | rfl | exact absurd rfl (hnu _)
 have hst:=run_storeCells_at P g (n * i.size) T news 0 cur w hg (by simpa using hfit) h1
 simp only [Nat.add_zero] at hst
 simp [Builtin.append_,run_underlying ht,run_underlying hu,hz,sizeOf,typeInfo,hi,hx1,hx2,hroom,Addr.add_lit,hst]
theorem Zjp {w:World} {t u ty e:TypeId} {tu:TypeDesc} {i:TypeInfo} {z:Value} (ht:P.underlying t=some (.slice e)) (hu:P.underlying u=some tu) (hnu:∀ k,tu≠.int k) (hi:P.info? e=some i) (hz':i.zero=some z)
  {base:Option Addr} {n cap m:Nat} {x:Value} {olds news:List Value} (hx:Zbo P w i.size m x news) (ho:∀ w2:World,w2.heap=w.heap→(Builtin.firstCells i.size n (.slice base n cap)).run P w2 = .ok olds.toArray w2)
  (hg:cap < n + m) (h63:((n + m:Nat):Int)≤9223372036854775807) (hfit:(n + m) * i.bytes≤140737488355328) :
  (Builtin.append_ #[t,u] ty #[.slice base n cap,x]).run P w =
   .ok (.slice (some ⟨w.heap.size,0,none⟩) (n + m) (grownCap w (n + m) cap e))
    (w.drew.alloc (.cells (olds++news++(Builtin.zeroCells z.cells (grownCap w (n + m) cap e - (n + m))).toList).toArray e)):=by
 obtain ⟨hx1,hx2⟩:=hx
 have hx2:=hx2 w.drew rfl
 have ho:=ho w.drew rfl
 have hz:(match tu with | .int _=>true | _=>false)=false:=by cases tu <;> first | rfl | exact absurd rfl (hnu _)
 have hn:¬ (n + m≤cap):=by omega
 have h63':¬ (9223372036854775807 < ((n:Int) + (m:Int))):=by omega
 have hf:=growslice_fits hg hfit
 have h48':¬ (281474976710656 < Builtin.nextslicecap (n + m) cap * i.bytes):=by omega
 simp [Builtin.append_,run_underlying ht,run_underlying hu,hz,sizeOf,typeInfo,zeroValue,hi,hz',hx1,hn,h63',h48',Question.forced,hx2,ho,newRow,grownCap]
 congr 2
 apply Array.ext'
 simp [List.append_assoc]
end
end Go.DL
namespace Go.DL
open Go
variable [Znt]
structure Qd (g:G) (w:World) (sz n:Nat) (vals:List Value) (row:Nat→List D):Prop where
 len:vals.length=n * sz
 rlen:∀ i,i < n→(row i).length=sz
 rep:∀ (i j:Nat) (v:Value) (d:D),i < n→j < sz→vals[i * sz + j]? = some v→(row i)[j]? = some d→Rep g w v d
 one:∀ v∈vals,v.one1=true
def K6 (n:Nat) (row row2:Nat→List D):Nat→List D:=fun i=>if i < n then row i else row2 (i - n)
theorem Qd.append {g:G} {w:World} {sz n m:Nat} {a b:List Value} {row row2:Nat→List D} (ha:Qd g w sz n a row) (hb:Qd g w sz m b row2):Qd g w sz (n + m) (a++b) (K6 n row row2):={
 len:=by rw [ZvT,ha.len,hb.len,Nat.add_mul]
 rlen i hi:=by
  unfold K6
  split
  ·rename_i h; exact ha.rlen i h
  ·exact hb.rlen (i - n) (by omega)
 rep i j v d hi hj hv hd:=by
  unfold K6 at hd
  split at hd
  ·rename_i h
   have:i * sz + j < a.length:=by
    rw [ha.len]
    have:=Nat.mul_le_mul_right sz (show i + 1≤n from h)
    rw [Nat.add_mul,Nat.one_mul] at this; omega
   rw [List.getElem?_append_left this] at hv
   exact ha.rep i j v d h hj hv hd
  ·rename_i h
   have e:i * sz + j - a.length=(i - n) * sz + j:=by
    rw [ha.len,Nat.sub_mul]
    have:=Nat.mul_le_mul_right sz (show n≤i by omega)
    omega
   have hge:a.length≤i * sz + j:=by
    rw [ha.len]
    have:=Nat.mul_le_mul_right sz (show n≤i by omega)
    omega
   rw [List.getElem?_append_right hge,e] at hv
   exact hb.rep (i - n) j v d (by omega) hj hv hd
 one v hv:=by
  rcases List.mem_append.1 hv with h | h
  ·exact ha.one v h
  ·exact hb.one v h }
theorem Qd.mono {g g':G} {w w':World} {sz n:Nat} {a:List Value} {row:Nat→List D} (h:Qd g w sz n a row) (e:Ext g w g' w'):Qd g' w' sz n a row :=
 ⟨h.len,h.rlen,fun i j v d hi hj hv hd=>(h.rep i j v d hi hj hv hd).mono e,h.one⟩
theorem ZbV {w:World} {b o:Nat} {cs:Array Value} {T:TypeId} {fr:Nat × Nat} (h:w.heap[b]? = some (.cells cs T fr)):w.cell? ⟨b,o,none⟩=cs[o]?:=by
 unfold World.cell?; simp [h]
section
variable {P:Program}
theorem ZgD {g:G} {w:World} {v:Value} {t:Tok} {n sz:Nat} {row:Nat→List D} (h:Rep g w v (.sl t n sz row)) (hsz:0 < sz) :
  ∃ vals,Qd g w sz n vals row∧Zbo P w sz n v vals:=by
 cases h with
 | sl0 a t s row ht =>
  refine ⟨[],⟨by simp,fun i hi=>by omega,fun i j v d hi=>by omega,by simp⟩,fun w2=>by simp [Builtin.lenOf],fun w2 _=>by cases a <;> simp [Builtin.firstCells,loadCells,loadCellsFrom]⟩
 | sl b o n cap s row t f hl hc hp hr one ht hcap hb =>
  let vals:=(List.range (n * sz)).map fun k=>f (k / sz) (k % sz)
  have hk:∀ k,k < n * sz→k / sz < n∧k % sz < sz:=fun k hk=>⟨(Nat.div_lt_iff_lt_mul hsz).2 hk,Nat.mod_lt _ hsz⟩
  have hvals:∀ k v,vals[k]? = some v→k < n * sz∧v=f (k / sz) (k % sz):=fun k v hv=>by
   simp only [vals,List.getElem?_map,ZvO] at hv
   obtain ⟨k',h1,h2⟩:=hv
   obtain ⟨h3,h4⟩:=List.getElem?_eq_some_iff.1 h1
   simp only [List.getElem_range] at h4
   subst h4
   exact ⟨by simpa using h3,h2.symm⟩
  refine ⟨vals,⟨by simp [vals],hl,fun i j v d hi hj hv hd=>?_,fun v hv=>?_⟩,fun w2=>by simp [Builtin.lenOf],fun w2 hw2=>?_⟩
  ·obtain ⟨_,rfl⟩:=hvals _ _ hv
   have e1:(i * sz + j) / sz=i:=by rw [Nat.mul_comm,Nat.mul_add_div hsz,Nat.div_eq_of_lt hj,Nat.add_zero]
   have e2:(i * sz + j) % sz=j:=by rw [Nat.mul_comm,Nat.mul_add_mod,Nat.mod_eq_of_lt hj]
   rw [e1,e2]
   exact hr i j d hi hd
  ·obtain ⟨k,hk',rfl⟩:=ZvX hv
   obtain ⟨h1,h2⟩:=hvals k _ (List.getElem?_eq_getElem hk')
   rw [h2]
   exact one _ _ (hk k h1).1 (hk k h1).2
  ·refine run_firstCells_some (P:=P) w2 sz n ⟨b,o,none⟩ n cap vals (by simp [vals]) fun k v hv=>?_
   obtain ⟨h1,h2⟩:=hvals k v hv
   have hadd:(⟨b,o,none⟩:Addr).add k=⟨b,o + k,none⟩:=Qj b o k
   rw [hadd]
   have h3:=hc (k / sz) (k % sz) (hk k h1).1 (hk k h1).2
   have e:o + k / sz * sz + k % sz=o + k:=by rw [Nat.add_assoc,Nat.mul_comm,Nat.div_add_mod]
   rw [e] at h3
   rw [h2,← h3]
   unfold World.cell?; simp only [hw2]
theorem Zk5 {g:G} {w:World} {sz n cap b:Nat} {vals:List Value} {row:Nat→List D} (h:Qd g w sz n vals row) {cur:Array Value} {T:TypeId} (hb:w.heap[b]? = some (.cells cur T (0,0)))
  (ht:cur.toList.take (n * sz)=vals) (hn:n≤cap) (hcap:cap * sz≤cur.size) (hp:g.prot b=n * sz) (hbig:cap≤big):Rep g w (.slice (some ⟨b,0,none⟩) n cap) (.sl (.tip b) n sz row):=by
 have hidx:∀ i j,i < n→j < sz→i * sz + j < n * sz:=fun i j hi hj=>by
  have:=Nat.mul_le_mul_right sz (show i + 1≤n from hi)
  rw [Nat.add_mul,Nat.one_mul] at this; omega
 have hle:n * sz≤cur.size:=Nat.le_trans (Nat.mul_le_mul_right sz hn) hcap
 have hcell:∀ i j,i < n→j < sz→cur[i * sz + j]? = some (cur.getD (i * sz + j) undef)∧vals[i * sz + j]? = some (cur.getD (i * sz + j) undef):=fun i j hi hj=>by
  have h1:=hidx i j hi hj
  have h2:i * sz + j < cur.size:=by omega
  have e:cur[i * sz + j]? = some (cur.getD (i * sz + j) undef):=by simp [Array.getD,h2]
  refine ⟨e,?_⟩
  rw [← ht,List.getElem?_take,if_pos h1,Array.getElem?_toList]; exact e
 refine .sl b 0 n cap sz row (.tip b) (fun i j=>cur.getD (i * sz + j) undef) h.rlen (fun i j hi hj=>?_) (fun i j hi hj=>?_) (fun i j d hi hd=>?_) (fun i j hi hj=>?_) ⟨rfl,rfl,T,cur.size,?_,hcap⟩ hn hbig
 ·rw [ZbV hb,Nat.zero_add]; exact (hcell i j hi hj).1
 ·rw [hp,Nat.zero_add]; exact hidx i j hi hj
 ·have hj:j < sz:=by rw [← h.rlen i hi]; exact (List.getElem?_eq_some_iff.1 hd).1
  exact h.rep i j _ d hi hj (hcell i j hi hj).2 hd
 ·exact h.one _ (List.mem_of_getElem? (hcell i j hi hj).2)
 ·simp [hdr,hb]
end
end Go.DL
namespace Go.DL
open Go
variable [Znt]
def St.own (s:St) (t:Tok) (k:Nat):St :=
 match t with
 | .tip b=>s.upd b (.tip k)
 | _=>s
def Tok.okIn (t:Tok) (s:St):Prop :=
 match t with
 | .tip b=>s b=Option.none
 | .full=>True
 | .none=>False
theorem Yo {s:St} {t:Tok} {k:Nat} (h:t.okIn s):s.sub (s.own t k):=by
 intro b o ho
 cases t with
 | tip c =>
  simp only [St.own,St.upd]
  by_cases hb:b=c
  ·subst hb; simp only [Tok.okIn] at h; rw [h] at ho; simp at ho
  ·simp only [hb,if_false]; exact ho
 | _=>exact ho
theorem Wo.upd {g:G} {s:St} {w:World} (h:Wo g s w) {b:Nat} {o:Y6} (ho:Qb g w b o) (hk:¬ g.kept b):Wo g (s.upd b o) w:={
 obj c x hx:=by
  simp only [St.upd] at hx
  by_cases hb:c=b
  ·simp only [hb,if_true,ZvD] at hx; subst hx; rw [hb]; exact ho
  ·simp only [hb,if_false] at hx; exact h.obj c x hx
 kept c x hx:=by
  simp only [St.upd] at hx
  by_cases hb:c=b
  ·rw [hb]; exact hk
  ·simp only [hb,if_false] at hx; exact h.kept c x hx
 fresh:=h.fresh
 tabs:=h.tabs }
def Zcs (g:G) (b k:Nat):G:={ g with prot:=fun c=>if c=b then k else g.prot c }
theorem Zs3 {g:G} {w:World} (c:Array Value) (T:TypeId) (k:Nat) (hf:∀ b,w.heap.size≤b→g.prot b=0∧¬ g.kept b):Zau g w (Zcs g w.heap.size k) (w.drew.alloc (.cells c T)):={
 size:=by simp
 old b hb:=(by first | exact heap_alloc_old w.drew _ b hb | exact heap_alloc_old w.drew _ hb)
 prot b hb:=by simp [Zcs,show ¬ b=w.heap.size by omega]
 fresh b hb:=by
  have:(w.drew.alloc (.cells c T)).heap.size=w.heap.size + 1:=by simp
  rw [this] at hb
  simp only [Zcs,show ¬ b=w.heap.size by omega,if_false]
  exact (hf b (by omega)).1
 kept:=rfl
 os:=rfl
 output:=rfl
 tape:=rfl }
theorem Rep.slRow {g:G} {w:World} {v:Value} {t:Tok} {n sz:Nat} {row row':Nat→List D} (h:Rep g w v (.sl t n sz row)) (hr:∀ i,i < n→row' i=row i):Rep g w v (.sl t n sz row'):=by
 cases h with
 | sl0 a t s row ht=>exact .sl0 a t sz row' ht
 | sl b o n cap s row t f hl hc hp hrep one ht hcap hb =>
  exact .sl b o n cap sz row' t f (fun i hi=>by rw [hr i hi]; exact hl i hi) hc hp (fun i j d hi hd=>hrep i j d hi (by rw [← hr i hi]; exact hd)) one ht hcap hb
section
variable {P:Program}
theorem ZtM {g:G} {w:World} {s:St} {sz k:Nat} {vals rest:List Value} {row:Nat→List D} {T:TypeId} {cap:Nat} (hs:Wo g s w) (hr:Qd g w sz k vals row) (hn:k≤cap) (hrest:vals.length + rest.length=cap * sz) (hbig:cap≤big) :
  let w':=w.drew.alloc (.cells (vals++rest).toArray T)
  let g':=Zcs g w.heap.size (k * sz)
  Zau g w g' w'∧Wo g' (s.own (.tip w.heap.size) (k * sz)) w'∧(Tok.tip w.heap.size).okIn s∧Rep g' w' (.slice (some ⟨w.heap.size,0,none⟩) k cap) (.sl (.tip w.heap.size) k sz row):=by
 intro w' g'
 have hg:Zau g w g' w':=Zs3 _ T _ hs.fresh
 have hnew:w'.heap[w.heap.size]? = some (.cells (vals++rest).toArray T (0,0)):=heap_alloc_new w.drew _
 have hp:g'.prot w.heap.size=k * sz:=by simp [g',Zcs]
 have hle:k * sz≤(vals++rest).toArray.size:=by
  have:=Nat.mul_le_mul_right sz hn
  simp only [List.size_toArray,ZvT]; omega
 refine ⟨hg,(hs.grow hg).upd ⟨hp,_,T,hnew,hle⟩ (fun h=>(hs.fresh _ (ZvR _)).2 h),?_,?_⟩
 ·simp only [Tok.okIn]
  cases hsb:s w.heap.size with
  | none=>rfl
  | some o=>have:=(hs.obj _ o hsb).lt; omega
 ·refine Zk5 (hr.mono (hg.ext hs.fresh)) hnew ?_ hn ?_ hp hbig
  ·rw [← hr.len]; simp
  ·simp only [List.size_toArray,ZvT]; omega
theorem Zny {g:G} {w:World} {s:St} {t:Tok} {sz n m:Nat} {v1 v2:Value} {row row2:Nat→List D} {tT u ty e:TypeId} {tu:TypeDesc} {i:TypeInfo} {z:Value} (ht:P.underlying tT=some (.slice e)) (hu:P.underlying u=some tu) (hnu:∀ k,tu≠.int k)
  (hi:P.info? e=some i) (hz:i.zero=some z) (hsz:i.size=sz) (hzc:z.cells.size=sz) (h0:0 < sz) (hs:Wo g (s.own t (n * sz)) w) (hok:t.okIn s) (h1:Rep g w v1 (.sl t n sz row)) {news:List Value}
  (h2:Qd g w sz m news row2) (h3:Zbo P w sz m v2 news) (hb:(n + m) * i.bytes≤140737488355328) (hbig:n + m≤big) :
  ∃ v' w' g' t',(Builtin.append_ #[tT,u] ty #[v1,v2]).run P w = .ok v' w'∧Ext g w g' w'∧Wo g' (s.own t' ((n + m) * sz)) w'∧t'.okIn s∧Rep g' w' v' (.sl t' (n + m) sz (K6 n row row2)) ∧
   (∀ b,b < w.heap.size→t≠.tip b→w'.heap[b]? = w.heap[b]?∧g'.prot b=g.prot b)∧∀ b,t' = .tip b→t = .tip b∨w.heap.size≤b:=by
 subst hsz
 have hs0:Wo g s w:=hs.sub (Yo hok)
 obtain ⟨olds,hr1,ho1,ho2⟩:=ZgD (P:=P) h1 h0
 have hrr:=hr1.append h2
 have grown:∀ base cap,v1 = .slice base n cap→cap < n + m→∃ v' w' g' t',(Builtin.append_ #[tT,u] ty #[v1,v2]).run P w = .ok v' w'∧Ext g w g' w'∧Wo g' (s.own t' ((n + m) * i.size)) w'∧t'.okIn s ∧
   Rep g' w' v' (.sl t' (n + m) i.size (K6 n row row2))∧(∀ b,b < w.heap.size→t≠.tip b→w'.heap[b]? = w.heap[b]?∧g'.prot b=g.prot b)∧∀ b,t' = .tip b→t = .tip b∨w.heap.size≤b:=by
  intro base cap hv hlt
  subst hv
  have hrun:=Zjp (ty:=ty) ht hu hnu hi hz h3 ho2 hlt (by simp only [big] at hbig; omega) hb
  have hge:=grownCap_ge w (n + m) cap e
  have hle:=grownCap_le_maxLen w (n + m) cap e (by simp only [big] at hbig; simp only [maxLen]; omega)
  have hn:=ZtM (T:=e) (rest:=(Builtin.zeroCells z.cells (grownCap w (n + m) cap e - (n + m))).toList) hs0 hrr hge (by
   simp only [Array.length_toList,size_zeroCells,hzc,hrr.len,← Nat.add_mul]; congr 1; omega) (by simp only [maxLen] at hle; simp only [big]; omega)
  obtain ⟨a1,a2,a3,a4⟩:=hn
  exact ⟨_,_,_,_,hrun,a1.ext hs0.fresh,a2,a3,a4,fun b hb _=>⟨a1.old b hb,a1.prot b hb⟩,fun b hb=>.inr (by simp only [Tok.tip.injEq] at hb; omega)⟩
 have stay:∀ base cap,v1 = .slice base n cap→m=0→n≤cap→∃ v' w' g' t',(Builtin.append_ #[tT,u] ty #[v1,v2]).run P w = .ok v' w'∧Ext g w g' w'∧Wo g' (s.own t' ((n + m) * i.size)) w'∧t'.okIn s ∧
   Rep g' w' v' (.sl t' (n + m) i.size (K6 n row row2))∧(∀ b,b < w.heap.size→t≠.tip b→w'.heap[b]? = w.heap[b]?∧g'.prot b=g.prot b)∧∀ b,t' = .tip b→t = .tip b∨w.heap.size≤b:=by
  intro base cap hv hm hle
  subst hv; subst hm
  have hne:news=[]:=List.eq_nil_of_length_eq_zero (by simpa using h2.len)
  subst hne
  exact ⟨_,_,g,t,Zl1 (ty:=ty) ht hu hnu hi h3 hle,Ext.refl g w,hs,hok,h1.slRow fun i hi=>by simp only [K6,if_pos (show i < n from hi)],fun _ _ _=>⟨rfl,rfl⟩,fun b hb=>.inl hb⟩
 cases h1 with
 | sl0 a t s row htt =>
  by_cases hm:m=0
  ·exact stay a 0 rfl hm (ZvR _)
  ·exact grown a 0 rfl (by omega)
 | sl b o n cap sz row t f hl hc hp hr one htok hcap hb' =>
  have hgr:=grown (some ⟨b,o,none⟩) cap rfl
  have hst:=stay (some ⟨b,o,none⟩) cap rfl
  by_cases hm:m=0
  ·exact hst hm hcap
  by_cases hroom:n + m≤cap
  case neg=>exact hgr (by omega)
  cases t with
  | none=>exact hok.elim
  | full=>simp only [Zil] at htok; omega
  | tip tb =>
   obtain ⟨rfl,rfl,T0,m0,hh,hm0⟩:=htok
   have hobj:=hs.obj b (.tip (n * i.size)) (by simp [St.own,St.upd])
   have hkept:=hs.kept b (.tip (n * i.size)) (by simp [St.own,St.upd])
   obtain ⟨hp0,cur,T,hb1,hb2⟩:=hobj
   have hcs:cap * i.size≤cur.size:=by
    simp only [hdr,hb1,ZvD,ZvL] at hh
    omega
   have hfit:n * i.size + news.length≤cur.size:=by
    rw [h2.len,← Nat.add_mul]; exact Nat.le_trans (Nat.mul_le_mul_right _ hroom) hcs
   have hrun:=Znz (ty:=ty) ht hu hnu hi h3 hb1 (fun v hv=>by rw [ZcQ]; exact h2.one v hv) hroom hfit
   have hcells:∀ k v,(cur.toList.take (n * i.size))[k]? = some v→w.cell? ((⟨b,0,none⟩:Addr).add k)=some v:=fun k v hv=>by
    rw [Qj,ZbV hb1,Nat.zero_add]
    rw [List.getElem?_take] at hv
    split at hv
    ·simpa using hv
    ·simp at hv
   have hol:olds=cur.toList.take (n * i.size):=by
    have h:=run_firstCells_some (P:=P) w i.size n ⟨b,0,none⟩ n cap (cur.toList.take (n * i.size)) (by simp; omega) hcells
    rw [ho2 w rfl] at h
    simpa using h
   generalize hnw:cur.toList.take (n * i.size)++news++cur.toList.drop (n * i.size + news.length)=nw at hrun
   have hnl:nw.length=cur.size:=by
    rw [← hnw]; simp only [ZvT,List.length_take,List.length_drop,Array.length_toList]; omega
   have hh':=setRow_heap w b cur nw.toArray T (0,0) hb1
   have ho':∀ c,c≠b→(w.setRow b nw.toArray).heap[c]? = w.heap[c]?:=fun c hc=>setRow_other w b c _ hc
   have hsz':(w.setRow b nw.toArray).heap.size=w.heap.size:=by simp [World.setRow]
   have hk2:n * i.size≤(n + m) * i.size:=Nat.mul_le_mul_right _ (by omega)
   have hext:Ext g w (Zcs g b ((n + m) * i.size)) (w.setRow b nw.toArray):=by
    refine ⟨by omega,fun c=>?_,fun c o ho=>?_,fun c x hx=>?_,fun c hc=>ho' c (fun h=>hkept (h ▸ hc)),fun c hc=>?_,rfl,rfl,rfl,rfl⟩
    ·simp only [Zcs]
     split
     ·rename_i h; rw [h,hp0]; exact hk2
     ·exact ZvR _
    ·by_cases hc:c=b
     ·subst hc
      rw [ZbV hh',ZbV hb1]
      rw [hp0] at ho
      have:o < (cur.toList.take (n * i.size)).length:=by simp; omega
      rw [List.getElem?_toArray,← hnw,List.append_assoc,List.getElem?_append_left this,List.getElem?_take,if_pos ho]
      simp
     ·exact JY (ho' c hc)
    ·by_cases hc:c=b
     ·subst hc
      simp only [hdr,hb1] at hx
      simp only [hdr,hh',List.size_toArray,hnl]; exact hx
     ·rw [Zbs (ho' c hc)]; exact hx
    ·simp only [Zcs]
     split
     ·rename_i h; exact absurd hc (h ▸ hkept)
     ·rfl
   have hp':(Zcs g b ((n + m) * i.size)).prot b=(n + m) * i.size:=by simp [Zcs]
   refine ⟨_,_,Zcs g b ((n + m) * i.size),.tip b,hrun,hext,?_,hok,?_,fun c _ hc=>?_,fun c hc=>.inl hc⟩
   ·refine ⟨fun c x hx=>?_,fun c x hx=>?_,fun c hc=>?_,fun n cs hc=>(hs0.tabs n cs hc).mono hext⟩
    ·by_cases hc:c=b
     ·subst hc
      simp only [St.own,St.upd,if_true,ZvD] at hx
      subst hx
      refine ⟨hp',_,T,hh',?_⟩
      simp only [List.size_toArray,hnl]
      exact Nat.le_trans (Nat.mul_le_mul_right _ hroom) hcs
     ·simp only [St.own,St.upd,hc,if_false] at hx
      exact (hs0.obj c x hx).mono hext (ho' c hc) (by simp [Zcs,hc])
    ·by_cases hc:c=b
     ·rw [hc]; exact hkept
     ·simp only [St.own,St.upd,hc,if_false] at hx
      exact hs0.kept c x hx
    ·rw [hsz'] at hc
     have hbl:b < w.heap.size:=(Array.getElem?_eq_some_iff.1 hb1).1
     simp only [Zcs,show ¬ c=b by omega,if_false]
     exact hs0.fresh c hc
   ·refine Zk5 (hrr.mono hext) hh' ?_ hroom (by simp only [List.size_toArray,hnl]; exact hcs) hp' hb'
    have hl2:(olds++news).length=(n + m) * i.size:=hrr.len
    rw [← hnw,hol,← hl2,hol]
    exact List.take_left
   ·have:c≠b:=fun h=>hc (by rw [h])
    exact ⟨ho' c this,by simp [Zcs,this]⟩
end
end Go.DL
namespace Go.DL
open Go Go.Lib
variable [Znt]
def Zbr (s:Nat):D→Option (Nat × (Nat→List D))
 | .nilsl=>some (0,fun _=>[])
 | .sl _ m s' row=>if s'=s then some (m,row) else none
 | .str l=>if s=1 then some (l.length,fun i=>[.int .u8 ((l.getD i 0).toNat:Int)]) else none
 | _=>none
def Zd5 (s:Nat):D→Option (Tok × Nat × (Nat→List D))
 | .nilsl=>some (.full,0,fun _=>[])
 | .sl t n s' row=>if s'=s then some (t,n,row) else none
 | _=>none
theorem Zim {g:G} {w:World} {v:Value} {d:D} {sz n:Nat} {t:Tok} {row:Nat→List D} (h:Rep g w v d) (he:Zd5 sz d=some (t,n,row)):Rep g w v (.sl t n sz row):=by
 cases d <;> simp only [Zd5,reduceCtorEq] at he
 ·simp only [ZvD,ZvL] at he
  obtain ⟨rfl,rfl,rfl⟩:=he
  cases h
  exact .sl0 _ _ _ _ (by simp)
 ·split at he <;> simp only [ZvD,ZvL,reduceCtorEq] at he
  rename_i hs
  obtain ⟨rfl,rfl,rfl⟩:=he
  subst hs; exact h
section
variable {P:Program}
theorem Zdf {op:Op} {e s b:Nat} {z:List D} {x y:Opd} (h:ck P op=some (.append e s b z x y)) :
  ∃ x' y' args ats t1 t2 tu,op = .call ⟨.builtin .append,args,ats⟩∧args.toList=[x',y']∧ats[0]? = some t1∧ats[1]? = some t2∧P.underlying t1=some (.slice e)∧P.underlying t2=some tu∧(∀ k,tu≠.int k) ∧
   YD P e=some s∧ZaL P e=some z∧b=P.bytesOf e∧YJ x'=some x∧YJ y'=some y∧0 < s∧z.length=s:=by
 unfold ck at h
 split at h
 ·simp at h
 ·split at h <;> (try (simp at h; done))
  all_goals (try (repeat' (split at h <;> (try (simp at h; done)))))
  all_goals
   simp only [ZvD,K.append.injEq] at h
   obtain ⟨rfl,rfl,rfl,rfl,rfl,rfl⟩:=h
  ·rename_i c _ _ hcal _ _ _ e' x' y' h0 hargs _ _ _ _ s' z' l' c' hs' hz' hx' hy' t2 el h1 hdec
   obtain ⟨t1,g1,g2⟩:=Option.bind_eq_some_iff.1 h0
   obtain ⟨t3,g3,g4⟩:=Option.bind_eq_some_iff.1 h1
   simp only [ZvN,decide_eq_true_eq] at hdec
   obtain ⟨callee,args,ats⟩:=c
   simp only at hcal
   subst hcal
   exact ⟨x',y',args,ats,t1,t3,_,rfl,hargs,g1,g3,g2,g4,fun k h=>by simp at h,hs',hz',rfl,hx',hy',hdec.1,hdec.2⟩
  ·rename_i c _ _ hcal _ _ _ e' x' y' h0 hargs _ _ _ _ s' z' l' c' hs' hz' hx' hy' t2 h1 hdec
   obtain ⟨t1,g1,g2⟩:=Option.bind_eq_some_iff.1 h0
   obtain ⟨t3,g3,g4⟩:=Option.bind_eq_some_iff.1 h1
   simp only [ZvN,decide_eq_true_eq] at hdec
   obtain ⟨callee,args,ats⟩:=c
   simp only at hcal
   subst hcal
   exact ⟨x',y',args,ats,t1,t3,_,rfl,hargs,g1,g3,g2,g4,fun k h=>by simp at h,hs',hz',rfl,hx',hy',hdec.1,hdec.2⟩
theorem Zn0 {g:G} {w:World} {v:Value} {d:D} {sz m:Nat} {row:Nat→List D} (h:Rep g w v d) (he:Zbr sz d=some (m,row)) (h0:0 < sz):∃ news,Qd g w sz m news row∧Zbo P w sz m v news:=by
 cases d with
 | nilsl =>
  simp only [Zbr,ZvD,ZvL] at he
  obtain ⟨rfl,rfl⟩:=he
  cases h
  exact ⟨[],⟨by simp,fun i hi=>by omega,fun i j v d hi=>by omega,by simp⟩,fun w2=>by simp [Builtin.lenOf],fun w2 _=>by simp [Builtin.firstCells]⟩
 | sl t n s' row' =>
  simp only [Zbr] at he
  split at he <;> simp only [ZvD,ZvL,reduceCtorEq] at he
  rename_i hs
  obtain ⟨rfl,rfl⟩:=he
  subst hs
  exact ZgD h h0
 | str l =>
  simp only [Zbr] at he
  split at he <;> simp only [ZvD,ZvL,reduceCtorEq] at he
  rename_i hs
  obtain ⟨rfl,rfl⟩:=he
  subst hs
  cases h with
  | str s _ hl hb =>
   subst hl
   have hsz:s.size=s.data.toList.length:=by rw [Array.length_toList]; rfl
   refine ⟨strCells s,⟨by simp [strCells],fun i hi=>rfl,fun i j v d hi hj hv hd=>?_,fun v hv=>by rw [← ZcQ]; exact strCells_oneCell s v hv⟩,fun w2=>by simp only [Builtin.lenOf,Sem.run_pure,hsz],fun w2 _=>?_⟩
   ·obtain rfl:j=0:=by omega
    simp only [Nat.mul_one,Nat.add_zero,strCells,List.getElem?_map,ZvO] at hv
    obtain ⟨b,hb1,rfl⟩:=hv
    simp only [List.getElem?_cons_zero,ZvD] at hd
    subst hd
    have:s.data.toList.getD i 0=b:=by simp only [List.getD,hb1,Option.getD_some]
    rw [this]
    exact .int .u8 _ (Zod b)
   ·rw [← hsz]; exact run_firstCells_string w2 1 s
 | _=>simp [Zbr] at he
theorem Zrk {F:Fr P} {kp:Option (List Nat)} {dk:List Zp} {o:DOp} {os:List DOp} {ρ:Env} {L:Loc} {s:St} (hg:Zu ρ o.guard=some true) {e sz b:Nat} {z:List D} {x y:Opd} (hk:o.k = .append e sz b z x y)
  {p q:Prop} {t:Tok} {n m:Nat} {row row2:Nat→List D} {dy:D} {dx:D} (hx:ZV ρ true x=some (p,.d dx)) (hsl:Zd5 sz dx=some (t,n,row)) (hy:ZV ρ true y=some (q,.d dy)) (hp:p) (hq:q) (hel:Zbr sz dy=some (m,row2)) (hok:t.okIn s)
  (hb:(n + m) * b≤140737488355328) (hbig:n + m≤big) (h:∀ t':Tok,t'.okIn s→DO F kp dk os (ZQ ρ o.dst (.d (.sl t' (n + m) sz (K6 n row row2)))) L (s.own t' ((n + m) * sz))) :
  DO F kp dk (o :: os) ρ L (s.own t (n * sz)):=by
 refine KL fun oo g ν w tmps ops i r k hoo hck hcg hdst hd hN M hr hkk=>?_
 have hw:=Y7 M hcg hg
 have hnd:=Wp hck (by rw [hk]; rfl)
 rw [hk] at hck
 obtain ⟨x',y',args,ats,t1,t2,tu,hop,hargs,ha1,ha2,hu1,hu2,hnu,hsz,hz,hbb,hx',hy',h0,hzl⟩:=Zdf hck
 subst hbb
 have hr1:Rep g w _ (.sl t n sz row):=Zim (Y2 M hx' rfl hx hp F.ds) hsl
 have hr2:Rep g w _ _:=Y2 M hy' rfl hy hq F.ds
 obtain ⟨zv,hz1,hz2,hz3,ie,hie,hzz⟩:=J8 (g:=g) (w:=w) hz
 have hsize:ie.size=sz:=by simpa [YD,hie] using hsz
 have hzlen:zv.cells.size=sz:=by have:=hz2.len; simp at this; omega
 have hby:P.bytesOf e=ie.bytes:=by simp [Program.bytesOf,hie]
 rw [hby] at hb
 obtain ⟨news,hn1,hn2⟩:=Zn0 (P:=P) hr2 hel h0
 obtain ⟨v',w',g',t',a1,a2,a3,a4,a5,a6,a7⟩:=Zny (ty:=oo.type) hu1 hu2 hnu hie hzz hsize hzlen h0 M.st hok hr1 hn1 hn2 hb hbig
 have hne:∀ l cs,Zl L l=some cs→t≠.tip (ν l):=fun l cs hl ht=>by
  have:=M.locSt l cs hl
  rw [ht] at this
  simp [St.own,St.upd] at this
 have hsn:∀ l cs,Zl L l=some cs→s (ν l)=none:=fun l cs hl=>by
  cases hx:s (ν l) with
  | none=>rfl
  | some o=>have:=Yo (k:=n * sz) hok _ _ hx; rw [M.locSt l cs hl] at this; simp at this
 have mm:ZI g' ν w' tmps ρ L (s.own t' ((n + m) * sz)):=by
  refine ⟨a3,fun l cs hl=>(M.loc l cs hl).mono a2 (a6 (ν l) (M.loc l cs hl).lt (hne l cs hl)).1 (a6 (ν l) (M.loc l cs hl).lt (hne l cs hl)).2,fun l cs hl=>by rw [a2.keptEq]; exact M.locKept l cs hl,fun l cs hl=>?_,M.inj,fun t e he=>(M.env t e he).mono a2⟩
  cases t' with
  | tip b =>
   have:¬ ν l=b:=fun hb=>by
    rcases a7 b rfl with h1 | h1
    ·exact hne l cs hl (by rw [hb]; exact h1)
    ·have:=(M.loc l cs hl).lt; omega
   simp only [St.own,St.upd,this,if_false]; exact hsn l cs hl
  | _=>exact hsn l cs hl
 refine Kf hN hoo hdst hd hw hnd (v:=v') (w':=w') (e:=.d (.sl t' (n + m) sz (K6 n row row2))) ?_ a2 mm a5 (h t' a4 ops r k hr hkk)
 have hae:args = #[x',y']:=by apply Array.ext'; simpa using hargs
 have hats:∀ vs,Builtin.append_ ats oo.type vs=Builtin.append_ #[t1,t2] oo.type vs:=fun vs=>by
  unfold Builtin.append_; simp [ha1,ha2]
 unfold execOp
 simp only [hop,hae,resolve,invoke,builtin,Sem.run_bind,Sem.run_pure,Result.andThen_ok,List.map_toArray,List.map_cons,List.map_nil,hats,a1]
end
end Go.DL
namespace Go.DL
open Go
variable [Znt]
def JA (os:List DOp):List (DOp × List Nat):=os.map fun o=>(o,[])
section
variable {P:Program}
def ZdX (F:Fr P) (kp:Option (List Nat)) (dk:List Zp) (os:List DOp) (ρ:Env) (L:Loc) (s:St):Prop:=∀ B,DOA F kp dk (JA os) ρ L s B
theorem Zb7 {F:Fr P} {order:List Nat} {os:List DOp} {ks:Option (List Nat)} {dk:List Zp} {ρ:Env} {L:Loc} {s:St} (h:ZdX F ks dk os ρ L s):ZD F (.code (.regD order (JA os) ks) :: dk) ρ L s:=Zdb (h [])
theorem Qv {F:Fr P} {ks:List Nat} {dk:List Zp}:∀ {os:List DOp} {ρ:Env} {L:Loc} {s:St},
  Zhi (fun ρ L s=>ZD F dk (Wy ρ ks) (ZbI (Wy ρ ks) L) s) (fun os ρ L s=>ZdX F (some ks) dk os ρ L s) os ρ L s→ZdX F (some ks) dk os ρ L s
 | [],ρ,L,s,h=>fun B=>Zlc h
 | o :: os,ρ,L,s,h=>by
  intro B
  simp only [Zhi] at h
  split at h
  ·rename_i sd ρ' L' s' hst
   refine Zad hst h.1 ?_
   split
   ·exact Qv h.2 _
   ·exact ⟨Zai,Qv h.2 _⟩
  ·rename_i sd pre ρ' s' hst
   exact Zps hst h.1 fun b hb=>⟨Zai,Qv (h.2 b hb) _⟩
  ·exact h B
theorem Zp3 {F:Fr P} {kp:Option (List Nat)} {dk:List Zp} {o:DOp} {os:List DOp} {ρ:Env} {L:Loc} {s:St} (hg:Zu ρ o.guard=some true) {fx:Opd} {xs:List Opd} (hk:o.k = .call fx xs)
  {p q:Prop} {fd:D} {es:List E} {ds:List D} (hf:ZV ρ true fx=some (q,.d fd)) (ha:Wc ρ true xs=some (p,es)) (hds:K4 es=some ds) (hp:p) (hq:q)
  {Ψ:Res→St→Prop} (hc:Qw P fd ds s Ψ)
  (hret:∀ d s',Ψ (.ret d) s'→ZdX F kp dk os (ZQ ρ o.dst (.d d)) L s') (hpan:∀ d s',Ψ (.panic d) s'→Kw F [] [] d s'):ZdX F kp dk (o :: os) ρ L s :=
 fun B=>ZeN hg hk hf ha hds hp hq hc (fun d s' h=>⟨Zai,hret d s' h _⟩) hpan
theorem Zg3 {F:Fr P} {kp:Option (List Nat)} {dk:List Zp} {o:DOp} {os:List DOp} {ρ:Env} {L:Loc} {s:St} (hg:Zu ρ o.guard=some true) {fx:Opd} {xs:List Opd} (hk:o.k = .call fx xs)
  {p q:Prop} {fi:FuncId} {first caps:List D} {es:List E} {ds:List D} (hf:ZV ρ true fx=some (q,.d (.fn (.func fi) first caps))) (ha:Wc ρ true xs=some (p,es)) (hds:K4 es=some ds) (hp:p) (hq:q)
  {Ψ:Res→St→Prop} (hc:ZK P fi (first++ds++caps) s Ψ)
  (hret:∀ d s',Ψ (.ret d) s'→ZdX F kp dk os (ZQ ρ o.dst (.d d)) L s') (hpan:∀ d s',Ψ (.panic d) s'→Kw F [] [] d s'):ZdX F kp dk (o :: os) ρ L s :=
 Zp3 hg hk hf ha hds hp hq hc.V hret hpan
theorem Zp2 {F:Fr P} {kp:Option (List Nat)} {dk:List Zp} {o:DOp} {os:List DOp} {ρ:Env} {L:Loc} {s:St} (hg:Zu ρ o.guard=some true) {x:Opd} (hk:o.k = .panic x)
  {p:Prop} {t:TypeId} {d:D} (ha:ZV ρ true x=some (p,.d (.iface t d))) (hp:p) (h:Kw F [] [] (.iface t d) s):ZdX F kp dk (o :: os) ρ L s:=fun _=>ZlW hg hk ha hp h
theorem ZjX {F:Fr P} {kp:Option (List Nat)} {dk:List Zp} {o:DOp} {os:List DOp} {ρ:Env} {L:Loc} {s:St} (hg:Zu ρ o.guard=some true) {fx:Opd} {xs:List Opd} (hk:o.k = .call fx xs)
  {p q:Prop} {fi:FuncId} {first caps:List D} {es:List E} {ds:List D} (hf:ZV ρ true fx=some (q,.d (.fn (.func fi) first caps))) (ha:Wc ρ true xs=some (p,es)) (hds:K4 es=some ds) (hp:p) (hq:q)
  {d:D} (hc:Z7 P fi (first++ds++caps) d) (h:ZdX F kp dk os (ZQ ρ o.dst (.d d)) L s):ZdX F kp dk (o :: os) ρ L s:=fun _=>J9 hg hk hf ha hds hp hq hc (h _)
end
end Go.DL
namespace Go.DL
open Go
variable [Znt]
def Yq (l b:Nat):E→E
 | .d v=>.d v
 | .loc l' off=>if l'=l then .d (.ptr b off) else .loc l' off
 | .when c e=>.when c (Yq l b e)
def Ya (l b:Nat):Env→Env
 | []=>[]
 | (t,e) :: r=>(t,Yq l b e) :: Ya l b r
def delL (l:Nat):Loc→Loc
 | []=>[]
 | (k,c) :: r=>if k=l then delL l r else (k,c) :: delL l r
theorem Zc3 (l b:Nat):∀ (ρ:Env) (t:Nat),Ye (Ya l b ρ) t=(Ye ρ t).map (Yq l b)
 | [],t=>rfl
 | (k,e) :: r,t=>by
  simp only [Ya,Ye]
  by_cases h:k=t
  ·simp [h]
  ·simp only [h,if_false]; exact Zc3 l b r t
theorem ZcJ (l:Nat):∀ (L:Loc) (x:Nat),Zl (delL l L) x=if x=l then none else Zl L x
 | [],x=>by simp [delL,Zl]
 | (k,c) :: r,x=>by
  simp only [delL]
  by_cases h:k=l
  ·simp only [h,if_true,Zl,ZcJ l r x]
   by_cases hx:x=l
   ·simp [hx]
   ·simp [hx,show ¬ l=x from fun h=>hx h.symm]
  ·simp only [h,if_false,Zl,ZcJ l r x]
   by_cases hx:x=l
   ·subst hx; simp [h]
   ·simp [hx]
section
variable {P:Program}
theorem Z5.expose {g:G} {ν:Nat→Nat} {w:World} {L:Loc} {l:Nat} {v:Value} {e:E} (h:Z5 g ν w L v e):Z5 g ν w (delL l L) v (Yq l (ν l) e):=by
 induction e with
 | d x=>exact h
 | loc l' off =>
  obtain ⟨⟨cs,hcs⟩,rfl⟩:=h
  simp only [Yq]
  split
  ·rename_i hl; subst hl; exact Rep.ptr _ _
  ·rename_i hl; exact ⟨⟨cs,by rw [ZcJ,if_neg hl]; exact hcs⟩,rfl⟩
 | when c e ih=>exact ⟨fun hc=>ih (h.1 hc),h.2⟩
theorem ZI.expose {g:G} {ν:Nat→Nat} {w:World} {tmps:Array Value} {ρ:Env} {L:Loc} {s:St} (m:ZI g ν w tmps ρ L s) {l:Nat} {cs:List D} (hl:Zl L l=some cs) :
  s (ν l)=none∧ZI g ν w tmps (Ya l (ν l) ρ) (delL l L) (s.upd (ν l) (.cells cs)):=by
 have hsub:∀ l' cs',Zl (delL l L) l'=some cs'→l'≠l∧Zl L l'=some cs':=fun l' cs' h=>by
  rw [ZcJ] at h
  split at h
  ·simp at h
  ·exact ⟨‹_›,h⟩
 refine ⟨m.locSt l cs hl,⟨m.st.updL (o:=.cells cs) (m.loc l cs hl) (m.locKept l cs hl),fun l' cs' h=>m.loc l' cs' (hsub l' cs' h).2,fun l' cs' h=>m.locKept l' cs' (hsub l' cs' h).2,fun l' cs' h=>?_,fun a b ca cb ha hb hab=>m.inj a b ca cb (hsub a ca ha).2 (hsub b cb hb).2 hab,fun t e he=>?_⟩⟩
 ·obtain ⟨h1,h2⟩:=hsub l' cs' h
  have:ν l'≠ν l:=fun hh=>h1 (m.inj l' l cs' cs h2 hl hh)
  simp only [St.upd,this,if_false]; exact m.locSt l' cs' h2
 ·rw [Zc3] at he
  simp only [ZvO] at he
  obtain ⟨e0,h1,rfl⟩:=he
  exact (m.env t e0 h1).expose
theorem ZX {F:Fr P} {dk:List Zp} {ρ:Env} {L:Loc} {s:St} (l:Nat) {cs:List D} (hl:Zl L l=some cs) (h:∀ b,s b=none→ZD F dk (Ya l b ρ) (delL l L) (s.upd b (.cells cs))):ZD F dk ρ L s:=by
 intro k hk g ν w tmps hN m
 obtain ⟨h1,h2⟩:=m.expose hl
 exact h (ν l) h1 k hk g ν w tmps hN h2
def QH:List Nat→List D→Env→Env
 | t :: ts,a :: as9,ρ=>QH ts as9 ((t,.d a) :: ρ)
 | _,_,ρ=>ρ
def ZhK (P:Program) (c:Frame) (cs:List Frame) (Φ:Res→St→Prop):Zp9 P where
 T g w m:=∃ e w',Zfu g w Φ e w'∧Zuy P m c cs e w'
 back g w m m' hs h:=by
  obtain ⟨e,w',a,b⟩:=h
  refine ⟨e,w',a,?_⟩
  cases e with
  | returned v=>exact Steps.trans hs b
  | panicked ch=>exact Steps.trans hs b
  | outgrown=>exact b.elim
 ext g w g' w' m hx h:=by
  obtain ⟨e,w2,⟨g2,s2,r,d1,d2,d3,d4⟩,b⟩:=h
  exact ⟨e,w2,⟨g2,s2,r,hx.trans d1,d2,d3,d4⟩,b⟩
def J4 (P:Program) (an:Ann) (fn:FuncId) (N l:Nat) (c:Frame) (cs:List Frame) (Φ:Res→St→Prop):Fr P where
 T:=ZhK P c cs Φ
 b:={ (default:Frame) with fn,kind:=.normal,roundOf:=some l }
 cs:=c :: cs
 N:=N
 ds:=[]
 an:=an
def QX (F:Fr P) (l:Nat) (Φ:Res→St→Prop):Prop:=∃ an fn N c cs,F=J4 P an fn N l c cs Φ
theorem JK {w:World} {r:Nat} {o:Go.Loop} (hb:w.heap[r]? = some (.loop o)):(getObj r).run P w = .ok (.loop o) w:=by
 simp [getObj,Sem.run,hb]
theorem Zcx {w:World} {r:Nat} {o:Obj} {o':Go.Loop} (hb:w.heap[r]? = some (.loop o')):(setObj r o).run P w = .ok () { w with heap:=w.heap.setIfInBounds r o }:=by
 simp [setObj,Sem.run,hb]
theorem Zvf {w:World} {b:Nat} {o':Obj} (o:Obj) (hb:w.heap[b]? = some o'):({ w with heap:=w.heap.setIfInBounds b o }:World).heap[b]? = some o:=by
 have:=(Array.getElem?_eq_some_iff.1 hb).1
 simp [Array.getElem?_setIfInBounds,this]
theorem ZI.loopTo {g:G} {ν:Nat→Nat} {w:World} {tmps:Array Value} {ρ:Env} {L:Loc} {s:St} (m:ZI g ν w tmps ρ L s) {l:Nat} {r:KM} {st st':LSt} (hs:s l=some (.loop r st)) {lp:Go.Loop} (hh:w.heap[l]? = some (.loop lp))
  (lp':Go.Loop) (h1:lp'.fn=lp.fn∧lp'.params=lp.params∧lp'.assign=lp.assign∧lp'.body=lp.body∧lp'.defers=lp.defers∧lp'.tmps=lp.tmps)
  (h2:match st' with | .ready=>lp'.state = .ready∧lp'.pending=none | .busy=>lp'.state = .busy | .done j=>lp'.state = .done∧lp'.pending=some j) :
  Ext g w g { w with heap:=w.heap.setIfInBounds l (.loop lp') }∧ZI g ν { w with heap:=w.heap.setIfInBounds l (.loop lp') } tmps ρ L (s.upd l (.loop r st')):=by
 obtain ⟨hp,l0,a1,a2,a3,a4,a5,a6,a7,a8,a9⟩:=m.st.obj l _ hs
 rw [hh] at a1
 simp only [ZvD,Obj.loop.injEq] at a1
 subst a1
 obtain ⟨b1,b2,b3,b4,b5,b6⟩:=h1
 have he:=Zck (g:=g) (w:=w) l (.loop lp') (by simp [hdr,hh]) hp (m.st.kept l _ hs)
 refine ⟨he,m.named hs he (by simp) (fun c hc=>J5 _ hc) ⟨hp,lp',Zvf _ hh,by rw [b1,a2],by rw [b2,a3],by rw [b3,a4],by rw [b4,a5],by rw [b5,a6],by rw [b6]; exact a7,fun t e ht=>by rw [b6]; exact (a8 t e ht).mono he,h2⟩⟩
theorem QX.begin {F:Fr P} {l:Nat} {Φ:Res→St→Prop} (hF:QX F l Φ) {dk:List Zp} {ρ:Env} {L:Loc} {s:St} {r:KM} (hs:s l=some (.loop r .ready)) (h:ZD F dk ρ L (s.upd l (.loop r .busy))):ZD F (.beginR :: dk) ρ L s:=by
 obtain ⟨an,fn,N,c,cs,rfl⟩:=hF
 intro k hk
 cases hk with
 | beginR ht =>
  intro g ν w tmps hN m
  obtain ⟨hp,l0,a1,a2,a3,a4,a5,a6,a7,a8,a9,a10⟩:=m.st.obj l _ hs
  obtain ⟨he,m'⟩:=m.loopTo (st':=.busy) hs a1 { l0 with state:=.busy } ⟨rfl,rfl,rfl,rfl,rfl,rfl⟩ rfl
  have hrun:(Instr.beginRound l).run P w = .ok () { w with heap:=w.heap.setIfInBounds l (.loop { l0 with state:=.busy }) }:=by
   simp [Instr.beginRound,Instr.getLoop,JK a1,Zcx a1,a9]
  refine (ZhK P c cs Φ).back _ _ _ _ (.one (stepR_beginRound rfl hrun)) ?_
  exact (ZhK P c cs Φ).ext _ _ _ _ _ he (h _ ht g ν _ tmps hN m')
theorem Zec {w:World} {l:Nat} {l0:Go.Loop} (h:w.heap[l]? = some (.loop l0)) (j:Option Code) :
  (Instr.endRound l j).run P w = .ok (.bool j.isNone) { w with heap:=w.heap.setIfInBounds l (.loop { l0 with state:=if j.isNone then .ready else .done,pending:=j }) }:=by
 simp [Instr.endRound,Instr.getLoop,JK h,Zcx h]
theorem QX.fin {F:Fr P} {l:Nat} {Φ:Res→St→Prop} (hF:QX F l Φ) {ρ:Env} {L:Loc} {s s':St} {r:KM} (hs:s l=some (.loop r .busy)) (hsub:s'.sub (s.upd l (.loop r .ready))) (hΦ:Φ (.ret (.bool true)) s'):ZD F [] ρ L s:=by
 obtain ⟨an,fn,N,c,cs,rfl⟩:=hF
 intro k hk
 cases hk
 intro g ν w tmps hN m
 obtain ⟨hp,l0,a1,_⟩:=m.st.obj l _ hs
 obtain ⟨he,m'⟩:=m.loopTo (st':=.ready) hs a1 { l0 with state:=.ready,pending:=none } ⟨rfl,rfl,rfl,rfl,rfl,rfl⟩ ⟨rfl,rfl⟩
 exact ⟨.returned (.bool true),_,⟨g,s',.ret (.bool true),he,m'.st.sub hsub,.bool true,hΦ⟩,.one (stepR_round_end rfl rfl (Zec a1 none))⟩
theorem QX.ret {F:Fr P} {l:Nat} {Φ:Res→St→Prop} (hF:QX F l Φ) {dk:List Zp} {ρ:Env} {L:Loc} {s s':St} {r:KM} (hs:s l=some (.loop r .busy)) (hsub:s'.sub (s.upd l (.loop r (.done .ret)))) (hΦ:Φ (.ret (.bool false)) s') :
  ZD F (.code .ret :: dk) ρ L s:=by
 obtain ⟨an,fn,N,c,cs,rfl⟩:=hF
 intro k hk
 cases hk with
 | code hc ht =>
  obtain rfl:=ZnF hc
  intro g ν w tmps hN m
  obtain ⟨hp,l0,a1,_⟩:=m.st.obj l _ hs
  obtain ⟨he,m'⟩:=m.loopTo (st':=.done .ret) hs a1 { l0 with state:=.done,pending:=some .ret } ⟨rfl,rfl,rfl,rfl,rfl,rfl⟩ ⟨rfl,rfl⟩
  exact ⟨.returned (.bool false),_,⟨g,s',.ret (.bool false),he,m'.st.sub hsub,.bool false,hΦ⟩,.one (stepR_round_ret rfl rfl (Zec a1 (some .ret)))⟩
theorem QX.exit {F:Fr P} {l id:Nat} {Φ:Res→St→Prop} (hF:QX F l Φ) {dk:List Zp} {ρ:Env} {L:Loc} {s s':St} {r:KM} (hx:Jf id dk=none) (hs:s l=some (.loop r .busy)) (hsub:s'.sub (s.upd l (.loop r (.done (.exit id)))))
  (hΦ:Φ (.ret (.bool false)) s'):ZD F (.code (.exit id) :: dk) ρ L s:=by
 obtain ⟨an,fn,N,c,cs,rfl⟩:=hF
 intro k hk
 cases hk with
 | code hc ht =>
  obtain rfl:=Zpx hc
  intro g ν w tmps hN m
  obtain ⟨hp,l0,a1,_⟩:=m.st.obj l _ hs
  obtain ⟨he,m'⟩:=m.loopTo (st':=.done (.exit id)) hs a1 { l0 with state:=.done,pending:=some (.exit id) } ⟨rfl,rfl,rfl,rfl,rfl,rfl⟩ ⟨rfl,rfl⟩
  exact ⟨.returned (.bool false),_,⟨g,s',.ret (.bool false),he,m'.st.sub hsub,.bool false,hΦ⟩,.one (stepR_round_exit rfl rfl (Za7 ht hx) (Zec a1 (some (.exit id))))⟩
theorem QX.pan {F:Fr P} {l:Nat} {Φ:Res→St→Prop} (hF:QX F l Φ) {ρ:Env} {L:Loc} {d:D} {s s':St} (hsub:s'.sub s) (hΦ:Φ (.panic d) s') (hfn:∀ an fn N c cs,F=J4 P an fn N l c cs Φ→∃ f,P.funcs[fn]? = some f):Kw F ρ L d s:=by
 obtain ⟨an,fn,N,c,cs,rfl⟩:=hF
 intro g ν w v todo tmps hN m hr
 obtain ⟨f,hf⟩:=hfn an fn N c cs rfl
 refine ⟨.panicked [{ v,recovered:=false }],w,⟨g,s',.panic d,Ext.refl g w,m.st.sub hsub,⟨v,rfl,hr⟩,hΦ⟩,.one ?_⟩
 exact step_leave_panicked (P:=P) (fr:={ (J4 P an fn N l c cs Φ).b.atR ⟨tmps,[]⟩ todo with mode:=.panicking [{ v,recovered:=false }] }) ⟨rfl,rfl,f,hf⟩
theorem Zgy {g:G} {ν:Nat→Nat} {w:World} {L:Loc} {s:St} {N:Nat}:∀ {ps:List Nat} {ds:List D} {vs:List Value} {tmps:Array Value} {ρ:Env},ZI g ν w tmps ρ L s→ZZ (Rep g w) vs ds→ds.length=ps.length→(∀ t∈ps,t < N)→N≤tmps.size →
  N≤((ps.zip vs).foldl (fun tmps (x:Nat × Value)=>tmps.setIfInBounds x.1 x.2) tmps).size∧ZI g ν w ((ps.zip vs).foldl (fun tmps (x:Nat × Value)=>tmps.setIfInBounds x.1 x.2) tmps) (QH ps ds ρ) L s
 | [],_,_,tmps,ρ,m,_,_,_,hN=>by simpa [QH] using ⟨hN,m⟩
 | t :: ps,[],_,tmps,ρ,m,_,hl,_,_=>by simp at hl
 | t :: ps,d :: ds,v :: vs,tmps,ρ,m,.cons h1 h2,hl,hp,hN=>by
  have m':=m.put (t:=t) (v:=v) (e:=.d d) (by have:=hp t (by simp); omega) h1
  simpa [QH] using Zgy m' h2 (by simpa using hl) (fun u hu=>hp u (by simp [hu])) (by simpa using hN)
def Zbc:Env→Env
 | []=>[]
 | (t,e) :: r=>if (Q1 e).isEmpty then (t,e) :: Zbc r else Zbc r
def Js (ks:List Nat) (ρ:Env):Env:=Zbc (Wy ρ ks)
theorem ZdJ:∀ {ρ:Env} {t:Nat} {e:E},(ρ.map (·.1)).Nodup→Ye (Zbc ρ) t=some e→Ye ρ t=some e∧Q1 e=[]
 | [],t,e,_,h=>by simp [Zbc,Ye] at h
 | (k,x) :: r,t,e,hn,h=>by
  simp only [List.map_cons,List.nodup_cons] at hn
  simp only [Zbc] at h
  split at h
  ·rename_i hx
   simp only [Ye] at h ⊢
   by_cases hk:k=t
   ·simp only [hk,if_true,ZvD] at h ⊢; subst h; exact ⟨rfl,by simpa using hx⟩
   ·simp only [hk,if_false] at h ⊢; exact ZdJ hn.2 h
  ·obtain ⟨h1,h2⟩:=ZdJ hn.2 h
   refine ⟨?_,h2⟩
   have hkt:k≠t:=fun hk=>by
    subst hk
    have:=Zfk h1
    exact hn.1 (List.mem_map.2 ⟨_,this,rfl⟩)
   simp only [Ye,hkt,if_false]; exact h1
theorem ZkU {g:G} {ν ν':Nat→Nat} {w:World} {L L':Loc} {v:Value} {e:E} (h:Z5 g ν w L v e) (hl:Q1 e=[]):Z5 g ν' w L' v e:=by
 induction e with
 | d x=>exact h
 | loc l o=>simp [Q1] at hl
 | when c e ih=>exact ⟨fun hc=>ih (h.1 hc) hl,h.2⟩
def Fr.mark (F:Fr P) (q:Nat):Fr P:={ F with ds:=DD.def (.mark q) :: F.ds }
theorem ZfV {b:Frame} {a:Act} {k:List Item} {cs:List Frame} {w:World} {g:Operand} {ps:Array Tmp} {assign body:Code} {l:Nat} {mark:List Deferred} {w₁:World} {d:Deferred} {nx:Next} {fr:Frame}
  (he:(Instr.enterLoop b.fn a.tmps ps assign body b.roundOf).run P w = .ok (l,mark) w₁)
  (hres:(Deferred.ofValue (a.eval g) #[.func (.yield l) #[] #[]]).run P w₁ = .ok d w₁) (hinv:(invoke d.target d.args).run P w₁ = .ok nx w₁) (hnx:ZeZ P nx=some fr) :
  step P (lone (b.atR a (.code (.rangeFunc g ps assign body) :: k)) cs w) =
   .next (lone fr (b.atR { a with defers:=mark++a.defers } (.inRangeFunc l :: k) :: cs) w₁) :=
 step_lone_go (by
  have hev:=Frame.eval_atR b { a with defers:=mark++a.defers } (.inRangeFunc l :: k)
  simp only [Frame.atR] at hev
  have hres':Sem.run P (resolve ({ tmps:=a.tmps,defers:=mark++a.defers }:Act).eval { callee:=.value g,args:=#[.const (.func (.yield l) #[] #[])],argTypes:=#[] } 0) w₁ = .ok d w₁:=by
   simp only [resolve]
   have e1:({ tmps:=a.tmps,defers:=mark++a.defers }:Act).eval g=a.eval g:=by cases g <;> rfl
   have e2:Array.map ({ tmps:=a.tmps,defers:=mark++a.defers }:Act).eval #[Operand.const (Value.func (Fn.yield l) #[] #[])] = #[.func (.yield l) #[] #[]]:=by simp [Act.eval]
   rw [e1,e2]; exact hres
  cases nx <;> simp only [ZeZ,ZvD,reduceCtorEq] at hnx <;> subst hnx <;>
   simp [stepG,stepG.exec,Frame.atR,Sem.runT_eq,he,GStep.bare_after,stepG.apply,hev,Sem.run_bind,hres',hinv,Result.andThen])
def Zg6 (F:Fr P) (l:Nat) (r:KM) (dk:List Zp) (ρ:Env) (L:Loc) (s':St):Prop :=
 (s' l=some (.loop r .ready)∧ZD F dk ρ L (s'.del l))∨∃ j dj,s' l=some (.loop r (.done j))∧cc P F.an F.N j=some dj∧ZD F (.code dj :: dk) ρ L (s'.del l)
theorem Zi1 {w:World} {l:Nat} {l0:Go.Loop} (h:w.heap[l]? = some (.loop l0)) (hb:l0.state≠.busy) :
  (Instr.endLoop l).run P w = .ok l0.pending { w with heap:=w.heap.setIfInBounds l (.loop { l0 with state:=.exhausted }) }:=by
 have:(l0.state == .busy)=false:=by
  cases hs:l0.state <;> first | rfl | exact absurd hs hb
 simp [Instr.endLoop,Instr.getLoop,JK h,Zcx h,hb]
theorem ZkT {F:Fr P} {l:Nat} {r:KM} {dk:List Zp} {k:List Item} {ρ:Env} {L:Loc} {g:G} {ν:Nat→Nat} {w:World} {tmps:Array Value} {s':St} (hk:KX P F.an F.N k dk) (hN:F.N≤tmps.size) (m:ZI g ν w tmps ρ L s')
  (h:Zg6 F l r dk ρ L s'):F.T.T g w (lone (F.b.atR ⟨tmps,F.ds⟩ (.endRangeFunc l :: k)) F.cs w):=by
 rcases h with ⟨hs,h⟩ | ⟨j,dj,hs,hj,h⟩
 ·obtain ⟨hp,l0,a1,a2,a3,a4,a5,a6,a7,a8,a9,a10⟩:=m.st.obj l _ hs
  have he:=Zck (g:=g) (w:=w) l (.loop { l0 with state:=.exhausted }) (by simp [hdr,a1]) hp (m.st.kept l _ hs)
  have m':=m.drop hs he (by simp) (fun c hc=>J5 _ hc)
  have hrun:(Instr.endLoop l).run P w = .ok none { w with heap:=w.heap.setIfInBounds l (.loop { l0 with state:=.exhausted }) }:=by rw [Zi1 a1 (by rw [a9]; simp)]; simp [a10]
  refine F.T.back _ _ _ _ (.one (stepR_endRangeFunc hrun)) ?_
  exact F.T.ext _ _ _ _ _ he (h k hk g ν _ tmps hN m')
 ·obtain ⟨hp,l0,a1,a2,a3,a4,a5,a6,a7,a8,a9,a10⟩:=m.st.obj l _ hs
  have he:=Zck (g:=g) (w:=w) l (.loop { l0 with state:=.exhausted }) (by simp [hdr,a1]) hp (m.st.kept l _ hs)
  have m':=m.drop hs he (by simp) (fun c hc=>J5 _ hc)
  have hrun:(Instr.endLoop l).run P w = .ok (some j) { w with heap:=w.heap.setIfInBounds l (.loop { l0 with state:=.exhausted }) }:=by rw [Zi1 a1 (by rw [a9]; simp)]; simp [a10]
  refine F.T.back _ _ _ _ (.one (stepR_endRangeFunc hrun)) ?_
  exact F.T.ext _ _ _ _ _ he (h _ (.code hj hk) g ν _ tmps hN m')
theorem Kd.mark {F:Fr P} {rs:List RV} {Φ:Res→St→Prop} {dds:List DD} (hF:Kd F rs Φ dds) (q:Nat):Kd (F.mark q) rs Φ (.mark q :: dds):=by
 obtain ⟨an,f,df,cs,hf,hrs,rfl⟩:=hF
 exact ⟨an,f,df,cs,hf,hrs,rfl⟩
theorem Kd.roundOf {F:Fr P} {rs:List RV} {Φ:Res→St→Prop} {dds:List DD} (hF:Kd F rs Φ dds):F.b.roundOf=none:=by
 obtain ⟨an,f,df,cs,hf,hrs,rfl⟩:=hF
 rfl
end
end Go.DL
namespace Go.DL
open Go
variable [Znt]
section
variable {P:Program}
theorem Zrz {op:Op} {f:Opd} {xs:List Opd} (h:ck P op=some (.defer f xs)):∃ f' args ats,op = .defer ⟨.value f',args,ats⟩∧YJ f'=some f∧ZbE args.toList=some xs:=by
 unfold ck at h
 split at h
 ·simp at h
 ·split at h <;> (try (simp at h; done))
  all_goals (try (repeat' (split at h <;> (try (simp at h; done)))))
  simp only [ZvD,K.defer.injEq] at h
  obtain ⟨rfl,rfl⟩:=h
  rename_i c _ _ f' hcal _ _ f xs hf hxs
  obtain ⟨callee,args,ats⟩:=c
  simp only at hcal
  exact ⟨f',args,ats,by rw [hcal],hf,hxs⟩
def Fr.defer (F:Fr P) (i:FuncId) (args caps:List D):Fr P:={ F with ds:=DD.def (.fn i args caps) :: F.ds }
theorem Kd.defer {F:Fr P} {rs:List RV} {Φ:Res→St→Prop} {dds:List DD} (hF:Kd F rs Φ dds) (i:FuncId) (args caps:List D):Kd (F.defer i args caps) rs Φ (.fn i args caps :: dds):=by
 obtain ⟨an,f,df,cs,hf,hrs,rfl⟩:=hF
 exact ⟨an,f,df,cs,hf,hrs,rfl⟩
theorem Zni {F:Fr P} (hround:F.b.roundOf=none) {kp:Option (List Nat)} {dk:List Zp} {o:DOp} {os:List DOp} {ρ:Env} {L:Loc} {s:St} (hg:o.guard=none) (hdn:o.dst=none) {fx:Opd} {xs:List Opd} (hk:o.k = .defer fx xs)
  {p q:Prop} {i:FuncId} {first caps:List D} {es:List E} {ds:List D} (hf:ZV ρ true fx=some (q,.d (.fn (.func i) first caps))) (ha:Wc ρ true xs=some (p,es)) (hds:K4 es=some ds) (hp:p) (hq:q)
  (hr1:Zbw (first++ds)) (hr2:Zbw caps) (h:DO (F.defer i (first++ds) caps) kp dk os ρ L s):DO F kp dk (o :: os) ρ L s:=by
 refine KL fun oo g ν w tmps ops j r k hoo hck hcg hdst hd hN m hr hkk=>?_
 have hw:=Y7 m hcg (c:=true) (by rw [hg]; rfl)
 rw [hk] at hck
 obtain ⟨f',args,ats,hop,hf',hxs⟩:=Zrz hck
 have hfr:Rep g w _ _:=Y2 m hf' rfl hf hq F.ds
 have hargs:=QU (ZcR m rfl F.ds hxs ha hp) hds
 generalize hfv:(Act.mk tmps F.ds).eval f'=fv at hfr
 cases hfr with
 | fn _ fs cs' _ _ hn1 hn2 h1 h2 =>
 obtain ⟨as9,ha1,_,ha2⟩:=Zb3 hr1
 obtain ⟨vs,hv1,_,hv2⟩:=Zb3 hr2
 have e1:fs++args.toList.map (Act.mk tmps F.ds).eval=as9:=ZiH ((Wa hn1 h1).append hargs) ha1
 have e2:cs'=vs:=ZiH (Wa hn2 h2) hv1
 have hmap:(Array.map (Act.mk tmps F.ds).eval args)=(args.toList.map (Act.mk tmps F.ds).eval).toArray:=by apply Array.ext'; simp
 have hdd:DD.def (.fn i (first++ds) caps)={ target:=.fn (.func i) cs'.toArray,args:=fs.toArray++(args.toList.map (Act.mk tmps F.ds).eval).toArray }:=by
  simp only [DD.def,hv1,ha1,Option.getD_some,e2,← e1]; simp
 have hrun:(execOp (Act.mk tmps F.ds).eval oo).run P w = .ok (.defer (DD.def (.fn i (first++ds) caps))) w:=by
  rw [hdd]
  simp [execOp,hop,resolve,hfv,hmap,Deferred.ofValue]
 have hstep:step P (lone (F.b.atR ⟨tmps,F.ds⟩ (.inRegion ops (j :: r) :: k)) F.cs w) = .next (lone (F.b.atR ⟨tmps,(F.defer i (first++ds) caps).ds⟩ (.inRegion ops r :: k)) F.cs w):=by
  refine step_lone_go ?_
  rw [stepGR_op hoo hw,hround,Oper.semAt_none]
  have hfin:(F.b.atR ⟨tmps,(F.defer i (first++ds) caps).ds⟩ (.inRegion ops (j :: r) :: k)).finish undef=F.b.atR ⟨tmps,(F.defer i (first++ds) caps).ds⟩ (.inRegion ops r :: k):=by
   rw [Frame.finish_atR,hoo]
   simp [Act.put,hdst,hdn]
  rw [← hfin]
  simp [stepG.apply,hrun,Frame.atR,Fr.defer]
 refine F.T.back _ _ _ _ (.one hstep) ?_
 exact h ops r k hr hkk g ν w tmps hN m
def ZvC:D→Option Value
 | .iface t (.agg cs)=>(ZgO cs).map fun vs=>.iface t (.agg vs.toArray)
 | .iface t d=>(Zap d).map (.iface t ·)
 | _=>none
def Zev:D→Prop
 | .iface _ (.agg cs)=>Zbw cs
 | .iface _ d=>Zeu d
 | _=>False
theorem Zmu {d:D} (h:Zev d):∃ v,(∀ g w,Rep g w v d)∧∀ g w v',Rep g w v' d→v'=v:=by
 cases d <;> simp only [Zev] at h
 rename_i t d
 by_cases hd:∃ cs,d = .agg cs
 ·obtain ⟨cs,rfl⟩:=hd
  simp only [Zev] at h
  obtain ⟨vs,h1,h2,h3⟩:=Zb3 h
  refine ⟨.iface t (.agg vs.toArray),fun g w=>.iface t _ _ (.agg vs cs (h3 g w).len (h3 g w).get h2),fun g w v' hr=>?_⟩
  cases hr with
  | iface _ v _ hv =>
   cases hv with
   | agg vs' _ hn hg _=>rw [ZiH (Wa hn hg) h1]
 ·have h':Zeu d:=by cases d <;> simp only [Zev] at h <;> first | exact h | exact absurd ⟨_,rfl⟩ hd
  obtain ⟨v,h1,h2,h3⟩:=Zmt h'
  refine ⟨.iface t v,fun g w=>.iface t _ _ (h3 g w),fun g w v' hr=>?_⟩
  cases hr with
  | iface _ v'' _ hv=>rw [Zp1 hv h1]
def JC (m:Option D) (v:Value) (rec:Bool):FrameMode :=
 match m with
 | none=>.returning
 | some _=>.panicking [{ v,recovered:=rec }]
def ZdT (P:Program) (cf:Frame) (cs:List Frame) (Ψ:Bool→St→Prop):Zp9 P where
 T g w m:=∃ g' w' s' b,Ext g w g' w'∧Wo g' s' w'∧Ψ b s'∧Steps P m (lone { cf with mode:=if b then .returning else cf.mode } cs w')
 back g w m m' hs h:=let ⟨g',w',s',b,a1,a2,a3,a4⟩:=h; ⟨g',w',s',b,a1,a2,a3,Steps.trans hs a4⟩
 ext g w g' w' m hx h:=let ⟨g2,w2,s',b,a1,a2,a3,a4⟩:=h; ⟨g2,w2,s',b,hx.trans a1,a2,a3,a4⟩
def Kz (P:Program) (an:Ann) (f:FuncId) (N:Nat) (cf:Frame) (cs:List Frame) (Ψ:Bool→St→Prop) (m:Option D) (v:Value) (rec:Bool):Fr P where
 T:=ZdT P cf cs Ψ
 b:={ (default:Frame) with fn:=f,kind:=.deferred,roundOf:=none }
 cs:={ cf with mode:=JC m v rec } :: cs
 N:=N
 ds:=[]
 an:=an
def ZaD (F:Fr P) (m:Option D) (Ψ:Bool→St→Prop) (rec:Bool):Prop :=
 ∃ an f df cf cs v,Go.DL.cf P an f=some df∧df.res=[]∧cf.mode=JC m v false∧(∀ d,m=some d→∀ g w,Rep g w v d)∧F=Kz P an f df.n cf cs Ψ m v rec
theorem Zg5 {an:Ann} {i:FuncId} {df:DF} (hf:cf P an i=some df) (hres:df.res=[]) {args:List D} {m:Option D} {s:St} {Ψ:Bool→St→Prop} (hm:∀ d,m=some d→Zev d)
  (h:∀ F:Fr P,ZaD F m Ψ false→ZD F [.code df.body] (QZ 0 args) [] s):ZbN P i args m s Ψ:=by
 have hf0:=hf
 unfold cf at hf
 split at hf <;> (try (simp at hf; done))
 rename_i fn hfn
 split at hf <;> (try (simp at hf; done))
 rename_i c hc
 split at hf <;> (try (simp at hf; done))
 rename_i hname
 split at hf <;> simp at hf
 rename_i rs d hrs hd
 subst hf
 refine ⟨⟨fn,hfn,by simp [hc],by simpa using hname⟩,fun g w vs cfr cs hs ha hmode=>?_⟩
 obtain ⟨v,hv1,hv2⟩:∃ v,cfr.mode=JC m v false∧∀ d,m=some d→∀ g w,Rep g w v d:=by
  cases m with
  | none=>exact ⟨undef,hmode,fun d hd=>by simp at hd⟩
  | some d =>
   obtain ⟨v,h1,h2⟩:=hmode
   obtain ⟨v',r1,r2⟩:=Zmu (hm d rfl)
   have:=r2 g w v h2
   subst this
   exact ⟨v,h1,fun d' hd'=>by simp only [ZvD] at hd'; subst hd'; exact r1⟩
 have hcf:({ cfr with mode:=JC m v false }:Frame)=cfr:=by rw [← hv1]
 have henter:Frame.enter P i vs.toArray .deferred=(Kz P an i fn.ntmps cfr cs Ψ m v false).b.atR { tmps:=vs.toArray++Array.replicate (fn.ntmps - vs.length) undef,defers:=[] } [.code c]:=by
  simp [Frame.enter,Frame.atR,hfn,hc,Kz]
 have:=h _ ⟨an,i,_,cfr,cs,v,hf0,hres,hv1,hv2,rfl⟩ [.code c] (.code hd .nil) g (fun _=>0) w (vs.toArray++Array.replicate (fn.ntmps - vs.length) undef) (by simp [Kz]; omega) (Zfl hs ha _)
 obtain ⟨g',w',s',b,a1,a2,a3,a4⟩:=this
 refine ⟨g',w',s',b,a1,a2,a3,?_⟩
 rw [henter]
 have hcs:(Kz P an i fn.ntmps cfr cs Ψ m v false).cs=cfr :: cs:=by simp only [Kz,hcf]
 rw [hcs] at a4
 exact a4
theorem ZaD.end {F:Fr P} {m:Option D} {Ψ:Bool→St→Prop} {rec:Bool} (hF:ZaD F m Ψ rec) {ρ:Env} {L:Loc} {s s':St} (hs:s'.sub s) (hΨ:Ψ (m.isNone || rec) s') {todo:List Item} {g:G} {ν:Nat→Nat} {w:World} {tmps:Array Value}
  (M:ZI g ν w tmps ρ L s):F.T.T g w (lone { F.b.atR ⟨tmps,F.ds⟩ todo with mode:=.returning } F.cs w):=by
 obtain ⟨an,f,df,cfr,cs,v,hf,hres,hmode,hrep,rfl⟩:=hF
 unfold cf at hf
 split at hf <;> (try (simp at hf; done))
 rename_i fn hfn
 split at hf <;> (try (simp at hf; done))
 split at hf <;> (try (simp at hf; done))
 split at hf <;> simp at hf
 rename_i rs d hrs hd
 subst hf
 simp only at hres
 subst hres
 obtain ⟨rv,hrv1,_⟩:=ZkW M hrs (p:=True) (ds:=[]) rfl trivial
 refine ⟨g,w,s',m.isNone || rec,Ext.refl g w,M.st.sub hs,hΨ,?_⟩
 have hst:=step_going_returned (P:=P) (fr:={ (Kz P an f fn.ntmps cfr cs Ψ m v rec).b.atR ⟨tmps,[]⟩ todo with mode:=.returning }) (c:={ cfr with mode:=JC m v rec }) (cs:=cs) (w:=w) rfl ⟨rfl,rfl,fn,hfn,hrv1⟩
 have hset:({ ({ cfr with mode:=JC m v rec }:Frame) with mode:=settle (JC m v rec) }:Frame)={ cfr with mode:=if (m.isNone || rec) then .returning else cfr.mode }:=by
  cases m with
  | none=>rfl
  | some d =>
   cases rec
   ·simp only [Option.isNone_some,Bool.or_self,Bool.false_eq_true,if_false,hmode]; rfl
   ·rfl
 simp only at hst
 rw [hset] at hst
 exact .one hst
theorem ZaD.fin {F:Fr P} {m:Option D} {Ψ:Bool→St→Prop} {rec:Bool} (hF:ZaD F m Ψ rec) {ρ:Env} {L:Loc} {s s':St} (hs:s'.sub s) (hΨ:Ψ (m.isNone || rec) s'):ZD F [] ρ L s:=by
 have hF':=hF
 obtain ⟨an,f,df,cfr,cs,v,hf,hres,hmode,hrep,rfl⟩:=hF
 intro k hk
 cases hk
 intro g ν w tmps hN M
 refine (ZdT P cfr cs Ψ).back _ _ _ _ (.one (stepR_end rfl)) ?_
 exact hF'.end hs hΨ M
theorem ZaD.ret {F:Fr P} {m:Option D} {Ψ:Bool→St→Prop} {rec:Bool} (hF:ZaD F m Ψ rec) {dk:List Zp} {ρ:Env} {L:Loc} {s s':St} (hs:s'.sub s) (hΨ:Ψ (m.isNone || rec) s'):ZD F (.code .ret :: dk) ρ L s:=by
 have hF':=hF
 obtain ⟨an,f,df,cfr,cs,v,hf,hres,hmode,hrep,rfl⟩:=hF
 intro k hk
 cases hk with
 | code hc ht =>
  obtain rfl:=ZnF hc
  intro g ν w tmps hN M
  refine (ZdT P cfr cs Ψ).back _ _ _ _ (.one (stepR_ret rfl)) ?_
  exact hF'.end hs hΨ M
theorem Zf8 {op:Op} (h:ck P op=some .recover):∃ args ats,op = .call ⟨.builtin .recover,args,ats⟩:=by
 unfold ck at h
 split at h
 ·simp at h
 ·split at h <;> (try (simp at h; done))
  all_goals (try (repeat' (split at h <;> (try (simp at h; done)))))
  rename_i c _ _ hcal
  obtain ⟨callee,args,ats⟩:=c
  simp only at hcal
  exact ⟨args,ats,by rw [hcal]⟩
theorem Zp6 {F:Fr P} {d:D} {Ψ:Bool→St→Prop} (hF:ZaD F (some d) Ψ false) {kp:Option (List Nat)} {dk:List Zp} {o:DOp} {os:List DOp} {ρ:Env} {L:Loc} {s:St} (hg:o.guard=none) (hk:o.k = .recover)
  (h:∀ F':Fr P,ZaD F' (some d) Ψ true→DO F' kp dk os (ZQ ρ o.dst (.d d)) L s):DO F kp dk (o :: os) ρ L s:=by
 obtain ⟨an,f,df,cfr,cs,v,hf,hres,hmode,hrep,rfl⟩:=hF
 refine KL fun oo g ν w tmps ops j r k hoo hck hcg hdst hd hN m hr hkk=>?_
 have hw:=Y7 m hcg (c:=true) (by rw [hg]; rfl)
 have hnd:=Wp hck (by rw [hk]; rfl)
 rw [hk] at hck
 obtain ⟨args,ats,hop⟩:=Zf8 hck
 have hrun:(execOp (Act.mk tmps []).eval oo).run P w = .ok .recover w:=by
  simp [execOp,hop,resolve,invoke,builtin]
 have hstep:step P (lone ((Kz P an f df.n cfr cs Ψ (some d) v false).b.atR ⟨tmps,[]⟩ (.inRegion ops (j :: r) :: k)) (Kz P an f df.n cfr cs Ψ (some d) v false).cs w) =
   .next (lone ((Kz P an f df.n cfr cs Ψ (some d) v true).b.atR ((Act.mk tmps []).put oo.dst v) (.inRegion ops r :: k)) (Kz P an f df.n cfr cs Ψ (some d) v true).cs w):=by
  refine step_lone_go ?_
  rw [stepGR_op hoo hw,Oper.semAt_eq _ _ _ hnd]
  have hfin:((Kz P an f df.n cfr cs Ψ (some d) v false).b.atR ⟨tmps,[]⟩ (.inRegion ops (j :: r) :: k)).finish v=(Kz P an f df.n cfr cs Ψ (some d) v true).b.atR ((Act.mk tmps []).put oo.dst v) (.inRegion ops r :: k):=by
   rw [Frame.finish_atR,hoo]; rfl
  rw [← hfin]
  simp [stepG.apply,hrun,Frame.atR,Kz,tryRecover,JC]
 refine (ZdT P cfr cs Ψ).back _ _ _ _ (.one hstep) ?_
 obtain ⟨tmps',e1,e2,m'⟩:=Zer m hN hd (v:=v) (e:=.d d) (hrep d rfl g w) []
 rw [hdst,e1]
 exact h _ ⟨an,f,df,cfr,cs,v,hf,hres,hmode,hrep,rfl⟩ ops r k hr hkk g ν w tmps' e2 m'
theorem ZiY {F:Fr P} {Ψ:Bool→St→Prop} {rec:Bool} (hF:ZaD F none Ψ rec) {kp:Option (List Nat)} {dk:List Zp} {o:DOp} {os:List DOp} {ρ:Env} {L:Loc} {s:St} (hg:o.guard=none) (hk:o.k = .recover)
  (h:DO F kp dk os (ZQ ρ o.dst (.d .niliface)) L s):DO F kp dk (o :: os) ρ L s:=by
 obtain ⟨an,f,df,cfr,cs,v,hf,hres,hmode,hrep,rfl⟩:=hF
 refine KL fun oo g ν w tmps ops j r k hoo hck hcg hdst hd hN m hr hkk=>?_
 have hw:=Y7 m hcg (c:=true) (by rw [hg]; rfl)
 have hnd:=Wp hck (by rw [hk]; rfl)
 rw [hk] at hck
 obtain ⟨args,ats,hop⟩:=Zf8 hck
 have hrun:(execOp (Act.mk tmps []).eval oo).run P w = .ok .recover w:=by
  simp [execOp,hop,resolve,invoke,builtin]
 have hstep:step P (lone ((Kz P an f df.n cfr cs Ψ none v rec).b.atR ⟨tmps,[]⟩ (.inRegion ops (j :: r) :: k)) (Kz P an f df.n cfr cs Ψ none v rec).cs w) =
   .next (lone ((Kz P an f df.n cfr cs Ψ none v rec).b.atR ((Act.mk tmps []).put oo.dst .nilIface) (.inRegion ops r :: k)) (Kz P an f df.n cfr cs Ψ none v rec).cs w):=by
  refine step_lone_go ?_
  rw [stepGR_op hoo hw,Oper.semAt_eq _ _ _ hnd]
  have hfin:((Kz P an f df.n cfr cs Ψ none v rec).b.atR ⟨tmps,[]⟩ (.inRegion ops (j :: r) :: k)).finish .nilIface=(Kz P an f df.n cfr cs Ψ none v rec).b.atR ((Act.mk tmps []).put oo.dst .nilIface) (.inRegion ops r :: k):=by
   rw [Frame.finish_atR,hoo]; rfl
  rw [← hfin]
  simp [stepG.apply,hrun,Frame.atR,Kz,tryRecover,JC]
 refine (ZdT P cfr cs Ψ).back _ _ _ _ (.one hstep) ?_
 obtain ⟨tmps',e1,e2,m'⟩:=Zer m hN hd (v:=.nilIface) (e:=.d .niliface) .niliface []
 rw [hdst,e1]
 exact h ops r k hr hkk g ν w tmps' e2 m'
end
end Go.DL
namespace Go.DL
open Go
variable [Znt]
theorem ZuR (n:Int):inR .i64 n↔-9223372036854775808≤n∧n≤9223372036854775807:=by
 simp [inR,IntKind.min,IntKind.max,IntKind.signed,IntKind.bits]
theorem Zvm (n:Int):inR .u8 n↔0≤n∧n≤255:=by
 simp [inR,IntKind.min,IntKind.max,IntKind.signed,IntKind.bits]
theorem ZuS (n:Int):inR .u32 n↔0≤n∧n≤4294967295:=by
 simp [inR,IntKind.min,IntKind.max,IntKind.signed,IntKind.bits]
theorem ZuT (n:Int):inR .u64 n↔0≤n∧n≤18446744073709551615:=by
 simp [inR,IntKind.min,IntKind.max,IntKind.signed,IntKind.bits]
theorem ZuQ (n:Int):inR .i32 n↔-2147483648≤n∧n≤2147483647:=by
 simp [inR,IntKind.min,IntKind.max,IntKind.signed,IntKind.bits]
theorem Zt6 (a b:Bool):(if a=true then b else false)=(a && b):=by cases a <;> rfl
theorem ZuV (a b:Bool):(if a=true then true else b)=(a || b):=by cases a <;> rfl
theorem WY {b b':Bool} (h:b=b'):(Jw [.bool b]).Le (.bool b'):=h ▸ D.Le.refl _
theorem JE {k:IntKind} {n m:Int} (h:n=m):(Jw [.int k n]).Le (.int k m):=h ▸ D.Le.refl _
theorem Jn {l:List D} {d:D} (h:.tup l=d) (hl:Jw l = .tup l):(Jw l).Le d:=by rw [hl,h]; exact D.Le.refl _
theorem St.upd_same (s:St) (b:Nat) (o:Y6):(s.upd b o) b=some o:=by simp [St.upd]
theorem St.upd_ne (s:St) {b c:Nat} (o:Y6) (h:c≠b):(s.upd b o) c=s c:=by simp [St.upd,h]
theorem St.upd_upd (s:St) (b:Nat) (o o':Y6):(s.upd b o).upd b o'=s.upd b o':=by
 funext c; simp only [St.upd]; by_cases h:c=b <;> simp [h]
theorem St.upd_comm (s:St) {b c:Nat} (o o':Y6) (h:c≠b):(s.upd b o).upd c o'=(s.upd c o').upd b o:=by
 funext x; simp only [St.upd]
 by_cases h1:x=b
 ·subst h1; simp [Ne.symm h]
 ·simp [h1]
theorem St.sub_upd {s:St} {b:Nat} (o:Y6) (h:s b=none):s.sub (s.upd b o):=fun c x hx=>by
 have:c≠b:=fun hc=>by rw [hc,h] at hx; simp at hx
 rw [St.upd_ne s o this]; exact hx
theorem St.sub_trans {s s' s'':St} (h:s.sub s') (h':s'.sub s''):s.sub s'':=fun b o ho=>h' b o (h b o ho)
inductive DWf:D→Prop where
 | int (k:IntKind) (n:Int) (h:inR k n):DWf (.int k n)
 | str (l:List UInt8) (h:l.length≤big):DWf (.str l)
 | agg (cs:List D) (h:∀ c∈cs,DWf c):DWf (.agg cs)
 | tup (cs:List D) (h:∀ c∈cs,DWf c):DWf (.tup cs)
 | sl (t:Tok) (n s:Nat) (row:Nat→List D) (h:n≤big) (hl:∀ i,i < n→(row i).length=s) (hr:∀ i,i < n→∀ c∈row i,DWf c):DWf (.sl t n s row)
 | ep (cs:List D) (o:Nat) (h:∀ c∈cs,DWf c):DWf (.ep cs o)
 | iface (t:TypeId) (d:D) (h:DWf d):DWf (.iface t d)
 | msl (b o n cap s:Nat) (h:n≤cap) (h':cap≤big):DWf (.msl b o n cap s)
 | fn (f:Fn) (a b:List D) (h:∀ c∈a,DWf c) (h':∀ c∈b,DWf c):DWf (.fn f a b)
 | other (d:D) (h:match d with | .int .. | .str _ | .agg _ | .tup _ | .sl .. | .ep .. | .iface .. | .msl .. | .fn ..=>False | _=>True):DWf d
theorem Zcb {Q:D→Prop} {vs:List Value} {ds:List D} (hn:vs.length=ds.length) (h:∀ (i:Nat) (v:Value) (d:D),vs[i]? = some v→ds[i]? = some d→Q d):∀ c∈ds,Q c:=by
 intro c hc
 obtain ⟨i,hi,rfl⟩:=ZvX hc
 exact h i (vs[i]'(by omega)) _ (by simp [show i < vs.length by omega]) (by simp [hi])
theorem Rep.wf {g:G} {w:World} {v:Value} {d:D} (h:Rep g w v d):DWf d:=by
 induction h with
 | int k n h=>exact .int k n h
 | str s l h hb=>exact .str l hb
 | agg vs cells hn _ _ ih=>exact .agg _ (Zcb hn ih)
 | tup vs ds hn _ ih=>exact .tup _ (Zcb hn ih)
 | sl0 a t s row ht=>exact .sl t 0 s row (Nat.zero_le _) (fun i hi=>by omega) (fun i hi=>by omega)
 | sl b o n cap s row t f hl hc hp _ one ht hcap hb ih =>
  refine .sl t n s row (by omega) hl fun i hi c hcm=>?_
  obtain ⟨j,hj,rfl⟩:=ZvX hcm
  exact ih i j _ hi (by simp [hj])
 | ep b o off cells f hc hp _ one ih =>
  refine .ep _ _ fun c hcm=>?_
  obtain ⟨j,hj,rfl⟩:=ZvX hcm
  exact ih j _ (by simp [hj])
 | iface t v d _ ih=>exact .iface t d ih
 | msl b off n cap s h hb=>exact .msl _ _ _ _ _ h hb
 | mslx a b off s=>exact .msl _ _ _ _ _ (ZvR _) (Nat.zero_le _)
 | fn f fs cs df dc hnf hnc _ _ ihf ihc=>exact .fn f df dc (Zcb hnf ihf) (Zcb hnc ihc)
 | _=>exact .other _ trivial
theorem DWf.int_inv {k:IntKind} {n:Int} (h:DWf (.int k n)):inR k n:=by
 cases h with
 | int _ _ h=>exact h
 | other _ h=>exact h.elim
theorem DWf.str_inv {l:List UInt8} (h:DWf (.str l)):l.length≤big:=by
 cases h with
 | str _ h=>exact h
 | other _ h=>exact h.elim
theorem DWf.agg_inv {cs:List D} (h:DWf (.agg cs)):∀ c∈cs,DWf c:=by
 cases h with
 | agg _ h=>exact h
 | other _ h=>exact h.elim
theorem DWf.sl_inv {t:Tok} {n s:Nat} {row:Nat→List D} (h:DWf (.sl t n s row)):n≤big∧(∀ i,i < n→(row i).length=s)∧∀ i,i < n→∀ c∈row i,DWf c:=by
 cases h with
 | sl _ _ _ _ h1 h2 h3=>exact ⟨h1,h2,h3⟩
 | other _ h=>exact h.elim
theorem ZtK {g:G} {w:World} {vs:List Value} {ds:List D} (h:ZZ (Rep g w) vs ds):∀ d∈ds,DWf d:=Zcb h.len fun i v d hv hd=>(h.get i v d hv hd).wf
section
variable {P:Program}
theorem Zg2 {f:FuncId} {args:List D} {s:St} {Φ:Res→St→Prop} (hf:∃ fn,P.funcs[f]? = some fn∧fn.body.isSome=true∧(fn.name == "runtime.NumGoroutine")=false) (h:(∀ a∈args,DWf a)→ZK P f args s Φ):ZK P f args s Φ :=
 ⟨hf,fun g w vs hs ha=>(h (ZtK ha)).2 g w vs hs ha⟩
theorem ZmU {an:Ann} {f:FuncId} {df:DF} (hf:cf P an f=some df):∃ fn,P.funcs[f]? = some fn∧fn.body.isSome=true∧(fn.name == "runtime.NumGoroutine")=false:=by
 unfold cf at hf
 split at hf <;> (try (simp at hf; done))
 rename_i fn hfn
 split at hf <;> (try (simp at hf; done))
 rename_i c hc
 split at hf <;> (try (simp at hf; done))
 rename_i hname
 exact ⟨fn,hfn,by simp [hc],by simpa using hname⟩
theorem Zbm {an:Ann} {f:FuncId} {df:DF} (hf:cf P an f=some df) {args:List D} {s:St} {Φ:Res→St→Prop}
  (h:(∀ a∈args,DWf a)→∀ F:Fr P,Kd F df.res Φ []→ZD F [.code df.body] (QZ 0 args) [] s):ZK P f args s Φ :=
 Zg2 (ZmU hf) fun hw=>ZP hf (h hw)
theorem Jj {an:Ann} {f:FuncId} {df:DF} (hf:cf P an f=some df) {args:List D} {d:D}
  (h:(∀ a∈args,DWf a)→∀ (F:Fr P) (s:St),(∀ {dk:List Zp} {ρ:Env} {L:Loc} {s':St} {p:Prop} {ds:List D},KI ρ L s' df.res=some (p,ds)→p→(Jw ds).Le d→s.sub s'→ZD F (.code .ret :: dk) ρ L s') →
   ZD F [.code df.body] (QZ 0 args) [] s):Z7 P f args d :=
 fun s=>Zg2 (ZmU hf) fun hw=>ZP hf fun F hF=>h hw F s fun h1 h2 h3 h4=>hF.ret d s h1 h2 h3 h4 ⟨rfl,rfl⟩
end
section
variable {P:Program}
def YU (P:Program) (f:FuncId) (args:List D) (s:St) (d:D) (s':St):Prop:=ZK P f args s fun r t=>r = .ret d∧t=s'
theorem QE {F:Fr P} {kp:Option (List Nat)} {dk:List Zp} {o:DOp} {os:List DOp} {ρ:Env} {L:Loc} {s s':St} (hg:Zu ρ o.guard=some true) {fx:Opd} {xs:List Opd} (hk:o.k = .call fx xs)
  {p q:Prop} {f:FuncId} {first caps:List D} {es:List E} {ds:List D} (hf:ZV ρ true fx=some (q,.d (.fn (.func f) first caps))) (ha:Wc ρ true xs=some (p,es)) (hds:K4 es=some ds) (hp:p) (hq:q)
  {d:D} (hc:YU P f (first++ds++caps) s d s') (h:DO F kp dk os (ZQ ρ o.dst (.d d)) L s'):DO F kp dk (o :: os) ρ L s :=
 Z4 hg hk hf ha hds hp hq hc (fun d' t ⟨h1,h2⟩=>by simp only [Res.ret.injEq] at h1; subst h1; subst h2; exact h) (fun d' t ⟨h1,_⟩=>by simp at h1)
theorem ZeM {F:Fr P} {kp:Option (List Nat)} {dk:List Zp} {o:DOp} {f:List Nat} {os:List (DOp × List Nat)} {ρ:Env} {L:Loc} {s s':St} {B:List (Nat × Rd)} (hg:Zu ρ o.guard=some true) {fx:Opd} {xs:List Opd} (hk:o.k = .call fx xs)
  {p q:Prop} {fi:FuncId} {first caps:List D} {es:List E} {ds:List D} (hf:ZV ρ true fx=some (q,.d (.fn (.func fi) first caps))) (ha:Wc ρ true xs=some (p,es)) (hds:K4 es=some ds) (hp:p) (hq:q)
  {d:D} (hc:YU P fi (first++ds++caps) s d s') (hB:Kl f s s' L L B) (h:DOA F kp dk os (ZQ ρ o.dst (.d d)) L s' (WP f B)):DOA F kp dk ((o,f) :: os) ρ L s B :=
 ZaM hg hk hf ha hds hp hq hc (fun d' t ⟨h1,h2⟩=>by simp only [Res.ret.injEq] at h1; subst h1; subst h2; exact ⟨hB,h⟩) (fun d' t ⟨h1,_⟩=>by simp at h1)
theorem Zrp {F:Fr P} {kp:Option (List Nat)} {dk:List Zp} {o:DOp} {os:List DOp} {ρ:Env} {L:Loc} {s s':St} (hg:Zu ρ o.guard=some true) {fx:Opd} {xs:List Opd} (hk:o.k = .call fx xs)
  {p q:Prop} {f:D} {es:List E} {ds:List D} (hf:ZV ρ true fx=some (q,.d f)) (ha:Wc ρ true xs=some (p,es)) (hds:K4 es=some ds) (hp:p) (hq:q)
  {d:D} (hc:Qw P f ds s fun r t=>r = .ret d∧t=s') (h:DO F kp dk os (ZQ ρ o.dst (.d d)) L s'):DO F kp dk (o :: os) ρ L s :=
 QF hg hk hf ha hds hp hq hc (fun d' t ⟨h1,h2⟩=>by simp only [Res.ret.injEq] at h1; subst h1; subst h2; exact h) (fun d' t ⟨h1,_⟩=>by simp at h1)
theorem Z7.le {f:FuncId} {args:List D} {d d':D} (h:Z7 P f args d) (e:d=d'):Z7 P f args d':=e ▸ h
end
end Go.DL
namespace Go.DL
open Go Go.Proofs
def ZS.r0:=[qB 2 0,qb 4 false]
def ZS.r1:=[qL 8 3 2,qf 9 5 [.tmp 8],qk 10 .not 9,qm 11 10,qn 11 (qm 12 1),qn 11 (qk 13 .lenS 12),qn 11 (qe 14 .gtr 13 100),qo 15 11 14]
def ZS.r2:=[qf 16 6 [],qm 4 16]
def ZS.r3:=[qL 17 3 2,qm 18 1,qf 19 12 [.tmp 17,.tmp 18],qm 5 19]
def ZS.r4:=[qL 21 3 2,qm 22 1,qf 23 13 [.tmp 21,.tmp 22],qm 20 23,qx 24 0 20,qx 25 1 20,qm 6 24,qm 7 25]
def ZS.r5:=[qL 26 3 2,qf 27 11 [.tmp 26],qk 28 .not 27,qm 29 28,qn 29 (qm 30 7),qn 29 (qk 31 .not 30),qo 32 29 31]
def ZS.r6:=[qm 33 5,qk 34 .not 33,qm 35 34,qy 35 (qf 36 6 []),qO 37 35 36,qm 4 37]
def ZS.r7:List DOp:=[qm 38 5,qL 39 3 2,qf 40 14 [.tmp 39],qm 41 6,qX 42 1 40 41,ql 43 42,⟨some 44,none,.q (.bin .eql (some .bool)) [.tmp 38,.tmp 43]⟩,qm 45 44,qy 45 (qf 46 6 []),qO 47 45 46,qm 4 47]
abbrev ZS.id:Nat:=4
def ZS.an:Ann:=[(0,[1,2]),(1,[1,2,15]),(2,[4]),(3,[1,2,5]),(4,[2,5,6,7]),(5,[2,5,6,32]),(6,[4]),(7,[4])]
def ZS.body:DC:=.seq (qR ZS.r0 [1,2]) (.seq (.seq (qR ZS.r1 [1,2,15]) (qC 15 (.seq (qR ZS.r2 [4]) .ret) .skip)) (.seq (qR ZS.r3 [1,2,5]) (.seq (qR ZS.r4 [2,5,6,7]) (.seq (.seq (qR ZS.r5 [2,5,6,32]) (qC 32 (.seq (qR ZS.r6 [4]) .ret) .skip)) (.seq (qR ZS.r7 [4]) .ret)))))
def ZS.df:DF:=⟨48,[.tmp 4],ZS.body⟩
theorem ZS.ok:cf ZvJ ZS.an ZS.id=some ZS.df:=by kernel_rfl
def Zh.r0:=[qB 1 0,qb 2 false]
def Zh.r1:=[qa 10 1 1,ql 11 10,qk 12 .lenL 11,qe 13 .gtr 12 8,qm 14 13,qn 14 (qa 15 0 1),qn 14 (ql 16 15),qn 14 (qk 17 .lenS 16),qn 14 (qe 18 .gtr 17 100),qo 19 14 18,qm 20 19,qn 20 (qa 21 2 1),qn 20 (ql 22 21),qn 20 (qk 23 .lenS 22),qn 20 (qe 24 .gtr 23 100),qo 25 20 24]
def Zh.r2:=[qb 2 false]
def Zh.r3:=[qi 3 0]
def Zh.r4:=[qm 26 3,qa 27 1 1,ql 28 27,qk 29 .lenL 28,qd 30 .lss 26 29]
def Zh.r6:List DOp:=[qa 33 1 1,ql 34 33,qm 35 3,qX 36 2 34 35,qL 37 2 36,⟨some 4,none,.alloc [.str [],.nilsl]⟩,qS 2 4 37]
def Zh.r7:=[qa 38 1 4,ql 39 38,qk 40 .lenL 39,qe 41 .gtr 40 16,qm 42 41,qn 42 (qa 43 0 4),qn 42 (ql 44 43),qn 42 (qk 45 .lenS 44),qn 42 (qe 46 .gtr 45 100),qo 47 42 46]
def Zh.r8:=[qb 2 false]
def Zh.r9:=[qi 5 0]
def Zh.r10:=[qm 48 5,qa 49 1 4,ql 50 49,qk 51 .lenL 50,qd 52 .lss 48 51]
def Zh.r12:List DOp:=[qa 55 1 4,ql 56 55,qm 57 5,qX 58 15 56 57,qL 59 15 58,⟨some 6,none,.alloc [.str [],.int .i64 0,.int .i64 0,.bool false,.bool false,.int .i64 0,.int .i64 0,.int .i64 0,.nilsl,.str [],.str [],.str [],.nilsl,.int .i64 0,.int .i64 0]⟩,qS 15 6 59]
def Zh.r13:=[qa 60 0 6,ql 61 60,qk 62 .lenS 61,qe 63 .gtr 62 100,qm 64 63,qn 64 (qa 65 12 6),qn 64 (ql 66 65),qn 64 (qk 67 .lenL 66),qn 64 (qe 68 .gtr 67 10),qo 69 64 68,qm 70 69,qn 70 (qa 71 7 6),qn 70 (qa 72 1 71),qn 70 (ql 73 72),qn 70 (qk 74 .lenL 73),qn 70 (qe 75 .gtr 74 6),qo 76 70 75,qm 77 76,qn 77 (qa 78 7 6),qn 77 (qa 79 0 78),qn 77 (ql 80 79),qn 77 (qe 81 .gtr 80 100),qo 82 77 81,qm 83 82,qn 83 (qa 84 1 6),qn 83 (ql 85 84),qn 83 (qe 86 .eql 85 5),qn 83 (qm 87 86),qn 87 (qa 88 1 6),qn 87 (ql 89 88),qn 87 (qe 90 .eql 89 6),qn 83 (qo 91 87 90),qn 83 (qm 92 91),qy 92 (qa 93 6 6),qy 92 (ql 94 93),qy 92 (qe 95 .gtr 94 100),qn 83 (qO 96 92 95),qo 97 83 96]
def Zh.r14:=[qb 2 false]
def Zh.r15:=[qi 7 0]
def Zh.r16:=[qm 98 7,qa 99 7 6,qa 100 1 99,ql 101 100,qk 102 .lenL 101,qd 103 .lss 98 102]
def Zh.r18:=[qL 107 2 4,qa 108 7 6,qa 109 1 108,ql 110 109,qm 111 7,qX 112 2 110 111,qa 113 0 112,ql 114 113,qf 115 15 [.tmp 107,.tmp 114],qm 106 115,qx 116 0 106,qx 117 1 106,qm 8 116,qm 9 117]
def Zh.r19:=[qm 118 9,qm 119 118,qy 119 (qa 120 7 6),qy 119 (qa 121 1 120),qy 119 (ql 122 121),qy 119 (qm 123 7),qy 119 (qX 124 2 122 123),qy 119 (qa 125 1 124),qy 119 (ql 126 125),qy 119 (qe 127 .gtr 126 4),qy 119 (qm 128 127),qn 128 (qa 129 1 4),qn 128 (ql 130 129),qn 128 (qm 131 8),qn 128 (qX 132 15 130 131),qn 128 (qa 133 5 132),qn 128 (ql 134 133),qn 128 (qa 135 1 4),qn 128 (ql 136 135),qn 128 (qm 137 8),qn 128 (qX 138 15 136 137),qn 128 (qa 139 6 138),qn 128 (ql 140 139),qn 128 ⟨some 141,none,.q .max [.tmp 134,.tmp 140]⟩,qn 128 (qe 142 .gtr 141 300),qy 119 (qo 143 128 142),qO 144 119 143]
def Zh.r20:=[qb 2 false]
def Zh.r17:=[qm 104 7,qe 105 .add 104 1,qm 7 105]
def Zh.l2:DC:=.seq (.seq (qR Zh.r16 [1,3,4,5,6,7,103]) (qC 103 .skip (.exit 4))) (.seq (.block 5 (.seq (.regD [0,1,2,3,4,5,6,7,8,9,10,11,12,13] (JA Zh.r18) (some [1,3,4,5,6,7,8,9])) (.seq (.regD [0,1,2,3,4,5,6,7,8,9,10,11,12,13,14,15,16,17,18,19,20,21,22,23,24,25,26] (JA Zh.r19) (some [1,3,4,5,6,7,144])) (qC 144 (.seq (qR Zh.r20 [2]) .ret) .skip)))) (qR Zh.r17 [1,3,4,5,6,7]))
def Zh.r11:=[qm 53 5,qe 54 .add 53 1,qm 5 54]
def Zh.l1:DC:=.seq (.seq (qR Zh.r10 [1,3,4,5,52]) (qC 52 .skip (.exit 2))) (.seq (.block 3 (.seq (qR Zh.r12 [1,3,4,5,6]) (.seq (.seq (qR Zh.r13 [1,3,4,5,6,97]) (qC 97 (.seq (qR Zh.r14 [2]) .ret) .skip)) (.seq (qR Zh.r15 [1,3,4,5,6,7]) (.block 4 (.loop Zh.l2)))))) (qR Zh.r11 [1,3,4,5]))
def Zh.r5:=[qm 31 3,qe 32 .add 31 1,qm 3 32]
def Zh.l0:DC:=.seq (.seq (qR Zh.r4 [1,3,30]) (qC 30 .skip (.exit 0))) (.seq (.block 1 (.seq (qR Zh.r6 [1,3,4]) (.seq (.seq (qR Zh.r7 [1,3,4,47]) (qC 47 (.seq (qR Zh.r8 [2]) .ret) .skip)) (.seq (qR Zh.r9 [1,3,4,5]) (.block 2 (.loop Zh.l1)))))) (qR Zh.r5 [1,3]))
def Zh.r21:=[qb 2 true]
abbrev Zh.id:Nat:=5
def Zh.an:Ann:=[(0,[1]),(1,[1,25]),(2,[2]),(3,[1,3]),(4,[1,3,30]),(5,[1,3]),(6,[1,3,4]),(7,[1,3,4,47]),(8,[2]),(9,[1,3,4,5]),(10,[1,3,4,5,52]),(11,[1,3,4,5]),(12,[1,3,4,5,6]),(13,[1,3,4,5,6,97]),(14,[2]),(15,[1,3,4,5,6,7]),(16,[1,3,4,5,6,7,103]),(17,[1,3,4,5,6,7]),(18,[1,3,4,5,6,7,8,9]),(19,[1,3,4,5,6,7,144]),(20,[2]),(21,[2]),(1000018,[0,1,2,3,4,5,6,7,8,9,10,11,12,13]),(1000019,[0,1,2,3,4,5,6,7,8,9,10,11,12,13,14,15,16,17,18,19,20,21,22,23,24,25,26])]
def Zh.body:DC:=.seq (qR Zh.r0 [1]) (.seq (.seq (qR Zh.r1 [1,25]) (qC 25 (.seq (qR Zh.r2 [2]) .ret) .skip)) (.seq (.seq (qR Zh.r3 [1,3]) (.block 0 (.loop Zh.l0))) (.seq (qR Zh.r21 [2]) .ret)))
def Zh.df:DF:=⟨145,[.tmp 2],Zh.body⟩
theorem Zh.ok:cf ZvJ Zh.an Zh.id=some Zh.df:=by kernel_rfl
def Wv.r0:=[qB 1 0,qb 2 false]
def Wv.r1:List DOp:=[qL 6 3 1,qf 7 26 [.tmp 6],qm 5 7,qx 8 0 5,qx 9 1 5,⟨some 3,none,.alloc [.int .i64 0,.int .i64 0,.int .i64 0]⟩,qS 3 3 8,qm 4 9]
def Wv.r2:=[qm 10 4,qk 11 .not 10,qm 2 11]
abbrev Wv.id:Nat:=11
def Wv.an:Ann:=[(0,[1]),(1,[4]),(2,[2])]
def Wv.body:DC:=.seq (qR Wv.r0 [1]) (.seq (qR Wv.r1 [4]) (.seq (qR Wv.r2 [2]) .ret))
def Wv.df:DF:=⟨12,[.tmp 2],Wv.body⟩
theorem Wv.ok:cf ZvJ Wv.an Wv.id=some Wv.df:=by kernel_rfl
def Y9.r0:=[qB 2 0,qb 4 false]
def Y9.r1:=[qL 5 3 2,qf 6 11 [.tmp 5],qk 7 .not 6]
def Y9.r2:=[qb 4 false]
def Y9.r3:List DOp:=[qL 8 3 2,qf 9 23 [.tmp 8],qm 10 1,⟨some 11,none,.q (.lookup (.sc .str) (.bool false) false) [.tmp 9,.tmp 10]⟩,qm 4 11]
abbrev Y9.id:Nat:=12
def Y9.an:Ann:=[(0,[1,2]),(1,[1,2,7]),(2,[4]),(3,[4])]
def Y9.body:DC:=.seq (qR Y9.r0 [1,2]) (.seq (.seq (qR Y9.r1 [1,2,7]) (qC 7 (.seq (qR Y9.r2 [4]) .ret) .skip)) (.seq (qR Y9.r3 [4]) .ret))
def Y9.df:DF:=⟨12,[.tmp 4],Y9.body⟩
theorem Y9.ok:cf ZvJ Y9.an Y9.id=some Y9.df:=by kernel_rfl
def KG.r0:=[qB 2 0,qB 3 1,qi 4 0,qb 5 false]
def KG.r1:List DOp:=[qa 6 1 2,ql 7 6,⟨some 8,none,.q (.mkfn (.func 28) 0) [.tmp 3]⟩,qf 9 27 [.tmp 7,.tmp 8],qx 10 0 9,qx 11 1 9,qm 4 10,qm 5 11]
abbrev KG.id:Nat:=13
def KG.an:Ann:=[(0,[2,3]),(1,[4,5])]
def KG.body:DC:=.seq (qR KG.r0 [2,3]) (.seq (qR KG.r1 [4,5]) .ret)
def KG.df:DF:=⟨12,[.tmp 4,.tmp 5],KG.body⟩
theorem KG.ok:cf ZvJ KG.an KG.id=some KG.df:=by kernel_rfl
def Zr.r0:List DOp:=[qB 1 0,⟨some 2,none,.q .mv [.cst (.nilsl)]⟩]
def Zr.r1:List DOp:=[qa 9 1 1,ql 10 9,qk 11 .lenL 10,⟨some 12,none,.mkslice 4 1 1 [.bool false] (.tmp 11) (.tmp 11)⟩,qm 3 12]
def Zr.r2:List DOp:=[qm 13 3,qL 14 3 1,qa 15 2 1,ql 16 15,qa 17 1 1,ql 18 17,qk 19 .lenL 18,qf 20 29 [.tmp 14,.tmp 16,.tmp 19],qX 21 1 13 20,⟨none,none,.store1 (.tmp 21) (.cst (.bool true))⟩]
def Zr.r3:=[qa 22 1 1,ql 23 22,qk 24 .lenL 23,qe 25 .sub 24 1,qm 4 25]
def Zr.r4:=[qm 26 4,qe 27 .geq 26 0]
def Zr.r6:List DOp:=[qa 30 1 1,ql 31 30,qm 32 4,qX 33 2 31 32,qL 34 2 33,⟨some 5,none,.alloc [.str [],.nilsl]⟩,qS 2 5 34]
def Zr.r7:=[qi 6 0]
def Zr.r8:=[qm 35 3,qm 36 4,qX 37 1 35 36,ql 38 37,qm 39 38,qy 39 (qm 40 6),qy 39 (qa 41 1 5),qy 39 (ql 42 41),qy 39 (qk 43 .lenL 42),qy 39 (qd 44 .lss 40 43),qO 45 39 44]
def Zr.r10:List DOp:=[qa 48 1 5,ql 49 48,qm 50 6,qX 51 15 49 50,qL 52 15 51,⟨some 7,none,.alloc [.str [],.int .i64 0,.int .i64 0,.bool false,.bool false,.int .i64 0,.int .i64 0,.int .i64 0,.nilsl,.str [],.str [],.str [],.nilsl,.int .i64 0,.int .i64 0]⟩,qS 15 7 52]
def Zr.r11:=[qi 8 0]
def Zr.r12:=[qm 53 8,qa 54 12 7,ql 55 54,qk 56 .lenL 55,qd 57 .lss 53 56]
def Zr.r14:List DOp:=[qm 60 3,qL 61 3 1,qa 62 12 7,ql 63 62,qm 64 8,qX 65 3 63 64,qa 66 2 65,ql 67 66,qa 68 1 1,ql 69 68,qk 70 .lenL 69,qf 71 29 [.tmp 61,.tmp 67,.tmp 70],qX 72 1 60 71,⟨none,none,.store1 (.tmp 72) (.cst (.bool true))⟩]
def Zr.r13:=[qm 58 8,qe 59 .add 58 1,qm 8 59]
def Zr.l2:DC:=.seq (.seq (qR Zr.r12 [1,3,4,5,6,7,8,57]) (qC 57 .skip (.exit 4))) (.seq (.block 5 (.regD [0,1,2,3,4,5,6,7,8,9,10,11,12,13] (JA Zr.r14) (some [1,3,4,5,6,7,8]))) (qR Zr.r13 [1,3,4,5,6,7,8]))
def Zr.r15:=[qa 73 1 7,ql 74 73,qe 75 .eql 74 8,qm 76 75,qn 76 (qa 77 1 7),qn 76 (ql 78 77),qn 76 (qe 79 .eql 78 12),qo 80 76 79,qm 81 80,qn 81 (qa 82 1 7),qn 81 (ql 83 82),qn 81 (qe 84 .eql 83 7),qn 81 (qm 85 84),qy 85 (qL 86 2 5),qy 85 (qa 87 7 7),qy 85 (qL 88 2 87),qy 85 (qf 89 30 [.tmp 86,.tmp 88]),qy 85 (qe 90 .gtr 89 0),qn 81 (qO 91 85 90),qo 92 81 91]
def Zr.r16:List DOp:=[qm 93 3,qL 94 3 1,qa 95 9 7,ql 96 95,qa 97 1 1,ql 98 97,qk 99 .lenL 98,qf 100 29 [.tmp 94,.tmp 96,.tmp 99],qX 101 1 93 100,⟨none,none,.store1 (.tmp 101) (.cst (.bool true))⟩]
def Zr.r9:=[qm 46 6,qe 47 .add 46 1,qm 6 47]
def Zr.l1:DC:=.seq (.seq (qR Zr.r8 [1,3,4,5,6,45]) (qC 45 .skip (.exit 2))) (.seq (.block 3 (.seq (qR Zr.r10 [1,3,4,5,6,7]) (.seq (.seq (qR Zr.r11 [1,3,4,5,6,7,8]) (.block 4 (.loop Zr.l2))) (.seq (qR Zr.r15 [1,3,4,5,6,7,92]) (qC 92 (qR Zr.r16 [1,3,4,5,6]) .skip))))) (qR Zr.r9 [1,3,4,5,6]))
def Zr.r5:=[qm 28 4,qe 29 .sub 28 1,qm 4 29]
def Zr.l0:DC:=.seq (.seq (qR Zr.r4 [1,3,4,27]) (qC 27 .skip (.exit 0))) (.seq (.block 1 (.seq (qR Zr.r6 [1,3,4,5]) (.seq (qR Zr.r7 [1,3,4,5,6]) (.block 2 (.loop Zr.l1))))) (qR Zr.r5 [1,3,4]))
def Zr.r17:=[qm 102 3,qm 2 102]
abbrev Zr.id:Nat:=14
def Zr.an:Ann:=[(0,[1]),(1,[1,3]),(2,[1,3]),(3,[1,3,4]),(4,[1,3,4,27]),(5,[1,3,4]),(6,[1,3,4,5]),(7,[1,3,4,5,6]),(8,[1,3,4,5,6,45]),(9,[1,3,4,5,6]),(10,[1,3,4,5,6,7]),(11,[1,3,4,5,6,7,8]),(12,[1,3,4,5,6,7,8,57]),(13,[1,3,4,5,6,7,8]),(14,[1,3,4,5,6,7,8]),(15,[1,3,4,5,6,7,92]),(16,[1,3,4,5,6]),(17,[2]),(1000014,[0,1,2,3,4,5,6,7,8,9,10,11,12,13])]
def Zr.body:DC:=.seq (qR Zr.r0 [1]) (.seq (qR Zr.r1 [1,3]) (.seq (qR Zr.r2 [1,3]) (.seq (.seq (qR Zr.r3 [1,3,4]) (.block 0 (.loop Zr.l0))) (.seq (qR Zr.r17 [2]) .ret))))
def Zr.df:DF:=⟨103,[.tmp 2],Zr.body⟩
theorem Zr.ok:cf ZvJ Zr.an Zr.id=some Zr.df:=by kernel_rfl
def Kp.r0:=[qB 2 0,qB 3 1,qi 4 0,qb 5 false]
def Kp.r1:List DOp:=[qa 6 1 2,ql 7 6,⟨some 8,none,.q (.mkfn (.func 32) 0) [.tmp 3]⟩,qf 9 31 [.tmp 7,.tmp 8],qx 10 0 9,qx 11 1 9,qm 4 10,qm 5 11]
abbrev Kp.id:Nat:=15
def Kp.an:Ann:=[(0,[2,3]),(1,[4,5])]
def Kp.body:DC:=.seq (qR Kp.r0 [2,3]) (.seq (qR Kp.r1 [4,5]) .ret)
def Kp.df:DF:=⟨12,[.tmp 4,.tmp 5],Kp.body⟩
theorem Kp.ok:cf ZvJ Kp.an Kp.id=some Kp.df:=by kernel_rfl
def Yk.r0:=[qB 2 0,qB 3 1,qi 4 0,qi 5 0]
def Yk.r1:=[qi 6 0]
def Yk.r2:=[qm 8 6,qa 9 1 2,ql 10 9,qk 11 .lenL 10,qd 12 .lss 8 11]
def Yk.r4:List DOp:=[qa 15 1 2,ql 16 15,qm 17 6,qX 18 15 16 17,qL 19 15 18,⟨some 7,none,.alloc [.str [],.int .i64 0,.int .i64 0,.bool false,.bool false,.int .i64 0,.int .i64 0,.int .i64 0,.nilsl,.str [],.str [],.str [],.nilsl,.int .i64 0,.int .i64 0]⟩,qS 15 7 19]
def Yk.r5:=[qa 20 1 7,ql 21 20,qe 22 .eql 21 9,qm 23 22,qy 23 (qa 24 10 7),qy 23 (ql 25 24),qy 23 (qa 26 0 3),qy 23 (ql 27 26),qy 23 (qd 28 .eql 25 27),qO 29 23 28]
def Yk.r6:List DOp:=[qa 30 12 7,ql 31 30,⟨some 32,none,.q (.iaddr 3) [.tmp 31,.cst (.int .i64 0)]⟩,qa 33 0 32,ql 34 33,qa 35 12 7,ql 36 35,qa 37 12 7,ql 38 37,qk 39 .lenL 38,qe 40 .sub 39 1,qX 41 3 36 40,qa 42 1 41,ql 43 42,qm 4 34,qm 5 43]
def Yk.r3:=[qm 13 6,qe 14 .add 13 1,qm 6 14]
def Yk.l0:DC:=.seq (.seq (qR Yk.r2 [2,3,6,12]) (qC 12 .skip (.exit 0))) (.seq (.block 1 (.seq (qR Yk.r4 [2,3,6,7]) (.seq (qR Yk.r5 [2,3,6,7,29]) (qC 29 (.seq (.regD [0,1,2,3,4,5,6,7,8,9,10,11,12,13,14,15] (JA Yk.r6) (some [4,5])) .ret) .skip)))) (qR Yk.r3 [2,3,6]))
def Yk.r7:=[qL 44 15 3,qf 45 40 [.tmp 44],qx 46 0 45,qx 47 1 45,qm 4 46,qm 5 47]
abbrev Yk.id:Nat:=22
def Yk.an:Ann:=[(0,[2,3]),(1,[2,3,6]),(2,[2,3,6,12]),(3,[2,3,6]),(4,[2,3,6,7]),(5,[2,3,6,7,29]),(6,[4,5]),(7,[4,5]),(1000006,[0,1,2,3,4,5,6,7,8,9,10,11,12,13,14,15])]
def Yk.body:DC:=.seq (qR Yk.r0 [2,3]) (.seq (.seq (qR Yk.r1 [2,3,6]) (.block 0 (.loop Yk.l0))) (.seq (qR Yk.r7 [4,5]) .ret))
def Yk.df:DF:=⟨48,[.tmp 4,.tmp 5],Yk.body⟩
theorem Yk.ok:cf ZvJ Yk.an Yk.id=some Yk.df:=by kernel_rfl
def Yg.r0:List DOp:=[qB 1 0,⟨some 2,none,.q .mv [.cst (.nilmap)]⟩]
def Yg.r1:List DOp:=[⟨some 5,none,.mkmap⟩,⟨some 3,none,.alloc [.nilmap]⟩,qs 3 5]
def Yg.r2:List DOp:=[⟨some 4,none,.alloc [.nilfn]⟩]
def Yg.r3:List DOp:=[⟨some 6,none,.q (.mkfn (.func 41) 0) [.tmp 3,.tmp 1,.tmp 4]⟩,qs 4 6]
def Yg.r4:List DOp:=[ql 7 4,qa 8 2 1,ql 9 8,⟨some 10,none,.bsl 1 1 [.str []] [0] [.tmp 9]⟩,⟨some 11,none,.call (.tmp 7) [.tmp 10]⟩]
def Yg.r5:=[ql 12 3,qm 2 12]
abbrev Yg.id:Nat:=23
def Yg.an:Ann:=[(0,[1]),(1,[1,3]),(2,[1,3,4]),(3,[1,3,4]),(4,[3]),(5,[2])]
def Yg.body:DC:=.seq (qR Yg.r0 [1]) (.seq (qR Yg.r1 [1,3]) (.seq (qR Yg.r2 [1,3,4]) (.seq (qR Yg.r3 [1,3,4]) (.seq (qR Yg.r4 [3]) (.seq (qR Yg.r5 [2]) .ret)))))
def Yg.df:DF:=⟨13,[.tmp 2],Yg.body⟩
theorem Yg.ok:cf ZvJ Yg.an Yg.id=some Yg.df:=by kernel_rfl
def ZO.r0:List DOp:=[qB 2 0,qB 3 1,⟨some 4,none,.alloc [.int .i64 0,.int .i64 0]⟩]
def ZO.r1:=[qa 11 1 2,ql 12 11,qk 13 .lenL 12,qi 14 0]
def ZO.r2:=[qd 15 .lss 14 13]
def ZO.r3:List DOp:=[qX 16 15 12 14,qL 17 15 16,⟨some 6,none,.alloc [.str [],.int .i64 0,.int .i64 0,.bool false,.bool false,.int .i64 0,.int .i64 0,.int .i64 0,.nilsl,.str [],.str [],.str [],.nilsl,.int .i64 0,.int .i64 0]⟩,qS 15 6 17]
def ZO.r4:=[qa 18 1 6,ql 19 18,qe 20 .eql 19 9,qm 21 20,qy 21 (qa 22 10 6),qy 21 (ql 23 22),qy 21 (qa 24 0 3),qy 21 (ql 25 24),qy 21 (qd 26 .eql 23 25),qO 27 21 26]
def ZO.r5:=[qa 29 12 6,ql 30 29,qf 31 43 [.tmp 30,.cst (.fn (.func 44) [] [])],qm 28 31,qx 32 0 28,qx 33 1 28,qm 7 32,qm 8 33]
def ZO.r6:List DOp:=[qm 34 7,qm 35 8,⟨some 36,none,.q (.build [.int .i64 0,.int .i64 0] [(0,1),(1,1)]) [.tmp 34,.tmp 35]⟩,qS 2 4 36]
def ZO.r7:=[qe 37 .add 14 1,qm 14 37]
def ZO.l0:DC:=.seq (qR ZO.r2 [3,4,12,13,14,15]) (.seq (qC 15 .skip (.exit 0)) (.seq (.block 1 (.seq (qR ZO.r3 [3,4,6,12,13,14]) (.seq (qR ZO.r4 [3,4,6,12,13,14,27]) (qC 27 (.seq (qR ZO.r5 [4,7,8]) (.seq (qR ZO.r6 [4]) .ret)) .skip)))) (qR ZO.r7 [3,4,12,13,14])))
def ZO.r8:List DOp:=[qL 39 15 3,qf 40 45 [.tmp 39],qm 38 40,qx 41 0 38,qx 42 1 38,⟨some 9,none,.alloc [.int .i64 0,.int .i64 0]⟩,qS 2 9 41,qm 10 42]
def ZO.r9:=[qL 43 2 9,qS 2 4 43]
abbrev ZO.id:Nat:=24
def ZO.an:Ann:=[(0,[2,3,4]),(1,[3,4,12,13,14]),(2,[3,4,12,13,14,15]),(3,[3,4,6,12,13,14]),(4,[3,4,6,12,13,14,27]),(5,[4,7,8]),(6,[4]),(7,[3,4,12,13,14]),(8,[4,9]),(9,[4])]
def ZO.body:DC:=.seq (qR ZO.r0 [2,3,4]) (.seq (.seq (qR ZO.r1 [3,4,12,13,14]) (.block 0 (.loop ZO.l0))) (.seq (qR ZO.r8 [4,9]) (.seq (qR ZO.r9 [4]) .ret)))
def ZO.df:DF:=⟨44,[.cellN 4 2],ZO.body⟩
theorem ZO.ok:cf ZvJ ZO.an ZO.id=some ZO.df:=by kernel_rfl
def Zj.r0:List DOp:=[qB 1 0,⟨some 2,none,.alloc [.int .i64 0,.int .i64 0,.int .i64 0]⟩,⟨some 3,none,.alloc [.bool false]⟩]
def Zj.r1:=[qL 9 3 1,qf 10 46 [.tmp 9],qm 8 10,qx 11 0 8,qx 12 1 8,qS 3 2 11,qs 3 12]
def Zj.r2:=[ql 13 3]
def Zj.r3:List (DOp × List Nat):=[
 (⟨some 14,none,.q (.loadN 3) [.tmp 2]⟩,[]),
 (⟨some 15,none,.q (.load1) [.tmp 3]⟩,[]),
 (⟨none,none,.storeN 3 (.tmp 2) (.tmp 14)⟩,[15]),
 (⟨none,none,.store1 (.tmp 3) (.tmp 15)⟩,[])]
def Zj.r4:=[qa 16 1 1,ql 17 16,qk 18 .lenL 17,qi 19 0]
def Zj.r5:=[qd 20 .lss 19 18]
def Zj.r6:List DOp:=[qm 21 19,qX 22 2 17 19,qL 23 2 22,⟨some 4,none,.alloc [.int .i64 0]⟩,⟨some 5,none,.alloc [.str [],.nilsl]⟩,qs 4 21,qS 2 5 23]
def Zj.r7:=[qa 24 1 5,ql 25 24,qf 26 47 [.tmp 25]]
def Zj.r8:=[qm 6 27]
def Zj.r9:=[qm 7 28]
def Zj.r10:=[qa 29 1 5,ql 30 29,qm 31 6,qm 32 7,qf 33 48 [.tmp 30,.tmp 31,.tmp 32],qs 3 33]
def Zj.r11:=[ql 34 3]
def Zj.r12:List DOp:=[ql 35 4,qm 36 6,⟨some 37,none,.q (.build [.int .i64 0,.int .i64 0,.int .i64 0] [(0,1),(1,1),(2,1)]) [.tmp 35,.tmp 36,.cst (.int .i64 12)]⟩,qS 3 2 37]
def Zj.r13:=[qm 38 6,qa 39 1 5,ql 40 39,qk 41 .lenL 40,qd 42 .eql 38 41]
def Zj.r14:List DOp:=[qa 43 1 2,⟨none,none,.store1 (.tmp 43) (.cst (.int .i64 (-1)))⟩]
def Zj.a1:DC:=.seq (qR Zj.r8 [2,3,4,5,6,17,18,19,27,28]) (qR Zj.r9 [2,3,4,5,6,7,17,18,19,27,28])
def Zj.b1:DC:=.block 3 (.seq (qR Zj.r10 [2,3,4,5,6,17,18,19,27,28]) (.seq (qR Zj.r11 [2,3,4,5,6,17,18,19,27,28,34]) (qC 34 (.seq (qR Zj.r12 [2,3,5,6]) (.seq (.seq (qR Zj.r13 [2,3,42]) (qC 42 (qR Zj.r14 [2,3]) .skip)) (.exit 0))) .skip)))
def Zj.r15:=[qe 44 .add 19 1,qm 19 44]
def Zj.l0:DC:=.seq (qR Zj.r5 [2,3,17,18,19,20,27,28]) (.seq (qC 20 .skip (.exit 0)) (.seq (.block 1 (.seq (qR Zj.r6 [2,3,4,5,17,18,19,27,28]) (.seq (qR Zj.r7 [2,3,4,5,17,18,19,26,27,28]) (.block 2 (.rangeF (.tmp 26) [27,28] Zj.a1 Zj.b1))))) (qR Zj.r15 [2,3,17,18,19,27,28])))
def Zj.r16:List (DOp × List Nat):=[
 (⟨some 45,none,.q (.loadN 3) [.tmp 2]⟩,[]),
 (⟨some 46,none,.q (.load1) [.tmp 3]⟩,[]),
 (⟨none,none,.storeN 3 (.tmp 2) (.tmp 45)⟩,[46]),
 (⟨none,none,.store1 (.tmp 3) (.tmp 46)⟩,[])]
abbrev Zj.id:Nat:=26
def Zj.an:Ann:=[(0,[1,2,3,27,28]),(1,[1,2,3,27,28]),(2,[1,2,3,13,27,28]),(3,[2,3]),(4,[2,3,17,18,19,27,28]),(5,[2,3,17,18,19,20,27,28]),(6,[2,3,4,5,17,18,19,27,28]),(7,[2,3,4,5,17,18,19,26,27,28]),(8,[2,3,4,5,6,17,18,19,27,28]),(9,[2,3,4,5,6,7,17,18,19,27,28]),(10,[2,3,4,5,6,17,18,19,27,28]),(11,[2,3,4,5,6,17,18,19,27,28,34]),(12,[2,3,5,6]),(13,[2,3,42]),(14,[2,3]),(15,[2,3,17,18,19,27,28]),(16,[2,3]),(1000003,[0,1,2,3]),(1000016,[0,1,2,3]),(6000003,[15]),(6000016,[46])]
def Zj.body:DC:=.seq (qR Zj.r0 [1,2,3,27,28]) (.scope (.seq (.seq (qR Zj.r1 [1,2,3,27,28]) (.seq (qR Zj.r2 [1,2,3,13,27,28]) (qC 13 (.seq (.regD [0,1,2,3] Zj.r3 (some [2,3])) .ret) .skip))) (.seq (.label 0) (.seq (.seq (qR Zj.r4 [2,3,17,18,19,27,28]) (.block 0 (.loop Zj.l0))) (.seq (.regD [0,1,2,3] Zj.r16 (some [2,3])) .ret)))))
def Zj.df:DF:=⟨47,[.cellN 2 3,.cell1 3],Zj.body⟩
theorem Zj.ok:cf ZvJ Zj.an Zj.id=some Zj.df:=by kernel_rfl
def Yp.r0:=[qi 4 0,qb 5 false]
def Yp.r1:=[qm 7 0,qm 8 1,qf 9 49 [.tmp 7,.tmp 8],qm 6 9]
def Yp.r2:List DOp:=[qm 10 6,⟨some 11,none,.q .max [.tmp 10,.cst (.int .i64 0)]⟩,qm 12 6,qe 13 .geq 12 0,qm 4 11,qm 5 13]
abbrev Yp.id:Nat:=27
def Yp.an:Ann:=[(0,[0,1]),(1,[6]),(2,[4,5])]
def Yp.body:DC:=.seq (qR Yp.r0 [0,1]) (.seq (qR Yp.r1 [6]) (.seq (qR Yp.r2 [4,5]) .ret))
def Yp.df:DF:=⟨14,[.tmp 4,.tmp 5],Yp.body⟩
theorem Yp.ok:cf ZvJ Yp.an Yp.id=some Yp.df:=by kernel_rfl
def WL.r0:=[qB 2 0,qb 3 false]
def WL.r1:=[qa 4 0 2,ql 5 4,ql 6 1,qd 7 .eql 5 6,qm 3 7]
abbrev WL.id:Nat:=28
def WL.an:Ann:=[(0,[1,2]),(1,[3])]
def WL.body:DC:=.seq (qR WL.r0 [1,2]) (.seq (qR WL.r1 [3]) .ret)
def WL.df:DF:=⟨8,[.tmp 3],WL.body⟩
theorem WL.ok:cf ZvJ WL.an WL.id=some WL.df:=by kernel_rfl
def Wd.r0:=[qB 3 0,qi 6 0]
def Wd.r1:=[qi 7 0]
def Wd.r2:=[qm 8 7,qm 9 2,qd 10 .lss 8 9]
def Wd.r4:=[qa 13 1 3,ql 14 13,qm 15 7,qX 16 2 14 15,qa 17 0 16,ql 18 17,qm 19 1,qd 20 .eql 18 19]
def Wd.r5:=[qm 21 7,qm 6 21]
def Wd.r3:=[qm 11 7,qe 12 .add 11 1,qm 7 12]
def Wd.l0:DC:=.seq (.seq (qR Wd.r2 [1,2,3,7,10]) (qC 10 .skip (.exit 0))) (.seq (.block 1 (.seq (qR Wd.r4 [1,2,3,7,20]) (qC 20 (.seq (qR Wd.r5 [6]) .ret) .skip))) (qR Wd.r3 [1,2,3,7]))
def Wd.r6:=[qi 6 (-1)]
abbrev Wd.id:Nat:=29
def Wd.an:Ann:=[(0,[1,2,3]),(1,[1,2,3,7]),(2,[1,2,3,7,10]),(3,[1,2,3,7]),(4,[1,2,3,7,20]),(5,[6]),(6,[6])]
def Wd.body:DC:=.seq (qR Wd.r0 [1,2,3]) (.seq (.seq (qR Wd.r1 [1,2,3,7]) (.block 0 (.loop Wd.l0))) (.seq (qR Wd.r6 [6]) .ret))
def Wd.df:DF:=⟨22,[.tmp 6],Wd.body⟩
theorem Wd.ok:cf ZvJ Wd.an Wd.id=some Wd.df:=by kernel_rfl
def Yc.r0:=[qB 2 0,qB 3 1,qi 4 0]
def Yc.r1:=[qa 9 0 3,ql 10 9,qm 5 10]
def Yc.r2:=[qi 6 0]
def Yc.r3:=[qm 11 6,qa 12 1 3,ql 13 12,qk 14 .lenL 13,qd 15 .lss 11 14]
def Yc.r5:List (DOp × List Nat):=[
 (⟨some 19,none,.q (.loadN 2) [.tmp 2]⟩,[]),
 (⟨some 20,none,.q (.faddr 1) [.tmp 2]⟩,[]),
 (⟨some 21,none,.q (.load1) [.tmp 20]⟩,[]),
 (⟨some 22,none,.q (.loadN 2) [.tmp 2]⟩,[]),
 (⟨some 23,none,.q (.faddr 1) [.tmp 3]⟩,[]),
 (⟨some 24,none,.q (.load1) [.tmp 23]⟩,[]),
 (⟨some 25,none,.q .mv [.tmp 6]⟩,[]),
 (⟨some 26,none,.q (.iaddr 2) [.tmp 24,.tmp 25]⟩,[]),
 (⟨some 27,none,.q (.faddr 0) [.tmp 26]⟩,[]),
 (⟨some 28,none,.q (.load1) [.tmp 27]⟩,[]),
 (⟨some 29,none,.q (.faddr 1) [.tmp 2]⟩,[]),
 (⟨some 30,none,.q (.load1) [.tmp 29]⟩,[]),
 (⟨some 31,none,.q .lenL [.tmp 30]⟩,[]),
 (⟨some 32,none,.call (.cst (.fn (.func 50) [] [])) [.tmp 22,.tmp 28,.tmp 31]⟩,[21,19]),
 (⟨some 33,none,.q (.iaddr 15) [.tmp 21,.tmp 32]⟩,[]),
 (⟨some 34,none,.q (.loadN 15) [.tmp 33]⟩,[]),
 (⟨some 35,none,.call (.cst (.fn (.func 22) [] [])) [.tmp 19,.tmp 34]⟩,[]),
 (⟨some 18,none,.q .mv [.tmp 35]⟩,[]),
 (⟨some 36,none,.q (.ext 0) [.tmp 18]⟩,[]),
 (⟨some 37,none,.q (.ext 1) [.tmp 18]⟩,[]),
 (⟨some 7,none,.q .mv [.tmp 36]⟩,[]),
 (⟨some 8,none,.q .mv [.tmp 37]⟩,[])]
def Yc.r6:List DOp:=[qm 38 5,qa 39 1 3,ql 40 39,qm 41 6,qX 42 2 40 41,qa 43 1 42,ql 44 43,qm 45 7,qd 46 .mul 44 45,qa 47 1 3,ql 48 47,qm 49 6,qX 50 2 48 49,qa 51 1 50,ql 52 51,qm 53 8,qd 54 .mul 52 53,⟨some 55,none,.q .max [.tmp 46,.tmp 54]⟩,qd 56 .add 38 55,qm 5 56]
def Yc.r4:=[qm 16 6,qe 17 .add 16 1,qm 6 17]
def Yc.l0:DC:=.seq (.seq (qR Yc.r3 [2,3,5,6,15]) (qC 15 .skip (.exit 0))) (.seq (.block 1 (.seq (.regD [0,1,2,3,4,5,6,7,8,9,10,11,12,13,14,15,16,17,18,19,20,21] Yc.r5 (some [2,3,5,6,7,8])) (.regD [0,1,2,3,4,5,6,7,8,9,10,11,12,13,14,15,16,17,18,19] (JA Yc.r6) (some [2,3,5,6])))) (qR Yc.r4 [2,3,5,6]))
def Yc.r7:=[qm 57 5,qm 4 57]
abbrev Yc.id:Nat:=30
def Yc.an:Ann:=[(0,[2,3]),(1,[2,3,5]),(2,[2,3,5,6]),(3,[2,3,5,6,15]),(4,[2,3,5,6]),(5,[2,3,5,6,7,8]),(6,[2,3,5,6]),(7,[4]),(1000005,[0,1,2,3,4,5,6,7,8,9,10,11,12,13,14,15,16,17,18,19,20,21]),(1000006,[0,1,2,3,4,5,6,7,8,9,10,11,12,13,14,15,16,17,18,19]),(17000005,[21,19])]
def Yc.body:DC:=.seq (qR Yc.r0 [2,3]) (.seq (qR Yc.r1 [2,3,5]) (.seq (.seq (qR Yc.r2 [2,3,5,6]) (.block 0 (.loop Yc.l0))) (.seq (qR Yc.r7 [4]) .ret)))
def Yc.df:DF:=⟨58,[.tmp 4],Yc.body⟩
theorem Yc.ok:cf ZvJ Yc.an Yc.id=some Yc.df:=by kernel_rfl
def YC.r0:=[qi 4 0,qb 5 false]
def YC.r1:=[qm 7 0,qm 8 1,qf 9 51 [.tmp 7,.tmp 8],qm 6 9]
def YC.r2:List DOp:=[qm 10 6,⟨some 11,none,.q .max [.tmp 10,.cst (.int .i64 0)]⟩,qm 12 6,qe 13 .geq 12 0,qm 4 11,qm 5 13]
abbrev YC.id:Nat:=31
def YC.an:Ann:=[(0,[0,1]),(1,[6]),(2,[4,5])]
def YC.body:DC:=.seq (qR YC.r0 [0,1]) (.seq (qR YC.r1 [6]) (.seq (qR YC.r2 [4,5]) .ret))
def YC.df:DF:=⟨14,[.tmp 4,.tmp 5],YC.body⟩
theorem YC.ok:cf ZvJ YC.an YC.id=some YC.df:=by kernel_rfl
def Ws.r0:=[qB 2 0,qb 3 false]
def Ws.r1:=[qa 4 0 2,ql 5 4,ql 6 1,qd 7 .eql 5 6,qm 3 7]
abbrev Ws.id:Nat:=32
def Ws.an:Ann:=[(0,[1,2]),(1,[3])]
def Ws.body:DC:=.seq (qR Ws.r0 [1,2]) (.seq (qR Ws.r1 [3]) .ret)
def Ws.df:DF:=⟨8,[.tmp 3],Ws.body⟩
theorem Ws.ok:cf ZvJ Ws.an Ws.id=some Ws.df:=by kernel_rfl
def Kx.r0:=[qB 1 0,qi 2 0,qi 3 0]
def Kx.r1:=[qa 4 1 1,ql 5 4,qe 6 .eql 5 2]
def Kx.r2:=[qa 7 5 1,ql 8 7,qa 9 5 1,ql 10 9,qm 2 8,qm 3 10]
def Kx.r3:=[qa 11 5 1,ql 12 11,qa 13 6 1,ql 14 13,qm 2 12,qm 3 14]
abbrev Kx.id:Nat:=40
def Kx.an:Ann:=[(0,[1]),(1,[1,6]),(2,[2,3]),(3,[2,3]),(1000002,[0,1,2,3,4,5]),(1000003,[0,1,2,3,4,5])]
def Kx.body:DC:=.seq (qR Kx.r0 [1]) (.seq (.seq (qR Kx.r1 [1,6]) (qC 6 (.seq (.regD [0,1,2,3,4,5] (JA Kx.r2) (some [2,3])) .ret) .skip)) (.seq (.regD [0,1,2,3,4,5] (JA Kx.r3) (some [2,3])) .ret))
def Kx.df:DF:=⟨15,[.tmp 2,.tmp 3],Kx.body⟩
theorem Kx.ok:cf ZvJ Kx.an Kx.id=some Kx.df:=by kernel_rfl
def Za.r0:=[qm 14 0,qk 15 .lenL 14,qi 16 0]
def Za.r1:=[qd 17 .lss 16 15]
def Za.r2:=[qX 18 1 14 16,ql 19 18,qm 6 19]
def Za.r3:List DOp:=[ql 20 1,qm 21 6,⟨some 22,none,.q (.lookup (.sc .str) (.bool false) false) [.tmp 20,.tmp 21]⟩]
def Za.r4:List DOp:=[ql 23 1,qm 24 6,⟨none,none,.mapupd (.sc .str) (.tmp 23) (.tmp 24) (.cst (.bool true))⟩]
def Za.r5:=[qL 26 3 2,qm 27 6,qf 28 13 [.tmp 26,.tmp 27],qm 25 28,qx 29 0 25,qx 30 1 25,qm 7 29,qm 8 30]
def Za.r6:List DOp:=[qa 31 1 2,ql 32 31,qm 33 7,qX 34 2 32 33,qL 35 2 34,⟨some 9,none,.alloc [.str [],.nilsl]⟩,qS 2 9 35]
def Za.r7:=[qa 36 1 9,ql 37 36,qk 38 .lenL 37,qi 39 0]
def Za.r8:=[qd 40 .lss 39 38]
def Za.r9:List DOp:=[qX 41 15 37 39,qL 42 15 41,⟨some 11,none,.alloc [.str [],.int .i64 0,.int .i64 0,.bool false,.bool false,.int .i64 0,.int .i64 0,.int .i64 0,.nilsl,.str [],.str [],.str [],.nilsl,.int .i64 0,.int .i64 0]⟩,qS 15 11 42]
def Za.r10:=[qa 43 1 11,ql 44 43]
def Za.r11:=[qe 46 .eql 44 7,qm 45 46]
def Za.r12:=[qL 47 2 9,qa 48 7 11,qL 49 2 48,qf 50 42 [.tmp 47,.tmp 49]]
def Za.r13:List DOp:=[ql 51 3,qa 52 9 11,ql 53 52,⟨some 54,none,.bsl 1 1 [.str []] [0] [.tmp 53]⟩,⟨some 55,none,.call (.tmp 51) [.tmp 54]⟩]
def Za.r14:=[qe 57 .eql 44 8,qm 56 57]
def Za.r15:=[qe 58 .eql 44 12,qm 56 58]
def Za.r16:List DOp:=[ql 59 3,qa 60 9 11,ql 61 60,⟨some 62,none,.bsl 1 1 [.str []] [0] [.tmp 61]⟩,⟨some 63,none,.call (.tmp 59) [.tmp 62]⟩]
def Za.r17:=[qe 65 .eql 44 9,qm 64 65]
def Za.r18:=[qa 66 12 11,ql 67 66,qk 68 .lenL 67,qi 69 0]
def Za.r19:=[qd 70 .lss 69 68]
def Za.r20:List DOp:=[qX 71 3 67 69,qL 72 3 71,⟨some 13,none,.alloc [.int .i64 0,.int .i64 0,.str []]⟩,qS 3 13 72]
def Za.r21:List DOp:=[ql 73 3,qa 74 2 13,ql 75 74,⟨some 76,none,.bsl 1 1 [.str []] [0] [.tmp 75]⟩,⟨some 77,none,.call (.tmp 73) [.tmp 76]⟩]
def Za.r22:=[qe 78 .add 69 1,qm 69 78]
def Za.l2:DC:=.seq (qR Za.r19 [1,2,3,9,14,15,16,37,38,39,67,68,69,70]) (.seq (qC 70 .skip (.exit 5)) (.seq (.block 6 (.seq (qR Za.r20 [1,2,3,9,13,14,15,16,37,38,39,67,68,69]) (qR Za.r21 [1,2,3,9,14,15,16,37,38,39,67,68,69]))) (qR Za.r22 [1,2,3,9,14,15,16,37,38,39,67,68,69])))
def Za.r23:=[qe 79 .add 39 1,qm 39 79]
def Za.l1:DC:=.seq (qR Za.r8 [1,2,3,9,14,15,16,37,38,39,40]) (.seq (qC 40 .skip (.exit 2)) (.seq (.block 3 (.seq (qR Za.r9 [1,2,3,9,11,14,15,16,37,38,39]) (.seq (qR Za.r10 [1,2,3,9,11,14,15,16,37,38,39,44]) (.block 4 (.seq (qR Za.r11 [1,2,3,9,11,14,15,16,37,38,39,44,45]) (qC 45 (.seq (qR Za.r12 [1,2,3,9,11,14,15,16,37,38,39,50]) (qC 50 (qR Za.r13 [1,2,3,9,14,15,16,37,38,39]) .skip)) (.seq (.seq (qR Za.r14 [1,2,3,9,11,14,15,16,37,38,39,44,56]) (qC 56 .skip (qR Za.r15 [1,2,3,9,11,14,15,16,37,38,39,44,56]))) (qC 56 (qR Za.r16 [1,2,3,9,14,15,16,37,38,39]) (.seq (qR Za.r17 [1,2,3,9,11,14,15,16,37,38,39,64]) (qC 64 (.seq (qR Za.r18 [1,2,3,9,14,15,16,37,38,39,67,68,69]) (.block 5 (.loop Za.l2))) .skip)))))))))) (qR Za.r23 [1,2,3,9,14,15,16,37,38,39])))
def Za.r24:=[qe 80 .add 16 1,qm 16 80]
def Za.l0:DC:=.seq (qR Za.r1 [1,2,3,14,15,16,17]) (.seq (qC 17 .skip (.exit 0)) (.seq (.block 1 (.seq (qR Za.r2 [1,2,3,6,14,15,16]) (.seq (.seq (qR Za.r3 [1,2,3,6,14,15,16,22]) (qC 22 (.exit 1) .skip)) (.seq (qR Za.r4 [1,2,3,6,14,15,16]) (.seq (qR Za.r5 [1,2,3,7,14,15,16]) (.seq (qR Za.r6 [1,2,3,9,14,15,16]) (.seq (qR Za.r7 [1,2,3,9,14,15,16,37,38,39]) (.block 2 (.loop Za.l1))))))))) (qR Za.r24 [1,2,3,14,15,16])))
abbrev Za.id:Nat:=41
def Za.an:Ann:=[(0,[1,2,3,14,15,16]),(1,[1,2,3,14,15,16,17]),(2,[1,2,3,6,14,15,16]),(3,[1,2,3,6,14,15,16,22]),(4,[1,2,3,6,14,15,16]),(5,[1,2,3,7,14,15,16]),(6,[1,2,3,9,14,15,16]),(7,[1,2,3,9,14,15,16,37,38,39]),(8,[1,2,3,9,14,15,16,37,38,39,40]),(9,[1,2,3,9,11,14,15,16,37,38,39]),(10,[1,2,3,9,11,14,15,16,37,38,39,44]),(11,[1,2,3,9,11,14,15,16,37,38,39,44,45]),(12,[1,2,3,9,11,14,15,16,37,38,39,50]),(13,[1,2,3,9,14,15,16,37,38,39]),(14,[1,2,3,9,11,14,15,16,37,38,39,44,56]),(15,[1,2,3,9,11,14,15,16,37,38,39,44,56]),(16,[1,2,3,9,14,15,16,37,38,39]),(17,[1,2,3,9,11,14,15,16,37,38,39,64]),(18,[1,2,3,9,14,15,16,37,38,39,67,68,69]),(19,[1,2,3,9,14,15,16,37,38,39,67,68,69,70]),(20,[1,2,3,9,13,14,15,16,37,38,39,67,68,69]),(21,[1,2,3,9,14,15,16,37,38,39,67,68,69]),(22,[1,2,3,9,14,15,16,37,38,39,67,68,69]),(23,[1,2,3,9,14,15,16,37,38,39]),(24,[1,2,3,14,15,16])]
def Za.body:DC:=.seq (qR Za.r0 [1,2,3,14,15,16]) (.block 0 (.loop Za.l0))
def Za.df:DF:=⟨81,[],Za.body⟩
theorem Za.ok:cf ZvJ Za.an Za.id=some Za.df:=by kernel_rfl
def Z3.r0:=[qB 2 0,qB 3 1,qb 4 false]
def Z3.r1:=[qL 10 2 2,qf 11 66 [.tmp 10],qm 5 11]
def Z3.r2:=[qa 12 1 2,ql 13 12,qk 14 .lenL 13,qi 15 0]
def Z3.r3:=[qd 16 .lss 15 14]
def Z3.r4:List DOp:=[qX 17 15 13 15,qL 18 15 17,⟨some 7,none,.alloc [.str [],.int .i64 0,.int .i64 0,.bool false,.bool false,.int .i64 0,.int .i64 0,.int .i64 0,.nilsl,.str [],.str [],.str [],.nilsl,.int .i64 0,.int .i64 0]⟩,qS 15 7 18]
def Z3.r5:=[qL 19 15 7,qf 20 67 [.tmp 19]]
def Z3.r6:List (DOp × List Nat):=[
 (⟨some 21,none,.q .mv [.tmp 5]⟩,[]),
 (⟨some 22,none,.q (.faddr 0) [.tmp 7]⟩,[]),
 (⟨some 23,none,.q (.load1) [.tmp 22]⟩,[]),
 (⟨some 24,none,.q (.loadN 2) [.tmp 2]⟩,[]),
 (⟨some 25,none,.q (.loadN 15) [.tmp 7]⟩,[]),
 (⟨some 26,none,.call (.cst (.fn (.func 24) [] [])) [.tmp 24,.tmp 25]⟩,[23]),
 (⟨none,none,.mapupd (.sc .str) (.tmp 21) (.tmp 23) (.tmp 26)⟩,[])]
def Z3.r7:=[qe 27 .add 15 1,qm 15 27]
def Z3.l0:DC:=.seq (qR Z3.r3 [2,3,5,13,14,15,16]) (.seq (qC 16 .skip (.exit 0)) (.seq (.block 1 (.seq (qR Z3.r4 [2,3,5,7,13,14,15]) (.seq (qR Z3.r5 [2,3,5,7,13,14,15,20]) (qC 20 (.regD [0,1,2,3,4,5,6] Z3.r6 (some [2,3,5,13,14,15])) .skip)))) (qR Z3.r7 [2,3,5,13,14,15])))
def Z3.r8:List DOp:=[qL 29 2 3,qm 30 5,qf 31 68 [.tmp 29,.tmp 30],qm 28 31,qx 32 0 28,qx 33 1 28,⟨some 8,none,.alloc [.int .i64 0,.int .i64 0]⟩,qS 2 8 32,qm 9 33]
def Z3.r9:=[qa 34 1 8,ql 35 34,qe 36 .gtr 35 0,qm 4 36]
abbrev Z3.id:Nat:=42
def Z3.an:Ann:=[(0,[2,3]),(1,[2,3,5]),(2,[2,3,5,13,14,15]),(3,[2,3,5,13,14,15,16]),(4,[2,3,5,7,13,14,15]),(5,[2,3,5,7,13,14,15,20]),(6,[2,3,5,13,14,15]),(7,[2,3,5,13,14,15]),(8,[8]),(9,[4]),(1000006,[0,1,2,3,4,5,6]),(9000006,[23])]
def Z3.body:DC:=.seq (qR Z3.r0 [2,3]) (.seq (qR Z3.r1 [2,3,5]) (.seq (.seq (qR Z3.r2 [2,3,5,13,14,15]) (.block 0 (.loop Z3.l0))) (.seq (qR Z3.r8 [8]) (.seq (qR Z3.r9 [4]) .ret))))
def Z3.df:DF:=⟨37,[.tmp 4],Z3.body⟩
theorem Z3.ok:cf ZvJ Z3.an Z3.id=some Z3.df:=by kernel_rfl
def ZJ.r0:=[qi 4 0,qi 5 0]
def ZJ.r1:=[qm 10 0,qk 11 .lenL 10,qi 12 0]
def ZJ.r2:=[qd 13 .lss 12 11]
def ZJ.r3:List DOp:=[qm 14 12,qX 15 3 10 12,qL 16 3 15,⟨some 7,none,.alloc [.int .i64 0,.int .i64 0,.str []]⟩,qm 6 14,qS 3 7 16]
def ZJ.r4:List DOp:=[qm 18 1,qL 19 3 7,⟨some 20,none,.call (.tmp 18) [.tmp 19]⟩,qm 17 20,qx 21 0 17,qx 22 1 17,qm 8 21,qm 9 22]
def ZJ.r5:=[qm 23 6,qe 24 .eql 23 0]
def ZJ.r6:=[qm 25 8,qm 26 9,qm 4 25,qm 5 26]
def ZJ.r7:List DOp:=[qm 27 4,qm 28 8,⟨some 29,none,.q .min [.tmp 27,.tmp 28]⟩,qm 30 5,qm 31 9,⟨some 32,none,.q .max [.tmp 30,.tmp 31]⟩,qm 4 29,qm 5 32]
def ZJ.r8:=[qe 33 .add 12 1,qm 12 33]
def ZJ.l0:DC:=.seq (qR ZJ.r2 [1,4,5,10,11,12,13]) (.seq (qC 13 .skip (.exit 0)) (.seq (.block 1 (.seq (qR ZJ.r3 [1,4,5,6,7,10,11,12]) (.seq (qR ZJ.r4 [1,4,5,6,8,9,10,11,12]) (.seq (.seq (qR ZJ.r5 [1,4,5,8,9,10,11,12,24]) (qC 24 (qR ZJ.r6 [1,4,5,8,9,10,11,12]) .skip)) (qR ZJ.r7 [1,4,5,10,11,12]))))) (qR ZJ.r8 [1,4,5,10,11,12])))
def ZJ.r9:=[qm 34 4,qm 35 5,qm 4 34,qm 5 35]
abbrev ZJ.id:Nat:=43
def ZJ.an:Ann:=[(0,[0,1,4,5]),(1,[1,4,5,10,11,12]),(2,[1,4,5,10,11,12,13]),(3,[1,4,5,6,7,10,11,12]),(4,[1,4,5,6,8,9,10,11,12]),(5,[1,4,5,8,9,10,11,12,24]),(6,[1,4,5,8,9,10,11,12]),(7,[1,4,5,10,11,12]),(8,[1,4,5,10,11,12]),(9,[4,5])]
def ZJ.body:DC:=.seq (qR ZJ.r0 [0,1,4,5]) (.seq (.seq (qR ZJ.r1 [1,4,5,10,11,12]) (.block 0 (.loop ZJ.l0))) (.seq (qR ZJ.r9 [4,5]) .ret))
def ZJ.df:DF:=⟨36,[.tmp 4,.tmp 5],ZJ.body⟩
theorem ZJ.ok:cf ZvJ ZJ.an ZJ.id=some ZJ.df:=by kernel_rfl
def YT.r0:=[qB 1 0,qi 2 0,qi 3 0]
def YT.r1:=[qa 4 0 1,ql 5 4,qa 6 1 1,ql 7 6,qm 2 5,qm 3 7]
abbrev YT.id:Nat:=44
def YT.an:Ann:=[(0,[1]),(1,[2,3]),(1000001,[0,1,2,3,4,5])]
def YT.body:DC:=.seq (qR YT.r0 [1]) (.seq (.regD [0,1,2,3,4,5] (JA YT.r1) (some [2,3])) .ret)
def YT.df:DF:=⟨8,[.tmp 2,.tmp 3],YT.body⟩
theorem YT.ok:cf ZvJ YT.an YT.id=some YT.df:=by kernel_rfl
def YR.r0:List DOp:=[qB 1 0,⟨some 2,none,.alloc [.int .i64 0,.int .i64 0]⟩,qi 3 0]
def YR.r1:=[qL 5 15 1,qf 6 67 [.tmp 5],qk 7 .not 6,qm 4 7]
def YR.r2:List DOp:=[⟨some 8,none,.q (.build [.int .i64 0,.int .i64 0] []) []⟩,qS 2 2 8,qi 3 2]
def YR.r3:=[qa 10 1 1,ql 11 10,qe 12 .eql 11 2,qm 9 12]
def YR.r4:List DOp:=[qa 13 5 1,ql 14 13,qa 15 5 1,ql 16 15,⟨some 17,none,.q (.build [.int .i64 0,.int .i64 0] [(0,1),(1,1)]) [.tmp 14,.tmp 16]⟩,qS 2 2 17,qi 3 0]
def YR.r5:List DOp:=[qa 18 5 1,ql 19 18,qa 20 6 1,ql 21 20,⟨some 22,none,.q (.build [.int .i64 0,.int .i64 0] [(0,1),(1,1)]) [.tmp 19,.tmp 21]⟩,qS 2 2 22,qi 3 0]
abbrev YR.id:Nat:=45
def YR.an:Ann:=[(0,[1,2]),(1,[1,2,4]),(2,[2,3]),(3,[1,2,9]),(4,[2,3]),(5,[2,3])]
def YR.body:DC:=.seq (qR YR.r0 [1,2]) (.seq (.block 0 (.seq (qR YR.r1 [1,2,4]) (qC 4 (.seq (qR YR.r2 [2,3]) .ret) (.seq (qR YR.r3 [1,2,9]) (qC 9 (.seq (qR YR.r4 [2,3]) .ret) .skip))))) (.seq (qR YR.r5 [2,3]) .ret))
def YR.df:DF:=⟨23,[.cellN 2 2,.tmp 3],YR.body⟩
theorem YR.ok:cf ZvJ YR.an YR.id=some YR.df:=by kernel_rfl
def WQ.r0:List DOp:=[qB 1 0,⟨some 2,none,.alloc [.int .i64 0,.int .i64 0,.int .i64 0]⟩,qb 3 false]
def WQ.r1:List DOp:=[qL 8 3 1,qf 9 69 [.tmp 8],qm 7 9,qx 10 0 7,qx 11 1 7,qx 12 2 7,⟨some 5,none,.alloc [.int .i64 0,.int .i64 0,.int .i64 0]⟩,qm 4 10,qS 3 5 11,qm 6 12]
def WQ.r2:=[qL 13 3 5,qm 14 6,qS 3 2 13,qm 3 14]
abbrev WQ.id:Nat:=46
def WQ.an:Ann:=[(0,[1,2]),(1,[2,5,6]),(2,[2,3])]
def WQ.body:DC:=.seq (qR WQ.r0 [1,2]) (.seq (qR WQ.r1 [2,5,6]) (.seq (qR WQ.r2 [2,3]) .ret))
def WQ.df:DF:=⟨15,[.cellN 2 3,.tmp 3],WQ.body⟩
theorem WQ.ok:cf ZvJ WQ.an WQ.id=some WQ.df:=by kernel_rfl
def W6.r0:List DOp:=[qB 1 0,⟨some 2,none,.q .mv [.cst (.nilfn)]⟩]
def W6.r1:List DOp:=[⟨some 3,none,.q (.mkfn (.func 70) 0) [.tmp 1]⟩,qm 2 3]
abbrev W6.id:Nat:=47
def W6.an:Ann:=[(0,[1]),(1,[2])]
def W6.body:DC:=.seq (qR W6.r0 [1]) (.seq (qR W6.r1 [2]) .ret)
def W6.df:DF:=⟨4,[.tmp 2],W6.body⟩
theorem W6.ok:cf ZvJ W6.an W6.id=some W6.df:=by kernel_rfl
def Y1.r0:=[qB 3 0,qB 5 2,qb 6 false]
def Y1.r1:=[qm 9 1,ql 10 3,qk 11 .lenL 10,qd 12 .eql 9 11]
def Y1.r2:=[ql 13 5,qe 14 .neq 13 0,qm 6 14]
def Y1.r3:List DOp:=[ql 15 3,qm 16 1,qX 17 15 15 16,qL 18 15 17,⟨some 7,none,.alloc [.str [],.int .i64 0,.int .i64 0,.bool false,.bool false,.int .i64 0,.int .i64 0,.int .i64 0,.nilsl,.str [],.str [],.str [],.nilsl,.int .i64 0,.int .i64 0]⟩,qS 15 7 18]
def Y1.r4:List DOp:=[⟨some 19,none,.q (.mkfn (.func 72) 0) [.tmp 5,.tmp 7]⟩,⟨some 20,none,.q (.mkfn (.func 74) 0) [.tmp 3,.tmp 7]⟩,⟨some 21,none,.q (.build [.nilfn,.nilfn] [(0,1),(1,1)]) [.tmp 19,.tmp 20]⟩,⟨some 8,none,.alloc [.nilfn,.nilfn]⟩,qS 2 8 21]
def Y1.r5:=[qk 22 (.sliceA 2 1 false false false) 8,qf 23 76 [.tmp 22,.cst (.fn (.func 77) [] [])],qm 6 23]
abbrev Y1.id:Nat:=48
def Y1.an:Ann:=[(0,[1,3,5]),(1,[1,3,5,12]),(2,[6]),(3,[3,5,7]),(4,[8]),(5,[6])]
def Y1.body:DC:=.seq (qR Y1.r0 [1,3,5]) (.seq (.seq (qR Y1.r1 [1,3,5,12]) (qC 12 (.seq (qR Y1.r2 [6]) .ret) .skip)) (.seq (qR Y1.r3 [3,5,7]) (.seq (qR Y1.r4 [8]) (.seq (qR Y1.r5 [6]) .ret))))
def Y1.df:DF:=⟨24,[.tmp 6],Y1.body⟩
theorem Y1.ok:cf ZvJ Y1.an Y1.id=some Y1.df:=by kernel_rfl
def Zk.r0:=[qi 4 0]
def Zk.r1:=[qm 6 0,qk 7 .lenL 6,qi 8 0]
def Zk.r2:=[qd 9 .lss 8 7]
def Zk.r3:=[qm 10 8,qm 5 10]
def Zk.r4:List DOp:=[qm 11 1,qm 12 0,qm 13 5,qX 14 2 12 13,qL 15 2 14,⟨some 16,none,.call (.tmp 11) [.tmp 15]⟩]
def Zk.r5:=[qm 17 5,qm 4 17]
def Zk.r6:=[qe 18 .add 8 1,qm 8 18]
def Zk.l0:DC:=.seq (qR Zk.r2 [0,1,7,8,9]) (.seq (qC 9 .skip (.exit 0)) (.seq (.block 1 (.seq (qR Zk.r3 [0,1,5,7,8]) (.seq (qR Zk.r4 [0,1,5,7,8,16]) (qC 16 (.seq (qR Zk.r5 [4]) .ret) .skip)))) (qR Zk.r6 [0,1,7,8])))
def Zk.r7:=[qi 4 (-1)]
abbrev Zk.id:Nat:=49
def Zk.an:Ann:=[(0,[0,1]),(1,[0,1,7,8]),(2,[0,1,7,8,9]),(3,[0,1,5,7,8]),(4,[0,1,5,7,8,16]),(5,[4]),(6,[0,1,7,8]),(7,[4])]
def Zk.body:DC:=.seq (qR Zk.r0 [0,1]) (.seq (.seq (qR Zk.r1 [0,1,7,8]) (.block 0 (.loop Zk.l0))) (.seq (qR Zk.r7 [4]) .ret))
def Zk.df:DF:=⟨19,[.tmp 4],Zk.body⟩
theorem Zk.ok:cf ZvJ Zk.an Zk.id=some Zk.df:=by kernel_rfl
def YV.r0:=[qB 3 0,qi 6 0]
def YV.r1:=[qi 7 0]
def YV.r2:=[qm 8 7,qm 9 2,qd 10 .lss 8 9]
def YV.r4:=[qa 13 1 3,ql 14 13,qm 15 7,qX 16 15 14 15,qa 17 0 16,ql 18 17,qm 19 1,qd 20 .eql 18 19]
def YV.r5:=[qm 21 7,qm 6 21]
def YV.r3:=[qm 11 7,qe 12 .add 11 1,qm 7 12]
def YV.l0:DC:=.seq (.seq (qR YV.r2 [1,2,3,7,10]) (qC 10 .skip (.exit 0))) (.seq (.block 1 (.seq (qR YV.r4 [1,2,3,7,20]) (qC 20 (.seq (qR YV.r5 [6]) .ret) .skip))) (qR YV.r3 [1,2,3,7]))
def YV.r6:=[qi 6 (-1)]
abbrev YV.id:Nat:=50
def YV.an:Ann:=[(0,[1,2,3]),(1,[1,2,3,7]),(2,[1,2,3,7,10]),(3,[1,2,3,7]),(4,[1,2,3,7,20]),(5,[6]),(6,[6])]
def YV.body:DC:=.seq (qR YV.r0 [1,2,3]) (.seq (.seq (qR YV.r1 [1,2,3,7]) (.block 0 (.loop YV.l0))) (.seq (qR YV.r6 [6]) .ret))
def YV.df:DF:=⟨22,[.tmp 6],YV.body⟩
theorem YV.ok:cf ZvJ YV.an YV.id=some YV.df:=by kernel_rfl
def Zo.r0:=[qi 4 0]
def Zo.r1:=[qm 6 0,qk 7 .lenL 6,qi 8 0]
def Zo.r2:=[qd 9 .lss 8 7]
def Zo.r3:=[qm 10 8,qm 5 10]
def Zo.r4:List DOp:=[qm 11 1,qm 12 0,qm 13 5,qX 14 15 12 13,qL 15 15 14,⟨some 16,none,.call (.tmp 11) [.tmp 15]⟩]
def Zo.r5:=[qm 17 5,qm 4 17]
def Zo.r6:=[qe 18 .add 8 1,qm 8 18]
def Zo.l0:DC:=.seq (qR Zo.r2 [0,1,7,8,9]) (.seq (qC 9 .skip (.exit 0)) (.seq (.block 1 (.seq (qR Zo.r3 [0,1,5,7,8]) (.seq (qR Zo.r4 [0,1,5,7,8,16]) (qC 16 (.seq (qR Zo.r5 [4]) .ret) .skip)))) (qR Zo.r6 [0,1,7,8])))
def Zo.r7:=[qi 4 (-1)]
abbrev Zo.id:Nat:=51
def Zo.an:Ann:=[(0,[0,1]),(1,[0,1,7,8]),(2,[0,1,7,8,9]),(3,[0,1,5,7,8]),(4,[0,1,5,7,8,16]),(5,[4]),(6,[0,1,7,8]),(7,[4])]
def Zo.body:DC:=.seq (qR Zo.r0 [0,1]) (.seq (.seq (qR Zo.r1 [0,1,7,8]) (.block 0 (.loop Zo.l0))) (.seq (qR Zo.r7 [4]) .ret))
def Zo.df:DF:=⟨19,[.tmp 4],Zo.body⟩
theorem Zo.ok:cf ZvJ Zo.an Zo.id=some Zo.df:=by kernel_rfl
def KQ.r0:=[qb 2 false]
def KQ.r1:List DOp:=[⟨some 3,none,.q .mv [.cst (.fn (.func 78) [] [])]⟩]
def KQ.r2:List DOp:=[qm 4 0,qk 5 .lenS 4,qe 6 .geq 5 1,qm 7 0,qk 8 .lenS 7,qe 9 .leq 8 32,⟨some 10,none,.bsl 2 1 [.bool false] [0,1] [.tmp 6,.tmp 9]⟩,qf 11 81 [.tmp 10],qm 12 11,qy 12 (qm 13 0),qy 12 ⟨some 14,none,.q .idxS [.tmp 13,.cst (.int .i64 0)]⟩,qy 12 (qf 15 79 [.tmp 14]),qO 16 12 15,qm 17 16,qy 17 (qm 18 0),qy 17 ⟨some 19,none,.s2b (.tmp 18)⟩,qy 17 (qm 20 3),qy 17 (qf 21 82 [.tmp 19,.tmp 20]),qy 17 (qk 22 .not 21),qO 23 17 22,qm 2 23]
abbrev KQ.id:Nat:=54
def KQ.an:Ann:=[(0,[0]),(1,[0,3]),(2,[2])]
def KQ.body:DC:=.seq (qR KQ.r0 [0]) (.seq (qR KQ.r1 [0,3]) (.seq (qR KQ.r2 [2]) .ret))
def KQ.df:DF:=⟨24,[.tmp 2],KQ.body⟩
theorem KQ.ok:cf ZvJ KQ.an KQ.id=some KQ.df:=by kernel_rfl
def W8.r0:List DOp:=[qB 1 0,⟨some 2,none,.q .mv [.cst (.nilmap)]⟩]
def W8.r1:=[qa 3 1 1,ql 4 3,qf 5 100 [.tmp 4],qm 2 5]
abbrev W8.id:Nat:=66
def W8.an:Ann:=[(0,[1]),(1,[2])]
def W8.body:DC:=.seq (qR W8.r0 [1]) (.seq (qR W8.r1 [2]) .ret)
def W8.df:DF:=⟨6,[.tmp 2],W8.body⟩
theorem W8.ok:cf ZvJ W8.an W8.id=some W8.df:=by kernel_rfl
def W7.r0:=[qB 1 0,qb 2 false]
def W7.r1:=[qa 3 1 1,ql 4 3,qe 5 .eql 4 1,qm 6 5,qn 6 (qa 7 1 1),qn 6 (ql 8 7),qn 6 (qe 9 .eql 8 2),qo 10 6 9,qm 11 10,qn 11 (qa 12 1 1),qn 11 (ql 13 12),qn 11 (qe 14 .eql 13 3),qo 15 11 14,qm 2 15]
abbrev W7.id:Nat:=67
def W7.an:Ann:=[(0,[1]),(1,[2])]
def W7.body:DC:=.seq (qR W7.r0 [1]) (.seq (qR W7.r1 [2]) .ret)
def W7.df:DF:=⟨16,[.tmp 2],W7.body⟩
theorem W7.ok:cf ZvJ W7.an W7.id=some W7.df:=by kernel_rfl
end Go.DL
namespace Go.DL
open Go Go.Proofs
def Ys.r0:List DOp:=[qB 2 0,qB 3 1,⟨some 4,none,.alloc [.int .i64 0,.int .i64 0]⟩,qi 5 0]
def Ys.r1:List DOp:=[⟨some 6,none,.q .mv [.cst (.fn (.func 101) [] [])]⟩]
def Ys.r2:=[qL 9 2 2,ql 10 3,qm 11 6,qf 12 102 [.tmp 9,.cst (.str []),.tmp 10,.tmp 11],qm 7 12]
def Ys.r3:=[qm 13 7,qe 14 .neq 13 0]
def Ys.r4:List DOp:=[⟨some 15,none,.q (.build [.int .i64 0,.int .i64 0] []) []⟩,qm 16 7,qS 2 4 15,qm 5 16]
def Ys.r5:List DOp:=[⟨some 17,none,.q (.mkfn (.func 103) 0) [.tmp 2,.tmp 3]⟩,qm 8 17]
def Ys.r6:List DOp:=[qm 18 8,⟨some 19,none,.call (.tmp 18) [.cst (.bool true)]⟩,qm 20 8,⟨some 21,none,.call (.tmp 20) [.cst (.bool false)]⟩,⟨some 22,none,.q (.build [.int .i64 0,.int .i64 0] [(0,1),(1,1)]) [.tmp 19,.tmp 21]⟩,qS 2 4 22,qi 5 0]
abbrev Ys.id:Nat:=68
def Ys.an:Ann:=[(0,[2,3,4]),(1,[2,3,4,6]),(2,[2,3,4,7]),(3,[2,3,4,7,14]),(4,[4,5]),(5,[4,8]),(6,[4,5])]
def Ys.body:DC:=.seq (qR Ys.r0 [2,3,4]) (.seq (qR Ys.r1 [2,3,4,6]) (.seq (.seq (qR Ys.r2 [2,3,4,7]) (.seq (qR Ys.r3 [2,3,4,7,14]) (qC 14 (.seq (qR Ys.r4 [4,5]) .ret) .skip))) (.seq (qR Ys.r5 [4,8]) (.seq (qR Ys.r6 [4,5]) .ret))))
def Ys.df:DF:=⟨23,[.cellN 4 2,.tmp 5],Ys.body⟩
theorem Ys.ok:cf ZvJ Ys.an Ys.id=some Ys.df:=by kernel_rfl
def Zf.r0:List DOp:=[qB 1 0,⟨some 2,none,.q .mv [.cst (.nilptr)]⟩,⟨some 3,none,.alloc [.int .i64 0,.int .i64 0,.int .i64 0]⟩,⟨some 4,none,.alloc [.bool false]⟩]
def Zf.r1:List DOp:=[qL 9 3 1,⟨some 10,none,.mkmap⟩,⟨some 11,none,.mkmap⟩,⟨some 12,none,.q (.build [.str [],.nilsl,.str [],.nilmap,.nilmap,.int .i64 0,.int .i64 0,.str [],.nilsl] [(0,3),(3,1),(4,1),(5,1),(6,1)]) [.tmp 9,.tmp 10,.tmp 11,.cst (.int .i64 (-1)),.cst (.int .i64 (-1))]⟩,qB 13 12,qm 2 13]
def Zf.r2:List DOp:=[⟨some 14,none,.q (.mkfn (.func 106) 0) [.tmp 3,.tmp 4]⟩,⟨none,none,.defer (.tmp 14) []⟩]
def Zf.r3:=[qm 15 2,qa 16 0 1,ql 17 16,qf 18 54 [.tmp 17],qf 19 107 [.tmp 15,.tmp 18,.cst (.int .i64 1)]]
def Zf.r4:=[qm 20 2,qa 21 1 1,ql 22 21,qk 23 .lenL 22,qe 24 .geq 23 1,qm 25 24,qy 25 (qa 26 1 1),qy 25 (ql 27 26),qy 25 (qk 28 .lenL 27),qy 25 (qe 29 .leq 28 60),qO 30 25 29,qf 31 107 [.tmp 20,.tmp 30,.cst (.int .i64 3)]]
def Zf.r5:=[qa 32 1 1,ql 33 32,qk 34 .lenL 33,qi 35 0]
def Zf.r6:=[qd 36 .lss 35 34]
def Zf.r7:List DOp:=[qm 37 35,qX 38 2 33 35,qL 39 2 38,⟨some 6,none,.alloc [.str [],.nilsl]⟩,qm 5 37,qS 2 6 39]
def Zf.r8:=[qm 40 2,qm 41 5,qk 42 .nilck 40,qa 43 5 42,qs 43 41]
def Zf.r9:=[qm 44 2,qL 45 2 6,qf 46 108 [.tmp 44,.tmp 45]]
def Zf.r10:=[qe 47 .add 35 1,qm 35 47]
def Zf.l0:DC:=.seq (qR Zf.r6 [1,2,3,4,33,34,35,36]) (.seq (qC 36 .skip (.exit 0)) (.seq (.block 1 (.seq (qR Zf.r7 [1,2,3,4,5,6,33,34,35]) (.seq (qR Zf.r8 [1,2,3,4,6,33,34,35]) (qR Zf.r9 [1,2,3,4,33,34,35])))) (qR Zf.r10 [1,2,3,4,33,34,35])))
def Zf.r11:List DOp:=[qm 48 2,qk 49 .nilck 48,qa 50 5 49,⟨none,none,.store1 (.tmp 50) (.cst (.int .i64 (-1)))⟩]
def Zf.r12:List DOp:=[qm 52 2,qk 53 .nilck 52,qa 54 3 53,ql 55 54,qa 56 2 1,ql 57 56,⟨some 58,none,.q (.lookup (.sc .str) (.int .i64 0) true) [.tmp 55,.tmp 57]⟩,qm 51 58,qx 59 0 51,qx 60 1 51,qm 7 59,qm 8 60]
def Zf.r13:=[qm 61 2,qm 62 8,qf 63 107 [.tmp 61,.tmp 62,.cst (.int .i64 11)]]
def Zf.r14:List DOp:=[qm 64 2,⟨some 65,none,.q (.build [.int .i64 0,.int .i64 0,.int .i64 0] []) []⟩,qm 2 64,qS 3 3 65,⟨none,none,.store1 (.tmp 4) (.cst (.bool false))⟩]
abbrev Zf.id:Nat:=69
def Zf.an:Ann:=[(0,[1,3,4]),(1,[1,2,3,4]),(2,[1,2,3,4]),(3,[1,2,3,4]),(4,[1,2,3,4]),(5,[1,2,3,4,33,34,35]),(6,[1,2,3,4,33,34,35,36]),(7,[1,2,3,4,5,6,33,34,35]),(8,[1,2,3,4,6,33,34,35]),(9,[1,2,3,4,33,34,35]),(10,[1,2,3,4,33,34,35]),(11,[1,2,3,4]),(12,[2,3,4,8]),(13,[2,3,4]),(14,[2,3,4]),(1000012,[0,1,2,3,4,5,6,7,8,9,10,11])]
def Zf.body:DC:=.seq (qR Zf.r0 [1,3,4]) (.seq (qR Zf.r1 [1,2,3,4]) (.seq (qR Zf.r2 [1,2,3,4]) (.seq (qR Zf.r3 [1,2,3,4]) (.seq (qR Zf.r4 [1,2,3,4]) (.seq (.seq (qR Zf.r5 [1,2,3,4,33,34,35]) (.block 0 (.loop Zf.l0))) (.seq (qR Zf.r11 [1,2,3,4]) (.seq (.regD [0,1,2,3,4,5,6,7,8,9,10,11] (JA Zf.r12) (some [2,3,4,8])) (.seq (qR Zf.r13 [2,3,4]) (.seq (qR Zf.r14 [2,3,4]) .ret)))))))))
def Zf.df:DF:=⟨66,[.tmp 2,.cellN 3 3,.cell1 4],Zf.body⟩
theorem Zf.ok:cf ZvJ Zf.an Zf.id=some Zf.df:=by kernel_rfl
def Zw.r0:=[qi 3 0]
def Zw.r1:=[ql 8 1,qk 9 .lenL 8,qi 10 0]
def Zw.r2:=[qd 11 .lss 10 9]
def Zw.r3:List DOp:=[qm 12 10,qX 13 15 8 10,qL 14 15 13,⟨some 5,none,.alloc [.str [],.int .i64 0,.int .i64 0,.bool false,.bool false,.int .i64 0,.int .i64 0,.int .i64 0,.nilsl,.str [],.str [],.str [],.nilsl,.int .i64 0,.int .i64 0]⟩,qm 4 12,qS 15 5 14]
def Zw.r4:List DOp:=[qm 15 0,qm 16 4,qm 17 3,⟨some 18,none,.call (.tmp 15) [.tmp 16,.tmp 17]⟩,qk 19 .not 18]
def Zw.r5:List (DOp × List Nat):=[
 (⟨some 22,none,.q (.faddr 1) [.tmp 5]⟩,[]),
 (⟨some 23,none,.q (.load1) [.tmp 22]⟩,[]),
 (⟨some 21,none,.call (.cst (.fn (.func 71) [] [])) []⟩,[23]),
 (⟨some 24,none,.q (.lookup (.sc .int) (.nilfn) true) [.tmp 21,.tmp 23]⟩,[]),
 (⟨some 20,none,.q .mv [.tmp 24]⟩,[]),
 (⟨some 25,none,.q (.ext 0) [.tmp 20]⟩,[]),
 (⟨some 26,none,.q (.ext 1) [.tmp 20]⟩,[]),
 (⟨some 6,none,.q .mv [.tmp 25]⟩,[]),
 (⟨some 7,none,.q .mv [.tmp 26]⟩,[])]
def Zw.r6:=[qm 27 7]
def Zw.r7:List DOp:=[qm 28 6,qL 29 15 5,qm 30 3,⟨some 31,none,.call (.tmp 28) [.tmp 29,.tmp 30]⟩,qe 32 .rem 31 8,qm 3 32]
def Zw.r8:=[qi 3 0]
def Zw.r9:=[qe 33 .add 10 1,qm 10 33]
def Zw.l0:DC:=.seq (qR Zw.r2 [0,1,3,8,9,10,11]) (.seq (qC 11 .skip (.exit 0)) (.seq (.block 1 (.seq (qR Zw.r3 [0,1,3,4,5,8,9,10]) (.seq (.seq (qR Zw.r4 [0,1,3,5,8,9,10,19]) (qC 19 .ret .skip)) (.seq (.regD [1,2,0,3,4,5,6,7,8] Zw.r5 (some [0,1,3,5,6,7,8,9,10])) (.seq (qR Zw.r6 [0,1,3,5,6,8,9,10,27]) (qC 27 (qR Zw.r7 [0,1,3,8,9,10]) (qR Zw.r8 [0,1,3,8,9,10]))))))) (qR Zw.r9 [0,1,3,8,9,10])))
def Zw.r10:List DOp:=[qm 34 0,ql 35 1,qk 36 .lenL 35,qm 37 3,⟨some 38,none,.call (.tmp 34) [.tmp 36,.tmp 37]⟩]
abbrev Zw.id:Nat:=70
def Zw.an:Ann:=[(0,[0,1,3]),(1,[0,1,3,8,9,10]),(2,[0,1,3,8,9,10,11]),(3,[0,1,3,4,5,8,9,10]),(4,[0,1,3,5,8,9,10,19]),(5,[0,1,3,5,6,7,8,9,10]),(6,[0,1,3,5,6,8,9,10,27]),(7,[0,1,3,8,9,10]),(8,[0,1,3,8,9,10]),(9,[0,1,3,8,9,10]),(10,[]),(1000005,[1,2,0,3,4,5,6,7,8]),(4000005,[23])]
def Zw.body:DC:=.seq (qR Zw.r0 [0,1,3]) (.seq (.seq (qR Zw.r1 [0,1,3,8,9,10]) (.block 0 (.loop Zw.l0))) (qR Zw.r10 []))
def Zw.df:DF:=⟨39,[],Zw.body⟩
theorem Zw.ok:cf ZvJ Zw.an Zw.id=some Zw.df:=by kernel_rfl
def WU.r0:List DOp:=[⟨some 0,none,.q .mv [.cst (.nilmap)]⟩]
def WU.r1:List DOp:=[⟨some 1,none,.q .mv [.cst (.fn (.func 109) [] [])]⟩]
def WU.r2:List DOp:=[⟨some 2,none,.mkmap⟩,qm 3 1,⟨none,none,.mapupd (.sc .int) (.tmp 2) (.cst (.int .i64 1)) (.tmp 3)⟩,qm 4 1,⟨none,none,.mapupd (.sc .int) (.tmp 2) (.cst (.int .i64 2)) (.tmp 4)⟩,⟨none,none,.mapupd (.sc .int) (.tmp 2) (.cst (.int .i64 10)) (.cst (.fn (.func 110) [] []))⟩,qm 5 2,qm 0 5]
abbrev WU.id:Nat:=71
def WU.an:Ann:=[(0,[]),(1,[1]),(2,[0])]
def WU.body:DC:=.seq (qR WU.r0 []) (.seq (qR WU.r1 [1]) (.seq (qR WU.r2 [0]) .ret))
def WU.df:DF:=⟨6,[.tmp 0],WU.body⟩
theorem WU.ok:cf ZvJ WU.an WU.id=some WU.df:=by kernel_rfl
def Ww.r0:=[qb 2 false]
def Ww.r1:=[ql 3 0,qe 4 .eql 3 0,qm 5 4,qn 5 (qL 6 15 1),qn 5 (qf 7 73 [.tmp 6]),qn 5 (qk 8 .not 7),qo 9 5 8,qm 2 9]
abbrev Ww.id:Nat:=72
def Ww.an:Ann:=[(0,[0,1]),(1,[2])]
def Ww.body:DC:=.seq (qR Ww.r0 [0,1]) (.seq (qR Ww.r1 [2]) .ret)
def Ww.df:DF:=⟨10,[.tmp 2],Ww.body⟩
theorem Ww.ok:cf ZvJ Ww.an Ww.id=some Ww.df:=by kernel_rfl
def Kk.r0:=[qB 1 0,qb 2 false]
def Kk.r1:List (DOp × List Nat):=[
 (⟨some 7,none,.q (.faddr 1) [.tmp 1]⟩,[]),
 (⟨some 8,none,.q (.load1) [.tmp 7]⟩,[]),
 (⟨some 6,none,.call (.cst (.fn (.func 71) [] [])) []⟩,[8]),
 (⟨some 9,none,.q (.lookup (.sc .int) (.nilfn) true) [.tmp 6,.tmp 8]⟩,[]),
 (⟨some 5,none,.q .mv [.tmp 9]⟩,[]),
 (⟨some 10,none,.q (.ext 0) [.tmp 5]⟩,[]),
 (⟨some 11,none,.q (.ext 1) [.tmp 5]⟩,[]),
 (⟨some 3,none,.q .mv [.tmp 10]⟩,[]),
 (⟨some 4,none,.q .mv [.tmp 11]⟩,[])]
def Kk.r2:=[qm 12 4,qk 13 .not 12,qm 14 13,qn 14 (qa 15 3 1),qn 14 (ql 16 15),qo 17 14 16,qm 2 17]
abbrev Kk.id:Nat:=73
def Kk.an:Ann:=[(0,[1]),(1,[1,4]),(2,[2]),(1000001,[1,2,0,3,4,5,6,7,8]),(4000001,[8])]
def Kk.body:DC:=.seq (qR Kk.r0 [1]) (.seq (.regD [1,2,0,3,4,5,6,7,8] Kk.r1 (some [1,4])) (.seq (qR Kk.r2 [2]) .ret))
def Kk.df:DF:=⟨18,[.tmp 2],Kk.body⟩
theorem Kk.ok:cf ZvJ Kk.an Kk.id=some Kk.df:=by kernel_rfl
def Y8.r0:=[qb 2 false]
def Y8.r1:List DOp:=[ql 6 0,⟨some 7,none,.q (.build [.str [],.nilsl] [(1,1)]) [.tmp 6]⟩,qa 8 11 1,ql 9 8,qf 10 15 [.tmp 7,.tmp 9],qm 5 10,qx 11 0 5,qx 12 1 5,qm 3 11,qm 4 12]
def Y8.r2:=[qa 13 1 1,ql 14 13,qe 15 .neq 14 11,qm 16 15,qn 16 (ql 17 0),qn 16 (qm 18 3),qn 16 (qf 19 75 [.tmp 17,.tmp 18]),qn 16 (qe 20 .eql 19 0),qo 21 16 20,qm 2 21]
abbrev Y8.id:Nat:=74
def Y8.an:Ann:=[(0,[0,1]),(1,[0,1,3]),(2,[2])]
def Y8.body:DC:=.seq (qR Y8.r0 [0,1]) (.seq (qR Y8.r1 [0,1,3]) (.seq (qR Y8.r2 [2]) .ret))
def Y8.df:DF:=⟨22,[.tmp 2],Y8.body⟩
theorem Y8.ok:cf ZvJ Y8.an Y8.id=some Y8.df:=by kernel_rfl
def Y0.r0:List DOp:=[qB 3 1,⟨some 4,none,.alloc [.int .i64 0]⟩]
def Y0.r1:=[qm 7 0,qf 8 47 [.tmp 7]]
def Y0.r2:=[qm 5 9]
def Y0.r3:=[qm 6 10]
def Y0.r4:=[qm 11 5,ql 12 3,qd 13 .eql 11 12]
def Y0.r5:=[qm 14 6,qs 4 14]
def Y0.a0:DC:=.seq (qR Y0.r2 [3,4,5,9,10]) (qR Y0.r3 [3,4,5,6,9,10])
def Y0.b0:DC:=.block 1 (.seq (qR Y0.r4 [3,4,6,9,10,13]) (qC 13 (.seq (qR Y0.r5 [4]) .ret) .skip))
def Y0.r6:List DOp:=[⟨none,none,.store1 (.tmp 4) (.cst (.int .i64 0))⟩]
abbrev Y0.id:Nat:=75
def Y0.an:Ann:=[(0,[0,3,4,9,10]),(1,[3,4,8,9,10]),(2,[3,4,5,9,10]),(3,[3,4,5,6,9,10]),(4,[3,4,6,9,10,13]),(5,[4]),(6,[4])]
def Y0.body:DC:=.seq (qR Y0.r0 [0,3,4,9,10]) (.seq (.seq (qR Y0.r1 [3,4,8,9,10]) (.block 0 (.rangeF (.tmp 8) [9,10] Y0.a0 Y0.b0))) (.seq (qR Y0.r6 [4]) .ret))
def Y0.df:DF:=⟨15,[.cell1 4],Y0.body⟩
theorem Y0.ok:cf ZvJ Y0.an Y0.id=some Y0.df:=by kernel_rfl
def Z1.r0:=[qb 4 false]
def Z1.r1:=[qm 5 0,qm 6 1,qf 7 112 [.tmp 5,.tmp 6],qe 8 .geq 7 0,qm 4 8]
abbrev Z1.id:Nat:=76
def Z1.an:Ann:=[(0,[0,1]),(1,[4])]
def Z1.body:DC:=.seq (qR Z1.r0 [0,1]) (.seq (qR Z1.r1 [4]) .ret)
def Z1.df:DF:=⟨9,[.tmp 4],Z1.body⟩
theorem Z1.ok:cf ZvJ Z1.an Z1.id=some Z1.df:=by kernel_rfl
def Wx.r0:=[qb 2 false]
def Wx.r1:List DOp:=[qm 3 0,⟨some 4,none,.call (.tmp 3) []⟩,qk 5 .not 4,qm 2 5]
abbrev Wx.id:Nat:=77
def Wx.an:Ann:=[(0,[0]),(1,[2])]
def Wx.body:DC:=.seq (qR Wx.r0 [0]) (.seq (qR Wx.r1 [2]) .ret)
def Wx.df:DF:=⟨6,[.tmp 2],Wx.body⟩
theorem Wx.ok:cf ZvJ Wx.an Wx.id=some Wx.df:=by kernel_rfl
def Kt.r0:=[qb 2 false]
def Kt.r1:=[qm 3 0,qf 4 79 [.tmp 3],qk 5 .not 4,qm 6 5,qy 6 (qm 7 0),qy 6 (qf 8 80 [.tmp 7]),qy 6 (qk 9 .not 8),qO 10 6 9,qm 11 10,qy 11 (qm 12 0),qy 11 ⟨some 13,none,.q (.bin .neq (none)) [.tmp 12,.cst (.int .u8 95)]⟩,qO 14 11 13,qm 2 14]
abbrev Kt.id:Nat:=78
def Kt.an:Ann:=[(0,[0]),(1,[2])]
def Kt.body:DC:=.seq (qR Kt.r0 [0]) (.seq (qR Kt.r1 [2]) .ret)
def Kt.df:DF:=⟨15,[.tmp 2],Kt.body⟩
theorem Kt.ok:cf ZvJ Kt.an Kt.id=some Kt.df:=by kernel_rfl
def KH.r0:=[qb 2 false]
def KH.r1:List DOp:=[qm 3 0,⟨some 4,none,.q (.bin .geq (none)) [.tmp 3,.cst (.int .u8 65)]⟩,qm 5 4,qy 5 (qm 6 0),qy 5 ⟨some 7,none,.q (.bin .leq (none)) [.tmp 6,.cst (.int .u8 90)]⟩,qO 8 5 7,qm 9 8,qn 9 (qm 10 0),qn 9 ⟨some 11,none,.q (.bin .geq (none)) [.tmp 10,.cst (.int .u8 97)]⟩,qn 9 (qm 12 11),qy 12 (qm 13 0),qy 12 ⟨some 14,none,.q (.bin .leq (none)) [.tmp 13,.cst (.int .u8 122)]⟩,qn 9 (qO 15 12 14),qo 16 9 15,qm 2 16]
abbrev KH.id:Nat:=79
def KH.an:Ann:=[(0,[0]),(1,[2])]
def KH.body:DC:=.seq (qR KH.r0 [0]) (.seq (qR KH.r1 [2]) .ret)
def KH.df:DF:=⟨17,[.tmp 2],KH.body⟩
theorem KH.ok:cf ZvJ KH.an KH.id=some KH.df:=by kernel_rfl
def KV.r0:=[qb 2 false]
def KV.r1:List DOp:=[qm 3 0,⟨some 4,none,.q (.bin .geq (none)) [.tmp 3,.cst (.int .u8 48)]⟩,qm 5 4,qy 5 (qm 6 0),qy 5 ⟨some 7,none,.q (.bin .leq (none)) [.tmp 6,.cst (.int .u8 57)]⟩,qO 8 5 7,qm 2 8]
abbrev KV.id:Nat:=80
def KV.an:Ann:=[(0,[0]),(1,[2])]
def KV.body:DC:=.seq (qR KV.r0 [0]) (.seq (qR KV.r1 [2]) .ret)
def KV.df:DF:=⟨9,[.tmp 2],KV.body⟩
theorem KV.ok:cf ZvJ KV.an KV.id=some KV.df:=by kernel_rfl
def Qa.r0:=[qb 2 false]
def Qa.r1:=[qm 3 0,qf 4 113 [.tmp 3,.cst (.bool false)],qk 5 .not 4,qm 2 5]
abbrev Qa.id:Nat:=81
def Qa.an:Ann:=[(0,[0]),(1,[2])]
def Qa.body:DC:=.seq (qR Qa.r0 [0]) (.seq (qR Qa.r1 [2]) .ret)
def Qa.df:DF:=⟨6,[.tmp 2],Qa.body⟩
theorem Qa.ok:cf ZvJ Qa.an Qa.id=some Qa.df:=by kernel_rfl
def Yd.r0:=[qb 4 false]
def Yd.r1:=[qm 5 0,qm 6 1,qf 7 114 [.tmp 5,.tmp 6],qe 8 .geq 7 0,qm 4 8]
abbrev Yd.id:Nat:=82
def Yd.an:Ann:=[(0,[0,1]),(1,[4])]
def Yd.body:DC:=.seq (qR Yd.r0 [0,1]) (.seq (qR Yd.r1 [4]) .ret)
def Yd.df:DF:=⟨9,[.tmp 4],Yd.body⟩
theorem Yd.ok:cf ZvJ Yd.an Yd.id=some Yd.df:=by kernel_rfl
def ZT.r0:List DOp:=[⟨some 2,none,.q .mv [.cst (.nilmap)]⟩]
def ZT.r1:List DOp:=[⟨some 8,none,.mkmap⟩,qm 3 8]
def ZT.r2:=[qm 9 0,qk 10 .lenL 9,qi 11 0]
def ZT.r3:=[qd 12 .lss 11 10]
def ZT.r4:List DOp:=[qX 13 15 9 11,qL 14 15 13,⟨some 5,none,.alloc [.str [],.int .i64 0,.int .i64 0,.bool false,.bool false,.int .i64 0,.int .i64 0,.int .i64 0,.nilsl,.str [],.str [],.str [],.nilsl,.int .i64 0,.int .i64 0]⟩,qS 15 5 14]
def ZT.r5:List DOp:=[qL 16 15 5,qf 17 45 [.tmp 16],qm 15 17,qx 18 0 15,qx 19 1 15,⟨some 6,none,.alloc [.int .i64 0,.int .i64 0]⟩,qS 2 6 18,qm 7 19]
def ZT.r6:=[qm 20 7,qe 21 .eql 20 0]
def ZT.r7:List DOp:=[qm 22 3,qa 23 0 5,ql 24 23,qL 25 2 6,⟨none,none,.mapupd (.sc .str) (.tmp 22) (.tmp 24) (.tmp 25)⟩]
def ZT.r8:=[qe 26 .add 11 1,qm 11 26]
def ZT.l0:DC:=.seq (qR ZT.r3 [3,9,10,11,12]) (.seq (qC 12 .skip (.exit 0)) (.seq (.block 1 (.seq (qR ZT.r4 [3,5,9,10,11]) (.seq (qR ZT.r5 [3,5,6,7,9,10,11]) (.seq (qR ZT.r6 [3,5,6,9,10,11,21]) (qC 21 (qR ZT.r7 [3,9,10,11]) .skip))))) (qR ZT.r8 [3,9,10,11])))
def ZT.r9:=[qm 27 3,qm 2 27]
abbrev ZT.id:Nat:=100
def ZT.an:Ann:=[(0,[0]),(1,[0,3]),(2,[3,9,10,11]),(3,[3,9,10,11,12]),(4,[3,5,9,10,11]),(5,[3,5,6,7,9,10,11]),(6,[3,5,6,9,10,11,21]),(7,[3,9,10,11]),(8,[3,9,10,11]),(9,[2])]
def ZT.body:DC:=.seq (qR ZT.r0 [0]) (.seq (qR ZT.r1 [0,3]) (.seq (.seq (qR ZT.r2 [3,9,10,11]) (.block 0 (.loop ZT.l0))) (.seq (qR ZT.r9 [2]) .ret)))
def ZT.df:DF:=⟨28,[.tmp 2],ZT.body⟩
theorem ZT.ok:cf ZvJ ZT.an ZT.id=some ZT.df:=by kernel_rfl
def YN.r0:=[qB 1 0,qb 2 false]
def YN.r1:List DOp:=[qa 3 0 1,ql 4 3,qe 5 .geq 4 0,qa 6 0 1,ql 7 6,qa 8 1 1,ql 9 8,qd 10 .leq 7 9,qa 11 1 1,ql 12 11,qe 13 .lss 12 34359738368,⟨some 14,none,.bsl 3 1 [.bool false] [0,1,2] [.tmp 5,.tmp 10,.tmp 13]⟩,qf 15 81 [.tmp 14],qm 2 15]
abbrev YN.id:Nat:=101
def YN.an:Ann:=[(0,[1]),(1,[2])]
def YN.body:DC:=.seq (qR YN.r0 [1]) (.seq (qR YN.r1 [2]) .ret)
def YN.df:DF:=⟨16,[.tmp 2],YN.body⟩
theorem YN.ok:cf ZvJ YN.an YN.id=some YN.df:=by kernel_rfl
def Zd.r0:List DOp:=[qB 4 0,qB 5 1,qB 6 2,qB 7 3,⟨some 8,none,.alloc [.int .i64 0]⟩]
def Zd.r1:=[qL 13 2 4,qf 14 142 [.tmp 13],qk 15 .not 14]
def Zd.r2:List DOp:=[⟨none,none,.store1 (.tmp 8) (.cst (.int .i64 2))⟩]
def Zd.r3:List DOp:=[⟨some 9,none,.alloc [.bool false]⟩,⟨none,none,.store1 (.tmp 9) (.cst (.bool false))⟩]
def Zd.r4:=[qL 16 2 4,qf 17 143 [.tmp 16]]
def Zd.r5:=[qm 10 18]
def Zd.r6:List DOp:=[ql 20 6,qm 21 10,⟨some 22,none,.q (.lookup (.sc .str) (.agg [.int .i64 0,.int .i64 0]) true) [.tmp 20,.tmp 21]⟩,qm 19 22,qx 23 0 19,qx 24 1 19,⟨some 11,none,.alloc [.int .i64 0,.int .i64 0]⟩,qS 2 11 23,qm 12 24]
def Zd.r7:=[qm 26 10,ql 27 5,qd 28 .eql 26 27,qm 25 28]
def Zd.r8:=[qm 30 12,qk 31 .not 30,qm 29 31]
def Zd.r9:List DOp:=[⟨none,none,.store1 (.tmp 9) (.cst (.bool true))⟩]
def Zd.r10:List DOp:=[ql 33 7,qL 34 2 11,⟨some 35,none,.call (.tmp 33) [.tmp 34]⟩,qk 36 .not 35,qm 32 36]
def Zd.r11:List DOp:=[⟨none,none,.store1 (.tmp 8) (.cst (.int .i64 2))⟩]
def Zd.a0:DC:=qR Zd.r5 [5,6,7,8,9,10,18]
def Zd.b0:DC:=.block 1 (.seq (qR Zd.r6 [5,6,7,8,9,10,11,12,18]) (.block 2 (.seq (qR Zd.r7 [5,6,7,8,9,11,12,18,25]) (qC 25 .skip (.seq (qR Zd.r8 [5,6,7,8,9,11,18,29]) (qC 29 (qR Zd.r9 [5,6,7,8,9,18]) (.seq (qR Zd.r10 [5,6,7,8,9,18,32]) (qC 32 (.seq (qR Zd.r11 [8]) .ret) .skip))))))))
def Zd.r12:=[ql 37 9]
def Zd.r13:List DOp:=[⟨none,none,.store1 (.tmp 8) (.cst (.int .i64 9))⟩]
def Zd.r14:List DOp:=[⟨none,none,.store1 (.tmp 8) (.cst (.int .i64 0))⟩]
abbrev Zd.id:Nat:=102
def Zd.an:Ann:=[(0,[4,5,6,7,8,18]),(1,[4,5,6,7,8,15,18]),(2,[8]),(3,[4,5,6,7,8,9,18]),(4,[5,6,7,8,9,17,18]),(5,[5,6,7,8,9,10,18]),(6,[5,6,7,8,9,10,11,12,18]),(7,[5,6,7,8,9,11,12,18,25]),(8,[5,6,7,8,9,11,18,29]),(9,[5,6,7,8,9,18]),(10,[5,6,7,8,9,18,32]),(11,[8]),(12,[8,37]),(13,[8]),(14,[8])]
def Zd.body:DC:=.seq (qR Zd.r0 [4,5,6,7,8,18]) (.seq (.seq (qR Zd.r1 [4,5,6,7,8,15,18]) (qC 15 (.seq (qR Zd.r2 [8]) .ret) .skip)) (.seq (qR Zd.r3 [4,5,6,7,8,9,18]) (.seq (.seq (qR Zd.r4 [5,6,7,8,9,17,18]) (.block 0 (.rangeF (.tmp 17) [18] Zd.a0 Zd.b0))) (.seq (.seq (qR Zd.r12 [8,37]) (qC 37 (.seq (qR Zd.r13 [8]) .ret) .skip)) (.seq (qR Zd.r14 [8]) .ret)))))
def Zd.df:DF:=⟨38,[.cell1 8],Zd.body⟩
theorem Zd.ok:cf ZvJ Zd.an Zd.id=some Zd.df:=by kernel_rfl
def Wr.r0:=[qB 3 0,qi 4 0]
def Wr.r1:List DOp:=[qL 5 2 1,⟨some 6,none,.q (.mkfn (.func 105) 0) [.tmp 2,.tmp 3]⟩,qf 7 104 [.tmp 5,.tmp 6],qm 4 7]
abbrev Wr.id:Nat:=103
def Wr.an:Ann:=[(0,[1,2,3]),(1,[4])]
def Wr.body:DC:=.seq (qR Wr.r0 [1,2,3]) (.seq (qR Wr.r1 [4]) .ret)
def Wr.df:DF:=⟨8,[.tmp 4],Wr.body⟩
theorem Wr.ok:cf ZvJ Wr.an Wr.id=some Wr.df:=by kernel_rfl
def Ym.r0:=[qB 2 0,qi 4 0]
def Ym.r1:=[qa 8 0 2,ql 9 8,qm 5 9]
def Ym.r2:=[qa 10 1 2,ql 11 10,qk 12 .lenL 11,qi 13 0]
def Ym.r3:=[qd 14 .lss 13 12]
def Ym.r4:List DOp:=[qX 15 2 11 13,qL 16 2 15,⟨some 7,none,.alloc [.str [],.int .i64 0]⟩,qS 2 7 16]
def Ym.r5:List (DOp × List Nat):=[
 (⟨some 17,none,.q .mv [.tmp 5]⟩,[]),
 (⟨some 18,none,.q (.faddr 1) [.tmp 7]⟩,[]),
 (⟨some 19,none,.q (.load1) [.tmp 18]⟩,[]),
 (⟨some 20,none,.q .mv [.tmp 1]⟩,[]),
 (⟨some 21,none,.q (.loadN 2) [.tmp 7]⟩,[]),
 (⟨some 22,none,.call (.tmp 20) [.tmp 21]⟩,[19]),
 (⟨some 23,none,.q (.bin .mul (none)) [.tmp 19,.tmp 22]⟩,[]),
 (⟨some 24,none,.q (.bin .add (none)) [.tmp 17,.tmp 23]⟩,[]),
 (⟨some 5,none,.q .mv [.tmp 24]⟩,[])]
def Ym.r6:=[qe 25 .add 13 1,qm 13 25]
def Ym.l0:DC:=.seq (qR Ym.r3 [1,5,11,12,13,14]) (.seq (qC 14 .skip (.exit 0)) (.seq (.block 1 (.seq (qR Ym.r4 [1,5,7,11,12,13]) (.regD [0,1,2,3,4,5,6,7,8] Ym.r5 (some [1,5,11,12,13])))) (qR Ym.r6 [1,5,11,12,13])))
def Ym.r7:=[qm 26 5,qm 4 26]
abbrev Ym.id:Nat:=104
def Ym.an:Ann:=[(0,[1,2]),(1,[1,2,5]),(2,[1,5,11,12,13]),(3,[1,5,11,12,13,14]),(4,[1,5,7,11,12,13]),(5,[1,5,11,12,13]),(6,[1,5,11,12,13]),(7,[4]),(1000005,[0,1,2,3,4,5,6,7,8]),(9000005,[19])]
def Ym.body:DC:=.seq (qR Ym.r0 [1,2]) (.seq (qR Ym.r1 [1,2,5]) (.seq (.seq (qR Ym.r2 [1,5,11,12,13]) (.block 0 (.loop Ym.l0))) (.seq (qR Ym.r7 [4]) .ret)))
def Ym.df:DF:=⟨27,[.tmp 4],Ym.body⟩
theorem Ym.ok:cf ZvJ Ym.an Ym.id=some Ym.df:=by kernel_rfl
def Z9.r0:=[qB 3 0,qi 4 0]
def Z9.r1:List DOp:=[ql 6 1,qa 7 0 3,ql 8 7,⟨some 9,none,.q (.lookup (.sc .str) (.agg [.int .i64 0,.int .i64 0]) false) [.tmp 6,.tmp 8]⟩,⟨some 5,none,.alloc [.int .i64 0,.int .i64 0]⟩,qS 2 5 9]
def Z9.r2:List DOp:=[ql 10 2,qa 11 1 3,ql 12 11,qe 13 .gtr 12 0,⟨some 14,none,.q (.bin .eql (some .bool)) [.tmp 10,.tmp 13]⟩]
def Z9.r3:=[qa 15 0 5,ql 16 15,qm 4 16]
def Z9.r4:List DOp:=[ql 17 1,qa 18 0 3,ql 19 18,⟨some 20,none,.q (.lookup (.sc .str) (.agg [.int .i64 0,.int .i64 0]) false) [.tmp 17,.tmp 19]⟩,qk 21 (.fld1 1) 20,qm 4 21]
abbrev Z9.id:Nat:=105
def Z9.an:Ann:=[(0,[1,2,3]),(1,[1,2,3,5]),(2,[1,3,5,14]),(3,[4]),(4,[4])]
def Z9.body:DC:=.seq (qR Z9.r0 [1,2,3]) (.seq (.seq (qR Z9.r1 [1,2,3,5]) (.seq (qR Z9.r2 [1,3,5,14]) (qC 14 (.seq (qR Z9.r3 [4]) .ret) .skip))) (.seq (qR Z9.r4 [4]) .ret))
def Z9.df:DF:=⟨22,[.tmp 4],Z9.body⟩
theorem Z9.ok:cf ZvJ Z9.an Z9.id=some Z9.df:=by kernel_rfl
def Z2.r0:List DOp:=[⟨some 3,none,.recover⟩,qm 2 3]
def Z2.r1:List DOp:=[qm 4 2,⟨some 5,none,.q (.bin .neq (some .ifc)) [.tmp 4,.cst (.niliface)]⟩]
def Z2.r2:List DOp:=[qm 7 2,⟨some 8,none,.q (.tassert 76 true (.agg [.int .i64 0,.int .i64 0,.int .i64 0])) [.tmp 7]⟩,qm 6 8,qx 9 0 6,qx 10 1 6,qS 3 0 9,qs 1 10]
def Z2.r3:=[ql 11 1,qk 12 .not 11]
def Z2.r4:List DOp:=[qm 13 2,⟨none,none,.panic (.tmp 13)⟩]
abbrev Z2.id:Nat:=106
def Z2.an:Ann:=[(0,[0,1,2]),(1,[0,1,2,5]),(2,[1,2]),(3,[2,12]),(4,[])]
def Z2.body:DC:=.seq (qR Z2.r0 [0,1,2]) (.seq (qR Z2.r1 [0,1,2,5]) (qC 5 (.seq (qR Z2.r2 [1,2]) (.seq (qR Z2.r3 [2,12]) (qC 12 (qR Z2.r4 []) .skip))) .skip))
def Z2.df:DF:=⟨14,[],Z2.body⟩
theorem Z2.ok:cf ZvJ Z2.an Z2.id=some Z2.df:=by kernel_rfl
def YE.r0:=[qm 6 1,qk 7 .not 6]
def YE.r1:List DOp:=[qm 8 0,qk 9 .nilck 8,qa 10 5 9,ql 11 10,qm 12 0,qk 13 .nilck 12,qa 14 6 13,ql 15 14,qm 16 2,⟨some 17,none,.q (.build [.int .i64 0,.int .i64 0,.int .i64 0] [(0,1),(1,1),(2,1)]) [.tmp 11,.tmp 15,.tmp 16]⟩,qk 18 (.mkif 76) 17,⟨none,none,.panic (.tmp 18)⟩]
abbrev YE.id:Nat:=107
def YE.an:Ann:=[(0,[0,2,7]),(1,[]),(1000001,[0,1,2,3,4,5,6,7,8,9,10,11])]
def YE.body:DC:=.seq (qR YE.r0 [0,2,7]) (qC 7 (.regD [0,1,2,3,4,5,6,7,8,9,10,11] (JA YE.r1) (some [])) .skip)
def YE.df:DF:=⟨19,[],YE.body⟩
theorem YE.ok:cf ZvJ YE.an YE.id=some YE.df:=by kernel_rfl
def Zb.r0:=[qB 2 0,qB 3 1]
def Zb.r1:List (DOp × List Nat):=[
 (⟨some 11,none,.q (.load1) [.tmp 2]⟩,[]),
 (⟨some 12,none,.q (.load1) [.tmp 2]⟩,[]),
 (⟨some 13,none,.q (.loadN 2) [.tmp 3]⟩,[]),
 (⟨some 14,none,.q .nilck [.tmp 11]⟩,[]),
 (⟨some 15,none,.q (.faddr 7) [.tmp 14]⟩,[]),
 (⟨none,none,.storeN 2 (.tmp 15) (.tmp 13)⟩,[12]),
 (⟨some 16,none,.q .nilck [.tmp 12]⟩,[]),
 (⟨some 17,none,.q (.faddr 6) [.tmp 16]⟩,[]),
 (⟨none,none,.store1 (.tmp 17) (.cst (.int .i64 (-1)))⟩,[])]
def Zb.r2:List (DOp × List Nat):=[
 (⟨some 18,none,.q (.load1) [.tmp 2]⟩,[]),
 (⟨some 19,none,.q (.faddr 0) [.tmp 3]⟩,[]),
 (⟨some 20,none,.q (.load1) [.tmp 19]⟩,[]),
 (⟨some 21,none,.call (.cst (.fn (.func 54) [] [])) [.tmp 20]⟩,[18]),
 (⟨some 22,none,.call (.cst (.fn (.func 107) [] [])) [.tmp 18,.tmp 21,.cst (.int .i64 1)]⟩,[])]
def Zb.r3:List DOp:=[ql 24 2,qk 25 .nilck 24,qa 26 3 25,ql 27 26,qa 28 0 3,ql 29 28,⟨some 30,none,.q (.lookup (.sc .str) (.int .i64 0) true) [.tmp 27,.tmp 29]⟩,qm 23 30,qx 31 0 23,qx 32 1 23,qm 4 31,qm 5 32]
def Zb.r4:=[ql 33 2,qm 34 5,qk 35 .not 34,qf 36 107 [.tmp 33,.tmp 35,.cst (.int .i64 2)]]
def Zb.r5:=[ql 37 2,qa 38 1 3,ql 39 38,qk 40 .lenL 39,qe 41 .geq 40 1,qm 42 41,qy 42 (qa 43 1 3),qy 42 (ql 44 43),qy 42 (qk 45 .lenL 44),qy 42 (qe 46 .leq 45 40),qO 47 42 46,qf 48 107 [.tmp 37,.tmp 47,.cst (.int .i64 3)]]
def Zb.r6:List DOp:=[⟨some 6,none,.alloc [.bool false]⟩,⟨none,none,.store1 (.tmp 6) (.cst (.bool true))⟩]
def Zb.r7:=[qa 49 1 3,ql 50 49,qk 51 .lenL 50,qi 52 0]
def Zb.r8:=[qd 53 .lss 52 51]
def Zb.r9:List DOp:=[qm 54 52,qX 55 15 50 52,qL 56 15 55,⟨some 8,none,.alloc [.str [],.int .i64 0,.int .i64 0,.bool false,.bool false,.int .i64 0,.int .i64 0,.int .i64 0,.nilsl,.str [],.str [],.str [],.nilsl,.int .i64 0,.int .i64 0]⟩,qm 7 54,qS 15 8 56]
def Zb.r10:=[ql 57 2,qm 58 7,qk 59 .nilck 57,qa 60 6 59,qs 60 58]
def Zb.r11:=[ql 61 2,qL 62 15 8,qf 63 144 [.tmp 61,.tmp 62]]
def Zb.r12:=[ql 64 6,qm 65 64,qy 65 (qa 66 4 8),qy 65 (ql 67 66),qy 65 (qk 68 .not 67),qO 69 65 68,qs 6 69]
def Zb.r13:=[qe 70 .add 52 1,qm 52 70]
def Zb.l0:DC:=.seq (qR Zb.r8 [2,3,6,50,51,52,53,76]) (.seq (qC 53 .skip (.exit 0)) (.seq (.block 1 (.seq (qR Zb.r9 [2,3,6,7,8,50,51,52,76]) (.seq (qR Zb.r10 [2,3,6,8,50,51,52,76]) (.seq (qR Zb.r11 [2,3,6,8,50,51,52,76]) (qR Zb.r12 [2,3,6,50,51,52,76]))))) (qR Zb.r13 [2,3,6,50,51,52,76])))
def Zb.r14:List DOp:=[ql 71 2,qk 72 .nilck 71,qa 73 6 72,⟨none,none,.store1 (.tmp 73) (.cst (.int .i64 (-1)))⟩]
def Zb.r15:List DOp:=[⟨some 9,none,.alloc [.int .i64 0]⟩,⟨none,none,.store1 (.tmp 9) (.cst (.int .i64 0))⟩]
def Zb.r16:=[qL 74 2 3,qf 75 145 [.tmp 74]]
def Zb.r17:=[qm 10 76]
def Zb.r18:List DOp:=[ql 77 9,ql 78 2,qk 79 .nilck 78,qa 80 3 79,ql 81 80,qm 82 10,⟨some 83,none,.q (.lookup (.sc .str) (.int .i64 0) false) [.tmp 81,.tmp 82]⟩,⟨some 84,none,.q .max [.tmp 77,.tmp 83]⟩,qs 9 84]
def Zb.r19:=[ql 85 6,qm 86 85,qy 86 (ql 87 2),qy 86 (qk 88 .nilck 87),qy 86 (qa 89 4 88),qy 86 (ql 90 89),qy 86 (qm 91 10),qy 86 ⟨some 92,none,.q (.lookup (.sc .str) (.bool false) false) [.tmp 90,.tmp 91]⟩,qO 93 86 92,qs 6 93]
def Zb.a1:DC:=qR Zb.r17 [2,3,6,9,10,76]
def Zb.b1:DC:=.block 3 (.seq (.regD [0,1,2,3,4,5,6,7,8] (JA Zb.r18) (some [2,3,6,9,10,76])) (qR Zb.r19 [2,3,6,9,76]))
def Zb.r20:List (DOp × List Nat):=[
 (⟨some 94,none,.q (.load1) [.tmp 2]⟩,[]),
 (⟨some 95,none,.q .nilck [.tmp 94]⟩,[]),
 (⟨some 96,none,.q (.faddr 3) [.tmp 95]⟩,[]),
 (⟨some 97,none,.q (.load1) [.tmp 96]⟩,[]),
 (⟨some 98,none,.q (.faddr 0) [.tmp 3]⟩,[]),
 (⟨some 99,none,.q (.load1) [.tmp 98]⟩,[]),
 (⟨some 100,none,.q (.load1) [.tmp 2]⟩,[]),
 (⟨some 101,none,.q .nilck [.tmp 100]⟩,[]),
 (⟨some 102,none,.q (.faddr 4) [.tmp 101]⟩,[]),
 (⟨some 103,none,.q (.load1) [.tmp 102]⟩,[]),
 (⟨some 104,none,.q (.faddr 0) [.tmp 3]⟩,[]),
 (⟨some 105,none,.q (.load1) [.tmp 104]⟩,[]),
 (⟨some 106,none,.q (.load1) [.tmp 9]⟩,[]),
 (⟨some 107,none,.q (.bin .add (none)) [.tmp 106,.cst (.int .i64 1)]⟩,[]),
 (⟨some 108,none,.q (.load1) [.tmp 6]⟩,[]),
 (⟨some 109,none,.mapent (.sc .str) (.int .i64 0) (.tmp 97) (.tmp 99)⟩,[108,106,105]),
 (⟨some 110,none,.q (.ext 1) [.tmp 109]⟩,[]),
 (⟨none,none,.entst (.tmp 97) (.tmp 110) (.tmp 107)⟩,[108,105]),
 (⟨some 111,none,.mapent (.sc .str) (.bool false) (.tmp 103) (.tmp 105)⟩,[108]),
 (⟨some 112,none,.q (.ext 1) [.tmp 111]⟩,[]),
 (⟨none,none,.entst (.tmp 103) (.tmp 112) (.tmp 108)⟩,[])]
def Zb.r21:=[ql 113 2,ql 114 9,qe 115 .lss 114 16,qf 116 107 [.tmp 113,.tmp 115,.cst (.int .i64 10)]]
abbrev Zb.id:Nat:=108
def Zb.an:Ann:=[(0,[2,3,76]),(1,[2,3,76]),(2,[2,3,76]),(3,[2,3,5,76]),(4,[2,3,76]),(5,[2,3,76]),(6,[2,3,6,76]),(7,[2,3,6,50,51,52,76]),(8,[2,3,6,50,51,52,53,76]),(9,[2,3,6,7,8,50,51,52,76]),(10,[2,3,6,8,50,51,52,76]),(11,[2,3,6,8,50,51,52,76]),(12,[2,3,6,50,51,52,76]),(13,[2,3,6,50,51,52,76]),(14,[2,3,6,76]),(15,[2,3,6,9,76]),(16,[2,3,6,9,75,76]),(17,[2,3,6,9,10,76]),(18,[2,3,6,9,10,76]),(19,[2,3,6,9,76]),(20,[2,9]),(21,[]),(1000001,[0,1,2,3,4,5,6,7,8]),(1000002,[0,1,2,3,4]),(1000003,[0,1,2,3,4,5,6,7,8,9,10,11]),(1000018,[0,1,2,3,4,5,6,7,8]),(1000020,[0,1,2,3,4,5,6,7,8,9,10,11,12,13,14,15,16,17,18,19,20]),(7000002,[18]),(9000001,[12]),(19000020,[108,106,105]),(21000020,[108,105]),(22000020,[108])]
def Zb.body:DC:=.seq (qR Zb.r0 [2,3,76]) (.seq (.regD [0,1,2,3,4,5,6,7,8] Zb.r1 (some [2,3,76])) (.seq (.regD [0,1,2,3,4] Zb.r2 (some [2,3,76])) (.seq (.regD [0,1,2,3,4,5,6,7,8,9,10,11] (JA Zb.r3) (some [2,3,5,76])) (.seq (qR Zb.r4 [2,3,76]) (.seq (qR Zb.r5 [2,3,76]) (.seq (qR Zb.r6 [2,3,6,76]) (.seq (.seq (qR Zb.r7 [2,3,6,50,51,52,76]) (.block 0 (.loop Zb.l0))) (.seq (qR Zb.r14 [2,3,6,76]) (.seq (qR Zb.r15 [2,3,6,9,76]) (.seq (.seq (qR Zb.r16 [2,3,6,9,75,76]) (.block 2 (.rangeF (.tmp 75) [76] Zb.a1 Zb.b1))) (.seq (.regD [0,1,2,3,4,5,6,7,8,9,10,11,12,13,14,15,16,17,18,19,20] Zb.r20 (some [2,9])) (qR Zb.r21 []))))))))))))
def Zb.df:DF:=⟨117,[],Zb.body⟩
theorem Zb.ok:cf ZvJ Zb.an Zb.id=some Zb.df:=by kernel_rfl
def YZ.r0:=[qB 2 0,qi 4 0]
def YZ.r1:=[qm 5 1,qa 6 2 2,ql 7 6,qd 8 .add 5 7,qm 4 8]
abbrev YZ.id:Nat:=109
def YZ.an:Ann:=[(0,[1,2]),(1,[4])]
def YZ.body:DC:=.seq (qR YZ.r0 [1,2]) (.seq (qR YZ.r1 [4]) .ret)
def YZ.df:DF:=⟨9,[.tmp 4],YZ.body⟩
theorem YZ.ok:cf ZvJ YZ.an YZ.id=some YZ.df:=by kernel_rfl
def Wl.r0:=[qB 2 0,qi 4 0]
def Wl.r1:=[qm 5 1,qa 6 2 2,ql 7 6,qf 8 111 [.tmp 5,.tmp 7],qm 4 8]
abbrev Wl.id:Nat:=110
def Wl.an:Ann:=[(0,[1,2]),(1,[4])]
def Wl.body:DC:=.seq (qR Wl.r0 [1,2]) (.seq (qR Wl.r1 [4]) .ret)
def Wl.df:DF:=⟨9,[.tmp 4],Wl.body⟩
theorem Wl.ok:cf ZvJ Wl.an Wl.id=some Wl.df:=by kernel_rfl
def Qx.r0:=[qi 4 0]
def Qx.r1:=[qm 5 0,qm 6 1,qd 7 .add 5 6,qe 8 .sub 7 1,qm 9 1,qd 10 .quo 8 9,qm 11 1,qd 12 .mul 10 11,qm 4 12]
abbrev Qx.id:Nat:=111
def Qx.an:Ann:=[(0,[0,1]),(1,[4])]
def Qx.body:DC:=.seq (qR Qx.r0 [0,1]) (.seq (qR Qx.r1 [4]) .ret)
def Qx.df:DF:=⟨13,[.tmp 4],Qx.body⟩
theorem Qx.ok:cf ZvJ Qx.an Qx.id=some Qx.df:=by kernel_rfl
def Zn.r0:=[qi 4 0]
def Zn.r1:=[qm 6 0,qk 7 .lenL 6,qi 8 0]
def Zn.r2:=[qd 9 .lss 8 7]
def Zn.r3:=[qm 10 8,qm 5 10]
def Zn.r4:List DOp:=[qm 11 1,qm 12 0,qm 13 5,qX 14 1 12 13,ql 15 14,⟨some 16,none,.call (.tmp 11) [.tmp 15]⟩]
def Zn.r5:=[qm 17 5,qm 4 17]
def Zn.r6:=[qe 18 .add 8 1,qm 8 18]
def Zn.l0:DC:=.seq (qR Zn.r2 [0,1,7,8,9]) (.seq (qC 9 .skip (.exit 0)) (.seq (.block 1 (.seq (qR Zn.r3 [0,1,5,7,8]) (.seq (qR Zn.r4 [0,1,5,7,8,16]) (qC 16 (.seq (qR Zn.r5 [4]) .ret) .skip)))) (qR Zn.r6 [0,1,7,8])))
def Zn.r7:=[qi 4 (-1)]
abbrev Zn.id:Nat:=112
def Zn.an:Ann:=[(0,[0,1]),(1,[0,1,7,8]),(2,[0,1,7,8,9]),(3,[0,1,5,7,8]),(4,[0,1,5,7,8,16]),(5,[4]),(6,[0,1,7,8]),(7,[4])]
def Zn.body:DC:=.seq (qR Zn.r0 [0,1]) (.seq (.seq (qR Zn.r1 [0,1,7,8]) (.block 0 (.loop Zn.l0))) (.seq (qR Zn.r7 [4]) .ret))
def Zn.df:DF:=⟨19,[.tmp 4],Zn.body⟩
theorem Zn.ok:cf ZvJ Zn.an Zn.id=some Zn.df:=by kernel_rfl
def YH.r0:=[qb 4 false]
def YH.r1:=[qm 5 0,qm 6 1,qf 7 146 [.tmp 5,.tmp 6],qe 8 .geq 7 0,qm 4 8]
abbrev YH.id:Nat:=113
def YH.an:Ann:=[(0,[0,1]),(1,[4])]
def YH.body:DC:=.seq (qR YH.r0 [0,1]) (.seq (qR YH.r1 [4]) .ret)
def YH.df:DF:=⟨9,[.tmp 4],YH.body⟩
theorem YH.ok:cf ZvJ YH.an YH.id=some YH.df:=by kernel_rfl
def Zt.r0:=[qi 4 0]
def Zt.r1:=[qm 6 0,qk 7 .lenL 6,qi 8 0]
def Zt.r2:=[qd 9 .lss 8 7]
def Zt.r3:=[qm 10 8,qm 5 10]
def Zt.r4:List DOp:=[qm 11 1,qm 12 0,qm 13 5,qX 14 1 12 13,ql 15 14,⟨some 16,none,.call (.tmp 11) [.tmp 15]⟩]
def Zt.r5:=[qm 17 5,qm 4 17]
def Zt.r6:=[qe 18 .add 8 1,qm 8 18]
def Zt.l0:DC:=.seq (qR Zt.r2 [0,1,7,8,9]) (.seq (qC 9 .skip (.exit 0)) (.seq (.block 1 (.seq (qR Zt.r3 [0,1,5,7,8]) (.seq (qR Zt.r4 [0,1,5,7,8,16]) (qC 16 (.seq (qR Zt.r5 [4]) .ret) .skip)))) (qR Zt.r6 [0,1,7,8])))
def Zt.r7:=[qi 4 (-1)]
abbrev Zt.id:Nat:=114
def Zt.an:Ann:=[(0,[0,1]),(1,[0,1,7,8]),(2,[0,1,7,8,9]),(3,[0,1,5,7,8]),(4,[0,1,5,7,8,16]),(5,[4]),(6,[0,1,7,8]),(7,[4])]
def Zt.body:DC:=.seq (qR Zt.r0 [0,1]) (.seq (.seq (qR Zt.r1 [0,1,7,8]) (.block 0 (.loop Zt.l0))) (.seq (qR Zt.r7 [4]) .ret))
def Zt.df:DF:=⟨19,[.tmp 4],Zt.body⟩
theorem Zt.ok:cf ZvJ Zt.an Zt.id=some Zt.df:=by kernel_rfl
def Kh.r0:=[qB 1 0,qb 2 false]
def Kh.r1:List DOp:=[⟨some 5,none,.mkmap⟩,⟨some 3,none,.alloc [.nilmap]⟩,qs 3 5]
def Kh.r2:List DOp:=[⟨some 6,none,.q (.mkfn (.func 184) 0) [.tmp 3]⟩,qm 4 6]
def Kh.r3:List (DOp × List Nat):=[
 (⟨some 7,none,.q (.faddr 0) [.tmp 1]⟩,[]),
 (⟨some 8,none,.q (.load1) [.tmp 7]⟩,[]),
 (⟨some 10,none,.q (.faddr 1) [.tmp 1]⟩,[]),
 (⟨some 11,none,.q (.load1) [.tmp 10]⟩,[]),
 (⟨some 12,none,.q .lenL [.tmp 11]⟩,[]),
 (⟨some 13,none,.q (.bin .leq (none)) [.tmp 12,.cst (.int .i64 4)]⟩,[]),
 (⟨some 9,none,.call (.cst (.fn (.func 185) [] [])) [.tmp 8]⟩,[11]),
 (⟨some 14,none,.bsl 2 1 [.bool false] [0,1] [.tmp 9,.tmp 13]⟩,[]),
 (⟨some 15,none,.call (.cst (.fn (.func 81) [] [])) [.tmp 14]⟩,[]),
 (⟨some 16,none,.q .mv [.tmp 15]⟩,[]),
 (⟨some 17,some (16,true),.q (.faddr 1) [.tmp 1]⟩,[]),
 (⟨some 18,some (16,true),.q (.load1) [.tmp 17]⟩,[]),
 (⟨some 19,some (16,true),.q .mv [.tmp 4]⟩,[]),
 (⟨some 20,some (16,true),.call (.cst (.fn (.func 186) [] [])) [.tmp 18,.tmp 19]⟩,[]),
 (⟨some 21,some (16,true),.q .not [.tmp 20]⟩,[]),
 (⟨some 22,none,.pick (.tmp 16) (.tmp 21) (.cst (.bool false))⟩,[]),
 (⟨some 2,none,.q .mv [.tmp 22]⟩,[])]
abbrev Kh.id:Nat:=142
def Kh.an:Ann:=[(0,[1]),(1,[1,3]),(2,[1,4]),(3,[2]),(1000003,[0,1,3,4,5,6,2,7,8,9,10,11,12,13,14,15,16]),(6000003,[11])]
def Kh.body:DC:=.seq (qR Kh.r0 [1]) (.seq (qR Kh.r1 [1,3]) (.seq (qR Kh.r2 [1,4]) (.seq (.regD [0,1,3,4,5,6,2,7,8,9,10,11,12,13,14,15,16] Kh.r3 (some [2])) .ret)))
def Kh.df:DF:=⟨23,[.tmp 2],Kh.body⟩
theorem Kh.ok:cf ZvJ Kh.an Kh.id=some Kh.df:=by kernel_rfl
end Go.DL
