/- Lemmas: DlW, DlX, DlY, DlZ, DlZA, DlZB, DlZC, DlZD, DlZE, DlZF, DlZGa, DlZG, DlZH, DlZI, FCode0, FCode1. -/
import Derived.Test.YtmnhlhenahlilaaGreatT01
set_option maxHeartbeats 16000000
set_option linter.all false
open Bool renaming and_eq_true → ZuA, or_eq_true → ZuL
open Go.DL.D.Le renaming refl → Zux
open Go.Proofs.Tryz renaming prog → Zuv
open List renaming getElem_of_mem → ZuJ, length_append → ZuF, length_cons → ZuI
open Nat renaming le_refl → ZuO
open Option renaming map_eq_some_iff → ZuC
open Option.some renaming injEq → Zuu
open Prod.mk renaming injEq → Zuz
namespace Go.DL
open Go
section
variable {P:Program}
def QM (F:Fr P) (ρ:Env) (L:Loc) (d:D) (s:St):Prop :=
 ∀ g ν w v todo tmps,F.N≤tmps.size→Yg g ν w tmps ρ L s→Rep g w v d→F.T.T g w (lone { F.b.atR ⟨tmps,F.ds⟩ todo with mode:=.panicking [{ v,recovered:=false }] } F.cs w)
theorem Yg.empty {g:G} {ν:Nat→Nat} {w:World} {tmps:Array Value} {ρ:Env} {L:Loc} {s:St} (m:Yg g ν w tmps ρ L s):Yg g ν w tmps [] [] s:={
 st:=m.st
 loc l cs h:=by simp [ZU] at h
 locKept l cs h:=by simp [ZU] at h
 locSt l cs h:=by simp [ZU] at h
 inj l l' cs cs' h:=by simp [ZU] at h
 env t e h:=by simp [WN] at h }
theorem QM.weak {F:Fr P} {d:D} {s:St} (h:QM F [] [] d s) (ρ:Env) (L:Loc):QM F ρ L d s :=
 fun g ν w v todo tmps hN m hr=>h g ν w v todo tmps hN m.empty hr
def ZfT (g:G) (ν:Nat→Nat) (L:Loc):G:={ g with kept:=fun b=>g.kept b∨∃ l cs,ZU L l=some cs∧b=ν l }
theorem Jp {g g':G} {w:World} {v:Value} {d:D} (h:Rep g w v d) (hp:g'.prot=g.prot):Rep g' w v d :=
 h.mono0 (fun b=>by rw [hp]; exact ZuO _) (fun _ _ _=>rfl) (fun _ _ h=>h)
theorem ZpN {g g':G} {ν:Nat→Nat} {w:World} {L:Loc} {v:Value} {e:E} (h:YQ g ν w L v e) (hp:g'.prot=g.prot):YQ g' ν w L v e:=by
 induction e with
 | d x=>exact Jp h hp
 | loc l o=>exact h
 | when c e ih=>exact ⟨fun hc=>ih (h.1 hc),h.2⟩
theorem Zj7 {g g':G} {w:World} {b:Nat} {o:KC} (h:Jk g w b o) (hp:g'.prot=g.prot):Jk g' w b o:=by
 cases o with
 | cells ds =>
  obtain ⟨h0,vs,T,h1,h2,h3,h4⟩:=h
  exact ⟨by rw [hp]; exact h0,vs,T,h1,h2,fun i v d hv hd=>Jp (h3 i v d hv hd) hp,h4⟩
 | map es =>
  obtain ⟨h0,en,cl,h1,h2,h3,h4,h5,h6⟩:=h
  exact ⟨by rw [hp]; exact h0,en,cl,h1,h2,fun i v d hv hd=>Jp (h3 i v d hv hd) hp,fun i v d hv hd=>Jp (h4 i v d hv hd) hp,h5,h6⟩
 | tip k =>
  obtain ⟨h0,h1⟩:=h
  exact ⟨by rw [hp]; exact h0,h1⟩
 | mapE kp es k n =>
  obtain ⟨h0,io,h1,en,cl,h2,h3,h4,h5,h6,h7⟩:=h
  exact ⟨by rw [hp]; exact h0,io,h1,en,cl,h2,h3,fun i v d hi hv hd=>Jp (h4 i v d hi hv hd) hp,fun i v d hi hv hd=>Jp (h5 i v d hi hv hd) hp,fun e he=>⟨Jp (h6 e he).1 hp,(h6 e he).2⟩,h7⟩
 | loop r st =>
  obtain ⟨h0,l,h1,h2,h3,h4,h5,h6,h7,h8,h9⟩:=h
  exact ⟨by rw [hp]; exact h0,l,h1,h2,h3,h4,h5,h6,h7,fun t e he=>ZpN (h8 t e he) hp,h9⟩
 | dfr =>
  obtain ⟨h0,h1⟩:=h
  exact ⟨by rw [hp]; exact h0,h1⟩
theorem Yg.callSt {g:G} {ν:Nat→Nat} {w:World} {tmps:Array Value} {ρ:Env} {L:Loc} {s:St} (m:Yg g ν w tmps ρ L s):KS (ZfT g ν L) s w:={
 obj b o ho:=Zj7 (m.st.obj b o ho) rfl
 kept b o ho:=by
  rintro (h | ⟨l,cs,hl,rfl⟩)
  ·exact m.st.kept b o ho h
  ·rw [m.locSt l cs hl] at ho; simp at ho
 fresh b hb:=⟨(m.st.fresh b hb).1,by
  rintro (h | ⟨l,cs,hl,rfl⟩)
  ·exact (m.st.fresh b hb).2 h
  ·have:=(m.loc l cs hl).lt; omega⟩ }
theorem Yg.afterCall {g g':G} {ν:Nat→Nat} {w w':World} {tmps:Array Value} {ρ:Env} {L:Loc} {s s':St} (m:Yg g ν w tmps ρ L s) (hx:Ext (ZfT g ν L) w g' w') (hs:KS g' s' w') :
  Ext g w { g' with kept:=g.kept } w'∧Yg { g' with kept:=g.kept } ν w' tmps ρ L s':=by
 have hext:Ext g w { g' with kept:=g.kept } w' :=
  ⟨hx.size,hx.prot,hx.cell,hx.hdr,fun b hb=>hx.kept b (.inl hb),fun b hb=>hx.keptProt b (.inl hb),rfl,hx.os,hx.output,hx.tape⟩
 refine ⟨hext,⟨⟨fun b o ho=>Zj7 (hs.obj b o ho) rfl,fun b o ho hk=>hs.kept b o ho (by rw [hx.keptEq]; exact .inl hk),fun b hb=>⟨(hs.fresh b hb).1,fun hk=>(hs.fresh b hb).2 (by rw [hx.keptEq]; exact .inl hk)⟩⟩,?_,m.locKept,?_,m.inj,?_⟩⟩
 ·intro l cs hl
  exact (m.loc l cs hl).mono hext (hx.kept _ (.inr ⟨l,cs,hl,rfl⟩)) (hx.keptProt _ (.inr ⟨l,cs,hl,rfl⟩))
 ·intro l cs hl
  cases hsl:s' (ν l) with
  | none=>rfl
  | some o=>exact absurd (by rw [hx.keptEq]; exact .inr ⟨l,cs,hl,rfl⟩) (hs.kept _ o hsl)
 ·intro t e he
  exact (m.env t e he).mono hext
theorem Zrl {op:Op} {f:Opd} {xs:List Opd} (h:ck P op=some (.call f xs)):∃ f' args ats,op = .call ⟨.value f',args,ats⟩∧WQ f'=some f∧Zcc args.toList=some xs:=by
 unfold ck at h
 split at h
 ·simp at h
 ·split at h <;> (try (simp at h; done))
  all_goals (try (repeat' (split at h <;> (try (simp at h; done)))))
  simp only [Zuu,K.call.injEq] at h
  obtain ⟨rfl,rfl⟩:=h
  rename_i c _ _ f' hcal _ _ f xs hf hxs
  obtain ⟨callee,args,ats⟩:=c
  simp only at hcal
  exact ⟨f',args,ats,by rw [hcal],hf,hxs⟩
theorem Zqo {op:Op} {x:Opd} (h:ck P op=some (.panic x)):∃ x',op = .panic x'∧WQ x'=some x:=by
 unfold ck at h
 split at h
 ·simp at h
 ·split at h <;> (try (simp at h; done))
  all_goals (try (repeat' (split at h <;> (try (simp at h; done)))))
  simp only [ZuC,K.panic.injEq,exists_eq_right] at h
  exact ⟨_,rfl,h⟩
def ZeZ (P:Program):Next→Option Frame
 | .enter f args=>some (Frame.enter P f args .normal)
 | .round l f tmps a b=>some (Frame.round l f tmps a b .normal)
 | _=>none
def ZrR (P:Program) (m:Machine) (c:Frame) (cs:List Frame) (e:Ending) (w':World):Prop :=
 match e with
 | .returned v=>Steps P m (lone (c.finish v) cs w')
 | .panicked ch=>Steps P m (lone (c.raise ch) cs w')
 | .outgrown=>False
def J0 (P:Program) (f:D) (args:List D) (s:St) (Φ:Res→St→Prop):Prop :=
 ∀ g w fv (vs:List Value),KS g s w→Rep g w fv f→Wh (Rep g w) vs args →
  ∃ d nx fr,(Deferred.ofValue fv vs.toArray).run P w = .ok d w∧(invoke d.target d.args).run P w = .ok nx w∧ZeZ P nx=some fr ∧
   ∀ c cs,∃ e w',Zfo g w Φ e w'∧ZrR P (lone fr (c :: cs) w) c cs e w'
theorem J0.mono {f:D} {args:List D} {s:St} {Φ Φ':Res→St→Prop} (h:J0 P f args s Φ) (hp:∀ r s',Φ r s'→Φ' r s'):J0 P f args s Φ':=by
 intro g w fv vs h1 h2 h3
 obtain ⟨d,nx,fr,a1,a2,a3,a4⟩:=h g w fv vs h1 h2 h3
 refine ⟨d,nx,fr,a1,a2,a3,fun c cs=>?_⟩
 obtain ⟨e,w',⟨g',s',r,b1,b2,b3,b4⟩,hb⟩:=a4 c cs
 exact ⟨e,w',⟨g',s',r,b1,b2,b3,hp _ _ b4⟩,hb⟩
theorem Yf.V {f:FuncId} {first args caps:List D} {s:St} {Φ:Res→St→Prop} (h:Yf P f (first++args++caps) s Φ):J0 P (.fn (.func f) first caps) args s Φ:=by
 intro g w fv vs hs hf ha
 cases hf with
 | fn _ fs cs' _ _ hn1 hn2 h1 h2 =>
 obtain ⟨⟨fn,hfn1,hfn2,hfn3⟩,hcall⟩:=h
 have hall:Wh (Rep g w) (fs++vs++cs') (first++args++caps):=((K5 hn1 h1).append ha).append (K5 hn2 h2)
 have hbody:fn.body.isNone=false:=by cases hb:fn.body <;> simp [hb] at hfn2 ⊢
 refine ⟨_,.enter f (fs++vs++cs').toArray,_,by simp [Deferred.ofValue]; rfl,?_,rfl,fun c cs=>?_⟩
 ·simp only [invoke,callFunc,Sem.run_bind,run_program,Result.andThen_ok,hfn1,hfn3,hbody,Bool.false_eq_true,if_false,Sem.run_pure]
  simp
 ·obtain ⟨e,w',fr,hp,hcomes,hfrf,hleave⟩:=hcall g w _ hs hall (c :: cs)
  refine ⟨e,w',hp,?_⟩
  cases e with
  | returned v=>exact Steps.trans hcomes (.one (step_leave_returned hleave))
  | panicked ch=>exact Steps.trans hcomes (.one (step_leave_panicked hleave))
  | outgrown =>
   obtain ⟨g',s',r,b1,b2,b3,b4⟩:=hp
   cases r <;> exact b3.elim
theorem ZbA {F:Fr P} {kp:Option (List Nat)} {dk:List Z4} {o:DOp} {os:List DOp} {ρ:Env} {L:Loc} {s:St} (hg:Yu ρ o.guard=some true) {fx:Opd} {xs:List Opd} (hk:o.k = .call fx xs)
  {p q:Prop} {f:D} {es:List E} {ds:List D} (hf:YW ρ true fx=some (q,.d f)) (ha:KT ρ true xs=some (p,es)) (hds:Q3 es=some ds) (hp:p) (hq:q)
  {Ψ:Res→St→Prop} (hc:J0 P f ds s Ψ)
  (hret:∀ d s',Ψ (.ret d) s'→DO F kp dk os (Wi ρ o.dst (.d d)) L s') (hpan:∀ d s',Ψ (.panic d) s'→QM F ρ L d s'):DO F kp dk (o :: os) ρ L s:=by
 refine Jt fun oo g ν w tmps ops i r k hoo hck hcg hdst hd hN m hr hkk=>?_
 have hw:=Qc m hcg hg
 have hnd:=Qw hck (by rw [hk]; rfl)
 rw [hk] at hck
 obtain ⟨f',args,ats,hop,hf',hxs⟩:=Zrl hck
 have hfr:Rep g w _ _:=K2 m hf' rfl hf hq F.ds
 have hargs:=Zar (Zen m rfl F.ds hxs ha hp) hds
 generalize hfv:(Act.mk tmps F.ds).eval f'=fv at hfr
 have hall:Wh (Rep (ZfT g ν L) w) (args.toList.map (Act.mk tmps F.ds).eval) ds:=K5 hargs.len (fun i a b hx hy=>Jp (hargs.get i a b hx hy) rfl)
 obtain ⟨d,nx,fr,hd1,hd2,hd3,hC⟩:=hc (ZfT g ν L) w fv _ m.callSt (Jp hfr rfl) hall
 have hmap:(Array.map (Act.mk tmps F.ds).eval args)=(args.toList.map (Act.mk tmps F.ds).eval).toArray:=by apply Array.ext'; simp
 have hrun:(execOp (Act.mk tmps F.ds).eval oo).run P w = .ok nx w:=by
  simp only [execOp,hop,resolve,hfv,hmap,Sem.run_bind,hd1,Result.andThen_ok,hd2]
 have henter:step P (lone (F.b.atR ⟨tmps,F.ds⟩ (.inRegion ops (i :: r) :: k)) F.cs w) =
   .next (lone fr (F.b.atR ⟨tmps,F.ds⟩ (.inRegion ops (i :: r) :: k) :: F.cs) w):=by
  refine step_lone_go ?_
  rw [stepGR_op hoo hw,Oper.semAt_eq _ _ _ hnd]
  cases nx <;> simp only [ZeZ,Zuu,reduceCtorEq] at hd3 <;> subst hd3 <;> simp [stepG.apply,hrun,Frame.atR]
 obtain ⟨e,w',⟨g',s',res,x1,x2,x3,x4⟩,hback⟩:=hC (F.b.atR ⟨tmps,F.ds⟩ (.inRegion ops (i :: r) :: k)) F.cs
 obtain ⟨hext,hm⟩:=m.afterCall x1 x2
 cases e with
 | returned v =>
  cases res with
  | panic d=>exact x3.elim
  | ret d =>
   have hfin:(F.b.atR ⟨tmps,F.ds⟩ (.inRegion ops (i :: r) :: k)).finish v=F.b.atR ((Act.mk tmps F.ds).put oo.dst v) (.inRegion ops r :: k):=by rw [Frame.finish_atR,hoo]; rfl
   have hsteps:Steps P (lone (F.b.atR ⟨tmps,F.ds⟩ (.inRegion ops (i :: r) :: k)) F.cs w) (lone (F.b.atR ((Act.mk tmps F.ds).put oo.dst v) (.inRegion ops r :: k)) F.cs w'):=by
    refine .head henter ?_
    rw [← hfin]; exact hback
   refine F.T.back _ _ _ _ hsteps ?_
   rw [hdst]
   obtain ⟨tmps',e1,e2,m'⟩:=ZfE hm hN hd (v:=v) (e:=.d d) (Jp x3 rfl) F.ds
   rw [e1]
   exact F.T.ext _ _ _ _ _ hext (hret d s' x4 ops r k hr hkk _ _ _ tmps' e2 m')
 | panicked ch =>
  cases res with
  | ret d=>exact x3.elim
  | panic d =>
   obtain ⟨v,rfl,hv⟩:=x3
   have hsteps:Steps P (lone (F.b.atR ⟨tmps,F.ds⟩ (.inRegion ops (i :: r) :: k)) F.cs w) (lone { F.b.atR ⟨tmps,F.ds⟩ (.inRegion ops (i :: r) :: k) with mode:=.panicking [{ v,recovered:=false }] } F.cs w'):=by
    refine .head henter ?_
    rw [← Frame.raise_atR]; exact hback
   refine F.T.back _ _ _ _ hsteps ?_
   exact F.T.ext _ _ _ _ _ hext (hpan d s' x4 _ _ _ v _ _ hN hm (Jp hv rfl))
 | outgrown=>exact hback.elim
theorem Yn {F:Fr P} {kp:Option (List Nat)} {dk:List Z4} {o:DOp} {os:List DOp} {ρ:Env} {L:Loc} {s:St} (hg:Yu ρ o.guard=some true) {fx:Opd} {xs:List Opd} (hk:o.k = .call fx xs)
  {p q:Prop} {f:FuncId} {first caps:List D} {es:List E} {ds:List D} (hf:YW ρ true fx=some (q,.d (.fn (.func f) first caps))) (ha:KT ρ true xs=some (p,es)) (hds:Q3 es=some ds) (hp:p) (hq:q)
  {Ψ:Res→St→Prop} (hc:Yf P f (first++ds++caps) s Ψ)
  (hret:∀ d s',Ψ (.ret d) s'→DO F kp dk os (Wi ρ o.dst (.d d)) L s') (hpan:∀ d s',Ψ (.panic d) s'→QM F ρ L d s'):DO F kp dk (o :: os) ρ L s :=
 ZbA hg hk hf ha hds hp hq hc.V hret hpan
theorem Zp7 {F:Fr P} {kp:Option (List Nat)} {dk:List Z4} {o:DOp} {os:List DOp} {ρ:Env} {L:Loc} {s:St} (hg:Yu ρ o.guard=some true) {x:Opd} (hk:o.k = .panic x)
  {p:Prop} {t:TypeId} {d:D} (ha:YW ρ true x=some (p,.d (.iface t d))) (hp:p) (h:QM F ρ L (.iface t d) s):DO F kp dk (o :: os) ρ L s:=by
 refine Jt fun oo g ν w tmps ops i r k hoo hck hcg hdst hd hN m hr hkk=>?_
 have hw:=Qc m hcg hg
 have hnd:=Qw hck (by rw [hk]; rfl)
 rw [hk] at hck
 obtain ⟨x',hop,hx'⟩:=Zqo hck
 have hrep:Rep g w _ _:=K2 m hx' rfl ha hp F.ds
 generalize hv:(Act.mk tmps F.ds).eval x'=v at hrep
 have hrun:(execOp (Act.mk tmps F.ds).eval oo).run P w = .halt (.panic v) w:=by
  cases hrep
  simp [execOp,hop,hv,Instr.panic]
 refine F.T.back _ _ _ _ (.one (step_lone_go (fr':={ F.b.atR ⟨tmps,F.ds⟩ (.inRegion ops (i :: r) :: k) with mode:=.panicking [{ v,recovered:=false }] }) (cs':=F.cs) (w':=w) ?_)) (h g ν w v _ _ hN m hrep)
 rw [stepGR_op hoo hw,Oper.semAt_eq _ _ _ hnd]
 rw [← Frame.raise_atR]
 simp [stepG.apply,hrun]
end
end Go.DL
namespace Go.DL
open Go
section
variable {P:Program}
def Zbo:D→Option Value
 | .int k n=>some (.int k n)
 | .bool b=>some (.bool b)
 | .str l=>some (.string ⟨l.toArray⟩)
 | .nilsl=>some (.slice none 0 0)
 | .nilptr=>some (.pointer none)
 | .ptr b o=>some (.pointer (some ⟨b,o,none⟩))
 | .map b=>some (.map (some b))
 | .nilmap=>some (.map none)
 | .nilfn=>some .nilFunc
 | .niliface=>some .nilIface
 | _=>none
def Zgq:List D→Option (List Value)
 | []=>some []
 | d :: r=>match Zbo d,Zgq r with
  | some v,some vs=>some (v :: vs)
  | _,_=>none
theorem Zoa {g:G} {w:World} {v v':Value} {d:D} (h:Rep g w v d) (hv:Zbo d=some v'):v=v':=by
 cases h <;> simp only [Zbo,Zuu,reduceCtorEq] at hv <;> (try exact hv)
 rename_i s l h hb
 rw [← hv]
 cases s
 simp only at h
 rw [← h]
theorem Zh2 {g:G} {w:World}:∀ {vs vs':List Value} {ds:List D},Wh (Rep g w) vs ds→Zgq ds=some vs'→vs=vs'
 | _,_,_,.nil,h=>by simp only [Zgq,Zuu] at h; exact h
 | _,_,_,.cons h1 h2,h=>by
  simp only [Zgq] at h
  split at h <;> simp only [Zuu,reduceCtorEq] at h
  rename_i v vs e1 e2
  rw [← h,Zoa h1 e1,Zh2 h2 e2]
def Zhf:D→Prop
 | .int k n=>inR k n
 | .str l=>l.length≤big
 | d=>(Zbo d).isSome=true
def ZeH:List D→Prop
 | []=>True
 | d :: r=>Zhf d∧ZeH r
theorem Zlm {d:D} (h:Zhf d):∃ v,Zbo d=some v∧v.one1=true∧∀ g w,Rep g w v d:=by
 cases d <;> simp only [Zhf,Zbo,Option.isSome_none,Bool.false_eq_true] at h
 ·exact ⟨_,rfl,rfl,fun g w=>.int _ _ h⟩
 ·exact ⟨_,rfl,rfl,fun g w=>.bool _⟩
 ·exact ⟨_,rfl,rfl,fun g w=>.str _ _ rfl h⟩
 ·exact ⟨_,rfl,rfl,fun g w=>.nilsl⟩
 ·exact ⟨_,rfl,rfl,fun g w=>.nilptr⟩
 ·exact ⟨_,rfl,rfl,fun g w=>.ptr _ _⟩
 ·exact ⟨_,rfl,rfl,fun g w=>.map _⟩
 ·exact ⟨_,rfl,rfl,fun g w=>.nilmap⟩
 ·exact ⟨_,rfl,rfl,fun g w=>.nilfn⟩
 ·exact ⟨_,rfl,rfl,fun g w=>.niliface⟩
theorem ZcA:∀ {ds:List D},ZeH ds→∃ vs,Zgq ds=some vs∧(∀ v∈vs,v.one1=true)∧∀ g w,Wh (Rep g w) vs ds
 | [],_=>⟨[],rfl,by simp,fun g w=>.nil⟩
 | d :: r,h=>by
  obtain ⟨v,h1,h2,h3⟩:=Zlm h.1
  obtain ⟨vs,g1,g2,g3⟩:=ZcA h.2
  exact ⟨v :: vs,by simp [Zgq,h1,g1],by simp only [List.mem_cons,forall_eq_or_imp]; exact ⟨h2,g2⟩,fun g w=>.cons (h3 g w) (g3 g w)⟩
inductive DD where
 | mark (q:Nat)
 | fn (i:FuncId) (args caps:List D)
def DD.def:DD→Deferred
 | .mark q=>{ target:=.collected q,args:=#[] }
 | .fn i args caps=>{ target:=.fn (.func i) ((Zgq caps).getD []).toArray,args:=((Zgq args).getD []).toArray }
def Zb7 (g:G) (w:World) (m:FrameMode):Option D→Prop
 | none=>m = .returning
 | some d=>∃ v,m = .panicking [{ v,recovered:=false }]∧Rep g w v d
def Zdc (P:Program) (i:FuncId) (args:List D) (pd:Option D) (s:St) (Ψ:Bool→St→Prop):Prop :=
 (∃ fn,P.funcs[i]? = some fn∧fn.body.isSome=true∧(fn.name == "runtime.NumGoroutine")=false) ∧
 ∀ g w (vs:List Value) (cf:Frame) (cs:List Frame),KS g s w→Wh (Rep g w) vs args→Zb7 g w cf.mode pd →
  ∃ g' w' s' b,Ext g w g' w'∧KS g' s' w'∧Ψ b s' ∧
   Steps P (lone (Frame.enter P i vs.toArray .deferred) (cf :: cs) w) (lone { cf with mode:=if b then .returning else cf.mode } cs w')
def Unw (P:Program):List DD→Option D→St→(Option D→St→Prop)→Prop
 | [],m,s,Ψ=>Ψ m s
 | .mark q :: r,m,s,Ψ=>s q=some .dfr∧Unw P r m (s.del q) Ψ
 | .fn i args caps :: r,m,s,Ψ=>ZeH args∧ZeH caps∧Zdc P i (args++caps) m s fun b s'=>Unw P r (if b then none else m) s' Ψ
theorem ZcO {g:G} {w:World} (b:Nat) (o:Obj) (hb:hdr w b=none) (hp:g.prot b=0) (hk:¬ g.kept b):Ext g w g { w with heap:=w.heap.setIfInBounds b o } where
 size:=by simp
 prot _:=ZuO _
 cell b' o' ho:=by
  by_cases h:b'=b
  ·subst h; omega
  ·exact ZbF (by simp [Array.getElem?_setIfInBounds,Ne.symm h])
 hdr b' x hx:=by
  by_cases h:b'=b
  ·subst h; rw [hb] at hx; simp at hx
  ·rw [Zb5 (w:=w) (by simp [Array.getElem?_setIfInBounds,Ne.symm h])]; exact hx
 kept b' hb':=by
  have h:b'≠b:=fun h=>hk (h ▸ hb')
  simp [Array.getElem?_setIfInBounds,Ne.symm h]
 keptProt _ _:=rfl
 keptEq:=rfl
 os:=rfl
 output:=rfl
 tape:=rfl
theorem Yg.drop {g:G} {ν:Nat→Nat} {w w':World} {tmps:Array Value} {ρ:Env} {L:Loc} {s:St} (m:Yg g ν w tmps ρ L s) {b:Nat} {o:KC} (hb:s b=some o) (he:Ext g w g w') (hsz:w'.heap.size=w.heap.size)
  (hoth:∀ c,c≠b→w'.heap[c]? = w.heap[c]?):Yg g ν w' tmps ρ L (s.del b):={
 st:=⟨fun c x hx=>by
    simp only [St.del] at hx
    by_cases hc:c=b
    ·simp [hc] at hx
    ·simp only [hc,if_false] at hx; exact (m.st.obj c x hx).mono he (hoth c hc) rfl,
   fun c x hx=>by
    simp only [St.del] at hx
    by_cases hc:c=b
    ·simp [hc] at hx
    ·simp only [hc,if_false] at hx; exact m.st.kept c x hx,
   fun c hc=>m.st.fresh c (by omega)⟩
 loc l cs hl:=(m.loc l cs hl).mono he (hoth _ (fun h=>by have:=m.locSt l cs hl; rw [h,hb] at this; simp at this)) rfl
 locKept:=m.locKept
 locSt l cs hl:=by
  simp only [St.del]
  split
  ·rfl
  ·exact m.locSt l cs hl
 inj:=m.inj
 env t e ht:=(m.env t e ht).mono he }
theorem ZpX {fr:Frame} {cs:List Frame} {w:World} {q:Nat} {ds:List Deferred} {args:Array Value} (hm:fr.mode≠.run) (hd:fr.defers={ target:=.collected q,args } :: ds) (hq:w.heap[q]? = some (.deferred (some []))) :
  step P (lone fr cs w) = .next (lone { fr with defers:=ds } cs { w with heap:=w.heap.setIfInBounds q (.deferred none) }):=by
 have hrun:(Instr.takeDeferred q).run P w = .ok [] { w with heap:=w.heap.setIfInBounds q (.deferred none) }:=by
  simp [Instr.takeDeferred,getObj,setObj,Sem.run,hq,Result.andThen]
 refine step_lone_go ?_
 cases hmode:fr.mode with
 | run=>exact absurd hmode hm
 | returning=>simp [stepG,unwind,hmode,hd,Sem.runT_eq,hrun]
 | panicking chain=>simp [stepG,unwind,hmode,hd,Sem.runT_eq,hrun]
theorem Zj2 {g:G} {w:World} {m:FrameMode} {o:Option D} (h:Zb7 g w m o):m≠.run:=by
 cases o with
 | none=>simp only [Zb7] at h; rw [h]; simp
 | some d=>obtain ⟨v,h,_⟩:=h; rw [h]; simp
theorem Zj1 {g g':G} {w w':World} {m:FrameMode} {o:Option D} (h:Zb7 g w m o) (he:Ext g w g' w'):Zb7 g' w' m o:=by
 cases o with
 | none=>exact h
 | some d=>obtain ⟨v,h,hr⟩:=h; exact ⟨v,h,hr.mono he⟩
theorem ZhD {Ψ:Option D→St→Prop}:∀ (dds:List DD) {m:Option D} {s:St},Unw P dds m s Ψ→∀ {g:G} {ν:Nat→Nat} {w:World} {ρ:Env} {L:Loc} {fr:Frame} {cs:List Frame},Yg g ν w fr.tmps ρ L s→fr.defers=dds.map DD.def→Zb7 g w fr.mode m →
  ∃ g' w' m' s' md,Ext g w g' w'∧Yg g' ν w' fr.tmps ρ L s'∧Ψ m' s'∧Zb7 g' w' md m'∧Steps P (lone fr cs w) (lone { fr with defers:=[],mode:=md } cs w')
 | [],m,s,h,g,ν,w,ρ,L,fr,cs,M,hd,hm=>by
  refine ⟨g,w,m,s,fr.mode,Ext.refl g w,M,h,hm,?_⟩
  have:({ fr with defers:=[],mode:=fr.mode }:Frame)=fr:=by cases fr; simp only at hd; subst hd; rfl
  rw [this]; exact Steps.refl P _
 | .mark q :: r,m,s,h,g,ν,w,ρ,L,fr,cs,M,hd,hm=>by
  obtain ⟨hq,hu⟩:=h
  obtain ⟨hp0,hh⟩:=M.st.obj q _ hq
  have he:=ZcO (g:=g) (w:=w) q (.deferred none) (by simp [hdr,hh]) hp0 (M.st.kept q _ hq)
  have M':=M.drop hq he (by simp) (fun c hc=>Za5 _ hc)
  obtain ⟨g',w',m',s',md,a1,a2,a3,a4,a5⟩:=ZhD r hu (fr:={ fr with defers:=r.map DD.def }) (cs:=cs) M' rfl (Zj1 hm he)
  exact ⟨g',w',m',s',md,he.trans a1,a2,a3,a4,.head (ZpX (Zj2 hm) hd hh) a5⟩
 | .fn i args caps :: r,m,s,h,g,ν,w,ρ,L,fr,cs,M,hd,hm=>by
  obtain ⟨hr1,hr2,⟨fn,hfn1,hfn2,hfn3⟩,hc⟩:=h
  obtain ⟨as9,ha1,_,ha2⟩:=ZcA hr1
  obtain ⟨vs,hv1,_,hv2⟩:=ZcA hr2
  have hm':Zb7 (ZfT g ν L) w ({ fr with defers:=r.map DD.def }:Frame).mode m:=by
   cases m with
   | none=>exact hm
   | some d=>obtain ⟨v,h1,h2⟩:=hm; exact ⟨v,h1,Jp h2 rfl⟩
  obtain ⟨g1,w1,s1,b,x1,x2,x3,x4⟩:=hc (ZfT g ν L) w (as9++vs) { fr with defers:=r.map DD.def } cs M.callSt ((ha2 _ _).append (hv2 _ _)) hm'
  obtain ⟨hext,hm1⟩:=M.afterCall x1 x2
  have hbody:fn.body.isNone=false:=by cases hb:fn.body <;> simp [hb] at hfn2 ⊢
  have hstep:step P (lone fr cs w) = .next (lone (Frame.enter P i (as9++vs).toArray .deferred) ({ fr with defers:=r.map DD.def } :: cs) w):=by
   refine step_defer (d:=DD.def (.fn i args caps)) (fv:=.func i) (cap:=vs.toArray) (Zj2 hm) hd (by simp [DD.def,hv1]) ?_
   simp only [DD.def,hv1,ha1,Option.getD_some,invoke,callFunc,Sem.run_bind,run_program,Result.andThen_ok,hfn1,hfn3,hbody,Bool.false_eq_true,if_false,Sem.run_pure]
   simp
  have hmd:Zb7 { g1 with kept:=g.kept } w1 (if b then .returning else fr.mode) (if b then none else m):=by
   cases b
   ·simp only [Bool.false_eq_true,if_false]; exact Zj1 hm hext
   ·rfl
  obtain ⟨g',w',m',s',md,a1,a2,a3,a4,a5⟩:=ZhD r x3 (fr:={ fr with defers:=r.map DD.def,mode:=if b then .returning else fr.mode }) (cs:=cs) hm1 rfl hmd
  exact ⟨g',w',m',s',md,hext.trans a1,a2,a3,a4,.head hstep (Steps.trans x4 a5)⟩
def Ql {P:Program} (F:Fr P) (rs:List RV) (Φ:Res→St→Prop) (dds:List DD):Prop :=
 ∃ an f df cs,cf P an f=some df∧rs=df.res∧F={ ZjR P an f df.n cs Φ with ds:=dds.map DD.def }
theorem St.sub_refl (s:St):s.sub s:=fun _ _ h=>h
def Zji (ρ:Env) (L:Loc) (rs:List RV) (Φ:Res→St→Prop):Option D→St→Prop
 | none,s=>∃ p ds d s',QQ ρ L s rs=some (p,ds)∧p∧(J8 ds).Le d∧s'.sub s∧Φ (.ret d) s'
 | some d,s=>∃ d' s',d.Le d'∧s'.sub s∧Φ (.panic d') s'
theorem Zms {an:Ann} {f:FuncId} {df:DF} (hf:cf P an f=some df) {cs:List Frame} {Φ:Res→St→Prop} {g:G} {ν:Nat→Nat} {w:World} {fr:Frame} {ρ:Env} {L:Loc} {s:St} {m:Option D} {dds:List DD} (hfn:fr.fn=f) (hkind:fr.kind = .normal)
  (M:Yg g ν w fr.tmps ρ L s) (hd:fr.defers=dds.map DD.def) (hm:Zb7 g w fr.mode m) (hu:Unw P dds m s (Zji ρ L df.res Φ)):(ZhP P f cs Φ).T g w (lone fr cs w):=by
 obtain ⟨g',w',m',s',md,a1,a2,a3,a4,a5⟩:=ZhD dds hu (cs:=cs) M hd hm
 unfold cf at hf
 split at hf <;> (try (simp at hf; done))
 rename_i fn hfn'
 split at hf <;> (try (simp at hf; done))
 split at hf <;> (try (simp at hf; done))
 split at hf <;> simp at hf
 rename_i rs d' hrs hd'
 subst hf
 cases m' with
 | none =>
  obtain ⟨p,ds,d,s2,h1,h2,h3,h4,h5⟩:=a3
  obtain ⟨v,hv1,hv2⟩:=Zkd a2 hrs h1 h2
  exact ⟨.returned v,w',_,a5,hfn,⟨a4,rfl,hkind,fn,by rw [← hfn'] ; exact congrArg _ hfn,hv1⟩,g',s2,.ret d,a1,a2.st.sub h4,h3 _ _ _ hv2,h5⟩
 | some d =>
  obtain ⟨d',s2,h1,h2,h3⟩:=a3
  obtain ⟨v,hv1,hv2⟩:=a4
  exact ⟨.panicked [{ v,recovered:=false }],w',_,a5,hfn,⟨hv1,rfl,fn,by rw [← hfn']; exact congrArg _ hfn⟩,g',s2,.panic d',a1,a2.st.sub h2,⟨v,rfl,h1 _ _ _ hv2⟩,h3⟩
theorem Ql.retU {F:Fr P} {rs:List RV} {Φ:Res→St→Prop} {dds:List DD} (hF:Ql F rs Φ dds) {dk:List Z4} {ρ:Env} {L:Loc} {s:St} (h:Unw P dds none s (Zji ρ L rs Φ)):ZT F (.code .ret :: dk) ρ L s:=by
 obtain ⟨an,f,df,cs,hf,rfl,rfl⟩:=hF
 intro k hk
 cases hk with
 | code hc ht =>
  obtain rfl:=Zpf hc
  intro g ν w tmps hN m
  refine (ZhP P f cs Φ).back _ _ _ _ (.one (stepR_ret rfl)) ?_
  exact Zms (m:=none) hf rfl rfl (dds:=dds) m rfl rfl h
theorem Ql.finU {F:Fr P} {rs:List RV} {Φ:Res→St→Prop} {dds:List DD} (hF:Ql F rs Φ dds) {ρ:Env} {L:Loc} {s:St} (h:Unw P dds none s (Zji ρ L rs Φ)):ZT F [] ρ L s:=by
 obtain ⟨an,f,df,cs,hf,rfl,rfl⟩:=hF
 intro k hk
 cases hk
 intro g ν w tmps hN m
 refine (ZhP P f cs Φ).back _ _ _ _ (.one (stepR_end rfl)) ?_
 exact Zms (m:=none) hf rfl rfl (dds:=dds) m rfl rfl h
theorem Ql.panU {F:Fr P} {rs:List RV} {Φ:Res→St→Prop} {dds:List DD} (hF:Ql F rs Φ dds) {ρ:Env} {L:Loc} {d:D} {s:St} (h:Unw P dds (some d) s (Zji ρ L rs Φ)):QM F ρ L d s:=by
 obtain ⟨an,f,df,cs,hf,rfl,rfl⟩:=hF
 intro g ν w v todo tmps hN m hr
 exact Zms (m:=some d) hf rfl rfl (dds:=dds) m rfl ⟨v,rfl,hr⟩ h
theorem Ql.ret {F:Fr P} {rs:List RV} {Φ:Res→St→Prop} (hF:Ql F rs Φ []) {dk:List Z4} {ρ:Env} {L:Loc} {s:St} {p:Prop} {ds:List D} (d:D) (s':St) (h1:QQ ρ L s rs=some (p,ds)) (h2:p) (h3:(J8 ds).Le d) (h4:s'.sub s) (h5:Φ (.ret d) s') :
  ZT F (.code .ret :: dk) ρ L s:=hF.retU ⟨p,ds,d,s',h1,h2,h3,h4,h5⟩
theorem Ql.fin {F:Fr P} {rs:List RV} {Φ:Res→St→Prop} (hF:Ql F rs Φ []) {ρ:Env} {L:Loc} {s:St} {p:Prop} {ds:List D} (d:D) (s':St) (h1:QQ ρ L s rs=some (p,ds)) (h2:p) (h3:(J8 ds).Le d) (h4:s'.sub s) (h5:Φ (.ret d) s') :
  ZT F [] ρ L s:=hF.finU ⟨p,ds,d,s',h1,h2,h3,h4,h5⟩
theorem Ql.pan {F:Fr P} {rs:List RV} {Φ:Res→St→Prop} (hF:Ql F rs Φ []) {ρ:Env} {L:Loc} {d:D} {s:St} (s':St) (h1:s'.sub s) (h2:Φ (.panic d) s'):QM F ρ L d s:=hF.panU ⟨d,s',Zux d,h1,h2⟩
theorem Z2 {an:Ann} {f:FuncId} {df:DF} (hf:cf P an f=some df) {args:List D} {s:St} {Φ:Res→St→Prop}
  (h:∀ F:Fr P,Ql F df.res Φ []→ZT F [.code df.body] (Zbs 0 args) [] s):Yf P f args s Φ :=
 ZlU hf fun cs=>h _ ⟨an,f,df,cs,hf,rfl,rfl⟩
end
end Go.DL
namespace Go.DL
open Go
def ZR (P:Program) (f:FuncId) (args:List D) (d:D):Prop:=∀ s,Yf P f args s fun r s'=>r = .ret d∧s'=s
theorem Z0 {P:Program} {an:Ann} {f:FuncId} {df:DF} (hf:cf P an f=some df) {args:List D} {d:D}
  (h:∀ (F:Fr P) (s:St),(∀ {dk:List Z4} {ρ:Env} {L:Loc} {s':St} {p:Prop} {ds:List D},QQ ρ L s' df.res=some (p,ds)→p→(J8 ds).Le d→s.sub s'→ZT F (.code .ret :: dk) ρ L s') →
   ZT F [.code df.body] (Zbs 0 args) [] s):ZR P f args d :=
 fun s=>Z2 hf fun F hF=>h F s fun h1 h2 h3 h4=>hF.ret d s h1 h2 h3 h4 ⟨rfl,rfl⟩
theorem ZW {P:Program} {F:Fr P} {kp:Option (List Nat)} {dk:List Z4} {o:DOp} {os:List DOp} {ρ:Env} {L:Loc} {s:St} (hg:Yu ρ o.guard=some true) {fx:Opd} {xs:List Opd} (hk:o.k = .call fx xs)
  {p q:Prop} {f:FuncId} {first caps:List D} {es:List E} {ds:List D} (hf:YW ρ true fx=some (q,.d (.fn (.func f) first caps))) (ha:KT ρ true xs=some (p,es)) (hds:Q3 es=some ds) (hp:p) (hq:q)
  {d:D} (hc:ZR P f (first++ds++caps) d) (h:DO F kp dk os (Wi ρ o.dst (.d d)) L s):DO F kp dk (o :: os) ρ L s :=
 Yn hg hk hf ha hds hp hq (hc s) (fun d' s' ⟨h1,h2⟩=>by simp only [Res.ret.injEq] at h1; subst h1; subst h2; exact h) (fun d' s' ⟨h1,_⟩=>by simp at h1)
end Go.DL
namespace Go.DL
open Go
section
variable {P:Program}
theorem ZrU {F:Fr P} {kp:Option (List Nat)} {dk:List Z4} {os:List DOp} {ρ ρ':Env} {L:Loc} {s:St} (h:∀ g ν w tmps,Yg g ν w tmps ρ L s→Yg g ν w tmps ρ' L s) (h':DO F kp dk os ρ' L s) :
  DO F kp dk os ρ L s:=fun ops is k hops hk g ν w tmps hN m=>h' ops is k hops hk g ν w tmps hN (h g ν w tmps m)
theorem Yg.headWhen {g:G} {ν:Nat→Nat} {w:World} {tmps:Array Value} {ρ:Env} {L:Loc} {s:St} {dst:Option Nat} {e:E} (m:Yg g ν w tmps (Wi ρ dst e) L s):Yg g ν w tmps (Wi ρ dst (.when true e)) L s:=by
 cases dst with
 | none=>exact m
 | some t =>
  refine { m with env:=fun u x hx=>?_ }
  simp only [Wi,WN] at hx
  by_cases h:t=u
  ·simp only [h,if_true,Zuu] at hx
   subst hx
   exact ⟨fun _=>m.env u e (by simp [Wi,WN,h]),fun h=>by simp at h⟩
  ·simp only [h,if_false] at hx
   exact m.env u x (by simp [Wi,WN,h,hx])
theorem Zbl {F:Fr P} {kp:Option (List Nat)} {dk:List Z4} {o:DOp} {os:List DOp} {ρ:Env} {L:Loc} {s:St} (hg:Yu ρ o.guard=some false) {e:E}
  (h:DO F kp dk os (Wi ρ o.dst (.when false e)) L s):DO F kp dk (o :: os) ρ L s:=by
 refine Jt fun oo g ν w tmps ops i r k hoo hck hcg hdst hd hN m hr hkk=>?_
 exact Zcd (P:=P) hN m hoo hdst hd (Qc m hcg hg) (h ops r k hr hkk)
theorem KA {F:Fr P} {kp:Option (List Nat)} {dk:List Z4} {o:DOp} {os:List DOp} {ρ:Env} {L:Loc} {s:St} {c:Bool} (hg:Yu ρ o.guard=some c) {fx:Opd} {xs:List Opd} (hk:o.k = .call fx xs)
  {p q:Prop} {f:FuncId} {first caps:List D} {es:List E} {ds:List D} (hf:YW ρ c fx=some (q,.d (.fn (.func f) first caps))) (ha:KT ρ c xs=some (p,es)) (hds:Q3 es=some ds)
  {d:D} (hc:c=true→p∧q∧ZR P f (first++ds++caps) d) (h:DO F kp dk os (Wi ρ o.dst (.when c (.d d))) L s):DO F kp dk (o :: os) ρ L s:=by
 cases c
 ·exact Zbl hg h
 ·obtain ⟨h1,h2,h3⟩:=hc rfl
  exact ZW hg hk hf ha hds h1 h2 h3 (ZrU (fun g ν w tmps m=>m.headWhen) h)
theorem Yg.sub {g:G} {ν:Nat→Nat} {w:World} {tmps:Array Value} {ρ:Env} {L:Loc} {s s':St} (m:Yg g ν w tmps ρ L s) (hs:s'.sub s):Yg g ν w tmps ρ L s':={
 st:=m.st.sub hs
 loc:=m.loc
 locKept:=m.locKept
 locSt l cs hl:=by
  cases hx:s' (ν l) with
  | none=>rfl
  | some o=>have:=hs _ _ hx; rw [m.locSt l cs hl] at this; simp at this
 inj:=m.inj
 env:=m.env }
theorem Ku {F:Fr P} {dk:List Z4} {ρ:Env} {L:Loc} {s s':St} (hs:s'.sub s) (h:ZT F dk ρ L s'):ZT F dk ρ L s :=
 fun k hk g ν w tmps hN m=>h k hk g ν w tmps hN (m.sub hs)
end
end Go.DL
namespace Go.DL
open Go
inductive Sch (T:Tab):(Nat→Bool)→List Nat→Prop where
 | nil {l} (h:∀ i,i < T.length→l i=true):Sch T l []
 | cons {l i is} (hi:i < T.length) (hl:l i=false) (hd:∀ d∈T.deps i,l d=true) (t:Sch T (fun j=>j == i || l j) is):Sch T l (i :: is)
def YV (ρ ρ':Env) (ns:List Nat):Prop:=∀ t∈ns,WN ρ' t=WN ρ t
theorem Wo {ρ ρ':Env} {c:Bool} {x:Opd} (h:YV ρ ρ' (Kl x)):YW ρ' c x=YW ρ c x:=by
 cases x with
 | cst d=>rfl
 | tmp t=>simp only [YW,h t (by simp [Kl])]
theorem JI {ρ ρ':Env} {c:Bool}:∀ {xs:List Opd},YV ρ ρ' (ZcY xs)→KT ρ' c xs=KT ρ c xs
 | [],_=>rfl
 | x :: xs,h=>by
  have h1:YV ρ ρ' (Kl x):=fun t ht=>h t (by simp [ZcY]; exact .inl ht)
  have h2:YV ρ ρ' (ZcY xs):=fun t ht=>h t (by simp only [ZcY,List.flatMap_cons,List.mem_append]; exact .inr ht)
  simp only [KT,Wo h1,JI h2]
theorem Jm {ρ ρ':Env} {g:Option (Nat × Bool)} (h:YV ρ ρ' (ZdR g)):Yu ρ' g=Yu ρ g:=by
 cases g with
 | none=>rfl
 | some x=>obtain ⟨t,w⟩:=x; simp only [Yu,h t (by simp [ZdR])]
theorem ZiD {ρ ρ':Env} {c:Bool} {x a b:Opd} (h:YV ρ ρ' (Kl x++Kl a++Kl b)):Ze0 ρ' c x a b=Ze0 ρ c x a b:=by
 have h1:YV ρ ρ' (Kl x):=fun t ht=>h t (by simp [ht])
 have h2:YV ρ ρ' (Kl a):=fun t ht=>h t (by simp [ht])
 have h3:YV ρ ρ' (Kl b):=fun t ht=>h t (by simp [ht])
 simp only [Ze0,Wo h1]
 split
 ·rw [Wo h2,Wo h3]
 ·rfl
theorem Zlv {L L':Loc} {s:St} {e:E} (h:∀ x o,e = .loc x o→ZU L' x=ZU L x):Js L' s e=Js L s e:=by
 cases e with
 | d v=>cases v <;> rfl
 | loc l o=>simp only [Js,h l o rfl]
 | when c e=>rfl
theorem ZlF {L L':Loc} {s:St} {n:Nat} {e:E} (h:∀ x o,e = .loc x o→ZU L' x=ZU L x):JE L' s n e=JE L s n e:=by
 cases e with
 | d v=>cases v <;> rfl
 | loc l o=>simp only [JE,h l o rfl]
 | when c e=>rfl
theorem ZmM {L L':Loc} {s:St} {q:Q} {es:List E} (h:ZcW (.q q [])=true→∀ x o,.loc x o∈es→ZU L' x=ZU L x):qv L' s q es=qv L s q es:=by
 by_cases hl:ZcW (.q q [])=true
 ·replace h:=h hl
  cases q <;> simp [ZcW] at hl
  ·match es with
   | [a]=>simp only [qv,Zlv (e:=a) fun x o ha=>h x o (by rw [ha]; exact List.mem_singleton_self _)]
   | []=>rfl
   | _ :: _ :: _=>rfl
  ·match es with
   | [a]=>simp only [qv,ZlF (e:=a) fun x o ha=>h x o (by rw [ha]; exact List.mem_singleton_self _)]
   | []=>rfl
   | _ :: _ :: _=>rfl
 ·clear h
  unfold qv
  split <;> first | rfl | (exfalso; exact hl rfl) | skip
def Zam:K→Bool
 | .q _ _ | .pick _ _ _ | .bsl _ _ _ _ _ | .s2b _=>true
 | _=>false
theorem ZnO {o:DOp} {ρ ρ':Env} {L L':Loc} {s s1:St} {side:Prop} {ρ1:Env} {L1:Loc} (hst:Y8 o ρ L s = .ok side ρ1 L1 s1) (hs:side) (hgt:Yu ρ o.guard=some true) (hk:Zam o.k=true) (ha:YV ρ ρ' (YO o))
  (hl:ZcW o.k=true→∀ q xs p es,o.k = .q q xs→KT ρ true xs=some (p,es)→p→∀ x o,.loc x o∈es→ZU L' x=ZU L x):∃ e,ρ1=Wi ρ o.dst e∧L1=L∧s1=s∧Y8 o ρ' L' s = .ok side (Wi ρ' o.dst e) L' s:=by
 obtain ⟨dst,gd,k⟩:=o
 have hg:=Jm (g:=gd) (fun t ht=>ha t (by simp [YO,ht]))
 have hn:YV ρ ρ' (KX k):=fun t ht=>ha t (by simp [YO,ht])
 simp only at hgt
 unfold Y8 at hst ⊢
 simp only [hg,hgt] at hst ⊢
 cases k with
 | q q xs =>
  simp only at hst ⊢
  rw [JI hn]
  split at hst <;> (try (simp at hst; done))
  rename_i p es hes
  try simp only [hes]
  split at hst <;> (try (simp at hst; done))
  rename_i sd e hq
  have hp:p:=by
   split at hst <;> (simp only [SR.ok.injEq] at hst; obtain ⟨rfl,-,-,-⟩:=hst)
   ·exact hs.1
   ·exact (hs trivial).1
  have hqc:qv L' s q es=qv L s q es:=ZmM fun hld=>hl (by cases q <;> simp_all [ZcW]) q xs p es rfl hes hp
  simp only [hqc,hq]
  split at hst <;> (simp only [SR.ok.injEq] at hst; obtain ⟨rfl,rfl,rfl,rfl⟩:=hst)
  ·exact ⟨e,rfl,rfl,rfl,rfl⟩
  ·exact ⟨_,rfl,rfl,rfl,rfl⟩
 | pick x a b =>
  simp only at hst ⊢
  rw [ZiD hn]
  split at hst <;> (try (simp at hst; done))
  rename_i p v hp
  try simp only [hp]
  split at hst <;> (simp only [SR.ok.injEq] at hst; obtain ⟨rfl,rfl,rfl,rfl⟩:=hst)
  ·exact ⟨_,rfl,rfl,rfl,rfl⟩
  ·exact ⟨_,rfl,rfl,rfl,rfl⟩
 | bsl len n z is xs =>
  simp only at hst ⊢
  rw [JI hn]
  split at hst <;> (try (simp at hst; done))
  rename_i p es hes
  try simp only [hes]
  split at hst <;> (try (simp at hst; done))
  rename_i ds hds
  try simp only [hds]
  split at hst <;> (simp only [SR.ok.injEq] at hst; obtain ⟨rfl,rfl,rfl,rfl⟩:=hst)
  ·exact ⟨_,rfl,rfl,rfl,rfl⟩
  ·exact ⟨_,rfl,rfl,rfl,rfl⟩
 | s2b x =>
  simp only at hst ⊢
  rw [Wo hn]
  split at hst <;> (try (simp at hst; done))
  rename_i p l hl
  try simp only [hl]
  split at hst <;> (simp only [SR.ok.injEq] at hst; obtain ⟨rfl,rfl,rfl,rfl⟩:=hst)
  ·exact ⟨_,rfl,rfl,rfl,rfl⟩
  ·exact ⟨_,rfl,rfl,rfl,rfl⟩
 | _=>simp [Zam] at hk
theorem ZnP {o:DOp} {ρ:Env} {L:Loc} {s s1:St} {side:Prop} {ρ1:Env} {L1:Loc} (hst:Y8 o ρ L s = .ok side ρ1 L1 s1) (hgt:Yu ρ o.guard=some false) (hk:Zam o.k=true):∃ e,ρ1=Wi ρ o.dst (.when false e)∧L1=L∧s1=s:=by
 obtain ⟨dst,gd,k⟩:=o
 have hgn:∃ x,gd=some x:=by
  cases gd with
  | none=>simp [Yu] at hgt
  | some x=>exact ⟨x,rfl⟩
 obtain ⟨x,rfl⟩:=hgn
 simp only at hgt
 unfold Y8 at hst
 simp only [hgt] at hst
 cases k with
 | q q xs =>
  simp only at hst
  split at hst <;> (try (simp at hst; done))
  split at hst <;> (try (simp at hst; done))
  simp only [SR.ok.injEq] at hst; obtain ⟨rfl,rfl,rfl,rfl⟩:=hst
  exact ⟨_,rfl,rfl,rfl⟩
 | pick x a b =>
  simp only at hst
  split at hst <;> (try (simp at hst; done))
  simp only [SR.ok.injEq] at hst; obtain ⟨rfl,rfl,rfl,rfl⟩:=hst
  exact ⟨_,rfl,rfl,rfl⟩
 | bsl len n z is xs =>
  simp only at hst
  split at hst <;> (try (simp at hst; done))
  split at hst <;> (try (simp at hst; done))
  simp only [SR.ok.injEq] at hst; obtain ⟨rfl,rfl,rfl,rfl⟩:=hst
  exact ⟨_,rfl,rfl,rfl⟩
 | s2b x =>
  simp only at hst
  split at hst <;> (try (simp at hst; done))
  simp only [SR.ok.injEq] at hst; obtain ⟨rfl,rfl,rfl,rfl⟩:=hst
  exact ⟨_,rfl,rfl,rfl⟩
 | _=>simp [Zam] at hk
theorem Zf6 {s s':St} {L L':Loc}:∀ {B:List Rd},Jy s s' L L' B→(∀ b,.blk b∈B→s' b=s b)∧(∀ l,.loc l∈B→ZU L' l=ZU L l)
 | [],_=>⟨fun b h=>by simp at h,fun b h=>by simp at h⟩
 | .blk c :: B,h=>by
  obtain ⟨h1,h2⟩:=Zf6 h.2
  refine ⟨fun b hb=>?_,fun l hl=>h2 l (by simpa using hl)⟩
  rcases List.mem_cons.1 hb with hb | hb
  ·simp only [Rd.blk.injEq] at hb; subst hb; exact h.1
  ·exact h1 b hb
 | .loc c :: B,h=>by
  obtain ⟨h1,h2⟩:=Zf6 h.2
  refine ⟨fun b hb=>h1 b (by simpa using hb),fun l hl=>?_⟩
  rcases List.mem_cons.1 hl with hl | hl
  ·simp only [Rd.loc.injEq] at hl; subst hl; exact h.1
  ·exact h2 l hl
theorem Zfg (s:St) (L:Loc):∀ B,Jy s s L L B
 | []=>trivial
 | .blk _ :: B=>⟨rfl,Zfg s L B⟩
 | .loc _ :: B=>⟨rfl,Zfg s L B⟩
theorem ZdB (fl:Bool) (s:St) (L:Loc) (B:List Rd):Qx fl s s L L B:=by
 unfold Qx; split
 ·exact Zfg s L B
 ·trivial
theorem Zhe {o:DOp} {ρ ρ':Env} (h:YV ρ ρ' (YO o)):Qn o ρ'=Qn o ρ:=by
 obtain ⟨dst,gd,k⟩:=o
 have hg:=Jm (g:=gd) (fun t ht=>h t (by simp [YO,ht]))
 cases k with
 | q q xs =>
  have hn:YV ρ ρ' (ZcY xs):=fun t ht=>h t (by simp [YO,KX,ht])
  simp only [Qn,hg]
  split
  ·cases Yu ρ gd with
   | none=>rfl
   | some c=>simp only [JI hn]
  ·rfl
 | _=>rfl
theorem ZqN {L:Loc} {s s':St} {q:Q} {es:List E} (h:Jw (.q q [])=true→∀ e r,es=e :: r→∀ b,.blk b∈Za2 e→s' b=s b):qv L s' q es=qv L s q es:=by
 by_cases hl:Jw (.q q [])=true
 ·replace h:=h hl
  match es with
  | []=>cases q <;> simp [Jw] at hl <;> rfl
  | e :: r =>
   replace h:=h e r rfl
   have hc:∀ b o,e = .d (.ptr b o)→Zad s' b=Zad s b:=fun b o he=>by subst he; simp only [Zad,h b (by simp [Za2])]
   have hm:∀ b,e = .d (.map b)→ZaT s' b=ZaT s b:=fun b he=>by subst he; simp only [ZaT,h b (by simp [Za2])]
   cases q <;> simp [Jw] at hl
   ·cases r with
    | nil =>
     simp only [qv]
     congr 1
     cases e with
     | d v=>cases v <;> first | rfl | (simp only [Js]; rw [hc _ _ rfl])
     | _=>rfl
    | cons=>rfl
   ·cases r with
    | nil =>
     simp only [qv]
     congr 1
     cases e with
     | d v=>cases v <;> first | rfl | (simp only [JE]; rw [hc _ _ rfl])
     | _=>rfl
    | cons=>rfl
   ·match r with
    | [] =>
     cases e with
     | d v=>cases v <;> rfl
     | _=>rfl
    | [e2] =>
     cases e with
     | d v =>
      cases e2 with
      | d v2=>cases v <;> first | rfl | (simp only [qv]; rw [hm _ rfl])
      | _=>cases v <;> rfl
     | _=>cases e2 <;> rfl
    | e2 :: _ :: _ =>
     cases e with
     | d v=>cases v <;> (cases e2 <;> rfl)
     | _=>cases e2 <;> rfl
   ·cases r with
    | nil =>
     cases e with
     | d v=>cases v <;> first | rfl | (simp only [qv]; rw [hm _ rfl])
     | _=>rfl
    | cons =>
     cases e with
     | d v=>cases v <;> rfl
     | _=>rfl
 ·clear h
  cases q <;> first | (simp [Jw] at hl; done) | (unfold qv; rfl) | (unfold qv; split <;> first | rfl | (rename_i hx; cases hx))
theorem ZnQ {o:DOp} {ρ:Env} {L:Loc} {s s':St} {side:Prop} {ρ1:Env} (hst:Y8 o ρ L s = .ok side ρ1 L s) (hk:Zam o.k=true) (h:∀ b,.blk b∈Qn o ρ→s' b=s b):Y8 o ρ L s' = .ok side ρ1 L s':=by
 obtain ⟨dst,gd,k⟩:=o
 unfold Y8 at hst ⊢
 cases hg:Yu ρ gd with
 | none=>simp [hg] at hst
 | some c =>
 simp only [hg] at hst ⊢
 cases k with
 | q q xs =>
  simp only at hst ⊢
  split at hst <;> (try (simp at hst; done))
  rename_i p es hes
  have hqc:qv L s' q es=qv L s q es:=ZqN fun hl e r he b hb=>h b (by
   subst he
   have hl':Jw (.q q xs)=true:=by cases q <;> simp_all [Jw]
   simp only [Qn,hl',if_true,hg,hes]; exact hb)
  simp only [hqc]
  split at hst <;> (try (simp at hst; done))
  split at hst <;> (simp only [SR.ok.injEq] at hst; obtain ⟨rfl,rfl,-,-⟩:=hst; rfl)
 | pick x a b =>
  simp only at hst ⊢
  split at hst <;> (try (simp at hst; done))
  split at hst <;> (simp only [SR.ok.injEq] at hst; obtain ⟨rfl,rfl,-,-⟩:=hst; rfl)
 | bsl len n z is xs =>
  simp only at hst ⊢
  split at hst <;> (try (simp at hst; done))
  split at hst <;> (try (simp at hst; done))
  split at hst <;> (simp only [SR.ok.injEq] at hst; obtain ⟨rfl,rfl,-,-⟩:=hst; rfl)
 | s2b x =>
  simp only at hst ⊢
  split at hst <;> (try (simp at hst; done))
  split at hst <;> (simp only [SR.ok.injEq] at hst; obtain ⟨rfl,rfl,-,-⟩:=hst; rfl)
 | _=>simp [Zam] at hk
def ZdL (o:DOp) (x:Nat):Prop:=o.dst=some x∧∃ z,o.k = .alloc z
def Q2 (o:DOp) (ρ:Env) (L:Loc) (s:St) (B:List Rd):Prop :=
 (Zam o.k=true∧(∀ b∈Qn o ρ,b∈B)∧∃ side e,side∧Y8 o ρ L s = .ok side (Wi ρ o.dst e) L s∧∀ t,o.dst=some t→WN ρ t=some e) ∨
 (∃ t z,o=⟨some t,none,.alloc z⟩∧WN ρ t=some (.loc t 0)∧ZU L t=some z)
structure Inv (T:Tab) (ms:List Nat) (A rest:List Nat) (ρ:Env) (L:Loc) (s:St) (B:List Rd) (l:Nat→Bool) (ρ':Env) (L':Loc):Prop where
 closed:∀ i,i < T.length→l i=true→∀ d∈T.deps i,l d=true
 restN:∀ r∈rest,l r=false
 doneN:∀ i,i < T.length→i ∉ rest→i ∉ A→l i=true
 alt:∀ a∈A,a < T.length
 pair:∀ p∈A,∀ a∈A,(ms.getD p 0).testBit a=true∨nd (T.op a).dst (YO (T.op p))=true
 uniq:∀ p∈A,∀ a∈A,p≠a→ndd (T.op p).dst (T.op a).dst=true
 env:∀ t,WN ρ' t=WN ρ t∨∃ a∈A,l a=false∧(T.op a).dst=some t
 loc0:∀ a∈A,l a=false→∀ x,ZdL (T.op a) x→ZU L' x=none
 loc:∀ x,ZU L' x=ZU L x∨∃ a∈A,l a=false∧ZdL (T.op a) x
 pend:∀ a∈A,l a=false→Q2 (T.op a) ρ L s B
def ZgI (T:Tab) (ms:List Nat):Prop :=
 ∀ (l:Nat→Bool),(∀ i,i < T.length→l i=true→∀ d∈T.deps i,l d=true)→∀ i,i < T.length→(∀ d∈T.deps i,l d=true)→∀ a,(ms.getD i 0).testBit a=true→l a=true
theorem Q2.state {o:DOp} {ρ:Env} {L:Loc} {s s':St} {B:List Rd} (h:Q2 o ρ L s B) (hB:∀ b,.blk b∈Qn o ρ→s' b=s b):Q2 o ρ L s' B:=by
 rcases h with ⟨hk,hr,side,e,hs,hst,he⟩ | h
 ·exact .inl ⟨hk,hr,side,e,hs,ZnQ hst hk hB,he⟩
 ·exact .inr h
theorem Q2.more {o:DOp} {ρ:Env} {L:Loc} {s:St} {B B':List Rd} (h:Q2 o ρ L s B) (hB:∀ b∈Qn o ρ,b∈B→b∈B'):Q2 o ρ L s B':=by
 rcases h with ⟨hk,hr,h⟩ | h
 ·exact .inl ⟨hk,fun b hb=>hB b hb (hr b hb),h⟩
 ·exact .inr h
theorem ZnE {o:DOp} {ρ:Env} (h:Jw o.k=false):Qn o ρ=[]:=by
 obtain ⟨dst,gd,k⟩:=o
 cases k <;> simp only [Qn]
 rename_i q xs
 simp only at h
 simp [h]
section
variable {P:Program}
theorem ZkV {F:Fr P} {kp:Option (List Nat)} {dk:List Z4} {os:List DOp} {ρ:Env} {L:Loc} {s:St} (h:∀ g ν w tmps,Yg g ν w tmps ρ L s→DO F kp dk os ρ L s):DO F kp dk os ρ L s :=
 fun ops is k hops hk g ν w tmps hN m=>h g ν w tmps m ops is k hops hk g ν w tmps hN m
theorem ZiO {g:G} {ν:Nat→Nat} {w:World} {tmps:Array Value} {ρ:Env} {L:Loc} {s:St} (m:Yg g ν w tmps ρ L s):∀ {xs:List Opd} {p:Prop} {es:List E},KT ρ true xs=some (p,es)→p→∀ x o,.loc x o∈es→∃ cs,ZU L x=some cs
 | [],p,es,h,_,x,o,hx=>by simp only [KT,Zuu,Zuz] at h; obtain ⟨_,rfl⟩:=h; simp at hx
 | y :: ys,p,es,h,hp,x,o,hx=>by
  simp only [KT] at h
  split at h <;> simp only [Zuu,Zuz,reduceCtorEq] at h
  rename_i p1 e1 p2 es' h1 h2
  obtain ⟨rfl,rfl⟩:=h
  rcases List.mem_cons.1 hx with hx | hx
  ·subst hx
   cases y with
   | cst d=>simp [YW] at h1
   | tmp t =>
    simp only [YW] at h1
    split at h1
    ·rename_i c' e' he
     simp only [Zuu,Zuz] at h1
     obtain ⟨rfl,rfl⟩:=h1
     exact ((m.env t _ he).1 (by simpa using hp.1)).1
    ·rename_i e' _ he
     simp only [Zuu,Zuz] at h1
     obtain ⟨rfl,rfl⟩:=h1
     exact (m.env t _ he).1
    ·simp at h1
  ·exact ZiO m h2 hp.2 x o hx
theorem ZnW {F:Fr P} {kp:Option (List Nat)} {dk:List Z4} {o:DOp} {os:List DOp} {ρ ρ':Env} {L L':Loc} {s:St} {side:Prop} {e:E} (hst:Y8 o ρ L s = .ok side (Wi ρ o.dst e) L s) (hs:side) (hk:Zam o.k=true)
  (ha:YV ρ ρ' (YO o)) (hl:∀ x,ZU L' x=ZU L x∨ZU L' x=none) (h:DO F kp dk os (Wi ρ' o.dst e) L' s):DO F kp dk (o :: os) ρ' L' s:=by
 have hput:∀ e',Wi ρ o.dst e=Wi ρ o.dst e'→Wi ρ' o.dst e=Wi ρ' o.dst e':=fun e' h=>by
  cases hd:o.dst with
  | none=>rfl
  | some t=>simp only [hd,Wi,List.cons.injEq,Zuz,true_and,and_true] at h; rw [h]
 have hg:=Jm (g:=o.guard) (fun t ht=>ha t (by simp [YO,ht]))
 cases hc:Yu ρ o.guard with
 | none=>unfold Y8 at hst; simp [hc] at hst
 | some c =>
  cases c
  ·obtain ⟨e',h1,-,-⟩:=ZnP hst hc hk
   rw [hput _ h1] at h
   exact Zbl (by rw [hg,hc]) h
  ·refine ZkV fun g ν w tmps m=>?_
   obtain ⟨e',h1,-,-,h2⟩:=ZnO (ρ':=ρ') (L':=L') hst hs hc hk ha (fun hld q xs p es hkq hes hp x of hx=>by
    have hn:YV ρ ρ' (ZcY xs):=fun t ht=>ha t (by simp [YO,hkq,KX,ht])
    obtain ⟨cs,hcs⟩:=ZiO m (by rw [JI hn]; exact hes) hp x of hx
    rcases hl x with h | h
    ·exact h
    ·rw [h] at hcs; simp at hcs)
   rw [hput _ h1] at h
   exact Zek h2 hs h
end
end Go.DL
namespace Go.DL
open Go
theorem Zi1 {a b:Option Nat} (h:ndd a b=true):ndd b a=true:=by
 cases a <;> cases b <;> simp only [ndd,bne_iff_ne,ne_eq] at h ⊢
 exact fun h'=>h h'.symm
theorem Zg8 {a b:Option Nat} (h:ndd a b=true) {t:Nat} (ha:a=some t):b≠some t:=by
 subst ha
 cases b with
 | none=>simp
 | some u=>simp only [ndd,bne_iff_ne] at h; intro hb; simp only [Zuu] at hb; exact h hb.symm
theorem Zj5 {d:Option Nat} {l:List Nat} (h:nd d l=true) {t:Nat} (ht:d=some t):t ∉ l:=by
 subst ht; simpa [nd] using h
theorem Zcs {ρ:Env} {dst:Option Nat} {e:E} {ns:List Nat} (h:nd dst ns=true):YV ρ (Wi ρ dst e) ns:=by
 intro t ht
 cases dst with
 | none=>rfl
 | some u =>
  have:¬ u=t:=fun hu=>Zj5 h rfl (hu ▸ ht)
  simp [Wi,WN,this]
theorem Zcm (ρ:Env) (dst:Option Nat) (e:E) (t:Nat):WN (Wi ρ dst e) t=if dst=some t then some e else WN ρ t:=by
 cases dst with
 | none=>simp [Wi]
 | some u=>simp [Wi,WN]
theorem ZrE {L:Loc} {s:St} {q:Q} {es:List E} {r:Prop × E} (hq:qv L s q es=some r) (hl:ZcW (.q q [])=true) {x o:Nat} (hx:.loc x o∈es):∃ cs,ZU L x=some cs:=by
 cases q <;> simp [ZcW] at hl
 ·match es with
  | [a] =>
   simp only [List.mem_singleton] at hx
   subst hx
   simp only [qv,Js] at hq
   cases h:ZU L x with
   | none=>simp [h] at hq
   | some cs=>exact ⟨cs,rfl⟩
  | []=>simp at hx
  | _ :: _ :: _=>simp [qv] at hq
 ·match es with
  | [a] =>
   simp only [List.mem_singleton] at hx
   subst hx
   simp only [qv,JE] at hq
   cases h:ZU L x with
   | none=>simp [h] at hq
   | some cs=>exact ⟨cs,rfl⟩
  | []=>simp at hx
  | _ :: _ :: _=>simp [qv] at hq
theorem Zgm {o:DOp} {ρ ρ':Env} {L L':Loc} {s s1:St} {side:Prop} {ρ1:Env} {L1:Loc} (hst:Y8 o ρ L s = .ok side ρ1 L1 s1) (hk:Zam o.k=true) (ha:YV ρ ρ' (YO o))
  (hl:∀ x,.loc x∈Qn o ρ→ZU L' x=ZU L x):∃ e,ρ1=Wi ρ o.dst e∧L1=L∧s1=s∧Y8 o ρ' L' s = .ok side (Wi ρ' o.dst e) L' s:=by
 obtain ⟨dst,gd,k⟩:=o
 have hg:=Jm (g:=gd) (fun t ht=>ha t (by simp [YO,ht]))
 have hn:YV ρ ρ' (KX k):=fun t ht=>ha t (by simp [YO,ht])
 unfold Y8 at hst ⊢
 simp only [hg] at hst ⊢
 cases hc:Yu ρ gd with
 | none=>simp [hc] at hst
 | some c =>
 simp only [hc] at hst ⊢
 cases k with
 | q q xs =>
  simp only at hst ⊢
  rw [JI hn]
  split at hst <;> (try (simp at hst; done))
  rename_i p es hes
  try simp only [hes]
  split at hst <;> (try (simp at hst; done))
  rename_i sd e hq
  have hqc:qv L' s q es=qv L s q es:=ZmM fun hld x of hx=>by
   refine hl x ?_
   have hrd:Jw (.q q xs)=true:=by cases q <;> simp_all [ZcW,Jw]
   have hes1:es=[.loc x of]:=by
    have hq':∃ r,qv L s q es=some r:=⟨_,hq⟩
    cases q <;> simp [ZcW] at hld
    ·match es with
     | [a]=>simp only [List.mem_singleton] at hx; rw [hx]
     | []=>simp at hx
     | _ :: _ :: _=>simp [qv] at hq'
    ·match es with
     | [a]=>simp only [List.mem_singleton] at hx; rw [hx]
     | []=>simp at hx
     | _ :: _ :: _=>simp [qv] at hq'
   subst hes1
   simp only [Qn,hrd,if_true,hc,hes,Za2,List.mem_singleton]
  simp only [hqc,hq]
  split at hst <;> (simp only [SR.ok.injEq] at hst; obtain ⟨rfl,rfl,rfl,rfl⟩:=hst)
  ·exact ⟨e,rfl,rfl,rfl,rfl⟩
  ·exact ⟨_,rfl,rfl,rfl,rfl⟩
 | pick x a b =>
  simp only at hst ⊢
  rw [ZiD hn]
  split at hst <;> (try (simp at hst; done))
  rename_i p v hp
  try simp only [hp]
  split at hst <;> (simp only [SR.ok.injEq] at hst; obtain ⟨rfl,rfl,rfl,rfl⟩:=hst)
  ·exact ⟨_,rfl,rfl,rfl,rfl⟩
  ·exact ⟨_,rfl,rfl,rfl,rfl⟩
 | bsl len n z is xs =>
  simp only at hst ⊢
  rw [JI hn]
  split at hst <;> (try (simp at hst; done))
  rename_i p es hes
  try simp only [hes]
  split at hst <;> (try (simp at hst; done))
  rename_i ds hds
  try simp only [hds]
  split at hst <;> (simp only [SR.ok.injEq] at hst; obtain ⟨rfl,rfl,rfl,rfl⟩:=hst)
  ·exact ⟨_,rfl,rfl,rfl,rfl⟩
  ·exact ⟨_,rfl,rfl,rfl,rfl⟩
 | s2b x =>
  simp only at hst ⊢
  rw [Wo hn]
  split at hst <;> (try (simp at hst; done))
  rename_i p l hl
  try simp only [hl]
  split at hst <;> (simp only [SR.ok.injEq] at hst; obtain ⟨rfl,rfl,rfl,rfl⟩:=hst)
  ·exact ⟨_,rfl,rfl,rfl,rfl⟩
  ·exact ⟨_,rfl,rfl,rfl,rfl⟩
 | _=>simp [Zam] at hk
theorem Q2.mono {o:DOp} {ρ ρ1:Env} {L L1:Loc} {s:St} {B:List Rd} (h:Q2 o ρ L s B) (ha:YV ρ ρ1 (YO o)) (hd:∀ t,o.dst=some t→WN ρ1 t=WN ρ t)
  (hl:∀ x,.loc x∈Qn o ρ→ZU L1 x=ZU L x) (hal:∀ t,ZdL o t→ZU L1 t=ZU L t):Q2 o ρ1 L1 s B:=by
 rcases h with ⟨hk,hrd,side,e,hs,hst,he⟩ | ⟨t,z,rfl,h1,h2⟩
 ·left
  obtain ⟨e',h1,-,-,h2⟩:=Zgm hst hk ha hl
  refine ⟨hk,by rw [Zhe ha]; exact hrd,side,e',hs,h2,fun t ht=>?_⟩
  rw [hd t ht,he t ht]
  rw [ht] at h1
  simp only [Wi,List.cons.injEq,Zuz,true_and,and_true] at h1
  rw [h1]
 ·right
  exact ⟨t,z,rfl,by rw [hd t rfl]; exact h1,by rw [hal t ⟨rfl,z,rfl⟩]; exact h2⟩
theorem ZgL {o:DOp} {x:Nat} (h:ZdL o x):Zam o.k=false:=by
 obtain ⟨_,z,hz⟩:=h; rw [hz]; rfl
section
variable {P:Program}
theorem Zk7 {F:Fr P} {kp:Option (List Nat)} {dk:List Z4} {T:Tab} {ms:List Nat} {A rest:List Nat} {ρ:Env} {L:Loc} {l:Nat→Bool} {ρ':Env} {L':Loc} {s:St} {B:List Rd} {p:Nat} {os:List DOp}
  (hm:ZgI T ms) (inv:Inv T ms A rest ρ L s B l ρ' L') (hA:p∈A) (hdis:p ∉ rest) (hl:l p=false) (hdeps:∀ d∈T.deps p,l d=true)
  (h:∀ ρ2 L2,Inv T ms A rest ρ L s B (fun j=>j == p || l j) ρ2 L2→DO F kp dk os ρ2 L2 s):DO F kp dk (T.op p :: os) ρ' L' s:=by
 have hpn:=inv.alt p hA
 have hforced:=hm l inv.closed p hpn hdeps
 have hag:YV ρ ρ' (YO (T.op p)):=by
  intro t ht
  rcases inv.env t with h | ⟨a,ha,hla,hda⟩
  ·exact h
  ·exfalso
   rcases inv.pair p hA a ha with hb | hb
   ·rw [hforced a hb] at hla; simp at hla
   ·exact Zj5 hb hda ht
 have hloc:∀ x,ZU L' x=ZU L x∨ZU L' x=none:=fun x=>by
  rcases inv.loc x with h | ⟨a,ha,hla,hx⟩
  ·exact .inl h
  ·exact .inr (inv.loc0 a ha hla x hx)
 have hclosed:∀ i,i < T.length→(i == p || l i)=true→∀ d∈T.deps i,(d == p || l d)=true:=fun i hi hli d hd=>by
  simp only [ZuL,beq_iff_eq] at hli ⊢
  rcases hli with rfl | hli
  ·exact .inr (hdeps d hd)
  ·exact .inr (inv.closed i hi hli d hd)
 have hrestN:∀ r∈rest,(r == p || l r)=false:=fun r hr=>by
  simp only [Bool.or_eq_false_iff,beq_eq_false_iff_ne]
  exact ⟨fun h=>hdis (h ▸ hr),inv.restN r hr⟩
 have hdone:∀ i,i < T.length→i ∉ rest→i ∉ A→(i == p || l i)=true:=fun i hi h1 h2=>by simp [inv.doneN i hi h1 h2]
 have hl2:∀ a,(a == p || l a)=false→a≠p∧l a=false:=fun a ha=>by simpa using ha
 have hl2':∀ a,a≠p→l a=false→(a == p || l a)=false:=fun a ha h=>by simp [ha,h]
 rcases inv.pend p hA hl with ⟨hk,hrd,side,e,hs,hst,he⟩ | ⟨t,z,ho,h1,h2⟩
 ·refine ZnW hst hs hk hag hloc (h _ _ ?_)
  refine ⟨hclosed,hrestN,hdone,inv.alt,inv.pair,inv.uniq,fun t=>?_,fun a ha hla x hx=>inv.loc0 a ha (hl2 a hla).2 x hx,fun x=>?_,fun a ha hla=>inv.pend a ha (hl2 a hla).2⟩
  ·rw [Zcm]
   by_cases hd:(T.op p).dst=some t
   ·rw [if_pos hd]; exact .inl (he t hd).symm
   ·rw [if_neg hd]
    rcases inv.env t with h | ⟨a,ha,hla,hda⟩
    ·exact .inl h
    ·exact .inr ⟨a,ha,hl2' a (fun hap=>hd (hap ▸ hda)) hla,hda⟩
  ·rcases inv.loc x with h | ⟨a,ha,hla,hx⟩
   ·exact .inl h
   ·refine .inr ⟨a,ha,hl2' a (fun hap=>?_) hla,hx⟩
    have:=ZgL hx
    rw [hap,hk] at this; simp at this
 ·have hal:ZdL (T.op p) t:=⟨by rw [ho],z,by rw [ho]⟩
  have hnone:=inv.loc0 p hA hl t hal
  refine ZlW (o:=T.op p) (t:=t) (by rw [ho]) (by rw [ho]) (z:=z) (by rw [ho]) (by simp [Zff,hnone]) (h _ _ ?_)
  have hdp:(T.op p).dst=some t:=by rw [ho]
  refine ⟨hclosed,hrestN,hdone,inv.alt,inv.pair,inv.uniq,fun u=>?_,fun a ha hla x hx=>?_,fun x=>?_,fun a ha hla=>inv.pend a ha (hl2 a hla).2⟩
  ·simp only [WN]
   by_cases hd:t=u
   ·subst hd; simp [h1]
   ·simp only [hd,if_false]
    rcases inv.env u with h | ⟨a,ha,hla,hda⟩
    ·exact .inl h
    ·exact .inr ⟨a,ha,hl2' a (fun hap=>hd (by rw [hap,hdp] at hda; simpa using hda)) hla,hda⟩
  ·obtain ⟨hap,hla⟩:=hl2 a hla
   have:¬ t=x:=fun htx=>Zg8 (inv.uniq p hA a ha hap.symm) hdp (htx ▸ hx.1)
   simp only [ZU,this,if_false]
   exact inv.loc0 a ha hla x hx
  ·simp only [ZU]
   by_cases hd:t=x
   ·subst hd; simp [h2]
   ·simp only [hd,if_false]
    rcases inv.loc x with h | ⟨a,ha,hla,hx⟩
    ·exact .inl h
    ·exact .inr ⟨a,ha,hl2' a (fun hap=>hd (by have:=hx.1; rw [hap,hdp] at this; simpa using this)) hla,hx⟩
theorem Zq4 {F:Fr P} {kp:Option (List Nat)} {dk:List Z4} {T:Tab} {ms:List Nat} {A rest:List Nat} {ρ:Env} {L:Loc} {s:St} {B:List Rd} {i:Nat}
  (hm:ZgI T ms) (hi:i < T.length) (hdis:∀ p∈A,p ∉ i :: rest) (hready:∀ r∈rest,∃ d∈T.deps r,d∈i :: rest)
  (cb:∀ l ρ' L' is,Inv T ms A (i :: rest) ρ L s B l ρ' L'→(∀ d∈T.deps i,l d=true)→Sch T (fun j=>j == i || l j) is→DO F kp dk (T.op i :: is.map T.op) ρ' L' s)
  {l:Nat→Bool} {is:List Nat} (sch:Sch T l is):∀ {ρ':Env} {L':Loc},Inv T ms A (i :: rest) ρ L s B l ρ' L'→DO F kp dk (is.map T.op) ρ' L' s:=by
 induction sch with
 | nil h=>intro ρ' L' inv; have:=inv.restN i (by simp); rw [h i hi] at this; simp at this
 | @cons l p is hp hlp hd t ih =>
  intro ρ' L' inv
  by_cases hpi:p=i
  ·subst hpi; exact cb l ρ' L' is inv hd t
  ·by_cases hpr:p∈rest
   ·obtain ⟨d,hd1,hd2⟩:=hready p hpr
    have:=inv.restN d hd2
    rw [hd d hd1] at this; simp at this
   ·by_cases hpA:p∈A
    ·exact Zk7 hm inv hpA (hdis p hpA) hlp hd fun ρ2 L2 inv2=>ih inv2
    ·have:=inv.doneN p hp (by simp [hpi,hpr]) hpA
     rw [hlp] at this; simp at this
theorem ZiK {L L':Loc} (h:∀ x,ZU L' x=ZU L x):∀ ls,Zby L' ls=Zby L ls
 | []=>rfl
 | l :: ls=>by simp only [Zby,h l,ZiK h ls]
theorem Ziz {ρ ρ':Env} (h:∀ x,WN ρ' x=WN ρ x):∀ ks,QA ρ' ks=QA ρ ks
 | []=>rfl
 | k :: ks=>by simp only [QA,h k,Ziz h ks]
theorem ZpJ {F:Fr P} {ks:List Nat} {dk:List Z4} {T:Tab} {ms:List Nat} {A:List Nat} {ρ:Env} {L:Loc} {s:St} {B:List Rd} (hm:ZgI T ms)
  (h:ZT F dk (QA ρ ks) (ZcT (QA ρ ks) L) s) {l:Nat→Bool} {is:List Nat} (sch:Sch T l is):∀ {ρ':Env} {L':Loc},Inv T ms A [] ρ L s B l ρ' L'→DO F (some ks) dk (is.map T.op) ρ' L' s:=by
 induction sch with
 | nil hall =>
  intro ρ' L' inv
  have h1:∀ t,WN ρ' t=WN ρ t:=fun t=>by
   rcases inv.env t with h | ⟨a,ha,hla,_⟩
   ·exact h
   ·rw [hall a (inv.alt a ha)] at hla; simp at hla
  have h2:∀ t,ZU L' t=ZU L t:=fun t=>by
   rcases inv.loc t with h | ⟨a,ha,hla,_⟩
   ·exact h
   ·rw [hall a (inv.alt a ha)] at hla; simp at hla
  refine ZlY ?_
  show ZT F dk (QA ρ' ks) (ZcT (QA ρ' ks) L') s
  rw [Ziz h1]
  simp only [ZcT,ZiK h2]
  exact h
 | @cons l p is hp hlp hd t ih =>
  intro ρ' L' inv
  by_cases hpA:p∈A
  ·exact Zk7 hm inv hpA (by simp) hlp hd fun ρ2 L2 inv2=>ih inv2
  ·have:=inv.doneN p hp (by simp) hpA
   rw [hlp] at this; simp at this
def DOA (F:Fr P) (kp:Option (List Nat)) (dk:List Z4) (os:List (DOp × Bool)) (ρ:Env) (L:Loc) (s:St) (B:List Rd):Prop :=
 ∀ (T:Tab) ms fl A rest is l ρ' L',ZgI T ms→chk T ms fl A rest=true→(∀ p∈A,p ∉ rest)→os=rest.map (fun i=>(T.op i,fl.contains i))→Inv T ms A rest ρ L s B l ρ' L'→Sch T l is→DO F kp dk (is.map T.op) ρ' L' s
theorem ZnV {F:Fr P} {ks:List Nat} {dk:List Z4} {ρ:Env} {L:Loc} {s:St} {B:List Rd} (h:ZT F dk (QA ρ ks) (ZcT (QA ρ ks) L) s):DOA F (some ks) dk [] ρ L s B:=by
 intro T ms fl A rest is l ρ' L' hm hc hdis hos inv sch
 have hr:rest=[]:=by cases rest <;> simp at hos ⊢
 subst hr
 exact ZpJ hm h sch inv
theorem ZiJ {o:DOp} {ρ:Env} {L:Loc} {s s1:St} {side:Prop} {ρ1:Env} {L1:Loc} (hst:Y8 o ρ L s = .ok side ρ1 L1 s1) (hk:Zam o.k=true):∃ e,ρ1=Wi ρ o.dst e∧L1=L∧s1=s:=by
 obtain ⟨e,h1,h2,h3,_⟩:=Zgm (ρ':=ρ) (L':=L) hst hk (fun _ _=>rfl) (fun _ _=>rfl)
 exact ⟨e,h1,h2,h3⟩
theorem ZnN {o:DOp} {ρ:Env} {L:Loc} {s s1:St} {side:Prop} {ρ1:Env} {L1:Loc} {z:List D} (hst:Y8 o ρ L s = .ok side ρ1 L1 s1) (hk:o.k = .alloc z):∃ t,o=⟨some t,none,.alloc z⟩∧side=(Zff L t=false)∧ρ1=(t,.loc t 0) :: ρ∧L1=(t,z) :: L∧s1=s:=by
 obtain ⟨dst,gd,k⟩:=o
 simp only at hk
 subst hk
 unfold Y8 at hst
 cases hg:Yu ρ gd with
 | none=>simp [hg] at hst
 | some c =>
  simp only [hg] at hst
  split at hst <;> simp only [SR.ok.injEq,reduceCtorEq] at hst
  rename_i t
  obtain ⟨rfl,rfl,rfl,rfl⟩:=hst
  exact ⟨t,rfl,rfl,rfl,rfl,rfl⟩
theorem Zma {T:Tab} {ms fl A rest:List Nat} {i:Nat} (h:chk T ms fl A (i :: rest)=true) :
  i < T.length∧(∀ d∈T.deps i,d ∉ i :: rest)∧i ∉ rest∧(∀ a∈A,(ms.getD i 0).testBit a=true∨nd (T.op a).dst (YO (T.op i))=true) ∧
  ((Zfr T A i=true∧chk T ms fl (i :: A) rest=true) ∨
   (Zjr T (fl.contains i) (A.filter fun a=>!(ms.getD i 0).testBit a) rest i=true∧chk T ms fl (A.filter fun a=>!(ms.getD i 0).testBit a) rest=true∧Zfr T A i=false)):=by
 simp only [chk,ZuA,decide_eq_true_eq,List.all_eq_true,Bool.not_eq_true',List.contains_eq_mem,decide_eq_false_iff_not] at h
 obtain ⟨⟨⟨⟨h1,h2⟩,h3⟩,h4⟩,h5⟩:=h
 refine ⟨h1,h2,h3,fun a ha=>?_,?_⟩
 ·cases hb:(ms.getD i 0).testBit a
  ·exact .inr (h4 a (List.mem_filter.2 ⟨ha,by simp only [hb]; rfl⟩))
  ·exact .inl rfl
 ·split at h5
  ·rename_i hp; exact .inl ⟨hp,h5⟩
  ·rename_i hp; simp only [ZuA] at h5; exact .inr ⟨by simpa using h5.1,h5.2,by simpa using hp⟩
theorem Zir {T:Tab} {fl:Bool} {Zdi rest:List Nat} {i:Nat} (h:Zjr T fl Zdi rest i=true) :
  Zoo (T.op i).k=true∧(∀ r∈rest,∃ d∈T.deps r,d∈i :: rest) ∧
  ∀ a∈Zdi,nd (T.op i).dst (YO (T.op a))=true∧ndd (T.op i).dst (T.op a).dst=true∧(fl=false→Jw (T.op a).k=false):=by
 simp only [Zjr,ZuA,List.all_eq_true,List.any_eq_true,List.contains_eq_mem,decide_eq_true_eq,Bool.not_eq_true',ZuL] at h
 obtain ⟨⟨h1,h2⟩,h3⟩:=h
 refine ⟨h1,h2,fun a ha=>?_⟩
 obtain ⟨⟨h4,h5⟩,h6⟩:=h3 a ha
 refine ⟨h4,h5,fun hs=>?_⟩
 rw [hs] at h6; simpa using h6
theorem ZgQ {T:Tab} {A:List Nat} {i:Nat} (h:Zfr T A i=true) :
  Q0 (T.op i).k=true∧nd (T.op i).dst (YO (T.op i))=true∧∀ a∈A,nd (T.op i).dst (YO (T.op a))=true∧ndd (T.op i).dst (T.op a).dst=true:=by
 simp only [Zfr,ZuA,List.all_eq_true] at h
 exact ⟨h.1.1,h.1.2,h.2⟩
theorem Inv.bar {T:Tab} {ms A rest:List Nat} {ρ:Env} {L:Loc} {s s2:St} {B B2:List Rd} {l:Nat→Bool} {ρ':Env} {L':Loc} {i:Nat} (hm:ZgI T ms) (inv:Inv T ms A (i :: rest) ρ L s B l ρ' L') (hdis:∀ p∈A,p ∉ i :: rest) (hi:i < T.length)
  (hir:i ∉ rest) (hd:∀ d∈T.deps i,l d=true) (hf:∀ a∈A.filter (fun a=>!(ms.getD i 0).testBit a),nd (T.op i).dst (YO (T.op a))=true∧ndd (T.op i).dst (T.op a).dst=true) (e:E)
  {L2 L2':Loc} (hL:∀ x,ZU L' x=ZU L x→ZU L2' x=ZU L2 x) (h0:∀ x,ZU L' x=none→ZU L2' x=none)
  (hp:∀ a∈A.filter (fun a=>!(ms.getD i 0).testBit a),l a=false→Q2 (T.op a) ρ L s B→Q2 (T.op a) (Wi ρ (T.op i).dst e) L2 s2 B2) :
  Inv T ms (A.filter fun a=>!(ms.getD i 0).testBit a) rest (Wi ρ (T.op i).dst e) L2 s2 B2 (fun j=>j == i || l j) (Wi ρ' (T.op i).dst e) L2':=by
 have hforced:=hm l inv.closed i hi hd
 have hfree:∀ a∈A,l a=false→a∈A.filter fun a=>!(ms.getD i 0).testBit a:=fun a ha hla=>by
  refine List.mem_filter.2 ⟨ha,?_⟩
  cases hb:(ms.getD i 0).testBit a
  ·rfl
  ·rw [hforced a hb] at hla; simp at hla
 have hsub:∀ a∈A.filter (fun a=>!(ms.getD i 0).testBit a),a∈A:=fun a ha=>(List.mem_filter.1 ha).1
 have hl2:∀ a,(a == i || l a)=false→a≠i∧l a=false:=fun a ha=>by simpa using ha
 have hl2':∀ a∈A,l a=false→(a == i || l a)=false:=fun a ha h=>by
  have:a≠i:=fun hai=>hdis a ha (by simp [hai])
  simp [this,h]
 refine ⟨fun j hj hlj d hdj=>?_,fun r hr=>?_,fun j hj h1 h2=>?_,fun a ha=>inv.alt a (hsub a ha),fun p hp' a ha=>inv.pair p (hsub p hp') a (hsub a ha),fun p hp' a ha=>inv.uniq p (hsub p hp') a (hsub a ha),fun t=>?_,fun a ha hla x hx=>?_,
  fun x=>?_,fun a ha hla=>hp a ha (hl2 a hla).2 (inv.pend a (hsub a ha) (hl2 a hla).2)⟩
 ·simp only [ZuL,beq_iff_eq] at hlj ⊢
  rcases hlj with rfl | hlj
  ·exact .inr (hd d hdj)
  ·exact .inr (inv.closed j hj hlj d hdj)
 ·simp only [Bool.or_eq_false_iff,beq_eq_false_iff_ne]
  exact ⟨fun h=>hir (h ▸ hr),inv.restN r (by simp [hr])⟩
 ·by_cases hji:j=i
  ·simp [hji]
  ·by_cases hjA:j∈A
   ·cases hlj:l j
    ·exact absurd (hfree j hjA hlj) h2
    ·simp
   ·simp [inv.doneN j hj (by simp [hji,h1]) hjA]
 ·rw [Zcm,Zcm]
  by_cases ht:(T.op i).dst=some t
  ·simp [ht]
  ·simp only [ht,if_false]
   rcases inv.env t with h | ⟨a,ha,hla,hda⟩
   ·exact .inl h
   ·exact .inr ⟨a,hfree a ha hla,hl2' a ha hla,hda⟩
 ·exact h0 x (inv.loc0 a (hsub a ha) (hl2 a hla).2 x hx)
 ·rcases inv.loc x with h | ⟨a,ha,hla,hx⟩
  ·exact .inl (hL x h)
  ·exact .inr ⟨a,hfree a ha hla,hl2' a ha hla,hx⟩
theorem Q2.keep {o:DOp} {ρ:Env} {L L2:Loc} {s s2:St} {B:List Rd} {fl:Bool} (h:Q2 o ρ L s B) (hk:Qx fl s s2 L L2 B) (hf:fl=false→Jw o.k=false) (hal:∀ t,ZdL o t→ZU L2 t=ZU L t):Q2 o ρ L2 s2 (Jn fl B):=by
 cases fl
 ·have hr:=ZnE (ρ:=ρ) (hf rfl)
  exact ((h.state (s':=s2) (fun b hb=>by rw [hr] at hb; simp at hb)).more (fun b hb=>by rw [hr] at hb; simp at hb)).mono (fun _ _=>rfl) (fun _ _=>rfl) (fun x hx=>by rw [hr] at hx; simp at hx) hal
 ·have hm:=Zf6 (show Jy s s2 L L2 B from hk)
  rcases h with ⟨hq,hr,h'⟩ | h'
  ·exact ((Q2.state (s':=s2) (.inl ⟨hq,hr,h'⟩) (fun b hb=>hm.1 b (hr _ hb))).more (B':=Jn true B) (fun b _ hb=>hb)).mono (fun _ _=>rfl) (fun _ _=>rfl) (fun x hx=>hm.2 x (hr _ hx)) hal
  ·exact (Q2.more (B':=Jn true B) (s:=s2) (.inr h':Q2 o ρ L s2 B) (fun b _ hb=>hb)).mono (fun _ _=>rfl) (fun _ _=>rfl) (fun x hx=>by
    obtain ⟨t,z,rfl,_⟩:=h'
    simp [Qn] at hx) hal
theorem Zsj {L:Loc} {s:St} {q:Q} {es:List E} {r:Prop × E} (hq:qv L s q es=some r) {e:E} {es':List E} (he:es=e :: es') (hr:Jw (.q q [])=true) {x:Nat} (hx:.loc x∈Za2 e):∃ cs,ZU L x=some cs:=by
 subst he
 cases e with
 | d v=>cases v <;> simp [Za2] at hx
 | when c e=>simp [Za2] at hx
 | loc l o =>
  simp only [Za2,List.mem_singleton,Rd.loc.injEq] at hx
  subst hx
  by_cases hl:ZcW (.q q [])=true
  ·exact ZrE hq hl (x:=x) (o:=o) (by simp)
  ·cases q <;> simp [Jw,ZcW] at hr hl
   ·cases es' with
    | nil=>simp [qv] at hq
    | cons e2 r2=>cases r2 <;> simp [qv] at hq
   ·cases es' <;> simp [qv] at hq
theorem Q2.loc {o:DOp} {ρ:Env} {L:Loc} {s:St} {B:List Rd} (h:Q2 o ρ L s B) {x:Nat} (hx:.loc x∈Qn o ρ):∃ cs,ZU L x=some cs:=by
 rcases h with ⟨hk,hr,side,e,hs,hst,he⟩ | ⟨t,z,rfl,_⟩
 ·obtain ⟨dst,gd,k⟩:=o
  cases k with
  | q q xs =>
   simp only [Qn] at hx
   split at hx <;> (try (simp at hx; done))
   rename_i hrd
   unfold Y8 at hst
   cases hg:Yu ρ gd with
   | none=>simp [hg] at hx
   | some c =>
    simp only [hg] at hx hst
    cases ha:KT ρ c xs with
    | none=>simp [ha] at hx
    | some pe =>
     obtain ⟨p,es⟩:=pe
     simp only [ha] at hx hst
     cases es with
     | nil=>simp at hx
     | cons e1 es' =>
      simp only at hx
      split at hst <;> (try (simp at hst; done))
      rename_i sd e2 hq
      exact Zsj hq rfl (by cases q <;> simp_all [Jw]) hx
  | _=>simp [Qn] at hx
 ·simp [Qn] at hx
theorem Zej {F:Fr P} {kp:Option (List Nat)} {dk:List Z4} {o:DOp} {f:Bool} {os:List (DOp × Bool)} {ρ:Env} {L:Loc} {s:St} {B:List Rd} (R:E→St→Prop) (hk:Q0 o.k=false)
  (h1:∀ ρ' L' os',YV ρ ρ' (YO o)→(∀ e s2,R e s2→DO F kp dk os' (Wi ρ' o.dst e) L' s2)→DO F kp dk (o :: os') ρ' L' s)
  (h2:∀ e s2,R e s2→Qx f s s2 L L B∧DOA F kp dk os (Wi ρ o.dst e) L s2 (Jn f B)) :
  DOA F kp dk ((o,f) :: os) ρ L s B:=by
 intro T ms fl A rest is l ρ' L' hm hc hdis hos inv sch
 cases rest with
 | nil=>simp at hos
 | cons i rest =>
  simp only [List.map_cons,List.cons.injEq,Zuz] at hos
  obtain ⟨⟨rfl,rfl⟩,rfl⟩:=hos
  obtain ⟨hi,hdeps,hir,hnm,hcs⟩:=Zma hc
  rcases hcs with ⟨hp,_⟩ | ⟨hb,hc',_⟩
  ·have:=(ZgQ hp).1; rw [hk] at this; simp at this
  ·obtain ⟨hbk,hready,hfree⟩:=Zir hb
   refine Zq4 hm hi hdis hready (fun l ρ' L' is inv hd sch=>?_) sch inv
   have hforced:=hm l inv.closed i hi hd
   have hag:YV ρ ρ' (YO (T.op i)):=by
    intro t ht
    rcases inv.env t with h | ⟨a,ha,hla,hda⟩
    ·exact h
    ·exfalso
     rcases hnm a ha with hb | hb
     ·rw [hforced a hb] at hla; simp at hla
     ·exact Zj5 hb hda ht
   refine h1 ρ' L' _ hag fun e s2 hR=>?_
   obtain ⟨hkB,h2'⟩:=h2 e s2 hR
   refine h2' T ms fl _ rest is _ _ _ hm hc' (fun p hp hpr=>hdis p (List.mem_filter.1 hp).1 (by simp [hpr])) rfl (inv.bar hm hdis hi hir hd (fun a ha=>⟨(hfree a ha).1,(hfree a ha).2.1⟩) e (fun _ h=>h) (fun _ h=>h) fun a ha hla hpe=>?_) sch
   refine (hpe.keep hkB (hfree a ha).2.2 (fun _ _=>rfl)).mono (Zcs (hfree a ha).1) (fun t ht=>?_) (fun _ _=>rfl) (fun _ _=>rfl)
   rw [Zcm]
   have:=Zg8 (Zi1 (hfree a ha).2.1) ht
   simp [this]
end
end Go.DL
namespace Go.DL
open Go
theorem ZhB {ρ:Env} {L:Loc} {s s1:St} {p q ok side:Prop} {a:E} {n:Nat} {xs:List D} {ρ1:Env} {L1:Loc} (h:Zau ρ L s p q ok a n xs = .ok side ρ1 L1 s1) :
  ρ1=ρ∧((∃ l off cs,a = .loc l off∧L1=(l,KR cs off xs) :: L∧s1=s∧ZU L l=some cs∧∀ ρ' L',ZU L' l=ZU L l→Zau ρ' L' s p q ok a n xs = .ok side ρ' ((l,KR cs off xs) :: L') s) ∨
   (L1=L∧∀ ρ' L',Zau ρ' L' s p q ok a n xs = .ok side ρ' L' s1)):=by
 obtain ⟨rfl,⟨l,off,cs,rfl,hL,rfl,rfl,rfl⟩ | ⟨b,off,cs,rfl,hL,rfl,rfl,rfl⟩⟩:=Ze7 h
 ·exact ⟨rfl,.inl ⟨l,off,cs,rfl,rfl,rfl,hL,fun ρ' L' hl=>by simp only [Zau,hl,hL]⟩⟩
 ·exact ⟨rfl,.inr ⟨rfl,fun ρ' L'=>by simp only [Zau,hL]⟩⟩
theorem ZnR {o:DOp} {ρ:Env} {L:Loc} {s s1:St} {side:Prop} {ρ1:Env} {L1:Loc} (hst:Y8 o ρ L s = .ok side ρ1 L1 s1) (hk:Zd2 o.k=true) :
  ρ1=ρ∧o.dst=none∧((∃ lx cs new,L1=(lx,new) :: L∧s1=s∧ZU L lx=some cs ∧
   ∀ ρ' L',YV ρ ρ' (YO o)→ZU L' lx=ZU L lx→Y8 o ρ' L' s = .ok side ρ' ((lx,new) :: L') s) ∨
   (L1=L∧∀ ρ' L',YV ρ ρ' (YO o)→Y8 o ρ' L' s = .ok side ρ' L' s1)):=by
 obtain ⟨dst,gd,k⟩:=o
 cases hg:Yu ρ gd with
 | none=>unfold Y8 at hst; simp [hg] at hst
 | some c =>
 cases k with
 | store1 a v =>
  unfold Y8 at hst
  simp only [hg] at hst
  split at hst <;> (try (simp at hst; done))
  rename_i p ea q x ha hv
  obtain ⟨rfl,⟨l,off,cs,rfl,rfl,rfl,hL,hcong⟩ | ⟨rfl,hcong⟩⟩:=ZhB hst
  ·refine ⟨rfl,rfl,.inl ⟨l,cs,_,rfl,rfl,hL,fun ρ' L' hag hl=>?_⟩⟩
   have h1:YV ρ1 ρ' (Kl a):=fun t ht=>hag t (by simp [YO,KX,ht])
   have h2:YV ρ1 ρ' (Kl v):=fun t ht=>hag t (by simp [YO,KX,ht])
   unfold Y8
   simp only [Yu,Wo h1,Wo h2,ha,hv]
   exact hcong ρ' L' hl
  ·refine ⟨rfl,rfl,.inr ⟨rfl,fun ρ' L' hag=>?_⟩⟩
   have h1:YV ρ1 ρ' (Kl a):=fun t ht=>hag t (by simp [YO,KX,ht])
   have h2:YV ρ1 ρ' (Kl v):=fun t ht=>hag t (by simp [YO,KX,ht])
   unfold Y8
   simp only [Yu,Wo h1,Wo h2,ha,hv]
   exact hcong ρ' L'
 | storeN n a v =>
  unfold Y8 at hst
  simp only [hg] at hst
  split at hst <;> (try (simp at hst; done))
  rename_i p ea q xs ha hv
  obtain ⟨rfl,⟨l,off,cs,rfl,rfl,rfl,hL,hcong⟩ | ⟨rfl,hcong⟩⟩:=ZhB hst
  ·refine ⟨rfl,rfl,.inl ⟨l,cs,_,rfl,rfl,hL,fun ρ' L' hag hl=>?_⟩⟩
   have h1:YV ρ1 ρ' (Kl a):=fun t ht=>hag t (by simp [YO,KX,ht])
   have h2:YV ρ1 ρ' (Kl v):=fun t ht=>hag t (by simp [YO,KX,ht])
   unfold Y8
   simp only [Yu,Wo h1,Wo h2,ha,hv]
   exact hcong ρ' L' hl
  ·refine ⟨rfl,rfl,.inr ⟨rfl,fun ρ' L' hag=>?_⟩⟩
   have h1:YV ρ1 ρ' (Kl a):=fun t ht=>hag t (by simp [YO,KX,ht])
   have h2:YV ρ1 ρ' (Kl v):=fun t ht=>hag t (by simp [YO,KX,ht])
   unfold Y8
   simp only [Yu,Wo h1,Wo h2,ha,hv]
   exact hcong ρ' L'
 | _=>simp [Zd2] at hk
def ZmD:K→Bool
 | .mapupd _ _ _ _ | .delete _ _ _ | .entst _ _ _=>true
 | _=>false
theorem ZpW {o:DOp} {ρ:Env} {L:Loc} {s s1:St} {side:Prop} {ρ1:Env} {L1:Loc} (hst:Y8 o ρ L s = .ok side ρ1 L1 s1) (hk:ZmD o.k=true) :
  ρ1=ρ∧o.dst=none∧L1=L∧∀ ρ' L',YV ρ ρ' (YO o)→Y8 o ρ' L' s = .ok side ρ' L' s1:=by
 obtain ⟨dst,gd,k⟩:=o
 cases hg:Yu ρ gd with
 | none=>unfold Y8 at hst; simp [hg] at hst
 | some c =>
 cases k with
 | mapupd kp m k v =>
  unfold Y8 at hst
  simp only [hg] at hst
  split at hst <;> (try (simp at hst; done))
  rename_i p b q dk r dv hm hkk hv
  split at hst <;> (try (simp at hst; done))
  rename_i es hes
  split at hst <;> simp only [SR.ok.injEq,reduceCtorEq] at hst
  rename_i es' hes'
  obtain ⟨rfl,rfl,rfl,rfl⟩:=hst
  refine ⟨rfl,rfl,rfl,fun ρ' L' hag=>?_⟩
  have h1:YV ρ ρ' (Kl m):=fun t ht=>hag t (by simp [YO,KX,ht])
  have h2:YV ρ ρ' (Kl k):=fun t ht=>hag t (by simp [YO,KX,ht])
  have h3:YV ρ ρ' (Kl v):=fun t ht=>hag t (by simp [YO,KX,ht])
  unfold Y8
  simp only [Yu,Wo h1,Wo h2,Wo h3,hm,hkk,hv,hes,hes']
 | delete kp m k =>
  unfold Y8 at hst
  simp only [hg] at hst
  split at hst <;> (try (simp at hst; done))
  rename_i p b q dk hm hkk
  split at hst <;> (try (simp at hst; done))
  rename_i es hes
  split at hst <;> simp only [SR.ok.injEq,reduceCtorEq] at hst
  rename_i es' hes'
  obtain ⟨rfl,rfl,rfl,rfl⟩:=hst
  refine ⟨rfl,rfl,rfl,fun ρ' L' hag=>?_⟩
  have h1:YV ρ ρ' (Kl m):=fun t ht=>hag t (by simp [YO,KX,ht])
  have h2:YV ρ ρ' (Kl k):=fun t ht=>hag t (by simp [YO,KX,ht])
  unfold Y8
  simp only [Yu,Wo h1,Wo h2,hm,hkk,hes,hes']
 | entst m k v =>
  unfold Y8 at hst
  simp only [hg] at hst
  split at hst <;> (try (simp at hst; done))
  rename_i p b q n r dv hm hkk hv
  split at hst <;> (try (simp at hst; done))
  rename_i kp es dk n' hes
  split at hst <;> simp only [SR.ok.injEq,reduceCtorEq] at hst
  rename_i es' hes'
  obtain ⟨rfl,rfl,rfl,rfl⟩:=hst
  refine ⟨rfl,rfl,rfl,fun ρ' L' hag=>?_⟩
  have h1:YV ρ ρ' (Kl m):=fun t ht=>hag t (by simp [YO,KX,ht])
  have h2:YV ρ ρ' (Kl k):=fun t ht=>hag t (by simp [YO,KX,ht])
  have h3:YV ρ ρ' (Kl v):=fun t ht=>hag t (by simp [YO,KX,ht])
  unfold Y8
  simp only [Yu,Wo h1,Wo h2,Wo h3,hm,hkk,hv,hes,hes']
 | _=>simp [ZmD] at hk
theorem ZpV {o:DOp} {ρ:Env} {L:Loc} {s:St} {side:Prop} {pre:Nat→Prop} {ρf:Nat→Env} {sf:Nat→St} (hst:Y8 o ρ L s = .all side pre ρf sf) :
  Q0 o.k=false∧∃ (t:Nat) (ef:Nat→E),o.dst=some t∧(ρf=fun b=>(t,ef b) :: ρ)∧∀ ρ' L',YV ρ ρ' (YO o)→Y8 o ρ' L' s = .all side pre (fun b=>(t,ef b) :: ρ') sf:=by
 obtain ⟨dst,gd,k⟩:=o
 cases hg:Yu ρ gd with
 | none=>unfold Y8 at hst; simp [hg] at hst
 | some c =>
 cases k with
 | mkmap =>
  unfold Y8 at hst
  simp only [hg] at hst
  split at hst <;> simp only [SR.all.injEq,reduceCtorEq] at hst
  obtain ⟨rfl,rfl,rfl,rfl⟩:=hst
  refine ⟨rfl,_,fun b=>.d (.map b),rfl,rfl,fun ρ' L' hag=>?_⟩
  unfold Y8
  simp only [Yu]
 | mkslice e n by_ z l c =>
  unfold Y8 at hst
  simp only [hg] at hst
  split at hst <;> simp only [SR.all.injEq,reduceCtorEq] at hst
  rename_i t p k1 lv q k2 hv hl hc
  obtain ⟨rfl,rfl,rfl,rfl⟩:=hst
  refine ⟨rfl,t,fun b=>.d (.msl b 0 lv.toNat hv.toNat n),rfl,rfl,fun ρ' L' hag=>?_⟩
  have h1:YV ρ ρ' (Kl l):=fun t ht=>hag t (by simp [YO,KX,ht])
  have h2:YV ρ ρ' (Kl c):=fun t ht=>hag t (by simp [YO,KX,ht])
  unfold Y8
  simp only [Yu,Wo h1,Wo h2,hl,hc]
 | mapent kp z m k =>
  unfold Y8 at hst
  simp only [hg] at hst
  split at hst <;> (try (simp at hst; done))
  rename_i t p b q dk hm hkk
  split at hst <;> (try (simp at hst; done))
  rename_i es hes
  split at hst <;> simp only [SR.all.injEq,reduceCtorEq] at hst
  rename_i v hv
  obtain ⟨rfl,rfl,rfl,rfl⟩:=hst
  refine ⟨rfl,t,fun n=>.d (.tup [v,.stamp n]),rfl,rfl,fun ρ' L' hag=>?_⟩
  have h1:YV ρ ρ' (Kl m):=fun t ht=>hag t (by simp [YO,KX,ht])
  have h2:YV ρ ρ' (Kl k):=fun t ht=>hag t (by simp [YO,KX,ht])
  unfold Y8
  simp only [Yu,Wo h1,Wo h2,hm,hkk,hes,hv]
 | store1 a v =>
  unfold Y8 at hst
  simp only [hg] at hst
  split at hst <;> (try (simp at hst; done))
  exact absurd hst Zei
 | storeN n a v =>
  unfold Y8 at hst
  simp only [hg] at hst
  split at hst <;> (try (simp at hst; done))
  exact absurd hst Zei
 | _ =>
  unfold Y8 at hst
  simp only [hg] at hst
  first
   | (simp at hst; done)
   | repeat' (split at hst <;> (try (simp at hst; done)))
theorem ZoW {o:DOp} {ρ:Env} {L:Loc} {s s1:St} {side:Prop} {ρ1:Env} {L1:Loc} (hst:Y8 o ρ L s = .ok side ρ1 L1 s1):Zam o.k=true∨(∃ z,o.k = .alloc z)∨Zd2 o.k=true∨(∃ x,o.k = .box x)∨ZmD o.k=true:=by
 obtain ⟨dst,gd,k⟩:=o
 unfold Y8 at hst
 cases hg:Yu ρ gd with
 | none=>simp [hg] at hst
 | some c =>
  simp only [hg] at hst
  cases k with
  | q q xs=>exact .inl rfl
  | pick x a b=>exact .inl rfl
  | bsl len n z is xs=>exact .inl rfl
  | s2b x=>exact .inl rfl
  | alloc z=>exact .inr (.inl ⟨z,rfl⟩)
  | store1 a v=>exact .inr (.inr (.inl rfl))
  | storeN n a v=>exact .inr (.inr (.inl rfl))
  | box x=>exact .inr (.inr (.inr (.inl ⟨x,rfl⟩)))
  | mapupd kp m k v=>exact .inr (.inr (.inr (.inr rfl)))
  | delete kp m k=>exact .inr (.inr (.inr (.inr rfl)))
  | entst m k v=>exact .inr (.inr (.inr (.inr rfl)))
  | mkmap=>simp only at hst; split at hst <;> simp at hst
  | mkslice e n by_ z l c=>simp only at hst; split at hst <;> simp at hst
  | mapent kp z m k =>
   simp only at hst
   split at hst <;> (try (simp at hst; done))
   split at hst <;> (try (simp at hst; done))
   split at hst <;> simp at hst
  | call f xs=>simp at hst
  | append e n by_ z x y=>simp at hst
  | panic x=>simp at hst
  | defer f xs=>simp at hst
  | recover=>simp at hst
section
variable {P:Program}
theorem ZpY {o:DOp} {ρ:Env} {L L':Loc} {side:Prop} {ρ1:Env} {lx:Nat} {new:List D} {g:G} {ν:Nat→Nat} {w:World} {tmps:Array Value} {s:St} (hst:Y8 o ρ L s = .ok side ρ1 ((lx,new) :: L) s) (hk:Zd2 o.k=true) (hs:side)
  (m:Yg g ν w tmps ρ L' s):∃ cs,ZU L' lx=some cs:=by
 have key:∀ {p q ok:Prop} {a:Opd} {ea:E} {n:Nat} {xs:List D},YW ρ true a=some (p,ea)→Zau ρ L s p q ok ea n xs = .ok side ρ1 ((lx,new) :: L) s→∃ cs,ZU L' lx=some cs:=by
  intro p q ok a ea n xs ha h
  obtain ⟨rfl,⟨l,off,cs,rfl,hL,rfl,h1,h2⟩ | ⟨b,off,cs,rfl,hL,rfl,h1,h2⟩⟩:=Ze7 h
  ·simp only [List.cons.injEq,Zuz,and_true] at h1
   obtain ⟨rfl,rfl⟩:=h1
   exact ZiO m (xs:=[a]) (p:=p∧True) (es:=[.loc lx off]) (by simp [KT,ha]) ⟨hs.1,trivial⟩ lx off (by simp)
  ·exact absurd (congrArg List.length h1) (by simp)
 obtain ⟨dst,gd,k⟩:=o
 cases hg:Yu ρ gd with
 | none=>unfold Y8 at hst; simp [hg] at hst
 | some c =>
 cases k with
 | store1 a v =>
  unfold Y8 at hst
  simp only [hg] at hst
  split at hst <;> (try (simp at hst; done))
  rename_i p ea q x ha hv
  exact key ha hst
 | storeN n a v =>
  unfold Y8 at hst
  simp only [hg] at hst
  split at hst <;> (try (simp at hst; done))
  rename_i p ea q xs ha hv
  exact key ha hst
 | _=>simp [Zd2] at hk
theorem ZiL {F:Fr P} {kp:Option (List Nat)} {dk:List Z4} {o:DOp} {f:Bool} {os:List (DOp × Bool)} {ρ ρ1:Env} {L L1:Loc} {s s1:St} {B:List Rd} {side:Prop} (hst:Y8 o ρ L s = .ok side ρ1 L1 s1) (hs:side)
  (h:if Q0 o.k then DOA F kp dk os ρ1 L1 s1 (Qn o ρ++B) else Qx f s s1 L L1 B∧DOA F kp dk os ρ1 L1 s1 (Qn o ρ++Jn f B)):DOA F kp dk ((o,f) :: os) ρ L s B:=by
 intro T ms fl A rest is l ρ' L' hm hc hdis hos inv sch
 cases rest with
 | nil=>simp at hos
 | cons i rest =>
  simp only [List.map_cons,List.cons.injEq,Zuz] at hos
  obtain ⟨⟨rfl,rfl⟩,rfl⟩:=hos
  obtain ⟨hi,hdeps,hir,hnm,hcs⟩:=Zma hc
  have hli:=inv.restN i (by simp)
  rcases hcs with ⟨hp,hc'⟩ | ⟨hb,hc',hnp⟩
  ·obtain ⟨hp1,hp2,hp3⟩:=ZgQ hp
   rw [hp1] at h
   simp only [if_true] at h
   have hiA:i ∉ A:=fun hA=>hdis i hA (by simp)
   have key:∀ (hget:∀ t,(T.op i).dst=some t∨WN ρ1 t=WN ρ t) (hagr:∀ a∈A,YV ρ ρ1 (YO (T.op a))) (hL:∀ x,ZU L1 x=ZU L x∨(ZdL (T.op i) x∧ZU L x=none)) (hL0:∀ x,ZdL (T.op i) x→ZU L x=none)
     (hpend:Q2 (T.op i) ρ1 L1 s (Qn (T.op i) ρ++B)) (hs1:s1=s),DO F kp dk (is.map T.op) ρ' L' s:=by
    intro hget hagr hL hL0 hpend hs1
    subst hs1
    refine h T ms fl (i :: A) rest is l ρ' L' hm hc' (fun p hp hpr=>?_) rfl ⟨inv.closed,fun r hr=>inv.restN r (by simp [hr]),fun j hj h1 h2=>?_,fun a ha=>?_,fun p hp a ha=>?_,fun p hp a ha hpa=>?_,fun t=>?_,fun a ha hla x hx=>?_,fun x=>?_,fun a ha hla=>?_⟩ sch
    ·rcases List.mem_cons.1 hp with rfl | hp
     ·exact hir hpr
     ·exact hdis p hp (by simp [hpr])
    ·simp only [List.mem_cons,not_or] at h2
     exact inv.doneN j hj (by simp [h2.1,h1]) h2.2
    ·rcases List.mem_cons.1 ha with rfl | ha
     ·exact hi
     ·exact inv.alt a ha
    ·rcases List.mem_cons.1 hp with rfl | hpA <;> rcases List.mem_cons.1 ha with rfl | haA
     ·exact .inr hp2
     ·exact hnm a haA
     ·exact .inr (hp3 p hpA).1
     ·exact inv.pair p hpA a haA
    ·rcases List.mem_cons.1 hp with rfl | hpA <;> rcases List.mem_cons.1 ha with rfl | haA
     ·exact absurd rfl hpa
     ·exact (hp3 a haA).2
     ·exact Zi1 (hp3 p hpA).2
     ·exact inv.uniq p hpA a haA hpa
    ·rcases hget t with hd | hg
     ·exact .inr ⟨i,by simp,hli,hd⟩
     ·rw [hg]
      rcases inv.env t with h | ⟨a,ha,hla,hda⟩
      ·exact .inl h
      ·exact .inr ⟨a,by simp [ha],hla,hda⟩
    ·rcases List.mem_cons.1 ha with rfl | ha
     ·have:=hL0 x hx
      rcases inv.loc x with h | ⟨b,hb,hlb,hxb⟩
      ·rw [h]; exact this
      ·exact inv.loc0 b hb hlb x hxb
     ·exact inv.loc0 a ha hla x hx
    ·rcases hL x with hx | ⟨hx,_⟩
     ·rw [hx]
      rcases inv.loc x with h | ⟨b,hb,hlb,hxb⟩
      ·exact .inl h
      ·exact .inr ⟨b,by simp [hb],hlb,hxb⟩
     ·exact .inr ⟨i,by simp,hli,hx⟩
    ·rcases List.mem_cons.1 ha with rfl | ha
     ·exact hpend
     ·refine ((inv.pend a ha hla).more (B':=Qn (T.op i) ρ++B) (fun b _ hb=>List.mem_append_right _ hb)).mono (hagr a ha) (fun t ht=>?_) (fun x hx=>?_) (fun t hal=>?_)
      ·rcases hget t with hd | hg
       ·exact absurd ht (Zg8 (hp3 a ha).2 hd)
       ·exact hg
      ·obtain ⟨cs,hcs⟩:=(inv.pend a ha hla).loc hx
       rcases hL x with h | ⟨_,h⟩
       ·exact h
       ·rw [h] at hcs; simp at hcs
      ·rcases hL t with h | ⟨h,_⟩
       ·exact h
       ·exact absurd hal.1 (Zg8 (hp3 a ha).2 h.1)
   by_cases hq:Zam (T.op i).k=true
   ·obtain ⟨e,rfl,rfl,rfl⟩:=ZiJ hst hq
    refine key (fun t=>?_) (fun a ha=>Zcs (hp3 a ha).1) (fun x=>.inl rfl) (fun x hx=>by have:=ZgL hx; rw [hq] at this; simp at this) (.inl ?_) rfl
    ·rw [Zcm]
     by_cases ht:(T.op i).dst=some t
     ·exact .inl ht
     ·exact .inr (by simp [ht])
    ·obtain ⟨e',h1,-,-,h2⟩:=Zgm (ρ':=Wi ρ (T.op i).dst e) (L':=L1) hst hq (Zcs hp2) (fun _ _=>rfl)
     refine ⟨hq,by rw [Zhe (Zcs hp2)]; exact fun b hb=>List.mem_append_left _ hb,side,e',hs,h2,fun t ht=>?_⟩
     rw [h1,Zcm,if_pos ht]
   ·obtain ⟨z,hz⟩:∃ z,(T.op i).k = .alloc z:=by
     cases hk:(T.op i).k <;> simp_all [Q0,Zam]
    obtain ⟨t,ho,rfl,rfl,rfl,rfl⟩:=ZnN hst hz
    have hnone:ZU L t=none:=by
     cases hg:ZU L t <;> simp [Zff,hg] at hs ⊢
    have hdt:(T.op i).dst=some t:=by rw [ho]
    refine key (fun u=>?_) (fun a ha=>?_) (fun x=>?_) (fun x hx=>?_) (.inr ⟨t,z,ho,by simp [WN],by simp [ZU]⟩) rfl
    ·by_cases htu:t=u
     ·exact .inl (by rw [hdt,htu])
     ·exact .inr (by simp [WN,htu])
    ·have:=Zcs (ρ:=ρ) (e:=.loc t 0) (hp3 a ha).1
     rw [hdt] at this; exact this
    ·by_cases htx:t=x
     ·subst htx; exact .inr ⟨⟨hdt,z,hz⟩,hnone⟩
     ·exact .inl (by simp [ZU,htx])
    ·have:=hx.1
     rw [hdt] at this
     simp only [Zuu] at this
     subst this; exact hnone
  ·obtain ⟨hbk,hready,hfree⟩:=Zir hb
   have hkB:Qx (fl.contains i) s s1 L L1 B∨Q0 (T.op i).k=true:=by
    cases hpk:Q0 (T.op i).k
    ·rw [hpk] at h; exact .inl h.1
    ·exact .inr rfl
   have hD:∃ B2,(B2=Qn (T.op i) ρ++B∧Q0 (T.op i).k=true∨B2=Qn (T.op i) ρ++Jn (fl.contains i) B∧Q0 (T.op i).k=false)∧DOA F kp dk (rest.map fun i=>(T.op i,fl.contains i)) ρ1 L1 s1 B2:=by
    cases hpk:Q0 (T.op i).k
    ·rw [hpk] at h; exact ⟨_,.inr ⟨rfl,rfl⟩,h.2⟩
    ·rw [hpk] at h; exact ⟨_,.inl ⟨rfl,rfl⟩,h⟩
   clear h
   obtain ⟨B2,hB2,h⟩:=hD
   have hsubB:∀ b∈Jn (fl.contains i) B,b∈B2:=fun b hb=>by
    rcases hB2 with ⟨rfl,_⟩ | ⟨rfl,_⟩
    ·refine List.mem_append_right _ ?_
     unfold Jn at hb; split at hb
     ·exact hb
     ·simp at hb
    ·exact List.mem_append_right _ hb
   refine Zq4 hm hi hdis hready (fun l ρ' L' is inv hd sch=>?_) sch inv
   have hforced:=hm l inv.closed i hi hd
   have hag:YV ρ ρ' (YO (T.op i)):=by
    intro t ht
    rcases inv.env t with h | ⟨a,ha,hla,hda⟩
    ·exact h
    ·exfalso
     rcases hnm a ha with hb | hb
     ·rw [hforced a hb] at hla; simp at hla
     ·exact Zj5 hb hda ht
   have hloc:∀ x,ZU L' x=ZU L x∨ZU L' x=none:=fun x=>by
    rcases inv.loc x with h | ⟨a,ha,hla,hx⟩
    ·exact .inl h
    ·exact .inr (inv.loc0 a ha hla x hx)
   have hdis':∀ p∈A.filter (fun a=>!(ms.getD i 0).testBit a),p ∉ rest:=fun p hp hpr=>hdis p (List.mem_filter.1 hp).1 (by simp [hpr])
   rcases ZoW hst with hq | ⟨z,hz⟩ | hq | ⟨x,hx⟩ | hq
   ·obtain ⟨e,rfl,rfl,rfl⟩:=ZiJ hst hq
    refine ZnW hst hs hq hag hloc ?_
    refine h T ms fl _ rest is _ _ _ hm hc' hdis' rfl (inv.bar hm hdis hi hir hd (fun a ha=>⟨(hfree a ha).1,(hfree a ha).2.1⟩) e (fun _ h=>h) (fun _ h=>h) fun a ha hla hpe=>?_) sch
    refine ((hpe.keep (fl:=fl.contains i) (ZdB _ _ _ _) (hfree a ha).2.2 (fun _ _=>rfl)).more (fun b _ hb=>hsubB b hb)).mono (Zcs (hfree a ha).1) (fun t ht=>?_) (fun _ _=>rfl) (fun _ _=>rfl)
    rw [Zcm]
    have:=Zg8 (Zi1 (hfree a ha).2.1) ht
    simp [this]
   ·rw [hz] at hbk; simp [Zoo] at hbk
   ·obtain ⟨rfl,hdn,⟨lx,cs,new,rfl,rfl,hlx,hcong⟩ | ⟨rfl,hcong⟩⟩:=ZnR hst hq
    ·refine ZkV fun g ν w tmps m=>?_
     have hst0:Y8 (T.op i) ρ' ((lx,cs) :: L') s1 = .ok side ρ' ((lx,new) :: (lx,cs) :: L') s1:=hcong ρ' _ hag (by simp [ZU,hlx])
     have hpl:ZU L' lx=ZU L lx:=by
      obtain ⟨c2,hc2⟩:∃ cs,ZU L' lx=some cs:=ZpY (L:=(lx,cs) :: L') hst0 hq hs m
      rcases hloc lx with h | h
      ·exact h
      ·rw [h] at hc2; simp at hc2
     refine Zek (hcong ρ' L' hag hpl) hs ?_
     have hput:∀ r:Env,Wi r (T.op i).dst (.d .undef)=r:=fun r=>by rw [hdn]; rfl
     have hb:=inv.bar (s2:=s1) (B2:=B2) hm hdis hi hir hd (fun a ha=>⟨(hfree a ha).1,(hfree a ha).2.1⟩) (.d .undef) (L2:=(lx,new) :: L) (L2':=(lx,new) :: L') (fun x hx=>by simp only [ZU,hx]) (fun x hx=>by
      by_cases hxl:lx=x
      ·subst hxl; rw [hpl,hlx] at hx; simp at hx
      ·simp only [ZU,hxl,if_false]; exact hx) (fun a ha hla hpe=>?_)
     ·rw [hput,hput] at hb
      exact h T ms fl _ rest is _ _ _ hm hc' hdis' rfl hb sch
     ·rw [hput]
      have hkB':Qx (fl.contains i) s1 s1 L ((lx,new) :: L) B:=by
       rcases hkB with h | h
       ·exact h
       ·cases hkk:(T.op i).k <;> rw [hkk] at hq h <;> simp [Zd2,Q0] at hq h
      refine (hpe.keep hkB' (hfree a ha).2.2 (fun t hal=>?_)).more (fun b _ hb=>hsubB b hb)
      have hn:=inv.loc0 a (List.mem_filter.1 ha).1 hla t hal
      have:¬ lx=t:=fun h=>by subst h; rw [hpl,hlx] at hn; simp at hn
      simp [ZU,this]
    ·refine Zek (hcong ρ' L' hag) hs ?_
     have hput:∀ r:Env,Wi r (T.op i).dst (.d .undef)=r:=fun r=>by rw [hdn]; rfl
     have hb:=inv.bar (s2:=s1) (B2:=B2) hm hdis hi hir hd (fun a ha=>⟨(hfree a ha).1,(hfree a ha).2.1⟩) (.d .undef) (L2:=L1) (L2':=L') (fun x hx=>hx) (fun x hx=>hx) (fun a ha hla hpe=>by
      rw [hput]; exact (hpe.keep (hkB.resolve_right (by cases hkk:(T.op i).k <;> rw [hkk] at hq <;> simp [Zd2,ZmD] at hq <;> simp [Q0])) (hfree a ha).2.2 (fun _ _=>rfl)).more (fun b _ hb=>hsubB b hb))
     rw [hput,hput] at hb
     exact h T ms fl _ rest is _ _ _ hm hc' hdis' rfl hb sch
   ·rw [hx] at hbk; simp [Zoo] at hbk
   ·obtain ⟨rfl,hdn,rfl,hcong⟩:=ZpW hst hq
    refine Zek (hcong ρ' L' hag) hs ?_
    have hput:∀ r:Env,Wi r (T.op i).dst (.d .undef)=r:=fun r=>by rw [hdn]; rfl
    have hb:=inv.bar (s2:=s1) (B2:=B2) hm hdis hi hir hd (fun a ha=>⟨(hfree a ha).1,(hfree a ha).2.1⟩) (.d .undef) (L2:=L1) (L2':=L') (fun x hx=>hx) (fun x hx=>hx) (fun a ha hla hpe=>by
     rw [hput]; exact (hpe.keep (hkB.resolve_right (by cases hkk:(T.op i).k <;> rw [hkk] at hq <;> simp [Zd2,ZmD] at hq <;> simp [Q0])) (hfree a ha).2.2 (fun _ _=>rfl)).more (fun b _ hb=>hsubB b hb))
    rw [hput,hput] at hb
    exact h T ms fl _ rest is _ _ _ hm hc' hdis' rfl hb sch
theorem ZnU {F:Fr P} {kp:Option (List Nat)} {dk:List Z4} {o:DOp} {f:Bool} {os:List (DOp × Bool)} {ρ:Env} {L:Loc} {s:St} {B:List Rd} {side:Prop} {pre:Nat→Prop} {ρf:Nat→Env} {sf:Nat→St} (hst:Y8 o ρ L s = .all side pre ρf sf) (hs:side)
  (h:∀ b,pre b→Qx f s (sf b) L L B∧DOA F kp dk os (ρf b) L (sf b) (Jn f B)):DOA F kp dk ((o,f) :: os) ρ L s B:=by
 obtain ⟨hp,t,ef,hdt,rfl,hcong⟩:=ZpV hst
 refine Zej (fun e s2=>∃ b,pre b∧e=ef b∧s2=sf b) hp (fun ρ' L' os' hag hcont=>?_) (fun e s2 ⟨b,hb,he,h2⟩=>?_)
 ·refine ZlV (hcong ρ' L' hag) hs fun b hb=>?_
  have:=hcont (ef b) (sf b) ⟨b,hb,rfl,rfl⟩
  rw [hdt] at this; exact this
 ·subst he; subst h2
  have:=h b hb
  rw [hdt]; exact this
theorem ZhG {F:Fr P} {ks:List Nat} {dk:List Z4}:∀ {os:List (DOp × Bool)} {ρ:Env} {L:Loc} {s:St} {B:List Rd},
  ZfZ (fun ρ L s=>ZT F dk (QA ρ ks) (ZcT (QA ρ ks) L) s) (fun os ρ L s B=>DOA F (some ks) dk os ρ L s B) os ρ L s B→DOA F (some ks) dk os ρ L s B
 | [],ρ,L,s,B,h=>ZnV h
 | (o,f) :: os,ρ,L,s,B,h=>by
  simp only [ZfZ] at h
  split at h
  ·rename_i sd ρ' L' s' hst
   by_cases hp:Q0 o.k=true
   ·rw [if_pos hp] at h
    exact ZiL hst h.1 (by rw [if_pos hp]; exact ZhG h.2)
   ·rw [if_neg hp] at h
    exact ZiL hst h.1 (by rw [if_neg hp]; exact ⟨h.2.1,ZhG h.2.2⟩)
  ·rename_i sd pre ρ' s' hst
   exact ZnU hst h.1 fun b hb=>⟨(h.2 b hb).1,ZhG (h.2 b hb).2⟩
  ·exact h
end
end Go.DL
namespace Go.DL
open Go
theorem ZfM {bs:List Nat}:∀ {ds:List Nat} {a:Nat},(ZcX bs ds).testBit a=true→∃ d∈ds,a=d∨(bs.getD d 0).testBit a=true
 | [],a,h=>by simp [ZcX] at h
 | d :: ds,a,h=>by
  simp only [ZcX,Nat.testBit_or,ZuL] at h
  rcases h with (h | h) | h
  ·exact ⟨d,by simp,.inr h⟩
  ·refine ⟨d,by simp,.inl ?_⟩
   rw [Nat.one_shiftLeft,Nat.testBit_two_pow] at h
   exact (of_decide_eq_true h).symm
  ·obtain ⟨d',h1,h2⟩:=ZfM h
   exact ⟨d',by simp [h1],h2⟩
theorem ZmF (l:Nat→Bool) (all:List (List Nat)) (hcl:∀ i,i < all.length→l i=true→∀ d∈all.getD i [],l d=true) :
  ∀ (r:List (List Nat)) (acc:List Nat) (pre:List (List Nat)),all=pre++r→acc.length=pre.length →
   (∀ i,i < acc.length→(∀ d∈all.getD i [],l d=true)→∀ a,(acc.getD i 0).testBit a=true→l a=true) →
   ∀ i,i < all.length→(∀ d∈all.getD i [],l d=true)→∀ a,((ZhQ r acc).getD i 0).testBit a=true→l a=true
 | [],acc,pre,hall,hlen,hacc=>by
  intro i hi
  simp only [ZhQ]
  exact hacc i (by rw [hlen]; simp only [hall,List.append_nil] at hi; exact hi)
 | d :: r,acc,pre,hall,hlen,hacc=>by
  simp only [ZhQ]
  refine ZmF l all hcl r (acc++[ZcX acc d]) (pre++[d]) (by simp [hall]) (by simp [hlen]) fun i hi hd a ha=>?_
  simp only [ZuF,ZuI,List.length_nil] at hi
  by_cases hia:i < acc.length
  ·have e:(acc++[ZcX acc d]).getD i 0=acc.getD i 0:=by simp [List.getD,List.getElem?_append,hia]
   rw [e] at ha
   exact hacc i hia hd a ha
  ·have hie:i=acc.length:=by omega
   subst hie
   have e:(acc++[ZcX acc d]).getD acc.length 0=ZcX acc d:=by simp [List.getD]
   rw [e] at ha
   have e2:all.getD acc.length []=d:=by rw [hall,hlen]; simp [List.getD]
   rw [e2] at hd
   obtain ⟨d',h1,h2⟩:=ZfM ha
   rcases h2 with rfl | h2
   ·exact hd a h1
   ·by_cases hlt:d' < acc.length
    ·exact hacc d' hlt (hcl d' (by rw [hall]; simp; omega) (hd d' h1)) a h2
    ·have:acc.getD d' 0=0:=by simp [List.getD,List.getElem?_eq_none (Nat.le_of_not_lt hlt)]
     rw [this] at h2; simp at h2
def cnt (l:Nat→Bool):Nat→Nat
 | 0=>0
 | n + 1=>cnt l n + if l n then 0 else 1
theorem Zmj {l l':Nat→Bool}:∀ {n:Nat},(∀ i,i < n→l' i=l i)→cnt l' n=cnt l n
 | 0,_=>rfl
 | n + 1,h=>by
  have:=Zmj (l:=l) (l':=l') (n:=n) fun i hi=>h i (by omega)
  simp only [cnt,h n (by omega),this]
theorem Zn1 {l:Nat→Bool} {i:Nat}:∀ {n:Nat},i < n→l i=false→cnt (fun j=>j == i || l j) n + 1=cnt l n
 | n + 1,hi,hl=>by
  by_cases hn:i=n
  ·subst hn
   have:cnt (fun j=>j == i || l j) i=cnt l i:=Zmj fun j hj=>by
    have:¬ j=i:=by omega
    simp [this]
   simp [cnt,this,hl]
  ·have h:=Zn1 (n:=n) (by omega) hl
   have hni:¬ n=i:=fun h=>hn h.symm
   have:(n == i || l n)=l n:=by simp [hni]
   simp only [cnt,this]; omega
theorem Zmk {l:Nat→Bool}:∀ {n:Nat},cnt l n=0→∀ i,i < n→l i=true
 | n + 1,h,i,hi=>by
  simp only [cnt] at h
  by_cases hn:i=n
  ·subst hn
   cases hl:l i
   ·simp [hl] at h
   ·rfl
  ·exact Zmk (n:=n) (by omega) i (by omega)
theorem Zpm (l:Nat→Bool):∀ n,cnt l n≤n
 | 0=>ZuO _
 | n + 1=>by have:=Zpm l n; simp only [cnt]; split <;> omega
theorem ZpD {ops:Array Oper} {listed:Array Bool} {i:Nat} (h:i∈Region.ready .any ops listed) :
  ∃ o,ops[i]? = some o∧listed.getD i true=false∧∀ d∈Zb8 o,listed.getD d false=true:=by
 simp only [Region.ready,List.mem_filter,List.mem_range,ZuA,Bool.not_eq_true'] at h
 obtain ⟨hi,hl,ha⟩:=h
 refine ⟨ops[i],by simp [hi],hl,fun d hd=>?_⟩
 simp only [hi,Array.getElem?_eq_getElem,Option.map_some,Option.getD_some,Array.all_eq_true] at ha
 simp only [Zb8,List.mem_map,List.mem_filter] at hd
 obtain ⟨e,⟨he,hb⟩,rfl⟩:=hd
 obtain ⟨n,hn,hen⟩:=ZuJ he
 have hn':n < ops[i].after.size:=by simpa using hn
 have h2:=ha n hn'
 have:ops[i].after[n]=e:=by rw [← hen]; simp
 rw [this] at h2
 simpa [hb] using h2
theorem ZpL {ops:Array Oper} {listed:Array Bool} {i:Nat} {o:Oper} (ho:ops[i]? = some o) (hl:listed.getD i true=false) (hd:∀ d∈Zb8 o,listed.getD d false=true):i∈Region.ready .any ops listed:=by
 obtain ⟨hi,rfl⟩:=Array.getElem?_eq_some_iff.1 ho
 simp only [Region.ready,List.mem_filter,List.mem_range,ZuA,Bool.not_eq_true']
 refine ⟨hi,hl,?_⟩
 simp only [hi,Array.getElem?_eq_getElem,Option.map_some,Option.getD_some,Array.all_eq_true]
 intro n hn
 cases hb:Region.binds .any ops[i].after[n]
 ·simp
 ·simp only [Bool.not_true,Bool.false_or]
  exact hd _ (by
   simp only [Zb8,List.mem_map,List.mem_filter]
   exact ⟨_,⟨by simp,hb⟩,rfl⟩)
theorem Zsp {ops:Array Oper} {T:Tab} (hT:T.length=ops.size) (hdep:∀ i o,ops[i]? = some o→T.deps i=Zb8 o) (hlt:∀ i,i < T.length→∀ d∈T.deps i,d < i) :
  ∀ (fuel t:Nat) (listed:Array Bool),listed.size=ops.size→cnt (fun j=>listed.getD j false) ops.size≤fuel →
   Sch T (fun j=>listed.getD j false) (Region.linearise.go .any ops fuel t listed []):=by
 have hready:∀ listed:Array Bool,listed.size=ops.size→Region.ready .any ops listed=[]→∀ i,i < ops.size→listed.getD i false=true:=by
  intro listed hsz hr i
  induction i using Nat.strongRecOn with
  | ind i ih =>
   intro hi
   cases hl:listed.getD i false
   ·exfalso
    have hi':i < listed.size:=by omega
    have hlt':listed.getD i true=false:=by simpa [Array.getD,hi'] using hl
    have hm:i∈Region.ready .any ops listed:=ZpL (o:=ops[i]) (by simp [hi]) hlt' fun d hd=>by
     have hdi:d < i:=hlt i (by omega) d (by rw [hdep i ops[i] (by simp [hi])]; exact hd)
     exact ih d hdi (by omega)
    rw [hr] at hm; simp at hm
   ·rfl
 intro fuel
 induction fuel with
 | zero =>
  intro t listed hsz hc
  simp only [Region.linearise.go,List.reverse_nil]
  exact .nil fun i hi=>Zmk (Nat.le_zero.1 hc) i (by omega)
 | succ fuel ih =>
  intro t listed hsz hc
  simp only [Region.linearise.go]
  change Sch T _ (match (Region.ready .any ops listed)[t % (Region.ready .any ops listed).length]? with
   | some i=>Region.linearise.go .any ops fuel (t / (Region.ready .any ops listed).length) (listed.setIfInBounds i true) [i]
   | none=>[].reverse)
  cases hi:(Region.ready .any ops listed)[t % (Region.ready .any ops listed).length]? with
  | none =>
   have hnil:Region.ready .any ops listed=[]:=by
    cases hr:Region.ready .any ops listed with
    | nil=>rfl
    | cons x xs =>
     rw [hr] at hi
     have hl:t % (x :: xs).length < (x :: xs).length:=Nat.mod_lt _ (by simp)
     rw [List.getElem?_eq_getElem hl] at hi; simp at hi
   exact .nil fun i hi'=>hready listed hsz hnil i (by omega)
  | some i =>
   simp only []
   rw [linearise_go_acc,List.reverse_singleton,List.singleton_append]
   obtain ⟨o,ho,hl,hd⟩:=ZpD (List.mem_of_getElem? hi)
   obtain ⟨his,-⟩:=Array.getElem?_eq_some_iff.1 ho
   have hisl:i < listed.size:=by omega
   have hlf:listed.getD i false=false:=by simpa [Array.getD,hisl] using hl
   have hfun:(fun j=>(listed.setIfInBounds i true).getD j false)=fun j=>j == i || listed.getD j false:=by
    funext j
    simp only [Array.getD_eq_getD_getElem?,Array.getElem?_setIfInBounds]
    by_cases hij:i=j
    ·subst hij; simp [hisl]
    ·have:¬ j=i:=fun h=>hij h.symm
     simp [hij,this]
   refine .cons (by omega) hlf (fun d hd'=>hd d (by rw [← hdep i o ho]; exact hd')) ?_
   rw [← hfun]
   refine ih _ _ (by simp [hsz]) ?_
   rw [hfun]
   have:=Zn1 (l:=fun j=>listed.getD j false) his hlf
   omega
section
variable {P:Program}
theorem Zri {an:Ann} {N:Nat} {c:Code} {order:List Nat} {os:List (DOp × Bool)} {ks:Option (List Nat)} (h:cc P an N c=some (.regD order os ks)) :
  ∃ id ops,c = .region id ops true∧ccD P an N id ops=some (order,os,ks):=by
 unfold cc at h; split at h <;> simp_all
 ·obtain ⟨a,b,c',h1,h2,h3,h4⟩:=h; exact ⟨_,_,⟨rfl,rfl⟩,by rw [h1]; simp [h2,h3,h4]⟩
 all_goals (split at h <;> simp at h)
end
end Go.DL
namespace Go.DL
open Go
theorem Zsq {T:Tab} {l:Nat→Bool} {is:List Nat} (h:Sch T l is):∀ i∈is,i < T.length:=by
 induction h with
 | nil h=>simp
 | cons hi hl hd t ih=>intro i hi'; rcases List.mem_cons.1 hi' with rfl | h; exact hi; exact ih i h
section
variable {P:Program}
theorem Zml {N:Nat} {ops:Array Oper}:∀ {is:List Nat} {l:List DOp},ZbG P N ops is=some l→l.length=is.length∧∀ (j i:Nat),is[j]? = some i→∃ o d,ops[i]? = some o∧cop P N ops o=some d∧l[j]? = some d
 | [],l,h=>by simp only [ZbG,Zuu] at h; subst h; simp
 | i :: is,l,h=>by
  simp only [ZbG] at h
  split at h <;> (try (simp at h; done))
  rename_i o ho
  split at h <;> simp only [Zuu,reduceCtorEq] at h
  rename_i d ds hd hds
  subst h
  obtain ⟨h1,h2⟩:=Zml hds
  refine ⟨by simp [h1],fun j i' hj=>?_⟩
  cases j with
  | zero=>simp only [List.getElem?_cons_zero,Zuu] at hj; subst hj; exact ⟨o,d,ho,hd,by simp⟩
  | succ j=>simp only [List.getElem?_cons_succ] at hj ⊢; exact h2 j i' hj
theorem Zn2 {N:Nat} {ops:Array Oper} {f:Nat→DOp}:∀ {is:List Nat},(∀ i∈is,∃ o,ops[i]? = some o∧cop P N ops o=some (f i))→ZbG P N ops is=some (is.map f)
 | [],_=>rfl
 | i :: is,h=>by
  obtain ⟨o,h1,h2⟩:=h i (by simp)
  have:=Zn2 (is:=is) fun j hj=>h j (by simp [hj])
  simp only [ZbG,h1,h2,this,List.map_cons]
theorem Zpr (g:G) (w:World) (n:Nat):Ext g w g { w with drawn:=n }:=⟨ZuO _,fun _=>ZuO _,fun _ _ _=>rfl,fun _ _ h=>h,fun _ _=>rfl,fun _ _=>rfl,rfl,rfl,rfl,rfl⟩
theorem Yg.drawn {g:G} {ν:Nat→Nat} {w:World} {tmps:Array Value} {ρ:Env} {L:Loc} {s:St} (m:Yg g ν w tmps ρ L s) (n:Nat):Yg g ν { w with drawn:=n } tmps ρ L s:=by
 have hg:ZbB g w g { w with drawn:=n }:=⟨ZuO _,fun _ _=>rfl,fun _ _=>rfl,fun b hb=>(m.st.fresh b hb).1,rfl,rfl,rfl,rfl⟩
 exact m.grow hg
theorem Zit:∀ {n:Nat} {ds:List (List Nat)},ZjB n ds=true→∀ i l,ds[i]? = some l→∀ d∈l,d < n + i
 | n,[],_,i,l,hi=>by simp at hi
 | n,x :: r,h,i,l,hi=>by
  simp only [ZjB,ZuA,List.all_eq_true,decide_eq_true_eq] at h
  cases i with
  | zero=>simp only [List.getElem?_cons_zero,Zuu] at hi; subst hi; exact fun d hd=>h.1 d hd
  | succ i=>simp only [List.getElem?_cons_succ] at hi; intro d hd; have:=Zit h.2 i l hi d hd; omega
theorem Wq {F:Fr P} {order:List Nat} {os:List (DOp × Bool)} {ks:Option (List Nat)} {dk:List Z4} {ρ:Env} {L:Loc} {s:St} (h:DOA F ks dk os ρ L s []):ZT F (.code (.regD order os ks) :: dk) ρ L s:=by
 intro k hk
 cases hk with
 | code hc ht =>
 obtain ⟨id,ops,rfl,hD⟩:=Zri hc
 unfold ccD at hD
 split at hD <;> (try (simp at hD; done))
 rename_i l order' kp hcops _ _
 simp only at hD
 split at hD <;> simp only [Zuu,Zuz,reduceCtorEq] at hD
 rename_i hcond
 obtain ⟨rfl,rfl,rfl⟩:=hD
 simp only [ZuA] at hcond
 obtain ⟨⟨⟨hmix,hlt⟩,hperm⟩,hchk⟩:=hcond
 obtain ⟨hlen,hget⟩:=Zml hcops
 simp only [List.length_range] at hlen
 generalize hds:ops.toList.map Zb8=ds at hlt hchk h
 have hdl:ds.length=ops.size:=by rw [← hds]; simp
 generalize hT:List.zip l ds=T at hchk h
 have hTl:List.length T=ops.size:=by rw [← hT]; simp [hlen,hdl]
 have hTi:∀ (i:Nat) (o:Oper),ops[i]? = some o→∃ d,cop P F.N ops o=some d∧T[i]? = some (d,Zb8 o):=by
  intro i o ho
  obtain ⟨hi,-⟩:=Array.getElem?_eq_some_iff.1 ho
  obtain ⟨o',d,h1,h2,h3⟩:=hget i i (by simp [hi])
  rw [ho] at h1
  obtain rfl:=Option.some.inj h1
  refine ⟨d,h2,?_⟩
  rw [← hT,List.getElem?_zip_eq_some]
  exact ⟨h3,by rw [← hds]; simp [ho]⟩
 have hdeps:∀ (i:Nat) (o:Oper),ops[i]? = some o→Tab.deps T i=Zb8 o:=fun i o ho=>by
  obtain ⟨d,_,h2⟩:=hTi i o ho
  simp [Tab.deps,List.getD,h2]
 have hop:∀ i,i < List.length T→∃ o,ops[i]? = some o∧cop P F.N ops o=some (Tab.op T i):=fun i hi=>by
  have hi':i < ops.size:=by omega
  obtain ⟨d,h1,h2⟩:=hTi i ops[i] (by simp [hi'])
  exact ⟨ops[i],by simp [hi'],by simp [Tab.op,List.getD,h2,h1]⟩
 have hdl2:∀ i,i < List.length T→∀ d∈Tab.deps T i,d < i:=fun i hi d hd=>by
  have hi':i < ops.size:=by omega
  have he:=hdeps i ops[i] (by simp [hi'])
  have:=Zit hlt i (Zb8 ops[i]) (by rw [← hds]; simp [hi']) d (by rw [← he]; exact hd)
  omega
 have hdsT:∀ i,i < List.length T→ds.getD i []=Tab.deps T i:=fun i hi=>by
  have hi':i < ops.size:=by omega
  rw [hdeps i ops[i] (by simp [hi']),← hds]
  simp [List.getD,hi']
 intro g ν w tmps hN m
 refine F.T.back _ _ _ _ (.one stepR_region_draw) ?_
 refine F.T.ext g w g { w with drawn:=w.drawn + 1 } _ (Zpr g w _) ?_
 have hsc:∀ t,Region.schedule (P.follows .mixedOrders) ops t=Region.linearise .any ops t:=fun t=>by simp [Region.schedule,hmix]
 rw [hsc]
 have hl0:∀ j,(Array.replicate ops.size false).getD j false=false:=fun j=>by
  simp only [Array.getD_eq_getD_getElem?,Array.getElem?_replicate]
  split <;> rfl
 have hsch:=Zsp (ops:=ops) (T:=T) hTl hdeps hdl2 ops.size (w.tape w.drawn (.order F.b.fn id)) (Array.replicate ops.size false) (by simp) (Zpm _ _)
 have hDO:=h T (ZhQ ds []) ((F.an.get (id + 2000000)).getD []) [] order' _ _ ρ L ?_ hchk (by simp) rfl ?_ hsch
 ·refine hDO ops _ _ (Zn2 fun i hi=>hop i (Zsq hsch i hi)) ht g ν _ tmps hN (m.drawn _)
 ·intro lf hcl i hi hd a ha
  refine ZmF lf ds (fun i hi hli d hd=>?_) ds [] [] rfl rfl (fun i hi=>by simp at hi) i (by omega) (fun d hd'=>hd d (by rw [← hdsT i hi]; exact hd')) a ha
  exact hcl i (by omega) hli d (by rw [← hdsT i (by omega)]; exact hd)
 ·refine ⟨fun i hi hli=>?_,fun r hr=>hl0 r,fun i hi h1 h2=>?_,by simp,by simp,by simp,fun t=>.inl rfl,by simp,fun x=>.inl rfl,by simp⟩
  ·rw [hl0] at hli; simp at hli
  ·exfalso
   simp only [ZpH,List.all_eq_true,List.mem_range,List.contains_eq_mem,decide_eq_true_eq] at hperm
   exact h1 (hperm i (by omega))
theorem ZeV {F:Fr P} {kp:Option (List Nat)} {dk:List Z4} {o:DOp} {f:Bool} {os:List (DOp × Bool)} {ρ:Env} {L:Loc} {s:St} {B:List Rd} (hg:Yu ρ o.guard=some true) {fx:Opd} {xs:List Opd} (hk:o.k = .call fx xs)
  {p q:Prop} {fd:D} {es:List E} {ds:List D} (hf:YW ρ true fx=some (q,.d fd)) (ha:KT ρ true xs=some (p,es)) (hds:Q3 es=some ds) (hp:p) (hq:q)
  {Ψ:Res→St→Prop} (hc:J0 P fd ds s Ψ)
  (hret:∀ d s',Ψ (.ret d) s'→Qx f s s' L L B∧DOA F kp dk os (Wi ρ o.dst (.d d)) L s' (Jn f B)) (hpan:∀ d s',Ψ (.panic d) s'→QM F [] [] d s'):DOA F kp dk ((o,f) :: os) ρ L s B:=by
 refine Zej (fun e s'=>∃ d,e = .d d∧Ψ (.ret d) s') (by rw [hk]; rfl) (fun ρ' L' os' hag hcont=>?_) (fun e s2 ⟨d,he,hd⟩=>by subst he; exact hret d s2 hd)
 have h1:YV ρ ρ' (Kl fx):=fun t ht=>hag t (by simp [YO,hk,KX,ht])
 have h2:YV ρ ρ' (ZcY xs):=fun t ht=>hag t (by simp [YO,hk,KX,ht])
 have h3:YV ρ ρ' (ZdR o.guard):=fun t ht=>hag t (by simp [YO,ht])
 exact ZbA (by rw [Jm h3]; exact hg) hk (by rw [Wo h1]; exact hf) (by rw [JI h2]; exact ha) hds hp hq hc (fun d s' hd=>hcont (.d d) s' ⟨d,rfl,hd⟩) (fun d s' hd=>(hpan d s' hd).weak _ _)
theorem Zah {F:Fr P} {kp:Option (List Nat)} {dk:List Z4} {o:DOp} {f:Bool} {os:List (DOp × Bool)} {ρ:Env} {L:Loc} {s:St} {B:List Rd} (hg:Yu ρ o.guard=some true) {fx:Opd} {xs:List Opd} (hk:o.k = .call fx xs)
  {p q:Prop} {fi:FuncId} {first caps:List D} {es:List E} {ds:List D} (hf:YW ρ true fx=some (q,.d (.fn (.func fi) first caps))) (ha:KT ρ true xs=some (p,es)) (hds:Q3 es=some ds) (hp:p) (hq:q)
  {Ψ:Res→St→Prop} (hc:Yf P fi (first++ds++caps) s Ψ)
  (hret:∀ d s',Ψ (.ret d) s'→Qx f s s' L L B∧DOA F kp dk os (Wi ρ o.dst (.d d)) L s' (Jn f B)) (hpan:∀ d s',Ψ (.panic d) s'→QM F [] [] d s'):DOA F kp dk ((o,f) :: os) ρ L s B :=
 ZeV hg hk hf ha hds hp hq hc.V hret hpan
theorem Zo0 {F:Fr P} {kp:Option (List Nat)} {dk:List Z4} {o:DOp} {f:Bool} {os:List (DOp × Bool)} {ρ:Env} {L:Loc} {s:St} {B:List Rd} (hg:Yu ρ o.guard=some true) {x:Opd} (hk:o.k = .panic x)
  {p:Prop} {t:TypeId} {d:D} (ha:YW ρ true x=some (p,.d (.iface t d))) (hp:p) (h:QM F [] [] (.iface t d) s):DOA F kp dk ((o,f) :: os) ρ L s B:=by
 refine Zej (fun _ _=>False) (by rw [hk]; rfl) (fun ρ' L' os' hag hcont=>?_) (fun e s2 h=>h.elim)
 have h1:YV ρ ρ' (Kl x):=fun t ht=>hag t (by simp [YO,hk,KX,ht])
 have h3:YV ρ ρ' (ZdR o.guard):=fun t ht=>hag t (by simp [YO,ht])
 exact Zp7 (by rw [Jm h3]; exact hg) hk (by rw [Wo h1]; exact ha) hp (h.weak _ _)
theorem ZfP {F:Fr P} {kp:Option (List Nat)} {dk:List Z4} {o:DOp} {f:Bool} {os:List (DOp × Bool)} {ρ:Env} {L:Loc} {s:St} {B:List Rd} (hg:Yu ρ o.guard=some false) (hk:Q0 o.k=false) {e:E}
  (h:DOA F kp dk os (Wi ρ o.dst (.when false e)) L s (Jn f B)):DOA F kp dk ((o,f) :: os) ρ L s B:=by
 refine Zej (fun e' s'=>e' = .when false e∧s'=s) hk (fun ρ' L' os' hag hcont=>?_) (fun e s2 ⟨h1,h2⟩=>by subst h1; subst h2; exact ⟨ZdB _ _ _ _,h⟩)
 have h3:YV ρ ρ' (ZdR o.guard):=fun t ht=>hag t (by simp [YO,ht])
 exact Zbl (by rw [Jm h3]; exact hg) (hcont _ _ ⟨rfl,rfl⟩)
theorem Za7 {F:Fr P} {kp:Option (List Nat)} {dk:List Z4} {o:DOp} {f:Bool} {os:List (DOp × Bool)} {ρ:Env} {L:Loc} {s:St} {B:List Rd} {c:Bool} (hg:Yu ρ o.guard=some c) {fx:Opd} {xs:List Opd} (hk:o.k = .call fx xs)
  {p q:Prop} {fi:FuncId} {first caps:List D} {es:List E} {ds:List D} (hf:YW ρ c fx=some (q,.d (.fn (.func fi) first caps))) (ha:KT ρ c xs=some (p,es)) (hds:Q3 es=some ds)
  {d:D} (hc:c=true→p∧q∧ZR P fi (first++ds++caps) d) (h:DOA F kp dk os (Wi ρ o.dst (.when c (.d d))) L s (Jn f B)):DOA F kp dk ((o,f) :: os) ρ L s B:=by
 refine Zej (fun e' s'=>e' = .when c (.d d)∧s'=s) (by rw [hk]; rfl) (fun ρ' L' os' hag hcont=>?_) (fun e s2 ⟨h1,h2⟩=>by subst h1; subst h2; exact ⟨ZdB _ _ _ _,h⟩)
 have h1:YV ρ ρ' (Kl fx):=fun t ht=>hag t (by simp [YO,hk,KX,ht])
 have h2:YV ρ ρ' (ZcY xs):=fun t ht=>hag t (by simp [YO,hk,KX,ht])
 have h3:YV ρ ρ' (ZdR o.guard):=fun t ht=>hag t (by simp [YO,ht])
 exact KA (by rw [Jm h3]; exact hg) hk (by rw [Wo h1]; exact hf) (by rw [JI h2]; exact ha) hds hc (hcont _ _ ⟨rfl,rfl⟩)
theorem Kd {F:Fr P} {kp:Option (List Nat)} {dk:List Z4} {o:DOp} {f:Bool} {os:List (DOp × Bool)} {ρ:Env} {L:Loc} {s:St} {B:List Rd} (hg:Yu ρ o.guard=some true) {fx:Opd} {xs:List Opd} (hk:o.k = .call fx xs)
  {p q:Prop} {fi:FuncId} {first caps:List D} {es:List E} {ds:List D} (hf:YW ρ true fx=some (q,.d (.fn (.func fi) first caps))) (ha:KT ρ true xs=some (p,es)) (hds:Q3 es=some ds) (hp:p) (hq:q)
  {d:D} (hc:ZR P fi (first++ds++caps) d) (h:DOA F kp dk os (Wi ρ o.dst (.d d)) L s (Jn f B)):DOA F kp dk ((o,f) :: os) ρ L s B :=
 Zah hg hk hf ha hds hp hq (hc s) (fun d' s' ⟨h1,h2⟩=>by simp only [Res.ret.injEq] at h1; subst h1; subst h2; exact ⟨ZdB _ _ _ _,h⟩) (fun d' s' ⟨h1,_⟩=>by simp at h1)
end
end Go.DL
namespace Go.DL
open Go
section
variable {P:Program}
def ZdK (P:Program) (w:World) (size m:Nat) (x:Value) (news:List Value):Prop :=
 (∀ w2,(Builtin.lenOf x).run P w2 = .ok m w2)∧∀ w2:World,w2.heap=w.heap→(Builtin.firstCells size m x).run P w2 = .ok news.toArray w2
theorem Zpa {w:World} {t u ty e:TypeId} {tu:TypeDesc} {i:TypeInfo} (ht:P.underlying t=some (.slice e)) (hu:P.underlying u=some tu) (hnu:∀ k,tu≠.int k) (hi:P.info? e=some i) {base:Option Addr} {n cap:Nat} {x:Value}
  (hx:ZdK P w i.size 0 x []) (hroom:n≤cap):(Builtin.append_ #[t,u] ty #[.slice base n cap,x]).run P w = .ok (.slice base n cap) w:=by
 obtain ⟨h1,h2⟩:=hx
 have h2:=h2 w rfl
 have hz:(match tu with | .int _=>true | _=>false)=false:=by cases tu <;> first | rfl | exact absurd rfl (hnu _)
 cases base with
 | none=>simp [Builtin.append_,run_underlying ht,run_underlying hu,hz,sizeOf,typeInfo,hi,h1,h2,hroom]
 | some a=>simp [Builtin.append_,run_underlying ht,run_underlying hu,hz,sizeOf,typeInfo,hi,h1,h2,hroom,storeCells]
theorem Zqd {w:World} {t u ty e:TypeId} {tu:TypeDesc} {i:TypeInfo} (ht:P.underlying t=some (.slice e)) (hu:P.underlying u=some tu) (hnu:∀ k,tu≠.int k) (hi:P.info? e=some i) {g n cap m:Nat} {x:Value} {news:List Value}
  (hx:ZdK P w i.size m x news) {cur:Array Value} {T:TypeId} (hg:w.heap[g]? = some (.cells cur T (0,0))) (h1:∀ u∈news,u.oneCell'=true) (hroom:n + m≤cap) (hfit:n * i.size + news.length≤cur.size) :
  (Builtin.append_ #[t,u] ty #[.slice (some ⟨g,0,none⟩) n cap,x]).run P w =
   .ok (.slice (some ⟨g,0,none⟩) (n + m) cap) (w.setRow g (cur.toList.take (n * i.size)++news++cur.toList.drop (n * i.size + news.length)).toArray):=by
 obtain ⟨hx1,hx2⟩:=hx
 have hx2:=hx2 w rfl
 have hz:(match tu with | .int _=>true | _=>false)=false:=by cases tu <;> first | rfl | exact absurd rfl (hnu _)
 have hst:=run_storeCells_at P g (n * i.size) T news 0 cur w hg (by simpa using hfit) h1
 simp only [Nat.add_zero] at hst
 simp [Builtin.append_,run_underlying ht,run_underlying hu,hz,sizeOf,typeInfo,hi,hx1,hx2,hroom,Addr.add_lit,hst]
theorem Zqc {w:World} {t u ty e:TypeId} {tu:TypeDesc} {i:TypeInfo} {z:Value} (ht:P.underlying t=some (.slice e)) (hu:P.underlying u=some tu) (hnu:∀ k,tu≠.int k) (hi:P.info? e=some i) (hz':i.zero=some z)
  {base:Option Addr} {n cap m:Nat} {x:Value} {olds news:List Value} (hx:ZdK P w i.size m x news) (ho:∀ w2:World,w2.heap=w.heap→(Builtin.firstCells i.size n (.slice base n cap)).run P w2 = .ok olds.toArray w2)
  (hg:cap < n + m) (h63:((n + m:Nat):Int)≤9223372036854775807) (hfit:(n + m) * i.bytes≤140737488355328) :
  (Builtin.append_ #[t,u] ty #[.slice base n cap,x]).run P w =
   .ok (.slice (some ⟨w.heap.size,0,none⟩) (n + m) (grownCap w (n + m) cap e))
    (w.drew.alloc (.cells (olds++news++(Builtin.zeroCells z.cells (grownCap w (n + m) cap e - (n + m))).toList).toArray e)):=by
 obtain ⟨hx1,hx2⟩:=hx
 have hx2:=hx2 w.drew rfl
 have ho:=ho w.drew rfl
 have hz:(match tu with | .int _=>true | _=>false)=false:=by cases tu <;> first | rfl | exact absurd rfl (hnu _)
 have hn:¬ (n + m≤cap):=by omega
 have h63':¬ (9223372036854775807 < ((n:Int) + (m:Int))):=by omega
 have hf:=growslice_fits hg hfit
 have h48':¬ (281474976710656 < Builtin.nextslicecap (n + m) cap * i.bytes):=by omega
 simp [Builtin.append_,run_underlying ht,run_underlying hu,hz,sizeOf,typeInfo,zeroValue,hi,hz',hx1,hn,h63',h48',Question.forced,hx2,ho,newRow,grownCap]
 congr 2
 apply Array.ext'
 simp [List.append_assoc]
end
end Go.DL
namespace Go.DL
open Go
structure Jr (g:G) (w:World) (sz n:Nat) (vals:List Value) (row:Nat→List D):Prop where
 len:vals.length=n * sz
 rlen:∀ i,i < n→(row i).length=sz
 rep:∀ (i j:Nat) (v:Value) (d:D),i < n→j < sz→vals[i * sz + j]? = some v→(row i)[j]? = some d→Rep g w v d
 one:∀ v∈vals,v.one1=true
def QN (n:Nat) (row row2:Nat→List D):Nat→List D:=fun i=>if i < n then row i else row2 (i - n)
theorem Jr.append {g:G} {w:World} {sz n m:Nat} {a b:List Value} {row row2:Nat→List D} (ha:Jr g w sz n a row) (hb:Jr g w sz m b row2):Jr g w sz (n + m) (a++b) (QN n row row2):={
 len:=by rw [ZuF,ha.len,hb.len,Nat.add_mul]
 rlen i hi:=by
  unfold QN
  split
  ·rename_i h; exact ha.rlen i h
  ·exact hb.rlen (i - n) (by omega)
 rep i j v d hi hj hv hd:=by
  unfold QN at hd
  split at hd
  ·rename_i h
   have:i * sz + j < a.length:=by
    rw [ha.len]
    have:=Nat.mul_le_mul_right sz (show i + 1≤n from h)
    rw [Nat.add_mul,Nat.one_mul] at this; omega
   rw [List.getElem?_append_left this] at hv
   exact ha.rep i j v d h hj hv hd
  ·rename_i h
   have e:i * sz + j - a.length=(i - n) * sz + j:=by
    rw [ha.len,Nat.sub_mul]
    have:=Nat.mul_le_mul_right sz (show n≤i by omega)
    omega
   have hge:a.length≤i * sz + j:=by
    rw [ha.len]
    have:=Nat.mul_le_mul_right sz (show n≤i by omega)
    omega
   rw [List.getElem?_append_right hge,e] at hv
   exact hb.rep (i - n) j v d (by omega) hj hv hd
 one v hv:=by
  rcases List.mem_append.1 hv with h | h
  ·exact ha.one v h
  ·exact hb.one v h }
theorem Jr.mono {g g':G} {w w':World} {sz n:Nat} {a:List Value} {row:Nat→List D} (h:Jr g w sz n a row) (e:Ext g w g' w'):Jr g' w' sz n a row :=
 ⟨h.len,h.rlen,fun i j v d hi hj hv hd=>(h.rep i j v d hi hj hv hd).mono e,h.one⟩
theorem Zcu {w:World} {b o:Nat} {cs:Array Value} {T:TypeId} {fr:Nat × Nat} (h:w.heap[b]? = some (.cells cs T fr)):w.cell? ⟨b,o,none⟩=cs[o]?:=by
 unfold World.cell?; simp [h]
section
variable {P:Program}
theorem Zke {g:G} {w:World} {v:Value} {t:Tok} {n sz:Nat} {row:Nat→List D} (h:Rep g w v (.sl t n sz row)) (hsz:0 < sz) :
  ∃ vals,Jr g w sz n vals row∧ZdK P w sz n v vals:=by
 cases h with
 | sl0 a t s row ht =>
  refine ⟨[],⟨by simp,fun i hi=>by omega,fun i j v d hi=>by omega,by simp⟩,fun w2=>by simp [Builtin.lenOf],fun w2 _=>by cases a <;> simp [Builtin.firstCells,loadCells,loadCellsFrom]⟩
 | sl b o n cap s row t f hl hc hp hr one ht hcap hb =>
  let vals:=(List.range (n * sz)).map fun k=>f (k / sz) (k % sz)
  have hk:∀ k,k < n * sz→k / sz < n∧k % sz < sz:=fun k hk=>⟨(Nat.div_lt_iff_lt_mul hsz).2 hk,Nat.mod_lt _ hsz⟩
  have hvals:∀ k v,vals[k]? = some v→k < n * sz∧v=f (k / sz) (k % sz):=fun k v hv=>by
   simp only [vals,List.getElem?_map,ZuC] at hv
   obtain ⟨k',h1,h2⟩:=hv
   obtain ⟨h3,h4⟩:=List.getElem?_eq_some_iff.1 h1
   simp only [List.getElem_range] at h4
   subst h4
   exact ⟨by simpa using h3,h2.symm⟩
  refine ⟨vals,⟨by simp [vals],hl,fun i j v d hi hj hv hd=>?_,fun v hv=>?_⟩,fun w2=>by simp [Builtin.lenOf],fun w2 hw2=>?_⟩
  ·obtain ⟨_,rfl⟩:=hvals _ _ hv
   have e1:(i * sz + j) / sz=i:=by rw [Nat.mul_comm,Nat.mul_add_div hsz,Nat.div_eq_of_lt hj,Nat.add_zero]
   have e2:(i * sz + j) % sz=j:=by rw [Nat.mul_comm,Nat.mul_add_mod,Nat.mod_eq_of_lt hj]
   rw [e1,e2]
   exact hr i j d hi hd
  ·obtain ⟨k,hk',rfl⟩:=ZuJ hv
   obtain ⟨h1,h2⟩:=hvals k _ (List.getElem?_eq_getElem hk')
   rw [h2]
   exact one _ _ (hk k h1).1 (hk k h1).2
  ·refine run_firstCells_some (P:=P) w2 sz n ⟨b,o,none⟩ n cap vals (by simp [vals]) fun k v hv=>?_
   obtain ⟨h1,h2⟩:=hvals k v hv
   have hadd:(⟨b,o,none⟩:Addr).add k=⟨b,o + k,none⟩:=JA b o k
   rw [hadd]
   have h3:=hc (k / sz) (k % sz) (hk k h1).1 (hk k h1).2
   have e:o + k / sz * sz + k % sz=o + k:=by rw [Nat.add_assoc,Nat.mul_comm,Nat.div_add_mod]
   rw [e] at h3
   rw [h2,← h3]
   unfold World.cell?; simp only [hw2]
theorem Zgg {g:G} {w:World} {sz n cap b:Nat} {vals:List Value} {row:Nat→List D} (h:Jr g w sz n vals row) {cur:Array Value} {T:TypeId} (hb:w.heap[b]? = some (.cells cur T (0,0)))
  (ht:cur.toList.take (n * sz)=vals) (hn:n≤cap) (hcap:cap * sz≤cur.size) (hp:g.prot b=n * sz) (hbig:cap≤big):Rep g w (.slice (some ⟨b,0,none⟩) n cap) (.sl (.tip b) n sz row):=by
 have hidx:∀ i j,i < n→j < sz→i * sz + j < n * sz:=fun i j hi hj=>by
  have:=Nat.mul_le_mul_right sz (show i + 1≤n from hi)
  rw [Nat.add_mul,Nat.one_mul] at this; omega
 have hle:n * sz≤cur.size:=Nat.le_trans (Nat.mul_le_mul_right sz hn) hcap
 have hcell:∀ i j,i < n→j < sz→cur[i * sz + j]? = some (cur.getD (i * sz + j) undef)∧vals[i * sz + j]? = some (cur.getD (i * sz + j) undef):=fun i j hi hj=>by
  have h1:=hidx i j hi hj
  have h2:i * sz + j < cur.size:=by omega
  have e:cur[i * sz + j]? = some (cur.getD (i * sz + j) undef):=by simp [Array.getD,h2]
  refine ⟨e,?_⟩
  rw [← ht,List.getElem?_take,if_pos h1,Array.getElem?_toList]; exact e
 refine .sl b 0 n cap sz row (.tip b) (fun i j=>cur.getD (i * sz + j) undef) h.rlen (fun i j hi hj=>?_) (fun i j hi hj=>?_) (fun i j d hi hd=>?_) (fun i j hi hj=>?_) ⟨rfl,rfl,T,cur.size,?_,hcap⟩ hn hbig
 ·rw [Zcu hb,Nat.zero_add]; exact (hcell i j hi hj).1
 ·rw [hp,Nat.zero_add]; exact hidx i j hi hj
 ·have hj:j < sz:=by rw [← h.rlen i hi]; exact (List.getElem?_eq_some_iff.1 hd).1
  exact h.rep i j _ d hi hj (hcell i j hi hj).2 hd
 ·exact h.one _ (List.mem_of_getElem? (hcell i j hi hj).2)
 ·simp [hdr,hb]
end
end Go.DL
namespace Go.DL
open Go
def St.own (s:St) (t:Tok) (k:Nat):St :=
 match t with
 | .tip b=>s.upd b (.tip k)
 | _=>s
def Tok.okIn (t:Tok) (s:St):Prop :=
 match t with
 | .tip b=>s b=Option.none
 | .full=>True
 | .none=>False
theorem Zl {s:St} {t:Tok} {k:Nat} (h:t.okIn s):s.sub (s.own t k):=by
 intro b o ho
 cases t with
 | tip c =>
  simp only [St.own,St.upd]
  by_cases hb:b=c
  ·subst hb; simp only [Tok.okIn] at h; rw [h] at ho; simp at ho
  ·simp only [hb,if_false]; exact ho
 | _=>exact ho
theorem KS.upd {g:G} {s:St} {w:World} (h:KS g s w) {b:Nat} {o:KC} (ho:Jk g w b o) (hk:¬ g.kept b):KS g (s.upd b o) w:={
 obj c x hx:=by
  simp only [St.upd] at hx
  by_cases hb:c=b
  ·simp only [hb,if_true,Zuu] at hx; subst hx; rw [hb]; exact ho
  ·simp only [hb,if_false] at hx; exact h.obj c x hx
 kept c x hx:=by
  simp only [St.upd] at hx
  by_cases hb:c=b
  ·rw [hb]; exact hk
  ·simp only [hb,if_false] at hx; exact h.kept c x hx
 fresh:=h.fresh }
def ZaZ (g:G) (b k:Nat):G:={ g with prot:=fun c=>if c=b then k else g.prot c }
theorem Zqz {g:G} {w:World} (c:Array Value) (T:TypeId) (k:Nat) (hf:∀ b,w.heap.size≤b→g.prot b=0∧¬ g.kept b):ZbB g w (ZaZ g w.heap.size k) (w.drew.alloc (.cells c T)):={
 size:=by simp
 old b hb:=(by first | exact heap_alloc_old w.drew _ b hb | exact heap_alloc_old w.drew _ hb)
 prot b hb:=by simp [ZaZ,show ¬ b=w.heap.size by omega]
 fresh b hb:=by
  have:(w.drew.alloc (.cells c T)).heap.size=w.heap.size + 1:=by simp
  rw [this] at hb
  simp only [ZaZ,show ¬ b=w.heap.size by omega,if_false]
  exact (hf b (by omega)).1
 kept:=rfl
 os:=rfl
 output:=rfl
 tape:=rfl }
theorem Rep.slRow {g:G} {w:World} {v:Value} {t:Tok} {n sz:Nat} {row row':Nat→List D} (h:Rep g w v (.sl t n sz row)) (hr:∀ i,i < n→row' i=row i):Rep g w v (.sl t n sz row'):=by
 cases h with
 | sl0 a t s row ht=>exact .sl0 a t sz row' ht
 | sl b o n cap s row t f hl hc hp hrep one ht hcap hb =>
  exact .sl b o n cap sz row' t f (fun i hi=>by rw [hr i hi]; exact hl i hi) hc hp (fun i j d hi hd=>hrep i j d hi (by rw [← hr i hi]; exact hd)) one ht hcap hb
section
variable {P:Program}
theorem ZnY {g:G} {w:World} {s:St} {sz k:Nat} {vals rest:List Value} {row:Nat→List D} {T:TypeId} {cap:Nat} (hs:KS g s w) (hr:Jr g w sz k vals row) (hn:k≤cap) (hrest:vals.length + rest.length=cap * sz) (hbig:cap≤big) :
  let w':=w.drew.alloc (.cells (vals++rest).toArray T)
  let g':=ZaZ g w.heap.size (k * sz)
  ZbB g w g' w'∧KS g' (s.own (.tip w.heap.size) (k * sz)) w'∧(Tok.tip w.heap.size).okIn s∧Rep g' w' (.slice (some ⟨w.heap.size,0,none⟩) k cap) (.sl (.tip w.heap.size) k sz row):=by
 intro w' g'
 have hg:ZbB g w g' w':=Zqz _ T _ hs.fresh
 have hnew:w'.heap[w.heap.size]? = some (.cells (vals++rest).toArray T (0,0)):=heap_alloc_new w.drew _
 have hp:g'.prot w.heap.size=k * sz:=by simp [g',ZaZ]
 have hle:k * sz≤(vals++rest).toArray.size:=by
  have:=Nat.mul_le_mul_right sz hn
  simp only [List.size_toArray,ZuF]; omega
 refine ⟨hg,(hs.grow hg).upd ⟨hp,_,T,hnew,hle⟩ (fun h=>(hs.fresh _ (ZuO _)).2 h),?_,?_⟩
 ·simp only [Tok.okIn]
  cases hsb:s w.heap.size with
  | none=>rfl
  | some o=>have:=(hs.obj _ o hsb).lt; omega
 ·refine Zgg (hr.mono (hg.ext hs.fresh)) hnew ?_ hn ?_ hp hbig
  ·rw [← hr.len]; simp
  ·simp only [List.size_toArray,ZuF]; omega
theorem Zo9 {g:G} {w:World} {s:St} {t:Tok} {sz n m:Nat} {v1 v2:Value} {row row2:Nat→List D} {tT u ty e:TypeId} {tu:TypeDesc} {i:TypeInfo} {z:Value} (ht:P.underlying tT=some (.slice e)) (hu:P.underlying u=some tu) (hnu:∀ k,tu≠.int k)
  (hi:P.info? e=some i) (hz:i.zero=some z) (hsz:i.size=sz) (hzc:z.cells.size=sz) (h0:0 < sz) (hs:KS g (s.own t (n * sz)) w) (hok:t.okIn s) (h1:Rep g w v1 (.sl t n sz row)) {news:List Value}
  (h2:Jr g w sz m news row2) (h3:ZdK P w sz m v2 news) (hb:(n + m) * i.bytes≤140737488355328) (hbig:n + m≤big) :
  ∃ v' w' g' t',(Builtin.append_ #[tT,u] ty #[v1,v2]).run P w = .ok v' w'∧Ext g w g' w'∧KS g' (s.own t' ((n + m) * sz)) w'∧t'.okIn s∧Rep g' w' v' (.sl t' (n + m) sz (QN n row row2)) ∧
   (∀ b,b < w.heap.size→t≠.tip b→w'.heap[b]? = w.heap[b]?∧g'.prot b=g.prot b)∧∀ b,t' = .tip b→t = .tip b∨w.heap.size≤b:=by
 subst hsz
 have hs0:KS g s w:=hs.sub (Zl hok)
 obtain ⟨olds,hr1,ho1,ho2⟩:=Zke (P:=P) h1 h0
 have hrr:=hr1.append h2
 have grown:∀ base cap,v1 = .slice base n cap→cap < n + m→∃ v' w' g' t',(Builtin.append_ #[tT,u] ty #[v1,v2]).run P w = .ok v' w'∧Ext g w g' w'∧KS g' (s.own t' ((n + m) * i.size)) w'∧t'.okIn s ∧
   Rep g' w' v' (.sl t' (n + m) i.size (QN n row row2))∧(∀ b,b < w.heap.size→t≠.tip b→w'.heap[b]? = w.heap[b]?∧g'.prot b=g.prot b)∧∀ b,t' = .tip b→t = .tip b∨w.heap.size≤b:=by
  intro base cap hv hlt
  subst hv
  have hrun:=Zqc (ty:=ty) ht hu hnu hi hz h3 ho2 hlt (by simp only [big] at hbig; omega) hb
  have hge:=grownCap_ge w (n + m) cap e
  have hle:=grownCap_le_maxLen w (n + m) cap e (by simp only [big] at hbig; simp only [maxLen]; omega)
  have hn:=ZnY (T:=e) (rest:=(Builtin.zeroCells z.cells (grownCap w (n + m) cap e - (n + m))).toList) hs0 hrr hge (by
   simp only [Array.length_toList,size_zeroCells,hzc,hrr.len,← Nat.add_mul]; congr 1; omega) (by simp only [maxLen] at hle; simp only [big]; omega)
  obtain ⟨a1,a2,a3,a4⟩:=hn
  exact ⟨_,_,_,_,hrun,a1.ext hs0.fresh,a2,a3,a4,fun b hb _=>⟨a1.old b hb,a1.prot b hb⟩,fun b hb=>.inr (by simp only [Tok.tip.injEq] at hb; omega)⟩
 have stay:∀ base cap,v1 = .slice base n cap→m=0→n≤cap→∃ v' w' g' t',(Builtin.append_ #[tT,u] ty #[v1,v2]).run P w = .ok v' w'∧Ext g w g' w'∧KS g' (s.own t' ((n + m) * i.size)) w'∧t'.okIn s ∧
   Rep g' w' v' (.sl t' (n + m) i.size (QN n row row2))∧(∀ b,b < w.heap.size→t≠.tip b→w'.heap[b]? = w.heap[b]?∧g'.prot b=g.prot b)∧∀ b,t' = .tip b→t = .tip b∨w.heap.size≤b:=by
  intro base cap hv hm hle
  subst hv; subst hm
  have hne:news=[]:=List.eq_nil_of_length_eq_zero (by simpa using h2.len)
  subst hne
  exact ⟨_,_,g,t,Zpa (ty:=ty) ht hu hnu hi h3 hle,Ext.refl g w,hs,hok,h1.slRow fun i hi=>by simp only [QN,if_pos (show i < n from hi)],fun _ _ _=>⟨rfl,rfl⟩,fun b hb=>.inl hb⟩
 cases h1 with
 | sl0 a t s row htt =>
  by_cases hm:m=0
  ·exact stay a 0 rfl hm (ZuO _)
  ·exact grown a 0 rfl (by omega)
 | sl b o n cap sz row t f hl hc hp hr one htok hcap hb' =>
  have hgr:=grown (some ⟨b,o,none⟩) cap rfl
  have hst:=stay (some ⟨b,o,none⟩) cap rfl
  by_cases hm:m=0
  ·exact hst hm hcap
  by_cases hroom:n + m≤cap
  case neg=>exact hgr (by omega)
  cases t with
  | none=>exact hok.elim
  | full=>simp only [Zjn] at htok; omega
  | tip tb =>
   obtain ⟨rfl,rfl,T0,m0,hh,hm0⟩:=htok
   have hobj:=hs.obj b (.tip (n * i.size)) (by simp [St.own,St.upd])
   have hkept:=hs.kept b (.tip (n * i.size)) (by simp [St.own,St.upd])
   obtain ⟨hp0,cur,T,hb1,hb2⟩:=hobj
   have hcs:cap * i.size≤cur.size:=by
    simp only [hdr,hb1,Zuu,Zuz] at hh
    omega
   have hfit:n * i.size + news.length≤cur.size:=by
    rw [h2.len,← Nat.add_mul]; exact Nat.le_trans (Nat.mul_le_mul_right _ hroom) hcs
   have hrun:=Zqd (ty:=ty) ht hu hnu hi h3 hb1 (fun v hv=>by rw [ZhT]; exact h2.one v hv) hroom hfit
   have hcells:∀ k v,(cur.toList.take (n * i.size))[k]? = some v→w.cell? ((⟨b,0,none⟩:Addr).add k)=some v:=fun k v hv=>by
    rw [JA,Zcu hb1,Nat.zero_add]
    rw [List.getElem?_take] at hv
    split at hv
    ·simpa using hv
    ·simp at hv
   have hol:olds=cur.toList.take (n * i.size):=by
    have h:=run_firstCells_some (P:=P) w i.size n ⟨b,0,none⟩ n cap (cur.toList.take (n * i.size)) (by simp; omega) hcells
    rw [ho2 w rfl] at h
    simpa using h
   generalize hnw:cur.toList.take (n * i.size)++news++cur.toList.drop (n * i.size + news.length)=nw at hrun
   have hnl:nw.length=cur.size:=by
    rw [← hnw]; simp only [ZuF,List.length_take,List.length_drop,Array.length_toList]; omega
   have hh':=setRow_heap w b cur nw.toArray T (0,0) hb1
   have ho':∀ c,c≠b→(w.setRow b nw.toArray).heap[c]? = w.heap[c]?:=fun c hc=>setRow_other w b c _ hc
   have hsz':(w.setRow b nw.toArray).heap.size=w.heap.size:=by simp [World.setRow]
   have hk2:n * i.size≤(n + m) * i.size:=Nat.mul_le_mul_right _ (by omega)
   have hext:Ext g w (ZaZ g b ((n + m) * i.size)) (w.setRow b nw.toArray):=by
    refine ⟨by omega,fun c=>?_,fun c o ho=>?_,fun c x hx=>?_,fun c hc=>ho' c (fun h=>hkept (h ▸ hc)),fun c hc=>?_,rfl,rfl,rfl,rfl⟩
    ·simp only [ZaZ]
     split
     ·rename_i h; rw [h,hp0]; exact hk2
     ·exact ZuO _
    ·by_cases hc:c=b
     ·subst hc
      rw [Zcu hh',Zcu hb1]
      rw [hp0] at ho
      have:o < (cur.toList.take (n * i.size)).length:=by simp; omega
      rw [List.getElem?_toArray,← hnw,List.append_assoc,List.getElem?_append_left this,List.getElem?_take,if_pos ho]
      simp
     ·exact ZbF (ho' c hc)
    ·by_cases hc:c=b
     ·subst hc
      simp only [hdr,hb1] at hx
      simp only [hdr,hh',List.size_toArray,hnl]; exact hx
     ·rw [Zb5 (ho' c hc)]; exact hx
    ·simp only [ZaZ]
     split
     ·rename_i h; exact absurd hc (h ▸ hkept)
     ·rfl
   have hp':(ZaZ g b ((n + m) * i.size)).prot b=(n + m) * i.size:=by simp [ZaZ]
   refine ⟨_,_,ZaZ g b ((n + m) * i.size),.tip b,hrun,hext,?_,hok,?_,fun c _ hc=>?_,fun c hc=>.inl hc⟩
   ·refine ⟨fun c x hx=>?_,fun c x hx=>?_,fun c hc=>?_⟩
    ·by_cases hc:c=b
     ·subst hc
      simp only [St.own,St.upd,if_true,Zuu] at hx
      subst hx
      refine ⟨hp',_,T,hh',?_⟩
      simp only [List.size_toArray,hnl]
      exact Nat.le_trans (Nat.mul_le_mul_right _ hroom) hcs
     ·simp only [St.own,St.upd,hc,if_false] at hx
      exact (hs0.obj c x hx).mono hext (ho' c hc) (by simp [ZaZ,hc])
    ·by_cases hc:c=b
     ·rw [hc]; exact hkept
     ·simp only [St.own,St.upd,hc,if_false] at hx
      exact hs0.kept c x hx
    ·rw [hsz'] at hc
     have hbl:b < w.heap.size:=(Array.getElem?_eq_some_iff.1 hb1).1
     simp only [ZaZ,show ¬ c=b by omega,if_false]
     exact hs0.fresh c hc
   ·refine Zgg (hrr.mono hext) hh' ?_ hroom (by simp only [List.size_toArray,hnl]; exact hcs) hp' hb'
    have hl2:(olds++news).length=(n + m) * i.size:=hrr.len
    rw [← hnw,hol,← hl2,hol]
    exact List.take_left
   ·have:c≠b:=fun h=>hc (by rw [h])
    exact ⟨ho' c this,by simp [ZaZ,this]⟩
end
end Go.DL
namespace Go.DL
open Go Go.Lib
def ZbI (s:Nat):D→Option (Nat × (Nat→List D))
 | .nilsl=>some (0,fun _=>[])
 | .sl _ m s' row=>if s'=s then some (m,row) else none
 | .str l=>if s=1 then some (l.length,fun i=>[.int .u8 ((l.getD i 0).toNat:Int)]) else none
 | _=>none
def ZfS (s:Nat):D→Option (Tok × Nat × (Nat→List D))
 | .nilsl=>some (.full,0,fun _=>[])
 | .sl t n s' row=>if s'=s then some (t,n,row) else none
 | _=>none
theorem ZnZ {g:G} {w:World} {v:Value} {d:D} {sz n:Nat} {t:Tok} {row:Nat→List D} (h:Rep g w v d) (he:ZfS sz d=some (t,n,row)):Rep g w v (.sl t n sz row):=by
 cases d <;> simp only [ZfS,reduceCtorEq] at he
 ·simp only [Zuu,Zuz] at he
  obtain ⟨rfl,rfl,rfl⟩:=he
  cases h
  exact .sl0 _ _ _ _ (by simp)
 ·split at he <;> simp only [Zuu,Zuz,reduceCtorEq] at he
  rename_i hs
  obtain ⟨rfl,rfl,rfl⟩:=he
  subst hs; exact h
section
variable {P:Program}
theorem Zk0 {op:Op} {e s b:Nat} {z:List D} {x y:Opd} (h:ck P op=some (.append e s b z x y)) :
  ∃ x' y' args ats t1 t2 tu,op = .call ⟨.builtin .append,args,ats⟩∧args.toList=[x',y']∧ats[0]? = some t1∧ats[1]? = some t2∧P.underlying t1=some (.slice e)∧P.underlying t2=some tu∧(∀ k,tu≠.int k) ∧
   WW P e=some s∧ZbU P e=some z∧b=P.bytesOf e∧WQ x'=some x∧WQ y'=some y∧0 < s∧z.length=s:=by
 unfold ck at h
 split at h
 ·simp at h
 ·split at h <;> (try (simp at h; done))
  all_goals (try (repeat' (split at h <;> (try (simp at h; done)))))
  all_goals
   simp only [Zuu,K.append.injEq] at h
   obtain ⟨rfl,rfl,rfl,rfl,rfl,rfl⟩:=h
  ·rename_i c _ _ hcal _ _ _ e' x' y' h0 hargs _ _ _ _ s' z' l' c' hs' hz' hx' hy' t2 el h1 hdec
   obtain ⟨t1,g1,g2⟩:=Option.bind_eq_some_iff.1 h0
   obtain ⟨t3,g3,g4⟩:=Option.bind_eq_some_iff.1 h1
   simp only [ZuA,decide_eq_true_eq] at hdec
   obtain ⟨callee,args,ats⟩:=c
   simp only at hcal
   subst hcal
   exact ⟨x',y',args,ats,t1,t3,_,rfl,hargs,g1,g3,g2,g4,fun k h=>by simp at h,hs',hz',rfl,hx',hy',hdec.1,hdec.2⟩
  ·rename_i c _ _ hcal _ _ _ e' x' y' h0 hargs _ _ _ _ s' z' l' c' hs' hz' hx' hy' t2 h1 hdec
   obtain ⟨t1,g1,g2⟩:=Option.bind_eq_some_iff.1 h0
   obtain ⟨t3,g3,g4⟩:=Option.bind_eq_some_iff.1 h1
   simp only [ZuA,decide_eq_true_eq] at hdec
   obtain ⟨callee,args,ats⟩:=c
   simp only at hcal
   subst hcal
   exact ⟨x',y',args,ats,t1,t3,_,rfl,hargs,g1,g3,g2,g4,fun k h=>by simp at h,hs',hz',rfl,hx',hy',hdec.1,hdec.2⟩
theorem Zqv {g:G} {w:World} {v:Value} {d:D} {sz m:Nat} {row:Nat→List D} (h:Rep g w v d) (he:ZbI sz d=some (m,row)) (h0:0 < sz):∃ news,Jr g w sz m news row∧ZdK P w sz m v news:=by
 cases d with
 | nilsl =>
  simp only [ZbI,Zuu,Zuz] at he
  obtain ⟨rfl,rfl⟩:=he
  cases h
  exact ⟨[],⟨by simp,fun i hi=>by omega,fun i j v d hi=>by omega,by simp⟩,fun w2=>by simp [Builtin.lenOf],fun w2 _=>by simp [Builtin.firstCells]⟩
 | sl t n s' row' =>
  simp only [ZbI] at he
  split at he <;> simp only [Zuu,Zuz,reduceCtorEq] at he
  rename_i hs
  obtain ⟨rfl,rfl⟩:=he
  subst hs
  exact Zke h h0
 | str l =>
  simp only [ZbI] at he
  split at he <;> simp only [Zuu,Zuz,reduceCtorEq] at he
  rename_i hs
  obtain ⟨rfl,rfl⟩:=he
  subst hs
  cases h with
  | str s _ hl hb =>
   subst hl
   have hsz:s.size=s.data.toList.length:=by rw [Array.length_toList]; rfl
   refine ⟨strCells s,⟨by simp [strCells],fun i hi=>rfl,fun i j v d hi hj hv hd=>?_,fun v hv=>by rw [← ZhT]; exact strCells_oneCell s v hv⟩,fun w2=>by simp only [Builtin.lenOf,Sem.run_pure,hsz],fun w2 _=>?_⟩
   ·obtain rfl:j=0:=by omega
    simp only [Nat.mul_one,Nat.add_zero,strCells,List.getElem?_map,ZuC] at hv
    obtain ⟨b,hb1,rfl⟩:=hv
    simp only [List.getElem?_cons_zero,Zuu] at hd
    subst hd
    have:s.data.toList.getD i 0=b:=by simp only [List.getD,hb1,Option.getD_some]
    rw [this]
    exact .int .u8 _ (Zmz b)
   ·rw [← hsz]; exact run_firstCells_string w2 1 s
 | _=>simp [ZbI] at he
theorem ZkU {F:Fr P} {kp:Option (List Nat)} {dk:List Z4} {o:DOp} {os:List DOp} {ρ:Env} {L:Loc} {s:St} (hg:Yu ρ o.guard=some true) {e sz b:Nat} {z:List D} {x y:Opd} (hk:o.k = .append e sz b z x y)
  {p q:Prop} {t:Tok} {n m:Nat} {row row2:Nat→List D} {dy:D} {dx:D} (hx:YW ρ true x=some (p,.d dx)) (hsl:ZfS sz dx=some (t,n,row)) (hy:YW ρ true y=some (q,.d dy)) (hp:p) (hq:q) (hel:ZbI sz dy=some (m,row2)) (hok:t.okIn s)
  (hb:(n + m) * b≤140737488355328) (hbig:n + m≤big) (h:∀ t':Tok,t'.okIn s→DO F kp dk os (Wi ρ o.dst (.d (.sl t' (n + m) sz (QN n row row2)))) L (s.own t' ((n + m) * sz))) :
  DO F kp dk (o :: os) ρ L (s.own t (n * sz)):=by
 refine Jt fun oo g ν w tmps ops i r k hoo hck hcg hdst hd hN M hr hkk=>?_
 have hw:=Qc M hcg hg
 have hnd:=Qw hck (by rw [hk]; rfl)
 rw [hk] at hck
 obtain ⟨x',y',args,ats,t1,t2,tu,hop,hargs,ha1,ha2,hu1,hu2,hnu,hsz,hz,hbb,hx',hy',h0,hzl⟩:=Zk0 hck
 subst hbb
 have hr1:Rep g w _ (.sl t n sz row):=ZnZ (K2 M hx' rfl hx hp F.ds) hsl
 have hr2:Rep g w _ _:=K2 M hy' rfl hy hq F.ds
 obtain ⟨zv,hz1,hz2,hz3,ie,hie,hzz⟩:=Zdw (g:=g) (w:=w) hz
 have hsize:ie.size=sz:=by simpa [WW,hie] using hsz
 have hzlen:zv.cells.size=sz:=by have:=hz2.len; simp at this; omega
 have hby:P.bytesOf e=ie.bytes:=by simp [Program.bytesOf,hie]
 rw [hby] at hb
 obtain ⟨news,hn1,hn2⟩:=Zqv (P:=P) hr2 hel h0
 obtain ⟨v',w',g',t',a1,a2,a3,a4,a5,a6,a7⟩:=Zo9 (ty:=oo.type) hu1 hu2 hnu hie hzz hsize hzlen h0 M.st hok hr1 hn1 hn2 hb hbig
 have hne:∀ l cs,ZU L l=some cs→t≠.tip (ν l):=fun l cs hl ht=>by
  have:=M.locSt l cs hl
  rw [ht] at this
  simp [St.own,St.upd] at this
 have hsn:∀ l cs,ZU L l=some cs→s (ν l)=none:=fun l cs hl=>by
  cases hx:s (ν l) with
  | none=>rfl
  | some o=>have:=Zl (k:=n * sz) hok _ _ hx; rw [M.locSt l cs hl] at this; simp at this
 have mm:Yg g' ν w' tmps ρ L (s.own t' ((n + m) * sz)):=by
  refine ⟨a3,fun l cs hl=>(M.loc l cs hl).mono a2 (a6 (ν l) (M.loc l cs hl).lt (hne l cs hl)).1 (a6 (ν l) (M.loc l cs hl).lt (hne l cs hl)).2,fun l cs hl=>by rw [a2.keptEq]; exact M.locKept l cs hl,fun l cs hl=>?_,M.inj,fun t e he=>(M.env t e he).mono a2⟩
  cases t' with
  | tip b =>
   have:¬ ν l=b:=fun hb=>by
    rcases a7 b rfl with h1 | h1
    ·exact hne l cs hl (by rw [hb]; exact h1)
    ·have:=(M.loc l cs hl).lt; omega
   simp only [St.own,St.upd,this,if_false]; exact hsn l cs hl
  | _=>exact hsn l cs hl
 refine JL hN hoo hdst hd hw hnd (v:=v') (w':=w') (e:=.d (.sl t' (n + m) sz (QN n row row2))) ?_ a2 mm a5 (h t' a4 ops r k hr hkk)
 have hae:args = #[x',y']:=by apply Array.ext'; simpa using hargs
 have hats:∀ vs,Builtin.append_ ats oo.type vs=Builtin.append_ #[t1,t2] oo.type vs:=fun vs=>by
  unfold Builtin.append_; simp [ha1,ha2]
 unfold execOp
 simp only [hop,hae,resolve,invoke,builtin,Sem.run_bind,Sem.run_pure,Result.andThen_ok,List.map_toArray,List.map_cons,List.map_nil,hats,a1]
theorem Zjf {F:Fr P} {kp:Option (List Nat)} {dk:List Z4} {o:DOp} {fl:Bool} {os:List (DOp × Bool)} {ρ:Env} {L:Loc} {s:St} {B:List Rd} (hg:Yu ρ o.guard=some true) {e sz b:Nat} {z:List D} {x y:Opd} (hk:o.k = .append e sz b z x y)
  {p q:Prop} {t:Tok} {n m:Nat} {row row2:Nat→List D} {dy:D} {dx:D} (hx:YW ρ true x=some (p,.d dx)) (hsl:ZfS sz dx=some (t,n,row)) (hy:YW ρ true y=some (q,.d dy)) (hp:p) (hq:q) (hel:ZbI sz dy=some (m,row2)) (hok:t.okIn s)
  (hb:(n + m) * b≤140737488355328) (hbig:n + m≤big) (h:∀ t':Tok,t'.okIn s→Qx fl (s.own t (n * sz)) (s.own t' ((n + m) * sz)) L L B∧DOA F kp dk os (Wi ρ o.dst (.d (.sl t' (n + m) sz (QN n row row2)))) L (s.own t' ((n + m) * sz)) (Jn fl B)) :
  DOA F kp dk ((o,fl) :: os) ρ L (s.own t (n * sz)) B:=by
 refine Zej (fun e' s'=>∃ t':Tok,t'.okIn s∧e' = .d (.sl t' (n + m) sz (QN n row row2))∧s'=s.own t' ((n + m) * sz)) (by rw [hk]; rfl) (fun ρ' L' os' hag hcont=>?_) (fun e2 s2 ⟨t',h1,h2,h3⟩=>by subst h2; subst h3; exact h t' h1)
 have h1:YV ρ ρ' (Kl x):=fun t ht=>hag t (by simp [YO,hk,KX,ht])
 have h2:YV ρ ρ' (Kl y):=fun t ht=>hag t (by simp [YO,hk,KX,ht])
 have h3:YV ρ ρ' (ZdR o.guard):=fun t ht=>hag t (by simp [YO,ht])
 exact ZkU (by rw [Jm h3]; exact hg) hk (by rw [Wo h1]; exact hx) hsl (by rw [Wo h2]; exact hy) hp hq hel hok hb hbig fun t' ht'=>hcont _ _ ⟨t',ht',rfl,rfl⟩
end
end Go.DL
namespace Go.DL
open Go
def Jb (os:List DOp):List (DOp × Bool):=os.map fun o=>(o,false)
section
variable {P:Program}
def ZbX (F:Fr P) (kp:Option (List Nat)) (dk:List Z4) (os:List DOp) (ρ:Env) (L:Loc) (s:St):Prop:=∀ B,DOA F kp dk (Jb os) ρ L s B
theorem WB {F:Fr P} {order:List Nat} {os:List DOp} {ks:Option (List Nat)} {dk:List Z4} {ρ:Env} {L:Loc} {s:St} (h:ZbX F ks dk os ρ L s):ZT F (.code (.regD order (Jb os) ks) :: dk) ρ L s:=Wq (h [])
theorem Wj {F:Fr P} {ks:List Nat} {dk:List Z4}:∀ {os:List DOp} {ρ:Env} {L:Loc} {s:St},
  ZgV (fun ρ L s=>ZT F dk (QA ρ ks) (ZcT (QA ρ ks) L) s) (fun os ρ L s=>ZbX F (some ks) dk os ρ L s) os ρ L s→ZbX F (some ks) dk os ρ L s
 | [],ρ,L,s,h=>fun B=>ZnV h
 | o :: os,ρ,L,s,h=>by
  intro B
  simp only [ZgV] at h
  split at h
  ·rename_i sd ρ' L' s' hst
   refine ZiL hst h.1 ?_
   split
   ·exact Wj h.2 _
   ·exact ⟨trivial,Wj h.2 _⟩
  ·rename_i sd pre ρ' s' hst
   exact ZnU hst h.1 fun b hb=>⟨trivial,Wj (h.2 b hb) _⟩
  ·exact h B
theorem Zoe {F:Fr P} {kp:Option (List Nat)} {dk:List Z4} {o:DOp} {os:List DOp} {ρ:Env} {L:Loc} {s:St} (hg:Yu ρ o.guard=some true) {fx:Opd} {xs:List Opd} (hk:o.k = .call fx xs)
  {p q:Prop} {fd:D} {es:List E} {ds:List D} (hf:YW ρ true fx=some (q,.d fd)) (ha:KT ρ true xs=some (p,es)) (hds:Q3 es=some ds) (hp:p) (hq:q)
  {Ψ:Res→St→Prop} (hc:J0 P fd ds s Ψ)
  (hret:∀ d s',Ψ (.ret d) s'→ZbX F kp dk os (Wi ρ o.dst (.d d)) L s') (hpan:∀ d s',Ψ (.panic d) s'→QM F [] [] d s'):ZbX F kp dk (o :: os) ρ L s :=
 fun B=>ZeV hg hk hf ha hds hp hq hc (fun d s' h=>⟨trivial,hret d s' h _⟩) hpan
theorem ZgE {F:Fr P} {kp:Option (List Nat)} {dk:List Z4} {o:DOp} {os:List DOp} {ρ:Env} {L:Loc} {s:St} (hg:Yu ρ o.guard=some true) {fx:Opd} {xs:List Opd} (hk:o.k = .call fx xs)
  {p q:Prop} {fi:FuncId} {first caps:List D} {es:List E} {ds:List D} (hf:YW ρ true fx=some (q,.d (.fn (.func fi) first caps))) (ha:KT ρ true xs=some (p,es)) (hds:Q3 es=some ds) (hp:p) (hq:q)
  {Ψ:Res→St→Prop} (hc:Yf P fi (first++ds++caps) s Ψ)
  (hret:∀ d s',Ψ (.ret d) s'→ZbX F kp dk os (Wi ρ o.dst (.d d)) L s') (hpan:∀ d s',Ψ (.panic d) s'→QM F [] [] d s'):ZbX F kp dk (o :: os) ρ L s :=
 Zoe hg hk hf ha hds hp hq hc.V hret hpan
theorem Zod {F:Fr P} {kp:Option (List Nat)} {dk:List Z4} {o:DOp} {os:List DOp} {ρ:Env} {L:Loc} {s:St} (hg:Yu ρ o.guard=some true) {x:Opd} (hk:o.k = .panic x)
  {p:Prop} {t:TypeId} {d:D} (ha:YW ρ true x=some (p,.d (.iface t d))) (hp:p) (h:QM F [] [] (.iface t d) s):ZbX F kp dk (o :: os) ρ L s:=fun _=>Zo0 hg hk ha hp h
theorem ZfO {F:Fr P} {kp:Option (List Nat)} {dk:List Z4} {o:DOp} {os:List DOp} {ρ:Env} {L:Loc} {s:St} (hg:Yu ρ o.guard=some true) {fx:Opd} {xs:List Opd} (hk:o.k = .call fx xs)
  {p q:Prop} {fi:FuncId} {first caps:List D} {es:List E} {ds:List D} (hf:YW ρ true fx=some (q,.d (.fn (.func fi) first caps))) (ha:KT ρ true xs=some (p,es)) (hds:Q3 es=some ds) (hp:p) (hq:q)
  {d:D} (hc:ZR P fi (first++ds++caps) d) (h:ZbX F kp dk os (Wi ρ o.dst (.d d)) L s):ZbX F kp dk (o :: os) ρ L s:=fun _=>Kd hg hk hf ha hds hp hq hc (h _)
theorem Zna {F:Fr P} {kp:Option (List Nat)} {dk:List Z4} {o:DOp} {os:List DOp} {ρ:Env} {L:Loc} {s:St} {c:Bool} (hg:Yu ρ o.guard=some c) {fx:Opd} {xs:List Opd} (hk:o.k = .call fx xs)
  {p q:Prop} {fi:FuncId} {first caps:List D} {es:List E} {ds:List D} (hf:YW ρ c fx=some (q,.d (.fn (.func fi) first caps))) (ha:KT ρ c xs=some (p,es)) (hds:Q3 es=some ds)
  {d:D} (hc:c=true→p∧q∧ZR P fi (first++ds++caps) d) (h:ZbX F kp dk os (Wi ρ o.dst (.when c (.d d))) L s):ZbX F kp dk (o :: os) ρ L s:=fun _=>Za7 hg hk hf ha hds hc (h _)
theorem Zm9 {F:Fr P} {kp:Option (List Nat)} {dk:List Z4} {o:DOp} {os:List DOp} {ρ:Env} {L:Loc} {s:St} (hg:Yu ρ o.guard=some true) {e sz b:Nat} {z:List D} {x y:Opd} (hk:o.k = .append e sz b z x y)
  {p q:Prop} {t:Tok} {n m:Nat} {row row2:Nat→List D} {dy:D} {dx:D} (hx:YW ρ true x=some (p,.d dx)) (hsl:ZfS sz dx=some (t,n,row)) (hy:YW ρ true y=some (q,.d dy)) (hp:p) (hq:q) (hel:ZbI sz dy=some (m,row2)) (hok:t.okIn s)
  (hb:(n + m) * b≤140737488355328) (hbig:n + m≤big) (h:∀ t':Tok,t'.okIn s→ZbX F kp dk os (Wi ρ o.dst (.d (.sl t' (n + m) sz (QN n row row2)))) L (s.own t' ((n + m) * sz))) :
  ZbX F kp dk (o :: os) ρ L (s.own t (n * sz)):=fun _=>Zjf hg hk hx hsl hy hp hq hel hok hb hbig fun t' ht'=>⟨trivial,h t' ht' _⟩
end
end Go.DL
namespace Go.DL
open Go
def WM (l b:Nat):E→E
 | .d v=>.d v
 | .loc l' off=>if l'=l then .d (.ptr b off) else .loc l' off
 | .when c e=>.when c (WM l b e)
def YU (l b:Nat):Env→Env
 | []=>[]
 | (t,e) :: r=>(t,WM l b e) :: YU l b r
def delL (l:Nat):Loc→Loc
 | []=>[]
 | (k,c) :: r=>if k=l then delL l r else (k,c) :: delL l r
theorem Ziw (l b:Nat):∀ (ρ:Env) (t:Nat),WN (YU l b ρ) t=(WN ρ t).map (WM l b)
 | [],t=>rfl
 | (k,e) :: r,t=>by
  simp only [YU,WN]
  by_cases h:k=t
  ·simp [h]
  ·simp only [h,if_false]; exact Ziw l b r t
theorem Zf4 (l:Nat):∀ (L:Loc) (x:Nat),ZU (delL l L) x=if x=l then none else ZU L x
 | [],x=>by simp [delL,ZU]
 | (k,c) :: r,x=>by
  simp only [delL]
  by_cases h:k=l
  ·simp only [h,if_true,ZU,Zf4 l r x]
   by_cases hx:x=l
   ·simp [hx]
   ·simp [hx,show ¬ l=x from fun h=>hx h.symm]
  ·simp only [h,if_false,ZU,Zf4 l r x]
   by_cases hx:x=l
   ·subst hx; simp [h]
   ·simp [hx]
section
variable {P:Program}
theorem YQ.expose {g:G} {ν:Nat→Nat} {w:World} {L:Loc} {l:Nat} {v:Value} {e:E} (h:YQ g ν w L v e):YQ g ν w (delL l L) v (WM l (ν l) e):=by
 induction e with
 | d x=>exact h
 | loc l' off =>
  obtain ⟨⟨cs,hcs⟩,rfl⟩:=h
  simp only [WM]
  split
  ·rename_i hl; subst hl; exact Rep.ptr _ _
  ·rename_i hl; exact ⟨⟨cs,by rw [Zf4,if_neg hl]; exact hcs⟩,rfl⟩
 | when c e ih=>exact ⟨fun hc=>ih (h.1 hc),h.2⟩
theorem Yg.expose {g:G} {ν:Nat→Nat} {w:World} {tmps:Array Value} {ρ:Env} {L:Loc} {s:St} (m:Yg g ν w tmps ρ L s) {l:Nat} {cs:List D} (hl:ZU L l=some cs) :
  s (ν l)=none∧Yg g ν w tmps (YU l (ν l) ρ) (delL l L) (s.upd (ν l) (.cells cs)):=by
 have hsub:∀ l' cs',ZU (delL l L) l'=some cs'→l'≠l∧ZU L l'=some cs':=fun l' cs' h=>by
  rw [Zf4] at h
  split at h
  ·simp at h
  ·exact ⟨‹_›,h⟩
 refine ⟨m.locSt l cs hl,⟨m.st.updL (o:=.cells cs) (m.loc l cs hl) (m.locKept l cs hl),fun l' cs' h=>m.loc l' cs' (hsub l' cs' h).2,fun l' cs' h=>m.locKept l' cs' (hsub l' cs' h).2,fun l' cs' h=>?_,fun a b ca cb ha hb hab=>m.inj a b ca cb (hsub a ca ha).2 (hsub b cb hb).2 hab,fun t e he=>?_⟩⟩
 ·obtain ⟨h1,h2⟩:=hsub l' cs' h
  have:ν l'≠ν l:=fun hh=>h1 (m.inj l' l cs' cs h2 hl hh)
  simp only [St.upd,this,if_false]; exact m.locSt l' cs' h2
 ·rw [Ziw] at he
  simp only [ZuC] at he
  obtain ⟨e0,h1,rfl⟩:=he
  exact (m.env t e0 h1).expose
theorem YJ {F:Fr P} {dk:List Z4} {ρ:Env} {L:Loc} {s:St} (l:Nat) {cs:List D} (hl:ZU L l=some cs) (h:∀ b,s b=none→ZT F dk (YU l b ρ) (delL l L) (s.upd b (.cells cs))):ZT F dk ρ L s:=by
 intro k hk g ν w tmps hN m
 obtain ⟨h1,h2⟩:=m.expose hl
 exact h (ν l) h1 k hk g ν w tmps hN h2
def ZaE:List Nat→List D→Env→Env
 | t :: ts,a :: as9,ρ=>ZaE ts as9 ((t,.d a) :: ρ)
 | _,_,ρ=>ρ
def Zhh (P:Program) (c:Frame) (cs:List Frame) (Φ:Res→St→Prop):Zoj P where
 T g w m:=∃ e w',Zfo g w Φ e w'∧ZrR P m c cs e w'
 back g w m m' hs h:=by
  obtain ⟨e,w',a,b⟩:=h
  refine ⟨e,w',a,?_⟩
  cases e with
  | returned v=>exact Steps.trans hs b
  | panicked ch=>exact Steps.trans hs b
  | outgrown=>exact b.elim
 ext g w g' w' m hx h:=by
  obtain ⟨e,w2,⟨g2,s2,r,d1,d2,d3,d4⟩,b⟩:=h
  exact ⟨e,w2,⟨g2,s2,r,hx.trans d1,d2,d3,d4⟩,b⟩
def Zdn (P:Program) (an:Ann) (fn:FuncId) (N l:Nat) (c:Frame) (cs:List Frame) (Φ:Res→St→Prop):Fr P where
 T:=Zhh P c cs Φ
 b:={ (default:Frame) with fn,kind:=.normal,roundOf:=some l }
 cs:=c :: cs
 N:=N
 ds:=[]
 an:=an
def ZaB (F:Fr P) (l:Nat) (Φ:Res→St→Prop):Prop:=∃ an fn N c cs,F=Zdn P an fn N l c cs Φ
theorem Zbw {w:World} {r:Nat} {o:Go.Loop} (hb:w.heap[r]? = some (.loop o)):(getObj r).run P w = .ok (.loop o) w:=by
 simp [getObj,Sem.run,hb]
theorem Zc2 {w:World} {r:Nat} {o:Obj} {o':Go.Loop} (hb:w.heap[r]? = some (.loop o')):(setObj r o).run P w = .ok () { w with heap:=w.heap.setIfInBounds r o }:=by
 simp [setObj,Sem.run,hb]
theorem Zsr {w:World} {b:Nat} {o':Obj} (o:Obj) (hb:w.heap[b]? = some o'):({ w with heap:=w.heap.setIfInBounds b o }:World).heap[b]? = some o:=by
 have:=(Array.getElem?_eq_some_iff.1 hb).1
 simp [Array.getElem?_setIfInBounds,this]
theorem Yg.loopTo {g:G} {ν:Nat→Nat} {w:World} {tmps:Array Value} {ρ:Env} {L:Loc} {s:St} (m:Yg g ν w tmps ρ L s) {l:Nat} {r:Jc} {st st':LSt} (hs:s l=some (.loop r st)) {lp:Go.Loop} (hh:w.heap[l]? = some (.loop lp))
  (lp':Go.Loop) (h1:lp'.fn=lp.fn∧lp'.params=lp.params∧lp'.assign=lp.assign∧lp'.body=lp.body∧lp'.defers=lp.defers∧lp'.tmps=lp.tmps)
  (h2:match st' with | .ready=>lp'.state = .ready∧lp'.pending=none | .busy=>lp'.state = .busy | .done j=>lp'.state = .done∧lp'.pending=some j) :
  Ext g w g { w with heap:=w.heap.setIfInBounds l (.loop lp') }∧Yg g ν { w with heap:=w.heap.setIfInBounds l (.loop lp') } tmps ρ L (s.upd l (.loop r st')):=by
 obtain ⟨hp,l0,a1,a2,a3,a4,a5,a6,a7,a8,a9⟩:=m.st.obj l _ hs
 rw [hh] at a1
 simp only [Zuu,Obj.loop.injEq] at a1
 subst a1
 obtain ⟨b1,b2,b3,b4,b5,b6⟩:=h1
 have he:=ZcO (g:=g) (w:=w) l (.loop lp') (by simp [hdr,hh]) hp (m.st.kept l _ hs)
 refine ⟨he,m.named hs he (by simp) (fun c hc=>Za5 _ hc) ⟨hp,lp',Zsr _ hh,by rw [b1,a2],by rw [b2,a3],by rw [b3,a4],by rw [b4,a5],by rw [b5,a6],by rw [b6]; exact a7,fun t e ht=>by rw [b6]; exact (a8 t e ht).mono he,h2⟩⟩
theorem ZaB.begin {F:Fr P} {l:Nat} {Φ:Res→St→Prop} (hF:ZaB F l Φ) {dk:List Z4} {ρ:Env} {L:Loc} {s:St} {r:Jc} (hs:s l=some (.loop r .ready)) (h:ZT F dk ρ L (s.upd l (.loop r .busy))):ZT F (.beginR :: dk) ρ L s:=by
 obtain ⟨an,fn,N,c,cs,rfl⟩:=hF
 intro k hk
 cases hk with
 | beginR ht =>
  intro g ν w tmps hN m
  obtain ⟨hp,l0,a1,a2,a3,a4,a5,a6,a7,a8,a9,a10⟩:=m.st.obj l _ hs
  obtain ⟨he,m'⟩:=m.loopTo (st':=.busy) hs a1 { l0 with state:=.busy } ⟨rfl,rfl,rfl,rfl,rfl,rfl⟩ rfl
  have hrun:(Instr.beginRound l).run P w = .ok () { w with heap:=w.heap.setIfInBounds l (.loop { l0 with state:=.busy }) }:=by
   simp [Instr.beginRound,Instr.getLoop,Zbw a1,Zc2 a1,a9]
  refine (Zhh P c cs Φ).back _ _ _ _ (.one (stepR_beginRound rfl hrun)) ?_
  exact (Zhh P c cs Φ).ext _ _ _ _ _ he (h _ ht g ν _ tmps hN m')
theorem Zex {w:World} {l:Nat} {l0:Go.Loop} (h:w.heap[l]? = some (.loop l0)) (j:Option Code) :
  (Instr.endRound l j).run P w = .ok (.bool j.isNone) { w with heap:=w.heap.setIfInBounds l (.loop { l0 with state:=if j.isNone then .ready else .done,pending:=j }) }:=by
 simp [Instr.endRound,Instr.getLoop,Zbw h,Zc2 h]
theorem ZaB.fin {F:Fr P} {l:Nat} {Φ:Res→St→Prop} (hF:ZaB F l Φ) {ρ:Env} {L:Loc} {s s':St} {r:Jc} (hs:s l=some (.loop r .busy)) (hsub:s'.sub (s.upd l (.loop r .ready))) (hΦ:Φ (.ret (.bool true)) s'):ZT F [] ρ L s:=by
 obtain ⟨an,fn,N,c,cs,rfl⟩:=hF
 intro k hk
 cases hk
 intro g ν w tmps hN m
 obtain ⟨hp,l0,a1,_⟩:=m.st.obj l _ hs
 obtain ⟨he,m'⟩:=m.loopTo (st':=.ready) hs a1 { l0 with state:=.ready,pending:=none } ⟨rfl,rfl,rfl,rfl,rfl,rfl⟩ ⟨rfl,rfl⟩
 exact ⟨.returned (.bool true),_,⟨g,s',.ret (.bool true),he,m'.st.sub hsub,.bool true,hΦ⟩,.one (stepR_round_end rfl rfl (Zex a1 none))⟩
theorem ZaB.ret {F:Fr P} {l:Nat} {Φ:Res→St→Prop} (hF:ZaB F l Φ) {dk:List Z4} {ρ:Env} {L:Loc} {s s':St} {r:Jc} (hs:s l=some (.loop r .busy)) (hsub:s'.sub (s.upd l (.loop r (.done .ret)))) (hΦ:Φ (.ret (.bool false)) s') :
  ZT F (.code .ret :: dk) ρ L s:=by
 obtain ⟨an,fn,N,c,cs,rfl⟩:=hF
 intro k hk
 cases hk with
 | code hc ht =>
  obtain rfl:=Zpf hc
  intro g ν w tmps hN m
  obtain ⟨hp,l0,a1,_⟩:=m.st.obj l _ hs
  obtain ⟨he,m'⟩:=m.loopTo (st':=.done .ret) hs a1 { l0 with state:=.done,pending:=some .ret } ⟨rfl,rfl,rfl,rfl,rfl,rfl⟩ ⟨rfl,rfl⟩
  exact ⟨.returned (.bool false),_,⟨g,s',.ret (.bool false),he,m'.st.sub hsub,.bool false,hΦ⟩,.one (stepR_round_ret rfl rfl (Zex a1 (some .ret)))⟩
theorem ZaB.exit {F:Fr P} {l id:Nat} {Φ:Res→St→Prop} (hF:ZaB F l Φ) {dk:List Z4} {ρ:Env} {L:Loc} {s s':St} {r:Jc} (hx:Zax id dk=none) (hs:s l=some (.loop r .busy)) (hsub:s'.sub (s.upd l (.loop r (.done (.exit id)))))
  (hΦ:Φ (.ret (.bool false)) s'):ZT F (.code (.exit id) :: dk) ρ L s:=by
 obtain ⟨an,fn,N,c,cs,rfl⟩:=hF
 intro k hk
 cases hk with
 | code hc ht =>
  obtain rfl:=Zn0 hc
  intro g ν w tmps hN m
  obtain ⟨hp,l0,a1,_⟩:=m.st.obj l _ hs
  obtain ⟨he,m'⟩:=m.loopTo (st':=.done (.exit id)) hs a1 { l0 with state:=.done,pending:=some (.exit id) } ⟨rfl,rfl,rfl,rfl,rfl,rfl⟩ ⟨rfl,rfl⟩
  exact ⟨.returned (.bool false),_,⟨g,s',.ret (.bool false),he,m'.st.sub hsub,.bool false,hΦ⟩,.one (stepR_round_exit rfl rfl (ZbS ht hx) (Zex a1 (some (.exit id))))⟩
theorem ZaB.pan {F:Fr P} {l:Nat} {Φ:Res→St→Prop} (hF:ZaB F l Φ) {ρ:Env} {L:Loc} {d:D} {s s':St} (hsub:s'.sub s) (hΦ:Φ (.panic d) s') (hfn:∀ an fn N c cs,F=Zdn P an fn N l c cs Φ→∃ f,P.funcs[fn]? = some f):QM F ρ L d s:=by
 obtain ⟨an,fn,N,c,cs,rfl⟩:=hF
 intro g ν w v todo tmps hN m hr
 obtain ⟨f,hf⟩:=hfn an fn N c cs rfl
 refine ⟨.panicked [{ v,recovered:=false }],w,⟨g,s',.panic d,Ext.refl g w,m.st.sub hsub,⟨v,rfl,hr⟩,hΦ⟩,.one ?_⟩
 exact step_leave_panicked (P:=P) (fr:={ (Zdn P an fn N l c cs Φ).b.atR ⟨tmps,[]⟩ todo with mode:=.panicking [{ v,recovered:=false }] }) ⟨rfl,rfl,f,hf⟩
theorem Zkb {g:G} {ν:Nat→Nat} {w:World} {L:Loc} {s:St} {N:Nat}:∀ {ps:List Nat} {ds:List D} {vs:List Value} {tmps:Array Value} {ρ:Env},Yg g ν w tmps ρ L s→Wh (Rep g w) vs ds→ds.length=ps.length→(∀ t∈ps,t < N)→N≤tmps.size →
  N≤((ps.zip vs).foldl (fun tmps (x:Nat × Value)=>tmps.setIfInBounds x.1 x.2) tmps).size∧Yg g ν w ((ps.zip vs).foldl (fun tmps (x:Nat × Value)=>tmps.setIfInBounds x.1 x.2) tmps) (ZaE ps ds ρ) L s
 | [],_,_,tmps,ρ,m,_,_,_,hN=>by simpa [ZaE] using ⟨hN,m⟩
 | t :: ps,[],_,tmps,ρ,m,_,hl,_,_=>by simp at hl
 | t :: ps,d :: ds,v :: vs,tmps,ρ,m,.cons h1 h2,hl,hp,hN=>by
  have m':=m.put (t:=t) (v:=v) (e:=.d d) (by have:=hp t (by simp); omega) h1
  simpa [ZaE] using Zkb m' h2 (by simpa using hl) (fun u hu=>hp u (by simp [hu])) (by simpa using hN)
def Zcf:Env→Env
 | []=>[]
 | (t,e) :: r=>if (ZaK e).isEmpty then (t,e) :: Zcf r else Zcf r
def Zbe (ks:List Nat) (ρ:Env):Env:=Zcf (QA ρ ks)
theorem Zf3:∀ {ρ:Env} {t:Nat} {e:E},(ρ.map (·.1)).Nodup→WN (Zcf ρ) t=some e→WN ρ t=some e∧ZaK e=[]
 | [],t,e,_,h=>by simp [Zcf,WN] at h
 | (k,x) :: r,t,e,hn,h=>by
  simp only [List.map_cons,List.nodup_cons] at hn
  simp only [Zcf] at h
  split at h
  ·rename_i hx
   simp only [WN] at h ⊢
   by_cases hk:k=t
   ·simp only [hk,if_true,Zuu] at h ⊢; subst h; exact ⟨rfl,by simpa using hx⟩
   ·simp only [hk,if_false] at h ⊢; exact Zf3 hn.2 h
  ·obtain ⟨h1,h2⟩:=Zf3 hn.2 h
   refine ⟨?_,h2⟩
   have hkt:k≠t:=fun hk=>by
    subst hk
    have:=Zfh h1
    exact hn.1 (List.mem_map.2 ⟨_,this,rfl⟩)
   simp only [WN,hkt,if_false]; exact h1
theorem ZoK {g:G} {ν ν':Nat→Nat} {w:World} {L L':Loc} {v:Value} {e:E} (h:YQ g ν w L v e) (hl:ZaK e=[]):YQ g ν' w L' v e:=by
 induction e with
 | d x=>exact h
 | loc l o=>simp [ZaK] at hl
 | when c e ih=>exact ⟨fun hc=>ih (h.1 hc) hl,h.2⟩
def Fr.mark (F:Fr P) (q:Nat):Fr P:={ F with ds:=DD.def (.mark q) :: F.ds }
theorem ZkP {b:Frame} {a:Act} {k:List Item} {cs:List Frame} {w:World} {g:Operand} {ps:Array Tmp} {assign body:Code} {l:Nat} {mark:List Deferred} {w₁:World} {d:Deferred} {nx:Next} {fr:Frame}
  (he:(Instr.enterLoop b.fn a.tmps ps assign body b.roundOf).run P w = .ok (l,mark) w₁)
  (hres:(Deferred.ofValue (a.eval g) #[.func (.yield l) #[] #[]]).run P w₁ = .ok d w₁) (hinv:(invoke d.target d.args).run P w₁ = .ok nx w₁) (hnx:ZeZ P nx=some fr) :
  step P (lone (b.atR a (.code (.rangeFunc g ps assign body) :: k)) cs w) =
   .next (lone fr (b.atR { a with defers:=mark++a.defers } (.inRangeFunc l :: k) :: cs) w₁) :=
 step_lone_go (by
  have hev:=Frame.eval_atR b { a with defers:=mark++a.defers } (.inRangeFunc l :: k)
  simp only [Frame.atR] at hev
  have hres':Sem.run P (resolve ({ tmps:=a.tmps,defers:=mark++a.defers }:Act).eval { callee:=.value g,args:=#[.const (.func (.yield l) #[] #[])],argTypes:=#[] } 0) w₁ = .ok d w₁:=by
   simp only [resolve]
   have e1:({ tmps:=a.tmps,defers:=mark++a.defers }:Act).eval g=a.eval g:=by cases g <;> rfl
   have e2:Array.map ({ tmps:=a.tmps,defers:=mark++a.defers }:Act).eval #[Operand.const (Value.func (Fn.yield l) #[] #[])] = #[.func (.yield l) #[] #[]]:=by simp [Act.eval]
   rw [e1,e2]; exact hres
  cases nx <;> simp only [ZeZ,Zuu,reduceCtorEq] at hnx <;> subst hnx <;>
   simp [stepG,stepG.exec,Frame.atR,Sem.runT_eq,he,GStep.bare_after,stepG.apply,hev,Sem.run_bind,hres',hinv,Result.andThen])
def ZkX (F:Fr P) (l:Nat) (r:Jc) (dk:List Z4) (ρ:Env) (L:Loc) (s':St):Prop :=
 (s' l=some (.loop r .ready)∧ZT F dk ρ L (s'.del l))∨∃ j dj,s' l=some (.loop r (.done j))∧cc P F.an F.N j=some dj∧ZT F (.code dj :: dk) ρ L (s'.del l)
theorem Ziu {w:World} {l:Nat} {l0:Go.Loop} (h:w.heap[l]? = some (.loop l0)) (hb:l0.state≠.busy) :
  (Instr.endLoop l).run P w = .ok l0.pending { w with heap:=w.heap.setIfInBounds l (.loop { l0 with state:=.exhausted }) }:=by
 have:(l0.state == .busy)=false:=by
  cases hs:l0.state <;> first | rfl | exact absurd hs hb
 simp [Instr.endLoop,Instr.getLoop,Zbw h,Zc2 h,hb]
theorem ZoI {F:Fr P} {l:Nat} {r:Jc} {dk:List Z4} {k:List Item} {ρ:Env} {L:Loc} {g:G} {ν:Nat→Nat} {w:World} {tmps:Array Value} {s':St} (hk:Q1 P F.an F.N k dk) (hN:F.N≤tmps.size) (m:Yg g ν w tmps ρ L s')
  (h:ZkX F l r dk ρ L s'):F.T.T g w (lone (F.b.atR ⟨tmps,F.ds⟩ (.endRangeFunc l :: k)) F.cs w):=by
 rcases h with ⟨hs,h⟩ | ⟨j,dj,hs,hj,h⟩
 ·obtain ⟨hp,l0,a1,a2,a3,a4,a5,a6,a7,a8,a9,a10⟩:=m.st.obj l _ hs
  have he:=ZcO (g:=g) (w:=w) l (.loop { l0 with state:=.exhausted }) (by simp [hdr,a1]) hp (m.st.kept l _ hs)
  have m':=m.drop hs he (by simp) (fun c hc=>Za5 _ hc)
  have hrun:(Instr.endLoop l).run P w = .ok none { w with heap:=w.heap.setIfInBounds l (.loop { l0 with state:=.exhausted }) }:=by rw [Ziu a1 (by rw [a9]; simp)]; simp [a10]
  refine F.T.back _ _ _ _ (.one (stepR_endRangeFunc hrun)) ?_
  exact F.T.ext _ _ _ _ _ he (h k hk g ν _ tmps hN m')
 ·obtain ⟨hp,l0,a1,a2,a3,a4,a5,a6,a7,a8,a9,a10⟩:=m.st.obj l _ hs
  have he:=ZcO (g:=g) (w:=w) l (.loop { l0 with state:=.exhausted }) (by simp [hdr,a1]) hp (m.st.kept l _ hs)
  have m':=m.drop hs he (by simp) (fun c hc=>Za5 _ hc)
  have hrun:(Instr.endLoop l).run P w = .ok (some j) { w with heap:=w.heap.setIfInBounds l (.loop { l0 with state:=.exhausted }) }:=by rw [Ziu a1 (by rw [a9]; simp)]; simp [a10]
  refine F.T.back _ _ _ _ (.one (stepR_endRangeFunc hrun)) ?_
  exact F.T.ext _ _ _ _ _ he (h _ (.code hj hk) g ν _ tmps hN m')
theorem Ql.mark {F:Fr P} {rs:List RV} {Φ:Res→St→Prop} {dds:List DD} (hF:Ql F rs Φ dds) (q:Nat):Ql (F.mark q) rs Φ (.mark q :: dds):=by
 obtain ⟨an,f,df,cs,hf,hrs,rfl⟩:=hF
 exact ⟨an,f,df,cs,hf,hrs,rfl⟩
theorem Ql.roundOf {F:Fr P} {rs:List RV} {Φ:Res→St→Prop} {dds:List DD} (hF:Ql F rs Φ dds):F.b.roundOf=none:=by
 obtain ⟨an,f,df,cs,hf,hrs,rfl⟩:=hF
 rfl
end
end Go.DL
namespace Go.DL
open Go
section
variable {P:Program}
theorem Zph {op:Op} {f:Opd} {xs:List Opd} (h:ck P op=some (.defer f xs)):∃ f' args ats,op = .defer ⟨.value f',args,ats⟩∧WQ f'=some f∧Zcc args.toList=some xs:=by
 unfold ck at h
 split at h
 ·simp at h
 ·split at h <;> (try (simp at h; done))
  all_goals (try (repeat' (split at h <;> (try (simp at h; done)))))
  simp only [Zuu,K.defer.injEq] at h
  obtain ⟨rfl,rfl⟩:=h
  rename_i c _ _ f' hcal _ _ f xs hf hxs
  obtain ⟨callee,args,ats⟩:=c
  simp only at hcal
  exact ⟨f',args,ats,by rw [hcal],hf,hxs⟩
def Fr.defer (F:Fr P) (i:FuncId) (args caps:List D):Fr P:={ F with ds:=DD.def (.fn i args caps) :: F.ds }
theorem Ql.defer {F:Fr P} {rs:List RV} {Φ:Res→St→Prop} {dds:List DD} (hF:Ql F rs Φ dds) (i:FuncId) (args caps:List D):Ql (F.defer i args caps) rs Φ (.fn i args caps :: dds):=by
 obtain ⟨an,f,df,cs,hf,hrs,rfl⟩:=hF
 exact ⟨an,f,df,cs,hf,hrs,rfl⟩
theorem Zp4 {F:Fr P} (hround:F.b.roundOf=none) {kp:Option (List Nat)} {dk:List Z4} {o:DOp} {os:List DOp} {ρ:Env} {L:Loc} {s:St} (hg:o.guard=none) (hdn:o.dst=none) {fx:Opd} {xs:List Opd} (hk:o.k = .defer fx xs)
  {p q:Prop} {i:FuncId} {first caps:List D} {es:List E} {ds:List D} (hf:YW ρ true fx=some (q,.d (.fn (.func i) first caps))) (ha:KT ρ true xs=some (p,es)) (hds:Q3 es=some ds) (hp:p) (hq:q)
  (hr1:ZeH (first++ds)) (hr2:ZeH caps) (h:DO (F.defer i (first++ds) caps) kp dk os ρ L s):DO F kp dk (o :: os) ρ L s:=by
 refine Jt fun oo g ν w tmps ops j r k hoo hck hcg hdst hd hN m hr hkk=>?_
 have hw:=Qc m hcg (c:=true) (by rw [hg]; rfl)
 rw [hk] at hck
 obtain ⟨f',args,ats,hop,hf',hxs⟩:=Zph hck
 have hfr:Rep g w _ _:=K2 m hf' rfl hf hq F.ds
 have hargs:=Zar (Zen m rfl F.ds hxs ha hp) hds
 generalize hfv:(Act.mk tmps F.ds).eval f'=fv at hfr
 cases hfr with
 | fn _ fs cs' _ _ hn1 hn2 h1 h2 =>
 obtain ⟨as9,ha1,_,ha2⟩:=ZcA hr1
 obtain ⟨vs,hv1,_,hv2⟩:=ZcA hr2
 have e1:fs++args.toList.map (Act.mk tmps F.ds).eval=as9:=Zh2 ((K5 hn1 h1).append hargs) ha1
 have e2:cs'=vs:=Zh2 (K5 hn2 h2) hv1
 have hmap:(Array.map (Act.mk tmps F.ds).eval args)=(args.toList.map (Act.mk tmps F.ds).eval).toArray:=by apply Array.ext'; simp
 have hdd:DD.def (.fn i (first++ds) caps)={ target:=.fn (.func i) cs'.toArray,args:=fs.toArray++(args.toList.map (Act.mk tmps F.ds).eval).toArray }:=by
  simp only [DD.def,hv1,ha1,Option.getD_some,e2,← e1]; simp
 have hrun:(execOp (Act.mk tmps F.ds).eval oo).run P w = .ok (.defer (DD.def (.fn i (first++ds) caps))) w:=by
  rw [hdd]
  simp [execOp,hop,resolve,hfv,hmap,Deferred.ofValue]
 have hstep:step P (lone (F.b.atR ⟨tmps,F.ds⟩ (.inRegion ops (j :: r) :: k)) F.cs w) = .next (lone (F.b.atR ⟨tmps,(F.defer i (first++ds) caps).ds⟩ (.inRegion ops r :: k)) F.cs w):=by
  refine step_lone_go ?_
  rw [stepGR_op hoo hw,hround,Oper.semAt_none]
  have hfin:(F.b.atR ⟨tmps,(F.defer i (first++ds) caps).ds⟩ (.inRegion ops (j :: r) :: k)).finish undef=F.b.atR ⟨tmps,(F.defer i (first++ds) caps).ds⟩ (.inRegion ops r :: k):=by
   rw [Frame.finish_atR,hoo]
   simp [Act.put,hdst,hdn]
  rw [← hfin]
  simp [stepG.apply,hrun,Frame.atR,Fr.defer]
 refine F.T.back _ _ _ _ (.one hstep) ?_
 exact h ops r k hr hkk g ν w tmps hN m
def ZsF:D→Option Value
 | .iface t (.agg cs)=>(Zgq cs).map fun vs=>.iface t (.agg vs.toArray)
 | .iface t d=>(Zbo d).map (.iface t ·)
 | _=>none
def Zhg:D→Prop
 | .iface _ (.agg cs)=>ZeH cs
 | .iface _ d=>Zhf d
 | _=>False
theorem ZpO {d:D} (h:Zhg d):∃ v,(∀ g w,Rep g w v d)∧∀ g w v',Rep g w v' d→v'=v:=by
 cases d <;> simp only [Zhg] at h
 rename_i t d
 by_cases hd:∃ cs,d = .agg cs
 ·obtain ⟨cs,rfl⟩:=hd
  simp only [Zhg] at h
  obtain ⟨vs,h1,h2,h3⟩:=ZcA h
  refine ⟨.iface t (.agg vs.toArray),fun g w=>.iface t _ _ (.agg vs cs (h3 g w).len (h3 g w).get h2),fun g w v' hr=>?_⟩
  cases hr with
  | iface _ v _ hv =>
   cases hv with
   | agg vs' _ hn hg _=>rw [Zh2 (K5 hn hg) h1]
 ·have h':Zhf d:=by cases d <;> simp only [Zhg] at h <;> first | exact h | exact absurd ⟨_,rfl⟩ hd
  obtain ⟨v,h1,h2,h3⟩:=Zlm h'
  refine ⟨.iface t v,fun g w=>.iface t _ _ (h3 g w),fun g w v' hr=>?_⟩
  cases hr with
  | iface _ v'' _ hv=>rw [Zoa hv h1]
def ZbR (m:Option D) (v:Value) (rec:Bool):FrameMode :=
 match m with
 | none=>.returning
 | some _=>.panicking [{ v,recovered:=rec }]
def ZhL (P:Program) (cf:Frame) (cs:List Frame) (Ψ:Bool→St→Prop):Zoj P where
 T g w m:=∃ g' w' s' b,Ext g w g' w'∧KS g' s' w'∧Ψ b s'∧Steps P m (lone { cf with mode:=if b then .returning else cf.mode } cs w')
 back g w m m' hs h:=let ⟨g',w',s',b,a1,a2,a3,a4⟩:=h; ⟨g',w',s',b,a1,a2,a3,Steps.trans hs a4⟩
 ext g w g' w' m hx h:=let ⟨g2,w2,s',b,a1,a2,a3,a4⟩:=h; ⟨g2,w2,s',b,hx.trans a1,a2,a3,a4⟩
def JJ (P:Program) (an:Ann) (f:FuncId) (N:Nat) (cf:Frame) (cs:List Frame) (Ψ:Bool→St→Prop) (m:Option D) (v:Value) (rec:Bool):Fr P where
 T:=ZhL P cf cs Ψ
 b:={ (default:Frame) with fn:=f,kind:=.deferred,roundOf:=none }
 cs:={ cf with mode:=ZbR m v rec } :: cs
 N:=N
 ds:=[]
 an:=an
def ZeW (F:Fr P) (m:Option D) (Ψ:Bool→St→Prop) (rec:Bool):Prop :=
 ∃ an f df cf cs v,Go.DL.cf P an f=some df∧df.res=[]∧cf.mode=ZbR m v false∧(∀ d,m=some d→∀ g w,Rep g w v d)∧F=JJ P an f df.n cf cs Ψ m v rec
theorem ZgF {an:Ann} {i:FuncId} {df:DF} (hf:cf P an i=some df) (hres:df.res=[]) {args:List D} {m:Option D} {s:St} {Ψ:Bool→St→Prop} (hm:∀ d,m=some d→Zhg d)
  (h:∀ F:Fr P,ZeW F m Ψ false→ZT F [.code df.body] (Zbs 0 args) [] s):Zdc P i args m s Ψ:=by
 have hf0:=hf
 unfold cf at hf
 split at hf <;> (try (simp at hf; done))
 rename_i fn hfn
 split at hf <;> (try (simp at hf; done))
 rename_i c hc
 split at hf <;> (try (simp at hf; done))
 rename_i hname
 split at hf <;> simp at hf
 rename_i rs d hrs hd
 subst hf
 refine ⟨⟨fn,hfn,by simp [hc],by simpa using hname⟩,fun g w vs cfr cs hs ha hmode=>?_⟩
 obtain ⟨v,hv1,hv2⟩:∃ v,cfr.mode=ZbR m v false∧∀ d,m=some d→∀ g w,Rep g w v d:=by
  cases m with
  | none=>exact ⟨undef,hmode,fun d hd=>by simp at hd⟩
  | some d =>
   obtain ⟨v,h1,h2⟩:=hmode
   obtain ⟨v',r1,r2⟩:=ZpO (hm d rfl)
   have:=r2 g w v h2
   subst this
   exact ⟨v,h1,fun d' hd'=>by simp only [Zuu] at hd'; subst hd'; exact r1⟩
 have hcf:({ cfr with mode:=ZbR m v false }:Frame)=cfr:=by rw [← hv1]
 have henter:Frame.enter P i vs.toArray .deferred=(JJ P an i fn.ntmps cfr cs Ψ m v false).b.atR { tmps:=vs.toArray++Array.replicate (fn.ntmps - vs.length) undef,defers:=[] } [.code c]:=by
  simp [Frame.enter,Frame.atR,hfn,hc,JJ]
 have:=h _ ⟨an,i,_,cfr,cs,v,hf0,hres,hv1,hv2,rfl⟩ [.code c] (.code hd .nil) g (fun _=>0) w (vs.toArray++Array.replicate (fn.ntmps - vs.length) undef) (by simp [JJ]; omega) (ZiC hs ha _)
 obtain ⟨g',w',s',b,a1,a2,a3,a4⟩:=this
 refine ⟨g',w',s',b,a1,a2,a3,?_⟩
 rw [henter]
 have hcs:(JJ P an i fn.ntmps cfr cs Ψ m v false).cs=cfr :: cs:=by simp only [JJ,hcf]
 rw [hcs] at a4
 exact a4
theorem ZeW.end {F:Fr P} {m:Option D} {Ψ:Bool→St→Prop} {rec:Bool} (hF:ZeW F m Ψ rec) {ρ:Env} {L:Loc} {s s':St} (hs:s'.sub s) (hΨ:Ψ (m.isNone || rec) s') {todo:List Item} {g:G} {ν:Nat→Nat} {w:World} {tmps:Array Value}
  (M:Yg g ν w tmps ρ L s):F.T.T g w (lone { F.b.atR ⟨tmps,F.ds⟩ todo with mode:=.returning } F.cs w):=by
 obtain ⟨an,f,df,cfr,cs,v,hf,hres,hmode,hrep,rfl⟩:=hF
 unfold cf at hf
 split at hf <;> (try (simp at hf; done))
 rename_i fn hfn
 split at hf <;> (try (simp at hf; done))
 split at hf <;> (try (simp at hf; done))
 split at hf <;> simp at hf
 rename_i rs d hrs hd
 subst hf
 simp only at hres
 subst hres
 obtain ⟨rv,hrv1,_⟩:=Zkd M hrs (p:=True) (ds:=[]) rfl trivial
 refine ⟨g,w,s',m.isNone || rec,Ext.refl g w,M.st.sub hs,hΨ,?_⟩
 have hst:=step_going_returned (P:=P) (fr:={ (JJ P an f fn.ntmps cfr cs Ψ m v rec).b.atR ⟨tmps,[]⟩ todo with mode:=.returning }) (c:={ cfr with mode:=ZbR m v rec }) (cs:=cs) (w:=w) rfl ⟨rfl,rfl,fn,hfn,hrv1⟩
 have hset:({ ({ cfr with mode:=ZbR m v rec }:Frame) with mode:=settle (ZbR m v rec) }:Frame)={ cfr with mode:=if (m.isNone || rec) then .returning else cfr.mode }:=by
  cases m with
  | none=>rfl
  | some d =>
   cases rec
   ·simp only [Option.isNone_some,Bool.or_self,Bool.false_eq_true,if_false,hmode]; rfl
   ·rfl
 simp only at hst
 rw [hset] at hst
 exact .one hst
theorem ZeW.fin {F:Fr P} {m:Option D} {Ψ:Bool→St→Prop} {rec:Bool} (hF:ZeW F m Ψ rec) {ρ:Env} {L:Loc} {s s':St} (hs:s'.sub s) (hΨ:Ψ (m.isNone || rec) s'):ZT F [] ρ L s:=by
 have hF':=hF
 obtain ⟨an,f,df,cfr,cs,v,hf,hres,hmode,hrep,rfl⟩:=hF
 intro k hk
 cases hk
 intro g ν w tmps hN M
 refine (ZhL P cfr cs Ψ).back _ _ _ _ (.one (stepR_end rfl)) ?_
 exact hF'.end hs hΨ M
theorem Zjs {op:Op} (h:ck P op=some .recover):∃ args ats,op = .call ⟨.builtin .recover,args,ats⟩:=by
 unfold ck at h
 split at h
 ·simp at h
 ·split at h <;> (try (simp at h; done))
  all_goals (try (repeat' (split at h <;> (try (simp at h; done)))))
  rename_i c _ _ hcal
  obtain ⟨callee,args,ats⟩:=c
  simp only at hcal
  exact ⟨args,ats,by rw [hcal]⟩
theorem Zoh {F:Fr P} {d:D} {Ψ:Bool→St→Prop} (hF:ZeW F (some d) Ψ false) {kp:Option (List Nat)} {dk:List Z4} {o:DOp} {os:List DOp} {ρ:Env} {L:Loc} {s:St} (hg:o.guard=none) (hk:o.k = .recover)
  (h:∀ F':Fr P,ZeW F' (some d) Ψ true→DO F' kp dk os (Wi ρ o.dst (.d d)) L s):DO F kp dk (o :: os) ρ L s:=by
 obtain ⟨an,f,df,cfr,cs,v,hf,hres,hmode,hrep,rfl⟩:=hF
 refine Jt fun oo g ν w tmps ops j r k hoo hck hcg hdst hd hN m hr hkk=>?_
 have hw:=Qc m hcg (c:=true) (by rw [hg]; rfl)
 have hnd:=Qw hck (by rw [hk]; rfl)
 rw [hk] at hck
 obtain ⟨args,ats,hop⟩:=Zjs hck
 have hrun:(execOp (Act.mk tmps []).eval oo).run P w = .ok .recover w:=by
  simp [execOp,hop,resolve,invoke,builtin]
 have hstep:step P (lone ((JJ P an f df.n cfr cs Ψ (some d) v false).b.atR ⟨tmps,[]⟩ (.inRegion ops (j :: r) :: k)) (JJ P an f df.n cfr cs Ψ (some d) v false).cs w) =
   .next (lone ((JJ P an f df.n cfr cs Ψ (some d) v true).b.atR ((Act.mk tmps []).put oo.dst v) (.inRegion ops r :: k)) (JJ P an f df.n cfr cs Ψ (some d) v true).cs w):=by
  refine step_lone_go ?_
  rw [stepGR_op hoo hw,Oper.semAt_eq _ _ _ hnd]
  have hfin:((JJ P an f df.n cfr cs Ψ (some d) v false).b.atR ⟨tmps,[]⟩ (.inRegion ops (j :: r) :: k)).finish v=(JJ P an f df.n cfr cs Ψ (some d) v true).b.atR ((Act.mk tmps []).put oo.dst v) (.inRegion ops r :: k):=by
   rw [Frame.finish_atR,hoo]; rfl
  rw [← hfin]
  simp [stepG.apply,hrun,Frame.atR,JJ,tryRecover,ZbR]
 refine (ZhL P cfr cs Ψ).back _ _ _ _ (.one hstep) ?_
 obtain ⟨tmps',e1,e2,m'⟩:=ZfE m hN hd (v:=v) (e:=.d d) (hrep d rfl g w) []
 rw [hdst,e1]
 exact h _ ⟨an,f,df,cfr,cs,v,hf,hres,hmode,hrep,rfl⟩ ops r k hr hkk g ν w tmps' e2 m'
theorem Znb {F:Fr P} {Ψ:Bool→St→Prop} {rec:Bool} (hF:ZeW F none Ψ rec) {kp:Option (List Nat)} {dk:List Z4} {o:DOp} {os:List DOp} {ρ:Env} {L:Loc} {s:St} (hg:o.guard=none) (hk:o.k = .recover)
  (h:DO F kp dk os (Wi ρ o.dst (.d .niliface)) L s):DO F kp dk (o :: os) ρ L s:=by
 obtain ⟨an,f,df,cfr,cs,v,hf,hres,hmode,hrep,rfl⟩:=hF
 refine Jt fun oo g ν w tmps ops j r k hoo hck hcg hdst hd hN m hr hkk=>?_
 have hw:=Qc m hcg (c:=true) (by rw [hg]; rfl)
 have hnd:=Qw hck (by rw [hk]; rfl)
 rw [hk] at hck
 obtain ⟨args,ats,hop⟩:=Zjs hck
 have hrun:(execOp (Act.mk tmps []).eval oo).run P w = .ok .recover w:=by
  simp [execOp,hop,resolve,invoke,builtin]
 have hstep:step P (lone ((JJ P an f df.n cfr cs Ψ none v rec).b.atR ⟨tmps,[]⟩ (.inRegion ops (j :: r) :: k)) (JJ P an f df.n cfr cs Ψ none v rec).cs w) =
   .next (lone ((JJ P an f df.n cfr cs Ψ none v rec).b.atR ((Act.mk tmps []).put oo.dst .nilIface) (.inRegion ops r :: k)) (JJ P an f df.n cfr cs Ψ none v rec).cs w):=by
  refine step_lone_go ?_
  rw [stepGR_op hoo hw,Oper.semAt_eq _ _ _ hnd]
  have hfin:((JJ P an f df.n cfr cs Ψ none v rec).b.atR ⟨tmps,[]⟩ (.inRegion ops (j :: r) :: k)).finish .nilIface=(JJ P an f df.n cfr cs Ψ none v rec).b.atR ((Act.mk tmps []).put oo.dst .nilIface) (.inRegion ops r :: k):=by
   rw [Frame.finish_atR,hoo]; rfl
  rw [← hfin]
  simp [stepG.apply,hrun,Frame.atR,JJ,tryRecover,ZbR]
 refine (ZhL P cfr cs Ψ).back _ _ _ _ (.one hstep) ?_
 obtain ⟨tmps',e1,e2,m'⟩:=ZfE m hN hd (v:=.nilIface) (e:=.d .niliface) .niliface []
 rw [hdst,e1]
 exact h ops r k hr hkk g ν w tmps' e2 m'
end
end Go.DL
namespace Go.DL
open Go
theorem Zsa (n:Int):inR .i64 n↔-9223372036854775808≤n∧n≤9223372036854775807:=by
 simp [inR,IntKind.min,IntKind.max,IntKind.signed,IntKind.bits]
theorem Zsu (n:Int):inR .u8 n↔0≤n∧n≤255:=by
 simp [inR,IntKind.min,IntKind.max,IntKind.signed,IntKind.bits]
theorem Zsb (n:Int):inR .u32 n↔0≤n∧n≤4294967295:=by
 simp [inR,IntKind.min,IntKind.max,IntKind.signed,IntKind.bits]
theorem Zsc (n:Int):inR .u64 n↔0≤n∧n≤18446744073709551615:=by
 simp [inR,IntKind.min,IntKind.max,IntKind.signed,IntKind.bits]
theorem Zr9 (n:Int):inR .i32 n↔-2147483648≤n∧n≤2147483647:=by
 simp [inR,IntKind.min,IntKind.max,IntKind.signed,IntKind.bits]
theorem Zrt (a b:Bool):(if a=true then b else false)=(a && b):=by cases a <;> rfl
theorem Zsd (a b:Bool):(if a=true then true else b)=(a || b):=by cases a <;> rfl
theorem ZrX {d d':D} (h:d=d'):(J8 [d]).Le d':=h ▸ Zux d
theorem Yk {b b':Bool} (h:b=b'):(J8 [.bool b]).Le (.bool b'):=h ▸ Zux _
theorem YG {k:IntKind} {n m:Int} (h:n=m):(J8 [.int k n]).Le (.int k m):=h ▸ Zux _
theorem Zl3 {l m:List UInt8} (h:l=m):(J8 [.str l]).Le (.str m):=h ▸ Zux _
theorem Qm {l:List D} {d:D} (h:.tup l=d) (hl:J8 l = .tup l):(J8 l).Le d:=by rw [hl,h]; exact Zux _
theorem St.upd_same (s:St) (b:Nat) (o:KC):(s.upd b o) b=some o:=by simp [St.upd]
theorem St.upd_ne (s:St) {b c:Nat} (o:KC) (h:c≠b):(s.upd b o) c=s c:=by simp [St.upd,h]
theorem St.upd_upd (s:St) (b:Nat) (o o':KC):(s.upd b o).upd b o'=s.upd b o':=by
 funext c; simp only [St.upd]; by_cases h:c=b <;> simp [h]
theorem St.upd_comm (s:St) {b c:Nat} (o o':KC) (h:c≠b):(s.upd b o).upd c o'=(s.upd c o').upd b o:=by
 funext x; simp only [St.upd]
 by_cases h1:x=b
 ·subst h1; simp [Ne.symm h]
 ·simp [h1]
theorem St.sub_upd {s:St} {b:Nat} (o:KC) (h:s b=none):s.sub (s.upd b o):=fun c x hx=>by
 have:c≠b:=fun hc=>by rw [hc,h] at hx; simp at hx
 rw [St.upd_ne s o this]; exact hx
theorem St.sub_trans {s s' s'':St} (h:s.sub s') (h':s'.sub s''):s.sub s'':=fun b o ho=>h' b o (h b o ho)
inductive DWf:D→Prop where
 | int (k:IntKind) (n:Int) (h:inR k n):DWf (.int k n)
 | str (l:List UInt8) (h:l.length≤big):DWf (.str l)
 | agg (cs:List D) (h:∀ c∈cs,DWf c):DWf (.agg cs)
 | tup (cs:List D) (h:∀ c∈cs,DWf c):DWf (.tup cs)
 | sl (t:Tok) (n s:Nat) (row:Nat→List D) (h:n≤big) (hl:∀ i,i < n→(row i).length=s) (hr:∀ i,i < n→∀ c∈row i,DWf c):DWf (.sl t n s row)
 | ep (cs:List D) (o:Nat) (h:∀ c∈cs,DWf c):DWf (.ep cs o)
 | iface (t:TypeId) (d:D) (h:DWf d):DWf (.iface t d)
 | msl (b o n cap s:Nat) (h:n≤cap) (h':cap≤big):DWf (.msl b o n cap s)
 | fn (f:Fn) (a b:List D) (h:∀ c∈a,DWf c) (h':∀ c∈b,DWf c):DWf (.fn f a b)
 | other (d:D) (h:match d with | .int .. | .str _ | .agg _ | .tup _ | .sl .. | .ep .. | .iface .. | .msl .. | .fn ..=>False | _=>True):DWf d
theorem ZcH {Q:D→Prop} {vs:List Value} {ds:List D} (hn:vs.length=ds.length) (h:∀ (i:Nat) (v:Value) (d:D),vs[i]? = some v→ds[i]? = some d→Q d):∀ c∈ds,Q c:=by
 intro c hc
 obtain ⟨i,hi,rfl⟩:=ZuJ hc
 exact h i (vs[i]'(by omega)) _ (by simp [show i < vs.length by omega]) (by simp [hi])
theorem Rep.wf {g:G} {w:World} {v:Value} {d:D} (h:Rep g w v d):DWf d:=by
 induction h with
 | int k n h=>exact .int k n h
 | str s l h hb=>exact .str l hb
 | agg vs cells hn _ _ ih=>exact .agg _ (ZcH hn ih)
 | tup vs ds hn _ ih=>exact .tup _ (ZcH hn ih)
 | sl0 a t s row ht=>exact .sl t 0 s row (Nat.zero_le _) (fun i hi=>by omega) (fun i hi=>by omega)
 | sl b o n cap s row t f hl hc hp _ one ht hcap hb ih =>
  refine .sl t n s row (by omega) hl fun i hi c hcm=>?_
  obtain ⟨j,hj,rfl⟩:=ZuJ hcm
  exact ih i j _ hi (by simp [hj])
 | ep b o off cells f hc hp _ one ih =>
  refine .ep _ _ fun c hcm=>?_
  obtain ⟨j,hj,rfl⟩:=ZuJ hcm
  exact ih j _ (by simp [hj])
 | iface t v d _ ih=>exact .iface t d ih
 | msl b off n cap s h hb=>exact .msl _ _ _ _ _ h hb
 | mslx a b off s=>exact .msl _ _ _ _ _ (ZuO _) (Nat.zero_le _)
 | fn f fs cs df dc hnf hnc _ _ ihf ihc=>exact .fn f df dc (ZcH hnf ihf) (ZcH hnc ihc)
 | _=>exact .other _ trivial
theorem DWf.int_inv {k:IntKind} {n:Int} (h:DWf (.int k n)):inR k n:=by
 cases h with
 | int _ _ h=>exact h
 | other _ h=>exact h.elim
theorem DWf.str_inv {l:List UInt8} (h:DWf (.str l)):l.length≤big:=by
 cases h with
 | str _ h=>exact h
 | other _ h=>exact h.elim
theorem DWf.agg_inv {cs:List D} (h:DWf (.agg cs)):∀ c∈cs,DWf c:=by
 cases h with
 | agg _ h=>exact h
 | other _ h=>exact h.elim
theorem DWf.sl_inv {t:Tok} {n s:Nat} {row:Nat→List D} (h:DWf (.sl t n s row)):n≤big∧(∀ i,i < n→(row i).length=s)∧∀ i,i < n→∀ c∈row i,DWf c:=by
 cases h with
 | sl _ _ _ _ h1 h2 h3=>exact ⟨h1,h2,h3⟩
 | other _ h=>exact h.elim
theorem Zra {g:G} {w:World} {vs:List Value} {ds:List D} (h:Wh (Rep g w) vs ds):∀ d∈ds,DWf d:=ZcH h.len fun i v d hv hd=>(h.get i v d hv hd).wf
section
variable {P:Program}
theorem ZgD {f:FuncId} {args:List D} {s:St} {Φ:Res→St→Prop} (hf:∃ fn,P.funcs[f]? = some fn∧fn.body.isSome=true∧(fn.name == "runtime.NumGoroutine")=false) (h:(∀ a∈args,DWf a)→Yf P f args s Φ):Yf P f args s Φ :=
 ⟨hf,fun g w vs hs ha=>(h (Zra ha)).2 g w vs hs ha⟩
theorem ZlO {an:Ann} {f:FuncId} {df:DF} (hf:cf P an f=some df):∃ fn,P.funcs[f]? = some fn∧fn.body.isSome=true∧(fn.name == "runtime.NumGoroutine")=false:=by
 unfold cf at hf
 split at hf <;> (try (simp at hf; done))
 rename_i fn hfn
 split at hf <;> (try (simp at hf; done))
 rename_i c hc
 split at hf <;> (try (simp at hf; done))
 rename_i hname
 exact ⟨fn,hfn,by simp [hc],by simpa using hname⟩
theorem Zdx {an:Ann} {f:FuncId} {df:DF} (hf:cf P an f=some df) {args:List D} {s:St} {Φ:Res→St→Prop}
  (h:(∀ a∈args,DWf a)→∀ F:Fr P,Ql F df.res Φ []→ZT F [.code df.body] (Zbs 0 args) [] s):Yf P f args s Φ :=
 ZgD (ZlO hf) fun hw=>Z2 hf (h hw)
theorem WD {an:Ann} {f:FuncId} {df:DF} (hf:cf P an f=some df) {args:List D} {d:D}
  (h:(∀ a∈args,DWf a)→∀ (F:Fr P) (s:St),(∀ {dk:List Z4} {ρ:Env} {L:Loc} {s':St} {p:Prop} {ds:List D},QQ ρ L s' df.res=some (p,ds)→p→(J8 ds).Le d→s.sub s'→ZT F (.code .ret :: dk) ρ L s') →
   ZT F [.code df.body] (Zbs 0 args) [] s):ZR P f args d :=
 fun s=>ZgD (ZlO hf) fun hw=>Z2 hf fun F hF=>h hw F s fun h1 h2 h3 h4=>hF.ret d s h1 h2 h3 h4 ⟨rfl,rfl⟩
end
section
variable {P:Program}
def Y3 (P:Program) (f:FuncId) (args:List D) (s:St) (d:D) (s':St):Prop:=Yf P f args s fun r t=>r = .ret d∧t=s'
theorem Wn {F:Fr P} {kp:Option (List Nat)} {dk:List Z4} {o:DOp} {os:List DOp} {ρ:Env} {L:Loc} {s s':St} (hg:Yu ρ o.guard=some true) {fx:Opd} {xs:List Opd} (hk:o.k = .call fx xs)
  {p q:Prop} {f:FuncId} {first caps:List D} {es:List E} {ds:List D} (hf:YW ρ true fx=some (q,.d (.fn (.func f) first caps))) (ha:KT ρ true xs=some (p,es)) (hds:Q3 es=some ds) (hp:p) (hq:q)
  {d:D} (hc:Y3 P f (first++ds++caps) s d s') (h:DO F kp dk os (Wi ρ o.dst (.d d)) L s'):DO F kp dk (o :: os) ρ L s :=
 Yn hg hk hf ha hds hp hq hc (fun d' t ⟨h1,h2⟩=>by simp only [Res.ret.injEq] at h1; subst h1; subst h2; exact h) (fun d' t ⟨h1,_⟩=>by simp at h1)
theorem Zcr {F:Fr P} {kp:Option (List Nat)} {dk:List Z4} {o:DOp} {f:Bool} {os:List (DOp × Bool)} {ρ:Env} {L:Loc} {s s':St} {B:List Rd} (hg:Yu ρ o.guard=some true) {fx:Opd} {xs:List Opd} (hk:o.k = .call fx xs)
  {p q:Prop} {fi:FuncId} {first caps:List D} {es:List E} {ds:List D} (hf:YW ρ true fx=some (q,.d (.fn (.func fi) first caps))) (ha:KT ρ true xs=some (p,es)) (hds:Q3 es=some ds) (hp:p) (hq:q)
  {d:D} (hc:Y3 P fi (first++ds++caps) s d s') (hB:Qx f s s' L L B) (h:DOA F kp dk os (Wi ρ o.dst (.d d)) L s' (Jn f B)):DOA F kp dk ((o,f) :: os) ρ L s B :=
 Zah hg hk hf ha hds hp hq hc (fun d' t ⟨h1,h2⟩=>by simp only [Res.ret.injEq] at h1; subst h1; subst h2; exact ⟨hB,h⟩) (fun d' t ⟨h1,_⟩=>by simp at h1)
theorem Zo6 {F:Fr P} {kp:Option (List Nat)} {dk:List Z4} {o:DOp} {os:List DOp} {ρ:Env} {L:Loc} {s s':St} (hg:Yu ρ o.guard=some true) {fx:Opd} {xs:List Opd} (hk:o.k = .call fx xs)
  {p q:Prop} {f:D} {es:List E} {ds:List D} (hf:YW ρ true fx=some (q,.d f)) (ha:KT ρ true xs=some (p,es)) (hds:Q3 es=some ds) (hp:p) (hq:q)
  {d:D} (hc:J0 P f ds s fun r t=>r = .ret d∧t=s') (h:DO F kp dk os (Wi ρ o.dst (.d d)) L s'):DO F kp dk (o :: os) ρ L s :=
 ZbA hg hk hf ha hds hp hq hc (fun d' t ⟨h1,h2⟩=>by simp only [Res.ret.injEq] at h1; subst h1; subst h2; exact h) (fun d' t ⟨h1,_⟩=>by simp at h1)
theorem ZR.le {f:FuncId} {args:List D} {d d':D} (h:ZR P f args d) (e:d=d'):ZR P f args d':=e ▸ h
end
end Go.DL
namespace Go.DL
open Go Go.Proofs
def ZK.r0:=[qB 1 0,qb 2 false]
def ZK.r1:=[qa 7 1 1,ql 8 7,qk 9 .lenL 8,qe 10 .gtr 9 8,qm 11 10,qn 11 (qa 12 0 1),qn 11 (ql 13 12),qn 11 (qk 14 .lenS 13),qn 11 (qe 15 .gtr 14 60),qo 16 11 15,qm 17 16,qn 17 (qa 18 2 1),qn 17 (ql 19 18),qn 17 (qk 20 .lenS 19),qn 17 (qe 21 .gtr 20 60),qo 22 17 21]
def ZK.r2:=[qb 2 true]
def ZK.r3:=[qi 3 0]
def ZK.r4:=[qm 23 3,qa 24 1 1,ql 25 24,qk 26 .lenL 25,qd 27 .lss 23 26]
def ZK.r6:List DOp:=[qa 30 1 1,ql 31 30,qm 32 3,qX 33 2 31 32,qL 34 2 33,⟨some 4,none,.alloc [.str [],.nilsl]⟩,qS 2 4 34]
def ZK.r7:=[qa 35 1 4,ql 36 35,qk 37 .lenL 36,qe 38 .gtr 37 12,qm 39 38,qn 39 (qa 40 0 4),qn 39 (ql 41 40),qn 39 (qk 42 .lenS 41),qn 39 (qe 43 .gtr 42 60),qo 44 39 43]
def ZK.r8:=[qb 2 true]
def ZK.r9:=[qi 5 0]
def ZK.r10:=[qm 45 5,qa 46 1 4,ql 47 46,qk 48 .lenL 47,qd 49 .lss 45 48]
def ZK.r12:List DOp:=[qa 52 1 4,ql 53 52,qm 54 5,qX 55 15 53 54,qL 56 15 55,⟨some 6,none,.alloc [.str [],.int .i64 0,.int .i64 0,.bool false,.bool false,.int .i64 0,.int .i64 0,.int .i64 0,.nilsl,.str [],.str [],.str [],.nilsl,.int .i64 0,.int .i64 0]⟩,qS 15 6 56]
def ZK.r13:=[qa 57 12 6,ql 58 57,qk 59 .lenL 58,qe 60 .gtr 59 8,qm 61 60,qn 61 (qa 62 7 6),qn 61 (qa 63 1 62),qn 61 (ql 64 63),qn 61 (qk 65 .lenL 64),qn 61 (qe 66 .gtr 65 8),qo 67 61 66,qm 68 67,qn 68 (qa 69 0 6),qn 68 (ql 70 69),qn 68 (qk 71 .lenS 70),qn 68 (qe 72 .gtr 71 60),qo 73 68 72,qm 74 73,qn 74 (qa 75 9 6),qn 74 (ql 76 75),qn 74 (qk 77 .lenS 76),qn 74 (qe 78 .gtr 77 60),qo 79 74 78,qm 80 79,qn 80 (qa 81 10 6),qn 80 (ql 82 81),qn 80 (qk 83 .lenS 82),qn 80 (qe 84 .gtr 83 60),qo 85 80 84,qm 86 85,qn 86 (qa 87 11 6),qn 86 (ql 88 87),qn 86 (qk 89 .lenS 88),qn 86 (qe 90 .gtr 89 60),qo 91 86 90]
def ZK.r14:=[qb 2 true]
def ZK.r11:=[qm 50 5,qe 51 .add 50 1,qm 5 51]
def ZK.l1:DC:=.seq (.seq (qR ZK.r10 [1,3,4,5,49]) (qC 49 .skip (.exit 2))) (.seq (.block 3 (.seq (qR ZK.r12 [1,3,4,5,6]) (.seq (qR ZK.r13 [1,3,4,5,91]) (qC 91 (.seq (qR ZK.r14 [2]) .ret) .skip)))) (qR ZK.r11 [1,3,4,5]))
def ZK.r5:=[qm 28 3,qe 29 .add 28 1,qm 3 29]
def ZK.l0:DC:=.seq (.seq (qR ZK.r4 [1,3,27]) (qC 27 .skip (.exit 0))) (.seq (.block 1 (.seq (qR ZK.r6 [1,3,4]) (.seq (.seq (qR ZK.r7 [1,3,4,44]) (qC 44 (.seq (qR ZK.r8 [2]) .ret) .skip)) (.seq (qR ZK.r9 [1,3,4,5]) (.block 2 (.loop ZK.l1)))))) (qR ZK.r5 [1,3]))
def ZK.r15:=[qb 2 false]
abbrev ZK.id:Nat:=7
def ZK.an:Ann:=[(0,[1]),(1,[1,22]),(2,[2]),(3,[1,3]),(4,[1,3,27]),(5,[1,3]),(6,[1,3,4]),(7,[1,3,4,44]),(8,[2]),(9,[1,3,4,5]),(10,[1,3,4,5,49]),(11,[1,3,4,5]),(12,[1,3,4,5,6]),(13,[1,3,4,5,91]),(14,[2]),(15,[2])]
def ZK.body:DC:=.seq (qR ZK.r0 [1]) (.seq (.seq (qR ZK.r1 [1,22]) (qC 22 (.seq (qR ZK.r2 [2]) .ret) .skip)) (.seq (.seq (qR ZK.r3 [1,3]) (.block 0 (.loop ZK.l0))) (.seq (qR ZK.r15 [2]) .ret)))
def ZK.df:DF:=⟨92,[.tmp 2],ZK.body⟩
theorem ZK.ok:cf Zuv ZK.an ZK.id=some ZK.df:=by kernel_rfl
def Ya.r0:=[qb 0 false]
def Ya.r1:List DOp:=[qf 17 20 [.cst (.int .i64 3),.cst (.int .i64 8),.cst (.int .i64 0)],qf 18 20 [.cst (.int .i64 7),.cst (.int .i64 8),.cst (.int .i64 0)],⟨some 1,none,.alloc [.str [],.nilsl,.str []]⟩,⟨some 2,none,.alloc [.str [],.nilsl,.str []]⟩,qS 3 1 17,qS 3 2 18]
def Ya.r2:=[qL 20 3 1,qL 21 3 2,qf 22 9 [.tmp 20,.tmp 21],qm 19 22,qx 23 0 19,qx 24 1 19,qm 3 23,qm 4 24]
def Ya.r3:=[qL 26 3 2,qL 27 3 1,qf 28 9 [.tmp 26,.tmp 27],qm 25 28,qx 29 0 25,qx 30 1 25,qm 5 29,qm 6 30]
def Ya.r4:List DOp:=[qL 32 3 2,qL 33 3 1,qf 34 10 [.tmp 32,.tmp 33],qm 31 34,qx 35 0 31,qx 36 1 31,qx 37 2 31,⟨some 7,none,.alloc [.str [],.int .i64 0]⟩,qS 2 7 35,qm 8 36,qm 9 37]
def Ya.r5:=[(qL 39 3 1,false),(qf 40 20 [.cst (.int .i64 3),.cst (.int .i64 16),.cst (.int .i64 1)],true),(qf 41 11 [.tmp 39,.tmp 40],false),(qm 38 41,false),(qx 42 0 38,false),(qx 43 1 38,false),(qm 10 42,false),(qm 11 43,false)]
def Ya.r6:=[qm 44 3,qk 45 .not 44,qm 46 45,qn 46 (qm 47 5),qo 48 46 47,qm 49 48,qn 49 (qm 50 8),qn 49 (qk 51 .not 50),qo 52 49 51,qm 53 52,qn 53 (qm 54 11),qn 53 (qk 55 .not 54),qo 56 53 55,qm 57 56,qn 57 (qm 58 4),qn 57 (qf 59 14 [.tmp 58]),qn 57 (qm 60 6),qn 57 (qf 61 14 [.tmp 60]),qn 57 (qd 62 .add 59 61),qn 57 (qm 63 9),qn 57 (qf 64 14 [.tmp 63]),qn 57 (qd 65 .add 62 64),qn 57 (qe 66 .neq 65 0),qo 67 57 66,qm 68 67,qn 68 (qL 69 2 7),qn 68 ⟨some 70,none,.q (.build [.str [],.int .i64 0] [(0,1),(1,1)]) [.cst (.str [110]),.cst (.int .i64 6)]⟩,qn 68 ⟨some 71,none,.q (.bin .neq (some (.cells [(0,.str),(1,.int)]))) [.tmp 69,.tmp 70]⟩,qo 72 68 71,qm 73 72,qn 73 (qm 74 10),qn 73 ⟨some 75,none,.q (.build [.str [],.int .i64 0] [(0,1),(1,1)]) [.cst (.str [110]),.cst (.int .i64 5)]⟩,qn 73 ⟨some 76,none,.q (.build [.str [],.int .i64 0] [(0,1),(1,1)]) [.cst (.str [98]),.cst (.int .i64 8)]⟩,qn 73 ⟨some 77,none,.bsl 2 2 [.str [],.int .i64 0] [0,1] [.tmp 75,.tmp 76]⟩,qn 73 (qf 78 15 [.tmp 74,.tmp 77]),qn 73 (qk 79 .not 78),qo 80 73 79]
def Ya.r7:=[qb 0 false]
def Ya.r8:List DOp:=[qf 81 20 [.cst (.int .i64 3),.cst (.int .i64 8),.cst (.int .i64 0)],⟨some 12,none,.alloc [.str [],.nilsl,.str []]⟩,qS 3 12 81]
def Ya.r9:List (DOp × Bool):=[(qa 82 1 12,false),(ql 83 82,false),(qa 84 1 12,false),(ql 85 84,false),(⟨some 86,none,.q (.iaddr 2) [.tmp 85,.cst (.int .i64 0)]⟩,false),(qa 87 1 86,false),(ql 88 87,false),(⟨some 89,none,.q (.build [.str [],.int .i64 0,.int .i64 0,.bool false,.bool false,.int .i64 0,.int .i64 0,.int .i64 0,.nilsl,.str [],.str [],.str [],.nilsl,.int .i64 0,.int .i64 0] [(0,1),(1,1),(2,1)]) [.cst (.str [99]),.cst (.int .i64 1),.cst (.int .i64 8)]⟩,false),(⟨some 90,none,.bsl 1 15 [.str [],.int .i64 0,.int .i64 0,.bool false,.bool false,.int .i64 0,.int .i64 0,.int .i64 0,.nilsl,.str [],.str [],.str [],.nilsl,.int .i64 0,.int .i64 0] [0] [.tmp 89]⟩,false),(⟨some 91,none,.append 54 15 176 [.str [],.int .i64 0,.int .i64 0,.bool false,.bool false,.int .i64 0,.int .i64 0,.int .i64 0,.nilsl,.str [],.str [],.str [],.nilsl,.int .i64 0,.int .i64 0] (.tmp 88) (.tmp 90)⟩,true),(⟨some 92,none,.q (.iaddr 2) [.tmp 83,.cst (.int .i64 0)]⟩,false),(qa 93 1 92,false),(qs 93 91,false)]
def Ya.r10:List DOp:=[qL 95 3 1,qL 96 3 12,qf 97 10 [.tmp 95,.tmp 96],qm 94 97,qx 98 0 94,qx 99 1 94,qx 100 2 94,⟨some 13,none,.alloc [.str [],.int .i64 0]⟩,qS 2 13 98,qm 8 99,qm 14 100]
def Ya.r11:List DOp:=[qL 102 3 1,qL 103 3 2,qL 104 3 1,⟨some 105,none,.bsl 3 3 [.str [],.nilsl,.str []] [0,1,2] [.tmp 102,.tmp 103,.tmp 104]⟩,qf 106 18 [.tmp 105],qm 101 106,qx 107 0 101,qx 108 1 101,qm 15 107,qm 16 108]
def Ya.r12:=[qm 109 8,qm 110 109,qy 110 (qL 111 2 13),qy 110 ⟨some 112,none,.q (.build [.str [],.int .i64 0] [(1,1)]) [.cst (.int .i64 2)]⟩,qy 110 ⟨some 113,none,.q (.bin .eql (some (.cells [(0,.str),(1,.int)]))) [.tmp 111,.tmp 112]⟩,qO 114 110 113,qm 115 114,qy 115 (qm 116 15),qy 115 (qe 117 .eql 116 1),qO 118 115 117,qm 119 118,qy 119 (qm 120 14),qy 119 (qf 121 14 [.tmp 120]),qy 119 (qm 122 16),qy 119 (qf 123 14 [.tmp 122]),qy 119 (qd 124 .add 121 123),qy 119 (qe 125 .eql 124 0),qO 126 119 125,qm 0 126]
abbrev Ya.id:Nat:=8
def Ya.an:Ann:=[(0,[]),(1,[1,2]),(2,[1,2,3,4]),(3,[1,2,3,4,5,6]),(4,[1,2,3,4,5,6,7,8,9]),(5,[1,2,3,4,5,6,7,8,9,10,11]),(6,[1,2,80]),(7,[0]),(8,[1,2,12]),(9,[1,2,12]),(10,[1,2,8,13,14]),(11,[8,13,14,15,16]),(12,[0]),(1000005,[0,1,2,3,4,5,6,7]),(1000009,[0,1,2,3,4,5,6,7,8,9,10,11,12]),(2000005,[1]),(2000009,[9])]
def Ya.body:DC:=.seq (qR Ya.r0 []) (.seq (qR Ya.r1 [1,2]) (.seq (qR Ya.r2 [1,2,3,4]) (.seq (qR Ya.r3 [1,2,3,4,5,6]) (.seq (qR Ya.r4 [1,2,3,4,5,6,7,8,9]) (.seq (.regD [0,1,2,3,4,5,6,7] Ya.r5 (some [1,2,3,4,5,6,7,8,9,10,11])) (.seq (.seq (qR Ya.r6 [1,2,80]) (qC 80 (.seq (qR Ya.r7 [0]) .ret) .skip)) (.seq (qR Ya.r8 [1,2,12]) (.seq (.regD [0,1,2,3,4,5,6,7,8,9,10,11,12] Ya.r9 (some [1,2,12])) (.seq (qR Ya.r10 [1,2,8,13,14]) (.seq (qR Ya.r11 [8,13,14,15,16]) (.seq (qR Ya.r12 [0]) .ret)))))))))))
def Ya.df:DF:=⟨127,[.tmp 0],Ya.body⟩
theorem Ya.ok:cf Zuv Ya.an Ya.id=some Ya.df:=by kernel_rfl
def W3.r0:=[qB 2 0,qB 3 1,qb 4 false,qi 5 0]
def W3.r1:List DOp:=[qL 10 3 2,qL 11 3 3,qf 12 10 [.tmp 10,.tmp 11],qm 9 12,qx 13 0 9,qx 14 1 9,qx 15 2 9,⟨some 6,none,.alloc [.str [],.int .i64 0]⟩,qS 2 6 13,qm 7 14,qm 8 15]
def W3.r2:=[qm 16 7,qk 17 .not 16,qm 18 17,qy 18 (qm 19 8),qy 18 (qe 20 .eql 19 0),qO 21 18 20,qm 22 8,qm 4 21,qm 5 22]
abbrev W3.id:Nat:=9
def W3.an:Ann:=[(0,[2,3]),(1,[7,8]),(2,[4,5])]
def W3.body:DC:=.seq (qR W3.r0 [2,3]) (.seq (qR W3.r1 [7,8]) (.seq (qR W3.r2 [4,5]) .ret))
def W3.df:DF:=⟨23,[.tmp 4,.tmp 5],W3.body⟩
theorem W3.ok:cf Zuv W3.an W3.id=some W3.df:=by kernel_rfl
def Yl.r0:List DOp:=[qB 2 0,qB 3 1,⟨some 4,none,.alloc [.str [],.int .i64 0]⟩,⟨some 5,none,.alloc [.bool false]⟩,qi 6 0]
def Yl.r1:=[qL 8 3 2,qf 9 21 [.tmp 8],qk 10 .not 9,qm 11 10,qn 11 (qL 12 3 3),qn 11 (qf 13 21 [.tmp 12]),qn 11 (qk 14 .not 13),qo 15 11 14]
def Yl.r2:List DOp:=[qL 16 2 4,qS 2 4 16,⟨none,none,.store1 (.tmp 5) (.cst (.bool false))⟩,qi 6 2]
def Yl.r3:=[qL 17 3 2,qL 18 3 3,qf 19 22 [.tmp 17,.tmp 18]]
def Yl.r4:List DOp:=[⟨some 7,none,.alloc [.str [],.int .i64 0]⟩,qS 2 7 20]
def Yl.r5:List DOp:=[qL 21 2 7,qS 2 4 21,⟨none,none,.store1 (.tmp 5) (.cst (.bool true))⟩]
def Yl.a0:DC:=qR Yl.r4 [4,5,7]
def Yl.b0:DC:=.block 1 (.seq (qR Yl.r5 [4,5]) (.exit 0))
def Yl.r6:=[(qL 22 2 4,false),(ql 23 5,false),(qS 2 4 22,true),(qs 5 23,false),(qi 6 0,false)]
abbrev Yl.id:Nat:=10
def Yl.an:Ann:=[(0,[2,3,4,5,20]),(1,[2,3,4,5,15,20]),(2,[4,5,6]),(3,[4,5,19,20]),(4,[4,5,7]),(5,[4,5]),(6,[4,5,6]),(1000006,[0,1,2,3,4]),(2000006,[2])]
def Yl.body:DC:=.seq (qR Yl.r0 [2,3,4,5,20]) (.scope (.seq (.seq (qR Yl.r1 [2,3,4,5,15,20]) (qC 15 (.seq (qR Yl.r2 [4,5,6]) .ret) .skip)) (.seq (.label 0) (.seq (.seq (qR Yl.r3 [4,5,19,20]) (.block 0 (.rangeF (.tmp 19) [20] Yl.a0 Yl.b0))) (.seq (.regD [0,1,2,3,4] Yl.r6 (some [4,5,6])) .ret)))))
def Yl.df:DF:=⟨24,[.cellN 4 2,.cell1 5,.tmp 6],Yl.body⟩
theorem Yl.ok:cf Zuv Yl.an Yl.id=some Yl.df:=by kernel_rfl
def Ym.r0:List DOp:=[qB 2 0,qB 3 1,⟨some 4,none,.alloc [.nilsl]⟩,⟨some 5,none,.alloc [.bool false]⟩]
def Ym.r1:=[qL 10 3 2,qL 11 3 3,qf 12 16 [.tmp 10,.tmp 11],qm 6 12]
def Ym.r2:List DOp:=[qm 13 6,⟨some 14,none,.q (.bin .eql (some .fn)) [.tmp 13,.cst (.nilfn)]⟩]
def Ym.r3:List DOp:=[⟨none,none,.store1 (.tmp 4) (.cst (.nilsl))⟩,⟨none,none,.store1 (.tmp 5) (.cst (.bool false))⟩]
def Ym.r4:List DOp:=[⟨some 7,none,.alloc [.nilsl]⟩]
def Ym.r5:=[qm 15 6]
def Ym.r6:=[qm 8 16]
def Ym.r7:List DOp:=[⟨some 9,none,.alloc [.str [],.int .i64 0]⟩,qS 2 9 17]
def Ym.r8:=[qm 18 8,ql 19 7,qk 20 .lenL 19,qd 21 .neq 18 20]
def Ym.r9:List DOp:=[⟨none,none,.store1 (.tmp 4) (.cst (.nilsl))⟩,⟨none,none,.store1 (.tmp 5) (.cst (.bool false))⟩]
def Ym.r10:List DOp:=[ql 22 7,qL 23 2 9,⟨some 24,none,.bsl 1 2 [.str [],.int .i64 0] [0] [.tmp 23]⟩,⟨some 25,none,.append 32 2 24 [.str [],.int .i64 0] (.tmp 22) (.tmp 24)⟩,qs 7 25]
def Ym.a0:DC:=.seq (qR Ym.r6 [4,5,7,8,16,17]) (qR Ym.r7 [4,5,7,8,9,16,17])
def Ym.b0:DC:=.block 1 (.seq (.seq (qR Ym.r8 [4,5,7,9,16,17,21]) (qC 21 (.seq (qR Ym.r9 [4,5]) .ret) .skip)) (qR Ym.r10 [4,5,7,16,17]))
def Ym.r11:List DOp:=[ql 26 7,qs 4 26,⟨none,none,.store1 (.tmp 5) (.cst (.bool true))⟩]
abbrev Ym.id:Nat:=11
def Ym.an:Ann:=[(0,[2,3,4,5,16,17]),(1,[4,5,6,16,17]),(2,[4,5,6,14,16,17]),(3,[4,5]),(4,[4,5,6,7,16,17]),(5,[4,5,7,15,16,17]),(6,[4,5,7,8,16,17]),(7,[4,5,7,8,9,16,17]),(8,[4,5,7,9,16,17,21]),(9,[4,5]),(10,[4,5,7,16,17]),(11,[4,5])]
def Ym.body:DC:=.seq (qR Ym.r0 [2,3,4,5,16,17]) (.seq (qR Ym.r1 [4,5,6,16,17]) (.seq (.seq (qR Ym.r2 [4,5,6,14,16,17]) (qC 14 (.seq (qR Ym.r3 [4,5]) .ret) .skip)) (.seq (qR Ym.r4 [4,5,6,7,16,17]) (.seq (.seq (qR Ym.r5 [4,5,7,15,16,17]) (.block 0 (.rangeF (.tmp 15) [16,17] Ym.a0 Ym.b0))) (.seq (qR Ym.r11 [4,5]) .ret)))))
def Ym.df:DF:=⟨27,[.cell1 4,.cell1 5],Ym.body⟩
theorem Ym.ok:cf Zuv Ym.an Ym.id=some Ym.df:=by kernel_rfl
def Qg.r0:=[qB 1 0,qb 2 false]
def Qg.r1:List DOp:=[qL 6 3 1,qf 7 23 [.tmp 6],qm 5 7,qx 8 0 5,qx 9 1 5,⟨some 3,none,.alloc [.int .i64 0,.int .i64 0,.int .i64 0]⟩,qS 3 3 8,qm 4 9]
def Qg.r2:=[qm 10 4,qk 11 .not 10,qm 2 11]
abbrev Qg.id:Nat:=12
def Qg.an:Ann:=[(0,[1]),(1,[4]),(2,[2])]
def Qg.body:DC:=.seq (qR Qg.r0 [1]) (.seq (qR Qg.r1 [4]) (.seq (qR Qg.r2 [2]) .ret))
def Qg.df:DF:=⟨12,[.tmp 2],Qg.body⟩
theorem Qg.ok:cf Zuv Qg.an Qg.id=some Qg.df:=by kernel_rfl
def KQ.r0:List DOp:=[qB 2 0,qB 3 1,⟨some 4,none,.q .mv [.cst (.nilsl)]⟩]
def KQ.r1:=[qa 6 2 2,ql 7 6,qa 8 2 3,ql 9 8,qd 10 .neq 7 9]
def KQ.r2:List DOp:=[⟨some 11,none,.q (.build [.str [],.int .i64 0] [(1,1)]) [.cst (.int .i64 1)]⟩,⟨some 12,none,.bsl 1 2 [.str [],.int .i64 0] [0] [.tmp 11]⟩,qm 4 12]
def KQ.r3:List DOp:=[qL 13 3 2,qL 14 3 3,⟨some 15,none,.q (.build [.str [],.nilsl,.str [],.str [],.nilsl,.str [],.nilsl,.nilsl] [(0,3),(3,3)]) [.tmp 13,.tmp 14]⟩,qB 16 15,qm 5 16]
def KQ.r4:=[qm 17 5,qa 18 2 2,ql 19 18,qa 20 2 3,ql 21 20,qf 22 24 [.tmp 17,.tmp 19,.tmp 21,.cst (.str [])]]
def KQ.r5:=[qm 23 5,qk 24 .nilck 23,qa 25 7 24,ql 26 25,qm 4 26]
abbrev KQ.id:Nat:=13
def KQ.an:Ann:=[(0,[2,3]),(1,[2,3,10]),(2,[4]),(3,[2,3,5]),(4,[5]),(5,[4])]
def KQ.body:DC:=.seq (qR KQ.r0 [2,3]) (.seq (.seq (qR KQ.r1 [2,3,10]) (qC 10 (.seq (qR KQ.r2 [4]) .ret) .skip)) (.seq (qR KQ.r3 [2,3,5]) (.seq (qR KQ.r4 [5]) (.seq (qR KQ.r5 [4]) .ret))))
def KQ.df:DF:=⟨27,[.tmp 4],KQ.body⟩
theorem KQ.ok:cf Zuv KQ.an KQ.id=some KQ.df:=by kernel_rfl
def QE.r0:=[qi 2 0]
def QE.r1:=[qm 3 0,qm 2 3]
abbrev QE.id:Nat:=14
def QE.an:Ann:=[(0,[0]),(1,[2])]
def QE.body:DC:=.seq (qR QE.r0 [0]) (.seq (qR QE.r1 [2]) .ret)
def QE.df:DF:=⟨4,[.tmp 2],QE.body⟩
theorem QE.ok:cf Zuv QE.an QE.id=some QE.df:=by kernel_rfl
def Yx.r0:=[qb 4 false]
def Yx.r1:=[qm 6 0,qk 7 .lenL 6,qm 8 1,qk 9 .lenL 8,qd 10 .neq 7 9]
def Yx.r2:=[qb 4 false]
def Yx.r3:=[qi 5 0]
def Yx.r4:=[qm 11 5,qm 12 0,qk 13 .lenL 12,qd 14 .lss 11 13]
def Yx.r6:List DOp:=[qm 17 0,qm 18 5,qX 19 2 17 18,qL 20 2 19,qm 21 1,qm 22 5,qX 23 2 21 22,qL 24 2 23,⟨some 25,none,.q (.bin .neq (some (.cells [(0,.str),(1,.int)]))) [.tmp 20,.tmp 24]⟩]
def Yx.r7:=[qb 4 false]
def Yx.r5:=[qm 15 5,qe 16 .add 15 1,qm 5 16]
def Yx.l0:DC:=.seq (.seq (qR Yx.r4 [0,1,5,14]) (qC 14 .skip (.exit 0))) (.seq (.block 1 (.seq (.regD [0,1,2,3,4,5,6,7,8] (Jb Yx.r6) (some [0,1,5,25])) (qC 25 (.seq (qR Yx.r7 [4]) .ret) .skip))) (qR Yx.r5 [0,1,5]))
def Yx.r8:=[qb 4 true]
abbrev Yx.id:Nat:=15
def Yx.an:Ann:=[(0,[0,1]),(1,[0,1,10]),(2,[4]),(3,[0,1,5]),(4,[0,1,5,14]),(5,[0,1,5]),(6,[0,1,5,25]),(7,[4]),(8,[4]),(1000006,[0,1,2,3,4,5,6,7,8])]
def Yx.body:DC:=.seq (qR Yx.r0 [0,1]) (.seq (.seq (qR Yx.r1 [0,1,10]) (qC 10 (.seq (qR Yx.r2 [4]) .ret) .skip)) (.seq (.seq (qR Yx.r3 [0,1,5]) (.block 0 (.loop Yx.l0))) (.seq (qR Yx.r8 [4]) .ret)))
def Yx.df:DF:=⟨26,[.tmp 4],Yx.body⟩
theorem Yx.ok:cf Zuv Yx.an Yx.id=some Yx.df:=by kernel_rfl
def WO.r0:List DOp:=[qB 2 0,qB 3 1,⟨some 4,none,.q .mv [.cst (.nilfn)]⟩]
def WO.r1:List DOp:=[⟨some 5,none,.q .mv [.cst (.nilsl)]⟩]
def WO.r2:=[qL 6 3 2,qf 7 21 [.tmp 6],qm 8 7,qy 8 (qL 9 3 3),qy 8 (qf 10 21 [.tmp 9]),qO 11 8 10]
def WO.r3:=[qL 12 3 2,qL 13 3 3,qf 14 22 [.tmp 12,.tmp 13],qf 15 25 [.tmp 14],qm 5 15]
def WO.r4:=[qm 16 5,qf 17 26 [.tmp 16],qm 4 17]
abbrev WO.id:Nat:=16
def WO.an:Ann:=[(0,[2,3]),(1,[2,3,5]),(2,[2,3,5,11]),(3,[5]),(4,[4])]
def WO.body:DC:=.seq (qR WO.r0 [2,3]) (.seq (qR WO.r1 [2,3,5]) (.seq (.seq (qR WO.r2 [2,3,5,11]) (qC 11 (qR WO.r3 [5]) .skip)) (.seq (qR WO.r4 [4]) .ret)))
def WO.df:DF:=⟨18,[.tmp 4],WO.body⟩
theorem WO.ok:cf Zuv WO.an WO.id=some WO.df:=by kernel_rfl
def Zw.r0:List DOp:=[⟨some 2,none,.q .mv [.cst (.nilsl)]⟩,qi 3 0]
def Zw.r1:List DOp:=[⟨some 4,none,.q .mv [.cst (.nilsl)]⟩]
def Zw.r2:=[qm 12 0,qk 13 .lenL 12,qi 14 0]
def Zw.r3:=[qd 15 .lss 14 13]
def Zw.r4:List DOp:=[qX 16 3 12 14,qL 17 3 16,⟨some 6,none,.alloc [.str [],.nilsl,.str []]⟩,qS 3 6 17]
def Zw.r5:List DOp:=[qm 18 0,qk 19 .lenL 18,⟨some 20,none,.mkslice 4 1 1 [.bool false] (.tmp 19) (.tmp 19)⟩,qm 7 20]
def Zw.r6:=[qm 21 0,qk 22 .lenL 21,qi 23 0]
def Zw.r7:=[qd 24 .lss 23 22]
def Zw.r8:List DOp:=[qm 25 23,qX 26 3 21 23,qL 27 3 26,⟨some 9,none,.alloc [.str [],.nilsl,.str []]⟩,qm 8 25,qS 3 9 27]
def Zw.r9:=[qL 29 3 6,qL 30 3 9,qf 31 9 [.tmp 29,.tmp 30],qm 28 31,qx 32 0 28,qx 33 1 28,qm 10 32,qm 11 33]
def Zw.r10:=[qm 34 11,qe 35 .neq 34 0]
def Zw.r11:List DOp:=[qm 36 11,⟨some 2,none,.q .mv [.cst (.nilsl)]⟩,qm 3 36]
def Zw.r12:=[qm 37 7,qm 38 8,qm 39 10,qX 40 1 37 38,qs 40 39]
def Zw.r13:=[qe 41 .add 23 1,qm 23 41]
def Zw.l1:DC:=.seq (qR Zw.r7 [0,4,6,7,12,13,14,21,22,23,24]) (.seq (qC 24 .skip (.exit 2)) (.seq (.block 3 (.seq (qR Zw.r8 [0,4,6,7,8,9,12,13,14,21,22,23]) (.seq (qR Zw.r9 [0,4,6,7,8,10,11,12,13,14,21,22,23]) (.seq (.seq (qR Zw.r10 [0,4,6,7,8,10,11,12,13,14,21,22,23,35]) (qC 35 (.seq (qR Zw.r11 [2,3]) .ret) .skip)) (qR Zw.r12 [0,4,6,7,12,13,14,21,22,23]))))) (qR Zw.r13 [0,4,6,7,12,13,14,21,22,23])))
def Zw.r14:List DOp:=[qm 42 4,qm 43 7,⟨some 44,none,.bsl 1 1 [.nilsl] [0] [.tmp 43]⟩,⟨some 45,none,.append 62 1 24 [.nilsl] (.tmp 42) (.tmp 44)⟩,qm 4 45]
def Zw.r15:=[qe 46 .add 14 1,qm 14 46]
def Zw.l0:DC:=.seq (qR Zw.r3 [0,4,12,13,14,15]) (.seq (qC 15 .skip (.exit 0)) (.seq (.block 1 (.seq (qR Zw.r4 [0,4,6,12,13,14]) (.seq (qR Zw.r5 [0,4,6,7,12,13,14]) (.seq (.seq (qR Zw.r6 [0,4,6,7,12,13,14,21,22,23]) (.block 2 (.loop Zw.l1))) (qR Zw.r14 [0,4,12,13,14]))))) (qR Zw.r15 [0,4,12,13,14])))
def Zw.r16:=[qm 47 4,qm 2 47,qi 3 0]
abbrev Zw.id:Nat:=17
def Zw.an:Ann:=[(0,[0]),(1,[0,4]),(2,[0,4,12,13,14]),(3,[0,4,12,13,14,15]),(4,[0,4,6,12,13,14]),(5,[0,4,6,7,12,13,14]),(6,[0,4,6,7,12,13,14,21,22,23]),(7,[0,4,6,7,12,13,14,21,22,23,24]),(8,[0,4,6,7,8,9,12,13,14,21,22,23]),(9,[0,4,6,7,8,10,11,12,13,14,21,22,23]),(10,[0,4,6,7,8,10,11,12,13,14,21,22,23,35]),(11,[2,3]),(12,[0,4,6,7,12,13,14,21,22,23]),(13,[0,4,6,7,12,13,14,21,22,23]),(14,[0,4,12,13,14]),(15,[0,4,12,13,14]),(16,[2,3])]
def Zw.body:DC:=.seq (qR Zw.r0 [0]) (.seq (qR Zw.r1 [0,4]) (.seq (.seq (qR Zw.r2 [0,4,12,13,14]) (.block 0 (.loop Zw.l0))) (.seq (qR Zw.r16 [2,3]) .ret)))
def Zw.df:DF:=⟨48,[.tmp 2,.tmp 3],Zw.body⟩
theorem Zw.ok:cf Zuv Zw.an Zw.id=some Zw.df:=by kernel_rfl
def ZP.r0:=[qi 2 0,qi 3 0]
def ZP.r1:=[qm 8 0,qf 9 17 [.tmp 8],qm 7 9,qx 10 0 7,qx 11 1 7,qm 4 10,qm 5 11]
def ZP.r2:=[qm 12 5,qe 13 .neq 12 0]
def ZP.r3:=[qm 14 5,qi 2 0,qm 3 14]
def ZP.r4:List DOp:=[qm 15 0,qk 16 .lenL 15,qe 17 .sub 16 1,⟨some 6,none,.alloc [.int .i64 0]⟩,qs 6 17]
def ZP.r5:=[ql 18 6,qe 19 .geq 18 0]
def ZP.r7:List DOp:=[qm 22 4,⟨some 23,none,.q (.mkfn (.func 28) 0) [.tmp 6]⟩,qf 24 27 [.tmp 22,.tmp 23],qk 25 .not 24]
def ZP.r8:=[ql 26 6,qm 2 26,qi 3 0]
def ZP.r9:=[ql 27 6]
def ZP.r10:List DOp:=[⟨some 6,none,.alloc [.int .i64 0]⟩,qs 6 27]
def ZP.r6:=[ql 20 6,qe 21 .sub 20 1,qs 6 21]
def ZP.l0:DC:=.seq (.seq (qR ZP.r5 [4,6,19]) (qC 19 .skip (.exit 0))) (.seq (.block 1 (.seq (qR ZP.r7 [4,6,25]) (qC 25 (.seq (qR ZP.r8 [2,3]) .ret) .skip))) (.seq (.seq (qR ZP.r9 [4,27]) (qR ZP.r10 [4,6])) (qR ZP.r6 [4,6])))
def ZP.r11:=[qi 2 0,qi 3 9]
abbrev ZP.id:Nat:=18
def ZP.an:Ann:=[(0,[0]),(1,[0,4,5]),(2,[0,4,5,13]),(3,[2,3]),(4,[4,6]),(5,[4,6,19]),(6,[4,6]),(7,[4,6,25]),(8,[2,3]),(9,[4,27]),(10,[4,6]),(11,[2,3])]
def ZP.body:DC:=.seq (qR ZP.r0 [0]) (.seq (qR ZP.r1 [0,4,5]) (.seq (.seq (qR ZP.r2 [0,4,5,13]) (qC 13 (.seq (qR ZP.r3 [2,3]) .ret) .skip)) (.seq (.seq (qR ZP.r4 [4,6]) (.block 0 (.loop ZP.l0))) (.seq (qR ZP.r11 [2,3]) .ret))))
def ZP.df:DF:=⟨28,[.tmp 2,.tmp 3],ZP.body⟩
theorem ZP.ok:cf Zuv ZP.an ZP.id=some ZP.df:=by kernel_rfl
def Y6.r0:List DOp:=[⟨some 6,none,.alloc [.str [],.nilsl,.str []]⟩]
def Y6.r1:List DOp:=[qm 9 1,qm 10 0,⟨some 11,none,.q (.build [.str [],.int .i64 0,.int .i64 0,.bool false,.bool false,.int .i64 0,.int .i64 0,.int .i64 0,.nilsl,.str [],.str [],.str [],.nilsl,.int .i64 0,.int .i64 0] [(0,1),(1,1),(2,1),(6,1)]) [.cst (.str [110]),.cst (.int .i64 1),.tmp 9,.tmp 10]⟩,⟨some 7,none,.alloc [.str [],.int .i64 0,.int .i64 0,.bool false,.bool false,.int .i64 0,.int .i64 0,.int .i64 0,.nilsl,.str [],.str [],.str [],.nilsl,.int .i64 0,.int .i64 0]⟩,qS 15 7 11]
def Y6.r2:List DOp:=[qm 12 2,⟨some 13,none,.q (.build [.str [],.int .i64 0] [(0,1),(1,1)]) [.cst (.str [110]),.cst (.int .i64 1)]⟩,⟨some 14,none,.bsl 1 2 [.str [],.int .i64 0] [0] [.tmp 13]⟩,⟨some 15,none,.q (.build [.int .i64 0,.nilsl] [(0,1),(1,1)]) [.tmp 12,.tmp 14]⟩,⟨some 16,none,.q (.build [.str [],.int .i64 0,.int .i64 0,.bool false,.bool false,.int .i64 0,.int .i64 0,.int .i64 0,.nilsl,.str [],.str [],.str [],.nilsl,.int .i64 0,.int .i64 0] [(0,1),(1,1),(7,2)]) [.cst (.str [98]),.cst (.int .i64 4),.tmp 15]⟩,⟨some 8,none,.alloc [.str [],.int .i64 0,.int .i64 0,.bool false,.bool false,.int .i64 0,.int .i64 0,.int .i64 0,.nilsl,.str [],.str [],.str [],.nilsl,.int .i64 0,.int .i64 0]⟩,qS 15 8 16]
def Y6.r3:List DOp:=[qL 17 15 7,qL 18 15 8,⟨some 19,none,.bsl 2 15 [.str [],.int .i64 0,.int .i64 0,.bool false,.bool false,.int .i64 0,.int .i64 0,.int .i64 0,.nilsl,.str [],.str [],.str [],.nilsl,.int .i64 0,.int .i64 0] [0,1] [.tmp 17,.tmp 18]⟩,⟨some 20,none,.q (.build [.str [],.nilsl] [(0,1),(1,1)]) [.cst (.str [109]),.tmp 19]⟩,⟨some 21,none,.bsl 1 2 [.str [],.nilsl] [0] [.tmp 20]⟩,⟨some 22,none,.q (.build [.str [],.nilsl,.str []] [(0,1),(1,1),(2,1)]) [.cst (.str [100]),.tmp 21,.cst (.str [109])]⟩,qS 3 6 22]
abbrev Y6.id:Nat:=20
def Y6.an:Ann:=[(0,[0,1,2,6]),(1,[2,6,7]),(2,[6,7,8]),(3,[6])]
def Y6.body:DC:=.seq (qR Y6.r0 [0,1,2,6]) (.seq (qR Y6.r1 [2,6,7]) (.seq (qR Y6.r2 [6,7,8]) (.seq (qR Y6.r3 [6]) .ret)))
def Y6.df:DF:=⟨23,[.cellN 6 3],Y6.body⟩
theorem Y6.ok:cf Zuv Y6.an Y6.id=some Y6.df:=by kernel_rfl
def Kb.r0:=[qB 1 0,qb 2 false]
def Kb.r1:List DOp:=[qL 6 3 1,qf 7 29 [.tmp 6],qm 5 7,qx 8 0 5,qx 9 1 5,⟨some 3,none,.alloc [.int .i64 0,.int .i64 0,.int .i64 0]⟩,qS 3 3 8,qm 4 9]
def Kb.r2:=[qm 10 4,qk 11 .not 10,qm 2 11]
abbrev Kb.id:Nat:=21
def Kb.an:Ann:=[(0,[1]),(1,[4]),(2,[2])]
def Kb.body:DC:=.seq (qR Kb.r0 [1]) (.seq (qR Kb.r1 [4]) (.seq (qR Kb.r2 [2]) .ret))
def Kb.df:DF:=⟨12,[.tmp 2],Kb.body⟩
theorem Kb.ok:cf Zuv Kb.an Kb.id=some Kb.df:=by kernel_rfl
def Wv.r0:List DOp:=[qB 2 0,qB 3 1,⟨some 4,none,.q .mv [.cst (.nilfn)]⟩]
def Wv.r1:List DOp:=[⟨some 5,none,.q (.mkfn (.func 30) 0) [.tmp 2,.tmp 3]⟩,qm 4 5]
abbrev Wv.id:Nat:=22
def Wv.an:Ann:=[(0,[2,3]),(1,[4])]
def Wv.body:DC:=.seq (qR Wv.r0 [2,3]) (.seq (qR Wv.r1 [4]) .ret)
def Wv.df:DF:=⟨6,[.tmp 4],Wv.body⟩
theorem Wv.ok:cf Zuv Wv.an Wv.id=some Wv.df:=by kernel_rfl
def Zn.r0:List DOp:=[qB 1 0,⟨some 2,none,.alloc [.int .i64 0,.int .i64 0,.int .i64 0]⟩,qb 3 false]
def Zn.r1:=[qa 11 0 1,ql 12 11,qf 13 32 [.tmp 12],qk 14 .not 13]
def Zn.r2:List DOp:=[⟨some 15,none,.q (.build [.int .i64 0,.int .i64 0,.int .i64 0] [(0,1),(1,1),(2,1)]) [.cst (.int .i64 (-1)),.cst (.int .i64 (-1)),.cst (.int .i64 1)]⟩,qS 3 2 15,qb 3 true]
def Zn.r3:=[qa 16 1 1,ql 17 16,qk 18 .lenL 17,qe 19 .lss 18 1,qm 20 19,qn 20 (qa 21 1 1),qn 20 (ql 22 21),qn 20 (qk 23 .lenL 22),qn 20 (qe 24 .gtr 23 60),qo 25 20 24]
def Zn.r4:List DOp:=[⟨some 26,none,.q (.build [.int .i64 0,.int .i64 0,.int .i64 0] [(0,1),(1,1),(2,1)]) [.cst (.int .i64 (-1)),.cst (.int .i64 (-1)),.cst (.int .i64 3)]⟩,qS 3 2 26,qb 3 true]
def Zn.r5:List DOp:=[qa 27 1 1,ql 28 27,qk 29 .lenL 28,⟨some 30,none,.mkslice 3 1 8 [.int .i64 0] (.tmp 29) (.tmp 29)⟩,qm 4 30]
def Zn.r6:=[qi 5 0]
def Zn.r7:=[qm 31 5,qa 32 1 1,ql 33 32,qk 34 .lenL 33,qd 35 .lss 31 34]
def Zn.r9:List DOp:=[qa 38 1 1,ql 39 38,qm 40 5,qX 41 2 39 40,qL 42 2 41,⟨some 6,none,.alloc [.str [],.nilsl]⟩,qS 2 6 42]
def Zn.r10:=[qa 43 0 6,ql 44 43,qf 45 32 [.tmp 44],qk 46 .not 45]
def Zn.r11:List DOp:=[qm 47 5,⟨some 48,none,.q (.build [.int .i64 0,.int .i64 0,.int .i64 0] [(0,1),(1,1),(2,1)]) [.tmp 47,.cst (.int .i64 (-1)),.cst (.int .i64 1)]⟩,qS 3 2 48,qb 3 true]
def Zn.r12:=[qL 49 3 1,qa 50 0 6,ql 51 50,qm 52 5,qf 53 33 [.tmp 49,.tmp 51,.tmp 52],qe 54 .geq 53 0]
def Zn.r13:List DOp:=[qm 55 5,⟨some 56,none,.q (.build [.int .i64 0,.int .i64 0,.int .i64 0] [(0,1),(1,1),(2,1)]) [.tmp 55,.cst (.int .i64 (-1)),.cst (.int .i64 2)]⟩,qS 3 2 56,qb 3 true]
def Zn.r14:=[qa 57 1 6,ql 58 57,qk 59 .lenL 58,qe 60 .lss 59 1,qm 61 60,qn 61 (qa 62 1 6),qn 61 (ql 63 62),qn 61 (qk 64 .lenL 63),qn 61 (qe 65 .gtr 64 40),qo 66 61 65]
def Zn.r15:List DOp:=[qm 67 5,⟨some 68,none,.q (.build [.int .i64 0,.int .i64 0,.int .i64 0] [(0,1),(1,1),(2,1)]) [.tmp 67,.cst (.int .i64 (-1)),.cst (.int .i64 3)]⟩,qS 3 2 68,qb 3 true]
def Zn.r16:=[qi 7 0]
def Zn.r17:=[qm 69 7,qa 70 1 6,ql 71 70,qk 72 .lenL 71,qd 73 .lss 69 72]
def Zn.r19:=[qL 76 3 1,qm 77 5,qm 78 7,qf 79 34 [.tmp 76,.tmp 77,.tmp 78],qm 8 79]
def Zn.r20:=[qm 80 8,qe 81 .neq 80 0]
def Zn.r21:List DOp:=[qm 82 5,qm 83 7,qm 84 8,⟨some 85,none,.q (.build [.int .i64 0,.int .i64 0,.int .i64 0] [(0,1),(1,1),(2,1)]) [.tmp 82,.tmp 83,.tmp 84]⟩,qS 3 2 85,qb 3 true]
def Zn.r18:=[qm 74 7,qe 75 .add 74 1,qm 7 75]
def Zn.l1:DC:=.seq (.seq (qR Zn.r17 [1,2,4,5,6,7,73]) (qC 73 .skip (.exit 2))) (.seq (.block 3 (.seq (qR Zn.r19 [1,2,4,5,6,7,8]) (.seq (qR Zn.r20 [1,2,4,5,6,7,8,81]) (qC 81 (.seq (qR Zn.r21 [2,3]) .ret) .skip)))) (qR Zn.r18 [1,2,4,5,6,7]))
def Zn.r22:=[qL 86 2 6,qf 87 35 [.tmp 86],qm 9 87]
def Zn.r23:=[qi 10 0]
def Zn.r24:=[qm 88 10,qm 89 9,qk 90 .lenL 89,qd 91 .lss 88 90]
def Zn.r26:List (DOp × Bool):=[(qm 94 4,false),(qm 95 5,false),(qm 96 4,false),(qm 97 5,false),(qX 98 1 96 97,false),(ql 99 98,false),(qm 100 4,false),(qL 101 3 1,false),(qm 102 9,false),(qm 103 10,false),(qX 104 1 102 103,false),(ql 105 104,false),(qm 106 5,false),(qf 107 33 [.tmp 101,.tmp 105,.tmp 106],true),(qX 108 1 100 107,false),(ql 109 108,false),(⟨some 110,none,.q .max [.tmp 99,.tmp 109]⟩,false),(qX 111 1 94 95,false),(qs 111 110,false)]
def Zn.r25:=[qm 92 10,qe 93 .add 92 1,qm 10 93]
def Zn.l2:DC:=.seq (.seq (qR Zn.r24 [1,2,4,5,9,10,91]) (qC 91 .skip (.exit 4))) (.seq (.block 5 (.regD [0,1,2,3,4,5,6,7,8,9,10,11,12,13,14,15,16,17,18] Zn.r26 (some [1,2,4,5,9,10]))) (qR Zn.r25 [1,2,4,5,9,10]))
def Zn.r27:=[qm 112 4,qm 113 5,qX 114 1 112 113,ql 115 114,qe 116 .add 115 1,qX 117 1 112 113,qs 117 116]
def Zn.r28:=[qm 118 4,qm 119 5,qX 120 1 118 119,ql 121 120,qe 122 .gtr 121 16]
def Zn.r29:List DOp:=[qm 123 5,⟨some 124,none,.q (.build [.int .i64 0,.int .i64 0,.int .i64 0] [(0,1),(1,1),(2,1)]) [.tmp 123,.cst (.int .i64 (-1)),.cst (.int .i64 10)]⟩,qS 3 2 124,qb 3 true]
def Zn.r8:=[qm 36 5,qe 37 .add 36 1,qm 5 37]
def Zn.l0:DC:=.seq (.seq (qR Zn.r7 [1,2,4,5,35]) (qC 35 .skip (.exit 0))) (.seq (.block 1 (.seq (qR Zn.r9 [1,2,4,5,6]) (.seq (.seq (qR Zn.r10 [1,2,4,5,6,46]) (qC 46 (.seq (qR Zn.r11 [2,3]) .ret) .skip)) (.seq (.seq (qR Zn.r12 [1,2,4,5,6,54]) (qC 54 (.seq (qR Zn.r13 [2,3]) .ret) .skip)) (.seq (.seq (qR Zn.r14 [1,2,4,5,6,66]) (qC 66 (.seq (qR Zn.r15 [2,3]) .ret) .skip)) (.seq (.seq (qR Zn.r16 [1,2,4,5,6,7]) (.block 2 (.loop Zn.l1))) (.seq (qR Zn.r22 [1,2,4,5,9]) (.seq (.seq (qR Zn.r23 [1,2,4,5,9,10]) (.block 4 (.loop Zn.l2))) (.seq (qR Zn.r27 [1,2,4,5]) (.seq (qR Zn.r28 [1,2,4,5,122]) (qC 122 (.seq (qR Zn.r29 [2,3]) .ret) .skip))))))))))) (qR Zn.r8 [1,2,4,5]))
def Zn.r30:=[qL 125 3 1,qa 126 2 1,ql 127 126,qa 128 1 1,ql 129 128,qk 130 .lenL 129,qf 131 33 [.tmp 125,.tmp 127,.tmp 130],qe 132 .lss 131 0]
def Zn.r31:List DOp:=[⟨some 133,none,.q (.build [.int .i64 0,.int .i64 0,.int .i64 0] [(0,1),(1,1),(2,1)]) [.cst (.int .i64 (-1)),.cst (.int .i64 (-1)),.cst (.int .i64 11)]⟩,qS 3 2 133,qb 3 true]
def Zn.r32:List DOp:=[⟨some 134,none,.q (.build [.int .i64 0,.int .i64 0,.int .i64 0] []) []⟩,qS 3 2 134,qb 3 false]
abbrev Zn.id:Nat:=23
def Zn.an:Ann:=[(0,[1,2]),(1,[1,2,14]),(2,[2,3]),(3,[1,2,25]),(4,[2,3]),(5,[1,2,4]),(6,[1,2,4,5]),(7,[1,2,4,5,35]),(8,[1,2,4,5]),(9,[1,2,4,5,6]),(10,[1,2,4,5,6,46]),(11,[2,3]),(12,[1,2,4,5,6,54]),(13,[2,3]),(14,[1,2,4,5,6,66]),(15,[2,3]),(16,[1,2,4,5,6,7]),(17,[1,2,4,5,6,7,73]),(18,[1,2,4,5,6,7]),(19,[1,2,4,5,6,7,8]),(20,[1,2,4,5,6,7,8,81]),(21,[2,3]),(22,[1,2,4,5,9]),(23,[1,2,4,5,9,10]),(24,[1,2,4,5,9,10,91]),(25,[1,2,4,5,9,10]),(26,[1,2,4,5,9,10]),(27,[1,2,4,5]),(28,[1,2,4,5,122]),(29,[2,3]),(30,[2,132]),(31,[2,3]),(32,[2,3]),(1000026,[0,1,2,3,4,5,6,7,8,9,10,11,12,13,14,15,16,17,18]),(2000026,[13])]
def Zn.body:DC:=.seq (qR Zn.r0 [1,2]) (.seq (.seq (qR Zn.r1 [1,2,14]) (qC 14 (.seq (qR Zn.r2 [2,3]) .ret) .skip)) (.seq (.seq (qR Zn.r3 [1,2,25]) (qC 25 (.seq (qR Zn.r4 [2,3]) .ret) .skip)) (.seq (qR Zn.r5 [1,2,4]) (.seq (.seq (qR Zn.r6 [1,2,4,5]) (.block 0 (.loop Zn.l0))) (.seq (.seq (qR Zn.r30 [2,132]) (qC 132 (.seq (qR Zn.r31 [2,3]) .ret) .skip)) (.seq (qR Zn.r32 [2,3]) .ret))))))
def Zn.df:DF:=⟨135,[.cellN 2 3,.tmp 3],Zn.body⟩
theorem Zn.ok:cf Zuv Zn.an Zn.id=some Zn.df:=by kernel_rfl
def Zh.r0:=[(qm 19 0,false),(qk 20 .nilck 19,false),(qa 21 0 20,false),(qL 22 3 21,false),(qm 23 1,false),(qm 24 0,false),(qk 25 .nilck 24,false),(qa 26 0 25,false),(qa 27 1 26,false),(ql 28 27,false),(qk 29 .lenL 28,false),(qm 31 0,false),(qk 32 .nilck 31,false),(qa 33 3 32,false),(qL 34 3 33,false),(qm 35 2,false),(qm 36 0,false),(qk 37 .nilck 36,false),(qa 38 3 37,false),(qa 39 1 38,false),(ql 40 39,false),(qk 41 .lenL 40,false),(qf 30 33 [.tmp 22,.tmp 23,.tmp 29],true),(qf 42 33 [.tmp 34,.tmp 35,.tmp 41],false),(qm 8 30,false),(qm 9 42,false)]
def Zh.r1:=[qi 10 0]
def Zh.r2:=[qm 43 10,qm 44 0,qk 45 .nilck 44,qa 46 6 45,ql 47 46,qk 48 .lenL 47,qd 49 .lss 43 48]
def Zh.r4:List DOp:=[qm 52 0,qk 53 .nilck 52,qa 54 6 53,ql 55 54,qm 56 10,qX 57 2 55 56,qL 58 2 57,qm 59 8,qm 60 9,⟨some 61,none,.q (.build [.int .i64 0,.int .i64 0] [(0,1),(1,1)]) [.tmp 59,.tmp 60]⟩,⟨some 62,none,.q (.bin .eql (some (.cells [(0,.int),(1,.int)]))) [.tmp 58,.tmp 61]⟩]
def Zh.r3:=[qm 50 10,qe 51 .add 50 1,qm 10 51]
def Zh.l0:DC:=.seq (.seq (qR Zh.r2 [0,3,8,9,10,49]) (qC 49 .skip (.exit 0))) (.seq (.block 1 (.seq (qR Zh.r4 [0,3,8,9,10,62]) (qC 62 .ret .skip))) (qR Zh.r3 [0,3,8,9,10]))
def Zh.r5:List DOp:=[qm 63 0,qm 64 0,qk 65 .nilck 64,qa 66 6 65,ql 67 66,qm 68 8,qm 69 9,⟨some 70,none,.q (.build [.int .i64 0,.int .i64 0] [(0,1),(1,1)]) [.tmp 68,.tmp 69]⟩,⟨some 71,none,.bsl 1 2 [.int .i64 0,.int .i64 0] [0] [.tmp 70]⟩,⟨some 72,none,.append 98 2 16 [.int .i64 0,.int .i64 0] (.tmp 67) (.tmp 71)⟩,qk 73 .nilck 63,qa 74 6 73,qs 74 72]
def Zh.r6:List (DOp × Bool):=[(qm 75 0,false),(qk 76 .nilck 75,false),(qa 77 0 76,false),(qa 78 1 77,false),(ql 79 78,false),(qm 80 8,false),(qX 81 2 79 80,false),(qL 82 2 81,false),(qm 83 0,false),(qk 84 .nilck 83,false),(qa 85 3 84,false),(qa 86 1 85,false),(ql 87 86,false),(qm 88 9,false),(qX 89 2 87 88,false),(qL 90 2 89,false),(⟨some 11,none,.alloc [.str [],.nilsl]⟩,false),(⟨some 12,none,.alloc [.str [],.nilsl]⟩,false),(qS 2 11 82,true),(qS 2 12 90,false)]
def Zh.r7:=[qa 91 1 11,ql 92 91,qk 93 .lenL 92,qa 94 1 12,ql 95 94,qk 96 .lenL 95,qd 97 .neq 93 96]
def Zh.r8:List DOp:=[qm 98 0,qm 99 0,qk 100 .nilck 99,qa 101 7 100,ql 102 101,qm 103 3,⟨some 104,none,.q (.build [.str [],.int .i64 0] [(0,1),(1,1)]) [.tmp 103,.cst (.int .i64 2)]⟩,⟨some 105,none,.bsl 1 2 [.str [],.int .i64 0] [0] [.tmp 104]⟩,⟨some 106,none,.append 32 2 24 [.str [],.int .i64 0] (.tmp 102) (.tmp 105)⟩,qk 107 .nilck 98,qa 108 7 107,qs 108 106]
def Zh.r9:=[qi 13 0]
def Zh.r10:=[qm 109 13,qa 110 1 11,ql 111 110,qk 112 .lenL 111,qd 113 .lss 109 112,qm 114 113,qy 114 (qm 115 13),qy 114 (qa 116 1 12),qy 114 (ql 117 116),qy 114 (qk 118 .lenL 117),qy 114 (qd 119 .lss 115 118),qO 120 114 119]
def Zh.r12:List (DOp × Bool):=[(qa 123 1 11,false),(ql 124 123,false),(qm 125 13,false),(qX 126 15 124 125,false),(qL 127 15 126,false),(qa 128 1 12,false),(ql 129 128,false),(qm 130 13,false),(qX 131 15 129 130,false),(qL 132 15 131,false),(⟨some 14,none,.alloc [.str [],.int .i64 0,.int .i64 0,.bool false,.bool false,.int .i64 0,.int .i64 0,.int .i64 0,.nilsl,.str [],.str [],.str [],.nilsl,.int .i64 0,.int .i64 0]⟩,false),(⟨some 15,none,.alloc [.str [],.int .i64 0,.int .i64 0,.bool false,.bool false,.int .i64 0,.int .i64 0,.int .i64 0,.nilsl,.str [],.str [],.str [],.nilsl,.int .i64 0,.int .i64 0]⟩,false),(qS 15 14 127,true),(qS 15 15 132,false)]
def Zh.r13:=[qm 133 3,qa 134 0 14,ql 135 134,qf 136 36 [.tmp 133,.tmp 135],qm 16 136]
def Zh.r14:=[qL 137 2 11,qL 138 15 14,qL 139 15 15,qf 140 37 [.tmp 137,.tmp 138,.tmp 139],qm 17 140]
def Zh.r15:=[qm 141 17,qe 142 .neq 141 0]
def Zh.r16:List DOp:=[qm 143 0,qm 144 0,qk 145 .nilck 144,qa 146 7 145,ql 147 146,qm 148 16,qm 149 17,⟨some 150,none,.q (.build [.str [],.int .i64 0] [(0,1),(1,1)]) [.tmp 148,.tmp 149]⟩,⟨some 151,none,.bsl 1 2 [.str [],.int .i64 0] [0] [.tmp 150]⟩,⟨some 152,none,.append 32 2 24 [.str [],.int .i64 0] (.tmp 147) (.tmp 151)⟩,qk 153 .nilck 143,qa 154 7 153,qs 154 152]
def Zh.r17:=[qL 155 2 11,qL 156 15 14,qf 157 38 [.tmp 155,.tmp 156]]
def Zh.r18:=[qm 158 0,qa 159 9 14,ql 160 159,qa 161 9 15,ql 162 161,qm 163 16,qf 164 24 [.tmp 158,.tmp 160,.tmp 162,.tmp 163]]
def Zh.r19:=[qi 18 0]
def Zh.r20:=[qm 165 18,qa 166 12 14,ql 167 166,qk 168 .lenL 167,qd 169 .lss 165 168]
def Zh.r22:=[(qm 172 0,false),(qa 173 12 14,false),(ql 174 173,false),(qm 175 18,false),(qX 176 3 174 175,false),(qa 177 2 176,false),(ql 178 177,false),(qa 179 12 14,false),(ql 180 179,false),(qm 181 18,false),(qX 182 3 180 181,false),(qa 183 2 182,false),(ql 184 183,false),(qm 185 16,false),(qa 186 12 14,false),(ql 187 186,false),(qm 188 18,false),(qX 189 3 187 188,false),(qa 190 2 189,false),(ql 191 190,false),(qf 192 36 [.tmp 185,.tmp 191],true),(qf 193 24 [.tmp 172,.tmp 178,.tmp 184,.tmp 192],false)]
def Zh.r21:=[qm 170 18,qe 171 .add 170 1,qm 18 171]
def Zh.l2:DC:=.seq (.seq (qR Zh.r20 [0,3,11,12,13,14,16,18,169]) (qC 169 .skip (.exit 4))) (.seq (.block 5 (.regD [0,1,2,3,4,5,6,7,8,9,10,11,12,13,14,15,16,17,18,19,20,21] Zh.r22 (some [0,3,11,12,13,14,16,18]))) (qR Zh.r21 [0,3,11,12,13,14,16,18]))
def Zh.r11:=[qm 121 13,qe 122 .add 121 1,qm 13 122]
def Zh.l1:DC:=.seq (.seq (qR Zh.r10 [0,3,11,12,13,120]) (qC 120 .skip (.exit 2))) (.seq (.block 3 (.seq (.regD [0,1,2,3,4,5,6,7,8,9,10,11,12,13] Zh.r12 (some [0,3,11,12,13,14,15])) (.seq (qR Zh.r13 [0,3,11,12,13,14,15,16]) (.seq (.seq (qR Zh.r14 [0,3,11,12,13,14,15,16,17]) (.seq (qR Zh.r15 [0,3,11,12,13,14,15,16,17,142]) (qC 142 (.seq (qR Zh.r16 [0,3,11,12,13]) (.exit 3)) .skip))) (.seq (.seq (qR Zh.r17 [0,3,11,12,13,14,15,16,157]) (qC 157 (qR Zh.r18 [0,3,11,12,13,14,16]) .skip)) (.seq (qR Zh.r19 [0,3,11,12,13,14,16,18]) (.block 4 (.loop Zh.l2)))))))) (qR Zh.r11 [0,3,11,12,13]))
abbrev Zh.id:Nat:=24
def Zh.an:Ann:=[(0,[0,3,8,9]),(1,[0,3,8,9,10]),(2,[0,3,8,9,10,49]),(3,[0,3,8,9,10]),(4,[0,3,8,9,10,62]),(5,[0,3,8,9]),(6,[0,3,11,12]),(7,[0,3,11,12,97]),(8,[0,3,11,12]),(9,[0,3,11,12,13]),(10,[0,3,11,12,13,120]),(11,[0,3,11,12,13]),(12,[0,3,11,12,13,14,15]),(13,[0,3,11,12,13,14,15,16]),(14,[0,3,11,12,13,14,15,16,17]),(15,[0,3,11,12,13,14,15,16,17,142]),(16,[0,3,11,12,13]),(17,[0,3,11,12,13,14,15,16,157]),(18,[0,3,11,12,13,14,16]),(19,[0,3,11,12,13,14,16,18]),(20,[0,3,11,12,13,14,16,18,169]),(21,[0,3,11,12,13,14,16,18]),(22,[0,3,11,12,13,14,16,18]),(1000000,[0,1,2,3,4,5,6,7,8,9,10,12,13,14,15,16,17,18,19,20,21,22,11,23,24,25]),(1000006,[0,1,2,3,4,5,6,7,8,9,10,11,12,13,14,15,16,17,18,19]),(1000012,[0,1,2,3,4,5,6,7,8,9,10,11,12,13]),(1000022,[0,1,2,3,4,5,6,7,8,9,10,11,12,13,14,15,16,17,18,19,20,21]),(2000000,[11]),(2000006,[18]),(2000012,[12]),(2000022,[20])]
def Zh.body:DC:=.seq (.regD [0,1,2,3,4,5,6,7,8,9,10,12,13,14,15,16,17,18,19,20,21,22,11,23,24,25] Zh.r0 (some [0,3,8,9])) (.seq (.seq (qR Zh.r1 [0,3,8,9,10]) (.block 0 (.loop Zh.l0))) (.seq (qR Zh.r5 [0,3,8,9]) (.seq (.regD [0,1,2,3,4,5,6,7,8,9,10,11,12,13,14,15,16,17,18,19] Zh.r6 (some [0,3,11,12])) (.seq (.seq (qR Zh.r7 [0,3,11,12,97]) (qC 97 (qR Zh.r8 [0,3,11,12]) .skip)) (.seq (qR Zh.r9 [0,3,11,12,13]) (.block 2 (.loop Zh.l1)))))))
def Zh.df:DF:=⟨194,[],Zh.body⟩
theorem Zh.ok:cf Zuv Zh.an Zh.id=some Zh.df:=by kernel_rfl
def Yy.r0:List DOp:=[⟨some 2,none,.q .mv [.cst (.nilsl)]⟩]
def Yy.r1:=[qm 3 0,qf 4 39 [.cst (.nilsl),.tmp 3],qm 2 4]
abbrev Yy.id:Nat:=25
def Yy.an:Ann:=[(0,[0]),(1,[2])]
def Yy.body:DC:=.seq (qR Yy.r0 [0]) (.seq (qR Yy.r1 [2]) .ret)
def Yy.df:DF:=⟨5,[.tmp 2],Yy.body⟩
theorem Yy.ok:cf Zuv Yy.an Yy.id=some Yy.df:=by kernel_rfl
def Y2.r0:List DOp:=[qB 1 0,⟨some 2,none,.q .mv [.cst (.nilfn)]⟩]
def Y2.r1:List DOp:=[⟨some 3,none,.q (.mkfn (.func 40) 0) [.tmp 1]⟩,qm 2 3]
abbrev Y2.id:Nat:=26
def Y2.an:Ann:=[(0,[1]),(1,[2])]
def Y2.body:DC:=.seq (qR Y2.r0 [1]) (.seq (qR Y2.r1 [2]) .ret)
def Y2.df:DF:=⟨4,[.tmp 2],Y2.body⟩
theorem Y2.ok:cf Zuv Y2.an Y2.id=some Y2.df:=by kernel_rfl
def YA.r0:=[qb 4 false]
def YA.r1:=[qm 5 0,qm 6 1,qf 7 41 [.tmp 5,.tmp 6],qe 8 .geq 7 0,qm 4 8]
abbrev YA.id:Nat:=27
def YA.an:Ann:=[(0,[0,1]),(1,[4])]
def YA.body:DC:=.seq (qR YA.r0 [0,1]) (.seq (qR YA.r1 [4]) .ret)
def YA.df:DF:=⟨9,[.tmp 4],YA.body⟩
theorem YA.ok:cf Zuv YA.an YA.id=some YA.df:=by kernel_rfl
def WS.r0:=[qb 3 false]
def WS.r1:=[qm 4 0,ql 5 1,qX 6 1 4 5,ql 7 6,qk 8 .not 7,qm 3 8]
abbrev WS.id:Nat:=28
def WS.an:Ann:=[(0,[0,1]),(1,[3])]
def WS.body:DC:=.seq (qR WS.r0 [0,1]) (.seq (qR WS.r1 [3]) .ret)
def WS.df:DF:=⟨9,[.tmp 3],WS.body⟩
theorem WS.ok:cf Zuv WS.an WS.id=some WS.df:=by kernel_rfl
def Ke.r0:List DOp:=[qB 1 0,⟨some 2,none,.alloc [.int .i64 0,.int .i64 0,.int .i64 0]⟩,qb 3 false]
def Ke.r1:List DOp:=[qL 8 3 1,qf 9 42 [.tmp 8],qm 7 9,qx 10 0 7,qx 11 1 7,qx 12 2 7,⟨some 5,none,.alloc [.int .i64 0,.int .i64 0,.int .i64 0]⟩,qm 4 10,qS 3 5 11,qm 6 12]
def Ke.r2:=[qL 13 3 5,qm 14 6,qS 3 2 13,qm 3 14]
abbrev Ke.id:Nat:=29
def Ke.an:Ann:=[(0,[1,2]),(1,[2,5,6]),(2,[2,3])]
def Ke.body:DC:=.seq (qR Ke.r0 [1,2]) (.seq (qR Ke.r1 [2,5,6]) (.seq (qR Ke.r2 [2,3]) .ret))
def Ke.df:DF:=⟨15,[.cellN 2 3,.tmp 3],Ke.body⟩
theorem Ke.ok:cf Zuv Ke.an Ke.id=some Ke.df:=by kernel_rfl
def Ys.r0:=[qa 5 2 1,ql 6 5,qa 7 2 2,ql 8 7,qd 9 .neq 6 8]
def Ys.r1:List DOp:=[qm 10 0,⟨some 11,none,.q (.build [.str [],.int .i64 0] [(1,1)]) [.cst (.int .i64 1)]⟩,⟨some 12,none,.call (.tmp 10) [.tmp 11]⟩]
def Ys.r2:List DOp:=[qL 13 3 1,qL 14 3 2,⟨some 15,none,.mkmap⟩,⟨some 16,none,.q (.build [.str [],.nilsl,.str [],.str [],.nilsl,.str [],.nilmap] [(0,3),(3,3),(6,1)]) [.tmp 13,.tmp 14,.tmp 15]⟩,qB 17 16,qm 4 17]
def Ys.r3:=[qm 18 4,qa 19 2 1,ql 20 19,qa 21 2 2,ql 22 21,qm 23 0,qf 24 31 [.tmp 18,.tmp 20,.tmp 22,.cst (.nilsl),.tmp 23]]
abbrev Ys.id:Nat:=30
def Ys.an:Ann:=[(0,[0,1,2,9]),(1,[]),(2,[0,1,2,4]),(3,[])]
def Ys.body:DC:=.seq (.seq (qR Ys.r0 [0,1,2,9]) (qC 9 (.seq (qR Ys.r1 []) .ret) .skip)) (.seq (qR Ys.r2 [0,1,2,4]) (qR Ys.r3 []))
def Ys.df:DF:=⟨25,[],Ys.body⟩
theorem Ys.ok:cf Zuv Ys.an Ys.id=some Ys.df:=by kernel_rfl
def Zd.r0:=[qb 10 false]
def Zd.r1:=[qm 25 0,qk 26 .nilck 25,qa 27 0 26,qL 28 3 27,qm 29 1,qf 30 43 [.tmp 28,.tmp 29],qm 24 30,qx 31 0 24,qx 32 1 24,qm 11 31,qm 12 32]
def Zd.r2:=[qm 34 0,qk 35 .nilck 34,qa 36 3 35,qL 37 3 36,qm 38 2,qf 39 43 [.tmp 37,.tmp 38],qm 33 39,qx 40 0 33,qx 41 1 33,qm 13 40,qm 14 41]
def Zd.r3:List DOp:=[qm 42 0,qk 43 .nilck 42,qa 44 6 43,ql 45 44,qm 46 11,qm 47 13,⟨some 48,none,.q (.build [.int .i64 0,.int .i64 0] [(0,1),(1,1)]) [.tmp 46,.tmp 47]⟩,⟨some 49,none,.q (.lookup (.st [(0,.int),(1,.int)]) (.bool false) false) [.tmp 45,.tmp 48]⟩]
def Zd.r4:=[qb 10 true]
def Zd.r5:List DOp:=[qm 50 0,qk 51 .nilck 50,qa 52 6 51,ql 53 52,qm 54 11,qm 55 13,⟨some 56,none,.q (.build [.int .i64 0,.int .i64 0] [(0,1),(1,1)]) [.tmp 54,.tmp 55]⟩,⟨none,none,.mapupd (.st [(0,.int),(1,.int)]) (.tmp 53) (.tmp 56) (.cst (.bool true))⟩]
def Zd.r6:List (DOp × Bool):=[(qm 57 0,false),(qk 58 .nilck 57,false),(qa 59 0 58,false),(qa 60 1 59,false),(ql 61 60,false),(qm 62 11,false),(qX 63 2 61 62,false),(qL 64 2 63,false),(qm 65 0,false),(qk 66 .nilck 65,false),(qa 67 3 66,false),(qa 68 1 67,false),(ql 69 68,false),(qm 70 13,false),(qX 71 2 69 70,false),(qL 72 2 71,false),(⟨some 15,none,.alloc [.str [],.nilsl]⟩,false),(⟨some 16,none,.alloc [.str [],.nilsl]⟩,false),(qS 2 15 64,true),(qS 2 16 72,false)]
def Zd.r7:=[qa 73 1 15,ql 74 73,qk 75 .lenL 74,qa 76 1 16,ql 77 76,qk 78 .lenL 77,qd 79 .neq 75 78,qm 80 79,qy 80 (qm 81 4),qy 80 (qm 82 3),qy 80 (qf 83 44 [.tmp 82,.cst (.str [46])]),qy 80 ⟨some 84,none,.q (.build [.str [],.int .i64 0] [(0,1),(1,1)]) [.tmp 83,.cst (.int .i64 2)]⟩,qy 80 ⟨some 85,none,.call (.tmp 81) [.tmp 84]⟩,qy 80 (qk 86 .not 85),qO 87 80 86]
def Zd.r8:=[qb 10 false]
def Zd.r9:List DOp:=[qa 88 1 15,ql 89 88,qk 90 .lenL 89,qa 91 1 16,ql 92 91,qk 93 .lenL 92,⟨some 94,none,.q .min [.tmp 90,.tmp 93]⟩,qi 95 0]
def Zd.r10:=[qd 96 .lss 95 94]
def Zd.r11:=[qm 97 95,qm 17 97]
def Zd.r12:List DOp:=[qL 98 2 15,qa 99 1 15,ql 100 99,qm 101 17,qX 102 15 100 101,qL 103 15 102,qa 104 1 16,ql 105 104,qm 106 17,qX 107 15 105 106,qL 108 15 107,⟨some 109,none,.q (.build [.str [],.nilsl,.str [],.int .i64 0,.int .i64 0,.bool false,.bool false,.int .i64 0,.int .i64 0,.int .i64 0,.nilsl,.str [],.str [],.str [],.nilsl,.int .i64 0,.int .i64 0,.str [],.int .i64 0,.int .i64 0,.bool false,.bool false,.int .i64 0,.int .i64 0,.int .i64 0,.nilsl,.str [],.str [],.str [],.nilsl,.int .i64 0,.int .i64 0] [(0,2),(2,15),(17,15)]) [.tmp 98,.tmp 103,.tmp 108]⟩,⟨some 18,none,.alloc [.str [],.nilsl,.str [],.int .i64 0,.int .i64 0,.bool false,.bool false,.int .i64 0,.int .i64 0,.int .i64 0,.nilsl,.str [],.str [],.str [],.nilsl,.int .i64 0,.int .i64 0,.str [],.int .i64 0,.int .i64 0,.bool false,.bool false,.int .i64 0,.int .i64 0,.int .i64 0,.nilsl,.str [],.str [],.str [],.nilsl,.int .i64 0,.int .i64 0]⟩,qS 32 18 109]
def Zd.r13:List DOp:=[qm 110 3,qm 111 3,qk 112 .lenL 111,qm 113 3,qk 114 .lenL 113,⟨some 115,none,.q (.slice 1 false true true) [.tmp 110,.tmp 112,.tmp 114]⟩,qa 116 2 18,qa 117 0 116,ql 118 117,⟨some 119,none,.bsl 1 1 [.str []] [0] [.tmp 118]⟩,⟨some 120,none,.append 9 1 16 [.str []] (.tmp 115) (.tmp 119)⟩,qm 19 120]
def Zd.r14:=[qf 121 45 [],qk 122 .lenL 121,qi 123 0]
def Zd.r15:=[qd 124 .lss 123 122]
def Zd.r16:List DOp:=[qX 125 2 121 123,qL 126 2 125,⟨some 21,none,.alloc [.int .i64 0,.nilfn]⟩,qS 2 21 126]
def Zd.r17:List DOp:=[qa 127 1 21,ql 128 127,qL 129 32 18,⟨some 130,none,.call (.tmp 128) [.tmp 129]⟩]
def Zd.r18:List (DOp × Bool):=[(qm 131 4,false),(qm 132 19,false),(qa 134 0 21,false),(ql 135 134,false),(qf 133 44 [.tmp 132,.cst (.str [46])],true),(⟨some 136,none,.q (.build [.str [],.int .i64 0] [(0,1),(1,1)]) [.tmp 133,.tmp 135]⟩,false),(⟨some 137,none,.call (.tmp 131) [.tmp 136]⟩,false),(qk 138 .not 137,false)]
def Zd.r19:=[qb 10 false]
def Zd.r20:=[qe 139 .add 123 1,qm 123 139]
def Zd.l1:DC:=.seq (qR Zd.r15 [0,3,4,15,16,18,19,94,95,121,122,123,124]) (.seq (qC 124 .skip (.exit 2)) (.seq (.block 3 (.seq (qR Zd.r16 [0,3,4,15,16,18,19,21,94,95,121,122,123]) (.seq (.seq (qR Zd.r17 [0,3,4,15,16,18,19,21,94,95,121,122,123,130]) (qC 130 (.exit 3) .skip)) (.seq (.seq (.regD [0,1,3,4,2,5,6,7] Zd.r18 (some [0,3,4,15,16,94,95,138])) (qC 138 (.seq (qR Zd.r19 [10]) .ret) .skip)) (.exit 1))))) (qR Zd.r20 [0,3,4,15,16,18,19,94,95,121,122,123])))
def Zd.r21:=[qL 140 32 18,qf 141 46 [.tmp 140],qm 142 141,qy 142 (qm 143 0),qy 142 (qa 144 2 18),qy 142 (qa 145 9 144),qy 142 (ql 146 145),qy 142 (qa 147 17 18),qy 142 (qa 148 9 147),qy 142 (ql 149 148),qy 142 (qm 150 19),qy 142 (qm 151 4),qy 142 (qf 152 31 [.tmp 143,.tmp 146,.tmp 149,.tmp 150,.tmp 151]),qy 142 (qk 153 .not 152),qO 154 142 153]
def Zd.r22:=[qb 10 false]
def Zd.r23:=[qa 155 2 18,qa 156 12 155,ql 157 156,qk 158 .lenL 157,qi 159 0]
def Zd.r24:=[qd 160 .lss 159 158]
def Zd.r25:List DOp:=[qX 161 3 157 159,qL 162 3 161,⟨some 23,none,.alloc [.int .i64 0,.int .i64 0,.str []]⟩,qS 3 23 162]
def Zd.r26:List (DOp × Bool):=[(qm 163 0,false),(qa 164 2 23,false),(ql 165 164,false),(qa 166 2 23,false),(ql 167 166,false),(qm 168 19,false),(qm 169 19,false),(qk 170 .lenL 169,false),(qm 171 19,false),(qk 172 .lenL 171,false),(⟨some 173,none,.q (.slice 1 false true true) [.tmp 168,.tmp 170,.tmp 172]⟩,false),(qa 174 2 23,false),(ql 175 174,false),(⟨some 176,none,.bsl 1 1 [.str []] [0] [.tmp 175]⟩,false),(qm 178 4,false),(⟨some 177,none,.append 9 1 16 [.str []] (.tmp 173) (.tmp 176)⟩,true),(qf 179 31 [.tmp 163,.tmp 165,.tmp 167,.tmp 177,.tmp 178],false),(qk 180 .not 179,false)]
def Zd.r27:=[qb 10 false]
def Zd.r28:=[qe 181 .add 159 1,qm 159 181]
def Zd.l2:DC:=.seq (qR Zd.r24 [0,3,4,15,16,19,94,95,157,158,159,160]) (.seq (qC 160 .skip (.exit 4)) (.seq (.block 5 (.seq (qR Zd.r25 [0,3,4,15,16,19,23,94,95,157,158,159]) (.seq (.regD [0,1,2,3,4,5,6,7,8,9,10,11,12,13,15,14,16,17] Zd.r26 (some [0,3,4,15,16,19,94,95,157,158,159,180])) (qC 180 (.seq (qR Zd.r27 [10]) .ret) .skip)))) (qR Zd.r28 [0,3,4,15,16,19,94,95,157,158,159])))
def Zd.r29:=[qe 182 .add 95 1,qm 95 182]
def Zd.l0:DC:=.seq (qR Zd.r10 [0,3,4,15,16,94,95,96]) (.seq (qC 96 .skip (.exit 0)) (.seq (.block 1 (.seq (qR Zd.r11 [0,3,4,15,16,17,94,95]) (.seq (.regD [0,1,2,3,4,5,6,7,8,9,10,11,12,13] (Jb Zd.r12) (some [0,3,4,15,16,18,94,95])) (.seq (.regD [0,1,2,3,4,5,6,7,8,9,10,11] (Jb Zd.r13) (some [0,3,4,15,16,18,19,94,95])) (.seq (.seq (qR Zd.r14 [0,3,4,15,16,18,19,94,95,121,122,123]) (.block 2 (.loop Zd.l1))) (.seq (.seq (qR Zd.r21 [0,3,4,15,16,18,19,94,95,154]) (qC 154 (.seq (qR Zd.r22 [10]) .ret) .skip)) (.seq (qR Zd.r23 [0,3,4,15,16,19,94,95,157,158,159]) (.block 4 (.loop Zd.l2))))))))) (qR Zd.r29 [0,3,4,15,16,94,95])))
def Zd.r30:=[qb 10 true]
abbrev Zd.id:Nat:=31
def Zd.an:Ann:=[(0,[0,1,2,3,4]),(1,[0,2,3,4,11]),(2,[0,3,4,11,13]),(3,[0,3,4,11,13,49]),(4,[10]),(5,[0,3,4,11,13]),(6,[0,3,4,15,16]),(7,[0,3,4,15,16,87]),(8,[10]),(9,[0,3,4,15,16,94,95]),(10,[0,3,4,15,16,94,95,96]),(11,[0,3,4,15,16,17,94,95]),(12,[0,3,4,15,16,18,94,95]),(13,[0,3,4,15,16,18,19,94,95]),(14,[0,3,4,15,16,18,19,94,95,121,122,123]),(15,[0,3,4,15,16,18,19,94,95,121,122,123,124]),(16,[0,3,4,15,16,18,19,21,94,95,121,122,123]),(17,[0,3,4,15,16,18,19,21,94,95,121,122,123,130]),(18,[0,3,4,15,16,94,95,138]),(19,[10]),(20,[0,3,4,15,16,18,19,94,95,121,122,123]),(21,[0,3,4,15,16,18,19,94,95,154]),(22,[10]),(23,[0,3,4,15,16,19,94,95,157,158,159]),(24,[0,3,4,15,16,19,94,95,157,158,159,160]),(25,[0,3,4,15,16,19,23,94,95,157,158,159]),(26,[0,3,4,15,16,19,94,95,157,158,159,180]),(27,[10]),(28,[0,3,4,15,16,19,94,95,157,158,159]),(29,[0,3,4,15,16,94,95]),(30,[10]),(1000006,[0,1,2,3,4,5,6,7,8,9,10,11,12,13,14,15,16,17,18,19]),(1000012,[0,1,2,3,4,5,6,7,8,9,10,11,12,13]),(1000013,[0,1,2,3,4,5,6,7,8,9,10,11]),(1000018,[0,1,3,4,2,5,6,7]),(1000026,[0,1,2,3,4,5,6,7,8,9,10,11,12,13,15,14,16,17]),(2000006,[18]),(2000018,[2]),(2000026,[14])]
def Zd.body:DC:=.seq (qR Zd.r0 [0,1,2,3,4]) (.scope (.seq (qR Zd.r1 [0,2,3,4,11]) (.seq (qR Zd.r2 [0,3,4,11,13]) (.seq (.seq (qR Zd.r3 [0,3,4,11,13,49]) (qC 49 (.seq (qR Zd.r4 [10]) .ret) .skip)) (.seq (qR Zd.r5 [0,3,4,11,13]) (.seq (.regD [0,1,2,3,4,5,6,7,8,9,10,11,12,13,14,15,16,17,18,19] Zd.r6 (some [0,3,4,15,16])) (.seq (.seq (qR Zd.r7 [0,3,4,15,16,87]) (qC 87 (.seq (qR Zd.r8 [10]) .ret) .skip)) (.seq (.label 0) (.seq (.seq (qR Zd.r9 [0,3,4,15,16,94,95]) (.block 0 (.loop Zd.l0))) (.seq (qR Zd.r30 [10]) .ret))))))))))
def Zd.df:DF:=⟨183,[.tmp 10],Zd.body⟩
theorem Zd.ok:cf Zuv Zd.an Zd.id=some Zd.df:=by kernel_rfl
end Go.DL
namespace Go.DL
open Go Go.Proofs
def Y5.r0:=[qb 2 false]
def Y5.r1:=[qm 4 0,qk 5 .lenS 4,qe 6 .lss 5 1,qm 7 6,qn 7 (qm 8 0),qn 7 (qk 9 .lenS 8),qn 7 (qe 10 .gtr 9 32),qo 11 7 10,qm 12 11,qn 12 (qm 13 0),qn 12 ⟨some 14,none,.q .idxS [.tmp 13,.cst (.int .i64 0)]⟩,qn 12 (qf 15 47 [.tmp 14]),qn 12 (qk 16 .not 15),qo 17 12 16]
def Y5.r2:=[qb 2 false]
def Y5.r3:=[qi 3 0]
def Y5.r4:=[qm 18 3,qm 19 0,qk 20 .lenS 19,qd 21 .lss 18 20]
def Y5.r6:List DOp:=[qm 24 0,qm 25 3,⟨some 26,none,.q .idxS [.tmp 24,.tmp 25]⟩,qf 27 47 [.tmp 26],qk 28 .not 27,qm 29 28,qy 29 (qm 30 0),qy 29 (qm 31 3),qy 29 ⟨some 32,none,.q .idxS [.tmp 30,.tmp 31]⟩,qy 29 (qf 33 48 [.tmp 32]),qy 29 (qk 34 .not 33),qO 35 29 34,qm 36 35,qy 36 (qm 37 0),qy 36 (qm 38 3),qy 36 ⟨some 39,none,.q .idxS [.tmp 37,.tmp 38]⟩,qy 36 ⟨some 40,none,.q (.bin .neq (none)) [.tmp 39,.cst (.int .u8 95)]⟩,qO 41 36 40]
def Y5.r7:=[qb 2 false]
def Y5.r5:=[qm 22 3,qe 23 .add 22 1,qm 3 23]
def Y5.l0:DC:=.seq (.seq (qR Y5.r4 [0,3,21]) (qC 21 .skip (.exit 0))) (.seq (.block 1 (.seq (qR Y5.r6 [0,3,41]) (qC 41 (.seq (qR Y5.r7 [2]) .ret) .skip))) (qR Y5.r5 [0,3]))
def Y5.r8:=[qb 2 true]
abbrev Y5.id:Nat:=32
def Y5.an:Ann:=[(0,[0]),(1,[0,17]),(2,[2]),(3,[0,3]),(4,[0,3,21]),(5,[0,3]),(6,[0,3,41]),(7,[2]),(8,[2])]
def Y5.body:DC:=.seq (qR Y5.r0 [0]) (.seq (.seq (qR Y5.r1 [0,17]) (qC 17 (.seq (qR Y5.r2 [2]) .ret) .skip)) (.seq (.seq (qR Y5.r3 [0,3]) (.block 0 (.loop Y5.l0))) (.seq (qR Y5.r8 [2]) .ret)))
def Y5.df:DF:=⟨42,[.tmp 2],Y5.body⟩
theorem Y5.ok:cf Zuv Y5.an Y5.id=some Y5.df:=by kernel_rfl
def WF.r0:=[qB 3 0,qi 6 0]
def WF.r1:=[qi 7 0]
def WF.r2:=[qm 8 7,qm 9 2,qd 10 .lss 8 9]
def WF.r4:=[qa 13 1 3,ql 14 13,qm 15 7,qX 16 2 14 15,qa 17 0 16,ql 18 17,qm 19 1,qd 20 .eql 18 19]
def WF.r5:=[qm 21 7,qm 6 21]
def WF.r3:=[qm 11 7,qe 12 .add 11 1,qm 7 12]
def WF.l0:DC:=.seq (.seq (qR WF.r2 [1,2,3,7,10]) (qC 10 .skip (.exit 0))) (.seq (.block 1 (.seq (qR WF.r4 [1,2,3,7,20]) (qC 20 (.seq (qR WF.r5 [6]) .ret) .skip))) (qR WF.r3 [1,2,3,7]))
def WF.r6:=[qi 6 (-1)]
abbrev WF.id:Nat:=33
def WF.an:Ann:=[(0,[1,2,3]),(1,[1,2,3,7]),(2,[1,2,3,7,10]),(3,[1,2,3,7]),(4,[1,2,3,7,20]),(5,[6]),(6,[6])]
def WF.body:DC:=.seq (qR WF.r0 [1,2,3]) (.seq (.seq (qR WF.r1 [1,2,3,7]) (.block 0 (.loop WF.l0))) (.seq (qR WF.r6 [6]) .ret))
def WF.df:DF:=⟨22,[.tmp 6],WF.body⟩
theorem WF.ok:cf Zuv WF.an WF.id=some WF.df:=by kernel_rfl
def YK.r0:=[qB 3 0,qi 6 0]
def YK.r1:List DOp:=[qa 8 1 3,ql 9 8,qm 10 1,qX 11 2 9 10,qa 12 1 11,ql 13 12,qm 14 2,qX 15 15 13 14,qL 16 15 15,⟨some 7,none,.alloc [.str [],.int .i64 0,.int .i64 0,.bool false,.bool false,.int .i64 0,.int .i64 0,.int .i64 0,.nilsl,.str [],.str [],.str [],.nilsl,.int .i64 0,.int .i64 0]⟩,qS 15 7 16]
def YK.r2:=[qa 17 0 7,ql 18 17,qf 19 32 [.tmp 18],qk 20 .not 19]
def YK.r3:=[qi 6 1]
def YK.r4:=[qa 21 1 3,ql 22 21,qm 23 1,qX 24 2 22 23,qL 25 2 24,qa 26 0 7,ql 27 26,qm 28 2,qf 29 49 [.tmp 25,.tmp 27,.tmp 28],qe 30 .geq 29 0]
def YK.r5:=[qi 6 2]
def YK.r6:=[qa 31 1 7,ql 32 31,qe 33 .lss 32 1,qm 34 33,qn 34 (qa 35 1 7),qn 34 (ql 36 35),qn 34 (qe 37 .gtr 36 12),qo 38 34 37]
def YK.r7:=[qi 6 4]
def YK.r8:=[qL 39 15 7,qf 40 50 [.tmp 39],qk 41 .not 40]
def YK.r9:=[qi 6 5]
def YK.r10:=[qL 42 3 3,qm 43 1,qm 44 2,qf 45 51 [.tmp 42,.tmp 43,.tmp 44],qm 6 45]
abbrev YK.id:Nat:=34
def YK.an:Ann:=[(0,[1,2,3]),(1,[1,2,3,7]),(2,[1,2,3,7,20]),(3,[6]),(4,[1,2,3,7,30]),(5,[6]),(6,[1,2,3,7,38]),(7,[6]),(8,[1,2,3,41]),(9,[6]),(10,[6]),(1000004,[0,1,2,3,4,5,6,7,8,9])]
def YK.body:DC:=.seq (qR YK.r0 [1,2,3]) (.seq (qR YK.r1 [1,2,3,7]) (.seq (.seq (qR YK.r2 [1,2,3,7,20]) (qC 20 (.seq (qR YK.r3 [6]) .ret) .skip)) (.seq (.seq (.regD [0,1,2,3,4,5,6,7,8,9] (Jb YK.r4) (some [1,2,3,7,30])) (qC 30 (.seq (qR YK.r5 [6]) .ret) .skip)) (.seq (.seq (qR YK.r6 [1,2,3,7,38]) (qC 38 (.seq (qR YK.r7 [6]) .ret) .skip)) (.seq (.seq (qR YK.r8 [1,2,3,41]) (qC 41 (.seq (qR YK.r9 [6]) .ret) .skip)) (.seq (qR YK.r10 [6]) .ret))))))
def YK.df:DF:=⟨46,[.tmp 6],YK.body⟩
theorem YK.ok:cf Zuv YK.an YK.id=some YK.df:=by kernel_rfl
def Zp.r0:List DOp:=[qB 1 0,⟨some 2,none,.q .mv [.cst (.nilsl)]⟩]
def Zp.r1:List DOp:=[⟨some 3,none,.q .mv [.cst (.nilsl)]⟩]
def Zp.r2:=[qi 4 0]
def Zp.r3:=[qm 11 4,qa 12 1 1,ql 13 12,qk 14 .lenL 13,qd 15 .lss 11 14]
def Zp.r5:List DOp:=[qa 18 1 1,ql 19 18,qm 20 4,qX 21 15 19 20,qL 22 15 21,⟨some 5,none,.alloc [.str [],.int .i64 0,.int .i64 0,.bool false,.bool false,.int .i64 0,.int .i64 0,.int .i64 0,.nilsl,.str [],.str [],.str [],.nilsl,.int .i64 0,.int .i64 0]⟩,qS 15 5 22]
def Zp.r6:List DOp:=[⟨some 6,none,.q .mv [.cst (.nilsl)]⟩]
def Zp.r7:=[qa 23 1 5,ql 24 23,qe 25 .eql 24 7,qm 26 25,qn 26 (qa 27 1 5),qn 26 (ql 28 27),qn 26 (qe 29 .eql 28 8),qo 30 26 29,qm 31 30,qn 31 (qa 32 1 5),qn 31 (ql 33 32),qn 31 (qe 34 .eql 33 12),qo 35 31 34]
def Zp.r8:List DOp:=[qm 36 6,qa 37 9 5,ql 38 37,⟨some 39,none,.bsl 1 1 [.str []] [0] [.tmp 38]⟩,⟨some 40,none,.append 9 1 16 [.str []] (.tmp 36) (.tmp 39)⟩,qm 6 40]
def Zp.r9:=[qi 7 0]
def Zp.r10:=[qa 41 1 5,ql 42 41,qe 43 .eql 42 9,qm 44 43,qy 44 (qm 45 7),qy 44 (qa 46 12 5),qy 44 (ql 47 46),qy 44 (qk 48 .lenL 47),qy 44 (qd 49 .lss 45 48),qO 50 44 49]
def Zp.r12:List DOp:=[qm 53 6,qa 54 12 5,ql 55 54,qm 56 7,qX 57 3 55 56,qa 58 2 57,ql 59 58,⟨some 60,none,.bsl 1 1 [.str []] [0] [.tmp 59]⟩,⟨some 61,none,.append 9 1 16 [.str []] (.tmp 53) (.tmp 60)⟩,qm 6 61]
def Zp.r11:=[qm 51 7,qe 52 .add 51 1,qm 7 52]
def Zp.l1:DC:=.seq (.seq (qR Zp.r10 [1,3,4,5,6,7,50]) (qC 50 .skip (.exit 2))) (.seq (.block 3 (qR Zp.r12 [1,3,4,5,6,7])) (qR Zp.r11 [1,3,4,5,6,7]))
def Zp.r13:=[qi 8 0]
def Zp.r14:=[qm 62 8,qm 63 6,qk 64 .lenL 63,qd 65 .lss 62 64]
def Zp.r16:=[qb 9 false]
def Zp.r17:=[qi 10 0]
def Zp.r18:=[qm 68 10,qm 69 3,qk 70 .lenL 69,qd 71 .lss 68 70]
def Zp.r20:=[qm 74 9,qm 75 74,qn 75 (qm 76 3),qn 75 (qm 77 10),qn 75 (qX 78 1 76 77),qn 75 (ql 79 78),qn 75 (qm 80 6),qn 75 (qm 81 8),qn 75 (qX 82 1 80 81),qn 75 (ql 83 82),qn 75 (qd 84 .eql 79 83),qo 85 75 84,qm 9 85]
def Zp.r19:=[qm 72 10,qe 73 .add 72 1,qm 10 73]
def Zp.l3:DC:=.seq (.seq (qR Zp.r18 [1,3,4,6,8,9,10,71]) (qC 71 .skip (.exit 6))) (.seq (.block 7 (.regD [0,1,2,3,4,5,6,7,8,9,10,11,12] (Jb Zp.r20) (some [1,3,4,6,8,9,10]))) (qR Zp.r19 [1,3,4,6,8,9,10]))
def Zp.r21:=[qm 86 9,qk 87 .not 86]
def Zp.r22:List DOp:=[qm 88 3,qm 89 6,qm 90 8,qX 91 1 89 90,ql 92 91,⟨some 93,none,.bsl 1 1 [.str []] [0] [.tmp 92]⟩,⟨some 94,none,.append 9 1 16 [.str []] (.tmp 88) (.tmp 93)⟩,qm 3 94]
def Zp.r15:=[qm 66 8,qe 67 .add 66 1,qm 8 67]
def Zp.l2:DC:=.seq (.seq (qR Zp.r14 [1,3,4,6,8,65]) (qC 65 .skip (.exit 4))) (.seq (.block 5 (.seq (qR Zp.r16 [1,3,4,6,8,9]) (.seq (.seq (qR Zp.r17 [1,3,4,6,8,9,10]) (.block 6 (.loop Zp.l3))) (.seq (qR Zp.r21 [1,3,4,6,8,87]) (qC 87 (qR Zp.r22 [1,3,4,6,8]) .skip))))) (qR Zp.r15 [1,3,4,6,8]))
def Zp.r4:=[qm 16 4,qe 17 .add 16 1,qm 4 17]
def Zp.l0:DC:=.seq (.seq (qR Zp.r3 [1,3,4,15]) (qC 15 .skip (.exit 0))) (.seq (.block 1 (.seq (qR Zp.r5 [1,3,4,5]) (.seq (qR Zp.r6 [1,3,4,5,6]) (.seq (.seq (qR Zp.r7 [1,3,4,5,6,35]) (qC 35 (qR Zp.r8 [1,3,4,5,6]) .skip)) (.seq (.seq (qR Zp.r9 [1,3,4,5,6,7]) (.block 2 (.loop Zp.l1))) (.seq (qR Zp.r13 [1,3,4,6,8]) (.block 4 (.loop Zp.l2)))))))) (qR Zp.r4 [1,3,4]))
def Zp.r23:=[qm 95 3,qm 2 95]
abbrev Zp.id:Nat:=35
def Zp.an:Ann:=[(0,[1]),(1,[1,3]),(2,[1,3,4]),(3,[1,3,4,15]),(4,[1,3,4]),(5,[1,3,4,5]),(6,[1,3,4,5,6]),(7,[1,3,4,5,6,35]),(8,[1,3,4,5,6]),(9,[1,3,4,5,6,7]),(10,[1,3,4,5,6,7,50]),(11,[1,3,4,5,6,7]),(12,[1,3,4,5,6,7]),(13,[1,3,4,6,8]),(14,[1,3,4,6,8,65]),(15,[1,3,4,6,8]),(16,[1,3,4,6,8,9]),(17,[1,3,4,6,8,9,10]),(18,[1,3,4,6,8,9,10,71]),(19,[1,3,4,6,8,9,10]),(20,[1,3,4,6,8,9,10]),(21,[1,3,4,6,8,87]),(22,[1,3,4,6,8]),(23,[2]),(1000020,[0,1,2,3,4,5,6,7,8,9,10,11,12])]
def Zp.body:DC:=.seq (qR Zp.r0 [1]) (.seq (qR Zp.r1 [1,3]) (.seq (.seq (qR Zp.r2 [1,3,4]) (.block 0 (.loop Zp.l0))) (.seq (qR Zp.r23 [2]) .ret)))
def Zp.df:DF:=⟨96,[.tmp 2],Zp.body⟩
theorem Zp.ok:cf Zuv Zp.an Zp.id=some Zp.df:=by kernel_rfl
def Qd.r0:List DOp:=[⟨some 4,none,.q .mv [.cst (.str [])]⟩]
def Qd.r1:List DOp:=[qm 5 0,⟨some 6,none,.q (.bin .eql (none)) [.tmp 5,.cst (.str [])]⟩]
def Qd.r2:=[qm 7 1,qm 4 7]
def Qd.r3:List DOp:=[qm 8 0,⟨some 9,none,.q (.bin .add (none)) [.tmp 8,.cst (.str [46])]⟩,qm 10 1,qd 11 .add 9 10,qm 4 11]
abbrev Qd.id:Nat:=36
def Qd.an:Ann:=[(0,[0,1]),(1,[0,1,6]),(2,[4]),(3,[4])]
def Qd.body:DC:=.seq (qR Qd.r0 [0,1]) (.seq (.seq (qR Qd.r1 [0,1,6]) (qC 6 (.seq (qR Qd.r2 [4]) .ret) .skip)) (.seq (qR Qd.r3 [4]) .ret))
def Qd.df:DF:=⟨12,[.tmp 4],Qd.body⟩
theorem Qd.ok:cf Zuv Qd.an Qd.id=some Qd.df:=by kernel_rfl
def ZB.r0:=[qB 3 0,qB 4 1,qB 5 2,qi 6 0]
def ZB.r1:=[qa 9 1 4,ql 10 9,qm 7 10]
def ZB.r2:=[qa 12 0 4,ql 13 12,qa 14 0 5,ql 15 14,qd 16 .neq 13 15,qm 11 16]
def ZB.r3:=[qi 6 3]
def ZB.r4:=[qa 18 1 4,ql 19 18,qa 20 1 5,ql 21 20,qd 22 .neq 19 21,qm 17 22]
def ZB.r5:=[qi 6 4]
def ZB.r6:=[qa 24 2 4,ql 25 24,qa 26 2 5,ql 27 26,qd 28 .neq 25 27,qm 29 28,qn 29 (qa 30 3 4),qn 29 (ql 31 30),qn 29 (qa 32 3 5),qn 29 (ql 33 32),qn 29 ⟨some 34,none,.q (.bin .neq (some .bool)) [.tmp 31,.tmp 33]⟩,qo 35 29 34,qm 36 35,qn 36 (qa 37 13 4),qn 36 (ql 38 37),qn 36 (qa 39 13 5),qn 36 (ql 40 39),qn 36 (qd 41 .neq 38 40),qo 42 36 41,qm 43 42,qn 43 (qa 44 14 4),qn 43 (ql 45 44),qn 43 (qa 46 14 5),qn 43 (ql 47 46),qn 43 (qd 48 .neq 45 47),qo 49 43 48,qm 50 49,qn 50 (qm 51 7),qn 50 (qe 52 .eql 51 5),qn 50 (qm 53 52),qy 53 (qa 54 5 4),qy 53 (ql 55 54),qy 53 (qa 56 5 5),qy 53 (ql 57 56),qy 53 (qd 58 .neq 55 57),qn 50 (qO 59 53 58),qo 60 50 59,qm 23 60]
def ZB.r7:=[qi 6 5]
def ZB.r8:=[qm 62 7,qe 63 .eql 62 2,qm 64 63,qy 64 (qa 65 5 4),qy 64 (ql 66 65),qy 64 (qa 67 5 5),qy 64 (ql 68 67),qy 64 (qd 69 .neq 66 68),qO 70 64 69,qm 71 70,qn 71 (qm 72 7),qn 71 (qe 73 .eql 72 1),qn 71 (qm 74 73),qn 74 (qm 75 7),qn 74 (qe 76 .eql 75 3),qn 71 (qo 77 74 76),qn 71 (qm 78 77),qy 78 (qa 79 5 4),qy 78 (ql 80 79),qy 78 (qa 81 5 5),qy 78 (ql 82 81),qy 78 (qd 83 .lss 80 82),qy 78 (qm 84 83),qn 84 (qa 85 6 4),qn 84 (ql 86 85),qn 84 (qa 87 6 5),qn 84 (ql 88 87),qn 84 (qd 89 .gtr 86 88),qy 78 (qo 90 84 89),qn 71 (qO 91 78 90),qo 92 71 91,qm 93 92,qn 93 (qm 94 7),qn 93 (qe 95 .eql 94 5),qn 93 (qm 96 95),qn 96 (qm 97 7),qn 96 (qe 98 .eql 97 6),qn 93 (qo 99 96 98),qn 93 (qm 100 99),qy 100 (qa 101 6 4),qy 100 (ql 102 101),qy 100 (qa 103 6 5),qy 100 (ql 104 103),qy 100 (qd 105 .gtr 102 104),qn 93 (qO 106 100 105),qo 107 93 106,qm 61 107]
def ZB.r9:=[qi 6 6]
def ZB.r10:=[qa 109 4 4,ql 110 109,qm 111 110,qy 111 (qa 112 4 5),qy 111 (ql 113 112),qy 111 (qk 114 .not 113),qO 115 111 114,qm 108 115]
def ZB.r11:=[qi 6 7]
def ZB.r12:=[qa 117 7 4,qL 118 2 117,qa 119 7 5,qL 120 2 119,qf 121 52 [.tmp 118,.tmp 120],qk 122 .not 121,qm 116 122]
def ZB.r13:=[qi 6 8]
def ZB.r14:=[qa 124 10 4,ql 125 124,qa 126 10 5,ql 127 126,qd 128 .neq 125 127,qm 129 128,qn 129 (qa 130 11 4),qn 129 (ql 131 130),qn 129 (qa 132 11 5),qn 129 (ql 133 132),qn 129 (qd 134 .neq 131 133),qo 135 129 134,qm 123 135]
def ZB.r15:=[qi 6 9]
def ZB.r16:=[qL 137 2 3,qL 138 15 4,qf 139 38 [.tmp 137,.tmp 138],qm 140 139,qy 140 (qa 141 9 4),qy 140 (ql 142 141),qy 140 (qa 143 9 5),qy 140 (ql 144 143),qy 140 (qd 145 .neq 142 144),qO 146 140 145,qm 136 146]
def ZB.r17:=[qi 6 10]
def ZB.r18:=[qi 8 0]
def ZB.r19:=[qm 147 8,qa 148 12 4,ql 149 148,qk 150 .lenL 149,qd 151 .lss 147 150]
def ZB.r21:=[qa 154 12 4,ql 155 154,qm 156 8,qX 157 3 155 156,qL 158 3 157,qa 159 12 5,ql 160 159,qf 161 53 [.tmp 158,.tmp 160],qk 162 .not 161]
def ZB.r22:=[qi 6 11]
def ZB.r20:=[qm 152 8,qe 153 .add 152 1,qm 8 153]
def ZB.l0:DC:=.seq (.seq (qR ZB.r19 [4,5,8,151]) (qC 151 .skip (.exit 1))) (.seq (.block 2 (.seq (.regD [0,1,2,3,4,5,6,7,8] (Jb ZB.r21) (some [4,5,8,162])) (qC 162 (.seq (qR ZB.r22 [6]) .ret) .skip))) (qR ZB.r20 [4,5,8]))
def ZB.r23:=[qi 6 0]
abbrev ZB.id:Nat:=37
def ZB.an:Ann:=[(0,[3,4,5]),(1,[3,4,5,7]),(2,[3,4,5,7,11]),(3,[6]),(4,[3,4,5,7,17]),(5,[6]),(6,[3,4,5,7,23]),(7,[6]),(8,[3,4,5,61]),(9,[6]),(10,[3,4,5,108]),(11,[6]),(12,[3,4,5,116]),(13,[6]),(14,[3,4,5,123]),(15,[6]),(16,[4,5,136]),(17,[6]),(18,[4,5,8]),(19,[4,5,8,151]),(20,[4,5,8]),(21,[4,5,8,162]),(22,[6]),(23,[6]),(1000021,[0,1,2,3,4,5,6,7,8])]
def ZB.body:DC:=.seq (qR ZB.r0 [3,4,5]) (.seq (qR ZB.r1 [3,4,5,7]) (.seq (.block 0 (.seq (qR ZB.r2 [3,4,5,7,11]) (qC 11 (.seq (qR ZB.r3 [6]) .ret) (.seq (qR ZB.r4 [3,4,5,7,17]) (qC 17 (.seq (qR ZB.r5 [6]) .ret) (.seq (qR ZB.r6 [3,4,5,7,23]) (qC 23 (.seq (qR ZB.r7 [6]) .ret) (.seq (qR ZB.r8 [3,4,5,61]) (qC 61 (.seq (qR ZB.r9 [6]) .ret) (.seq (qR ZB.r10 [3,4,5,108]) (qC 108 (.seq (qR ZB.r11 [6]) .ret) (.seq (qR ZB.r12 [3,4,5,116]) (qC 116 (.seq (qR ZB.r13 [6]) .ret) (.seq (qR ZB.r14 [3,4,5,123]) (qC 123 (.seq (qR ZB.r15 [6]) .ret) (.seq (qR ZB.r16 [4,5,136]) (qC 136 (.seq (qR ZB.r17 [6]) .ret) .skip))))))))))))))))) (.seq (.seq (qR ZB.r18 [4,5,8]) (.block 1 (.loop ZB.l0))) (.seq (qR ZB.r23 [6]) .ret))))
def ZB.df:DF:=⟨163,[.tmp 6],ZB.body⟩
theorem ZB.ok:cf Zuv ZB.an ZB.id=some ZB.df:=by kernel_rfl
def QI.r0:=[qB 2 0,qB 3 1,qb 4 false]
def QI.r1:=[qa 5 1 3,ql 6 5,qe 7 .eql 6 8,qm 8 7,qn 8 (qa 9 1 3),qn 8 (ql 10 9),qn 8 (qe 11 .eql 10 12),qo 12 8 11,qm 13 12,qn 13 (qa 14 1 3),qn 13 (ql 15 14),qn 13 (qe 16 .eql 15 7),qn 13 (qm 17 16),qy 17 (qL 18 2 2),qy 17 (qL 19 15 3),qy 17 (qf 20 54 [.tmp 18,.tmp 19]),qy 17 (qe 21 .gtr 20 0),qn 13 (qO 22 17 21),qo 23 13 22,qm 4 23]
abbrev QI.id:Nat:=38
def QI.an:Ann:=[(0,[2,3]),(1,[4])]
def QI.body:DC:=.seq (qR QI.r0 [2,3]) (.seq (qR QI.r1 [4]) .ret)
def QI.df:DF:=⟨24,[.tmp 4],QI.body⟩
theorem QI.ok:cf Zuv QI.an QI.id=some QI.df:=by kernel_rfl
def ZH.r0:List DOp:=[qB 2 0,⟨some 4,none,.q .mv [.cst (.nilsl)]⟩]
def ZH.r1:=[qm 6 1]
def ZH.r2:List DOp:=[⟨some 5,none,.alloc [.str [],.int .i64 0]⟩,qS 2 5 7]
def ZH.r3:List DOp:=[ql 8 2,qL 9 2 5,⟨some 10,none,.bsl 1 2 [.str [],.int .i64 0] [0] [.tmp 9]⟩,⟨some 11,none,.append 32 2 24 [.str [],.int .i64 0] (.tmp 8) (.tmp 10)⟩,qs 2 11]
def ZH.a0:DC:=qR ZH.r2 [2,5,7]
def ZH.b0:DC:=.block 1 (qR ZH.r3 [2,7])
def ZH.r4:=[ql 12 2,qm 4 12]
abbrev ZH.id:Nat:=39
def ZH.an:Ann:=[(0,[1,2,7]),(1,[2,6,7]),(2,[2,5,7]),(3,[2,7]),(4,[4])]
def ZH.body:DC:=.seq (qR ZH.r0 [1,2,7]) (.seq (.seq (qR ZH.r1 [2,6,7]) (.block 0 (.rangeF (.tmp 6) [7] ZH.a0 ZH.b0))) (.seq (qR ZH.r4 [4]) .ret))
def ZH.df:DF:=⟨13,[.tmp 4],ZH.body⟩
theorem ZH.ok:cf Zuv ZH.an ZH.id=some ZH.df:=by kernel_rfl
def ZV.r0:=[ql 5 1,qk 6 .lenL 5,qi 7 0]
def ZV.r1:=[qd 8 .lss 7 6]
def ZV.r2:List DOp:=[qm 9 7,qX 10 2 5 7,qL 11 2 10,⟨some 4,none,.alloc [.str [],.int .i64 0]⟩,qm 3 9,qS 2 4 11]
def ZV.r3:List DOp:=[qm 12 0,qm 13 3,qL 14 2 4,⟨some 15,none,.call (.tmp 12) [.tmp 13,.tmp 14]⟩,qk 16 .not 15]
def ZV.r4:=[qe 17 .add 7 1,qm 7 17]
def ZV.l0:DC:=.seq (qR ZV.r1 [0,5,6,7,8]) (.seq (qC 8 .skip (.exit 0)) (.seq (.block 1 (.seq (qR ZV.r2 [0,3,4,5,6,7]) (.seq (qR ZV.r3 [0,5,6,7,16]) (qC 16 .ret .skip)))) (qR ZV.r4 [0,5,6,7])))
abbrev ZV.id:Nat:=40
def ZV.an:Ann:=[(0,[0,5,6,7]),(1,[0,5,6,7,8]),(2,[0,3,4,5,6,7]),(3,[0,5,6,7,16]),(4,[0,5,6,7])]
def ZV.body:DC:=.seq (qR ZV.r0 [0,5,6,7]) (.block 0 (.loop ZV.l0))
def ZV.df:DF:=⟨18,[],ZV.body⟩
theorem ZV.ok:cf Zuv ZV.an ZV.id=some ZV.df:=by kernel_rfl
def ZD.r0:=[qi 4 0]
def ZD.r1:=[qm 6 0,qk 7 .lenL 6,qi 8 0]
def ZD.r2:=[qd 9 .lss 8 7]
def ZD.r3:=[qm 10 8,qm 5 10]
def ZD.r4:List DOp:=[qm 11 1,qm 12 0,qm 13 5,qX 14 1 12 13,ql 15 14,⟨some 16,none,.call (.tmp 11) [.tmp 15]⟩]
def ZD.r5:=[qm 17 5,qm 4 17]
def ZD.r6:=[qe 18 .add 8 1,qm 8 18]
def ZD.l0:DC:=.seq (qR ZD.r2 [0,1,7,8,9]) (.seq (qC 9 .skip (.exit 0)) (.seq (.block 1 (.seq (qR ZD.r3 [0,1,5,7,8]) (.seq (qR ZD.r4 [0,1,5,7,8,16]) (qC 16 (.seq (qR ZD.r5 [4]) .ret) .skip)))) (qR ZD.r6 [0,1,7,8])))
def ZD.r7:=[qi 4 (-1)]
abbrev ZD.id:Nat:=41
def ZD.an:Ann:=[(0,[0,1]),(1,[0,1,7,8]),(2,[0,1,7,8,9]),(3,[0,1,5,7,8]),(4,[0,1,5,7,8,16]),(5,[4]),(6,[0,1,7,8]),(7,[4])]
def ZD.body:DC:=.seq (qR ZD.r0 [0,1]) (.seq (.seq (qR ZD.r1 [0,1,7,8]) (.block 0 (.loop ZD.l0))) (.seq (qR ZD.r7 [4]) .ret))
def ZD.df:DF:=⟨19,[.tmp 4],ZD.body⟩
theorem ZD.ok:cf Zuv ZD.an ZD.id=some ZD.df:=by kernel_rfl
def Zv.r0:List DOp:=[qB 1 0,⟨some 2,none,.q .mv [.cst (.nilptr)]⟩,⟨some 3,none,.alloc [.int .i64 0,.int .i64 0,.int .i64 0]⟩,⟨some 4,none,.alloc [.bool false]⟩]
def Zv.r1:List DOp:=[qL 9 3 1,⟨some 10,none,.mkmap⟩,⟨some 11,none,.mkmap⟩,⟨some 12,none,.q (.build [.str [],.nilsl,.str [],.nilmap,.nilmap,.int .i64 0,.int .i64 0,.str [],.nilsl] [(0,3),(3,1),(4,1),(5,1),(6,1)]) [.tmp 9,.tmp 10,.tmp 11,.cst (.int .i64 (-1)),.cst (.int .i64 (-1))]⟩,qB 13 12,qm 2 13]
def Zv.r2:List DOp:=[⟨some 14,none,.q (.mkfn (.func 55) 0) [.tmp 3,.tmp 4]⟩,⟨none,none,.defer (.tmp 14) []⟩]
def Zv.r3:=[qm 15 2,qa 16 0 1,ql 17 16,qf 18 57 [.tmp 17],qf 19 56 [.tmp 15,.tmp 18,.cst (.int .i64 1)]]
def Zv.r4:=[qm 20 2,qa 21 1 1,ql 22 21,qk 23 .lenL 22,qe 24 .geq 23 1,qm 25 24,qy 25 (qa 26 1 1),qy 25 (ql 27 26),qy 25 (qk 28 .lenL 27),qy 25 (qe 29 .leq 28 60),qO 30 25 29,qf 31 56 [.tmp 20,.tmp 30,.cst (.int .i64 3)]]
def Zv.r5:=[qa 32 1 1,ql 33 32,qk 34 .lenL 33,qi 35 0]
def Zv.r6:=[qd 36 .lss 35 34]
def Zv.r7:List DOp:=[qm 37 35,qX 38 2 33 35,qL 39 2 38,⟨some 6,none,.alloc [.str [],.nilsl]⟩,qm 5 37,qS 2 6 39]
def Zv.r8:=[qm 40 2,qm 41 5,qk 42 .nilck 40,qa 43 5 42,qs 43 41]
def Zv.r9:=[qm 44 2,qL 45 2 6,qf 46 58 [.tmp 44,.tmp 45]]
def Zv.r10:=[qe 47 .add 35 1,qm 35 47]
def Zv.l0:DC:=.seq (qR Zv.r6 [1,2,3,4,33,34,35,36]) (.seq (qC 36 .skip (.exit 0)) (.seq (.block 1 (.seq (qR Zv.r7 [1,2,3,4,5,6,33,34,35]) (.seq (qR Zv.r8 [1,2,3,4,6,33,34,35]) (qR Zv.r9 [1,2,3,4,33,34,35])))) (qR Zv.r10 [1,2,3,4,33,34,35])))
def Zv.r11:List DOp:=[qm 48 2,qk 49 .nilck 48,qa 50 5 49,⟨none,none,.store1 (.tmp 50) (.cst (.int .i64 (-1)))⟩]
def Zv.r12:List DOp:=[qm 52 2,qk 53 .nilck 52,qa 54 3 53,ql 55 54,qa 56 2 1,ql 57 56,⟨some 58,none,.q (.lookup (.sc .str) (.int .i64 0) true) [.tmp 55,.tmp 57]⟩,qm 51 58,qx 59 0 51,qx 60 1 51,qm 7 59,qm 8 60]
def Zv.r13:=[qm 61 2,qm 62 8,qf 63 56 [.tmp 61,.tmp 62,.cst (.int .i64 11)]]
def Zv.r14:List DOp:=[qm 64 2,⟨some 65,none,.q (.build [.int .i64 0,.int .i64 0,.int .i64 0] []) []⟩,qm 2 64,qS 3 3 65,⟨none,none,.store1 (.tmp 4) (.cst (.bool false))⟩]
abbrev Zv.id:Nat:=42
def Zv.an:Ann:=[(0,[1,3,4]),(1,[1,2,3,4]),(2,[1,2,3,4]),(3,[1,2,3,4]),(4,[1,2,3,4]),(5,[1,2,3,4,33,34,35]),(6,[1,2,3,4,33,34,35,36]),(7,[1,2,3,4,5,6,33,34,35]),(8,[1,2,3,4,6,33,34,35]),(9,[1,2,3,4,33,34,35]),(10,[1,2,3,4,33,34,35]),(11,[1,2,3,4]),(12,[2,3,4,8]),(13,[2,3,4]),(14,[2,3,4]),(1000012,[0,1,2,3,4,5,6,7,8,9,10,11])]
def Zv.body:DC:=.seq (qR Zv.r0 [1,3,4]) (.seq (qR Zv.r1 [1,2,3,4]) (.seq (qR Zv.r2 [1,2,3,4]) (.seq (qR Zv.r3 [1,2,3,4]) (.seq (qR Zv.r4 [1,2,3,4]) (.seq (.seq (qR Zv.r5 [1,2,3,4,33,34,35]) (.block 0 (.loop Zv.l0))) (.seq (qR Zv.r11 [1,2,3,4]) (.seq (.regD [0,1,2,3,4,5,6,7,8,9,10,11] (Jb Zv.r12) (some [2,3,4,8])) (.seq (qR Zv.r13 [2,3,4]) (.seq (qR Zv.r14 [2,3,4]) .ret)))))))))
def Zv.df:DF:=⟨66,[.tmp 2,.cellN 3 3,.cell1 4],Zv.body⟩
theorem Zv.ok:cf Zuv Zv.an Zv.id=some Zv.df:=by kernel_rfl
def K7.r0:=[qB 2 0,qB 3 1,qi 4 0,qb 5 false]
def K7.r1:List DOp:=[qa 6 1 2,ql 7 6,⟨some 8,none,.q (.mkfn (.func 60) 0) [.tmp 3]⟩,qf 9 59 [.tmp 7,.tmp 8],qx 10 0 9,qx 11 1 9,qm 4 10,qm 5 11]
abbrev K7.id:Nat:=43
def K7.an:Ann:=[(0,[2,3]),(1,[4,5])]
def K7.body:DC:=.seq (qR K7.r0 [2,3]) (.seq (qR K7.r1 [4,5]) .ret)
def K7.df:DF:=⟨12,[.tmp 4,.tmp 5],K7.body⟩
theorem K7.ok:cf Zuv K7.an K7.id=some K7.df:=by kernel_rfl
abbrev strings_Join.id:Nat:=44
def KL.r0:List DOp:=[⟨some 0,none,.q .mv [.cst (.nilsl)]⟩]
def KL.r1:List DOp:=[⟨some 1,none,.q (.build [.int .i64 0,.nilfn] [(0,1),(1,1)]) [.cst (.int .i64 3),.cst (.fn (.func 64) [] [])]⟩,⟨some 2,none,.q (.build [.int .i64 0,.nilfn] [(0,1),(1,1)]) [.cst (.int .i64 4),.cst (.fn (.func 65) [] [])]⟩,⟨some 3,none,.q (.build [.int .i64 0,.nilfn] [(0,1),(1,1)]) [.cst (.int .i64 5),.cst (.fn (.func 66) [] [])]⟩,⟨some 4,none,.q (.build [.int .i64 0,.nilfn] [(0,1),(1,1)]) [.cst (.int .i64 6),.cst (.fn (.func 67) [] [])]⟩,⟨some 5,none,.q (.build [.int .i64 0,.nilfn] [(0,1),(1,1)]) [.cst (.int .i64 7),.cst (.fn (.func 68) [] [])]⟩,⟨some 6,none,.q (.build [.int .i64 0,.nilfn] [(0,1),(1,1)]) [.cst (.int .i64 8),.cst (.fn (.func 69) [] [])]⟩,⟨some 7,none,.q (.build [.int .i64 0,.nilfn] [(0,1),(1,1)]) [.cst (.int .i64 9),.cst (.fn (.func 71) [] [])]⟩,⟨some 8,none,.q (.build [.int .i64 0,.nilfn] [(0,1),(1,1)]) [.cst (.int .i64 10),.cst (.fn (.func 72) [] [])]⟩,⟨some 9,none,.q (.build [.int .i64 0,.nilfn] [(0,1),(1,1)]) [.cst (.int .i64 11),.cst (.fn (.func 73) [] [])]⟩,⟨some 10,none,.bsl 9 2 [.int .i64 0,.nilfn] [0,1,2,3,4,5,6,7,8] [.tmp 1,.tmp 2,.tmp 3,.tmp 4,.tmp 5,.tmp 6,.tmp 7,.tmp 8,.tmp 9]⟩,qm 0 10]
abbrev KL.id:Nat:=45
def KL.an:Ann:=[(0,[]),(1,[0])]
def KL.body:DC:=.seq (qR KL.r0 []) (.seq (qR KL.r1 [0]) .ret)
def KL.df:DF:=⟨11,[.tmp 0],KL.body⟩
theorem KL.ok:cf Zuv KL.an KL.id=some KL.df:=by kernel_rfl
def YB.r0:=[qB 1 0,qb 2 false]
def YB.r1:List DOp:=[⟨some 4,none,.mkmap⟩,⟨none,none,.mapupd (.sc .int) (.tmp 4) (.cst (.int .i64 8)) (.cst (.fn (.func 74) [] []))⟩,⟨none,none,.mapupd (.sc .int) (.tmp 4) (.cst (.int .i64 12)) (.cst (.fn (.func 75) [] []))⟩,⟨some 5,none,.q (.mkfn (.func 76) 0) [.tmp 1]⟩,⟨none,none,.mapupd (.sc .int) (.tmp 4) (.cst (.int .i64 7)) (.tmp 5)⟩,qm 6 4,qa 7 2 1,qa 8 1 7,ql 9 8,⟨some 10,none,.q (.lookup (.sc .int) (.nilfn) false) [.tmp 6,.tmp 9]⟩,qm 3 10]
def YB.r2:List DOp:=[qm 11 3,⟨some 12,none,.q (.bin .neq (some .fn)) [.tmp 11,.cst (.nilfn)]⟩,qm 13 12,qy 13 (qm 14 3),qy 13 ⟨some 15,none,.call (.tmp 14) []⟩,qO 16 13 15,qm 2 16]
abbrev YB.id:Nat:=46
def YB.an:Ann:=[(0,[1]),(1,[3]),(2,[2])]
def YB.body:DC:=.seq (qR YB.r0 [1]) (.seq (qR YB.r1 [3]) (.seq (qR YB.r2 [2]) .ret))
def YB.df:DF:=⟨17,[.tmp 2],YB.body⟩
theorem YB.ok:cf Zuv YB.an YB.id=some YB.df:=by kernel_rfl
def Qp.r0:=[qb 2 false]
def Qp.r1:List DOp:=[qm 3 0,⟨some 4,none,.q (.bin .geq (none)) [.tmp 3,.cst (.int .u8 65)]⟩,qm 5 4,qy 5 (qm 6 0),qy 5 ⟨some 7,none,.q (.bin .leq (none)) [.tmp 6,.cst (.int .u8 90)]⟩,qO 8 5 7,qm 9 8,qn 9 (qm 10 0),qn 9 ⟨some 11,none,.q (.bin .geq (none)) [.tmp 10,.cst (.int .u8 97)]⟩,qn 9 (qm 12 11),qy 12 (qm 13 0),qy 12 ⟨some 14,none,.q (.bin .leq (none)) [.tmp 13,.cst (.int .u8 122)]⟩,qn 9 (qO 15 12 14),qo 16 9 15,qm 2 16]
abbrev Qp.id:Nat:=47
def Qp.an:Ann:=[(0,[0]),(1,[2])]
def Qp.body:DC:=.seq (qR Qp.r0 [0]) (.seq (qR Qp.r1 [2]) .ret)
def Qp.df:DF:=⟨17,[.tmp 2],Qp.body⟩
theorem Qp.ok:cf Zuv Qp.an Qp.id=some Qp.df:=by kernel_rfl
def QG.r0:=[qb 2 false]
def QG.r1:List DOp:=[qm 3 0,⟨some 4,none,.q (.bin .geq (none)) [.tmp 3,.cst (.int .u8 48)]⟩,qm 5 4,qy 5 (qm 6 0),qy 5 ⟨some 7,none,.q (.bin .leq (none)) [.tmp 6,.cst (.int .u8 57)]⟩,qO 8 5 7,qm 2 8]
abbrev QG.id:Nat:=48
def QG.an:Ann:=[(0,[0]),(1,[2])]
def QG.body:DC:=.seq (qR QG.r0 [0]) (.seq (qR QG.r1 [2]) .ret)
def QG.df:DF:=⟨9,[.tmp 2],QG.body⟩
theorem QG.ok:cf Zuv QG.an QG.id=some QG.df:=by kernel_rfl
def Wg.r0:=[qB 3 0,qi 6 0]
def Wg.r1:=[qi 7 0]
def Wg.r2:=[qm 8 7,qm 9 2,qd 10 .lss 8 9]
def Wg.r4:=[qa 13 1 3,ql 14 13,qm 15 7,qX 16 15 14 15,qa 17 0 16,ql 18 17,qm 19 1,qd 20 .eql 18 19]
def Wg.r5:=[qm 21 7,qm 6 21]
def Wg.r3:=[qm 11 7,qe 12 .add 11 1,qm 7 12]
def Wg.l0:DC:=.seq (.seq (qR Wg.r2 [1,2,3,7,10]) (qC 10 .skip (.exit 0))) (.seq (.block 1 (.seq (qR Wg.r4 [1,2,3,7,20]) (qC 20 (.seq (qR Wg.r5 [6]) .ret) .skip))) (qR Wg.r3 [1,2,3,7]))
def Wg.r6:=[qi 6 (-1)]
abbrev Wg.id:Nat:=49
def Wg.an:Ann:=[(0,[1,2,3]),(1,[1,2,3,7]),(2,[1,2,3,7,10]),(3,[1,2,3,7]),(4,[1,2,3,7,20]),(5,[6]),(6,[6])]
def Wg.body:DC:=.seq (qR Wg.r0 [1,2,3]) (.seq (.seq (qR Wg.r1 [1,2,3,7]) (.block 0 (.loop Wg.l0))) (.seq (qR Wg.r6 [6]) .ret))
def Wg.df:DF:=⟨22,[.tmp 6],Wg.body⟩
theorem Wg.ok:cf Zuv Wg.an Wg.id=some Wg.df:=by kernel_rfl
def W1.r0:=[qB 1 0,qb 2 false]
def W1.r1:=[qa 4 1 1,ql 5 4,qf 6 79 [.tmp 5],qm 3 6]
def W1.r2:=[qm 7 3,qf 8 80 [.tmp 7,.cst (.int .u8 98)],qk 9 .not 8,qm 10 9,qy 10 (qa 11 2 1),qy 10 (ql 12 11),qy 10 (qe 13 .neq 12 0),qO 14 10 13,qm 15 14,qn 15 (qm 16 3),qn 15 (qf 17 80 [.tmp 16,.cst (.int .u8 108)]),qn 15 (qk 18 .not 17),qn 15 (qm 19 18),qy 19 (qa 20 3 1),qy 19 (ql 21 20),qn 15 (qO 22 19 21),qo 23 15 22,qm 24 23,qn 24 (qm 25 3),qn 24 (qf 26 80 [.tmp 25,.cst (.int .u8 111)]),qn 24 (qk 27 .not 26),qn 24 (qm 28 27),qy 28 (qa 29 4 1),qy 28 (ql 30 29),qn 24 (qO 31 28 30),qo 32 24 31,qm 33 32,qn 33 (qm 34 3),qn 33 (qf 35 80 [.tmp 34,.cst (.int .u8 120)]),qn 33 (qk 36 .not 35),qn 33 (qm 37 36),qy 37 (qa 38 5 1),qy 37 (ql 39 38),qy 37 (qe 40 .neq 39 0),qn 33 (qO 41 37 40),qo 42 33 41,qm 43 42,qn 43 (qm 44 3),qn 43 (qf 45 80 [.tmp 44,.cst (.int .u8 104)]),qn 43 (qk 46 .not 45),qn 43 (qm 47 46),qy 47 (qa 48 6 1),qy 47 (ql 49 48),qy 47 (qe 50 .neq 49 0),qn 43 (qO 51 47 50),qo 52 43 51]
def W1.r3:=[qb 2 false]
def W1.r4:=[qm 53 3,qf 54 80 [.tmp 53,.cst (.int .u8 115)],qk 55 .not 54,qm 56 55,qy 56 (qa 57 7 1),qy 56 (qa 58 0 57),qy 56 (ql 59 58),qy 56 (qe 60 .neq 59 0),qy 56 (qm 61 60),qn 61 (qa 62 7 1),qn 61 (qa 63 1 62),qn 61 (ql 64 63),qn 61 (qk 65 .lenL 64),qn 61 (qe 66 .neq 65 0),qy 56 (qo 67 61 66),qO 68 56 67,qm 69 68,qn 69 (qm 70 3),qn 69 (qf 71 80 [.tmp 70,.cst (.int .u8 102)]),qn 69 (qk 72 .not 71),qn 69 (qm 73 72),qy 73 (qa 74 9 1),qy 73 (ql 75 74),qy 73 ⟨some 76,none,.q (.bin .neq (none)) [.tmp 75,.cst (.str [])]⟩,qn 69 (qO 77 73 76),qo 78 69 77,qm 79 78,qn 79 (qm 80 3),qn 79 (qf 81 80 [.tmp 80,.cst (.int .u8 116)]),qn 79 (qk 82 .not 81),qn 79 (qm 83 82),qy 83 (qa 84 10 1),qy 83 (ql 85 84),qy 83 ⟨some 86,none,.q (.bin .neq (none)) [.tmp 85,.cst (.str [])]⟩,qn 79 (qO 87 83 86),qo 88 79 87,qm 89 88,qn 89 (qm 90 3),qn 89 (qf 91 80 [.tmp 90,.cst (.int .u8 114)]),qn 89 (qk 92 .not 91),qn 89 (qm 93 92),qy 93 (qa 94 11 1),qy 93 (ql 95 94),qy 93 ⟨some 96,none,.q (.bin .neq (none)) [.tmp 95,.cst (.str [])]⟩,qn 89 (qO 97 93 96),qo 98 89 97]
def W1.r5:=[qb 2 false]
def W1.r6:=[qm 99 3,qf 100 80 [.tmp 99,.cst (.int .u8 99)],qm 101 100,qn 101 (qa 102 12 1),qn 101 (ql 103 102),qn 101 (qk 104 .lenL 103),qn 101 (qe 105 .eql 104 0),qo 106 101 105,qm 107 106,qy 107 (qm 108 3),qy 107 (qf 109 80 [.tmp 108,.cst (.int .u8 107)]),qy 107 (qm 110 109),qn 110 (qa 111 13 1),qn 110 (ql 112 111),qn 110 (qe 113 .eql 112 0),qy 107 (qo 114 110 113),qO 115 107 114,qm 116 115,qy 116 (qm 117 3),qy 116 (qf 118 80 [.tmp 117,.cst (.int .u8 121)]),qy 116 (qm 119 118),qn 119 (qa 120 14 1),qn 119 (ql 121 120),qn 119 (qe 122 .eql 121 0),qy 116 (qo 123 119 122),qO 124 116 123,qm 2 124]
abbrev W1.id:Nat:=50
def W1.an:Ann:=[(0,[1]),(1,[1,3]),(2,[1,3,52]),(3,[2]),(4,[1,3,98]),(5,[2]),(6,[2])]
def W1.body:DC:=.seq (qR W1.r0 [1]) (.seq (qR W1.r1 [1,3]) (.seq (.seq (qR W1.r2 [1,3,52]) (qC 52 (.seq (qR W1.r3 [2]) .ret) .skip)) (.seq (.seq (qR W1.r4 [1,3,98]) (qC 98 (.seq (qR W1.r5 [2]) .ret) .skip)) (.seq (qR W1.r6 [2]) .ret))))
def W1.df:DF:=⟨125,[.tmp 2],W1.body⟩
theorem W1.ok:cf Zuv W1.an W1.id=some W1.df:=by kernel_rfl
def Zf.r0:=[qB 3 0,qi 6 0]
def Zf.r1:List DOp:=[qa 13 1 3,ql 14 13,qm 15 1,qX 16 2 14 15,qL 17 2 16,⟨some 7,none,.alloc [.str [],.nilsl]⟩,qS 2 7 17]
def Zf.r2:List DOp:=[qa 18 1 7,ql 19 18,qm 20 2,qX 21 15 19 20,qL 22 15 21,⟨some 8,none,.alloc [.str [],.int .i64 0,.int .i64 0,.bool false,.bool false,.int .i64 0,.int .i64 0,.int .i64 0,.nilsl,.str [],.str [],.str [],.nilsl,.int .i64 0,.int .i64 0]⟩,qS 15 8 22]
def Zf.r3:=[qa 23 1 8,ql 24 23]
def Zf.r4:=[qe 26 .eql 24 1,qm 25 26]
def Zf.r5:=[qe 27 .eql 24 2,qm 25 27]
def Zf.r6:=[qL 28 15 8,qf 29 81 [.tmp 28],qm 6 29]
def Zf.r7:=[qe 31 .eql 24 3,qm 30 31]
def Zf.r8:=[qa 32 5 8,ql 33 32,qa 34 6 8,ql 35 34,qf 36 82 [.tmp 33,.tmp 35],qk 37 .not 36]
def Zf.r9:=[qi 6 7]
def Zf.r10:=[qe 39 .eql 24 4,qm 38 39]
def Zf.r11:=[qL 40 2 7,qm 41 2,qf 42 83 [.tmp 40,.tmp 41],qm 6 42]
def Zf.r12:=[qe 44 .eql 24 5,qm 43 44]
def Zf.r13:=[qa 45 5 8,ql 46 45,qe 47 .lss 46 0,qm 48 47,qn 48 (qa 49 5 8),qn 48 (ql 50 49),qn 48 (qe 51 .gtr 50 255),qo 52 48 51,qm 53 52,qn 53 (qa 54 6 8),qn 53 (ql 55 54),qn 53 (qe 56 .lss 55 0),qo 57 53 56,qm 58 57,qn 58 (qa 59 6 8),qn 58 (ql 60 59),qn 58 (qe 61 .gtr 60 1048576),qo 62 58 61]
def Zf.r14:=[qi 6 7]
def Zf.r15:=[qe 64 .eql 24 6,qm 63 64]
def Zf.r16:=[qa 65 6 8,ql 66 65,qe 67 .lss 66 2,qm 68 67,qn 68 (qa 69 6 8),qn 68 (ql 70 69),qn 68 (qe 71 .gtr 70 1048576),qo 72 68 71]
def Zf.r17:=[qi 6 7]
def Zf.r18:=[qe 74 .eql 24 7,qm 73 74]
def Zf.r19:=[qL 75 3 3,qa 76 9 8,ql 77 76,qm 78 1,qf 79 33 [.tmp 75,.tmp 77,.tmp 78],qe 80 .lss 79 0]
def Zf.r20:=[qi 6 8]
def Zf.r21:=[qL 81 2 7,qm 82 2,qf 83 83 [.tmp 81,.tmp 82],qm 6 83]
def Zf.r22:=[qe 85 .eql 24 8,qm 84 85]
def Zf.r23:=[qL 86 3 3,qa 87 9 8,ql 88 87,qm 89 1,qf 90 33 [.tmp 86,.tmp 88,.tmp 89],qe 91 .lss 90 0]
def Zf.r24:=[qi 6 8]
def Zf.r25:=[qe 93 .eql 24 9,qm 92 93]
def Zf.r26:=[qL 94 2 7,qa 95 10 8,ql 96 95,qm 97 2,qf 98 49 [.tmp 94,.tmp 96,.tmp 97],qm 9 98]
def Zf.r27:=[qm 99 9,qe 100 .lss 99 0,qm 101 100,qn 101 (qa 102 1 7),qn 101 (ql 103 102),qn 101 (qm 104 9),qn 101 (qX 105 15 103 104),qn 101 (qL 106 15 105),qn 101 (qf 107 84 [.tmp 106]),qn 101 (qk 108 .not 107),qo 109 101 108,qm 110 109,qn 110 (qL 111 2 7),qn 110 (qa 112 10 8),qn 110 (ql 113 112),qn 110 (qm 114 2),qn 110 (qf 115 85 [.tmp 111,.tmp 113,.tmp 114]),qo 116 110 115]
def Zf.r28:=[qi 6 8]
def Zf.r29:=[qa 118 1 7,ql 119 118,qm 120 9,qX 121 15 119 120,qL 122 15 121,qf 123 86 [.tmp 122],qm 117 123,qx 124 0 117,qx 125 1 117,qm 10 124,qm 11 125]
def Zf.r30:=[qL 126 3 3,qm 127 1,qL 128 15 8,qm 129 10,qm 130 11,qf 131 87 [.tmp 126,.tmp 127,.tmp 128,.tmp 129,.tmp 130],qm 6 131]
def Zf.r31:=[qe 133 .eql 24 10,qm 132 133]
def Zf.r32:=[qa 134 2 8,ql 135 134,qe 136 .neq 135 2,qm 137 136,qy 137 (qa 138 2 8),qy 137 (ql 139 138),qy 137 (qe 140 .neq 139 4),qO 141 137 140,qm 142 141,qy 142 (qa 143 2 8),qy 142 (ql 144 143),qy 142 (qe 145 .lss 144 8),qy 142 (qm 146 145),qn 146 (qa 147 2 8),qn 146 (ql 148 147),qn 146 (qe 149 .gtr 148 512),qy 142 (qo 150 146 149),qy 142 (qm 151 150),qn 151 (qa 152 2 8),qn 151 (ql 153 152),qn 151 (qe 154 .rem 153 8),qn 151 (qe 155 .neq 154 0),qy 142 (qo 156 151 155),qO 157 142 156]
def Zf.r33:=[qi 6 6]
def Zf.r34:=[qe 159 .eql 24 11,qm 158 159]
def Zf.r35:=[qa 160 13 8,ql 161 160,qe 162 .lss 161 1,qm 163 162,qn 163 (qa 164 13 8),qn 163 (ql 165 164),qn 163 (qe 166 .gtr 165 3),qo 167 163 166]
def Zf.r36:=[qi 6 7]
def Zf.r37:=[qL 168 2 7,qa 169 11 8,ql 170 169,qm 171 2,qf 172 49 [.tmp 168,.tmp 170,.tmp 171],qe 173 .lss 172 0]
def Zf.r38:=[qi 6 8]
def Zf.r39:=[qe 175 .eql 24 12,qm 174 175]
def Zf.r40:=[qa 176 14 8,ql 177 176,qe 178 .lss 177 0,qm 179 178,qn 179 (qa 180 14 8),qn 179 (ql 181 180),qn 179 (qe 182 .gtr 181 4294967295),qo 183 179 182]
def Zf.r41:=[qi 6 7]
def Zf.r42:=[qL 184 3 3,qa 185 9 8,ql 186 185,qm 187 1,qf 188 33 [.tmp 184,.tmp 186,.tmp 187],qm 12 188]
def Zf.r43:=[qm 189 12,qe 190 .lss 189 0,qm 191 190,qn 191 (qL 192 3 3),qn 191 (qm 193 1),qn 191 (qf 194 88 [.tmp 192,.tmp 193]),qn 191 (qm 195 12),qn 191 (qX 196 1 194 195),qn 191 (ql 197 196),qn 191 (qk 198 .not 197),qo 199 191 198]
def Zf.r44:=[qi 6 8]
def Zf.r45:=[qL 200 2 7,qm 201 2,qf 202 83 [.tmp 200,.tmp 201],qm 6 202]
def Zf.r46:=[qi 6 0]
abbrev Zf.id:Nat:=51
def Zf.an:Ann:=[(0,[1,2,3]),(1,[1,2,3,7]),(2,[1,2,3,7,8]),(3,[1,2,3,7,8,24]),(4,[1,2,3,7,8,24,25]),(5,[1,2,3,7,8,24,25]),(6,[6]),(7,[1,2,3,7,8,24,30]),(8,[37]),(9,[6]),(10,[1,2,3,7,8,24,38]),(11,[6]),(12,[1,2,3,7,8,24,43]),(13,[62]),(14,[6]),(15,[1,2,3,7,8,24,63]),(16,[72]),(17,[6]),(18,[1,2,3,7,8,24,73]),(19,[2,7,80]),(20,[6]),(21,[6]),(22,[1,2,3,7,8,24,84]),(23,[91]),(24,[6]),(25,[1,2,3,7,8,24,92]),(26,[1,2,3,7,8,9]),(27,[1,3,7,8,9,116]),(28,[6]),(29,[1,3,8,10,11]),(30,[6]),(31,[1,2,3,7,8,24,132]),(32,[157]),(33,[6]),(34,[1,2,3,7,8,24,158]),(35,[2,7,8,167]),(36,[6]),(37,[173]),(38,[6]),(39,[1,2,3,7,8,174]),(40,[1,2,3,7,8,183]),(41,[6]),(42,[1,2,3,7,12]),(43,[2,7,199]),(44,[6]),(45,[6]),(46,[6])]
def Zf.body:DC:=.seq (qR Zf.r0 [1,2,3]) (.seq (qR Zf.r1 [1,2,3,7]) (.seq (qR Zf.r2 [1,2,3,7,8]) (.seq (.seq (qR Zf.r3 [1,2,3,7,8,24]) (.block 0 (.seq (.seq (qR Zf.r4 [1,2,3,7,8,24,25]) (qC 25 .skip (qR Zf.r5 [1,2,3,7,8,24,25]))) (qC 25 (.seq (qR Zf.r6 [6]) .ret) (.seq (qR Zf.r7 [1,2,3,7,8,24,30]) (qC 30 (.seq (qR Zf.r8 [37]) (qC 37 (.seq (qR Zf.r9 [6]) .ret) .skip)) (.seq (qR Zf.r10 [1,2,3,7,8,24,38]) (qC 38 (.seq (qR Zf.r11 [6]) .ret) (.seq (qR Zf.r12 [1,2,3,7,8,24,43]) (qC 43 (.seq (qR Zf.r13 [62]) (qC 62 (.seq (qR Zf.r14 [6]) .ret) .skip)) (.seq (qR Zf.r15 [1,2,3,7,8,24,63]) (qC 63 (.seq (qR Zf.r16 [72]) (qC 72 (.seq (qR Zf.r17 [6]) .ret) .skip)) (.seq (qR Zf.r18 [1,2,3,7,8,24,73]) (qC 73 (.seq (.seq (qR Zf.r19 [2,7,80]) (qC 80 (.seq (qR Zf.r20 [6]) .ret) .skip)) (.seq (qR Zf.r21 [6]) .ret)) (.seq (qR Zf.r22 [1,2,3,7,8,24,84]) (qC 84 (.seq (qR Zf.r23 [91]) (qC 91 (.seq (qR Zf.r24 [6]) .ret) .skip)) (.seq (qR Zf.r25 [1,2,3,7,8,24,92]) (qC 92 (.seq (qR Zf.r26 [1,2,3,7,8,9]) (.seq (.seq (qR Zf.r27 [1,3,7,8,9,116]) (qC 116 (.seq (qR Zf.r28 [6]) .ret) .skip)) (.seq (qR Zf.r29 [1,3,8,10,11]) (.seq (qR Zf.r30 [6]) .ret)))) (.seq (qR Zf.r31 [1,2,3,7,8,24,132]) (qC 132 (.seq (qR Zf.r32 [157]) (qC 157 (.seq (qR Zf.r33 [6]) .ret) .skip)) (.seq (qR Zf.r34 [1,2,3,7,8,24,158]) (qC 158 (.seq (.seq (qR Zf.r35 [2,7,8,167]) (qC 167 (.seq (qR Zf.r36 [6]) .ret) .skip)) (.seq (qR Zf.r37 [173]) (qC 173 (.seq (qR Zf.r38 [6]) .ret) .skip))) (.seq (qR Zf.r39 [1,2,3,7,8,174]) (qC 174 (.seq (.seq (qR Zf.r40 [1,2,3,7,8,183]) (qC 183 (.seq (qR Zf.r41 [6]) .ret) .skip)) (.seq (qR Zf.r42 [1,2,3,7,12]) (.seq (.seq (qR Zf.r43 [2,7,199]) (qC 199 (.seq (qR Zf.r44 [6]) .ret) .skip)) (.seq (qR Zf.r45 [6]) .ret)))) .skip)))))))))))))))))))))))) (.seq (qR Zf.r46 [6]) .ret))))
def Zf.df:DF:=⟨203,[.tmp 6],Zf.body⟩
theorem Zf.ok:cf Zuv Zf.an Zf.id=some Zf.df:=by kernel_rfl
def QF.r0:=[qB 2 0,qB 3 1,qb 4 false]
def QF.r1:=[(qL 5 2 2,false),(qf 6 89 [.tmp 5],false),(qm 7 6,false),(qy 7 (qL 8 2 3),false),(qy 7 (qf 9 89 [.tmp 8]),false),(qO 10 7 9,false),(qm 11 10,false),(qy 11 (qL 12 2 2),false),(qy 11 (qL 14 2 3),false),(qy 11 (qf 13 91 [.tmp 12]),true),(qy 11 (qf 15 91 [.tmp 14]),false),(qy 11 (qf 16 90 [.tmp 13,.tmp 15]),false),(qO 17 11 16,false),(qm 4 17,false)]
abbrev QF.id:Nat:=52
def QF.an:Ann:=[(0,[2,3]),(1,[4]),(1000001,[0,1,2,3,4,5,6,7,9,8,10,11,12,13]),(2000001,[8])]
def QF.body:DC:=.seq (qR QF.r0 [2,3]) (.seq (.regD [0,1,2,3,4,5,6,7,9,8,10,11,12,13] QF.r1 (some [4])) .ret)
def QF.df:DF:=⟨18,[.tmp 4],QF.body⟩
theorem QF.ok:cf Zuv QF.an QF.id=some QF.df:=by kernel_rfl
def Ye.r0:=[qB 2 0,qb 4 false]
def Ye.r1:=[qa 7 0 2,ql 8 7,qm 5 8]
def Ye.r2:=[qi 6 0]
def Ye.r3:=[qm 9 6,qm 10 1,qk 11 .lenL 10,qd 12 .lss 9 11]
def Ye.r5:=[qm 15 1,qm 16 6,qX 17 3 15 16,qa 18 0 17,ql 19 18,qm 20 5,qd 21 .leq 19 20,qm 22 21,qy 22 (qm 23 5),qy 22 (qm 24 1),qy 22 (qm 25 6),qy 22 (qX 26 3 24 25),qy 22 (qa 27 1 26),qy 22 (ql 28 27),qy 22 (qd 29 .leq 23 28),qO 30 22 29,qm 31 30,qy 31 (qm 32 1),qy 31 (qm 33 6),qy 31 (qX 34 3 32 33),qy 31 (qa 35 2 34),qy 31 (ql 36 35),qy 31 (qa 37 2 2),qy 31 (ql 38 37),qy 31 (qd 39 .eql 36 38),qO 40 31 39]
def Ye.r6:=[qm 41 1,qm 42 6,qX 43 3 41 42,qa 44 1 43,ql 45 44,qa 46 1 2,ql 47 46,qd 48 .geq 45 47]
def Ye.r7:=[qb 4 true]
def Ye.r8:=[qm 49 1,qm 50 6,qX 51 3 49 50,qa 52 1 51,ql 53 52,qe 54 .add 53 1,qm 5 54]
def Ye.r4:=[qm 13 6,qe 14 .add 13 1,qm 6 14]
def Ye.l0:DC:=.seq (.seq (qR Ye.r3 [1,2,5,6,12]) (qC 12 .skip (.exit 0))) (.seq (.block 1 (.seq (.regD [0,1,2,3,4,5,6,7,8,9,10,11,12,13,14,15,16,17,18,19,20,21,22,23,24,25] (Jb Ye.r5) (some [1,2,5,6,40])) (qC 40 (.seq (.seq (.regD [0,1,2,3,4,5,6,7] (Jb Ye.r6) (some [1,2,6,48])) (qC 48 (.seq (qR Ye.r7 [4]) .ret) .skip)) (qR Ye.r8 [1,2,5,6])) .skip))) (qR Ye.r4 [1,2,5,6]))
def Ye.r9:=[qb 4 false]
abbrev Ye.id:Nat:=53
def Ye.an:Ann:=[(0,[1,2]),(1,[1,2,5]),(2,[1,2,5,6]),(3,[1,2,5,6,12]),(4,[1,2,5,6]),(5,[1,2,5,6,40]),(6,[1,2,6,48]),(7,[4]),(8,[1,2,5,6]),(9,[4]),(1000005,[0,1,2,3,4,5,6,7,8,9,10,11,12,13,14,15,16,17,18,19,20,21,22,23,24,25]),(1000006,[0,1,2,3,4,5,6,7])]
def Ye.body:DC:=.seq (qR Ye.r0 [1,2]) (.seq (qR Ye.r1 [1,2,5]) (.seq (.seq (qR Ye.r2 [1,2,5,6]) (.block 0 (.loop Ye.l0))) (.seq (qR Ye.r9 [4]) .ret)))
def Ye.df:DF:=⟨55,[.tmp 4],Ye.body⟩
theorem Ye.ok:cf Zuv Ye.an Ye.id=some Ye.df:=by kernel_rfl
def YP.r0:=[qB 2 0,qB 3 1,qi 4 0]
def YP.r1:List DOp:=[⟨some 5,none,.q .mv [.cst (.nilsl)]⟩]
def YP.r2:=[qi 6 0]
def YP.r3:=[qm 12 6,qa 13 1 2,ql 14 13,qk 15 .lenL 14,qd 16 .lss 12 15]
def YP.r5:=[qa 19 1 2,ql 20 19,qm 21 6,qX 22 15 20 21,qL 23 15 22,qf 24 84 [.tmp 23]]
def YP.r6:=[qa 26 1 2,ql 27 26,qm 28 6,qX 29 15 27 28,qL 30 15 29,qf 31 86 [.tmp 30],qm 25 31,qx 32 0 25,qx 33 1 25,qm 7 32,qm 8 33]
def YP.r7:List DOp:=[qm 34 5,qa 35 1 2,ql 36 35,qm 37 6,qX 38 15 36 37,qa 39 0 38,ql 40 39,qm 41 7,qm 42 8,⟨some 43,none,.q (.build [.str [],.int .i64 0,.int .i64 0] [(0,1),(1,1),(2,1)]) [.tmp 40,.tmp 41,.tmp 42]⟩,⟨some 44,none,.bsl 1 3 [.str [],.int .i64 0,.int .i64 0] [0] [.tmp 43]⟩,⟨some 45,none,.append 167 3 32 [.str [],.int .i64 0,.int .i64 0] (.tmp 34) (.tmp 44)⟩,qm 5 45]
def YP.r4:=[qm 17 6,qe 18 .add 17 1,qm 6 18]
def YP.l0:DC:=.seq (.seq (qR YP.r3 [2,3,5,6,16]) (qC 16 .skip (.exit 0))) (.seq (.block 1 (.seq (qR YP.r5 [2,3,5,6,24]) (qC 24 (.seq (qR YP.r6 [2,3,5,6,7,8]) (qR YP.r7 [2,3,5,6])) .skip))) (qR YP.r4 [2,3,5,6]))
def YP.r8:=[qa 47 7 3,qL 48 2 47,qm 49 5,qf 50 92 [.tmp 48,.tmp 49],qm 46 50,qx 51 0 46,qx 52 1 46,qx 53 2 46,qm 9 51,qm 10 52,qm 11 53]
def YP.r9:=[qm 54 10,qm 4 54]
abbrev YP.id:Nat:=54
def YP.an:Ann:=[(0,[2,3]),(1,[2,3,5]),(2,[2,3,5,6]),(3,[2,3,5,6,16]),(4,[2,3,5,6]),(5,[2,3,5,6,24]),(6,[2,3,5,6,7,8]),(7,[2,3,5,6]),(8,[10]),(9,[4])]
def YP.body:DC:=.seq (qR YP.r0 [2,3]) (.seq (qR YP.r1 [2,3,5]) (.seq (.seq (qR YP.r2 [2,3,5,6]) (.block 0 (.loop YP.l0))) (.seq (qR YP.r8 [10]) (.seq (qR YP.r9 [4]) .ret))))
def YP.df:DF:=⟨55,[.tmp 4],YP.body⟩
theorem YP.ok:cf Zuv YP.an YP.id=some YP.df:=by kernel_rfl
def Yi.r0:List DOp:=[⟨some 3,none,.recover⟩,qm 2 3]
def Yi.r1:List DOp:=[qm 4 2,⟨some 5,none,.q (.bin .neq (some .ifc)) [.tmp 4,.cst (.niliface)]⟩]
def Yi.r2:List DOp:=[qm 7 2,⟨some 8,none,.q (.tassert 72 true (.agg [.int .i64 0,.int .i64 0,.int .i64 0])) [.tmp 7]⟩,qm 6 8,qx 9 0 6,qx 10 1 6,qS 3 0 9,qs 1 10]
def Yi.r3:=[ql 11 1,qk 12 .not 11]
def Yi.r4:List DOp:=[qm 13 2,⟨none,none,.panic (.tmp 13)⟩]
abbrev Yi.id:Nat:=55
def Yi.an:Ann:=[(0,[0,1,2]),(1,[0,1,2,5]),(2,[1,2]),(3,[2,12]),(4,[])]
def Yi.body:DC:=.seq (qR Yi.r0 [0,1,2]) (.seq (qR Yi.r1 [0,1,2,5]) (qC 5 (.seq (qR Yi.r2 [1,2]) (.seq (qR Yi.r3 [2,12]) (qC 12 (qR Yi.r4 []) .skip))) .skip))
def Yi.df:DF:=⟨14,[],Yi.body⟩
theorem Yi.ok:cf Zuv Yi.an Yi.id=some Yi.df:=by kernel_rfl
def Wa.r0:=[qm 6 1,qk 7 .not 6]
def Wa.r1:List DOp:=[qm 8 0,qk 9 .nilck 8,qa 10 5 9,ql 11 10,qm 12 0,qk 13 .nilck 12,qa 14 6 13,ql 15 14,qm 16 2,⟨some 17,none,.q (.build [.int .i64 0,.int .i64 0,.int .i64 0] [(0,1),(1,1),(2,1)]) [.tmp 11,.tmp 15,.tmp 16]⟩,qk 18 (.mkif 72) 17,⟨none,none,.panic (.tmp 18)⟩]
abbrev Wa.id:Nat:=56
def Wa.an:Ann:=[(0,[0,2,7]),(1,[]),(1000001,[0,1,2,3,4,5,6,7,8,9,10,11])]
def Wa.body:DC:=.seq (qR Wa.r0 [0,2,7]) (qC 7 (.regD [0,1,2,3,4,5,6,7,8,9,10,11] (Jb Wa.r1) (some [])) .skip)
def Wa.df:DF:=⟨19,[],Wa.body⟩
theorem Wa.ok:cf Zuv Wa.an Wa.id=some Wa.df:=by kernel_rfl
def Qj.r0:=[qb 2 false]
def Qj.r1:List DOp:=[⟨some 3,none,.q .mv [.cst (.fn (.func 93) [] [])]⟩]
def Qj.r2:List DOp:=[qm 4 0,qk 5 .lenS 4,qe 6 .geq 5 1,qm 7 0,qk 8 .lenS 7,qe 9 .leq 8 32,⟨some 10,none,.bsl 2 1 [.bool false] [0,1] [.tmp 6,.tmp 9]⟩,qf 11 96 [.tmp 10],qm 12 11,qy 12 (qm 13 0),qy 12 ⟨some 14,none,.q .idxS [.tmp 13,.cst (.int .i64 0)]⟩,qy 12 (qf 15 94 [.tmp 14]),qO 16 12 15,qm 17 16,qy 17 (qm 18 0),qy 17 ⟨some 19,none,.s2b (.tmp 18)⟩,qy 17 (qm 20 3),qy 17 (qf 21 97 [.tmp 19,.tmp 20]),qy 17 (qk 22 .not 21),qO 23 17 22,qm 2 23]
abbrev Qj.id:Nat:=57
def Qj.an:Ann:=[(0,[0]),(1,[0,3]),(2,[2])]
def Qj.body:DC:=.seq (qR Qj.r0 [0]) (.seq (qR Qj.r1 [0,3]) (.seq (qR Qj.r2 [2]) .ret))
def Qj.df:DF:=⟨24,[.tmp 2],Qj.body⟩
theorem Qj.ok:cf Zuv Qj.an Qj.id=some Qj.df:=by kernel_rfl
def Zi.r0:=[qB 2 0,qB 3 1]
def Zi.r1:List (DOp × Bool):=[(ql 11 2,false),(ql 12 2,false),(qL 13 2 3,false),(qk 14 .nilck 11,false),(qa 15 7 14,false),(qS 2 15 13,true),(qk 16 .nilck 12,false),(qa 17 6 16,false),(⟨none,none,.store1 (.tmp 17) (.cst (.int .i64 (-1)))⟩,false)]
def Zi.r2:=[(ql 18 2,false),(qa 19 0 3,false),(ql 20 19,false),(qf 21 57 [.tmp 20],true),(qf 22 56 [.tmp 18,.tmp 21,.cst (.int .i64 1)],false)]
def Zi.r3:List DOp:=[ql 24 2,qk 25 .nilck 24,qa 26 3 25,ql 27 26,qa 28 0 3,ql 29 28,⟨some 30,none,.q (.lookup (.sc .str) (.int .i64 0) true) [.tmp 27,.tmp 29]⟩,qm 23 30,qx 31 0 23,qx 32 1 23,qm 4 31,qm 5 32]
def Zi.r4:=[ql 33 2,qm 34 5,qk 35 .not 34,qf 36 56 [.tmp 33,.tmp 35,.cst (.int .i64 2)]]
def Zi.r5:=[ql 37 2,qa 38 1 3,ql 39 38,qk 40 .lenL 39,qe 41 .geq 40 1,qm 42 41,qy 42 (qa 43 1 3),qy 42 (ql 44 43),qy 42 (qk 45 .lenL 44),qy 42 (qe 46 .leq 45 40),qO 47 42 46,qf 48 56 [.tmp 37,.tmp 47,.cst (.int .i64 3)]]
def Zi.r6:List DOp:=[⟨some 6,none,.alloc [.bool false]⟩,⟨none,none,.store1 (.tmp 6) (.cst (.bool true))⟩]
def Zi.r7:=[qa 49 1 3,ql 50 49,qk 51 .lenL 50,qi 52 0]
def Zi.r8:=[qd 53 .lss 52 51]
def Zi.r9:List DOp:=[qm 54 52,qX 55 15 50 52,qL 56 15 55,⟨some 8,none,.alloc [.str [],.int .i64 0,.int .i64 0,.bool false,.bool false,.int .i64 0,.int .i64 0,.int .i64 0,.nilsl,.str [],.str [],.str [],.nilsl,.int .i64 0,.int .i64 0]⟩,qm 7 54,qS 15 8 56]
def Zi.r10:=[ql 57 2,qm 58 7,qk 59 .nilck 57,qa 60 6 59,qs 60 58]
def Zi.r11:=[ql 61 2,qL 62 15 8,qf 63 98 [.tmp 61,.tmp 62]]
def Zi.r12:=[ql 64 6,qm 65 64,qy 65 (qa 66 4 8),qy 65 (ql 67 66),qy 65 (qk 68 .not 67),qO 69 65 68,qs 6 69]
def Zi.r13:=[qe 70 .add 52 1,qm 52 70]
def Zi.l0:DC:=.seq (qR Zi.r8 [2,3,6,50,51,52,53,76]) (.seq (qC 53 .skip (.exit 0)) (.seq (.block 1 (.seq (qR Zi.r9 [2,3,6,7,8,50,51,52,76]) (.seq (qR Zi.r10 [2,3,6,8,50,51,52,76]) (.seq (qR Zi.r11 [2,3,6,8,50,51,52,76]) (qR Zi.r12 [2,3,6,50,51,52,76]))))) (qR Zi.r13 [2,3,6,50,51,52,76])))
def Zi.r14:List DOp:=[ql 71 2,qk 72 .nilck 71,qa 73 6 72,⟨none,none,.store1 (.tmp 73) (.cst (.int .i64 (-1)))⟩]
def Zi.r15:List DOp:=[⟨some 9,none,.alloc [.int .i64 0]⟩,⟨none,none,.store1 (.tmp 9) (.cst (.int .i64 0))⟩]
def Zi.r16:=[qL 74 2 3,qf 75 99 [.tmp 74]]
def Zi.r17:=[qm 10 76]
def Zi.r18:List DOp:=[ql 77 9,ql 78 2,qk 79 .nilck 78,qa 80 3 79,ql 81 80,qm 82 10,⟨some 83,none,.q (.lookup (.sc .str) (.int .i64 0) false) [.tmp 81,.tmp 82]⟩,⟨some 84,none,.q .max [.tmp 77,.tmp 83]⟩,qs 9 84]
def Zi.r19:=[ql 85 6,qm 86 85,qy 86 (ql 87 2),qy 86 (qk 88 .nilck 87),qy 86 (qa 89 4 88),qy 86 (ql 90 89),qy 86 (qm 91 10),qy 86 ⟨some 92,none,.q (.lookup (.sc .str) (.bool false) false) [.tmp 90,.tmp 91]⟩,qO 93 86 92,qs 6 93]
def Zi.a1:DC:=qR Zi.r17 [2,3,6,9,10,76]
def Zi.b1:DC:=.block 3 (.seq (.regD [0,1,2,3,4,5,6,7,8] (Jb Zi.r18) (some [2,3,6,9,10,76])) (qR Zi.r19 [2,3,6,9,76]))
def Zi.r20:List (DOp × Bool):=[(ql 94 2,false),(qk 95 .nilck 94,false),(qa 96 3 95,false),(ql 97 96,false),(qa 98 0 3,false),(ql 99 98,false),(ql 100 2,false),(qk 101 .nilck 100,false),(qa 102 4 101,false),(ql 103 102,false),(qa 104 0 3,false),(ql 105 104,false),(ql 106 9,false),(qe 107 .add 106 1,false),(ql 108 6,false),(⟨some 109,none,.mapent (.sc .str) (.int .i64 0) (.tmp 97) (.tmp 99)⟩,true),(qx 110 1 109,false),(⟨none,none,.entst (.tmp 97) (.tmp 110) (.tmp 107)⟩,true),(⟨some 111,none,.mapent (.sc .str) (.bool false) (.tmp 103) (.tmp 105)⟩,true),(qx 112 1 111,false),(⟨none,none,.entst (.tmp 103) (.tmp 112) (.tmp 108)⟩,false)]
def Zi.r21:=[ql 113 2,ql 114 9,qe 115 .lss 114 16,qf 116 56 [.tmp 113,.tmp 115,.cst (.int .i64 10)]]
abbrev Zi.id:Nat:=58
def Zi.an:Ann:=[(0,[2,3,76]),(1,[2,3,76]),(2,[2,3,76]),(3,[2,3,5,76]),(4,[2,3,76]),(5,[2,3,76]),(6,[2,3,6,76]),(7,[2,3,6,50,51,52,76]),(8,[2,3,6,50,51,52,53,76]),(9,[2,3,6,7,8,50,51,52,76]),(10,[2,3,6,8,50,51,52,76]),(11,[2,3,6,8,50,51,52,76]),(12,[2,3,6,50,51,52,76]),(13,[2,3,6,50,51,52,76]),(14,[2,3,6,76]),(15,[2,3,6,9,76]),(16,[2,3,6,9,75,76]),(17,[2,3,6,9,10,76]),(18,[2,3,6,9,10,76]),(19,[2,3,6,9,76]),(20,[2,9]),(21,[]),(1000001,[0,1,2,3,4,5,6,7,8]),(1000002,[0,1,2,3,4]),(1000003,[0,1,2,3,4,5,6,7,8,9,10,11]),(1000018,[0,1,2,3,4,5,6,7,8]),(1000020,[0,1,2,3,4,5,6,7,8,9,10,11,12,13,14,15,16,17,18,19,20]),(2000001,[5]),(2000002,[3]),(2000020,[15,17,18])]
def Zi.body:DC:=.seq (qR Zi.r0 [2,3,76]) (.seq (.regD [0,1,2,3,4,5,6,7,8] Zi.r1 (some [2,3,76])) (.seq (.regD [0,1,2,3,4] Zi.r2 (some [2,3,76])) (.seq (.regD [0,1,2,3,4,5,6,7,8,9,10,11] (Jb Zi.r3) (some [2,3,5,76])) (.seq (qR Zi.r4 [2,3,76]) (.seq (qR Zi.r5 [2,3,76]) (.seq (qR Zi.r6 [2,3,6,76]) (.seq (.seq (qR Zi.r7 [2,3,6,50,51,52,76]) (.block 0 (.loop Zi.l0))) (.seq (qR Zi.r14 [2,3,6,76]) (.seq (qR Zi.r15 [2,3,6,9,76]) (.seq (.seq (qR Zi.r16 [2,3,6,9,75,76]) (.block 2 (.rangeF (.tmp 75) [76] Zi.a1 Zi.b1))) (.seq (.regD [0,1,2,3,4,5,6,7,8,9,10,11,12,13,14,15,16,17,18,19,20] Zi.r20 (some [2,9])) (qR Zi.r21 []))))))))))))
def Zi.df:DF:=⟨117,[],Zi.body⟩
theorem Zi.ok:cf Zuv Zi.an Zi.id=some Zi.df:=by kernel_rfl
def YI.r0:=[qi 4 0,qb 5 false]
def YI.r1:=[qm 7 0,qm 8 1,qf 9 100 [.tmp 7,.tmp 8],qm 6 9]
def YI.r2:List DOp:=[qm 10 6,⟨some 11,none,.q .max [.tmp 10,.cst (.int .i64 0)]⟩,qm 12 6,qe 13 .geq 12 0,qm 4 11,qm 5 13]
abbrev YI.id:Nat:=59
def YI.an:Ann:=[(0,[0,1]),(1,[6]),(2,[4,5])]
def YI.body:DC:=.seq (qR YI.r0 [0,1]) (.seq (qR YI.r1 [6]) (.seq (qR YI.r2 [4,5]) .ret))
def YI.df:DF:=⟨14,[.tmp 4,.tmp 5],YI.body⟩
theorem YI.ok:cf Zuv YI.an YI.id=some YI.df:=by kernel_rfl
def Kh.r0:=[qB 2 0,qb 3 false]
def Kh.r1:=[qa 4 0 2,ql 5 4,ql 6 1,qd 7 .eql 5 6,qm 3 7]
abbrev Kh.id:Nat:=60
def Kh.an:Ann:=[(0,[1,2]),(1,[3])]
def Kh.body:DC:=.seq (qR Kh.r0 [1,2]) (.seq (qR Kh.r1 [3]) .ret)
def Kh.df:DF:=⟨8,[.tmp 3],Kh.body⟩
theorem Kh.ok:cf Zuv Kh.an Kh.id=some Kh.df:=by kernel_rfl
def W4.r0:=[qB 1 0,qb 2 false]
def W4.r1:=[qa 3 2 1,qa 4 0 3,ql 5 4,qa 6 17 1,qa 7 0 6,ql 8 7,qd 9 .eql 5 8,qm 2 9]
abbrev W4.id:Nat:=64
def W4.an:Ann:=[(0,[1]),(1,[2])]
def W4.body:DC:=.seq (qR W4.r0 [1]) (.seq (qR W4.r1 [2]) .ret)
def W4.df:DF:=⟨10,[.tmp 2],W4.body⟩
theorem W4.ok:cf Zuv W4.an W4.id=some W4.df:=by kernel_rfl
def W5.r0:=[qB 1 0,qb 2 false]
def W5.r1:=[qa 3 2 1,qa 4 1 3,ql 5 4,qa 6 17 1,qa 7 1 6,ql 8 7,qd 9 .eql 5 8,qm 2 9]
abbrev W5.id:Nat:=65
def W5.an:Ann:=[(0,[1]),(1,[2])]
def W5.body:DC:=.seq (qR W5.r0 [1]) (.seq (qR W5.r1 [2]) .ret)
def W5.df:DF:=⟨10,[.tmp 2],W5.body⟩
theorem W5.ok:cf Zuv W5.an W5.id=some W5.df:=by kernel_rfl
def WG.r0:=[qB 1 0,qb 2 false]
def WG.r1:=[qa 4 2 1,qa 5 2 4,ql 6 5,qa 7 17 1,qa 8 2 7,ql 9 8,qd 10 .eql 6 9,qm 11 10,qy 11 (qa 12 2 1),qy 11 (qa 13 3 12),qy 11 (ql 14 13),qy 11 (qa 15 17 1),qy 11 (qa 16 3 15),qy 11 (ql 17 16),qy 11 ⟨some 18,none,.q (.bin .eql (some .bool)) [.tmp 14,.tmp 17]⟩,qO 19 11 18,qm 20 19,qy 20 (qa 21 2 1),qy 20 (qa 22 13 21),qy 20 (ql 23 22),qy 20 (qa 24 17 1),qy 20 (qa 25 13 24),qy 20 (ql 26 25),qy 20 (qd 27 .eql 23 26),qO 28 20 27,qm 29 28,qy 29 (qa 30 2 1),qy 29 (qa 31 14 30),qy 29 (ql 32 31),qy 29 (qa 33 17 1),qy 29 (qa 34 14 33),qy 29 (ql 35 34),qy 29 (qd 36 .eql 32 35),qO 37 29 36,qm 3 37]
def WG.r2:=[qm 38 3,qm 39 38,qy 39 (qa 40 2 1),qy 39 (qa 41 1 40),qy 39 (ql 42 41),qy 39 (qe 43 .neq 42 5),qy 39 (qm 44 43),qn 44 (qa 45 2 1),qn 44 (qa 46 5 45),qn 44 (ql 47 46),qn 44 (qa 48 17 1),qn 44 (qa 49 5 48),qn 44 (ql 50 49),qn 44 (qd 51 .eql 47 50),qy 39 (qo 52 44 51),qO 53 39 52,qm 2 53]
abbrev WG.id:Nat:=66
def WG.an:Ann:=[(0,[1]),(1,[1,3]),(2,[2])]
def WG.body:DC:=.seq (qR WG.r0 [1]) (.seq (qR WG.r1 [1,3]) (.seq (qR WG.r2 [2]) .ret))
def WG.df:DF:=⟨54,[.tmp 2],WG.body⟩
theorem WG.ok:cf Zuv WG.an WG.id=some WG.df:=by kernel_rfl
def ZO.r0:=[qB 1 0,qb 2 false]
def ZO.r1:List (DOp × Bool):=[(qa 5 2 1,false),(qa 6 5 5,false),(ql 7 6,false),(qa 8 2 1,false),(qa 9 6 8,false),(ql 10 9,false),(⟨some 11,none,.q (.build [.int .i64 0,.int .i64 0] [(0,1),(1,1)]) [.tmp 7,.tmp 10]⟩,false),(qa 12 17 1,false),(qa 13 5 12,false),(ql 14 13,false),(qa 15 17 1,false),(qa 16 6 15,false),(ql 17 16,false),(⟨some 18,none,.q (.build [.int .i64 0,.int .i64 0] [(0,1),(1,1)]) [.tmp 14,.tmp 17]⟩,false),(⟨some 3,none,.alloc [.int .i64 0,.int .i64 0]⟩,false),(⟨some 4,none,.alloc [.int .i64 0,.int .i64 0]⟩,false),(qS 2 3 11,true),(qS 2 4 18,false)]
def ZO.r2:=[qa 19 2 1,qa 20 1 19,ql 21 20]
def ZO.r3:=[qe 23 .eql 21 2,qm 22 23]
def ZO.r4:=[qa 24 0 3,ql 25 24,qa 26 0 4,ql 27 26,qd 28 .eql 25 27,qm 2 28]
def ZO.r5:=[qe 30 .eql 21 1,qm 29 30]
def ZO.r6:=[qe 31 .eql 21 3,qm 29 31]
def ZO.r7:=[qa 32 0 3,ql 33 32,qa 34 0 4,ql 35 34,qd 36 .geq 33 35,qm 37 36,qy 37 (qa 38 1 3),qy 37 (ql 39 38),qy 37 (qa 40 1 4),qy 37 (ql 41 40),qy 37 (qd 42 .leq 39 41),qO 43 37 42,qm 2 43]
def ZO.r8:=[qa 44 1 3,ql 45 44,qa 46 1 4,ql 47 46,qd 48 .leq 45 47,qm 2 48]
abbrev ZO.id:Nat:=67
def ZO.an:Ann:=[(0,[1]),(1,[1,3,4]),(2,[3,4,21]),(3,[3,4,21,22]),(4,[2]),(5,[3,4,21,29]),(6,[3,4,29]),(7,[2]),(8,[2]),(1000001,[0,1,2,3,4,5,6,7,8,9,10,11,12,13,14,15,16,17]),(2000001,[16])]
def ZO.body:DC:=.seq (qR ZO.r0 [1]) (.seq (.regD [0,1,2,3,4,5,6,7,8,9,10,11,12,13,14,15,16,17] ZO.r1 (some [1,3,4])) (.seq (.seq (qR ZO.r2 [3,4,21]) (.block 0 (.seq (qR ZO.r3 [3,4,21,22]) (qC 22 (.seq (qR ZO.r4 [2]) .ret) (.seq (.seq (qR ZO.r5 [3,4,21,29]) (qC 29 .skip (qR ZO.r6 [3,4,29]))) (qC 29 (.seq (qR ZO.r7 [2]) .ret) .skip)))))) (.seq (qR ZO.r8 [2]) .ret)))
def ZO.df:DF:=⟨49,[.tmp 2],ZO.body⟩
theorem ZO.ok:cf Zuv ZO.an ZO.id=some ZO.df:=by kernel_rfl
def W6.r0:=[qB 1 0,qb 2 false]
def W6.r1:=[qa 3 2 1,qa 4 4 3,ql 5 4,qk 6 .not 5,qm 7 6,qn 7 (qa 8 17 1),qn 7 (qa 9 4 8),qn 7 (ql 10 9),qo 11 7 10,qm 2 11]
abbrev W6.id:Nat:=68
def W6.an:Ann:=[(0,[1]),(1,[2])]
def W6.body:DC:=.seq (qR W6.r0 [1]) (.seq (qR W6.r1 [2]) .ret)
def W6.df:DF:=⟨12,[.tmp 2],W6.body⟩
theorem W6.ok:cf Zuv W6.an W6.id=some W6.df:=by kernel_rfl
def W7.r0:=[qB 1 0,qb 2 false]
def W7.r1:=[qa 3 2 1,qa 4 7 3,qL 5 2 4,qa 6 17 1,qa 7 7 6,qL 8 2 7,qf 9 70 [.tmp 5,.tmp 8],qm 2 9]
abbrev W7.id:Nat:=69
def W7.an:Ann:=[(0,[1]),(1,[2])]
def W7.body:DC:=.seq (qR W7.r0 [1]) (.seq (qR W7.r1 [2]) .ret)
def W7.df:DF:=⟨10,[.tmp 2],W7.body⟩
theorem W7.ok:cf Zuv W7.an W7.id=some W7.df:=by kernel_rfl
def Kk.r0:=[qB 2 0,qB 3 1,qb 4 false]
def Kk.r1:List DOp:=[qL 10 2 2,qf 11 103 [.tmp 10],qm 9 11,qx 12 0 9,qx 13 1 9,⟨some 5,none,.alloc [.int .i64 0,.nilsl]⟩,qS 2 5 12,qm 6 13]
def Kk.r2:List DOp:=[qL 15 2 3,qf 16 103 [.tmp 15],qm 14 16,qx 17 0 14,qx 18 1 14,⟨some 7,none,.alloc [.int .i64 0,.nilsl]⟩,qS 2 7 17,qm 8 18]
def Kk.r3:List DOp:=[qm 19 6,qm 20 8,⟨some 21,none,.bsl 2 1 [.int .i64 0] [0,1] [.tmp 19,.tmp 20]⟩,qf 22 104 [.tmp 21],qe 23 .eql 22 0,qm 24 23,qy 24 (qa 25 0 5),qy 24 (ql 26 25),qy 24 (qa 27 0 7),qy 24 (ql 28 27),qy 24 (qd 29 .eql 26 28),qO 30 24 29,qm 31 30,qy 31 (qa 32 1 5),qy 31 (ql 33 32),qy 31 (qa 34 1 7),qy 31 (ql 35 34),qy 31 (qf 36 105 [.tmp 33,.tmp 35]),qO 37 31 36,qm 4 37]
abbrev Kk.id:Nat:=70
def Kk.an:Ann:=[(0,[2,3]),(1,[3,5,6]),(2,[5,6,7,8]),(3,[4])]
def Kk.body:DC:=.seq (qR Kk.r0 [2,3]) (.seq (qR Kk.r1 [3,5,6]) (.seq (qR Kk.r2 [5,6,7,8]) (.seq (qR Kk.r3 [4]) .ret)))
def Kk.df:DF:=⟨38,[.tmp 4],Kk.body⟩
theorem Kk.ok:cf Zuv Kk.an Kk.id=some Kk.df:=by kernel_rfl
def W8.r0:=[qB 1 0,qb 2 false]
def W8.r1:=[qa 3 2 1,qa 4 10 3,ql 5 4,qa 6 17 1,qa 7 10 6,ql 8 7,qd 9 .eql 5 8,qm 10 9,qy 10 (qa 11 2 1),qy 10 (qa 12 11 11),qy 10 (ql 13 12),qy 10 (qa 14 17 1),qy 10 (qa 15 11 14),qy 10 (ql 16 15),qy 10 (qd 17 .eql 13 16),qO 18 10 17,qm 2 18]
abbrev W8.id:Nat:=71
def W8.an:Ann:=[(0,[1]),(1,[2])]
def W8.body:DC:=.seq (qR W8.r0 [1]) (.seq (qR W8.r1 [2]) .ret)
def W8.df:DF:=⟨19,[.tmp 2],W8.body⟩
theorem W8.ok:cf Zuv W8.an W8.id=some W8.df:=by kernel_rfl
def W9.r0:=[qB 1 0,qb 2 false]
def W9.r1:=[qL 3 32 1,qf 4 46 [.tmp 3],qk 5 .not 4,qm 6 5,qn 6 (qa 7 2 1),qn 6 (qa 8 9 7),qn 6 (ql 9 8),qn 6 (qa 10 17 1),qn 6 (qa 11 9 10),qn 6 (ql 12 11),qn 6 (qd 13 .eql 9 12),qo 14 6 13,qm 2 14]
abbrev W9.id:Nat:=72
def W9.an:Ann:=[(0,[1]),(1,[2])]
def W9.body:DC:=.seq (qR W9.r0 [1]) (.seq (qR W9.r1 [2]) .ret)
def W9.df:DF:=⟨15,[.tmp 2],W9.body⟩
theorem W9.ok:cf Zuv W9.an W9.id=some W9.df:=by kernel_rfl
def Zs.r0:=[qB 1 0,qb 2 false]
def Zs.r1:=[qa 8 2 1,qa 9 12 8,ql 10 9,qk 11 .lenL 10,qi 12 0]
def Zs.r2:=[qd 13 .lss 12 11]
def Zs.r3:List DOp:=[qX 14 3 10 12,qL 15 3 14,⟨some 4,none,.alloc [.int .i64 0,.int .i64 0,.str []]⟩,qS 3 4 15]
def Zs.r4:=[qa 16 0 4,ql 17 16,qm 5 17]
def Zs.r5:=[qm 18 5,qa 19 1 4,ql 20 19,qd 21 .leq 18 20]
def Zs.r6:=[qa 23 17 1,qL 24 15 23,qm 25 5,qf 26 106 [.tmp 24,.tmp 25],qm 22 26,qx 27 0 22,qx 28 1 22,qm 6 27,qm 7 28]
def Zs.r7:=[qm 29 7,qk 30 .not 29,qm 31 30,qn 31 (qa 32 17 1),qn 31 (qa 33 12 32),qn 31 (ql 34 33),qn 31 (qm 35 6),qn 31 (qX 36 3 34 35),qn 31 (qa 37 2 36),qn 31 (ql 38 37),qn 31 (qa 39 2 4),qn 31 (ql 40 39),qn 31 (qd 41 .neq 38 40),qo 42 31 41]
def Zs.r8:=[qb 2 false]
def Zs.r9:=[qa 43 17 1,qa 44 12 43,ql 45 44,qm 46 6,qX 47 3 45 46,qa 48 1 47,ql 49 48,qe 50 .add 49 1,qm 5 50]
def Zs.l1:DC:=.seq (.seq (qR Zs.r5 [1,4,5,10,11,12,21]) (qC 21 .skip (.exit 2))) (.block 3 (.seq (qR Zs.r6 [1,4,6,7,10,11,12]) (.seq (.seq (.regD [0,1,2,3,4,5,6,7,8,9,10,11,12,13] (Jb Zs.r7) (some [1,4,6,10,11,12,42])) (qC 42 (.seq (qR Zs.r8 [2]) .ret) .skip)) (qR Zs.r9 [1,4,5,10,11,12]))))
def Zs.r10:=[qe 51 .add 12 1,qm 12 51]
def Zs.l0:DC:=.seq (qR Zs.r2 [1,10,11,12,13]) (.seq (qC 13 .skip (.exit 0)) (.seq (.block 1 (.seq (qR Zs.r3 [1,4,10,11,12]) (.seq (qR Zs.r4 [1,4,5,10,11,12]) (.block 2 (.loop Zs.l1))))) (qR Zs.r10 [1,10,11,12])))
def Zs.r11:=[qb 2 true]
abbrev Zs.id:Nat:=73
def Zs.an:Ann:=[(0,[1]),(1,[1,10,11,12]),(2,[1,10,11,12,13]),(3,[1,4,10,11,12]),(4,[1,4,5,10,11,12]),(5,[1,4,5,10,11,12,21]),(6,[1,4,6,7,10,11,12]),(7,[1,4,6,10,11,12,42]),(8,[2]),(9,[1,4,5,10,11,12]),(10,[1,10,11,12]),(11,[2]),(1000007,[0,1,2,3,4,5,6,7,8,9,10,11,12,13])]
def Zs.body:DC:=.seq (qR Zs.r0 [1]) (.seq (.seq (qR Zs.r1 [1,10,11,12]) (.block 0 (.loop Zs.l0))) (.seq (qR Zs.r11 [2]) .ret))
def Zs.df:DF:=⟨52,[.tmp 2],Zs.body⟩
theorem Zs.ok:cf Zuv Zs.an Zs.id=some Zs.df:=by kernel_rfl
def Ww.r0:=[qb 0 false]
def Ww.r1:=[qb 0 true]
abbrev Ww.id:Nat:=74
def Ww.an:Ann:=[(0,[]),(1,[0])]
def Ww.body:DC:=.seq (qR Ww.r0 []) (.seq (qR Ww.r1 [0]) .ret)
def Ww.df:DF:=⟨1,[.tmp 0],Ww.body⟩
theorem Ww.ok:cf Zuv Ww.an Ww.id=some Ww.df:=by kernel_rfl
def Wx.r0:=[qb 0 false]
def Wx.r1:=[qb 0 true]
abbrev Wx.id:Nat:=75
def Wx.an:Ann:=[(0,[]),(1,[0])]
def Wx.body:DC:=.seq (qR Wx.r0 []) (.seq (qR Wx.r1 [0]) .ret)
def Wx.df:DF:=⟨1,[.tmp 0],Wx.body⟩
theorem Wx.ok:cf Zuv Wx.an Wx.id=some Wx.df:=by kernel_rfl
def YX.r0:=[qb 1 false]
def YX.r1:List (DOp × Bool):=[(qa 5 2 0,false),(qa 6 7 5,false),(qL 7 2 6,false),(qa 8 0 0,false),(qL 9 2 8,false),(⟨some 2,none,.alloc [.int .i64 0,.int .i64 0]⟩,false),(qf 10 78 [.tmp 9],true),(qf 11 77 [.tmp 7,.tmp 10],false),(qm 4 11,false),(qx 12 0 4,false),(qx 13 1 4,false),(qS 2 2 12,false),(qm 3 13,false)]
def YX.r2:=[qa 14 1 2,ql 15 14,qe 16 .gtr 15 0,qm 1 16]
abbrev YX.id:Nat:=76
def YX.an:Ann:=[(0,[0]),(1,[2]),(2,[1]),(1000001,[0,1,2,3,4,10,5,6,7,8,9,11,12]),(2000001,[5])]
def YX.body:DC:=.seq (qR YX.r0 [0]) (.seq (.regD [0,1,2,3,4,10,5,6,7,8,9,11,12] YX.r1 (some [2])) (.seq (qR YX.r2 [1]) .ret))
def YX.df:DF:=⟨17,[.tmp 1],YX.body⟩
theorem YX.ok:cf Zuv YX.an YX.id=some YX.df:=by kernel_rfl
def YC.r0:List DOp:=[qB 2 0,qB 3 1,⟨some 4,none,.alloc [.int .i64 0,.int .i64 0]⟩,qi 5 0]
def YC.r1:List DOp:=[⟨some 6,none,.q .mv [.cst (.fn (.func 107) [] [])]⟩]
def YC.r2:=[qL 9 2 2,ql 10 3,qm 11 6,qf 12 108 [.tmp 9,.cst (.str []),.tmp 10,.tmp 11],qm 7 12]
def YC.r3:=[qm 13 7,qe 14 .neq 13 0]
def YC.r4:List DOp:=[⟨some 15,none,.q (.build [.int .i64 0,.int .i64 0] []) []⟩,qm 16 7,qS 2 4 15,qm 5 16]
def YC.r5:List DOp:=[⟨some 17,none,.q (.mkfn (.func 109) 0) [.tmp 2,.tmp 3]⟩,qm 8 17]
def YC.r6:List DOp:=[qm 18 8,⟨some 19,none,.call (.tmp 18) [.cst (.bool true)]⟩,qm 20 8,⟨some 21,none,.call (.tmp 20) [.cst (.bool false)]⟩,⟨some 22,none,.q (.build [.int .i64 0,.int .i64 0] [(0,1),(1,1)]) [.tmp 19,.tmp 21]⟩,qS 2 4 22,qi 5 0]
abbrev YC.id:Nat:=77
def YC.an:Ann:=[(0,[2,3,4]),(1,[2,3,4,6]),(2,[2,3,4,7]),(3,[2,3,4,7,14]),(4,[4,5]),(5,[4,8]),(6,[4,5])]
def YC.body:DC:=.seq (qR YC.r0 [2,3,4]) (.seq (qR YC.r1 [2,3,4,6]) (.seq (.seq (qR YC.r2 [2,3,4,7]) (.seq (qR YC.r3 [2,3,4,7,14]) (qC 14 (.seq (qR YC.r4 [4,5]) .ret) .skip))) (.seq (qR YC.r5 [4,8]) (.seq (qR YC.r6 [4,5]) .ret))))
def YC.df:DF:=⟨23,[.cellN 4 2,.tmp 5],YC.body⟩
theorem YC.ok:cf Zuv YC.an YC.id=some YC.df:=by kernel_rfl
def Kx.r0:List DOp:=[qB 1 0,⟨some 2,none,.q .mv [.cst (.nilmap)]⟩]
def Kx.r1:=[qa 3 1 1,ql 4 3,qf 5 112 [.tmp 4],qm 2 5]
abbrev Kx.id:Nat:=78
def Kx.an:Ann:=[(0,[1]),(1,[2])]
def Kx.body:DC:=.seq (qR Kx.r0 [1]) (.seq (qR Kx.r1 [2]) .ret)
def Kx.df:DF:=⟨6,[.tmp 2],Kx.body⟩
theorem Kx.ok:cf Zuv Kx.an Kx.id=some Kx.df:=by kernel_rfl
def QX.r0:List DOp:=[⟨some 2,none,.q .mv [.cst (.str [])]⟩]
def QX.r1:List DOp:=[⟨some 3,none,.bsl 13 1 [.str []] [0,1,2,3,4,5,6,7,8,9,10,11,12] [.cst (.str []),.cst (.str [98,108,120,104]),.cst (.str [98,108,120]),.cst (.str [111,120,104]),.cst (.str [115]),.cst (.str [120,104]),.cst (.str [111,104]),.cst (.str [102,115]),.cst (.str [102]),.cst (.str [116,99]),.cst (.str [98]),.cst (.str [114,107]),.cst (.str [102,115,121])]⟩,qm 4 0,qX 5 1 3 4,ql 6 5,qm 2 6]
abbrev QX.id:Nat:=79
def QX.an:Ann:=[(0,[0]),(1,[2])]
def QX.body:DC:=.seq (qR QX.r0 [0]) (.seq (qR QX.r1 [2]) .ret)
def QX.df:DF:=⟨7,[.tmp 2],QX.body⟩
theorem QX.ok:cf Zuv QX.an QX.id=some QX.df:=by kernel_rfl
def WZ.r0:=[qb 4 false]
def WZ.r1:=[qi 5 0]
def WZ.r2:=[qm 6 5,qm 7 0,qk 8 .lenS 7,qd 9 .lss 6 8]
def WZ.r4:List DOp:=[qm 12 0,qm 13 5,⟨some 14,none,.q .idxS [.tmp 12,.tmp 13]⟩,qm 15 1,qd 16 .eql 14 15]
def WZ.r5:=[qb 4 true]
def WZ.r3:=[qm 10 5,qe 11 .add 10 1,qm 5 11]
def WZ.l0:DC:=.seq (.seq (qR WZ.r2 [0,1,5,9]) (qC 9 .skip (.exit 0))) (.seq (.block 1 (.seq (qR WZ.r4 [0,1,5,16]) (qC 16 (.seq (qR WZ.r5 [4]) .ret) .skip))) (qR WZ.r3 [0,1,5]))
def WZ.r6:=[qb 4 false]
abbrev WZ.id:Nat:=80
def WZ.an:Ann:=[(0,[0,1]),(1,[0,1,5]),(2,[0,1,5,9]),(3,[0,1,5]),(4,[0,1,5,16]),(5,[4]),(6,[4])]
def WZ.body:DC:=.seq (qR WZ.r0 [0,1]) (.seq (.seq (qR WZ.r1 [0,1,5]) (.block 0 (.loop WZ.l0))) (.seq (qR WZ.r6 [4]) .ret))
def WZ.df:DF:=⟨17,[.tmp 4],WZ.body⟩
theorem WZ.ok:cf Zuv WZ.an WZ.id=some WZ.df:=by kernel_rfl
end Go.DL
