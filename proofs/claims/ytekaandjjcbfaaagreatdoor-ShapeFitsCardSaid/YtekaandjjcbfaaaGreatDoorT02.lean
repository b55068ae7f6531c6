/- Lemmas: DlW, DlWa, DlX, DlY, DlZ, DlZA, DlZB, DlZC, DlZD, DlZE, DlZF, DlZGa, DlZG, DlZH, DlZI, DlZJ, DlZK, DlZL, DlZM, DlZN, DlZO, DlZP, DlZQ, DlZS, DlZT, DlTop, DlZU. -/
import Derived.Test.YtekaandjjcbfaaaGreatDoorT01
set_option maxHeartbeats 16000000
set_option maxRecDepth 100000
set_option linter.all false
open Option renaming some → sO, none → nO
open Inhabited renaming default → dE
open Decidable renaming decide → dC
open And renaming intro → ZER
open Bool renaming and_eq_true → ZEY, false_eq_true → ZFn, or_eq_true → ZFb, true_and → ZFe
open Go.DL.D.Le renaming refl → ZEW
open Go.DL.St renaming upd → ZFr
open List renaming append_assoc → ZFt, append_nil → ZFm, getD → ZE8, getElem?_append_left → ZFp, getElem?_append_right → ZFz, getElem?_eq_getElem → ZFq, getElem?_eq_none → ZFA, getElem?_take → ZFu, getElem_of_mem → ZFa, length_append → ZE1, length_cons → ZE5, length_drop → ZFw, length_take → ZE9, map_cons → ZE7, map_nil → ZFo, mem_cons → ZFv, range → ZE4, take_length → ZFc
open Nat renaming add_mul → ZFk, le_refl → ZE6, mul_le_mul_right → ZFg
open Option renaming getD_some → ZFs, map_eq_some_iff → ZE3, map_some → ZFl
open Option.some renaming injEq → ZEP
open Prod.mk renaming injEq → ZE2
namespace Go.DL
open Go
variable [Zqw]
section
variable {P:Program}
def Y6(F:Fr P)(ρ:Env)(L:Loc)(d:D)(s:St):Prop :=
 ∀g ν w v todo tmps,F.N≤tmps.size→Zr g ν w tmps ρ L s→Rep g w v d→F.T.T g w (lone { F.b.atR ⟨tmps,F.ds⟩ todo with mode:=.panicking [{ v,recovered:=false }] } F.cs w)
theorem Zr.empty{g:G}{ν:Nat→Nat}{w:World}{tmps:Array Value}{ρ:Env}{L:Loc}{s:St}(m:Zr g ν w tmps ρ L s):Zr g ν w tmps [] [] s:={
 st:=m.st
 loc l cs h:=by simp[Zg]at h
 locKept l cs h:=by simp[Zg]at h
 locSt l cs h:=by simp[Zg]at h
 inj l l' cs cs' h:=by simp[Zg]at h
 env t e h:=by simp[ZL]at h }
theorem Y6.weak{F:Fr P}{d:D}{s:St}(h:Y6 F [] [] d s)(ρ:Env)(L:Loc):Y6 F ρ L d s :=
 fun g ν w v c tmps hN m hr=>h g ν w v c tmps hN m.empty hr
def Zfe(g:G)(ν:Nat→Nat)(L:Loc):G:={ g with kept:=fun b=>g.kept b∨∃l cs,Zg L l=sO cs∧b=ν l }
theorem Wx{g g':G}{w:World}{v:Value}{d:D}(h:Rep g w v d)(hp:g'.prot=g.prot):Rep g' w v d :=
 h.mono0 (fun b=>by rw[hp];exact ZE6 _) (fun _ _ _=>rfl) (fun _ _ h=>h)
theorem ZwG{g g':G}{ν:Nat→Nat}{w:World}{L:Loc}{v:Value}{e:E}(h:ZI g ν w L v e)(hp:g'.prot=g.prot):ZI g' ν w L v e:=by
 induction e with
 |d x=>exact Wx h hp
 |loc l o=>exact h
 |when c e ih=>exact⟨fun hc=>ih (h.1 hc),h.2⟩
theorem ZmN{g g':G}{w:World}{b:Nat}{o:Ya}(h:WO g w b o)(hp:g'.prot=g.prot):WO g' w b o:=by
 cases o with
 |cells ds =>
  obtain⟨h0,vs,T,h1,h2,h3,h4⟩:=h
  exact⟨by rw[hp];exact h0,vs,T,h1,h2,fun i v d hv hd=>Wx (h3 i v d hv hd) hp,h4⟩
 |map es =>
  obtain⟨h0,en,cl,h1,h2,h3,h4,h5,h6⟩:=h
  exact⟨by rw[hp];exact h0,en,cl,h1,h2,fun i v d hv hd=>Wx (h3 i v d hv hd) hp,fun i v d hv hd=>Wx (h4 i v d hv hd) hp,h5,h6⟩
 |tip k =>
  obtain⟨h0,h1⟩:=h
  exact⟨by rw[hp];exact h0,h1⟩
 |mapE kp es k n =>
  obtain⟨h0,io,h1,en,cl,h2,h3,h4,h5,h6,h7⟩:=h
  exact⟨by rw[hp];exact h0,io,h1,en,cl,h2,h3,fun i v d hi hv hd=>Wx (h4 i v d hi hv hd) hp,fun i v d hi hv hd=>Wx (h5 i v d hi hv hd) hp,fun e he=>⟨Wx (h6 e he).1 hp,(h6 e he).2⟩,h7⟩
 |loop r st =>
  obtain⟨h0,l,h1,h2,h3,h4,h5,h6,h7,h8,h9⟩:=h
  exact⟨by rw[hp];exact h0,l,h1,h2,h3,h4,h5,h6,h7,fun t e he=>ZwG (h8 t e he) hp,h9⟩
 |dfr =>
  obtain⟨h0,h1⟩:=h
  exact⟨by rw[hp];exact h0,h1⟩
theorem Zr.callSt{g:G}{ν:Nat→Nat}{w:World}{tmps:Array Value}{ρ:Env}{L:Loc}{s:St}(m:Zr g ν w tmps ρ L s):Ym (Zfe g ν L) s w:={
 obj b o ho:=ZmN (m.st.obj b o ho) rfl
 kept b o ho:=by
  rintro(h|⟨l,cs,hl,rfl⟩)
  ·exact m.st.kept b o ho h
  rw[m.locSt l cs hl]at ho;simp at ho
 fresh b hb:=⟨(m.st.fresh b hb).1,by
  rintro(h|⟨l,cs,hl,rfl⟩)
  ·exact(m.st.fresh b hb).2 h
  have:=(m.loc l cs hl).lt;omega⟩
 tabs n cs hc:=Wx (m.st.tabs n cs hc) rfl }
theorem Zr.afterCall{g g':G}{ν:Nat→Nat}{w w':World}{tmps:Array Value}{ρ:Env}{L:Loc}{s s':St}(m:Zr g ν w tmps ρ L s)(hx:Ext (Zfe g ν L) w g' w')(hs:Ym g' s' w') :
  Ext g w { g' with kept:=g.kept } w'∧Zr { g' with kept:=g.kept } ν w' tmps ρ L s':=by
 have c:Ext g w { g' with kept:=g.kept } w' :=
  ⟨hx.size,hx.prot,hx.cell,hx.hdr,fun b hb=>hx.kept b (.inl hb),fun b hb=>hx.keptProt b (.inl hb),rfl,hx.os,hx.output,hx.tape⟩
 refine⟨c,⟨⟨fun b o ho=>ZmN (hs.obj b o ho) rfl,fun b o ho hk=>hs.kept b o ho (by rw[hx.keptEq];exact .inl hk),fun b hb=>⟨(hs.fresh b hb).1,fun hk=>(hs.fresh b hb).2 (by rw[hx.keptEq];exact .inl hk)⟩,fun n cs hc=>Wx (hs.tabs n cs hc) rfl⟩,?_,m.locKept,?_,m.inj,?_⟩⟩
 ·intro l cs hl
  exact(m.loc l cs hl).mono c (hx.kept _ (.inr ⟨l,cs,hl,rfl⟩)) (hx.keptProt _ (.inr ⟨l,cs,hl,rfl⟩))
 ·intro l cs hl
  cases i:s' (ν l) with
  |none=>rfl
  |some o=>exact absurd (by rw[hx.keptEq];exact .inr ⟨l,cs,hl,rfl⟩) (hs.kept _ o i)
 intro t e he
 exact(m.env t e he).mono c
theorem Ztk{op:Op}{f:Opd}{xs:List Opd}(h:ck P op=sO (.call f xs)):∃f' args ats,op=.call ⟨.value f',args,ats⟩∧Z3 f'=sO f∧Zca args.toList=sO xs:=by
 unfold ck at h
 split at h
 ·simp at h
 split at h<;>(try(simp at h;done))
 all_goals (try(repeat' (split at h<;>(try(simp at h;done)))))
 simp only[ZEP,K.call.injEq]at h
 obtain⟨rfl,rfl⟩:=h
 rename_i c _ _ f' i _ _ f xs hf j
 obtain⟨callee,args,ats⟩:=c
 simp only at i
 exact⟨f',args,ats,by rw[i],hf,j⟩
theorem Zxl{op:Op}{x:Opd}(h:ck P op=sO (.panic x)):∃x',op=.panic x'∧Z3 x'=sO x:=by
 unfold ck at h
 split at h
 ·simp at h
 split at h<;>(try(simp at h;done))
 all_goals (try(repeat' (split at h<;>(try(simp at h;done)))))
 simp only[ZE3,K.panic.injEq,exists_eq_right]at h
 exact⟨_,rfl,h⟩
def Zfr(P:Program):Next→Option Frame
 |.enter f args=>sO (Frame.enter P f args .normal)
 |.round l f tmps a b=>sO (Frame.round l f tmps a b .normal)
 |_=>nO
def ZzB(P:Program)(m:Machine)(c:Frame)(cs:List Frame)(e:Ending)(w':World):Prop :=
 match e with
 |.returned v=>Steps P m (lone (c.finish v) cs w')
 |.panicked ch=>Steps P m (lone (c.raise ch) cs w')
 |.outgrown=>False
def WZ(P:Program)(f:D)(args:List D)(s:St)(Φ:Res→St→Prop):Prop :=
 ∀g w fv (vs:List Value),Ym g s w→Rep g w fv f→ZH (Rep g w) vs args →
  ∃d nx fr,(Deferred.ofValue fv vs.toArray).run P w=.ok d w∧(invoke d.target d.args).run P w=.ok nx w∧Zfr P nx=sO fr ∧
   ∀c cs,∃e w',Zga g w Φ e w'∧ZzB P (lone fr (c::cs) w) c cs e w'
theorem Zf.V{f:FuncId}{first args caps:List D}{s:St}{Φ:Res→St→Prop}(h:Zf P f (first++args++caps) s Φ):WZ P (.fn (.func f) first caps) args s Φ:=by
 intro g w fv vs hs hf ha
 cases hf with
 |fn _ fs cs' _ _ hn1 hn2 h1 h2 =>
 obtain⟨⟨fn,y,ab,z⟩,n⟩:=h
 have u:ZH (Rep g w) (fs++vs++cs') (first++args++caps):=((Yh hn1 h1).append ha).append (Yh hn2 h2)
 have t:fn.body.isNone=false:=by cases hb:fn.body<;>simp[hb]at ab⊢
 refine⟨_,.enter f (fs++vs++cs').toArray,_,by simp[Deferred.ofValue];rfl,?_,rfl,fun c cs=>?_⟩
 ·simp only[invoke,callFunc,Sem.run_bind,run_program,Result.andThen_ok,y,z,t,ZFn,if_false,Sem.run_pure]
  simp
 obtain⟨e,w',fr,hp,j,hfrf,i⟩:=n g w _ hs u (c::cs)
 refine⟨e,w',hp,?_⟩
 cases e with
 |returned v=>exact Steps.trans j (.one (step_leave_returned i))
 |panicked ch=>exact Steps.trans j (.one (step_leave_panicked i))
 |outgrown =>
  obtain⟨g',s',r,b1,b2,b3,b4⟩:=hp
  cases r<;>exact b3.elim
theorem Zej{F:Fr P}{kp:Option (List Nat)}{dk:List Zi}{o:DOp}{os:List DOp}{ρ:Env}{L:Loc}{s:St}(hg:Zl ρ o.guard=sO true){fx:Opd}{xs:List Opd}(hk:o.k=.call fx xs)
  {p q:Prop} {f:D} {es:List E} {ds:List D} (hf:ZC ρ true fx=sO (q,.d f)) (ha:Yd ρ true xs=sO (p,es)) (hds:W2 es=sO ds) (hp:p) (hq:q)
  {Ψ:Res→St→Prop} (hc:WZ P f ds s Ψ)
  (hret:∀d s',Ψ (.ret d) s'→DO F kp dk os (Zt ρ o.dst (.d d)) L s') (hpan:∀d s',Ψ (.panic d) s'→Y6 F ρ L d s'):DO F kp dk (o::os) ρ L s:=by
 refine Wn fun oo g ν w tmps c i r k ag ac aw ae hd hN m hr ap=>?_
 have hw:=Yf m aw hg
 have ar:=Yi ac (by rw[hk];rfl)
 rw[hk]at ac
 obtain⟨f',y,ats,am,au,ao⟩:=Ztk ac
 have af:Rep g w _ _:=Yc m au rfl hf hq F.ds
 have u:=KW (ZbV m rfl F.ds ao ha hp) hds
 generalize al:(Act.mk tmps F.ds).eval f'=fv at af
 have ad:ZH (Rep (Zfe g ν L) w) (y.toList.map (Act.mk tmps F.ds).eval) ds:=Yh u.len (fun i a b hx hy=>Wx (u.get i a b hx hy) rfl)
 obtain⟨d,nx,fr,aq,av,ah,hC⟩:=hc (Zfe g ν L) w fv _ m.callSt (Wx af rfl) ad
 have ak:(Array.map (Act.mk tmps F.ds).eval y)=(y.toList.map (Act.mk tmps F.ds).eval).toArray:=by apply Array.ext';simp
 have aj:(execOp (Act.mk tmps F.ds).eval oo).run P w=.ok nx w:=by
  simp only[execOp,am,resolve,al,ak,Sem.run_bind,aq,Result.andThen_ok,av]
 have t:step P (lone (F.b.atR ⟨tmps,F.ds⟩ (.inRegion c (i::r)::k)) F.cs w) =
   .next (lone fr (F.b.atR ⟨tmps,F.ds⟩ (.inRegion c (i::r)::k)::F.cs) w):=by
  refine step_lone_go ?_
  rw[stepGR_op ag hw,Oper.semAt_eq _ _ _ ar]
  cases nx<;>simp only[Zfr,ZEP,reduceCtorEq]at ah<;>subst ah<;>simp[stepG.apply,aj,Frame.atR]
 obtain⟨e,w',⟨g',s',res,x1,x2,x3,x4⟩,n⟩:=hC (F.b.atR ⟨tmps,F.ds⟩ (.inRegion c (i::r)::k)) F.cs
 obtain⟨z,hm⟩:=m.afterCall x1 x2
 cases e with
 |returned v =>
  cases res with
  |panic d=>exact x3.elim
  |ret d =>
   have ai:(F.b.atR ⟨tmps,F.ds⟩ (.inRegion c (i::r)::k)).finish v=F.b.atR ((Act.mk tmps F.ds).put oo.dst v) (.inRegion c r::k):=by rw[Frame.finish_atR,ag];rfl
   have j:Steps P (lone (F.b.atR ⟨tmps,F.ds⟩ (.inRegion c (i::r)::k)) F.cs w) (lone (F.b.atR ((Act.mk tmps F.ds).put oo.dst v) (.inRegion c r::k)) F.cs w'):=by
    refine .head t ?_
    rw[←ai];exact n
   refine F.T.back _ _ _ _ j ?_
   rw[ae]
   obtain⟨ab,e1,e2,m'⟩:=ZeL hm hN hd (v:=v) (e:=.d d) (Wx x3 rfl) F.ds
   rw[e1]
   exact F.T.ext _ _ _ _ _ z (hret d s' x4 c r k hr ap _ _ _ ab e2 m')
 |panicked ch =>
  cases res with
  |ret d=>exact x3.elim
  |panic d =>
   obtain⟨v,rfl,hv⟩:=x3
   have j:Steps P (lone (F.b.atR ⟨tmps,F.ds⟩ (.inRegion c (i::r)::k)) F.cs w) (lone { F.b.atR ⟨tmps,F.ds⟩ (.inRegion c (i::r)::k) with mode:=.panicking [{ v,recovered:=false }] } F.cs w'):=by
    refine .head t ?_
    rw[←Frame.raise_atR];exact n
   refine F.T.back _ _ _ _ j ?_
   exact F.T.ext _ _ _ _ _ z (hpan d s' x4 _ _ _ v _ _ hN hm (Wx hv rfl))
 |outgrown=>exact n.elim
theorem ZjF{F:Fr P}{kp:Option (List Nat)}{dk:List Zi}{o:DOp}{os:List DOp}{ρ:Env}{L:Loc}{s:St}(hg:Zl ρ o.guard=sO true){fx:Opd}{xs:List Opd}(hk:o.k=.call fx xs)
  {p q:Prop} {f:FuncId} {first caps:List D} {es:List E} {ds:List D} (hf:ZC ρ true fx=sO (q,.d (.fn (.func f) first caps))) (ha:Yd ρ true xs=sO (p,es)) (hds:W2 es=sO ds) (hp:p) (hq:q)
  {Ψ:Res→St→Prop} (hc:Zf P f (first++ds++caps) s Ψ)
  (hret:∀d s',Ψ (.ret d) s'→DO F kp dk os (Zt ρ o.dst (.d d)) L s') (hpan:∀d s',Ψ (.panic d) s'→Y6 F ρ L d s'):DO F kp dk (o::os) ρ L s :=
 Zej hg hk hf ha hds hp hq hc.V hret hpan
theorem Zk3{F:Fr P}{kp:Option (List Nat)}{dk:List Zi}{o:DOp}{os:List DOp}{ρ:Env}{L:Loc}{s:St}(hg:Zl ρ o.guard=sO true){x:Opd}(hk:o.k=.panic x)
  {p:Prop} {t:TypeId} {d:D} (ha:ZC ρ true x=sO (p,.d (.iface t d))) (hp:p) (h:Y6 F ρ L (.iface t d) s):DO F kp dk (o::os) ρ L s:=by
 refine Wn fun oo g ν w tmps ab i r k z j ad hdst hd hN m hr hkk=>?_
 have hw:=Yf m ad hg
 have ac:=Yi j (by rw[hk];rfl)
 rw[hk]at j
 obtain⟨x',u,y⟩:=Zxl j
 have c:Rep g w _ _:=Yc m y rfl ha hp F.ds
 generalize hv:(Act.mk tmps F.ds).eval x'=v at c
 have n:(execOp (Act.mk tmps F.ds).eval oo).run P w=.halt (.panic v) w:=by
  cases c
  simp[execOp,u,hv,Instr.panic]
 refine F.T.back _ _ _ _ (.one (step_lone_go (fr':={ F.b.atR ⟨tmps,F.ds⟩ (.inRegion ab (i::r)::k) with mode:=.panicking [{ v,recovered:=false }] }) (cs':=F.cs) (w':=w) ?_)) (h g ν w v _ _ hN m c)
 rw[stepGR_op z hw,Oper.semAt_eq _ _ _ ac]
 rw[←Frame.raise_atR]
 simp[stepG.apply,n]
end
end Go.DL
namespace Go.DL
open Go
variable [Zqw]
section
variable {P:Program}
def J4:D→Option Value
 |.int k n=>sO (.int k n)
 |.bool b=>sO (.bool b)
 |.str l=>sO (.string ⟨l.toArray⟩)
 |.nilsl=>sO (.slice nO 0 0)
 |.nilptr=>sO (.pointer nO)
 |.ptr b o=>sO (.pointer (sO ⟨b,o,nO⟩))
 |.map b=>sO (.map (sO b))
 |.nilmap=>sO (.map nO)
 |.nilfn=>sO .nilFunc
 |.niliface=>sO .nilIface
 |_=>nO
def ZhB:List D→Option (List Value)
 | []=>sO []
 |d::r=>match J4 d,ZhB r with
  |some v,sO vs=>sO (v::vs)
  |_,_=>nO
theorem ZtR{g:G}{w:World}{v v':Value}{d:D}(h:Rep g w v d)(hv:J4 d=sO v'):v=v':=by
 cases h<;>simp only[J4,ZEP,reduceCtorEq]at hv<;>(try exact hv)
 rename_i s l h hb
 rw[←hv]
 cases s
 simp only at h
 rw[←h]
theorem Zkd{g:G}{w:World}:∀{vs vs':List Value} {ds:List D},ZH (Rep g w) vs ds→ZhB ds=sO vs'→vs=vs'
 |_,_,_,.nil,h=>by simp only[ZhB,ZEP]at h;exact h
 |_,_,_,.cons h1 h2,h=>by
  simp only[ZhB]at h
  split at h<;>simp only[ZEP,reduceCtorEq]at h
  rename_i v vs e1 e2
  rw[←h,ZtR h1 e1,Zkd h2 e2]
def ZeO:D→Prop
 |.int k n=>inR k n
 |.str l=>l.length≤big
 |d=>(J4 d).isSome=true
def Zbp:List D→Prop
 | []=>True
 |d::r=>ZeO d∧Zbp r
theorem Zpm{d:D}(h:ZeO d):∃v,J4 d=sO v∧v.one1=true∧∀g w,Rep g w v d:=by
 cases d<;>simp only[ZeO,J4,Option.isSome_none,ZFn]at h
 ·exact⟨_,rfl,rfl,fun g w=>.int _ _ h⟩
 ·exact⟨_,rfl,rfl,fun g w=>.bool _⟩
 ·exact⟨_,rfl,rfl,fun g w=>.str _ _ rfl h⟩
 ·exact⟨_,rfl,rfl,fun g w=>.nilsl⟩
 ·exact⟨_,rfl,rfl,fun g w=>.nilptr⟩
 ·exact⟨_,rfl,rfl,fun g w=>.ptr _ _⟩
 ·exact⟨_,rfl,rfl,fun g w=>.map _⟩
 ·exact⟨_,rfl,rfl,fun g w=>.nilmap⟩
 ·exact⟨_,rfl,rfl,fun g w=>.nilfn⟩
 exact⟨_,rfl,rfl,fun g w=>.niliface⟩
theorem ZbW:∀{ds:List D},Zbp ds→∃vs,ZhB ds=sO vs∧(∀v∈vs,v.one1=true)∧∀g w,ZH (Rep g w) vs ds
 | [],_=>⟨[],rfl,by simp,fun g w=>.nil⟩
 |d::r,h=>by
  obtain⟨v,h1,h2,h3⟩:=Zpm h.1
  obtain⟨vs,g1,g2,g3⟩:=ZbW h.2
  exact⟨v::vs,by simp[ZhB,h1,g1],by simp only[ZFv,forall_eq_or_imp];exact⟨h2,g2⟩,fun g w=>.cons (h3 g w) (g3 g w)⟩
inductive DD where
 |mark (q:Nat)
 |fn (i:FuncId) (args caps:List D)
def DD.def:DD→Deferred
 |.mark q=>{ target:=.collected q,args:=#[] }
 |.fn i args caps=>{ target:=.fn (.func i) ((ZhB caps).getD []).toArray,args:=((ZhB args).getD []).toArray }
def Zbl(g:G)(w:World)(m:FrameMode):Option D→Prop
 |none=>m=.returning
 |some d=>∃v,m=.panicking [{ v,recovered:=false }]∧Rep g w v d
def JQ(P:Program)(i:FuncId)(args:List D)(pd:Option D)(s:St)(Ψ:Bool→St→Prop):Prop :=
 (∃fn,P.funcs[i]?=sO fn∧fn.body.isSome=true∧(fn.name == "runtime.NumGoroutine")=false) ∧
 ∀g w (vs:List Value) (cf:Frame) (cs:List Frame),Ym g s w→ZH (Rep g w) vs args→Zbl g w cf.mode pd →
  ∃g' w' s' b,Ext g w g' w'∧Ym g' s' w'∧Ψ b s' ∧
   Steps P (lone (Frame.enter P i vs.toArray .deferred) (cf::cs) w) (lone { cf with mode:=if b then .returning else cf.mode } cs w')
def Unw(P:Program):List DD→Option D→St→(Option D→St→Prop)→Prop
 | [],m,s,Ψ=>Ψ m s
 |.mark q::r,m,s,Ψ=>s q=sO .dfr∧Unw P r m (s.del q) Ψ
 |.fn i args caps::r,m,s,Ψ=>Zbp args∧Zbp caps∧JQ P i (args++caps) m s fun b s'=>Unw P r (if b then nO else m) s' Ψ
theorem Zcc{g:G}{w:World}(b:Nat)(o:Obj)(hb:hdr w b=nO)(hp:g.prot b=0)(hk:¬g.kept b):Ext g w g { w with heap:=w.heap.setIfInBounds b o } where
 size:=by simp
 prot _:=ZE6 _
 cell b' o' ho:=by
  by_cases h:b'=b
  ·subst h;omega
  exact JC (by simp[Array.getElem?_setIfInBounds,Ne.symm h])
 hdr b' x hx:=by
  by_cases h:b'=b
  ·subst h;rw[hb]at hx;simp at hx
  rw[Zbj (w:=w) (by simp[Array.getElem?_setIfInBounds,Ne.symm h])];exact hx
 kept b' hb':=by
  have h:b'≠b:=fun h=>hk (h▸hb')
  simp[Array.getElem?_setIfInBounds,Ne.symm h]
 keptProt _ _:=rfl
 keptEq:=rfl
 os:=rfl
 output:=rfl
 tape:=rfl
theorem Zr.drop{g:G}{ν:Nat→Nat}{w w':World}{tmps:Array Value}{ρ:Env}{L:Loc}{s:St}(m:Zr g ν w tmps ρ L s){b:Nat}{o:Ya}(hb:s b=sO o)(he:Ext g w g w')(hsz:w'.heap.size=w.heap.size)
  (hoth:∀c,c≠b→w'.heap[c]?=w.heap[c]?):Zr g ν w' tmps ρ L (s.del b):={
 st:=⟨fun c x hx=>by
    simp only[St.del]at hx
    by_cases hc:c=b
    ·simp[hc]at hx
    simp only[hc,if_false]at hx;exact(m.st.obj c x hx).mono he (hoth c hc) rfl,
   fun c x hx=>by
    simp only[St.del]at hx
    by_cases hc:c=b
    ·simp[hc]at hx
    simp only[hc,if_false]at hx;exact m.st.kept c x hx,
   fun c hc=>m.st.fresh c (by omega),fun n cs hc=>(m.st.tabs n cs hc).mono he⟩
 loc l cs hl:=(m.loc l cs hl).mono he (hoth _ (fun h=>by have:=m.locSt l cs hl;rw[h,hb]at this;simp at this)) rfl
 locKept:=m.locKept
 locSt l cs hl:=by
  simp only[St.del]
  split
  ·rfl
  exact m.locSt l cs hl
 inj:=m.inj
 env t e ht:=(m.env t e ht).mono he }
theorem ZwP{fr:Frame}{cs:List Frame}{w:World}{q:Nat}{ds:List Deferred}{args:Array Value}(hm:fr.mode≠.run)(hd:fr.defers={ target:=.collected q,args }::ds)(hq:w.heap[q]?=sO (.deferred (sO []))) :
  step P (lone fr cs w)=.next (lone { fr with defers:=ds } cs { w with heap:=w.heap.setIfInBounds q (.deferred nO) }):=by
 have i:(Instr.takeDeferred q).run P w=.ok [] { w with heap:=w.heap.setIfInBounds q (.deferred nO) }:=by
  simp[Instr.takeDeferred,getObj,setObj,Sem.run,hq,Result.andThen]
 refine step_lone_go ?_
 cases c:fr.mode with
 |run=>exact absurd c hm
 |returning=>simp[stepG,unwind,c,hd,Sem.runT_eq,i]
 |panicking chain=>simp[stepG,unwind,c,hd,Sem.runT_eq,i]
theorem ZmJ{g:G}{w:World}{m:FrameMode}{o:Option D}(h:Zbl g w m o):m≠.run:=by
 cases o with
 |none=>simp only[Zbl]at h;rw[h];simp
 |some d=>obtain⟨v,h,_⟩:=h;rw[h];simp
theorem ZmI{g g':G}{w w':World}{m:FrameMode}{o:Option D}(h:Zbl g w m o)(he:Ext g w g' w'):Zbl g' w' m o:=by
 cases o with
 |none=>exact h
 |some d=>obtain⟨v,h,hr⟩:=h;exact⟨v,h,hr.mono he⟩
theorem Zjt{Ψ:Option D→St→Prop}:∀(dds:List DD) {m:Option D} {s:St},Unw P dds m s Ψ→∀{g:G} {ν:Nat→Nat} {w:World} {ρ:Env} {L:Loc} {fr:Frame} {cs:List Frame},Zr g ν w fr.tmps ρ L s→fr.defers=dds.map DD.def→Zbl g w fr.mode m →
  ∃g' w' m' s' md,Ext g w g' w'∧Zr g' ν w' fr.tmps ρ L s'∧Ψ m' s'∧Zbl g' w' md m'∧Steps P (lone fr cs w) (lone { fr with defers:=[],mode:=md } cs w')
 | [],m,s,h,g,ν,w,ρ,L,fr,cs,M,hd,hm=>by
  refine⟨g,w,m,s,fr.mode,Ext.refl g w,M,h,hm,?_⟩
  have:({ fr with defers:=[],mode:=fr.mode }:Frame)=fr:=by cases fr;simp only at hd;subst hd;rfl
  rw[this];exact Steps.refl P _
 |.mark q::r,m,s,h,g,ν,w,ρ,L,fr,cs,M,hd,hm=>by
  obtain⟨hq,hu⟩:=h
  obtain⟨ag,hh⟩:=M.st.obj q _ hq
  have he:=Zcc (g:=g) (w:=w) q (.deferred nO) (by simp[hdr,hh]) ag (M.st.kept q _ hq)
  have M':=M.drop hq he (by simp) (fun c hc=>JL _ hc)
  obtain⟨g',w',m',s',md,a1,a2,a3,a4,a5⟩:=Zjt r hu (fr:={ fr with defers:=r.map DD.def }) (cs:=cs) M' rfl (ZmI hm he)
  exact⟨g',w',m',s',md,he.trans a1,a2,a3,a4,.head (ZwP (ZmJ hm) hd hh) a5⟩
 |.fn i args caps::r,m,s,h,g,ν,w,ρ,L,fr,cs,M,hd,hm=>by
  obtain⟨ad,ae,⟨fn,u,ac,y⟩,hc⟩:=h
  obtain⟨ab,ak,_,af⟩:=ZbW ad
  obtain⟨vs,z,_,aj⟩:=ZbW ae
  have al:Zbl (Zfe g ν L) w ({ fr with defers:=r.map DD.def }:Frame).mode m:=by
   cases m with
   |none=>exact hm
   |some d=>obtain⟨v,h1,h2⟩:=hm;exact⟨v,h1,Wx h2 rfl⟩
  obtain⟨g1,w1,s1,b,x1,x2,x3,x4⟩:=hc (Zfe g ν L) w (ab++vs) { fr with defers:=r.map DD.def } cs M.callSt ((af _ _).append (aj _ _)) al
  obtain⟨j,ah⟩:=M.afterCall x1 x2
  have n:fn.body.isNone=false:=by cases hb:fn.body<;>simp[hb]at ac⊢
  have t:step P (lone fr cs w)=.next (lone (Frame.enter P i (ab++vs).toArray .deferred) ({ fr with defers:=r.map DD.def }::cs) w):=by
   refine step_defer (d:=DD.def (.fn i args caps)) (fv:=.func i) (cap:=vs.toArray) (ZmJ hm) hd (by simp[DD.def,z]) ?_
   simp only[DD.def,z,ak,ZFs,invoke,callFunc,Sem.run_bind,run_program,Result.andThen_ok,u,y,n,ZFn,if_false,Sem.run_pure]
   simp
  have ai:Zbl { g1 with kept:=g.kept } w1 (if b then .returning else fr.mode) (if b then nO else m):=by
   cases b
   ·simp only[ZFn,if_false];exact ZmI hm j
   rfl
  obtain⟨g',w',m',s',md,a1,a2,a3,a4,a5⟩:=Zjt r x3 (fr:={ fr with defers:=r.map DD.def,mode:=if b then .returning else fr.mode }) (cs:=cs) ah rfl ai
  exact⟨g',w',m',s',md,j.trans a1,a2,a3,a4,.head t (Steps.trans x4 a5)⟩
def YQ{P:Program}(F:Fr P)(rs:List RV)(Φ:Res→St→Prop)(dds:List DD):Prop :=
 ∃an f df cs,cf P an f=sO df∧rs=df.res∧F={ Zmu P an f df.n cs Φ with ds:=dds.map DD.def }
theorem St.sub_refl(s:St):s.sub s:=fun _ _ h=>h
def ZjH(ρ:Env)(L:Loc)(rs:List RV)(Φ:Res→St→Prop):Option D→St→Prop
 |none,s=>∃p ds d s',YI ρ L s rs=sO (p,ds)∧p∧(K3 ds).Le d∧s'.sub s∧Φ (.ret d) s'
 |some d,s=>∃d' s',d.Le d'∧s'.sub s∧Φ (.panic d') s'
theorem Zra{an:Ann}{f:FuncId}{df:DF}(hf:cf P an f=sO df){cs:List Frame}{Φ:Res→St→Prop}{g:G}{ν:Nat→Nat}{w:World}{fr:Frame}{ρ:Env}{L:Loc}{s:St}{m:Option D}{dds:List DD}(hfn:fr.fn=f)(hkind:fr.kind=.normal)
  (M:Zr g ν w fr.tmps ρ L s) (hd:fr.defers=dds.map DD.def) (hm:Zbl g w fr.mode m) (hu:Unw P dds m s (ZjH ρ L df.res Φ)):(ZjT P f cs Φ).T g w (lone fr cs w):=by
 obtain⟨g',w',m',s',md,a1,a2,a3,a4,a5⟩:=Zjt dds hu (cs:=cs) M hd hm
 unfold cf at hf
 split at hf<;>(try(simp at hf;done))
 rename_i fn c
 split at hf<;>(try(simp at hf;done))
 split at hf<;>(try(simp at hf;done))
 split at hf<;>simp at hf
 rename_i rs d' n hd'
 subst hf
 cases m' with
 |none =>
  obtain⟨p,ds,d,s2,h1,h2,h3,h4,h5⟩:=a3
  obtain⟨v,i,j⟩:=Zm3 a2 n h1 h2
  exact⟨.returned v,w',_,a5,hfn,⟨a4,rfl,hkind,fn,by rw[←c] ;exact congrArg _ hfn,i⟩,g',s2,.ret d,a1,a2.st.sub h4,h3 _ _ _ j,h5⟩
 |some d =>
  obtain⟨d',s2,h1,h2,h3⟩:=a3
  obtain⟨v,i,j⟩:=a4
  exact⟨.panicked [{ v,recovered:=false }],w',_,a5,hfn,⟨i,rfl,fn,by rw[←c];exact congrArg _ hfn⟩,g',s2,.panic d',a1,a2.st.sub h2,⟨v,rfl,h1 _ _ _ j⟩,h3⟩
theorem YQ.retU{F:Fr P}{rs:List RV}{Φ:Res→St→Prop}{dds:List DD}(hF:YQ F rs Φ dds){dk:List Zi}{ρ:Env}{L:Loc}{s:St}(h:Unw P dds nO s (ZjH ρ L rs Φ)):Zu F (.code .ret::dk) ρ L s:=by
 obtain⟨an,f,⟨N,rs,b⟩,cs,hf,rfl,rfl⟩:=hF
 intro k hk
 cases hk with
 |code hc ht =>
  obtain rfl:=ZqO hc
  intro g ν w tmps hN m
  refine(ZjT P f cs Φ).back _ _ _ _ (.one (stepR_ret rfl)) ?_
  exact Zra (m:=nO) hf rfl rfl (dds:=dds) m rfl rfl h
theorem YQ.finU{F:Fr P}{rs:List RV}{Φ:Res→St→Prop}{dds:List DD}(hF:YQ F rs Φ dds){ρ:Env}{L:Loc}{s:St}(h:Unw P dds nO s (ZjH ρ L rs Φ)):Zu F [] ρ L s:=by
 obtain⟨an,f,⟨N,rs,b⟩,cs,hf,rfl,rfl⟩:=hF
 intro k hk
 cases hk
 intro g ν w tmps hN m
 refine(ZjT P f cs Φ).back _ _ _ _ (.one (stepR_end rfl)) ?_
 exact Zra (m:=nO) hf rfl rfl (dds:=dds) m rfl rfl h
theorem YQ.panU{F:Fr P}{rs:List RV}{Φ:Res→St→Prop}{dds:List DD}(hF:YQ F rs Φ dds){ρ:Env}{L:Loc}{d:D}{s:St}(h:Unw P dds (sO d) s (ZjH ρ L rs Φ)):Y6 F ρ L d s:=by
 obtain⟨an,f,⟨N,rs,b⟩,cs,hf,rfl,rfl⟩:=hF
 intro g ν w v todo tmps hN m hr
 exact Zra (m:=sO d) hf rfl rfl (dds:=dds) m rfl ⟨v,rfl,hr⟩ h
theorem YQ.ret{F:Fr P}{rs:List RV}{Φ:Res→St→Prop}(hF:YQ F rs Φ []){dk:List Zi}{ρ:Env}{L:Loc}{s:St}{p:Prop}{ds:List D}(d:D)(s':St)(h1:YI ρ L s rs=sO (p,ds))(h2:p)(h3:(K3 ds).Le d)(h4:s'.sub s)(h5:Φ (.ret d) s') :
  Zu F (.code .ret::dk) ρ L s:=hF.retU ⟨p,ds,d,s',h1,h2,h3,h4,h5⟩
theorem YQ.fin{F:Fr P}{rs:List RV}{Φ:Res→St→Prop}(hF:YQ F rs Φ []){ρ:Env}{L:Loc}{s:St}{p:Prop}{ds:List D}(d:D)(s':St)(h1:YI ρ L s rs=sO (p,ds))(h2:p)(h3:(K3 ds).Le d)(h4:s'.sub s)(h5:Φ (.ret d) s') :
  Zu F [] ρ L s:=hF.finU ⟨p,ds,d,s',h1,h2,h3,h4,h5⟩
theorem YQ.pan{F:Fr P}{rs:List RV}{Φ:Res→St→Prop}(hF:YQ F rs Φ []){ρ:Env}{L:Loc}{d:D}{s:St}(s':St)(h1:s'.sub s)(h2:Φ (.panic d) s'):Y6 F ρ L d s:=hF.panU ⟨d,s',ZEW d,h1,h2⟩
theorem Zh{an:Ann}{f:FuncId}{N:Nat}{rs:List RV}{b:DC}(hf:cf P an f=sO ⟨N,rs,b⟩){args:List D}{s:St}{Φ:Res→St→Prop}
  (h:∀F:Fr P,YQ F rs Φ []→Zu F [.code b] (K2 0 args) [] s):Zf P f args s Φ :=
 ZhR hf fun cs=>h _ ⟨an,f,⟨N,rs,b⟩,cs,hf,rfl,rfl⟩
end
end Go.DL
namespace Go.DL
open Go
variable [Zqw]
def Zc(P:Program)(f:FuncId)(args:List D)(d:D):Prop:=∀s,Zf P f args s fun r s'=>r=.ret d∧s'=s
theorem Ze{P:Program}{an:Ann}{f:FuncId}{N:Nat}{rs:List RV}{b:DC}(hf:cf P an f=sO ⟨N,rs,b⟩){args:List D}{d:D}
  (h:∀(F:Fr P) (s:St),(∀{dk:List Zi} {ρ:Env} {L:Loc} {s':St} {p:Prop} {ds:List D},YI ρ L s' rs=sO (p,ds)→p→(K3 ds).Le d→s.sub s'→Zu F (.code .ret::dk) ρ L s') →
   Zu F [.code b] (K2 0 args) [] s):Zc P f args d :=
 fun s=>Zh hf fun F hF=>h F s fun h1 h2 h3 h4=>hF.ret d s h1 h2 h3 h4 ⟨rfl,rfl⟩
theorem JP{P:Program}{F:Fr P}{kp:Option (List Nat)}{dk:List Zi}{o:DOp}{os:List DOp}{ρ:Env}{L:Loc}{s:St}(hg:Zl ρ o.guard=sO true){fx:Opd}{xs:List Opd}(hk:o.k=.call fx xs)
  {p q:Prop} {f:FuncId} {first caps:List D} {es:List E} {ds:List D} (hf:ZC ρ true fx=sO (q,.d (.fn (.func f) first caps))) (ha:Yd ρ true xs=sO (p,es)) (hds:W2 es=sO ds) (hp:p) (hq:q)
  {d:D} (hc:Zc P f (first++ds++caps) d) (h:DO F kp dk os (Zt ρ o.dst (.d d)) L s):DO F kp dk (o::os) ρ L s :=
 ZjF hg hk hf ha hds hp hq (hc s) (fun d' s' ⟨h1,h2⟩=>by simp only[Res.ret.injEq]at h1;subst h1;subst h2;exact h) (fun d' s' ⟨h1,_⟩=>by simp at h1)
end Go.DL
namespace Go.DL
open Go
variable [Zqw]
section
variable {P:Program}
theorem ZzE{F:Fr P}{kp:Option (List Nat)}{dk:List Zi}{os:List DOp}{ρ ρ':Env}{L:Loc}{s:St}(h:∀g ν w tmps,Zr g ν w tmps ρ L s→Zr g ν w tmps ρ' L s)(h':DO F kp dk os ρ' L s) :
  DO F kp dk os ρ L s:=fun i is k c hk g ν w tmps hN m=>h' i is k c hk g ν w tmps hN (h g ν w tmps m)
theorem Zr.headWhen{g:G}{ν:Nat→Nat}{w:World}{tmps:Array Value}{ρ:Env}{L:Loc}{s:St}{dst:Option Nat}{e:E}(m:Zr g ν w tmps (Zt ρ dst e) L s):Zr g ν w tmps (Zt ρ dst (.when true e)) L s:=by
 cases dst with
 |none=>exact m
 |some t =>
  refine{ m with env:=fun u x hx=>?_ }
  simp only[Zt,ZL]at hx
  by_cases h:t=u
  ·simp only[h,if_true,ZEP]at hx
   subst hx
   exact⟨fun _=>m.env u e (by simp[Zt,ZL,h]),fun h=>by simp at h⟩
  simp only[h,if_false]at hx
  exact m.env u x (by simp[Zt,ZL,h,hx])
theorem Q1{F:Fr P}{kp:Option (List Nat)}{dk:List Zi}{o:DOp}{os:List DOp}{ρ:Env}{L:Loc}{s:St}(hg:Zl ρ o.guard=sO false){e:E}
  (h:DO F kp dk os (Zt ρ o.dst (.when false e)) L s):DO F kp dk (o::os) ρ L s:=by
 refine Wn fun oo g ν w tmps t i r k u hck j c hd hN m hr n=>?_
 exact Zbw (P:=P) hN m u c hd (Yf m j hg) (h t r k hr n)
theorem ZbO{F:Fr P}{kp:Option (List Nat)}{dk:List Zi}{o:DOp}{os:List DOp}{ρ:Env}{L:Loc}{s:St}{c:Bool}(hg:Zl ρ o.guard=sO c){fx:Opd}{xs:List Opd}(hk:o.k=.call fx xs)
  {p q:Prop} {f:FuncId} {first caps:List D} {es:List E} {ds:List D} (hf:ZC ρ c fx=sO (q,.d (.fn (.func f) first caps))) (ha:Yd ρ c xs=sO (p,es)) (hds:W2 es=sO ds)
  {d:D} (hc:c=true→p∧q∧Zc P f (first++ds++caps) d) (h:DO F kp dk os (Zt ρ o.dst (.when c (.d d))) L s):DO F kp dk (o::os) ρ L s:=by
 cases c
 ·exact Q1 hg h
 obtain⟨h1,h2,h3⟩:=hc rfl
 exact JP hg hk hf ha hds h1 h2 h3 (ZzE (fun g ν w tmps m=>m.headWhen) h)
theorem Zr.sub{g:G}{ν:Nat→Nat}{w:World}{tmps:Array Value}{ρ:Env}{L:Loc}{s s':St}(m:Zr g ν w tmps ρ L s)(hs:s'.sub s):Zr g ν w tmps ρ L s':={
 st:=m.st.sub hs
 loc:=m.loc
 locKept:=m.locKept
 locSt l cs hl:=by
  cases hx:s' (ν l) with
  |none=>rfl
  |some o=>have:=hs _ _ hx;rw[m.locSt l cs hl]at this;simp at this
 inj:=m.inj
 env:=m.env }
theorem QF{F:Fr P}{dk:List Zi}{ρ:Env}{L:Loc}{s s':St}(hs:s'.sub s)(h:Zu F dk ρ L s'):Zu F dk ρ L s :=
 fun k hk g ν w tmps hN m=>h k hk g ν w tmps hN (m.sub hs)
end
end Go.DL
namespace Go.DL
open Go
variable [Zqw]
variable {kp:Option (List Nat)}{L:Loc}{ρ:Env}{s:St}{w:World}{os:List DOp}{ds:List D}{B:List (Nat × Rd)}{dst:Option Nat}{tmps:Array Value}{g:G}{Φ:Res→St→Prop}{ν:Nat→Nat}{xs:List Opd}{side:Prop}{row:Nat→List D}
variable {P:Program}
theorem ZbP{F:Fr P}{dk:List Zi}{o:DOp}(hg:o.guard=nO){x y:Opd}{pl:Option Zaf}(hk:o.k=.q (.bin .add pl) [x,y]){p:Prop}{k:IntKind}{a b:Int}(ha:Yd ρ true [x,y]=sO (p,[.d (.int k a),.d (.int k b)]))(hp:p)(h:DO F kp dk os (Zt ρ o.dst (.d (.int k (k.wrap (a+b))))) L s):DO F kp dk (o::os) ρ L s:=by
 refine Zqo (c:=true) (by rw[hg];rfl) (by rw[hk];rfl) (.inr ⟨rfl,rfl⟩) (fun _ oo g ν w tmps u m=>?_) h
 rw[hk]at u
 obtain⟨ys,i,z⟩:=ZzP u
 have n:=ZbV m rfl F.ds z ha hp
 obtain⟨dst,j,ty,pos,af,gd⟩:=oo
 simp only at i
 have v:∃op t x' y' yt,j=Op.binOp op t x' y' yt:=by
  cases j<;>(try(simp[cq]at i;done))
  case binOp=>exact⟨_,_,_,_,_,rfl⟩
  all_goals
   exfalso
   revert i
   simp only[cq]
   repeat' split
   all_goals simp
   all_goals (intros;simp_all)
 obtain⟨op,t,x',y',yt,rfl⟩:=v
 simp only[cq]at i
 simp only[ZEP,ZE2,Q.bin.injEq]at i
 obtain⟨⟨rfl,_⟩,rfl⟩:=i
 obtain⟨e1,e2,he,h1,h2⟩:=JT n
 simp only[List.cons.injEq,and_true]at he
 obtain⟨rfl,rfl⟩:=he
 obtain⟨v1,i1⟩:=K6 h1
 obtain⟨v2,i2⟩:=K6 h2
 refine ev ⟨.int k (k.wrap (a+b)),?_,.int _ _ (Zkf _ _)⟩
 have ab:(eqGuard .add t x' y' (.int k a) (.int k b)).run P w=.ok () w:=rfl
 rw[v1,v2]
 simp only[Sem.run_bind,ab,Result.andThen_ok,binOp,ne_eq,not_true_eq_false,if_false]
 rfl
inductive Sch(T:Tab):(Nat→Bool)→List Nat→Prop where
 |nil {l} (h:∀i,i<T.length→l i=true):Sch T l []
 |cons {l i is} (hi:i<T.length) (hl:l i=false) (hd:∀d∈T.deps i,l d=true) (t:Sch T (fun j=>j==i ||l j) is):Sch T l (i::is)
def Zz(ρ ρ':Env)(ns:List Nat):Prop:=∀t∈ns,ZL ρ' t=ZL ρ t
theorem ZQ{ρ ρ':Env}{c:Bool}{x:Opd}(h:Zz ρ ρ' (ZR x)):ZC ρ' c x=ZC ρ c x:=by
 cases x with
 |cst d=>rfl
 |tmp t=>simp only[ZC,h t (by simp[ZR])]
theorem W0{ρ ρ':Env}{c:Bool}:∀{xs:List Opd},Zz ρ ρ' (Za2 xs)→Yd ρ' c xs=Yd ρ c xs
 | [],_=>rfl
 |x::xs,h=>by
  have h1:Zz ρ ρ' (ZR x):=fun t ht=>h t (by simp[Za2];exact .inl ht)
  have h2:Zz ρ ρ' (Za2 xs):=fun t ht=>h t (by simp only[Za2,List.flatMap_cons,List.mem_append];exact .inr ht)
  simp only[Yd,ZQ h1,W0 h2]
theorem We{ρ ρ':Env}{g:Option (Nat×Bool)}(h:Zz ρ ρ' (Zdp g)):Zl ρ' g=Zl ρ g:=by
 cases g with
 |none=>rfl
 |some x=>obtain⟨t,w⟩:=x;simp only[Zl,h t (by simp[Zdp])]
theorem ZkQ{ρ ρ':Env}{c:Bool}{x a b:Opd}(h:Zz ρ ρ' (ZR x++ZR a++ZR b)):Zdc ρ' c x a b=Zdc ρ c x a b:=by
 have h1:Zz ρ ρ' (ZR x):=fun t ht=>h t (by simp[ht])
 have h2:Zz ρ ρ' (ZR a):=fun t ht=>h t (by simp[ht])
 have h3:Zz ρ ρ' (ZR b):=fun t ht=>h t (by simp[ht])
 simp only[Zdc,ZQ h1]
 split
 ·rw[ZQ h2,ZQ h3]
 rfl
theorem ZpG{L L':Loc}{e:E}(h:∀x o,e=.loc x o→Zg L' x=Zg L x):Wr L' s e=Wr L s e:=by
 cases e with
 |d v=>cases v<;>rfl
 |loc l o=>simp only[Wr,h l o rfl]
 |when c e=>rfl
theorem ZpQ{L L':Loc}{n:Nat}{e:E}(h:∀x o,e=.loc x o→Zg L' x=Zg L x):Ki L' s n e=Ki L s n e:=by
 cases e with
 |d v=>cases v<;>rfl
 |loc l o=>simp only[Ki,h l o rfl]
 |when c e=>rfl
theorem ZrV{L L':Loc}{q:Q}{es:List E}(h:Zch (.q q [])=true→∀x o,.loc x o∈es→Zg L' x=Zg L x):qv L' s q es=qv L s q es:=by
 by_cases hl:Zch (.q q [])=true
 ·replace h:=h hl
  cases q<;>simp[Zch]at hl
  ·match es with
   | [a]=>simp only[qv,ZpG (e:=a) fun x o ha=>h x o (by rw[ha];exact List.mem_singleton_self _)]
   | []=>rfl
   |_::_::_=>rfl
  match es with
  | [a]=>simp only[qv,ZpQ (e:=a) fun x o ha=>h x o (by rw[ha];exact List.mem_singleton_self _)]
  | []=>rfl
  |_::_::_=>rfl
 clear h
 unfold qv
 split<;>first|rfl|(exfalso;exact hl rfl)|skip
def YH:K→Bool
 |.q _ _|.pick _ _ _|.bsl _ _ _ _ _|.s2b _=>true
 |_=>false
theorem Zs7{o:DOp}{ρ ρ':Env}{L L':Loc}{s s1:St}{ρ1:Env}{L1:Loc}(hst:ZB o ρ L s=.ok side ρ1 L1 s1)(hs:side)(hgt:Zl ρ o.guard=sO true)(hk:YH o.k=true)(ha:Zz ρ ρ' (ZA o))(hl:Zch o.k=true→∀q xs p es,o.k=.q q xs→Yd ρ true xs=sO (p,es)→p→∀x o,.loc x o∈es→Zg L' x=Zg L x):∃e,ρ1=Zt ρ o.dst e∧L1=L∧s1=s∧ZB o ρ' L' s=.ok side (Zt ρ' o.dst e) L' s:=by
 obtain⟨dst,gd,k⟩:=o
 have hg:=We (g:=gd) (fun t ht=>ha t (by simp[ZA,ht]))
 have hn:Zz ρ ρ' (Yq k):=fun t ht=>ha t (by simp[ZA,ht])
 simp only at hgt
 unfold ZB at hst⊢
 simp only[hg,hgt]at hst⊢
 cases k with
 |q q xs =>
  simp only at hst⊢
  rw[W0 hn]
  split at hst<;>(try(simp at hst;done))
  rename_i p es c
  try simp only[c]
  split at hst<;>(try(simp at hst;done))
  rename_i sd e hq
  have hp:p:=by
   split at hst<;>(simp only[SR.ok.injEq]at hst;obtain⟨rfl,-,-,-⟩:=hst)
   ·exact hs.1
   exact(hs trivial).1
  have i:qv L' s q es=qv L s q es:=ZrV fun hld=>hl (by cases q<;>simp_all[Zch]) q xs p es rfl c hp
  simp only[i,hq]
  split at hst<;>(simp only[SR.ok.injEq]at hst;obtain⟨rfl,rfl,rfl,rfl⟩:=hst)
  ·exact⟨e,rfl,rfl,rfl,rfl⟩
  exact⟨_,rfl,rfl,rfl,rfl⟩
 |pick x a b =>
  simp only at hst⊢
  rw[ZkQ hn]
  split at hst<;>(try(simp at hst;done))
  rename_i p v hp
  try simp only[hp]
  split at hst<;>(simp only[SR.ok.injEq]at hst;obtain⟨rfl,rfl,rfl,rfl⟩:=hst)
  ·exact⟨_,rfl,rfl,rfl,rfl⟩
  exact⟨_,rfl,rfl,rfl,rfl⟩
 |bsl len n z is xs =>
  simp only at hst⊢
  rw[W0 hn]
  split at hst<;>(try(simp at hst;done))
  rename_i p es c
  try simp only[c]
  split at hst<;>(try(simp at hst;done))
  rename_i ds j
  try simp only[j]
  split at hst<;>(simp only[SR.ok.injEq]at hst;obtain⟨rfl,rfl,rfl,rfl⟩:=hst)
  ·exact⟨_,rfl,rfl,rfl,rfl⟩
  exact⟨_,rfl,rfl,rfl,rfl⟩
 |s2b x =>
  simp only at hst⊢
  rw[ZQ hn]
  split at hst<;>(try(simp at hst;done))
  rename_i p l hl
  try simp only[hl]
  split at hst<;>(simp only[SR.ok.injEq]at hst;obtain⟨rfl,rfl,rfl,rfl⟩:=hst)
  ·exact⟨_,rfl,rfl,rfl,rfl⟩
  exact⟨_,rfl,rfl,rfl,rfl⟩
 |_=>simp[YH]at hk
theorem ZkX{o:DOp}{s s1:St}{ρ1:Env}{L1:Loc}(hst:ZB o ρ L s=.ok side ρ1 L1 s1)(hgt:Zl ρ o.guard=sO false)(hk:YH o.k=true):∃e,ρ1=Zt ρ o.dst (.when false e)∧L1=L∧s1=s:=by
 obtain⟨dst,gd,k⟩:=o
 have c:∃x,gd=sO x:=by
  cases gd with
  |none=>simp[Zl]at hgt
  |some x=>exact⟨x,rfl⟩
 obtain⟨x,rfl⟩:=c
 simp only at hgt
 unfold ZB at hst
 simp only[hgt]at hst
 cases k with
 |q q xs =>
  simp only at hst
  split at hst<;>(try(simp at hst;done))
  split at hst<;>(try(simp at hst;done))
  simp only[SR.ok.injEq]at hst;obtain⟨rfl,rfl,rfl,rfl⟩:=hst
  exact⟨_,rfl,rfl,rfl⟩
 |pick x a b =>
  simp only at hst
  split at hst<;>(try(simp at hst;done))
  simp only[SR.ok.injEq]at hst;obtain⟨rfl,rfl,rfl,rfl⟩:=hst
  exact⟨_,rfl,rfl,rfl⟩
 |bsl len n z is xs =>
  simp only at hst
  split at hst<;>(try(simp at hst;done))
  split at hst<;>(try(simp at hst;done))
  simp only[SR.ok.injEq]at hst;obtain⟨rfl,rfl,rfl,rfl⟩:=hst
  exact⟨_,rfl,rfl,rfl⟩
 |s2b x =>
  simp only at hst
  split at hst<;>(try(simp at hst;done))
  simp only[SR.ok.injEq]at hst;obtain⟨rfl,rfl,rfl,rfl⟩:=hst
  exact⟨_,rfl,rfl,rfl⟩
 |_=>simp[YH]at hk
theorem Zha{s s':St}{L L':Loc}:∀{B:List (Nat×Rd)},KS s s' L L' B→(∀n b,(n,.blk b)∈B→s' b=s b)∧(∀n l,(n,.loc l)∈B→Zg L' l=Zg L l)
 | [],_=>⟨fun n b h=>by simp at h,fun n b h=>by simp at h⟩
 | (m,.blk c)::B,h=>by
  obtain⟨h1,h2⟩:=Zha h.2
  refine⟨fun n b hb=>?_,fun n l hl=>h2 n l (by simpa using hl)⟩
  rcases List.mem_cons.1 hb with hb|hb
  ·simp only[ZE2,Rd.blk.injEq]at hb;rw[hb.2];exact h.1
  exact h1 n b hb
 | (m,.loc c)::B,h=>by
  obtain⟨h1,h2⟩:=Zha h.2
  refine⟨fun n b hb=>h1 n b (by simpa using hb),fun n l hl=>?_⟩
  rcases List.mem_cons.1 hl with hl|hl
  ·simp only[ZE2,Rd.loc.injEq]at hl;rw[hl.2];exact h.1
  exact h2 n l hl
theorem ZfQ(s:St)(L:Loc):∀B,KS s s L L B
 | []=>trivial
 | (_,.blk _)::B=>⟨rfl,ZfQ s L B⟩
 | (_,.loc _)::B=>⟨rfl,ZfQ s L B⟩
theorem Zc8(fl:List Nat)(s:St)(L:Loc)(B:List (Nat×Rd)):Wg fl s s L L B:=ZfQ s L _
theorem ZiA:∀(B:List (Nat×Rd)),YX [] B=[]
 | []=>rfl
 |_::B=>ZiA B
theorem ZaZ{s s':St}{L L':Loc}{B:List (Nat×Rd)}:Wg [] s s' L L' B:=by
 unfold Wg;rw[ZiA];trivial
theorem Qz{fl:List Nat}{x:Nat×Rd}:∀{B:List (Nat×Rd)},x∈YX fl B↔Zal x.1 fl=true∧x∈B
 | []=>by simp[YX]
 |y::B=>by
  simp only[YX]
  split
  ·rename_i h
   simp only[ZFv,Qz (B:=B)]
   constructor
   ·rintro(rfl|⟨h1,h2⟩)
    ·exact⟨h,.inl rfl⟩
    exact⟨h1,.inr h2⟩
   rintro⟨h1,rfl|h2⟩
   ·exact .inl rfl
   exact .inr ⟨h1,h2⟩
  rename_i h
  simp only[ZFv,Qz (B:=B)]
  constructor
  ·rintro⟨h1,h2⟩;exact⟨h1,.inr h2⟩
  rintro⟨h1,rfl|h2⟩
  ·exact absurd h1 h
  exact⟨h1,h2⟩
theorem Zu0{o:DOp}{x:Rd}:(ZbM o,x)∈Kj o ρ↔x∈Y7 o ρ:=by simp[Kj]
theorem ZiR{o:DOp}{ρ ρ':Env}(h:Zz ρ ρ' (ZA o)):Y7 o ρ'=Y7 o ρ:=by
 obtain⟨dst,gd,k⟩:=o
 have hg:=We (g:=gd) (fun t ht=>h t (by simp[ZA,ht]))
 cases k with
 |q q xs =>
  have hn:Zz ρ ρ' (Za2 xs):=fun t ht=>h t (by simp[ZA,Yq,ht])
  simp only[Y7,hg]
  split
  ·cases Zl ρ gd with
   |none=>rfl
   |some c=>simp only[W0 hn]
  rfl
 |_=>rfl
theorem Zx3{s s':St}{q:Q}{es:List E}(h:YY (.q q [])=true→∀e r,es=e::r→∀b,.blk b∈KT e→s' b=s b):qv L s' q es=qv L s q es:=by
 by_cases hl:YY (.q q [])=true
 ·replace h:=h hl
  match es with
  | [] =>
   cases q
   case conv c=>cases c<;>first|rfl|simp[YY]at hl
   all_goals simp[YY]at hl<;>rfl
  |e::r =>
   replace h:=h e r rfl
   have hc:∀b o,e=.d (.ptr b o)→Yj s' b=Yj s b:=fun b o he=>by subst he;simp only[Yj,h b (by simp[KT])]
   have hm:∀b,e=.d (.map b)→KM s' b=KM s b:=fun b he=>by subst he;simp only[KM,h b (by simp[KT])]
   have t:∀b o n j z,e=.d (.msl b o n j z)→Yj s' b=Yj s b:=fun b o n j z he=>by subst he;simp only[Yj,h b (by simp[KT])]
   have i:q=.conv .b2s→qv L s' q (e::r)=qv L s q (e::r):=fun hq=>by
    subst hq
    cases r with
    |nil =>
     cases e with
     |d v=>cases v<;>first|rfl|(simp only[qv];rw[t _ _ _ _ _ rfl])
     |_=>rfl
    |cons =>
     cases e with
     |d v=>cases v<;>rfl
     |_=>rfl
   cases q
   case conv c=>cases c<;>first|(simp[YY]at hl;done)|exact i rfl
   all_goals simp[YY]at hl
   ·cases r with
    |nil =>
     simp only[qv]
     congr 1
     cases e with
     |d v=>cases v<;>first|rfl|(simp only[Wr];rw[hc _ _ rfl])
     |_=>rfl
    |cons=>rfl
   ·cases r with
    |nil =>
     simp only[qv]
     congr 1
     cases e with
     |d v=>cases v<;>first|rfl|(simp only[Ki];rw[hc _ _ rfl])
     |_=>rfl
    |cons=>rfl
   ·match r with
    | [] =>
     cases e with
     |d v=>cases v<;>rfl
     |_=>rfl
    | [e2] =>
     cases e with
     |d v =>
      cases e2 with
      |d v2=>cases v<;>first|rfl|(simp only[qv];rw[hm _ rfl])
      |_=>cases v<;>rfl
     |_=>cases e2<;>rfl
    |e2::_::_ =>
     cases e with
     |d v=>cases v<;>(cases e2<;>rfl)
     |_=>cases e2<;>rfl
   cases r with
   |nil =>
    cases e with
    |d v=>cases v<;>first|rfl|(simp only[qv];rw[hm _ rfl])
    |_=>rfl
   |cons =>
    cases e with
    |d v=>cases v<;>rfl
    |_=>rfl
 clear h
 cases q
 case conv c=>cases c<;>first|(simp[YY]at hl;done)|(unfold qv;rfl)|(unfold qv;split<;>first|rfl|(rename_i hx;cases hx))
 all_goals first|(simp[YY]at hl;done)|(unfold qv;rfl)|(unfold qv;split<;>first|rfl|(rename_i hx;cases hx))
theorem Zs8{o:DOp}{s s':St}{ρ1:Env}(hst:ZB o ρ L s=.ok side ρ1 L s)(hk:YH o.k=true)(hgt:Zl ρ o.guard=sO true)(h:∀b,.blk b∈Y7 o ρ→s' b=s b):ZB o ρ L s'=.ok side ρ1 L s':=by
 obtain⟨dst,gd,k⟩:=o
 unfold ZB at hst⊢
 obtain⟨c,hg,hc⟩:∃c,Zl ρ gd=sO c∧c=true:=⟨true,hgt,rfl⟩
 simp only[hg]at hst⊢
 cases k with
 |q q xs =>
  simp only at hst⊢
  split at hst<;>(try(simp at hst;done))
  rename_i p es t
  have i:qv L s' q es=qv L s q es:=Zx3 fun hl e r he b hb=>h b (by
   subst he
   have j:YY (.q q xs)=true:=by
    cases q
    case conv c=>cases c<;>simp_all[YY]
    all_goals simp_all[YY]
   subst hc
   simp only[Y7,j,if_true,hg,t];exact hb)
  simp only[i]
  split at hst<;>(try(simp at hst;done))
  split at hst<;>(simp only[SR.ok.injEq]at hst;obtain⟨rfl,rfl,-,-⟩:=hst;rfl)
 |pick x a b =>
  simp only at hst⊢
  split at hst<;>(try(simp at hst;done))
  split at hst<;>(simp only[SR.ok.injEq]at hst;obtain⟨rfl,rfl,-,-⟩:=hst;rfl)
 |bsl len n z is xs =>
  simp only at hst⊢
  split at hst<;>(try(simp at hst;done))
  split at hst<;>(try(simp at hst;done))
  split at hst<;>(simp only[SR.ok.injEq]at hst;obtain⟨rfl,rfl,-,-⟩:=hst;rfl)
 |s2b x =>
  simp only at hst⊢
  split at hst<;>(try(simp at hst;done))
  split at hst<;>(simp only[SR.ok.injEq]at hst;obtain⟨rfl,rfl,-,-⟩:=hst;rfl)
 |_=>simp[YH]at hk
def ZaC(o:DOp)(x:Nat):Prop:=o.dst=sO x∧∃z,o.k=.alloc z
def Zb2(o:DOp)(ρ:Env)(e:E):Prop :=
 (Zl ρ o.guard=sO false∧∃e0,e=.when false e0) ∨
 (∃x y pl p k a b,o.guard=nO∧o.k=.q (.bin .add pl) [x,y]∧Yd ρ true [x,y]=sO (p,[.d (.int k a),.d (.int k b)])∧p∧e=.d (.int k (k.wrap (a+b))))
def WY(o:DOp)(ρ:Env)(L:Loc)(s:St)(B:List (Nat×Rd)):Prop :=
 (YH o.k=true∧Zl ρ o.guard=sO true∧(∀b∈Y7 o ρ,(ZbM o,b)∈B)∧∃side e,side∧ZB o ρ L s=.ok side (Zt ρ o.dst e) L s∧∀t,o.dst=sO t→ZL ρ t=sO e) ∨
 (YH o.k=true∧∃e,Zb2 o ρ e∧∀t,o.dst=sO t→ZL ρ t=sO e) ∨
 (∃t z,o=⟨sO t,nO,.alloc z⟩∧ZL ρ t=sO (.loc t 0)∧Zg L t=sO z)
structure Inv(T:Tab)(ms:List Nat)(A rest:List Nat)(ρ:Env)(L:Loc)(s:St)(B:List (Nat×Rd))(l:Nat→Bool)(ρ':Env)(L':Loc):Prop where
 closed:∀i,i<T.length→l i=true→∀d∈T.deps i,l d=true
 restN:∀r∈rest,l r=false
 doneN:∀i,i<T.length→i∉rest→i∉A→l i=true
 alt:∀a∈A,a<T.length
 pair:∀p∈A,∀a∈A,(ms.getD p 0).testBit a=true∨nd (T.op a).dst (ZA (T.op p))=true
 uniq:∀p∈A,∀a∈A,p≠a→ndd (T.op p).dst (T.op a).dst=true
 env:∀t,ZL ρ' t=ZL ρ t∨∃a∈A,l a=false∧(T.op a).dst=some t
 loc0:∀a∈A,l a=false→∀x,ZaC (T.op a) x→Zg L' x=none
 loc:∀x,Zg L' x=Zg L x∨∃a∈A,l a=false∧ZaC (T.op a) x
 pend:∀a∈A,l a=false→WY (T.op a) ρ L s B
def ZhZ(T:Tab)(ms:List Nat):Prop :=
 ∀(l:Nat→Bool),(∀i,i<T.length→l i=true→∀d∈T.deps i,l d=true)→∀i,i<T.length→(∀d∈T.deps i,l d=true)→∀a,(ms.getD i 0).testBit a=true→l a=true
theorem WY.state{o:DOp}{s s':St}{B:List (Nat×Rd)}(h:WY o ρ L s B)(hB:∀b,.blk b∈Y7 o ρ→s' b=s b):WY o ρ L s' B:=by
 rcases h with ⟨hk,hg,hr,side,e,hs,c,he⟩|h|h
 ·exact .inl ⟨hk,hg,hr,side,e,hs,Zs8 c hk hg hB,he⟩
 ·exact .inr (.inl h)
 exact .inr (.inr h)
theorem WY.more{o:DOp}{B B':List (Nat×Rd)}(h:WY o ρ L s B)(hB:∀b∈Y7 o ρ,(ZbM o,b)∈B→(ZbM o,b)∈B'):WY o ρ L s B':=by
 rcases h with ⟨hk,hg,hr,h⟩|h|h
 ·exact .inl ⟨hk,hg,fun b hb=>hB b hb (hr b hb),h⟩
 ·exact .inr (.inl h)
 exact .inr (.inr h)
theorem ZsT{o:DOp}(h:Zl ρ o.guard=sO false):Y7 o ρ=[]:=by
 obtain⟨dst,gd,k⟩:=o
 cases k<;>simp only[Y7]
 simp only at h
 simp[h]
theorem ZkR{o:DOp}(h:YY o.k=false):Y7 o ρ=[]:=by
 obtain⟨dst,gd,k⟩:=o
 cases k<;>simp only[Y7]
 rename_i q xs
 simp only at h
 simp[h]
theorem Zb2.congr{o:DOp}{ρ ρ':Env}{e:E}(h:Zb2 o ρ e)(ha:Zz ρ ρ' (ZA o)):Zb2 o ρ' e:=by
 rcases h with ⟨h1,h2⟩|⟨x,y,pl,p,k,a,b,h1,h2,h3,h4,h5⟩
 ·exact .inl ⟨by rw[We fun t ht=>ha t (by simp[ZA,ht])];exact h1,h2⟩
 have hn:Zz ρ ρ' (Za2 [x,y]):=fun t ht=>ha t (by simp[ZA,h2,Yq,ht])
 exact .inr ⟨x,y,pl,p,k,a,b,h1,h2,by rw[W0 hn];exact h3,h4,h5⟩
theorem Zb2.reads{o:DOp}{e:E}(h:Zb2 o ρ e):Y7 o ρ=[]:=by
 rcases h with ⟨h1,_⟩|⟨x,y,pl,p,k,a,b,_,h2,_⟩
 ·exact ZsT h1
 exact ZkR (by rw[h2];rfl)
section
variable {P:Program}
theorem ZoK{F:Fr P}{dk:List Zi}(h:∀g ν w tmps,Zr g ν w tmps ρ L s→DO F kp dk os ρ L s):DO F kp dk os ρ L s :=
 fun i is k c hk g ν w tmps hN m=>h g ν w tmps m i is k c hk g ν w tmps hN m
theorem Zle{g:G}{ν:Nat→Nat}{w:World}{tmps:Array Value}{ρ:Env}{L:Loc}{s:St}(m:Zr g ν w tmps ρ L s):∀{xs:List Opd} {p:Prop} {es:List E},Yd ρ true xs=sO (p,es)→p→∀x o,.loc x o∈es→∃cs,Zg L x=sO cs
 | [],p,es,h,_,x,o,hx=>by simp only[Yd,ZEP,ZE2]at h;obtain⟨_,rfl⟩:=h;simp at hx
 |y::ys,p,es,h,hp,x,o,hx=>by
  simp only[Yd]at h
  split at h<;>simp only[ZEP,ZE2,reduceCtorEq]at h
  rename_i p1 e1 p2 es' h1 h2
  obtain⟨rfl,rfl⟩:=h
  rcases List.mem_cons.1 hx with hx|hx
  ·subst hx
   cases y with
   |cst d=>simp[ZC]at h1
   |tmp t =>
    simp only[ZC]at h1
    split at h1
    ·rename_i c' e' he
     simp only[ZEP,ZE2]at h1
     obtain⟨rfl,rfl⟩:=h1
     exact((m.env t _ he).1 (by simpa using hp.1)).1
    ·rename_i e' _ he
     simp only[ZEP,ZE2]at h1
     obtain⟨rfl,rfl⟩:=h1
     exact(m.env t _ he).1
    simp at h1
  exact Zle m h2 hp.2 x o hx
theorem Zb2.run{F:Fr P}{dk:List Zi}{o:DOp}{e:E}(hl:Zb2 o ρ e)(h:DO F kp dk os (Zt ρ o.dst e) L s):DO F kp dk (o::os) ρ L s:=by
 rcases hl with ⟨h1,e0,rfl⟩|⟨x,y,pl,p,k,a,b,h1,h2,h3,h4,rfl⟩
 ·exact Q1 h1 h
 exact ZbP h1 h2 h3 h4 h
theorem Ztd{F:Fr P}{dk:List Zi}{o:DOp}{ρ ρ':Env}{L L':Loc}{e:E}(hst:ZB o ρ L s=.ok side (Zt ρ o.dst e) L s)(hs:side)(hk:YH o.k=true)(ha:Zz ρ ρ' (ZA o))(hl:∀x,Zg L' x=Zg L x∨Zg L' x=nO)(h:DO F kp dk os (Zt ρ' o.dst e) L' s):DO F kp dk (o::os) ρ' L' s:=by
 have i:∀e',Zt ρ o.dst e=Zt ρ o.dst e'→Zt ρ' o.dst e=Zt ρ' o.dst e':=fun e' h=>by
  cases hd:o.dst with
  |none=>rfl
  |some t=>simp only[hd,Zt,List.cons.injEq,ZE2,true_and,and_true]at h;rw[h]
 have hg:=We (g:=o.guard) (fun t ht=>ha t (by simp[ZA,ht]))
 cases hc:Zl ρ o.guard with
 |none=>unfold ZB at hst;simp[hc]at hst
 |some c =>
  cases c
  ·obtain⟨e',h1,-,-⟩:=ZkX hst hc hk
   rw[i _ h1]at h
   exact Q1 (by rw[hg,hc]) h
  refine ZoK fun g ν w tmps m=>?_
  obtain⟨e',h1,-,-,h2⟩:=Zs7 (ρ':=ρ') (L':=L') hst hs hc hk ha (fun hld q xs p es u n hp x of hx=>by
   have hn:Zz ρ ρ' (Za2 xs):=fun t ht=>ha t (by simp[ZA,u,Yq,ht])
   obtain⟨cs,j⟩:=Zle m (by rw[W0 hn];exact n) hp x of hx
   rcases hl x with h|h
   ·exact h
   rw[h]at j;simp at j)
  rw[i _ h1]at h
  exact QB h2 hs h
end
theorem ZbI{a b:Option Nat}(h:ndd a b=true):ndd b a=true:=by
 cases a<;>cases b<;>simp only[ndd,bne_iff_ne,ne_eq]at h⊢
 exact fun h'=>h h'.symm
theorem Zbm{a b:Option Nat}(h:ndd a b=true){t:Nat}(ha:a=sO t):b≠sO t:=by
 subst ha
 cases b with
 |none=>simp
 |some u=>simp only[ndd,bne_iff_ne]at h;intro hb;simp only[ZEP]at hb;exact h hb.symm
theorem Ziz{d:Option Nat}{l:List Nat}(h:nd d l=true){t:Nat}(ht:d=sO t):t∉l:=by
 subst ht;simpa[nd]using h
theorem KO{e:E}{ns:List Nat}(h:nd dst ns=true):Zz ρ (Zt ρ dst e) ns:=by
 intro t ht
 cases dst with
 |none=>rfl
 |some u =>
  have:¬u=t:=fun hu=>Ziz h rfl (hu▸ht)
  simp[Zt,ZL,this]
theorem WJ(ρ:Env)(dst:Option Nat)(e:E)(t:Nat):ZL (Zt ρ dst e) t=if dst=sO t then sO e else ZL ρ t:=by
 cases dst with
 |none=>simp[Zt]
 |some u=>simp[Zt,ZL]
theorem Zzh{q:Q}{es:List E}{r:Prop×E}(hq:qv L s q es=sO r)(hl:Zch (.q q [])=true){x o:Nat}(hx:.loc x o∈es):∃cs,Zg L x=sO cs:=by
 cases q<;>simp[Zch]at hl
 ·match es with
  | [a] =>
   simp only[List.mem_singleton]at hx
   subst hx
   simp only[qv,Wr]at hq
   cases h:Zg L x with
   |none=>simp[h]at hq
   |some cs=>exact⟨cs,rfl⟩
  | []=>simp at hx
  |_::_::_=>simp[qv]at hq
 match es with
 | [a] =>
  simp only[List.mem_singleton]at hx
  subst hx
  simp only[qv,Ki]at hq
  cases h:Zg L x with
  |none=>simp[h]at hq
  |some cs=>exact⟨cs,rfl⟩
 | []=>simp at hx
 |_::_::_=>simp[qv]at hq
theorem Zhu{o:DOp}{ρ ρ':Env}{L L':Loc}{s s1:St}{ρ1:Env}{L1:Loc}(hst:ZB o ρ L s=.ok side ρ1 L1 s1)(hk:YH o.k=true)(ha:Zz ρ ρ' (ZA o))(hl:L'=L∨Zl ρ o.guard=sO true∧∀x,.loc x∈Y7 o ρ→Zg L' x=Zg L x):∃e,ρ1=Zt ρ o.dst e∧L1=L∧s1=s∧ZB o ρ' L' s=.ok side (Zt ρ' o.dst e) L' s:=by
 obtain⟨dst,gd,k⟩:=o
 have hg:=We (g:=gd) (fun t ht=>ha t (by simp[ZA,ht]))
 have hn:Zz ρ ρ' (Yq k):=fun t ht=>ha t (by simp[ZA,ht])
 unfold ZB at hst⊢
 simp only[hg]at hst⊢
 cases hc:Zl ρ gd with
 |none=>simp[hc]at hst
 |some c =>
 simp only[hc]at hst⊢
 cases k with
 |q q xs =>
  simp only at hst⊢
  rw[W0 hn]
  split at hst<;>(try(simp at hst;done))
  rename_i p es i
  try simp only[i]
  split at hst<;>(try(simp at hst;done))
  rename_i sd e hq
  have y:qv L' s q es=qv L s q es:=ZrV fun ae x of hx=>by
   rcases hl with rfl|⟨ab,hl⟩
   ·rfl
   obtain rfl:c=true:=by simpa[hc]using ab
   refine hl x ?_
   have ad:YY (.q q xs)=true:=by cases q<;>simp_all[Zch,YY]
   have j:es=[.loc x of]:=by
    have u:∃r,qv L s q es=sO r:=⟨_,hq⟩
    cases q<;>simp[Zch]at ae
    ·match es with
     | [a]=>simp only[List.mem_singleton]at hx;rw[hx]
     | []=>simp at hx
     |_::_::_=>simp[qv]at u
    match es with
    | [a]=>simp only[List.mem_singleton]at hx;rw[hx]
    | []=>simp at hx
    |_::_::_=>simp[qv]at u
   subst j
   simp only[Y7,ad,if_true,hc,i,KT,List.mem_singleton]
  simp only[y,hq]
  split at hst<;>(simp only[SR.ok.injEq]at hst;obtain⟨rfl,rfl,rfl,rfl⟩:=hst)
  ·exact⟨e,rfl,rfl,rfl,rfl⟩
  exact⟨_,rfl,rfl,rfl,rfl⟩
 |pick x a b =>
  simp only at hst⊢
  rw[ZkQ hn]
  split at hst<;>(try(simp at hst;done))
  rename_i p v hp
  try simp only[hp]
  split at hst<;>(simp only[SR.ok.injEq]at hst;obtain⟨rfl,rfl,rfl,rfl⟩:=hst)
  ·exact⟨_,rfl,rfl,rfl,rfl⟩
  exact⟨_,rfl,rfl,rfl,rfl⟩
 |bsl len n z is xs =>
  simp only at hst⊢
  rw[W0 hn]
  split at hst<;>(try(simp at hst;done))
  rename_i p es i
  try simp only[i]
  split at hst<;>(try(simp at hst;done))
  rename_i ds ac
  try simp only[ac]
  split at hst<;>(simp only[SR.ok.injEq]at hst;obtain⟨rfl,rfl,rfl,rfl⟩:=hst)
  ·exact⟨_,rfl,rfl,rfl,rfl⟩
  exact⟨_,rfl,rfl,rfl,rfl⟩
 |s2b x =>
  simp only at hst⊢
  rw[ZQ hn]
  split at hst<;>(try(simp at hst;done))
  rename_i p l hl
  try simp only[hl]
  split at hst<;>(simp only[SR.ok.injEq]at hst;obtain⟨rfl,rfl,rfl,rfl⟩:=hst)
  ·exact⟨_,rfl,rfl,rfl,rfl⟩
  exact⟨_,rfl,rfl,rfl,rfl⟩
 |_=>simp[YH]at hk
theorem WY.mono{o:DOp}{ρ ρ1:Env}{L L1:Loc}{B:List (Nat×Rd)}(h:WY o ρ L s B)(ha:Zz ρ ρ1 (ZA o))(hd:∀t,o.dst=sO t→ZL ρ1 t=ZL ρ t)(hl:∀x,.loc x∈Y7 o ρ→Zg L1 x=Zg L x)(hal:∀t,ZaC o t→Zg L1 t=Zg L t):WY o ρ1 L1 s B:=by
 rcases h with ⟨hk,c,i,side,e,hs,j,he⟩|⟨hk,e,hz,he⟩|⟨t,z,rfl,h1,h2⟩
 ·left
  obtain⟨e',h1,-,-,h2⟩:=Zhu j hk ha (.inr ⟨c,hl⟩)
  refine⟨hk,by rw[We fun t ht=>ha t (by simp[ZA,ht])];exact c,by rw[ZiR ha];exact i,side,e',hs,h2,fun t ht=>?_⟩
  rw[hd t ht,he t ht]
  rw[ht]at h1
  simp only[Zt,List.cons.injEq,ZE2,true_and,and_true]at h1
  rw[h1]
 ·exact .inr (.inl ⟨hk,e,hz.congr ha,fun t ht=>by rw[hd t ht,he t ht]⟩)
 right;right
 exact⟨t,z,rfl,by rw[hd t rfl];exact h1,by rw[hal t ⟨rfl,z,rfl⟩];exact h2⟩
theorem Zb8{o:DOp}{x:Nat}(h:ZaC o x):YH o.k=false:=by
 obtain⟨_,z,hz⟩:=h;rw[hz];rfl
section
variable {P:Program}
theorem ZoV{F:Fr P}{dk:List Zi}{T:Tab}{ms:List Nat}{A rest:List Nat}{l:Nat→Bool}{ρ':Env}{L':Loc}{B:List (Nat×Rd)}{p:Nat}(hm:ZhZ T ms)(inv:Inv T ms A rest ρ L s B l ρ' L')(hA:p∈A)(hdis:p∉rest)(hl:l p=false)(hdeps:∀d∈T.deps p,l d=true)(h:∀ρ2 L2,Inv T ms A rest ρ L s B (fun j=>j==p ||l j) ρ2 L2→DO F kp dk os ρ2 L2 s):DO F kp dk (T.op p::os) ρ' L' s:=by
 have ak:=inv.alt p hA
 have af:=hm l inv.closed p ak hdeps
 have aj:Zz ρ ρ' (ZA (T.op p)):=by
  intro t ht
  rcases inv.env t with h|⟨a,ha,c,y⟩
  ·exact h
  exfalso
  rcases inv.pair p hA a ha with hb|hb
  ·rw[af a hb]at c;simp at c
  exact Ziz hb y ht
 have ai:∀x,Zg L' x=Zg L x∨Zg L' x=nO:=fun x=>by
  rcases inv.loc x with h|⟨a,ha,c,hx⟩
  ·exact .inl h
  exact .inr (inv.loc0 a ha c x hx)
 have v:∀i,i<T.length→(i==p ||l i)=true→∀d∈T.deps i,(d==p ||l d)=true:=fun i hi hli d hd=>by
  simp only[ZFb,beq_iff_eq]at hli⊢
  rcases hli with rfl|hli
  ·exact .inr (hdeps d hd)
  exact .inr (inv.closed i hi hli d hd)
 have ac:∀r∈rest,(r==p ||l r)=false:=fun r hr=>by
  simp only[Bool.or_eq_false_iff,beq_eq_false_iff_ne]
  exact⟨fun h=>hdis (h▸hr),inv.restN r hr⟩
 have ad:∀i,i<T.length→i∉rest→i∉A→(i==p ||l i)=true:=fun i hi h1 h2=>by simp[inv.doneN i hi h1 h2]
 have ae:∀a,(a==p ||l a)=false→a≠p∧l a=false:=fun a ha=>by simpa using ha
 have ab:∀a,a≠p→l a=false→(a==p ||l a)=false:=fun a ha h=>by simp[ha,h]
 rcases inv.pend p hA hl with ⟨hk,hgt,hrd,side,e,hs,al,he⟩|⟨hk,e,hz,he⟩|⟨t,z,ho,h1,h2⟩
 rotate_left
 ·refine(hz.congr aj).run ?_
  refine h _ _ ?_
  refine⟨v,ac,ad,inv.alt,inv.pair,inv.uniq,fun t=>?_,fun a ha c x hx=>inv.loc0 a ha (ae a c).2 x hx,fun x=>?_,fun a ha c=>inv.pend a ha (ae a c).2⟩
  ·rw[WJ]
   by_cases hd:(T.op p).dst=sO t
   ·rw[if_pos hd];exact .inl (he t hd).symm
   rw[if_neg hd]
   rcases inv.env t with h|⟨a,ha,c,y⟩
   ·exact .inl h
   exact .inr ⟨a,ha,ab a (fun n=>hd (n▸y)) c,y⟩
  rcases inv.loc x with h|⟨a,ha,c,hx⟩
  ·exact .inl h
  refine .inr ⟨a,ha,ab a (fun n=>?_) c,hx⟩
  have:=Zb8 hx
  rw[n,hk]at this;simp at this
 rotate_left
 ·refine Ztd al hs hk aj ai (h _ _ ?_)
  refine⟨v,ac,ad,inv.alt,inv.pair,inv.uniq,fun t=>?_,fun a ha c x hx=>inv.loc0 a ha (ae a c).2 x hx,fun x=>?_,fun a ha c=>inv.pend a ha (ae a c).2⟩
  ·rw[WJ]
   by_cases hd:(T.op p).dst=sO t
   ·rw[if_pos hd];exact .inl (he t hd).symm
   rw[if_neg hd]
   rcases inv.env t with h|⟨a,ha,c,y⟩
   ·exact .inl h
   exact .inr ⟨a,ha,ab a (fun n=>hd (n▸y)) c,y⟩
  rcases inv.loc x with h|⟨a,ha,c,hx⟩
  ·exact .inl h
  refine .inr ⟨a,ha,ab a (fun n=>?_) c,hx⟩
  have:=Zb8 hx
  rw[n,hk]at this;simp at this
 have ao:ZaC (T.op p) t:=⟨by rw[ho],z,by rw[ho]⟩
 have ah:=inv.loc0 p hA hl t ao
 refine Zqk (o:=T.op p) (t:=t) (by rw[ho]) (by rw[ho]) (z:=z) (by rw[ho]) (by simp[Zak,ah]) (h _ _ ?_)
 have ag:(T.op p).dst=sO t:=by rw[ho]
 refine⟨v,ac,ad,inv.alt,inv.pair,inv.uniq,fun u=>?_,fun a ha c x hx=>?_,fun x=>?_,fun a ha c=>inv.pend a ha (ae a c).2⟩
 ·simp only[ZL]
  by_cases hd:t=u
  ·subst hd;simp[h1]
  simp only[hd,if_false]
  rcases inv.env u with h|⟨a,ha,c,y⟩
  ·exact .inl h
  exact .inr ⟨a,ha,ab a (fun n=>hd (by rw[n,ag]at y;simpa using y)) c,y⟩
 ·obtain⟨n,c⟩:=ae a c
  have:¬t=x:=fun am=>Zbm (inv.uniq p hA a ha n.symm) ag (am▸hx.1)
  simp only[Zg,this,if_false]
  exact inv.loc0 a ha c x hx
 simp only[Zg]
 by_cases hd:t=x
 ·subst hd;simp[h2]
 simp only[hd,if_false]
 rcases inv.loc x with h|⟨a,ha,c,hx⟩
 ·exact .inl h
 exact .inr ⟨a,ha,ab a (fun n=>hd (by have:=hx.1;rw[n,ag]at this;simpa using this)) c,hx⟩
theorem ZuZ{F:Fr P}{dk:List Zi}{T:Tab}{ms:List Nat}{A rest:List Nat}{B:List (Nat×Rd)}{i:Nat}(hm:ZhZ T ms)(hi:i<T.length)(hdis:∀p∈A,p∉i::rest)(hready:∀r∈rest,∃d∈T.deps r,d∈i::rest)(cb:∀l ρ' L' is,Inv T ms A (i::rest) ρ L s B l ρ' L'→(∀d∈T.deps i,l d=true)→Sch T (fun j=>j==i ||l j) is→DO F kp dk (T.op i::is.map T.op) ρ' L' s){l:Nat→Bool}{is:List Nat}(sch:Sch T l is):∀{ρ':Env} {L':Loc},Inv T ms A (i::rest) ρ L s B l ρ' L'→DO F kp dk (is.map T.op) ρ' L' s:=by
 induction sch with
 |nil h=>intro ρ' L' inv;have:=inv.restN i (by simp);rw[h i hi]at this;simp at this
 | @cons l p is hp hlp hd t ih =>
  intro ρ' L' inv
  by_cases n:p=i
  ·subst n;exact cb l ρ' L' is inv hd t
  by_cases u:p∈rest
  ·obtain⟨d,y,v⟩:=hready p u
   have:=inv.restN d v
   rw[hd d y]at this;simp at this
  by_cases c:p∈A
  ·exact ZoV hm inv c (hdis p c) hlp hd fun ρ2 L2 inv2=>ih inv2
  have:=inv.doneN p hp (by simp[n,u]) c
  rw[hlp]at this;simp at this
theorem ZkZ{L L':Loc}(h:∀x,Zg L' x=Zg L x):∀ls,Zax L' ls=Zax L ls
 | []=>rfl
 |l::ls=>by simp only[Zax,h l,ZkZ h ls]
theorem ZkI{ρ ρ':Env}(h:∀x,ZL ρ' x=ZL ρ x):∀ks,Yp ρ' ks=Yp ρ ks
 | []=>rfl
 |k::ks=>by simp only[Yp,h k,ZkI h ks]
theorem ZwB{F:Fr P}{ks:List Nat}{dk:List Zi}{T:Tab}{ms:List Nat}{A:List Nat}{B:List (Nat×Rd)}(hm:ZhZ T ms)(h:Zu F dk (Yp ρ ks) (ZaY (Yp ρ ks) L) s){l:Nat→Bool}{is:List Nat}(sch:Sch T l is):∀{ρ':Env} {L':Loc},Inv T ms A [] ρ L s B l ρ' L'→DO F (sO ks) dk (is.map T.op) ρ' L' s:=by
 induction sch with
 |nil hall =>
  intro ρ' L' inv
  have h1:∀t,ZL ρ' t=ZL ρ t:=fun t=>by
   rcases inv.env t with h|⟨a,ha,c,_⟩
   ·exact h
   rw[hall a (inv.alt a ha)]at c;simp at c
  have h2:∀t,Zg L' t=Zg L t:=fun t=>by
   rcases inv.loc t with h|⟨a,ha,c,_⟩
   ·exact h
   rw[hall a (inv.alt a ha)]at c;simp at c
  refine Zei ?_
  show Zu F dk (Yp ρ' ks) (ZaY (Yp ρ' ks) L') s
  rw[ZkI h1]
  simp only[ZaY,ZkZ h2]
  exact h
 | @cons l p is hp hlp hd t ih =>
  intro ρ' L' inv
  by_cases i:p∈A
  ·exact ZoV hm inv i (by simp) hlp hd fun ρ2 L2 inv2=>ih inv2
  have:=inv.doneN p hp (by simp) i
  rw[hlp]at this;simp at this
def DOA(F:Fr P)(kp:Option (List Nat))(dk:List Zi)(os:List (DOp×List Nat))(ρ:Env)(L:Loc)(s:St)(B:List (Nat×Rd)):Prop :=
 ∀(T:Tab) ms fl (fk:Option Nat) A rest is l ρ' L',ZhZ T ms→Zdk T ms fl fk A rest=true→(∀p∈A,p∉rest)→os=rest.map (fun i=>(T.mk fk i,fl i))→Inv T ms A rest ρ L s B l ρ' L'→Sch T l is→DO F kp dk (is.map T.op) ρ' L' s
theorem ZnC{F:Fr P}{ks:List Nat}{dk:List Zi}{B:List (Nat×Rd)}(h:Zu F dk (Yp ρ ks) (ZaY (Yp ρ ks) L) s):DOA F (sO ks) dk [] ρ L s B:=by
 intro T ms fl fk A rest is l ρ' L' hm hc hdis i inv c
 have hr:rest=[]:=by cases rest<;>simp at i⊢
 subst hr
 exact ZwB hm h c inv
theorem ZkY{o:DOp}{s s1:St}{ρ1:Env}{L1:Loc}(hst:ZB o ρ L s=.ok side ρ1 L1 s1)(hk:YH o.k=true):∃e,ρ1=Zt ρ o.dst e∧L1=L∧s1=s:=by
 obtain⟨e,h1,h2,h3,_⟩:=Zhu (ρ':=ρ) (L':=L) hst hk (fun _ _=>rfl) (.inl rfl)
 exact⟨e,h1,h2,h3⟩
theorem Zs6{o:DOp}{s s1:St}{ρ1:Env}{L1:Loc}{z:List D}(hst:ZB o ρ L s=.ok side ρ1 L1 s1)(hk:o.k=.alloc z):∃t,o=⟨sO t,nO,.alloc z⟩∧side=(Zak L t=false)∧ρ1=(t,.loc t 0)::ρ∧L1=(t,z)::L∧s1=s:=by
 obtain⟨dst,gd,k⟩:=o
 simp only at hk
 subst hk
 unfold ZB at hst
 cases hg:Zl ρ gd with
 |none=>simp[hg]at hst
 |some c =>
  simp only[hg]at hst
  split at hst<;>simp only[SR.ok.injEq,reduceCtorEq]at hst
  rename_i t
  obtain⟨rfl,rfl,rfl,rfl⟩:=hst
  exact⟨t,rfl,rfl,rfl,rfl,rfl⟩
theorem Zn2{T:Tab}{fk:Option Nat}{i:Nat}{o:DOp}(h:T.mk fk i=o)(hk:∀k,o.k≠.fork k):fk≠sO i∧T.op i=o:=by
 unfold Tab.mk at h
 split at h
 ·subst h;exact absurd rfl (hk _)
 exact⟨‹_›,h⟩
theorem Zli{T:Tab}{ms:List Nat}{fl:Nat→List Nat}{A rest:List Nat}{fk:Option Nat}{i:Nat}(hfk:fk≠sO i)(h:Zdk T ms fl fk A (i::rest)=true):
  i<T.length∧(∀d∈T.deps i,d∉i::rest)∧i∉rest∧(∀a∈A,(ms.getD i 0).testBit a=true∨nd (T.op a).dst (ZA (T.op i))=true) ∧
  ((ZcF T A i=true∧Zdk T ms fl fk (i::A) rest=true) ∨
   (Zh9 T (fl i) (A.filter fun a=>!(ms.getD i 0).testBit a) rest i=true∧Zdk T ms fl fk (A.filter fun a=>!(ms.getD i 0).testBit a) rest=true∧ZcF T A i=false)):=by
 simp only[Zdk,hfk,if_false,ZEY,decide_eq_true_eq,List.all_eq_true,Bool.not_eq_true',List.contains_eq_mem,decide_eq_false_iff_not]at h
 obtain⟨⟨⟨⟨h1,h2⟩,h3⟩,h4⟩,h5⟩:=h
 refine⟨h1,h2,h3,fun a ha=>?_,?_⟩
 ·cases hb:(ms.getD i 0).testBit a
  ·exact .inr (h4 a (List.mem_filter.2 ⟨ha,by simp only[hb];rfl⟩))
  exact .inl rfl
 split at h5
 ·rename_i hp;exact .inl ⟨hp,h5⟩
 rename_i hp;simp only[ZEY]at h5;exact .inr ⟨by simpa using h5.1,h5.2,by simpa using hp⟩
theorem ZfH{T:Tab}{fl:List Nat}{free rest:List Nat}{i:Nat}(h:Zh9 T fl free rest i=true):
  Zud (T.op i).k=true∧(∀r∈rest,∃d∈T.deps r,d∈i::rest) ∧
  ∀a∈free,nd (T.op i).dst (ZA (T.op a))=true∧ndd (T.op i).dst (T.op a).dst=true∧(Zal (ZbM (T.op a)) fl=false→YY (T.op a).k=false):=by
 simp only[Zh9,ZEY,List.all_eq_true,List.any_eq_true,List.contains_eq_mem,decide_eq_true_eq,Bool.not_eq_true',ZFb]at h
 obtain⟨⟨h1,h2⟩,h3⟩:=h
 refine⟨h1,h2,fun a ha=>?_⟩
 obtain⟨⟨h4,h5⟩,h6⟩:=h3 a ha
 refine⟨h4,h5,fun hs=>?_⟩
 rw[hs]at h6;simpa using h6
theorem Zeq{T:Tab}{A:List Nat}{i:Nat}(h:ZcF T A i=true):
  Y5 (T.op i).k=true∧nd (T.op i).dst (ZA (T.op i))=true∧∀a∈A,nd (T.op i).dst (ZA (T.op a))=true∧ndd (T.op i).dst (T.op a).dst=true:=by
 simp only[ZcF,ZEY,List.all_eq_true]at h
 exact⟨by cases hk:(T.op i).k<;>rw[hk]at h<;>simp[pqK]at h<;>rfl,h.1.2,h.2⟩
theorem Inv.bar{T:Tab}{ms A rest:List Nat}{s s2:St}{B B2:List (Nat×Rd)}{l:Nat→Bool}{ρ':Env}{L':Loc}{i:Nat}(hm:ZhZ T ms)(inv:Inv T ms A (i::rest) ρ L s B l ρ' L')(hdis:∀p∈A,p∉i::rest)(hi:i<T.length)(hir:i∉rest)(hd:∀d∈T.deps i,l d=true)(hf:∀a∈A.filter (fun a=>!(ms.getD i 0).testBit a),nd (T.op i).dst (ZA (T.op a))=true∧ndd (T.op i).dst (T.op a).dst=true)(e:E){L2 L2':Loc}(hL:∀x,Zg L' x=Zg L x→Zg L2' x=Zg L2 x)(h0:∀x,(∀a,ndd (T.op i).dst (T.op a).dst=true→ZaC (T.op a) x→Zg L' x=nO→Zg L2' x=nO))(hp:∀a∈A.filter (fun a=>!(ms.getD i 0).testBit a),l a=false→WY (T.op a) ρ L s B→WY (T.op a) (Zt ρ (T.op i).dst e) L2 s2 B2):
  Inv T ms (A.filter fun a=>!(ms.getD i 0).testBit a) rest (Zt ρ (T.op i).dst e) L2 s2 B2 (fun j=>j==i ||l j) (Zt ρ' (T.op i).dst e) L2':=by
 have v:=hm l inv.closed i hi hd
 have u:∀a∈A,l a=false→a∈A.filter fun a=>!(ms.getD i 0).testBit a:=fun a ha c=>by
  refine List.mem_filter.2 ⟨ha,?_⟩
  cases hb:(ms.getD i 0).testBit a
  ·rfl
  rw[v a hb]at c;simp at c
 have n:∀a∈A.filter (fun a=>!(ms.getD i 0).testBit a),a∈A:=fun a ha=>(List.mem_filter.1 ha).1
 have z:∀a,(a==i ||l a)=false→a≠i∧l a=false:=fun a ha=>by simpa using ha
 have y:∀a∈A,l a=false→(a==i ||l a)=false:=fun a ha h=>by
  have:a≠i:=fun ag=>hdis a ha (by simp[ag])
  simp[this,h]
 refine⟨fun j hj hlj d ac=>?_,fun r hr=>?_,fun j hj h1 h2=>?_,fun a ha=>inv.alt a (n a ha),fun p ab a ha=>inv.pair p (n p ab) a (n a ha),fun p ab a ha=>inv.uniq p (n p ab) a (n a ha),fun t=>?_,fun a ha c x hx=>?_,
  fun x=>?_,fun a ha c=>hp a ha (z a c).2 (inv.pend a (n a ha) (z a c).2)⟩
 ·simp only[ZFb,beq_iff_eq]at hlj⊢
  rcases hlj with rfl|hlj
  ·exact .inr (hd d ac)
  exact .inr (inv.closed j hj hlj d ac)
 ·simp only[Bool.or_eq_false_iff,beq_eq_false_iff_ne]
  exact⟨fun h=>hir (h▸hr),inv.restN r (by simp[hr])⟩
 ·by_cases ad:j=i
  ·simp[ad]
  by_cases ae:j∈A
  ·cases hlj:l j
   ·exact absurd (u j ae hlj) h2
   simp
  simp[inv.doneN j hj (by simp[ad,h1]) ae]
 ·rw[WJ,WJ]
  by_cases ht:(T.op i).dst=sO t
  ·simp[ht]
  simp only[ht,if_false]
  rcases inv.env t with h|⟨a,ha,c,af⟩
  ·exact .inl h
  exact .inr ⟨a,u a ha c,y a ha c,af⟩
 ·exact h0 x a (hf a ha).2 hx (inv.loc0 a (n a ha) (z a c).2 x hx)
 rcases inv.loc x with h|⟨a,ha,c,hx⟩
 ·exact .inl (hL x h)
 exact .inr ⟨a,u a ha c,y a ha c,hx⟩
theorem WY.keep{o:DOp}{L L2:Loc}{s s2:St}{B:List (Nat×Rd)}{fl:List Nat}(h:WY o ρ L s B)(hk:Wg fl s s2 L L2 B)(hf:Zal (ZbM o) fl=false→YY o.k=false)(hal:∀t,ZaC o t→Zg L2 t=Zg L t):WY o ρ L2 s2 (YX fl B):=by
 cases i:Zal (ZbM o) fl
 ·have hr:=ZkR (ρ:=ρ) (hf i)
  exact((h.state (s':=s2) (fun b hb=>by rw[hr]at hb;simp at hb)).more (fun b hb=>by rw[hr]at hb;simp at hb)).mono (fun _ _=>rfl) (fun _ _=>rfl) (fun x hx=>by rw[hr]at hx;simp at hx) hal
 have hm:=Zha (show KS s s2 L L2 (YX fl B) from hk)
 have c:∀b,(ZbM o,b)∈B→(ZbM o,b)∈YX fl B:=fun b hb=>Qz.2 ⟨i,hb⟩
 rcases h with ⟨hq,hg,hr,h'⟩|⟨hq,hg,h'⟩|h'
 ·exact((WY.state (s':=s2) (.inl ⟨hq,hg,hr,h'⟩) (fun b hb=>hm.1 _ b (c _ (hr _ hb)))).more (B':=YX fl B) (fun b _ hb=>c b hb)).mono (fun _ _=>rfl) (fun _ _=>rfl) (fun x hx=>hm.2 _ x (c _ (hr _ hx))) hal
 ·exact .inr (.inl ⟨hq,hg,h'⟩)
 exact(WY.more (B':=YX fl B) (s:=s2) (.inr (.inr h'):WY o ρ L s2 B) (fun b _ hb=>c b hb)).mono (fun _ _=>rfl) (fun _ _=>rfl) (fun x hx=>by
  obtain⟨t,z,rfl,_⟩:=h'
  simp[Y7]at hx) hal
theorem ZAh{q:Q}{es:List E}{r:Prop×E}(hq:qv L s q es=sO r){e:E}{es':List E}(he:es=e::es')(hr:YY (.q q [])=true){x:Nat}(hx:.loc x∈KT e):∃cs,Zg L x=sO cs:=by
 subst he
 cases e with
 |d v=>cases v<;>simp[KT]at hx
 |when c e=>simp[KT]at hx
 |loc l o =>
  simp only[KT,List.mem_singleton,Rd.loc.injEq]at hx
  subst hx
  by_cases hl:Zch (.q q [])=true
  ·exact Zzh hq hl (x:=x) (o:=o) (by simp)
  cases q
  case conv c =>
   cases c<;>simp[YY]at hr
   cases es'<;>simp[qv]at hq
  all_goals simp[YY,Zch]at hr hl
  ·cases es' with
   |nil=>simp[qv]at hq
   |cons e2 r2=>cases r2<;>simp[qv]at hq
  cases es'<;>simp[qv]at hq
theorem WY.loc{o:DOp}{B:List (Nat×Rd)}(h:WY o ρ L s B){x:Nat}(hx:.loc x∈Y7 o ρ):∃cs,Zg L x=sO cs:=by
 rcases h with ⟨hk,j,hr,side,e,hs,i,he⟩|⟨hk,_,n,_⟩|⟨t,z,rfl,_⟩
 rotate_left
 ·rw[n.reads]at hx;simp at hx
 rotate_left
 ·obtain⟨dst,gd,k⟩:=o
  cases k with
  |q q xs =>
   simp only[Y7]at hx
   split at hx<;>(try(simp at hx;done))
   rename_i hrd
   unfold ZB at i
   have hg:Zl ρ gd=sO true:=j
   simp only[hg]at hx i
   cases ha:Yd ρ true xs with
   |none=>simp[ha]at hx
   |some pe =>
    obtain⟨p,es⟩:=pe
    simp only[ha]at hx i
    cases es with
    |nil=>simp at hx
    |cons e1 es' =>
     simp only at hx
     split at i<;>(try(simp at i;done))
     rename_i sd e2 hq
     exact ZAh hq rfl (by
      cases q
      case conv c=>cases c<;>simp_all[YY]
      all_goals simp_all[YY]) hx
  |_=>simp[Y7]at hx
 simp[Y7]at hx
theorem ZcB{F:Fr P}{dk:List Zi}{o:DOp}{f:List Nat}{os:List (DOp×List Nat)}{B:List (Nat×Rd)}(R:E→St→Prop)(hk:Y5 o.k=false)(h1:∀ρ' L' os',Zz ρ ρ' (ZA o)→(∀e s2,R e s2→DO F kp dk os' (Zt ρ' o.dst e) L' s2)→DO F kp dk (o::os') ρ' L' s)(h2:∀e s2,R e s2→Wg f s s2 L L B∧DOA F kp dk os (Zt ρ o.dst e) L s2 (YX f B)):
  DOA F kp dk ((o,f)::os) ρ L s B:=by
 intro T ms fl fk A rest is l ρ' L' hm hc n y inv v
 cases rest with
 |nil=>simp at y
 |cons i rest =>
  simp only[ZE7,List.cons.injEq,ZE2]at y
  obtain⟨⟨ho,rfl⟩,rfl⟩:=y
  obtain⟨ak,rfl⟩:=Zn2 ho.symm (fun k h=>by rw[h]at hk;simp[Y5]at hk)
  obtain⟨hi,hdeps,ai,ab,ah⟩:=Zli ak hc
  rcases ah with ⟨hp,_⟩|⟨hb,ag,_⟩
  ·have:=(Zeq hp).1;rw[hk]at this;simp at this
  obtain⟨hbk,u,c⟩:=ZfH hb
  refine ZuZ hm hi n u (fun l ρ' L' is inv hd v=>?_) v inv
  have j:=hm l inv.closed i hi hd
  have aj:Zz ρ ρ' (ZA (T.op i)):=by
   intro t ht
   rcases inv.env t with h|⟨a,ha,z,al⟩
   ·exact h
   exfalso
   rcases ab a ha with hb|hb
   ·rw[j a hb]at z;simp at z
   exact Ziz hb al ht
  refine h1 ρ' L' _ aj fun e s2 hR=>?_
  obtain⟨ae,ad⟩:=h2 e s2 hR
  refine ad T ms fl fk _ rest is _ _ _ hm ag (fun p hp af=>n p (List.mem_filter.1 hp).1 (by simp[af])) rfl (inv.bar hm n hi ai hd (fun a ha=>⟨(c a ha).1,(c a ha).2.1⟩) e (fun _ h=>h) (fun _ _ _ _ h=>h) fun a ha z ac=>?_) v
  refine(ac.keep ae (c a ha).2.2 (fun _ _=>rfl)).mono (KO (c a ha).1) (fun t ht=>?_) (fun _ _=>rfl) (fun _ _=>rfl)
  rw[WJ]
  have:=Zbm (ZbI (c a ha).2.1) ht
  simp[this]
end
theorem Zjp{s s1:St}{p q ok side:Prop}{a:E}{n:Nat}{xs:List D}{ρ1:Env}{L1:Loc}(h:KZ ρ L s p q ok a n xs=.ok side ρ1 L1 s1):
  ρ1=ρ∧((∃l off cs,a=.loc l off∧L1=(l,ZE cs off xs)::L∧s1=s∧Zg L l=sO cs∧∀ρ' L',Zg L' l=Zg L l→KZ ρ' L' s p q ok a n xs=.ok side ρ' ((l,ZE cs off xs)::L') s) ∨
   (L1=L∧∀ρ' L',KZ ρ' L' s p q ok a n xs=.ok side ρ' L' s1)):=by
 obtain⟨rfl,⟨l,off,cs,rfl,hL,rfl,rfl,rfl⟩|⟨b,off,cs,rfl,hL,rfl,rfl,rfl⟩⟩:=Zfy h
 ·exact⟨rfl,.inl ⟨l,off,cs,rfl,rfl,rfl,hL,fun ρ' L' hl=>by simp only[KZ,hl,hL]⟩⟩
 exact⟨rfl,.inr ⟨rfl,fun ρ' L'=>by simp only[KZ,hL]⟩⟩
theorem Zs9{o:DOp}{s s1:St}{ρ1:Env}{L1:Loc}(hst:ZB o ρ L s=.ok side ρ1 L1 s1)(hk:ZdC o.k=true):
  ρ1=ρ∧o.dst=nO∧((∃lx cs new,L1=(lx,new)::L∧s1=s∧Zg L lx=sO cs ∧
   ∀ρ' L',Zz ρ ρ' (ZA o)→Zg L' lx=Zg L lx→ZB o ρ' L' s=.ok side ρ' ((lx,new)::L') s) ∨
   (L1=L∧∀ρ' L',Zz ρ ρ' (ZA o)→ZB o ρ' L' s=.ok side ρ' L' s1)):=by
 obtain⟨dst,gd,k⟩:=o
 cases hg:Zl ρ gd with
 |none=>unfold ZB at hst;simp[hg]at hst
 |some c =>
 cases k with
 |store1 a v =>
  unfold ZB at hst
  simp only[hg]at hst
  split at hst<;>(try(simp at hst;done))
  rename_i p ea q x ha hv
  obtain⟨rfl,⟨l,off,cs,rfl,rfl,rfl,hL,i⟩|⟨rfl,i⟩⟩:=Zjp hst
  ·refine⟨rfl,rfl,.inl ⟨l,cs,_,rfl,rfl,hL,fun ρ' L' j hl=>?_⟩⟩
   have h1:Zz ρ1 ρ' (ZR a):=fun t ht=>j t (by simp[ZA,Yq,ht])
   have h2:Zz ρ1 ρ' (ZR v):=fun t ht=>j t (by simp[ZA,Yq,ht])
   unfold ZB
   simp only[Zl,ZQ h1,ZQ h2,ha,hv]
   exact i ρ' L' hl
  refine⟨rfl,rfl,.inr ⟨rfl,fun ρ' L' j=>?_⟩⟩
  have h1:Zz ρ1 ρ' (ZR a):=fun t ht=>j t (by simp[ZA,Yq,ht])
  have h2:Zz ρ1 ρ' (ZR v):=fun t ht=>j t (by simp[ZA,Yq,ht])
  unfold ZB
  simp only[Zl,ZQ h1,ZQ h2,ha,hv]
  exact i ρ' L'
 |storeN n a v =>
  unfold ZB at hst
  simp only[hg]at hst
  split at hst<;>(try(simp at hst;done))
  rename_i p ea q xs ha hv
  obtain⟨rfl,⟨l,off,cs,rfl,rfl,rfl,hL,i⟩|⟨rfl,i⟩⟩:=Zjp hst
  ·refine⟨rfl,rfl,.inl ⟨l,cs,_,rfl,rfl,hL,fun ρ' L' j hl=>?_⟩⟩
   have h1:Zz ρ1 ρ' (ZR a):=fun t ht=>j t (by simp[ZA,Yq,ht])
   have h2:Zz ρ1 ρ' (ZR v):=fun t ht=>j t (by simp[ZA,Yq,ht])
   unfold ZB
   simp only[Zl,ZQ h1,ZQ h2,ha,hv]
   exact i ρ' L' hl
  refine⟨rfl,rfl,.inr ⟨rfl,fun ρ' L' j=>?_⟩⟩
  have h1:Zz ρ1 ρ' (ZR a):=fun t ht=>j t (by simp[ZA,Yq,ht])
  have h2:Zz ρ1 ρ' (ZR v):=fun t ht=>j t (by simp[ZA,Yq,ht])
  unfold ZB
  simp only[Zl,ZQ h1,ZQ h2,ha,hv]
  exact i ρ' L'
 |_=>simp[ZdC]at hk
def ZrB:K→Bool
 |.mapupd _ _ _ _|.delete _ _ _|.entst _ _ _=>true
 |_=>false
theorem ZwO{o:DOp}{s s1:St}{ρ1:Env}{L1:Loc}(hst:ZB o ρ L s=.ok side ρ1 L1 s1)(hk:ZrB o.k=true):
  ρ1=ρ∧o.dst=nO∧L1=L∧∀ρ' L',Zz ρ ρ' (ZA o)→ZB o ρ' L' s=.ok side ρ' L' s1:=by
 obtain⟨dst,gd,k⟩:=o
 cases hg:Zl ρ gd with
 |none=>unfold ZB at hst;simp[hg]at hst
 |some c =>
 cases k with
 |mapupd kp m k v =>
  unfold ZB at hst
  simp only[hg]at hst
  split at hst<;>(try(simp at hst;done))
  rename_i p b q dk r dv hm u hv
  split at hst<;>(try(simp at hst;done))
  rename_i es y
  split at hst<;>simp only[SR.ok.injEq,reduceCtorEq]at hst
  rename_i z j
  obtain⟨rfl,rfl,rfl,rfl⟩:=hst
  refine⟨rfl,rfl,rfl,fun ρ' L' i=>?_⟩
  have h1:Zz ρ ρ' (ZR m):=fun t ht=>i t (by simp[ZA,Yq,ht])
  have h2:Zz ρ ρ' (ZR k):=fun t ht=>i t (by simp[ZA,Yq,ht])
  have h3:Zz ρ ρ' (ZR v):=fun t ht=>i t (by simp[ZA,Yq,ht])
  unfold ZB
  simp only[Zl,ZQ h1,ZQ h2,ZQ h3,hm,u,hv,y,j]
 |delete kp m k =>
  unfold ZB at hst
  simp only[hg]at hst
  split at hst<;>(try(simp at hst;done))
  rename_i p b q dk hm u
  split at hst<;>(try(simp at hst;done))
  rename_i es y
  split at hst<;>simp only[SR.ok.injEq,reduceCtorEq]at hst
  rename_i z j
  obtain⟨rfl,rfl,rfl,rfl⟩:=hst
  refine⟨rfl,rfl,rfl,fun ρ' L' i=>?_⟩
  have h1:Zz ρ ρ' (ZR m):=fun t ht=>i t (by simp[ZA,Yq,ht])
  have h2:Zz ρ ρ' (ZR k):=fun t ht=>i t (by simp[ZA,Yq,ht])
  unfold ZB
  simp only[Zl,ZQ h1,ZQ h2,hm,u,y,j]
 |entst m k v =>
  unfold ZB at hst
  simp only[hg]at hst
  split at hst<;>(try(simp at hst;done))
  rename_i p b q n r dv hm u hv
  split at hst<;>(try(simp at hst;done))
  rename_i kp es dk n' y
  split at hst<;>simp only[SR.ok.injEq,reduceCtorEq]at hst
  rename_i z j
  obtain⟨rfl,rfl,rfl,rfl⟩:=hst
  refine⟨rfl,rfl,rfl,fun ρ' L' i=>?_⟩
  have h1:Zz ρ ρ' (ZR m):=fun t ht=>i t (by simp[ZA,Yq,ht])
  have h2:Zz ρ ρ' (ZR k):=fun t ht=>i t (by simp[ZA,Yq,ht])
  have h3:Zz ρ ρ' (ZR v):=fun t ht=>i t (by simp[ZA,Yq,ht])
  unfold ZB
  simp only[Zl,ZQ h1,ZQ h2,ZQ h3,hm,u,hv,y,j]
 |_=>simp[ZrB]at hk
theorem ZwM{o:DOp}{pre:Nat→Prop}{ρf:Nat→Env}{sf:Nat→St}(hst:ZB o ρ L s=.all side pre ρf sf):
  Y5 o.k=false∧∃(t:Nat) (ef:Nat→E),o.dst=sO t∧(ρf=fun b=>(t,ef b)::ρ)∧∀ρ' L',Zz ρ ρ' (ZA o)→ZB o ρ' L' s=.all side pre (fun b=>(t,ef b)::ρ') sf:=by
 obtain⟨dst,gd,k⟩:=o
 cases hg:Zl ρ gd with
 |none=>unfold ZB at hst;simp[hg]at hst
 |some c =>
 cases k with
 |mkmap =>
  unfold ZB at hst
  simp only[hg]at hst
  split at hst<;>simp only[SR.all.injEq,reduceCtorEq]at hst
  obtain⟨rfl,rfl,rfl,rfl⟩:=hst
  refine⟨rfl,_,fun b=>.d (.map b),rfl,rfl,fun ρ' L' i=>?_⟩
  unfold ZB
  simp only[Zl]
 |mkslice e n by_ z l c =>
  unfold ZB at hst
  simp only[hg]at hst
  split at hst<;>simp only[SR.all.injEq,reduceCtorEq]at hst
  rename_i t p k1 lv q k2 hv hl hc
  obtain⟨rfl,rfl,rfl,rfl⟩:=hst
  refine⟨rfl,t,fun b=>.d (.msl b 0 lv.toNat hv.toNat n),rfl,rfl,fun ρ' L' i=>?_⟩
  have h1:Zz ρ ρ' (ZR l):=fun t ht=>i t (by simp[ZA,Yq,ht])
  have h2:Zz ρ ρ' (ZR c):=fun t ht=>i t (by simp[ZA,Yq,ht])
  unfold ZB
  simp only[Zl,ZQ h1,ZQ h2,hl,hc]
 |mapent kp z m k =>
  unfold ZB at hst
  simp only[hg]at hst
  split at hst<;>(try(simp at hst;done))
  rename_i t p b q dk hm j
  split at hst<;>(try(simp at hst;done))
  rename_i es u
  split at hst<;>simp only[SR.all.injEq,reduceCtorEq]at hst
  rename_i v hv
  obtain⟨rfl,rfl,rfl,rfl⟩:=hst
  refine⟨rfl,t,fun n=>.d (.tup [v,.stamp n]),rfl,rfl,fun ρ' L' i=>?_⟩
  have h1:Zz ρ ρ' (ZR m):=fun t ht=>i t (by simp[ZA,Yq,ht])
  have h2:Zz ρ ρ' (ZR k):=fun t ht=>i t (by simp[ZA,Yq,ht])
  unfold ZB
  simp only[Zl,ZQ h1,ZQ h2,hm,j,u,hv]
 |store1 a v =>
  unfold ZB at hst
  simp only[hg]at hst
  split at hst<;>(try(simp at hst;done))
  exact absurd hst Zea
 |storeN n a v =>
  unfold ZB at hst
  simp only[hg]at hst
  split at hst<;>(try(simp at hst;done))
  exact absurd hst Zea
 |_ =>
  unfold ZB at hst
  simp only[hg]at hst
  first
   | (simp at hst;done)
   |repeat' (split at hst<;>(try(simp at hst;done)))
theorem Zvh{o:DOp}{s s1:St}{ρ1:Env}{L1:Loc}(hst:ZB o ρ L s=.ok side ρ1 L1 s1):YH o.k=true∨(∃z,o.k=.alloc z)∨ZdC o.k=true∨(∃x,o.k=.box x)∨ZrB o.k=true:=by
 obtain⟨dst,gd,k⟩:=o
 unfold ZB at hst
 cases hg:Zl ρ gd with
 |none=>simp[hg]at hst
 |some c =>
  simp only[hg]at hst
  cases k with
  |q q xs=>exact .inl rfl
  |pick x a b=>exact .inl rfl
  |bsl len n z is xs=>exact .inl rfl
  |s2b x=>exact .inl rfl
  |alloc z=>exact .inr (.inl ⟨z,rfl⟩)
  |store1 a v=>exact .inr (.inr (.inl rfl))
  |storeN n a v=>exact .inr (.inr (.inl rfl))
  |box x=>exact .inr (.inr (.inr (.inl ⟨x,rfl⟩)))
  |mapupd kp m k v=>exact .inr (.inr (.inr (.inr rfl)))
  |delete kp m k=>exact .inr (.inr (.inr (.inr rfl)))
  |entst m k v=>exact .inr (.inr (.inr (.inr rfl)))
  |mkmap=>simp only at hst;split at hst<;>simp at hst
  |mkslice e n by_ z l c=>simp only at hst;split at hst<;>simp at hst
  |mapent kp z m k =>
   simp only at hst
   split at hst<;>(try(simp at hst;done))
   split at hst<;>(try(simp at hst;done))
   split at hst<;>simp at hst
  |call f xs=>simp at hst
  |append e n by_ z x y=>simp at hst
  |panic x=>simp at hst
  |defer f xs=>simp at hst
  |recover=>simp at hst
  |clear n z x=>simp at hst
  |copy n x y=>simp at hst
  |fork k=>simp at hst
section
variable {P:Program}
theorem ZwQ{o:DOp}{L L':Loc}{ρ1:Env}{lx:Nat}{new:List D}(hst:ZB o ρ L s=.ok side ρ1 ((lx,new)::L) s)(hk:ZdC o.k=true)(hs:side)(m:Zr g ν w tmps ρ L' s):∃cs,Zg L' lx=sO cs:=by
 have i:∀{p q ok:Prop} {a:Opd} {ea:E} {n:Nat} {xs:List D},ZC ρ true a=sO (p,ea)→KZ ρ L s p q ok ea n xs=.ok side ρ1 ((lx,new)::L) s→∃cs,Zg L' lx=sO cs:=by
  intro p q ok a ea n xs ha h
  obtain⟨rfl,⟨l,off,cs,rfl,hL,rfl,h1,h2⟩|⟨b,off,cs,rfl,hL,rfl,h1,h2⟩⟩:=Zfy h
  ·simp only[List.cons.injEq,ZE2,and_true]at h1
   obtain⟨rfl,rfl⟩:=h1
   exact Zle m (xs:=[a]) (p:=p∧True) (es:=[.loc lx off]) (by simp[Yd,ha]) ⟨hs.1,trivial⟩ lx off (by simp)
  exact absurd (congrArg List.length h1) (by simp)
 obtain⟨dst,gd,k⟩:=o
 cases hg:Zl ρ gd with
 |none=>unfold ZB at hst;simp[hg]at hst
 |some c =>
 cases k with
 |store1 a v =>
  unfold ZB at hst
  simp only[hg]at hst
  split at hst<;>(try(simp at hst;done))
  rename_i p ea q x ha hv
  exact i ha hst
 |storeN n a v =>
  unfold ZB at hst
  simp only[hg]at hst
  split at hst<;>(try(simp at hst;done))
  rename_i p ea q xs ha hv
  exact i ha hst
 |_=>simp[ZdC]at hk
theorem ZwN{o:DOp}{ρ ρ1:Env}{L L1:Loc}{s s1:St}{x:Opd}(hst:ZB o ρ L s=.ok side ρ1 L1 s1)(hk:o.k=.box x):
  ∃t p v,o.dst=sO t∧o.guard=nO∧side=(p∧Zak L t=false∧W4 v=true)∧ρ1=(t,.loc t 0)::ρ∧L1=(t,cellsOf v)::L∧s1=s ∧
   ∀ρ' L',Zz ρ ρ' (ZA o)→ZB o ρ' L' s=.ok (p∧Zak L' t=false∧W4 v=true) ((t,.loc t 0)::ρ') ((t,cellsOf v)::L') s:=by
 obtain⟨dst,gd,k⟩:=o
 simp only at hk
 subst hk
 unfold ZB at hst
 cases hg:Zl ρ gd with
 |none=>simp[hg]at hst
 |some c =>
  simp only[hg]at hst
  split at hst<;>simp only[SR.ok.injEq,reduceCtorEq]at hst
  rename_i t p v hx
  obtain⟨rfl,rfl,rfl,rfl⟩:=hst
  refine⟨t,p,v,rfl,rfl,rfl,rfl,rfl,rfl,fun ρ' L' i=>?_⟩
  have h1:Zz ρ ρ' (ZR x):=fun u hu=>i u (by simp[ZA,Yq,hu])
  unfold ZB
  simp only[Zl,ZQ h1,hx]
theorem Zjo{o:DOp}{ρ ρ1:Env}{L L1:Loc}{s s1:St}(hst:ZB o ρ L s=.ok side ρ1 L1 s1):∀k,o.k≠.fork k:=fun k hk=>by
 obtain⟨dst,gd,k'⟩:=o
 simp only at hk
 subst hk
 unfold ZB at hst
 cases hg:Zl ρ gd<;>simp[hg]at hst
theorem Jq{F:Fr P}{dk:List Zi}{o:DOp}{f:List Nat}{os:List (DOp×List Nat)}{ρ ρ1:Env}{L L1:Loc}{s s1:St}{B:List (Nat×Rd)}(hst:ZB o ρ L s=.ok side ρ1 L1 s1)(hs:side)(h:if Y5 o.k then DOA F kp dk os ρ1 L1 s1 (Kj o ρ++B) else Wg f s s1 L L1 B∧DOA F kp dk os ρ1 L1 s1 (Kj o ρ++YX f B)):DOA F kp dk ((o,f)::os) ρ L s B:=by
 intro T ms fl fk A rest is l ρ' L' hm hc ad bg inv aj
 cases rest with
 |nil=>simp at bg
 |cons i rest =>
  simp only[ZE7,List.cons.injEq,ZE2]at bg
  obtain⟨⟨ho,rfl⟩,rfl⟩:=bg
  obtain⟨ca,rfl⟩:=Zn2 ho.symm (Zjo hst)
  obtain⟨hi,hdeps,ao,bp,a4⟩:=Zli ca hc
  have bv:=inv.restN i (by simp)
  rcases a4 with ⟨hp,am⟩|⟨hb,am,hnp⟩
  ·obtain⟨b2,az,al⟩:=Zeq hp
   rw[b2]at h
   simp only[if_true]at h
   have hiA:i∉A:=fun hA=>ad i hA (by simp)
   have bj:∀(aw:∀t,(T.op i).dst=sO t∨ZL ρ1 t=ZL ρ t) (ba:∀a∈A,Zz ρ ρ1 (ZA (T.op a))) (hL:∀x,Zg L1 x=Zg L x∨(ZaC (T.op i) x∧Zg L x=nO)) (bo:∀x,ZaC (T.op i) x→Zg L x=nO)
     (ar:WY (T.op i) ρ1 L1 s (Kj (T.op i) ρ++B)) (a8:s1=s),DO F kp dk (is.map T.op) ρ' L' s:=by
    intro aw ba hL bo ar a8
    subst a8
    refine h T ms fl fk (i::A) rest is l ρ' L' hm am (fun p hp a0=>?_) rfl ⟨inv.closed,fun r hr=>inv.restN r (by simp[hr]),fun j hj h1 h2=>?_,fun a ha=>?_,fun p hp a ha=>?_,fun p hp a ha bn=>?_,fun t=>?_,fun a ha ac x hx=>?_,fun x=>?_,fun a ha ac=>?_⟩ aj
    ·rcases List.mem_cons.1 hp with rfl|hp
     ·exact ao a0
     exact ad p hp (by simp[a0])
    ·simp only[ZFv,not_or]at h2
     exact inv.doneN j hj (by simp[h2.1,h1]) h2.2
    ·rcases List.mem_cons.1 ha with rfl|ha
     ·exact hi
     exact inv.alt a ha
    ·rcases List.mem_cons.1 hp with rfl|hpA<;>rcases List.mem_cons.1 ha with rfl|haA
     ·exact .inr az
     ·exact bp a haA
     ·exact .inr (al p hpA).1
     exact inv.pair p hpA a haA
    ·rcases List.mem_cons.1 hp with rfl|hpA<;>rcases List.mem_cons.1 ha with rfl|haA
     ·exact absurd rfl bn
     ·exact(al a haA).2
     ·exact ZbI (al p hpA).2
     exact inv.uniq p hpA a haA bn
    ·rcases aw t with hd|hg
     ·exact .inr ⟨i,by simp,bv,hd⟩
     rw[hg]
     rcases inv.env t with h|⟨a,ha,ac,bh⟩
     ·exact .inl h
     exact .inr ⟨a,by simp[ha],ac,bh⟩
    ·rcases List.mem_cons.1 ha with rfl|ha
     ·have:=bo x hx
      rcases inv.loc x with h|⟨b,hb,bf,be⟩
      ·rw[h];exact this
      exact inv.loc0 b hb bf x be
     exact inv.loc0 a ha ac x hx
    ·rcases hL x with hx|⟨hx,_⟩
     ·rw[hx]
      rcases inv.loc x with h|⟨b,hb,bf,be⟩
      ·exact .inl h
      exact .inr ⟨b,by simp[hb],bf,be⟩
     exact .inr ⟨i,by simp,bv,hx⟩
    rcases List.mem_cons.1 ha with rfl|ha
    ·exact ar
    refine((inv.pend a ha ac).more (B':=Kj (T.op i) ρ++B) (fun b _ hb=>List.mem_append_right _ hb)).mono (ba a ha) (fun t ht=>?_) (fun x hx=>?_) (fun t ai=>?_)
    ·rcases aw t with hd|hg
     ·exact absurd ht (Zbm (al a ha).2 hd)
     exact hg
    ·obtain⟨cs,a4⟩:=(inv.pend a ha ac).loc hx
     rcases hL x with h|⟨_,h⟩
     ·exact h
     rw[h]at a4;simp at a4
    rcases hL t with h|⟨h,_⟩
    ·exact h
    exact absurd ai.1 (Zbm (al a ha).2 h.1)
   by_cases hq:YH (T.op i).k=true
   ·obtain⟨e,rfl,rfl,rfl⟩:=ZkY hst hq
    have bl:=We (g:=(T.op i).guard) (ρ:=ρ) (ρ':=Zt ρ (T.op i).dst e) (fun t ht=>KO az t (by simp[ZA,ht]))
    refine bj (fun t=>?_) (fun a ha=>KO (al a ha).1) (fun x=>.inl rfl) (fun x hx=>by have:=Zb8 hx;rw[hq]at this;simp at this) ?_ rfl
    ·rw[WJ]
     by_cases ht:(T.op i).dst=sO t
     ·exact .inl ht
     exact .inr (by simp[ht])
    cases a7:Zl ρ (T.op i).guard with
    |none=>unfold ZB at hst;simp[a7]at hst
    |some c =>
    cases c
    ·obtain⟨e',h1,-,-⟩:=ZkX hst a7 hq
     refine .inr (.inl ⟨hq,_,.inl ⟨by rw[bl,a7],e',rfl⟩,fun t ht=>?_⟩)
     rw[h1,WJ,if_pos ht]
    obtain⟨e',h1,-,-,h2⟩:=Zhu (ρ':=Zt ρ (T.op i).dst e) (L':=L1) hst hq (KO az) (.inl rfl)
    refine .inl ⟨hq,by rw[bl,a7],by rw[ZiR (KO az)];exact fun b hb=>List.mem_append_left _ (Zu0.2 hb),side,e',hs,h2,fun t ht=>?_⟩
    rw[h1,WJ,if_pos ht]
   obtain⟨z,hz⟩:∃z,(T.op i).k=.alloc z:=by
    cases hk:(T.op i).k<;>first|exact absurd hk (Zjo hst _)|simp_all[Y5,YH]
   obtain⟨t,ho,rfl,rfl,rfl,rfl⟩:=Zs6 hst hz
   have ah:Zg L t=nO:=by
    cases hg:Zg L t<;>simp[Zak,hg]at hs⊢
   have ak:(T.op i).dst=sO t:=by rw[ho]
   refine bj (fun u=>?_) (fun a ha=>?_) (fun x=>?_) (fun x hx=>?_) (.inr (.inr ⟨t,z,ho,by simp[ZL],by simp[Zg]⟩)) rfl
   ·by_cases br:t=u
    ·exact .inl (by rw[ak,br])
    exact .inr (by simp[ZL,br])
   ·have:=KO (ρ:=ρ) (e:=.loc t 0) (al a ha).1
    rw[ak]at this;exact this
   ·by_cases bi:t=x
    ·subst bi;exact .inr ⟨⟨ak,z,hz⟩,ah⟩
    exact .inl (by simp[Zg,bi])
   have:=hx.1
   rw[ak]at this
   simp only[ZEP]at this
   subst this;exact ah
  obtain⟨bk,a5,n⟩:=ZfH hb
  have a3:Wg (fl i) s s1 L L1 B∨Y5 (T.op i).k=true:=by
   cases ay:Y5 (T.op i).k
   ·rw[ay]at h;exact .inl h.1
   exact .inr rfl
  have hD:∃B2,(B2=Kj (T.op i) ρ++B∧Y5 (T.op i).k=true∨B2=Kj (T.op i) ρ++YX (fl i) B∧Y5 (T.op i).k=false)∧DOA F kp dk (rest.map fun i=>(T.mk fk i,fl i)) ρ1 L1 s1 B2:=by
   cases ay:Y5 (T.op i).k
   ·rw[ay]at h;exact⟨_,.inr ⟨rfl,rfl⟩,h.2⟩
   rw[ay]at h;exact⟨_,.inl ⟨rfl,rfl⟩,h⟩
  clear h
  obtain⟨B2,bw,h⟩:=hD
  have ae:∀b∈YX (fl i) B,b∈B2:=fun b hb=>by
   rcases bw with ⟨rfl,_⟩|⟨rfl,_⟩
   ·exact List.mem_append_right _ (Qz.1 hb).2
   exact List.mem_append_right _ hb
  refine ZuZ hm hi ad a5 (fun l ρ' L' is inv hd aj=>?_) aj inv
  have au:=hm l inv.closed i hi hd
  have ap:Zz ρ ρ' (ZA (T.op i)):=by
   intro t ht
   rcases inv.env t with h|⟨a,ha,ac,bh⟩
   ·exact h
   exfalso
   rcases bp a ha with hb|hb
   ·rw[au a hb]at ac;simp at ac
   exact Ziz hb bh ht
  have av:∀x,Zg L' x=Zg L x∨Zg L' x=nO:=fun x=>by
   rcases inv.loc x with h|⟨a,ha,ac,hx⟩
   ·exact .inl h
   exact .inr (inv.loc0 a ha ac x hx)
  have af:∀p∈A.filter (fun a=>!(ms.getD i 0).testBit a),p∉rest:=fun p hp a0=>ad p (List.mem_filter.1 hp).1 (by simp[a0])
  rcases Zvh hst with hq|⟨z,hz⟩|hq|⟨x,hx⟩|hq
  ·obtain⟨e,rfl,rfl,rfl⟩:=ZkY hst hq
   refine Ztd hst hs hq ap av ?_
   refine h T ms fl fk _ rest is _ _ _ hm am af rfl (inv.bar hm ad hi ao hd (fun a ha=>⟨(n a ha).1,(n a ha).2.1⟩) e (fun _ h=>h) (fun _ _ _ _ h=>h) fun a ha ac ag=>?_) aj
   refine((ag.keep (fl:=fl i) (Zc8 _ _ _ _) (n a ha).2.2 (fun _ _=>rfl)).more (fun b _ hb=>ae _ hb)).mono (KO (n a ha).1) (fun t ht=>?_) (fun _ _=>rfl) (fun _ _=>rfl)
   rw[WJ]
   have:=Zbm (ZbI (n a ha).2.1) ht
   simp[this]
  ·rw[hz]at bk;simp[Zud]at bk
  ·obtain⟨rfl,a9,⟨lx,cs,new,rfl,rfl,bc,ab⟩|⟨rfl,ab⟩⟩:=Zs9 hst hq
   ·refine ZoK fun g ν w tmps m=>?_
    have bu:ZB (T.op i) ρ' ((lx,cs)::L') s1=.ok side ρ' ((lx,new)::(lx,cs)::L') s1:=ab ρ' _ ap (by simp[Zg,bc])
    have bb:Zg L' lx=Zg L lx:=by
     obtain⟨c2,bt⟩:∃cs,Zg L' lx=sO cs:=ZwQ (L:=(lx,cs)::L') bu hq hs m
     rcases av lx with h|h
     ·exact h
     rw[h]at bt;simp at bt
    refine QB (ab ρ' L' ap bb) hs ?_
    have y:∀r:Env,Zt r (T.op i).dst (.d .undef)=r:=fun r=>by rw[a9];rfl
    have hb:=inv.bar (s2:=s1) (B2:=B2) hm ad hi ao hd (fun a ha=>⟨(n a ha).1,(n a ha).2.1⟩) (.d .undef) (L2:=(lx,new)::L) (L2':=(lx,new)::L') (fun x hx=>by simp only[Zg,hx]) (fun x _ _ _ hx=>by
     by_cases bq:lx=x
     ·subst bq;rw[bb,bc]at hx;simp at hx
     simp only[Zg,bq,if_false];exact hx) (fun a ha ac ag=>?_)
    ·rw[y,y]at hb
     exact h T ms fl fk _ rest is _ _ _ hm am af rfl hb aj
    rw[y]
    have aq:Wg (fl i) s1 s1 L ((lx,new)::L) B:=by
     rcases a3 with h|h
     ·exact h
     cases ax:(T.op i).k<;>rw[ax]at hq h<;>simp[ZdC,Y5]at hq h
    refine(ag.keep aq (n a ha).2.2 (fun t ai=>?_)).more (fun b _ hb=>ae _ hb)
    have hn:=inv.loc0 a (List.mem_filter.1 ha).1 ac t ai
    have:¬lx=t:=fun h=>by subst h;rw[bb,bc]at hn;simp at hn
    simp[Zg,this]
   refine QB (ab ρ' L' ap) hs ?_
   have y:∀r:Env,Zt r (T.op i).dst (.d .undef)=r:=fun r=>by rw[a9];rfl
   have hb:=inv.bar (s2:=s1) (B2:=B2) hm ad hi ao hd (fun a ha=>⟨(n a ha).1,(n a ha).2.1⟩) (.d .undef) (L2:=L1) (L2':=L') (fun x hx=>hx) (fun _ _ _ _ hx=>hx) (fun a ha ac ag=>by
    rw[y];exact(ag.keep (a3.resolve_right (by cases ax:(T.op i).k<;>rw[ax]at hq<;>simp[ZdC,ZrB]at hq<;>simp[Y5])) (n a ha).2.2 (fun _ _=>rfl)).more (fun b _ hb=>ae _ hb))
   rw[y,y]at hb
   exact h T ms fl fk _ rest is _ _ _ hm am af rfl hb aj
  ·obtain⟨t,p,v,ak,hgn,rfl,rfl,rfl,rfl,ab⟩:=ZwN hst hx
   obtain⟨a8,b0,bx⟩:=hs
   have ah:Zg L t=nO:=by
    cases hg:Zg L t<;>simp[Zak,hg]at b0⊢
   have a6:Zg L' t=nO:=by
    rcases av t with h|h
    ·rw[h];exact ah
    exact h
   refine QB (ab ρ' L' ap) ⟨a8,by simp[Zak,a6],bx⟩ ?_
   have hb:=inv.bar (s2:=s1) (B2:=B2) hm ad hi ao hd (fun a ha=>⟨(n a ha).1,(n a ha).2.1⟩) (.loc t 0) (L2:=(t,cellsOf v)::L) (L2':=(t,cellsOf v)::L') (fun x hx=>by simp only[Zg,hx]) (fun x a bz ai hx=>by
     have:¬t=x:=fun h=>by subst h;exact Zbm bz ak ai.1
     simp only[Zg,this,if_false];exact hx) (fun a ha ac ag=>?_)
   ·rw[ak]at hb
    exact h T ms fl fk _ rest is _ _ _ hm am af rfl hb aj
   have aq:Wg (fl i) s1 s1 L ((t,cellsOf v)::L) B:=a3.resolve_right (by rw[hx];simp[Y5])
   have b1:∀u,ZaC (T.op a) u→¬t=u:=fun u ai h=>by subst h;exact Zbm (n a ha).2.1 ak ai.1
   refine((ag.keep aq (n a ha).2.2 (fun u ai=>by simp[Zg,b1 u ai])).more (fun b _ hb=>ae _ hb)).mono (KO (n a ha).1) (fun u hu=>?_) (fun _ _=>rfl) (fun _ _=>rfl)
   rw[WJ]
   have:=Zbm (ZbI (n a ha).2.1) hu
   simp[this]
  obtain⟨rfl,a9,rfl,ab⟩:=ZwO hst hq
  refine QB (ab ρ' L' ap) hs ?_
  have y:∀r:Env,Zt r (T.op i).dst (.d .undef)=r:=fun r=>by rw[a9];rfl
  have hb:=inv.bar (s2:=s1) (B2:=B2) hm ad hi ao hd (fun a ha=>⟨(n a ha).1,(n a ha).2.1⟩) (.d .undef) (L2:=L1) (L2':=L') (fun x hx=>hx) (fun _ _ _ _ hx=>hx) (fun a ha ac ag=>by
   rw[y];exact(ag.keep (a3.resolve_right (by cases ax:(T.op i).k<;>rw[ax]at hq<;>simp[ZdC,ZrB]at hq<;>simp[Y5])) (n a ha).2.2 (fun _ _=>rfl)).more (fun b _ hb=>ae _ hb))
  rw[y,y]at hb
  exact h T ms fl fk _ rest is _ _ _ hm am af rfl hb aj
theorem Zqj{F:Fr P}{dk:List Zi}{o:DOp}{f:List Nat}{os:List (DOp×List Nat)}{B:List (Nat×Rd)}{e:E}(hz:Zb2 o ρ e)(hk:YH o.k=true)(h:DOA F kp dk os (Zt ρ o.dst e) L s B):DOA F kp dk ((o,f)::os) ρ L s B:=by
 intro T ms fl fk A rest is l ρ' L' hm hc u ad inv z
 cases rest with
 |nil=>simp at ad
 |cons i rest =>
  simp only[ZE7,List.cons.injEq,ZE2]at ad
  obtain⟨⟨ho,rfl⟩,rfl⟩:=ad
  obtain⟨aw,rfl⟩:=Zn2 ho.symm (fun k h=>by rw[h]at hk;simp[YH]at hk)
  obtain⟨hi,hdeps,al,ai,au⟩:=Zli aw hc
  have ar:=inv.restN i (by simp)
  have ak:∀x,¬ZaC (T.op i) x:=fun x hx=>by have:=Zb8 hx;rw[hk]at this;simp at this
  rcases au with ⟨hp,ae⟩|⟨hb,ae,hnp⟩
  ·obtain⟨hp1,aj,v⟩:=Zeq hp
   have aq:=hz.congr (ρ':=Zt ρ (T.op i).dst e) (KO aj)
   refine h T ms fl fk (i::A) rest is l ρ' L' hm ae (fun p hp ab=>?_) rfl ⟨inv.closed,fun r hr=>inv.restN r (by simp[hr]),fun j hj h1 h2=>?_,fun a ha=>?_,fun p hp a ha=>?_,fun p hp a ha ah=>?_,fun t=>?_,fun a ha n x hx=>?_,fun x=>?_,fun a ha n=>?_⟩ z
   ·rcases List.mem_cons.1 hp with rfl|hp
    ·exact al ab
    exact u p hp (by simp[ab])
   ·simp only[ZFv,not_or]at h2
    exact inv.doneN j hj (by simp[h2.1,h1]) h2.2
   ·rcases List.mem_cons.1 ha with rfl|ha
    ·exact hi
    exact inv.alt a ha
   ·rcases List.mem_cons.1 hp with rfl|hpA<;>rcases List.mem_cons.1 ha with rfl|haA
    ·exact .inr aj
    ·exact ai a haA
    ·exact .inr (v p hpA).1
    exact inv.pair p hpA a haA
   ·rcases List.mem_cons.1 hp with rfl|hpA<;>rcases List.mem_cons.1 ha with rfl|haA
    ·exact absurd rfl ah
    ·exact(v a haA).2
    ·exact ZbI (v p hpA).2
    exact inv.uniq p hpA a haA ah
   ·rw[WJ]
    by_cases ht:(T.op i).dst=sO t
    ·exact .inr ⟨i,by simp,ar,ht⟩
    rw[if_neg ht]
    rcases inv.env t with h|⟨a,ha,n,ag⟩
    ·exact .inl h
    exact .inr ⟨a,by simp[ha],n,ag⟩
   ·rcases List.mem_cons.1 ha with rfl|ha
    ·exact absurd hx (ak x)
    exact inv.loc0 a ha n x hx
   ·rcases inv.loc x with h|⟨b,hb,ap,ao⟩
    ·exact .inl h
    exact .inr ⟨b,by simp[hb],ap,ao⟩
   rcases List.mem_cons.1 ha with rfl|ha
   ·exact .inr (.inl ⟨hk,e,aq,fun t ht=>by rw[WJ,if_pos ht]⟩)
   refine(inv.pend a ha n).mono (KO (v a ha).1) (fun t ht=>?_) (fun _ _=>rfl) (fun _ _=>rfl)
   rw[WJ,if_neg (Zbm (ZbI (v a ha).2) ht)]
  obtain⟨hbk,ac,c⟩:=ZfH hb
  refine ZuZ hm hi u ac (fun l ρ' L' is inv hd z=>?_) z inv
  have y:=hm l inv.closed i hi hd
  have av:Zz ρ ρ' (ZA (T.op i)):=by
   intro t ht
   rcases inv.env t with h|⟨a,ha,n,ag⟩
   ·exact h
   exfalso
   rcases ai a ha with hb|hb
   ·rw[y a hb]at n;simp at n
   exact Ziz hb ag ht
  have af:∀p∈A.filter (fun a=>!(ms.getD i 0).testBit a),p∉rest:=fun p hp ab=>u p (List.mem_filter.1 hp).1 (by simp[ab])
  refine(hz.congr av).run ?_
  refine h T ms fl fk _ rest is _ _ _ hm ae af rfl (inv.bar hm u hi al hd (fun a ha=>⟨(c a ha).1,(c a ha).2.1⟩) e (fun _ h=>h) (fun _ _ _ _ h=>h) fun a ha n am=>?_) z
  refine am.mono (KO (c a ha).1) (fun t ht=>?_) (fun _ _=>rfl) (fun _ _=>rfl)
  rw[WJ]
  have:=Zbm (ZbI (c a ha).2.1) ht
  simp[this]
theorem Zvs{F:Fr P}{dk:List Zi}{o:DOp}{f:List Nat}{os:List (DOp×List Nat)}{B:List (Nat×Rd)}(hg:Zl ρ o.guard=sO false)(hk:YH o.k=true)(e:E)(h:DOA F kp dk os (Zt ρ o.dst (.when false e)) L s B):DOA F kp dk ((o,f)::os) ρ L s B:=Zqj (.inl ⟨hg,e,rfl⟩) hk h
theorem Zw4{F:Fr P}{dk:List Zi}{o:DOp}{f:List Nat}{os:List (DOp×List Nat)}{B:List (Nat×Rd)}(hg:o.guard=nO){x y:Opd}{pl:Option Zaf}(hk:o.k=.q (.bin .add pl) [x,y]){p:Prop}{k:IntKind}{a b:Int}(ha:Yd ρ true [x,y]=sO (p,[.d (.int k a),.d (.int k b)]))(hp:p)(h:DOA F kp dk os (Zt ρ o.dst (.d (.int k (k.wrap (a+b))))) L s B):DOA F kp dk ((o,f)::os) ρ L s B :=
 Zqj (.inr ⟨x,y,pl,p,k,a,b,hg,hk,ha,hp,rfl⟩) (by rw[hk];rfl) h
theorem ZnB{F:Fr P}{dk:List Zi}{o:DOp}{f:List Nat}{os:List (DOp×List Nat)}{B:List (Nat×Rd)}{pre:Nat→Prop}{ρf:Nat→Env}{sf:Nat→St}(hst:ZB o ρ L s=.all side pre ρf sf)(hs:side)(h:∀b,pre b→Wg f s (sf b) L L B∧DOA F kp dk os (ρf b) L (sf b) (YX f B)):DOA F kp dk ((o,f)::os) ρ L s B:=by
 obtain⟨hp,t,ef,j,rfl,c⟩:=ZwM hst
 refine ZcB (fun e s2=>∃b,pre b∧e=ef b∧s2=sf b) hp (fun ρ' L' os' n i=>?_) (fun e s2 ⟨b,hb,he,h2⟩=>?_)
 ·refine ZlP (c ρ' L' n) hs fun b hb=>?_
  have:=i (ef b) (sf b) ⟨b,hb,rfl,rfl⟩
  rw[j]at this;exact this
 subst he;subst h2
 have:=h b hb
 rw[j];exact this
theorem ZjE{F:Fr P}{ks:List Nat}{dk:List Zi}:∀{os:List (DOp×List Nat)} {ρ:Env} {L:Loc} {s:St} {B:List (Nat×Rd)},
  ZgY (fun ρ L s=>Zu F dk (Yp ρ ks) (ZaY (Yp ρ ks) L) s) (fun os ρ L s B=>DOA F (sO ks) dk os ρ L s B) os ρ L s B→DOA F (sO ks) dk os ρ L s B
 | [],ρ,L,s,B,h=>ZnC h
 | (o,f)::os,ρ,L,s,B,h=>by
  simp only[ZgY]at h
  split at h
  ·rename_i sd ρ' L' s' c
   by_cases hp:Y5 o.k=true
   ·rw[if_pos hp]at h
    exact Jq c h.1 (by rw[if_pos hp];exact ZjE h.2)
   rw[if_neg hp]at h
   exact Jq c h.1 (by rw[if_neg hp];exact⟨h.2.1,ZjE h.2.2⟩)
  ·rename_i sd pre ρ' s' c
   exact ZnB c h.1 fun b hb=>⟨(h.2 b hb).1,ZjE (h.2 b hb).2⟩
  exact h
end
theorem ZgI{bs:List Nat}:∀{ds:List Nat} {a:Nat},(Zci bs ds).testBit a=true→∃d∈ds,a=d∨(bs.getD d 0).testBit a=true
 | [],a,h=>by simp[Zci]at h
 |d::ds,a,h=>by
  simp only[Zci,Nat.testBit_or,ZFb]at h
  rcases h with (h|h)|h
  ·exact⟨d,by simp,.inr h⟩
  ·refine⟨d,by simp,.inl ?_⟩
   rw[Nat.one_shiftLeft,Nat.testBit_two_pow]at h
   exact(of_decide_eq_true h).symm
  obtain⟨d',h1,h2⟩:=ZgI h
  exact⟨d',by simp[h1],h2⟩
theorem ZrD(l:Nat→Bool)(all:List (List Nat))(hcl:∀i,i<all.length→l i=true→∀d∈all.getD i [],l d=true) :
  ∀(r:List (List Nat)) (acc:List Nat) (pre:List (List Nat)),all=pre++r→acc.length=pre.length →
   (∀i,i<acc.length→(∀d∈all.getD i [],l d=true)→∀a,(acc.getD i 0).testBit a=true→l a=true) →
   ∀i,i<all.length→(∀d∈all.getD i [],l d=true)→∀a,((Zfp r acc).getD i 0).testBit a=true→l a=true
 | [],acc,pre,hall,hlen,hacc=>by
  intro i hi
  simp only[Zfp]
  exact hacc i (by rw[hlen];simp only[hall,ZFm]at hi;exact hi)
 |d::r,acc,pre,hall,hlen,hacc=>by
  simp only[Zfp]
  refine ZrD l all hcl r (acc++[Zci acc d]) (pre++[d]) (by simp[hall]) (by simp[hlen]) fun i hi hd a ha=>?_
  simp only[ZE1,ZE5,List.length_nil]at hi
  by_cases c:i<acc.length
  ·have e:(acc++[Zci acc d]).getD i 0=acc.getD i 0:=by simp[ZE8,List.getElem?_append,c]
   rw[e]at ha
   exact hacc i c hd a ha
  have n:i=acc.length:=by omega
  subst n
  have e:(acc++[Zci acc d]).getD acc.length 0=Zci acc d:=by simp[ZE8]
  rw[e]at ha
  have e2:all.getD acc.length []=d:=by rw[hall,hlen];simp[ZE8]
  rw[e2]at hd
  obtain⟨d',h1,h2⟩:=ZgI ha
  rcases h2 with rfl|h2
  ·exact hd a h1
  by_cases j:d'<acc.length
  ·exact hacc d' j (hcl d' (by rw[hall];simp;omega) (hd d' h1)) a h2
  have:acc.getD d' 0=0:=by simp[ZE8,ZFA (Nat.le_of_not_lt j)]
  rw[this]at h2;simp at h2
def cnt(l:Nat→Bool):Nat→Nat
 |0=>0
 |n+1=>cnt l n+if l n then 0 else 1
theorem ZqZ{l l':Nat→Bool}:∀{n:Nat},(∀i,i<n→l' i=l i)→cnt l' n=cnt l n
 |0,_=>rfl
 |n+1,h=>by
  have:=ZqZ (l:=l) (l':=l') (n:=n) fun i hi=>h i (by omega)
  simp only[cnt,h n (by omega),this]
theorem Ztl{l:Nat→Bool}{i:Nat}:∀{n:Nat},i<n→l i=false→cnt (fun j=>j==i ||l j) n+1=cnt l n
 |n+1,hi,hl=>by
  by_cases hn:i=n
  ·subst hn
   have:cnt (fun j=>j==i ||l j) i=cnt l i:=ZqZ fun j hj=>by
    have:¬j=i:=by omega
    simp[this]
   simp[cnt,this,hl]
  have h:=Ztl (n:=n) (by omega) hl
  have c:¬n=i:=fun h=>hn h.symm
  have:(n==i ||l n)=l n:=by simp[c]
  simp only[cnt,this];omega
theorem Zq0{l:Nat→Bool}:∀{n:Nat},cnt l n=0→∀i,i<n→l i=true
 |n+1,h,i,hi=>by
  simp only[cnt]at h
  by_cases hn:i=n
  ·subst hn
   cases hl:l i
   ·simp[hl]at h
   rfl
  exact Zq0 (n:=n) (by omega) i (by omega)
theorem ZvL(l:Nat→Bool):∀n,cnt l n≤n
 |0=>ZE6 _
 |n+1=>by have:=ZvL l n;simp only[cnt];split<;>omega
theorem Zwg{ops:Array Oper}{listed:Array Bool}{i:Nat}(h:i∈Region.ready .any ops listed):
  ∃o,ops[i]?=sO o∧listed.getD i true=false∧∀d∈JI o,listed.getD d false=true:=by
 simp only[Region.ready,List.mem_filter,List.mem_range,ZEY,Bool.not_eq_true']at h
 obtain⟨hi,hl,ha⟩:=h
 refine⟨ops[i],by simp[hi],hl,fun d hd=>?_⟩
 simp only[hi,Array.getElem?_eq_getElem,ZFl,ZFs,Array.all_eq_true]at ha
 simp only[JI,List.mem_map,List.mem_filter]at hd
 obtain⟨e,⟨he,hb⟩,rfl⟩:=hd
 obtain⟨n,hn,c⟩:=ZFa he
 have j:n<ops[i].after.size:=by simpa using hn
 have h2:=ha n j
 have:ops[i].after[n]=e:=by rw[←c];simp
 rw[this]at h2
 simpa[hb]using h2
theorem ZwE{ops:Array Oper}{listed:Array Bool}{i:Nat}{o:Oper}(ho:ops[i]?=sO o)(hl:listed.getD i true=false)(hd:∀d∈JI o,listed.getD d false=true):i∈Region.ready .any ops listed:=by
 obtain⟨hi,rfl⟩:=Array.getElem?_eq_some_iff.1 ho
 simp only[Region.ready,List.mem_filter,List.mem_range,ZEY,Bool.not_eq_true']
 refine⟨hi,hl,?_⟩
 simp only[hi,Array.getElem?_eq_getElem,ZFl,ZFs,Array.all_eq_true]
 intro n hn
 cases hb:Region.binds .any ops[i].after[n]
 ·simp
 simp only[Bool.not_true,Bool.false_or]
 exact hd _ (by
  simp only[JI,List.mem_map,List.mem_filter]
  exact⟨_,⟨by simp,hb⟩,rfl⟩)
theorem ZAo{ops:Array Oper}{T:Tab}(hT:T.length=ops.size)(hdep:∀i o,ops[i]?=sO o→T.deps i=JI o)(hlt:∀i,i<T.length→∀d∈T.deps i,d<i):
  ∀(fuel t:Nat) (listed:Array Bool),listed.size=ops.size→cnt (fun j=>listed.getD j false) ops.size≤fuel →
   Sch T (fun j=>listed.getD j false) (Region.linearise.go .any ops fuel t listed []):=by
 have c:∀listed:Array Bool,listed.size=ops.size→Region.ready .any ops listed=[]→∀i,i<ops.size→listed.getD i false=true:=by
  intro listed n hr i
  induction i using Nat.strongRecOn with
  |ind i ih =>
   intro hi
   cases hl:listed.getD i false
   ·exfalso
    have ac:i<listed.size:=by omega
    have ab:listed.getD i true=false:=by simpa[Array.getD,ac]using hl
    have hm:i∈Region.ready .any ops listed:=ZwE (o:=ops[i]) (by simp[hi]) ab fun d hd=>by
     have af:d<i:=hlt i (by omega) d (by rw[hdep i ops[i] (by simp[hi])];exact hd)
     exact ih d af (by omega)
    rw[hr]at hm;simp at hm
   rfl
 intro fuel
 induction fuel with
 |zero =>
  intro t listed n hc
  simp only[Region.linearise.go,List.reverse_nil]
  exact .nil fun i hi=>Zq0 (Nat.le_zero.1 hc) i (by omega)
 |succ fuel ih =>
  intro t listed n hc
  simp only[Region.linearise.go]
  change Sch T _ (match (Region.ready .any ops listed)[t % (Region.ready .any ops listed).length]? with
   |some i=>Region.linearise.go .any ops fuel (t / (Region.ready .any ops listed).length) (listed.setIfInBounds i true) [i]
   |none=>[].reverse)
  cases hi:(Region.ready .any ops listed)[t % (Region.ready .any ops listed).length]? with
  |none =>
   have z:Region.ready .any ops listed=[]:=by
    cases hr:Region.ready .any ops listed with
    |nil=>rfl
    |cons x xs =>
     rw[hr]at hi
     have hl:t % (x::xs).length<(x::xs).length:=Nat.mod_lt _ (by simp)
     rw[ZFq hl]at hi;simp at hi
   exact .nil fun i ac=>c listed n z i (by omega)
  |some i =>
   simp only[]
   rw[linearise_go_acc,List.reverse_singleton,List.singleton_append]
   obtain⟨o,ho,hl,hd⟩:=Zwg (List.mem_of_getElem? hi)
   obtain⟨ae,-⟩:=Array.getElem?_eq_some_iff.1 ho
   have u:i<listed.size:=by omega
   have ad:listed.getD i false=false:=by simpa[Array.getD,u]using hl
   have v:(fun j=>(listed.setIfInBounds i true).getD j false)=fun j=>j==i ||listed.getD j false:=by
    funext j
    simp only[Array.getD_eq_getD_getElem?,Array.getElem?_setIfInBounds]
    by_cases y:i=j
    ·subst y;simp[u]
    have:¬j=i:=fun h=>y h.symm
    simp[y,this]
   refine .cons (by omega) ad (fun d ag=>hd d (by rw[←hdep i o ho];exact ag)) ?_
   rw[←v]
   refine ih _ _ (by simp[n]) ?_
   rw[v]
   have:=Ztl (l:=fun j=>listed.getD j false) ae ad
   omega
section
variable {P:Program}
theorem ZyO{an:Ann}{N:Nat}{c:Code}{order:List Nat}{os:List (DOp×List Nat)}{ks:Option (List Nat)}(h:cc P an N c=sO (.regD order os ks)):
  ∃id ops,c=.region id ops true∧ccD P an N id ops=sO (order,os,ks):=by
 unfold cc at h;split at h<;>simp_all
 ·obtain⟨a,b,c',h1,h2,h3,h4⟩:=h;exact⟨_,_,⟨rfl,rfl⟩,by rw[h1];simp[h2,h3,h4]⟩
 all_goals (split at h<;>simp at h)
end
theorem ZAp{T:Tab}{l:Nat→Bool}{is:List Nat}(h:Sch T l is):∀i∈is,i<T.length:=by
 induction h with
 |nil h=>simp
 |cons hi hl hd t ih=>intro i c;rcases List.mem_cons.1 c with rfl|h;exact hi;exact ih i h
section
variable {P:Program}
theorem Zq1{N:Nat}{ops:Array Oper}:∀{is:List Nat} {l:List DOp},Jt P N ops is=sO l→l.length=is.length∧∀(j i:Nat),is[j]?=sO i→∃o d,ops[i]?=sO o∧cop P N ops o=sO d∧l[j]?=sO d
 | [],l,h=>by simp only[Jt,ZEP]at h;subst h;simp
 |i::is,l,h=>by
  simp only[Jt]at h
  split at h<;>(try(simp at h;done))
  rename_i o ho
  split at h<;>simp only[ZEP,reduceCtorEq]at h
  rename_i d ds hd c
  subst h
  obtain⟨h1,h2⟩:=Zq1 c
  refine⟨by simp[h1],fun j i' hj=>?_⟩
  cases j with
  |zero=>simp only[List.getElem?_cons_zero,ZEP]at hj;subst hj;exact⟨o,d,ho,hd,by simp⟩
  |succ j=>simp only[List.getElem?_cons_succ]at hj⊢;exact h2 j i' hj
theorem Ztm{N:Nat}{ops:Array Oper}{f:Nat→DOp}:∀{is:List Nat},(∀i∈is,∃o,ops[i]?=sO o∧cop P N ops o=sO (f i))→Jt P N ops is=sO (is.map f)
 | [],_=>rfl
 |i::is,h=>by
  obtain⟨o,h1,h2⟩:=h i (by simp)
  have:=Ztm (is:=is) fun j hj=>h j (by simp[hj])
  simp only[Jt,h1,h2,this,ZE7]
theorem ZvV(g:G)(w:World)(n:Nat):Ext g w g { w with drawn:=n }:=⟨ZE6 _,fun _=>ZE6 _,fun _ _ _=>rfl,fun _ _ h=>h,fun _ _=>rfl,fun _ _=>rfl,rfl,rfl,rfl,rfl⟩
theorem Zr.drawn(m:Zr g ν w tmps ρ L s)(n:Nat):Zr g ν { w with drawn:=n } tmps ρ L s:=by
 have hg:JR g w g { w with drawn:=n }:=⟨ZE6 _,fun _ _=>rfl,fun _ _=>rfl,fun b hb=>(m.st.fresh b hb).1,rfl,rfl,rfl,rfl⟩
 exact m.grow hg
theorem Zkz:∀{n:Nat} {ds:List (List Nat)},Zma n ds=true→∀i l,ds[i]?=sO l→∀d∈l,d<n+i
 |n,[],_,i,l,hi=>by simp at hi
 |n,x::r,h,i,l,hi=>by
  simp only[Zma,ZEY,List.all_eq_true,decide_eq_true_eq]at h
  cases i with
  |zero=>simp only[List.getElem?_cons_zero,ZEP]at hi;subst hi;exact fun d hd=>h.1 d hd
  |succ i=>simp only[List.getElem?_cons_succ]at hi;intro d hd;have:=Zkz h.2 i l hi d hd;omega
theorem ZhV{F:Fr P}{order:List Nat}{os:List (DOp×List Nat)}{ks:Option (List Nat)}{dk:List Zi}(h:DOA F ks dk os ρ L s []):Zu F (.code (.regD order os ks)::dk) ρ L s:=by
 intro k hk
 cases hk with
 |code hc ht =>
 obtain⟨id,ops,rfl,hD⟩:=ZyO hc
 unfold ccD at hD
 generalize Zxs F.an id=fk at hD
 split at hD<;>(try(simp at hD;done))
 rename_i l z kp ag _ _
 simp only at hD
 split at hD<;>simp only[ZEP,ZE2,reduceCtorEq]at hD
 rename_i y
 obtain⟨rfl,rfl,rfl⟩:=hD
 simp only[ZEY]at y
 obtain⟨⟨⟨al,ai⟩,u⟩,v⟩:=y
 obtain⟨ad,am⟩:=Zq1 ag
 simp only[List.length_range]at ad
 generalize ac:ops.toList.map JI=ds at ai v h
 have au:ds.length=ops.size:=by rw[←ac];simp
 generalize hT:List.zip l ds=T at v h
 have av:List.length T=ops.size:=by rw[←hT];simp[ad,au]
 have ak:∀(i:Nat) (o:Oper),ops[i]?=sO o→∃d,cop P F.N ops o=sO d∧T[i]?=sO (d,JI o):=by
  intro i o ho
  obtain⟨hi,-⟩:=Array.getElem?_eq_some_iff.1 ho
  obtain⟨o',d,h1,h2,h3⟩:=am i i (by simp[hi])
  rw[ho]at h1
  obtain rfl:=Option.some.inj h1
  refine⟨d,h2,?_⟩
  rw[←hT,List.getElem?_zip_eq_some]
  exact⟨h3,by rw[←ac];simp[ho]⟩
 have n:∀(i:Nat) (o:Oper),ops[i]?=sO o→Tab.deps T i=JI o:=fun i o ho=>by
  obtain⟨d,_,h2⟩:=ak i o ho
  simp[Tab.deps,ZE8,h2]
 have ap:∀i,i<List.length T→∃o,ops[i]?=sO o∧cop P F.N ops o=sO (Tab.op T i):=fun i hi=>by
  have c:i<ops.size:=by omega
  obtain⟨d,h1,h2⟩:=ak i ops[i] (by simp[c])
  exact⟨ops[i],by simp[c],by simp[Tab.op,ZE8,h2,h1]⟩
 have aj:∀i,i<List.length T→∀d∈Tab.deps T i,d<i:=fun i hi d hd=>by
  have c:i<ops.size:=by omega
  have he:=n i ops[i] (by simp[c])
  have:=Zkz ai i (JI ops[i]) (by rw[←ac];simp[c]) d (by rw[←he];exact hd)
  omega
 have af:∀i,i<List.length T→ds.getD i []=Tab.deps T i:=fun i hi=>by
  have c:i<ops.size:=by omega
  rw[n i ops[i] (by simp[c]),←ac]
  simp[ZE8,c]
 intro g ν w tmps hN m
 refine F.T.back _ _ _ _ (.one stepR_region_draw) ?_
 refine F.T.ext g w g { w with drawn:=w.drawn+1 } _ (ZvV g w _) ?_
 have aq:∀t,Region.schedule (P.follows .mixedOrders) ops t=Region.linearise .any ops t:=fun t=>by simp[Region.schedule,al]
 rw[aq]
 have ah:∀j,(Array.replicate ops.size false).getD j false=false:=fun j=>by
  simp only[Array.getD_eq_getD_getElem?,Array.getElem?_replicate]
  split<;>rfl
 have ae:=ZAo (ops:=ops) (T:=T) av n aj ops.size (w.tape w.drawn (.order F.b.fn id)) (Array.replicate ops.size false) (by simp) (ZvL _ _)
 have ao:=h T (Zfp ds []) (fun i=>(F.an.get (id+1000000*(i+4))).getD []) _ [] z _ _ ρ L ?_ v (by simp) rfl ?_ ae
 ·refine ao ops _ _ (Ztm fun i hi=>ap i (ZAp ae i hi)) ht g ν _ tmps hN (m.drawn _)
 ·intro lf ar i hi hd a ha
  refine ZrD lf ds (fun i hi ab d hd=>?_) ds [] [] rfl rfl (fun i hi=>by simp at hi) i (by omega) (fun d aw=>hd d (by rw[←af i hi];exact aw)) a ha
  exact ar i (by omega) ab d (by rw[←af i (by omega)];exact hd)
 refine⟨fun i hi ab=>?_,fun r hr=>ah r,fun i hi h1 h2=>?_,by simp,by simp,by simp,fun t=>.inl rfl,by simp,fun x=>.inl rfl,by simp⟩
 ·rw[ah]at ab;simp at ab
 exfalso
 simp only[Zwu,List.all_eq_true,List.mem_range,List.contains_eq_mem,decide_eq_true_eq]at u
 exact h1 (u i (by omega))
theorem Zfa{F:Fr P}{dk:List Zi}{o:DOp}{f:List Nat}{os:List (DOp×List Nat)}{B:List (Nat×Rd)}(hg:Zl ρ o.guard=sO true){fx:Opd}(hk:o.k=.call fx xs){p q:Prop}{fd:D}{es:List E}(hf:ZC ρ true fx=sO (q,.d fd))(ha:Yd ρ true xs=sO (p,es))(hds:W2 es=sO ds)(hp:p)(hq:q){Ψ:Res→St→Prop}(hc:WZ P fd ds s Ψ)(hret:∀d s',Ψ (.ret d) s'→Wg f s s' L L B∧DOA F kp dk os (Zt ρ o.dst (.d d)) L s' (YX f B))(hpan:∀d s',Ψ (.panic d) s'→Y6 F [] [] d s'):DOA F kp dk ((o,f)::os) ρ L s B:=by
 refine ZcB (fun e s'=>∃d,e=.d d∧Ψ (.ret d) s') (by rw[hk];rfl) (fun ρ' L' os' c i=>?_) (fun e s2 ⟨d,he,hd⟩=>by subst he;exact hret d s2 hd)
 have h1:Zz ρ ρ' (ZR fx):=fun t ht=>c t (by simp[ZA,hk,Yq,ht])
 have h2:Zz ρ ρ' (Za2 xs):=fun t ht=>c t (by simp[ZA,hk,Yq,ht])
 have h3:Zz ρ ρ' (Zdp o.guard):=fun t ht=>c t (by simp[ZA,ht])
 exact Zej (by rw[We h3];exact hg) hk (by rw[ZQ h1];exact hf) (by rw[W0 h2];exact ha) hds hp hq hc (fun d s' hd=>i (.d d) s' ⟨d,rfl,hd⟩) (fun d s' hd=>(hpan d s' hd).weak _ _)
theorem ZgN{F:Fr P}{dk:List Zi}{o:DOp}{f:List Nat}{os:List (DOp×List Nat)}{B:List (Nat×Rd)}(hg:Zl ρ o.guard=sO true){fx:Opd}(hk:o.k=.call fx xs){p q:Prop}{fi:FuncId}{first caps:List D}{es:List E}(hf:ZC ρ true fx=sO (q,.d (.fn (.func fi) first caps)))(ha:Yd ρ true xs=sO (p,es))(hds:W2 es=sO ds)(hp:p)(hq:q){Ψ:Res→St→Prop}(hc:Zf P fi (first++ds++caps) s Ψ)(hret:∀d s',Ψ (.ret d) s'→Wg f s s' L L B∧DOA F kp dk os (Zt ρ o.dst (.d d)) L s' (YX f B))(hpan:∀d s',Ψ (.panic d) s'→Y6 F [] [] d s'):DOA F kp dk ((o,f)::os) ρ L s B :=
 Zfa hg hk hf ha hds hp hq hc.V hret hpan
theorem ZoF{F:Fr P}{dk:List Zi}{o:DOp}{f:List Nat}{os:List (DOp×List Nat)}{B:List (Nat×Rd)}(hg:Zl ρ o.guard=sO true){x:Opd}(hk:o.k=.panic x){p:Prop}{t:TypeId}{d:D}(ha:ZC ρ true x=sO (p,.d (.iface t d)))(hp:p)(h:Y6 F [] [] (.iface t d) s):DOA F kp dk ((o,f)::os) ρ L s B:=by
 refine ZcB (fun _ _=>False) (by rw[hk];rfl) (fun ρ' L' os' c hcont=>?_) (fun e s2 h=>h.elim)
 have h1:Zz ρ ρ' (ZR x):=fun t ht=>c t (by simp[ZA,hk,Yq,ht])
 have h3:Zz ρ ρ' (Zdp o.guard):=fun t ht=>c t (by simp[ZA,ht])
 exact Zk3 (by rw[We h3];exact hg) hk (by rw[ZQ h1];exact ha) hp (h.weak _ _)
theorem Zeh{F:Fr P}{dk:List Zi}{o:DOp}{f:List Nat}{os:List (DOp×List Nat)}{B:List (Nat×Rd)}(hg:Zl ρ o.guard=sO false)(hk:Y5 o.k=false){e:E}(h:DOA F kp dk os (Zt ρ o.dst (.when false e)) L s (YX f B)):DOA F kp dk ((o,f)::os) ρ L s B:=by
 refine ZcB (fun e' s'=>e'=.when false e∧s'=s) hk (fun ρ' L' os' i c=>?_) (fun e s2 ⟨h1,h2⟩=>by subst h1;subst h2;exact⟨Zc8 _ _ _ _,h⟩)
 have h3:Zz ρ ρ' (Zdp o.guard):=fun t ht=>i t (by simp[ZA,ht])
 exact Q1 (by rw[We h3];exact hg) (c _ _ ⟨rfl,rfl⟩)
theorem ZlO{F:Fr P}{dk:List Zi}{o:DOp}{f:List Nat}{os:List (DOp×List Nat)}{B:List (Nat×Rd)}{c:Bool}(hg:Zl ρ o.guard=sO c){fx:Opd}(hk:o.k=.call fx xs){p q:Prop}{fi:FuncId}{first caps:List D}{es:List E}(hf:ZC ρ c fx=sO (q,.d (.fn (.func fi) first caps)))(ha:Yd ρ c xs=sO (p,es))(hds:W2 es=sO ds){d:D}(hc:c=true→p∧q∧Zc P fi (first++ds++caps) d)(h:DOA F kp dk os (Zt ρ o.dst (.when c (.d d))) L s (YX f B)):DOA F kp dk ((o,f)::os) ρ L s B:=by
 refine ZcB (fun e' s'=>e'=.when c (.d d)∧s'=s) (by rw[hk];rfl) (fun ρ' L' os' i j=>?_) (fun e s2 ⟨h1,h2⟩=>by subst h1;subst h2;exact⟨Zc8 _ _ _ _,h⟩)
 have h1:Zz ρ ρ' (ZR fx):=fun t ht=>i t (by simp[ZA,hk,Yq,ht])
 have h2:Zz ρ ρ' (Za2 xs):=fun t ht=>i t (by simp[ZA,hk,Yq,ht])
 have h3:Zz ρ ρ' (Zdp o.guard):=fun t ht=>i t (by simp[ZA,ht])
 exact ZbO (by rw[We h3];exact hg) hk (by rw[ZQ h1];exact hf) (by rw[W0 h2];exact ha) hds hc (j _ _ ⟨rfl,rfl⟩)
theorem ZhT{F:Fr P}{dk:List Zi}{o:DOp}{f:List Nat}{os:List (DOp×List Nat)}{B:List (Nat×Rd)}(hg:Zl ρ o.guard=sO true){fx:Opd}(hk:o.k=.call fx xs){p q:Prop}{fi:FuncId}{first caps:List D}{es:List E}(hf:ZC ρ true fx=sO (q,.d (.fn (.func fi) first caps)))(ha:Yd ρ true xs=sO (p,es))(hds:W2 es=sO ds)(hp:p)(hq:q){d:D}(hc:Zc P fi (first++ds++caps) d)(h:DOA F kp dk os (Zt ρ o.dst (.d d)) L s (YX f B)):DOA F kp dk ((o,f)::os) ρ L s B :=
 ZgN hg hk hf ha hds hp hq (hc s) (fun d' s' ⟨h1,h2⟩=>by simp only[Res.ret.injEq]at h1;subst h1;subst h2;exact⟨Zc8 _ _ _ _,h⟩) (fun d' s' ⟨h1,_⟩=>by simp at h1)
end
section
variable {P:Program}
def Zbf(P:Program)(w:World)(size m:Nat)(x:Value)(news:List Value):Prop :=
 (∀w2,(Builtin.lenOf x).run P w2=.ok m w2)∧∀w2:World,w2.heap=w.heap→(Builtin.firstCells size m x).run P w2=.ok news.toArray w2
theorem ZoN{t u ty e:TypeId}{tu:TypeDesc}{i:TypeInfo}(ht:P.underlying t=sO (.slice e))(hu:P.underlying u=sO tu)(hnu:∀k,tu≠.int k)(hi:P.info? e=sO i){base:Option Addr}{n cap:Nat}{x:Value}(hx:Zbf P w i.size 0 x [])(hroom:n≤cap):(Builtin.append_ #[t,u] ty #[.slice base n cap,x]).run P w=.ok (.slice base n cap) w:=by
 obtain⟨h1,h2⟩:=hx
 have h2:=h2 w rfl
 have hz:(match tu with|.int _=>true|_=>false)=false:=by cases tu<;>first|rfl|exact absurd rfl (hnu _)
 cases base with
 |none=>simp[Builtin.append_,run_underlying ht,run_underlying hu,hz,sizeOf,typeInfo,hi,h1,h2,hroom]
 |some a=>simp[Builtin.append_,run_underlying ht,run_underlying hu,hz,sizeOf,typeInfo,hi,h1,h2,hroom,storeCells]
theorem ZqH{t u ty e:TypeId}{tu:TypeDesc}{i:TypeInfo}(ht:P.underlying t=sO (.slice e))(hu:P.underlying u=sO tu)(hnu:∀k,tu≠.int k)(hi:P.info? e=sO i){g n cap m:Nat}{x:Value}{news:List Value}(hx:Zbf P w i.size m x news){cur:Array Value}{T:TypeId}(hg:w.heap[g]?=sO (.cells cur T (0,0)))(h1:∀u∈news,u.oneCell'=true)(hroom:n+m≤cap)(hfit:n*i.size+news.length≤cur.size):
  (Builtin.append_ #[t,u] ty #[.slice (sO ⟨g,0,nO⟩) n cap,x]).run P w =
   .ok (.slice (sO ⟨g,0,nO⟩) (n+m) cap) (w.setRow g (cur.toList.take (n*i.size)++news++cur.toList.drop (n*i.size+news.length)).toArray):=by
 obtain⟨v,c⟩:=hx
 have c:=c w rfl
 have hz:(match tu with|.int _=>true|_=>false)=false:=by cases tu<;>first|rfl|exact absurd rfl (hnu _)
 have j:=run_storeCells_at P g (n*i.size) T news 0 cur w hg (by simpa using hfit) h1
 simp only[Nat.add_zero]at j
 simp[Builtin.append_,run_underlying ht,run_underlying hu,hz,sizeOf,typeInfo,hi,v,c,hroom,Addr.add_lit,j]
theorem Zld{t u ty e:TypeId}{tu:TypeDesc}{i:TypeInfo}{z:Value}(ht:P.underlying t=sO (.slice e))(hu:P.underlying u=sO tu)(hnu:∀k,tu≠.int k)(hi:P.info? e=sO i)(hz':i.zero=sO z){base:Option Addr}{n cap m:Nat}{x:Value}{olds news:List Value}(hx:Zbf P w i.size m x news)(ho:∀w2:World,w2.heap=w.heap→(Builtin.firstCells i.size n (.slice base n cap)).run P w2=.ok olds.toArray w2)(hg:cap<n+m)(h63:((n+m:Nat):Int)≤9223372036854775807)(hfit:(n+m)*i.bytes≤140737488355328):
  (Builtin.append_ #[t,u] ty #[.slice base n cap,x]).run P w =
   .ok (.slice (sO ⟨w.heap.size,0,nO⟩) (n+m) (grownCap w (n+m) cap e))
    (w.drew.alloc (.cells (olds++news++(Builtin.zeroCells z.cells (grownCap w (n+m) cap e-(n+m))).toList).toArray e)):=by
 obtain⟨y,c⟩:=hx
 have c:=c w.drew rfl
 have ho:=ho w.drew rfl
 have hz:(match tu with|.int _=>true|_=>false)=false:=by cases tu<;>first|rfl|exact absurd rfl (hnu _)
 have hn:¬(n+m≤cap):=by omega
 have v:¬(9223372036854775807<((n:Int)+(m:Int))):=by omega
 have hf:=growslice_fits hg hfit
 have j:¬(281474976710656<Builtin.nextslicecap (n+m) cap*i.bytes):=by omega
 simp[Builtin.append_,run_underlying ht,run_underlying hu,hz,sizeOf,typeInfo,zeroValue,hi,hz',y,hn,v,j,Question.forced,c,ho,newRow,grownCap]
 congr 2
 apply Array.ext'
 simp[ZFt]
end
structure WW(g:G)(w:World)(sz n:Nat)(vals:List Value)(row:Nat→List D):Prop where
 len:vals.length=n*sz
 rlen:∀i,i<n→(row i).length=sz
 rep:∀(i j:Nat) (v:Value) (d:D),i<n→j<sz→vals[i*sz+j]?=some v→(row i)[j]?=some d→Rep g w v d
 one:∀v∈vals,v.one1=true
def YT(n:Nat)(row row2:Nat→List D):Nat→List D:=fun i=>if i<n then row i else row2 (i-n)
theorem WW.append{sz n m:Nat}{a b:List Value}{row row2:Nat→List D}(ha:WW g w sz n a row)(hb:WW g w sz m b row2):WW g w sz (n+m) (a++b) (YT n row row2):={
 len:=by rw[ZE1,ha.len,hb.len,ZFk]
 rlen i hi:=by
  unfold YT
  split
  ·rename_i h;exact ha.rlen i h
  exact hb.rlen (i-n) (by omega)
 rep i j v d hi hj hv hd:=by
  unfold YT at hd
  split at hd
  ·rename_i h
   have:i*sz+j<a.length:=by
    rw[ha.len]
    have:=ZFg sz (show i+1≤n from h)
    rw[ZFk,Nat.one_mul]at this;omega
   rw[ZFp this]at hv
   exact ha.rep i j v d h hj hv hd
  rename_i h
  have e:i*sz+j-a.length=(i-n)*sz+j:=by
   rw[ha.len,Nat.sub_mul]
   have:=ZFg sz (show n≤i by omega)
   omega
  have c:a.length≤i*sz+j:=by
   rw[ha.len]
   have:=ZFg sz (show n≤i by omega)
   omega
  rw[ZFz c,e]at hv
  exact hb.rep (i-n) j v d (by omega) hj hv hd
 one v hv:=by
  rcases List.mem_append.1 hv with h|h
  ·exact ha.one v h
  exact hb.one v h }
theorem WW.mono{g g':G}{w w':World}{sz n:Nat}{a:List Value}(h:WW g w sz n a row)(e:Ext g w g' w'):WW g' w' sz n a row :=
 ⟨h.len,h.rlen,fun i j v d hi hj hv hd=>(h.rep i j v d hi hj hv hd).mono e,h.one⟩
theorem ZaG{b o:Nat}{cs:Array Value}{T:TypeId}{fr:Nat×Nat}(h:w.heap[b]?=sO (.cells cs T fr)):w.cell? ⟨b,o,nO⟩=cs[o]?:=by
 unfold World.cell?;simp[h]
section
variable {P:Program}
theorem Zhm{v:Value}{t:Tok}{n sz:Nat}(h:Rep g w v (.sl t n sz row))(hsz:0<sz):
  ∃vals,WW g w sz n vals row∧Zbf P w sz n v vals:=by
 cases h with
 |sl0 a t s row ht =>
  refine⟨[],⟨by simp,fun i hi=>by omega,fun i j v d hi=>by omega,by simp⟩,fun w2=>by simp[Builtin.lenOf],fun w2 _=>by cases a<;>simp[Builtin.firstCells,loadCells,loadCellsFrom]⟩
 |sl b o n cap s row t f hl hc hp hr one ht hcap hb =>
  let vals:=(ZE4 (n*sz)).map fun k=>f (k / sz) (k % sz)
  have hk:∀k,k<n*sz→k / sz<n∧k % sz<sz:=fun k hk=>⟨(Nat.div_lt_iff_lt_mul hsz).2 hk,Nat.mod_lt _ hsz⟩
  have c:∀k v,vals[k]?=sO v→k<n*sz∧v=f (k / sz) (k % sz):=fun k v hv=>by
   simp only[vals,List.getElem?_map,ZE3]at hv
   obtain⟨k',h1,h2⟩:=hv
   obtain⟨h3,h4⟩:=List.getElem?_eq_some_iff.1 h1
   simp only[List.getElem_range]at h4
   subst h4
   exact⟨by simpa using h3,h2.symm⟩
  refine⟨vals,⟨by simp[vals],hl,fun i j v d hi hj hv hd=>?_,fun v hv=>?_⟩,fun w2=>by simp[Builtin.lenOf],fun w2 z=>?_⟩
  ·obtain⟨_,rfl⟩:=c _ _ hv
   have e1:(i*sz+j) / sz=i:=by rw[Nat.mul_comm,Nat.mul_add_div hsz,Nat.div_eq_of_lt hj,Nat.add_zero]
   have e2:(i*sz+j) % sz=j:=by rw[Nat.mul_comm,Nat.mul_add_mod,Nat.mod_eq_of_lt hj]
   rw[e1,e2]
   exact hr i j d hi hd
  ·obtain⟨k,y,rfl⟩:=ZFa hv
   obtain⟨h1,h2⟩:=c k _ (ZFq y)
   rw[h2]
   exact one _ _ (hk k h1).1 (hk k h1).2
  refine run_firstCells_some (P:=P) w2 sz n ⟨b,o,nO⟩ n cap vals (by simp[vals]) fun k v hv=>?_
  obtain⟨h1,h2⟩:=c k v hv
  have u:(⟨b,o,nO⟩:Addr).add k=⟨b,o+k,nO⟩:=Ka b o k
  rw[u]
  have h3:=hc (k / sz) (k % sz) (hk k h1).1 (hk k h1).2
  have e:o+k / sz*sz+k % sz=o+k:=by rw[Nat.add_assoc,Nat.mul_comm,Nat.div_add_mod]
  rw[e]at h3
  rw[h2,←h3]
  unfold World.cell?;simp only[z]
theorem Znn{sz n cap b:Nat}{vals:List Value}(h:WW g w sz n vals row){cur:Array Value}{T:TypeId}(hb:w.heap[b]?=sO (.cells cur T (0,0)))(ht:cur.toList.take (n*sz)=vals)(hn:n≤cap)(hcap:cap*sz≤cur.size)(hp:g.prot b=n*sz)(hbig:cap≤big):Rep g w (.slice (sO ⟨b,0,nO⟩) n cap) (.sl (.tip b) n sz row):=by
 have t:∀i j,i<n→j<sz→i*sz+j<n*sz:=fun i j hi hj=>by
  have:=ZFg sz (show i+1≤n from hi)
  rw[ZFk,Nat.one_mul]at this;omega
 have hle:n*sz≤cur.size:=Nat.le_trans (ZFg sz hn) hcap
 have c:∀i j,i<n→j<sz→cur[i*sz+j]?=sO (cur.getD (i*sz+j) undef)∧vals[i*sz+j]?=sO (cur.getD (i*sz+j) undef):=fun i j hi hj=>by
  have h1:=t i j hi hj
  have h2:i*sz+j<cur.size:=by omega
  have e:cur[i*sz+j]?=sO (cur.getD (i*sz+j) undef):=by simp[Array.getD,h2]
  refine⟨e,?_⟩
  rw[←ht,ZFu,if_pos h1,Array.getElem?_toList];exact e
 refine .sl b 0 n cap sz row (.tip b) (fun i j=>cur.getD (i*sz+j) undef) h.rlen (fun i j hi hj=>?_) (fun i j hi hj=>?_) (fun i j d hi hd=>?_) (fun i j hi hj=>?_) ⟨rfl,rfl,T,cur.size,?_,hcap⟩ hn hbig
 ·rw[ZaG hb,Nat.zero_add];exact(c i j hi hj).1
 ·rw[hp,Nat.zero_add];exact t i j hi hj
 ·have hj:j<sz:=by rw[←h.rlen i hi];exact(List.getElem?_eq_some_iff.1 hd).1
  exact h.rep i j _ d hi hj (c i j hi hj).2 hd
 ·exact h.one _ (List.mem_of_getElem? (c i j hi hj).2)
 simp[hdr,hb]
end
def St.own(s:St)(t:Tok)(k:Nat):St :=
 match t with
 |.tip b=>s.upd b (.tip k)
 |_=>s
def Tok.okIn(t:Tok)(s:St):Prop :=
 match t with
 |.tip b=>s b=Option.none
 |.full=>True
 |.none=>False
theorem Wm{t:Tok}{k:Nat}(h:t.okIn s):s.sub (s.own t k):=by
 intro b o ho
 cases t with
 |tip c =>
  simp only[St.own,ZFr]
  by_cases hb:b=c
  ·subst hb;simp only[Tok.okIn]at h;rw[h]at ho;simp at ho
  simp only[hb,if_false];exact ho
 |_=>exact ho
theorem Ym.upd(h:Ym g s w){b:Nat}{o:Ya}(ho:WO g w b o)(hk:¬g.kept b):Ym g (s.upd b o) w:={
 obj c x hx:=by
  simp only[ZFr]at hx
  by_cases hb:c=b
  ·simp only[hb,if_true,ZEP]at hx;subst hx;rw[hb];exact ho
  simp only[hb,if_false]at hx;exact h.obj c x hx
 kept c x hx:=by
  simp only[ZFr]at hx
  by_cases hb:c=b
  ·rw[hb];exact hk
  simp only[hb,if_false]at hx;exact h.kept c x hx
 fresh:=h.fresh
 tabs:=h.tabs }
def Zck(g:G)(b k:Nat):G:={ g with prot:=fun c=>if c=b then k else g.prot c }
theorem Zxy(c:Array Value)(T:TypeId)(k:Nat)(hf:∀b,w.heap.size≤b→g.prot b=0∧¬g.kept b):JR g w (Zck g w.heap.size k) (w.drew.alloc (.cells c T)):={
 size:=by simp
 old b hb:=(by first|exact heap_alloc_old w.drew _ b hb|exact heap_alloc_old w.drew _ hb)
 prot b hb:=by simp[Zck,show ¬b=w.heap.size by omega]
 fresh b hb:=by
  have:(w.drew.alloc (.cells c T)).heap.size=w.heap.size+1:=by simp
  rw[this]at hb
  simp only[Zck,show ¬b=w.heap.size by omega,if_false]
  exact(hf b (by omega)).1
 kept:=rfl
 os:=rfl
 output:=rfl
 tape:=rfl }
theorem Rep.slRow{v:Value}{t:Tok}{n sz:Nat}{row row':Nat→List D}(h:Rep g w v (.sl t n sz row))(hr:∀i,i<n→row' i=row i):Rep g w v (.sl t n sz row'):=by
 cases h with
 |sl0 a t s row ht=>exact .sl0 a t sz row' ht
 |sl b o n cap s row t f hl hc hp hrep one ht hcap hb =>
  exact .sl b o n cap sz row' t f (fun i hi=>by rw[hr i hi];exact hl i hi) hc hp (fun i j d hi hd=>hrep i j d hi (by rw[←hr i hi];exact hd)) one ht hcap hb
section
variable {P:Program}
theorem ZyD{sz k:Nat}{vals rest:List Value}{T:TypeId}{cap:Nat}(hs:Ym g s w)(hr:WW g w sz k vals row)(hn:k≤cap)(hrest:vals.length+rest.length=cap*sz)(hbig:cap≤big):
  let w':=w.drew.alloc (.cells (vals++rest).toArray T)
  let g':=Zck g w.heap.size (k*sz)
  JR g w g' w'∧Ym g' (s.own (.tip w.heap.size) (k*sz)) w'∧(Tok.tip w.heap.size).okIn s∧Rep g' w' (.slice (sO ⟨w.heap.size,0,nO⟩) k cap) (.sl (.tip w.heap.size) k sz row):=by
 intro w' g'
 have hg:JR g w g' w':=Zxy _ T _ hs.fresh
 have c:w'.heap[w.heap.size]?=sO (.cells (vals++rest).toArray T (0,0)):=heap_alloc_new w.drew _
 have hp:g'.prot w.heap.size=k*sz:=by simp[g',Zck]
 have j:k*sz≤(vals++rest).toArray.size:=by
  have:=ZFg sz hn
  simp only[List.size_toArray,ZE1];omega
 refine⟨hg,(hs.grow hg).upd ⟨hp,_,T,c,j⟩ (fun h=>(hs.fresh _ (ZE6 _)).2 h),?_,?_⟩
 ·simp only[Tok.okIn]
  cases i:s w.heap.size with
  |none=>rfl
  |some o=>have:=(hs.obj _ o i).lt;omega
 refine Znn (hr.mono (hg.ext hs.fresh)) c ?_ hn ?_ hp hbig
 ·rw[←hr.len];simp
 simp only[List.size_toArray,ZE1];omega
theorem ZqG{t:Tok}{sz n m:Nat}{v1 v2:Value}{row row2:Nat→List D}{tT u ty e:TypeId}{tu:TypeDesc}{i:TypeInfo}{z:Value}(ht:P.underlying tT=sO (.slice e))(hu:P.underlying u=sO tu)(hnu:∀k,tu≠.int k)(hi:P.info? e=sO i)(hz:i.zero=sO z)(hsz:i.size=sz)(hzc:z.cells.size=sz)(h0:0<sz)(hs:Ym g (s.own t (n*sz)) w)(hok:t.okIn s)(h1:Rep g w v1 (.sl t n sz row)){news:List Value}(h2:WW g w sz m news row2)(h3:Zbf P w sz m v2 news)(hb:(n+m)*i.bytes≤140737488355328)(hbig:n+m≤big):
  ∃v' w' g' t',(Builtin.append_ #[tT,u] ty #[v1,v2]).run P w=.ok v' w'∧Ext g w g' w'∧Ym g' (s.own t' ((n+m)*sz)) w'∧t'.okIn s∧Rep g' w' v' (.sl t' (n+m) sz (YT n row row2)) ∧
   (∀b,b<w.heap.size→t≠.tip b→w'.heap[b]?=w.heap[b]?∧g'.prot b=g.prot b)∧∀b,t'=.tip b→t=.tip b∨w.heap.size≤b:=by
 subst hsz
 have ah:Ym g s w:=hs.sub (Wm hok)
 obtain⟨ao,a8,ho1,a5⟩:=Zhm (P:=P) h1 h0
 have ak:=a8.append h2
 have ai:∀ac j,v1=.slice ac n j→j<n+m→∃v' w' g' t',(Builtin.append_ #[tT,u] ty #[v1,v2]).run P w=.ok v' w'∧Ext g w g' w'∧Ym g' (s.own t' ((n+m)*i.size)) w'∧t'.okIn s ∧
   Rep g' w' v' (.sl t' (n+m) i.size (YT n row row2))∧(∀b,b<w.heap.size→t≠.tip b→w'.heap[b]?=w.heap[b]?∧g'.prot b=g.prot b)∧∀b,t'=.tip b→t=.tip b∨w.heap.size≤b:=by
  intro ac j hv a9
  subst hv
  have ag:=Zld (ty:=ty) ht hu hnu hi hz h3 a5 a9 (by simp only[big]at hbig;omega) hb
  have bf:=grownCap_ge w (n+m) j e
  have ar:=grownCap_le_maxLen w (n+m) j e (by simp only[big]at hbig;simp only[maxLen];omega)
  have hn:=ZyD (T:=e) (rest:=(Builtin.zeroCells z.cells (grownCap w (n+m) j e-(n+m))).toList) ah ak bf (by
   simp only[Array.length_toList,size_zeroCells,hzc,ak.len,←ZFk];congr 1;omega) (by simp only[maxLen]at ar;simp only[big];omega)
  obtain⟨a1,a2,a3,a4⟩:=hn
  exact⟨_,_,_,_,ag,a1.ext ah.fresh,a2,a3,a4,fun b hb _=>⟨a1.old b hb,a1.prot b hb⟩,fun b hb=>.inr (by simp only[Tok.tip.injEq]at hb;omega)⟩
 have ap:∀ac j,v1=.slice ac n j→m=0→n≤j→∃v' w' g' t',(Builtin.append_ #[tT,u] ty #[v1,v2]).run P w=.ok v' w'∧Ext g w g' w'∧Ym g' (s.own t' ((n+m)*i.size)) w'∧t'.okIn s ∧
   Rep g' w' v' (.sl t' (n+m) i.size (YT n row row2))∧(∀b,b<w.heap.size→t≠.tip b→w'.heap[b]?=w.heap[b]?∧g'.prot b=g.prot b)∧∀b,t'=.tip b→t=.tip b∨w.heap.size≤b:=by
  intro ac j hv hm ar
  subst hv;subst hm
  have bb:news=[]:=List.eq_nil_of_length_eq_zero (by simpa using h2.len)
  subst bb
  exact⟨_,_,g,t,ZoN (ty:=ty) ht hu hnu hi h3 ar,Ext.refl g w,hs,hok,h1.slRow fun i hi=>by simp only[YT,if_pos (show i<n from hi)],fun _ _ _=>⟨rfl,rfl⟩,fun b hb=>.inl hb⟩
 cases h1 with
 |sl0 a t s row htt =>
  by_cases hm:m=0
  ·exact ap a 0 rfl hm (ZE6 _)
  exact ai a 0 rfl (by omega)
 |sl b o n j sz row t f hl hc hp hr one htok hcap hb' =>
  have ba:=ai (sO ⟨b,o,nO⟩) j rfl
  have a7:=ap (sO ⟨b,o,nO⟩) j rfl
  by_cases hm:m=0
  ·exact a7 hm hcap
  by_cases ab:n+m≤j
  case neg=>exact ba (by omega)
  cases t with
  |none=>exact hok.elim
  |full=>simp only[ZjM]at htok;omega
  |tip tb =>
   obtain⟨rfl,rfl,T0,m0,hh,hm0⟩:=htok
   have az:=hs.obj b (.tip (n*i.size)) (by simp[St.own,ZFr])
   have ad:=hs.kept b (.tip (n*i.size)) (by simp[St.own,ZFr])
   obtain⟨ay,y,T,ae,hb2⟩:=az
   have av:j*i.size≤y.size:=by
    simp only[hdr,ae,ZEP,ZE2]at hh
    omega
   have ax:n*i.size+news.length≤y.size:=by
    rw[h2.len,←ZFk];exact Nat.le_trans (ZFg _ ab) av
   have ag:=ZqH (ty:=ty) ht hu hnu hi h3 ae (fun v hv=>by rw[ZcQ];exact h2.one v hv) ab ax
   have am:∀k v,(y.toList.take (n*i.size))[k]?=sO v→w.cell? ((⟨b,0,nO⟩:Addr).add k)=sO v:=fun k v hv=>by
    rw[Ka,ZaG ae,Nat.zero_add]
    rw[ZFu]at hv
    split at hv
    ·simpa using hv
    simp at hv
   have aw:ao=y.toList.take (n*i.size):=by
    have h:=run_firstCells_some (P:=P) w i.size n ⟨b,0,nO⟩ n j (y.toList.take (n*i.size)) (by simp;omega) am
    rw[a5 w rfl]at h
    simpa using h
   generalize au:y.toList.take (n*i.size)++news++y.toList.drop (n*i.size+news.length)=nw at ag
   have aq:nw.length=y.size:=by
    rw[←au];simp only[ZE1,ZE9,ZFw,Array.length_toList];omega
   have al:=setRow_heap w b y nw.toArray T (0,0) ae
   have aj:∀c,c≠b→(w.setRow b nw.toArray).heap[c]?=w.heap[c]?:=fun c hc=>setRow_other w b c _ hc
   have a0:(w.setRow b nw.toArray).heap.size=w.heap.size:=by simp[World.setRow]
   have bc:n*i.size≤(n+m)*i.size:=ZFg _ (by omega)
   have af:Ext g w (Zck g b ((n+m)*i.size)) (w.setRow b nw.toArray):=by
    refine⟨by omega,fun c=>?_,fun c o ho=>?_,fun c x hx=>?_,fun c hc=>aj c (fun h=>ad (h▸hc)),fun c hc=>?_,rfl,rfl,rfl,rfl⟩
    ·simp only[Zck]
     split
     ·rename_i h;rw[h,ay];exact bc
     exact ZE6 _
    ·by_cases hc:c=b
     ·subst hc
      rw[ZaG al,ZaG ae]
      rw[ay]at ho
      have:o<(y.toList.take (n*i.size)).length:=by simp;omega
      rw[List.getElem?_toArray,←au,ZFt,ZFp this,ZFu,if_pos ho]
      simp
     exact JC (aj c hc)
    ·by_cases hc:c=b
     ·subst hc
      simp only[hdr,ae]at hx
      simp only[hdr,al,List.size_toArray,aq];exact hx
     rw[Zbj (aj c hc)];exact hx
    simp only[Zck]
    split
    ·rename_i h;exact absurd hc (h▸ad)
    rfl
   have a6:(Zck g b ((n+m)*i.size)).prot b=(n+m)*i.size:=by simp[Zck]
   refine⟨_,_,Zck g b ((n+m)*i.size),.tip b,ag,af,?_,hok,?_,fun c _ hc=>?_,fun c hc=>.inl hc⟩
   ·refine⟨fun c x hx=>?_,fun c x hx=>?_,fun c hc=>?_,fun n cs hc=>(ah.tabs n cs hc).mono af⟩
    ·by_cases hc:c=b
     ·subst hc
      simp only[St.own,ZFr,if_true,ZEP]at hx
      subst hx
      refine⟨a6,_,T,al,?_⟩
      simp only[List.size_toArray,aq]
      exact Nat.le_trans (ZFg _ ab) av
     simp only[St.own,ZFr,hc,if_false]at hx
     exact(ah.obj c x hx).mono af (aj c hc) (by simp[Zck,hc])
    ·by_cases hc:c=b
     ·rw[hc];exact ad
     simp only[St.own,ZFr,hc,if_false]at hx
     exact ah.kept c x hx
    rw[a0]at hc
    have hbl:b<w.heap.size:=(Array.getElem?_eq_some_iff.1 ae).1
    simp only[Zck,show ¬c=b by omega,if_false]
    exact ah.fresh c hc
   ·refine Znn (ak.mono af) al ?_ ab (by simp only[List.size_toArray,aq];exact av) a6 hb'
    have be:(ao++news).length=(n+m)*i.size:=ak.len
    rw[←au,aw,←be,aw]
    exact List.take_left
   have:c≠b:=fun h=>hc (by rw[h])
   exact⟨aj c this,by simp[Zck,this]⟩
end
end Go.DL
namespace Go.DL
open Go Go.Lib
variable [Zqw]
def Jc(s:Nat):D→Option (Nat×(Nat→List D))
 |.nilsl=>sO (0,fun _=>[])
 |.sl _ m s' row=>if s'=s then sO (m,row) else nO
 |.str l=>if s=1 then sO (l.length,fun i=>[.int .u8 ((l.getD i 0).toNat:Int)]) else nO
 |_=>nO
def ZbD(s:Nat):D→Option (Tok×Nat×(Nat→List D))
 |.nilsl=>sO (.full,0,fun _=>[])
 |.sl t n s' row=>if s'=s then sO (t,n,row) else nO
 |_=>nO
theorem Zgf{g:G}{w:World}{v:Value}{d:D}{sz n:Nat}{t:Tok}{row:Nat→List D}(h:Rep g w v d)(he:ZbD sz d=sO (t,n,row)):Rep g w v (.sl t n sz row):=by
 cases d<;>simp only[ZbD,reduceCtorEq]at he
 ·simp only[ZEP,ZE2]at he
  obtain⟨rfl,rfl,rfl⟩:=he
  cases h
  exact .sl0 _ _ _ _ (by simp)
 split at he<;>simp only[ZEP,ZE2,reduceCtorEq]at he
 rename_i hs
 obtain⟨rfl,rfl,rfl⟩:=he
 subst hs;exact h
section
variable {P:Program}
theorem ZbR{op:Op}{e s b:Nat}{z:List D}{x y:Opd}(h:ck P op=sO (.append e s b z x y)) :
  ∃x' y' args ats t1 t2 tu,op=.call ⟨.builtin .append,args,ats⟩∧args.toList=[x',y']∧ats[0]?=sO t1∧ats[1]?=sO t2∧P.underlying t1=sO (.slice e)∧P.underlying t2=sO tu∧(∀k,tu≠.int k) ∧
   ZW P e=sO s∧Zaz P e=sO z∧b=P.bytesOf e∧Z3 x'=sO x∧Z3 y'=sO y∧0<s∧z.length=s:=by
 unfold ck at h
 split at h
 ·simp at h
 split at h<;>(try(simp at h;done))
 all_goals (try(repeat' (split at h<;>(try(simp at h;done)))))
 all_goals
  simp only[ZEP,K.append.injEq]at h
  obtain⟨rfl,rfl,rfl,rfl,rfl,rfl⟩:=h
 ·rename_i c _ _ j _ _ _ e' x' y' h0 n _ _ _ _ s' z' l' c' u ab v ac t2 el h1 i
  obtain⟨t1,g1,g2⟩:=Option.bind_eq_some_iff.1 h0
  obtain⟨t3,g3,g4⟩:=Option.bind_eq_some_iff.1 h1
  simp only[ZEY,decide_eq_true_eq]at i
  obtain⟨t,args,ats⟩:=c
  simp only at j
  subst j
  exact⟨x',y',args,ats,t1,t3,_,rfl,n,g1,g3,g2,g4,fun k h=>by simp at h,u,ab,rfl,v,ac,i.1,i.2⟩
 rename_i c _ _ j _ _ _ e' x' y' h0 n _ _ _ _ s' z' l' c' u ab v ac t2 h1 i
 obtain⟨t1,g1,g2⟩:=Option.bind_eq_some_iff.1 h0
 obtain⟨t3,g3,g4⟩:=Option.bind_eq_some_iff.1 h1
 simp only[ZEY,decide_eq_true_eq]at i
 obtain⟨t,args,ats⟩:=c
 simp only at j
 subst j
 exact⟨x',y',args,ats,t1,t3,_,rfl,n,g1,g3,g2,g4,fun k h=>by simp at h,u,ab,rfl,v,ac,i.1,i.2⟩
theorem Zlk{g:G}{w:World}{v:Value}{d:D}{sz m:Nat}{row:Nat→List D}(h:Rep g w v d)(he:Jc sz d=sO (m,row))(h0:0<sz):∃news,WW g w sz m news row∧Zbf P w sz m v news:=by
 cases d with
 |nilsl =>
  simp only[Jc,ZEP,ZE2]at he
  obtain⟨rfl,rfl⟩:=he
  cases h
  exact⟨[],⟨by simp,fun i hi=>by omega,fun i j v d hi=>by omega,by simp⟩,fun w2=>by simp[Builtin.lenOf],fun w2 _=>by simp[Builtin.firstCells]⟩
 |sl t n s' row' =>
  simp only[Jc]at he
  split at he<;>simp only[ZEP,ZE2,reduceCtorEq]at he
  rename_i hs
  obtain⟨rfl,rfl⟩:=he
  subst hs
  exact Zhm h h0
 |str l =>
  simp only[Jc]at he
  split at he<;>simp only[ZEP,ZE2,reduceCtorEq]at he
  rename_i hs
  obtain⟨rfl,rfl⟩:=he
  subst hs
  cases h with
  |str s _ hl hb =>
   subst hl
   have c:s.size=s.data.toList.length:=by rw[Array.length_toList];rfl
   refine⟨strCells s,⟨by simp[strCells],fun i hi=>rfl,fun i j v d hi hj hv hd=>?_,fun v hv=>by rw[←ZcQ];exact strCells_oneCell s v hv⟩,fun w2=>by simp only[Builtin.lenOf,Sem.run_pure,c],fun w2 _=>?_⟩
   ·obtain rfl:j=0:=by omega
    simp only[Nat.mul_one,Nat.add_zero,strCells,List.getElem?_map,ZE3]at hv
    obtain⟨b,u,rfl⟩:=hv
    simp only[List.getElem?_cons_zero,ZEP]at hd
    subst hd
    have:s.data.toList.getD i 0=b:=by simp only[ZE8,u,ZFs]
    rw[this]
    exact .int .u8 _ (Zrr b)
   rw[←c];exact run_firstCells_string w2 1 s
 |_=>simp[Jc]at he
theorem ZoG{F:Fr P}{kp:Option (List Nat)}{dk:List Zi}{o:DOp}{os:List DOp}{ρ:Env}{L:Loc}{s:St}(hg:Zl ρ o.guard=sO true){e sz b:Nat}{z:List D}{x y:Opd}(hk:o.k=.append e sz b z x y)
  {p q:Prop} {t:Tok} {n m:Nat} {row row2:Nat→List D} {dy:D} {dx:D} (hx:ZC ρ true x=sO (p,.d dx)) (hsl:ZbD sz dx=sO (t,n,row)) (hy:ZC ρ true y=sO (q,.d dy)) (hp:p) (hq:q) (hel:Jc sz dy=sO (m,row2)) (hok:t.okIn s)
  (hb:(n+m)*b≤140737488355328) (hbig:n+m≤big) (h:∀t':Tok,t'.okIn s→DO F kp dk os (Zt ρ o.dst (.d (.sl t' (n+m) sz (YT n row row2)))) L (s.own t' ((n+m)*sz))) :
  DO F kp dk (o::os) ρ L (s.own t (n*sz)):=by
 refine Wn fun oo g ν w tmps bb i r k ax u aj ae hd hN M hr ba=>?_
 have hw:=Yf M aj hg
 have ay:=Yi u (by rw[hk];rfl)
 rw[hk]at u
 obtain⟨x',y',af,au,t1,t2,tu,aw,c,bc,am,bf,az,a9,ar,hz,ap,al,aq,h0,hzl⟩:=ZbR u
 subst ap
 have ak:Rep g w _ (.sl t n sz row):=Zgf (Yc M al rfl hx hp F.ds) hsl
 have ai:Rep g w _ _:=Yc M aq rfl hy hq F.ds
 obtain⟨zv,hz1,av,hz3,ie,ad,bg⟩:=Q7 (g:=g) (w:=w) hz
 have ab:ie.size=sz:=by simpa[ZW,ad]using ar
 have ac:zv.cells.size=sz:=by have:=av.len;simp at this;omega
 have a0:P.bytesOf e=ie.bytes:=by simp[Program.bytesOf,ad]
 rw[a0]at hb
 obtain⟨news,ao,a8⟩:=Zlk (P:=P) ai hel h0
 obtain⟨v',w',g',t',a1,a2,a3,a4,a5,a6,a7⟩:=ZqG (ty:=oo.type) bf az a9 ad bg ab ac h0 M.st hok ak ao a8 hb hbig
 have j:∀l cs,Zg L l=sO cs→t≠.tip (ν l):=fun l cs hl ht=>by
  have:=M.locSt l cs hl
  rw[ht]at this
  simp[St.own,ZFr]at this
 have ag:∀l cs,Zg L l=sO cs→s (ν l)=nO:=fun l cs hl=>by
  cases hx:s (ν l) with
  |none=>rfl
  |some o=>have:=Wm (k:=n*sz) hok _ _ hx;rw[M.locSt l cs hl]at this;simp at this
 have mm:Zr g' ν w' tmps ρ L (s.own t' ((n+m)*sz)):=by
  refine⟨a3,fun l cs hl=>(M.loc l cs hl).mono a2 (a6 (ν l) (M.loc l cs hl).lt (j l cs hl)).1 (a6 (ν l) (M.loc l cs hl).lt (j l cs hl)).2,fun l cs hl=>by rw[a2.keptEq];exact M.locKept l cs hl,fun l cs hl=>?_,M.inj,fun t e he=>(M.env t e he).mono a2⟩
  cases t' with
  |tip b =>
   have:¬ν l=b:=fun hb=>by
    rcases a7 b rfl with h1|h1
    ·exact j l cs hl (by rw[hb];exact h1)
    have:=(M.loc l cs hl).lt;omega
   simp only[St.own,ZFr,this,if_false];exact ag l cs hl
  |_=>exact ag l cs hl
 refine YK hN ax ae hd hw ay (v:=v') (w':=w') (e:=.d (.sl t' (n+m) sz (YT n row row2))) ?_ a2 mm a5 (h t' a4 bb r k hr ba)
 have be:af = #[x',y']:=by apply Array.ext';simpa using c
 have ah:∀vs,Builtin.append_ au oo.type vs=Builtin.append_ #[t1,t2] oo.type vs:=fun vs=>by
  unfold Builtin.append_;simp[bc,am]
 unfold execOp
 simp only[aw,be,resolve,invoke,builtin,Sem.run_bind,Sem.run_pure,Result.andThen_ok,List.map_toArray,ZE7,ZFo,ah,a1]
theorem ZtX{F:Fr P}{kp:Option (List Nat)}{dk:List Zi}{o:DOp}{fl:List Nat}{os:List (DOp×List Nat)}{ρ:Env}{L:Loc}{s:St}{B:List (Nat×Rd)}(hg:Zl ρ o.guard=sO true){e sz b:Nat}{z:List D}{x y:Opd}(hk:o.k=.append e sz b z x y)
  {p q:Prop} {t:Tok} {n m:Nat} {row row2:Nat→List D} {dy:D} {dx:D} (hx:ZC ρ true x=sO (p,.d dx)) (hsl:ZbD sz dx=sO (t,n,row)) (hy:ZC ρ true y=sO (q,.d dy)) (hp:p) (hq:q) (hel:Jc sz dy=sO (m,row2)) (hok:t.okIn s)
  (hb:(n+m)*b≤140737488355328) (hbig:n+m≤big) (h:∀t':Tok,t'.okIn s→Wg fl (s.own t (n*sz)) (s.own t' ((n+m)*sz)) L L B∧DOA F kp dk os (Zt ρ o.dst (.d (.sl t' (n+m) sz (YT n row row2)))) L (s.own t' ((n+m)*sz)) (YX fl B)) :
  DOA F kp dk ((o,fl)::os) ρ L (s.own t (n*sz)) B:=by
 refine ZcB (fun e' s'=>∃t':Tok,t'.okIn s∧e'=.d (.sl t' (n+m) sz (YT n row row2))∧s'=s.own t' ((n+m)*sz)) (by rw[hk];rfl) (fun ρ' L' os' c i=>?_) (fun e2 s2 ⟨t',h1,h2,h3⟩=>by subst h2;subst h3;exact h t' h1)
 have h1:Zz ρ ρ' (ZR x):=fun t ht=>c t (by simp[ZA,hk,Yq,ht])
 have h2:Zz ρ ρ' (ZR y):=fun t ht=>c t (by simp[ZA,hk,Yq,ht])
 have h3:Zz ρ ρ' (Zdp o.guard):=fun t ht=>c t (by simp[ZA,ht])
 exact ZoG (by rw[We h3];exact hg) hk (by rw[ZQ h1];exact hx) hsl (by rw[ZQ h2];exact hy) hp hq hel hok hb hbig fun t' j=>i _ _ ⟨t',j,rfl,rfl⟩
end
end Go.DL
namespace Go.DL
open Go
variable [Zqw]
variable {kp:Option (List Nat)}{L:Loc}{ρ:Env}{s:St}{w:World}{os:List DOp}{ds:List D}{B:List (Nat × Rd)}{dst:Option Nat}{tmps:Array Value}{g:G}{Φ:Res→St→Prop}{ν:Nat→Nat}{xs:List Opd}{side:Prop}{row:Nat→List D}
def Zvm(os:List DOp):List (DOp×List Nat):=os.map fun o=>(o,[])
section
variable {P:Program}
def QV(F:Fr P)(kp:Option (List Nat))(dk:List Zi)(os:List DOp)(ρ:Env)(L:Loc)(s:St):Prop:=∀B,DOA F kp dk (Zvm os) ρ L s B
theorem Zt2{F:Fr P}{order:List Nat}{ks:Option (List Nat)}{dk:List Zi}(h:QV F ks dk os ρ L s):Zu F (.code (.regD order (Zvm os) ks)::dk) ρ L s:=ZhV (h [])
theorem YZ{F:Fr P}{ks:List Nat}{dk:List Zi}:∀{os:List DOp} {ρ:Env} {L:Loc} {s:St},
  Zie (fun ρ L s=>Zu F dk (Yp ρ ks) (ZaY (Yp ρ ks) L) s) (fun os ρ L s=>QV F (sO ks) dk os ρ L s) os ρ L s→QV F (sO ks) dk os ρ L s
 | [],ρ,L,s,h=>fun B=>ZnC h
 |o::os,ρ,L,s,h=>by
  intro B
  simp only[Zie]at h
  split at h
  ·rename_i sd ρ' L' s' c
   refine Jq c h.1 ?_
   split
   ·exact YZ h.2 _
   exact⟨ZaZ,YZ h.2 _⟩
  ·rename_i sd pre ρ' s' c
   exact ZnB c h.1 fun b hb=>⟨ZaZ,YZ (h.2 b hb) _⟩
  exact h B
theorem ZtW{F:Fr P}{dk:List Zi}{o:DOp}(hg:Zl ρ o.guard=sO true){fx:Opd}(hk:o.k=.call fx xs){p q:Prop}{fd:D}{es:List E}(hf:ZC ρ true fx=sO (q,.d fd))(ha:Yd ρ true xs=sO (p,es))(hds:W2 es=sO ds)(hp:p)(hq:q){Ψ:Res→St→Prop}(hc:WZ P fd ds s Ψ)(hret:∀d s',Ψ (.ret d) s'→QV F kp dk os (Zt ρ o.dst (.d d)) L s')(hpan:∀d s',Ψ (.panic d) s'→Y6 F [] [] d s'):QV F kp dk (o::os) ρ L s :=
 fun B=>Zfa hg hk hf ha hds hp hq hc (fun d s' h=>⟨ZaZ,hret d s' h _⟩) hpan
theorem Zvr{F:Fr P}{dk:List Zi}{o:DOp}(hg:Zl ρ o.guard=sO true){fx:Opd}(hk:o.k=.call fx xs){p q:Prop}{fi:FuncId}{first caps:List D}{es:List E}(hf:ZC ρ true fx=sO (q,.d (.fn (.func fi) first caps)))(ha:Yd ρ true xs=sO (p,es))(hds:W2 es=sO ds)(hp:p)(hq:q){Ψ:Res→St→Prop}(hc:Zf P fi (first++ds++caps) s Ψ)(hret:∀d s',Ψ (.ret d) s'→QV F kp dk os (Zt ρ o.dst (.d d)) L s')(hpan:∀d s',Ψ (.panic d) s'→Y6 F [] [] d s'):QV F kp dk (o::os) ρ L s :=
 ZtW hg hk hf ha hds hp hq hc.V hret hpan
theorem ZtU{F:Fr P}{dk:List Zi}{o:DOp}(hg:Zl ρ o.guard=sO true){x:Opd}(hk:o.k=.panic x){p:Prop}{t:TypeId}{d:D}(ha:ZC ρ true x=sO (p,.d (.iface t d)))(hp:p)(h:Y6 F [] [] (.iface t d) s):QV F kp dk (o::os) ρ L s:=fun _=>ZoF hg hk ha hp h
theorem ZtV{F:Fr P}{dk:List Zi}{o:DOp}(hg:Zl ρ o.guard=sO true){fx:Opd}(hk:o.k=.call fx xs){p q:Prop}{fi:FuncId}{first caps:List D}{es:List E}(hf:ZC ρ true fx=sO (q,.d (.fn (.func fi) first caps)))(ha:Yd ρ true xs=sO (p,es))(hds:W2 es=sO ds)(hp:p)(hq:q){d:D}(hc:Zc P fi (first++ds++caps) d)(h:QV F kp dk os (Zt ρ o.dst (.d d)) L s):QV F kp dk (o::os) ρ L s:=fun _=>ZhT hg hk hf ha hds hp hq hc (h _)
theorem Zky{F:Fr P}{dk:List Zi}{o:DOp}{c:Bool}(hg:Zl ρ o.guard=sO c){fx:Opd}(hk:o.k=.call fx xs){p q:Prop}{fi:FuncId}{first caps:List D}{es:List E}(hf:ZC ρ c fx=sO (q,.d (.fn (.func fi) first caps)))(ha:Yd ρ c xs=sO (p,es))(hds:W2 es=sO ds){d:D}(hc:c=true→p∧q∧Zc P fi (first++ds++caps) d)(h:QV F kp dk os (Zt ρ o.dst (.when c (.d d))) L s):QV F kp dk (o::os) ρ L s:=fun _=>ZlO hg hk hf ha hds hc (h _)
theorem Zsr{F:Fr P}{dk:List Zi}{o:DOp}(hg:Zl ρ o.guard=sO true){e sz b:Nat}{z:List D}{x y:Opd}(hk:o.k=.append e sz b z x y){p q:Prop}{t:Tok}{n m:Nat}{row row2:Nat→List D}{dy:D}{dx:D}(hx:ZC ρ true x=sO (p,.d dx))(hsl:ZbD sz dx=sO (t,n,row))(hy:ZC ρ true y=sO (q,.d dy))(hp:p)(hq:q)(hel:Jc sz dy=sO (m,row2))(hok:t.okIn s)(hb:(n+m)*b≤140737488355328)(hbig:n+m≤big)(h:∀t':Tok,t'.okIn s→QV F kp dk os (Zt ρ o.dst (.d (.sl t' (n+m) sz (YT n row row2)))) L (s.own t' ((n+m)*sz))):
  QV F kp dk (o::os) ρ L (s.own t (n*sz)):=fun _=>ZtX hg hk hx hsl hy hp hq hel hok hb hbig fun t' c=>⟨ZaZ,h t' c _⟩
end
def Q5(l b:Nat):E→E
 |.d v=>.d v
 |.loc l' off=>if l'=l then .d (.ptr b off) else .loc l' off
 |.when c e=>.when c (Q5 l b e)
def JN(l b:Nat):Env→Env
 | []=>[]
 | (t,e)::r=>(t,Q5 l b e)::JN l b r
def delL(l:Nat):Loc→Loc
 | []=>[]
 | (k,c)::r=>if k=l then delL l r else (k,c)::delL l r
theorem Zc6(l b:Nat):∀(ρ:Env) (t:Nat),ZL (JN l b ρ) t=(ZL ρ t).map (Q5 l b)
 | [],t=>rfl
 | (k,e)::r,t=>by
  simp only[JN,ZL]
  by_cases h:k=t
  ·simp[h]
  simp only[h,if_false];exact Zc6 l b r t
theorem ZcL(l:Nat):∀(L:Loc) (x:Nat),Zg (delL l L) x=if x=l then nO else Zg L x
 | [],x=>by simp[delL,Zg]
 | (k,c)::r,x=>by
  simp only[delL]
  by_cases h:k=l
  ·simp only[h,if_true,Zg,ZcL l r x]
   by_cases hx:x=l
   ·simp[hx]
   simp[hx,show ¬l=x from fun h=>hx h.symm]
  simp only[h,if_false,Zg,ZcL l r x]
  by_cases hx:x=l
  ·subst hx;simp[h]
  simp[hx]
section
variable {P:Program}
theorem ZI.expose{l:Nat}{v:Value}{e:E}(h:ZI g ν w L v e):ZI g ν w (delL l L) v (Q5 l (ν l) e):=by
 induction e with
 |d x=>exact h
 |loc l' off =>
  obtain⟨⟨cs,i⟩,rfl⟩:=h
  simp only[Q5]
  split
  ·rename_i hl;subst hl;exact Rep.ptr _ _
  rename_i hl;exact⟨⟨cs,by rw[ZcL,if_neg hl];exact i⟩,rfl⟩
 |when c e ih=>exact⟨fun hc=>ih (h.1 hc),h.2⟩
theorem Zr.expose(m:Zr g ν w tmps ρ L s){l:Nat}{cs:List D}(hl:Zg L l=sO cs):
  s (ν l)=nO∧Zr g ν w tmps (JN l (ν l) ρ) (delL l L) (s.upd (ν l) (.cells cs)):=by
 have i:∀l' c,Zg (delL l L) l'=sO c→l'≠l∧Zg L l'=sO c:=fun l' c h=>by
  rw[ZcL]at h
  split at h
  ·simp at h
  exact⟨‹_›,h⟩
 refine⟨m.locSt l cs hl,⟨m.st.updL (o:=.cells cs) (m.loc l cs hl) (m.locKept l cs hl),fun l' c h=>m.loc l' c (i l' c h).2,fun l' c h=>m.locKept l' c (i l' c h).2,fun l' c h=>?_,fun a b ca cb ha hb j=>m.inj a b ca cb (i a ca ha).2 (i b cb hb).2 j,fun t e he=>?_⟩⟩
 ·obtain⟨h1,h2⟩:=i l' c h
  have:ν l'≠ν l:=fun hh=>h1 (m.inj l' l c cs h2 hl hh)
  simp only[ZFr,this,if_false];exact m.locSt l' c h2
 rw[Zc6]at he
 simp only[ZE3]at he
 obtain⟨e0,h1,rfl⟩:=he
 exact(m.env t e0 h1).expose
theorem Zc0{F:Fr P}{dk:List Zi}(l:Nat){cs:List D}(hl:Zg L l=sO cs)(h:∀b,s b=nO→Zu F dk (JN l b ρ) (delL l L) (s.upd b (.cells cs))):Zu F dk ρ L s:=by
 intro k hk g ν w tmps hN m
 obtain⟨h1,h2⟩:=m.expose hl
 exact h (ν l) h1 k hk g ν w tmps hN h2
def WP:List Nat→List D→Env→Env
 |t::ts,a::as9,ρ=>WP ts as9 ((t,.d a)::ρ)
 |_,_,ρ=>ρ
def ZiV(P:Program)(c:Frame)(cs:List Frame)(Φ:Res→St→Prop):Zt6 P where
 T g w m:=∃e w',Zga g w Φ e w'∧ZzB P m c cs e w'
 back g w m m' hs h:=by
  obtain⟨e,w',a,b⟩:=h
  refine⟨e,w',a,?_⟩
  cases e with
  |returned v=>exact Steps.trans hs b
  |panicked ch=>exact Steps.trans hs b
  |outgrown=>exact b.elim
 ext g w g' w' m hx h:=by
  obtain⟨e,w2,⟨g2,s2,r,d1,d2,d3,d4⟩,b⟩:=h
  exact⟨e,w2,⟨g2,s2,r,hx.trans d1,d2,d3,d4⟩,b⟩
def Za4(P:Program)(an:Ann)(fn:FuncId)(N l:Nat)(c:Frame)(cs:List Frame)(Φ:Res→St→Prop):Fr P where
 T:=ZiV P c cs Φ
 b:={ (dE:Frame) with fn,kind:=.normal,roundOf:=sO l }
 cs:=c::cs
 N:=N
 ds:=[]
 an:=an
def K1(F:Fr P)(l:Nat)(Φ:Res→St→Prop):Prop:=∃an fn N c cs,F=Za4 P an fn N l c cs Φ
theorem Jn{r:Nat}{o:Go.Loop}(hb:w.heap[r]?=sO (.loop o)):(getObj r).run P w=.ok (.loop o) w:=by
 simp[getObj,Sem.run,hb]
theorem Zcp{r:Nat}{o:Obj}{o':Go.Loop}(hb:w.heap[r]?=sO (.loop o')):(setObj r o).run P w=.ok () { w with heap:=w.heap.setIfInBounds r o }:=by
 simp[setObj,Sem.run,hb]
theorem ZAq{b:Nat}{o':Obj}(o:Obj)(hb:w.heap[b]?=sO o'):({ w with heap:=w.heap.setIfInBounds b o }:World).heap[b]?=sO o:=by
 have:=(Array.getElem?_eq_some_iff.1 hb).1
 simp[Array.getElem?_setIfInBounds,this]
theorem Zr.loopTo(m:Zr g ν w tmps ρ L s){l:Nat}{r:Wq}{st st':LSt}(hs:s l=sO (.loop r st)){lp:Go.Loop}(hh:w.heap[l]?=sO (.loop lp))(lp':Go.Loop)(h1:lp'.fn=lp.fn∧lp'.params=lp.params∧lp'.assign=lp.assign∧lp'.body=lp.body∧lp'.defers=lp.defers∧lp'.tmps=lp.tmps)(h2:match st' with|.ready=>lp'.state=.ready∧lp'.pending=nO|.busy=>lp'.state=.busy|.done j=>lp'.state=.done∧lp'.pending=sO j):
  Ext g w g { w with heap:=w.heap.setIfInBounds l (.loop lp') }∧Zr g ν { w with heap:=w.heap.setIfInBounds l (.loop lp') } tmps ρ L (s.upd l (.loop r st')):=by
 obtain⟨hp,l0,a1,a2,a3,a4,a5,a6,a7,a8,a9⟩:=m.st.obj l _ hs
 rw[hh]at a1
 simp only[ZEP,Obj.loop.injEq]at a1
 subst a1
 obtain⟨b1,b2,b3,b4,b5,b6⟩:=h1
 have he:=Zcc (g:=g) (w:=w) l (.loop lp') (by simp[hdr,hh]) hp (m.st.kept l _ hs)
 refine⟨he,m.named hs he (by simp) (fun c hc=>JL _ hc) ⟨hp,lp',ZAq _ hh,by rw[b1,a2],by rw[b2,a3],by rw[b3,a4],by rw[b4,a5],by rw[b5,a6],by rw[b6];exact a7,fun t e ht=>by rw[b6];exact(a8 t e ht).mono he,h2⟩⟩
theorem K1.begin{F:Fr P}{l:Nat}(hF:K1 F l Φ){dk:List Zi}{r:Wq}(hs:s l=sO (.loop r .ready))(h:Zu F dk ρ L (s.upd l (.loop r .busy))):Zu F (.beginR::dk) ρ L s:=by
 obtain⟨an,fn,N,c,cs,rfl⟩:=hF
 intro k hk
 cases hk with
 |beginR ht =>
  intro g ν w tmps hN m
  obtain⟨hp,l0,a1,a2,a3,a4,a5,a6,a7,a8,a9,a10⟩:=m.st.obj l _ hs
  obtain⟨he,m'⟩:=m.loopTo (st':=.busy) hs a1 { l0 with state:=.busy } ⟨rfl,rfl,rfl,rfl,rfl,rfl⟩ rfl
  have i:(Instr.beginRound l).run P w=.ok () { w with heap:=w.heap.setIfInBounds l (.loop { l0 with state:=.busy }) }:=by
   simp[Instr.beginRound,Instr.getLoop,Jn a1,Zcp a1,a9]
  refine(ZiV P c cs Φ).back _ _ _ _ (.one (stepR_beginRound rfl i)) ?_
  exact(ZiV P c cs Φ).ext _ _ _ _ _ he (h _ ht g ν _ tmps hN m')
theorem Zeu{l:Nat}{l0:Go.Loop}(h:w.heap[l]?=sO (.loop l0))(j:Option Code):
  (Instr.endRound l j).run P w=.ok (.bool j.isNone) { w with heap:=w.heap.setIfInBounds l (.loop { l0 with state:=if j.isNone then .ready else .done,pending:=j }) }:=by
 simp[Instr.endRound,Instr.getLoop,Jn h,Zcp h]
theorem K1.fin{F:Fr P}{l:Nat}(hF:K1 F l Φ){s s':St}{r:Wq}(hs:s l=sO (.loop r .busy))(hsub:s'.sub (s.upd l (.loop r .ready)))(hΦ:Φ (.ret (.bool true)) s'):Zu F [] ρ L s:=by
 obtain⟨an,fn,N,c,cs,rfl⟩:=hF
 intro k hk
 cases hk
 intro g ν w tmps hN m
 obtain⟨hp,l0,a1,_⟩:=m.st.obj l _ hs
 obtain⟨he,m'⟩:=m.loopTo (st':=.ready) hs a1 { l0 with state:=.ready,pending:=nO } ⟨rfl,rfl,rfl,rfl,rfl,rfl⟩ ⟨rfl,rfl⟩
 exact⟨.returned (.bool true),_,⟨g,s',.ret (.bool true),he,m'.st.sub hsub,.bool true,hΦ⟩,.one (stepR_round_end rfl rfl (Zeu a1 nO))⟩
theorem K1.ret{F:Fr P}{l:Nat}(hF:K1 F l Φ){dk:List Zi}{s s':St}{r:Wq}(hs:s l=sO (.loop r .busy))(hsub:s'.sub (s.upd l (.loop r (.done .ret))))(hΦ:Φ (.ret (.bool false)) s'):
  Zu F (.code .ret::dk) ρ L s:=by
 obtain⟨an,fn,N,c,cs,rfl⟩:=hF
 intro k hk
 cases hk with
 |code hc ht =>
  obtain rfl:=ZqO hc
  intro g ν w tmps hN m
  obtain⟨hp,l0,a1,_⟩:=m.st.obj l _ hs
  obtain⟨he,m'⟩:=m.loopTo (st':=.done .ret) hs a1 { l0 with state:=.done,pending:=sO .ret } ⟨rfl,rfl,rfl,rfl,rfl,rfl⟩ ⟨rfl,rfl⟩
  exact⟨.returned (.bool false),_,⟨g,s',.ret (.bool false),he,m'.st.sub hsub,.bool false,hΦ⟩,.one (stepR_round_ret rfl rfl (Zeu a1 (sO .ret)))⟩
theorem K1.exit{F:Fr P}{l id:Nat}(hF:K1 F l Φ){dk:List Zi}{s s':St}{r:Wq}(hx:QS id dk=nO)(hs:s l=sO (.loop r .busy))(hsub:s'.sub (s.upd l (.loop r (.done (.exit id)))))(hΦ:Φ (.ret (.bool false)) s'):Zu F (.code (.exit id)::dk) ρ L s:=by
 obtain⟨an,fn,N,c,cs,rfl⟩:=hF
 intro k hk
 cases hk with
 |code hc ht =>
  obtain rfl:=Zti hc
  intro g ν w tmps hN m
  obtain⟨hp,l0,a1,_⟩:=m.st.obj l _ hs
  obtain⟨he,m'⟩:=m.loopTo (st':=.done (.exit id)) hs a1 { l0 with state:=.done,pending:=sO (.exit id) } ⟨rfl,rfl,rfl,rfl,rfl,rfl⟩ ⟨rfl,rfl⟩
  exact⟨.returned (.bool false),_,⟨g,s',.ret (.bool false),he,m'.st.sub hsub,.bool false,hΦ⟩,.one (stepR_round_exit rfl rfl (ZaX ht hx) (Zeu a1 (sO (.exit id))))⟩
theorem K1.pan{F:Fr P}{l:Nat}(hF:K1 F l Φ){d:D}{s s':St}(hsub:s'.sub s)(hΦ:Φ (.panic d) s')(hfn:∀an fn N c cs,F=Za4 P an fn N l c cs Φ→∃f,P.funcs[fn]?=sO f):Y6 F ρ L d s:=by
 obtain⟨an,fn,N,c,cs,rfl⟩:=hF
 intro g ν w v i tmps hN m hr
 obtain⟨f,hf⟩:=hfn an fn N c cs rfl
 refine⟨.panicked [{ v,recovered:=false }],w,⟨g,s',.panic d,Ext.refl g w,m.st.sub hsub,⟨v,rfl,hr⟩,hΦ⟩,.one ?_⟩
 exact step_leave_panicked (P:=P) (fr:={ (Za4 P an fn N l c cs Φ).b.atR ⟨tmps,[]⟩ i with mode:=.panicking [{ v,recovered:=false }] }) ⟨rfl,rfl,f,hf⟩
theorem Zhi{g:G}{ν:Nat→Nat}{w:World}{L:Loc}{s:St}{N:Nat}:∀{ps:List Nat} {ds:List D} {vs:List Value} {tmps:Array Value} {ρ:Env},Zr g ν w tmps ρ L s→ZH (Rep g w) vs ds→ds.length=ps.length→(∀t∈ps,t<N)→N≤tmps.size →
  N≤((ps.zip vs).foldl (fun tmps (x:Nat×Value)=>tmps.setIfInBounds x.1 x.2) tmps).size∧Zr g ν w ((ps.zip vs).foldl (fun tmps (x:Nat×Value)=>tmps.setIfInBounds x.1 x.2) tmps) (WP ps ds ρ) L s
 | [],_,_,tmps,ρ,m,_,_,_,hN=>by simpa[WP]using⟨hN,m⟩
 |t::ps,[],_,tmps,ρ,m,_,hl,_,_=>by simp at hl
 |t::ps,d::ds,v::vs,tmps,ρ,m,.cons h1 h2,hl,hp,hN=>by
  have m':=m.put (t:=t) (v:=v) (e:=.d d) (by have:=hp t (by simp);omega) h1
  simpa[WP]using Zhi m' h2 (by simpa using hl) (fun u hu=>hp u (by simp[hu])) (by simpa using hN)
def Jh:Env→Env
 | []=>[]
 | (t,e)::r=>if (Ko e).isEmpty then (t,e)::Jh r else Jh r
def Kb(ks:List Nat)(ρ:Env):Env:=Jh (Yp ρ ks)
theorem ZdW:∀{ρ:Env} {t:Nat} {e:E},(ρ.map (·.1)).Nodup→ZL (Jh ρ) t=sO e→ZL ρ t=sO e∧Ko e=[]
 | [],t,e,_,h=>by simp[Jh,ZL]at h
 | (k,x)::r,t,e,hn,h=>by
  simp only[ZE7,List.nodup_cons]at hn
  simp only[Jh]at h
  split at h
  ·rename_i hx
   simp only[ZL]at h⊢
   by_cases hk:k=t
   ·simp only[hk,if_true,ZEP]at h⊢;subst h;exact⟨rfl,by simpa using hx⟩
   simp only[hk,if_false]at h⊢;exact ZdW hn.2 h
  obtain⟨h1,h2⟩:=ZdW hn.2 h
  refine⟨?_,h2⟩
  have c:k≠t:=fun hk=>by
   subst hk
   have:=ZfT h1
   exact hn.1 (List.mem_map.2 ⟨_,this,rfl⟩)
  simp only[ZL,c,if_false];exact h1
theorem Zm1{ν ν':Nat→Nat}{L L':Loc}{v:Value}{e:E}(h:ZI g ν w L v e)(hl:Ko e=[]):ZI g ν' w L' v e:=by
 induction e with
 |d x=>exact h
 |loc l o=>simp[Ko]at hl
 |when c e ih=>exact⟨fun hc=>ih (h.1 hc) hl,h.2⟩
def Fr.mark(F:Fr P)(q:Nat):Fr P:={ F with ds:=DD.def (.mark q)::F.ds }
theorem ZgG{b:Frame}{a:Act}{k:List Item}{cs:List Frame}{g:Operand}{ps:Array Tmp}{assign body:Code}{l:Nat}{mark:List Deferred}{w₁:World}{d:Deferred}{nx:Next}{fr:Frame}(he:(Instr.enterLoop b.fn a.tmps ps assign body b.roundOf).run P w=.ok (l,mark) w₁)(hres:(Deferred.ofValue (a.eval g) #[.func (.yield l) #[] #[]]).run P w₁=.ok d w₁)(hinv:(invoke d.target d.args).run P w₁=.ok nx w₁)(hnx:Zfr P nx=sO fr):
  step P (lone (b.atR a (.code (.rangeFunc g ps assign body)::k)) cs w) =
   .next (lone fr (b.atR { a with defers:=mark++a.defers } (.inRangeFunc l::k)::cs) w₁) :=
 step_lone_go (by
  have i:=Frame.eval_atR b { a with defers:=mark++a.defers } (.inRangeFunc l::k)
  simp only[Frame.atR]at i
  have c:Sem.run P (resolve ({ tmps:=a.tmps,defers:=mark++a.defers }:Act).eval { callee:=.value g,args:=#[.const (.func (.yield l) #[] #[])],argTypes:=#[] } 0) w₁=.ok d w₁:=by
   simp only[resolve]
   have e1:({ tmps:=a.tmps,defers:=mark++a.defers }:Act).eval g=a.eval g:=by cases g<;>rfl
   have e2:Array.map ({ tmps:=a.tmps,defers:=mark++a.defers }:Act).eval #[Operand.const (Value.func (Fn.yield l) #[] #[])] = #[.func (.yield l) #[] #[]]:=by simp[Act.eval]
   rw[e1,e2];exact hres
  cases nx<;>simp only[Zfr,ZEP,reduceCtorEq]at hnx<;>subst hnx <;>
   simp[stepG,stepG.exec,Frame.atR,Sem.runT_eq,he,GStep.bare_after,stepG.apply,i,Sem.run_bind,c,hinv,Result.andThen])
def Zh0(F:Fr P)(l:Nat)(r:Wq)(dk:List Zi)(ρ:Env)(L:Loc)(s':St):Prop :=
 (s' l=sO (.loop r .ready)∧Zu F dk ρ L (s'.del l))∨∃j dj,s' l=sO (.loop r (.done j))∧cc P F.an F.N j=sO dj∧Zu F (.code dj::dk) ρ L (s'.del l)
theorem ZkA{l:Nat}{l0:Go.Loop}(h:w.heap[l]?=sO (.loop l0))(hb:l0.state≠.busy):
  (Instr.endLoop l).run P w=.ok l0.pending { w with heap:=w.heap.setIfInBounds l (.loop { l0 with state:=.exhausted }) }:=by
 have:(l0.state==.busy)=false:=by
  cases hs:l0.state<;>first|rfl|exact absurd hs hb
 simp[Instr.endLoop,Instr.getLoop,Jn h,Zcp h,hb]
theorem ZmZ{F:Fr P}{l:Nat}{r:Wq}{dk:List Zi}{k:List Item}{s':St}(hk:WC P F.an F.N k dk)(hN:F.N≤tmps.size)(m:Zr g ν w tmps ρ L s')(h:Zh0 F l r dk ρ L s'):F.T.T g w (lone (F.b.atR ⟨tmps,F.ds⟩ (.endRangeFunc l::k)) F.cs w):=by
 rcases h with ⟨hs,h⟩|⟨j,dj,hs,hj,h⟩
 ·obtain⟨hp,l0,a1,a2,a3,a4,a5,a6,a7,a8,a9,n⟩:=m.st.obj l _ hs
  have he:=Zcc (g:=g) (w:=w) l (.loop { l0 with state:=.exhausted }) (by simp[hdr,a1]) hp (m.st.kept l _ hs)
  have m':=m.drop hs he (by simp) (fun c hc=>JL _ hc)
  have i:(Instr.endLoop l).run P w=.ok nO { w with heap:=w.heap.setIfInBounds l (.loop { l0 with state:=.exhausted }) }:=by rw[ZkA a1 (by rw[a9];simp)];simp[n]
  refine F.T.back _ _ _ _ (.one (stepR_endRangeFunc i)) ?_
  exact F.T.ext _ _ _ _ _ he (h k hk g ν _ tmps hN m')
 obtain⟨hp,l0,a1,a2,a3,a4,a5,a6,a7,a8,a9,n⟩:=m.st.obj l _ hs
 have he:=Zcc (g:=g) (w:=w) l (.loop { l0 with state:=.exhausted }) (by simp[hdr,a1]) hp (m.st.kept l _ hs)
 have m':=m.drop hs he (by simp) (fun c hc=>JL _ hc)
 have i:(Instr.endLoop l).run P w=.ok (sO j) { w with heap:=w.heap.setIfInBounds l (.loop { l0 with state:=.exhausted }) }:=by rw[ZkA a1 (by rw[a9];simp)];simp[n]
 refine F.T.back _ _ _ _ (.one (stepR_endRangeFunc i)) ?_
 exact F.T.ext _ _ _ _ _ he (h _ (.code hj hk) g ν _ tmps hN m')
theorem YQ.mark{F:Fr P}{rs:List RV}{dds:List DD}(hF:YQ F rs Φ dds)(q:Nat):YQ (F.mark q) rs Φ (.mark q::dds):=by
 obtain⟨an,f,df,cs,hf,c,rfl⟩:=hF
 exact⟨an,f,df,cs,hf,c,rfl⟩
theorem YQ.roundOf{F:Fr P}{rs:List RV}{dds:List DD}(hF:YQ F rs Φ dds):F.b.roundOf=nO:=by
 obtain⟨an,f,df,cs,hf,hrs,rfl⟩:=hF
 rfl
end
section
variable {P:Program}
theorem ZvH{op:Op}{f:Opd}(h:ck P op=sO (.defer f xs)):∃f' args ats,op=.defer ⟨.value f',args,ats⟩∧Z3 f'=sO f∧Zca args.toList=sO xs:=by
 unfold ck at h
 split at h
 ·simp at h
 split at h<;>(try(simp at h;done))
 all_goals (try(repeat' (split at h<;>(try(simp at h;done)))))
 simp at h
 obtain⟨rfl,rfl⟩:=h
 rename_i c _ _ f' i _ _ f xs hf j
 obtain⟨callee,args,ats⟩:=c
 simp only at i
 exact⟨f',args,ats,by rw[i],hf,j⟩
def Fr.defer(F:Fr P)(i:FuncId)(args caps:List D):Fr P:={ F with ds:=DD.def (.fn i args caps)::F.ds }
theorem YQ.defer{F:Fr P}{rs:List RV}{dds:List DD}(hF:YQ F rs Φ dds)(i:FuncId)(args caps:List D):YQ (F.defer i args caps) rs Φ (.fn i args caps::dds):=by
 obtain⟨an,f,df,cs,hf,c,rfl⟩:=hF
 exact⟨an,f,df,cs,hf,c,rfl⟩
theorem Zk2{F:Fr P}(hround:F.b.roundOf=nO){dk:List Zi}{o:DOp}(hg:o.guard=nO)(hdn:o.dst=nO){fx:Opd}(hk:o.k=.defer fx xs){p q:Prop}{i:FuncId}{first caps:List D}{es:List E}(hf:ZC ρ true fx=sO (q,.d (.fn (.func i) first caps)))(ha:Yd ρ true xs=sO (p,es))(hds:W2 es=sO ds)(hp:p)(hq:q)(hr1:Zbp (first++ds))(hr2:Zbp caps)(h:DO (F.defer i (first++ds) caps) kp dk os ρ L s):DO F kp dk (o::os) ρ L s:=by
 refine Wn fun oo g ν w tmps n j r k z ac ao v hd hN m hr ak=>?_
 have hw:=Yf m ao (c:=true) (by rw[hg];rfl)
 rw[hk]at ac
 obtain⟨f',args,ats,ai,am,aj⟩:=ZvH ac
 have y:Rep g w _ _:=Yc m am rfl hf hq F.ds
 have t:=KW (ZbV m rfl F.ds aj ha hp) hds
 generalize ah:(Act.mk tmps F.ds).eval f'=fv at y
 cases y with
 |fn _ fs cs' _ _ hn1 hn2 h1 h2 =>
 obtain⟨al,ad,_,ha2⟩:=ZbW hr1
 obtain⟨vs,ab,_,hv2⟩:=ZbW hr2
 have e1:fs++args.toList.map (Act.mk tmps F.ds).eval=al:=Zkd ((Yh hn1 h1).append t) ad
 have e2:cs'=vs:=Zkd (Yh hn2 h2) ab
 have hmap:(Array.map (Act.mk tmps F.ds).eval args)=(args.toList.map (Act.mk tmps F.ds).eval).toArray:=by apply Array.ext';simp
 have ag:DD.def (.fn i (first++ds) caps)={ target:=.fn (.func i) cs'.toArray,args:=fs.toArray++(args.toList.map (Act.mk tmps F.ds).eval).toArray }:=by
  simp only[DD.def,ab,ad,e2,←e1];simp
 have af:(execOp (Act.mk tmps F.ds).eval oo).run P w=.ok (.defer (DD.def (.fn i (first++ds) caps))) w:=by
  rw[ag]
  simp[execOp,ai,resolve,ah,Deferred.ofValue]
 have u:step P (lone (F.b.atR ⟨tmps,F.ds⟩ (.inRegion n (j::r)::k)) F.cs w)=.next (lone (F.b.atR ⟨tmps,(F.defer i (first++ds) caps).ds⟩ (.inRegion n r::k)) F.cs w):=by
  refine step_lone_go ?_
  rw[stepGR_op z hw,hround,Oper.semAt_none]
  have ae:(F.b.atR ⟨tmps,(F.defer i (first++ds) caps).ds⟩ (.inRegion n (j::r)::k)).finish undef=F.b.atR ⟨tmps,(F.defer i (first++ds) caps).ds⟩ (.inRegion n r::k):=by
   rw[Frame.finish_atR,z]
   simp[Act.put,v,hdn]
  rw[←ae]
  simp[stepG.apply,af,Frame.atR,Fr.defer]
 refine F.T.back _ _ _ _ (.one u) ?_
 exact h n r k hr ak g ν w tmps hN m
def ZAX:D→Option Value
 |.iface t (.agg cs)=>(ZhB cs).map fun vs=>.iface t (.agg vs.toArray)
 |.iface t d=>(J4 d).map (.iface t ·)
 |_=>nO
def ZiT:D→Prop
 |.iface _ (.agg cs)=>Zbp cs
 |.iface _ d=>ZeO d
 |_=>False
theorem Zpn{d:D}(h:ZiT d):∃v,(∀g w,Rep g w v d)∧∀g w v',Rep g w v' d→v'=v:=by
 cases d<;>simp[ZiT]at h
 rename_i t d
 by_cases hd:∃cs,d=.agg cs
 ·obtain⟨cs,rfl⟩:=hd
  obtain⟨vs,h1,h2,h3⟩:=ZbW h
  refine⟨.iface t (.agg vs.toArray),fun g w=>.iface t _ _ (.agg vs cs (h3 g w).len (h3 g w).get h2),fun g w v' hr=>?_⟩
  cases hr with
  |iface _ v _ hv =>
   cases hv with
   |agg vs' _ hn hg _=>rw[Zkd (Yh hn hg) h1]
 have h':ZeO d:=by cases d<;>simp at h<;>first|exact h|exact absurd ⟨_,rfl⟩ hd
 obtain⟨v,h1,h2,h3⟩:=Zpm h'
 refine⟨.iface t v,fun g w=>.iface t _ _ (h3 g w),fun g w v' hr=>?_⟩
 cases hr with
 |iface _ v'' _ hv=>rw[ZtR hv h1]
def Q3(m:Option D)(v:Value)(rec:Bool):FrameMode :=
 match m with
 |none=>.returning
 |some _=>.panicking [{ v,recovered:=rec }]
def Zee(P:Program)(cf:Frame)(cs:List Frame)(Ψ:Bool→St→Prop):Zt6 P where
 T g w m:=∃g' w' s' b,Ext g w g' w'∧Ym g' s' w'∧Ψ b s'∧Steps P m (lone { cf with mode:=if b then .returning else cf.mode } cs w')
 back g w m m' hs h:=let ⟨g',w',s',b,a1,a2,a3,a4⟩:=h;⟨g',w',s',b,a1,a2,a3,Steps.trans hs a4⟩
 ext g w g' w' m hx h:=let ⟨g2,w2,s',b,a1,a2,a3,a4⟩:=h;⟨g2,w2,s',b,hx.trans a1,a2,a3,a4⟩
def Y9(P:Program)(an:Ann)(f:FuncId)(N:Nat)(cf:Frame)(cs:List Frame)(Ψ:Bool→St→Prop)(m:Option D)(v:Value)(rec:Bool):Fr P where
 T:=Zee P cf cs Ψ
 b:={ (dE:Frame) with fn:=f,kind:=.deferred,roundOf:=nO }
 cs:={ cf with mode:=Q3 m v rec }::cs
 N:=N
 ds:=[]
 an:=an
def Zao(F:Fr P)(m:Option D)(Ψ:Bool→St→Prop)(rec:Bool):Prop :=
 ∃an f df cf cs v,Go.DL.cf P an f=sO df∧df.res=[]∧cf.mode=Q3 m v false∧(∀d,m=sO d→∀g w,Rep g w v d)∧F=Y9 P an f df.n cf cs Ψ m v rec
theorem Zb1{an:Ann}{i:FuncId}{N:Nat}{rs:List RV}{b:DC}(hf:cf P an i=sO ⟨N,rs,b⟩)(hres:rs=[]){args:List D}{m:Option D}{Ψ:Bool→St→Prop}(hm:∀d,m=sO d→ZiT d)(h:∀F:Fr P,Zao F m Ψ false→Zu F [.code b] (K2 0 args) [] s):JQ P i args m s Ψ:=by
 have ae:=hf
 unfold cf at hf
 split at hf<;>(try(simp at hf;done))
 rename_i fn y
 split at hf<;>(try(simp at hf;done))
 rename_i c hc
 split at hf<;>(try(simp at hf;done))
 rename_i u
 split at hf<;>simp at hf
 rename_i rs d hrs hd
 obtain⟨rfl,rfl,rfl⟩:=hf
 refine⟨⟨fn,y,by simp[hc],by simpa using u⟩,fun g w vs j cs hs ha n=>?_⟩
 obtain⟨v,z,ad⟩:∃v,j.mode=Q3 m v false∧∀d,m=sO d→∀g w,Rep g w v d:=by
  cases m with
  |none=>exact⟨undef,n,fun d hd=>by simp at hd⟩
  |some d =>
   obtain⟨v,h1,h2⟩:=n
   obtain⟨v',r1,r2⟩:=Zpn (hm d rfl)
   have:=r2 g w v h2
   subst this
   exact⟨v,h1,fun d' ab=>by simp only[ZEP]at ab;subst ab;exact r1⟩
 have ac:({ j with mode:=Q3 m v false }:Frame)=j:=by rw[←z]
 have t:Frame.enter P i vs.toArray .deferred=(Y9 P an i fn.ntmps j cs Ψ m v false).b.atR { tmps:=vs.toArray++Array.replicate (fn.ntmps-vs.length) undef,defers:=[] } [.code c]:=by
  simp[Frame.enter,Frame.atR,y,hc,Y9]
 have:=h _ ⟨an,i,_,j,cs,v,ae,hres,z,ad,rfl⟩ [.code c] (.code hd .nil) g (fun _=>0) w (vs.toArray++Array.replicate (fn.ntmps-vs.length) undef) (by simp[Y9];omega) (ZfU hs ha _)
 obtain⟨g',w',s',b,a1,a2,a3,a4⟩:=this
 refine⟨g',w',s',b,a1,a2,a3,?_⟩
 rw[t]
 have af:(Y9 P an i fn.ntmps j cs Ψ m v false).cs=j::cs:=by simp only[Y9,ac]
 rw[af]at a4
 exact a4
theorem Zao.end{F:Fr P}{m:Option D}{Ψ:Bool→St→Prop}{rec:Bool}(hF:Zao F m Ψ rec){s s':St}(hs:s'.sub s)(hΨ:Ψ (m.isNone ||rec) s'){todo:List Item}(M:Zr g ν w tmps ρ L s):F.T.T g w (lone { F.b.atR ⟨tmps,F.ds⟩ todo with mode:=.returning } F.cs w):=by
 obtain⟨an,f,df,i,cs,v,hf,u,j,hrep,rfl⟩:=hF
 unfold cf at hf
 split at hf<;>(try(grind;done))
 rename_i fn z
 split at hf<;>(try(grind;done))
 split at hf<;>(try(grind;done))
 split at hf<;>simp at hf
 rename_i rs d ab hd
 subst hf
 cases u
 obtain⟨rv,y,_⟩:=Zm3 M ab (p:=True) (ds:=[]) rfl trivial
 refine⟨g,w,s',m.isNone ||rec,Ext.refl g w,M.st.sub hs,hΨ,?_⟩
 have t:=step_going_returned (P:=P) (fr:={ (Y9 P an f fn.ntmps i cs Ψ m v rec).b.atR ⟨tmps,[]⟩ todo with mode:=.returning }) (c:={ i with mode:=Q3 m v rec }) (cs:=cs) (w:=w) rfl ⟨rfl,rfl,fn,z,y⟩
 have n:({ ({ i with mode:=Q3 m v rec }:Frame) with mode:=settle (Q3 m v rec) }:Frame)={ i with mode:=if (m.isNone ||rec) then .returning else i.mode }:=by
  cases m with
  |none=>rfl
  |some d =>
   cases rec
   ·simp[j];rfl
   rfl
 rw[n]at t
 exact .one t
theorem Zao.fin{F:Fr P}{m:Option D}{Ψ:Bool→St→Prop}{rec:Bool}(hF:Zao F m Ψ rec){s s':St}(hs:s'.sub s)(hΨ:Ψ (m.isNone ||rec) s'):Zu F [] ρ L s:=by
 have c:=hF
 obtain⟨an,f,df,i,cs,v,hf,hres,hmode,hrep,rfl⟩:=hF
 intro k hk
 cases hk
 intro g ν w tmps hN M
 refine(Zee P i cs Ψ).back _ _ _ _ (.one (stepR_end rfl)) ?_
 exact c.end hs hΨ M
theorem Zao.ret{F:Fr P}{m:Option D}{Ψ:Bool→St→Prop}{rec:Bool}(hF:Zao F m Ψ rec){dk:List Zi}{s s':St}(hs:s'.sub s)(hΨ:Ψ (m.isNone ||rec) s'):Zu F (.code .ret::dk) ρ L s:=by
 have c:=hF
 obtain⟨an,f,df,i,cs,v,hf,hres,hmode,hrep,rfl⟩:=hF
 intro k hk
 cases hk with
 |code hc ht =>
  obtain rfl:=ZqO hc
  intro g ν w tmps hN M
  refine(Zee P i cs Ψ).back _ _ _ _ (.one (stepR_ret rfl)) ?_
  exact c.end hs hΨ M
theorem ZgV{op:Op}(h:ck P op=sO .recover):∃args ats,op=.call ⟨.builtin .recover,args,ats⟩:=by
 unfold ck at h
 split at h
 ·simp at h
 split at h<;>(try(simp at h;done))
 all_goals (try(repeat' (split at h<;>(try(simp at h;done)))))
 rename_i c _ _ i
 obtain⟨callee,args,ats⟩:=c
 simp only at i
 exact⟨args,ats,by rw[i]⟩
theorem ZlR{F:Fr P}{d:D}{Ψ:Bool→St→Prop}(hF:Zao F (sO d) Ψ false){dk:List Zi}{o:DOp}(hg:o.guard=nO)(hk:o.k=.recover)(h:∀F':Fr P,Zao F' (sO d) Ψ true→DO F' kp dk os (Zt ρ o.dst (.d d)) L s):DO F kp dk (o::os) ρ L s:=by
 obtain⟨an,f,df,i,cs,v,hf,af,ab,u,rfl⟩:=hF
 refine Wn fun oo g ν w tmps t j r k ae z al ad hd hN m hr aj=>?_
 have hw:=Yf m al (c:=true) (by rw[hg];rfl)
 have ak:=Yi z (by rw[hk];rfl)
 rw[hk]at z
 obtain⟨args,ats,ai⟩:=ZgV z
 have ah:(execOp (Act.mk tmps []).eval oo).run P w=.ok .recover w:=by
  simp[execOp,ai,resolve,invoke,builtin]
 have ac:step P (lone ((Y9 P an f df.n i cs Ψ (sO d) v false).b.atR ⟨tmps,[]⟩ (.inRegion t (j::r)::k)) (Y9 P an f df.n i cs Ψ (sO d) v false).cs w) =
   .next (lone ((Y9 P an f df.n i cs Ψ (sO d) v true).b.atR ((Act.mk tmps []).put oo.dst v) (.inRegion t r::k)) (Y9 P an f df.n i cs Ψ (sO d) v true).cs w):=by
  refine step_lone_go ?_
  rw[stepGR_op ae hw,Oper.semAt_eq _ _ _ ak]
  have ag:((Y9 P an f df.n i cs Ψ (sO d) v false).b.atR ⟨tmps,[]⟩ (.inRegion t (j::r)::k)).finish v=(Y9 P an f df.n i cs Ψ (sO d) v true).b.atR ((Act.mk tmps []).put oo.dst v) (.inRegion t r::k):=by
   rw[Frame.finish_atR,ae];rfl
  rw[←ag]
  simp[stepG.apply,ah,Frame.atR,Y9,tryRecover,Q3]
 refine(Zee P i cs Ψ).back _ _ _ _ (.one ac) ?_
 obtain⟨y,e1,e2,m'⟩:=ZeL m hN hd (v:=v) (e:=.d d) (u d rfl g w) []
 rw[ad,e1]
 exact h _ ⟨an,f,df,i,cs,v,hf,af,ab,u,rfl⟩ t r k hr aj g ν w y e2 m'
theorem ZfD{F:Fr P}{Ψ:Bool→St→Prop}{rec:Bool}(hF:Zao F nO Ψ rec){dk:List Zi}{o:DOp}(hg:o.guard=nO)(hk:o.k=.recover)(h:DO F kp dk os (Zt ρ o.dst (.d .niliface)) L s):DO F kp dk (o::os) ρ L s:=by
 obtain⟨an,f,df,i,cs,v,hf,hres,hmode,hrep,rfl⟩:=hF
 refine Wn fun oo g ν w tmps t j r k ab y ah hdst hd hN m hr af=>?_
 have hw:=Yf m ah (c:=true) (by rw[hg];rfl)
 have ag:=Yi y (by rw[hk];rfl)
 rw[hk]at y
 obtain⟨args,ats,ae⟩:=ZgV y
 have ad:(execOp (Act.mk tmps []).eval oo).run P w=.ok .recover w:=by
  simp[execOp,ae,resolve,invoke,builtin]
 have z:step P (lone ((Y9 P an f df.n i cs Ψ nO v rec).b.atR ⟨tmps,[]⟩ (.inRegion t (j::r)::k)) (Y9 P an f df.n i cs Ψ nO v rec).cs w) =
   .next (lone ((Y9 P an f df.n i cs Ψ nO v rec).b.atR ((Act.mk tmps []).put oo.dst .nilIface) (.inRegion t r::k)) (Y9 P an f df.n i cs Ψ nO v rec).cs w):=by
  refine step_lone_go ?_
  rw[stepGR_op ab hw,Oper.semAt_eq _ _ _ ag]
  have ac:((Y9 P an f df.n i cs Ψ nO v rec).b.atR ⟨tmps,[]⟩ (.inRegion t (j::r)::k)).finish .nilIface=(Y9 P an f df.n i cs Ψ nO v rec).b.atR ((Act.mk tmps []).put oo.dst .nilIface) (.inRegion t r::k):=by
   rw[Frame.finish_atR,ab];rfl
  rw[←ac]
  simp[stepG.apply,ad,Frame.atR,Y9,tryRecover,Q3]
 refine(Zee P i cs Ψ).back _ _ _ _ (.one z) ?_
 obtain⟨u,e1,e2,m'⟩:=ZeL m hN hd (v:=.nilIface) (e:=.d .niliface) .niliface []
 simp_all
 exact h t r k hr af g ν w u e2 m'
end
theorem ZzW(n:Int):inR .i64 n↔-9223372036854775808≤n∧n≤9223372036854775807:=by
 simp[inR,IntKind.min,IntKind.max,IntKind.signed,IntKind.bits]
theorem ZAy(n:Int):inR .u8 n↔0≤n∧n≤255:=by
 simp[inR,IntKind.min,IntKind.max,IntKind.signed,IntKind.bits]
theorem ZzX(n:Int):inR .u32 n↔0≤n∧n≤4294967295:=by
 simp[inR,IntKind.min,IntKind.max,IntKind.signed,IntKind.bits]
theorem ZzY(n:Int):inR .u64 n↔0≤n∧n≤18446744073709551615:=by
 simp[inR,IntKind.min,IntKind.max,IntKind.signed,IntKind.bits]
theorem ZzV(n:Int):inR .i32 n↔-2147483648≤n∧n≤2147483647:=by
 simp[inR,IntKind.min,IntKind.max,IntKind.signed,IntKind.bits]
theorem Zy4(a b:Bool):(if a=true then b else false)=(a&&b):=by cases a<;>rfl
theorem Zz0(a b:Bool):(if a=true then true else b)=(a ||b):=by cases a<;>rfl
theorem ZzI{d d':D}(h:d=d'):(K3 [d]).Le d':=h▸ZEW d
theorem Zec{b b':Bool}(h:b=b'):(K3 [.bool b]).Le (.bool b'):=h▸ZEW _
theorem Zf8{k:IntKind}{n m:Int}(h:n=m):(K3 [.int k n]).Le (.int k m):=h▸ZEW _
theorem ZzK{l m:List UInt8}(h:l=m):(K3 [.str l]).Le (.str m):=h▸ZEW _
theorem JA{l:List D}{d:D}(h:.tup l=d)(hl:K3 l=.tup l):(K3 l).Le d:=by rw[hl,h];exact ZEW _
theorem St.upd_same(s:St)(b:Nat)(o:Ya):(s.upd b o) b=sO o:=by simp[ZFr]
theorem St.upd_ne(s:St){b c:Nat}(o:Ya)(h:c≠b):(s.upd b o) c=s c:=by simp[ZFr,h]
theorem St.upd_upd(s:St)(b:Nat)(o o':Ya):(s.upd b o).upd b o'=s.upd b o':=by
 funext c;simp only[ZFr];by_cases h:c=b<;>simp[h]
theorem St.upd_comm(s:St){b c:Nat}(o o':Ya)(h:c≠b):(s.upd b o).upd c o'=(s.upd c o').upd b o:=by
 funext x;simp only[ZFr]
 by_cases h1:x=b
 ·subst h1;simp[Ne.symm h]
 simp[h1]
theorem St.sub_upd{b:Nat}(o:Ya)(h:s b=nO):s.sub (s.upd b o):=fun c x hx=>by
 have:c≠b:=fun hc=>by rw[hc,h]at hx;simp at hx
 rw[St.upd_ne s o this];exact hx
theorem St.sub_trans{s s' s'':St}(h:s.sub s')(h':s'.sub s''):s.sub s'':=fun b o ho=>h' b o (h b o ho)
inductive DWf:D→Prop where
 |int (k:IntKind) (n:Int) (h:inR k n):DWf (.int k n)
 |str (l:List UInt8) (h:l.length≤big):DWf (.str l)
 |agg (cs:List D) (h:∀c∈cs,DWf c):DWf (.agg cs)
 |tup (cs:List D) (h:∀c∈cs,DWf c):DWf (.tup cs)
 |sl (t:Tok) (n s:Nat) (row:Nat→List D) (h:n≤big) (hl:∀i,i<n→(row i).length=s) (hr:∀i,i<n→∀c∈row i,DWf c):DWf (.sl t n s row)
 |ep (cs:List D) (o:Nat) (h:∀c∈cs,DWf c):DWf (.ep cs o)
 |iface (t:TypeId) (d:D) (h:DWf d):DWf (.iface t d)
 |msl (b o n cap s:Nat) (h:n≤cap) (h':cap≤big):DWf (.msl b o n cap s)
 |fn (f:Fn) (a b:List D) (h:∀c∈a,DWf c) (h':∀c∈b,DWf c):DWf (.fn f a b)
 |other (d:D) (h:match d with|.int .. |.str _|.agg _|.tup _|.sl .. |.ep .. |.iface .. |.msl .. |.fn ..=>False|_=>True):DWf d
theorem Zb7{Q:D→Prop}{vs:List Value}(hn:vs.length=ds.length)(h:∀(i:Nat) (v:Value) (d:D),vs[i]?=sO v→ds[i]?=sO d→Q d):∀c∈ds,Q c:=by
 intro c hc
 obtain⟨i,hi,rfl⟩:=ZFa hc
 exact h i (vs[i]'(by omega)) _ (by simp[show i<vs.length by omega]) (by simp[hi])
theorem Rep.wf{v:Value}{d:D}(h:Rep g w v d):DWf d:=by
 induction h with
 |int k n h=>exact .int k n h
 |str s l h hb=>exact .str l hb
 |agg vs cells hn _ _ ih=>exact .agg _ (Zb7 hn ih)
 |tup vs ds hn _ ih=>exact .tup _ (Zb7 hn ih)
 |sl0 a t s row ht=>exact .sl t 0 s row (Nat.zero_le _) (fun i hi=>by omega) (fun i hi=>by omega)
 |sl b o n cap s row t f hl hc hp _ one ht hcap hb ih =>
  refine .sl t n s row (by omega) hl fun i hi c u=>?_
  obtain⟨j,hj,rfl⟩:=ZFa u
  exact ih i j _ hi (by simp[hj])
 |ep b o off cells f hc hp _ one ih =>
  refine .ep _ _ fun c u=>?_
  obtain⟨j,hj,rfl⟩:=ZFa u
  exact ih j _ (by simp[hj])
 |iface t v d _ ih=>exact .iface t d ih
 |msl b off n cap s h hb=>exact .msl _ _ _ _ _ h hb
 |mslx a b off s=>exact .msl _ _ _ _ _ (ZE6 _) (Nat.zero_le _)
 |fn f fs cs df dc hnf hnc _ _ ihf ihc=>exact .fn f df dc (Zb7 hnf ihf) (Zb7 hnc ihc)
 |_=>exact .other _ trivial
theorem DWf.int_inv{k:IntKind}{n:Int}(h:DWf (.int k n)):inR k n:=by
 cases h with
 |int _ _ h=>exact h
 |other _ h=>exact h.elim
theorem DWf.str_inv{l:List UInt8}(h:DWf (.str l)):l.length≤big:=by
 cases h with
 |str _ h=>exact h
 |other _ h=>exact h.elim
theorem DWf.agg_inv{cs:List D}(h:DWf (.agg cs)):∀c∈cs,DWf c:=by
 cases h with
 |agg _ h=>exact h
 |other _ h=>exact h.elim
theorem DWf.sl_inv{t:Tok}{n s:Nat}(h:DWf (.sl t n s row)):n≤big∧(∀i,i<n→(row i).length=s)∧∀i,i<n→∀c∈row i,DWf c:=by
 cases h with
 |sl _ _ _ _ h1 h2 h3=>exact⟨h1,h2,h3⟩
 |other _ h=>exact h.elim
theorem ZyC{vs:List Value}(h:ZH (Rep g w) vs ds):∀d∈ds,DWf d:=Zb7 h.len fun i v d hv hd=>(h.get i v d hv hd).wf
section
variable {P:Program}
theorem ZhS{f:FuncId}{args:List D}(hf:∃fn,P.funcs[f]?=sO fn∧fn.body.isSome=true∧(fn.name == "runtime.NumGoroutine")=false)(h:(∀a∈args,DWf a)→Zf P f args s Φ):Zf P f args s Φ :=
 ⟨hf,fun g w vs hs ha=>(h (ZyC ha)).2 g w vs hs ha⟩
theorem Zp6{an:Ann}{f:FuncId}{df:DF}(hf:cf P an f=sO df):∃fn,P.funcs[f]?=sO fn∧fn.body.isSome=true∧(fn.name == "runtime.NumGoroutine")=false:=by
 unfold cf at hf
 split at hf<;>(try(simp at hf;done))
 rename_i fn j
 split at hf<;>(try(simp at hf;done))
 rename_i c hc
 split at hf<;>(try(simp at hf;done))
 rename_i i
 exact⟨fn,j,by simp[hc],by simpa using i⟩
theorem Zbe{an:Ann}{f:FuncId}{N:Nat}{rs:List RV}{b:DC}(hf:cf P an f=sO ⟨N,rs,b⟩){args:List D}(h:(∀a∈args,DWf a)→∀F:Fr P,YQ F rs Φ []→Zu F [.code b] (K2 0 args) [] s):Zf P f args s Φ :=
 ZhS (Zp6 hf) fun hw=>Zh hf (h hw)
theorem ZJ{an:Ann}{f:FuncId}{N:Nat}{rs:List RV}{b:DC}(hf:cf P an f=sO ⟨N,rs,b⟩){args:List D}{d:D}(h:(∀a∈args,DWf a)→∀(F:Fr P) (s:St),(∀{dk:List Zi} {ρ:Env} {L:Loc} {s':St} {p:Prop} {ds:List D},YI ρ L s' rs=sO (p,ds)→p→(K3 ds).Le d→s.sub s'→Zu F (.code .ret::dk) ρ L s') →
   Zu F [.code b] (K2 0 args) [] s):Zc P f args d :=
 fun s=>ZhS (Zp6 hf) fun hw=>Zh hf fun F hF=>h hw F s fun h1 h2 h3 h4=>hF.ret d s h1 h2 h3 h4 ⟨rfl,rfl⟩
theorem Zyy{F:Fr P}{dk:List Zi}(t:Nat){d:D}(ht:ZL ρ t=sO (.d d))(h:DWf d→Zu F dk ρ L s):Zu F dk ρ L s :=
 fun k hk g ν w tmps hN m=>h (Rep.wf (m.env t _ ht)) k hk g ν w tmps hN m
end
section
variable {P:Program}
def ZS(P:Program)(f:FuncId)(args:List D)(s:St)(d:D)(s':St):Prop:=Zf P f args s fun r t=>r=.ret d∧t=s'
theorem ZaA{F:Fr P}{dk:List Zi}{o:DOp}{s s':St}(hg:Zl ρ o.guard=sO true){fx:Opd}(hk:o.k=.call fx xs){p q:Prop}{f:FuncId}{first caps:List D}{es:List E}(hf:ZC ρ true fx=sO (q,.d (.fn (.func f) first caps)))(ha:Yd ρ true xs=sO (p,es))(hds:W2 es=sO ds)(hp:p)(hq:q){d:D}(hc:ZS P f (first++ds++caps) s d s')(h:DO F kp dk os (Zt ρ o.dst (.d d)) L s'):DO F kp dk (o::os) ρ L s :=
 ZjF hg hk hf ha hds hp hq hc (fun d' t ⟨h1,h2⟩=>by simp only[Res.ret.injEq]at h1;subst h1;subst h2;exact h) (fun d' t ⟨h1,_⟩=>by simp at h1)
theorem ZhU{F:Fr P}{dk:List Zi}{o:DOp}{f:List Nat}{os:List (DOp×List Nat)}{s s':St}{B:List (Nat×Rd)}(hg:Zl ρ o.guard=sO true){fx:Opd}(hk:o.k=.call fx xs){p q:Prop}{fi:FuncId}{first caps:List D}{es:List E}(hf:ZC ρ true fx=sO (q,.d (.fn (.func fi) first caps)))(ha:Yd ρ true xs=sO (p,es))(hds:W2 es=sO ds)(hp:p)(hq:q){d:D}(hc:ZS P fi (first++ds++caps) s d s')(hB:Wg f s s' L L B)(h:DOA F kp dk os (Zt ρ o.dst (.d d)) L s' (YX f B)):DOA F kp dk ((o,f)::os) ρ L s B :=
 ZgN hg hk hf ha hds hp hq hc (fun d' t ⟨h1,h2⟩=>by simp only[Res.ret.injEq]at h1;subst h1;subst h2;exact⟨hB,h⟩) (fun d' t ⟨h1,_⟩=>by simp at h1)
theorem Zvx{F:Fr P}{dk:List Zi}{o:DOp}{s s':St}(hg:Zl ρ o.guard=sO true){fx:Opd}(hk:o.k=.call fx xs){p q:Prop}{f:D}{es:List E}(hf:ZC ρ true fx=sO (q,.d f))(ha:Yd ρ true xs=sO (p,es))(hds:W2 es=sO ds)(hp:p)(hq:q){d:D}(hc:WZ P f ds s fun r t=>r=.ret d∧t=s')(h:DO F kp dk os (Zt ρ o.dst (.d d)) L s'):DO F kp dk (o::os) ρ L s :=
 Zej hg hk hf ha hds hp hq hc (fun d' t ⟨h1,h2⟩=>by simp only[Res.ret.injEq]at h1;subst h1;subst h2;exact h) (fun d' t ⟨h1,_⟩=>by simp at h1)
theorem Zc.le{f:FuncId}{args:List D}{d d':D}(h:Zc P f args d)(e:d=d'):Zc P f args d':=e▸h
end
inductive LeC:List D→List D→Prop where
 |nil:LeC [] []
 |cons {d d':D} {l l':List D} (h:d.Le d') (t:LeC l l'):LeC (d::l) (d'::l')
theorem LeC.refl(l:List D):LeC l l:=by
 induction l with
 |nil=>exact .nil
 |cons d l ih=>exact .cons (ZEW d) ih
theorem LeC.len{l l':List D}(h:LeC l l'):l.length=l'.length:=by
 induction h with
 |nil=>rfl
 |cons _ _ ih=>simp[ih]
theorem LeC.get{l l':List D}(h:LeC l l'){i:Nat}{d':D}(hi:l'[i]?=sO d'):∃d,l[i]?=sO d∧d.Le d':=by
 induction h generalizing i with
 |nil=>simp at hi
 |cons h _ ih =>
  cases i with
  |zero=>simp at hi;subst hi;exact⟨_,rfl,h⟩
  |succ i=>exact ih (by simpa using hi)
theorem ZzH{cs cs':List D}(h:LeC cs cs'):(D.agg cs).Le (.agg cs'):=by
 intro g w v hv
 cases hv with
 |agg vs _ hn hr one=>exact .agg vs _ (hn.trans h.len) (fun i v d' hv hd=>by obtain⟨d,h1,h2⟩:=h.get hd;exact h2 _ _ _ (hr i v d hv h1)) one
theorem ZyA{cs cs':List D}(h:LeC cs cs'):(D.tup cs).Le (.tup cs'):=by
 intro g w v hv
 cases hv with
 |tup vs _ hn hr=>exact .tup vs _ (hn.trans h.len) (fun i v d' hv hd=>by obtain⟨d,h1,h2⟩:=h.get hd;exact h2 _ _ _ (hr i v d hv h1))
theorem Zyz{t:Tok}{n s:Nat}:(D.sl t n s row).Le (.sl .none n s row):=by
 intro g w v hv
 cases hv with
 |sl0 _ _ _ _ ht=>exact .sl0 _ _ _ _ (by simp)
 |sl b o n cap s row t f hl hc hp hr one ht hcap hb=>exact .sl b o n cap s row _ f hl hc hp hr one trivial hcap hb
theorem ZzJ{t:Tok}{n s:Nat}{row row':Nat→List D}(h:∀i,i<n→LeC (row i) (row' i)):(D.sl t n s row).Le (.sl t n s row'):=by
 intro g w v hv
 cases hv with
 |sl0 _ _ _ _ ht=>exact .sl0 _ _ _ _ ht
 |sl b o n cap s row t f hl hc hp hr one ht hcap hb =>
  exact .sl b o n cap s _ _ f (fun i hi=>(h i hi).len.symm.trans (hl i hi)) hc hp (fun i j d hi hd=>by obtain⟨d',h1,h2⟩:=(h i hi).get hd;exact h2 _ _ _ (hr i j d' hi h1)) one ht hcap hb
theorem WH{s:Nat}{t:Tok}(ht:∀b,t≠.tip b):D.nilsl.Le (.sl t 0 s row):=by
 intro g w v hv;cases hv;exact .sl0 _ _ _ _ ht
theorem D.Le.trans{a b c:D}(h:a.Le b)(h':b.Le c):a.Le c:=fun g w v hv=>h' g w v (h g w v hv)
theorem Zyn{t:Tok}{n n' s:Nat}{row row':Nat→List D}(hn:n=n')(h:∀i,i<n→row i=row' i):(D.sl t n s row).Le (.sl .none n' s row'):=by
 subst hn
 exact Zyz.trans (ZzJ fun i hi=>by rw[h i hi];exact LeC.refl _)
inductive Zqt:E→E→Prop where
 |d {x y:D} (h:x.Le y):Zqt (.d x) (.d y)
 |refl (e:E):Zqt e e
inductive LeE:Env→Env→Prop where
 |nil:LeE [] []
 |cons {t:Nat} {e e':E} {ρ ρ':Env} (h:Zqt e e') (r:LeE ρ ρ'):LeE ((t,e)::ρ) ((t,e')::ρ')
 |skip {t:Nat} {e:E} {ρ ρ':Env} (r:LeE ρ ρ'):LeE ((t,e)::ρ) ((t,e)::ρ')
inductive LeL:Loc→Loc→Prop where
 |nil:LeL [] []
 |cons {t:Nat} {c c':List D} {ρ ρ':Loc} (h:LeC c c') (r:LeL ρ ρ'):LeL ((t,c)::ρ) ((t,c')::ρ')
 |skip {t:Nat} {c:List D} {ρ ρ':Loc} (r:LeL ρ ρ'):LeL ((t,c)::ρ) ((t,c)::ρ')
theorem LeE.get{ρ ρ':Env}(h:LeE ρ ρ'){t:Nat}{e':E}(he:ZL ρ' t=sO e'):∃e,ZL ρ t=sO e∧Zqt e e':=by
 induction h with
 |nil=>simp[ZL]at he
 |cons h _ ih =>
  simp only[ZL]at he⊢
  split at he
  ·simp at he;subst he;rename_i ht;rw[if_pos ht];exact⟨_,rfl,h⟩
  rename_i ht;rw[if_neg ht];exact ih he
 |skip _ ih =>
  simp only[ZL]at he⊢
  split at he
  ·simp at he;subst he;rename_i ht;rw[if_pos ht];exact⟨_,rfl,.refl _⟩
  rename_i ht;rw[if_neg ht];exact ih he
theorem LeL.get{ρ ρ':Loc}(h:LeL ρ ρ'){t:Nat}{e':List D}(he:Zg ρ' t=sO e'):∃e,Zg ρ t=sO e∧LeC e e':=by
 induction h with
 |nil=>simp[Zg]at he
 |cons h _ ih =>
  simp only[Zg]at he⊢
  split at he
  ·simp at he;subst he;rename_i ht;rw[if_pos ht];exact⟨_,rfl,h⟩
  rename_i ht;rw[if_neg ht];exact ih he
 |skip _ ih =>
  simp only[Zg]at he⊢
  split at he
  ·simp at he;subst he;rename_i ht;rw[if_pos ht];exact⟨_,rfl,LeC.refl _⟩
  rename_i ht;rw[if_neg ht];exact ih he
theorem LeL.getI{ρ ρ':Loc}(h:LeL ρ ρ'){t:Nat}{e:List D}(he:Zg ρ t=sO e):∃e',Zg ρ' t=sO e':=by
 induction h with
 |nil=>simp[Zg]at he
 |cons h _ ih =>
  simp only[Zg]at he⊢
  split at he
  ·rename_i ht;rw[if_pos ht];exact⟨_,rfl⟩
  rename_i ht;rw[if_neg ht];exact ih he
 |skip _ ih =>
  simp only[Zg]at he⊢
  split at he
  ·rename_i ht;rw[if_pos ht];exact⟨_,rfl⟩
  rename_i ht;rw[if_neg ht];exact ih he
theorem Y0.le{b:Nat}{ds ds':List D}(h:Y0 g w b ds)(hl:LeC ds ds'):Y0 g w b ds':=by
 obtain⟨hp,vs,T,h1,h2,h3,h4⟩:=h
 exact⟨hp,vs,T,h1,h2.trans hl.len,fun i v d' hv hd=>by obtain⟨d,e1,e2⟩:=hl.get hd;exact e2 _ _ _ (h3 i v d hv e1),h4⟩
theorem ZI.le{v:Value}{e e':E}(h:ZI g ν w L v e)(hl:Zqt e e'):ZI g ν w L v e':=by
 cases hl with
 |refl=>exact h
 |d hd=>exact hd _ _ _ h
theorem Zr.le{ρ ρ':Env}{L L':Loc}(m:Zr g ν w tmps ρ L s)(hρ:LeE ρ ρ')(hL:LeL L L'):Zr g ν w tmps ρ' L' s:={
 st:=m.st
 loc l cs h:=by obtain⟨c,h1,h2⟩:=hL.get h;exact(m.loc l c h1).le h2
 locKept l cs h:=by obtain⟨c,h1,_⟩:=hL.get h;exact m.locKept l c h1
 locSt l cs h:=by obtain⟨c,h1,_⟩:=hL.get h;exact m.locSt l c h1
 inj l l' cs cs' h h' hν:=by obtain⟨c,h1,_⟩:=hL.get h;obtain⟨c',i,_⟩:=hL.get h';exact m.inj l l' c c' h1 i hν
 env t e h:=by
  obtain⟨e0,h1,h2⟩:=hρ.get h
  exact((m.env t e0 h1).le h2).locs fun l cs hc=>⟨hL.getI hc,rfl⟩ }
section
variable {P:Program}
theorem Zyx{F:Fr P}{dk:List Zi}{ρ ρ':Env}{L L':Loc}(hρ:LeE ρ ρ')(hL:LeL L L')(h:Zu F dk ρ' L' s):Zu F dk ρ L s :=
 fun k hk g ν w tmps hN m=>h k hk g ν w tmps hN (m.le hρ hL)
end
theorem KH(ρ:Env):LeE ρ ρ:=by
 induction ρ with
 |nil=>exact .nil
 |cons a r ih=>obtain⟨t,e⟩:=a;exact .cons (.refl _) ih
theorem WU(ρ:Loc):LeL ρ ρ:=by
 induction ρ with
 |nil=>exact .nil
 |cons a r ih=>obtain⟨t,e⟩:=a;exact .cons (LeC.refl _) ih
theorem ZjJ{l:List D}{cs:List D}(hl:K3 l=.tup l)(h:LeC l cs):(K3 l).Le (.tup cs):=by rw[hl];exact ZyA h
theorem Zed{d d':D}(h:d.Le d'):(K3 [d]).Le d':=h
def Ziq:Bool→List Nat→St→St→Loc→Loc→List (Nat×Rd)→Prop
 |true,_,_,_,_,_,_=>True
 |false,fl,s,s',L,L',B=>Wg fl s s' L L' B
def ZmL:Bool→List Nat→List (Nat×Rd)→List (Nat×Rd)
 |true,_,B=>B
 |false,fl,B=>YX fl B
def ZgZ(K:Env→Loc→St→Prop)(X:List (DOp×List Nat)→Env→Loc→St→List (Nat×Rd)→Prop):List (DOp×List Nat)→Env→Loc→St→List (Nat×Rd)→Prop
 | [],ρ,L,s,_=>K ρ L s
 |o::os,ρ,L,s,B=>match ZB o.1 ρ L s with
  |.ok side ρ' L' s'=>side∧Ziq (Y5 o.1.k) o.2 s s' L L' B∧ZgZ K X os ρ' L' s' (Kj o.1 ρ++ZmL (Y5 o.1.k) o.2 B)
  |.all side pre ρ' s'=>side∧∀b,pre b→Ziq false o.2 s (s' b) L L B∧ZgZ K X os (ρ' b) L (s' b) (ZmL false o.2 B)
  |.stop=>X (o::os) ρ L s B
theorem ZjR{K:Env→Loc→St→Prop}{X:List (DOp×List Nat)→Env→Loc→St→List (Nat×Rd)→Prop}:∀{os:List (DOp×List Nat)} {ρ:Env} {L:Loc} {s:St} {B:List (Nat×Rd)},ZgZ K X os ρ L s B→ZgY K X os ρ L s B
 | [],ρ,L,s,B,h=>h
 |o::os,ρ,L,s,B,h=>by
  simp only[ZgZ,ZgY]at h⊢
  split at h<;>rename_i c<;>simp only[c]
  ·cases hp:Y5 o.1.k
   ·rw[hp]at h
    exact⟨h.1,h.2.1,ZjR h.2.2⟩
   rw[hp]at h;simp only[Ziq,ZmL]at h;exact⟨h.1,ZjR h.2.2⟩
  ·refine⟨h.1,fun b hb=>?_⟩
   exact⟨(h.2 b hb).1,ZjR (h.2 b hb).2⟩
  exact h
section
variable {P:Program}
theorem YJ{F:Fr P}{ks:List Nat}{dk:List Zi}{os:List (DOp×List Nat)}{B:List (Nat×Rd)}(h:ZgZ (fun ρ L s=>Zu F dk (Yp ρ ks) (ZaY (Yp ρ ks) L) s) (fun os ρ L s B=>DOA F (sO ks) dk os ρ L s B) os ρ L s B):DOA F (sO ks) dk os ρ L s B:=ZjE (ZjR h)
theorem QE{F:Fr P}{dk:List Zi}{o:DOp}{s0:St}(s:St)(t:Tok)(hg:Zl ρ o.guard=sO true){e sz b:Nat}{z:List D}{x y:Opd}(hk:o.k=.append e sz b z x y){p q:Prop}{n m:Nat}{row row2:Nat→List D}{dy:D}{dx:D}(hx:ZC ρ true x=sO (p,.d dx))(hsl:ZbD sz dx=sO (t,n,row))(hy:ZC ρ true y=sO (q,.d dy))(hel:Jc sz dy=sO (m,row2))(hp:p)(hq:q)(hs:s0=s.own t (n*sz))(hok:t.okIn s)(hb:(n+m)*b≤140737488355328)(hbig:n+m≤big)(h:∀t':Tok,t'.okIn s→DO F kp dk os (Zt ρ o.dst (.d (.sl t' (n+m) sz (YT n row row2)))) L (s.own t' ((n+m)*sz))):
  DO F kp dk (o::os) ρ L s0:=by
 subst hs;exact ZoG hg hk hx hsl hy hp hq hel hok hb hbig h
theorem Zw3{F:Fr P}{dk:List Zi}{o:DOp}{s0:St}(s:St)(t:Tok)(hg:Zl ρ o.guard=sO true){e sz b:Nat}{z:List D}{x y:Opd}(hk:o.k=.append e sz b z x y){p q:Prop}{n m:Nat}{row row2:Nat→List D}{dy:D}{dx:D}(hx:ZC ρ true x=sO (p,.d dx))(hsl:ZbD sz dx=sO (t,n,row))(hy:ZC ρ true y=sO (q,.d dy))(hel:Jc sz dy=sO (m,row2))(hp:p)(hq:q)(hs:s0=s.own t (n*sz))(hok:t.okIn s)(hb:(n+m)*b≤140737488355328)(hbig:n+m≤big)(h:∀t':Tok,t'.okIn s→QV F kp dk os (Zt ρ o.dst (.d (.sl t' (n+m) sz (YT n row row2)))) L (s.own t' ((n+m)*sz))):
  QV F kp dk (o::os) ρ L s0:=by
 subst hs;exact Zsr hg hk hx hsl hy hp hq hel hok hb hbig h
end
section
variable {P:Program}
theorem ZK{an:Ann}{f:FuncId}{N:Nat}{rs:List RV}{b:DC}(hf:cf P an f=sO ⟨N,rs,b⟩){args:List D}{d:D}{s s':St}(h:(∀a∈args,DWf a)→∀(F:Fr P),(∀{dk:List Zi} {ρ:Env} {L:Loc} {t:St} {p:Prop} {ds:List D},YI ρ L t rs=sO (p,ds)→p→(K3 ds).Le d→s'.sub t→Zu F (.code .ret::dk) ρ L t) →
   Zu F [.code b] (K2 0 args) [] s):ZS P f args s d s' :=
 ZhS (Zp6 hf) fun hw=>Zh hf fun F hF=>h hw F fun h1 h2 h3 h4=>hF.ret d s' h1 h2 h3 h4 ⟨rfl,rfl⟩
def VT(P:Program)(f:D)(args:List D)(s:St)(d:D)(s':St):Prop:=WZ P f args s fun r t=>r=.ret d∧t=s'
theorem ZS.VT{f:FuncId}{first args caps:List D}{s s':St}{d:D}(h:ZS P f (first++args++caps) s d s'):VT P (.fn (.func f) first caps) args s d s':=Zf.V h
theorem Zc.VT{f:FuncId}{first args caps:List D}{d:D}(h:Zc P f (first++args++caps) d)(s:St):VT P (.fn (.func f) first caps) args s d s:=Zf.V (h s)
theorem Zt0{F:Fr P}{dk:List Zi}{o:DOp}{s s':St}(hg:Zl ρ o.guard=sO true){fx:Opd}(hk:o.k=.call fx xs){p q:Prop}{f:D}{es:List E}(hf:ZC ρ true fx=sO (q,.d f))(ha:Yd ρ true xs=sO (p,es))(hds:W2 es=sO ds)(hp:p)(hq:q){d:D}(hc:VT P f ds s d s')(h:DO F kp dk os (Zt ρ o.dst (.d d)) L s'):DO F kp dk (o::os) ρ L s:=Zvx hg hk hf ha hds hp hq hc h
theorem ZzC{F:Fr P}{dk:List Zi}{o:DOp}{f:List Nat}{os:List (DOp×List Nat)}{s s':St}{B:List (Nat×Rd)}(hg:Zl ρ o.guard=sO true){fx:Opd}(hk:o.k=.call fx xs){p q:Prop}{fv:D}{es:List E}(hf:ZC ρ true fx=sO (q,.d fv))(ha:Yd ρ true xs=sO (p,es))(hds:W2 es=sO ds)(hp:p)(hq:q){d:D}(hc:VT P fv ds s d s')(hB:Wg f s s' L L B)(h:DOA F kp dk os (Zt ρ o.dst (.d d)) L s' (YX f B)):DOA F kp dk ((o,f)::os) ρ L s B :=
 Zfa hg hk hf ha hds hp hq hc (fun d' t ⟨h1,h2⟩=>by simp only[Res.ret.injEq]at h1;subst h1;subst h2;exact⟨hB,h⟩) (fun d' t ⟨h1,_⟩=>by simp at h1)
theorem ZH.leC{vs:List Value}{a a':List D}(h:ZH (Rep g w) vs a)(hl:LeC a a'):ZH (Rep g w) vs a':=by
 induction hl generalizing vs with
 |nil=>exact h
 |cons hd _ ih=>cases h with
  |cons h1 h2=>exact .cons (hd g w _ h1) (ih h2)
theorem Zf.leA{f:FuncId}{args args':List D}(hl:LeC args args')(h:Zf P f args' s Φ):Zf P f args s Φ :=
 ⟨h.1,fun g w vs hs ha=>h.2 g w vs hs (ZH.leC ha hl)⟩
theorem Zc.leA{f:FuncId}{args args':List D}{d:D}(hl:LeC args args')(h:Zc P f args' d):Zc P f args d:=fun s=>Zf.leA hl (h s)
theorem LeC.one{d d':D}(h:d.Le d'):LeC [d] [d']:=.cons h .nil
theorem LeC.two{d d' e e':D}(h:d.Le d')(h2:e.Le e'):LeC [d,e] [d',e']:=.cons h (.cons h2 .nil)
end
def St.or(s t:St):St:=fun b=>match s b with
 |some o=>sO o
 |none=>t b
theorem W5(s t:St)(b:Nat)(o:Ya):(s.or t).upd b o=(s.upd b o).or t:=by
 funext c;simp only[St.or,ZFr];by_cases h:c=b<;>simp[h]
theorem Zq{s t:St}{b:Nat}{o:Ya}(h:s b=sO o):(s.or t) b=sO o:=by simp[St.or,h]
theorem ZG{s t:St}{b:Nat}(h:s b=nO):(s.or t) b=t b:=by simp[St.or,h]
theorem Ky(s t:St):s.sub (s.or t):=fun b o h=>Zq h
def Yb(s t:St):Prop:=∀b o,t b=sO o→s b=nO
theorem or_assoc(s t u:St):(s.or t).or u=s.or (t.or u):=by
 funext b;simp only[St.or];cases s b<;>rfl
def St.single(b:Nat)(o:Ya):St:=fun c=>if c=b then sO o else nO
theorem YC(b:Nat)(o:Ya):(St.single b o) b=sO o:=by simp[St.single]
theorem Zdx{b c:Nat}(o:Ya)(h:c≠b):(St.single b o) c=nO:=by simp[St.single,h]
theorem Qj{b:Nat}{o:Ya}(h:s b=nO):s.upd b o=s.or (St.single b o):=by
 funext c;simp only[St.or,ZFr,St.single]
 by_cases hc:c=b
 ·subst hc;simp[h]
 simp only[hc,if_false];cases s c<;>rfl
theorem W1{b:Nat}{o:Ya}(h:s b=nO):Yb s (St.single b o):=fun c x hc=>by
 simp only[St.single]at hc;split at hc
 ·rename_i e;rw[e];exact h
 simp at hc
def G.keep(g:G)(k:Nat→Prop):G:={ g with kept:=k }
theorem WV{k:Nat→Prop}{v:Value}{d:D}(h:Rep g w v d):Rep (g.keep k) w v d:=h.mono0 (fun _=>ZE6 _) (fun _ _ _=>rfl) (fun _ _ h=>h)
theorem ZwF{k:Nat→Prop}{v:Value}{e:E}(h:ZI g ν w L v e):ZI (g.keep k) ν w L v e:=by
 induction e with
 |d d=>exact WV h
 |loc l off=>exact h
 |when c e ih=>exact⟨fun hc=>ih (h.1 hc),h.2⟩
theorem ZqP{k:Nat→Prop}{b:Nat}(h:Y0 g w b ds):Y0 (g.keep k) w b ds:=by
 obtain⟨hp,vs,T,h1,h2,h4,h5⟩:=h
 exact⟨hp,vs,T,h1,h2,fun i v d hv hd=>WV (h4 i v d hv hd),h5⟩
theorem ZmM{k:Nat→Prop}{b:Nat}{o:Ya}(h:WO g w b o):WO (g.keep k) w b o:=by
 cases o with
 |cells ds=>exact ZqP h
 |map es =>
  obtain⟨j,en,c,h1,h2,h3,h4,h5,h6⟩:=h
  exact⟨j,en,c,h1,h2,fun i x d hv hd=>WV (h3 i x d hv hd),fun i x d hv hd=>WV (h4 i x d hv hd),h5,h6⟩
 |tip n=>exact h
 |mapE kp es kk n =>
  obtain⟨j,io,u,en,c,h1,h2,h3,h4,h5,h6,h7⟩:=h
  exact⟨j,io,u,en,c,h1,h2,fun i x d hi hv hd=>WV (h3 i x d hi hv hd),fun i x d hi hv hd=>WV (h4 i x d hi hv hd),fun e he=>⟨WV (h5 e he).1,(h5 e he).2⟩,h6,h7⟩
 |loop r st =>
  obtain⟨hp,l,h1,h2,h3,h4,h5,h6,h7,h8,h9⟩:=h
  exact⟨hp,l,h1,h2,h3,h4,h5,h6,h7,fun t e he=>ZwF (h8 t e he),h9⟩
 |dfr=>exact h
theorem ZH.imp{α β:Type}{R S:α→β→Prop}{as9:List α}{bs:List β}(h:ZH R as9 bs)(hi:∀a b,R a b→S a b):ZH S as9 bs:=by
 induction h with
 |nil=>exact .nil
 |cons h _ ih=>exact .cons (hi _ _ h) ih
theorem Zrk{s t:St}(hd:Yb s t)(h:Ym g (s.or t) w):Ym (g.keep fun b=>g.kept b∨(t b).isSome) s w:={
 obj b o hb:=ZmM (h.obj b o (Zq hb))
 kept b o hb:=by
  rintro(hk|hk)
  ·exact h.kept b o (Zq hb) hk
  obtain⟨x,hx⟩:=Option.isSome_iff_exists.1 hk
  rw[hd b x hx]at hb;simp at hb
 fresh b hb:=by
  have h1:=h.fresh b hb
  refine⟨h1.1,?_⟩
  rintro(hk|hk)
  ·exact h1.2 hk
  obtain⟨x,hx⟩:=Option.isSome_iff_exists.1 hk
  have:=(h.obj b x (by rw[ZG (hd b x hx)];exact hx)).lt
  omega
 tabs n cs hc:=WV (h.tabs n cs hc) }
theorem Zo1{w w':World}{s t:St}{e:Ending}(hd:Yb s t)(h:Ym g (s.or t) w)(hp:Zga (g.keep fun b=>g.kept b∨(t b).isSome) w Φ e w'):
  Zga g w (fun r S=>∃s',Φ r s'∧Yb s' t∧S=s'.or t) e w':=by
 obtain⟨g',s',r,he,hs,hr,hΦ⟩:=hp
 have i:=he.keptEq
 have j:Ext g w (g'.keep g.kept) w':=⟨he.size,he.prot,he.cell,he.hdr,fun b hb=>he.kept b (.inl hb),fun b hb=>he.keptProt b (.inl hb),rfl,he.os,he.output,he.tape⟩
 have u:Yb s' t:=fun b o hb=>by
  cases c:s' b with
  |none=>rfl
  |some x=>exact absurd (by rw[i];exact .inr (by rw[hb];rfl)) (hs.kept b x c)
 refine⟨g'.keep g.kept,s'.or t,r,j,⟨fun b o hb=>?_,fun b o hb=>?_,fun b hb=>?_,fun n cs hc=>WV (hs.tabs n cs hc)⟩,?_,s',hΦ,u,rfl⟩
 ·cases c:s' b with
  |some x =>
   rw[Zq c]at hb;cases hb
   exact ZmM (hs.obj b _ c)
  |none =>
   rw[ZG c]at hb
   have h0:=h.obj b o (by rw[ZG (hd b o hb)];exact hb)
   have hk:(g.keep fun b=>g.kept b∨(t b).isSome).kept b:=.inr (by rw[hb];rfl)
   exact h0.mono j (he.kept b hk) (he.keptProt b hk)
 ·cases c:s' b with
  |some x=>exact fun hk=>hs.kept b x c (by rw[i];exact .inl hk)
  |none =>
   rw[ZG c]at hb
   exact h.kept b o (by rw[ZG (hd b o hb)];exact hb)
 ·have:=hs.fresh b hb
  exact⟨this.1,fun hk=>this.2 (by rw[i];exact .inl hk)⟩
 cases e<;>cases r<;>simp only[Zua]at hr⊢
 ·exact WV hr
 obtain⟨v,h1,h2⟩:=hr;exact⟨v,h1,WV h2⟩
section
variable {P:Program}
theorem Zf.frame{f:FuncId}{args:List D}{s t:St}(hd:Yb s t)(h:Zf P f args s Φ):Zf P f args (s.or t) fun r S=>∃s',Φ r s'∧Yb s' t∧S=s'.or t :=
 ⟨h.1,fun g w vs hs ha=>(h.2 _ w vs (Zrk hd hs) (ha.imp fun _ _=>WV)).mono fun _ _ hp=>Zo1 hd hs hp⟩
theorem WZ.frame{f:D}{args:List D}{s t:St}(hd:Yb s t)(h:WZ P f args s Φ):WZ P f args (s.or t) fun r S=>∃s',Φ r s'∧Yb s' t∧S=s'.or t:=by
 intro g w fv vs hs hf ha
 obtain⟨d,nx,fr,h1,h2,h3,h4⟩:=h _ w fv vs (Zrk hd hs) (WV hf) (ha.imp fun _ _=>WV)
 refine⟨d,nx,fr,h1,h2,h3,fun c cs=>?_⟩
 obtain⟨e,w',h5,h6⟩:=h4 c cs
 exact⟨e,w',Zo1 hd hs h5,h6⟩
end
section
variable {P:Program}
theorem ZpC{an:Ann}{l N:Nat}{r:Wq}{da db:DC}{args:List D}(hs:s l=sO (.loop r .ready))(hlen:args.length=r.params.length)(ha:cc P an N r.assign=sO da)(hb:cc P an N r.body=sO db)(hN:r.N=N)(hp:∀t∈r.params,t<N)(h:∀F:Fr P,K1 F l Φ→F.b.fn=r.fn→Zu F [.code da,.beginR,.code db] (WP r.params args r.ρ) [] s):WZ P (.fn (.yield l) [] []) args s Φ:=by
 intro g w fv vs n hf i
 cases hf with
 |fn _ fs y _ _ hn1 hn2 h1 h2 =>
 obtain rfl:fs=[]:=by simpa using hn1
 obtain⟨hp0,l0,a1,a2,a3,a4,a5,a6,a7,a8,a9,a10⟩:=n.obj l _ hs
 have j:vs.toArray.size=l0.params.size:=by
  have e1:=i.len
  have e2:l0.params.toList.length=r.params.length:=by rw[a3]
  simp at e2⊢;omega
 refine⟨_,_,_,by simp[Deferred.ofValue];rfl,by simp[invoke,Instr.yield,Instr.getLoop,Jn a1,j];rfl,rfl,fun c cs=>?_⟩
 have M:Zr g (fun _=>0) w l0.tmps r.ρ [] s:=⟨n,fun l cs h=>by simp[Zg]at h,fun l cs h=>by simp[Zg]at h,fun l cs h=>by simp[Zg]at h,fun l l' cs y h=>by simp[Zg]at h,a8⟩
 obtain⟨u,M'⟩:=Zhi M i hlen (by rw[hN]at *;exact hp) (by rw[←hN];exact a7)
 have:=h (Za4 P an r.fn N l c cs Φ) ⟨an,r.fn,N,c,cs,rfl⟩ rfl [.code r.assign,.beginRound,.code r.body] (.code ha (.beginR (.code hb .nil))) g (fun _=>0) w _ u M'
 have v:(Za4 P an r.fn N l c cs Φ).b.atR { tmps:=(r.params.zip vs).foldl (fun tmps (x:Nat×Value)=>tmps.setIfInBounds x.1 x.2) l0.tmps,defers:=[] } [.code r.assign,.beginRound,.code r.body] =
   Frame.round l l0.fn ((l0.params.zip vs.toArray).foldl (fun tmps (x:Nat×Value)=>tmps.setIfInBounds x.1 x.2) l0.tmps) l0.assign l0.body .normal:=by
  simp only[Frame.atR,Frame.round,a2,a4,a5,←a3]
  congr 1
  rw[←Array.foldl_toList]
  simp
 have e:(Za4 P an r.fn N l c cs Φ).ds=[]:=rfl
 rw[e,v]at this
 have e2:(l0.params.zip vs.toArray).size=l0.params.size:=by simp at j⊢;omega
 rw[e2]at this
 exact this
theorem Zqr{F:Fr P}(hr:F.b.roundOf=nO){o:Opd}{ps:List Nat}{da db:DC}{dk:List Zi}{p:Prop}{fv:D}(hf:ZC ρ true o=sO (p,.d fv))(hp:p)(ks:List Nat)(hks:(Yp ρ ks).map (·.1) |>.Nodup)(h:∀q l r,s q=nO→s l=nO→q≠l→r.ρ=Kb ks ρ→r.params=ps→r.fn=F.b.fn→cc P F.an F.N r.assign=sO da→cc P F.an F.N r.body=sO db→r.N=F.N→(∀t∈ps,t<F.N) →
   ∃Ψ,WZ P fv [.fn (.yield l) [] []] ((s.upd q .dfr).upd l (.loop r .ready)) Ψ∧(∀d s',Ψ (.ret d) s'→Zh0 (F.mark q) l r dk ρ L s')∧(∀d s',Ψ (.panic d) s'→Y6 (F.mark q) ρ L d s')):
  Zu F (.code (.rangeF o ps da db)::dk) ρ L s:=by
 intro k hk
 cases hk with
 | @code _ _ kt _ hc ht =>
 obtain⟨f',ae,a',b',rfl,aq,ak,ha,hb,ai⟩:=ZoO hc
 intro g ν w tmps hN m
 have aj:Rep g w _ fv:=Yc m aq rfl hf hp F.ds
 have ag:=JW (g:=g) (w:=w) (.deferred (sO [])) m.st.fresh
 have z:=ag.ext m.st.fresh
 obtain⟨hq,m1⟩:=m.newObj ag (o:=.dfr) ⟨(m.st.fresh _ (ZE6 _)).1,Kc w _⟩
 let w1:=w.alloc (.deferred (sO []))
 let lp:Go.Loop:={ state:=.ready,pending:=nO,fn:=F.b.fn,tmps:=tmps,params:=ae,assign:=a',body:=b',defers:=w.heap.size }
 let r:Wq:={ fn:=F.b.fn,params:=ps,assign:=a',body:=b',defers:=w.heap.size,ρ:=Kb ks ρ,N:=F.N }
 have ab:=JW (g:=g) (w:=w1) (.loop lp) m1.st.fresh
 have y:=ab.ext m1.st.fresh
 obtain⟨hl,m2⟩:=m1.newObj ab (o:=.loop r .ready) ⟨(m1.st.fresh _ (ZE6 _)).1,lp,Kc w1 _,rfl,ak,rfl,rfl,rfl,hN,fun t e ah=>by
  obtain⟨h1,h2⟩:=ZdW hks ah
  exact Zm1 (((m1.env t e (Zdo ρ ks t e h1))).mono y) h2,rfl,rfl⟩
 have hqsz:w1.heap.size=w.heap.size+1:=by simp[w1]
 have ao:s w1.heap.size=nO:=by
  have am:¬w1.heap.size=w.heap.size:=by omega
  have h0:(s.upd w.heap.size .dfr) w1.heap.size=nO:=hl
  simp[ZFr,am]at h0
  exact h0
 obtain⟨Ψ,hV,af,ac⟩:=h w.heap.size w1.heap.size r hq ao (by omega) rfl rfl rfl ha hb rfl ai
 have u:Rep g (w1.alloc (.loop lp)) _ fv:=(aj.mono z).mono y
 obtain⟨d,nx,fr,al,ar,ap,hC⟩:=hV (Zfe g ν L) (w1.alloc (.loop lp)) _ [.func (.yield w1.heap.size) #[] #[]] m2.callSt (Wx u rfl) (.cons (.fn (.yield w1.heap.size) [] [] [] [] rfl rfl (by simp) (by simp)) .nil)
 have n:(Instr.enterLoop F.b.fn tmps ae a' b' F.b.roundOf).run P w=.ok (w1.heap.size,[{ target:=.collected w.heap.size,args:=#[] }]) (w1.alloc (.loop lp)):=by
  rw[hr];simp[Instr.enterLoop,w1,lp]
 have i:=ZgG (P:=P) (b:=F.b) (a:=⟨tmps,F.ds⟩) (k:=kt) (cs:=F.cs) n al ar ap
 obtain⟨e,w',⟨g',s',res,x1,x2,x3,x4⟩,c⟩:=hC (F.b.atR { tmps:=tmps,defers:=[{ target:=.collected w.heap.size,args:=#[] }]++F.ds } (.inRangeFunc w1.heap.size::kt)) F.cs
 obtain⟨ad,hm⟩:=m2.afterCall x1 x2
 have j:=(z.trans y).trans ad
 cases e with
 |returned v =>
  cases res with
  |panic d=>exact x3.elim
  |ret d =>
   refine F.T.back _ _ _ _ (.head i c) ?_
   exact F.T.ext _ _ _ _ _ j (ZmZ (F:=F.mark w.heap.size) ht hN hm (af d s' x4))
 |panicked ch =>
  cases res with
  |ret d=>exact x3.elim
  |panic d =>
   obtain⟨v,rfl,hv⟩:=x3
   refine F.T.back _ _ _ _ (.head i c) ?_
   exact F.T.ext _ _ _ _ _ j (ac d s' x4 _ _ _ v _ _ hN hm (Wx hv rfl))
 |outgrown=>exact c.elim
theorem Zt8{F:Fr P}{d:D}{s s':St}(hs:s'.sub s)(h:Y6 F ρ L d s'):Y6 F ρ L d s :=
 fun g ν w v c tmps hN m hr=>h g ν w v c tmps hN (m.sub hs) hr
inductive Oc where
 |next
 |stop (c:Code)
 |pan (d:D)
def Oc.res:Oc→Res
 |.next=>.ret (.bool true)
 |.stop _=>.ret (.bool false)
 |.pan d=>.panic d
def Zk0(P:Program)(y:D)(n:Nat)(args:Nat→List D)(go:Nat→Oc)(A:Nat→St→Prop):Prop :=
 ∀j,j<n→(∀i,i<j→go i=.next)→∀a,A j a→WZ P y (args j) a fun r a'=>r=(go j).res∧A (j+1) a'
inductive Zf7(n:Nat)(go:Nat→Oc)(A:Nat→St→Prop)(a:St):Res→Prop where
 |all (h:∀i,i<n→go i=.next) (ha:A n a):Zf7 n go A a (.ret (.tup []))
 |stop (m:Nat) (c:Code) (hm:m<n) (h:∀i,i<m→go i=.next) (hc:go m=.stop c) (ha:A (m+1) a):Zf7 n go A a (.ret (.tup []))
 |pan (m:Nat) (d:D) (hm:m<n) (h:∀i,i<m→go i=.next) (hc:go m=.pan d) (ha:A (m+1) a):Zf7 n go A a (.panic d)
def ZcC(P:Program)(fv:D)(n:Nat)(args:Nat→List D)(t:St):Prop :=
 ∀(y:D) (go:Nat→Oc) (A:Nat→St→Prop) (a0:St),Zk0 P y n args go A→A 0 a0→Yb a0 t→WZ P fv [y] (a0.or t) fun r S=>∃a,Zf7 n go A a r∧a.sub S
def lpS(q l:Nat)(r:Wq)(st:LSt):St:=(St.single q .dfr).or (St.single l (.loop r st))
structure Zqv(F:Fr P)(busy:St)(E:Oc→St→Prop):Prop where
 fin:∀{ρ:Env} {L:Loc} {S a:St},E .next a→Yb a busy→(a.or busy).sub S→Zu F [] ρ L S
 ret:∀{dk:List Zi} {ρ:Env} {L:Loc} {S a:St},E (.stop .ret) a→Yb a busy→(a.or busy).sub S→Zu F (.code .ret::dk) ρ L S
 exit:∀{id:Nat} {dk:List Zi} {ρ:Env} {L:Loc} {S a:St},QS id dk=none→E (.stop (.exit id)) a→Yb a busy→(a.or busy).sub S→Zu F (.code (.exit id)::dk) ρ L S
 pan:∀{ρ:Env} {L:Loc} {d:D} {S a:St},E (.pan d) a→Yb a busy→(a.or busy).sub S→Y6 F ρ L d S
theorem YQ.ex{F:Fr P}{rs:List RV}{dds:List DD}(hF:YQ F rs Φ dds):∃f,P.funcs[F.b.fn]?=sO f:=by
 obtain⟨an,f,df,cs,hf,hrs,rfl⟩:=hF
 obtain⟨fn,h,_⟩:=Zp6 hf
 exact⟨fn,h⟩
theorem Zat{q l:Nat}{r:Wq}{st:LSt}:(lpS q l r st) q=sO .dfr:=Zq (YC _ _)
theorem Qr{q l:Nat}{r:Wq}{st:LSt}(h:q≠l):(lpS q l r st) l=sO (.loop r st):=by
 unfold lpS;rw[ZG (Zdx _ (Ne.symm h))];exact YC _ _
theorem Zey{q l c:Nat}{r:Wq}{st:LSt}(h1:c≠q)(h2:c≠l):(lpS q l r st) c=nO:=by
 unfold lpS;rw[ZG (Zdx _ h1)];exact Zdx _ h2
theorem Zrz{q l:Nat}{r r':Wq}{st st':LSt}{a:St}(h:Yb a (lpS q l r st))(hq:q≠l):Yb a (lpS q l r' st'):=fun b o hb=>by
 by_cases h1:b=q
 ·rw[h1];exact h q _ Zat
 by_cases h2:b=l
 ·rw[h2];exact h l _ (Qr hq)
 rw[Zey h1 h2]at hb;grind
theorem Zn0{q l:Nat}{r:Wq}{st st':LSt}{a S:St}(hq:q≠l)(hd:Yb a (lpS q l r st))(hs:(a.or (lpS q l r st)).sub S):(a.or (lpS q l r st')).sub (S.upd l (.loop r st')):=fun b o hb=>by
 by_cases h2:b=l
 ·subst h2
  rw[ZG (hd b _ (Qr hq)),Qr hq]at hb
  rw[St.upd_same];exact hb
 rw[St.upd_ne _ _ h2]
 refine hs b o ?_
 by_cases h1:b=q
 ·subst h1
  rw[ZG (hd b _ Zat),Zat]at hb⊢;exact hb
 cases ha:a b with
 |some x=>rw[Zq ha]at hb⊢;exact hb
 |none=>rw[ZG ha,Zey h1 h2]at hb;grind
theorem ZsU{F:Fr P}{q l:Nat}{r:Wq}(hF:K1 F l Φ)(hq:q≠l)(hex:∃f,P.funcs[F.b.fn]?=sO f){E:Oc→St→Prop}(hΦ:∀oc a,E oc a→Yb a (lpS q l r .busy)→Φ oc.res (a.or (lpS q l r (match oc with|.next=>.ready|.stop c=>.done c|.pan _=>.busy)))):Zqv F (lpS q l r .busy) E:={
 fin he hd hs:=hF.fin (s':=_) (hs l _ (by rw[ZG (hd l _ (Qr hq))];exact Qr hq)) (Zn0 hq hd hs) (hΦ .next _ he hd)
 ret he hd hs:=hF.ret (hs l _ (by rw[ZG (hd l _ (Qr hq))];exact Qr hq)) (Zn0 hq hd hs) (hΦ (.stop .ret) _ he hd)
 exit hx he hd hs:=hF.exit hx (hs l _ (by rw[ZG (hd l _ (Qr hq))];exact Qr hq)) (Zn0 hq hd hs) (hΦ (.stop (.exit _)) _ he hd)
 pan he hd hs:=hF.pan hs (hΦ (.pan _) _ he hd) fun an fn N c cs e=>by
  obtain⟨f,hf⟩:=hex
  refine⟨f,?_⟩
  have:F.b.fn=fn:=by rw[e];rfl
  rw[←this];exact hf }
end
end Go.DL
namespace Go.DL
open Go Go.Lib
variable [Zqw]
section
variable {P:Program}
theorem ZtY{F:Fr P}{kp:Option (List Nat)}{dk:List Zi}{o:DOp}{os:List DOp}{ρ:Env}{L:Loc}{s:St}(hg:Zl ρ o.guard=sO true){e sz b:Nat}{z:List D}{x y:Opd}(hk:o.k=.append e sz b z x y)
  {p q:Prop} {t:Tok} {n m:Nat} {row row2:Nat→List D} {dy:D} {dx:D} (hx:ZC ρ true x=sO (p,.d dx)) (hsl:ZbD sz dx=sO (t,n,row)) (hy:ZC ρ true y=sO (q,.d dy)) (hp:p) (hq:q) (hel:∀g w v,Rep g w v dy→∃news,WW g w sz m news row2∧Zbf P w sz m v news) (hok:t.okIn s)
  (hb:(n+m)*b≤140737488355328) (hbig:n+m≤big) (h:∀t':Tok,t'.okIn s→DO F kp dk os (Zt ρ o.dst (.d (.sl t' (n+m) sz (YT n row row2)))) L (s.own t' ((n+m)*sz))) :
  DO F kp dk (o::os) ρ L (s.own t (n*sz)):=by
 refine Wn fun oo g ν w tmps bb i r k ax u aj ae hd hN M hr ba=>?_
 have hw:=Yf M aj hg
 have ay:=Yi u (by rw[hk];rfl)
 rw[hk]at u
 obtain⟨x',y',af,au,t1,t2,tu,aw,c,bc,am,bf,az,a9,ar,hz,ap,al,aq,h0,hzl⟩:=ZbR u
 subst ap
 have ak:Rep g w _ (.sl t n sz row):=Zgf (Yc M al rfl hx hp F.ds) hsl
 have ai:Rep g w _ _:=Yc M aq rfl hy hq F.ds
 obtain⟨zv,hz1,av,hz3,ie,ad,bg⟩:=Q7 (g:=g) (w:=w) hz
 have ab:ie.size=sz:=by simpa[ZW,ad]using ar
 have ac:zv.cells.size=sz:=by have:=av.len;simp at this;omega
 have a0:P.bytesOf e=ie.bytes:=by simp[Program.bytesOf,ad]
 rw[a0]at hb
 obtain⟨news,ao,a8⟩:=hel _ _ _ ai
 obtain⟨v',w',g',t',a1,a2,a3,a4,a5,a6,a7⟩:=ZqG (ty:=oo.type) bf az a9 ad bg ab ac h0 M.st hok ak ao a8 hb hbig
 have j:∀l cs,Zg L l=sO cs→t≠.tip (ν l):=fun l cs hl ht=>by
  have:=M.locSt l cs hl
  rw[ht]at this
  simp[St.own,ZFr]at this
 have ag:∀l cs,Zg L l=sO cs→s (ν l)=nO:=fun l cs hl=>by
  cases hx:s (ν l) with
  |none=>rfl
  |some o=>have:=Wm (k:=n*sz) hok _ _ hx;rw[M.locSt l cs hl]at this;simp at this
 have mm:Zr g' ν w' tmps ρ L (s.own t' ((n+m)*sz)):=by
  refine⟨a3,fun l cs hl=>(M.loc l cs hl).mono a2 (a6 (ν l) (M.loc l cs hl).lt (j l cs hl)).1 (a6 (ν l) (M.loc l cs hl).lt (j l cs hl)).2,fun l cs hl=>by rw[a2.keptEq];exact M.locKept l cs hl,fun l cs hl=>?_,M.inj,fun t e he=>(M.env t e he).mono a2⟩
  cases t' with
  |tip b =>
   have:¬ν l=b:=fun hb=>by
    rcases a7 b rfl with h1|h1
    ·exact j l cs hl (by rw[hb];exact h1)
    have:=(M.loc l cs hl).lt;omega
   simp only[St.own,ZFr,this,if_false];exact ag l cs hl
  |_=>exact ag l cs hl
 refine YK hN ax ae hd hw ay (v:=v') (w':=w') (e:=.d (.sl t' (n+m) sz (YT n row row2))) ?_ a2 mm a5 (h t' a4 bb r k hr ba)
 have be:af = #[x',y']:=by apply Array.ext';simpa using c
 have ah:∀vs,Builtin.append_ au oo.type vs=Builtin.append_ #[t1,t2] oo.type vs:=fun vs=>by
  unfold Builtin.append_;simp[bc,am]
 unfold execOp
 simp only[aw,be,resolve,invoke,builtin,Sem.run_bind,Sem.run_pure,Result.andThen_ok,List.map_toArray,ZE7,ZFo,ah,a1]
theorem Zwk{g:G}{w:World}{v:Value}{b off cap sz:Nat}(h:Rep g w v (.msl b off 0 cap sz)):∃news,WW g w sz 0 news (fun _=>[])∧Zbf P w sz 0 v news:=by
 cases h with
 |mslx a _ _ _=>exact⟨[],⟨by simp,fun i hi=>by omega,fun i j v d hi=>by omega,by simp⟩,fun w2=>by simp[Builtin.lenOf],fun w2 _=>by simp[Builtin.firstCells,loadCells,loadCellsFrom]⟩
 |msl _ _ _ _ _ hn hb=>exact⟨[],⟨by simp,fun i hi=>by omega,fun i j v d hi=>by omega,by simp⟩,fun w2=>by simp[Builtin.lenOf],fun w2 _=>run_firstCells_some (P:=P) w2 sz 0 ⟨b,off,nO⟩ 0 cap [] (by simp) (fun k v hv=>by simp at hv)⟩
theorem Zt3{F:Fr P}{dk:List Zi}{ρ:Env}{L:Loc}{s:St}(t:Nat){tk:Tok}{sz:Nat}{row:Nat→List D}(ht:ZL ρ t=sO (.d (.sl tk 0 sz row)))(h1:Zu F dk ((t,.d .nilsl)::ρ) L s)
  (h2:∀b off cap,Zu F dk ((t,.d (.msl b off 0 cap sz))::ρ) L s):Zu F dk ρ L s:=by
 intro k hk g ν w tmps hN m
 have hr:Rep g w (tmps.getD t undef) (.sl tk 0 sz row):=m.env t _ ht
 have c:∀d,Rep g w (tmps.getD t undef) d→Zr g ν w tmps ((t,.d d)::ρ) L s:=fun d hd=>⟨m.st,m.loc,m.locKept,m.locSt,m.inj,fun t' e' he=>by
  simp only[ZL]at he
  split at he
  ·rename_i hx;subst hx;simp only[ZEP]at he;subst he;exact hd
  exact m.env t' e' he⟩
 generalize tmps.getD t undef=v at hr c
 cases hr with
 |sl0 a _ _ _ _ =>
  cases a with
  |none=>exact h1 k hk g ν w tmps hN (c _ .nilsl)
  |some a=>exact h2 0 0 0 k hk g ν w tmps hN (c _ (.mslx a 0 0 _))
 |sl b o n cap s row t f hl hc hp hr one ht hcap hb=>exact h2 b o cap k hk g ν w tmps hN (c _ (.msl _ _ _ _ _ hcap hb))
end
end Go.DL
namespace Go.DL
open Go
variable [Zqw]
variable {kp:Option (List Nat)}{L:Loc}{ρ:Env}{s:St}{w:World}{os:List DOp}{ds:List D}{B:List (Nat × Rd)}{dst:Option Nat}{tmps:Array Value}{g:G}{Φ:Res→St→Prop}{ν:Nat→Nat}{xs:List Opd}{side:Prop}{row:Nat→List D}
section
variable {P:Program}
theorem ZrJ{a:St}{q:Nat}{o:Ya}(h:a q=nO):(a.or (St.single q o)).del q=a:=by
 funext b
 simp only[St.del]
 by_cases hb:b=q
 ·rw[if_pos hb,hb,h]
 rw[if_neg hb]
 cases ha:a b with
 |some x=>exact Zq ha
 |none=>rw[ZG ha];exact Zdx _ hb
theorem YQ.retM{F:Fr P}{rs:List RV}{dds:List DD}(hF:YQ F rs Φ dds){q:Nat}{a:St}{dk:List Zi}(hq:a q=nO)(h:Unw P dds nO a (ZjH ρ L rs Φ)):
  Zu (F.mark q) (.code .ret::dk) ρ L (a.or (St.single q .dfr)) :=
 (hF.mark q).retU ⟨by rw[ZG hq];exact YC _ _,by rw[ZrJ hq];exact h⟩
theorem YQ.ret1{F:Fr P}{rs:List RV}(hF:YQ F rs Φ []){q:Nat}{a:St}{dk:List Zi}(hq:a q=nO){p:Prop}(d:D)(s':St)(h1:YI ρ L a rs=sO (p,ds))(h2:p)(h3:(K3 ds).Le d)(h4:s'.sub a)(h5:Φ (.ret d) s'):
  Zu (F.mark q) (.code .ret::dk) ρ L (a.or (St.single q .dfr)):=hF.retM hq ⟨p,ds,d,s',h1,h2,h3,h4,h5⟩
theorem YQ.fin1{F:Fr P}{rs:List RV}(hF:YQ F rs Φ []){q:Nat}{a:St}(hq:a q=nO){p:Prop}(d:D)(s':St)(h1:YI ρ L a rs=sO (p,ds))(h2:p)(h3:(K3 ds).Le d)(h4:s'.sub a)(h5:Φ (.ret d) s'):
  Zu (F.mark q) [] ρ L (a.or (St.single q .dfr)) :=
 (hF.mark q).finU ⟨by rw[ZG hq];exact YC _ _,by rw[ZrJ hq];exact⟨p,ds,d,s',h1,h2,h3,h4,h5⟩⟩
theorem YQ.pan1{F:Fr P}{rs:List RV}(hF:YQ F rs Φ []){q:Nat}{a:St}{d:D}(hq:a q=nO)(s':St)(h4:s'.sub a)(h5:Φ (.panic d) s'):Y6 (F.mark q) ρ L d (a.or (St.single q .dfr)) :=
 (hF.mark q).panU ⟨by rw[ZG hq];exact YC _ _,by rw[ZrJ hq];exact⟨d,s',ZEW d,h4,h5⟩⟩
theorem Zid{a t:St}(h:Yb a t){q:Nat}{o:Ya}(ht:t q=sO o):a q=nO:=h q o ht
end
section
variable {P:Program}
theorem J8{F:Fr P}{dk:List Zi}{b:Nat}{ds ds':List D}(h:s b=sO (.cells ds))(hl:LeC ds ds')(k:Zu F dk ρ L (s.upd b (.cells ds'))):Zu F dk ρ L s:=by
 intro kk hk g ν w tmps hN m
 have hc:Y0 g w b ds:=m.st.obj b _ h
 exact k kk hk g ν w tmps hN ⟨m.st.updL (o:=.cells ds') (hc.le hl) (m.st.kept b _ h),m.loc,m.locKept,fun l cs hL=>by
  have c:ν l≠b:=fun e=>by have:=m.locSt l cs hL;rw[e,h]at this;simp at this
  rw[St.upd_ne _ _ c];exact m.locSt l cs hL,m.inj,m.env⟩
end
theorem ZwH{s:Nat}{cs:List D}{r:Nat→List D}:∀{len:Nat},cs.length=len*s→(∀i,i<len→part cs (i*s) s=r i)→cs=(ZE4 len).flatMap r:=by
 intro len hl hr
 have c:∀k,k≤len→cs.take (k*s)=(ZE4 k).flatMap r:=by
  intro k
  induction k with
  |zero=>intro _;simp
  |succ k ih =>
   intro hk
   rw[List.range_succ,List.flatMap_append,←ih (by omega),ZFk,Nat.one_mul,List.take_add]
   congr 1
   simp only[List.flatMap_cons,List.flatMap_nil,ZFm]
   rw[←hr k hk];rfl
 have:=c len (ZE6 _)
 rw[←hl,ZFc]at this;exact this
theorem Zim(c:Array Value)(T:TypeId)(hf:∀b,w.heap.size≤b→g.prot b=0∧¬g.kept b):JR g w g (w.drew.alloc (.cells c T)):={
 size:=by simp
 old b hb:=(by first|exact heap_alloc_old w.drew _ b hb|exact heap_alloc_old w.drew _ hb)
 prot b hb:=rfl
 fresh b hb:=by
  have:(w.drew.alloc (.cells c T)).heap.size=w.heap.size+1:=by simp
  rw[this]at hb
  exact(hf b (by omega)).1
 kept:=rfl
 os:=rfl
 output:=rfl
 tape:=rfl }
section
variable {P:Program}
theorem ZyK{len s:Nat}{z:List D}{t e:TypeId}{parts:List (Nat×Value)}(hu:P.underlying t=sO (.slice e))(hsz:ZW P e=sO s)(hz:Zaz P e=sO z)(hdis:Qm len (parts.map (·.1))=true)(hzl:z.length=s)(hs0:0<s)(hbig:len*s≤2 ^ 24)(hl0:0<len)(hd:ZH (Rep g w) (parts.map (·.2)) ds)(hp:K4 s ds=true):
  ∃cv:Array Value,(Instr.buildSlice t len parts.toArray).run P w=.ok (.slice (sO ⟨w.heap.size,0,nO⟩) len len) (w.alloc (.cells cv e)) ∧
   ZH (Rep g w) cv.toList ((ZE4 len).flatMap (Z4 z ((parts.map (·.1)).zip ds)))∧∀v∈cv,v.one1=true:=by
 obtain⟨zv,hz1,ae,ak,ie,af,ap⟩:=Q7 (g:=g) (w:=w) hz
 have c:ie.size=s:=by simpa[ZW,af]using hsz
 have n:zv.cells.size=s:=by have:=ae.len;simp at this;omega
 have hn:(parts.map (·.1)).length=ds.length:=by have:=hd.len;simpa using this
 let c0:Array Value:=(Array.range (len*s)).map (zv.cells[· % zv.cells.size]!)
 let d0:List D:=(ZE4 (len*s)).map fun i=>z.getD (i % s) .undef
 have u:ZH (Rep g w) c0.toList d0:=by
  refine Yh (by simp[c0,d0]) (fun i v d hv hd=>?_)
  simp only[c0,d0,Array.toList_map,Array.toList_range,List.getElem?_map,ZE3]at hv hd
  obtain⟨a,ha,rfl⟩:=hv
  obtain⟨b,hb,rfl⟩:=hd
  rw[ha]at hb
  simp only[ZEP]at hb
  subst hb
  have j:a % s<s:=Nat.mod_lt _ hs0
  refine ae.get (a % s) _ _ ?_ ?_
  ·rw[n];simp[getElem!_pos,n,j]
  simp[ZE8,hzl,j]
 have ad:∀v∈c0,v.one1=true:=fun v hv=>by
  simp only[c0,Array.mem_map]at hv
  obtain⟨a,_,rfl⟩:=hv
  have j:a % zv.cells.size<zv.cells.size:=Nat.mod_lt _ (by omega)
  rw[getElem!_pos zv.cells (a % zv.cells.size) j]
  exact ak _ (Array.getElem_mem j)
 have ac:d0.length=len*s:=by simp[d0]
 obtain⟨cs,ab,al,y⟩:=Zii (parts.map (·.1)) ds d0 hdis hn hp ac
 obtain⟨cv,am,ao,aj⟩:=Zgl (g:=g) (w:=w) (fun i=>sO (i*s,s)) parts ((parts.map (·.1)).map fun i=>(i*s,s)) ds cs d0 c0 (fun i x q hx hq=>by
  simp only[List.map_map,List.getElem?_map,hx,ZFl,ZEP,Function.comp_def]at hq
  rw[←hq]) (by simp) hd u ad ab
 have ag:¬len*s=0:=by simp[Nat.mul_eq_zero];omega
 have ah:=run_buildSlice (P:=P) w t e len parts.toArray cv ie zv hu af ap (by rw[c];omega) (by rw[c];exact ag) (by rw[c];exact am)
 refine⟨cv,ah,?_,aj⟩
 have:cs=(ZE4 len).flatMap (Z4 z ((parts.map (·.1)).zip ds)):=ZwH al fun i hi=>by
  rw[y i hi]
  have ai:part d0 (i*s) s=z:=ZjB hzl hs0 hi
  rw[ai]
 rw[←this];exact ao
theorem Ztc{F:Fr P}{dk:List Zi}{o:DOp}(hg:Zl ρ o.guard=sO true){len n:Nat}{z:List D}{is:List Nat}(hk:o.k=.bsl len n z is xs){p:Prop}{es:List E}(ha:Yd ρ true xs=sO (p,es))(hds:W2 es=sO ds)(hp:p)(hok:K4 n ds=true)(hl0:0<len)(h:∀b,s b=nO→DO F kp dk os (Zt ρ o.dst (.d (.msl b 0 len len n))) L (s.upd b (.cells ((ZE4 len).flatMap (Z4 z (is.zip ds)))))):DO F kp dk (o::os) ρ L s:=by
 refine Wn fun oo g ν w tmps am i r k al u ar ab hd hN m hr ak=>?_
 have hw:=Yf m ar hg
 have ao:=Yi u (by rw[hk];rfl)
 rw[hk]at u
 obtain⟨t,e,parts,ai,hu,aq,hz,aj,rfl,ae,ap,af,y⟩:=ZvG u
 have c:=ZbV m rfl F.ds aj ha hp
 have j:=KW c hds
 obtain⟨cv,h1,h2,h3⟩:=ZyK (P:=P) (g:=g) (w:=w) (parts:=parts.toList.map fun x=>(x.1,(Act.mk tmps F.ds).eval x.2)) hu aq hz (by simpa[List.map_map,Function.comp_def]using ae) ap af y hl0
  (by simpa[List.map_map,Function.comp_def]using j) hok
 have ac:ZH (Rep g w) cv.toList ((ZE4 len).flatMap (Z4 z ((parts.toList.map (·.1)).zip ds))):=by simpa[List.map_map,Function.comp_def]using h2
 have ad:=JW (g:=g) (w:=w) (.cells cv e) m.st.fresh
 have he:=ad.ext m.st.fresh
 have ah:WO g (w.alloc (.cells cv e)) w.heap.size (.cells ((ZE4 len).flatMap (Z4 z ((parts.toList.map (·.1)).zip ds)))) :=
  ⟨(m.st.fresh _ (ZE6 _)).1,_,e,Kc w _,by rw[←ac.len];simp,fun i v d hv hd=>(ac.get i v d (by simpa using hv) hd).mono he,h3⟩
 obtain⟨hn,m'⟩:=m.newObj ad ah
 have ag:(execOp (Act.mk tmps F.ds).eval oo).run P w=.ok (.value (.slice (sO ⟨w.heap.size,0,nO⟩) len len)) (w.alloc (.cells cv e)):=by
  simp only[execOp,ai,Sem.run_bind]
  have e1:(parts.map fun x=>(x.1,(Act.mk tmps F.ds).eval x.2))=(parts.toList.map fun x=>(x.1,(Act.mk tmps F.ds).eval x.2)).toArray:=by apply Array.ext';simp
  rw[e1,h1]
  rfl
 refine YK (L':=L) hN al ab hd hw ao (e:=.d (.msl w.heap.size 0 len len n)) ag he m' (Rep.msl _ _ _ _ _ (ZE6 _) ?_) ?_
 ·unfold big
  have:len≤len*n:=Nat.le_mul_of_pos_right _ af
  omega
 exact h _ hn am r k hr ak
def Zno(o:DOp)(ρ:Env)(L:Loc)(s:St):SR :=
 match o.k with
 |.bsl _ _ _ _ _=>.stop
 |_=>ZB o ρ L s
def ZjS(K:Env→Loc→St→Prop)(X:List DOp→Env→Loc→St→Prop):List DOp→Env→Loc→St→Prop
 | [],ρ,L,s=>K ρ L s
 |o::os,ρ,L,s=>match Zno o ρ L s with
  |.ok side ρ' L' s'=>side∧ZjS K X os ρ' L' s'
  |.all side pre ρ' s'=>side∧∀b,pre b→ZjS K X os (ρ' b) L (s' b)
  |.stop=>X (o::os) ρ L s
theorem ZjG{F:Fr P}{kp:Option (List Nat)}{dk:List Zi}:∀{os:List DOp} {ρ:Env} {L:Loc} {s:St},
  ZjS (fun ρ L s=>Zu F dk (kept kp ρ) (ZjV kp ρ L) s) (fun os ρ L s=>DO F kp dk os ρ L s) os ρ L s→DO F kp dk os ρ L s
 | [],ρ,L,s,h=>Zei h
 |o::os,ρ,L,s,h=>by
  have c:∀r,Zno o ρ L s=r→r=.stop∨ZB o ρ L s=r:=fun r hr=>by
   unfold Zno at hr
   split at hr
   ·exact .inl hr.symm
   exact .inr hr
  simp only[ZjS]at h
  split at h
  ·rename_i sd ρ' L' s' h1
   rcases c _ h1 with h2|h2
   ·cases h2
   exact QB h2 h.1 (ZjG h.2)
  ·rename_i sd pre ρ' s' h1
   rcases c _ h1 with h2|h2
   ·cases h2
   exact ZlP h2 h.1 fun b hb=>ZjG (h.2 b hb)
  exact h
theorem Zth{sz m:Nat}{v1 v2:Value}{row row2:Nat→List D}{tT u ty e:TypeId}{tu:TypeDesc}{i:TypeInfo}{z:Value}(ht:P.underlying tT=sO (.slice e))(hu:P.underlying u=sO tu)(hnu:∀k,tu≠.int k)(hi:P.info? e=sO i)(hz:i.zero=sO z)(hsz:i.size=sz)(hzc:z.cells.size=sz)(hone:∀x∈z.cells,x.one1=true)(h0:0<sz)(hs:Ym g s w)(h1:Rep g w v1 (.sl .full 0 sz row)){news:List Value}(hm:0<m)(h2:WW g w sz m news row2)(h3:Zbf P w sz m v2 news)(hb:m*i.bytes≤140737488355328)(hbig:m≤big):
    ∃(cap:Nat) (cv:Array Value),(Builtin.append_ #[tT,u] ty #[v1,v2]).run P w=.ok (.slice (sO ⟨w.heap.size,0,nO⟩) m cap) (w.drew.alloc (.cells cv e))∧m≤cap∧cap≤big∧cv.size=cap*sz∧(∀v∈cv,v.one1=true) ∧
      ∀(k:Nat) (v:Value) (d:D),cv[k]?=sO v→((ZE4 m).flatMap row2++List.replicate ((cap-m)*sz) .any)[k]?=sO d→Rep g w v d:=by
  subst hsz
  have c:∀j,v1=.slice j 0 0→∃(cap:Nat) (cv:Array Value),(Builtin.append_ #[tT,u] ty #[v1,v2]).run P w=.ok (.slice (sO ⟨w.heap.size,0,nO⟩) m cap) (w.drew.alloc (.cells cv e))∧m≤cap∧cap≤big∧cv.size=cap*i.size∧(∀v∈cv,v.one1=true) ∧
      ∀(k:Nat) (v:Value) (d:D),cv[k]?=sO v→((ZE4 m).flatMap row2++List.replicate ((cap-m)*i.size) .any)[k]?=sO d→Rep g w v d:=by
    intro j hv
    subst hv
    obtain⟨ac,ai,ho1,ao⟩:=Zhm (P:=P) h1 h0
    have ak:ac=[]:=List.eq_nil_of_length_eq_zero (by simpa using ai.len)
    subst ak
    have ho:=ao
    have y:=Zld (ty:=ty) (n:=0) (cap:=0) ht hu hnu hi hz h3 ho (by omega) (by simp only[big]at hbig;omega) (by rw[Nat.zero_add];exact hb)
    rw[Nat.zero_add]at y
    have am:=grownCap_ge w m 0 e
    have al:=grownCap_le_maxLen w m 0 e (by simp only[big]at hbig;simp only[maxLen];omega)
    refine⟨_,_,y,am,by simp only[maxLen]at al;simp only[big];omega,?_,fun v hv=>?_,fun k v d hv hd=>?_⟩
    · simp only[List.nil_append,List.size_toArray,ZE1,h2.len,Array.length_toList,size_zeroCells,hzc,←ZFk]
      congr 1;omega
    · simp only[List.nil_append,List.mem_toArray,List.mem_append]at hv
      rcases hv with hv|hv
      · exact h2.one v hv
      simp only[Builtin.zeroCells,Array.mem_toList_iff]at hv
      first
      | (simp only[Array.mem_map,Array.mem_range]at hv
         obtain⟨a,_,rfl⟩:=hv
         have ad:a % z.cells.size<z.cells.size:=Nat.mod_lt _ (by omega)
         rw[getElem!_pos z.cells (a % z.cells.size) ad]
         exact hone _ (Array.getElem_mem ad))
    simp only[List.nil_append,List.getElem?_toArray]at hv
    have ag:((ZE4 m).flatMap row2).length=m*i.size:=by
      have:∀k,k≤m→((ZE4 k).flatMap row2).length=k*i.size:=by
        intro k
        induction k with
        |zero=>intro _;simp
        |succ k ih =>
          intro hk
          rw[List.range_succ,List.flatMap_append,ZE1,ih (by omega)]
          simp[h2.rlen k hk,ZFk]
      exact this m (ZE6 _)
    by_cases hk:k<m*i.size
    · rw[ZFp (by rw[h2.len];exact hk)]at hv
      rw[ZFp (by rw[ag];exact hk)]at hd
      have ae:k / i.size<m:=Nat.div_lt_of_lt_mul (by rw[Nat.mul_comm];exact hk)
      have ah:k % i.size<i.size:=Nat.mod_lt _ h0
      have e1:k / i.size*i.size+k % i.size=k:=by rw[Nat.mul_comm];exact Nat.div_add_mod k i.size
      refine h2.rep (k / i.size) (k % i.size) v d ae ah (by rw[e1];exact hv) ?_
      have aj:∀q,q≤m→∀a b,a<q→b<i.size→((ZE4 q).flatMap row2)[a*i.size+b]?=(row2 a)[b]?:=by
        intro q
        induction q with
        |zero=>intro _ a b ha;omega
        |succ q ih =>
          intro hq a b ha hb
          have ab:((ZE4 q).flatMap row2).length=q*i.size:=by
            have:∀k,k≤m→((ZE4 k).flatMap row2).length=k*i.size:=by
              intro k
              induction k with
              |zero=>intro _;simp
              |succ k ih =>
                intro hk
                rw[List.range_succ,List.flatMap_append,ZE1,ih (by omega)]
                simp[h2.rlen k hk,ZFk]
            exact this q (by omega)
          rw[List.range_succ,List.flatMap_append]
          by_cases af:a<q
          · have:a*i.size+b<q*i.size:=by
              have:=ZFg i.size (show a+1≤q from af)
              rw[ZFk,Nat.one_mul]at this;omega
            rw[ZFp (by rw[ab];exact this)]
            exact ih (by omega) a b af hb
          obtain rfl:a=q:=by omega
          rw[ZFz (by rw[ab];omega),ab]
          simp
      rw[←aj m (ZE6 _) _ _ ae ah,e1];exact hd
    rw[ZFz (by rw[ag];omega),List.getElem?_replicate]at hd
    split at hd
    · simp only[ZEP]at hd;subst hd;exact .any v
    simp at hd
  cases h1 with
  |sl0 a t s row htt=>exact c a rfl
  |sl b o n cap sz row t f hl hc hp hr one htok hcap hb' =>
    simp only[ZjM]at htok
    subst htok
    exact c _ rfl
theorem Zyv{F:Fr P}{dk:List Zi}{o:DOp}(hg:Zl ρ o.guard=sO true){e sz b:Nat}{z:List D}{x y:Opd}(hk:o.k=.append e sz b z x y){p q:Prop}{m:Nat}{row row2:Nat→List D}{dy:D}{dx:D}(hx:ZC ρ true x=sO (p,.d dx))(hsl:ZbD sz dx=sO (.full,0,row))(hy:ZC ρ true y=sO (q,.d dy))(hel:Jc sz dy=sO (m,row2))(hp:p)(hq:q)(hm:0<m)(hb:m*b≤140737488355328)(hbig:m≤big)(h:∀c cap,s c=nO→m≤cap→DO F kp dk os (Zt ρ o.dst (.d (.msl c 0 m cap sz))) L (s.upd c (.cells ((ZE4 m).flatMap row2++List.replicate ((cap-m)*sz) .any)))):
  DO F kp dk (o::os) ρ L s:=by
 refine Wn fun oo g ν w tmps bb i r k ax n aj ac hd hN M hr a9=>?_
 have hw:=Yf M aj hg
 have ay:=Yi n (by rw[hk];rfl)
 rw[hk]at n
 obtain⟨x',y',ad,au,t1,t2,tu,aw,j,bc,ao,bf,az,a8,ar,hz,ap,am,aq,h0,hzl⟩:=ZbR n
 subst ap
 have al:Rep g w _ (.sl .full 0 sz row):=Zgf (Yc M am rfl hx hp F.ds) hsl
 have ah:Rep g w _ _:=Yc M aq rfl hy hq F.ds
 obtain⟨zv,hz1,av,ba,ie,ab,bg⟩:=Q7 (g:=g) (w:=w) hz
 have t:ie.size=sz:=by simpa[ZW,ab]using ar
 have u:zv.cells.size=sz:=by have:=av.len;simp at this;omega
 have a0:P.bytesOf e=ie.bytes:=by simp[Program.bytesOf,ab]
 rw[a0]at hb
 obtain⟨news,ae,a7⟩:=Zlk (P:=P) ah hel h0
 obtain⟨cap,cv,a1,a2,a3,a4,a5,a6⟩:=Zth (ty:=oo.type) bf az a8 ab bg t u ba h0 M.st al hm ae a7 hb hbig
 have af:JR g w g (w.drew.alloc (.cells cv e)):=Zim (g:=g) (w:=w) cv e M.st.fresh
 have he:=af.ext M.st.fresh
 have ai:((ZE4 m).flatMap row2).length=m*sz:=by
  have:∀k,k≤m→((ZE4 k).flatMap row2).length=k*sz:=by
   intro k
   induction k with
   |zero=>intro _;simp
   |succ k ih =>
    intro hk
    rw[List.range_succ,List.flatMap_append,ZE1,ih (by omega)]
    simp[ae.rlen k hk,ZFk]
  exact this m (ZE6 _)
 have ak:WO g (w.drew.alloc (.cells cv e)) w.heap.size (.cells ((ZE4 m).flatMap row2++List.replicate ((cap-m)*sz) .any)) :=
  ⟨(M.st.fresh _ (ZE6 _)).1,_,e,Kc w.drew _,by rw[ZE1,ai,List.length_replicate,a4,←ZFk];congr 1;omega,fun i v d hv hd=>(a6 i v d hv hd).mono he,a5⟩
 obtain⟨hn,m'⟩:=M.newObj af ak
 refine YK (L':=L) hN ax ac hd hw ay (e:=.d (.msl w.heap.size 0 m cap sz)) ?_ he m' (Rep.msl _ _ _ _ _ a2 a3) (h _ cap hn a2 bb r k hr a9)
 have be:ad = #[x',y']:=by apply Array.ext';simpa using j
 have ag:∀vs,Builtin.append_ au oo.type vs=Builtin.append_ #[t1,t2] oo.type vs:=fun vs=>by
  unfold Builtin.append_;simp[bc,ao]
 unfold execOp
 simp only[aw,be,resolve,invoke,builtin,Sem.run_bind,Sem.run_pure,Result.andThen_ok,List.map_toArray,ZE7,ZFo,ag,a1]
end
def Zt5(g:G)(w:World)(b:Nat)(ds:List D):Prop :=
 ∃(vs:Array Value) (T:TypeId),w.heap[b]?=sO (.cells vs T (0,0))∧vs.size=ds.length∧(∀(i:Nat) (v:Value) (d:D),vs[i]?=sO v→ds[i]?=sO d→Rep g w v d)∧(∀v∈vs,v.one1=true)∧ds.length≤g.prot b
def Y8(t:St)(Ln:List Nat)(d d':D):Prop:=∀g w v,(∀b∈Ln,∀ds,t b=sO (.cells ds)→Zt5 g w b ds)→Rep g w v d→Rep g w v d'
inductive LdC(t:St)(Ln:List Nat):List D→List D→Prop where
 |nil:LdC t Ln [] []
 |cons {d d':D} {l l':List D} (h:Y8 t Ln d d') (r:LdC t Ln l l'):LdC t Ln (d::l) (d'::l')
theorem Y8.refl{t:St}{Ln:List Nat}(d:D):Y8 t Ln d d:=fun _ _ _ _ h=>h
theorem LdC.refl{t:St}{Ln:List Nat}:∀l:List D,LdC t Ln l l
 | []=>.nil
 |d::l=>.cons (Y8.refl d) (LdC.refl l)
theorem LdC.len{t:St}{Ln:List Nat}{l l':List D}(h:LdC t Ln l l'):l.length=l'.length:=by
 induction h with
 |nil=>rfl
 |cons _ _ ih=>simp[ih]
theorem LdC.get{t:St}{Ln:List Nat}{l l':List D}(h:LdC t Ln l l'){i:Nat}{d':D}(hi:l'[i]?=sO d'):∃d,l[i]?=sO d∧Y8 t Ln d d':=by
 induction h generalizing i with
 |nil=>simp at hi
 |cons h1 _ ih =>
  cases i with
  |zero=>simp at hi;subst hi;exact⟨_,rfl,h1⟩
  |succ i=>simpa using ih (by simpa using hi)
theorem Y8.agg{t:St}{Ln:List Nat}{l l':List D}(h:LdC t Ln l l'):Y8 t Ln (.agg l) (.agg l'):=by
 intro g w v hf hr
 cases hr with
 |agg vs _ hn hc one =>
  refine .agg vs _ (hn.trans h.len) (fun i v d hv hd=>?_) one
  obtain⟨x,hx,c⟩:=h.get hd
  exact c g w v hf (hc i v x hv hx)
theorem Y8.msl{t:St}{Ln:List Nat}{b n cap sz:Nat}(hb:b∈Ln)(ht:t b=sO (.cells ds))(hlen:n*sz≤ds.length)(hrow:∀i,i<n→LdC t Ln ((ds.drop (i*sz)).take sz) (row i)):Y8 t Ln (.msl b 0 n cap sz) (.sl .none n sz row):=by
 intro g w v hf hr
 obtain⟨vs,T,hh,hsz,hc,one,hp⟩:=hf b hb ds ht
 cases hr with
 |mslx a _ _ _=>exact .sl0 _ _ _ _ (by simp)
 |msl _ _ _ _ _ hcap hbig =>
 have u:∀i j,i<n→j<sz→i*sz+j<ds.length:=fun i j hi hj=>by
  have:(i+1)*sz≤n*sz:=ZFg _ hi
  rw[ZFk,Nat.one_mul]at this
  omega
 have c:∀i j,i<n→j<sz→vs[i*sz+j]?=sO (vs.getD (i*sz+j) undef):=fun i j hi hj=>by
  have h1:=u i j hi hj
  simp only[Array.getD_eq_getD_getElem?,Array.getElem?_eq_getElem (show i*sz+j<vs.size by omega),ZFs]
 have z:∀i j,i<n→j<sz→vs.getD (i*sz+j) undef∈vs:=fun i j hi hj=>by
  have h1:=u i j hi hj
  simp only[Array.getD_eq_getD_getElem?,Array.getElem?_eq_getElem (show i*sz+j<vs.size by omega),ZFs]
  exact Array.getElem_mem _
 have y:∀i,i<n→(row i).length=sz:=fun i hi=>by
  rw[←(hrow i hi).len,ZE9,ZFw]
  have:(i+1)*sz≤n*sz:=ZFg _ hi
  rw[ZFk,Nat.one_mul]at this
  omega
 refine .sl b 0 n cap sz row .none (fun i j=>vs.getD (i*sz+j) undef) y (fun i j hi hj=>?_) (fun i j hi hj=>?_) (fun i j d hi hd=>?_) (fun i j hi hj=>one _ (z i j hi hj)) trivial hcap hbig
 ·rw[Nat.zero_add,ZaG hh];exact c i j hi hj
 ·have:=u i j hi hj;omega
 have hj:j<sz:=by rw[←y i hi];exact(List.getElem?_eq_some_iff.1 hd).1
 obtain⟨x,hx,ab⟩:=(hrow i hi).get hd
 rw[ZFu,if_pos hj,List.getElem?_drop]at hx
 exact ab g w _ hf (hc _ _ x (c i j hi hj) hx)
inductive LdE(t:St)(Ln:List Nat):Env→Env→Prop where
 |nil:LdE t Ln [] []
 |cons {k:Nat} {d d':D} {ρ ρ':Env} (h:Y8 t Ln d d') (r:LdE t Ln ρ ρ'):LdE t Ln ((k,.d d)::ρ) ((k,.d d')::ρ')
 |skip {k:Nat} {e:E} {ρ ρ':Env} (r:LdE t Ln ρ ρ'):LdE t Ln ((k,e)::ρ) ((k,e)::ρ')
inductive LdL(t:St)(Ln:List Nat):Loc→Loc→Prop where
 |nil:LdL t Ln [] []
 |cons {k:Nat} {c c':List D} {L L':Loc} (h:LdC t Ln c c') (r:LdL t Ln L L'):LdL t Ln ((k,c)::L) ((k,c')::L')
theorem LdE.get{t:St}{Ln:List Nat}{ρ ρ':Env}(h:LdE t Ln ρ ρ'){k:Nat}{e':E}(he:ZL ρ' k=sO e'):∃e,ZL ρ k=sO e∧(e=e'∨∃x y,e=.d x∧e'=.d y∧Y8 t Ln x y):=by
 induction h with
 |nil=>simp[ZL]at he
 |cons h1 _ ih =>
  rename_i k' d d' ρ ρ' _
  simp only[ZL]at he⊢
  by_cases hk:k'=k
  ·simp only[hk,if_true,ZEP]at he⊢
   exact⟨_,rfl,.inr ⟨d,d',rfl,he.symm,h1⟩⟩
  simp only[hk,if_false]at he⊢;exact ih he
 |skip _ ih =>
  rename_i k' e ρ ρ' _
  simp only[ZL]at he⊢
  by_cases hk:k'=k
  ·simp only[hk,if_true,ZEP]at he⊢
   exact⟨_,rfl,.inl he⟩
  simp only[hk,if_false]at he⊢;exact ih he
theorem LdL.get{t:St}{Ln:List Nat}{L L':Loc}(h:LdL t Ln L L'){k:Nat}{c':List D}(he:Zg L' k=sO c'):∃c,Zg L k=sO c∧LdC t Ln c c':=by
 induction h with
 |nil=>simp[Zg]at he
 |cons h1 _ ih =>
  rename_i k' c c' L L' _
  simp only[Zg]at he⊢
  by_cases hk:k'=k
  ·simp only[hk,if_true,ZEP]at he⊢;exact⟨_,rfl,he▸h1⟩
  simp only[hk,if_false]at he⊢;exact ih he
theorem LdL.getI{t:St}{Ln:List Nat}{L L':Loc}(h:LdL t Ln L L'){k:Nat}{c:List D}(he:Zg L k=sO c):∃c',Zg L' k=sO c':=by
 induction h with
 |nil=>simp[Zg]at he
 |cons h1 _ ih =>
  rename_i k' c c' L L' _
  simp only[Zg]at he⊢
  by_cases hk:k'=k
  ·simp only[hk,if_true];exact⟨_,rfl⟩
  simp only[hk,if_false]at he⊢;exact ih he
def St.delL(s:St)(Ln:List Nat):St:=fun b=>if b∈Ln then nO else s b
def Zaj(g:G)(t:St)(Ln:List Nat):G:={ g with prot:=fun b=>if b∈Ln then (match t b with|some (.cells ds)=>ds.length|_=>0) else g.prot b }
theorem ZcK{t:St}{Ln:List Nat}(hs:Ym g t w)(hL:∀b∈Ln,∃ds,t b=sO (.cells ds)):Ext g w (Zaj g t Ln) w:={
 size:=ZE6 _
 prot b:=by
  simp only[Zaj]
  split
  ·rename_i h
   obtain⟨ds,hd⟩:=hL b h
   have:=(hs.obj b _ hd).1
   omega
  exact ZE6 _
 cell _ _ _:=rfl
 hdr _ _ h:=h
 kept _ _:=rfl
 keptProt b hb:=by
  simp only[Zaj]
  split
  ·rename_i h
   obtain⟨ds,hd⟩:=hL b h
   exact absurd hb (hs.kept b _ hd)
  rfl
 keptEq:=rfl
 os:=rfl
 output:=rfl
 tape:=rfl }
theorem ZnW{t:St}{Ln:List Nat}(hs:Ym g t w)(hL:∀b∈Ln,∃ds,t b=sO (.cells ds)):∀b∈Ln,∀ds,t b=sO (.cells ds)→Zt5 (Zaj g t Ln) w b ds:=by
 intro b hb ds hd
 obtain⟨hp,vs,T,h1,h2,h3,h4⟩:=hs.obj b _ hd
 exact⟨vs,T,h1,h2,fun i v d hv c=>(h3 i v d hv c).mono (ZcK hs hL),h4,by simp only[Zaj,if_pos hb,hd];exact ZE6 _⟩
section
variable {P:Program}
theorem Zqp{F:Fr P}{dk:List Zi}{ρ ρ':Env}{L L':Loc}(Ln:List Nat)(hL:∀b∈Ln,∃ds,s b=sO (.cells ds))(hE:LdE s Ln ρ ρ')(hLL:LdL s Ln L L')(k:Zu F dk ρ' L' (s.delL Ln)):Zu F dk ρ L s:=by
 intro kk hk g ν w tmps hN m
 have hx:=ZcK m.st hL
 have u:=ZnW m.st hL
 have t:∀c,c∉Ln→(Zaj g s Ln).prot c=g.prot c:=fun c hc=>by simp only[Zaj,if_neg hc]
 refine F.T.ext _ _ _ _ _ hx (k kk hk _ ν w tmps hN ?_)
 have ad:∀l cs,Zg L l=sO cs→ν l∉Ln:=fun l cs hl h=>by
  obtain⟨ds,hd⟩:=hL _ h
  have:=m.locSt l cs hl
  rw[hd]at this;simp at this
 refine⟨⟨fun c x j=>?_,fun c x j=>?_,fun c hc=>?_,fun n cs hc=>(m.st.tabs n cs hc).mono hx⟩,fun l cs hl=>?_,fun l cs hl=>?_,fun l cs hl=>?_,fun l l' cs cs' h1 h2=>?_,fun t' e he=>?_⟩
 ·simp only[St.delL]at j
  by_cases hc:c∈Ln
  ·simp[hc]at j
  simp only[hc,if_false]at j;exact(m.st.obj c x j).mono hx rfl (t c hc)
 ·simp only[St.delL]at j
  by_cases hc:c∈Ln
  ·simp[hc]at j
  simp only[hc,if_false]at j;exact m.st.kept c x j
 ·have h1:=m.st.fresh c hc
  refine⟨(t c fun h=>?_).trans h1.1,h1.2⟩
  obtain⟨ds,hd⟩:=hL c h
  have:=(m.st.obj c _ hd).lt
  omega
 ·obtain⟨c,hc,z⟩:=hLL.get hl
  have ac:=(m.loc l c hc).mono hx rfl (t _ (ad l c hc))
  obtain⟨h1,vs,T,h2,h3,h4,h5⟩:=ac
  refine⟨h1,vs,T,h2,h3.trans z.len,fun i v d hv hd=>?_,h5⟩
  obtain⟨x,ab,af⟩:=z.get hd
  exact af _ w v u (h4 i v x hv ab)
 ·obtain⟨c,hc,_⟩:=hLL.get hl;exact m.locKept l c hc
 ·obtain⟨c,hc,_⟩:=hLL.get hl
  simp only[St.delL]
  split
  ·rfl
  exact m.locSt l c hc
 ·obtain⟨c,hc,_⟩:=hLL.get h1
  obtain⟨c',ae,_⟩:=hLL.get h2
  exact m.inj l l' c c' hc ae
 obtain⟨e0,h0,h1⟩:=hE.get he
 have hr:=m.env t' e0 h0
 rcases h1 with h1|⟨x,y,h1,h2,h3⟩
 ·subst h1
  exact(hr.mono hx).locs fun l cs hl=>⟨(hLL.getI hl),rfl⟩
 subst h1;subst h2
 exact h3 _ w _ u (Rep.mono hr hx)
inductive SC(N:Nat→Prop):D→Prop where
 |int (k:IntKind) (n:Int):SC N (.int k n)
 |bool (b:Bool):SC N (.bool b)
 |str (l:List UInt8):SC N (.str l)
 |nilsl:SC N .nilsl
 |agg (cs:List D) (h:∀c∈cs,SC N c):SC N (.agg cs)
 |tup (cs:List D) (h:∀c∈cs,SC N c):SC N (.tup cs)
 |sl0 (t:Tok) (s:Nat) (row:Nat→List D):SC N (.sl t 0 s row)
 |tip (b n s:Nat) (row:Nat→List D) (hb:N b) (h:∀i,i<n→∀c∈row i,SC N c):SC N (.sl (.tip b) n s row)
 |ptr (b o:Nat):SC N (.ptr b o)
 |msl (b o n cap s:Nat):SC N (.msl b o n cap s)
 |fn (f:Fn) (a b:List D) (ha:∀c∈a,SC N c) (hb:∀c∈b,SC N c):SC N (.fn f a b)
 |nilptr:SC N .nilptr
 |map (b:Nat):SC N (.map b)
 |nilmap:SC N .nilmap
 |nilfn:SC N .nilfn
 |niliface:SC N .niliface
 |undef:SC N .undef
theorem SC.rep{N:Nat→Prop}{d:D}(h:SC N d):∀{g g':G} {w:World} {v:Value},(∀b,N b→g.prot b≤g'.prot b)→Rep g w v d→Rep g' w v d:=by
 induction h with
 |int k n=>intro g g' w v _ hr;cases hr with|int _ _ h=>exact .int k n h
 |bool b=>intro g g' w v _ hr;cases hr;exact .bool b
 |str l=>intro g g' w v _ hr;cases hr with|str s _ h hb=>exact .str s l h hb
 |nilsl=>intro g g' w v _ hr;cases hr;exact .nilsl
 |agg cs _ ih =>
  intro g g' w v hp hr
  cases hr with
  |agg vs _ hn hc one=>exact .agg vs cs hn (fun i v d hv hd=>ih d (List.mem_of_getElem? hd) hp (hc i v d hv hd)) one
 |tup cs _ ih =>
  intro g g' w v hp hr
  cases hr with
  |tup vs _ hn hc=>exact .tup vs cs hn (fun i v d hv hd=>ih d (List.mem_of_getElem? hd) hp (hc i v d hv hd))
 |sl0 t s row =>
  intro g g' w v hp hr
  cases hr with
  |sl0 _ _ _ _ ht=>exact .sl0 _ t s row ht
  |sl b o n cap sz _ t f hl hc hpp hrr one ht hcap hb =>
   exact .sl b o 0 cap s row t f hl hc (fun i j hi=>by omega) (fun i j d hi=>by omega) one ht hcap hb
 |tip b n s row hb _ ih =>
  intro g g' w v hp hr
  cases hr with
  |sl0 _ _ _ _ ht=>exact .sl0 _ _ s row ht
  |sl b' o n cap sz _ t f hl hc hpp hrr one ht hcap hbig =>
   have c:b'=b:=ht.1
   subst c
   exact .sl b' o n cap s row (.tip b') f hl hc (fun i j hi hj=>Nat.lt_of_lt_of_le (hpp i j hi hj) (hp _ hb)) (fun i j d hi hd=>ih i hi d (List.mem_of_getElem? hd) hp (hrr i j d hi hd)) one ht hcap hbig
 |ptr b o=>intro g g' w v _ hr;cases hr;exact .ptr b o
 |msl b o n cap s=>intro g g' w v _ hr;cases hr with|msl _ _ _ _ _ h hb=>exact .msl b o n cap s h hb|mslx a _ _ _=>exact .mslx a _ _ _
 |fn f a b _ _ iha ihb =>
  intro g g' w v hp hr
  cases hr with
  |fn _ fs cs _ _ hnf hnc hf hc=>exact .fn f fs cs a b hnf hnc (fun i v d hv hd=>iha d (List.mem_of_getElem? hd) hp (hf i v d hv hd)) (fun i v d hv hd=>ihb d (List.mem_of_getElem? hd) hp (hc i v d hv hd))
 |nilptr=>intro g g' w v _ hr;cases hr;exact .nilptr
 |map b=>intro g g' w v _ hr;cases hr;exact .map b
 |nilmap=>intro g g' w v _ hr;cases hr;exact .nilmap
 |nilfn=>intro g g' w v _ hr;cases hr;exact .nilfn
 |niliface=>intro g g' w v _ hr;cases hr;exact .niliface
 |undef=>intro g g' w v _ hr;cases hr;exact .undef
def SCO(N:Nat→Prop):Ya→Prop
 |.cells ds=>∀d∈ds,SC N d
 |.map es=>∀e∈es,SC N e.1∧SC N e.2
 |.tip _=>True
 |.dfr=>True
 |_=>False
theorem SCO.ok{N:Nat→Prop}{o:Ya}(h:SCO N o){g g':G}{b:Nat}(hp:∀b,N b→g.prot b≤g'.prot b)(hpb:g'.prot b=g.prot b)(hr:WO g w b o):WO g' w b o:=by
 cases o with
 |cells ds =>
  obtain⟨h0,vs,T,h1,h2,h3,h4⟩:=hr
  exact⟨hpb.trans h0,vs,T,h1,h2,fun i v d hv hd=>(h d (List.mem_of_getElem? hd)).rep hp (h3 i v d hv hd),h4⟩
 |map es =>
  obtain⟨h0,en,cl,h1,h2,h3,h4,h5,h6⟩:=hr
  exact⟨hpb.trans h0,en,cl,h1,h2,fun i x d hv hd=>(h d (List.mem_of_getElem? hd)).1.rep hp (h3 i x d hv hd),fun i x d hv hd=>(h d (List.mem_of_getElem? hd)).2.rep hp (h4 i x d hv hd),h5,h6⟩
 |tip k =>
  obtain⟨h0,x⟩:=hr
  exact⟨hpb.trans h0,x⟩
 |dfr=>exact⟨hpb.trans hr.1,hr.2⟩
 |mapE _ _ _ _=>exact h.elim
 |loop _ _=>exact h.elim
def SCR(N:Nat→Prop):Res→Prop
 |.ret d=>SC N d
 |.panic d=>SC N d
theorem ZH.ldC{t:St}{Ln:List Nat}(hf:∀b∈Ln,∀ds,t b=sO (.cells ds)→Zt5 g w b ds){vs:List Value}{a a':List D}(h:ZH (Rep g w) vs a)(hl:LdC t Ln a a'):ZH (Rep g w) vs a':=by
 induction hl generalizing vs with
 |nil=>cases h;exact .nil
 |cons h1 _ ih=>cases h with|cons h2 h3=>exact .cons (h1 _ _ _ hf h2) (ih h3)
theorem Zf.lend{f:FuncId}{args args':List D}{t:St}{Ln:List Nat}(hL:∀b∈Ln,∃ds,t b=sO (.cells ds))(hl:LdC t Ln args args')(h:Zf P f args' (fun _=>nO) Φ)(hΦ:∀r S,Φ r S→SCR (fun b=>(S b).isSome=true) r∧∀b o,S b=sO o→SCO (fun b=>(S b).isSome=true) o):
  Zf P f args t fun r S=>∃S',Φ r S'∧Yb S' t∧S=S'.or t:=by
 refine⟨h.1,fun g w vs hs ha=>?_⟩
 have hx:=ZcK hs hL
 have ah:=ZnW hs hL
 have aj:ZH (Rep (Zaj g t Ln) w) vs args':=ZH.ldC ah (ha.imp fun _ _ h=>Rep.mono h hx) hl
 have ag:Ym ((Zaj g t Ln).keep fun b=>g.kept b∨(t b).isSome=true) (fun _=>nO) w:=by
  refine⟨fun b o hb=>by simp at hb,fun b o hb=>by simp at hb,fun b hb=>?_,fun n cs hc=>WV ((hs.tabs n cs hc).mono hx)⟩
  have h1:=hs.fresh b hb
  have u:t b=nO:=by
   cases u:t b with
   |none=>rfl
   |some o=>have:=(hs.obj b o u).lt;omega
  have i:b∉Ln:=fun hm=>by obtain⟨ds,hd⟩:=hL b hm;rw[u]at hd;simp at hd
  exact⟨by show(Zaj g t Ln).prot b=0;simp only[Zaj,if_neg i];exact h1.1,fun hk=>by rcases hk with hk|hk;exact h1.2 hk;rw[u]at hk;simp at hk⟩
 refine(h.2 _ w vs ag (aj.imp fun _ _ h=>WV h)).mono fun e w' hp=>?_
 obtain⟨g',S',r,he,hS,hr,hq⟩:=hp
 have j:=he.keptEq
 obtain⟨y,ae⟩:=hΦ r S' hq
 have af:Yb S' t:=fun b o hb=>by
  cases c:S' b with
  |none=>rfl
  |some x=>exact absurd (by rw[j];exact .inr (by rw[hb];rfl)) (hS.kept b x c)
 have ad:∀b,(S' b).isSome=true→b∉Ln:=fun b hb hm=>by
  obtain⟨ds,hd⟩:=hL b hm
  rw[af b _ hd]at hb;simp at hb
 let g2:G:={ prot:=fun b=>if b∈Ln then 0 else g'.prot b,kept:=g.kept }
 have ab:∀b,(S' b).isSome=true→g'.prot b≤g2.prot b:=fun b hb=>by simp only[g2,if_neg (ad b hb)];exact ZE6 _
 have hf:∀b,b∉Ln→(Zaj g t Ln).prot b=g.prot b:=fun b hb=>by simp only[Zaj,if_neg hb]
 have ac:∀b,b∈Ln→g.prot b=0:=fun b hb=>by obtain⟨ds,hd⟩:=hL b hb;exact(hs.obj b _ hd).1
 have z:Ext g w g2 w':=by
  refine⟨he.size,fun b=>?_,fun b o ho=>?_,he.hdr,fun b hb=>he.kept b (.inl hb),fun b hb=>?_,rfl,he.os,he.output,he.tape⟩
  ·simp only[g2]
   split
   ·rename_i hb;rw[ac b hb];exact ZE6 _
   rename_i hb;rw[←hf b hb];exact he.prot b
  ·have hb:b∉Ln:=fun hb=>by rw[ac b hb]at ho;omega
   exact he.cell b o (by show o<(Zaj g t Ln).prot b;rw[hf b hb];exact ho)
  have i:b∉Ln:=fun hm=>by obtain⟨ds,hd⟩:=hL b hm;exact hs.kept b _ hd hb
  simp only[g2,if_neg i]
  rw[←hf b i];exact he.keptProt b (.inl hb)
 have hg'0:∀b,w'.heap.size≤b→g'.prot b=0∧¬g'.kept b:=fun b hb=>hS.fresh b hb
 refine⟨g2,S'.or t,r,z,⟨fun b o hb=>?_,fun b o hb=>?_,fun b hb=>?_,fun n cs hc=>(hs.tabs n cs hc).mono z⟩,?_,S',hq,af,rfl⟩
 ·cases c:S' b with
  |some x =>
   rw[Zq c]at hb;cases hb
   have ai:(S' b).isSome=true:=by rw[c];rfl
   exact(ae b _ c).ok ab (by simp only[g2,if_neg (ad b ai)]) (hS.obj b _ c)
  |none =>
   rw[ZG c]at hb
   have hk:g.kept b∨(t b).isSome=true:=.inr (by rw[hb];rfl)
   refine(hs.obj b o hb).mono z (he.kept b hk) ?_
   by_cases i:b∈Ln
   ·simp only[g2,if_pos i];exact(ac b i).symm
   simp only[g2,if_neg i];rw[←hf b i];exact he.keptProt b hk
 ·cases c:S' b with
  |some x=>exact fun hk=>hS.kept b x c (by rw[j];exact .inl hk)
  |none=>rw[ZG c]at hb;exact hs.kept b o hb
 ·have:=hS.fresh b hb
  refine⟨?_,fun hk=>this.2 (by rw[j];exact .inl hk)⟩
  simp only[g2]
  split
  ·rfl
  exact this.1
 cases e<;>cases r<;>simp only[Zua]at hr⊢
 ·exact SC.rep y ab hr
 obtain⟨v,h1,h2⟩:=hr;exact⟨v,h1,SC.rep y ab h2⟩
end
end Go.DL
namespace Go.DL
open Go Go.ChangeShapes Go.RowKit Go.WideShapes Go.ChangeAt
variable [Zqw]
def Zcw(W:World):G:={ prot:=fun b=>match W.heap[b]? with|some (.cells vs _ _)=>vs.size|_=>0,kept:=fun b=>b<W.heap.size }
def ZlV(W:World):Prop:=∀n cs,Zqw.tab n=sO cs→Rep (Zcw W) W (.pointer (sO ⟨n,0,nO⟩)) (.ep cs 0)
theorem Zzy{W:World}(ht:ZlV W):Ym (Zcw W) (fun _=>nO) W:={
 tabs:=ht
 obj b o h:=by simp at h
 kept b o h:=by simp at h
 fresh b hb:=⟨by simp[Zcw,hb],by simp only[Zcw];omega⟩ }
theorem Zzw{P:Program}{W:World}{name:String}{g:Nat}{k:IntKind}{zs:List Int}(h:W.var? P name=sO (zs.map fun z=>Value.int k z).toArray)(hg:P.globalNamed name=sO g)(hz:∀z∈zs,inR k z) :
  Rep (Zcw W) W (.pointer (sO ⟨g,0,nO⟩)) (.ep (zs.map fun z=>.int k z) 0):=by
 unfold World.var? at h
 rw[hg]at h
 simp only[Option.bind_some]at h
 split at h<;>(try(simp at h;done))
 rename_i cs T fr hh
 simp only[ZEP]at h
 subst h
 have j:∀i (hi:i<zs.length),W.cell? ⟨g,0+i,nO⟩=sO (.int k zs[i]):=fun i hi=>by
  simp only[World.cell?,hh]
  simp[hi]
 refine .ep g 0 0 _ (fun i=>.int k (zs.getD i 0)) (fun i hi=>?_) (fun i hi=>?_) (fun i d hd=>?_) (fun i hi=>rfl)
 ·simp only[List.length_map]at hi
  rw[j i hi];simp[ZE8,hi]
 ·simp only[List.length_map]at hi
  simp only[Zcw,hh];simpa using hi
 simp only[List.getElem?_map,ZE3]at hd
 obtain⟨z,c,rfl⟩:=hd
 simp only[ZE8,c,ZFs]
 exact .int k z (hz z (List.mem_of_getElem? c))
theorem Zyl{P:Program}{f:FuncId}{args:List D}(h:Zc P f args (.bool true)){W:World}(ht:ZlV W){vs:List Value}(ha:ZH (Rep (Zcw W) W) vs args) :
  Calls P f vs.toArray W fun e W'=>e=.returned (.bool true)∧Below W.heap.size W W':=by
 refine((h (fun _=>nO)).2 _ W vs (Zzy ht) ha).mono fun e W' hp=>?_
 obtain⟨g',s',r,he,hs,hr,hq,_⟩:=hp
 subst hq
 cases e with
 |returned v=>cases hr;exact⟨rfl,he.os,he.tape,he.output,he.size,fun b hb=>he.kept b hb⟩
 |_=>exact hr.elim
section
variable {H:Type} {enc:TypeId × Value→H} {P:Program} {w:World}
def Q8(p:Nat→Prop)(enc:TypeId×Value→H)(P:Program)(w:World)(t:TypeId)(R:List D→Prop):Prop :=
 ∀fuel cs x,p fuel→DataW.trod enc P w 0 (fun _=>true) true fuel t cs=sO x→∃ds,R ds∧ZH (Rep (Zcw w) w) cs ds∧∀v∈cs,v.one1=true
abbrev ZaW(enc:TypeId×Value→H)(P:Program)(w:World)(t:TypeId)(R:List D→Prop):Prop:=Q8 (fun _=>True) enc P w t R
variable {p q:Nat→Prop}
theorem Zwb{k:IntKind}{n:Int}(h:(Lit.int k n).wf=true):inR k n:=by
 simpa[Lit.wf,inR]using h
theorem Zm0{t:TypeId}{k:IntKind}(ht:P.underlying t=sO (.int k)):Q8 p enc P w t fun ds=>∃n,inR k n∧ds=[.int k n]:=by
 intro fuel cs x _ h
 obtain⟨n,rfl,_,hn⟩:=DataW.trod_int ht h
 exact⟨_,⟨n,Zwb hn,rfl⟩,.cons (.int k n (Zwb hn)) .nil,fun v hv=>by simp at hv;subst hv;rfl⟩
theorem Q8.imp{t:TypeId}{R R':List D→Prop}(h:Q8 p enc P w t R)(hi:∀ds,R ds→R' ds):Q8 p enc P w t R':=fun fuel cs x hp hx=>by
 obtain⟨ds,h1,h2⟩:=h fuel cs x hp hx
 exact⟨ds,hi ds h1,h2⟩
theorem ZaS{t:TypeId}{k:IntKind}(ht:P.underlying t=sO (.int k)):Q8 p enc P w t fun ds=>∃n,ds=[.int k n]:=(Zm0 ht).imp fun _ ⟨n,_,h⟩=>⟨n,h⟩
theorem Zu1{t:TypeId}(ht:P.underlying t=sO .bool):Q8 p enc P w t fun ds=>∃b,ds=[.bool b]:=by
 intro fuel cs x _ h
 obtain⟨n,rfl,_⟩:=DataW.trod_bool ht h
 exact⟨_,⟨n,rfl⟩,.cons (.bool n) .nil,fun v hv=>by simp at hv;subst hv;rfl⟩
theorem QA{t:TypeId}(ht:P.underlying t=sO .string):Q8 p enc P w t fun ds=>∃s,ds=[.str s]:=by
 intro fuel cs x _ h
 obtain⟨s,rfl,_,hs⟩:=DataW.trod_string ht h
 refine⟨_,⟨s.data.toList,rfl⟩,.cons (.str s _ rfl ?_) .nil,fun v hv=>by simp at hv;subst hv;rfl⟩
 have:s.data.toList.length=s.size:=by rw[Array.length_toList];rfl
 rw[this];simp only[maxLen]at hs;simp only[big];omega
theorem Zsx{α β:Type}{R:α→β→Prop}{a a':List α}{b b':List β}(h:ZH R a b)(h':ZH R a' b'):ZH R (a++a') (b++b'):=by
 induction h with
 |nil=>exact h'
 |cons h1 _ ih=>exact .cons h1 ih
def Cat:List (List D→Prop)→List D→Prop
 | [],ds=>ds=[]
 |R::Rs,ds=>∃a b,ds=a++b∧R a∧Cat Rs b
def ZrH(P:Program):Nat→List Field→Nat→Bool
 |o,[],n=>o==n
 |o,f::r,n=>f.offset==o&&ZrH P (o+P.cellsOf f.type) r n
inductive Zh1(p:Nat→Prop)(enc:TypeId×Value→H)(P:Program)(w:World):List Field→List (List D→Prop)→Prop where
 |nil:Zh1 p enc P w [] []
 |cons {f:Field} {fs:List Field} {R:List D→Prop} {Rs:List (List D→Prop)} (h:Q8 p enc P w f.type R) (t:Zh1 p enc P w fs Rs):Zh1 p enc P w (f::fs) (R::Rs)
theorem ZwC{fs:List Field}{Rs:List (List D→Prop)}(hR:Zh1 q enc P w fs Rs):∀{o n m:Nat} {cs:List Value},q m→ZrH P o fs n=true→cs.length=n →
  (∀f∈fs,∃x,DataW.trod enc P w 0 (fun _=>true) true m f.type ((cs.drop f.offset).take (P.cellsOf f.type))=sO x) →
  ∃ds,Cat Rs ds∧ZH (Rep (Zcw w) w) (cs.drop o) ds∧∀v∈cs.drop o,v.one1=true:=by
 induction hR with
 |nil =>
  intro o n m cs _ ho hl _
  simp only[ZrH,beq_iff_eq]at ho
  subst ho;subst hl
  exact⟨[],rfl,by rw[List.drop_length];exact .nil,by simp⟩
 |cons h _ ih =>
  rename_i f fs R Rs _
  intro o n m cs hm ho hl hx
  simp only[ZrH,ZEY,beq_iff_eq]at ho
  obtain⟨ab,ac⟩:=ho
  obtain⟨x,h1⟩:=hx f (List.mem_cons_self ..)
  obtain⟨a,z,c,i⟩:=h _ _ _ hm h1
  obtain⟨b,j,u,t⟩:=ih hm ac hl fun f' y=>hx f' (List.mem_cons_of_mem _ y)
  rw[ab]at c i
  have e:cs.drop o=(cs.drop o).take (P.cellsOf f.type)++cs.drop (o+P.cellsOf f.type):=by
   rw[←List.drop_drop];exact(List.take_append_drop _ _).symm
  refine⟨a++b,⟨a,b,rfl,z,j⟩,by rw[e];exact Zsx c u,fun v hv=>?_⟩
  rw[e,List.mem_append]at hv
  exact hv.elim (i v) (t v)
theorem KU{t:TypeId}{fs:Array Field}(ht:P.underlying t=sO (.struct fs)){Rs:List (List D→Prop)}(hR:Zh1 q enc P w fs.toList Rs)(ho:ZrH P 0 fs.toList (P.cellsOf t)=true)(hpq:∀n,p (n+1)→q n:=by intros;trivial):Q8 p enc P w t (Cat Rs):=by
 intro fuel cs x hp h
 obtain⟨xs,n,rfl,_,hl,hxl,hx⟩:=DataW.trod_struct ht h
 obtain⟨ds,h1,h2,h3⟩:=ZwC hR (m:=n) (hpq n hp) ho hl (fun f hf=>by
  obtain⟨i,hi,rfl⟩:=ZFa hf
  have c:i<fs.size:=by simpa using hi
  refine⟨xs[i]'(by omega),?_⟩
  have:=hx i fs[i] (by simp[c])
  rw[ZFq (by omega)]at this
  simpa using this)
 rw[List.drop_zero]at h2 h3
 exact⟨ds,h1,h2,h3⟩
theorem ZbQ{a:Addr}{n:Nat}{cs:List Value}(h:w.cells? 0 a n=sO cs):cs.length=n∧∀j,j<n→w.cell? (a.add j)=cs[j]?:=by
 simp only[World.cells?,Nat.zero_le,if_true]at h
 refine⟨by simpa using mapM_some_length h,fun j hj=>?_⟩
 have:=mapM_some_get h j j (by simp[hj])
 exact this
theorem ZiS{t e:TypeId}{n:Nat}{α:Type}[Inhabited α]{f:α→List D}{row:List α→Nat→List D}(hrow:∀l i,i<l.length→row l i=f (l.getD i dE))(ht:P.underlying t=sO (.slice e))(hn:P.cellsOf e=n)(hn0:0<n)(hf:∀x,(f x).length=n)
  (he:Q8 q enc P w e fun ds=>∃x,ds=f x) (hpq:∀n,p (n+1)→q n:=by intros;trivial):Q8 p enc P w t fun ds=>∃l:List α,ds=[.sl .none l.length n (row l)]:=by
 intro fuel cs x hp h
 rcases DataW.trod_slice ht h with ⟨rfl,_⟩|⟨a,len,z,elems,rest,m,rfl,rfl,_,_,ak,ah,hel,hx,ae,_⟩
 ·exact⟨_,⟨[],rfl⟩,.cons (.sl0 _ _ _ _ (by simp)) .nil,fun v hv=>by simp at hv;subst hv;rfl⟩
 have ad:∀i,i<len→∃(cs:List Value) (y:α),w.cells? 0 (a.add (i*n)) n=sO cs∧ZH (Rep (Zcw w) w) cs (f y)∧∀v∈cs,v.one1=true:=by
  intro i hi
  have h1:=hx i hi
  rw[ZFq (by omega),hn]at h1
  obtain⟨cs,h2,h3⟩:=Option.bind_eq_some_iff.1 h1
  obtain⟨ds,⟨y,rfl⟩,h4,h5⟩:=he _ _ _ (hpq _ hp) h3
  exact⟨cs,y,h2,h4,h5⟩
 have ab:z≤big:=by simp only[maxLen]at ah;simp only[big];omega
 let g:(i:Nat)→i<len→α:=fun i hi=>(Classical.choose_spec (ad i hi)).choose
 let c:(i:Nat)→i<len→List Value:=fun i hi=>Classical.choose (ad i hi)
 have hg:∀i (hi:i<len),w.cells? 0 (a.add (i*n)) n=sO (c i hi)∧ZH (Rep (Zcw w) w) (c i hi) (f (g i hi))∧∀v∈c i hi,v.one1=true:=fun i hi=>(Classical.choose_spec (ad i hi)).choose_spec
 let l:List α:=List.ofFn fun i:Fin len=>g i.1 i.2
 have ai:l.length=len:=by simp[l]
 have am:∀i (hi:i<len),l.getD i dE=g i hi:=fun i hi=>by simp[l,ZE8,hi]
 have ag:∀i (hi:i<len),row l i=f (g i hi):=fun i hi=>by rw[hrow l i (by omega),am i hi]
 refine⟨_,⟨l,rfl⟩,.cons ?_ .nil,fun v hv=>by simp at hv;subst hv;rfl⟩
 by_cases aj:len=0
 ·subst aj
  have ap:l=[]:=List.eq_nil_of_length_eq_zero ai
  rw[ap]
  by_cases hs:a.spot=nO
  ·obtain⟨b,o,sp⟩:=a
   simp only at hs
   subst hs
   exact .sl b o 0 z n _ .none (fun _ _=>undef) (fun i hi=>by simp at hi) (fun i j hi=>by simp at hi) (fun i j hi=>by simp at hi) (fun i j d hi=>by simp at hi) (fun i j hi=>by simp at hi) trivial (Nat.zero_le _) ab
  have al:z=0:=by
   rcases Nat.eq_zero_or_pos z with h0|h0
   ·exact h0
   obtain⟨h1,h2⟩:=ae rfl
   have h3:=h2 0 (by omega)
   rw[ZFq (by omega),hn]at h3
   obtain⟨cs,h4,_⟩:=Option.bind_eq_some_iff.1 h3
   have h5:=(ZbQ h4).2 0 (by omega)
   have h6:=(ZbQ h4).1
   rw[ZFq (by omega)]at h5
   have:=World.cell?_spot h5
   exact absurd (by simpa[Addr.add]using this) hs
  subst al
  exact .sl0 _ _ _ _ (by simp)
 have af:a.spot=nO:=by
  have h0:=(hg 0 (by omega)).1
  have h1:=(ZbQ h0).2 0 (by omega)
  have h2:(c 0 (by omega)).length=n:=(ZbQ h0).1
  rw[ZFq (by omega)]at h1
  have:=World.cell?_spot h1
  simpa[Addr.add]using this
 obtain⟨b,o,sp⟩:=a
 simp only at af
 subst af
 have ac:∀i j (hi:i<len) (hj:j<n),w.cell? ⟨b,o+i*n+j,nO⟩=(c i hi)[j]?:=fun i j hi hj=>by
  have h1:=(ZbQ (hg i hi).1).2 j hj
  rw[Ka,Ka]at h1
  exact h1
 have u:∀i (hi:i<len),(c i hi).length=n:=fun i hi=>(ZbQ (hg i hi).1).1
 rw[ai]
 refine .sl b o len z n _ .none (fun i j=>if hi:i<len then (c i hi).getD j undef else undef) (fun i hi=>by rw[ag i hi];exact hf _) (fun i j hi hj=>?_) (fun i j hi hj=>?_) (fun i j d hi hd=>?_) (fun i j hi hj=>?_) trivial ak ab
 ·simp only[dif_pos hi]
  rw[ac i j hi hj,ZE8,ZFq (by rw[u i hi];exact hj)];rfl
 ·have h1:=ac i j hi hj
  rw[ZFq (by rw[u i hi];exact hj)]at h1
  simp only[World.cell?]at h1
  split at h1
  ·rename_i vs T fr hh
   simp only[Zcw,hh]
   have ao:vs[o+i*n+j]?=sO ((c i hi)[j]'(by rw[u i hi];exact hj)):=by simpa using h1
   exact(Array.getElem?_eq_some_iff.1 ao).1
  simp at h1
 ·simp only[dif_pos hi]
  rw[ag i hi]at hd
  have hj:j<n:=by rw[←hf (g i hi)];exact(List.getElem?_eq_some_iff.1 hd).1
  refine(hg i hi).2.1.get j _ d ?_ hd
  rw[ZE8,ZFq (by rw[u i hi];exact hj)];rfl
 simp only[dif_pos hi]
 refine(hg i hi).2.2 _ ?_
 rw[ZE8,ZFq (by rw[u i hi];exact hj)]
 exact List.getElem_mem _
theorem Zad{t e:TypeId}{n:Nat}{α:Type}[Inhabited α]{f:α→List D}(ht:P.underlying t=sO (.slice e))(hn:P.cellsOf e=n)(hn0:0<n)(hf:∀x,(f x).length=n)
  (he:Q8 q enc P w e fun ds=>∃x,ds=f x) (hpq:∀n,p (n+1)→q n:=by intros;trivial):Q8 p enc P w t fun ds=>∃l:List α,ds=[.sl .none l.length n fun i=>f (l.getD i dE)] :=
 ZiS (row:=fun l i=>f (l.getD i dE)) (fun _ _ _=>rfl) ht hn hn0 hf he hpq
def ZgM(enc:TypeId×Value→H)(P:Program)(t:TypeId)(Q:D→Prop):Prop :=
 ∀(W:World) (base:Nat) (v:Value) (d:DataW H) (ps:List MemPlace),Value.okWide P W .any base t v→DataW.Trod enc P W 0 (fun _=>true) true t v d ps→∃x,Q x∧Rep (Zcw W) W v x
theorem Zap{t:TypeId}{fs:Array Field}(ht:P.underlying t=sO (.struct fs)){R:List D→Prop}(h:∀W,ZaW enc P W t R):ZgM enc P t fun x=>∃ds,R ds∧x=.agg ds:=by
 intro W base v d ps c ⟨fuel,hf⟩
 obtain⟨cs,rfl,_⟩:=okWide_struct ht c
 obtain⟨ds,h1,h2,h3⟩:=h W _ _ _ trivial hf
 exact⟨_,⟨ds,h1,rfl⟩,.agg cs.toList ds h2.len (fun i v d hv hd=>h2.get i v d hv hd) h3⟩
theorem ZqI{t:TypeId}{R:List D→Prop}{Q:D→Prop}(h1:∀W base v,Value.okWide P W .any base t v→v.cells = #[v])(h:∀W,ZaW enc P W t R)(hq:∀ds,R ds→∃x,ds=[x]∧Q x):ZgM enc P t Q:=by
 intro W base v d ps c ⟨fuel,hf⟩
 rw[h1 _ _ _ c]at hf
 obtain⟨ds,h2,h3,_⟩:=h W _ _ _ trivial hf
 obtain⟨x,rfl,hx⟩:=hq ds h2
 cases h3 with|cons h4 _=>exact⟨x,hx,h4⟩
theorem Zh3{t:TypeId}(ht:P.underlying t=sO .string):ZgM enc P t fun x=>∃n,x=.str n :=
 ZqI (fun W base v c=>by obtain⟨a,rfl⟩:=okWide_string ht c;rfl) (fun W=>QA ht) fun ds ⟨n,hn⟩=>⟨_,hn,n,rfl⟩
inductive ZlN(enc:TypeId×Value→H)(P:Program):List TypeId→List (D→Prop)→Prop where
 |nil:ZlN enc P [] []
 |cons {t:TypeId} {Q:D→Prop} {ts:List TypeId} {Qs:List (D→Prop)} (h:ZgM enc P t Q) (r:ZlN enc P ts Qs):ZlN enc P (t::ts) (Q::Qs)
inductive Zqg:List (D→Prop)→List D→Prop where
 |nil:Zqg [] []
 |cons {Q:D→Prop} {x:D} {Qs:List (D→Prop)} {xs:List D} (h:Q x) (r:Zqg Qs xs):Zqg (Q::Qs) (x::xs)
theorem Zxb{ts:List TypeId}{Qs:List (D→Prop)}(h:ZlN enc P ts Qs):∀{W:World} {base:Nat} {vs:List Value} {ds:List (DataW H)} {ps:List MemPlace},
  (∀(j:Nat) t v,ts[j]?=sO t→vs[j]?=sO v→Value.okWide P W .any base t v)→DataW.TrodAll enc P W 0 (fun _=>true) true ts vs ds ps→∃xs,Zqg Qs xs∧ZH (Rep (Zcw W) W) vs xs:=by
 induction h with
 |nil =>
  intro W base vs ds ps _ ht
  obtain⟨rfl,_⟩:=trodAll_nil ht
  exact⟨[],.nil,.nil⟩
 |cons h1 _ ih =>
  intro W base vs ds ps c ht
  obtain⟨v,vs',d,ds',p,q,rfl,rfl,rfl,h2,h3⟩:=trodAll_cons ht
  obtain⟨x,u,y⟩:=h1 W base v d p (c 0 _ _ rfl rfl) h2
  obtain⟨xs,i,n⟩:=ih (base:=base) (fun j t v hj hv=>c (j+1) t v (by simpa using hj) (by simpa using hv)) h3
  exact⟨x::xs,.cons u i,.cons y n⟩
theorem ZhN(hl:laidOutB P=true){W W':World}(hb:Below W.heap.size W W'):∀{ts:List TypeId} {vs:List Value} {ds:List (DataW H)} {ps:List MemPlace},(∀t∈ts,P.readableRec t=true∧t<P.types.size) →
  DataW.TrodAll enc P W 0 (fun _=>true) true ts vs ds ps→(∀x∈ps,x.block<W.heap.size)→DataW.TrodAll enc P W' 0 (fun b=>dC (b<W.heap.size)) true ts vs ds ps
 | [],vs,ds,ps,_,h,_=>by
  obtain⟨rfl,rfl,rfl⟩:=trodAll_nil h
  rfl
 |t::ts,vs,ds,ps,ht,h,hlt=>by
  obtain⟨v,vs',d,ds',p,q,rfl,rfl,rfl,h2,h3⟩:=trodAll_cons h
  have h4:=ht t (List.mem_cons_self ..)
  exact trodAll_cons_mk (Below.trod hl h4.1 h4.2 h2 hb fun x hx=>hlt x (List.mem_append_left _ hx)) (ZhN hl hb (fun t c=>ht t (List.mem_cons_of_mem _ c)) h3 fun x hx=>hlt x (List.mem_append_right _ hx))
theorem Zit{f:FuncId}{fn:Func}{s:ChangeSpec}{tb:TypeId}{Qs:List (D→Prop)}(hv:s.vars=[])(hl:laidOutB P=true)(hr:∀t∈fn.params.toList,P.readableRec t=true∧t<P.types.size)
  (hres:fn.resultTypes = #[tb]) (hb:P.underlying tb=sO .bool) (hfn:∀ds:List (DataW H),ds.length=fn.params.toList.length→s.fn H ds={ results:=[.lit (.bool true)],args:=ds })
  (hargs:ZlN enc P fn.params.toList Qs) (hcall:∀xs,Zqg Qs xs→Zc P f xs (.bool true))
  (W:World) (ht:ZlV W) (base:Nat) (args:Array Value) (ds gs:List (DataW H)) (before:List MemPlace)
  (hval:∀(j:Nat) t v,fn.params[j]?=sO t→args[j]?=sO v→Value.okWide P W .any base t v) (hW:DataW.Whole enc P fn.params.toList s.vars false W args.toList ds gs before) :
  Calls P f args W fun e W'=>∃v,e=.returned v∧s.post enc P fn false true false false W args v W':=by
 have u:=hW
 obtain⟨p,q,hA,hV,rfl,_,_⟩:=hW
 rw[hv]at hV
 obtain⟨rfl,rfl⟩:=trodVars_none hV
 obtain⟨xs,y,ab⟩:=Zxb hargs (fun j t v hj ac=>hval j t v (by simpa using hj) (by simpa using ac)) hA
 have n:=(trodAll_length hA).2
 have z:∀x∈p,x.block<W.heap.size:=fun x hx=>by simpa using u.lt x (by simpa using hx)
 refine(Zyl (hcall xs y) ht ab).mono fun e W' ⟨he,i⟩=>⟨.bool true,he,?_⟩
 have c:=hfn ds n
 refine⟨ds,[],p++[],[],p,[],u,?_,?_,?_,i.frame _,fun h=>by cases h⟩
 ·rw[ZFm,c,hres]
  exact trodAll_mk1 ⟨1,by simp[DataW.trod,hb,Value.cells]⟩
 ·rw[ZFm,c]
  exact ZhN hl i hr hA z
 rw[hv,ZFm,c]
 rfl
end
end Go.DL
namespace Go.DL
open Go
variable {kp:Option (List Nat)}{L:Loc}{ρ:Env}{s:St}{w:World}{os:List DOp}{ds:List D}{B:List (Nat × Rd)}{dst:Option Nat}{tmps:Array Value}{g:G}{Φ:Res→St→Prop}{ν:Nat→Nat}{xs:List Opd}{side:Prop}{row:Nat→List D}
theorem Zwf(n a:Nat)(l:List Nat):Zal n (a::l)=if a=n then true else Zal n l:=by
 show(a==n ||Zal n l)=_
 by_cases h:a=n<;>simp[h]
set_option linter.defProp false
def Eqs:=ZER (ZER (ZER (ZER (ZER (ZER (ZER (ZER @Option.mem_def.{0} @ZEP.{0}) (ZER @forall_eq'.{1} @forall_eq'.{0})) (ZER (ZER @false_implies @decide_true) (ZER (@Int.sub_zero) (ZER @Int.sub_self @ZzW)))) (ZER (ZER (ZER @ZAy @ZzX) (ZER @ZzY @ZzV)) (ZER (ZER @and_assoc @Int.toNat_zero) (ZER (@Bool.not_not) (ZER @Zy4 @Zz0))))) (ZER (ZER (ZER (ZER @implies_true.{1} @implies_true.{0}) (ZER @true_and @and_true)) (ZER (ZER @and_self @List.drop_zero.{0}) (ZER (@List.drop_succ_cons.{0}) (ZER @List.take_succ_cons.{0} @List.take_zero.{0})))) (ZER (ZER (ZER @List.take_nil.{0} @ZFl.{0,0}) (ZER (@Option.map_none.{0,0}) (ZER @Option.isSome_some.{0} @Option.isSome_none.{0}))) (ZER (ZER @ZFs.{0} @Option.getD_none.{0}) (ZER (@List.flatMap_cons.{0,0}) (ZER @List.flatMap_nil.{0,0} @ZFm.{0})))))) (ZER (ZER (ZER (ZER (ZER @List.nil_append.{0} @List.cons_append.{0}) (ZER @List.append_eq.{0} @List.getElem?_cons_zero.{0})) (ZER (ZER @List.getElem?_cons_succ.{0} @ZE5.{0}) (ZER (@List.length_nil.{0}) (ZER @Nat.zero_add @Nat.add_zero)))) (ZER (ZER (ZER @Int.toNat_natCast @forall_const.{1}) (ZER @forall_const.{0} @imp_self)) (ZER (ZER @Bool.and_true @ZFe) (ZER (@Bool.cond_false_right) (ZER @ZFn @Bool.not_true))))) (ZER (ZER (ZER (ZER @Bool.not_false @if_true_right) (ZER @Zie.eq_1 @Zie.eq_2)) (ZER (ZER @ZgZ.eq_1 @ZgZ.eq_2) (ZER (@Ziq.eq_1) (ZER @Ziq.eq_2 @ZmL.eq_1)))) (ZER (ZER (ZER @ZmL.eq_2 @ZB.eq_1) (ZER (@KZ.eq_1) (ZER @KZ.eq_2 @KZ.eq_3))) (ZER (ZER @Yj.eq_1 @KM.eq_1) (ZER (@Y7.eq_1) (ZER @KT.eq_1 @KT.eq_2))))))) (ZER (ZER (ZER (ZER (ZER (ZER @KT.eq_3 @KT.eq_4) (ZER @YY.eq_1 @YY.eq_2)) (ZER (ZER @YY.eq_3 @YY.eq_4) (ZER (@YY.eq_6) (ZER @qv.eq_51 @qv.eq_52)))) (ZER (ZER (ZER @qv.eq_53 @YY.eq_5) (ZER @Y5.eq_1 @Y5.eq_2)) (ZER (ZER @Y5.eq_3 @Y5.eq_4) (ZER (@Y5.eq_5) (ZER @Y5.eq_6 @Y5.eq_7))))) (ZER (ZER (ZER (ZER @Wg.eq_1 @KS.eq_1) (ZER @KS.eq_2 @KS.eq_3)) (ZER (ZER @YX.eq_1 @YX.eq_2) (ZER (@Kj.eq_1) (ZER @ZbM.eq_1 @Zal.eq_1)))) (ZER (ZER (ZER @Zwf @ZE7.{0,0}) (ZER (@ZFo.{0,0}) (ZER @Qo.eq_1 @Kn.eq_1))) (ZER (ZER @Kn.eq_2 @Kn.eq_3) (ZER (@Wl.eq_1) (ZER @Wl.eq_2 @J4.eq_1)))))) (ZER (ZER (ZER (ZER (ZER @J4.eq_2 @J4.eq_3) (ZER @J4.eq_4 @J4.eq_5)) (ZER (ZER @J4.eq_6 @J4.eq_7) (ZER (@J4.eq_8) (ZER @J4.eq_9 @J4.eq_10)))) (ZER (ZER (ZER @J4.eq_11 @Zl.eq_1) (ZER (@Zl.eq_2) (ZER @ZC.eq_1 @ZC.eq_2))) (ZER (ZER @Yd.eq_1 @Yd.eq_2) (ZER (@ZL.eq_1) (ZER @ZL.eq_2 @qv.eq_1))))) (ZER (ZER (ZER (ZER @qv.eq_2 @qv.eq_3) (ZER @qv.eq_4 @qv.eq_5)) (ZER (ZER @qv.eq_6 @qv.eq_7) (ZER (@qv.eq_8) (ZER @qv.eq_9 @qv.eq_10)))) (ZER (ZER (ZER @qv.eq_11 @qv.eq_12) (ZER (@qv.eq_13) (ZER @qv.eq_14 @qv.eq_15))) (ZER (ZER @qv.eq_16 @qv.eq_17) (ZER (@qv.eq_18) (ZER @qv.eq_19 @qv.eq_20)))))))) (ZER (ZER (ZER (ZER (ZER (ZER (ZER @qv.eq_21 @qv.eq_22) (ZER @qv.eq_23 @qv.eq_24)) (ZER (ZER @qv.eq_25 @qv.eq_26) (ZER (@qv.eq_27) (ZER @qv.eq_28 @qv.eq_29)))) (ZER (ZER (ZER @qv.eq_30 @qv.eq_31) (ZER @qv.eq_32 @qv.eq_33)) (ZER (ZER @qv.eq_34 @qv.eq_35) (ZER (@qv.eq_36) (ZER @qv.eq_37 @qv.eq_38))))) (ZER (ZER (ZER (ZER @qv.eq_39 @qv.eq_40) (ZER @qv.eq_41 @qv.eq_42)) (ZER (ZER @qv.eq_43 @qv.eq_44) (ZER (@qv.eq_45) (ZER @qv.eq_46 @qv.eq_47)))) (ZER (ZER (ZER @qv.eq_48 @qv.eq_49) (ZER (@qv.eq_50) (ZER @Zt.eq_1 @Zt.eq_2))) (ZER (ZER @kept.eq_1 @kept.eq_2) (ZER (@ZjV.eq_1) (ZER @ZjV.eq_2 @Yp.eq_1)))))) (ZER (ZER (ZER (ZER (ZER @Yp.eq_2 @ZaY.eq_1) (ZER @Zax.eq_1 @Zax.eq_2)) (ZER (ZER @Ko.eq_1 @Ko.eq_2) (ZER (@Ko.eq_3) (ZER @Zg.eq_1 @Zg.eq_2)))) (ZER (ZER (ZER @Zak.eq_1 @Zdc.eq_1) (ZER @Za8.eq_1 @Za8.eq_2)) (ZER (ZER @Zah.eq_1 @Zah.eq_2) (ZER (@Zah.eq_3) (ZER @Zah.eq_4 @Zah.eq_5))))) (ZER (ZER (ZER (ZER @QX.eq_1 @QX.eq_2) (ZER @QX.eq_3 @QX.eq_4)) (ZER (ZER @QX.eq_5 @QX.eq_6) (ZER (@QX.eq_7) (ZER @QX.eq_8 @QX.eq_9)))) (ZER (ZER (ZER @QX.eq_10 @QX.eq_11) (ZER (@QX.eq_12) (ZER @QX.eq_13 @QX.eq_14))) (ZER (ZER @QX.eq_15 @QX.eq_16) (ZER (@QX.eq_17) (ZER @ZdF.eq_1 @ZdF.eq_2))))))) (ZER (ZER (ZER (ZER (ZER (ZER @ZdF.eq_3 @ZdF.eq_4) (ZER @ZdF.eq_5 @ZdF.eq_6)) (ZER (ZER @ZdF.eq_7 @ZdF.eq_8) (ZER (@eqO.eq_1) (ZER @eqO.eq_2 @eqO.eq_3)))) (ZER (ZER (ZER @YN.eq_1 @YN.eq_2) (ZER @YN.eq_3 @YN.eq_4)) (ZER (ZER @YN.eq_5 @YN.eq_6) (ZER (@YN.eq_7) (ZER @YN.eq_8 @YN.eq_9))))) (ZER (ZER (ZER (ZER @YN.eq_10 @YN.eq_11) (ZER @YN.eq_12 @YN.eq_13)) (ZER (ZER @YN.eq_14 @YN.eq_15) (ZER (@Ws.eq_1) (ZER @Ws.eq_2 @Yo.eq_1)))) (ZER (ZER (ZER @Yo.eq_2 @Yo.eq_3) (ZER (@Yo.eq_4) (ZER @Wr.eq_1 @Wr.eq_2))) (ZER (ZER @Wr.eq_3 @Wr.eq_4) (ZER (@Ki.eq_1) (ZER @Ki.eq_2 @Ki.eq_3)))))) (ZER (ZER (ZER (ZER (ZER @Ki.eq_4 @ZE.eq_1) (ZER @W2.eq_1 @W2.eq_2)) (ZER (ZER @W2.eq_3 @cellsOf.eq_1) (ZER (@cellsOf.eq_2) (ZER @Jl.eq_1 @Jl.eq_2)))) (ZER (ZER (ZER @Jl.eq_3 @Jl.eq_4) (ZER (@Jl.eq_5) (ZER @W4.eq_1 @W4.eq_2))) (ZER (ZER @W4.eq_3 @W4.eq_4) (ZER (@Zbu.eq_1) (ZER @Zbu.eq_2 @Zbu.eq_3))))) (ZER (ZER (ZER (ZER @K4.eq_1 @K4.eq_2) (ZER @Z4.eq_1 @Z4.eq_2)) (ZER (ZER @K2.eq_1 @K2.eq_2) (ZER (@WE.eq_1) (ZER @WE.eq_2 @WE.eq_3)))) (ZER (ZER (ZER @WE.eq_4 @ZaU.eq_1) (ZER (@ZaU.eq_2) (ZER @ZaU.eq_3 @ZaU.eq_4))) (ZER (ZER @ZbB.eq_1 @ZbB.eq_2) (ZER (@ZbB.eq_3) (ZER @ZbB.eq_4 @part.eq_1))))))))
end Go.DL
