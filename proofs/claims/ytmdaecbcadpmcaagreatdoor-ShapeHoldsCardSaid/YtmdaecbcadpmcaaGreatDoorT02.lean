/- Lemmas: DlW, DlWa, DlX, DlY, DlZ, DlZA, DlZB, DlZC, DlZD, DlZE, DlZF, DlZGa, DlZG, DlZH, DlZI, DlZJ, DlZK, DlZL, DlZM, DlZN, DlZO, DlZP, DlZQ, DlZS, DlZT, DlTop, DlZU. -/
import Derived.Test.YtmdaecbcadpmcaaGreatDoorT01
set_option maxHeartbeats 16000000
set_option maxRecDepth 100000
set_option linter.all false
open Option renaming some → sO, none → nO
open Inhabited renaming default → dE
open Decidable renaming decide → dC
open And renaming intro → ZDX
open Bool renaming and_eq_true → ZD5, false_eq_true → ZEq, or_eq_true → ZEk, true_and → ZEm
open Go.DL.D.Le renaming refl → ZDZ
open Go.DL.St renaming upd → ZEv
open List renaming append_assoc → ZEA, append_nil → ZEw, getD → ZEb, getElem?_append_left → ZEt, getElem?_append_right → ZEH, getElem?_eq_getElem → ZEr, getElem?_eq_none → ZEG, getElem?_take → ZEC, getElem_of_mem → ZEe, length_append → ZD8, length_cons → ZEf, length_drop → ZEx, length_take → ZEh, map_cons → ZEc, map_nil → ZEs, mem_cons → ZEz, range → ZEa, take_length → ZEy
open Nat renaming add_mul → ZEo, le_refl → ZEd, mul_le_mul_right → ZEi
open Option renaming getD_some → ZEB, map_eq_some_iff → ZD9, map_some → ZEp
open Option.some renaming injEq → ZDV
open Prod.mk renaming injEq → ZD7
namespace Go.DL
open Go
variable [Zqj]
section
variable {P:Program}
def YV(F:Fr P)(ρ:Env)(L:Loc)(d:D)(s:St):Prop :=
 ∀g ν w v todo tmps,F.N≤tmps.size→Zs g ν w tmps ρ L s→Rep g w v d→F.T.T g w (lone { F.b.atR ⟨tmps,F.ds⟩ todo with mode:=.panicking [{ v,recovered:=false }] } F.cs w)
theorem Zs.empty{g:G}{ν:Nat→Nat}{w:World}{tmps:Array Value}{ρ:Env}{L:Loc}{s:St}(m:Zs g ν w tmps ρ L s):Zs g ν w tmps [] [] s:={
 st:=m.st
 loc l cs h:=by simp[Ze]at h
 locKept l cs h:=by simp[Ze]at h
 locSt l cs h:=by simp[Ze]at h
 inj l l' cs cs' h:=by simp[Ze]at h
 env t e h:=by simp[ZM]at h }
theorem YV.weak{F:Fr P}{d:D}{s:St}(h:YV F [] [] d s)(ρ:Env)(L:Loc):YV F ρ L d s :=
 fun g ν w v i tmps hN m hr=>h g ν w v i tmps hN m.empty hr
def Ze8(g:G)(ν:Nat→Nat)(L:Loc):G:={ g with kept:=fun b=>g.kept b∨∃l cs,Ze L l=sO cs∧b=ν l }
theorem Wk{g g':G}{w:World}{v:Value}{d:D}(h:Rep g w v d)(hp:g'.prot=g.prot):Rep g' w v d :=
 h.mono0 (fun b=>by rw[hp];exact ZEd _) (fun _ _ _=>rfl) (fun _ _ h=>h)
theorem Zwf{g g':G}{ν:Nat→Nat}{w:World}{L:Loc}{v:Value}{e:E}(h:ZK g ν w L v e)(hp:g'.prot=g.prot):ZK g' ν w L v e:=by
 induction e with
 |d x=>exact Wk h hp
 |loc l o=>exact h
 |when c e ih=>exact⟨fun hc=>ih (h.1 hc),h.2⟩
theorem ZmK{g g':G}{w:World}{b:Nat}{o:Z1}(h:Wz g w b o)(hp:g'.prot=g.prot):Wz g' w b o:=by
 cases o with
 |cells ds =>obtain⟨h0,vs,T,h1,h2,h3,h4⟩:=h;exact⟨by rw[hp];exact h0,vs,T,h1,h2,fun i v d hv hd=>Wk (h3 i v d hv hd) hp,h4⟩
 |map es =>obtain⟨h0,en,cl,h1,h2,h3,h4,h5,h6⟩:=h;exact⟨by rw[hp];exact h0,en,cl,h1,h2,fun i v d hv hd=>Wk (h3 i v d hv hd) hp,fun i v d hv hd=>Wk (h4 i v d hv hd) hp,h5,h6⟩
 |tip k =>obtain⟨h0,h1⟩:=h;exact⟨by rw[hp];exact h0,h1⟩
 |mapE kp es k n =>obtain⟨h0,io,h1,en,cl,h2,h3,h4,h5,h6,h7⟩:=h;exact⟨by rw[hp];exact h0,io,h1,en,cl,h2,h3,fun i v d hi hv hd=>Wk (h4 i v d hi hv hd) hp,fun i v d hi hv hd=>Wk (h5 i v d hi hv hd) hp,fun e he=>⟨Wk (h6 e he).1 hp,(h6 e he).2⟩,h7⟩
 |loop r st =>obtain⟨h0,l,h1,h2,h3,h4,h5,h6,h7,h8,h9⟩:=h;exact⟨by rw[hp];exact h0,l,h1,h2,h3,h4,h5,h6,h7,fun t e he=>Zwf (h8 t e he) hp,h9⟩
 |dfr =>obtain⟨h0,h1⟩:=h;exact⟨by rw[hp];exact h0,h1⟩
theorem Zs.callSt{g:G}{ν:Nat→Nat}{w:World}{tmps:Array Value}{ρ:Env}{L:Loc}{s:St}(m:Zs g ν w tmps ρ L s):Yh (Ze8 g ν L) s w:={
 obj b o ho:=ZmK (m.st.obj b o ho) rfl
 kept b o ho:=by rintro(h|⟨l,cs,hl,rfl⟩);exact m.st.kept b o ho h;rw[m.locSt l cs hl]at ho;simp at ho
 fresh b hb:=⟨(m.st.fresh b hb).1,by
  rintro(h|⟨l,cs,hl,rfl⟩);exact(m.st.fresh b hb).2 h;have:=(m.loc l cs hl).lt;omega⟩
 tabs n cs hc:=Wk (m.st.tabs n cs hc) rfl }
theorem Zs.afterCall{g g':G}{ν:Nat→Nat}{w w':World}{tmps:Array Value}{ρ:Env}{L:Loc}{s s':St}(m:Zs g ν w tmps ρ L s)(hx:Ext (Ze8 g ν L) w g' w')(hs:Yh g' s' w') :
  Ext g w { g' with kept:=g.kept } w'∧Zs { g' with kept:=g.kept } ν w' tmps ρ L s':=by
 have i:Ext g w { g' with kept:=g.kept } w' :=
  ⟨hx.size,hx.prot,hx.cell,hx.hdr,fun b hb=>hx.kept b (.inl hb),fun b hb=>hx.keptProt b (.inl hb),rfl,hx.os,hx.output,hx.tape⟩
 refine⟨i,⟨⟨fun b o ho=>ZmK (hs.obj b o ho) rfl,fun b o ho hk=>hs.kept b o ho (by rw[hx.keptEq];exact .inl hk),fun b hb=>⟨(hs.fresh b hb).1,fun hk=>(hs.fresh b hb).2 (by rw[hx.keptEq];exact .inl hk)⟩,fun n cs hc=>Wk (hs.tabs n cs hc) rfl⟩,?_,m.locKept,?_,m.inj,?_⟩⟩;intro l cs hl;exact(m.loc l cs hl).mono i (hx.kept _ (.inr ⟨l,cs,hl,rfl⟩)) (hx.keptProt _ (.inr ⟨l,cs,hl,rfl⟩))
 ·intro l cs hl;cases j:s' (ν l) with
  |none=>rfl
  |some o=>exact absurd (by rw[hx.keptEq];exact .inr ⟨l,cs,hl,rfl⟩) (hs.kept _ o j)
 intro t e he;exact(m.env t e he).mono i
theorem ZsL{op:Op}{f:Opd}{xs:List Opd}(h:ck P op=sO (.call f xs)):∃f' args ats,op=.call ⟨.value f',args,ats⟩∧ZZ f'=sO f∧ZbT args.toList=sO xs:=by
 unfold ck at h;split at h;simp at h;split at h<;>(try(simp at h;done));all_goals (try(repeat' (split at h<;>(try(simp at h;done)))))
 simp only[ZDV,K.call.injEq]at h;obtain⟨rfl,rfl⟩:=h;rename_i c _ _ f' i _ _ f xs hf j;obtain⟨callee,args,ats⟩:=c;simp only at i;exact⟨f',args,ats,by rw[i],hf,j⟩
theorem ZwX{op:Op}{x:Opd}(h:ck P op=sO (.panic x)):∃x',op=.panic x'∧ZZ x'=sO x:=by
 unfold ck at h;split at h;simp at h;split at h<;>(try(simp at h;done));all_goals (try(repeat' (split at h<;>(try(simp at h;done)))))
 simp only[ZD9,K.panic.injEq,exists_eq_right]at h;exact⟨_,rfl,h⟩
def Zfo(P:Program):Next→Option Frame
 |.enter f args=>sO (Frame.enter P f args .normal)
 |.round l f tmps a b=>sO (Frame.round l f tmps a b .normal)
 |_=>nO
def Zzc(P:Program)(m:Machine)(c:Frame)(cs:List Frame)(e:Ending)(w':World):Prop :=
 match e with
 |.returned v=>Steps P m (lone (c.finish v) cs w')
 |.panicked ch=>Steps P m (lone (c.raise ch) cs w')
 |.outgrown=>False
def WN(P:Program)(f:D)(args:List D)(s:St)(Φ:Res→St→Prop):Prop :=
 ∀g w fv (vs:List Value),Yh g s w→Rep g w fv f→ZJ (Rep g w) vs args →
  ∃d nx fr,(Deferred.ofValue fv vs.toArray).run P w=.ok d w∧(invoke d.target d.args).run P w=.ok nx w∧Zfo P nx=sO fr ∧
   ∀c cs,∃e w',Zge g w Φ e w'∧Zzc P (lone fr (c::cs) w) c cs e w'
theorem Za.V{f:FuncId}{first args caps:List D}{s:St}{Φ:Res→St→Prop}(h:Za P f (first++args++caps) s Φ):WN P (.fn (.func f) first caps) args s Φ:=by
 intro g w fv vs hs hf ha;cases hf with
 |fn _ fs cs' _ _ hn1 hn2 h1 h2 =>
 obtain⟨⟨fn,u,ab,z⟩,t⟩:=h;have ac:ZJ (Rep g w) (fs++vs++cs') (first++args++caps):=((Yf hn1 h1).append ha).append (Yf hn2 h2);have n:fn.body.isNone=false:=by cases hb:fn.body<;>simp[hb]at ab⊢
 refine⟨_,.enter f (fs++vs++cs').toArray,_,by simp[Deferred.ofValue];rfl,?_,rfl,fun c cs=>?_⟩;simp only[invoke,callFunc,Sem.run_bind,run_program,Result.andThen_ok,u,z,n,ZEq,if_false,Sem.run_pure];simp;obtain⟨e,w',fr,hp,i,hfrf,j⟩:=t g w _ hs ac (c::cs);refine⟨e,w',hp,?_⟩;cases e with
 |returned v=>exact Steps.trans i (.one (step_leave_returned j))
 |panicked ch=>exact Steps.trans i (.one (step_leave_panicked j))
 |outgrown =>obtain⟨g',s',r,b1,b2,b3,b4⟩:=hp;cases r<;>exact b3.elim
theorem Zed{F:Fr P}{kp:Option (List Nat)}{dk:List Zh}{o:DOp}{os:List DOp}{ρ:Env}{L:Loc}{s:St}(hg:Zk ρ o.guard=sO true){fx:Opd}{xs:List Opd}(hk:o.k=.call fx xs)
  {p q:Prop} {f:D} {es:List E} {ds:List D} (hf:ZE ρ true fx=sO (q,.d f)) (ha:Ya ρ true xs=sO (p,es)) (hds:WX es=sO ds) (hp:p) (hq:q)
  {Ψ:Res→St→Prop} (hc:WN P f ds s Ψ)
  (hret:∀d s',Ψ (.ret d) s'→DO F kp dk os (Zw ρ o.dst (.d d)) L s') (hpan:∀d s',Ψ (.panic d) s'→YV F ρ L d s'):DO F kp dk (o::os) ρ L s:=by
 refine Y9 fun oo g ν w tmps j i r k ag ae aw af hd hN m hr ao=>?_;have hw:=Z9 m aw hg;have ar:=Yg ae (by rw[hk];rfl);rw[hk]at ae;obtain⟨f',z,ats,aq,av,ap⟩:=ZsL ae;have ak:Rep g w _ _:=Z7 m av rfl hf hq F.ds;have ab:=KD (ZbD m rfl F.ds ap ha hp) hds;generalize ax:(Act.mk tmps F.ds).eval f'=fv at ak;have am:ZJ (Rep (Ze8 g ν L) w) (z.toList.map (Act.mk tmps F.ds).eval) ds:=Yf ab.len (fun i a b hx hy=>Wk (ab.get i a b hx hy) rfl);obtain⟨d,nx,fr,au,ay,ah,hC⟩:=hc (Ze8 g ν L) w fv _ m.callSt (Wk ak rfl) am;have aj:(Array.map (Act.mk tmps F.ds).eval z)=(z.toList.map (Act.mk tmps F.ds).eval).toArray:=by apply Array.ext';simp
 have ai:(execOp (Act.mk tmps F.ds).eval oo).run P w=.ok nx w:=by simp only[execOp,aq,resolve,ax,aj,Sem.run_bind,au,Result.andThen_ok,ay]
 have u:step P (lone (F.b.atR ⟨tmps,F.ds⟩ (.inRegion j (i::r)::k)) F.cs w) =
   .next (lone fr (F.b.atR ⟨tmps,F.ds⟩ (.inRegion j (i::r)::k)::F.cs) w):=by
  refine step_lone_go ?_;rw[stepGR_op ag hw,Oper.semAt_eq _ _ _ ar];cases nx<;>simp only[Zfo,ZDV,reduceCtorEq]at ah<;>subst ah<;>simp[stepG.apply,ai,Frame.atR]
 obtain⟨e,w',⟨g',s',res,x1,x2,x3,x4⟩,t⟩:=hC (F.b.atR ⟨tmps,F.ds⟩ (.inRegion j (i::r)::k)) F.cs;obtain⟨ac,hm⟩:=m.afterCall x1 x2;cases e with
 |returned v =>
  cases res with
  |panic d=>exact x3.elim
  |ret d =>
   have al:(F.b.atR ⟨tmps,F.ds⟩ (.inRegion j (i::r)::k)).finish v=F.b.atR ((Act.mk tmps F.ds).put oo.dst v) (.inRegion j r::k):=by rw[Frame.finish_atR,ag];rfl
   have n:Steps P (lone (F.b.atR ⟨tmps,F.ds⟩ (.inRegion j (i::r)::k)) F.cs w) (lone (F.b.atR ((Act.mk tmps F.ds).put oo.dst v) (.inRegion j r::k)) F.cs w'):=by refine .head u ?_;rw[←al];exact t
   refine F.T.back _ _ _ _ n ?_;rw[af];obtain⟨ad,e1,e2,m'⟩:=ZeE hm hN hd (v:=v) (e:=.d d) (Wk x3 rfl) F.ds;rw[e1];exact F.T.ext _ _ _ _ _ ac (hret d s' x4 j r k hr ao _ _ _ ad e2 m')
 |panicked ch =>
  cases res with
  |ret d=>exact x3.elim
  |panic d =>
   obtain⟨v,rfl,hv⟩:=x3;have n:Steps P (lone (F.b.atR ⟨tmps,F.ds⟩ (.inRegion j (i::r)::k)) F.cs w) (lone { F.b.atR ⟨tmps,F.ds⟩ (.inRegion j (i::r)::k) with mode:=.panicking [{ v,recovered:=false }] } F.cs w'):=by refine .head u ?_;rw[←Frame.raise_atR];exact t
   refine F.T.back _ _ _ _ n ?_;exact F.T.ext _ _ _ _ _ ac (hpan d s' x4 _ _ _ v _ _ hN hm (Wk hv rfl))
 |outgrown=>exact t.elim
theorem Zgb{F:Fr P}{kp:Option (List Nat)}{dk:List Zh}{o:DOp}{os:List DOp}{ρ:Env}{L:Loc}{s:St}(hg:Zk ρ o.guard=sO true){fx:Opd}{xs:List Opd}(hk:o.k=.call fx xs)
  {p q:Prop} {f:FuncId} {first caps:List D} {es:List E} {ds:List D} (hf:ZE ρ true fx=sO (q,.d (.fn (.func f) first caps))) (ha:Ya ρ true xs=sO (p,es)) (hds:WX es=sO ds) (hp:p) (hq:q)
  {Ψ:Res→St→Prop} (hc:Za P f (first++ds++caps) s Ψ)
  (hret:∀d s',Ψ (.ret d) s'→DO F kp dk os (Zw ρ o.dst (.d d)) L s') (hpan:∀d s',Ψ (.panic d) s'→YV F ρ L d s'):DO F kp dk (o::os) ρ L s :=
 Zed hg hk hf ha hds hp hq hc.V hret hpan
theorem Zk3{F:Fr P}{kp:Option (List Nat)}{dk:List Zh}{o:DOp}{os:List DOp}{ρ:Env}{L:Loc}{s:St}(hg:Zk ρ o.guard=sO true){x:Opd}(hk:o.k=.panic x)
  {p:Prop} {t:TypeId} {d:D} (ha:ZE ρ true x=sO (p,.d (.iface t d))) (hp:p) (h:YV F ρ L (.iface t d) s):DO F kp dk (o::os) ρ L s:=by
 refine Y9 fun oo g ν w tmps ab i r k z n ae hdst hd hN m hr hkk=>?_;have hw:=Z9 m ae hg;have ad:=Yg n (by rw[hk];rfl);rw[hk]at n;obtain⟨x',ac,af⟩:=ZwX n;have j:Rep g w _ _:=Z7 m af rfl ha hp F.ds;generalize hv:(Act.mk tmps F.ds).eval x'=v at j;have u:(execOp (Act.mk tmps F.ds).eval oo).run P w=.halt (.panic v) w:=by cases j;simp[execOp,ac,hv,Instr.panic]
 refine F.T.back _ _ _ _ (.one (step_lone_go (fr':={ F.b.atR ⟨tmps,F.ds⟩ (.inRegion ab (i::r)::k) with mode:=.panicking [{ v,recovered:=false }] }) (cs':=F.cs) (w':=w) ?_)) (h g ν w v _ _ hN m j);rw[stepGR_op z hw,Oper.semAt_eq _ _ _ ad];rw[←Frame.raise_atR];simp[stepG.apply,u]
end
end Go.DL
namespace Go.DL
open Go
variable [Zqj]
section
variable {P:Program}
def J8:D→Option Value
 |.int k n=>sO (.int k n)
 |.bool b=>sO (.bool b)
 |.str l=>sO (.string ⟨l.toArray⟩)
 |.nilsl=>sO (.slice nO 0 0)
 |.nilptr=>sO (.pointer nO)
 |.ptr b o=>sO (.pointer (sO ⟨b,o,nO⟩))
 |.map b=>sO (.map (sO b))
 |.nilmap=>sO (.map nO)
 |.nilfn=>sO .nilFunc
 |.niliface=>sO .nilIface
 |_=>nO
def Zjv:List D→Option (List Value)
 | []=>sO []
 |d::r=>match J8 d,Zjv r with
  |some v,sO vs=>sO (v::vs)
  |_,_=>nO
theorem Ztl{g:G}{w:World}{v v':Value}{d:D}(h:Rep g w v d)(hv:J8 d=sO v'):v=v':=by
 cases h<;>simp only[J8,ZDV,reduceCtorEq]at hv<;>(try exact hv);rename_i s l h hb;rw[←hv];cases s;simp only at h;rw[←h]
theorem Zj9{g:G}{w:World}:∀{vs vs':List Value} {ds:List D},ZJ (Rep g w) vs ds→Zjv ds=sO vs'→vs=vs'
 |_,_,_,.nil,h=>by simp only[Zjv,ZDV]at h;exact h
 |_,_,_,.cons h1 h2,h=>by simp only[Zjv]at h;split at h<;>simp only[ZDV,reduceCtorEq]at h;rename_i v vs e1 e2;rw[←h,Ztl h1 e1,Zj9 h2 e2]
def ZeG:D→Prop
 |.int k n=>inR k n
 |.str l=>l.length≤big
 |d=>(J8 d).isSome=true
def Za9:List D→Prop
 | []=>True
 |d::r=>ZeG d∧Za9 r
theorem Zpd{d:D}(h:ZeG d):∃v,J8 d=sO v∧v.one1=true∧∀g w,Rep g w v d:=by
 cases d<;>simp only[ZeG,J8,Option.isSome_none,ZEq]at h;exact⟨_,rfl,rfl,fun g w=>.int _ _ h⟩;exact⟨_,rfl,rfl,fun g w=>.bool _⟩;exact⟨_,rfl,rfl,fun g w=>.str _ _ rfl h⟩;exact⟨_,rfl,rfl,fun g w=>.nilsl⟩;exact⟨_,rfl,rfl,fun g w=>.nilptr⟩;exact⟨_,rfl,rfl,fun g w=>.ptr _ _⟩;exact⟨_,rfl,rfl,fun g w=>.map _⟩;exact⟨_,rfl,rfl,fun g w=>.nilmap⟩;exact⟨_,rfl,rfl,fun g w=>.nilfn⟩;exact⟨_,rfl,rfl,fun g w=>.niliface⟩
theorem ZbE:∀{ds:List D},Za9 ds→∃vs,Zjv ds=sO vs∧(∀v∈vs,v.one1=true)∧∀g w,ZJ (Rep g w) vs ds
 | [],_=>⟨[],rfl,by simp,fun g w=>.nil⟩
 |d::r,h=>by obtain⟨v,h1,h2,h3⟩:=Zpd h.1;obtain⟨vs,g1,g2,g3⟩:=ZbE h.2;exact⟨v::vs,by simp[Zjv,h1,g1],by simp only[ZEz,forall_eq_or_imp];exact⟨h2,g2⟩,fun g w=>.cons (h3 g w) (g3 g w)⟩
inductive DD where
 |mark (q:Nat)
 |fn (i:FuncId) (args caps:List D)
def DD.def:DD→Deferred
 |.mark q=>{ target:=.collected q,args:=#[] }
 |.fn i args caps=>{ target:=.fn (.func i) ((Zjv caps).getD []).toArray,args:=((Zjv args).getD []).toArray }
def Za5(g:G)(w:World)(m:FrameMode):Option D→Prop
 |none=>m=.returning
 |some d=>∃v,m=.panicking [{ v,recovered:=false }]∧Rep g w v d
def Ju(P:Program)(i:FuncId)(args:List D)(pd:Option D)(s:St)(Ψ:Bool→St→Prop):Prop :=
 (∃fn,P.funcs[i]?=sO fn∧fn.body.isSome=true∧(fn.name == "runtime.NumGoroutine")=false) ∧
 ∀g w (vs:List Value) (cf:Frame) (cs:List Frame),Yh g s w→ZJ (Rep g w) vs args→Za5 g w cf.mode pd →
  ∃g' w' s' b,Ext g w g' w'∧Yh g' s' w'∧Ψ b s' ∧
   Steps P (lone (Frame.enter P i vs.toArray .deferred) (cf::cs) w) (lone { cf with mode:=if b then .returning else cf.mode } cs w')
def Unw(P:Program):List DD→Option D→St→(Option D→St→Prop)→Prop
 | [],m,s,Ψ=>Ψ m s
 |.mark q::r,m,s,Ψ=>s q=sO .dfr∧Unw P r m (s.del q) Ψ
 |.fn i args caps::r,m,s,Ψ=>Za9 args∧Za9 caps∧Ju P i (args++caps) m s fun b s'=>Unw P r (if b then nO else m) s' Ψ
theorem ZbV{g:G}{w:World}(b:Nat)(o:Obj)(hb:hdr w b=nO)(hp:g.prot b=0)(hk:¬g.kept b):Ext g w g { w with heap:=w.heap.setIfInBounds b o } where
 size:=by simp
 prot _:=ZEd _
 cell b' o' ho:=by by_cases h:b'=b;subst h;omega;exact Jb (by simp[Array.getElem?_setIfInBounds,Ne.symm h])
 hdr b' x hx:=by by_cases h:b'=b;subst h;rw[hb]at hx;simp at hx;rw[Za3 (w:=w) (by simp[Array.getElem?_setIfInBounds,Ne.symm h])];exact hx
 kept b' hb':=by have h:b'≠b:=fun h=>hk (h▸hb');simp[Array.getElem?_setIfInBounds,Ne.symm h]
 keptProt _ _:=rfl
 keptEq:=rfl
 os:=rfl
 output:=rfl
 tape:=rfl
theorem Zs.drop{g:G}{ν:Nat→Nat}{w w':World}{tmps:Array Value}{ρ:Env}{L:Loc}{s:St}(m:Zs g ν w tmps ρ L s){b:Nat}{o:Z1}(hb:s b=sO o)(he:Ext g w g w')(hsz:w'.heap.size=w.heap.size)
  (hoth:∀c,c≠b→w'.heap[c]?=w.heap[c]?):Zs g ν w' tmps ρ L (s.del b):={
 st:=⟨fun c x hx=>by simp only[St.del]at hx;by_cases hc:c=b;simp[hc]at hx;simp only[hc,if_false]at hx;exact(m.st.obj c x hx).mono he (hoth c hc) rfl,
   fun c x hx=>by simp only[St.del]at hx;by_cases hc:c=b;simp[hc]at hx;simp only[hc,if_false]at hx;exact m.st.kept c x hx,
   fun c hc=>m.st.fresh c (by omega),fun n cs hc=>(m.st.tabs n cs hc).mono he⟩
 loc l cs hl:=(m.loc l cs hl).mono he (hoth _ (fun h=>by have:=m.locSt l cs hl;rw[h,hb]at this;simp at this)) rfl
 locKept:=m.locKept
 locSt l cs hl:=by simp only[St.del];split;rfl;exact m.locSt l cs hl
 inj:=m.inj
 env t e ht:=(m.env t e ht).mono he }
theorem Zwq{fr:Frame}{cs:List Frame}{w:World}{q:Nat}{ds:List Deferred}{args:Array Value}(hm:fr.mode≠.run)(hd:fr.defers={ target:=.collected q,args }::ds)(hq:w.heap[q]?=sO (.deferred (sO []))) :
  step P (lone fr cs w)=.next (lone { fr with defers:=ds } cs { w with heap:=w.heap.setIfInBounds q (.deferred nO) }):=by
 have j:(Instr.takeDeferred q).run P w=.ok [] { w with heap:=w.heap.setIfInBounds q (.deferred nO) }:=by simp[Instr.takeDeferred,getObj,setObj,Sem.run,hq,Result.andThen]
 refine step_lone_go ?_;cases i:fr.mode with
 |run=>exact absurd i hm
 |returning=>simp[stepG,unwind,i,hd,Sem.runT_eq,j]
 |panicking chain=>simp[stepG,unwind,i,hd,Sem.runT_eq,j]
theorem ZmH{g:G}{w:World}{m:FrameMode}{o:Option D}(h:Za5 g w m o):m≠.run:=by
 cases o with
 |none=>simp only[Za5]at h;rw[h];simp
 |some d=>obtain⟨v,h,_⟩:=h;rw[h];simp
theorem ZmG{g g':G}{w w':World}{m:FrameMode}{o:Option D}(h:Za5 g w m o)(he:Ext g w g' w'):Za5 g' w' m o:=by
 cases o with
 |none=>exact h
 |some d=>obtain⟨v,h,hr⟩:=h;exact⟨v,h,hr.mono he⟩
theorem Zjw{Ψ:Option D→St→Prop}:∀(dds:List DD) {m:Option D} {s:St},Unw P dds m s Ψ→∀{g:G} {ν:Nat→Nat} {w:World} {ρ:Env} {L:Loc} {fr:Frame} {cs:List Frame},Zs g ν w fr.tmps ρ L s→fr.defers=dds.map DD.def→Za5 g w fr.mode m →
  ∃g' w' m' s' md,Ext g w g' w'∧Zs g' ν w' fr.tmps ρ L s'∧Ψ m' s'∧Za5 g' w' md m'∧Steps P (lone fr cs w) (lone { fr with defers:=[],mode:=md } cs w')
 | [],m,s,h,g,ν,w,ρ,L,fr,cs,M,hd,hm=>by
  refine⟨g,w,m,s,fr.mode,Ext.refl g w,M,h,hm,?_⟩;have:({ fr with defers:=[],mode:=fr.mode }:Frame)=fr:=by cases fr;simp only at hd;subst hd;rfl
  rw[this];exact Steps.refl P _
 |.mark q::r,m,s,h,g,ν,w,ρ,L,fr,cs,M,hd,hm=>by obtain⟨hq,hu⟩:=h;obtain⟨ak,hh⟩:=M.st.obj q _ hq;have he:=ZbV (g:=g) (w:=w) q (.deferred nO) (by simp[hdr,hh]) ak (M.st.kept q _ hq);have M':=M.drop hq he (by simp) (fun c hc=>Jk _ hc);obtain⟨g',w',m',s',md,a1,a2,a3,a4,a5⟩:=Zjw r hu (fr:={ fr with defers:=r.map DD.def }) (cs:=cs) M' rfl (ZmG hm he);exact⟨g',w',m',s',md,he.trans a1,a2,a3,a4,.head (Zwq (ZmH hm) hd hh) a5⟩
 |.fn i args caps::r,m,s,h,g,ν,w,ρ,L,fr,cs,M,hd,hm=>by
  obtain⟨am,al,⟨fn,u,ac,z⟩,hc⟩:=h;obtain⟨ab,ag,_,ah⟩:=ZbE am;obtain⟨vs,ad,_,ai⟩:=ZbE al;have ae:Za5 (Ze8 g ν L) w ({ fr with defers:=r.map DD.def }:Frame).mode m:=by
   cases m with
   |none=>exact hm
   |some d=>obtain⟨v,h1,h2⟩:=hm;exact⟨v,h1,Wk h2 rfl⟩
  obtain⟨g1,w1,s1,b,x1,x2,x3,x4⟩:=hc (Ze8 g ν L) w (ab++vs) { fr with defers:=r.map DD.def } cs M.callSt ((ah _ _).append (ai _ _)) ae;obtain⟨j,af⟩:=M.afterCall x1 x2;have t:fn.body.isNone=false:=by cases hb:fn.body<;>simp[hb]at ac⊢
  have n:step P (lone fr cs w)=.next (lone (Frame.enter P i (ab++vs).toArray .deferred) ({ fr with defers:=r.map DD.def }::cs) w):=by refine step_defer (d:=DD.def (.fn i args caps)) (fv:=.func i) (cap:=vs.toArray) (ZmH hm) hd (by simp[DD.def,ad]) ?_;simp only[DD.def,ad,ag,ZEB,invoke,callFunc,Sem.run_bind,run_program,Result.andThen_ok,u,z,t,ZEq,if_false,Sem.run_pure];simp
  have aj:Za5 { g1 with kept:=g.kept } w1 (if b then .returning else fr.mode) (if b then nO else m):=by cases b;simp only[ZEq,if_false];exact ZmG hm j;rfl
  obtain⟨g',w',m',s',md,a1,a2,a3,a4,a5⟩:=Zjw r x3 (fr:={ fr with defers:=r.map DD.def,mode:=if b then .returning else fr.mode }) (cs:=cs) af rfl aj;exact⟨g',w',m',s',md,j.trans a1,a2,a3,a4,.head n (Steps.trans x4 a5)⟩
def YK{P:Program}(F:Fr P)(rs:List RV)(Φ:Res→St→Prop)(dds:List DD):Prop :=
 ∃an f df cs,cf P an f=sO df∧rs=df.res∧F={ Zmx P an f df.n cs Φ with ds:=dds.map DD.def }
theorem St.sub_refl(s:St):s.sub s:=fun _ _ h=>h
def ZjG(ρ:Env)(L:Loc)(rs:List RV)(Φ:Res→St→Prop):Option D→St→Prop
 |none,s=>∃p ds d s',Yt ρ L s rs=sO (p,ds)∧p∧(KM ds).Le d∧s'.sub s∧Φ (.ret d) s'
 |some d,s=>∃d' s',d.Le d'∧s'.sub s∧Φ (.panic d') s'
theorem ZqX{an:Ann}{f:FuncId}{df:DF}(hf:cf P an f=sO df){cs:List Frame}{Φ:Res→St→Prop}{g:G}{ν:Nat→Nat}{w:World}{fr:Frame}{ρ:Env}{L:Loc}{s:St}{m:Option D}{dds:List DD}(hfn:fr.fn=f)(hkind:fr.kind=.normal)
  (M:Zs g ν w fr.tmps ρ L s) (hd:fr.defers=dds.map DD.def) (hm:Za5 g w fr.mode m) (hu:Unw P dds m s (ZjG ρ L df.res Φ)):(ZjO P f cs Φ).T g w (lone fr cs w):=by
 obtain⟨g',w',m',s',md,a1,a2,a3,a4,a5⟩:=Zjw dds hu (cs:=cs) M hd hm;unfold cf at hf;split at hf<;>(try(simp at hf;done));rename_i fn i;split at hf<;>(try(simp at hf;done));split at hf<;>(try(simp at hf;done));split at hf<;>simp at hf;rename_i rs d' t hd';subst hf;cases m' with
 |none =>obtain⟨p,ds,d,s2,h1,h2,h3,h4,h5⟩:=a3;obtain⟨v,n,j⟩:=ZmY a2 t h1 h2;exact⟨.returned v,w',_,a5,hfn,⟨a4,rfl,hkind,fn,by rw[←i] ;exact congrArg _ hfn,n⟩,g',s2,.ret d,a1,a2.st.sub h4,h3 _ _ _ j,h5⟩
 |some d =>obtain⟨d',s2,h1,h2,h3⟩:=a3;obtain⟨v,n,j⟩:=a4;exact⟨.panicked [{ v,recovered:=false }],w',_,a5,hfn,⟨n,rfl,fn,by rw[←i];exact congrArg _ hfn⟩,g',s2,.panic d',a1,a2.st.sub h2,⟨v,rfl,h1 _ _ _ j⟩,h3⟩
theorem YK.retU{F:Fr P}{rs:List RV}{Φ:Res→St→Prop}{dds:List DD}(hF:YK F rs Φ dds){dk:List Zh}{ρ:Env}{L:Loc}{s:St}(h:Unw P dds nO s (ZjG ρ L rs Φ)):Zv F (.code .ret::dk) ρ L s:=by
 obtain⟨an,f,⟨N,rs,b⟩,cs,hf,rfl,rfl⟩:=hF;intro k hk;cases hk with
 |code hc ht =>obtain rfl:=ZqA hc;intro g ν w tmps hN m;refine(ZjO P f cs Φ).back _ _ _ _ (.one (stepR_ret rfl)) ?_;exact ZqX (m:=nO) hf rfl rfl (dds:=dds) m rfl rfl h
theorem YK.finU{F:Fr P}{rs:List RV}{Φ:Res→St→Prop}{dds:List DD}(hF:YK F rs Φ dds){ρ:Env}{L:Loc}{s:St}(h:Unw P dds nO s (ZjG ρ L rs Φ)):Zv F [] ρ L s:=by
 obtain⟨an,f,⟨N,rs,b⟩,cs,hf,rfl,rfl⟩:=hF;intro k hk;cases hk;intro g ν w tmps hN m;refine(ZjO P f cs Φ).back _ _ _ _ (.one (stepR_end rfl)) ?_;exact ZqX (m:=nO) hf rfl rfl (dds:=dds) m rfl rfl h
theorem YK.panU{F:Fr P}{rs:List RV}{Φ:Res→St→Prop}{dds:List DD}(hF:YK F rs Φ dds){ρ:Env}{L:Loc}{d:D}{s:St}(h:Unw P dds (sO d) s (ZjG ρ L rs Φ)):YV F ρ L d s:=by
 obtain⟨an,f,⟨N,rs,b⟩,cs,hf,rfl,rfl⟩:=hF;intro g ν w v todo tmps hN m hr;exact ZqX (m:=sO d) hf rfl rfl (dds:=dds) m rfl ⟨v,rfl,hr⟩ h
theorem YK.ret{F:Fr P}{rs:List RV}{Φ:Res→St→Prop}(hF:YK F rs Φ []){dk:List Zh}{ρ:Env}{L:Loc}{s:St}{p:Prop}{ds:List D}(d:D)(s':St)(h1:Yt ρ L s rs=sO (p,ds))(h2:p)(h3:(KM ds).Le d)(h4:s'.sub s)(h5:Φ (.ret d) s') :
  Zv F (.code .ret::dk) ρ L s:=hF.retU ⟨p,ds,d,s',h1,h2,h3,h4,h5⟩
theorem YK.fin{F:Fr P}{rs:List RV}{Φ:Res→St→Prop}(hF:YK F rs Φ []){ρ:Env}{L:Loc}{s:St}{p:Prop}{ds:List D}(d:D)(s':St)(h1:Yt ρ L s rs=sO (p,ds))(h2:p)(h3:(KM ds).Le d)(h4:s'.sub s)(h5:Φ (.ret d) s') :
  Zv F [] ρ L s:=hF.finU ⟨p,ds,d,s',h1,h2,h3,h4,h5⟩
theorem YK.pan{F:Fr P}{rs:List RV}{Φ:Res→St→Prop}(hF:YK F rs Φ []){ρ:Env}{L:Loc}{d:D}{s:St}(s':St)(h1:s'.sub s)(h2:Φ (.panic d) s'):YV F ρ L d s:=hF.panU ⟨d,s',ZDZ d,h1,h2⟩
theorem Zd{an:Ann}{f:FuncId}{N:Nat}{rs:List RV}{b:DC}(hf:cf P an f=sO ⟨N,rs,b⟩){args:List D}{s:St}{Φ:Res→St→Prop}
  (h:∀F:Fr P,YK F rs Φ []→Zv F [.code b] (KL 0 args) [] s):Za P f args s Φ :=
 ZhX hf fun cs=>h _ ⟨an,f,⟨N,rs,b⟩,cs,hf,rfl,rfl⟩
end
end Go.DL
namespace Go.DL
open Go
variable [Zqj]
def Zf(P:Program)(f:FuncId)(args:List D)(d:D):Prop:=∀s,Za P f args s fun r s'=>r=.ret d∧s'=s
theorem Zo{P:Program}{an:Ann}{f:FuncId}{N:Nat}{rs:List RV}{b:DC}(hf:cf P an f=sO ⟨N,rs,b⟩){args:List D}{d:D}
  (h:∀(F:Fr P) (s:St),(∀{dk:List Zh} {ρ:Env} {L:Loc} {s':St} {p:Prop} {ds:List D},Yt ρ L s' rs=sO (p,ds)→p→(KM ds).Le d→s.sub s'→Zv F (.code .ret::dk) ρ L s') →
   Zv F [.code b] (KL 0 args) [] s):Zf P f args d :=
 fun s=>Zd hf fun F hF=>h F s fun h1 h2 h3 h4=>hF.ret d s h1 h2 h3 h4 ⟨rfl,rfl⟩
theorem Zbk{P:Program}{F:Fr P}{kp:Option (List Nat)}{dk:List Zh}{o:DOp}{os:List DOp}{ρ:Env}{L:Loc}{s:St}(hg:Zk ρ o.guard=sO true){fx:Opd}{xs:List Opd}(hk:o.k=.call fx xs)
  {p q:Prop} {f:FuncId} {first caps:List D} {es:List E} {ds:List D} (hf:ZE ρ true fx=sO (q,.d (.fn (.func f) first caps))) (ha:Ya ρ true xs=sO (p,es)) (hds:WX es=sO ds) (hp:p) (hq:q)
  {d:D} (hc:Zf P f (first++ds++caps) d) (h:DO F kp dk os (Zw ρ o.dst (.d d)) L s):DO F kp dk (o::os) ρ L s :=
 Zgb hg hk hf ha hds hp hq (hc s) (fun d' s' ⟨h1,h2⟩=>by simp only[Res.ret.injEq]at h1;subst h1;subst h2;exact h) (fun d' s' ⟨h1,_⟩=>by simp at h1)
end Go.DL
namespace Go.DL
open Go
variable [Zqj]
section
variable {P:Program}
theorem Zzf{F:Fr P}{kp:Option (List Nat)}{dk:List Zh}{os:List DOp}{ρ ρ':Env}{L:Loc}{s:St}(h:∀g ν w tmps,Zs g ν w tmps ρ L s→Zs g ν w tmps ρ' L s)(h':DO F kp dk os ρ' L s) :
  DO F kp dk os ρ L s:=fun j is k i hk g ν w tmps hN m=>h' j is k i hk g ν w tmps hN (h g ν w tmps m)
theorem Zs.headWhen{g:G}{ν:Nat→Nat}{w:World}{tmps:Array Value}{ρ:Env}{L:Loc}{s:St}{dst:Option Nat}{e:E}(m:Zs g ν w tmps (Zw ρ dst e) L s):Zs g ν w tmps (Zw ρ dst (.when true e)) L s:=by
 cases dst with
 |none=>exact m
 |some t =>refine{ m with env:=fun u x hx=>?_ };simp only[Zw,ZM]at hx;by_cases h:t=u;simp only[h,if_true,ZDV]at hx;subst hx;exact⟨fun _=>m.env u e (by simp[Zw,ZM,h]),fun h=>by simp at h⟩;simp only[h,if_false]at hx;exact m.env u x (by simp[Zw,ZM,h,hx])
theorem KH{F:Fr P}{kp:Option (List Nat)}{dk:List Zh}{o:DOp}{os:List DOp}{ρ:Env}{L:Loc}{s:St}(hg:Zk ρ o.guard=sO false){e:E}
  (h:DO F kp dk os (Zw ρ o.dst (.when false e)) L s):DO F kp dk (o::os) ρ L s:=by
 refine Y9 fun oo g ν w tmps t i r k n hck u j hd hN m hr z=>?_;exact Zbg (P:=P) hN m n j hd (Z9 m u hg) (h t r k hr z)
theorem ZoB{F:Fr P}{kp:Option (List Nat)}{dk:List Zh}{o:DOp}{os:List DOp}{ρ:Env}{L:Loc}{s:St}{c:Bool}(hg:Zk ρ o.guard=sO c){fx:Opd}{xs:List Opd}(hk:o.k=.call fx xs)
  {p q:Prop} {f:FuncId} {first caps:List D} {es:List E} {ds:List D} (hf:ZE ρ c fx=sO (q,.d (.fn (.func f) first caps))) (ha:Ya ρ c xs=sO (p,es)) (hds:WX es=sO ds)
  {d:D} (hc:c=true→p∧q∧Zf P f (first++ds++caps) d) (h:DO F kp dk os (Zw ρ o.dst (.when c (.d d))) L s):DO F kp dk (o::os) ρ L s:=by
 cases c;exact KH hg h;obtain⟨h1,h2,h3⟩:=hc rfl;exact Zbk hg hk hf ha hds h1 h2 h3 (Zzf (fun g ν w tmps m=>m.headWhen) h)
theorem Zs.sub{g:G}{ν:Nat→Nat}{w:World}{tmps:Array Value}{ρ:Env}{L:Loc}{s s':St}(m:Zs g ν w tmps ρ L s)(hs:s'.sub s):Zs g ν w tmps ρ L s':={
 st:=m.st.sub hs
 loc:=m.loc
 locKept:=m.locKept
 locSt l cs hl:=by
  cases hx:s' (ν l) with
  |none=>rfl
  |some o=>have:=hs _ _ hx;rw[m.locSt l cs hl]at this;simp at this
 inj:=m.inj
 env:=m.env }
theorem Kc{F:Fr P}{dk:List Zh}{ρ:Env}{L:Loc}{s s':St}(hs:s'.sub s)(h:Zv F dk ρ L s'):Zv F dk ρ L s :=
 fun k hk g ν w tmps hN m=>h k hk g ν w tmps hN (m.sub hs)
end
end Go.DL
namespace Go.DL
open Go
variable [Zqj]
variable {kp:Option (List Nat)}{L:Loc}{ρ:Env}{s:St}{w:World}{os:List DOp}{ds:List D}{B:List (Nat × Rd)}{dst:Option Nat}{tmps:Array Value}{g:G}{Φ:Res→St→Prop}{ν:Nat→Nat}{xs:List Opd}{side:Prop}{row:Nat→List D}
variable {P:Program}
theorem Zd3{F:Fr P}{dk:List Zh}{o:DOp}(hg:o.guard=nO){x y:Opd}{pl:Option J0}(hk:o.k=.q (.bin .add pl) [x,y]){p:Prop}{k:IntKind}{a b:Int}(ha:Ya ρ true [x,y]=sO (p,[.d (.int k a),.d (.int k b)]))(hp:p)(h:DO F kp dk os (Zw ρ o.dst (.d (.int k (k.wrap (a+b))))) L s):DO F kp dk (o::os) ρ L s:=by
 refine Zqb (c:=true) (by rw[hg];rfl) (by rw[hk];rfl) (.inr ⟨rfl,rfl⟩) (fun _ oo g ν w tmps u m=>?_) h;rw[hk]at u;obtain⟨ys,i,ac⟩:=Zzs u;have n:=ZbD m rfl F.ds ac ha hp;obtain⟨dst,j,ty,pos,af,gd⟩:=oo;simp only at i;have ab:∃op t x' y' yt,j=Op.binOp op t x' y' yt:=by
  cases j<;>(try(simp[cq]at i;done));case binOp=>exact⟨_,_,_,_,_,rfl⟩
  all_goals
   exfalso;revert i;simp only[cq]
   repeat' split
   all_goals simp
   all_goals (intros;simp_all)
 obtain⟨op,t,x',y',yt,rfl⟩:=ab;simp only[cq]at i;simp only[ZDV,ZD7,Q.bin.injEq]at i;obtain⟨⟨rfl,_⟩,rfl⟩:=i;obtain⟨e1,e2,he,h1,h2⟩:=Jx n;simp only[List.cons.injEq,and_true]at he;obtain⟨rfl,rfl⟩:=he;obtain⟨v1,i1⟩:=KQ h1;obtain⟨v2,i2⟩:=KQ h2;refine ev ⟨.int k (k.wrap (a+b)),?_,.int _ _ (Zkc _ _)⟩;have z:(eqGuard .add t x' y' (.int k a) (.int k b)).run P w=.ok () w:=rfl;rw[v1,v2];simp only[Sem.run_bind,z,Result.andThen_ok,binOp,ne_eq,not_true_eq_false,if_false];rfl
inductive Sch(T:Tab):(Nat→Bool)→List Nat→Prop where
 |nil {l} (h:∀i,i<T.length→l i=true):Sch T l []
 |cons {l i is} (hi:i<T.length) (hl:l i=false) (hd:∀d∈T.deps i,l d=true) (t:Sch T (fun j=>j==i ||l j) is):Sch T l (i::is)
def ZA(ρ ρ':Env)(ns:List Nat):Prop:=∀t∈ns,ZM ρ' t=ZM ρ t
theorem ZR{ρ ρ':Env}{c:Bool}{x:Opd}(h:ZA ρ ρ' (ZS x)):ZE ρ' c x=ZE ρ c x:=by
 cases x with
 |cst d=>rfl
 |tmp t=>simp only[ZE,h t (by simp[ZS])]
theorem WO{ρ ρ':Env}{c:Bool}:∀{xs:List Opd},ZA ρ ρ' (ZaO xs)→Ya ρ' c xs=Ya ρ c xs
 | [],_=>rfl
 |x::xs,h=>by have h1:ZA ρ ρ' (ZS x):=fun t ht=>h t (by simp[ZaO];exact .inl ht);have h2:ZA ρ ρ' (ZaO xs):=fun t ht=>h t (by simp only[ZaO,List.flatMap_cons,List.mem_append];exact .inr ht);simp only[Ya,ZR h1,WO h2]
theorem YY{ρ ρ':Env}{g:Option (Nat×Bool)}(h:ZA ρ ρ' (Zdc g)):Zk ρ' g=Zk ρ g:=by
 cases g with
 |none=>rfl
 |some x=>obtain⟨t,w⟩:=x;simp only[Zk,h t (by simp[Zdc])]
theorem ZkO{ρ ρ':Env}{c:Bool}{x a b:Opd}(h:ZA ρ ρ' (ZS x++ZS a++ZS b)):Zc0 ρ' c x a b=Zc0 ρ c x a b:=by
 have h1:ZA ρ ρ' (ZS x):=fun t ht=>h t (by simp[ht]);have h2:ZA ρ ρ' (ZS a):=fun t ht=>h t (by simp[ht]);have h3:ZA ρ ρ' (ZS b):=fun t ht=>h t (by simp[ht]);simp only[Zc0,ZR h1];split;rw[ZR h2,ZR h3];rfl
theorem Zpt{L L':Loc}{e:E}(h:∀x o,e=.loc x o→Ze L' x=Ze L x):Y6 L' s e=Y6 L s e:=by
 cases e with
 |d v=>cases v<;>rfl
 |loc l o=>simp only[Y6,h l o rfl]
 |when c e=>rfl
theorem ZpC{L L':Loc}{n:Nat}{e:E}(h:∀x o,e=.loc x o→Ze L' x=Ze L x):W2 L' s n e=W2 L s n e:=by
 cases e with
 |d v=>cases v<;>rfl
 |loc l o=>simp only[W2,h l o rfl]
 |when c e=>rfl
theorem ZrF{L L':Loc}{q:Q}{es:List E}(h:Zb3 (.q q [])=true→∀x o,.loc x o∈es→Ze L' x=Ze L x):qv L' s q es=qv L s q es:=by
 by_cases hl:Zb3 (.q q [])=true
 ·replace h:=h hl;cases q<;>simp[Zb3]at hl
  ·match es with
   | [a]=>simp only[qv,Zpt (e:=a) fun x o ha=>h x o (by rw[ha];exact List.mem_singleton_self _)]
   | []=>rfl
   |_::_::_=>rfl
  match es with
  | [a]=>simp only[qv,ZpC (e:=a) fun x o ha=>h x o (by rw[ha];exact List.mem_singleton_self _)]
  | []=>rfl
  |_::_::_=>rfl
 clear h;unfold qv;split<;>first|rfl|(exfalso;exact hl rfl)|skip
def YB:K→Bool
 |.q _ _|.pick _ _ _|.bsl _ _ _ _ _|.s2b _=>true
 |_=>false
theorem Zsy{o:DOp}{ρ ρ':Env}{L L':Loc}{s s1:St}{ρ1:Env}{L1:Loc}(hst:ZD o ρ L s=.ok side ρ1 L1 s1)(hs:side)(hgt:Zk ρ o.guard=sO true)(hk:YB o.k=true)(ha:ZA ρ ρ' (ZB o))(hl:Zb3 o.k=true→∀q xs p es,o.k=.q q xs→Ya ρ true xs=sO (p,es)→p→∀x o,.loc x o∈es→Ze L' x=Ze L x):∃e,ρ1=Zw ρ o.dst e∧L1=L∧s1=s∧ZD o ρ' L' s=.ok side (Zw ρ' o.dst e) L' s:=by
 obtain⟨dst,gd,k⟩:=o;have hg:=YY (g:=gd) (fun t ht=>ha t (by simp[ZB,ht]));have hn:ZA ρ ρ' (Yk k):=fun t ht=>ha t (by simp[ZB,ht]);simp only at hgt;unfold ZD at hst⊢;simp only[hg,hgt]at hst⊢;cases k with
 |q q xs =>
  simp only at hst⊢;rw[WO hn];split at hst<;>(try(simp at hst;done));rename_i p es i;try simp only[i]
  split at hst<;>(try(simp at hst;done));rename_i sd e hq;have hp:p:=by split at hst<;>(simp only[SR.ok.injEq]at hst;obtain⟨rfl,-,-,-⟩:=hst);exact hs.1;exact(hs trivial).1
  have u:qv L' s q es=qv L s q es:=ZrF fun hld=>hl (by cases q<;>simp_all[Zb3]) q xs p es rfl i hp;simp only[u,hq];split at hst<;>(simp only[SR.ok.injEq]at hst;obtain⟨rfl,rfl,rfl,rfl⟩:=hst);exact⟨e,rfl,rfl,rfl,rfl⟩;exact⟨_,rfl,rfl,rfl,rfl⟩
 |pick x a b =>
  simp only at hst⊢;rw[ZkO hn];split at hst<;>(try(simp at hst;done));rename_i p v hp;try simp only[hp]
  split at hst<;>(simp only[SR.ok.injEq]at hst;obtain⟨rfl,rfl,rfl,rfl⟩:=hst);exact⟨_,rfl,rfl,rfl,rfl⟩;exact⟨_,rfl,rfl,rfl,rfl⟩
 |bsl len n z is xs =>
  simp only at hst⊢;rw[WO hn];split at hst<;>(try(simp at hst;done));rename_i p es i;try simp only[i]
  split at hst<;>(try(simp at hst;done));rename_i ds j;try simp only[j]
  split at hst<;>(simp only[SR.ok.injEq]at hst;obtain⟨rfl,rfl,rfl,rfl⟩:=hst);exact⟨_,rfl,rfl,rfl,rfl⟩;exact⟨_,rfl,rfl,rfl,rfl⟩
 |s2b x =>
  simp only at hst⊢;rw[ZR hn];split at hst<;>(try(simp at hst;done));rename_i p l hl;try simp only[hl]
  split at hst<;>(simp only[SR.ok.injEq]at hst;obtain⟨rfl,rfl,rfl,rfl⟩:=hst);exact⟨_,rfl,rfl,rfl,rfl⟩;exact⟨_,rfl,rfl,rfl,rfl⟩
 |_=>simp[YB]at hk
theorem ZkX{o:DOp}{s s1:St}{ρ1:Env}{L1:Loc}(hst:ZD o ρ L s=.ok side ρ1 L1 s1)(hgt:Zk ρ o.guard=sO false)(hk:YB o.k=true):∃e,ρ1=Zw ρ o.dst (.when false e)∧L1=L∧s1=s:=by
 obtain⟨dst,gd,k⟩:=o;have i:∃x,gd=sO x:=by
  cases gd with
  |none=>simp[Zk]at hgt
  |some x=>exact⟨x,rfl⟩
 obtain⟨x,rfl⟩:=i;simp only at hgt;unfold ZD at hst;simp only[hgt]at hst;cases k with
 |q q xs =>simp only at hst;split at hst<;>(try(simp at hst;done));split at hst<;>(try(simp at hst;done));simp only[SR.ok.injEq]at hst;obtain⟨rfl,rfl,rfl,rfl⟩:=hst;exact⟨_,rfl,rfl,rfl⟩
 |pick x a b =>simp only at hst;split at hst<;>(try(simp at hst;done));simp only[SR.ok.injEq]at hst;obtain⟨rfl,rfl,rfl,rfl⟩:=hst;exact⟨_,rfl,rfl,rfl⟩
 |bsl len n z is xs =>simp only at hst;split at hst<;>(try(simp at hst;done));split at hst<;>(try(simp at hst;done));simp only[SR.ok.injEq]at hst;obtain⟨rfl,rfl,rfl,rfl⟩:=hst;exact⟨_,rfl,rfl,rfl⟩
 |s2b x =>simp only at hst;split at hst<;>(try(simp at hst;done));simp only[SR.ok.injEq]at hst;obtain⟨rfl,rfl,rfl,rfl⟩:=hst;exact⟨_,rfl,rfl,rfl⟩
 |_=>simp[YB]at hk
theorem Zhe{s s':St}{L L':Loc}:∀{B:List (Nat×Rd)},KA s s' L L' B→(∀n b,(n,.blk b)∈B→s' b=s b)∧(∀n l,(n,.loc l)∈B→Ze L' l=Ze L l)
 | [],_=>⟨fun n b h=>by simp at h,fun n b h=>by simp at h⟩
 | (m,.blk c)::B,h=>by obtain⟨h1,h2⟩:=Zhe h.2;refine⟨fun n b hb=>?_,fun n l hl=>h2 n l (by simpa using hl)⟩;rcases List.mem_cons.1 hb with hb|hb;simp only[ZD7,Rd.blk.injEq]at hb;rw[hb.2];exact h.1;exact h1 n b hb
 | (m,.loc c)::B,h=>by obtain⟨h1,h2⟩:=Zhe h.2;refine⟨fun n b hb=>h1 n b (by simpa using hb),fun n l hl=>?_⟩;rcases List.mem_cons.1 hl with hl|hl;simp only[ZD7,Rd.loc.injEq]at hl;rw[hl.2];exact h.1;exact h2 n l hl
theorem ZfT(s:St)(L:Loc):∀B,KA s s L L B
 | []=>trivial
 | (_,.blk _)::B=>⟨rfl,ZfT s L B⟩
 | (_,.loc _)::B=>⟨rfl,ZfT s L B⟩
theorem ZcV(fl:List Nat)(s:St)(L:Loc)(B:List (Nat×Rd)):Y0 fl s s L L B:=ZfT s L _
theorem Zfn:∀(B:List (Nat×Rd)),YO [] B=[]
 | []=>rfl
 |_::B=>Zfn B
theorem Zb0{s s':St}{L L':Loc}{B:List (Nat×Rd)}:Y0 [] s s' L L' B:=by
 unfold Y0;rw[Zfn];trivial
theorem Qe{fl:List Nat}{x:Nat×Rd}:∀{B:List (Nat×Rd)},x∈YO fl B↔J6 x.1 fl=true∧x∈B
 | []=>by simp[YO]
 |y::B=>by simp only[YO];split;rename_i h;simp only[ZEz,Qe (B:=B)];constructor;rintro(rfl|⟨h1,h2⟩);exact⟨h,.inl rfl⟩;exact⟨h1,.inr h2⟩;rintro⟨h1,rfl|h2⟩;exact .inl rfl;exact .inr ⟨h1,h2⟩;rename_i h;simp only[ZEz,Qe (B:=B)];constructor;rintro⟨h1,h2⟩;exact⟨h1,.inr h2⟩;rintro⟨h1,rfl|h2⟩;exact absurd h1 h;exact⟨h1,h2⟩
theorem ZuA{o:DOp}{x:Rd}:(Zbv o,x)∈W3 o ρ↔x∈YW o ρ:=by simp[W3]
theorem ZiX{o:DOp}{ρ ρ':Env}(h:ZA ρ ρ' (ZB o)):YW o ρ'=YW o ρ:=by
 obtain⟨dst,gd,k⟩:=o;have hg:=YY (g:=gd) (fun t ht=>h t (by simp[ZB,ht]));cases k with
 |q q xs =>
  have hn:ZA ρ ρ' (ZaO xs):=fun t ht=>h t (by simp[ZB,Yk,ht]);simp only[YW,hg];split
  ·cases Zk ρ gd with
   |none=>rfl
   |some c=>simp only[WO hn]
  rfl
 |_=>rfl
theorem ZxB{s s':St}{q:Q}{es:List E}(h:YP (.q q [])=true→∀e r,es=e::r→∀b,.blk b∈KB e→s' b=s b):qv L s' q es=qv L s q es:=by
 by_cases hl:YP (.q q [])=true
 ·replace h:=h hl
  match es with
  | [] =>
   cases q;case conv c=>cases c<;>first|rfl|simp[YP]at hl
   all_goals simp[YP]at hl<;>rfl
  |e::r =>
   replace h:=h e r rfl;have hc:∀b o,e=.d (.ptr b o)→Yc s' b=Yc s b:=fun b o he=>by subst he;simp only[Yc,h b (by simp[KB])]
   have hm:∀b,e=.d (.map b)→Kw s' b=Kw s b:=fun b he=>by subst he;simp only[Kw,h b (by simp[KB])]
   have j:∀b o n cap z,e=.d (.msl b o n cap z)→Yc s' b=Yc s b:=fun b o n cap z he=>by subst he;simp only[Yc,h b (by simp[KB])]
   have i:q=.conv .b2s→qv L s' q (e::r)=qv L s q (e::r):=fun hq=>by
    subst hq;cases r with
    |nil =>
     cases e with
     |d v=>cases v<;>first|rfl|(simp only[qv];rw[j _ _ _ _ _ rfl])
     |_=>rfl
    |cons =>
     cases e with
     |d v=>cases v<;>rfl
     |_=>rfl
   cases q;case conv c=>cases c<;>first|(simp[YP]at hl;done)|exact i rfl
   all_goals simp[YP]at hl
   ·cases r with
    |nil =>
     simp only[qv]
     congr 1
     cases e with
     |d v=>cases v<;>first|rfl|(simp only[Y6];rw[hc _ _ rfl])
     |_=>rfl
    |cons=>rfl
   ·cases r with
    |nil =>
     simp only[qv]
     congr 1
     cases e with
     |d v=>cases v<;>first|rfl|(simp only[W2];rw[hc _ _ rfl])
     |_=>rfl
    |cons=>rfl
   ·match r with
    | [] =>
     cases e with
     |d v=>cases v<;>rfl
     |_=>rfl
    | [e2] =>
     cases e with
     |d v =>
      cases e2 with
      |d v2=>cases v<;>first|rfl|(simp only[qv];rw[hm _ rfl])
      |_=>cases v<;>rfl
     |_=>cases e2<;>rfl
    |e2::_::_ =>
     cases e with
     |d v=>cases v<;>(cases e2<;>rfl)
     |_=>cases e2<;>rfl
   cases r with
   |nil =>
    cases e with
    |d v=>cases v<;>first|rfl|(simp only[qv];rw[hm _ rfl])
    |_=>rfl
   |cons =>
    cases e with
    |d v=>cases v<;>rfl
    |_=>rfl
 clear h;cases q;case conv c=>cases c<;>first|(simp[YP]at hl;done)|(unfold qv;rfl)|(unfold qv;split<;>first|rfl|(rename_i hx;cases hx))
 all_goals first|(simp[YP]at hl;done)|(unfold qv;rfl)|(unfold qv;split<;>first|rfl|(rename_i hx;cases hx))
theorem Zsz{o:DOp}{s s':St}{ρ1:Env}(hst:ZD o ρ L s=.ok side ρ1 L s)(hk:YB o.k=true)(hgt:Zk ρ o.guard=sO true)(h:∀b,.blk b∈YW o ρ→s' b=s b):ZD o ρ L s'=.ok side ρ1 L s':=by
 obtain⟨dst,gd,k⟩:=o;unfold ZD at hst⊢;obtain⟨c,hg,hc⟩:∃c,Zk ρ gd=sO c∧c=true:=⟨true,hgt,rfl⟩;simp only[hg]at hst⊢;cases k with
 |q q xs =>
  simp only at hst⊢;split at hst<;>(try(simp at hst;done));rename_i p es t;have j:qv L s' q es=qv L s q es:=ZxB fun hl e r he b hb=>h b (by
   subst he;have i:YP (.q q xs)=true:=by
    cases q;case conv c=>cases c<;>simp_all[YP]
    all_goals simp_all[YP]
   subst hc;simp only[YW,i,if_true,hg,t];exact hb)
  simp only[j];split at hst<;>(try(simp at hst;done));split at hst<;>(simp only[SR.ok.injEq]at hst;obtain⟨rfl,rfl,-,-⟩:=hst;rfl)
 |pick x a b =>simp only at hst⊢;split at hst<;>(try(simp at hst;done));split at hst<;>(simp only[SR.ok.injEq]at hst;obtain⟨rfl,rfl,-,-⟩:=hst;rfl)
 |bsl len n z is xs =>simp only at hst⊢;split at hst<;>(try(simp at hst;done));split at hst<;>(try(simp at hst;done));split at hst<;>(simp only[SR.ok.injEq]at hst;obtain⟨rfl,rfl,-,-⟩:=hst;rfl)
 |s2b x =>simp only at hst⊢;split at hst<;>(try(simp at hst;done));split at hst<;>(simp only[SR.ok.injEq]at hst;obtain⟨rfl,rfl,-,-⟩:=hst;rfl)
 |_=>simp[YB]at hk
def Zak(o:DOp)(x:Nat):Prop:=o.dst=sO x∧∃z,o.k=.alloc z
def ZbJ(o:DOp)(ρ:Env)(e:E):Prop :=
 (Zk ρ o.guard=sO false∧∃e0,e=.when false e0) ∨
 (∃x y pl p k a b,o.guard=nO∧o.k=.q (.bin .add pl) [x,y]∧Ya ρ true [x,y]=sO (p,[.d (.int k a),.d (.int k b)])∧p∧e=.d (.int k (k.wrap (a+b))))
def WM(o:DOp)(ρ:Env)(L:Loc)(s:St)(B:List (Nat×Rd)):Prop :=
 (YB o.k=true∧Zk ρ o.guard=sO true∧(∀b∈YW o ρ,(Zbv o,b)∈B)∧∃side e,side∧ZD o ρ L s=.ok side (Zw ρ o.dst e) L s∧∀t,o.dst=sO t→ZM ρ t=sO e) ∨
 (YB o.k=true∧∃e,ZbJ o ρ e∧∀t,o.dst=sO t→ZM ρ t=sO e) ∨
 (∃t z,o=⟨sO t,nO,.alloc z⟩∧ZM ρ t=sO (.loc t 0)∧Ze L t=sO z)
structure Inv(T:Tab)(ms:List Nat)(A rest:List Nat)(ρ:Env)(L:Loc)(s:St)(B:List (Nat×Rd))(l:Nat→Bool)(ρ':Env)(L':Loc):Prop where
 closed:∀i,i<T.length→l i=true→∀d∈T.deps i,l d=true
 restN:∀r∈rest,l r=false
 doneN:∀i,i<T.length→i∉rest→i∉A→l i=true
 alt:∀a∈A,a<T.length
 pair:∀p∈A,∀a∈A,(ms.getD p 0).testBit a=true∨nd (T.op a).dst (ZB (T.op p))=true
 uniq:∀p∈A,∀a∈A,p≠a→ndd (T.op p).dst (T.op a).dst=true
 env:∀t,ZM ρ' t=ZM ρ t∨∃a∈A,l a=false∧(T.op a).dst=some t
 loc0:∀a∈A,l a=false→∀x,Zak (T.op a) x→Ze L' x=none
 loc:∀x,Ze L' x=Ze L x∨∃a∈A,l a=false∧Zak (T.op a) x
 pend:∀a∈A,l a=false→WM (T.op a) ρ L s B
def Zh5(T:Tab)(ms:List Nat):Prop :=
 ∀(l:Nat→Bool),(∀i,i<T.length→l i=true→∀d∈T.deps i,l d=true)→∀i,i<T.length→(∀d∈T.deps i,l d=true)→∀a,(ms.getD i 0).testBit a=true→l a=true
theorem WM.state{o:DOp}{s s':St}{B:List (Nat×Rd)}(h:WM o ρ L s B)(hB:∀b,.blk b∈YW o ρ→s' b=s b):WM o ρ L s' B:=by
 rcases h with ⟨hk,hg,hr,side,e,hs,i,he⟩|h|h;exact .inl ⟨hk,hg,hr,side,e,hs,Zsz i hk hg hB,he⟩;exact .inr (.inl h);exact .inr (.inr h)
theorem WM.more{o:DOp}{B B':List (Nat×Rd)}(h:WM o ρ L s B)(hB:∀b∈YW o ρ,(Zbv o,b)∈B→(Zbv o,b)∈B'):WM o ρ L s B':=by
 rcases h with ⟨hk,hg,hr,h⟩|h|h;exact .inl ⟨hk,hg,fun b hb=>hB b hb (hr b hb),h⟩;exact .inr (.inl h);exact .inr (.inr h)
theorem Zsj{o:DOp}(h:Zk ρ o.guard=sO false):YW o ρ=[]:=by
 obtain⟨dst,gd,k⟩:=o;cases k<;>simp only[YW];simp only at h;simp[h]
theorem ZkQ{o:DOp}(h:YP o.k=false):YW o ρ=[]:=by
 obtain⟨dst,gd,k⟩:=o;cases k<;>simp only[YW];rename_i q xs;simp only at h;simp[h]
theorem ZbJ.congr{o:DOp}{ρ ρ':Env}{e:E}(h:ZbJ o ρ e)(ha:ZA ρ ρ' (ZB o)):ZbJ o ρ' e:=by
 rcases h with ⟨h1,h2⟩|⟨x,y,pl,p,k,a,b,h1,h2,h3,h4,h5⟩;exact .inl ⟨by rw[YY fun t ht=>ha t (by simp[ZB,ht])];exact h1,h2⟩;have hn:ZA ρ ρ' (ZaO [x,y]):=fun t ht=>ha t (by simp[ZB,h2,Yk,ht]);exact .inr ⟨x,y,pl,p,k,a,b,h1,h2,by rw[WO hn];exact h3,h4,h5⟩
theorem ZbJ.reads{o:DOp}{e:E}(h:ZbJ o ρ e):YW o ρ=[]:=by
 rcases h with ⟨h1,_⟩|⟨x,y,pl,p,k,a,b,_,h2,_⟩;exact Zsj h1;exact ZkQ (by rw[h2];rfl)
section
variable {P:Program}
theorem ZoA{F:Fr P}{dk:List Zh}(h:∀g ν w tmps,Zs g ν w tmps ρ L s→DO F kp dk os ρ L s):DO F kp dk os ρ L s :=
 fun j is k i hk g ν w tmps hN m=>h g ν w tmps m j is k i hk g ν w tmps hN m
theorem Zlf{g:G}{ν:Nat→Nat}{w:World}{tmps:Array Value}{ρ:Env}{L:Loc}{s:St}(m:Zs g ν w tmps ρ L s):∀{xs:List Opd} {p:Prop} {es:List E},Ya ρ true xs=sO (p,es)→p→∀x o,.loc x o∈es→∃cs,Ze L x=sO cs
 | [],p,es,h,_,x,o,hx=>by simp only[Ya,ZDV,ZD7]at h;obtain⟨_,rfl⟩:=h;simp at hx
 |y::ys,p,es,h,hp,x,o,hx=>by
  simp only[Ya]at h;split at h<;>simp only[ZDV,ZD7,reduceCtorEq]at h;rename_i p1 e1 p2 es' h1 h2;obtain⟨rfl,rfl⟩:=h;rcases List.mem_cons.1 hx with hx|hx
  ·subst hx;cases y with
   |cst d=>simp[ZE]at h1
   |tmp t =>simp only[ZE]at h1;split at h1;rename_i c' e' he;simp only[ZDV,ZD7]at h1;obtain⟨rfl,rfl⟩:=h1;exact((m.env t _ he).1 (by simpa using hp.1)).1;rename_i e' _ he;simp only[ZDV,ZD7]at h1;obtain⟨rfl,rfl⟩:=h1;exact(m.env t _ he).1;simp at h1
  exact Zlf m h2 hp.2 x o hx
theorem ZbJ.run{F:Fr P}{dk:List Zh}{o:DOp}{e:E}(hl:ZbJ o ρ e)(h:DO F kp dk os (Zw ρ o.dst e) L s):DO F kp dk (o::os) ρ L s:=by
 rcases hl with ⟨h1,e0,rfl⟩|⟨x,y,pl,p,k,a,b,h1,h2,h3,h4,rfl⟩;exact KH h1 h;exact Zd3 h1 h2 h3 h4 h
theorem ZsF{F:Fr P}{dk:List Zh}{o:DOp}{ρ ρ':Env}{L L':Loc}{e:E}(hst:ZD o ρ L s=.ok side (Zw ρ o.dst e) L s)(hs:side)(hk:YB o.k=true)(ha:ZA ρ ρ' (ZB o))(hl:∀x,Ze L' x=Ze L x∨Ze L' x=nO)(h:DO F kp dk os (Zw ρ' o.dst e) L' s):DO F kp dk (o::os) ρ' L' s:=by
 have i:∀e',Zw ρ o.dst e=Zw ρ o.dst e'→Zw ρ' o.dst e=Zw ρ' o.dst e':=fun e' h=>by
  cases hd:o.dst with
  |none=>rfl
  |some t=>simp only[hd,Zw,List.cons.injEq,ZD7,true_and,and_true]at h;rw[h]
 have hg:=YY (g:=o.guard) (fun t ht=>ha t (by simp[ZB,ht]));cases hc:Zk ρ o.guard with
 |none=>unfold ZD at hst;simp[hc]at hst
 |some c =>
  cases c;obtain⟨e',h1,-,-⟩:=ZkX hst hc hk;rw[i _ h1]at h;exact KH (by rw[hg,hc]) h;refine ZoA fun g ν w tmps m=>?_;obtain⟨e',h1,-,-,h2⟩:=Zsy (ρ':=ρ') (L':=L') hst hs hc hk ha (fun hld q xs p es n u hp x of hx=>by
   have hn:ZA ρ ρ' (ZaO xs):=fun t ht=>ha t (by simp[ZB,n,Yk,ht]);obtain⟨cs,j⟩:=Zlf m (by rw[WO hn];exact u) hp x of hx;rcases hl x with h|h;exact h;rw[h]at j;simp at j)
  rw[i _ h1]at h;exact Qg h2 hs h
end
theorem Zbo{a b:Option Nat}(h:ndd a b=true):ndd b a=true:=by
 cases a<;>cases b<;>simp only[ndd,bne_iff_ne,ne_eq]at h⊢;exact fun h'=>h h'.symm
theorem Za6{a b:Option Nat}(h:ndd a b=true){t:Nat}(ha:a=sO t):b≠sO t:=by
 subst ha;cases b with
 |none=>simp
 |some u=>simp only[ndd,bne_iff_ne]at h;intro hb;simp only[ZDV]at hb;exact h hb.symm
theorem ZiF{d:Option Nat}{l:List Nat}(h:nd d l=true){t:Nat}(ht:d=sO t):t∉l:=by
 subst ht;simpa[nd]using h
theorem Ky{e:E}{ns:List Nat}(h:nd dst ns=true):ZA ρ (Zw ρ dst e) ns:=by
 intro t ht;cases dst with
 |none=>rfl
 |some u =>have:¬u=t:=fun hu=>ZiF h rfl (hu▸ht);simp[Zw,ZM,this]
theorem Wx(ρ:Env)(dst:Option Nat)(e:E)(t:Nat):ZM (Zw ρ dst e) t=if dst=sO t then sO e else ZM ρ t:=by
 cases dst with
 |none=>simp[Zw]
 |some u=>simp[Zw,ZM]
theorem ZyS{q:Q}{es:List E}{r:Prop×E}(hq:qv L s q es=sO r)(hl:Zb3 (.q q [])=true){x o:Nat}(hx:.loc x o∈es):∃cs,Ze L x=sO cs:=by
 cases q<;>simp[Zb3]at hl
 ·match es with
  | [a] =>
   simp only[List.mem_singleton]at hx;subst hx;simp only[qv,Y6]at hq;cases h:Ze L x with
   |none=>simp[h]at hq
   |some cs=>exact⟨cs,rfl⟩
  | []=>simp at hx
  |_::_::_=>simp[qv]at hq
 match es with
 | [a] =>
  simp only[List.mem_singleton]at hx;subst hx;simp only[qv,W2]at hq;cases h:Ze L x with
  |none=>simp[h]at hq
  |some cs=>exact⟨cs,rfl⟩
 | []=>simp at hx
 |_::_::_=>simp[qv]at hq
theorem ZhA{o:DOp}{ρ ρ':Env}{L L':Loc}{s s1:St}{ρ1:Env}{L1:Loc}(hst:ZD o ρ L s=.ok side ρ1 L1 s1)(hk:YB o.k=true)(ha:ZA ρ ρ' (ZB o))(hl:L'=L∨Zk ρ o.guard=sO true∧∀x,.loc x∈YW o ρ→Ze L' x=Ze L x):∃e,ρ1=Zw ρ o.dst e∧L1=L∧s1=s∧ZD o ρ' L' s=.ok side (Zw ρ' o.dst e) L' s:=by
 obtain⟨dst,gd,k⟩:=o;have hg:=YY (g:=gd) (fun t ht=>ha t (by simp[ZB,ht]));have hn:ZA ρ ρ' (Yk k):=fun t ht=>ha t (by simp[ZB,ht]);unfold ZD at hst⊢;simp only[hg]at hst⊢;cases hc:Zk ρ gd with
 |none=>simp[hc]at hst
 |some c =>
 simp only[hc]at hst⊢;cases k with
 |q q xs =>
  simp only at hst⊢;rw[WO hn];split at hst<;>(try(simp at hst;done));rename_i p es i;try simp only[i]
  split at hst<;>(try(simp at hst;done));rename_i sd e hq;have af:qv L' s q es=qv L s q es:=ZrF fun ae x of hx=>by
   rcases hl with rfl|⟨ab,hl⟩;rfl;obtain rfl:c=true:=by simpa[hc]using ab
   refine hl x ?_;have ad:YP (.q q xs)=true:=by cases q<;>simp_all[Zb3,YP]
   have j:es=[.loc x of]:=by
    have u:∃r,qv L s q es=sO r:=⟨_,hq⟩;cases q<;>simp[Zb3]at ae
    ·match es with
     | [a]=>simp only[List.mem_singleton]at hx;rw[hx]
     | []=>simp at hx
     |_::_::_=>simp[qv]at u
    match es with
    | [a]=>simp only[List.mem_singleton]at hx;rw[hx]
    | []=>simp at hx
    |_::_::_=>simp[qv]at u
   subst j;simp only[YW,ad,if_true,hc,i,KB,List.mem_singleton]
  simp only[af,hq];split at hst<;>(simp only[SR.ok.injEq]at hst;obtain⟨rfl,rfl,rfl,rfl⟩:=hst);exact⟨e,rfl,rfl,rfl,rfl⟩;exact⟨_,rfl,rfl,rfl,rfl⟩
 |pick x a b =>
  simp only at hst⊢;rw[ZkO hn];split at hst<;>(try(simp at hst;done));rename_i p v hp;try simp only[hp]
  split at hst<;>(simp only[SR.ok.injEq]at hst;obtain⟨rfl,rfl,rfl,rfl⟩:=hst);exact⟨_,rfl,rfl,rfl,rfl⟩;exact⟨_,rfl,rfl,rfl,rfl⟩
 |bsl len n z is xs =>
  simp only at hst⊢;rw[WO hn];split at hst<;>(try(simp at hst;done));rename_i p es i;try simp only[i]
  split at hst<;>(try(simp at hst;done));rename_i ds ac;try simp only[ac]
  split at hst<;>(simp only[SR.ok.injEq]at hst;obtain⟨rfl,rfl,rfl,rfl⟩:=hst);exact⟨_,rfl,rfl,rfl,rfl⟩;exact⟨_,rfl,rfl,rfl,rfl⟩
 |s2b x =>
  simp only at hst⊢;rw[ZR hn];split at hst<;>(try(simp at hst;done));rename_i p l hl;try simp only[hl]
  split at hst<;>(simp only[SR.ok.injEq]at hst;obtain⟨rfl,rfl,rfl,rfl⟩:=hst);exact⟨_,rfl,rfl,rfl,rfl⟩;exact⟨_,rfl,rfl,rfl,rfl⟩
 |_=>simp[YB]at hk
theorem WM.mono{o:DOp}{ρ ρ1:Env}{L L1:Loc}{B:List (Nat×Rd)}(h:WM o ρ L s B)(ha:ZA ρ ρ1 (ZB o))(hd:∀t,o.dst=sO t→ZM ρ1 t=ZM ρ t)(hl:∀x,.loc x∈YW o ρ→Ze L1 x=Ze L x)(hal:∀t,Zak o t→Ze L1 t=Ze L t):WM o ρ1 L1 s B:=by
 rcases h with ⟨hk,i,j,side,e,hs,n,he⟩|⟨hk,e,hz,he⟩|⟨t,z,rfl,h1,h2⟩;left;obtain⟨e',h1,-,-,h2⟩:=ZhA n hk ha (.inr ⟨i,hl⟩);refine⟨hk,by rw[YY fun t ht=>ha t (by simp[ZB,ht])];exact i,by rw[ZiX ha];exact j,side,e',hs,h2,fun t ht=>?_⟩;rw[hd t ht,he t ht];rw[ht]at h1;simp only[Zw,List.cons.injEq,ZD7,true_and,and_true]at h1;rw[h1];exact .inr (.inl ⟨hk,e,hz.congr ha,fun t ht=>by rw[hd t ht,he t ht]⟩);right;right;exact⟨t,z,rfl,by rw[hd t rfl];exact h1,by rw[hal t ⟨rfl,z,rfl⟩];exact h2⟩
theorem ZbQ{o:DOp}{x:Nat}(h:Zak o x):YB o.k=false:=by
 obtain⟨_,z,hz⟩:=h;rw[hz];rfl
section
variable {P:Program}
theorem ZoL{F:Fr P}{dk:List Zh}{T:Tab}{ms:List Nat}{A rest:List Nat}{l:Nat→Bool}{ρ':Env}{L':Loc}{B:List (Nat×Rd)}{p:Nat}(hm:Zh5 T ms)(inv:Inv T ms A rest ρ L s B l ρ' L')(hA:p∈A)(hdis:p∉rest)(hl:l p=false)(hdeps:∀d∈T.deps p,l d=true)(h:∀ρ2 L2,Inv T ms A rest ρ L s B (fun j=>j==p ||l j) ρ2 L2→DO F kp dk os ρ2 L2 s):DO F kp dk (T.op p::os) ρ' L' s:=by
 have ap:=inv.alt p hA;have ai:=hm l inv.closed p ap hdeps;have am:ZA ρ ρ' (ZB (T.op p)):=by intro t ht;rcases inv.env t with h|⟨a,ha,n,ad⟩;exact h;exfalso;rcases inv.pair p hA a ha with hb|hb;rw[ai a hb]at n;simp at n;exact ZiF hb ad ht
 have al:∀x,Ze L' x=Ze L x∨Ze L' x=nO:=fun x=>by rcases inv.loc x with h|⟨a,ha,n,hx⟩;exact .inl h;exact .inr (inv.loc0 a ha n x hx)
 have ac:∀i,i<T.length→(i==p ||l i)=true→∀d∈T.deps i,(d==p ||l d)=true:=fun i hi hli d hd=>by simp only[ZEk,beq_iff_eq]at hli⊢;rcases hli with rfl|hli;exact .inr (hdeps d hd);exact .inr (inv.closed i hi hli d hd)
 have af:∀r∈rest,(r==p ||l r)=false:=fun r hr=>by simp only[Bool.or_eq_false_iff,beq_eq_false_iff_ne];exact⟨fun h=>hdis (h▸hr),inv.restN r hr⟩
 have ag:∀i,i<T.length→i∉rest→i∉A→(i==p ||l i)=true:=fun i hi h1 h2=>by simp[inv.doneN i hi h1 h2]
 have ah:∀a,(a==p ||l a)=false→a≠p∧l a=false:=fun a ha=>by simpa using ha
 have ae:∀a,a≠p→l a=false→(a==p ||l a)=false:=fun a ha h=>by simp[ha,h]
 rcases inv.pend p hA hl with ⟨hk,hgt,hrd,side,e,hs,ao,he⟩|⟨hk,e,hz,he⟩|⟨t,z,ho,h1,h2⟩
 rotate_left
 refine(hz.congr am).run ?_;refine h _ _ ?_;refine⟨ac,af,ag,inv.alt,inv.pair,inv.uniq,fun t=>?_,fun a ha n x hx=>inv.loc0 a ha (ah a n).2 x hx,fun x=>?_,fun a ha n=>inv.pend a ha (ah a n).2⟩;rw[Wx];by_cases hd:(T.op p).dst=sO t;rw[if_pos hd];exact .inl (he t hd).symm;rw[if_neg hd];rcases inv.env t with h|⟨a,ha,n,ad⟩;exact .inl h;exact .inr ⟨a,ha,ae a (fun ab=>hd (ab▸ad)) n,ad⟩;rcases inv.loc x with h|⟨a,ha,n,hx⟩;exact .inl h;refine .inr ⟨a,ha,ae a (fun ab=>?_) n,hx⟩;have:=ZbQ hx;rw[ab,hk]at this;simp at this
 rotate_left
 refine ZsF ao hs hk am al (h _ _ ?_);refine⟨ac,af,ag,inv.alt,inv.pair,inv.uniq,fun t=>?_,fun a ha n x hx=>inv.loc0 a ha (ah a n).2 x hx,fun x=>?_,fun a ha n=>inv.pend a ha (ah a n).2⟩;rw[Wx];by_cases hd:(T.op p).dst=sO t;rw[if_pos hd];exact .inl (he t hd).symm;rw[if_neg hd];rcases inv.env t with h|⟨a,ha,n,ad⟩;exact .inl h;exact .inr ⟨a,ha,ae a (fun ab=>hd (ab▸ad)) n,ad⟩;rcases inv.loc x with h|⟨a,ha,n,hx⟩;exact .inl h;refine .inr ⟨a,ha,ae a (fun ab=>?_) n,hx⟩;have:=ZbQ hx;rw[ab,hk]at this;simp at this;have ar:Zak (T.op p) t:=⟨by rw[ho],z,by rw[ho]⟩;have ak:=inv.loc0 p hA hl t ar;refine Zp7 (o:=T.op p) (t:=t) (by rw[ho]) (by rw[ho]) (z:=z) (by rw[ho]) (by simp[J4,ak]) (h _ _ ?_);have aj:(T.op p).dst=sO t:=by rw[ho]
 refine⟨ac,af,ag,inv.alt,inv.pair,inv.uniq,fun u=>?_,fun a ha n x hx=>?_,fun x=>?_,fun a ha n=>inv.pend a ha (ah a n).2⟩;simp only[ZM];by_cases hd:t=u;subst hd;simp[h1];simp only[hd,if_false];rcases inv.env u with h|⟨a,ha,n,ad⟩;exact .inl h;exact .inr ⟨a,ha,ae a (fun ab=>hd (by rw[ab,aj]at ad;simpa using ad)) n,ad⟩;obtain⟨ab,n⟩:=ah a n;have:¬t=x:=fun aq=>Za6 (inv.uniq p hA a ha ab.symm) aj (aq▸hx.1);simp only[Ze,this,if_false];exact inv.loc0 a ha n x hx;simp only[Ze];by_cases hd:t=x;subst hd;simp[h2];simp only[hd,if_false];rcases inv.loc x with h|⟨a,ha,n,hx⟩;exact .inl h;exact .inr ⟨a,ha,ae a (fun ab=>hd (by have:=hx.1;rw[ab,aj]at this;simpa using this)) n,hx⟩
theorem Zuz{F:Fr P}{dk:List Zh}{T:Tab}{ms:List Nat}{A rest:List Nat}{B:List (Nat×Rd)}{i:Nat}(hm:Zh5 T ms)(hi:i<T.length)(hdis:∀p∈A,p∉i::rest)(hready:∀r∈rest,∃d∈T.deps r,d∈i::rest)(cb:∀l ρ' L' is,Inv T ms A (i::rest) ρ L s B l ρ' L'→(∀d∈T.deps i,l d=true)→Sch T (fun j=>j==i ||l j) is→DO F kp dk (T.op i::is.map T.op) ρ' L' s){l:Nat→Bool}{is:List Nat}(sch:Sch T l is):∀{ρ':Env} {L':Loc},Inv T ms A (i::rest) ρ L s B l ρ' L'→DO F kp dk (is.map T.op) ρ' L' s:=by
 induction sch with
 |nil h=>intro ρ' L' inv;have:=inv.restN i (by simp);rw[h i hi]at this;simp at this
 | @cons l p is hp hlp hd t ih =>intro ρ' L' inv;by_cases u:p=i;subst u;exact cb l ρ' L' is inv hd t;by_cases z:p∈rest;obtain⟨d,ab,ac⟩:=hready p z;have:=inv.restN d ac;rw[hd d ab]at this;simp at this;by_cases n:p∈A;exact ZoL hm inv n (hdis p n) hlp hd fun ρ2 L2 inv2=>ih inv2;have:=inv.doneN p hp (by simp[u,z]) n;rw[hlp]at this;simp at this
theorem ZkZ{L L':Loc}(h:∀x,Ze L' x=Ze L x):∀ls,Zag L' ls=Zag L ls
 | []=>rfl
 |l::ls=>by simp only[Zag,h l,ZkZ h ls]
theorem ZkH{ρ ρ':Env}(h:∀x,ZM ρ' x=ZM ρ x):∀ks,Yj ρ' ks=Yj ρ ks
 | []=>rfl
 |k::ks=>by simp only[Yj,h k,ZkH h ks]
theorem Zwa{F:Fr P}{ks:List Nat}{dk:List Zh}{T:Tab}{ms:List Nat}{A:List Nat}{B:List (Nat×Rd)}(hm:Zh5 T ms)(h:Zv F dk (Yj ρ ks) (ZaJ (Yj ρ ks) L) s){l:Nat→Bool}{is:List Nat}(sch:Sch T l is):∀{ρ':Env} {L':Loc},Inv T ms A [] ρ L s B l ρ' L'→DO F (sO ks) dk (is.map T.op) ρ' L' s:=by
 induction sch with
 |nil hall =>
  intro ρ' L' inv;have h1:∀t,ZM ρ' t=ZM ρ t:=fun t=>by rcases inv.env t with h|⟨a,ha,i,_⟩;exact h;rw[hall a (inv.alt a ha)]at i;simp at i
  have h2:∀t,Ze L' t=Ze L t:=fun t=>by rcases inv.loc t with h|⟨a,ha,i,_⟩;exact h;rw[hall a (inv.alt a ha)]at i;simp at i
  refine Zec ?_;show Zv F dk (Yj ρ' ks) (ZaJ (Yj ρ' ks) L') s;rw[ZkH h1];simp only[ZaJ,ZkZ h2];exact h
 | @cons l p is hp hlp hd t ih =>intro ρ' L' inv;by_cases j:p∈A;exact ZoL hm inv j (by simp) hlp hd fun ρ2 L2 inv2=>ih inv2;have:=inv.doneN p hp (by simp) j;rw[hlp]at this;simp at this
def DOA(F:Fr P)(kp:Option (List Nat))(dk:List Zh)(os:List (DOp×List Nat))(ρ:Env)(L:Loc)(s:St)(B:List (Nat×Rd)):Prop :=
 ∀(T:Tab) ms fl (fk:Option Nat) A rest is l ρ' L',Zh5 T ms→Zc8 T ms fl fk A rest=true→(∀p∈A,p∉rest)→os=rest.map (fun i=>(T.mk fk i,fl i))→Inv T ms A rest ρ L s B l ρ' L'→Sch T l is→DO F kp dk (is.map T.op) ρ' L' s
theorem ZnD{F:Fr P}{ks:List Nat}{dk:List Zh}{B:List (Nat×Rd)}(h:Zv F dk (Yj ρ ks) (ZaJ (Yj ρ ks) L) s):DOA F (sO ks) dk [] ρ L s B:=by
 intro T ms fl fk A rest is l ρ' L' hm hc hdis i inv j;have hr:rest=[]:=by cases rest<;>simp at i⊢
 subst hr;exact Zwa hm h j inv
theorem ZkY{o:DOp}{s s1:St}{ρ1:Env}{L1:Loc}(hst:ZD o ρ L s=.ok side ρ1 L1 s1)(hk:YB o.k=true):∃e,ρ1=Zw ρ o.dst e∧L1=L∧s1=s:=by
 obtain⟨e,h1,h2,h3,_⟩:=ZhA (ρ':=ρ) (L':=L) hst hk (fun _ _=>rfl) (.inl rfl);exact⟨e,h1,h2,h3⟩
theorem Zsx{o:DOp}{s s1:St}{ρ1:Env}{L1:Loc}{z:List D}(hst:ZD o ρ L s=.ok side ρ1 L1 s1)(hk:o.k=.alloc z):∃t,o=⟨sO t,nO,.alloc z⟩∧side=(J4 L t=false)∧ρ1=(t,.loc t 0)::ρ∧L1=(t,z)::L∧s1=s:=by
 obtain⟨dst,gd,k⟩:=o;simp only at hk;subst hk;unfold ZD at hst;cases hg:Zk ρ gd with
 |none=>simp[hg]at hst
 |some c =>simp only[hg]at hst;split at hst<;>simp only[SR.ok.injEq,reduceCtorEq]at hst;rename_i t;obtain⟨rfl,rfl,rfl,rfl⟩:=hst;exact⟨t,rfl,rfl,rfl,rfl,rfl⟩
theorem Zn5{T:Tab}{fk:Option Nat}{i:Nat}{o:DOp}(h:T.mk fk i=o)(hk:∀k,o.k≠.fork k):fk≠sO i∧T.op i=o:=by
 unfold Tab.mk at h;split at h;subst h;exact absurd rfl (hk _);exact⟨‹_›,h⟩
theorem Zlj{T:Tab}{ms:List Nat}{fl:Nat→List Nat}{A rest:List Nat}{fk:Option Nat}{i:Nat}(hfk:fk≠sO i)(h:Zc8 T ms fl fk A (i::rest)=true):
  i<T.length∧(∀d∈T.deps i,d∉i::rest)∧i∉rest∧(∀a∈A,(ms.getD i 0).testBit a=true∨nd (T.op a).dst (ZB (T.op i))=true) ∧
  ((Zcu T A i=true∧Zc8 T ms fl fk (i::A) rest=true) ∨
   (Zif T (fl i) (A.filter fun a=>!(ms.getD i 0).testBit a) rest i=true∧Zc8 T ms fl fk (A.filter fun a=>!(ms.getD i 0).testBit a) rest=true∧Zcu T A i=false)):=by
 simp only[Zc8,hfk,if_false,ZD5,decide_eq_true_eq,List.all_eq_true,Bool.not_eq_true',List.contains_eq_mem,decide_eq_false_iff_not]at h;obtain⟨⟨⟨⟨h1,h2⟩,h3⟩,h4⟩,h5⟩:=h;refine⟨h1,h2,h3,fun a ha=>?_,?_⟩;cases hb:(ms.getD i 0).testBit a;exact .inr (h4 a (List.mem_filter.2 ⟨ha,by simp only[hb];rfl⟩));exact .inl rfl;split at h5;rename_i hp;exact .inl ⟨hp,h5⟩;rename_i hp;simp only[ZD5]at h5;exact .inr ⟨by simpa using h5.1,h5.2,by simpa using hp⟩
theorem ZfI{T:Tab}{fl:List Nat}{free rest:List Nat}{i:Nat}(h:Zif T fl free rest i=true):
  ZtI (T.op i).k=true∧(∀r∈rest,∃d∈T.deps r,d∈i::rest) ∧
  ∀a∈free,nd (T.op i).dst (ZB (T.op a))=true∧ndd (T.op i).dst (T.op a).dst=true∧(J6 (Zbv (T.op a)) fl=false→YP (T.op a).k=false):=by
 simp only[Zif,ZD5,List.all_eq_true,List.any_eq_true,List.contains_eq_mem,decide_eq_true_eq,Bool.not_eq_true',ZEk]at h;obtain⟨⟨h1,h2⟩,h3⟩:=h;refine⟨h1,h2,fun a ha=>?_⟩;obtain⟨⟨h4,h5⟩,h6⟩:=h3 a ha;refine⟨h4,h5,fun hs=>?_⟩;rw[hs]at h6;simpa using h6
theorem Zel{T:Tab}{A:List Nat}{i:Nat}(h:Zcu T A i=true):
  YU (T.op i).k=true∧nd (T.op i).dst (ZB (T.op i))=true∧∀a∈A,nd (T.op i).dst (ZB (T.op a))=true∧ndd (T.op i).dst (T.op a).dst=true:=by
 simp only[Zcu,ZD5,List.all_eq_true]at h;exact⟨by cases hk:(T.op i).k<;>rw[hk]at h<;>simp[pqK]at h<;>rfl,h.1.2,h.2⟩
theorem Inv.bar{T:Tab}{ms A rest:List Nat}{s s2:St}{B B2:List (Nat×Rd)}{l:Nat→Bool}{ρ':Env}{L':Loc}{i:Nat}(hm:Zh5 T ms)(inv:Inv T ms A (i::rest) ρ L s B l ρ' L')(hdis:∀p∈A,p∉i::rest)(hi:i<T.length)(hir:i∉rest)(hd:∀d∈T.deps i,l d=true)(hf:∀a∈A.filter (fun a=>!(ms.getD i 0).testBit a),nd (T.op i).dst (ZB (T.op a))=true∧ndd (T.op i).dst (T.op a).dst=true)(e:E){L2 L2':Loc}(hL:∀x,Ze L' x=Ze L x→Ze L2' x=Ze L2 x)(h0:∀x,(∀a,ndd (T.op i).dst (T.op a).dst=true→Zak (T.op a) x→Ze L' x=nO→Ze L2' x=nO))(hp:∀a∈A.filter (fun a=>!(ms.getD i 0).testBit a),l a=false→WM (T.op a) ρ L s B→WM (T.op a) (Zw ρ (T.op i).dst e) L2 s2 B2):
  Inv T ms (A.filter fun a=>!(ms.getD i 0).testBit a) rest (Zw ρ (T.op i).dst e) L2 s2 B2 (fun j=>j==i ||l j) (Zw ρ' (T.op i).dst e) L2':=by
 have ab:=hm l inv.closed i hi hd;have z:∀a∈A,l a=false→a∈A.filter fun a=>!(ms.getD i 0).testBit a:=fun a ha n=>by refine List.mem_filter.2 ⟨ha,?_⟩;cases hb:(ms.getD i 0).testBit a;rfl;rw[ab a hb]at n;simp at n
 have u:∀a∈A.filter (fun a=>!(ms.getD i 0).testBit a),a∈A:=fun a ha=>(List.mem_filter.1 ha).1;have ae:∀a,(a==i ||l a)=false→a≠i∧l a=false:=fun a ha=>by simpa using ha
 have ac:∀a∈A,l a=false→(a==i ||l a)=false:=fun a ha h=>by have:a≠i:=fun ai=>hdis a ha (by simp[ai]);simp[this,h]
 refine⟨fun j hj hlj d ag=>?_,fun r hr=>?_,fun j hj h1 h2=>?_,fun a ha=>inv.alt a (u a ha),fun p ad a ha=>inv.pair p (u p ad) a (u a ha),fun p ad a ha=>inv.uniq p (u p ad) a (u a ha),fun t=>?_,fun a ha n x hx=>?_,
  fun x=>?_,fun a ha n=>hp a ha (ae a n).2 (inv.pend a (u a ha) (ae a n).2)⟩
 simp only[ZEk,beq_iff_eq]at hlj⊢;rcases hlj with rfl|hlj;exact .inr (hd d ag);exact .inr (inv.closed j hj hlj d ag);simp only[Bool.or_eq_false_iff,beq_eq_false_iff_ne];exact⟨fun h=>hir (h▸hr),inv.restN r (by simp[hr])⟩;by_cases ah:j=i;simp[ah];by_cases af:j∈A;cases hlj:l j;exact absurd (z j af hlj) h2;simp;simp[inv.doneN j hj (by simp[ah,h1]) af];rw[Wx,Wx];by_cases ht:(T.op i).dst=sO t;simp[ht];simp only[ht,if_false];rcases inv.env t with h|⟨a,ha,n,aj⟩;exact .inl h;exact .inr ⟨a,z a ha n,ac a ha n,aj⟩;exact h0 x a (hf a ha).2 hx (inv.loc0 a (u a ha) (ae a n).2 x hx);rcases inv.loc x with h|⟨a,ha,n,hx⟩;exact .inl (hL x h);exact .inr ⟨a,z a ha n,ac a ha n,hx⟩
theorem WM.keep{o:DOp}{L L2:Loc}{s s2:St}{B:List (Nat×Rd)}{fl:List Nat}(h:WM o ρ L s B)(hk:Y0 fl s s2 L L2 B)(hf:J6 (Zbv o) fl=false→YP o.k=false)(hal:∀t,Zak o t→Ze L2 t=Ze L t):WM o ρ L2 s2 (YO fl B):=by
 cases j:J6 (Zbv o) fl;have hr:=ZkQ (ρ:=ρ) (hf j);exact((h.state (s':=s2) (fun b hb=>by rw[hr]at hb;simp at hb)).more (fun b hb=>by rw[hr]at hb;simp at hb)).mono (fun _ _=>rfl) (fun _ _=>rfl) (fun x hx=>by rw[hr]at hx;simp at hx) hal;have hm:=Zhe (show KA s s2 L L2 (YO fl B) from hk);have i:∀b,(Zbv o,b)∈B→(Zbv o,b)∈YO fl B:=fun b hb=>Qe.2 ⟨j,hb⟩;rcases h with ⟨hq,hg,hr,h'⟩|⟨hq,hg,h'⟩|h';exact((WM.state (s':=s2) (.inl ⟨hq,hg,hr,h'⟩) (fun b hb=>hm.1 _ b (i _ (hr _ hb)))).more (B':=YO fl B) (fun b _ hb=>i b hb)).mono (fun _ _=>rfl) (fun _ _=>rfl) (fun x hx=>hm.2 _ x (i _ (hr _ hx))) hal;exact .inr (.inl ⟨hq,hg,h'⟩);exact(WM.more (B':=YO fl B) (s:=s2) (.inr (.inr h'):WM o ρ L s2 B) (fun b _ hb=>i b hb)).mono (fun _ _=>rfl) (fun _ _=>rfl) (fun x hx=>by
  obtain⟨t,z,rfl,_⟩:=h';simp[YW]at hx) hal
theorem ZzW{q:Q}{es:List E}{r:Prop×E}(hq:qv L s q es=sO r){e:E}{es':List E}(he:es=e::es')(hr:YP (.q q [])=true){x:Nat}(hx:.loc x∈KB e):∃cs,Ze L x=sO cs:=by
 subst he;cases e with
 |d v=>cases v<;>simp[KB]at hx
 |when c e=>simp[KB]at hx
 |loc l o =>
  simp only[KB,List.mem_singleton,Rd.loc.injEq]at hx;subst hx;by_cases hl:Zb3 (.q q [])=true;exact ZyS hq hl (x:=x) (o:=o) (by simp);cases q;case conv c =>cases c<;>simp[YP]at hr;cases es'<;>simp[qv]at hq
  all_goals simp[YP,Zb3]at hr hl
  ·cases es' with
   |nil=>simp[qv]at hq
   |cons e2 r2=>cases r2<;>simp[qv]at hq
  cases es'<;>simp[qv]at hq
theorem WM.loc{o:DOp}{B:List (Nat×Rd)}(h:WM o ρ L s B){x:Nat}(hx:.loc x∈YW o ρ):∃cs,Ze L x=sO cs:=by
 rcases h with ⟨hk,j,hr,side,e,hs,i,he⟩|⟨hk,_,n,_⟩|⟨t,z,rfl,_⟩
 rotate_left
 rw[n.reads]at hx;simp at hx
 rotate_left
 ·obtain⟨dst,gd,k⟩:=o;cases k with
  |q q xs =>
   simp only[YW]at hx;split at hx<;>(try(simp at hx;done));rename_i hrd;unfold ZD at i;have hg:Zk ρ gd=sO true:=j;simp only[hg]at hx i;cases ha:Ya ρ true xs with
   |none=>simp[ha]at hx
   |some pe =>
    obtain⟨p,es⟩:=pe;simp only[ha]at hx i;cases es with
    |nil=>simp at hx
    |cons e1 es' =>
     simp only at hx;split at i<;>(try(simp at i;done));rename_i sd e2 hq;exact ZzW hq rfl (by
      cases q;case conv c=>cases c<;>simp_all[YP]
      all_goals simp_all[YP]) hx
  |_=>simp[YW]at hx
 simp[YW]at hx
theorem Zcq{F:Fr P}{dk:List Zh}{o:DOp}{f:List Nat}{os:List (DOp×List Nat)}{B:List (Nat×Rd)}(R:E→St→Prop)(hk:YU o.k=false)(h1:∀ρ' L' os',ZA ρ ρ' (ZB o)→(∀e s2,R e s2→DO F kp dk os' (Zw ρ' o.dst e) L' s2)→DO F kp dk (o::os') ρ' L' s)(h2:∀e s2,R e s2→Y0 f s s2 L L B∧DOA F kp dk os (Zw ρ o.dst e) L s2 (YO f B)):
  DOA F kp dk ((o,f)::os) ρ L s B:=by
 intro T ms fl fk A rest is l ρ' L' hm hc u ad inv ab;cases rest with
 |nil=>simp at ad
 |cons i rest =>
  simp only[ZEc,List.cons.injEq,ZD7]at ad;obtain⟨⟨ho,rfl⟩,rfl⟩:=ad;obtain⟨af,rfl⟩:=Zn5 ho.symm (fun k h=>by rw[h]at hk;simp[YU]at hk);obtain⟨hi,hdeps,ao,ag,ai⟩:=Zlj af hc;rcases ai with ⟨hp,_⟩|⟨hb,aj,_⟩;have:=(Zel hp).1;rw[hk]at this;simp at this;obtain⟨hbk,z,j⟩:=ZfI hb;refine Zuz hm hi u z (fun l ρ' L' is inv hd ab=>?_) ab inv;have n:=hm l inv.closed i hi hd;have am:ZA ρ ρ' (ZB (T.op i)):=by intro t ht;rcases inv.env t with h|⟨a,ha,ac,ak⟩;exact h;exfalso;rcases ag a ha with hb|hb;rw[n a hb]at ac;simp at ac;exact ZiF hb ak ht
  refine h1 ρ' L' _ am fun e s2 hR=>?_;obtain⟨ah,al⟩:=h2 e s2 hR;refine al T ms fl fk _ rest is _ _ _ hm aj (fun p hp ae=>u p (List.mem_filter.1 hp).1 (by simp[ae])) rfl (inv.bar hm u hi ao hd (fun a ha=>⟨(j a ha).1,(j a ha).2.1⟩) e (fun _ h=>h) (fun _ _ _ _ h=>h) fun a ha ac ap=>?_) ab;refine(ap.keep ah (j a ha).2.2 (fun _ _=>rfl)).mono (Ky (j a ha).1) (fun t ht=>?_) (fun _ _=>rfl) (fun _ _=>rfl);rw[Wx];have:=Za6 (Zbo (j a ha).2.1) ht;simp[this]
end
theorem Zjs{s s1:St}{p q ok side:Prop}{a:E}{n:Nat}{xs:List D}{ρ1:Env}{L1:Loc}(h:KF ρ L s p q ok a n xs=.ok side ρ1 L1 s1):
  ρ1=ρ∧((∃l off cs,a=.loc l off∧L1=(l,Zt cs off xs)::L∧s1=s∧Ze L l=sO cs∧∀ρ' L',Ze L' l=Ze L l→KF ρ' L' s p q ok a n xs=.ok side ρ' ((l,Zt cs off xs)::L') s) ∨
   (L1=L∧∀ρ' L',KF ρ' L' s p q ok a n xs=.ok side ρ' L' s1)):=by
 obtain⟨rfl,⟨l,off,cs,rfl,hL,rfl,rfl,rfl⟩|⟨b,off,cs,rfl,hL,rfl,rfl,rfl⟩⟩:=Zfv h;exact⟨rfl,.inl ⟨l,off,cs,rfl,rfl,rfl,hL,fun ρ' L' hl=>by simp only[KF,hl,hL]⟩⟩;exact⟨rfl,.inr ⟨rfl,fun ρ' L'=>by simp only[KF,hL]⟩⟩
theorem ZsA{o:DOp}{s s1:St}{ρ1:Env}{L1:Loc}(hst:ZD o ρ L s=.ok side ρ1 L1 s1)(hk:Zds o.k=true):
  ρ1=ρ∧o.dst=nO∧((∃lx cs new,L1=(lx,new)::L∧s1=s∧Ze L lx=sO cs ∧
   ∀ρ' L',ZA ρ ρ' (ZB o)→Ze L' lx=Ze L lx→ZD o ρ' L' s=.ok side ρ' ((lx,new)::L') s) ∨
   (L1=L∧∀ρ' L',ZA ρ ρ' (ZB o)→ZD o ρ' L' s=.ok side ρ' L' s1)):=by
 obtain⟨dst,gd,k⟩:=o;cases hg:Zk ρ gd with
 |none=>unfold ZD at hst;simp[hg]at hst
 |some c =>
 cases k with
 |store1 a v =>unfold ZD at hst;simp only[hg]at hst;split at hst<;>(try(simp at hst;done));rename_i p ea q x ha hv;obtain⟨rfl,⟨l,off,cs,rfl,rfl,rfl,hL,i⟩|⟨rfl,i⟩⟩:=Zjs hst;refine⟨rfl,rfl,.inl ⟨l,cs,_,rfl,rfl,hL,fun ρ' L' j hl=>?_⟩⟩;have h1:ZA ρ1 ρ' (ZS a):=fun t ht=>j t (by simp[ZB,Yk,ht]);have h2:ZA ρ1 ρ' (ZS v):=fun t ht=>j t (by simp[ZB,Yk,ht]);unfold ZD;simp only[Zk,ZR h1,ZR h2,ha,hv];exact i ρ' L' hl;refine⟨rfl,rfl,.inr ⟨rfl,fun ρ' L' j=>?_⟩⟩;have h1:ZA ρ1 ρ' (ZS a):=fun t ht=>j t (by simp[ZB,Yk,ht]);have h2:ZA ρ1 ρ' (ZS v):=fun t ht=>j t (by simp[ZB,Yk,ht]);unfold ZD;simp only[Zk,ZR h1,ZR h2,ha,hv];exact i ρ' L'
 |storeN n a v =>unfold ZD at hst;simp only[hg]at hst;split at hst<;>(try(simp at hst;done));rename_i p ea q xs ha hv;obtain⟨rfl,⟨l,off,cs,rfl,rfl,rfl,hL,i⟩|⟨rfl,i⟩⟩:=Zjs hst;refine⟨rfl,rfl,.inl ⟨l,cs,_,rfl,rfl,hL,fun ρ' L' j hl=>?_⟩⟩;have h1:ZA ρ1 ρ' (ZS a):=fun t ht=>j t (by simp[ZB,Yk,ht]);have h2:ZA ρ1 ρ' (ZS v):=fun t ht=>j t (by simp[ZB,Yk,ht]);unfold ZD;simp only[Zk,ZR h1,ZR h2,ha,hv];exact i ρ' L' hl;refine⟨rfl,rfl,.inr ⟨rfl,fun ρ' L' j=>?_⟩⟩;have h1:ZA ρ1 ρ' (ZS a):=fun t ht=>j t (by simp[ZB,Yk,ht]);have h2:ZA ρ1 ρ' (ZS v):=fun t ht=>j t (by simp[ZB,Yk,ht]);unfold ZD;simp only[Zk,ZR h1,ZR h2,ha,hv];exact i ρ' L'
 |_=>simp[Zds]at hk
def Zri:K→Bool
 |.mapupd _ _ _ _|.delete _ _ _|.entst _ _ _=>true
 |_=>false
theorem Zwp{o:DOp}{s s1:St}{ρ1:Env}{L1:Loc}(hst:ZD o ρ L s=.ok side ρ1 L1 s1)(hk:Zri o.k=true):
  ρ1=ρ∧o.dst=nO∧L1=L∧∀ρ' L',ZA ρ ρ' (ZB o)→ZD o ρ' L' s=.ok side ρ' L' s1:=by
 obtain⟨dst,gd,k⟩:=o;cases hg:Zk ρ gd with
 |none=>unfold ZD at hst;simp[hg]at hst
 |some c =>
 cases k with
 |mapupd kp m k v =>unfold ZD at hst;simp only[hg]at hst;split at hst<;>(try(simp at hst;done));rename_i p b q dk r dv hm u hv;split at hst<;>(try(simp at hst;done));rename_i es z;split at hst<;>simp only[SR.ok.injEq,reduceCtorEq]at hst;rename_i ab j;obtain⟨rfl,rfl,rfl,rfl⟩:=hst;refine⟨rfl,rfl,rfl,fun ρ' L' i=>?_⟩;have h1:ZA ρ ρ' (ZS m):=fun t ht=>i t (by simp[ZB,Yk,ht]);have h2:ZA ρ ρ' (ZS k):=fun t ht=>i t (by simp[ZB,Yk,ht]);have h3:ZA ρ ρ' (ZS v):=fun t ht=>i t (by simp[ZB,Yk,ht]);unfold ZD;simp only[Zk,ZR h1,ZR h2,ZR h3,hm,u,hv,z,j]
 |delete kp m k =>unfold ZD at hst;simp only[hg]at hst;split at hst<;>(try(simp at hst;done));rename_i p b q dk hm u;split at hst<;>(try(simp at hst;done));rename_i es z;split at hst<;>simp only[SR.ok.injEq,reduceCtorEq]at hst;rename_i ab j;obtain⟨rfl,rfl,rfl,rfl⟩:=hst;refine⟨rfl,rfl,rfl,fun ρ' L' i=>?_⟩;have h1:ZA ρ ρ' (ZS m):=fun t ht=>i t (by simp[ZB,Yk,ht]);have h2:ZA ρ ρ' (ZS k):=fun t ht=>i t (by simp[ZB,Yk,ht]);unfold ZD;simp only[Zk,ZR h1,ZR h2,hm,u,z,j]
 |entst m k v =>unfold ZD at hst;simp only[hg]at hst;split at hst<;>(try(simp at hst;done));rename_i p b q n r dv hm u hv;split at hst<;>(try(simp at hst;done));rename_i kp es dk n' z;split at hst<;>simp only[SR.ok.injEq,reduceCtorEq]at hst;rename_i ab j;obtain⟨rfl,rfl,rfl,rfl⟩:=hst;refine⟨rfl,rfl,rfl,fun ρ' L' i=>?_⟩;have h1:ZA ρ ρ' (ZS m):=fun t ht=>i t (by simp[ZB,Yk,ht]);have h2:ZA ρ ρ' (ZS k):=fun t ht=>i t (by simp[ZB,Yk,ht]);have h3:ZA ρ ρ' (ZS v):=fun t ht=>i t (by simp[ZB,Yk,ht]);unfold ZD;simp only[Zk,ZR h1,ZR h2,ZR h3,hm,u,hv,z,j]
 |_=>simp[Zri]at hk
theorem Zwn{o:DOp}{pre:Nat→Prop}{ρf:Nat→Env}{sf:Nat→St}(hst:ZD o ρ L s=.all side pre ρf sf):
  YU o.k=false∧∃(t:Nat) (ef:Nat→E),o.dst=sO t∧(ρf=fun b=>(t,ef b)::ρ)∧∀ρ' L',ZA ρ ρ' (ZB o)→ZD o ρ' L' s=.all side pre (fun b=>(t,ef b)::ρ') sf:=by
 obtain⟨dst,gd,k⟩:=o;cases hg:Zk ρ gd with
 |none=>unfold ZD at hst;simp[hg]at hst
 |some c =>
 cases k with
 |mkmap =>unfold ZD at hst;simp only[hg]at hst;split at hst<;>simp only[SR.all.injEq,reduceCtorEq]at hst;obtain⟨rfl,rfl,rfl,rfl⟩:=hst;refine⟨rfl,_,fun b=>.d (.map b),rfl,rfl,fun ρ' L' i=>?_⟩;unfold ZD;simp only[Zk]
 |mkslice e n by_ z l c =>unfold ZD at hst;simp only[hg]at hst;split at hst<;>simp only[SR.all.injEq,reduceCtorEq]at hst;rename_i t p k1 lv q k2 hv hl hc;obtain⟨rfl,rfl,rfl,rfl⟩:=hst;refine⟨rfl,t,fun b=>.d (.msl b 0 lv.toNat hv.toNat n),rfl,rfl,fun ρ' L' i=>?_⟩;have h1:ZA ρ ρ' (ZS l):=fun t ht=>i t (by simp[ZB,Yk,ht]);have h2:ZA ρ ρ' (ZS c):=fun t ht=>i t (by simp[ZB,Yk,ht]);unfold ZD;simp only[Zk,ZR h1,ZR h2,hl,hc]
 |mapent kp z m k =>unfold ZD at hst;simp only[hg]at hst;split at hst<;>(try(simp at hst;done));rename_i t p b q dk hm j;split at hst<;>(try(simp at hst;done));rename_i es u;split at hst<;>simp only[SR.all.injEq,reduceCtorEq]at hst;rename_i v hv;obtain⟨rfl,rfl,rfl,rfl⟩:=hst;refine⟨rfl,t,fun n=>.d (.tup [v,.stamp n]),rfl,rfl,fun ρ' L' i=>?_⟩;have h1:ZA ρ ρ' (ZS m):=fun t ht=>i t (by simp[ZB,Yk,ht]);have h2:ZA ρ ρ' (ZS k):=fun t ht=>i t (by simp[ZB,Yk,ht]);unfold ZD;simp only[Zk,ZR h1,ZR h2,hm,j,u,hv]
 |store1 a v =>unfold ZD at hst;simp only[hg]at hst;split at hst<;>(try(simp at hst;done));exact absurd hst Zd1
 |storeN n a v =>unfold ZD at hst;simp only[hg]at hst;split at hst<;>(try(simp at hst;done));exact absurd hst Zd1
 |_ =>
  unfold ZD at hst;simp only[hg]at hst;first
   | (simp at hst;done)
   |repeat' (split at hst<;>(try(simp at hst;done)))
theorem ZuT{o:DOp}{s s1:St}{ρ1:Env}{L1:Loc}(hst:ZD o ρ L s=.ok side ρ1 L1 s1):YB o.k=true∨(∃z,o.k=.alloc z)∨Zds o.k=true∨(∃x,o.k=.box x)∨Zri o.k=true:=by
 obtain⟨dst,gd,k⟩:=o;unfold ZD at hst;cases hg:Zk ρ gd with
 |none=>simp[hg]at hst
 |some c =>
  simp only[hg]at hst;cases k with
  |q q xs=>exact .inl rfl
  |pick x a b=>exact .inl rfl
  |bsl len n z is xs=>exact .inl rfl
  |s2b x=>exact .inl rfl
  |alloc z=>exact .inr (.inl ⟨z,rfl⟩)
  |store1 a v=>exact .inr (.inr (.inl rfl))
  |storeN n a v=>exact .inr (.inr (.inl rfl))
  |box x=>exact .inr (.inr (.inr (.inl ⟨x,rfl⟩)))
  |mapupd kp m k v=>exact .inr (.inr (.inr (.inr rfl)))
  |delete kp m k=>exact .inr (.inr (.inr (.inr rfl)))
  |entst m k v=>exact .inr (.inr (.inr (.inr rfl)))
  |mkmap=>simp only at hst;split at hst<;>simp at hst
  |mkslice e n by_ z l c=>simp only at hst;split at hst<;>simp at hst
  |mapent kp z m k =>simp only at hst;split at hst<;>(try(simp at hst;done));split at hst<;>(try(simp at hst;done));split at hst<;>simp at hst
  |call f xs=>simp at hst
  |append e n by_ z x y=>simp at hst
  |panic x=>simp at hst
  |defer f xs=>simp at hst
  |recover=>simp at hst
  |clear n z x=>simp at hst
  |copy n x y=>simp at hst
  |fork k=>simp at hst
section
variable {P:Program}
theorem Zwr{o:DOp}{L L':Loc}{ρ1:Env}{lx:Nat}{new:List D}(hst:ZD o ρ L s=.ok side ρ1 ((lx,new)::L) s)(hk:Zds o.k=true)(hs:side)(m:Zs g ν w tmps ρ L' s):∃cs,Ze L' lx=sO cs:=by
 have i:∀{p q ok:Prop} {a:Opd} {ea:E} {n:Nat} {xs:List D},ZE ρ true a=sO (p,ea)→KF ρ L s p q ok ea n xs=.ok side ρ1 ((lx,new)::L) s→∃cs,Ze L' lx=sO cs:=by intro p q ok a ea n xs ha h;obtain⟨rfl,⟨l,off,cs,rfl,hL,rfl,h1,h2⟩|⟨b,off,cs,rfl,hL,rfl,h1,h2⟩⟩:=Zfv h;simp only[List.cons.injEq,ZD7,and_true]at h1;obtain⟨rfl,rfl⟩:=h1;exact Zlf m (xs:=[a]) (p:=p∧True) (es:=[.loc lx off]) (by simp[Ya,ha]) ⟨hs.1,trivial⟩ lx off (by simp);exact absurd (congrArg List.length h1) (by simp)
 obtain⟨dst,gd,k⟩:=o;cases hg:Zk ρ gd with
 |none=>unfold ZD at hst;simp[hg]at hst
 |some c =>
 cases k with
 |store1 a v =>unfold ZD at hst;simp only[hg]at hst;split at hst<;>(try(simp at hst;done));rename_i p ea q x ha hv;exact i ha hst
 |storeN n a v =>unfold ZD at hst;simp only[hg]at hst;split at hst<;>(try(simp at hst;done));rename_i p ea q xs ha hv;exact i ha hst
 |_=>simp[Zds]at hk
theorem Zwo{o:DOp}{ρ ρ1:Env}{L L1:Loc}{s s1:St}{x:Opd}(hst:ZD o ρ L s=.ok side ρ1 L1 s1)(hk:o.k=.box x):
  ∃t p v,o.dst=sO t∧o.guard=nO∧side=(p∧J4 L t=false∧WS v=true)∧ρ1=(t,.loc t 0)::ρ∧L1=(t,cellsOf v)::L∧s1=s ∧
   ∀ρ' L',ZA ρ ρ' (ZB o)→ZD o ρ' L' s=.ok (p∧J4 L' t=false∧WS v=true) ((t,.loc t 0)::ρ') ((t,cellsOf v)::L') s:=by
 obtain⟨dst,gd,k⟩:=o;simp only at hk;subst hk;unfold ZD at hst;cases hg:Zk ρ gd with
 |none=>simp[hg]at hst
 |some c =>simp only[hg]at hst;split at hst<;>simp only[SR.ok.injEq,reduceCtorEq]at hst;rename_i t p v hx;obtain⟨rfl,rfl,rfl,rfl⟩:=hst;refine⟨t,p,v,rfl,rfl,rfl,rfl,rfl,rfl,fun ρ' L' i=>?_⟩;have h1:ZA ρ ρ' (ZS x):=fun u hu=>i u (by simp[ZB,Yk,hu]);unfold ZD;simp only[Zk,ZR h1,hx]
theorem Zjr{o:DOp}{ρ ρ1:Env}{L L1:Loc}{s s1:St}(hst:ZD o ρ L s=.ok side ρ1 L1 s1):∀k,o.k≠.fork k:=fun k hk=>by
 obtain⟨dst,gd,k'⟩:=o;simp only at hk;subst hk;unfold ZD at hst;cases hg:Zk ρ gd<;>simp[hg]at hst
theorem QS{F:Fr P}{dk:List Zh}{o:DOp}{f:List Nat}{os:List (DOp×List Nat)}{ρ ρ1:Env}{L L1:Loc}{s s1:St}{B:List (Nat×Rd)}(hst:ZD o ρ L s=.ok side ρ1 L1 s1)(hs:side)(h:if YU o.k then DOA F kp dk os ρ1 L1 s1 (W3 o ρ++B) else Y0 f s s1 L L1 B∧DOA F kp dk os ρ1 L1 s1 (W3 o ρ++YO f B)):DOA F kp dk ((o,f)::os) ρ L s B:=by
 intro T ms fl fk A rest is l ρ' L' hm hc ae be inv ak;cases rest with
 |nil=>simp at be
 |cons i rest =>
  simp only[ZEc,List.cons.injEq,ZD7]at be;obtain⟨⟨ho,rfl⟩,rfl⟩:=be;obtain⟨ca,rfl⟩:=Zn5 ho.symm (Zjr hst);obtain⟨hi,hdeps,aq,bp,a6⟩:=Zlj ca hc;have bv:=inv.restN i (by simp);rcases a6 with ⟨hp,ao⟩|⟨hb,ao,hnp⟩
  ·obtain⟨b2,a8,am⟩:=Zel hp;rw[b2]at h;simp only[if_true]at h;have hiA:i∉A:=fun hA=>ae i hA (by simp);have bq:∀(ay:∀t,(T.op i).dst=sO t∨ZM ρ1 t=ZM ρ t) (bb:∀a∈A,ZA ρ ρ1 (ZB (T.op a))) (hL:∀x,Ze L1 x=Ze L x∨(Zak (T.op i) x∧Ze L x=nO)) (bj:∀x,Zak (T.op i) x→Ze L x=nO)
     (aw:WM (T.op i) ρ1 L1 s (W3 (T.op i) ρ++B)) (ba:s1=s),DO F kp dk (is.map T.op) ρ' L' s:=by
    intro ay bb hL bj aw ba;subst ba;refine h T ms fl fk (i::A) rest is l ρ' L' hm ao (fun p hp a0=>?_) rfl ⟨inv.closed,fun r hr=>inv.restN r (by simp[hr]),fun j hj h1 h2=>?_,fun a ha=>?_,fun p hp a ha=>?_,fun p hp a ha bn=>?_,fun t=>?_,fun a ha ab x hx=>?_,fun x=>?_,fun a ha ab=>?_⟩ ak;rcases List.mem_cons.1 hp with rfl|hp;exact aq a0;exact ae p hp (by simp[a0]);simp only[ZEz,not_or]at h2;exact inv.doneN j hj (by simp[h2.1,h1]) h2.2;rcases List.mem_cons.1 ha with rfl|ha;exact hi;exact inv.alt a ha;rcases List.mem_cons.1 hp with rfl|hpA<;>rcases List.mem_cons.1 ha with rfl|haA;exact .inr a8;exact bp a haA;exact .inr (am p hpA).1;exact inv.pair p hpA a haA;rcases List.mem_cons.1 hp with rfl|hpA<;>rcases List.mem_cons.1 ha with rfl|haA;exact absurd rfl bn;exact(am a haA).2;exact Zbo (am p hpA).2;exact inv.uniq p hpA a haA bn;rcases ay t with hd|hg;exact .inr ⟨i,by simp,bv,hd⟩;rw[hg];rcases inv.env t with h|⟨a,ha,ab,bh⟩;exact .inl h;exact .inr ⟨a,by simp[ha],ab,bh⟩;rcases List.mem_cons.1 ha with rfl|ha;have:=bj x hx;rcases inv.loc x with h|⟨b,hb,bi,bc⟩;rw[h];exact this;exact inv.loc0 b hb bi x bc;exact inv.loc0 a ha ab x hx;rcases hL x with hx|⟨hx,_⟩;rw[hx];rcases inv.loc x with h|⟨b,hb,bi,bc⟩;exact .inl h;exact .inr ⟨b,by simp[hb],bi,bc⟩;exact .inr ⟨i,by simp,bv,hx⟩;rcases List.mem_cons.1 ha with rfl|ha;exact aw;refine((inv.pend a ha ab).more (B':=W3 (T.op i) ρ++B) (fun b _ hb=>List.mem_append_right _ hb)).mono (bb a ha) (fun t ht=>?_) (fun x hx=>?_) (fun t aj=>?_);rcases ay t with hd|hg;exact absurd ht (Za6 (am a ha).2 hd);exact hg;obtain⟨cs,a6⟩:=(inv.pend a ha ab).loc hx;rcases hL x with h|⟨_,h⟩;exact h;rw[h]at a6;simp at a6;rcases hL t with h|⟨h,_⟩;exact h;exact absurd aj.1 (Za6 (am a ha).2 h.1)
   by_cases hq:YB (T.op i).k=true
   ·obtain⟨e,rfl,rfl,rfl⟩:=ZkY hst hq;have br:=YY (g:=(T.op i).guard) (ρ:=ρ) (ρ':=Zw ρ (T.op i).dst e) (fun t ht=>Ky a8 t (by simp[ZB,ht]));refine bq (fun t=>?_) (fun a ha=>Ky (am a ha).1) (fun x=>.inl rfl) (fun x hx=>by have:=ZbQ hx;rw[hq]at this;simp at this) ?_ rfl;rw[Wx];by_cases ht:(T.op i).dst=sO t;exact .inl ht;exact .inr (by simp[ht]);cases a3:Zk ρ (T.op i).guard with
    |none=>unfold ZD at hst;simp[a3]at hst
    |some c =>
    cases c;obtain⟨e',h1,-,-⟩:=ZkX hst a3 hq;refine .inr (.inl ⟨hq,_,.inl ⟨by rw[br,a3],e',rfl⟩,fun t ht=>?_⟩);rw[h1,Wx,if_pos ht];obtain⟨e',h1,-,-,h2⟩:=ZhA (ρ':=Zw ρ (T.op i).dst e) (L':=L1) hst hq (Ky a8) (.inl rfl);refine .inl ⟨hq,by rw[br,a3],by rw[ZiX (Ky a8)];exact fun b hb=>List.mem_append_left _ (ZuA.2 hb),side,e',hs,h2,fun t ht=>?_⟩;rw[h1,Wx,if_pos ht]
   obtain⟨z,hz⟩:∃z,(T.op i).k=.alloc z:=by cases hk:(T.op i).k<;>first|exact absurd hk (Zjr hst _)|simp_all[YU,YB]
   obtain⟨t,ho,rfl,rfl,rfl,rfl⟩:=Zsx hst hz;have ah:Ze L t=nO:=by cases hg:Ze L t<;>simp[J4,hg]at hs⊢
   have al:(T.op i).dst=sO t:=by rw[ho]
   refine bq (fun u=>?_) (fun a ha=>?_) (fun x=>?_) (fun x hx=>?_) (.inr (.inr ⟨t,z,ho,by simp[ZM],by simp[Ze]⟩)) rfl;by_cases bt:t=u;exact .inl (by rw[al,bt]);exact .inr (by simp[ZM,bt]);have:=Ky (ρ:=ρ) (e:=.loc t 0) (am a ha).1;rw[al]at this;exact this;by_cases bw:t=x;subst bw;exact .inr ⟨⟨al,z,hz⟩,ah⟩;exact .inl (by simp[Ze,bw]);have:=hx.1;rw[al]at this;simp only[ZDV]at this;subst this;exact ah
  obtain⟨bl,a9,n⟩:=ZfI hb;have a7:Y0 (fl i) s s1 L L1 B∨YU (T.op i).k=true:=by cases a5:YU (T.op i).k;rw[a5]at h;exact .inl h.1;exact .inr rfl
  have hD:∃B2,(B2=W3 (T.op i) ρ++B∧YU (T.op i).k=true∨B2=W3 (T.op i) ρ++YO (fl i) B∧YU (T.op i).k=false)∧DOA F kp dk (rest.map fun i=>(T.mk fk i,fl i)) ρ1 L1 s1 B2:=by cases a5:YU (T.op i).k;rw[a5]at h;exact⟨_,.inr ⟨rfl,rfl⟩,h.2⟩;rw[a5]at h;exact⟨_,.inl ⟨rfl,rfl⟩,h⟩
  clear h;obtain⟨B2,bx,h⟩:=hD;have ag:∀b∈YO (fl i) B,b∈B2:=fun b hb=>by rcases bx with ⟨rfl,_⟩|⟨rfl,_⟩;exact List.mem_append_right _ (Qe.1 hb).2;exact List.mem_append_right _ hb
  refine Zuz hm hi ae a9 (fun l ρ' L' is inv hd ak=>?_) ak inv;have ax:=hm l inv.closed i hi hd;have ap:ZA ρ ρ' (ZB (T.op i)):=by intro t ht;rcases inv.env t with h|⟨a,ha,ab,bh⟩;exact h;exfalso;rcases bp a ha with hb|hb;rw[ax a hb]at ab;simp at ab;exact ZiF hb bh ht
  have au:∀x,Ze L' x=Ze L x∨Ze L' x=nO:=fun x=>by rcases inv.loc x with h|⟨a,ha,ab,hx⟩;exact .inl h;exact .inr (inv.loc0 a ha ab x hx)
  have af:∀p∈A.filter (fun a=>!(ms.getD i 0).testBit a),p∉rest:=fun p hp a0=>ae p (List.mem_filter.1 hp).1 (by simp[a0]);rcases ZuT hst with hq|⟨z,hz⟩|hq|⟨x,hx⟩|hq;obtain⟨e,rfl,rfl,rfl⟩:=ZkY hst hq;refine ZsF hst hs hq ap au ?_;refine h T ms fl fk _ rest is _ _ _ hm ao af rfl (inv.bar hm ae hi aq hd (fun a ha=>⟨(n a ha).1,(n a ha).2.1⟩) e (fun _ h=>h) (fun _ _ _ _ h=>h) fun a ha ab ai=>?_) ak;refine((ai.keep (fl:=fl i) (ZcV _ _ _ _) (n a ha).2.2 (fun _ _=>rfl)).more (fun b _ hb=>ag _ hb)).mono (Ky (n a ha).1) (fun t ht=>?_) (fun _ _=>rfl) (fun _ _=>rfl);rw[Wx];have:=Za6 (Zbo (n a ha).2.1) ht;simp[this];rw[hz]at bl;simp[ZtI]at bl;obtain⟨rfl,a4,⟨lx,cs,new,rfl,rfl,bf,ac⟩|⟨rfl,ac⟩⟩:=ZsA hst hq;refine ZoA fun g ν w tmps m=>?_;have bo:ZD (T.op i) ρ' ((lx,cs)::L') s1=.ok side ρ' ((lx,new)::(lx,cs)::L') s1:=ac ρ' _ ap (by simp[Ze,bf]);have bg:Ze L' lx=Ze L lx:=by obtain⟨c2,bk⟩:∃cs,Ze L' lx=sO cs:=Zwr (L:=(lx,cs)::L') bo hq hs m;rcases au lx with h|h;exact h;rw[h]at bk;simp at bk
  refine Qg (ac ρ' L' ap bg) hs ?_;have ad:∀r:Env,Zw r (T.op i).dst (.d .undef)=r:=fun r=>by rw[a4];rfl
  have hb:=inv.bar (s2:=s1) (B2:=B2) hm ae hi aq hd (fun a ha=>⟨(n a ha).1,(n a ha).2.1⟩) (.d .undef) (L2:=(lx,new)::L) (L2':=(lx,new)::L') (fun x hx=>by simp only[Ze,hx]) (fun x _ _ _ hx=>by
   by_cases bu:lx=x;subst bu;rw[bg,bf]at hx;simp at hx;simp only[Ze,bu,if_false];exact hx) (fun a ha ab ai=>?_)
  rw[ad,ad]at hb;exact h T ms fl fk _ rest is _ _ _ hm ao af rfl hb ak;rw[ad];have av:Y0 (fl i) s1 s1 L ((lx,new)::L) B:=by rcases a7 with h|h;exact h;cases ar:(T.op i).k<;>rw[ar]at hq h<;>simp[Zds,YU]at hq h
  refine(ai.keep av (n a ha).2.2 (fun t aj=>?_)).more (fun b _ hb=>ag _ hb);have hn:=inv.loc0 a (List.mem_filter.1 ha).1 ab t aj;have:¬lx=t:=fun h=>by subst h;rw[bg,bf]at hn;simp at hn
  simp[Ze,this];refine Qg (ac ρ' L' ap) hs ?_;have ad:∀r:Env,Zw r (T.op i).dst (.d .undef)=r:=fun r=>by rw[a4];rfl
  have hb:=inv.bar (s2:=s1) (B2:=B2) hm ae hi aq hd (fun a ha=>⟨(n a ha).1,(n a ha).2.1⟩) (.d .undef) (L2:=L1) (L2':=L') (fun x hx=>hx) (fun _ _ _ _ hx=>hx) (fun a ha ab ai=>by
   rw[ad];exact(ai.keep (a7.resolve_right (by cases ar:(T.op i).k<;>rw[ar]at hq<;>simp[Zds,Zri]at hq<;>simp[YU])) (n a ha).2.2 (fun _ _=>rfl)).more (fun b _ hb=>ag _ hb))
  rw[ad,ad]at hb;exact h T ms fl fk _ rest is _ _ _ hm ao af rfl hb ak;obtain⟨t,p,v,al,hgn,rfl,rfl,rfl,rfl,ac⟩:=Zwo hst hx;obtain⟨ba,bz,b1⟩:=hs;have ah:Ze L t=nO:=by cases hg:Ze L t<;>simp[J4,hg]at bz⊢
  have az:Ze L' t=nO:=by rcases au t with h|h;rw[h];exact ah;exact h
  refine Qg (ac ρ' L' ap) ⟨ba,by simp[J4,az],b1⟩ ?_;have hb:=inv.bar (s2:=s1) (B2:=B2) hm ae hi aq hd (fun a ha=>⟨(n a ha).1,(n a ha).2.1⟩) (.loc t 0) (L2:=(t,cellsOf v)::L) (L2':=(t,cellsOf v)::L') (fun x hx=>by simp only[Ze,hx]) (fun x a cb aj hx=>by
    have:¬t=x:=fun h=>by subst h;exact Za6 cb al aj.1
    simp only[Ze,this,if_false];exact hx) (fun a ha ab ai=>?_)
  rw[al]at hb;exact h T ms fl fk _ rest is _ _ _ hm ao af rfl hb ak;have av:Y0 (fl i) s1 s1 L ((t,cellsOf v)::L) B:=a7.resolve_right (by rw[hx];simp[YU]);have b0:∀u,Zak (T.op a) u→¬t=u:=fun u aj h=>by subst h;exact Za6 (n a ha).2.1 al aj.1
  refine((ai.keep av (n a ha).2.2 (fun u aj=>by simp[Ze,b0 u aj])).more (fun b _ hb=>ag _ hb)).mono (Ky (n a ha).1) (fun u hu=>?_) (fun _ _=>rfl) (fun _ _=>rfl);rw[Wx];have:=Za6 (Zbo (n a ha).2.1) hu;simp[this];obtain⟨rfl,a4,rfl,ac⟩:=Zwp hst hq;refine Qg (ac ρ' L' ap) hs ?_;have ad:∀r:Env,Zw r (T.op i).dst (.d .undef)=r:=fun r=>by rw[a4];rfl
  have hb:=inv.bar (s2:=s1) (B2:=B2) hm ae hi aq hd (fun a ha=>⟨(n a ha).1,(n a ha).2.1⟩) (.d .undef) (L2:=L1) (L2':=L') (fun x hx=>hx) (fun _ _ _ _ hx=>hx) (fun a ha ab ai=>by
   rw[ad];exact(ai.keep (a7.resolve_right (by cases ar:(T.op i).k<;>rw[ar]at hq<;>simp[Zds,Zri]at hq<;>simp[YU])) (n a ha).2.2 (fun _ _=>rfl)).more (fun b _ hb=>ag _ hb))
  rw[ad,ad]at hb;exact h T ms fl fk _ rest is _ _ _ hm ao af rfl hb ak
theorem Zp6{F:Fr P}{dk:List Zh}{o:DOp}{f:List Nat}{os:List (DOp×List Nat)}{B:List (Nat×Rd)}{e:E}(hz:ZbJ o ρ e)(hk:YB o.k=true)(h:DOA F kp dk os (Zw ρ o.dst e) L s B):DOA F kp dk ((o,f)::os) ρ L s B:=by
 intro T ms fl fk A rest is l ρ' L' hm hc z ah inv ae;cases rest with
 |nil=>simp at ah
 |cons i rest =>
  simp only[ZEc,List.cons.injEq,ZD7]at ah;obtain⟨⟨ho,rfl⟩,rfl⟩:=ah;obtain⟨ar,rfl⟩:=Zn5 ho.symm (fun k h=>by rw[h]at hk;simp[YB]at hk);obtain⟨hi,hdeps,ap,ak,au⟩:=Zlj ar hc;have av:=inv.restN i (by simp);have am:∀x,¬Zak (T.op i) x:=fun x hx=>by have:=ZbQ hx;rw[hk]at this;simp at this
  rcases au with ⟨hp,ag⟩|⟨hb,ag,hnp⟩;obtain⟨hp1,ao,ac⟩:=Zel hp;have ax:=hz.congr (ρ':=Zw ρ (T.op i).dst e) (Ky ao);refine h T ms fl fk (i::A) rest is l ρ' L' hm ag (fun p hp ad=>?_) rfl ⟨inv.closed,fun r hr=>inv.restN r (by simp[hr]),fun j hj h1 h2=>?_,fun a ha=>?_,fun p hp a ha=>?_,fun p hp a ha al=>?_,fun t=>?_,fun a ha n x hx=>?_,fun x=>?_,fun a ha n=>?_⟩ ae;rcases List.mem_cons.1 hp with rfl|hp;exact ap ad;exact z p hp (by simp[ad]);simp only[ZEz,not_or]at h2;exact inv.doneN j hj (by simp[h2.1,h1]) h2.2;rcases List.mem_cons.1 ha with rfl|ha;exact hi;exact inv.alt a ha;rcases List.mem_cons.1 hp with rfl|hpA<;>rcases List.mem_cons.1 ha with rfl|haA;exact .inr ao;exact ak a haA;exact .inr (ac p hpA).1;exact inv.pair p hpA a haA;rcases List.mem_cons.1 hp with rfl|hpA<;>rcases List.mem_cons.1 ha with rfl|haA;exact absurd rfl al;exact(ac a haA).2;exact Zbo (ac p hpA).2;exact inv.uniq p hpA a haA al;rw[Wx];by_cases ht:(T.op i).dst=sO t;exact .inr ⟨i,by simp,av,ht⟩;rw[if_neg ht];rcases inv.env t with h|⟨a,ha,n,ai⟩;exact .inl h;exact .inr ⟨a,by simp[ha],n,ai⟩;rcases List.mem_cons.1 ha with rfl|ha;exact absurd hx (am x);exact inv.loc0 a ha n x hx;rcases inv.loc x with h|⟨b,hb,ay,aw⟩;exact .inl h;exact .inr ⟨b,by simp[hb],ay,aw⟩;rcases List.mem_cons.1 ha with rfl|ha;exact .inr (.inl ⟨hk,e,ax,fun t ht=>by rw[Wx,if_pos ht]⟩);refine(inv.pend a ha n).mono (Ky (ac a ha).1) (fun t ht=>?_) (fun _ _=>rfl) (fun _ _=>rfl);rw[Wx,if_neg (Za6 (Zbo (ac a ha).2) ht)];obtain⟨hbk,af,u⟩:=ZfI hb;refine Zuz hm hi z af (fun l ρ' L' is inv hd ae=>?_) ae inv;have ab:=hm l inv.closed i hi hd;have az:ZA ρ ρ' (ZB (T.op i)):=by intro t ht;rcases inv.env t with h|⟨a,ha,n,ai⟩;exact h;exfalso;rcases ak a ha with hb|hb;rw[ab a hb]at n;simp at n;exact ZiF hb ai ht
  have aj:∀p∈A.filter (fun a=>!(ms.getD i 0).testBit a),p∉rest:=fun p hp ad=>z p (List.mem_filter.1 hp).1 (by simp[ad]);refine(hz.congr az).run ?_;refine h T ms fl fk _ rest is _ _ _ hm ag aj rfl (inv.bar hm z hi ap hd (fun a ha=>⟨(u a ha).1,(u a ha).2.1⟩) e (fun _ h=>h) (fun _ _ _ _ h=>h) fun a ha n aq=>?_) ae;refine aq.mono (Ky (u a ha).1) (fun t ht=>?_) (fun _ _=>rfl) (fun _ _=>rfl);rw[Wx];have:=Za6 (Zbo (u a ha).2.1) ht;simp[this]
theorem Zu5{F:Fr P}{dk:List Zh}{o:DOp}{f:List Nat}{os:List (DOp×List Nat)}{B:List (Nat×Rd)}(hg:Zk ρ o.guard=sO false)(hk:YB o.k=true)(e:E)(h:DOA F kp dk os (Zw ρ o.dst (.when false e)) L s B):DOA F kp dk ((o,f)::os) ρ L s B:=Zp6 (.inl ⟨hg,e,rfl⟩) hk h
theorem ZwF{F:Fr P}{dk:List Zh}{o:DOp}{f:List Nat}{os:List (DOp×List Nat)}{B:List (Nat×Rd)}(hg:o.guard=nO){x y:Opd}{pl:Option J0}(hk:o.k=.q (.bin .add pl) [x,y]){p:Prop}{k:IntKind}{a b:Int}(ha:Ya ρ true [x,y]=sO (p,[.d (.int k a),.d (.int k b)]))(hp:p)(h:DOA F kp dk os (Zw ρ o.dst (.d (.int k (k.wrap (a+b))))) L s B):DOA F kp dk ((o,f)::os) ρ L s B :=
 Zp6 (.inr ⟨x,y,pl,p,k,a,b,hg,hk,ha,hp,rfl⟩) (by rw[hk];rfl) h
theorem ZnC{F:Fr P}{dk:List Zh}{o:DOp}{f:List Nat}{os:List (DOp×List Nat)}{B:List (Nat×Rd)}{pre:Nat→Prop}{ρf:Nat→Env}{sf:Nat→St}(hst:ZD o ρ L s=.all side pre ρf sf)(hs:side)(h:∀b,pre b→Y0 f s (sf b) L L B∧DOA F kp dk os (ρf b) L (sf b) (YO f B)):DOA F kp dk ((o,f)::os) ρ L s B:=by
 obtain⟨hp,t,ef,n,rfl,j⟩:=Zwn hst;refine Zcq (fun e s2=>∃b,pre b∧e=ef b∧s2=sf b) hp (fun ρ' L' os' u i=>?_) (fun e s2 ⟨b,hb,he,h2⟩=>?_);refine ZlU (j ρ' L' u) hs fun b hb=>?_;have:=i (ef b) (sf b) ⟨b,hb,rfl,rfl⟩;rw[n]at this;exact this;subst he;subst h2;have:=h b hb;rw[n];exact this
theorem ZjE{F:Fr P}{ks:List Nat}{dk:List Zh}:∀{os:List (DOp×List Nat)} {ρ:Env} {L:Loc} {s:St} {B:List (Nat×Rd)},
  ZgX (fun ρ L s=>Zv F dk (Yj ρ ks) (ZaJ (Yj ρ ks) L) s) (fun os ρ L s B=>DOA F (sO ks) dk os ρ L s B) os ρ L s B→DOA F (sO ks) dk os ρ L s B
 | [],ρ,L,s,B,h=>ZnD h
 | (o,f)::os,ρ,L,s,B,h=>by simp only[ZgX]at h;split at h;rename_i sd ρ' L' s' i;by_cases hp:YU o.k=true;rw[if_pos hp]at h;exact QS i h.1 (by rw[if_pos hp];exact ZjE h.2);rw[if_neg hp]at h;exact QS i h.1 (by rw[if_neg hp];exact⟨h.2.1,ZjE h.2.2⟩);rename_i sd pre ρ' s' i;exact ZnC i h.1 fun b hb=>⟨(h.2 b hb).1,ZjE (h.2 b hb).2⟩;exact h
end
theorem ZgL{bs:List Nat}:∀{ds:List Nat} {a:Nat},(Zb4 bs ds).testBit a=true→∃d∈ds,a=d∨(bs.getD d 0).testBit a=true
 | [],a,h=>by simp[Zb4]at h
 |d::ds,a,h=>by simp only[Zb4,Nat.testBit_or,ZEk]at h;rcases h with (h|h)|h;exact⟨d,by simp,.inr h⟩;refine⟨d,by simp,.inl ?_⟩;rw[Nat.one_shiftLeft,Nat.testBit_two_pow]at h;exact(of_decide_eq_true h).symm;obtain⟨d',h1,h2⟩:=ZgL h;exact⟨d',by simp[h1],h2⟩
theorem Zrk(l:Nat→Bool)(all:List (List Nat))(hcl:∀i,i<all.length→l i=true→∀d∈all.getD i [],l d=true) :
  ∀(r:List (List Nat)) (acc:List Nat) (pre:List (List Nat)),all=pre++r→acc.length=pre.length →
   (∀i,i<acc.length→(∀d∈all.getD i [],l d=true)→∀a,(acc.getD i 0).testBit a=true→l a=true) →
   ∀i,i<all.length→(∀d∈all.getD i [],l d=true)→∀a,((Zfj r acc).getD i 0).testBit a=true→l a=true
 | [],acc,pre,hall,hlen,hacc=>by intro i hi;simp only[Zfj];exact hacc i (by rw[hlen];simp only[hall,ZEw]at hi;exact hi)
 |d::r,acc,pre,hall,hlen,hacc=>by
  simp only[Zfj];refine Zrk l all hcl r (acc++[Zb4 acc d]) (pre++[d]) (by simp[hall]) (by simp[hlen]) fun i hi hd a ha=>?_;simp only[ZD8,ZEf,List.length_nil]at hi;by_cases n:i<acc.length;have e:(acc++[Zb4 acc d]).getD i 0=acc.getD i 0:=by simp[ZEb,List.getElem?_append,n]
  rw[e]at ha;exact hacc i n hd a ha;have t:i=acc.length:=by omega
  subst t;have e:(acc++[Zb4 acc d]).getD acc.length 0=Zb4 acc d:=by simp[ZEb]
  rw[e]at ha;have e2:all.getD acc.length []=d:=by rw[hall,hlen];simp[ZEb]
  rw[e2]at hd;obtain⟨d',h1,h2⟩:=ZgL ha;rcases h2 with rfl|h2;exact hd a h1;by_cases j:d'<acc.length;exact hacc d' j (hcl d' (by rw[hall];simp;omega) (hd d' h1)) a h2;have:acc.getD d' 0=0:=by simp[ZEb,ZEG (Nat.le_of_not_lt j)]
  rw[this]at h2;simp at h2
def cnt(l:Nat→Bool):Nat→Nat
 |0=>0
 |n+1=>cnt l n+if l n then 0 else 1
theorem ZqM{l l':Nat→Bool}:∀{n:Nat},(∀i,i<n→l' i=l i)→cnt l' n=cnt l n
 |0,_=>rfl
 |n+1,h=>by have:=ZqM (l:=l) (l':=l') (n:=n) fun i hi=>h i (by omega);simp only[cnt,h n (by omega),this]
theorem ZsM{l:Nat→Bool}{i:Nat}:∀{n:Nat},i<n→l i=false→cnt (fun j=>j==i ||l j) n+1=cnt l n
 |n+1,hi,hl=>by
  by_cases hn:i=n;subst hn;have:cnt (fun j=>j==i ||l j) i=cnt l i:=ZqM fun j hj=>by
   have:¬j=i:=by omega
   simp[this]
  simp[cnt,this,hl];have h:=ZsM (n:=n) (by omega) hl;have t:¬n=i:=fun h=>hn h.symm;have:(n==i ||l n)=l n:=by simp[t]
  simp only[cnt,this];omega
theorem ZqN{l:Nat→Bool}:∀{n:Nat},cnt l n=0→∀i,i<n→l i=true
 |n+1,h,i,hi=>by simp only[cnt]at h;by_cases hn:i=n;subst hn;cases hl:l i;simp[hl]at h;rfl;exact ZqN (n:=n) (by omega) i (by omega)
theorem Zvn(l:Nat→Bool):∀n,cnt l n≤n
 |0=>ZEd _
 |n+1=>by have:=Zvn l n;simp only[cnt];split<;>omega
theorem ZvT{ops:Array Oper}{listed:Array Bool}{i:Nat}(h:i∈Region.ready .any ops listed):
  ∃o,ops[i]?=sO o∧listed.getD i true=false∧∀d∈Jh o,listed.getD d false=true:=by
 simp only[Region.ready,List.mem_filter,List.mem_range,ZD5,Bool.not_eq_true']at h;obtain⟨hi,hl,ha⟩:=h;refine⟨ops[i],by simp[hi],hl,fun d hd=>?_⟩;simp only[hi,Array.getElem?_eq_getElem,ZEp,ZEB,Array.all_eq_true]at ha;simp only[Jh,List.mem_map,List.mem_filter]at hd;obtain⟨e,⟨he,hb⟩,rfl⟩:=hd;obtain⟨n,hn,j⟩:=ZEe he;have t:n<ops[i].after.size:=by simpa using hn
 have h2:=ha n t;have:ops[i].after[n]=e:=by rw[←j];simp
 rw[this]at h2;simpa[hb]using h2
theorem Zwd{ops:Array Oper}{listed:Array Bool}{i:Nat}{o:Oper}(ho:ops[i]?=sO o)(hl:listed.getD i true=false)(hd:∀d∈Jh o,listed.getD d false=true):i∈Region.ready .any ops listed:=by
 obtain⟨hi,rfl⟩:=Array.getElem?_eq_some_iff.1 ho;simp only[Region.ready,List.mem_filter,List.mem_range,ZD5,Bool.not_eq_true'];refine⟨hi,hl,?_⟩;simp only[hi,Array.getElem?_eq_getElem,ZEp,ZEB,Array.all_eq_true];intro n hn;cases hb:Region.binds .any ops[i].after[n];simp;simp only[Bool.not_true,Bool.false_or];exact hd _ (by
  simp only[Jh,List.mem_map,List.mem_filter];exact⟨_,⟨by simp,hb⟩,rfl⟩)
theorem Zz4{ops:Array Oper}{T:Tab}(hT:T.length=ops.size)(hdep:∀i o,ops[i]?=sO o→T.deps i=Jh o)(hlt:∀i,i<T.length→∀d∈T.deps i,d<i):
  ∀(fuel t:Nat) (listed:Array Bool),listed.size=ops.size→cnt (fun j=>listed.getD j false) ops.size≤fuel →
   Sch T (fun j=>listed.getD j false) (Region.linearise.go .any ops fuel t listed []):=by
 have u:∀listed:Array Bool,listed.size=ops.size→Region.ready .any ops listed=[]→∀i,i<ops.size→listed.getD i false=true:=by
  intro listed n hr i;induction i using Nat.strongRecOn with
  |ind i ih =>
   intro hi;cases hl:listed.getD i false;exfalso;have ag:i<listed.size:=by omega
   have af:listed.getD i true=false:=by simpa[Array.getD,ag]using hl
   have hm:i∈Region.ready .any ops listed:=Zwd (o:=ops[i]) (by simp[hi]) af fun d hd=>by have ah:d<i:=hlt i (by omega) d (by rw[hdep i ops[i] (by simp[hi])];exact hd);exact ih d ah (by omega)
   rw[hr]at hm;simp at hm;rfl
 intro fuel;induction fuel with
 |zero =>intro t listed n hc;simp only[Region.linearise.go,List.reverse_nil];exact .nil fun i hi=>ZqN (Nat.le_zero.1 hc) i (by omega)
 |succ fuel ih =>
  intro t listed n hc;simp only[Region.linearise.go];change Sch T _ (match (Region.ready .any ops listed)[t % (Region.ready .any ops listed).length]? with
   |some i=>Region.linearise.go .any ops fuel (t / (Region.ready .any ops listed).length) (listed.setIfInBounds i true) [i]
   |none=>[].reverse)
  cases hi:(Region.ready .any ops listed)[t % (Region.ready .any ops listed).length]? with
  |none =>
   have ae:Region.ready .any ops listed=[]:=by
    cases hr:Region.ready .any ops listed with
    |nil=>rfl
    |cons x xs =>rw[hr]at hi;have hl:t % (x::xs).length<(x::xs).length:=Nat.mod_lt _ (by simp);rw[ZEr hl]at hi;simp at hi
   exact .nil fun i ag=>u listed n ae i (by omega)
  |some i =>
   simp only[];rw[linearise_go_acc,List.reverse_singleton,List.singleton_append];obtain⟨o,ho,hl,hd⟩:=ZvT (List.mem_of_getElem? hi);obtain⟨ai,-⟩:=Array.getElem?_eq_some_iff.1 ho;have ab:i<listed.size:=by omega
   have ad:listed.getD i false=false:=by simpa[Array.getD,ab]using hl
   have z:(fun j=>(listed.setIfInBounds i true).getD j false)=fun j=>j==i ||listed.getD j false:=by funext j;simp only[Array.getD_eq_getD_getElem?,Array.getElem?_setIfInBounds];by_cases ac:i=j;subst ac;simp[ab];have:¬j=i:=fun h=>ac h.symm;simp[ac,this]
   refine .cons (by omega) ad (fun d aj=>hd d (by rw[←hdep i o ho];exact aj)) ?_;rw[←z];refine ih _ _ (by simp[n]) ?_;rw[z];have:=ZsM (l:=fun j=>listed.getD j false) ai ad;omega
section
variable {P:Program}
theorem Zyj{an:Ann}{N:Nat}{c:Code}{order:List Nat}{os:List (DOp×List Nat)}{ks:Option (List Nat)}(h:cc P an N c=sO (.regD order os ks)):
  ∃id ops,c=.region id ops true∧ccD P an N id ops=sO (order,os,ks):=by
 unfold cc at h;split at h<;>simp_all;obtain⟨a,b,c',h1,h2,h3,h4⟩:=h;exact⟨_,_,⟨rfl,rfl⟩,by rw[h1];simp[h2,h3,h4]⟩;all_goals (split at h<;>simp at h)
end
theorem Zz5{T:Tab}{l:Nat→Bool}{is:List Nat}(h:Sch T l is):∀i∈is,i<T.length:=by
 induction h with
 |nil h=>simp
 |cons hi hl hd t ih=>intro i j;rcases List.mem_cons.1 j with rfl|h;exact hi;exact ih i h
section
variable {P:Program}
theorem ZqO{N:Nat}{ops:Array Oper}:∀{is:List Nat} {l:List DOp},QW P N ops is=sO l→l.length=is.length∧∀(j i:Nat),is[j]?=sO i→∃o d,ops[i]?=sO o∧cop P N ops o=sO d∧l[j]?=sO d
 | [],l,h=>by simp only[QW,ZDV]at h;subst h;simp
 |i::is,l,h=>by
  simp only[QW]at h;split at h<;>(try(simp at h;done));rename_i o ho;split at h<;>simp only[ZDV,reduceCtorEq]at h;rename_i d ds hd n;subst h;obtain⟨h1,h2⟩:=ZqO n;refine⟨by simp[h1],fun j i' hj=>?_⟩;cases j with
  |zero=>simp only[List.getElem?_cons_zero,ZDV]at hj;subst hj;exact⟨o,d,ho,hd,by simp⟩
  |succ j=>simp only[List.getElem?_cons_succ]at hj⊢;exact h2 j i' hj
theorem ZsN{N:Nat}{ops:Array Oper}{f:Nat→DOp}:∀{is:List Nat},(∀i∈is,∃o,ops[i]?=sO o∧cop P N ops o=sO (f i))→QW P N ops is=sO (is.map f)
 | [],_=>rfl
 |i::is,h=>by obtain⟨o,h1,h2⟩:=h i (by simp);have:=ZsN (is:=is) fun j hj=>h j (by simp[hj]);simp only[QW,h1,h2,this,ZEc]
theorem Zvz(g:G)(w:World)(n:Nat):Ext g w g { w with drawn:=n }:=⟨ZEd _,fun _=>ZEd _,fun _ _ _=>rfl,fun _ _ h=>h,fun _ _=>rfl,fun _ _=>rfl,rfl,rfl,rfl,rfl⟩
theorem Zs.drawn(m:Zs g ν w tmps ρ L s)(n:Nat):Zs g ν { w with drawn:=n } tmps ρ L s:=by
 have hg:Jv g w g { w with drawn:=n }:=⟨ZEd _,fun _ _=>rfl,fun _ _=>rfl,fun b hb=>(m.st.fresh b hb).1,rfl,rfl,rfl,rfl⟩;exact m.grow hg
theorem Zky:∀{n:Nat} {ds:List (List Nat)},Zme n ds=true→∀i l,ds[i]?=sO l→∀d∈l,d<n+i
 |n,[],_,i,l,hi=>by simp at hi
 |n,x::r,h,i,l,hi=>by
  simp only[Zme,ZD5,List.all_eq_true,decide_eq_true_eq]at h;cases i with
  |zero=>simp only[List.getElem?_cons_zero,ZDV]at hi;subst hi;exact fun d hd=>h.1 d hd
  |succ i=>simp only[List.getElem?_cons_succ]at hi;intro d hd;have:=Zky h.2 i l hi d hd;omega
theorem Zh2{F:Fr P}{order:List Nat}{os:List (DOp×List Nat)}{ks:Option (List Nat)}{dk:List Zh}(h:DOA F ks dk os ρ L s []):Zv F (.code (.regD order os ks)::dk) ρ L s:=by
 intro k hk;cases hk with
 |code hc ht =>
 obtain⟨id,ops,rfl,hD⟩:=Zyj hc;unfold ccD at hD;generalize Zw3 F.an id=fk at hD;split at hD<;>(try(simp at hD;done));rename_i l ae kp aj _ _;simp only at hD;split at hD<;>simp only[ZDV,ZD7,reduceCtorEq]at hD;rename_i z;obtain⟨rfl,rfl,rfl⟩:=hD;simp only[ZD5]at z;obtain⟨⟨⟨ao,aq⟩,ac⟩,ab⟩:=z;obtain⟨ag,am⟩:=ZqO aj;simp only[List.length_range]at ag;generalize ad:ops.toList.map Jh=ds at aq ab h;have av:ds.length=ops.size:=by rw[←ad];simp
 generalize hT:List.zip l ds=T at ab h;have aw:List.length T=ops.size:=by rw[←hT];simp[ag,av]
 have al:∀(i:Nat) (o:Oper),ops[i]?=sO o→∃d,cop P F.N ops o=sO d∧T[i]?=sO (d,Jh o):=by intro i o ho;obtain⟨hi,-⟩:=Array.getElem?_eq_some_iff.1 ho;obtain⟨o',d,h1,h2,h3⟩:=am i i (by simp[hi]);rw[ho]at h1;obtain rfl:=Option.some.inj h1;refine⟨d,h2,?_⟩;rw[←hT,List.getElem?_zip_eq_some];exact⟨h3,by rw[←ad];simp[ho]⟩
 have u:∀(i:Nat) (o:Oper),ops[i]?=sO o→Tab.deps T i=Jh o:=fun i o ho=>by obtain⟨d,_,h2⟩:=al i o ho;simp[Tab.deps,ZEb,h2]
 have au:∀i,i<List.length T→∃o,ops[i]?=sO o∧cop P F.N ops o=sO (Tab.op T i):=fun i hi=>by
  have n:i<ops.size:=by omega
  obtain⟨d,h1,h2⟩:=al i ops[i] (by simp[n]);exact⟨ops[i],by simp[n],by simp[Tab.op,ZEb,h2,h1]⟩
 have ap:∀i,i<List.length T→∀d∈Tab.deps T i,d<i:=fun i hi d hd=>by
  have n:i<ops.size:=by omega
  have he:=u i ops[i] (by simp[n]);have:=Zky aq i (Jh ops[i]) (by rw[←ad];simp[n]) d (by rw[←he];exact hd);omega
 have ai:∀i,i<List.length T→ds.getD i []=Tab.deps T i:=fun i hi=>by
  have n:i<ops.size:=by omega
  rw[u i ops[i] (by simp[n]),←ad];simp[ZEb,n]
 intro g ν w tmps hN m;refine F.T.back _ _ _ _ (.one stepR_region_draw) ?_;refine F.T.ext g w g { w with drawn:=w.drawn+1 } _ (Zvz g w _) ?_;have ay:∀t,Region.schedule (P.follows .mixedOrders) ops t=Region.linearise .any ops t:=fun t=>by simp[Region.schedule,ao]
 rw[ay];have ak:∀j,(Array.replicate ops.size false).getD j false=false:=fun j=>by simp only[Array.getD_eq_getD_getElem?,Array.getElem?_replicate];split<;>rfl
 have ah:=Zz4 (ops:=ops) (T:=T) aw u ap ops.size (w.tape w.drawn (.order F.b.fn id)) (Array.replicate ops.size false) (by simp) (Zvn _ _);have ax:=h T (Zfj ds []) (fun i=>(F.an.get (id+1000000*(i+4))).getD []) _ [] ae _ _ ρ L ?_ ab (by simp) rfl ?_ ah;refine ax ops _ _ (ZsN fun i hi=>au i (Zz5 ah i hi)) ht g ν _ tmps hN (m.drawn _);intro lf ar i hi hd a ha;refine Zrk lf ds (fun i hi af d hd=>?_) ds [] [] rfl rfl (fun i hi=>by simp at hi) i (by omega) (fun d az=>hd d (by rw[←ai i hi];exact az)) a ha;exact ar i (by omega) af d (by rw[←ai i (by omega)];exact hd);refine⟨fun i hi af=>?_,fun r hr=>ak r,fun i hi h1 h2=>?_,by simp,by simp,by simp,fun t=>.inl rfl,by simp,fun x=>.inl rfl,by simp⟩;rw[ak]at af;simp at af;exfalso;simp only[Zv5,List.all_eq_true,List.mem_range,List.contains_eq_mem,decide_eq_true_eq]at ac;exact h1 (ac i (by omega))
theorem Zc4{F:Fr P}{dk:List Zh}{o:DOp}{f:List Nat}{os:List (DOp×List Nat)}{B:List (Nat×Rd)}(hg:Zk ρ o.guard=sO true){fx:Opd}(hk:o.k=.call fx xs){p q:Prop}{fd:D}{es:List E}(hf:ZE ρ true fx=sO (q,.d fd))(ha:Ya ρ true xs=sO (p,es))(hds:WX es=sO ds)(hp:p)(hq:q){Ψ:Res→St→Prop}(hc:WN P fd ds s Ψ)(hret:∀d s',Ψ (.ret d) s'→Y0 f s s' L L B∧DOA F kp dk os (Zw ρ o.dst (.d d)) L s' (YO f B))(hpan:∀d s',Ψ (.panic d) s'→YV F [] [] d s'):DOA F kp dk ((o,f)::os) ρ L s B:=by
 refine Zcq (fun e s'=>∃d,e=.d d∧Ψ (.ret d) s') (by rw[hk];rfl) (fun ρ' L' os' j i=>?_) (fun e s2 ⟨d,he,hd⟩=>by subst he;exact hret d s2 hd);have h1:ZA ρ ρ' (ZS fx):=fun t ht=>j t (by simp[ZB,hk,Yk,ht]);have h2:ZA ρ ρ' (ZaO xs):=fun t ht=>j t (by simp[ZB,hk,Yk,ht]);have h3:ZA ρ ρ' (Zdc o.guard):=fun t ht=>j t (by simp[ZB,ht]);exact Zed (by rw[YY h3];exact hg) hk (by rw[ZR h1];exact hf) (by rw[WO h2];exact ha) hds hp hq hc (fun d s' hd=>i (.d d) s' ⟨d,rfl,hd⟩) (fun d s' hd=>(hpan d s' hd).weak _ _)
theorem ZgP{F:Fr P}{dk:List Zh}{o:DOp}{f:List Nat}{os:List (DOp×List Nat)}{B:List (Nat×Rd)}(hg:Zk ρ o.guard=sO true){fx:Opd}(hk:o.k=.call fx xs){p q:Prop}{fi:FuncId}{first caps:List D}{es:List E}(hf:ZE ρ true fx=sO (q,.d (.fn (.func fi) first caps)))(ha:Ya ρ true xs=sO (p,es))(hds:WX es=sO ds)(hp:p)(hq:q){Ψ:Res→St→Prop}(hc:Za P fi (first++ds++caps) s Ψ)(hret:∀d s',Ψ (.ret d) s'→Y0 f s s' L L B∧DOA F kp dk os (Zw ρ o.dst (.d d)) L s' (YO f B))(hpan:∀d s',Ψ (.panic d) s'→YV F [] [] d s'):DOA F kp dk ((o,f)::os) ρ L s B :=
 Zc4 hg hk hf ha hds hp hq hc.V hret hpan
theorem Zov{F:Fr P}{dk:List Zh}{o:DOp}{f:List Nat}{os:List (DOp×List Nat)}{B:List (Nat×Rd)}(hg:Zk ρ o.guard=sO true){x:Opd}(hk:o.k=.panic x){p:Prop}{t:TypeId}{d:D}(ha:ZE ρ true x=sO (p,.d (.iface t d)))(hp:p)(h:YV F [] [] (.iface t d) s):DOA F kp dk ((o,f)::os) ρ L s B:=by
 refine Zcq (fun _ _=>False) (by rw[hk];rfl) (fun ρ' L' os' i hcont=>?_) (fun e s2 h=>h.elim);have h1:ZA ρ ρ' (ZS x):=fun t ht=>i t (by simp[ZB,hk,Yk,ht]);have h3:ZA ρ ρ' (Zdc o.guard):=fun t ht=>i t (by simp[ZB,ht]);exact Zk3 (by rw[YY h3];exact hg) hk (by rw[ZR h1];exact ha) hp (h.weak _ _)
theorem Zeb{F:Fr P}{dk:List Zh}{o:DOp}{f:List Nat}{os:List (DOp×List Nat)}{B:List (Nat×Rd)}(hg:Zk ρ o.guard=sO false)(hk:YU o.k=false){e:E}(h:DOA F kp dk os (Zw ρ o.dst (.when false e)) L s (YO f B)):DOA F kp dk ((o,f)::os) ρ L s B:=by
 refine Zcq (fun e' s'=>e'=.when false e∧s'=s) hk (fun ρ' L' os' j i=>?_) (fun e s2 ⟨h1,h2⟩=>by subst h1;subst h2;exact⟨ZcV _ _ _ _,h⟩);have h3:ZA ρ ρ' (Zdc o.guard):=fun t ht=>j t (by simp[ZB,ht]);exact KH (by rw[YY h3];exact hg) (i _ _ ⟨rfl,rfl⟩)
theorem Ztt{F:Fr P}{dk:List Zh}{o:DOp}{f:List Nat}{os:List (DOp×List Nat)}{B:List (Nat×Rd)}{c:Bool}(hg:Zk ρ o.guard=sO c){fx:Opd}(hk:o.k=.call fx xs){p q:Prop}{fi:FuncId}{first caps:List D}{es:List E}(hf:ZE ρ c fx=sO (q,.d (.fn (.func fi) first caps)))(ha:Ya ρ c xs=sO (p,es))(hds:WX es=sO ds){d:D}(hc:c=true→p∧q∧Zf P fi (first++ds++caps) d)(h:DOA F kp dk os (Zw ρ o.dst (.when c (.d d))) L s (YO f B)):DOA F kp dk ((o,f)::os) ρ L s B:=by
 refine Zcq (fun e' s'=>e'=.when c (.d d)∧s'=s) (by rw[hk];rfl) (fun ρ' L' os' j i=>?_) (fun e s2 ⟨h1,h2⟩=>by subst h1;subst h2;exact⟨ZcV _ _ _ _,h⟩);have h1:ZA ρ ρ' (ZS fx):=fun t ht=>j t (by simp[ZB,hk,Yk,ht]);have h2:ZA ρ ρ' (ZaO xs):=fun t ht=>j t (by simp[ZB,hk,Yk,ht]);have h3:ZA ρ ρ' (Zdc o.guard):=fun t ht=>j t (by simp[ZB,ht]);exact ZoB (by rw[YY h3];exact hg) hk (by rw[ZR h1];exact hf) (by rw[WO h2];exact ha) hds hc (i _ _ ⟨rfl,rfl⟩)
theorem ZhZ{F:Fr P}{dk:List Zh}{o:DOp}{f:List Nat}{os:List (DOp×List Nat)}{B:List (Nat×Rd)}(hg:Zk ρ o.guard=sO true){fx:Opd}(hk:o.k=.call fx xs){p q:Prop}{fi:FuncId}{first caps:List D}{es:List E}(hf:ZE ρ true fx=sO (q,.d (.fn (.func fi) first caps)))(ha:Ya ρ true xs=sO (p,es))(hds:WX es=sO ds)(hp:p)(hq:q){d:D}(hc:Zf P fi (first++ds++caps) d)(h:DOA F kp dk os (Zw ρ o.dst (.d d)) L s (YO f B)):DOA F kp dk ((o,f)::os) ρ L s B :=
 ZgP hg hk hf ha hds hp hq (hc s) (fun d' s' ⟨h1,h2⟩=>by simp only[Res.ret.injEq]at h1;subst h1;subst h2;exact⟨ZcV _ _ _ _,h⟩) (fun d' s' ⟨h1,_⟩=>by simp at h1)
end
section
variable {P:Program}
def Za0(P:Program)(w:World)(size m:Nat)(x:Value)(news:List Value):Prop :=
 (∀w2,(Builtin.lenOf x).run P w2=.ok m w2)∧∀w2:World,w2.heap=w.heap→(Builtin.firstCells size m x).run P w2=.ok news.toArray w2
theorem ZoE{t u ty e:TypeId}{tu:TypeDesc}{i:TypeInfo}(ht:P.underlying t=sO (.slice e))(hu:P.underlying u=sO tu)(hnu:∀k,tu≠.int k)(hi:P.info? e=sO i){base:Option Addr}{n cap:Nat}{x:Value}(hx:Za0 P w i.size 0 x [])(hroom:n≤cap):(Builtin.append_ #[t,u] ty #[.slice base n cap,x]).run P w=.ok (.slice base n cap) w:=by
 obtain⟨h1,h2⟩:=hx;have h2:=h2 w rfl;have hz:(match tu with|.int _=>true|_=>false)=false:=by cases tu<;>first|rfl|exact absurd rfl (hnu _)
 cases base with
 |none=>simp[Builtin.append_,run_underlying ht,run_underlying hu,hz,sizeOf,typeInfo,hi,h1,h2,hroom]
 |some a=>simp[Builtin.append_,run_underlying ht,run_underlying hu,hz,sizeOf,typeInfo,hi,h1,h2,hroom,storeCells]
theorem Zqt{t u ty e:TypeId}{tu:TypeDesc}{i:TypeInfo}(ht:P.underlying t=sO (.slice e))(hu:P.underlying u=sO tu)(hnu:∀k,tu≠.int k)(hi:P.info? e=sO i){g n cap m:Nat}{x:Value}{news:List Value}(hx:Za0 P w i.size m x news){cur:Array Value}{T:TypeId}(hg:w.heap[g]?=sO (.cells cur T (0,0)))(h1:∀u∈news,u.oneCell'=true)(hroom:n+m≤cap)(hfit:n*i.size+news.length≤cur.size):
  (Builtin.append_ #[t,u] ty #[.slice (sO ⟨g,0,nO⟩) n cap,x]).run P w =
   .ok (.slice (sO ⟨g,0,nO⟩) (n+m) cap) (w.setRow g (cur.toList.take (n*i.size)++news++cur.toList.drop (n*i.size+news.length)).toArray):=by
 obtain⟨ab,j⟩:=hx;have j:=j w rfl;have hz:(match tu with|.int _=>true|_=>false)=false:=by cases tu<;>first|rfl|exact absurd rfl (hnu _)
 have z:=run_storeCells_at P g (n*i.size) T news 0 cur w hg (by simpa using hfit) h1;simp only[Nat.add_zero]at z;simp[Builtin.append_,run_underlying ht,run_underlying hu,hz,sizeOf,typeInfo,hi,ab,j,hroom,Addr.add_lit,z]
theorem Zle{t u ty e:TypeId}{tu:TypeDesc}{i:TypeInfo}{z:Value}(ht:P.underlying t=sO (.slice e))(hu:P.underlying u=sO tu)(hnu:∀k,tu≠.int k)(hi:P.info? e=sO i)(hz':i.zero=sO z){base:Option Addr}{n cap m:Nat}{x:Value}{olds news:List Value}(hx:Za0 P w i.size m x news)(ho:∀w2:World,w2.heap=w.heap→(Builtin.firstCells i.size n (.slice base n cap)).run P w2=.ok olds.toArray w2)(hg:cap<n+m)(h63:((n+m:Nat):Int)≤9223372036854775807)(hfit:(n+m)*i.bytes≤140737488355328):
  (Builtin.append_ #[t,u] ty #[.slice base n cap,x]).run P w =
   .ok (.slice (sO ⟨w.heap.size,0,nO⟩) (n+m) (grownCap w (n+m) cap e))
    (w.drew.alloc (.cells (olds++news++(Builtin.zeroCells z.cells (grownCap w (n+m) cap e-(n+m))).toList).toArray e)):=by
 obtain⟨ad,j⟩:=hx;have j:=j w.drew rfl;have ho:=ho w.drew rfl;have hz:(match tu with|.int _=>true|_=>false)=false:=by cases tu<;>first|rfl|exact absurd rfl (hnu _)
 have hn:¬(n+m≤cap):=by omega
 have ab:¬(9223372036854775807<((n:Int)+(m:Int))):=by omega
 have hf:=growslice_fits hg hfit;have ac:¬(281474976710656<Builtin.nextslicecap (n+m) cap*i.bytes):=by omega
 simp[Builtin.append_,run_underlying ht,run_underlying hu,hz,sizeOf,typeInfo,zeroValue,hi,hz',ad,hn,ab,ac,Question.forced,j,ho,newRow,grownCap]
 congr 2
 apply Array.ext';simp[ZEA]
end
structure WJ(g:G)(w:World)(sz n:Nat)(vals:List Value)(row:Nat→List D):Prop where
 len:vals.length=n*sz
 rlen:∀i,i<n→(row i).length=sz
 rep:∀(i j:Nat) (v:Value) (d:D),i<n→j<sz→vals[i*sz+j]?=some v→(row i)[j]?=some d→Rep g w v d
 one:∀v∈vals,v.one1=true
def YG(n:Nat)(row row2:Nat→List D):Nat→List D:=fun i=>if i<n then row i else row2 (i-n)
theorem WJ.append{sz n m:Nat}{a b:List Value}{row row2:Nat→List D}(ha:WJ g w sz n a row)(hb:WJ g w sz m b row2):WJ g w sz (n+m) (a++b) (YG n row row2):={
 len:=by rw[ZD8,ha.len,hb.len,ZEo]
 rlen i hi:=by unfold YG;split;rename_i h;exact ha.rlen i h;exact hb.rlen (i-n) (by omega)
 rep i j v d hi hj hv hd:=by
  unfold YG at hd;split at hd;rename_i h;have:i*sz+j<a.length:=by rw[ha.len];have:=ZEi sz (show i+1≤n from h);rw[ZEo,Nat.one_mul]at this;omega
  rw[ZEt this]at hv;exact ha.rep i j v d h hj hv hd;rename_i h;have e:i*sz+j-a.length=(i-n)*sz+j:=by rw[ha.len,Nat.sub_mul];have:=ZEi sz (show n≤i by omega);omega
  have t:a.length≤i*sz+j:=by rw[ha.len];have:=ZEi sz (show n≤i by omega);omega
  rw[ZEH t,e]at hv;exact hb.rep (i-n) j v d (by omega) hj hv hd
 one v hv:=by
  rcases List.mem_append.1 hv with h|h;exact ha.one v h;exact hb.one v h }
theorem WJ.mono{g g':G}{w w':World}{sz n:Nat}{a:List Value}(h:WJ g w sz n a row)(e:Ext g w g' w'):WJ g' w' sz n a row :=
 ⟨h.len,h.rlen,fun i j v d hi hj hv hd=>(h.rep i j v d hi hj hv hd).mono e,h.one⟩
theorem Zan{b o:Nat}{cs:Array Value}{T:TypeId}{fr:Nat×Nat}(h:w.heap[b]?=sO (.cells cs T fr)):w.cell? ⟨b,o,nO⟩=cs[o]?:=by
 unfold World.cell?;simp[h]
section
variable {P:Program}
theorem Zhq{v:Value}{t:Tok}{n sz:Nat}(h:Rep g w v (.sl t n sz row))(hsz:0<sz):
  ∃vals,WJ g w sz n vals row∧Za0 P w sz n v vals:=by
 cases h with
 |sl0 a t s row ht =>refine⟨[],⟨by simp,fun i hi=>by omega,fun i j v d hi=>by omega,by simp⟩,fun w2=>by simp[Builtin.lenOf],fun w2 _=>by cases a<;>simp[Builtin.firstCells,loadCells,loadCellsFrom]⟩
 |sl b o n cap s row t f hl hc hp hr one ht hcap hb =>
  let vals:=(ZEa (n*sz)).map fun k=>f (k / sz) (k % sz);have hk:∀k,k<n*sz→k / sz<n∧k % sz<sz:=fun k hk=>⟨(Nat.div_lt_iff_lt_mul hsz).2 hk,Nat.mod_lt _ hsz⟩;have u:∀k v,vals[k]?=sO v→k<n*sz∧v=f (k / sz) (k % sz):=fun k v hv=>by simp only[vals,List.getElem?_map,ZD9]at hv;obtain⟨k',h1,h2⟩:=hv;obtain⟨h3,h4⟩:=List.getElem?_eq_some_iff.1 h1;simp only[List.getElem_range]at h4;subst h4;exact⟨by simpa using h3,h2.symm⟩
  refine⟨vals,⟨by simp[vals],hl,fun i j v d hi hj hv hd=>?_,fun v hv=>?_⟩,fun w2=>by simp[Builtin.lenOf],fun w2 ab=>?_⟩;obtain⟨_,rfl⟩:=u _ _ hv;have e1:(i*sz+j) / sz=i:=by rw[Nat.mul_comm,Nat.mul_add_div hsz,Nat.div_eq_of_lt hj,Nat.add_zero]
  have e2:(i*sz+j) % sz=j:=by rw[Nat.mul_comm,Nat.mul_add_mod,Nat.mod_eq_of_lt hj]
  rw[e1,e2];exact hr i j d hi hd;obtain⟨k,ac,rfl⟩:=ZEe hv;obtain⟨h1,h2⟩:=u k _ (ZEr ac);rw[h2];exact one _ _ (hk k h1).1 (hk k h1).2;refine run_firstCells_some (P:=P) w2 sz n ⟨b,o,nO⟩ n cap vals (by simp[vals]) fun k v hv=>?_;obtain⟨h1,h2⟩:=u k v hv;have z:(⟨b,o,nO⟩:Addr).add k=⟨b,o+k,nO⟩:=WW b o k;rw[z];have h3:=hc (k / sz) (k % sz) (hk k h1).1 (hk k h1).2;have e:o+k / sz*sz+k % sz=o+k:=by rw[Nat.add_assoc,Nat.mul_comm,Nat.div_add_mod]
  rw[e]at h3;rw[h2,←h3];unfold World.cell?;simp only[ab]
theorem Znl{sz n cap b:Nat}{vals:List Value}(h:WJ g w sz n vals row){cur:Array Value}{T:TypeId}(hb:w.heap[b]?=sO (.cells cur T (0,0)))(ht:cur.toList.take (n*sz)=vals)(hn:n≤cap)(hcap:cap*sz≤cur.size)(hp:g.prot b=n*sz)(hbig:cap≤big):Rep g w (.slice (sO ⟨b,0,nO⟩) n cap) (.sl (.tip b) n sz row):=by
 have u:∀i j,i<n→j<sz→i*sz+j<n*sz:=fun i j hi hj=>by have:=ZEi sz (show i+1≤n from hi);rw[ZEo,Nat.one_mul]at this;omega
 have hle:n*sz≤cur.size:=Nat.le_trans (ZEi sz hn) hcap;have t:∀i j,i<n→j<sz→cur[i*sz+j]?=sO (cur.getD (i*sz+j) undef)∧vals[i*sz+j]?=sO (cur.getD (i*sz+j) undef):=fun i j hi hj=>by
  have h1:=u i j hi hj;have h2:i*sz+j<cur.size:=by omega
  have e:cur[i*sz+j]?=sO (cur.getD (i*sz+j) undef):=by simp[Array.getD,h2]
  refine⟨e,?_⟩;rw[←ht,ZEC,if_pos h1,Array.getElem?_toList];exact e
 refine .sl b 0 n cap sz row (.tip b) (fun i j=>cur.getD (i*sz+j) undef) h.rlen (fun i j hi hj=>?_) (fun i j hi hj=>?_) (fun i j d hi hd=>?_) (fun i j hi hj=>?_) ⟨rfl,rfl,T,cur.size,?_,hcap⟩ hn hbig;rw[Zan hb,Nat.zero_add];exact(t i j hi hj).1;rw[hp,Nat.zero_add];exact u i j hi hj;have hj:j<sz:=by rw[←h.rlen i hi];exact(List.getElem?_eq_some_iff.1 hd).1
 exact h.rep i j _ d hi hj (t i j hi hj).2 hd;exact h.one _ (List.mem_of_getElem? (t i j hi hj).2);simp[hdr,hb]
end
def St.own(s:St)(t:Tok)(k:Nat):St :=
 match t with
 |.tip b=>s.upd b (.tip k)
 |_=>s
def Tok.okIn(t:Tok)(s:St):Prop :=
 match t with
 |.tip b=>s b=Option.none
 |.full=>True
 |.none=>False
theorem Y2{t:Tok}{k:Nat}(h:t.okIn s):s.sub (s.own t k):=by
 intro b o ho;cases t with
 |tip c =>simp only[St.own,ZEv];by_cases hb:b=c;subst hb;simp only[Tok.okIn]at h;rw[h]at ho;simp at ho;simp only[hb,if_false];exact ho
 |_=>exact ho
theorem Yh.upd(h:Yh g s w){b:Nat}{o:Z1}(ho:Wz g w b o)(hk:¬g.kept b):Yh g (s.upd b o) w:={
 obj c x hx:=by simp only[ZEv]at hx;by_cases hb:c=b;simp only[hb,if_true,ZDV]at hx;subst hx;rw[hb];exact ho;simp only[hb,if_false]at hx;exact h.obj c x hx
 kept c x hx:=by simp only[ZEv]at hx;by_cases hb:c=b;rw[hb];exact hk;simp only[hb,if_false]at hx;exact h.kept c x hx
 fresh:=h.fresh
 tabs:=h.tabs }
def Zb6(g:G)(b k:Nat):G:={ g with prot:=fun c=>if c=b then k else g.prot c }
theorem Zw9(c:Array Value)(T:TypeId)(k:Nat)(hf:∀b,w.heap.size≤b→g.prot b=0∧¬g.kept b):Jv g w (Zb6 g w.heap.size k) (w.drew.alloc (.cells c T)):={
 size:=by simp
 old b hb:=(by first|exact heap_alloc_old w.drew _ b hb|exact heap_alloc_old w.drew _ hb)
 prot b hb:=by simp[Zb6,show ¬b=w.heap.size by omega]
 fresh b hb:=by
  have:(w.drew.alloc (.cells c T)).heap.size=w.heap.size+1:=by simp
  rw[this]at hb;simp only[Zb6,show ¬b=w.heap.size by omega,if_false];exact(hf b (by omega)).1
 kept:=rfl
 os:=rfl
 output:=rfl
 tape:=rfl }
theorem Rep.slRow{v:Value}{t:Tok}{n sz:Nat}{row row':Nat→List D}(h:Rep g w v (.sl t n sz row))(hr:∀i,i<n→row' i=row i):Rep g w v (.sl t n sz row'):=by
 cases h with
 |sl0 a t s row ht=>exact .sl0 a t sz row' ht
 |sl b o n cap s row t f hl hc hp hrep one ht hcap hb =>exact .sl b o n cap sz row' t f (fun i hi=>by rw[hr i hi];exact hl i hi) hc hp (fun i j d hi hd=>hrep i j d hi (by rw[←hr i hi];exact hd)) one ht hcap hb
section
variable {P:Program}
theorem Zx7{sz k:Nat}{vals rest:List Value}{T:TypeId}{cap:Nat}(hs:Yh g s w)(hr:WJ g w sz k vals row)(hn:k≤cap)(hrest:vals.length+rest.length=cap*sz)(hbig:cap≤big):
  let w':=w.drew.alloc (.cells (vals++rest).toArray T);let g':=Zb6 g w.heap.size (k*sz)
  Jv g w g' w'∧Yh g' (s.own (.tip w.heap.size) (k*sz)) w'∧(Tok.tip w.heap.size).okIn s∧Rep g' w' (.slice (sO ⟨w.heap.size,0,nO⟩) k cap) (.sl (.tip w.heap.size) k sz row):=by
 intro w' g';have hg:Jv g w g' w':=Zw9 _ T _ hs.fresh;have i:w'.heap[w.heap.size]?=sO (.cells (vals++rest).toArray T (0,0)):=heap_alloc_new w.drew _;have hp:g'.prot w.heap.size=k*sz:=by simp[g',Zb6]
 have j:k*sz≤(vals++rest).toArray.size:=by have:=ZEi sz hn;simp only[List.size_toArray,ZD8];omega
 refine⟨hg,(hs.grow hg).upd ⟨hp,_,T,i,j⟩ (fun h=>(hs.fresh _ (ZEd _)).2 h),?_,?_⟩
 ·simp only[Tok.okIn];cases n:s w.heap.size with
  |none=>rfl
  |some o=>have:=(hs.obj _ o n).lt;omega
 refine Znl (hr.mono (hg.ext hs.fresh)) i ?_ hn ?_ hp hbig;rw[←hr.len];simp;simp only[List.size_toArray,ZD8];omega
theorem Zqs{t:Tok}{sz n m:Nat}{v1 v2:Value}{row row2:Nat→List D}{tT u ty e:TypeId}{tu:TypeDesc}{i:TypeInfo}{z:Value}(ht:P.underlying tT=sO (.slice e))(hu:P.underlying u=sO tu)(hnu:∀k,tu≠.int k)(hi:P.info? e=sO i)(hz:i.zero=sO z)(hsz:i.size=sz)(hzc:z.cells.size=sz)(h0:0<sz)(hs:Yh g (s.own t (n*sz)) w)(hok:t.okIn s)(h1:Rep g w v1 (.sl t n sz row)){news:List Value}(h2:WJ g w sz m news row2)(h3:Za0 P w sz m v2 news)(hb:(n+m)*i.bytes≤140737488355328)(hbig:n+m≤big):
  ∃v' w' g' t',(Builtin.append_ #[tT,u] ty #[v1,v2]).run P w=.ok v' w'∧Ext g w g' w'∧Yh g' (s.own t' ((n+m)*sz)) w'∧t'.okIn s∧Rep g' w' v' (.sl t' (n+m) sz (YG n row row2)) ∧
   (∀b,b<w.heap.size→t≠.tip b→w'.heap[b]?=w.heap[b]?∧g'.prot b=g.prot b)∧∀b,t'=.tip b→t=.tip b∨w.heap.size≤b:=by
 subst hsz;have ah:Yh g s w:=hs.sub (Y2 hok);obtain⟨ap,be,ho1,ax⟩:=Zhq (P:=P) h1 h0;have am:=be.append h2;have aj:∀ac cap,v1=.slice ac n cap→cap<n+m→∃v' w' g' t',(Builtin.append_ #[tT,u] ty #[v1,v2]).run P w=.ok v' w'∧Ext g w g' w'∧Yh g' (s.own t' ((n+m)*i.size)) w'∧t'.okIn s ∧
   Rep g' w' v' (.sl t' (n+m) i.size (YG n row row2))∧(∀b,b<w.heap.size→t≠.tip b→w'.heap[b]?=w.heap[b]?∧g'.prot b=g.prot b)∧∀b,t'=.tip b→t=.tip b∨w.heap.size≤b:=by
  intro ac cap hv bf;subst hv;have ag:=Zle (ty:=ty) ht hu hnu hi hz h3 ax bf (by simp only[big]at hbig;omega) hb;have a7:=grownCap_ge w (n+m) cap e;have au:=grownCap_le_maxLen w (n+m) cap e (by simp only[big]at hbig;simp only[maxLen];omega);have hn:=Zx7 (T:=e) (rest:=(Builtin.zeroCells z.cells (grownCap w (n+m) cap e-(n+m))).toList) ah am a7 (by
   simp only[Array.length_toList,size_zeroCells,hzc,am.len,←ZEo];congr 1;omega) (by simp only[maxLen]at au;simp only[big];omega)
  obtain⟨a1,a2,a3,a4⟩:=hn;exact⟨_,_,_,_,ag,a1.ext ah.fresh,a2,a3,a4,fun b hb _=>⟨a1.old b hb,a1.prot b hb⟩,fun b hb=>.inr (by simp only[Tok.tip.injEq]at hb;omega)⟩
 have ao:∀ac cap,v1=.slice ac n cap→m=0→n≤cap→∃v' w' g' t',(Builtin.append_ #[tT,u] ty #[v1,v2]).run P w=.ok v' w'∧Ext g w g' w'∧Yh g' (s.own t' ((n+m)*i.size)) w'∧t'.okIn s ∧
   Rep g' w' v' (.sl t' (n+m) i.size (YG n row row2))∧(∀b,b<w.heap.size→t≠.tip b→w'.heap[b]?=w.heap[b]?∧g'.prot b=g.prot b)∧∀b,t'=.tip b→t=.tip b∨w.heap.size≤b:=by
  intro ac cap hv hm au;subst hv;subst hm;have bb:news=[]:=List.eq_nil_of_length_eq_zero (by simpa using h2.len);subst bb;exact⟨_,_,g,t,ZoE (ty:=ty) ht hu hnu hi h3 au,Ext.refl g w,hs,hok,h1.slRow fun i hi=>by simp only[YG,if_pos (show i<n from hi)],fun _ _ _=>⟨rfl,rfl⟩,fun b hb=>.inl hb⟩
 cases h1 with
 |sl0 a t s row htt =>by_cases hm:m=0;exact ao a 0 rfl hm (ZEd _);exact aj a 0 rfl (by omega)
 |sl b o n cap sz row t f hl hc hp hr one htok hcap hb' =>
  have a9:=aj (sO ⟨b,o,nO⟩) cap rfl;have a8:=ao (sO ⟨b,o,nO⟩) cap rfl;by_cases hm:m=0;exact a8 hm hcap;by_cases ab:n+m≤cap;case neg=>exact a9 (by omega)
  cases t with
  |none=>exact hok.elim
  |full=>simp only[ZjI]at htok;omega
  |tip tb =>
   obtain⟨rfl,rfl,T0,m0,hh,hm0⟩:=htok;have a5:=hs.obj b (.tip (n*i.size)) (by simp[St.own,ZEv]);have ad:=hs.kept b (.tip (n*i.size)) (by simp[St.own,ZEv]);obtain⟨az,j,T,ae,hb2⟩:=a5;have av:cap*i.size≤j.size:=by simp only[hdr,ae,ZDV,ZD7]at hh;omega
   have a6:n*i.size+news.length≤j.size:=by rw[h2.len,←ZEo];exact Nat.le_trans (ZEi _ ab) av
   have ag:=Zqt (ty:=ty) ht hu hnu hi h3 ae (fun v hv=>by rw[ZcD];exact h2.one v hv) ab a6;have ak:∀k v,(j.toList.take (n*i.size))[k]?=sO v→w.cell? ((⟨b,0,nO⟩:Addr).add k)=sO v:=fun k v hv=>by rw[WW,Zan ae,Nat.zero_add];rw[ZEC]at hv;split at hv;simpa using hv;simp at hv
   have ay:ap=j.toList.take (n*i.size):=by have h:=run_firstCells_some (P:=P) w i.size n ⟨b,0,nO⟩ n cap (j.toList.take (n*i.size)) (by simp;omega) ak;rw[ax w rfl]at h;simpa using h
   generalize ar:j.toList.take (n*i.size)++news++j.toList.drop (n*i.size+news.length)=nw at ag;have aq:nw.length=j.size:=by rw[←ar];simp only[ZD8,ZEh,ZEx,Array.length_toList];omega
   have al:=setRow_heap w b j nw.toArray T (0,0) ae;have ai:∀c,c≠b→(w.setRow b nw.toArray).heap[c]?=w.heap[c]?:=fun c hc=>setRow_other w b c _ hc;have a0:(w.setRow b nw.toArray).heap.size=w.heap.size:=by simp[World.setRow]
   have bc:n*i.size≤(n+m)*i.size:=ZEi _ (by omega);have af:Ext g w (Zb6 g b ((n+m)*i.size)) (w.setRow b nw.toArray):=by
    refine⟨by omega,fun c=>?_,fun c o ho=>?_,fun c x hx=>?_,fun c hc=>ai c (fun h=>ad (h▸hc)),fun c hc=>?_,rfl,rfl,rfl,rfl⟩;simp only[Zb6];split;rename_i h;rw[h,az];exact bc;exact ZEd _;by_cases hc:c=b;subst hc;rw[Zan al,Zan ae];rw[az]at ho;have:o<(j.toList.take (n*i.size)).length:=by simp;omega
    rw[List.getElem?_toArray,←ar,ZEA,ZEt this,ZEC,if_pos ho];simp;exact Jb (ai c hc);by_cases hc:c=b;subst hc;simp only[hdr,ae]at hx;simp only[hdr,al,List.size_toArray,aq];exact hx;rw[Za3 (ai c hc)];exact hx;simp only[Zb6];split;rename_i h;exact absurd hc (h▸ad);rfl
   have aw:(Zb6 g b ((n+m)*i.size)).prot b=(n+m)*i.size:=by simp[Zb6]
   refine⟨_,_,Zb6 g b ((n+m)*i.size),.tip b,ag,af,?_,hok,?_,fun c _ hc=>?_,fun c hc=>.inl hc⟩;refine⟨fun c x hx=>?_,fun c x hx=>?_,fun c hc=>?_,fun n cs hc=>(ah.tabs n cs hc).mono af⟩;by_cases hc:c=b;subst hc;simp only[St.own,ZEv,if_true,ZDV]at hx;subst hx;refine⟨aw,_,T,al,?_⟩;simp only[List.size_toArray,aq];exact Nat.le_trans (ZEi _ ab) av;simp only[St.own,ZEv,hc,if_false]at hx;exact(ah.obj c x hx).mono af (ai c hc) (by simp[Zb6,hc]);by_cases hc:c=b;rw[hc];exact ad;simp only[St.own,ZEv,hc,if_false]at hx;exact ah.kept c x hx;rw[a0]at hc;have hbl:b<w.heap.size:=(Array.getElem?_eq_some_iff.1 ae).1;simp only[Zb6,show ¬c=b by omega,if_false];exact ah.fresh c hc;refine Znl (am.mono af) al ?_ ab (by simp only[List.size_toArray,aq];exact av) aw hb';have ba:(ap++news).length=(n+m)*i.size:=am.len;rw[←ar,ay,←ba,ay];exact List.take_left;have:c≠b:=fun h=>hc (by rw[h]);exact⟨ai c this,by simp[Zb6,this]⟩
end
end Go.DL
namespace Go.DL
open Go Go.Lib
variable [Zqj]
def Jd(s:Nat):D→Option (Nat×(Nat→List D))
 |.nilsl=>sO (0,fun _=>[])
 |.sl _ m s' row=>if s'=s then sO (m,row) else nO
 |.str l=>if s=1 then sO (l.length,fun i=>[.int .u8 ((l.getD i 0).toNat:Int)]) else nO
 |_=>nO
def ZbS(s:Nat):D→Option (Tok×Nat×(Nat→List D))
 |.nilsl=>sO (.full,0,fun _=>[])
 |.sl t n s' row=>if s'=s then sO (t,n,row) else nO
 |_=>nO
theorem Zgi{g:G}{w:World}{v:Value}{d:D}{sz n:Nat}{t:Tok}{row:Nat→List D}(h:Rep g w v d)(he:ZbS sz d=sO (t,n,row)):Rep g w v (.sl t n sz row):=by
 cases d<;>simp only[ZbS,reduceCtorEq]at he;simp only[ZDV,ZD7]at he;obtain⟨rfl,rfl,rfl⟩:=he;cases h;exact .sl0 _ _ _ _ (by simp);split at he<;>simp only[ZDV,ZD7,reduceCtorEq]at he;rename_i hs;obtain⟨rfl,rfl,rfl⟩:=he;subst hs;exact h
section
variable {P:Program}
theorem Zbz{op:Op}{e s b:Nat}{z:List D}{x y:Opd}(h:ck P op=sO (.append e s b z x y)) :
  ∃x' y' args ats t1 t2 tu,op=.call ⟨.builtin .append,args,ats⟩∧args.toList=[x',y']∧ats[0]?=sO t1∧ats[1]?=sO t2∧P.underlying t1=sO (.slice e)∧P.underlying t2=sO tu∧(∀k,tu≠.int k) ∧
   ZY P e=sO s∧Zai P e=sO z∧b=P.bytesOf e∧ZZ x'=sO x∧ZZ y'=sO y∧0<s∧z.length=s:=by
 unfold ck at h;split at h;simp at h;split at h<;>(try(simp at h;done));all_goals (try(repeat' (split at h<;>(try(simp at h;done)))))
 all_goals
  simp only[ZDV,K.append.injEq]at h;obtain⟨rfl,rfl,rfl,rfl,rfl,rfl⟩:=h
 rename_i c _ _ j _ _ _ e' x' y' h0 n _ _ _ _ s' z' l' c' u ac ad ab t2 el h1 i;obtain⟨t1,g1,g2⟩:=Option.bind_eq_some_iff.1 h0;obtain⟨t3,g3,g4⟩:=Option.bind_eq_some_iff.1 h1;simp only[ZD5,decide_eq_true_eq]at i;obtain⟨t,args,ats⟩:=c;simp only at j;subst j;exact⟨x',y',args,ats,t1,t3,_,rfl,n,g1,g3,g2,g4,fun k h=>by simp at h,u,ac,rfl,ad,ab,i.1,i.2⟩;rename_i c _ _ j _ _ _ e' x' y' h0 n _ _ _ _ s' z' l' c' u ac ad ab t2 h1 i;obtain⟨t1,g1,g2⟩:=Option.bind_eq_some_iff.1 h0;obtain⟨t3,g3,g4⟩:=Option.bind_eq_some_iff.1 h1;simp only[ZD5,decide_eq_true_eq]at i;obtain⟨t,args,ats⟩:=c;simp only at j;subst j;exact⟨x',y',args,ats,t1,t3,_,rfl,n,g1,g3,g2,g4,fun k h=>by simp at h,u,ac,rfl,ad,ab,i.1,i.2⟩
theorem Zlm{g:G}{w:World}{v:Value}{d:D}{sz m:Nat}{row:Nat→List D}(h:Rep g w v d)(he:Jd sz d=sO (m,row))(h0:0<sz):∃news,WJ g w sz m news row∧Za0 P w sz m v news:=by
 cases d with
 |nilsl =>simp only[Jd,ZDV,ZD7]at he;obtain⟨rfl,rfl⟩:=he;cases h;exact⟨[],⟨by simp,fun i hi=>by omega,fun i j v d hi=>by omega,by simp⟩,fun w2=>by simp[Builtin.lenOf],fun w2 _=>by simp[Builtin.firstCells]⟩
 |sl t n s' row' =>simp only[Jd]at he;split at he<;>simp only[ZDV,ZD7,reduceCtorEq]at he;rename_i hs;obtain⟨rfl,rfl⟩:=he;subst hs;exact Zhq h h0
 |str l =>
  simp only[Jd]at he;split at he<;>simp only[ZDV,ZD7,reduceCtorEq]at he;rename_i hs;obtain⟨rfl,rfl⟩:=he;subst hs;cases h with
  |str s _ hl hb =>
   subst hl;have u:s.size=s.data.toList.length:=by rw[Array.length_toList];rfl
   refine⟨strCells s,⟨by simp[strCells],fun i hi=>rfl,fun i j v d hi hj hv hd=>?_,fun v hv=>by rw[←ZcD];exact strCells_oneCell s v hv⟩,fun w2=>by simp only[Builtin.lenOf,Sem.run_pure,u],fun w2 _=>?_⟩;obtain rfl:j=0:=by omega
   simp only[Nat.mul_one,Nat.add_zero,strCells,List.getElem?_map,ZD9]at hv;obtain⟨b,z,rfl⟩:=hv;simp only[List.getElem?_cons_zero,ZDV]at hd;subst hd;have:s.data.toList.getD i 0=b:=by simp only[ZEb,z,ZEB]
   rw[this];exact .int .u8 _ (Zq9 b);rw[←u];exact run_firstCells_string w2 1 s
 |_=>simp[Jd]at he
theorem Zow{F:Fr P}{kp:Option (List Nat)}{dk:List Zh}{o:DOp}{os:List DOp}{ρ:Env}{L:Loc}{s:St}(hg:Zk ρ o.guard=sO true){e sz b:Nat}{z:List D}{x y:Opd}(hk:o.k=.append e sz b z x y)
  {p q:Prop} {t:Tok} {n m:Nat} {row row2:Nat→List D} {dy:D} {dx:D} (hx:ZE ρ true x=sO (p,.d dx)) (hsl:ZbS sz dx=sO (t,n,row)) (hy:ZE ρ true y=sO (q,.d dy)) (hp:p) (hq:q) (hel:Jd sz dy=sO (m,row2)) (hok:t.okIn s)
  (hb:(n+m)*b≤140737488355328) (hbig:n+m≤big) (h:∀t':Tok,t'.okIn s→DO F kp dk os (Zw ρ o.dst (.d (.sl t' (n+m) sz (YG n row row2)))) L (s.own t' ((n+m)*sz))) :
  DO F kp dk (o::os) ρ L (s.own t (n*sz)):=by
 refine Y9 fun oo g ν w tmps a8 i r k au ae aq af hd hN M hr aj=>?_;have hw:=Z9 M aq hg;have az:=Yg ae (by rw[hk];rfl);rw[hk]at ae;obtain⟨x',y',ai,aw,t1,t2,tu,ak,ab,av,a9,bg,ay,ap,am,hz,al,ar,ba,h0,hzl⟩:=Zbz ae;subst al;have bb:Rep g w _ (.sl t n sz row):=Zgi (Z7 M ar rfl hx hp F.ds) hsl;have bh:Rep g w _ _:=Z7 M ba rfl hy hq F.ds;obtain⟨zv,hz1,be,hz3,ie,j,bf⟩:=QH (g:=g) (w:=w) hz;have ad:ie.size=sz:=by simpa[ZY,j]using am
 have ac:zv.cells.size=sz:=by have:=be.len;simp at this;omega
 have a0:P.bytesOf e=ie.bytes:=by simp[Program.bytesOf,j]
 rw[a0]at hb;obtain⟨news,bc,ao⟩:=Zlm (P:=P) bh hel h0;obtain⟨v',w',g',t',a1,a2,a3,a4,a5,a6,a7⟩:=Zqs (ty:=oo.type) bg ay ap j bf ad ac h0 M.st hok bb bc ao hb hbig;have u:∀l cs,Ze L l=sO cs→t≠.tip (ν l):=fun l cs hl ht=>by have:=M.locSt l cs hl;rw[ht]at this;simp[St.own,ZEv]at this
 have ag:∀l cs,Ze L l=sO cs→s (ν l)=nO:=fun l cs hl=>by
  cases hx:s (ν l) with
  |none=>rfl
  |some o=>have:=Y2 (k:=n*sz) hok _ _ hx;rw[M.locSt l cs hl]at this;simp at this
 have mm:Zs g' ν w' tmps ρ L (s.own t' ((n+m)*sz)):=by
  refine⟨a3,fun l cs hl=>(M.loc l cs hl).mono a2 (a6 (ν l) (M.loc l cs hl).lt (u l cs hl)).1 (a6 (ν l) (M.loc l cs hl).lt (u l cs hl)).2,fun l cs hl=>by rw[a2.keptEq];exact M.locKept l cs hl,fun l cs hl=>?_,M.inj,fun t e he=>(M.env t e he).mono a2⟩;cases t' with
  |tip b =>
   have:¬ν l=b:=fun hb=>by rcases a7 b rfl with h1|h1;exact u l cs hl (by rw[hb];exact h1);have:=(M.loc l cs hl).lt;omega
   simp only[St.own,ZEv,this,if_false];exact ag l cs hl
  |_=>exact ag l cs hl
 refine YE hN au af hd hw az (v:=v') (w':=w') (e:=.d (.sl t' (n+m) sz (YG n row row2))) ?_ a2 mm a5 (h t' a4 a8 r k hr aj);have ax:ai = #[x',y']:=by apply Array.ext';simpa using ab
 have ah:∀vs,Builtin.append_ aw oo.type vs=Builtin.append_ #[t1,t2] oo.type vs:=fun vs=>by unfold Builtin.append_;simp[av,a9]
 unfold execOp;simp only[ak,ax,resolve,invoke,builtin,Sem.run_bind,Sem.run_pure,Result.andThen_ok,List.map_toArray,ZEc,ZEs,ah,a1]
theorem Zts{F:Fr P}{kp:Option (List Nat)}{dk:List Zh}{o:DOp}{fl:List Nat}{os:List (DOp×List Nat)}{ρ:Env}{L:Loc}{s:St}{B:List (Nat×Rd)}(hg:Zk ρ o.guard=sO true){e sz b:Nat}{z:List D}{x y:Opd}(hk:o.k=.append e sz b z x y)
  {p q:Prop} {t:Tok} {n m:Nat} {row row2:Nat→List D} {dy:D} {dx:D} (hx:ZE ρ true x=sO (p,.d dx)) (hsl:ZbS sz dx=sO (t,n,row)) (hy:ZE ρ true y=sO (q,.d dy)) (hp:p) (hq:q) (hel:Jd sz dy=sO (m,row2)) (hok:t.okIn s)
  (hb:(n+m)*b≤140737488355328) (hbig:n+m≤big) (h:∀t':Tok,t'.okIn s→Y0 fl (s.own t (n*sz)) (s.own t' ((n+m)*sz)) L L B∧DOA F kp dk os (Zw ρ o.dst (.d (.sl t' (n+m) sz (YG n row row2)))) L (s.own t' ((n+m)*sz)) (YO fl B)) :
  DOA F kp dk ((o,fl)::os) ρ L (s.own t (n*sz)) B:=by
 refine Zcq (fun e' s'=>∃t':Tok,t'.okIn s∧e'=.d (.sl t' (n+m) sz (YG n row row2))∧s'=s.own t' ((n+m)*sz)) (by rw[hk];rfl) (fun ρ' L' os' j i=>?_) (fun e2 s2 ⟨t',h1,h2,h3⟩=>by subst h2;subst h3;exact h t' h1);have h1:ZA ρ ρ' (ZS x):=fun t ht=>j t (by simp[ZB,hk,Yk,ht]);have h2:ZA ρ ρ' (ZS y):=fun t ht=>j t (by simp[ZB,hk,Yk,ht]);have h3:ZA ρ ρ' (Zdc o.guard):=fun t ht=>j t (by simp[ZB,ht]);exact Zow (by rw[YY h3];exact hg) hk (by rw[ZR h1];exact hx) hsl (by rw[ZR h2];exact hy) hp hq hel hok hb hbig fun t' u=>i _ _ ⟨t',u,rfl,rfl⟩
end
end Go.DL
namespace Go.DL
open Go
variable [Zqj]
variable {kp:Option (List Nat)}{L:Loc}{ρ:Env}{s:St}{w:World}{os:List DOp}{ds:List D}{B:List (Nat × Rd)}{dst:Option Nat}{tmps:Array Value}{g:G}{Φ:Res→St→Prop}{ν:Nat→Nat}{xs:List Opd}{side:Prop}{row:Nat→List D}
def ZuX(os:List DOp):List (DOp×List Nat):=os.map fun o=>(o,[])
section
variable {P:Program}
def ZaW(F:Fr P)(kp:Option (List Nat))(dk:List Zh)(os:List DOp)(ρ:Env)(L:Loc)(s:St):Prop:=∀B,DOA F kp dk (ZuX os) ρ L s B
theorem Ztx{F:Fr P}{order:List Nat}{ks:Option (List Nat)}{dk:List Zh}(h:ZaW F ks dk os ρ L s):Zv F (.code (.regD order (ZuX os) ks)::dk) ρ L s:=Zh2 (h [])
theorem Y8{F:Fr P}{ks:List Nat}{dk:List Zh}:∀{os:List DOp} {ρ:Env} {L:Loc} {s:St},
  Zik (fun ρ L s=>Zv F dk (Yj ρ ks) (ZaJ (Yj ρ ks) L) s) (fun os ρ L s=>ZaW F (sO ks) dk os ρ L s) os ρ L s→ZaW F (sO ks) dk os ρ L s
 | [],ρ,L,s,h=>fun B=>ZnD h
 |o::os,ρ,L,s,h=>by intro B;simp only[Zik]at h;split at h;rename_i sd ρ' L' s' i;refine QS i h.1 ?_;split;exact Y8 h.2 _;exact⟨Zb0,Y8 h.2 _⟩;rename_i sd pre ρ' s' i;exact ZnC i h.1 fun b hb=>⟨Zb0,Y8 (h.2 b hb) _⟩;exact h B
theorem ZlT{F:Fr P}{dk:List Zh}{o:DOp}(hg:Zk ρ o.guard=sO true){fx:Opd}(hk:o.k=.call fx xs){p q:Prop}{fd:D}{es:List E}(hf:ZE ρ true fx=sO (q,.d fd))(ha:Ya ρ true xs=sO (p,es))(hds:WX es=sO ds)(hp:p)(hq:q){Ψ:Res→St→Prop}(hc:WN P fd ds s Ψ)(hret:∀d s',Ψ (.ret d) s'→ZaW F kp dk os (Zw ρ o.dst (.d d)) L s')(hpan:∀d s',Ψ (.panic d) s'→YV F [] [] d s'):ZaW F kp dk (o::os) ρ L s :=
 fun B=>Zc4 hg hk hf ha hds hp hq hc (fun d s' h=>⟨Zb0,hret d s' h _⟩) hpan
theorem Zu4{F:Fr P}{dk:List Zh}{o:DOp}(hg:Zk ρ o.guard=sO true){fx:Opd}(hk:o.k=.call fx xs){p q:Prop}{fi:FuncId}{first caps:List D}{es:List E}(hf:ZE ρ true fx=sO (q,.d (.fn (.func fi) first caps)))(ha:Ya ρ true xs=sO (p,es))(hds:WX es=sO ds)(hp:p)(hq:q){Ψ:Res→St→Prop}(hc:Za P fi (first++ds++caps) s Ψ)(hret:∀d s',Ψ (.ret d) s'→ZaW F kp dk os (Zw ρ o.dst (.d d)) L s')(hpan:∀d s',Ψ (.panic d) s'→YV F [] [] d s'):ZaW F kp dk (o::os) ρ L s :=
 ZlT hg hk hf ha hds hp hq hc.V hret hpan
theorem Ztq{F:Fr P}{dk:List Zh}{o:DOp}(hg:Zk ρ o.guard=sO true){x:Opd}(hk:o.k=.panic x){p:Prop}{t:TypeId}{d:D}(ha:ZE ρ true x=sO (p,.d (.iface t d)))(hp:p)(h:YV F [] [] (.iface t d) s):ZaW F kp dk (o::os) ρ L s:=fun _=>Zov hg hk ha hp h
theorem Ztr{F:Fr P}{dk:List Zh}{o:DOp}(hg:Zk ρ o.guard=sO true){fx:Opd}(hk:o.k=.call fx xs){p q:Prop}{fi:FuncId}{first caps:List D}{es:List E}(hf:ZE ρ true fx=sO (q,.d (.fn (.func fi) first caps)))(ha:Ya ρ true xs=sO (p,es))(hds:WX es=sO ds)(hp:p)(hq:q){d:D}(hc:Zf P fi (first++ds++caps) d)(h:ZaW F kp dk os (Zw ρ o.dst (.d d)) L s):ZaW F kp dk (o::os) ρ L s:=fun _=>ZhZ hg hk hf ha hds hp hq hc (h _)
end
def QE(l b:Nat):E→E
 |.d v=>.d v
 |.loc l' off=>if l'=l then .d (.ptr b off) else .loc l' off
 |.when c e=>.when c (QE l b e)
def Jp(l b:Nat):Env→Env
 | []=>[]
 | (t,e)::r=>(t,QE l b e)::Jp l b r
def delL(l:Nat):Loc→Loc
 | []=>[]
 | (k,c)::r=>if k=l then delL l r else (k,c)::delL l r
theorem ZcT(l b:Nat):∀(ρ:Env) (t:Nat),ZM (Jp l b ρ) t=(ZM ρ t).map (QE l b)
 | [],t=>rfl
 | (k,e)::r,t=>by simp only[Jp,ZM];by_cases h:k=t;simp[h];simp only[h,if_false];exact ZcT l b r t
theorem Zcy(l:Nat):∀(L:Loc) (x:Nat),Ze (delL l L) x=if x=l then nO else Ze L x
 | [],x=>by simp[delL,Ze]
 | (k,c)::r,x=>by simp only[delL];by_cases h:k=l;simp only[h,if_true,Ze,Zcy l r x];by_cases hx:x=l;simp[hx];simp[hx,show ¬l=x from fun h=>hx h.symm];simp only[h,if_false,Ze,Zcy l r x];by_cases hx:x=l;subst hx;simp[h];simp[hx]
section
variable {P:Program}
theorem ZK.expose{l:Nat}{v:Value}{e:E}(h:ZK g ν w L v e):ZK g ν w (delL l L) v (QE l (ν l) e):=by
 induction e with
 |d x=>exact h
 |loc l' off =>obtain⟨⟨cs,i⟩,rfl⟩:=h;simp only[QE];split;rename_i hl;subst hl;exact Rep.ptr _ _;rename_i hl;exact⟨⟨cs,by rw[Zcy,if_neg hl];exact i⟩,rfl⟩
 |when c e ih=>exact⟨fun hc=>ih (h.1 hc),h.2⟩
theorem Zs.expose(m:Zs g ν w tmps ρ L s){l:Nat}{cs:List D}(hl:Ze L l=sO cs):
  s (ν l)=nO∧Zs g ν w tmps (Jp l (ν l) ρ) (delL l L) (s.upd (ν l) (.cells cs)):=by
 have j:∀l' i,Ze (delL l L) l'=sO i→l'≠l∧Ze L l'=sO i:=fun l' i h=>by rw[Zcy]at h;split at h;simp at h;exact⟨‹_›,h⟩
 refine⟨m.locSt l cs hl,⟨m.st.updL (o:=.cells cs) (m.loc l cs hl) (m.locKept l cs hl),fun l' i h=>m.loc l' i (j l' i h).2,fun l' i h=>m.locKept l' i (j l' i h).2,fun l' i h=>?_,fun a b ca cb ha hb n=>m.inj a b ca cb (j a ca ha).2 (j b cb hb).2 n,fun t e he=>?_⟩⟩;obtain⟨h1,h2⟩:=j l' i h;have:ν l'≠ν l:=fun hh=>h1 (m.inj l' l i cs h2 hl hh);simp only[ZEv,this,if_false];exact m.locSt l' i h2;rw[ZcT]at he;simp only[ZD9]at he;obtain⟨e0,h1,rfl⟩:=he;exact(m.env t e0 h1).expose
theorem ZcO{F:Fr P}{dk:List Zh}(l:Nat){cs:List D}(hl:Ze L l=sO cs)(h:∀b,s b=nO→Zv F dk (Jp l b ρ) (delL l L) (s.upd b (.cells cs))):Zv F dk ρ L s:=by
 intro k hk g ν w tmps hN m;obtain⟨h1,h2⟩:=m.expose hl;exact h (ν l) h1 k hk g ν w tmps hN h2
def Ws:List Nat→List D→Env→Env
 |t::ts,a::as9,ρ=>Ws ts as9 ((t,.d a)::ρ)
 |_,_,ρ=>ρ
def Zi1(P:Program)(c:Frame)(cs:List Frame)(Φ:Res→St→Prop):ZtA P where
 T g w m:=∃e w',Zge g w Φ e w'∧Zzc P m c cs e w'
 back g w m m' hs h:=by
  obtain⟨e,w',a,b⟩:=h;refine⟨e,w',a,?_⟩;cases e with
  |returned v=>exact Steps.trans hs b
  |panicked ch=>exact Steps.trans hs b
  |outgrown=>exact b.elim
 ext g w g' w' m hx h:=by obtain⟨e,w2,⟨g2,s2,r,d1,d2,d3,d4⟩,b⟩:=h;exact⟨e,w2,⟨g2,s2,r,hx.trans d1,d2,d3,d4⟩,b⟩
def ZaP(P:Program)(an:Ann)(fn:FuncId)(N l:Nat)(c:Frame)(cs:List Frame)(Φ:Res→St→Prop):Fr P where
 T:=Zi1 P c cs Φ
 b:={ (dE:Frame) with fn,kind:=.normal,roundOf:=sO l }
 cs:=c::cs
 N:=N
 ds:=[]
 an:=an
def KI(F:Fr P)(l:Nat)(Φ:Res→St→Prop):Prop:=∃an fn N c cs,F=ZaP P an fn N l c cs Φ
theorem QQ{r:Nat}{o:Go.Loop}(hb:w.heap[r]?=sO (.loop o)):(getObj r).run P w=.ok (.loop o) w:=by
 simp[getObj,Sem.run,hb]
theorem Zcd{r:Nat}{o:Obj}{o':Go.Loop}(hb:w.heap[r]?=sO (.loop o')):(setObj r o).run P w=.ok () { w with heap:=w.heap.setIfInBounds r o }:=by
 simp[setObj,Sem.run,hb]
theorem Zz6{b:Nat}{o':Obj}(o:Obj)(hb:w.heap[b]?=sO o'):({ w with heap:=w.heap.setIfInBounds b o }:World).heap[b]?=sO o:=by
 have:=(Array.getElem?_eq_some_iff.1 hb).1;simp[Array.getElem?_setIfInBounds,this]
theorem Zs.loopTo(m:Zs g ν w tmps ρ L s){l:Nat}{r:We}{st st':LSt}(hs:s l=sO (.loop r st)){lp:Go.Loop}(hh:w.heap[l]?=sO (.loop lp))(lp':Go.Loop)(h1:lp'.fn=lp.fn∧lp'.params=lp.params∧lp'.assign=lp.assign∧lp'.body=lp.body∧lp'.defers=lp.defers∧lp'.tmps=lp.tmps)(h2:match st' with|.ready=>lp'.state=.ready∧lp'.pending=nO|.busy=>lp'.state=.busy|.done j=>lp'.state=.done∧lp'.pending=sO j):
  Ext g w g { w with heap:=w.heap.setIfInBounds l (.loop lp') }∧Zs g ν { w with heap:=w.heap.setIfInBounds l (.loop lp') } tmps ρ L (s.upd l (.loop r st')):=by
 obtain⟨hp,l0,a1,a2,a3,a4,a5,a6,a7,a8,a9⟩:=m.st.obj l _ hs;rw[hh]at a1;simp only[ZDV,Obj.loop.injEq]at a1;subst a1;obtain⟨b1,b2,b3,b4,b5,b6⟩:=h1;have he:=ZbV (g:=g) (w:=w) l (.loop lp') (by simp[hdr,hh]) hp (m.st.kept l _ hs);refine⟨he,m.named hs he (by simp) (fun c hc=>Jk _ hc) ⟨hp,lp',Zz6 _ hh,by rw[b1,a2],by rw[b2,a3],by rw[b3,a4],by rw[b4,a5],by rw[b5,a6],by rw[b6];exact a7,fun t e ht=>by rw[b6];exact(a8 t e ht).mono he,h2⟩⟩
theorem KI.begin{F:Fr P}{l:Nat}(hF:KI F l Φ){dk:List Zh}{r:We}(hs:s l=sO (.loop r .ready))(h:Zv F dk ρ L (s.upd l (.loop r .busy))):Zv F (.beginR::dk) ρ L s:=by
 obtain⟨an,fn,N,c,cs,rfl⟩:=hF;intro k hk;cases hk with
 |beginR ht =>
  intro g ν w tmps hN m;obtain⟨hp,l0,a1,a2,a3,a4,a5,a6,a7,a8,a9,a10⟩:=m.st.obj l _ hs;obtain⟨he,m'⟩:=m.loopTo (st':=.busy) hs a1 { l0 with state:=.busy } ⟨rfl,rfl,rfl,rfl,rfl,rfl⟩ rfl;have i:(Instr.beginRound l).run P w=.ok () { w with heap:=w.heap.setIfInBounds l (.loop { l0 with state:=.busy }) }:=by simp[Instr.beginRound,Instr.getLoop,QQ a1,Zcd a1,a9]
  refine(Zi1 P c cs Φ).back _ _ _ _ (.one (stepR_beginRound rfl i)) ?_;exact(Zi1 P c cs Φ).ext _ _ _ _ _ he (h _ ht g ν _ tmps hN m')
theorem Zeq{l:Nat}{l0:Go.Loop}(h:w.heap[l]?=sO (.loop l0))(j:Option Code):
  (Instr.endRound l j).run P w=.ok (.bool j.isNone) { w with heap:=w.heap.setIfInBounds l (.loop { l0 with state:=if j.isNone then .ready else .done,pending:=j }) }:=by
 simp[Instr.endRound,Instr.getLoop,QQ h,Zcd h]
theorem KI.fin{F:Fr P}{l:Nat}(hF:KI F l Φ){s s':St}{r:We}(hs:s l=sO (.loop r .busy))(hsub:s'.sub (s.upd l (.loop r .ready)))(hΦ:Φ (.ret (.bool true)) s'):Zv F [] ρ L s:=by
 obtain⟨an,fn,N,c,cs,rfl⟩:=hF;intro k hk;cases hk;intro g ν w tmps hN m;obtain⟨hp,l0,a1,_⟩:=m.st.obj l _ hs;obtain⟨he,m'⟩:=m.loopTo (st':=.ready) hs a1 { l0 with state:=.ready,pending:=nO } ⟨rfl,rfl,rfl,rfl,rfl,rfl⟩ ⟨rfl,rfl⟩;exact⟨.returned (.bool true),_,⟨g,s',.ret (.bool true),he,m'.st.sub hsub,.bool true,hΦ⟩,.one (stepR_round_end rfl rfl (Zeq a1 nO))⟩
theorem KI.ret{F:Fr P}{l:Nat}(hF:KI F l Φ){dk:List Zh}{s s':St}{r:We}(hs:s l=sO (.loop r .busy))(hsub:s'.sub (s.upd l (.loop r (.done .ret))))(hΦ:Φ (.ret (.bool false)) s'):
  Zv F (.code .ret::dk) ρ L s:=by
 obtain⟨an,fn,N,c,cs,rfl⟩:=hF;intro k hk;cases hk with
 |code hc ht =>obtain rfl:=ZqA hc;intro g ν w tmps hN m;obtain⟨hp,l0,a1,_⟩:=m.st.obj l _ hs;obtain⟨he,m'⟩:=m.loopTo (st':=.done .ret) hs a1 { l0 with state:=.done,pending:=sO .ret } ⟨rfl,rfl,rfl,rfl,rfl,rfl⟩ ⟨rfl,rfl⟩;exact⟨.returned (.bool false),_,⟨g,s',.ret (.bool false),he,m'.st.sub hsub,.bool false,hΦ⟩,.one (stepR_round_ret rfl rfl (Zeq a1 (sO .ret)))⟩
theorem KI.exit{F:Fr P}{l id:Nat}(hF:KI F l Φ){dk:List Zh}{s s':St}{r:We}(hx:Qv id dk=nO)(hs:s l=sO (.loop r .busy))(hsub:s'.sub (s.upd l (.loop r (.done (.exit id)))))(hΦ:Φ (.ret (.bool false)) s'):Zv F (.code (.exit id)::dk) ρ L s:=by
 obtain⟨an,fn,N,c,cs,rfl⟩:=hF;intro k hk;cases hk with
 |code hc ht =>obtain rfl:=ZsJ hc;intro g ν w tmps hN m;obtain⟨hp,l0,a1,_⟩:=m.st.obj l _ hs;obtain⟨he,m'⟩:=m.loopTo (st':=.done (.exit id)) hs a1 { l0 with state:=.done,pending:=sO (.exit id) } ⟨rfl,rfl,rfl,rfl,rfl,rfl⟩ ⟨rfl,rfl⟩;exact⟨.returned (.bool false),_,⟨g,s',.ret (.bool false),he,m'.st.sub hsub,.bool false,hΦ⟩,.one (stepR_round_exit rfl rfl (ZaG ht hx) (Zeq a1 (sO (.exit id))))⟩
theorem KI.pan{F:Fr P}{l:Nat}(hF:KI F l Φ){d:D}{s s':St}(hsub:s'.sub s)(hΦ:Φ (.panic d) s')(hfn:∀an fn N c cs,F=ZaP P an fn N l c cs Φ→∃f,P.funcs[fn]?=sO f):YV F ρ L d s:=by
 obtain⟨an,fn,N,c,cs,rfl⟩:=hF;intro g ν w v i tmps hN m hr;obtain⟨f,hf⟩:=hfn an fn N c cs rfl;refine⟨.panicked [{ v,recovered:=false }],w,⟨g,s',.panic d,Ext.refl g w,m.st.sub hsub,⟨v,rfl,hr⟩,hΦ⟩,.one ?_⟩;exact step_leave_panicked (P:=P) (fr:={ (ZaP P an fn N l c cs Φ).b.atR ⟨tmps,[]⟩ i with mode:=.panicking [{ v,recovered:=false }] }) ⟨rfl,rfl,f,hf⟩
theorem Zhm{g:G}{ν:Nat→Nat}{w:World}{L:Loc}{s:St}{N:Nat}:∀{ps:List Nat} {ds:List D} {vs:List Value} {tmps:Array Value} {ρ:Env},Zs g ν w tmps ρ L s→ZJ (Rep g w) vs ds→ds.length=ps.length→(∀t∈ps,t<N)→N≤tmps.size →
  N≤((ps.zip vs).foldl (fun tmps (x:Nat×Value)=>tmps.setIfInBounds x.1 x.2) tmps).size∧Zs g ν w ((ps.zip vs).foldl (fun tmps (x:Nat×Value)=>tmps.setIfInBounds x.1 x.2) tmps) (Ws ps ds ρ) L s
 | [],_,_,tmps,ρ,m,_,_,_,hN=>by simpa[Ws]using⟨hN,m⟩
 |t::ps,[],_,tmps,ρ,m,_,hl,_,_=>by simp at hl
 |t::ps,d::ds,v::vs,tmps,ρ,m,.cons h1 h2,hl,hp,hN=>by have m':=m.put (t:=t) (v:=v) (e:=.d d) (by have:=hp t (by simp);omega) h1;simpa[Ws]using Zhm m' h2 (by simpa using hl) (fun u hu=>hp u (by simp[hu])) (by simpa using hN)
def Qy:Env→Env
 | []=>[]
 | (t,e)::r=>if (WU e).isEmpty then (t,e)::Qy r else Qy r
def WG(ks:List Nat)(ρ:Env):Env:=Qy (Yj ρ ks)
theorem ZdQ:∀{ρ:Env} {t:Nat} {e:E},(ρ.map (·.1)).Nodup→ZM (Qy ρ) t=sO e→ZM ρ t=sO e∧WU e=[]
 | [],t,e,_,h=>by simp[Qy,ZM]at h
 | (k,x)::r,t,e,hn,h=>by
  simp only[ZEc,List.nodup_cons]at hn;simp only[Qy]at h;split at h;rename_i hx;simp only[ZM]at h⊢;by_cases hk:k=t;simp only[hk,if_true,ZDV]at h⊢;subst h;exact⟨rfl,by simpa using hx⟩;simp only[hk,if_false]at h⊢;exact ZdQ hn.2 h;obtain⟨h1,h2⟩:=ZdQ hn.2 h;refine⟨?_,h2⟩;have i:k≠t:=fun hk=>by subst hk;have:=ZfW h1;exact hn.1 (List.mem_map.2 ⟨_,this,rfl⟩)
  simp only[ZM,i,if_false];exact h1
theorem ZmW{ν ν':Nat→Nat}{L L':Loc}{v:Value}{e:E}(h:ZK g ν w L v e)(hl:WU e=[]):ZK g ν' w L' v e:=by
 induction e with
 |d x=>exact h
 |loc l o=>simp[WU]at hl
 |when c e ih=>exact⟨fun hc=>ih (h.1 hc) hl,h.2⟩
def Fr.mark(F:Fr P)(q:Nat):Fr P:={ F with ds:=DD.def (.mark q)::F.ds }
theorem ZgI{b:Frame}{a:Act}{k:List Item}{cs:List Frame}{g:Operand}{ps:Array Tmp}{assign body:Code}{l:Nat}{mark:List Deferred}{w₁:World}{d:Deferred}{nx:Next}{fr:Frame}(he:(Instr.enterLoop b.fn a.tmps ps assign body b.roundOf).run P w=.ok (l,mark) w₁)(hres:(Deferred.ofValue (a.eval g) #[.func (.yield l) #[] #[]]).run P w₁=.ok d w₁)(hinv:(invoke d.target d.args).run P w₁=.ok nx w₁)(hnx:Zfo P nx=sO fr):
  step P (lone (b.atR a (.code (.rangeFunc g ps assign body)::k)) cs w) =
   .next (lone fr (b.atR { a with defers:=mark++a.defers } (.inRangeFunc l::k)::cs) w₁) :=
 step_lone_go (by
  have j:=Frame.eval_atR b { a with defers:=mark++a.defers } (.inRangeFunc l::k);simp only[Frame.atR]at j;have i:Sem.run P (resolve ({ tmps:=a.tmps,defers:=mark++a.defers }:Act).eval { callee:=.value g,args:=#[.const (.func (.yield l) #[] #[])],argTypes:=#[] } 0) w₁=.ok d w₁:=by
   simp only[resolve];have e1:({ tmps:=a.tmps,defers:=mark++a.defers }:Act).eval g=a.eval g:=by cases g<;>rfl
   have e2:Array.map ({ tmps:=a.tmps,defers:=mark++a.defers }:Act).eval #[Operand.const (Value.func (Fn.yield l) #[] #[])] = #[.func (.yield l) #[] #[]]:=by simp[Act.eval]
   rw[e1,e2];exact hres
  cases nx<;>simp only[Zfo,ZDV,reduceCtorEq]at hnx<;>subst hnx <;>
   simp[stepG,stepG.exec,Frame.atR,Sem.runT_eq,he,GStep.bare_after,stepG.apply,j,Sem.run_bind,i,hinv,Result.andThen])
def Zh6(F:Fr P)(l:Nat)(r:We)(dk:List Zh)(ρ:Env)(L:Loc)(s':St):Prop :=
 (s' l=sO (.loop r .ready)∧Zv F dk ρ L (s'.del l))∨∃j dj,s' l=sO (.loop r (.done j))∧cc P F.an F.N j=sO dj∧Zv F (.code dj::dk) ρ L (s'.del l)
theorem Zkz{l:Nat}{l0:Go.Loop}(h:w.heap[l]?=sO (.loop l0))(hb:l0.state≠.busy):
  (Instr.endLoop l).run P w=.ok l0.pending { w with heap:=w.heap.setIfInBounds l (.loop { l0 with state:=.exhausted }) }:=by
 have:(l0.state==.busy)=false:=by cases hs:l0.state<;>first|rfl|exact absurd hs hb
 simp[Instr.endLoop,Instr.getLoop,QQ h,Zcd h,hb]
theorem ZmU{F:Fr P}{l:Nat}{r:We}{dk:List Zh}{k:List Item}{s':St}(hk:Wo P F.an F.N k dk)(hN:F.N≤tmps.size)(m:Zs g ν w tmps ρ L s')(h:Zh6 F l r dk ρ L s'):F.T.T g w (lone (F.b.atR ⟨tmps,F.ds⟩ (.endRangeFunc l::k)) F.cs w):=by
 rcases h with ⟨hs,h⟩|⟨j,dj,hs,hj,h⟩;obtain⟨hp,l0,a1,a2,a3,a4,a5,a6,a7,a8,a9,n⟩:=m.st.obj l _ hs;have he:=ZbV (g:=g) (w:=w) l (.loop { l0 with state:=.exhausted }) (by simp[hdr,a1]) hp (m.st.kept l _ hs);have m':=m.drop hs he (by simp) (fun c hc=>Jk _ hc);have i:(Instr.endLoop l).run P w=.ok nO { w with heap:=w.heap.setIfInBounds l (.loop { l0 with state:=.exhausted }) }:=by rw[Zkz a1 (by rw[a9];simp)];simp[n]
 refine F.T.back _ _ _ _ (.one (stepR_endRangeFunc i)) ?_;exact F.T.ext _ _ _ _ _ he (h k hk g ν _ tmps hN m');obtain⟨hp,l0,a1,a2,a3,a4,a5,a6,a7,a8,a9,n⟩:=m.st.obj l _ hs;have he:=ZbV (g:=g) (w:=w) l (.loop { l0 with state:=.exhausted }) (by simp[hdr,a1]) hp (m.st.kept l _ hs);have m':=m.drop hs he (by simp) (fun c hc=>Jk _ hc);have i:(Instr.endLoop l).run P w=.ok (sO j) { w with heap:=w.heap.setIfInBounds l (.loop { l0 with state:=.exhausted }) }:=by rw[Zkz a1 (by rw[a9];simp)];simp[n]
 refine F.T.back _ _ _ _ (.one (stepR_endRangeFunc i)) ?_;exact F.T.ext _ _ _ _ _ he (h _ (.code hj hk) g ν _ tmps hN m')
theorem YK.mark{F:Fr P}{rs:List RV}{dds:List DD}(hF:YK F rs Φ dds)(q:Nat):YK (F.mark q) rs Φ (.mark q::dds):=by
 obtain⟨an,f,df,cs,hf,i,rfl⟩:=hF;exact⟨an,f,df,cs,hf,i,rfl⟩
theorem YK.roundOf{F:Fr P}{rs:List RV}{dds:List DD}(hF:YK F rs Φ dds):F.b.roundOf=nO:=by
 obtain⟨an,f,df,cs,hf,hrs,rfl⟩:=hF;rfl
end
section
variable {P:Program}
theorem Zvj{op:Op}{f:Opd}(h:ck P op=sO (.defer f xs)):∃f' args ats,op=.defer ⟨.value f',args,ats⟩∧ZZ f'=sO f∧ZbT args.toList=sO xs:=by
 unfold ck at h;split at h;simp at h;split at h<;>(try(simp at h;done));all_goals (try(repeat' (split at h<;>(try(simp at h;done)))))
 simp at h;obtain⟨rfl,rfl⟩:=h;rename_i c _ _ f' i _ _ f xs hf j;obtain⟨callee,args,ats⟩:=c;simp only at i;exact⟨f',args,ats,by rw[i],hf,j⟩
def Fr.defer(F:Fr P)(i:FuncId)(args caps:List D):Fr P:={ F with ds:=DD.def (.fn i args caps)::F.ds }
theorem YK.defer{F:Fr P}{rs:List RV}{dds:List DD}(hF:YK F rs Φ dds)(i:FuncId)(args caps:List D):YK (F.defer i args caps) rs Φ (.fn i args caps::dds):=by
 obtain⟨an,f,df,cs,hf,j,rfl⟩:=hF;exact⟨an,f,df,cs,hf,j,rfl⟩
theorem Zk2{F:Fr P}(hround:F.b.roundOf=nO){dk:List Zh}{o:DOp}(hg:o.guard=nO)(hdn:o.dst=nO){fx:Opd}(hk:o.k=.defer fx xs){p q:Prop}{i:FuncId}{first caps:List D}{es:List E}(hf:ZE ρ true fx=sO (q,.d (.fn (.func i) first caps)))(ha:Ya ρ true xs=sO (p,es))(hds:WX es=sO ds)(hp:p)(hq:q)(hr1:Za9 (first++ds))(hr2:Za9 caps)(h:DO (F.defer i (first++ds) caps) kp dk os ρ L s):DO F kp dk (o::os) ρ L s:=by
 refine Y9 fun oo g ν w tmps n j r k ab ag ap z hd hN m hr ai=>?_;have hw:=Z9 m ap (c:=true) (by rw[hg];rfl);rw[hk]at ag;obtain⟨f',args,ats,ak,ao,aj⟩:=Zvj ag;have af:Rep g w _ _:=Z7 m ao rfl hf hq F.ds;have u:=KD (ZbD m rfl F.ds aj ha hp) hds;generalize aq:(Act.mk tmps F.ds).eval f'=fv at af;cases af with
 |fn _ fs cs' _ _ hn1 hn2 h1 h2 =>
 obtain⟨al,ac,_,ha2⟩:=ZbE hr1;obtain⟨vs,ae,_,hv2⟩:=ZbE hr2;have e1:fs++args.toList.map (Act.mk tmps F.ds).eval=al:=Zj9 ((Yf hn1 h1).append u) ac;have e2:cs'=vs:=Zj9 (Yf hn2 h2) ae;have hmap:(Array.map (Act.mk tmps F.ds).eval args)=(args.toList.map (Act.mk tmps F.ds).eval).toArray:=by apply Array.ext';simp
 have am:DD.def (.fn i (first++ds) caps)={ target:=.fn (.func i) cs'.toArray,args:=fs.toArray++(args.toList.map (Act.mk tmps F.ds).eval).toArray }:=by simp only[DD.def,ae,ac,e2,←e1];simp
 have ad:(execOp (Act.mk tmps F.ds).eval oo).run P w=.ok (.defer (DD.def (.fn i (first++ds) caps))) w:=by rw[am];simp[execOp,ak,resolve,aq,Deferred.ofValue]
 have t:step P (lone (F.b.atR ⟨tmps,F.ds⟩ (.inRegion n (j::r)::k)) F.cs w)=.next (lone (F.b.atR ⟨tmps,(F.defer i (first++ds) caps).ds⟩ (.inRegion n r::k)) F.cs w):=by
  refine step_lone_go ?_;rw[stepGR_op ab hw,hround,Oper.semAt_none];have ah:(F.b.atR ⟨tmps,(F.defer i (first++ds) caps).ds⟩ (.inRegion n (j::r)::k)).finish undef=F.b.atR ⟨tmps,(F.defer i (first++ds) caps).ds⟩ (.inRegion n r::k):=by rw[Frame.finish_atR,ab];simp[Act.put,z,hdn]
  rw[←ah];simp[stepG.apply,ad,Frame.atR,Fr.defer]
 refine F.T.back _ _ _ _ (.one t) ?_;exact h n r k hr ai g ν w tmps hN m
def ZiZ:D→Prop
 |.iface _ (.agg cs)=>Za9 cs
 |.iface _ d=>ZeG d
 |_=>False
theorem Zpe{d:D}(h:ZiZ d):∃v,(∀g w,Rep g w v d)∧∀g w v',Rep g w v' d→v'=v:=by
 cases d<;>simp[ZiZ]at h;rename_i t d;by_cases hd:∃cs,d=.agg cs
 ·obtain⟨cs,rfl⟩:=hd;obtain⟨vs,h1,h2,h3⟩:=ZbE h;refine⟨.iface t (.agg vs.toArray),fun g w=>.iface t _ _ (.agg vs cs (h3 g w).len (h3 g w).get h2),fun g w v' hr=>?_⟩;cases hr with
  |iface _ v _ hv =>
   cases hv with
   |agg vs' _ hn hg _=>rw[Zj9 (Yf hn hg) h1]
 have h':ZeG d:=by cases d<;>simp at h<;>first|exact h|exact absurd ⟨_,rfl⟩ hd
 obtain⟨v,h1,h2,h3⟩:=Zpd h';refine⟨.iface t v,fun g w=>.iface t _ _ (h3 g w),fun g w v' hr=>?_⟩;cases hr with
 |iface _ v'' _ hv=>rw[Ztl hv h1]
def QC(m:Option D)(v:Value)(rec:Bool):FrameMode :=
 match m with
 |none=>.returning
 |some _=>.panicking [{ v,recovered:=rec }]
def Zd6(P:Program)(cf:Frame)(cs:List Frame)(Ψ:Bool→St→Prop):ZtA P where
 T g w m:=∃g' w' s' b,Ext g w g' w'∧Yh g' s' w'∧Ψ b s'∧Steps P m (lone { cf with mode:=if b then .returning else cf.mode } cs w')
 back g w m m' hs h:=let ⟨g',w',s',b,a1,a2,a3,a4⟩:=h;⟨g',w',s',b,a1,a2,a3,Steps.trans hs a4⟩
 ext g w g' w' m hx h:=let ⟨g2,w2,s',b,a1,a2,a3,a4⟩:=h;⟨g2,w2,s',b,hx.trans a1,a2,a3,a4⟩
def YX(P:Program)(an:Ann)(f:FuncId)(N:Nat)(cf:Frame)(cs:List Frame)(Ψ:Bool→St→Prop)(m:Option D)(v:Value)(rec:Bool):Fr P where
 T:=Zd6 P cf cs Ψ
 b:={ (dE:Frame) with fn:=f,kind:=.deferred,roundOf:=nO }
 cs:={ cf with mode:=QC m v rec }::cs
 N:=N
 ds:=[]
 an:=an
def J9(F:Fr P)(m:Option D)(Ψ:Bool→St→Prop)(rec:Bool):Prop :=
 ∃an f df cf cs v,Go.DL.cf P an f=sO df∧df.res=[]∧cf.mode=QC m v false∧(∀d,m=sO d→∀g w,Rep g w v d)∧F=YX P an f df.n cf cs Ψ m v rec
theorem ZbI{an:Ann}{i:FuncId}{N:Nat}{rs:List RV}{b:DC}(hf:cf P an i=sO ⟨N,rs,b⟩)(hres:rs=[]){args:List D}{m:Option D}{Ψ:Bool→St→Prop}(hm:∀d,m=sO d→ZiZ d)(h:∀F:Fr P,J9 F m Ψ false→Zv F [.code b] (KL 0 args) [] s):Ju P i args m s Ψ:=by
 have ag:=hf;unfold cf at hf;split at hf<;>(try(simp at hf;done));rename_i fn ac;split at hf<;>(try(simp at hf;done));rename_i c hc;split at hf<;>(try(simp at hf;done));rename_i u;split at hf<;>simp at hf;rename_i rs d hrs hd;obtain⟨rfl,rfl,rfl⟩:=hf;refine⟨⟨fn,ac,by simp[hc],by simpa using u⟩,fun g w vs j cs hs ha n=>?_⟩;obtain⟨v,z,ae⟩:∃v,j.mode=QC m v false∧∀d,m=sO d→∀g w,Rep g w v d:=by
  cases m with
  |none=>exact⟨undef,n,fun d hd=>by simp at hd⟩
  |some d =>obtain⟨v,h1,h2⟩:=n;obtain⟨v',r1,r2⟩:=Zpe (hm d rfl);have:=r2 g w v h2;subst this;exact⟨v,h1,fun d' ab=>by simp only[ZDV]at ab;subst ab;exact r1⟩
 have af:({ j with mode:=QC m v false }:Frame)=j:=by rw[←z]
 have t:Frame.enter P i vs.toArray .deferred=(YX P an i fn.ntmps j cs Ψ m v false).b.atR { tmps:=vs.toArray++Array.replicate (fn.ntmps-vs.length) undef,defers:=[] } [.code c]:=by simp[Frame.enter,Frame.atR,ac,hc,YX]
 have:=h _ ⟨an,i,_,j,cs,v,ag,hres,z,ae,rfl⟩ [.code c] (.code hd .nil) g (fun _=>0) w (vs.toArray++Array.replicate (fn.ntmps-vs.length) undef) (by simp[YX];omega) (ZfX hs ha _);obtain⟨g',w',s',b,a1,a2,a3,a4⟩:=this;refine⟨g',w',s',b,a1,a2,a3,?_⟩;rw[t];have ad:(YX P an i fn.ntmps j cs Ψ m v false).cs=j::cs:=by simp only[YX,af]
 rw[ad]at a4;exact a4
theorem J9.end{F:Fr P}{m:Option D}{Ψ:Bool→St→Prop}{rec:Bool}(hF:J9 F m Ψ rec){s s':St}(hs:s'.sub s)(hΨ:Ψ (m.isNone ||rec) s'){todo:List Item}(M:Zs g ν w tmps ρ L s):F.T.T g w (lone { F.b.atR ⟨tmps,F.ds⟩ todo with mode:=.returning } F.cs w):=by
 obtain⟨an,f,df,i,cs,v,hf,z,j,hrep,rfl⟩:=hF;unfold cf at hf;split at hf<;>(try(grind;done));rename_i fn ac;split at hf<;>(try(grind;done));split at hf<;>(try(grind;done));split at hf<;>simp at hf;rename_i rs d ab hd;subst hf;cases z;obtain⟨rv,n,_⟩:=ZmY M ab (p:=True) (ds:=[]) rfl trivial;refine⟨g,w,s',m.isNone ||rec,Ext.refl g w,M.st.sub hs,hΨ,?_⟩;have t:=step_going_returned (P:=P) (fr:={ (YX P an f fn.ntmps i cs Ψ m v rec).b.atR ⟨tmps,[]⟩ todo with mode:=.returning }) (c:={ i with mode:=QC m v rec }) (cs:=cs) (w:=w) rfl ⟨rfl,rfl,fn,ac,n⟩;have u:({ ({ i with mode:=QC m v rec }:Frame) with mode:=settle (QC m v rec) }:Frame)={ i with mode:=if (m.isNone ||rec) then .returning else i.mode }:=by
  cases m with
  |none=>rfl
  |some d =>cases rec;simp[j];rfl;rfl
 rw[u]at t;exact .one t
theorem J9.fin{F:Fr P}{m:Option D}{Ψ:Bool→St→Prop}{rec:Bool}(hF:J9 F m Ψ rec){s s':St}(hs:s'.sub s)(hΨ:Ψ (m.isNone ||rec) s'):Zv F [] ρ L s:=by
 have j:=hF;obtain⟨an,f,df,i,cs,v,hf,hres,hmode,hrep,rfl⟩:=hF;intro k hk;cases hk;intro g ν w tmps hN M;refine(Zd6 P i cs Ψ).back _ _ _ _ (.one (stepR_end rfl)) ?_;exact j.end hs hΨ M
theorem J9.ret{F:Fr P}{m:Option D}{Ψ:Bool→St→Prop}{rec:Bool}(hF:J9 F m Ψ rec){dk:List Zh}{s s':St}(hs:s'.sub s)(hΨ:Ψ (m.isNone ||rec) s'):Zv F (.code .ret::dk) ρ L s:=by
 have j:=hF;obtain⟨an,f,df,i,cs,v,hf,hres,hmode,hrep,rfl⟩:=hF;intro k hk;cases hk with
 |code hc ht =>obtain rfl:=ZqA hc;intro g ν w tmps hN M;refine(Zd6 P i cs Ψ).back _ _ _ _ (.one (stepR_ret rfl)) ?_;exact j.end hs hΨ M
theorem ZgV{op:Op}(h:ck P op=sO .recover):∃args ats,op=.call ⟨.builtin .recover,args,ats⟩:=by
 unfold ck at h;split at h;simp at h;split at h<;>(try(simp at h;done));all_goals (try(repeat' (split at h<;>(try(simp at h;done)))))
 rename_i c _ _ i;obtain⟨callee,args,ats⟩:=c;simp only at i;exact⟨args,ats,by rw[i]⟩
theorem ZlW{F:Fr P}{d:D}{Ψ:Bool→St→Prop}(hF:J9 F (sO d) Ψ false){dk:List Zh}{o:DOp}(hg:o.guard=nO)(hk:o.k=.recover)(h:∀F':Fr P,J9 F' (sO d) Ψ true→DO F' kp dk os (Zw ρ o.dst (.d d)) L s):DO F kp dk (o::os) ρ L s:=by
 obtain⟨an,f,df,i,cs,v,hf,ai,ad,u,rfl⟩:=hF;refine Y9 fun oo g ν w tmps t j r k af ac am ae hd hN m hr aj=>?_;have hw:=Z9 m am (c:=true) (by rw[hg];rfl);have al:=Yg ac (by rw[hk];rfl);rw[hk]at ac;obtain⟨args,ats,ak⟩:=ZgV ac;have ag:(execOp (Act.mk tmps []).eval oo).run P w=.ok .recover w:=by simp[execOp,ak,resolve,invoke,builtin]
 have z:step P (lone ((YX P an f df.n i cs Ψ (sO d) v false).b.atR ⟨tmps,[]⟩ (.inRegion t (j::r)::k)) (YX P an f df.n i cs Ψ (sO d) v false).cs w) =
   .next (lone ((YX P an f df.n i cs Ψ (sO d) v true).b.atR ((Act.mk tmps []).put oo.dst v) (.inRegion t r::k)) (YX P an f df.n i cs Ψ (sO d) v true).cs w):=by
  refine step_lone_go ?_;rw[stepGR_op af hw,Oper.semAt_eq _ _ _ al];have ah:((YX P an f df.n i cs Ψ (sO d) v false).b.atR ⟨tmps,[]⟩ (.inRegion t (j::r)::k)).finish v=(YX P an f df.n i cs Ψ (sO d) v true).b.atR ((Act.mk tmps []).put oo.dst v) (.inRegion t r::k):=by rw[Frame.finish_atR,af];rfl
  rw[←ah];simp[stepG.apply,ag,Frame.atR,YX,tryRecover,QC]
 refine(Zd6 P i cs Ψ).back _ _ _ _ (.one z) ?_;obtain⟨ab,e1,e2,m'⟩:=ZeE m hN hd (v:=v) (e:=.d d) (u d rfl g w) [];rw[ae,e1];exact h _ ⟨an,f,df,i,cs,v,hf,ai,ad,u,rfl⟩ t r k hr aj g ν w ab e2 m'
theorem ZfC{F:Fr P}{Ψ:Bool→St→Prop}{rec:Bool}(hF:J9 F nO Ψ rec){dk:List Zh}{o:DOp}(hg:o.guard=nO)(hk:o.k=.recover)(h:DO F kp dk os (Zw ρ o.dst (.d .niliface)) L s):DO F kp dk (o::os) ρ L s:=by
 obtain⟨an,f,df,i,cs,v,hf,hres,hmode,hrep,rfl⟩:=hF;refine Y9 fun oo g ν w tmps t j r k ac ab ai hdst hd hN m hr af=>?_;have hw:=Z9 m ai (c:=true) (by rw[hg];rfl);have ah:=Yg ab (by rw[hk];rfl);rw[hk]at ab;obtain⟨args,ats,ag⟩:=ZgV ab;have ad:(execOp (Act.mk tmps []).eval oo).run P w=.ok .recover w:=by simp[execOp,ag,resolve,invoke,builtin]
 have u:step P (lone ((YX P an f df.n i cs Ψ nO v rec).b.atR ⟨tmps,[]⟩ (.inRegion t (j::r)::k)) (YX P an f df.n i cs Ψ nO v rec).cs w) =
   .next (lone ((YX P an f df.n i cs Ψ nO v rec).b.atR ((Act.mk tmps []).put oo.dst .nilIface) (.inRegion t r::k)) (YX P an f df.n i cs Ψ nO v rec).cs w):=by
  refine step_lone_go ?_;rw[stepGR_op ac hw,Oper.semAt_eq _ _ _ ah];have ae:((YX P an f df.n i cs Ψ nO v rec).b.atR ⟨tmps,[]⟩ (.inRegion t (j::r)::k)).finish .nilIface=(YX P an f df.n i cs Ψ nO v rec).b.atR ((Act.mk tmps []).put oo.dst .nilIface) (.inRegion t r::k):=by rw[Frame.finish_atR,ac];rfl
  rw[←ae];simp[stepG.apply,ad,Frame.atR,YX,tryRecover,QC]
 refine(Zd6 P i cs Ψ).back _ _ _ _ (.one u) ?_;obtain⟨z,e1,e2,m'⟩:=ZeE m hN hd (v:=.nilIface) (e:=.d .niliface) .niliface [];simp_all;exact h t r k hr af g ν w z e2 m'
end
theorem Zzz(n:Int):inR .i64 n↔-9223372036854775808≤n∧n≤9223372036854775807:=by
 simp[inR,IntKind.min,IntKind.max,IntKind.signed,IntKind.bits]
theorem ZAg(n:Int):inR .u8 n↔0≤n∧n≤255:=by
 simp[inR,IntKind.min,IntKind.max,IntKind.signed,IntKind.bits]
theorem ZzA(n:Int):inR .u32 n↔0≤n∧n≤4294967295:=by
 simp[inR,IntKind.min,IntKind.max,IntKind.signed,IntKind.bits]
theorem ZzB(n:Int):inR .u64 n↔0≤n∧n≤18446744073709551615:=by
 simp[inR,IntKind.min,IntKind.max,IntKind.signed,IntKind.bits]
theorem Zzy(n:Int):inR .i32 n↔-2147483648≤n∧n≤2147483647:=by
 simp[inR,IntKind.min,IntKind.max,IntKind.signed,IntKind.bits]
theorem ZyC(a b:Bool):(if a=true then b else false)=(a&&b):=by cases a<;>rfl
theorem ZzD(a b:Bool):(if a=true then true else b)=(a ||b):=by cases a<;>rfl
theorem Zzj{d d':D}(h:d=d'):(KM [d]).Le d':=h▸ZDZ d
theorem Zd4{b b':Bool}(h:b=b'):(KM [.bool b]).Le (.bool b'):=h▸ZDZ _
theorem Zgd{k:IntKind}{n m:Int}(h:n=m):(KM [.int k n]).Le (.int k m):=h▸ZDZ _
theorem Zzl{l m:List UInt8}(h:l=m):(KM [.str l]).Le (.str m):=h▸ZDZ _
theorem K0{l:List D}{d:D}(h:.tup l=d)(hl:KM l=.tup l):(KM l).Le d:=by rw[hl,h];exact ZDZ _
theorem St.upd_same(s:St)(b:Nat)(o:Z1):(s.upd b o) b=sO o:=by simp[ZEv]
theorem St.upd_ne(s:St){b c:Nat}(o:Z1)(h:c≠b):(s.upd b o) c=s c:=by simp[ZEv,h]
theorem St.upd_upd(s:St)(b:Nat)(o o':Z1):(s.upd b o).upd b o'=s.upd b o':=by
 funext c;simp only[ZEv];by_cases h:c=b<;>simp[h]
theorem St.upd_comm(s:St){b c:Nat}(o o':Z1)(h:c≠b):(s.upd b o).upd c o'=(s.upd c o').upd b o:=by
 funext x;simp only[ZEv];by_cases h1:x=b;subst h1;simp[Ne.symm h];simp[h1]
theorem St.sub_upd{b:Nat}(o:Z1)(h:s b=nO):s.sub (s.upd b o):=fun c x hx=>by
 have:c≠b:=fun hc=>by rw[hc,h]at hx;simp at hx
 rw[St.upd_ne s o this];exact hx
theorem St.sub_trans{s s' s'':St}(h:s.sub s')(h':s'.sub s''):s.sub s'':=fun b o ho=>h' b o (h b o ho)
inductive DWf:D→Prop where
 |int (k:IntKind) (n:Int) (h:inR k n):DWf (.int k n)
 |str (l:List UInt8) (h:l.length≤big):DWf (.str l)
 |agg (cs:List D) (h:∀c∈cs,DWf c):DWf (.agg cs)
 |tup (cs:List D) (h:∀c∈cs,DWf c):DWf (.tup cs)
 |sl (t:Tok) (n s:Nat) (row:Nat→List D) (h:n≤big) (hl:∀i,i<n→(row i).length=s) (hr:∀i,i<n→∀c∈row i,DWf c):DWf (.sl t n s row)
 |ep (cs:List D) (o:Nat) (h:∀c∈cs,DWf c):DWf (.ep cs o)
 |iface (t:TypeId) (d:D) (h:DWf d):DWf (.iface t d)
 |msl (b o n cap s:Nat) (h:n≤cap) (h':cap≤big):DWf (.msl b o n cap s)
 |fn (f:Fn) (a b:List D) (h:∀c∈a,DWf c) (h':∀c∈b,DWf c):DWf (.fn f a b)
 |other (d:D) (h:match d with|.int .. |.str _|.agg _|.tup _|.sl .. |.ep .. |.iface .. |.msl .. |.fn ..=>False|_=>True):DWf d
theorem ZbP{Q:D→Prop}{vs:List Value}(hn:vs.length=ds.length)(h:∀(i:Nat) (v:Value) (d:D),vs[i]?=sO v→ds[i]?=sO d→Q d):∀c∈ds,Q c:=by
 intro c hc;obtain⟨i,hi,rfl⟩:=ZEe hc;exact h i (vs[i]'(by omega)) _ (by simp[show i<vs.length by omega]) (by simp[hi])
theorem Rep.wf{v:Value}{d:D}(h:Rep g w v d):DWf d:=by
 induction h with
 |int k n h=>exact .int k n h
 |str s l h hb=>exact .str l hb
 |agg vs cells hn _ _ ih=>exact .agg _ (ZbP hn ih)
 |tup vs ds hn _ ih=>exact .tup _ (ZbP hn ih)
 |sl0 a t s row ht=>exact .sl t 0 s row (Nat.zero_le _) (fun i hi=>by omega) (fun i hi=>by omega)
 |sl b o n cap s row t f hl hc hp _ one ht hcap hb ih =>refine .sl t n s row (by omega) hl fun i hi c u=>?_;obtain⟨j,hj,rfl⟩:=ZEe u;exact ih i j _ hi (by simp[hj])
 |ep b o off cells f hc hp _ one ih =>refine .ep _ _ fun c u=>?_;obtain⟨j,hj,rfl⟩:=ZEe u;exact ih j _ (by simp[hj])
 |iface t v d _ ih=>exact .iface t d ih
 |msl b off n cap s h hb=>exact .msl _ _ _ _ _ h hb
 |mslx a b off s=>exact .msl _ _ _ _ _ (ZEd _) (Nat.zero_le _)
 |fn f fs cs df dc hnf hnc _ _ ihf ihc=>exact .fn f df dc (ZbP hnf ihf) (ZbP hnc ihc)
 |_=>exact .other _ trivial
theorem DWf.int_inv{k:IntKind}{n:Int}(h:DWf (.int k n)):inR k n:=by
 cases h with
 |int _ _ h=>exact h
 |other _ h=>exact h.elim
theorem DWf.str_inv{l:List UInt8}(h:DWf (.str l)):l.length≤big:=by
 cases h with
 |str _ h=>exact h
 |other _ h=>exact h.elim
theorem DWf.agg_inv{cs:List D}(h:DWf (.agg cs)):∀c∈cs,DWf c:=by
 cases h with
 |agg _ h=>exact h
 |other _ h=>exact h.elim
theorem DWf.sl_inv{t:Tok}{n s:Nat}(h:DWf (.sl t n s row)):n≤big∧(∀i,i<n→(row i).length=s)∧∀i,i<n→∀c∈row i,DWf c:=by
 cases h with
 |sl _ _ _ _ h1 h2 h3=>exact⟨h1,h2,h3⟩
 |other _ h=>exact h.elim
theorem Zx6{vs:List Value}(h:ZJ (Rep g w) vs ds):∀d∈ds,DWf d:=ZbP h.len fun i v d hv hd=>(h.get i v d hv hd).wf
section
variable {P:Program}
theorem ZhY{f:FuncId}{args:List D}(hf:∃fn,P.funcs[f]?=sO fn∧fn.body.isSome=true∧(fn.name == "runtime.NumGoroutine")=false)(h:(∀a∈args,DWf a)→Za P f args s Φ):Za P f args s Φ :=
 ⟨hf,fun g w vs hs ha=>(h (Zx6 ha)).2 g w vs hs ha⟩
theorem ZpQ{an:Ann}{f:FuncId}{df:DF}(hf:cf P an f=sO df):∃fn,P.funcs[f]?=sO fn∧fn.body.isSome=true∧(fn.name == "runtime.NumGoroutine")=false:=by
 unfold cf at hf;split at hf<;>(try(simp at hf;done));rename_i fn j;split at hf<;>(try(simp at hf;done));rename_i c hc;split at hf<;>(try(simp at hf;done));rename_i i;exact⟨fn,j,by simp[hc],by simpa using i⟩
theorem JT{an:Ann}{f:FuncId}{N:Nat}{rs:List RV}{b:DC}(hf:cf P an f=sO ⟨N,rs,b⟩){args:List D}(h:(∀a∈args,DWf a)→∀F:Fr P,YK F rs Φ []→Zv F [.code b] (KL 0 args) [] s):Za P f args s Φ :=
 ZhY (ZpQ hf) fun hw=>Zd hf (h hw)
theorem YS{an:Ann}{f:FuncId}{N:Nat}{rs:List RV}{b:DC}(hf:cf P an f=sO ⟨N,rs,b⟩){args:List D}{d:D}(h:(∀a∈args,DWf a)→∀(F:Fr P) (s:St),(∀{dk:List Zh} {ρ:Env} {L:Loc} {s':St} {p:Prop} {ds:List D},Yt ρ L s' rs=sO (p,ds)→p→(KM ds).Le d→s.sub s'→Zv F (.code .ret::dk) ρ L s') →
   Zv F [.code b] (KL 0 args) [] s):Zf P f args d :=
 fun s=>ZhY (ZpQ hf) fun hw=>Zd hf fun F hF=>h hw F s fun h1 h2 h3 h4=>hF.ret d s h1 h2 h3 h4 ⟨rfl,rfl⟩
theorem Zx2{F:Fr P}{dk:List Zh}(t:Nat){d:D}(ht:ZM ρ t=sO (.d d))(h:DWf d→Zv F dk ρ L s):Zv F dk ρ L s :=
 fun k hk g ν w tmps hN m=>h (Rep.wf (m.env t _ ht)) k hk g ν w tmps hN m
end
section
variable {P:Program}
def ZP(P:Program)(f:FuncId)(args:List D)(s:St)(d:D)(s':St):Prop:=Za P f args s fun r t=>r=.ret d∧t=s'
theorem QT{F:Fr P}{dk:List Zh}{o:DOp}{s s':St}(hg:Zk ρ o.guard=sO true){fx:Opd}(hk:o.k=.call fx xs){p q:Prop}{f:FuncId}{first caps:List D}{es:List E}(hf:ZE ρ true fx=sO (q,.d (.fn (.func f) first caps)))(ha:Ya ρ true xs=sO (p,es))(hds:WX es=sO ds)(hp:p)(hq:q){d:D}(hc:ZP P f (first++ds++caps) s d s')(h:DO F kp dk os (Zw ρ o.dst (.d d)) L s'):DO F kp dk (o::os) ρ L s :=
 Zgb hg hk hf ha hds hp hq hc (fun d' t ⟨h1,h2⟩=>by simp only[Res.ret.injEq]at h1;subst h1;subst h2;exact h) (fun d' t ⟨h1,_⟩=>by simp at h1)
theorem Zh0{F:Fr P}{dk:List Zh}{o:DOp}{f:List Nat}{os:List (DOp×List Nat)}{s s':St}{B:List (Nat×Rd)}(hg:Zk ρ o.guard=sO true){fx:Opd}(hk:o.k=.call fx xs){p q:Prop}{fi:FuncId}{first caps:List D}{es:List E}(hf:ZE ρ true fx=sO (q,.d (.fn (.func fi) first caps)))(ha:Ya ρ true xs=sO (p,es))(hds:WX es=sO ds)(hp:p)(hq:q){d:D}(hc:ZP P fi (first++ds++caps) s d s')(hB:Y0 f s s' L L B)(h:DOA F kp dk os (Zw ρ o.dst (.d d)) L s' (YO f B)):DOA F kp dk ((o,f)::os) ρ L s B :=
 ZgP hg hk hf ha hds hp hq hc (fun d' t ⟨h1,h2⟩=>by simp only[Res.ret.injEq]at h1;subst h1;subst h2;exact⟨hB,h⟩) (fun d' t ⟨h1,_⟩=>by simp at h1)
theorem Zva{F:Fr P}{dk:List Zh}{o:DOp}{s s':St}(hg:Zk ρ o.guard=sO true){fx:Opd}(hk:o.k=.call fx xs){p q:Prop}{f:D}{es:List E}(hf:ZE ρ true fx=sO (q,.d f))(ha:Ya ρ true xs=sO (p,es))(hds:WX es=sO ds)(hp:p)(hq:q){d:D}(hc:WN P f ds s fun r t=>r=.ret d∧t=s')(h:DO F kp dk os (Zw ρ o.dst (.d d)) L s'):DO F kp dk (o::os) ρ L s :=
 Zed hg hk hf ha hds hp hq hc (fun d' t ⟨h1,h2⟩=>by simp only[Res.ret.injEq]at h1;subst h1;subst h2;exact h) (fun d' t ⟨h1,_⟩=>by simp at h1)
theorem Zf.le{f:FuncId}{args:List D}{d d':D}(h:Zf P f args d)(e:d=d'):Zf P f args d':=e▸h
end
inductive LeC:List D→List D→Prop where
 |nil:LeC [] []
 |cons {d d':D} {l l':List D} (h:d.Le d') (t:LeC l l'):LeC (d::l) (d'::l')
theorem LeC.refl(l:List D):LeC l l:=by
 induction l with
 |nil=>exact .nil
 |cons d l ih=>exact .cons (ZDZ d) ih
theorem LeC.len{l l':List D}(h:LeC l l'):l.length=l'.length:=by
 induction h with
 |nil=>rfl
 |cons _ _ ih=>simp[ih]
theorem LeC.get{l l':List D}(h:LeC l l'){i:Nat}{d':D}(hi:l'[i]?=sO d'):∃d,l[i]?=sO d∧d.Le d':=by
 induction h generalizing i with
 |nil=>simp at hi
 |cons h _ ih =>
  cases i with
  |zero=>simp at hi;subst hi;exact⟨_,rfl,h⟩
  |succ i=>exact ih (by simpa using hi)
theorem Zzi{cs cs':List D}(h:LeC cs cs'):(D.agg cs).Le (.agg cs'):=by
 intro g w v hv;cases hv with
 |agg vs _ hn hr one=>exact .agg vs _ (hn.trans h.len) (fun i v d' hv hd=>by obtain⟨d,h1,h2⟩:=h.get hd;exact h2 _ _ _ (hr i v d hv h1)) one
theorem Zx4{cs cs':List D}(h:LeC cs cs'):(D.tup cs).Le (.tup cs'):=by
 intro g w v hv;cases hv with
 |tup vs _ hn hr=>exact .tup vs _ (hn.trans h.len) (fun i v d' hv hd=>by obtain⟨d,h1,h2⟩:=h.get hd;exact h2 _ _ _ (hr i v d hv h1))
theorem Zx3{t:Tok}{n s:Nat}:(D.sl t n s row).Le (.sl .none n s row):=by
 intro g w v hv;cases hv with
 |sl0 _ _ _ _ ht=>exact .sl0 _ _ _ _ (by simp)
 |sl b o n cap s row t f hl hc hp hr one ht hcap hb=>exact .sl b o n cap s row _ f hl hc hp hr one trivial hcap hb
theorem Zzk{t:Tok}{n s:Nat}{row row':Nat→List D}(h:∀i,i<n→LeC (row i) (row' i)):(D.sl t n s row).Le (.sl t n s row'):=by
 intro g w v hv;cases hv with
 |sl0 _ _ _ _ ht=>exact .sl0 _ _ _ _ ht
 |sl b o n cap s row t f hl hc hp hr one ht hcap hb =>exact .sl b o n cap s _ _ f (fun i hi=>(h i hi).len.symm.trans (hl i hi)) hc hp (fun i j d hi hd=>by obtain⟨d',h1,h2⟩:=(h i hi).get hd;exact h2 _ _ _ (hr i j d' hi h1)) one ht hcap hb
theorem Kk{s:Nat}{t:Tok}(ht:∀b,t≠.tip b):D.nilsl.Le (.sl t 0 s row):=by
 intro g w v hv;cases hv;exact .sl0 _ _ _ _ ht
theorem D.Le.trans{a b c:D}(h:a.Le b)(h':b.Le c):a.Le c:=fun g w v hv=>h' g w v (h g w v hv)
theorem ZtB{t:Tok}{n n' s:Nat}{row row':Nat→List D}(hn:n=n')(h:∀i,i<n→row i=row' i):(D.sl t n s row).Le (.sl .none n' s row'):=by
 subst hn;exact Zx3.trans (Zzk fun i hi=>by rw[h i hi];exact LeC.refl _)
inductive Zqf:E→E→Prop where
 |d {x y:D} (h:x.Le y):Zqf (.d x) (.d y)
 |refl (e:E):Zqf e e
inductive LeE:Env→Env→Prop where
 |nil:LeE [] []
 |cons {t:Nat} {e e':E} {ρ ρ':Env} (h:Zqf e e') (r:LeE ρ ρ'):LeE ((t,e)::ρ) ((t,e')::ρ')
 |skip {t:Nat} {e:E} {ρ ρ':Env} (r:LeE ρ ρ'):LeE ((t,e)::ρ) ((t,e)::ρ')
inductive LeL:Loc→Loc→Prop where
 |nil:LeL [] []
 |cons {t:Nat} {c c':List D} {ρ ρ':Loc} (h:LeC c c') (r:LeL ρ ρ'):LeL ((t,c)::ρ) ((t,c')::ρ')
 |skip {t:Nat} {c:List D} {ρ ρ':Loc} (r:LeL ρ ρ'):LeL ((t,c)::ρ) ((t,c)::ρ')
theorem LeE.get{ρ ρ':Env}(h:LeE ρ ρ'){t:Nat}{e':E}(he:ZM ρ' t=sO e'):∃e,ZM ρ t=sO e∧Zqf e e':=by
 induction h with
 |nil=>simp[ZM]at he
 |cons h _ ih =>simp only[ZM]at he⊢;split at he;simp at he;subst he;rename_i ht;rw[if_pos ht];exact⟨_,rfl,h⟩;rename_i ht;rw[if_neg ht];exact ih he
 |skip _ ih =>simp only[ZM]at he⊢;split at he;simp at he;subst he;rename_i ht;rw[if_pos ht];exact⟨_,rfl,.refl _⟩;rename_i ht;rw[if_neg ht];exact ih he
theorem LeL.get{ρ ρ':Loc}(h:LeL ρ ρ'){t:Nat}{e':List D}(he:Ze ρ' t=sO e'):∃e,Ze ρ t=sO e∧LeC e e':=by
 induction h with
 |nil=>simp[Ze]at he
 |cons h _ ih =>simp only[Ze]at he⊢;split at he;simp at he;subst he;rename_i ht;rw[if_pos ht];exact⟨_,rfl,h⟩;rename_i ht;rw[if_neg ht];exact ih he
 |skip _ ih =>simp only[Ze]at he⊢;split at he;simp at he;subst he;rename_i ht;rw[if_pos ht];exact⟨_,rfl,LeC.refl _⟩;rename_i ht;rw[if_neg ht];exact ih he
theorem LeL.getI{ρ ρ':Loc}(h:LeL ρ ρ'){t:Nat}{e:List D}(he:Ze ρ t=sO e):∃e',Ze ρ' t=sO e':=by
 induction h with
 |nil=>simp[Ze]at he
 |cons h _ ih =>simp only[Ze]at he⊢;split at he;rename_i ht;rw[if_pos ht];exact⟨_,rfl⟩;rename_i ht;rw[if_neg ht];exact ih he
 |skip _ ih =>simp only[Ze]at he⊢;split at he;rename_i ht;rw[if_pos ht];exact⟨_,rfl⟩;rename_i ht;rw[if_neg ht];exact ih he
theorem YQ.le{b:Nat}{ds ds':List D}(h:YQ g w b ds)(hl:LeC ds ds'):YQ g w b ds':=by
 obtain⟨hp,vs,T,h1,h2,h3,h4⟩:=h;exact⟨hp,vs,T,h1,h2.trans hl.len,fun i v d' hv hd=>by obtain⟨d,e1,e2⟩:=hl.get hd;exact e2 _ _ _ (h3 i v d hv e1),h4⟩
theorem ZK.le{v:Value}{e e':E}(h:ZK g ν w L v e)(hl:Zqf e e'):ZK g ν w L v e':=by
 cases hl with
 |refl=>exact h
 |d hd=>exact hd _ _ _ h
theorem Zs.le{ρ ρ':Env}{L L':Loc}(m:Zs g ν w tmps ρ L s)(hρ:LeE ρ ρ')(hL:LeL L L'):Zs g ν w tmps ρ' L' s:={
 st:=m.st
 loc l cs h:=by obtain⟨c,h1,h2⟩:=hL.get h;exact(m.loc l c h1).le h2
 locKept l cs h:=by obtain⟨c,h1,_⟩:=hL.get h;exact m.locKept l c h1
 locSt l cs h:=by obtain⟨c,h1,_⟩:=hL.get h;exact m.locSt l c h1
 inj l l' cs cs' h h' hν:=by obtain⟨c,h1,_⟩:=hL.get h;obtain⟨c',i,_⟩:=hL.get h';exact m.inj l l' c c' h1 i hν
 env t e h:=by
  obtain⟨e0,h1,h2⟩:=hρ.get h;exact((m.env t e0 h1).le h2).locs fun l cs hc=>⟨hL.getI hc,rfl⟩ }
section
variable {P:Program}
theorem Zx1{F:Fr P}{dk:List Zh}{ρ ρ':Env}{L L':Loc}(hρ:LeE ρ ρ')(hL:LeL L L')(h:Zv F dk ρ' L' s):Zv F dk ρ L s :=
 fun k hk g ν w tmps hN m=>h k hk g ν w tmps hN (m.le hρ hL)
end
theorem Qj(ρ:Env):LeE ρ ρ:=by
 induction ρ with
 |nil=>exact .nil
 |cons a r ih=>obtain⟨t,e⟩:=a;exact .cons (.refl _) ih
theorem Zaj(ρ:Loc):LeL ρ ρ:=by
 induction ρ with
 |nil=>exact .nil
 |cons a r ih=>obtain⟨t,e⟩:=a;exact .cons (LeC.refl _) ih
theorem ZnG{l:List D}{cs:List D}(hl:KM l=.tup l)(h:LeC l cs):(KM l).Le (.tup cs):=by rw[hl];exact Zx4 h
theorem QB{d d':D}(h:d.Le d'):(KM [d]).Le d':=h
def Zgr:Bool→List Nat→St→St→Loc→Loc→List (Nat×Rd)→Prop
 |true,_,_,_,_,_,_=>True
 |false,fl,s,s',L,L',B=>Y0 fl s s' L L' B
def ZjU:Bool→List Nat→List (Nat×Rd)→List (Nat×Rd)
 |true,_,B=>B
 |false,fl,B=>YO fl B
def ZgY(K:Env→Loc→St→Prop)(X:List (DOp×List Nat)→Env→Loc→St→List (Nat×Rd)→Prop):List (DOp×List Nat)→Env→Loc→St→List (Nat×Rd)→Prop
 | [],ρ,L,s,_=>K ρ L s
 |o::os,ρ,L,s,B=>match ZD o.1 ρ L s with
  |.ok side ρ' L' s'=>side∧Zgr (YU o.1.k) o.2 s s' L L' B∧ZgY K X os ρ' L' s' (W3 o.1 ρ++ZjU (YU o.1.k) o.2 B)
  |.all side pre ρ' s'=>side∧∀b,pre b→Zgr false o.2 s (s' b) L L B∧ZgY K X os (ρ' b) L (s' b) (ZjU false o.2 B)
  |.stop=>X (o::os) ρ L s B
theorem ZjM{K:Env→Loc→St→Prop}{X:List (DOp×List Nat)→Env→Loc→St→List (Nat×Rd)→Prop}:∀{os:List (DOp×List Nat)} {ρ:Env} {L:Loc} {s:St} {B:List (Nat×Rd)},ZgY K X os ρ L s B→ZgX K X os ρ L s B
 | [],ρ,L,s,B,h=>h
 |o::os,ρ,L,s,B,h=>by simp only[ZgY,ZgX]at h⊢;split at h<;>rename_i i<;>simp only[i];cases hp:YU o.1.k;rw[hp]at h;exact⟨h.1,h.2.1,ZjM h.2.2⟩;rw[hp]at h;simp only[Zgr,ZjU]at h;exact⟨h.1,ZjM h.2.2⟩;refine⟨h.1,fun b hb=>?_⟩;exact⟨(h.2 b hb).1,ZjM (h.2 b hb).2⟩;exact h
section
variable {P:Program}
theorem Yy{F:Fr P}{ks:List Nat}{dk:List Zh}{os:List (DOp×List Nat)}{B:List (Nat×Rd)}(h:ZgY (fun ρ L s=>Zv F dk (Yj ρ ks) (ZaJ (Yj ρ ks) L) s) (fun os ρ L s B=>DOA F (sO ks) dk os ρ L s B) os ρ L s B):DOA F (sO ks) dk os ρ L s B:=ZjE (ZjM h)
theorem ZaZ{F:Fr P}{dk:List Zh}{o:DOp}{s0:St}(s:St)(t:Tok)(hg:Zk ρ o.guard=sO true){e sz b:Nat}{z:List D}{x y:Opd}(hk:o.k=.append e sz b z x y){p q:Prop}{n m:Nat}{row row2:Nat→List D}{dy:D}{dx:D}(hx:ZE ρ true x=sO (p,.d dx))(hsl:ZbS sz dx=sO (t,n,row))(hy:ZE ρ true y=sO (q,.d dy))(hel:Jd sz dy=sO (m,row2))(hp:p)(hq:q)(hs:s0=s.own t (n*sz))(hok:t.okIn s)(hb:(n+m)*b≤140737488355328)(hbig:n+m≤big)(h:∀t':Tok,t'.okIn s→DO F kp dk os (Zw ρ o.dst (.d (.sl t' (n+m) sz (YG n row row2)))) L (s.own t' ((n+m)*sz))):
  DO F kp dk (o::os) ρ L s0:=by
 subst hs;exact Zow hg hk hx hsl hy hp hq hel hok hb hbig h
theorem ZxZ{F:Fr P}{dk:List Zh}{o:DOp}{fl:List Nat}{os:List (DOp×List Nat)}{s0:St}{B:List (Nat×Rd)}(s:St)(t:Tok)(hg:Zk ρ o.guard=sO true){e sz b:Nat}{z:List D}{x y:Opd}(hk:o.k=.append e sz b z x y){p q:Prop}{n m:Nat}{row row2:Nat→List D}{dy:D}{dx:D}(hx:ZE ρ true x=sO (p,.d dx))(hsl:ZbS sz dx=sO (t,n,row))(hy:ZE ρ true y=sO (q,.d dy))(hel:Jd sz dy=sO (m,row2))(hp:p)(hq:q)(hs:s0=s.own t (n*sz))(hok:t.okIn s)(hb:(n+m)*b≤140737488355328)(hbig:n+m≤big)(h:∀t':Tok,t'.okIn s→Zgr false fl s0 (s.own t' ((n+m)*sz)) L L B∧DOA F kp dk os (Zw ρ o.dst (.d (.sl t' (n+m) sz (YG n row row2)))) L (s.own t' ((n+m)*sz)) (ZjU false fl B)):
  DOA F kp dk ((o,fl)::os) ρ L s0 B:=by
 subst hs;refine Zts hg hk hx hsl hy hp hq hel hok hb hbig fun t' i=>?_;exact h t' i
end
section
variable {P:Program}
theorem ZG{an:Ann}{f:FuncId}{N:Nat}{rs:List RV}{b:DC}(hf:cf P an f=sO ⟨N,rs,b⟩){args:List D}{d:D}{s s':St}(h:(∀a∈args,DWf a)→∀(F:Fr P),(∀{dk:List Zh} {ρ:Env} {L:Loc} {t:St} {p:Prop} {ds:List D},Yt ρ L t rs=sO (p,ds)→p→(KM ds).Le d→s'.sub t→Zv F (.code .ret::dk) ρ L t) →
   Zv F [.code b] (KL 0 args) [] s):ZP P f args s d s' :=
 ZhY (ZpQ hf) fun hw=>Zd hf fun F hF=>h hw F fun h1 h2 h3 h4=>hF.ret d s' h1 h2 h3 h4 ⟨rfl,rfl⟩
def VT(P:Program)(f:D)(args:List D)(s:St)(d:D)(s':St):Prop:=WN P f args s fun r t=>r=.ret d∧t=s'
theorem ZP.VT{f:FuncId}{first args caps:List D}{s s':St}{d:D}(h:ZP P f (first++args++caps) s d s'):VT P (.fn (.func f) first caps) args s d s':=Za.V h
theorem Zf.VT{f:FuncId}{first args caps:List D}{d:D}(h:Zf P f (first++args++caps) d)(s:St):VT P (.fn (.func f) first caps) args s d s:=Za.V (h s)
theorem Ztv{F:Fr P}{dk:List Zh}{o:DOp}{s s':St}(hg:Zk ρ o.guard=sO true){fx:Opd}(hk:o.k=.call fx xs){p q:Prop}{f:D}{es:List E}(hf:ZE ρ true fx=sO (q,.d f))(ha:Ya ρ true xs=sO (p,es))(hds:WX es=sO ds)(hp:p)(hq:q){d:D}(hc:VT P f ds s d s')(h:DO F kp dk os (Zw ρ o.dst (.d d)) L s'):DO F kp dk (o::os) ρ L s:=Zva hg hk hf ha hds hp hq hc h
theorem Zzd{F:Fr P}{dk:List Zh}{o:DOp}{f:List Nat}{os:List (DOp×List Nat)}{s s':St}{B:List (Nat×Rd)}(hg:Zk ρ o.guard=sO true){fx:Opd}(hk:o.k=.call fx xs){p q:Prop}{fv:D}{es:List E}(hf:ZE ρ true fx=sO (q,.d fv))(ha:Ya ρ true xs=sO (p,es))(hds:WX es=sO ds)(hp:p)(hq:q){d:D}(hc:VT P fv ds s d s')(hB:Y0 f s s' L L B)(h:DOA F kp dk os (Zw ρ o.dst (.d d)) L s' (YO f B)):DOA F kp dk ((o,f)::os) ρ L s B :=
 Zc4 hg hk hf ha hds hp hq hc (fun d' t ⟨h1,h2⟩=>by simp only[Res.ret.injEq]at h1;subst h1;subst h2;exact⟨hB,h⟩) (fun d' t ⟨h1,_⟩=>by simp at h1)
theorem ZJ.leC{vs:List Value}{a a':List D}(h:ZJ (Rep g w) vs a)(hl:LeC a a'):ZJ (Rep g w) vs a':=by
 induction hl generalizing vs with
 |nil=>exact h
 |cons hd _ ih=>cases h with
  |cons h1 h2=>exact .cons (hd g w _ h1) (ih h2)
theorem Za.leA{f:FuncId}{args args':List D}(hl:LeC args args')(h:Za P f args' s Φ):Za P f args s Φ :=
 ⟨h.1,fun g w vs hs ha=>h.2 g w vs hs (ZJ.leC ha hl)⟩
theorem Zf.leA{f:FuncId}{args args':List D}{d:D}(hl:LeC args args')(h:Zf P f args' d):Zf P f args d:=fun s=>Za.leA hl (h s)
theorem LeC.one{d d':D}(h:d.Le d'):LeC [d] [d']:=.cons h .nil
theorem LeC.two{d d' e e':D}(h:d.Le d')(h2:e.Le e'):LeC [d,e] [d',e']:=.cons h (.cons h2 .nil)
end
def St.or(s t:St):St:=fun b=>match s b with
 |some o=>sO o
 |none=>t b
theorem WD(s t:St)(b:Nat)(o:Z1):(s.or t).upd b o=(s.upd b o).or t:=by
 funext c;simp only[St.or,ZEv];by_cases h:c=b<;>simp[h]
theorem Zp{s t:St}{b:Nat}{o:Z1}(h:s b=sO o):(s.or t) b=sO o:=by simp[St.or,h]
theorem ZH{s t:St}{b:Nat}(h:s b=nO):(s.or t) b=t b:=by simp[St.or,h]
theorem Kg(s t:St):s.sub (s.or t):=fun b o h=>Zp h
def Z6(s t:St):Prop:=∀b o,t b=sO o→s b=nO
theorem or_assoc(s t u:St):(s.or t).or u=s.or (t.or u):=by
 funext b;simp only[St.or];cases s b<;>rfl
def St.single(b:Nat)(o:Z1):St:=fun c=>if c=b then sO o else nO
theorem Yn(b:Nat)(o:Z1):(St.single b o) b=sO o:=by simp[St.single]
theorem Zdm{b c:Nat}(o:Z1)(h:c≠b):(St.single b o) c=nO:=by simp[St.single,h]
theorem KG{b:Nat}{o:Z1}(h:s b=nO):s.upd b o=s.or (St.single b o):=by
 funext c;simp only[St.or,ZEv,St.single];by_cases hc:c=b;subst hc;simp[h];simp only[hc,if_false];cases s c<;>rfl
theorem Wh{b:Nat}{o:Z1}(h:s b=nO):Z6 s (St.single b o):=fun c x hc=>by
 simp only[St.single]at hc;split at hc;rename_i e;rw[e];exact h;simp at hc
def G.keep(g:G)(k:Nat→Prop):G:={ g with kept:=k }
theorem WF{k:Nat→Prop}{v:Value}{d:D}(h:Rep g w v d):Rep (g.keep k) w v d:=h.mono0 (fun _=>ZEd _) (fun _ _ _=>rfl) (fun _ _ h=>h)
theorem Zwe{k:Nat→Prop}{v:Value}{e:E}(h:ZK g ν w L v e):ZK (g.keep k) ν w L v e:=by
 induction e with
 |d d=>exact WF h
 |loc l off=>exact h
 |when c e ih=>exact⟨fun hc=>ih (h.1 hc),h.2⟩
theorem ZqB{k:Nat→Prop}{b:Nat}(h:YQ g w b ds):YQ (g.keep k) w b ds:=by
 obtain⟨hp,vs,T,h1,h2,h4,h5⟩:=h;exact⟨hp,vs,T,h1,h2,fun i v d hv hd=>WF (h4 i v d hv hd),h5⟩
theorem ZmJ{k:Nat→Prop}{b:Nat}{o:Z1}(h:Wz g w b o):Wz (g.keep k) w b o:=by
 cases o with
 |cells ds=>exact ZqB h
 |map es =>obtain⟨u,en,j,h1,h2,h3,h4,h5,h6⟩:=h;exact⟨u,en,j,h1,h2,fun i x d hv hd=>WF (h3 i x d hv hd),fun i x d hv hd=>WF (h4 i x d hv hd),h5,h6⟩
 |tip n=>exact h
 |mapE kp es kk n =>obtain⟨u,io,z,en,j,h1,h2,h3,h4,h5,h6,h7⟩:=h;exact⟨u,io,z,en,j,h1,h2,fun i x d hi hv hd=>WF (h3 i x d hi hv hd),fun i x d hi hv hd=>WF (h4 i x d hi hv hd),fun e he=>⟨WF (h5 e he).1,(h5 e he).2⟩,h6,h7⟩
 |loop r st =>obtain⟨hp,l,h1,h2,h3,h4,h5,h6,h7,h8,h9⟩:=h;exact⟨hp,l,h1,h2,h3,h4,h5,h6,h7,fun t e he=>Zwe (h8 t e he),h9⟩
 |dfr=>exact h
theorem ZJ.imp{α β:Type}{R S:α→β→Prop}{as9:List α}{bs:List β}(h:ZJ R as9 bs)(hi:∀a b,R a b→S a b):ZJ S as9 bs:=by
 induction h with
 |nil=>exact .nil
 |cons h _ ih=>exact .cons (hi _ _ h) ih
theorem Zq7{s t:St}(hd:Z6 s t)(h:Yh g (s.or t) w):Yh (g.keep fun b=>g.kept b∨(t b).isSome) s w:={
 obj b o hb:=ZmJ (h.obj b o (Zp hb))
 kept b o hb:=by rintro(hk|hk);exact h.kept b o (Zp hb) hk;obtain⟨x,hx⟩:=Option.isSome_iff_exists.1 hk;rw[hd b x hx]at hb;simp at hb
 fresh b hb:=by have h1:=h.fresh b hb;refine⟨h1.1,?_⟩;rintro(hk|hk);exact h1.2 hk;obtain⟨x,hx⟩:=Option.isSome_iff_exists.1 hk;have:=(h.obj b x (by rw[ZH (hd b x hx)];exact hx)).lt;omega
 tabs n cs hc:=WF (h.tabs n cs hc) }
theorem ZoT{w w':World}{s t:St}{e:Ending}(hd:Z6 s t)(h:Yh g (s.or t) w)(hp:Zge (g.keep fun b=>g.kept b∨(t b).isSome) w Φ e w'):
  Zge g w (fun r S=>∃s',Φ r s'∧Z6 s' t∧S=s'.or t) e w':=by
 obtain⟨g',s',r,he,hs,hr,hΦ⟩:=hp;have j:=he.keptEq;have u:Ext g w (g'.keep g.kept) w':=⟨he.size,he.prot,he.cell,he.hdr,fun b hb=>he.kept b (.inl hb),fun b hb=>he.keptProt b (.inl hb),rfl,he.os,he.output,he.tape⟩;have z:Z6 s' t:=fun b o hb=>by
  cases i:s' b with
  |none=>rfl
  |some x=>exact absurd (by rw[j];exact .inr (by rw[hb];rfl)) (hs.kept b x i)
 refine⟨g'.keep g.kept,s'.or t,r,u,⟨fun b o hb=>?_,fun b o hb=>?_,fun b hb=>?_,fun n cs hc=>WF (hs.tabs n cs hc)⟩,?_,s',hΦ,z,rfl⟩
 ·cases i:s' b with
  |some x =>rw[Zp i]at hb;cases hb;exact ZmJ (hs.obj b _ i)
  |none =>rw[ZH i]at hb;have h0:=h.obj b o (by rw[ZH (hd b o hb)];exact hb);have hk:(g.keep fun b=>g.kept b∨(t b).isSome).kept b:=.inr (by rw[hb];rfl);exact h0.mono u (he.kept b hk) (he.keptProt b hk)
 ·cases i:s' b with
  |some x=>exact fun hk=>hs.kept b x i (by rw[j];exact .inl hk)
  |none =>rw[ZH i]at hb;exact h.kept b o (by rw[ZH (hd b o hb)];exact hb)
 have:=hs.fresh b hb;exact⟨this.1,fun hk=>this.2 (by rw[j];exact .inl hk)⟩;cases e<;>cases r<;>simp only[ZtF]at hr⊢;exact WF hr;obtain⟨v,h1,h2⟩:=hr;exact⟨v,h1,WF h2⟩
section
variable {P:Program}
theorem Za.frame{f:FuncId}{args:List D}{s t:St}(hd:Z6 s t)(h:Za P f args s Φ):Za P f args (s.or t) fun r S=>∃s',Φ r s'∧Z6 s' t∧S=s'.or t :=
 ⟨h.1,fun g w vs hs ha=>(h.2 _ w vs (Zq7 hd hs) (ha.imp fun _ _=>WF)).mono fun _ _ hp=>ZoT hd hs hp⟩
theorem WN.frame{f:D}{args:List D}{s t:St}(hd:Z6 s t)(h:WN P f args s Φ):WN P f args (s.or t) fun r S=>∃s',Φ r s'∧Z6 s' t∧S=s'.or t:=by
 intro g w fv vs hs hf ha;obtain⟨d,nx,fr,h1,h2,h3,h4⟩:=h _ w fv vs (Zq7 hd hs) (WF hf) (ha.imp fun _ _=>WF);refine⟨d,nx,fr,h1,h2,h3,fun c cs=>?_⟩;obtain⟨e,w',h5,h6⟩:=h4 c cs;exact⟨e,w',ZoT hd hs h5,h6⟩
end
section
variable {P:Program}
theorem Zpq{an:Ann}{l N:Nat}{r:We}{da db:DC}{args:List D}(hs:s l=sO (.loop r .ready))(hlen:args.length=r.params.length)(ha:cc P an N r.assign=sO da)(hb:cc P an N r.body=sO db)(hN:r.N=N)(hp:∀t∈r.params,t<N)(h:∀F:Fr P,KI F l Φ→F.b.fn=r.fn→Zv F [.code da,.beginR,.code db] (Ws r.params args r.ρ) [] s):WN P (.fn (.yield l) [] []) args s Φ:=by
 intro g w fv vs n hf j;cases hf with
 |fn _ fs ab _ _ hn1 hn2 h1 h2 =>
 obtain rfl:fs=[]:=by simpa using hn1
 obtain⟨hp0,l0,a1,a2,a3,a4,a5,a6,a7,a8,a9,a10⟩:=n.obj l _ hs;have i:vs.toArray.size=l0.params.size:=by
  have e1:=j.len;have e2:l0.params.toList.length=r.params.length:=by rw[a3]
  simp at e2⊢;omega
 refine⟨_,_,_,by simp[Deferred.ofValue];rfl,by simp[invoke,Instr.yield,Instr.getLoop,QQ a1,i];rfl,rfl,fun c cs=>?_⟩;have M:Zs g (fun _=>0) w l0.tmps r.ρ [] s:=⟨n,fun l cs h=>by simp[Ze]at h,fun l cs h=>by simp[Ze]at h,fun l cs h=>by simp[Ze]at h,fun l l' cs ab h=>by simp[Ze]at h,a8⟩;obtain⟨u,M'⟩:=Zhm M j hlen (by rw[hN]at *;exact hp) (by rw[←hN];exact a7);have:=h (ZaP P an r.fn N l c cs Φ) ⟨an,r.fn,N,c,cs,rfl⟩ rfl [.code r.assign,.beginRound,.code r.body] (.code ha (.beginR (.code hb .nil))) g (fun _=>0) w _ u M';have z:(ZaP P an r.fn N l c cs Φ).b.atR { tmps:=(r.params.zip vs).foldl (fun tmps (x:Nat×Value)=>tmps.setIfInBounds x.1 x.2) l0.tmps,defers:=[] } [.code r.assign,.beginRound,.code r.body] =
   Frame.round l l0.fn ((l0.params.zip vs.toArray).foldl (fun tmps (x:Nat×Value)=>tmps.setIfInBounds x.1 x.2) l0.tmps) l0.assign l0.body .normal:=by
  simp only[Frame.atR,Frame.round,a2,a4,a5,←a3]
  congr 1
  rw[←Array.foldl_toList];simp
 have e:(ZaP P an r.fn N l c cs Φ).ds=[]:=rfl;rw[e,z]at this;have e2:(l0.params.zip vs.toArray).size=l0.params.size:=by simp at i⊢;omega
 rw[e2]at this;exact this
theorem Zqd{F:Fr P}(hr:F.b.roundOf=nO){o:Opd}{ps:List Nat}{da db:DC}{dk:List Zh}{p:Prop}{fv:D}(hf:ZE ρ true o=sO (p,.d fv))(hp:p)(ks:List Nat)(hks:(Yj ρ ks).map (·.1) |>.Nodup)(h:∀q l r,s q=nO→s l=nO→q≠l→r.ρ=WG ks ρ→r.params=ps→r.fn=F.b.fn→cc P F.an F.N r.assign=sO da→cc P F.an F.N r.body=sO db→r.N=F.N→(∀t∈ps,t<F.N) →
   ∃Ψ,WN P fv [.fn (.yield l) [] []] ((s.upd q .dfr).upd l (.loop r .ready)) Ψ∧(∀d s',Ψ (.ret d) s'→Zh6 (F.mark q) l r dk ρ L s')∧(∀d s',Ψ (.panic d) s'→YV (F.mark q) ρ L d s')):
  Zv F (.code (.rangeF o ps da db)::dk) ρ L s:=by
 intro k hk;cases hk with
 | @code _ _ kt _ hc ht =>
 obtain⟨f',ag,a',b',rfl,ap,ak,ha,hb,av⟩:=ZoF hc;intro g ν w tmps hN m;have ar:Rep g w _ fv:=Z7 m ap rfl hf hp F.ds;have ae:=JB (g:=g) (w:=w) (.deferred (sO [])) m.st.fresh;have ad:=ae.ext m.st.fresh;obtain⟨hq,m1⟩:=m.newObj ae (o:=.dfr) ⟨(m.st.fresh _ (ZEd _)).1,W0 w _⟩;let w1:=w.alloc (.deferred (sO []));let lp:Go.Loop:={ state:=.ready,pending:=nO,fn:=F.b.fn,tmps:=tmps,params:=ag,assign:=a',body:=b',defers:=w.heap.size };let r:We:={ fn:=F.b.fn,params:=ps,assign:=a',body:=b',defers:=w.heap.size,ρ:=WG ks ρ,N:=F.N };have af:=JB (g:=g) (w:=w1) (.loop lp) m1.st.fresh;have ab:=af.ext m1.st.fresh;obtain⟨hl,m2⟩:=m1.newObj af (o:=.loop r .ready) ⟨(m1.st.fresh _ (ZEd _)).1,lp,W0 w1 _,rfl,ak,rfl,rfl,rfl,hN,fun t e al=>by
  obtain⟨h1,h2⟩:=ZdQ hks al;exact ZmW (((m1.env t e (Zdb ρ ks t e h1))).mono ab) h2,rfl,rfl⟩
 have hqsz:w1.heap.size=w.heap.size+1:=by simp[w1]
 have am:s w1.heap.size=nO:=by
  have ao:¬w1.heap.size=w.heap.size:=by omega
  have h0:(s.upd w.heap.size .dfr) w1.heap.size=nO:=hl;simp[ZEv,ao]at h0;exact h0
 obtain⟨Ψ,hV,ah,ai⟩:=h w.heap.size w1.heap.size r hq am (by omega) rfl rfl rfl ha hb rfl av;have z:Rep g (w1.alloc (.loop lp)) _ fv:=(ar.mono ad).mono ab;obtain⟨d,nx,fr,aq,au,aj,hC⟩:=hV (Ze8 g ν L) (w1.alloc (.loop lp)) _ [.func (.yield w1.heap.size) #[] #[]] m2.callSt (Wk z rfl) (.cons (.fn (.yield w1.heap.size) [] [] [] [] rfl rfl (by simp) (by simp)) .nil);have u:(Instr.enterLoop F.b.fn tmps ag a' b' F.b.roundOf).run P w=.ok (w1.heap.size,[{ target:=.collected w.heap.size,args:=#[] }]) (w1.alloc (.loop lp)):=by rw[hr];simp[Instr.enterLoop,w1,lp]
 have j:=ZgI (P:=P) (b:=F.b) (a:=⟨tmps,F.ds⟩) (k:=kt) (cs:=F.cs) u aq au aj;obtain⟨e,w',⟨g',s',res,x1,x2,x3,x4⟩,i⟩:=hC (F.b.atR { tmps:=tmps,defers:=[{ target:=.collected w.heap.size,args:=#[] }]++F.ds } (.inRangeFunc w1.heap.size::kt)) F.cs;obtain⟨ac,hm⟩:=m2.afterCall x1 x2;have n:=(ad.trans ab).trans ac;cases e with
 |returned v =>
  cases res with
  |panic d=>exact x3.elim
  |ret d =>refine F.T.back _ _ _ _ (.head j i) ?_;exact F.T.ext _ _ _ _ _ n (ZmU (F:=F.mark w.heap.size) ht hN hm (ah d s' x4))
 |panicked ch =>
  cases res with
  |ret d=>exact x3.elim
  |panic d =>obtain⟨v,rfl,hv⟩:=x3;refine F.T.back _ _ _ _ (.head j i) ?_;exact F.T.ext _ _ _ _ _ n (ai d s' x4 _ _ _ v _ _ hN hm (Wk hv rfl))
 |outgrown=>exact i.elim
theorem ZtD{F:Fr P}{d:D}{s s':St}(hs:s'.sub s)(h:YV F ρ L d s'):YV F ρ L d s :=
 fun g ν w v i tmps hN m hr=>h g ν w v i tmps hN (m.sub hs) hr
inductive Oc where
 |next
 |stop (c:Code)
 |pan (d:D)
def Oc.res:Oc→Res
 |.next=>.ret (.bool true)
 |.stop _=>.ret (.bool false)
 |.pan d=>.panic d
def Zk0(P:Program)(y:D)(n:Nat)(args:Nat→List D)(go:Nat→Oc)(A:Nat→St→Prop):Prop :=
 ∀j,j<n→(∀i,i<j→go i=.next)→∀a,A j a→WN P y (args j) a fun r a'=>r=(go j).res∧A (j+1) a'
inductive Zgc(n:Nat)(go:Nat→Oc)(A:Nat→St→Prop)(a:St):Res→Prop where
 |all (h:∀i,i<n→go i=.next) (ha:A n a):Zgc n go A a (.ret (.tup []))
 |stop (m:Nat) (c:Code) (hm:m<n) (h:∀i,i<m→go i=.next) (hc:go m=.stop c) (ha:A (m+1) a):Zgc n go A a (.ret (.tup []))
 |pan (m:Nat) (d:D) (hm:m<n) (h:∀i,i<m→go i=.next) (hc:go m=.pan d) (ha:A (m+1) a):Zgc n go A a (.panic d)
def Zcr(P:Program)(fv:D)(n:Nat)(args:Nat→List D)(t:St):Prop :=
 ∀(y:D) (go:Nat→Oc) (A:Nat→St→Prop) (a0:St),Zk0 P y n args go A→A 0 a0→Z6 a0 t→WN P fv [y] (a0.or t) fun r S=>∃a,Zgc n go A a r∧a.sub S
def lpS(q l:Nat)(r:We)(st:LSt):St:=(St.single q .dfr).or (St.single l (.loop r st))
structure Zqi(F:Fr P)(busy:St)(E:Oc→St→Prop):Prop where
 fin:∀{ρ:Env} {L:Loc} {S a:St},E .next a→Z6 a busy→(a.or busy).sub S→Zv F [] ρ L S
 ret:∀{dk:List Zh} {ρ:Env} {L:Loc} {S a:St},E (.stop .ret) a→Z6 a busy→(a.or busy).sub S→Zv F (.code .ret::dk) ρ L S
 exit:∀{id:Nat} {dk:List Zh} {ρ:Env} {L:Loc} {S a:St},Qv id dk=none→E (.stop (.exit id)) a→Z6 a busy→(a.or busy).sub S→Zv F (.code (.exit id)::dk) ρ L S
 pan:∀{ρ:Env} {L:Loc} {d:D} {S a:St},E (.pan d) a→Z6 a busy→(a.or busy).sub S→YV F ρ L d S
theorem YK.ex{F:Fr P}{rs:List RV}{dds:List DD}(hF:YK F rs Φ dds):∃f,P.funcs[F.b.fn]?=sO f:=by
 obtain⟨an,f,df,cs,hf,hrs,rfl⟩:=hF;obtain⟨fn,h,_⟩:=ZpQ hf;exact⟨fn,h⟩
theorem Zae{q l:Nat}{r:We}{st:LSt}:(lpS q l r st) q=sO .dfr:=Zp (Yn _ _)
theorem Qa{q l:Nat}{r:We}{st:LSt}(h:q≠l):(lpS q l r st) l=sO (.loop r st):=by
 unfold lpS;rw[ZH (Zdm _ (Ne.symm h))];exact Yn _ _
theorem Zeu{q l c:Nat}{r:We}{st:LSt}(h1:c≠q)(h2:c≠l):(lpS q l r st) c=nO:=by
 unfold lpS;rw[ZH (Zdm _ h1)];exact Zdm _ h2
theorem Zrg{q l:Nat}{r r':We}{st st':LSt}{a:St}(h:Z6 a (lpS q l r st))(hq:q≠l):Z6 a (lpS q l r' st'):=fun b o hb=>by
 by_cases h1:b=q;rw[h1];exact h q _ Zae;by_cases h2:b=l;rw[h2];exact h l _ (Qa hq);rw[Zeu h1 h2]at hb;grind
theorem Zn3{q l:Nat}{r:We}{st st':LSt}{a S:St}(hq:q≠l)(hd:Z6 a (lpS q l r st))(hs:(a.or (lpS q l r st)).sub S):(a.or (lpS q l r st')).sub (S.upd l (.loop r st')):=fun b o hb=>by
 by_cases h2:b=l;subst h2;rw[ZH (hd b _ (Qa hq)),Qa hq]at hb;rw[St.upd_same];exact hb;rw[St.upd_ne _ _ h2];refine hs b o ?_;by_cases h1:b=q;subst h1;rw[ZH (hd b _ Zae),Zae]at hb⊢;exact hb;cases ha:a b with
 |some x=>rw[Zp ha]at hb⊢;exact hb
 |none=>rw[ZH ha,Zeu h1 h2]at hb;grind
theorem Zsk{F:Fr P}{q l:Nat}{r:We}(hF:KI F l Φ)(hq:q≠l)(hex:∃f,P.funcs[F.b.fn]?=sO f){E:Oc→St→Prop}(hΦ:∀oc a,E oc a→Z6 a (lpS q l r .busy)→Φ oc.res (a.or (lpS q l r (match oc with|.next=>.ready|.stop c=>.done c|.pan _=>.busy)))):Zqi F (lpS q l r .busy) E:={
 fin he hd hs:=hF.fin (s':=_) (hs l _ (by rw[ZH (hd l _ (Qa hq))];exact Qa hq)) (Zn3 hq hd hs) (hΦ .next _ he hd)
 ret he hd hs:=hF.ret (hs l _ (by rw[ZH (hd l _ (Qa hq))];exact Qa hq)) (Zn3 hq hd hs) (hΦ (.stop .ret) _ he hd)
 exit hx he hd hs:=hF.exit hx (hs l _ (by rw[ZH (hd l _ (Qa hq))];exact Qa hq)) (Zn3 hq hd hs) (hΦ (.stop (.exit _)) _ he hd)
 pan he hd hs:=hF.pan hs (hΦ (.pan _) _ he hd) fun an fn N c cs e=>by
  obtain⟨f,hf⟩:=hex;refine⟨f,?_⟩;have:F.b.fn=fn:=by rw[e];rfl
  rw[←this];exact hf }
end
end Go.DL
namespace Go.DL
open Go Go.Lib
variable [Zqj]
section
variable {P:Program}
theorem ZdH{F:Fr P}{kp:Option (List Nat)}{dk:List Zh}{o:DOp}{os:List DOp}{ρ:Env}{L:Loc}{s:St}(hg:Zk ρ o.guard=sO true){e sz b:Nat}{z:List D}{x y:Opd}(hk:o.k=.append e sz b z x y)
  {p q:Prop} {t:Tok} {n m:Nat} {row row2:Nat→List D} {dy:D} {dx:D} (hx:ZE ρ true x=sO (p,.d dx)) (hsl:ZbS sz dx=sO (t,n,row)) (hy:ZE ρ true y=sO (q,.d dy)) (hp:p) (hq:q) (hel:∀g w v,Rep g w v dy→∃news,WJ g w sz m news row2∧Za0 P w sz m v news) (hok:t.okIn s)
  (hb:(n+m)*b≤140737488355328) (hbig:n+m≤big) (h:∀t':Tok,t'.okIn s→DO F kp dk os (Zw ρ o.dst (.d (.sl t' (n+m) sz (YG n row row2)))) L (s.own t' ((n+m)*sz))) :
  DO F kp dk (o::os) ρ L (s.own t (n*sz)):=by
 refine Y9 fun oo g ν w tmps a8 i r k au ae aq af hd hN M hr aj=>?_;have hw:=Z9 M aq hg;have az:=Yg ae (by rw[hk];rfl);rw[hk]at ae;obtain⟨x',y',ai,aw,t1,t2,tu,ak,ab,av,a9,bg,ay,ap,am,hz,al,ar,ba,h0,hzl⟩:=Zbz ae;subst al;have bb:Rep g w _ (.sl t n sz row):=Zgi (Z7 M ar rfl hx hp F.ds) hsl;have bh:Rep g w _ _:=Z7 M ba rfl hy hq F.ds;obtain⟨zv,hz1,be,hz3,ie,j,bf⟩:=QH (g:=g) (w:=w) hz;have ad:ie.size=sz:=by simpa[ZY,j]using am
 have ac:zv.cells.size=sz:=by have:=be.len;simp at this;omega
 have a0:P.bytesOf e=ie.bytes:=by simp[Program.bytesOf,j]
 rw[a0]at hb;obtain⟨news,bc,ao⟩:=hel _ _ _ bh;obtain⟨v',w',g',t',a1,a2,a3,a4,a5,a6,a7⟩:=Zqs (ty:=oo.type) bg ay ap j bf ad ac h0 M.st hok bb bc ao hb hbig;have u:∀l cs,Ze L l=sO cs→t≠.tip (ν l):=fun l cs hl ht=>by have:=M.locSt l cs hl;rw[ht]at this;simp[St.own,ZEv]at this
 have ag:∀l cs,Ze L l=sO cs→s (ν l)=nO:=fun l cs hl=>by
  cases hx:s (ν l) with
  |none=>rfl
  |some o=>have:=Y2 (k:=n*sz) hok _ _ hx;rw[M.locSt l cs hl]at this;simp at this
 have mm:Zs g' ν w' tmps ρ L (s.own t' ((n+m)*sz)):=by
  refine⟨a3,fun l cs hl=>(M.loc l cs hl).mono a2 (a6 (ν l) (M.loc l cs hl).lt (u l cs hl)).1 (a6 (ν l) (M.loc l cs hl).lt (u l cs hl)).2,fun l cs hl=>by rw[a2.keptEq];exact M.locKept l cs hl,fun l cs hl=>?_,M.inj,fun t e he=>(M.env t e he).mono a2⟩;cases t' with
  |tip b =>
   have:¬ν l=b:=fun hb=>by rcases a7 b rfl with h1|h1;exact u l cs hl (by rw[hb];exact h1);have:=(M.loc l cs hl).lt;omega
   simp only[St.own,ZEv,this,if_false];exact ag l cs hl
  |_=>exact ag l cs hl
 refine YE hN au af hd hw az (v:=v') (w':=w') (e:=.d (.sl t' (n+m) sz (YG n row row2))) ?_ a2 mm a5 (h t' a4 a8 r k hr aj);have ax:ai = #[x',y']:=by apply Array.ext';simpa using ab
 have ah:∀vs,Builtin.append_ aw oo.type vs=Builtin.append_ #[t1,t2] oo.type vs:=fun vs=>by unfold Builtin.append_;simp[av,a9]
 unfold execOp;simp only[ak,ax,resolve,invoke,builtin,Sem.run_bind,Sem.run_pure,Result.andThen_ok,List.map_toArray,ZEc,ZEs,ah,a1]
theorem Zfm{g:G}{w:World}{v:Value}{b off cap sz:Nat}(h:Rep g w v (.msl b off 0 cap sz)):∃news,WJ g w sz 0 news (fun _=>[])∧Za0 P w sz 0 v news:=by
 cases h with
 |mslx a _ _ _=>exact⟨[],⟨by simp,fun i hi=>by omega,fun i j v d hi=>by omega,by simp⟩,fun w2=>by simp[Builtin.lenOf],fun w2 _=>by simp[Builtin.firstCells,loadCells,loadCellsFrom]⟩
 |msl _ _ _ _ _ hn hb=>exact⟨[],⟨by simp,fun i hi=>by omega,fun i j v d hi=>by omega,by simp⟩,fun w2=>by simp[Builtin.lenOf],fun w2 _=>run_firstCells_some (P:=P) w2 sz 0 ⟨b,off,nO⟩ 0 cap [] (by simp) (fun k v hv=>by simp at hv)⟩
theorem ZdI{F:Fr P}{dk:List Zh}{ρ:Env}{L:Loc}{s:St}(t:Nat){tk:Tok}{sz:Nat}{row:Nat→List D}(ht:ZM ρ t=sO (.d (.sl tk 0 sz row)))(h1:Zv F dk ((t,.d .nilsl)::ρ) L s)
  (h2:∀b off cap,Zv F dk ((t,.d (.msl b off 0 cap sz))::ρ) L s):Zv F dk ρ L s:=by
 intro k hk g ν w tmps hN m;have hr:Rep g w (tmps.getD t undef) (.sl tk 0 sz row):=m.env t _ ht;have i:∀d,Rep g w (tmps.getD t undef) d→Zs g ν w tmps ((t,.d d)::ρ) L s:=fun d hd=>⟨m.st,m.loc,m.locKept,m.locSt,m.inj,fun t' e' he=>by
  simp only[ZM]at he;split at he;rename_i hx;subst hx;simp only[ZDV]at he;subst he;exact hd;exact m.env t' e' he⟩
 generalize tmps.getD t undef=v at hr i;cases hr with
 |sl0 a _ _ _ _ =>
  cases a with
  |none=>exact h1 k hk g ν w tmps hN (i _ .nilsl)
  |some a=>exact h2 0 0 0 k hk g ν w tmps hN (i _ (.mslx a 0 0 _))
 |sl b o n cap s row t f hl hc hp hr one ht hcap hb=>exact h2 b o cap k hk g ν w tmps hN (i _ (.msl _ _ _ _ _ hcap hb))
end
end Go.DL
namespace Go.DL
open Go
variable [Zqj]
variable {kp:Option (List Nat)}{L:Loc}{ρ:Env}{s:St}{w:World}{os:List DOp}{ds:List D}{B:List (Nat × Rd)}{dst:Option Nat}{tmps:Array Value}{g:G}{Φ:Res→St→Prop}{ν:Nat→Nat}{xs:List Opd}{side:Prop}{row:Nat→List D}
section
variable {P:Program}
theorem Zrs{a:St}{q:Nat}{o:Z1}(h:a q=nO):(a.or (St.single q o)).del q=a:=by
 funext b;simp only[St.del];by_cases hb:b=q;rw[if_pos hb,hb,h];rw[if_neg hb];cases ha:a b with
 |some x=>exact Zp ha
 |none=>rw[ZH ha];exact Zdm _ hb
theorem YK.retM{F:Fr P}{rs:List RV}{dds:List DD}(hF:YK F rs Φ dds){q:Nat}{a:St}{dk:List Zh}(hq:a q=nO)(h:Unw P dds nO a (ZjG ρ L rs Φ)):
  Zv (F.mark q) (.code .ret::dk) ρ L (a.or (St.single q .dfr)) :=
 (hF.mark q).retU ⟨by rw[ZH hq];exact Yn _ _,by rw[Zrs hq];exact h⟩
theorem YK.ret1{F:Fr P}{rs:List RV}(hF:YK F rs Φ []){q:Nat}{a:St}{dk:List Zh}(hq:a q=nO){p:Prop}(d:D)(s':St)(h1:Yt ρ L a rs=sO (p,ds))(h2:p)(h3:(KM ds).Le d)(h4:s'.sub a)(h5:Φ (.ret d) s'):
  Zv (F.mark q) (.code .ret::dk) ρ L (a.or (St.single q .dfr)):=hF.retM hq ⟨p,ds,d,s',h1,h2,h3,h4,h5⟩
theorem YK.fin1{F:Fr P}{rs:List RV}(hF:YK F rs Φ []){q:Nat}{a:St}(hq:a q=nO){p:Prop}(d:D)(s':St)(h1:Yt ρ L a rs=sO (p,ds))(h2:p)(h3:(KM ds).Le d)(h4:s'.sub a)(h5:Φ (.ret d) s'):
  Zv (F.mark q) [] ρ L (a.or (St.single q .dfr)) :=
 (hF.mark q).finU ⟨by rw[ZH hq];exact Yn _ _,by rw[Zrs hq];exact⟨p,ds,d,s',h1,h2,h3,h4,h5⟩⟩
theorem YK.pan1{F:Fr P}{rs:List RV}(hF:YK F rs Φ []){q:Nat}{a:St}{d:D}(hq:a q=nO)(s':St)(h4:s'.sub a)(h5:Φ (.panic d) s'):YV (F.mark q) ρ L d (a.or (St.single q .dfr)) :=
 (hF.mark q).panU ⟨by rw[ZH hq];exact Yn _ _,by rw[Zrs hq];exact⟨d,s',ZDZ d,h4,h5⟩⟩
theorem Ze9{a t:St}(h:Z6 a t){q:Nat}{o:Z1}(ht:t q=sO o):a q=nO:=h q o ht
end
section
variable {P:Program}
theorem JU{F:Fr P}{dk:List Zh}{b:Nat}{ds ds':List D}(h:s b=sO (.cells ds))(hl:LeC ds ds')(k:Zv F dk ρ L (s.upd b (.cells ds'))):Zv F dk ρ L s:=by
 intro kk hk g ν w tmps hN m;have hc:YQ g w b ds:=m.st.obj b _ h;exact k kk hk g ν w tmps hN ⟨m.st.updL (o:=.cells ds') (hc.le hl) (m.st.kept b _ h),m.loc,m.locKept,fun l cs hL=>by
  have i:ν l≠b:=fun e=>by have:=m.locSt l cs hL;rw[e,h]at this;simp at this
  rw[St.upd_ne _ _ i];exact m.locSt l cs hL,m.inj,m.env⟩
end
theorem Zwg{s:Nat}{cs:List D}{r:Nat→List D}:∀{len:Nat},cs.length=len*s→(∀i,i<len→part cs (i*s) s=r i)→cs=(ZEa len).flatMap r:=by
 intro len hl hr;have j:∀k,k≤len→cs.take (k*s)=(ZEa k).flatMap r:=by
  intro k;induction k with
  |zero=>intro _;simp
  |succ k ih =>
   intro hk;rw[List.range_succ,List.flatMap_append,←ih (by omega),ZEo,Nat.one_mul,List.take_add]
   congr 1
   simp only[List.flatMap_cons,List.flatMap_nil,ZEw];rw[←hr k hk];rfl
 have:=j len (ZEd _);rw[←hl,ZEy]at this;exact this
theorem Ziv(c:Array Value)(T:TypeId)(hf:∀b,w.heap.size≤b→g.prot b=0∧¬g.kept b):Jv g w g (w.drew.alloc (.cells c T)):={
 size:=by simp
 old b hb:=(by first|exact heap_alloc_old w.drew _ b hb|exact heap_alloc_old w.drew _ hb)
 prot b hb:=rfl
 fresh b hb:=by
  have:(w.drew.alloc (.cells c T)).heap.size=w.heap.size+1:=by simp
  rw[this]at hb;exact(hf b (by omega)).1
 kept:=rfl
 os:=rfl
 output:=rfl
 tape:=rfl }
section
variable {P:Program}
theorem Zye{len s:Nat}{z:List D}{t e:TypeId}{parts:List (Nat×Value)}(hu:P.underlying t=sO (.slice e))(hsz:ZY P e=sO s)(hz:Zai P e=sO z)(hdis:K6 len (parts.map (·.1))=true)(hzl:z.length=s)(hs0:0<s)(hbig:len*s≤2 ^ 24)(hl0:0<len)(hd:ZJ (Rep g w) (parts.map (·.2)) ds)(hp:KN s ds=true):
  ∃cv:Array Value,(Instr.buildSlice t len parts.toArray).run P w=.ok (.slice (sO ⟨w.heap.size,0,nO⟩) len len) (w.alloc (.cells cv e)) ∧
   ZJ (Rep g w) cv.toList ((ZEa len).flatMap (Z8 z ((parts.map (·.1)).zip ds)))∧∀v∈cv,v.one1=true:=by
 obtain⟨zv,hz1,ag,am,ie,ah,ao⟩:=QH (g:=g) (w:=w) hz;have j:ie.size=s:=by simpa[ZY,ah]using hsz
 have n:zv.cells.size=s:=by have:=ag.len;simp at this;omega
 have hn:(parts.map (·.1)).length=ds.length:=by have:=hd.len;simpa using this
 let c0:Array Value:=(Array.range (len*s)).map (zv.cells[· % zv.cells.size]!);let d0:List D:=(ZEa (len*s)).map fun i=>z.getD (i % s) .undef;have ae:ZJ (Rep g w) c0.toList d0:=by refine Yf (by simp[c0,d0]) (fun i v d hv hd=>?_);simp only[c0,d0,Array.toList_map,Array.toList_range,List.getElem?_map,ZD9]at hv hd;obtain⟨a,ha,rfl⟩:=hv;obtain⟨b,hb,rfl⟩:=hd;rw[ha]at hb;simp only[ZDV]at hb;subst hb;have u:a % s<s:=Nat.mod_lt _ hs0;refine ag.get (a % s) _ _ ?_ ?_;rw[n];simp[getElem!_pos,n,u];simp[ZEb,hzl,u]
 have ac:∀v∈c0,v.one1=true:=fun v hv=>by simp only[c0,Array.mem_map]at hv;obtain⟨a,_,rfl⟩:=hv;have u:a % zv.cells.size<zv.cells.size:=Nat.mod_lt _ (by omega);rw[getElem!_pos zv.cells (a % zv.cells.size) u];exact am _ (Array.getElem_mem u)
 have af:d0.length=len*s:=by simp[d0]
 obtain⟨cs,ad,ak,ab⟩:=Ziq (parts.map (·.1)) ds d0 hdis hn hp af;obtain⟨cv,aq,al,ar⟩:=Zgm (g:=g) (w:=w) (fun i=>sO (i*s,s)) parts ((parts.map (·.1)).map fun i=>(i*s,s)) ds cs d0 c0 (fun i x q hx hq=>by
  simp only[List.map_map,List.getElem?_map,hx,ZEp,ZDV,Function.comp_def]at hq;rw[←hq]) (by simp) hd ae ac ad
 have aj:¬len*s=0:=by simp[Nat.mul_eq_zero];omega
 have ai:=run_buildSlice (P:=P) w t e len parts.toArray cv ie zv hu ah ao (by rw[j];omega) (by rw[j];exact aj) (by rw[j];exact aq);refine⟨cv,ai,?_,ar⟩;have:cs=(ZEa len).flatMap (Z8 z ((parts.map (·.1)).zip ds)):=Zwg ak fun i hi=>by rw[ab i hi];have ap:part d0 (i*s) s=z:=ZjB hzl hs0 hi;rw[ap]
 rw[←this];exact al
theorem ZsE{F:Fr P}{dk:List Zh}{o:DOp}(hg:Zk ρ o.guard=sO true){len n:Nat}{z:List D}{is:List Nat}(hk:o.k=.bsl len n z is xs){p:Prop}{es:List E}(ha:Ya ρ true xs=sO (p,es))(hds:WX es=sO ds)(hp:p)(hok:KN n ds=true)(hl0:0<len)(h:∀b,s b=nO→DO F kp dk os (Zw ρ o.dst (.d (.msl b 0 len len n))) L (s.upd b (.cells ((ZEa len).flatMap (Z8 z (is.zip ds)))))):DO F kp dk (o::os) ρ L s:=by
 refine Y9 fun oo g ν w tmps ak i r k aj ab au ac hd hN m hr al=>?_;have hw:=Z9 m au hg;have ap:=Yg ab (by rw[hk];rfl);rw[hk]at ab;obtain⟨t,e,parts,ao,hu,aq,hz,am,rfl,ag,ar,ad,ai⟩:=Zvi ab;have u:=ZbD m rfl F.ds am ha hp;have j:=KD u hds;obtain⟨cv,h1,h2,h3⟩:=Zye (P:=P) (g:=g) (w:=w) (parts:=parts.toList.map fun x=>(x.1,(Act.mk tmps F.ds).eval x.2)) hu aq hz (by simpa[List.map_map,Function.comp_def]using ag) ar ad ai hl0
  (by simpa[List.map_map,Function.comp_def]using j) hok
 have ah:ZJ (Rep g w) cv.toList ((ZEa len).flatMap (Z8 z ((parts.toList.map (·.1)).zip ds))):=by simpa[List.map_map,Function.comp_def]using h2
 have ae:=JB (g:=g) (w:=w) (.cells cv e) m.st.fresh;have he:=ae.ext m.st.fresh;have av:Wz g (w.alloc (.cells cv e)) w.heap.size (.cells ((ZEa len).flatMap (Z8 z ((parts.toList.map (·.1)).zip ds)))) :=
  ⟨(m.st.fresh _ (ZEd _)).1,_,e,W0 w _,by rw[←ah.len];simp,fun i v d hv hd=>(ah.get i v d (by simpa using hv) hd).mono he,h3⟩
 obtain⟨hn,m'⟩:=m.newObj ae av;have af:(execOp (Act.mk tmps F.ds).eval oo).run P w=.ok (.value (.slice (sO ⟨w.heap.size,0,nO⟩) len len)) (w.alloc (.cells cv e)):=by
  simp only[execOp,ao,Sem.run_bind];have e1:(parts.map fun x=>(x.1,(Act.mk tmps F.ds).eval x.2))=(parts.toList.map fun x=>(x.1,(Act.mk tmps F.ds).eval x.2)).toArray:=by apply Array.ext';simp
  rw[e1,h1];rfl
 refine YE (L':=L) hN aj ac hd hw ap (e:=.d (.msl w.heap.size 0 len len n)) af he m' (Rep.msl _ _ _ _ _ (ZEd _) ?_) ?_;unfold big;have:len≤len*n:=Nat.le_mul_of_pos_right _ ad;omega;exact h _ hn ak r k hr al
def Znm(o:DOp)(ρ:Env)(L:Loc)(s:St):SR :=
 match o.k with
 |.bsl _ _ _ _ _=>.stop
 |_=>ZD o ρ L s
def ZjN(K:Env→Loc→St→Prop)(X:List DOp→Env→Loc→St→Prop):List DOp→Env→Loc→St→Prop
 | [],ρ,L,s=>K ρ L s
 |o::os,ρ,L,s=>match Znm o ρ L s with
  |.ok side ρ' L' s'=>side∧ZjN K X os ρ' L' s'
  |.all side pre ρ' s'=>side∧∀b,pre b→ZjN K X os (ρ' b) L (s' b)
  |.stop=>X (o::os) ρ L s
theorem ZjF{F:Fr P}{kp:Option (List Nat)}{dk:List Zh}:∀{os:List DOp} {ρ:Env} {L:Loc} {s:St},
  ZjN (fun ρ L s=>Zv F dk (kept kp ρ) (ZjQ kp ρ L) s) (fun os ρ L s=>DO F kp dk os ρ L s) os ρ L s→DO F kp dk os ρ L s
 | [],ρ,L,s,h=>Zec h
 |o::os,ρ,L,s,h=>by
  have i:∀r,Znm o ρ L s=r→r=.stop∨ZD o ρ L s=r:=fun r hr=>by unfold Znm at hr;split at hr;exact .inl hr.symm;exact .inr hr
  simp only[ZjN]at h;split at h;rename_i sd ρ' L' s' h1;rcases i _ h1 with h2|h2;cases h2;exact Qg h2 h.1 (ZjF h.2);rename_i sd pre ρ' s' h1;rcases i _ h1 with h2|h2;cases h2;exact ZlU h2 h.1 fun b hb=>ZjF (h.2 b hb);exact h
theorem ZsI{sz m:Nat}{v1 v2:Value}{row row2:Nat→List D}{tT u ty e:TypeId}{tu:TypeDesc}{i:TypeInfo}{z:Value}(ht:P.underlying tT=sO (.slice e))(hu:P.underlying u=sO tu)(hnu:∀k,tu≠.int k)(hi:P.info? e=sO i)(hz:i.zero=sO z)(hsz:i.size=sz)(hzc:z.cells.size=sz)(hone:∀x∈z.cells,x.one1=true)(h0:0<sz)(hs:Yh g s w)(h1:Rep g w v1 (.sl .full 0 sz row)){news:List Value}(hm:0<m)(h2:WJ g w sz m news row2)(h3:Za0 P w sz m v2 news)(hb:m*i.bytes≤140737488355328)(hbig:m≤big):
    ∃(cap:Nat) (cv:Array Value),(Builtin.append_ #[tT,u] ty #[v1,v2]).run P w=.ok (.slice (sO ⟨w.heap.size,0,nO⟩) m cap) (w.drew.alloc (.cells cv e))∧m≤cap∧cap≤big∧cv.size=cap*sz∧(∀v∈cv,v.one1=true) ∧
      ∀(k:Nat) (v:Value) (d:D),cv[k]?=sO v→((ZEa m).flatMap row2++List.replicate ((cap-m)*sz) .any)[k]?=sO d→Rep g w v d:=by
  subst hsz;have j:∀ac,v1=.slice ac 0 0→∃(cap:Nat) (cv:Array Value),(Builtin.append_ #[tT,u] ty #[v1,v2]).run P w=.ok (.slice (sO ⟨w.heap.size,0,nO⟩) m cap) (w.drew.alloc (.cells cv e))∧m≤cap∧cap≤big∧cv.size=cap*i.size∧(∀v∈cv,v.one1=true) ∧
      ∀(k:Nat) (v:Value) (d:D),cv[k]?=sO v→((ZEa m).flatMap row2++List.replicate ((cap-m)*i.size) .any)[k]?=sO d→Rep g w v d:=by
    intro ac hv;subst hv;obtain⟨af,aq,ho1,al⟩:=Zhq (P:=P) h1 h0;have ap:af=[]:=List.eq_nil_of_length_eq_zero (by simpa using aq.len);subst ap;have ho:=al;have ab:=Zle (ty:=ty) (n:=0) (cap:=0) ht hu hnu hi hz h3 ho (by omega) (by simp only[big]at hbig;omega) (by rw[Nat.zero_add];exact hb);rw[Nat.zero_add]at ab;have ak:=grownCap_ge w m 0 e;have am:=grownCap_le_maxLen w m 0 e (by simp only[big]at hbig;simp only[maxLen];omega);refine⟨_,_,ab,ak,by simp only[maxLen]at am;simp only[big];omega,?_,fun v hv=>?_,fun k v d hv hd=>?_⟩;simp only[List.nil_append,List.size_toArray,ZD8,h2.len,Array.length_toList,size_zeroCells,hzc,←ZEo]
    congr 1;omega
    · simp only[List.nil_append,List.mem_toArray,List.mem_append]at hv;rcases hv with hv|hv;exact h2.one v hv;simp only[Builtin.zeroCells,Array.mem_toList_iff]at hv;first
      | (simp only[Array.mem_map,Array.mem_range]at hv
         obtain⟨a,_,rfl⟩:=hv;have ai:a % z.cells.size<z.cells.size:=Nat.mod_lt _ (by omega);rw[getElem!_pos z.cells (a % z.cells.size) ai];exact hone _ (Array.getElem_mem ai))
    simp only[List.nil_append,List.getElem?_toArray]at hv;have ag:((ZEa m).flatMap row2).length=m*i.size:=by
      have:∀k,k≤m→((ZEa k).flatMap row2).length=k*i.size:=by
        intro k;induction k with
        |zero=>intro _;simp
        |succ k ih =>intro hk;rw[List.range_succ,List.flatMap_append,ZD8,ih (by omega)];simp[h2.rlen k hk,ZEo]
      exact this m (ZEd _)
    by_cases hk:k<m*i.size
    · rw[ZEt (by rw[h2.len];exact hk)]at hv;rw[ZEt (by rw[ag];exact hk)]at hd;have ah:k / i.size<m:=Nat.div_lt_of_lt_mul (by rw[Nat.mul_comm];exact hk);have aj:k % i.size<i.size:=Nat.mod_lt _ h0;have e1:k / i.size*i.size+k % i.size=k:=by rw[Nat.mul_comm];exact Nat.div_add_mod k i.size
      refine h2.rep (k / i.size) (k % i.size) v d ah aj (by rw[e1];exact hv) ?_;have ao:∀q,q≤m→∀a b,a<q→b<i.size→((ZEa q).flatMap row2)[a*i.size+b]?=(row2 a)[b]?:=by
        intro q;induction q with
        |zero=>intro _ a b ha;omega
        |succ q ih =>
          intro hq a b ha hb;have ad:((ZEa q).flatMap row2).length=q*i.size:=by
            have:∀k,k≤m→((ZEa k).flatMap row2).length=k*i.size:=by
              intro k;induction k with
              |zero=>intro _;simp
              |succ k ih =>intro hk;rw[List.range_succ,List.flatMap_append,ZD8,ih (by omega)];simp[h2.rlen k hk,ZEo]
            exact this q (by omega)
          rw[List.range_succ,List.flatMap_append];by_cases ae:a<q;have:a*i.size+b<q*i.size:=by have:=ZEi i.size (show a+1≤q from ae);rw[ZEo,Nat.one_mul]at this;omega
          rw[ZEt (by rw[ad];exact this)];exact ih (by omega) a b ae hb;obtain rfl:a=q:=by omega
          rw[ZEH (by rw[ad];omega),ad];simp
      rw[←ao m (ZEd _) _ _ ah aj,e1];exact hd
    rw[ZEH (by rw[ag];omega),List.getElem?_replicate]at hd;split at hd;simp only[ZDV]at hd;subst hd;exact .any v;simp at hd
  cases h1 with
  |sl0 a t s row htt=>exact j a rfl
  |sl b o n cap sz row t f hl hc hp hr one htok hcap hb' =>simp only[ZjI]at htok;subst htok;exact j _ rfl
theorem ZsD{F:Fr P}{dk:List Zh}{o:DOp}(hg:Zk ρ o.guard=sO true){e sz b:Nat}{z:List D}{x y:Opd}(hk:o.k=.append e sz b z x y){p q:Prop}{m:Nat}{row row2:Nat→List D}{dy:D}{dx:D}(hx:ZE ρ true x=sO (p,.d dx))(hsl:ZbS sz dx=sO (.full,0,row))(hy:ZE ρ true y=sO (q,.d dy))(hel:Jd sz dy=sO (m,row2))(hp:p)(hq:q)(hm:0<m)(hb:m*b≤140737488355328)(hbig:m≤big)(h:∀c cap,s c=nO→m≤cap→DO F kp dk os (Zw ρ o.dst (.d (.msl c 0 m cap sz))) L (s.upd c (.cells ((ZEa m).flatMap row2++List.replicate ((cap-m)*sz) .any)))):
  DO F kp dk (o::os) ρ L s:=by
 refine Y9 fun oo g ν w tmps a7 i r k aq ab ao ac hd hN M hr ah=>?_;have hw:=Z9 M ao hg;have ay:=Yg ab (by rw[hk];rfl);rw[hk]at ab;obtain⟨x',y',ag,av,t1,t2,tu,ai,n,au,a8,bf,ax,am,ak,hz,aj,ap,ba,h0,hzl⟩:=Zbz ab;subst aj;have bb:Rep g w _ (.sl .full 0 sz row):=Zgi (Z7 M ap rfl hx hp F.ds) hsl;have bg:Rep g w _ _:=Z7 M ba rfl hy hq F.ds;obtain⟨zv,hz1,bc,ar,ie,j,be⟩:=QH (g:=g) (w:=w) hz;have u:ie.size=sz:=by simpa[ZY,j]using ak
 have t:zv.cells.size=sz:=by have:=bc.len;simp at this;omega
 have az:P.bytesOf e=ie.bytes:=by simp[Program.bytesOf,j]
 rw[az]at hb;obtain⟨news,ae,al⟩:=Zlm (P:=P) bg hel h0;obtain⟨cap,cv,a1,a2,a3,a4,a5,a6⟩:=ZsI (ty:=oo.type) bf ax am j be u t ar h0 M.st bb hm ae al hb hbig;have af:Jv g w g (w.drew.alloc (.cells cv e)):=Ziv (g:=g) (w:=w) cv e M.st.fresh;have he:=af.ext M.st.fresh;have a9:((ZEa m).flatMap row2).length=m*sz:=by
  have:∀k,k≤m→((ZEa k).flatMap row2).length=k*sz:=by
   intro k;induction k with
   |zero=>intro _;simp
   |succ k ih =>intro hk;rw[List.range_succ,List.flatMap_append,ZD8,ih (by omega)];simp[ae.rlen k hk,ZEo]
  exact this m (ZEd _)
 have a0:Wz g (w.drew.alloc (.cells cv e)) w.heap.size (.cells ((ZEa m).flatMap row2++List.replicate ((cap-m)*sz) .any)) :=
  ⟨(M.st.fresh _ (ZEd _)).1,_,e,W0 w.drew _,by rw[ZD8,a9,List.length_replicate,a4,←ZEo];congr 1;omega,fun i v d hv hd=>(a6 i v d hv hd).mono he,a5⟩
 obtain⟨hn,m'⟩:=M.newObj af a0;refine YE (L':=L) hN aq ac hd hw ay (e:=.d (.msl w.heap.size 0 m cap sz)) ?_ he m' (Rep.msl _ _ _ _ _ a2 a3) (h _ cap hn a2 a7 r k hr ah);have aw:ag = #[x',y']:=by apply Array.ext';simpa using n
 have ad:∀vs,Builtin.append_ av oo.type vs=Builtin.append_ #[t1,t2] oo.type vs:=fun vs=>by unfold Builtin.append_;simp[au,a8]
 unfold execOp;simp only[ai,aw,resolve,invoke,builtin,Sem.run_bind,Sem.run_pure,Result.andThen_ok,List.map_toArray,ZEc,ZEs,ad,a1]
end
def Ztz(g:G)(w:World)(b:Nat)(ds:List D):Prop :=
 ∃(vs:Array Value) (T:TypeId),w.heap[b]?=sO (.cells vs T (0,0))∧vs.size=ds.length∧(∀(i:Nat) (v:Value) (d:D),vs[i]?=sO v→ds[i]?=sO d→Rep g w v d)∧(∀v∈vs,v.one1=true)∧ds.length≤g.prot b
def YD(t:St)(Ln:List Nat)(d d':D):Prop:=∀g w v,(∀b∈Ln,∀ds,t b=sO (.cells ds)→Ztz g w b ds)→Rep g w v d→Rep g w v d'
inductive LdC(t:St)(Ln:List Nat):List D→List D→Prop where
 |nil:LdC t Ln [] []
 |cons {d d':D} {l l':List D} (h:YD t Ln d d') (r:LdC t Ln l l'):LdC t Ln (d::l) (d'::l')
theorem YD.refl{t:St}{Ln:List Nat}(d:D):YD t Ln d d:=fun _ _ _ _ h=>h
theorem LdC.refl{t:St}{Ln:List Nat}:∀l:List D,LdC t Ln l l
 | []=>.nil
 |d::l=>.cons (YD.refl d) (LdC.refl l)
theorem LdC.len{t:St}{Ln:List Nat}{l l':List D}(h:LdC t Ln l l'):l.length=l'.length:=by
 induction h with
 |nil=>rfl
 |cons _ _ ih=>simp[ih]
theorem LdC.get{t:St}{Ln:List Nat}{l l':List D}(h:LdC t Ln l l'){i:Nat}{d':D}(hi:l'[i]?=sO d'):∃d,l[i]?=sO d∧YD t Ln d d':=by
 induction h generalizing i with
 |nil=>simp at hi
 |cons h1 _ ih =>
  cases i with
  |zero=>simp at hi;subst hi;exact⟨_,rfl,h1⟩
  |succ i=>simpa using ih (by simpa using hi)
theorem YD.agg{t:St}{Ln:List Nat}{l l':List D}(h:LdC t Ln l l'):YD t Ln (.agg l) (.agg l'):=by
 intro g w v hf hr;cases hr with
 |agg vs _ hn hc one =>refine .agg vs _ (hn.trans h.len) (fun i v d hv hd=>?_) one;obtain⟨x,hx,j⟩:=h.get hd;exact j g w v hf (hc i v x hv hx)
theorem YD.msl{t:St}{Ln:List Nat}{b n cap sz:Nat}(hb:b∈Ln)(ht:t b=sO (.cells ds))(hlen:n*sz≤ds.length)(hrow:∀i,i<n→LdC t Ln ((ds.drop (i*sz)).take sz) (row i)):YD t Ln (.msl b 0 n cap sz) (.sl .none n sz row):=by
 intro g w v hf hr;obtain⟨vs,T,hh,hsz,hc,one,hp⟩:=hf b hb ds ht;cases hr with
 |mslx a _ _ _=>exact .sl0 _ _ _ _ (by simp)
 |msl _ _ _ _ _ hcap hbig =>
 have z:∀i j,i<n→j<sz→i*sz+j<ds.length:=fun i j hi hj=>by have:(i+1)*sz≤n*sz:=ZEi _ hi;rw[ZEo,Nat.one_mul]at this;omega
 have u:∀i j,i<n→j<sz→vs[i*sz+j]?=sO (vs.getD (i*sz+j) undef):=fun i j hi hj=>by have h1:=z i j hi hj;simp only[Array.getD_eq_getD_getElem?,Array.getElem?_eq_getElem (show i*sz+j<vs.size by omega),ZEB]
 have ac:∀i j,i<n→j<sz→vs.getD (i*sz+j) undef∈vs:=fun i j hi hj=>by have h1:=z i j hi hj;simp only[Array.getD_eq_getD_getElem?,Array.getElem?_eq_getElem (show i*sz+j<vs.size by omega),ZEB];exact Array.getElem_mem _
 have ab:∀i,i<n→(row i).length=sz:=fun i hi=>by rw[←(hrow i hi).len,ZEh,ZEx];have:(i+1)*sz≤n*sz:=ZEi _ hi;rw[ZEo,Nat.one_mul]at this;omega
 refine .sl b 0 n cap sz row .none (fun i j=>vs.getD (i*sz+j) undef) ab (fun i j hi hj=>?_) (fun i j hi hj=>?_) (fun i j d hi hd=>?_) (fun i j hi hj=>one _ (ac i j hi hj)) trivial hcap hbig;rw[Nat.zero_add,Zan hh];exact u i j hi hj;have:=z i j hi hj;omega;have hj:j<sz:=by rw[←ab i hi];exact(List.getElem?_eq_some_iff.1 hd).1
 obtain⟨x,hx,ad⟩:=(hrow i hi).get hd;rw[ZEC,if_pos hj,List.getElem?_drop]at hx;exact ad g w _ hf (hc _ _ x (u i j hi hj) hx)
inductive LdE(t:St)(Ln:List Nat):Env→Env→Prop where
 |nil:LdE t Ln [] []
 |cons {k:Nat} {d d':D} {ρ ρ':Env} (h:YD t Ln d d') (r:LdE t Ln ρ ρ'):LdE t Ln ((k,.d d)::ρ) ((k,.d d')::ρ')
 |skip {k:Nat} {e:E} {ρ ρ':Env} (r:LdE t Ln ρ ρ'):LdE t Ln ((k,e)::ρ) ((k,e)::ρ')
inductive LdL(t:St)(Ln:List Nat):Loc→Loc→Prop where
 |nil:LdL t Ln [] []
 |cons {k:Nat} {c c':List D} {L L':Loc} (h:LdC t Ln c c') (r:LdL t Ln L L'):LdL t Ln ((k,c)::L) ((k,c')::L')
theorem LdE.refl{t:St}{Ln:List Nat}:∀ρ:Env,LdE t Ln ρ ρ
 | []=>.nil
 |_::ρ=>.skip (LdE.refl ρ)
theorem LdE.get{t:St}{Ln:List Nat}{ρ ρ':Env}(h:LdE t Ln ρ ρ'){k:Nat}{e':E}(he:ZM ρ' k=sO e'):∃e,ZM ρ k=sO e∧(e=e'∨∃x y,e=.d x∧e'=.d y∧YD t Ln x y):=by
 induction h with
 |nil=>simp[ZM]at he
 |cons h1 _ ih =>rename_i k' d d' ρ ρ' _;simp only[ZM]at he⊢;by_cases hk:k'=k;simp only[hk,if_true,ZDV]at he⊢;exact⟨_,rfl,.inr ⟨d,d',rfl,he.symm,h1⟩⟩;simp only[hk,if_false]at he⊢;exact ih he
 |skip _ ih =>rename_i k' e ρ ρ' _;simp only[ZM]at he⊢;by_cases hk:k'=k;simp only[hk,if_true,ZDV]at he⊢;exact⟨_,rfl,.inl he⟩;simp only[hk,if_false]at he⊢;exact ih he
theorem LdL.get{t:St}{Ln:List Nat}{L L':Loc}(h:LdL t Ln L L'){k:Nat}{c':List D}(he:Ze L' k=sO c'):∃c,Ze L k=sO c∧LdC t Ln c c':=by
 induction h with
 |nil=>simp[Ze]at he
 |cons h1 _ ih =>rename_i k' c c' L L' _;simp only[Ze]at he⊢;by_cases hk:k'=k;simp only[hk,if_true,ZDV]at he⊢;exact⟨_,rfl,he▸h1⟩;simp only[hk,if_false]at he⊢;exact ih he
theorem LdL.getI{t:St}{Ln:List Nat}{L L':Loc}(h:LdL t Ln L L'){k:Nat}{c:List D}(he:Ze L k=sO c):∃c',Ze L' k=sO c':=by
 induction h with
 |nil=>simp[Ze]at he
 |cons h1 _ ih =>rename_i k' c c' L L' _;simp only[Ze]at he⊢;by_cases hk:k'=k;simp only[hk,if_true];exact⟨_,rfl⟩;simp only[hk,if_false]at he⊢;exact ih he
def St.delL(s:St)(Ln:List Nat):St:=fun b=>if b∈Ln then nO else s b
def J3(g:G)(t:St)(Ln:List Nat):G:={ g with prot:=fun b=>if b∈Ln then (match t b with|some (.cells ds)=>ds.length|_=>0) else g.prot b }
theorem Zcx{t:St}{Ln:List Nat}(hs:Yh g t w)(hL:∀b∈Ln,∃ds,t b=sO (.cells ds)):Ext g w (J3 g t Ln) w:={
 size:=ZEd _
 prot b:=by simp only[J3];split;rename_i h;obtain⟨ds,hd⟩:=hL b h;have:=(hs.obj b _ hd).1;omega;exact ZEd _
 cell _ _ _:=rfl
 hdr _ _ h:=h
 kept _ _:=rfl
 keptProt b hb:=by simp only[J3];split;rename_i h;obtain⟨ds,hd⟩:=hL b h;exact absurd hb (hs.kept b _ hd);rfl
 keptEq:=rfl
 os:=rfl
 output:=rfl
 tape:=rfl }
theorem ZnY{t:St}{Ln:List Nat}(hs:Yh g t w)(hL:∀b∈Ln,∃ds,t b=sO (.cells ds)):∀b∈Ln,∀ds,t b=sO (.cells ds)→Ztz (J3 g t Ln) w b ds:=by
 intro b hb ds hd;obtain⟨hp,vs,T,h1,h2,h3,h4⟩:=hs.obj b _ hd;exact⟨vs,T,h1,h2,fun i v d hv j=>(h3 i v d hv j).mono (Zcx hs hL),h4,by simp only[J3,if_pos hb,hd];exact ZEd _⟩
section
variable {P:Program}
theorem Zh1{F:Fr P}{dk:List Zh}{ρ ρ':Env}{L L':Loc}(Ln:List Nat)(hL:∀b∈Ln,∃ds,s b=sO (.cells ds))(hE:LdE s Ln ρ ρ')(hLL:LdL s Ln L L')(k:Zv F dk ρ' L' (s.delL Ln)):Zv F dk ρ L s:=by
 intro kk hk g ν w tmps hN m;have hx:=Zcx m.st hL;have z:=ZnY m.st hL;have t:∀c,c∉Ln→(J3 g s Ln).prot c=g.prot c:=fun c hc=>by simp only[J3,if_neg hc]
 refine F.T.ext _ _ _ _ _ hx (k kk hk _ ν w tmps hN ?_);have af:∀l cs,Ze L l=sO cs→ν l∉Ln:=fun l cs hl h=>by obtain⟨ds,hd⟩:=hL _ h;have:=m.locSt l cs hl;rw[hd]at this;simp at this
 refine⟨⟨fun c x j=>?_,fun c x j=>?_,fun c hc=>?_,fun n cs hc=>(m.st.tabs n cs hc).mono hx⟩,fun l cs hl=>?_,fun l cs hl=>?_,fun l cs hl=>?_,fun l l' cs cs' h1 h2=>?_,fun t' e he=>?_⟩;simp only[St.delL]at j;by_cases hc:c∈Ln;simp[hc]at j;simp only[hc,if_false]at j;exact(m.st.obj c x j).mono hx rfl (t c hc);simp only[St.delL]at j;by_cases hc:c∈Ln;simp[hc]at j;simp only[hc,if_false]at j;exact m.st.kept c x j;have h1:=m.st.fresh c hc;refine⟨(t c fun h=>?_).trans h1.1,h1.2⟩;obtain⟨ds,hd⟩:=hL c h;have:=(m.st.obj c _ hd).lt;omega;obtain⟨c,hc,u⟩:=hLL.get hl;have ad:=(m.loc l c hc).mono hx rfl (t _ (af l c hc));obtain⟨h1,vs,T,h2,h3,h4,h5⟩:=ad;refine⟨h1,vs,T,h2,h3.trans u.len,fun i v d hv hd=>?_,h5⟩;obtain⟨x,ac,ae⟩:=u.get hd;exact ae _ w v z (h4 i v x hv ac);obtain⟨c,hc,_⟩:=hLL.get hl;exact m.locKept l c hc;obtain⟨c,hc,_⟩:=hLL.get hl;simp only[St.delL];split;rfl;exact m.locSt l c hc;obtain⟨c,hc,_⟩:=hLL.get h1;obtain⟨c',ab,_⟩:=hLL.get h2;exact m.inj l l' c c' hc ab;obtain⟨e0,h0,h1⟩:=hE.get he;have hr:=m.env t' e0 h0;rcases h1 with h1|⟨x,y,h1,h2,h3⟩;subst h1;exact(hr.mono hx).locs fun l cs hl=>⟨(hLL.getI hl),rfl⟩;subst h1;subst h2;exact h3 _ w _ z (Rep.mono hr hx)
inductive SC(N:Nat→Prop):D→Prop where
 |int (k:IntKind) (n:Int):SC N (.int k n)
 |bool (b:Bool):SC N (.bool b)
 |str (l:List UInt8):SC N (.str l)
 |nilsl:SC N .nilsl
 |agg (cs:List D) (h:∀c∈cs,SC N c):SC N (.agg cs)
 |tup (cs:List D) (h:∀c∈cs,SC N c):SC N (.tup cs)
 |sl0 (t:Tok) (s:Nat) (row:Nat→List D):SC N (.sl t 0 s row)
 |tip (b n s:Nat) (row:Nat→List D) (hb:N b) (h:∀i,i<n→∀c∈row i,SC N c):SC N (.sl (.tip b) n s row)
 |ptr (b o:Nat):SC N (.ptr b o)
 |msl (b o n cap s:Nat):SC N (.msl b o n cap s)
 |fn (f:Fn) (a b:List D) (ha:∀c∈a,SC N c) (hb:∀c∈b,SC N c):SC N (.fn f a b)
 |nilptr:SC N .nilptr
 |map (b:Nat):SC N (.map b)
 |nilmap:SC N .nilmap
 |nilfn:SC N .nilfn
 |niliface:SC N .niliface
 |undef:SC N .undef
theorem SC.rep{N:Nat→Prop}{d:D}(h:SC N d):∀{g g':G} {w:World} {v:Value},(∀b,N b→g.prot b≤g'.prot b)→Rep g w v d→Rep g' w v d:=by
 induction h with
 |int k n=>intro g g' w v _ hr;cases hr with|int _ _ h=>exact .int k n h
 |bool b=>intro g g' w v _ hr;cases hr;exact .bool b
 |str l=>intro g g' w v _ hr;cases hr with|str s _ h hb=>exact .str s l h hb
 |nilsl=>intro g g' w v _ hr;cases hr;exact .nilsl
 |agg cs _ ih =>
  intro g g' w v hp hr;cases hr with
  |agg vs _ hn hc one=>exact .agg vs cs hn (fun i v d hv hd=>ih d (List.mem_of_getElem? hd) hp (hc i v d hv hd)) one
 |tup cs _ ih =>
  intro g g' w v hp hr;cases hr with
  |tup vs _ hn hc=>exact .tup vs cs hn (fun i v d hv hd=>ih d (List.mem_of_getElem? hd) hp (hc i v d hv hd))
 |sl0 t s row =>
  intro g g' w v hp hr;cases hr with
  |sl0 _ _ _ _ ht=>exact .sl0 _ t s row ht
  |sl b o n cap sz _ t f hl hc hpp hrr one ht hcap hb =>exact .sl b o 0 cap s row t f hl hc (fun i j hi=>by omega) (fun i j d hi=>by omega) one ht hcap hb
 |tip b n s row hb _ ih =>
  intro g g' w v hp hr;cases hr with
  |sl0 _ _ _ _ ht=>exact .sl0 _ _ s row ht
  |sl b' o n cap sz _ t f hl hc hpp hrr one ht hcap hbig =>have u:b'=b:=ht.1;subst u;exact .sl b' o n cap s row (.tip b') f hl hc (fun i j hi hj=>Nat.lt_of_lt_of_le (hpp i j hi hj) (hp _ hb)) (fun i j d hi hd=>ih i hi d (List.mem_of_getElem? hd) hp (hrr i j d hi hd)) one ht hcap hbig
 |ptr b o=>intro g g' w v _ hr;cases hr;exact .ptr b o
 |msl b o n cap s=>intro g g' w v _ hr;cases hr with|msl _ _ _ _ _ h hb=>exact .msl b o n cap s h hb|mslx a _ _ _=>exact .mslx a _ _ _
 |fn f a b _ _ iha ihb =>
  intro g g' w v hp hr;cases hr with
  |fn _ fs cs _ _ hnf hnc hf hc=>exact .fn f fs cs a b hnf hnc (fun i v d hv hd=>iha d (List.mem_of_getElem? hd) hp (hf i v d hv hd)) (fun i v d hv hd=>ihb d (List.mem_of_getElem? hd) hp (hc i v d hv hd))
 |nilptr=>intro g g' w v _ hr;cases hr;exact .nilptr
 |map b=>intro g g' w v _ hr;cases hr;exact .map b
 |nilmap=>intro g g' w v _ hr;cases hr;exact .nilmap
 |nilfn=>intro g g' w v _ hr;cases hr;exact .nilfn
 |niliface=>intro g g' w v _ hr;cases hr;exact .niliface
 |undef=>intro g g' w v _ hr;cases hr;exact .undef
def SCO(N:Nat→Prop):Z1→Prop
 |.cells ds=>∀d∈ds,SC N d
 |.map es=>∀e∈es,SC N e.1∧SC N e.2
 |.tip _=>True
 |.dfr=>True
 |_=>False
theorem SCO.ok{N:Nat→Prop}{o:Z1}(h:SCO N o){g g':G}{b:Nat}(hp:∀b,N b→g.prot b≤g'.prot b)(hpb:g'.prot b=g.prot b)(hr:Wz g w b o):Wz g' w b o:=by
 cases o with
 |cells ds =>obtain⟨h0,vs,T,h1,h2,h3,h4⟩:=hr;exact⟨hpb.trans h0,vs,T,h1,h2,fun i v d hv hd=>(h d (List.mem_of_getElem? hd)).rep hp (h3 i v d hv hd),h4⟩
 |map es =>obtain⟨h0,en,cl,h1,h2,h3,h4,h5,h6⟩:=hr;exact⟨hpb.trans h0,en,cl,h1,h2,fun i x d hv hd=>(h d (List.mem_of_getElem? hd)).1.rep hp (h3 i x d hv hd),fun i x d hv hd=>(h d (List.mem_of_getElem? hd)).2.rep hp (h4 i x d hv hd),h5,h6⟩
 |tip k =>obtain⟨h0,x⟩:=hr;exact⟨hpb.trans h0,x⟩
 |dfr=>exact⟨hpb.trans hr.1,hr.2⟩
 |mapE _ _ _ _=>exact h.elim
 |loop _ _=>exact h.elim
def SCR(N:Nat→Prop):Res→Prop
 |.ret d=>SC N d
 |.panic d=>SC N d
theorem ZJ.ldC{t:St}{Ln:List Nat}(hf:∀b∈Ln,∀ds,t b=sO (.cells ds)→Ztz g w b ds){vs:List Value}{a a':List D}(h:ZJ (Rep g w) vs a)(hl:LdC t Ln a a'):ZJ (Rep g w) vs a':=by
 induction hl generalizing vs with
 |nil=>cases h;exact .nil
 |cons h1 _ ih=>cases h with|cons h2 h3=>exact .cons (h1 _ _ _ hf h2) (ih h3)
theorem Za.lend{f:FuncId}{args args':List D}{t:St}{Ln:List Nat}(hL:∀b∈Ln,∃ds,t b=sO (.cells ds))(hl:LdC t Ln args args')(h:Za P f args' (fun _=>nO) Φ)(hΦ:∀r S,Φ r S→SCR (fun b=>(S b).isSome=true) r∧∀b o,S b=sO o→SCO (fun b=>(S b).isSome=true) o):
  Za P f args t fun r S=>∃S',Φ r S'∧Z6 S' t∧S=S'.or t:=by
 refine⟨h.1,fun g w vs hs ha=>?_⟩;have hx:=Zcx hs hL;have al:=ZnY hs hL;have ai:ZJ (Rep (J3 g t Ln) w) vs args':=ZJ.ldC al (ha.imp fun _ _ h=>Rep.mono h hx) hl;have aj:Yh ((J3 g t Ln).keep fun b=>g.kept b∨(t b).isSome=true) (fun _=>nO) w:=by
  refine⟨fun b o hb=>by simp at hb,fun b o hb=>by simp at hb,fun b hb=>?_,fun n cs hc=>WF ((hs.tabs n cs hc).mono hx)⟩;have h1:=hs.fresh b hb;have z:t b=nO:=by
   cases z:t b with
   |none=>rfl
   |some o=>have:=(hs.obj b o z).lt;omega
  have j:b∉Ln:=fun hm=>by obtain⟨ds,hd⟩:=hL b hm;rw[z]at hd;simp at hd
  exact⟨by show(J3 g t Ln).prot b=0;simp only[J3,if_neg j];exact h1.1,fun hk=>by rcases hk with hk|hk;exact h1.2 hk;rw[z]at hk;simp at hk⟩
 refine(h.2 _ w vs aj (ai.imp fun _ _ h=>WF h)).mono fun e w' hp=>?_;obtain⟨g',S',r,he,hS,hr,hq⟩:=hp;have u:=he.keptEq;obtain⟨ab,ag⟩:=hΦ r S' hq;have ah:Z6 S' t:=fun b o hb=>by
  cases i:S' b with
  |none=>rfl
  |some x=>exact absurd (by rw[u];exact .inr (by rw[hb];rfl)) (hS.kept b x i)
 have af:∀b,(S' b).isSome=true→b∉Ln:=fun b hb hm=>by obtain⟨ds,hd⟩:=hL b hm;rw[ah b _ hd]at hb;simp at hb
 let g2:G:={ prot:=fun b=>if b∈Ln then 0 else g'.prot b,kept:=g.kept };have ad:∀b,(S' b).isSome=true→g'.prot b≤g2.prot b:=fun b hb=>by simp only[g2,if_neg (af b hb)];exact ZEd _
 have hf:∀b,b∉Ln→(J3 g t Ln).prot b=g.prot b:=fun b hb=>by simp only[J3,if_neg hb]
 have ae:∀b,b∈Ln→g.prot b=0:=fun b hb=>by obtain⟨ds,hd⟩:=hL b hb;exact(hs.obj b _ hd).1
 have ac:Ext g w g2 w':=by
  refine⟨he.size,fun b=>?_,fun b o ho=>?_,he.hdr,fun b hb=>he.kept b (.inl hb),fun b hb=>?_,rfl,he.os,he.output,he.tape⟩;simp only[g2];split;rename_i hb;rw[ae b hb];exact ZEd _;rename_i hb;rw[←hf b hb];exact he.prot b;have hb:b∉Ln:=fun hb=>by rw[ae b hb]at ho;omega
  exact he.cell b o (by show o<(J3 g t Ln).prot b;rw[hf b hb];exact ho);have j:b∉Ln:=fun hm=>by obtain⟨ds,hd⟩:=hL b hm;exact hs.kept b _ hd hb
  simp only[g2,if_neg j];rw[←hf b j];exact he.keptProt b (.inl hb)
 have hg'0:∀b,w'.heap.size≤b→g'.prot b=0∧¬g'.kept b:=fun b hb=>hS.fresh b hb;refine⟨g2,S'.or t,r,ac,⟨fun b o hb=>?_,fun b o hb=>?_,fun b hb=>?_,fun n cs hc=>(hs.tabs n cs hc).mono ac⟩,?_,S',hq,ah,rfl⟩
 ·cases i:S' b with
  |some x =>
   rw[Zp i]at hb;cases hb;have ak:(S' b).isSome=true:=by rw[i];rfl
   exact(ag b _ i).ok ad (by simp only[g2,if_neg (af b ak)]) (hS.obj b _ i)
  |none =>rw[ZH i]at hb;have hk:g.kept b∨(t b).isSome=true:=.inr (by rw[hb];rfl);refine(hs.obj b o hb).mono ac (he.kept b hk) ?_;by_cases j:b∈Ln;simp only[g2,if_pos j];exact(ae b j).symm;simp only[g2,if_neg j];rw[←hf b j];exact he.keptProt b hk
 ·cases i:S' b with
  |some x=>exact fun hk=>hS.kept b x i (by rw[u];exact .inl hk)
  |none=>rw[ZH i]at hb;exact hs.kept b o hb
 have:=hS.fresh b hb;refine⟨?_,fun hk=>this.2 (by rw[u];exact .inl hk)⟩;simp only[g2];split;rfl;exact this.1;cases e<;>cases r<;>simp only[ZtF]at hr⊢;exact SC.rep ab ad hr;obtain⟨v,h1,h2⟩:=hr;exact⟨v,h1,SC.rep ab ad h2⟩
end
end Go.DL
namespace Go.DL
open Go Go.ChangeShapes Go.RowKit Go.WideShapes Go.ChangeAt
variable [Zqj]
def Zcn(W:World):G:={ prot:=fun b=>match W.heap[b]? with|some (.cells vs _ _)=>vs.size|_=>0,kept:=fun b=>b<W.heap.size }
def Zl1(W:World):Prop:=∀n cs,Zqj.tab n=sO cs→Rep (Zcn W) W (.pointer (sO ⟨n,0,nO⟩)) (.ep cs 0)
theorem Zy9{W:World}(ht:Zl1 W):Yh (Zcn W) (fun _=>nO) W:={
 tabs:=ht
 obj b o h:=by simp at h
 kept b o h:=by simp at h
 fresh b hb:=⟨by simp[Zcn,hb],by simp only[Zcn];omega⟩ }
theorem Zy7{P:Program}{W:World}{name:String}{g:Nat}{k:IntKind}{zs:List Int}(h:W.var? P name=sO (zs.map fun z=>Value.int k z).toArray)(hg:P.globalNamed name=sO g)(hz:∀z∈zs,inR k z) :
  Rep (Zcn W) W (.pointer (sO ⟨g,0,nO⟩)) (.ep (zs.map fun z=>.int k z) 0):=by
 unfold World.var? at h;rw[hg]at h;simp only[Option.bind_some]at h;split at h<;>(try(simp at h;done));rename_i cs T fr hh;simp only[ZDV]at h;subst h;have n:∀i (hi:i<zs.length),W.cell? ⟨g,0+i,nO⟩=sO (.int k zs[i]):=fun i hi=>by simp only[World.cell?,hh];simp[hi]
 refine .ep g 0 0 _ (fun i=>.int k (zs.getD i 0)) (fun i hi=>?_) (fun i hi=>?_) (fun i d hd=>?_) (fun i hi=>rfl);simp only[List.length_map]at hi;rw[n i hi];simp[ZEb,hi];simp only[List.length_map]at hi;simp only[Zcn,hh];simpa using hi;simp only[List.getElem?_map,ZD9]at hd;obtain⟨z,j,rfl⟩:=hd;simp only[ZEb,j,ZEB];exact .int k z (hz z (List.mem_of_getElem? j))
theorem ZxT{P:Program}{f:FuncId}{args:List D}(h:Zf P f args (.bool true)){W:World}(ht:Zl1 W){vs:List Value}(ha:ZJ (Rep (Zcn W) W) vs args) :
  Calls P f vs.toArray W fun e W'=>e=.returned (.bool true)∧Below W.heap.size W W':=by
 refine((h (fun _=>nO)).2 _ W vs (Zy9 ht) ha).mono fun e W' hp=>?_;obtain⟨g',s',r,he,hs,hr,hq,_⟩:=hp;subst hq;cases e with
 |returned v=>cases hr;exact⟨rfl,he.os,he.tape,he.output,he.size,fun b hb=>he.kept b hb⟩
 |_=>exact hr.elim
section
variable {H:Type} {enc:TypeId × Value→H} {P:Program} {w:World}
def WZ(p:Nat→Prop)(enc:TypeId×Value→H)(P:Program)(w:World)(t:TypeId)(R:List D→Prop):Prop :=
 ∀fuel cs x,p fuel→DataW.trod enc P w 0 (fun _=>true) true fuel t cs=sO x→(∀k∈x.1.weights P t,k≤reachBytes)→∃ds,R ds∧ZJ (Rep (Zcn w) w) cs ds∧∀v∈cs,v.one1=true
abbrev ZaF(enc:TypeId×Value→H)(P:Program)(w:World)(t:TypeId)(R:List D→Prop):Prop:=WZ (fun _=>True) enc P w t R
variable {p q:Nat→Prop}
theorem ZvQ{k:IntKind}{n:Int}(h:(Lit.int k n).wf=true):inR k n:=by
 simpa[Lit.wf,inR]using h
theorem ZmV{t:TypeId}{k:IntKind}(ht:P.underlying t=sO (.int k)):WZ p enc P w t fun ds=>∃n,inR k n∧ds=[.int k n]:=by
 intro fuel cs x _ h _;obtain⟨n,rfl,_,hn⟩:=DataW.trod_int ht h;exact⟨_,⟨n,ZvQ hn,rfl⟩,.cons (.int k n (ZvQ hn)) .nil,fun v hv=>by simp at hv;subst hv;rfl⟩
theorem WZ.imp{t:TypeId}{R R':List D→Prop}(h:WZ p enc P w t R)(hi:∀ds,R ds→R' ds):WZ p enc P w t R':=fun i cs x hp hx hw=>by
 obtain⟨ds,h1,h2⟩:=h i cs x hp hx hw;exact⟨ds,hi ds h1,h2⟩
theorem Jt{t:TypeId}{k:IntKind}(ht:P.underlying t=sO (.int k)):WZ p enc P w t fun ds=>∃n,ds=[.int k n]:=(ZmV ht).imp fun _ ⟨n,_,h⟩=>⟨n,h⟩
theorem ZuB{t:TypeId}(ht:P.underlying t=sO .bool):WZ p enc P w t fun ds=>∃b,ds=[.bool b]:=by
 intro fuel cs x _ h _;obtain⟨n,rfl,_⟩:=DataW.trod_bool ht h;exact⟨_,⟨n,rfl⟩,.cons (.bool n) .nil,fun v hv=>by simp at hv;subst hv;rfl⟩
theorem ZuC{t:TypeId}(ht:P.underlying t=sO .string):WZ p enc P w t fun ds=>∃s:List UInt8,s.length≤reachBytes∧ds=[.str s]:=by
 intro fuel cs x _ h hw;obtain⟨s,rfl,rfl,hs⟩:=DataW.trod_string ht h;refine⟨_,⟨s.data.toList,hw _ (by simp[DataW.weights]),rfl⟩,.cons (.str s _ rfl ?_) .nil,fun v hv=>by simp at hv;subst hv;rfl⟩;have:s.data.toList.length=s.size:=by rw[Array.length_toList];rfl
 rw[this];simp only[maxLen]at hs;simp only[big];omega
theorem Qf{t:TypeId}(ht:P.underlying t=sO .string):WZ p enc P w t fun ds=>∃s,ds=[.str s]:=(ZuC ht).imp fun _ ⟨s,_,h⟩=>⟨s,h⟩
theorem ZfB:∀{ts:List TypeId} {ds:List (DataW H)} {i:Nat} {t:TypeId} {d:DataW H},ts[i]?=sO t→ds[i]?=sO d→∀k∈d.weights P t,k∈DataW.weightsEach P ts ds
 |t::ts,d::ds,0,_,_,ht,hd,k,hk=>by simp only[List.getElem?_cons_zero,ZDV]at ht hd;subst ht;subst hd;unfold DataW.weightsEach;exact List.mem_append_left _ hk
 |t::ts,d::ds,i+1,_,_,ht,hd,k,hk=>by unfold DataW.weightsEach;exact List.mem_append_right _ (ZfB (by simpa using ht) (by simpa using hd) k hk)
 | [],_,_,_,_,ht,_,_,_=>by simp at ht
 |_::_,[],_,_,_,_,hd,_,_=>by simp at hd
theorem ZfA:∀{ts us:List TypeId} {ds gs:List (DataW H)},ds.length=ts.length→∀k∈DataW.weightsEach P ts ds,k∈DataW.weightsEach P (ts++us) (ds++gs)
 | [],_,[],_,_,k,hk=>by simp[DataW.weightsEach]at hk
 |t::ts,us,d::ds,gs,hl,k,hk=>by unfold DataW.weightsEach at hk;rw[List.cons_append,List.cons_append];unfold DataW.weightsEach;rcases List.mem_append.1 hk with h|h;exact List.mem_append_left _ h;exact List.mem_append_right _ (ZfA (by simpa using hl) k h)
theorem ZgN{e:TypeId}:∀{ds:List (DataW H)} {d:DataW H},d∈ds→∀k∈d.weights P e,k∈DataW.weightsAll P e ds
 |d::ds,x,hx,k,hk=>by unfold DataW.weightsAll;rcases List.mem_cons.1 hx with rfl|hx;exact List.mem_append_left _ hk;exact List.mem_append_right _ (ZgN hx k hk)
theorem Zr8{α β:Type}{R:α→β→Prop}{a a':List α}{b b':List β}(h:ZJ R a b)(h':ZJ R a' b'):ZJ R (a++a') (b++b'):=by
 induction h with
 |nil=>exact h'
 |cons h1 _ ih=>exact .cons h1 ih
def Cat:List (List D→Prop)→List D→Prop
 | [],ds=>ds=[]
 |R::Rs,ds=>∃a b,ds=a++b∧R a∧Cat Rs b
def Zrp(P:Program):Nat→List Field→Nat→Bool
 |o,[],n=>o==n
 |o,f::r,n=>f.offset==o&&Zrp P (o+P.cellsOf f.type) r n
inductive Zh7(p:Nat→Prop)(enc:TypeId×Value→H)(P:Program)(w:World):List Field→List (List D→Prop)→Prop where
 |nil:Zh7 p enc P w [] []
 |cons {f:Field} {fs:List Field} {R:List D→Prop} {Rs:List (List D→Prop)} (h:WZ p enc P w f.type R) (t:Zh7 p enc P w fs Rs):Zh7 p enc P w (f::fs) (R::Rs)
theorem Zwb{fs:List Field}{Rs:List (List D→Prop)}(hR:Zh7 q enc P w fs Rs):∀{o n m:Nat} {cs:List Value},q m→Zrp P o fs n=true→cs.length=n →
  (∀f∈fs,∃x,DataW.trod enc P w 0 (fun _=>true) true m f.type ((cs.drop f.offset).take (P.cellsOf f.type))=sO x∧∀k∈x.1.weights P f.type,k≤reachBytes) →
  ∃ds,Cat Rs ds∧ZJ (Rep (Zcn w) w) (cs.drop o) ds∧∀v∈cs.drop o,v.one1=true:=by
 induction hR with
 |nil =>intro o n m cs _ ho hl _;simp only[Zrp,beq_iff_eq]at ho;subst ho;subst hl;exact⟨[],rfl,by rw[List.drop_length];exact .nil,by simp⟩
 |cons h _ ih =>
  rename_i f fs R Rs _;intro o n m cs hm ho hl hx;simp only[Zrp,ZD5,beq_iff_eq]at ho;obtain⟨ac,u⟩:=ho;obtain⟨x,h1,hw⟩:=hx f (List.mem_cons_self ..);obtain⟨a,z,i,j⟩:=h _ _ _ hm h1 hw;obtain⟨b,ad,t,ae⟩:=ih hm u hl fun f' ab=>hx f' (List.mem_cons_of_mem _ ab);rw[ac]at i j;have e:cs.drop o=(cs.drop o).take (P.cellsOf f.type)++cs.drop (o+P.cellsOf f.type):=by rw[←List.drop_drop];exact(List.take_append_drop _ _).symm
  refine⟨a++b,⟨a,b,rfl,z,ad⟩,by rw[e];exact Zr8 i t,fun v hv=>?_⟩;rw[e,List.mem_append]at hv;exact hv.elim (j v) (ae v)
theorem KC{t:TypeId}{fs:Array Field}(ht:P.underlying t=sO (.struct fs)){Rs:List (List D→Prop)}(hR:Zh7 q enc P w fs.toList Rs)(ho:Zrp P 0 fs.toList (P.cellsOf t)=true)(hpq:∀n,p (n+1)→q n:=by intros;trivial):WZ p enc P w t (Cat Rs):=by
 intro fuel cs x hp h hw;obtain⟨xs,n,rfl,rfl,hl,hxl,hx⟩:=DataW.trod_struct ht h;obtain⟨ds,h1,h2,h3⟩:=Zwb hR (m:=n) (hpq n hp) ho hl (fun f hf=>by
  obtain⟨i,hi,rfl⟩:=ZEe hf;have j:i<fs.size:=by simpa using hi
  refine⟨xs[i]'(by omega),?_,fun k hk=>hw k ?_⟩;have:=hx i fs[i] (by simp[j]);rw[ZEr (by omega)]at this;simpa using this;unfold DataW.weights;rw[ht];exact ZfB (i:=i) (by simp[j]) (by rw[List.getElem?_map,ZEr (by omega)];rfl) k hk)
 rw[List.drop_zero]at h2 h3;exact⟨ds,h1,h2,h3⟩
theorem Zby{a:Addr}{n:Nat}{cs:List Value}(h:w.cells? 0 a n=sO cs):cs.length=n∧∀j,j<n→w.cell? (a.add j)=cs[j]?:=by
 simp only[World.cells?,Nat.zero_le,if_true]at h;refine⟨by simpa using mapM_some_length h,fun j hj=>?_⟩;have:=mapM_some_get h j j (by simp[hj]);exact this
theorem ZpD{t e:TypeId}{n:Nat}{α:Type}[Inhabited α]{f:α→List D}{Qx:α→Prop}{row:List α→Nat→List D}(hrow:∀l i,i<l.length→row l i=f (l.getD i dE))(ht:P.underlying t=sO (.slice e))(hn:P.cellsOf e=n)(hn0:0<n)(hf:∀x,(f x).length=n)
  (he:WZ q enc P w e fun ds=>∃x,Qx x∧ds=f x) (hpq:∀n,p (n+1)→q n:=by intros;trivial):WZ p enc P w t fun ds=>∃l:List α,(∀x∈l,Qx x)∧l.length*P.bytesOf e≤reachBytes∧ds=[.sl .none l.length n (row l)]:=by
 intro fuel cs x hp h hw;rcases DataW.trod_slice ht h with ⟨rfl,_⟩|⟨a,len,cap,elems,rest,m,rfl,rfl,rfl,_,ai,ah,ap,hx,ae,_⟩;exact⟨_,⟨[],fun x hx=>absurd hx List.not_mem_nil,by simp,rfl⟩,.cons (.sl0 _ _ _ _ (by simp)) .nil,fun v hv=>by simp at hv;subst hv;rfl⟩;unfold DataW.weights at hw;rw[ht]at hw;have z:∀i,i<len→∃(cs:List Value) (y:α),Qx y∧w.cells? 0 (a.add (i*n)) n=sO cs∧ZJ (Rep (Zcn w) w) cs (f y)∧∀v∈cs,v.one1=true:=by intro i hi;have h1:=hx i hi;rw[ZEr (by omega),hn]at h1;obtain⟨cs,h2,h3⟩:=Option.bind_eq_some_iff.1 h1;obtain⟨ds,⟨y,hy,rfl⟩,h4,h5⟩:=he _ _ _ (hpq _ hp) h3 fun k hk=>hw k (List.mem_cons_of_mem _ (List.mem_append_left _ (ZgN (List.mem_map_of_mem (List.getElem_mem _)) k hk)));exact⟨cs,y,hy,h2,h4,h5⟩
 have ac:cap≤big:=by simp only[maxLen]at ah;simp only[big];omega
 let g:(i:Nat)→i<len→α:=fun i hi=>(Classical.choose_spec (z i hi)).choose;let c:(i:Nat)→i<len→List Value:=fun i hi=>Classical.choose (z i hi);have hg:∀i (hi:i<len),w.cells? 0 (a.add (i*n)) n=sO (c i hi)∧ZJ (Rep (Zcn w) w) (c i hi) (f (g i hi))∧∀v∈c i hi,v.one1=true:=fun i hi=>(Classical.choose_spec (z i hi)).choose_spec.2;have hq:∀i (hi:i<len),Qx (g i hi):=fun i hi=>(Classical.choose_spec (z i hi)).choose_spec.1;let l:List α:=List.ofFn fun i:Fin len=>g i.1 i.2;have ad:l.length=len:=by simp[l]
 have al:∀i (hi:i<len),l.getD i dE=g i hi:=fun i hi=>by simp[l,ZEb,hi]
 have ag:∀i (hi:i<len),row l i=f (g i hi):=fun i hi=>by rw[hrow l i (by omega),al i hi]
 refine⟨_,⟨l,fun x hx=>(by obtain⟨i,rfl⟩:=List.mem_ofFn.1 hx;exact hq i.1 i.2),Nat.le_trans (ZEi _ (by rw[ad,←ap,List.length_map];exact Nat.le_add_right _ _)) (hw _ (List.mem_cons_self ..)),rfl⟩,.cons ?_ .nil,fun v hv=>by simp at hv;subst hv;rfl⟩;by_cases ak:len=0;subst ak;have aj:l=[]:=List.eq_nil_of_length_eq_zero ad;rw[aj];by_cases hs:a.spot=nO;obtain⟨b,o,sp⟩:=a;simp only at hs;subst hs;exact .sl b o 0 cap n _ .none (fun _ _=>undef) (fun i hi=>by simp at hi) (fun i j hi=>by simp at hi) (fun i j hi=>by simp at hi) (fun i j d hi=>by simp at hi) (fun i j hi=>by simp at hi) trivial (Nat.zero_le _) ac;have am:cap=0:=by rcases Nat.eq_zero_or_pos cap with h0|h0;exact h0;obtain⟨h1,h2⟩:=ae rfl;have h3:=h2 0 (by omega);rw[ZEr (by omega),hn]at h3;obtain⟨cs,h4,_⟩:=Option.bind_eq_some_iff.1 h3;have h5:=(Zby h4).2 0 (by omega);have h6:=(Zby h4).1;rw[ZEr (by omega)]at h5;have:=World.cell?_spot h5;exact absurd (by simpa[Addr.add]using this) hs
 subst am;exact .sl0 _ _ _ _ (by simp);have af:a.spot=nO:=by have h0:=(hg 0 (by omega)).1;have h1:=(Zby h0).2 0 (by omega);have h2:(c 0 (by omega)).length=n:=(Zby h0).1;rw[ZEr (by omega)]at h1;have:=World.cell?_spot h1;simpa[Addr.add]using this
 obtain⟨b,o,sp⟩:=a;simp only at af;subst af;have ab:∀i j (hi:i<len) (hj:j<n),w.cell? ⟨b,o+i*n+j,nO⟩=(c i hi)[j]?:=fun i j hi hj=>by have h1:=(Zby (hg i hi).1).2 j hj;rw[WW,WW]at h1;exact h1
 have u:∀i (hi:i<len),(c i hi).length=n:=fun i hi=>(Zby (hg i hi).1).1;rw[ad];refine .sl b o len cap n _ .none (fun i j=>if hi:i<len then (c i hi).getD j undef else undef) (fun i hi=>by rw[ag i hi];exact hf _) (fun i j hi hj=>?_) (fun i j hi hj=>?_) (fun i j d hi hd=>?_) (fun i j hi hj=>?_) trivial ai ac;simp only[dif_pos hi];rw[ab i j hi hj,ZEb,ZEr (by rw[u i hi];exact hj)];rfl;have h1:=ab i j hi hj;rw[ZEr (by rw[u i hi];exact hj)]at h1;simp only[World.cell?]at h1;split at h1;rename_i vs T fr hh;simp only[Zcn,hh];have ao:vs[o+i*n+j]?=sO ((c i hi)[j]'(by rw[u i hi];exact hj)):=by simpa using h1
 exact(Array.getElem?_eq_some_iff.1 ao).1;simp at h1;simp only[dif_pos hi];rw[ag i hi]at hd;have hj:j<n:=by rw[←hf (g i hi)];exact(List.getElem?_eq_some_iff.1 hd).1
 refine(hg i hi).2.1.get j _ d ?_ hd;rw[ZEb,ZEr (by rw[u i hi];exact hj)];rfl;simp only[dif_pos hi];refine(hg i hi).2.2 _ ?_;rw[ZEb,ZEr (by rw[u i hi];exact hj)];exact List.getElem_mem _
theorem ZiY{t e:TypeId}{n:Nat}{α:Type}[Inhabited α]{f:α→List D}{row:List α→Nat→List D}(hrow:∀l i,i<l.length→row l i=f (l.getD i dE))(ht:P.underlying t=sO (.slice e))(hn:P.cellsOf e=n)(hn0:0<n)(hf:∀x,(f x).length=n)
  (he:WZ q enc P w e fun ds=>∃x,ds=f x) (hpq:∀n,p (n+1)→q n:=by intros;trivial):WZ p enc P w t fun ds=>∃l:List α,ds=[.sl .none l.length n (row l)]:=(ZpD (Qx:=fun _=>True) hrow ht hn hn0 hf (he.imp fun _ ⟨x,h⟩=>⟨x,trivial,h⟩) hpq).imp fun _ ⟨l,_,_,h⟩=>⟨l,h⟩
theorem JY{t e:TypeId}{n:Nat}{α:Type}[Inhabited α]{f:α→List D}(ht:P.underlying t=sO (.slice e))(hn:P.cellsOf e=n)(hn0:0<n)(hf:∀x,(f x).length=n)
  (he:WZ q enc P w e fun ds=>∃x,ds=f x) (hpq:∀n,p (n+1)→q n:=by intros;trivial):WZ p enc P w t fun ds=>∃l:List α,ds=[.sl .none l.length n fun i=>f (l.getD i dE)] :=
 ZiY (row:=fun l i=>f (l.getD i dE)) (fun _ _ _=>rfl) ht hn hn0 hf he hpq
def Zea(enc:TypeId×Value→H)(P:Program)(t:TypeId)(Q:D→Prop):Prop :=
 ∀(W:World) (base:Nat) (v:Value) (d:DataW H) (ps:List MemPlace),Value.okWide P W .any base t v→DataW.Trod enc P W 0 (fun _=>true) true t v d ps→(∀k∈d.weights P t,k≤reachBytes)→∃x,Q x∧Rep (Zcn W) W v x
theorem Ze7{t:TypeId}{fs:Array Field}(ht:P.underlying t=sO (.struct fs)){R:List D→Prop}(h:∀W,ZaF enc P W t R):Zea enc P t fun x=>∃ds,R ds∧x=.agg ds:=by
 intro W base v d ps j ⟨fuel,hf⟩ hw;obtain⟨cs,rfl,_⟩:=okWide_struct ht j;obtain⟨ds,h1,h2,h3⟩:=h W _ _ _ trivial hf hw;exact⟨_,⟨ds,h1,rfl⟩,.agg cs.toList ds h2.len (fun i v d hv hd=>h2.get i v d hv hd) h3⟩
theorem Zh9{t:TypeId}{R:List D→Prop}{Q:D→Prop}(h1:∀W base v,Value.okWide P W .any base t v→v.cells = #[v])(h:∀W,ZaF enc P W t R)(hq:∀ds,R ds→∃x,ds=[x]∧Q x):Zea enc P t Q:=by
 intro W base v d ps i ⟨fuel,hf⟩ hw;rw[h1 _ _ _ i]at hf;obtain⟨ds,h2,h3,_⟩:=h W _ _ _ trivial hf hw;obtain⟨x,rfl,hx⟩:=hq ds h2;cases h3 with|cons h4 _=>exact⟨x,hx,h4⟩
theorem Zzn{t:TypeId}{k:IntKind}(ht:P.underlying t=sO (.int k)):Zea enc P t fun x=>∃n,x=.int k n :=
 Zh9 (fun W base v i=>by obtain⟨a,rfl⟩:=okWide_int ht i;rfl) (fun W=>Jt ht) fun ds ⟨n,hn⟩=>⟨_,hn,n,rfl⟩
theorem Zqu{t:TypeId}(ht:P.underlying t=sO .string):Zea enc P t fun x=>∃n,x=.str n :=
 Zh9 (fun W base v i=>by obtain⟨a,rfl⟩:=okWide_string ht i;rfl) (fun W=>Qf ht) fun ds ⟨n,hn⟩=>⟨_,hn,n,rfl⟩
inductive ZlS(enc:TypeId×Value→H)(P:Program):List TypeId→List (D→Prop)→Prop where
 |nil:ZlS enc P [] []
 |cons {t:TypeId} {Q:D→Prop} {ts:List TypeId} {Qs:List (D→Prop)} (h:Zea enc P t Q) (r:ZlS enc P ts Qs):ZlS enc P (t::ts) (Q::Qs)
inductive Zp3:List (D→Prop)→List D→Prop where
 |nil:Zp3 [] []
 |cons {Q:D→Prop} {x:D} {Qs:List (D→Prop)} {xs:List D} (h:Q x) (r:Zp3 Qs xs):Zp3 (Q::Qs) (x::xs)
theorem ZwM{ts:List TypeId}{Qs:List (D→Prop)}(h:ZlS enc P ts Qs):∀{W:World} {base:Nat} {vs:List Value} {ds:List (DataW H)} {ps:List MemPlace},
  (∀(j:Nat) t v,ts[j]?=sO t→vs[j]?=sO v→Value.okWide P W .any base t v)→DataW.TrodAll enc P W 0 (fun _=>true) true ts vs ds ps→(∀k∈DataW.weightsEach P ts ds,k≤reachBytes)→∃xs,Zp3 Qs xs∧ZJ (Rep (Zcn W) W) vs xs:=by
 induction h with
 |nil =>intro W base vs ds ps _ ht _;obtain⟨rfl,_⟩:=trodAll_nil ht;exact⟨[],.nil,.nil⟩
 |cons h1 _ ih =>intro W base vs ds ps i ht hw;obtain⟨v,vs',d,ds',p,q,rfl,rfl,rfl,h2,h3⟩:=trodAll_cons ht;unfold DataW.weightsEach at hw;obtain⟨x,z,ab⟩:=h1 W base v d p (i 0 _ _ rfl rfl) h2 fun k hk=>hw k (List.mem_append_left _ hk);obtain⟨xs,u,n⟩:=ih (base:=base) (fun j t v hj hv=>i (j+1) t v (by simpa using hj) (by simpa using hv)) h3 fun k hk=>hw k (List.mem_append_right _ hk);exact⟨x::xs,.cons z u,.cons ab n⟩
theorem ZhO(hl:laidOutB P=true){W W':World}(hb:Below W.heap.size W W'):∀{ts:List TypeId} {vs:List Value} {ds:List (DataW H)} {ps:List MemPlace},(∀t∈ts,P.readableRec t=true∧t<P.types.size) →
  DataW.TrodAll enc P W 0 (fun _=>true) true ts vs ds ps→(∀x∈ps,x.block<W.heap.size)→DataW.TrodAll enc P W' 0 (fun b=>dC (b<W.heap.size)) true ts vs ds ps
 | [],vs,ds,ps,_,h,_=>by obtain⟨rfl,rfl,rfl⟩:=trodAll_nil h;rfl
 |t::ts,vs,ds,ps,ht,h,hlt=>by obtain⟨v,vs',d,ds',p,q,rfl,rfl,rfl,h2,h3⟩:=trodAll_cons h;have h4:=ht t (List.mem_cons_self ..);exact trodAll_cons_mk (Below.trod hl h4.1 h4.2 h2 hb fun x hx=>hlt x (List.mem_append_left _ hx)) (ZhO hl hb (fun t i=>ht t (List.mem_cons_of_mem _ i)) h3 fun x hx=>hlt x (List.mem_append_right _ hx))
theorem Zrc{f:FuncId}{fn:Func}{s:ChangeSpec}{tb:TypeId}{Qs:List (D→Prop)}(hv:s.vars=[])(hl:laidOutB P=true)(hr:∀t∈fn.params.toList,P.readableRec t=true∧t<P.types.size)
  (hres:fn.resultTypes = #[tb]) (hb:P.underlying tb=sO .bool) (hfn:∀ds:List (DataW H),ds.length=fn.params.toList.length→s.fn H ds={ results:=[.lit (.bool true)],args:=ds })
  (hargs:ZlS enc P fn.params.toList Qs) (hcall:∀xs,Zp3 Qs xs→Zf P f xs (.bool true))
  (W:World) (ht:Zl1 W) (base:Nat) (args:Array Value) (ds gs:List (DataW H)) (before:List MemPlace)
  (hval:∀(j:Nat) t v,fn.params[j]?=sO t→args[j]?=sO v→Value.okWide P W .any base t v) (hW:DataW.Whole enc P fn.params.toList s.vars false W args.toList ds gs before)
  (hz:(DataW.weightsEach P (fn.params.toList++s.plain.varTypes P) (ds++gs)).all (·≤reachBytes)=true) :
  Calls P f args W fun e W'=>∃v,e=.returned v∧s.post enc P fn false true false false W args v W':=by
 have z:=hW;obtain⟨p,q,hA,hV,rfl,_,_⟩:=hW;rw[hv]at hV;obtain⟨rfl,rfl⟩:=trodVars_none hV;have n:=(trodAll_length hA).2;obtain⟨xs,ac,ad⟩:=ZwM hargs (fun j t v hj ab=>hval j t v (by simpa using hj) (by simpa using ab)) hA fun k hk=>of_decide_eq_true (List.all_eq_true.1 hz k (ZfA n k hk));have ae:∀x∈p,x.block<W.heap.size:=fun x hx=>by simpa using z.lt x (by simpa using hx)
 refine(ZxT (hcall xs ac) ht ad).mono fun e W' ⟨he,u⟩=>⟨.bool true,he,?_⟩;have i:=hfn ds n;refine⟨ds,[],p++[],[],p,[],z,?_,?_,?_,u.frame _,fun h=>by cases h⟩;rw[ZEw,i,hres];exact trodAll_mk1 ⟨1,by simp[DataW.trod,hb,Value.cells]⟩;rw[ZEw,i];exact ZhO hl u hr hA ae;rw[hv,ZEw,i];rfl
end
end Go.DL
namespace Go.DL
open Go
variable {kp:Option (List Nat)}{L:Loc}{ρ:Env}{s:St}{w:World}{os:List DOp}{ds:List D}{B:List (Nat × Rd)}{dst:Option Nat}{tmps:Array Value}{g:G}{Φ:Res→St→Prop}{ν:Nat→Nat}{xs:List Opd}{side:Prop}{row:Nat→List D}
theorem ZvS(n a:Nat)(l:List Nat):J6 n (a::l)=if a=n then true else J6 n l:=by
 show(a==n ||J6 n l)=_;by_cases h:a=n<;>simp[h]
set_option linter.defProp false
def Eqs:=ZDX (ZDX (ZDX (ZDX (ZDX (ZDX (ZDX (ZDX @Option.mem_def.{0} @ZDV.{0}) (ZDX @forall_eq'.{1} @forall_eq'.{0})) (ZDX (ZDX @false_implies @decide_true) (ZDX (@Int.sub_zero) (ZDX @Int.sub_self @Zzz)))) (ZDX (ZDX (ZDX @ZAg @ZzA) (ZDX @ZzB @Zzy)) (ZDX (ZDX @and_assoc @Int.toNat_zero) (ZDX (@Bool.not_not) (ZDX @ZyC @ZzD))))) (ZDX (ZDX (ZDX (ZDX @implies_true.{1} @implies_true.{0}) (ZDX @true_and @and_true)) (ZDX (ZDX @and_self @List.drop_zero.{0}) (ZDX (@List.drop_succ_cons.{0}) (ZDX @List.take_succ_cons.{0} @List.take_zero.{0})))) (ZDX (ZDX (ZDX @List.take_nil.{0} @ZEp.{0,0}) (ZDX (@Option.map_none.{0,0}) (ZDX @Option.isSome_some.{0} @Option.isSome_none.{0}))) (ZDX (ZDX @ZEB.{0} @Option.getD_none.{0}) (ZDX (@List.flatMap_cons.{0,0}) (ZDX @List.flatMap_nil.{0,0} @ZEw.{0})))))) (ZDX (ZDX (ZDX (ZDX (ZDX @List.nil_append.{0} @List.cons_append.{0}) (ZDX @List.append_eq.{0} @List.getElem?_cons_zero.{0})) (ZDX (ZDX @List.getElem?_cons_succ.{0} @ZEf.{0}) (ZDX (@List.length_nil.{0}) (ZDX @Nat.zero_add @Nat.add_zero)))) (ZDX (ZDX (ZDX @Int.toNat_natCast @forall_const.{1}) (ZDX @forall_const.{0} @imp_self)) (ZDX (ZDX @Bool.and_true @ZEm) (ZDX (@Bool.cond_false_right) (ZDX @ZEq @Bool.not_true))))) (ZDX (ZDX (ZDX (ZDX @Bool.not_false @if_true_right) (ZDX @Zik.eq_1 @Zik.eq_2)) (ZDX (ZDX @ZgY.eq_1 @ZgY.eq_2) (ZDX (@Zgr.eq_1) (ZDX @Zgr.eq_2 @ZjU.eq_1)))) (ZDX (ZDX (ZDX @ZjU.eq_2 @ZD.eq_1) (ZDX (@KF.eq_1) (ZDX @KF.eq_2 @KF.eq_3))) (ZDX (ZDX @Yc.eq_1 @Kw.eq_1) (ZDX (@YW.eq_1) (ZDX @KB.eq_1 @KB.eq_2))))))) (ZDX (ZDX (ZDX (ZDX (ZDX (ZDX @KB.eq_3 @KB.eq_4) (ZDX @YP.eq_1 @YP.eq_2)) (ZDX (ZDX @YP.eq_3 @YP.eq_4) (ZDX (@YP.eq_6) (ZDX @qv.eq_51 @qv.eq_52)))) (ZDX (ZDX (ZDX @qv.eq_53 @YP.eq_5) (ZDX @YU.eq_1 @YU.eq_2)) (ZDX (ZDX @YU.eq_3 @YU.eq_4) (ZDX (@YU.eq_5) (ZDX @YU.eq_6 @YU.eq_7))))) (ZDX (ZDX (ZDX (ZDX @Y0.eq_1 @KA.eq_1) (ZDX @KA.eq_2 @KA.eq_3)) (ZDX (ZDX @YO.eq_1 @YO.eq_2) (ZDX (@W3.eq_1) (ZDX @Zbv.eq_1 @J6.eq_1)))) (ZDX (ZDX (ZDX @ZvS @ZEc.{0,0}) (ZDX (@ZEs.{0,0}) (ZDX @K9.eq_1 @W6.eq_1))) (ZDX (ZDX @W6.eq_2 @W6.eq_3) (ZDX (@Y7.eq_1) (ZDX @Y7.eq_2 @J8.eq_1)))))) (ZDX (ZDX (ZDX (ZDX (ZDX @J8.eq_2 @J8.eq_3) (ZDX @J8.eq_4 @J8.eq_5)) (ZDX (ZDX @J8.eq_6 @J8.eq_7) (ZDX (@J8.eq_8) (ZDX @J8.eq_9 @J8.eq_10)))) (ZDX (ZDX (ZDX @J8.eq_11 @Zk.eq_1) (ZDX (@Zk.eq_2) (ZDX @ZE.eq_1 @ZE.eq_2))) (ZDX (ZDX @Ya.eq_1 @Ya.eq_2) (ZDX (@ZM.eq_1) (ZDX @ZM.eq_2 @qv.eq_1))))) (ZDX (ZDX (ZDX (ZDX @qv.eq_2 @qv.eq_3) (ZDX @qv.eq_4 @qv.eq_5)) (ZDX (ZDX @qv.eq_6 @qv.eq_7) (ZDX (@qv.eq_8) (ZDX @qv.eq_9 @qv.eq_10)))) (ZDX (ZDX (ZDX @qv.eq_11 @qv.eq_12) (ZDX (@qv.eq_13) (ZDX @qv.eq_14 @qv.eq_15))) (ZDX (ZDX @qv.eq_16 @qv.eq_17) (ZDX (@qv.eq_18) (ZDX @qv.eq_19 @qv.eq_20)))))))) (ZDX (ZDX (ZDX (ZDX (ZDX (ZDX (ZDX @qv.eq_21 @qv.eq_22) (ZDX @qv.eq_23 @qv.eq_24)) (ZDX (ZDX @qv.eq_25 @qv.eq_26) (ZDX (@qv.eq_27) (ZDX @qv.eq_28 @qv.eq_29)))) (ZDX (ZDX (ZDX @qv.eq_30 @qv.eq_31) (ZDX @qv.eq_32 @qv.eq_33)) (ZDX (ZDX @qv.eq_34 @qv.eq_35) (ZDX (@qv.eq_36) (ZDX @qv.eq_37 @qv.eq_38))))) (ZDX (ZDX (ZDX (ZDX @qv.eq_39 @qv.eq_40) (ZDX @qv.eq_41 @qv.eq_42)) (ZDX (ZDX @qv.eq_43 @qv.eq_44) (ZDX (@qv.eq_45) (ZDX @qv.eq_46 @qv.eq_47)))) (ZDX (ZDX (ZDX @qv.eq_48 @qv.eq_49) (ZDX (@qv.eq_50) (ZDX @Zw.eq_1 @Zw.eq_2))) (ZDX (ZDX @kept.eq_1 @kept.eq_2) (ZDX (@ZjQ.eq_1) (ZDX @ZjQ.eq_2 @Yj.eq_1)))))) (ZDX (ZDX (ZDX (ZDX (ZDX @Yj.eq_2 @ZaJ.eq_1) (ZDX @Zag.eq_1 @Zag.eq_2)) (ZDX (ZDX @WU.eq_1 @WU.eq_2) (ZDX (@WU.eq_3) (ZDX @Ze.eq_1 @Ze.eq_2)))) (ZDX (ZDX (ZDX @J4.eq_1 @Zc0.eq_1) (ZDX @ZhG.eq_1 @ZhG.eq_2)) (ZDX (ZDX @J2.eq_1 @J2.eq_2) (ZDX (@J2.eq_3) (ZDX @J2.eq_4 @J2.eq_5))))) (ZDX (ZDX (ZDX (ZDX @Qz.eq_1 @Qz.eq_2) (ZDX @Qz.eq_3 @Qz.eq_4)) (ZDX (ZDX @Qz.eq_5 @Qz.eq_6) (ZDX (@Qz.eq_7) (ZDX @Qz.eq_8 @Qz.eq_9)))) (ZDX (ZDX (ZDX @Qz.eq_10 @Qz.eq_11) (ZDX (@Qz.eq_12) (ZDX @Qz.eq_13 @Qz.eq_14))) (ZDX (ZDX @Qz.eq_15 @Qz.eq_16) (ZDX (@Qz.eq_17) (ZDX @Zdv.eq_1 @Zdv.eq_2))))))) (ZDX (ZDX (ZDX (ZDX (ZDX (ZDX @Zdv.eq_3 @Zdv.eq_4) (ZDX @Zdv.eq_5 @Zdv.eq_6)) (ZDX (ZDX @Zdv.eq_7 @Zdv.eq_8) (ZDX (@eqO.eq_1) (ZDX @eqO.eq_2 @eqO.eq_3)))) (ZDX (ZDX (ZDX @YH.eq_1 @YH.eq_2) (ZDX @YH.eq_3 @YH.eq_4)) (ZDX (ZDX @YH.eq_5 @YH.eq_6) (ZDX (@YH.eq_7) (ZDX @YH.eq_8 @YH.eq_9))))) (ZDX (ZDX (ZDX (ZDX @YH.eq_10 @YH.eq_11) (ZDX @YH.eq_12 @YH.eq_13)) (ZDX (ZDX @YH.eq_14 @YH.eq_15) (ZDX (@Wg.eq_1) (ZDX @Wg.eq_2 @Yi.eq_1)))) (ZDX (ZDX (ZDX @Yi.eq_2 @Yi.eq_3) (ZDX (@Yi.eq_4) (ZDX @Y6.eq_1 @Y6.eq_2))) (ZDX (ZDX @Y6.eq_3 @Y6.eq_4) (ZDX (@W2.eq_1) (ZDX @W2.eq_2 @W2.eq_3)))))) (ZDX (ZDX (ZDX (ZDX (ZDX @W2.eq_4 @Zt.eq_1) (ZDX @WX.eq_1 @WX.eq_2)) (ZDX (ZDX @WX.eq_3 @cellsOf.eq_1) (ZDX (@cellsOf.eq_2) (ZDX @Qn.eq_1 @Qn.eq_2)))) (ZDX (ZDX (ZDX @Qn.eq_3 @Qn.eq_4) (ZDX (@Qn.eq_5) (ZDX @WS.eq_1 @WS.eq_2))) (ZDX (ZDX @WS.eq_3 @WS.eq_4) (ZDX (@Zbe.eq_1) (ZDX @Zbe.eq_2 @Zbe.eq_3))))) (ZDX (ZDX (ZDX (ZDX @KN.eq_1 @KN.eq_2) (ZDX @Z8.eq_1 @Z8.eq_2)) (ZDX (ZDX @KL.eq_1 @KL.eq_2) (ZDX (@Wq.eq_1) (ZDX @Wq.eq_2 @Wq.eq_3)))) (ZDX (ZDX (ZDX @Wq.eq_4 @ZaC.eq_1) (ZDX (@ZaC.eq_2) (ZDX @ZaC.eq_3 @ZaC.eq_4))) (ZDX (ZDX @Zbj.eq_1 @Zbj.eq_2) (ZDX (@Zbj.eq_3) (ZDX @Zbj.eq_4 @part.eq_1))))))))
end Go.DL
