/- Lemmas: DlW, DlX, DlY, DlZ, DlZA, DlZB, DlZC, DlZD, DlZE, DlZF, DlZGa, DlZG, DlZH, DlZI, DlZJ, DlZK, DlZL, DlZM, DlZN, DlZO, DlZP, DlZQ, DlZS, DlZT, DlTop, DlZU, DlZW. -/
import Derived.Test.YtaaaefcmpgpkgaaGreatDoorT01
set_option maxHeartbeats 16000000
set_option linter.all false
open Option renaming some → sO, none → nO
open Inhabited renaming default → dE
open Decidable renaming decide → dC
open And renaming intro → Zyf
open Array renaming getElem?_setIfInBounds → ZyQ
open Bool renaming and_eq_true → Zyk, false_and → ZyH, false_eq_true → Zyt, or_eq_true → Zyu, true_and → Zyy
open Go.DL.D.Le renaming refl → Zyj
open List renaming append_nil → ZyR, getD → Zyx, getElem?_append_left → ZyM, getElem?_eq_getElem → ZyK, getElem?_eq_none → ZyV, getElem?_take → ZyO, getElem_of_mem → ZyC, length_append → Zyr, length_cons → ZyE, length_drop → ZyU, length_take → Zyw, map_cons → Zyp, map_nil → ZyF, mem_cons → ZyP, range → Zyl, take_length → ZyA
open Nat renaming add_mul → ZyI, le_refl → Zys, mul_le_mul_right → ZyD
open Option renaming getD_some → ZyL, map_eq_some_iff → Zym, map_some → Zyv
open Option.some renaming injEq → Zyd
open Prod.mk renaming injEq → Zyh
namespace Go.DL
open Go
variable [Zpk]
section
variable {P:Program}
def K1(F:Fr P)(ρ:Env)(L:Loc)(d:D)(s:St):Prop :=
 ∀g ν w v todo tmps,F.N≤tmps.size→ZO g ν w tmps ρ L s→Rep g w v d→F.T.T g w (lone { F.b.atR ⟨tmps,F.ds⟩ todo with mode:=.panicking [{ v,recovered:=false }] } F.cs w)
theorem ZO.empty{g:G}{ν:Nat→Nat}{w:World}{tmps:Array Value}{ρ:Env}{L:Loc}{s:St}(m:ZO g ν w tmps ρ L s):ZO g ν w tmps [] [] s:={
 st:=m.st
 loc l cs h:=by simp[Zo]at h
 locKept l cs h:=by simp[Zo]at h
 locSt l cs h:=by simp[Zo]at h
 inj l l' cs cs' h:=by simp[Zo]at h
 env t e h:=by simp[Yv]at h }
theorem K1.weak{F:Fr P}{d:D}{s:St}(h:K1 F [] [] d s)(ρ:Env)(L:Loc):K1 F ρ L d s :=
 fun g ν w v todo tmps hN m hr=>h g ν w v todo tmps hN m.empty hr
def Zf9(g:G)(ν:Nat→Nat)(L:Loc):G:={ g with kept:=fun b=>g.kept b∨∃l cs,Zo L l=sO cs∧b=ν l }
theorem QD{g g':G}{w:World}{v:Value}{d:D}(h:Rep g w v d)(hp:g'.prot=g.prot):Rep g' w v d :=
 h.mono0 (fun b=>by rw[hp];exact Zys _) (fun _ _ _=>rfl) (fun _ _ h=>h)
theorem ZuE{g g':G}{ν:Nat→Nat}{w:World}{L:Loc}{v:Value}{e:E}(h:Yo g ν w L v e)(hp:g'.prot=g.prot):Yo g' ν w L v e:=by
 induction e with
 |d x=>exact QD h hp
 |loc l o=>exact h
 |when c e ih=>exact⟨fun hc=>ih (h.1 hc),h.2⟩
theorem Zmu{g g':G}{w:World}{b:Nat}{o:Wt}(h:Q6 g w b o)(hp:g'.prot=g.prot):Q6 g' w b o:=by
 cases o with
 |cells ds =>
  obtain⟨h0,vs,T,h1,h2,h3,h4⟩:=h
  exact⟨by rw[hp];exact h0,vs,T,h1,h2,fun i v d hv hd=>QD (h3 i v d hv hd) hp,h4⟩
 |map es =>
  obtain⟨h0,en,cl,h1,h2,h3,h4,h5,h6⟩:=h
  exact⟨by rw[hp];exact h0,en,cl,h1,h2,fun i v d hv hd=>QD (h3 i v d hv hd) hp,fun i v d hv hd=>QD (h4 i v d hv hd) hp,h5,h6⟩
 |tip k =>
  obtain⟨h0,h1⟩:=h
  exact⟨by rw[hp];exact h0,h1⟩
 |mapE kp es k n =>
  obtain⟨h0,io,h1,en,cl,h2,h3,h4,h5,h6,h7⟩:=h
  exact⟨by rw[hp];exact h0,io,h1,en,cl,h2,h3,fun i v d hi hv hd=>QD (h4 i v d hi hv hd) hp,fun i v d hi hv hd=>QD (h5 i v d hi hv hd) hp,fun e he=>⟨QD (h6 e he).1 hp,(h6 e he).2⟩,h7⟩
 |loop r st =>
  obtain⟨h0,l,h1,h2,h3,h4,h5,h6,h7,h8,h9⟩:=h
  exact⟨by rw[hp];exact h0,l,h1,h2,h3,h4,h5,h6,h7,fun t e he=>ZuE (h8 t e he) hp,h9⟩
 |dfr =>
  obtain⟨h0,h1⟩:=h
  exact⟨by rw[hp];exact h0,h1⟩
theorem ZO.callSt{g:G}{ν:Nat→Nat}{w:World}{tmps:Array Value}{ρ:Env}{L:Loc}{s:St}(m:ZO g ν w tmps ρ L s):WQ (Zf9 g ν L) s w:={
 obj b o ho:=Zmu (m.st.obj b o ho) rfl
 kept b o ho:=by
  rintro(h|⟨l,cs,hl,rfl⟩)
  ·exact m.st.kept b o ho h
  ·rw[m.locSt l cs hl]at ho;simp at ho
 fresh b hb:=⟨(m.st.fresh b hb).1,by
  rintro(h|⟨l,cs,hl,rfl⟩)
  ·exact(m.st.fresh b hb).2 h
  ·have:=(m.loc l cs hl).lt;omega⟩
 tabs n cs hc:=QD (m.st.tabs n cs hc) rfl }
theorem ZO.afterCall{g g':G}{ν:Nat→Nat}{w w':World}{tmps:Array Value}{ρ:Env}{L:Loc}{s s':St}(m:ZO g ν w tmps ρ L s)(hx:Ext (Zf9 g ν L) w g' w')(hs:WQ g' s' w') :
  Ext g w { g' with kept:=g.kept } w'∧ZO { g' with kept:=g.kept } ν w' tmps ρ L s':=by
 have hext:Ext g w { g' with kept:=g.kept } w' :=
  ⟨hx.size,hx.prot,hx.cell,hx.hdr,fun b hb=>hx.kept b (.inl hb),fun b hb=>hx.keptProt b (.inl hb),rfl,hx.os,hx.output,hx.tape⟩
 refine⟨hext,⟨⟨fun b o ho=>Zmu (hs.obj b o ho) rfl,fun b o ho hk=>hs.kept b o ho (by rw[hx.keptEq];exact .inl hk),fun b hb=>⟨(hs.fresh b hb).1,fun hk=>(hs.fresh b hb).2 (by rw[hx.keptEq];exact .inl hk)⟩,fun n cs hc=>QD (hs.tabs n cs hc) rfl⟩,?_,m.locKept,?_,m.inj,?_⟩⟩
 ·intro l cs hl
  exact(m.loc l cs hl).mono hext (hx.kept _ (.inr ⟨l,cs,hl,rfl⟩)) (hx.keptProt _ (.inr ⟨l,cs,hl,rfl⟩))
 ·intro l cs hl
  cases hsl:s' (ν l) with
  |none=>rfl
  |some o=>exact absurd (by rw[hx.keptEq];exact .inr ⟨l,cs,hl,rfl⟩) (hs.kept _ o hsl)
 ·intro t e he
  exact(m.env t e he).mono hext
theorem ZrJ{op:Op}{f:Opd}{xs:List Opd}(h:ck P op=sO (.call f xs)):∃f' args ats,op=.call ⟨.value f',args,ats⟩∧Y7 f'=sO f∧ZcO args.toList=sO xs:=by
 unfold ck at h
 split at h
 ·simp at h
 ·split at h<;>(try(simp at h;done))
  all_goals (try(repeat' (split at h<;>(try(simp at h;done)))))
  simp only[Zyd,K.call.injEq]at h
  obtain⟨rfl,rfl⟩:=h
  rename_i c _ _ f' hcal _ _ f xs hf hxs
  obtain⟨callee,args,ats⟩:=c
  simp only at hcal
  exact⟨f',args,ats,by rw[hcal],hf,hxs⟩
theorem Zvc{op:Op}{x:Opd}(h:ck P op=sO (.panic x)):∃x',op=.panic x'∧Y7 x'=sO x:=by
 unfold ck at h
 split at h
 ·simp at h
 ·split at h<;>(try(simp at h;done))
  all_goals (try(repeat' (split at h<;>(try(simp at h;done)))))
  simp only[Zym,K.panic.injEq,exists_eq_right]at h
  exact⟨_,rfl,h⟩
def Zgf(P:Program):Next→Option Frame
 |.enter f args=>sO (Frame.enter P f args .normal)
 |.round l f tmps a b=>sO (Frame.round l f tmps a b .normal)
 |_=>nO
def Zw5(P:Program)(m:Machine)(c:Frame)(cs:List Frame)(e:Ending)(w':World):Prop :=
 match e with
 |.returned v=>Steps P m (lone (c.finish v) cs w')
 |.panicked ch=>Steps P m (lone (c.raise ch) cs w')
 |.outgrown=>False
def Jc(P:Program)(f:D)(args:List D)(s:St)(Φ:Res→St→Prop):Prop :=
 ∀g w fv (vs:List Value),WQ g s w→Rep g w fv f→Yh (Rep g w) vs args →
  ∃d nx fr,(Deferred.ofValue fv vs.toArray).run P w=.ok d w∧(invoke d.target d.args).run P w=.ok nx w∧Zgf P nx=sO fr ∧
   ∀c cs,∃e w',ZgP g w Φ e w'∧Zw5 P (lone fr (c::cs) w) c cs e w'
theorem ZN.V{f:FuncId}{first args caps:List D}{s:St}{Φ:Res→St→Prop}(h:ZN P f (first++args++caps) s Φ):Jc P (.fn (.func f) first caps) args s Φ:=by
 intro g w fv vs hs hf ha
 cases hf with
 |fn _ fs cs' _ _ hn1 hn2 h1 h2 =>
 obtain⟨⟨fn,hfn1,hfn2,hfn3⟩,hcall⟩:=h
 have hall:Yh (Rep g w) (fs++vs++cs') (first++args++caps):=((WG hn1 h1).append ha).append (WG hn2 h2)
 have hbody:fn.body.isNone=false:=by cases hb:fn.body<;>simp[hb]at hfn2⊢
 refine⟨_,.enter f (fs++vs++cs').toArray,_,by simp[Deferred.ofValue];rfl,?_,rfl,fun c cs=>?_⟩
 ·simp only[invoke,callFunc,Sem.run_bind,run_program,Result.andThen_ok,hfn1,hfn3,hbody,Zyt,if_false,Sem.run_pure]
  simp
 ·obtain⟨e,w',fr,hp,hcomes,hfrf,hleave⟩:=hcall g w _ hs hall (c::cs)
  refine⟨e,w',hp,?_⟩
  cases e with
  |returned v=>exact Steps.trans hcomes (.one (step_leave_returned hleave))
  |panicked ch=>exact Steps.trans hcomes (.one (step_leave_panicked hleave))
  |outgrown =>
   obtain⟨g',s',r,b1,b2,b3,b4⟩:=hp
   cases r<;>exact b3.elim
theorem Jw{F:Fr P}{kp:Option (List Nat)}{dk:List Zu}{o:DOp}{os:List DOp}{ρ:Env}{L:Loc}{s:St}(hg:Zy ρ o.guard=sO true){fx:Opd}{xs:List Opd}(hk:o.k=.call fx xs)
  {p q:Prop} {f:D} {es:List E} {ds:List D} (hf:Z9 ρ true fx=sO (q,.d f)) (ha:WE ρ true xs=sO (p,es)) (hds:QR es=sO ds) (hp:p) (hq:q)
  {Ψ:Res→St→Prop} (hc:Jc P f ds s Ψ)
  (hret:∀d s',Ψ (.ret d) s'→DO F kp dk os (ZX ρ o.dst (.d d)) L s') (hpan:∀d s',Ψ (.panic d) s'→K1 F ρ L d s'):DO F kp dk (o::os) ρ L s:=by
 refine Qu fun oo g ν w tmps ops i r k hoo hck hcg hdst hd hN m hr hkk=>?_
 have hw:=WC m hcg hg
 have hnd:=WS hck (by rw[hk];rfl)
 rw[hk]at hck
 obtain⟨f',args,ats,hop,hf',hxs⟩:=ZrJ hck
 have hfr:Rep g w _ _:=Wx m hf' rfl hf hq F.ds
 have hargs:=J0 (Zd3 m rfl F.ds hxs ha hp) hds
 generalize hfv:(Act.mk tmps F.ds).eval f'=fv at hfr
 have hall:Yh (Rep (Zf9 g ν L) w) (args.toList.map (Act.mk tmps F.ds).eval) ds:=WG hargs.len (fun i a b hx hy=>QD (hargs.get i a b hx hy) rfl)
 obtain⟨d,nx,fr,hd1,hd2,hd3,hC⟩:=hc (Zf9 g ν L) w fv _ m.callSt (QD hfr rfl) hall
 have hmap:(Array.map (Act.mk tmps F.ds).eval args)=(args.toList.map (Act.mk tmps F.ds).eval).toArray:=by apply Array.ext';simp
 have hrun:(execOp (Act.mk tmps F.ds).eval oo).run P w=.ok nx w:=by
  simp only[execOp,hop,resolve,hfv,hmap,Sem.run_bind,hd1,Result.andThen_ok,hd2]
 have henter:step P (lone (F.b.atR ⟨tmps,F.ds⟩ (.inRegion ops (i::r)::k)) F.cs w) =
   .next (lone fr (F.b.atR ⟨tmps,F.ds⟩ (.inRegion ops (i::r)::k)::F.cs) w):=by
  refine step_lone_go ?_
  rw[stepGR_op hoo hw,Oper.semAt_eq _ _ _ hnd]
  cases nx<;>simp only[Zgf,Zyd,reduceCtorEq]at hd3<;>subst hd3<;>simp[stepG.apply,hrun,Frame.atR]
 obtain⟨e,w',⟨g',s',res,x1,x2,x3,x4⟩,hback⟩:=hC (F.b.atR ⟨tmps,F.ds⟩ (.inRegion ops (i::r)::k)) F.cs
 obtain⟨hext,hm⟩:=m.afterCall x1 x2
 cases e with
 |returned v =>
  cases res with
  |panic d=>exact x3.elim
  |ret d =>
   have hfin:(F.b.atR ⟨tmps,F.ds⟩ (.inRegion ops (i::r)::k)).finish v=F.b.atR ((Act.mk tmps F.ds).put oo.dst v) (.inRegion ops r::k):=by rw[Frame.finish_atR,hoo];rfl
   have hsteps:Steps P (lone (F.b.atR ⟨tmps,F.ds⟩ (.inRegion ops (i::r)::k)) F.cs w) (lone (F.b.atR ((Act.mk tmps F.ds).put oo.dst v) (.inRegion ops r::k)) F.cs w'):=by
    refine .head henter ?_
    rw[←hfin];exact hback
   refine F.T.back _ _ _ _ hsteps ?_
   rw[hdst]
   obtain⟨tmps',e1,e2,m'⟩:=ZfL hm hN hd (v:=v) (e:=.d d) (QD x3 rfl) F.ds
   rw[e1]
   exact F.T.ext _ _ _ _ _ hext (hret d s' x4 ops r k hr hkk _ _ _ tmps' e2 m')
 |panicked ch =>
  cases res with
  |ret d=>exact x3.elim
  |panic d =>
   obtain⟨v,rfl,hv⟩:=x3
   have hsteps:Steps P (lone (F.b.atR ⟨tmps,F.ds⟩ (.inRegion ops (i::r)::k)) F.cs w) (lone { F.b.atR ⟨tmps,F.ds⟩ (.inRegion ops (i::r)::k) with mode:=.panicking [{ v,recovered:=false }] } F.cs w'):=by
    refine .head henter ?_
    rw[←Frame.raise_atR];exact hback
   refine F.T.back _ _ _ _ hsteps ?_
   exact F.T.ext _ _ _ _ _ hext (hpan d s' x4 _ _ _ v _ _ hN hm (QD hv rfl))
 |outgrown=>exact hback.elim
theorem Ye{F:Fr P}{kp:Option (List Nat)}{dk:List Zu}{o:DOp}{os:List DOp}{ρ:Env}{L:Loc}{s:St}(hg:Zy ρ o.guard=sO true){fx:Opd}{xs:List Opd}(hk:o.k=.call fx xs)
  {p q:Prop} {f:FuncId} {first caps:List D} {es:List E} {ds:List D} (hf:Z9 ρ true fx=sO (q,.d (.fn (.func f) first caps))) (ha:WE ρ true xs=sO (p,es)) (hds:QR es=sO ds) (hp:p) (hq:q)
  {Ψ:Res→St→Prop} (hc:ZN P f (first++ds++caps) s Ψ)
  (hret:∀d s',Ψ (.ret d) s'→DO F kp dk os (ZX ρ o.dst (.d d)) L s') (hpan:∀d s',Ψ (.panic d) s'→K1 F ρ L d s'):DO F kp dk (o::os) ρ L s :=
 Jw hg hk hf ha hds hp hq hc.V hret hpan
theorem Zpe{F:Fr P}{kp:Option (List Nat)}{dk:List Zu}{o:DOp}{os:List DOp}{ρ:Env}{L:Loc}{s:St}(hg:Zy ρ o.guard=sO true){x:Opd}(hk:o.k=.panic x)
  {p:Prop} {t:TypeId} {d:D} (ha:Z9 ρ true x=sO (p,.d (.iface t d))) (hp:p) (h:K1 F ρ L (.iface t d) s):DO F kp dk (o::os) ρ L s:=by
 refine Qu fun oo g ν w tmps ops i r k hoo hck hcg hdst hd hN m hr hkk=>?_
 have hw:=WC m hcg hg
 have hnd:=WS hck (by rw[hk];rfl)
 rw[hk]at hck
 obtain⟨x',hop,hx'⟩:=Zvc hck
 have hrep:Rep g w _ _:=Wx m hx' rfl ha hp F.ds
 generalize hv:(Act.mk tmps F.ds).eval x'=v at hrep
 have hrun:(execOp (Act.mk tmps F.ds).eval oo).run P w=.halt (.panic v) w:=by
  cases hrep
  simp[execOp,hop,hv,Instr.panic]
 refine F.T.back _ _ _ _ (.one (step_lone_go (fr':={ F.b.atR ⟨tmps,F.ds⟩ (.inRegion ops (i::r)::k) with mode:=.panicking [{ v,recovered:=false }] }) (cs':=F.cs) (w':=w) ?_)) (h g ν w v _ _ hN m hrep)
 rw[stepGR_op hoo hw,Oper.semAt_eq _ _ _ hnd]
 rw[←Frame.raise_atR]
 simp[stepG.apply,hrun]
end
end Go.DL
namespace Go.DL
open Go
variable [Zpk]
section
variable {P:Program}
def Zbw:D→Option Value
 |.int k n=>sO (.int k n)
 |.bool b=>sO (.bool b)
 |.str l=>sO (.string ⟨l.toArray⟩)
 |.nilsl=>sO (.slice nO 0 0)
 |.nilptr=>sO (.pointer nO)
 |.ptr b o=>sO (.pointer (sO ⟨b,o,nO⟩))
 |.map b=>sO (.map (sO b))
 |.nilmap=>sO (.map nO)
 |.nilfn=>sO .nilFunc
 |.niliface=>sO .nilIface
 |_=>nO
def Zig:List D→Option (List Value)
 | []=>sO []
 |d::r=>match Zbw d,Zig r with
  |some v,sO vs=>sO (v::vs)
  |_,_=>nO
theorem Zsa{g:G}{w:World}{v v':Value}{d:D}(h:Rep g w v d)(hv:Zbw d=sO v'):v=v':=by
 cases h<;>simp only[Zbw,Zyd,reduceCtorEq]at hv<;>(try exact hv)
 rename_i s l h hb
 rw[←hv]
 cases s
 simp only at h
 rw[←h]
theorem Zki{g:G}{w:World}:∀{vs vs':List Value} {ds:List D},Yh (Rep g w) vs ds→Zig ds=sO vs'→vs=vs'
 |_,_,_,.nil,h=>by simp only[Zig,Zyd]at h;exact h
 |_,_,_,.cons h1 h2,h=>by
  simp only[Zig]at h
  split at h<;>simp only[Zyd,reduceCtorEq]at h
  rename_i v vs e1 e2
  rw[←h,Zsa h1 e1,Zki h2 e2]
def ZfQ:D→Prop
 |.int k n=>inR k n
 |.str l=>l.length≤big
 |d=>(Zbw d).isSome=true
def ZcF:List D→Prop
 | []=>True
 |d::r=>ZfQ d∧ZcF r
theorem Zop{d:D}(h:ZfQ d):∃v,Zbw d=sO v∧v.one1=true∧∀g w,Rep g w v d:=by
 cases d<;>simp only[ZfQ,Zbw,Option.isSome_none,Zyt]at h
 ·exact⟨_,rfl,rfl,fun g w=>.int _ _ h⟩
 ·exact⟨_,rfl,rfl,fun g w=>.bool _⟩
 ·exact⟨_,rfl,rfl,fun g w=>.str _ _ rfl h⟩
 ·exact⟨_,rfl,rfl,fun g w=>.nilsl⟩
 ·exact⟨_,rfl,rfl,fun g w=>.nilptr⟩
 ·exact⟨_,rfl,rfl,fun g w=>.ptr _ _⟩
 ·exact⟨_,rfl,rfl,fun g w=>.map _⟩
 ·exact⟨_,rfl,rfl,fun g w=>.nilmap⟩
 ·exact⟨_,rfl,rfl,fun g w=>.nilfn⟩
 ·exact⟨_,rfl,rfl,fun g w=>.niliface⟩
theorem Zde:∀{ds:List D},ZcF ds→∃vs,Zig ds=sO vs∧(∀v∈vs,v.one1=true)∧∀g w,Yh (Rep g w) vs ds
 | [],_=>⟨[],rfl,by simp,fun g w=>.nil⟩
 |d::r,h=>by
  obtain⟨v,h1,h2,h3⟩:=Zop h.1
  obtain⟨vs,g1,g2,g3⟩:=Zde h.2
  exact⟨v::vs,by simp[Zig,h1,g1],by simp only[ZyP,forall_eq_or_imp];exact⟨h2,g2⟩,fun g w=>.cons (h3 g w) (g3 g w)⟩
inductive DD where
 |mark (q:Nat)
 |fn (i:FuncId) (args caps:List D)
def DD.def:DD→Deferred
 |.mark q=>{ target:=.collected q,args:=#[] }
 |.fn i args caps=>{ target:=.fn (.func i) ((Zig caps).getD []).toArray,args:=((Zig args).getD []).toArray }
def ZcE(g:G)(w:World)(m:FrameMode):Option D→Prop
 |none=>m=.returning
 |some d=>∃v,m=.panicking [{ v,recovered:=false }]∧Rep g w v d
def ZcY(P:Program)(i:FuncId)(args:List D)(pd:Option D)(s:St)(Ψ:Bool→St→Prop):Prop :=
 (∃fn,P.funcs[i]?=sO fn∧fn.body.isSome=true∧(fn.name == "runtime.NumGoroutine")=false) ∧
 ∀g w (vs:List Value) (cf:Frame) (cs:List Frame),WQ g s w→Yh (Rep g w) vs args→ZcE g w cf.mode pd →
  ∃g' w' s' b,Ext g w g' w'∧WQ g' s' w'∧Ψ b s' ∧
   Steps P (lone (Frame.enter P i vs.toArray .deferred) (cf::cs) w) (lone { cf with mode:=if b then .returning else cf.mode } cs w')
def Unw(P:Program):List DD→Option D→St→(Option D→St→Prop)→Prop
 | [],m,s,Ψ=>Ψ m s
 |.mark q::r,m,s,Ψ=>s q=sO .dfr∧Unw P r m (s.del q) Ψ
 |.fn i args caps::r,m,s,Ψ=>ZcF args∧ZcF caps∧ZcY P i (args++caps) m s fun b s'=>Unw P r (if b then nO else m) s' Ψ
theorem Zdu{g:G}{w:World}(b:Nat)(o:Obj)(hb:hdr w b=nO)(hp:g.prot b=0)(hk:¬g.kept b):Ext g w g { w with heap:=w.heap.setIfInBounds b o } where
 size:=by simp
 prot _:=Zys _
 cell b' o' ho:=by
  by_cases h:b'=b
  ·subst h;omega
  ·exact Za6 (by simp[ZyQ,Ne.symm h])
 hdr b' x hx:=by
  by_cases h:b'=b
  ·subst h;rw[hb]at hx;simp at hx
  ·rw[ZcC (w:=w) (by simp[ZyQ,Ne.symm h])];exact hx
 kept b' hb':=by
  have h:b'≠b:=fun h=>hk (h▸hb')
  simp[ZyQ,Ne.symm h]
 keptProt _ _:=rfl
 keptEq:=rfl
 os:=rfl
 output:=rfl
 tape:=rfl
theorem ZO.drop{g:G}{ν:Nat→Nat}{w w':World}{tmps:Array Value}{ρ:Env}{L:Loc}{s:St}(m:ZO g ν w tmps ρ L s){b:Nat}{o:Wt}(hb:s b=sO o)(he:Ext g w g w')(hsz:w'.heap.size=w.heap.size)
  (hoth:∀c,c≠b→w'.heap[c]?=w.heap[c]?):ZO g ν w' tmps ρ L (s.del b):={
 st:=⟨fun c x hx=>by
    simp only[St.del]at hx
    by_cases hc:c=b
    ·simp[hc]at hx
    ·simp only[hc,if_false]at hx;exact(m.st.obj c x hx).mono he (hoth c hc) rfl,
   fun c x hx=>by
    simp only[St.del]at hx
    by_cases hc:c=b
    ·simp[hc]at hx
    ·simp only[hc,if_false]at hx;exact m.st.kept c x hx,
   fun c hc=>m.st.fresh c (by omega),fun n cs hc=>(m.st.tabs n cs hc).mono he⟩
 loc l cs hl:=(m.loc l cs hl).mono he (hoth _ (fun h=>by have:=m.locSt l cs hl;rw[h,hb]at this;simp at this)) rfl
 locKept:=m.locKept
 locSt l cs hl:=by
  simp only[St.del]
  split
  ·rfl
  ·exact m.locSt l cs hl
 inj:=m.inj
 env t e ht:=(m.env t e ht).mono he }
theorem ZuM{fr:Frame}{cs:List Frame}{w:World}{q:Nat}{ds:List Deferred}{args:Array Value}(hm:fr.mode≠.run)(hd:fr.defers={ target:=.collected q,args }::ds)(hq:w.heap[q]?=sO (.deferred (sO []))) :
  step P (lone fr cs w)=.next (lone { fr with defers:=ds } cs { w with heap:=w.heap.setIfInBounds q (.deferred nO) }):=by
 have hrun:(Instr.takeDeferred q).run P w=.ok [] { w with heap:=w.heap.setIfInBounds q (.deferred nO) }:=by
  simp[Instr.takeDeferred,getObj,setObj,Sem.run,hq,Result.andThen]
 refine step_lone_go ?_
 cases hmode:fr.mode with
 |run=>exact absurd hmode hm
 |returning=>simp[stepG,unwind,hmode,hd,Sem.runT_eq,hrun]
 |panicking chain=>simp[stepG,unwind,hmode,hd,Sem.runT_eq,hrun]
theorem Zmp{g:G}{w:World}{m:FrameMode}{o:Option D}(h:ZcE g w m o):m≠.run:=by
 cases o with
 |none=>simp only[ZcE]at h;rw[h];simp
 |some d=>obtain⟨v,h,_⟩:=h;rw[h];simp
theorem Zmo{g g':G}{w w':World}{m:FrameMode}{o:Option D}(h:ZcE g w m o)(he:Ext g w g' w'):ZcE g' w' m o:=by
 cases o with
 |none=>exact h
 |some d=>obtain⟨v,h,hr⟩:=h;exact⟨v,h,hr.mono he⟩
theorem ZjL{Ψ:Option D→St→Prop}:∀(dds:List DD) {m:Option D} {s:St},Unw P dds m s Ψ→∀{g:G} {ν:Nat→Nat} {w:World} {ρ:Env} {L:Loc} {fr:Frame} {cs:List Frame},ZO g ν w fr.tmps ρ L s→fr.defers=dds.map DD.def→ZcE g w fr.mode m →
  ∃g' w' m' s' md,Ext g w g' w'∧ZO g' ν w' fr.tmps ρ L s'∧Ψ m' s'∧ZcE g' w' md m'∧Steps P (lone fr cs w) (lone { fr with defers:=[],mode:=md } cs w')
 | [],m,s,h,g,ν,w,ρ,L,fr,cs,M,hd,hm=>by
  refine⟨g,w,m,s,fr.mode,Ext.refl g w,M,h,hm,?_⟩
  have:({ fr with defers:=[],mode:=fr.mode }:Frame)=fr:=by cases fr;simp only at hd;subst hd;rfl
  rw[this];exact Steps.refl P _
 |.mark q::r,m,s,h,g,ν,w,ρ,L,fr,cs,M,hd,hm=>by
  obtain⟨hq,hu⟩:=h
  obtain⟨hp0,hh⟩:=M.st.obj q _ hq
  have he:=Zdu (g:=g) (w:=w) q (.deferred nO) (by simp[hdr,hh]) hp0 (M.st.kept q _ hq)
  have M':=M.drop hq he (by simp) (fun c hc=>Zbf _ hc)
  obtain⟨g',w',m',s',md,a1,a2,a3,a4,a5⟩:=ZjL r hu (fr:={ fr with defers:=r.map DD.def }) (cs:=cs) M' rfl (Zmo hm he)
  exact⟨g',w',m',s',md,he.trans a1,a2,a3,a4,.head (ZuM (Zmp hm) hd hh) a5⟩
 |.fn i args caps::r,m,s,h,g,ν,w,ρ,L,fr,cs,M,hd,hm=>by
  obtain⟨hr1,hr2,⟨fn,hfn1,hfn2,hfn3⟩,hc⟩:=h
  obtain⟨as9,ha1,_,ha2⟩:=Zde hr1
  obtain⟨vs,hv1,_,hv2⟩:=Zde hr2
  have hm':ZcE (Zf9 g ν L) w ({ fr with defers:=r.map DD.def }:Frame).mode m:=by
   cases m with
   |none=>exact hm
   |some d=>obtain⟨v,h1,h2⟩:=hm;exact⟨v,h1,QD h2 rfl⟩
  obtain⟨g1,w1,s1,b,x1,x2,x3,x4⟩:=hc (Zf9 g ν L) w (as9++vs) { fr with defers:=r.map DD.def } cs M.callSt ((ha2 _ _).append (hv2 _ _)) hm'
  obtain⟨hext,hm1⟩:=M.afterCall x1 x2
  have hbody:fn.body.isNone=false:=by cases hb:fn.body<;>simp[hb]at hfn2⊢
  have hstep:step P (lone fr cs w)=.next (lone (Frame.enter P i (as9++vs).toArray .deferred) ({ fr with defers:=r.map DD.def }::cs) w):=by
   refine step_defer (d:=DD.def (.fn i args caps)) (fv:=.func i) (cap:=vs.toArray) (Zmp hm) hd (by simp[DD.def,hv1]) ?_
   simp only[DD.def,hv1,ha1,ZyL,invoke,callFunc,Sem.run_bind,run_program,Result.andThen_ok,hfn1,hfn3,hbody,Zyt,if_false,Sem.run_pure]
   simp
  have hmd:ZcE { g1 with kept:=g.kept } w1 (if b then .returning else fr.mode) (if b then nO else m):=by
   cases b
   ·simp only[Zyt,if_false];exact Zmo hm hext
   ·rfl
  obtain⟨g',w',m',s',md,a1,a2,a3,a4,a5⟩:=ZjL r x3 (fr:={ fr with defers:=r.map DD.def,mode:=if b then .returning else fr.mode }) (cs:=cs) hm1 rfl hmd
  exact⟨g',w',m',s',md,hext.trans a1,a2,a3,a4,.head hstep (Steps.trans x4 a5)⟩
def KJ{P:Program}(F:Fr P)(rs:List RV)(Φ:Res→St→Prop)(dds:List DD):Prop :=
 ∃an f df cs,cf P an f=sO df∧rs=df.res∧F={ Zmd P an f df.n cs Φ with ds:=dds.map DD.def }
theorem St.sub_refl(s:St):s.sub s:=fun _ _ h=>h
def ZjT(ρ:Env)(L:Loc)(rs:List RV)(Φ:Res→St→Prop):Option D→St→Prop
 |none,s=>∃p ds d s',K5 ρ L s rs=sO (p,ds)∧p∧(J5 ds).Le d∧s'.sub s∧Φ (.ret d) s'
 |some d,s=>∃d' s',d.Le d'∧s'.sub s∧Φ (.panic d') s'
theorem ZpU{an:Ann}{f:FuncId}{df:DF}(hf:cf P an f=sO df){cs:List Frame}{Φ:Res→St→Prop}{g:G}{ν:Nat→Nat}{w:World}{fr:Frame}{ρ:Env}{L:Loc}{s:St}{m:Option D}{dds:List DD}(hfn:fr.fn=f)(hkind:fr.kind=.normal)
  (M:ZO g ν w fr.tmps ρ L s) (hd:fr.defers=dds.map DD.def) (hm:ZcE g w fr.mode m) (hu:Unw P dds m s (ZjT ρ L df.res Φ)):(Zj4 P f cs Φ).T g w (lone fr cs w):=by
 obtain⟨g',w',m',s',md,a1,a2,a3,a4,a5⟩:=ZjL dds hu (cs:=cs) M hd hm
 unfold cf at hf
 split at hf<;>(try(simp at hf;done))
 rename_i fn hfn'
 split at hf<;>(try(simp at hf;done))
 split at hf<;>(try(simp at hf;done))
 split at hf<;>simp at hf
 rename_i rs d' hrs hd'
 subst hf
 cases m' with
 |none =>
  obtain⟨p,ds,d,s2,h1,h2,h3,h4,h5⟩:=a3
  obtain⟨v,hv1,hv2⟩:=ZmD a2 hrs h1 h2
  exact⟨.returned v,w',_,a5,hfn,⟨a4,rfl,hkind,fn,by rw[←hfn'] ;exact congrArg _ hfn,hv1⟩,g',s2,.ret d,a1,a2.st.sub h4,h3 _ _ _ hv2,h5⟩
 |some d =>
  obtain⟨d',s2,h1,h2,h3⟩:=a3
  obtain⟨v,hv1,hv2⟩:=a4
  exact⟨.panicked [{ v,recovered:=false }],w',_,a5,hfn,⟨hv1,rfl,fn,by rw[←hfn'];exact congrArg _ hfn⟩,g',s2,.panic d',a1,a2.st.sub h2,⟨v,rfl,h1 _ _ _ hv2⟩,h3⟩
theorem KJ.retU{F:Fr P}{rs:List RV}{Φ:Res→St→Prop}{dds:List DD}(hF:KJ F rs Φ dds){dk:List Zu}{ρ:Env}{L:Loc}{s:St}(h:Unw P dds nO s (ZjT ρ L rs Φ)):ZS F (.code .ret::dk) ρ L s:=by
 obtain⟨an,f,df,cs,hf,rfl,rfl⟩:=hF
 intro k hk
 cases hk with
 |code hc ht =>
  obtain rfl:=Zpx hc
  intro g ν w tmps hN m
  refine(Zj4 P f cs Φ).back _ _ _ _ (.one (stepR_ret rfl)) ?_
  exact ZpU (m:=nO) hf rfl rfl (dds:=dds) m rfl rfl h
theorem KJ.finU{F:Fr P}{rs:List RV}{Φ:Res→St→Prop}{dds:List DD}(hF:KJ F rs Φ dds){ρ:Env}{L:Loc}{s:St}(h:Unw P dds nO s (ZjT ρ L rs Φ)):ZS F [] ρ L s:=by
 obtain⟨an,f,df,cs,hf,rfl,rfl⟩:=hF
 intro k hk
 cases hk
 intro g ν w tmps hN m
 refine(Zj4 P f cs Φ).back _ _ _ _ (.one (stepR_end rfl)) ?_
 exact ZpU (m:=nO) hf rfl rfl (dds:=dds) m rfl rfl h
theorem KJ.panU{F:Fr P}{rs:List RV}{Φ:Res→St→Prop}{dds:List DD}(hF:KJ F rs Φ dds){ρ:Env}{L:Loc}{d:D}{s:St}(h:Unw P dds (sO d) s (ZjT ρ L rs Φ)):K1 F ρ L d s:=by
 obtain⟨an,f,df,cs,hf,rfl,rfl⟩:=hF
 intro g ν w v todo tmps hN m hr
 exact ZpU (m:=sO d) hf rfl rfl (dds:=dds) m rfl ⟨v,rfl,hr⟩ h
theorem KJ.ret{F:Fr P}{rs:List RV}{Φ:Res→St→Prop}(hF:KJ F rs Φ []){dk:List Zu}{ρ:Env}{L:Loc}{s:St}{p:Prop}{ds:List D}(d:D)(s':St)(h1:K5 ρ L s rs=sO (p,ds))(h2:p)(h3:(J5 ds).Le d)(h4:s'.sub s)(h5:Φ (.ret d) s') :
  ZS F (.code .ret::dk) ρ L s:=hF.retU ⟨p,ds,d,s',h1,h2,h3,h4,h5⟩
theorem KJ.fin{F:Fr P}{rs:List RV}{Φ:Res→St→Prop}(hF:KJ F rs Φ []){ρ:Env}{L:Loc}{s:St}{p:Prop}{ds:List D}(d:D)(s':St)(h1:K5 ρ L s rs=sO (p,ds))(h2:p)(h3:(J5 ds).Le d)(h4:s'.sub s)(h5:Φ (.ret d) s') :
  ZS F [] ρ L s:=hF.finU ⟨p,ds,d,s',h1,h2,h3,h4,h5⟩
theorem KJ.pan{F:Fr P}{rs:List RV}{Φ:Res→St→Prop}(hF:KJ F rs Φ []){ρ:Env}{L:Loc}{d:D}{s:St}(s':St)(h1:s'.sub s)(h2:Φ (.panic d) s'):K1 F ρ L d s:=hF.panU ⟨d,s',Zyj d,h1,h2⟩
theorem ZM{an:Ann}{f:FuncId}{df:DF}(hf:cf P an f=sO df){args:List D}{s:St}{Φ:Res→St→Prop}
  (h:∀F:Fr P,KJ F df.res Φ []→ZS F [.code df.body] (J4 0 args) [] s):ZN P f args s Φ :=
 ZiA hf fun cs=>h _ ⟨an,f,df,cs,hf,rfl,rfl⟩
end
end Go.DL
namespace Go.DL
open Go
variable [Zpk]
def ZA(P:Program)(f:FuncId)(args:List D)(d:D):Prop:=∀s,ZN P f args s fun r s'=>r=.ret d∧s'=s
theorem ZP{P:Program}{an:Ann}{f:FuncId}{df:DF}(hf:cf P an f=sO df){args:List D}{d:D}
  (h:∀(F:Fr P) (s:St),(∀{dk:List Zu} {ρ:Env} {L:Loc} {s':St} {p:Prop} {ds:List D},K5 ρ L s' df.res=sO (p,ds)→p→(J5 ds).Le d→s.sub s'→ZS F (.code .ret::dk) ρ L s') →
   ZS F [.code df.body] (J4 0 args) [] s):ZA P f args d :=
 fun s=>ZM hf fun F hF=>h F s fun h1 h2 h3 h4=>hF.ret d s h1 h2 h3 h4 ⟨rfl,rfl⟩
theorem YF{P:Program}{F:Fr P}{kp:Option (List Nat)}{dk:List Zu}{o:DOp}{os:List DOp}{ρ:Env}{L:Loc}{s:St}(hg:Zy ρ o.guard=sO true){fx:Opd}{xs:List Opd}(hk:o.k=.call fx xs)
  {p q:Prop} {f:FuncId} {first caps:List D} {es:List E} {ds:List D} (hf:Z9 ρ true fx=sO (q,.d (.fn (.func f) first caps))) (ha:WE ρ true xs=sO (p,es)) (hds:QR es=sO ds) (hp:p) (hq:q)
  {d:D} (hc:ZA P f (first++ds++caps) d) (h:DO F kp dk os (ZX ρ o.dst (.d d)) L s):DO F kp dk (o::os) ρ L s :=
 Ye hg hk hf ha hds hp hq (hc s) (fun d' s' ⟨h1,h2⟩=>by simp only[Res.ret.injEq]at h1;subst h1;subst h2;exact h) (fun d' s' ⟨h1,_⟩=>by simp at h1)
end Go.DL
namespace Go.DL
open Go
variable [Zpk]
section
variable {P:Program}
theorem Zw8{F:Fr P}{kp:Option (List Nat)}{dk:List Zu}{os:List DOp}{ρ ρ':Env}{L:Loc}{s:St}(h:∀g ν w tmps,ZO g ν w tmps ρ L s→ZO g ν w tmps ρ' L s)(h':DO F kp dk os ρ' L s) :
  DO F kp dk os ρ L s:=fun ops is k hops hk g ν w tmps hN m=>h' ops is k hops hk g ν w tmps hN (h g ν w tmps m)
theorem ZO.headWhen{g:G}{ν:Nat→Nat}{w:World}{tmps:Array Value}{ρ:Env}{L:Loc}{s:St}{dst:Option Nat}{e:E}(m:ZO g ν w tmps (ZX ρ dst e) L s):ZO g ν w tmps (ZX ρ dst (.when true e)) L s:=by
 cases dst with
 |none=>exact m
 |some t =>
  refine{ m with env:=fun u x hx=>?_ }
  simp only[ZX,Yv]at hx
  by_cases h:t=u
  ·simp only[h,if_true,Zyd]at hx
   subst hx
   exact⟨fun _=>m.env u e (by simp[ZX,Yv,h]),fun h=>by simp at h⟩
  ·simp only[h,if_false]at hx
   exact m.env u x (by simp[ZX,Yv,h,hx])
theorem ZaB{F:Fr P}{kp:Option (List Nat)}{dk:List Zu}{o:DOp}{os:List DOp}{ρ:Env}{L:Loc}{s:St}(hg:Zy ρ o.guard=sO false){e:E}
  (h:DO F kp dk os (ZX ρ o.dst (.when false e)) L s):DO F kp dk (o::os) ρ L s:=by
 refine Qu fun oo g ν w tmps ops i r k hoo hck hcg hdst hd hN m hr hkk=>?_
 exact ZcR (P:=P) hN m hoo hdst hd (WC m hcg hg) (h ops r k hr hkk)
theorem Kt{F:Fr P}{kp:Option (List Nat)}{dk:List Zu}{o:DOp}{os:List DOp}{ρ:Env}{L:Loc}{s:St}{c:Bool}(hg:Zy ρ o.guard=sO c){fx:Opd}{xs:List Opd}(hk:o.k=.call fx xs)
  {p q:Prop} {f:FuncId} {first caps:List D} {es:List E} {ds:List D} (hf:Z9 ρ c fx=sO (q,.d (.fn (.func f) first caps))) (ha:WE ρ c xs=sO (p,es)) (hds:QR es=sO ds)
  {d:D} (hc:c=true→p∧q∧ZA P f (first++ds++caps) d) (h:DO F kp dk os (ZX ρ o.dst (.when c (.d d))) L s):DO F kp dk (o::os) ρ L s:=by
 cases c
 ·exact ZaB hg h
 ·obtain⟨h1,h2,h3⟩:=hc rfl
  exact YF hg hk hf ha hds h1 h2 h3 (Zw8 (fun g ν w tmps m=>m.headWhen) h)
theorem ZO.sub{g:G}{ν:Nat→Nat}{w:World}{tmps:Array Value}{ρ:Env}{L:Loc}{s s':St}(m:ZO g ν w tmps ρ L s)(hs:s'.sub s):ZO g ν w tmps ρ L s':={
 st:=m.st.sub hs
 loc:=m.loc
 locKept:=m.locKept
 locSt l cs hl:=by
  cases hx:s' (ν l) with
  |none=>rfl
  |some o=>have:=hs _ _ hx;rw[m.locSt l cs hl]at this;simp at this
 inj:=m.inj
 env:=m.env }
theorem J9{F:Fr P}{dk:List Zu}{ρ:Env}{L:Loc}{s s':St}(hs:s'.sub s)(h:ZS F dk ρ L s'):ZS F dk ρ L s :=
 fun k hk g ν w tmps hN m=>h k hk g ν w tmps hN (m.sub hs)
end
end Go.DL
namespace Go.DL
open Go
variable [Zpk]
variable {kp:Option (List Nat)}{L:Loc}{ρ:Env}{s:St}{w:World}{os:List DOp}{ds:List D}{B:List (Nat × Rd)}{dst:Option Nat}{tmps:Array Value}{g:G}{Φ:Res→St→Prop}{ν:Nat→Nat}{xs:List Opd}{side:Prop}{row:Nat→List D}
inductive Sch(T:Tab):(Nat→Bool)→List Nat→Prop where
 |nil {l} (h:∀i,i<T.length→l i=true):Sch T l []
 |cons {l i is} (hi:i<T.length) (hl:l i=false) (hd:∀d∈T.deps i,l d=true) (t:Sch T (fun j=>j==i ||l j) is):Sch T l (i::is)
def Z3(ρ ρ':Env)(ns:List Nat):Prop:=∀t∈ns,Yv ρ' t=Yv ρ t
theorem YD{ρ ρ':Env}{c:Bool}{x:Opd}(h:Z3 ρ ρ' (YQ x)):Z9 ρ' c x=Z9 ρ c x:=by
 cases x with
 |cst d=>rfl
 |tmp t=>simp only[Z9,h t (by simp[YQ])]
theorem Jv{ρ ρ':Env}{c:Bool}:∀{xs:List Opd},Z3 ρ ρ' (ZcU xs)→WE ρ' c xs=WE ρ c xs
 | [],_=>rfl
 |x::xs,h=>by
  have h1:Z3 ρ ρ' (YQ x):=fun t ht=>h t (by simp[ZcU];exact .inl ht)
  have h2:Z3 ρ ρ' (ZcU xs):=fun t ht=>h t (by simp only[ZcU,List.flatMap_cons,List.mem_append];exact .inr ht)
  simp only[WE,YD h1,Jv h2]
theorem KM{ρ ρ':Env}{g:Option (Nat×Bool)}(h:Z3 ρ ρ' (ZfB g)):Zy ρ' g=Zy ρ g:=by
 cases g with
 |none=>rfl
 |some x=>obtain⟨t,w⟩:=x;simp only[Zy,h t (by simp[ZfB])]
theorem ZkJ{ρ ρ':Env}{c:Bool}{x a b:Opd}(h:Z3 ρ ρ' (YQ x++YQ a++YQ b)):Zek ρ' c x a b=Zek ρ c x a b:=by
 have h1:Z3 ρ ρ' (YQ x):=fun t ht=>h t (by simp[ht])
 have h2:Z3 ρ ρ' (YQ a):=fun t ht=>h t (by simp[ht])
 have h3:Z3 ρ ρ' (YQ b):=fun t ht=>h t (by simp[ht])
 simp only[Zek,YD h1]
 split
 ·rw[YD h2,YD h3]
 ·rfl
theorem ZoC{L L':Loc}{e:E}(h:∀x o,e=.loc x o→Zo L' x=Zo L x):Q0 L' s e=Q0 L s e:=by
 cases e with
 |d v=>cases v<;>rfl
 |loc l o=>simp only[Q0,h l o rfl]
 |when c e=>rfl
theorem ZoI{L L':Loc}{n:Nat}{e:E}(h:∀x o,e=.loc x o→Zo L' x=Zo L x):Q9 L' s n e=Q9 L s n e:=by
 cases e with
 |d v=>cases v<;>rfl
 |loc l o=>simp only[Q9,h l o rfl]
 |when c e=>rfl
theorem Zqx{L L':Loc}{q:Q}{es:List E}(h:Zdz (.q q [])=true→∀x o,.loc x o∈es→Zo L' x=Zo L x):qv L' s q es=qv L s q es:=by
 by_cases hl:Zdz (.q q [])=true
 ·replace h:=h hl
  cases q<;>simp[Zdz]at hl
  ·match es with
   | [a]=>simp only[qv,ZoC (e:=a) fun x o ha=>h x o (by rw[ha];exact List.mem_singleton_self _)]
   | []=>rfl
   |_::_::_=>rfl
  ·match es with
   | [a]=>simp only[qv,ZoI (e:=a) fun x o ha=>h x o (by rw[ha];exact List.mem_singleton_self _)]
   | []=>rfl
   |_::_::_=>rfl
 ·clear h
  unfold qv
  split<;>first|rfl|(exfalso;exact hl rfl)|skip
def KD:K→Bool
 |.q _ _|.pick _ _ _|.bsl _ _ _ _ _|.s2b _=>true
 |_=>false
theorem Zry{o:DOp}{ρ ρ':Env}{L L':Loc}{s s1:St}{ρ1:Env}{L1:Loc}(hst:Z7 o ρ L s=.ok side ρ1 L1 s1)(hs:side)(hgt:Zy ρ o.guard=sO true)(hk:KD o.k=true)(ha:Z3 ρ ρ' (ZT o))(hl:Zdz o.k=true→∀q xs p es,o.k=.q q xs→WE ρ true xs=sO (p,es)→p→∀x o,.loc x o∈es→Zo L' x=Zo L x):∃e,ρ1=ZX ρ o.dst e∧L1=L∧s1=s∧Z7 o ρ' L' s=.ok side (ZX ρ' o.dst e) L' s:=by
 obtain⟨dst,gd,k⟩:=o
 have hg:=KM (g:=gd) (fun t ht=>ha t (by simp[ZT,ht]))
 have hn:Z3 ρ ρ' (WP k):=fun t ht=>ha t (by simp[ZT,ht])
 simp only at hgt
 unfold Z7 at hst⊢
 simp only[hg,hgt]at hst⊢
 cases k with
 |q q xs =>
  simp only at hst⊢
  rw[Jv hn]
  split at hst<;>(try(simp at hst;done))
  rename_i p es hes
  try simp only[hes]
  split at hst<;>(try(simp at hst;done))
  rename_i sd e hq
  have hp:p:=by
   split at hst<;>(simp only[SR.ok.injEq]at hst;obtain⟨rfl,-,-,-⟩:=hst)
   ·exact hs.1
   ·exact(hs trivial).1
  have hqc:qv L' s q es=qv L s q es:=Zqx fun hld=>hl (by cases q<;>simp_all[Zdz]) q xs p es rfl hes hp
  simp only[hqc,hq]
  split at hst<;>(simp only[SR.ok.injEq]at hst;obtain⟨rfl,rfl,rfl,rfl⟩:=hst)
  ·exact⟨e,rfl,rfl,rfl,rfl⟩
  ·exact⟨_,rfl,rfl,rfl,rfl⟩
 |pick x a b =>
  simp only at hst⊢
  rw[ZkJ hn]
  split at hst<;>(try(simp at hst;done))
  rename_i p v hp
  try simp only[hp]
  split at hst<;>(simp only[SR.ok.injEq]at hst;obtain⟨rfl,rfl,rfl,rfl⟩:=hst)
  ·exact⟨_,rfl,rfl,rfl,rfl⟩
  ·exact⟨_,rfl,rfl,rfl,rfl⟩
 |bsl len n z is xs =>
  simp only at hst⊢
  rw[Jv hn]
  split at hst<;>(try(simp at hst;done))
  rename_i p es hes
  try simp only[hes]
  split at hst<;>(try(simp at hst;done))
  rename_i ds hds
  try simp only[hds]
  split at hst<;>(simp only[SR.ok.injEq]at hst;obtain⟨rfl,rfl,rfl,rfl⟩:=hst)
  ·exact⟨_,rfl,rfl,rfl,rfl⟩
  ·exact⟨_,rfl,rfl,rfl,rfl⟩
 |s2b x =>
  simp only at hst⊢
  rw[YD hn]
  split at hst<;>(try(simp at hst;done))
  rename_i p l hl
  try simp only[hl]
  split at hst<;>(simp only[SR.ok.injEq]at hst;obtain⟨rfl,rfl,rfl,rfl⟩:=hst)
  ·exact⟨_,rfl,rfl,rfl,rfl⟩
  ·exact⟨_,rfl,rfl,rfl,rfl⟩
 |_=>simp[KD]at hk
theorem ZkQ{o:DOp}{s s1:St}{ρ1:Env}{L1:Loc}(hst:Z7 o ρ L s=.ok side ρ1 L1 s1)(hgt:Zy ρ o.guard=sO false)(hk:KD o.k=true):∃e,ρ1=ZX ρ o.dst (.when false e)∧L1=L∧s1=s:=by
 obtain⟨dst,gd,k⟩:=o
 have hgn:∃x,gd=sO x:=by
  cases gd with
  |none=>simp[Zy]at hgt
  |some x=>exact⟨x,rfl⟩
 obtain⟨x,rfl⟩:=hgn
 simp only at hgt
 unfold Z7 at hst
 simp only[hgt]at hst
 cases k with
 |q q xs =>
  simp only at hst
  split at hst<;>(try(simp at hst;done))
  split at hst<;>(try(simp at hst;done))
  simp only[SR.ok.injEq]at hst;obtain⟨rfl,rfl,rfl,rfl⟩:=hst
  exact⟨_,rfl,rfl,rfl⟩
 |pick x a b =>
  simp only at hst
  split at hst<;>(try(simp at hst;done))
  simp only[SR.ok.injEq]at hst;obtain⟨rfl,rfl,rfl,rfl⟩:=hst
  exact⟨_,rfl,rfl,rfl⟩
 |bsl len n z is xs =>
  simp only at hst
  split at hst<;>(try(simp at hst;done))
  split at hst<;>(try(simp at hst;done))
  simp only[SR.ok.injEq]at hst;obtain⟨rfl,rfl,rfl,rfl⟩:=hst
  exact⟨_,rfl,rfl,rfl⟩
 |s2b x =>
  simp only at hst
  split at hst<;>(try(simp at hst;done))
  simp only[SR.ok.injEq]at hst;obtain⟨rfl,rfl,rfl,rfl⟩:=hst
  exact⟨_,rfl,rfl,rfl⟩
 |_=>simp[KD]at hk
theorem ZhQ{s s':St}{L L':Loc}:∀{B:List (Nat×Rd)},JA s s' L L' B→(∀n b,(n,.blk b)∈B→s' b=s b)∧(∀n l,(n,.loc l)∈B→Zo L' l=Zo L l)
 | [],_=>⟨fun n b h=>by simp at h,fun n b h=>by simp at h⟩
 | (m,.blk c)::B,h=>by
  obtain⟨h1,h2⟩:=ZhQ h.2
  refine⟨fun n b hb=>?_,fun n l hl=>h2 n l (by simpa using hl)⟩
  rcases List.mem_cons.1 hb with hb|hb
  ·simp only[Zyh,Rd.blk.injEq]at hb;rw[hb.2];exact h.1
  ·exact h1 n b hb
 | (m,.loc c)::B,h=>by
  obtain⟨h1,h2⟩:=ZhQ h.2
  refine⟨fun n b hb=>h1 n b (by simpa using hb),fun n l hl=>?_⟩
  rcases List.mem_cons.1 hl with hl|hl
  ·simp only[Zyh,Rd.loc.injEq]at hl;rw[hl.2];exact h.1
  ·exact h2 n l hl
theorem Zgy(s:St)(L:Loc):∀B,JA s s L L B
 | []=>trivial
 | (_,.blk _)::B=>⟨rfl,Zgy s L B⟩
 | (_,.loc _)::B=>⟨rfl,Zgy s L B⟩
theorem Zei(fl:List Nat)(s:St)(L:Loc)(B:List (Nat×Rd)):KB fl s s L L B:=Zgy s L _
theorem Zdc:∀(B:List (Nat×Rd)),Kx [] B=[]
 | []=>rfl
 |_::B=>Zdc B
theorem Zbp{s s':St}{L L':Loc}{B:List (Nat×Rd)}:KB [] s s' L L' B:=by
 unfold KB;rw[Zdc];trivial
theorem JY{fl:List Nat}{x:Nat×Rd}:∀{B:List (Nat×Rd)},x∈Kx fl B↔ZbK x.1 fl=true∧x∈B
 | []=>by simp[Kx]
 |y::B=>by
  simp only[Kx]
  split
  ·rename_i h
   simp only[ZyP,JY (B:=B)]
   constructor
   ·rintro(rfl|⟨h1,h2⟩)
    ·exact⟨h,.inl rfl⟩
    ·exact⟨h1,.inr h2⟩
   ·rintro⟨h1,rfl|h2⟩
    ·exact .inl rfl
    ·exact .inr ⟨h1,h2⟩
  ·rename_i h
   simp only[ZyP,JY (B:=B)]
   constructor
   ·rintro⟨h1,h2⟩;exact⟨h1,.inr h2⟩
   ·rintro⟨h1,rfl|h2⟩
    ·exact absurd h1 h
    ·exact⟨h1,h2⟩
theorem Zs8{o:DOp}{x:Rd}:(Zcv o,x)∈Jr o ρ↔x∈Qh o ρ:=by simp[Jr]
theorem Zjh{o:DOp}{ρ ρ':Env}(h:Z3 ρ ρ' (ZT o)):Qh o ρ'=Qh o ρ:=by
 obtain⟨dst,gd,k⟩:=o
 have hg:=KM (g:=gd) (fun t ht=>h t (by simp[ZT,ht]))
 cases k with
 |q q xs =>
  have hn:Z3 ρ ρ' (ZcU xs):=fun t ht=>h t (by simp[ZT,WP,ht])
  simp only[Qh,hg]
  split
  ·cases Zy ρ gd with
   |none=>rfl
   |some c=>simp only[Jv hn]
  ·rfl
 |_=>rfl
theorem ZvL{s s':St}{q:Q}{es:List E}(h:KR (.q q [])=true→∀e r,es=e::r→∀b,.blk b∈JZ e→s' b=s b):qv L s' q es=qv L s q es:=by
 by_cases hl:KR (.q q [])=true
 ·replace h:=h hl
  match es with
  | [] =>
   cases q
   case conv c=>cases c<;>first|rfl|simp[KR]at hl
   all_goals simp[KR]at hl<;>rfl
  |e::r =>
   replace h:=h e r rfl
   have hc:∀b o,e=.d (.ptr b o)→Wk s' b=Wk s b:=fun b o he=>by subst he;simp only[Wk,h b (by simp[JZ])]
   have hm:∀b,e=.d (.map b)→JT s' b=JT s b:=fun b he=>by subst he;simp only[JT,h b (by simp[JZ])]
   have hms:∀b o n cap z,e=.d (.msl b o n cap z)→Wk s' b=Wk s b:=fun b o n cap z he=>by subst he;simp only[Wk,h b (by simp[JZ])]
   have hconv:q=.conv .b2s→qv L s' q (e::r)=qv L s q (e::r):=fun hq=>by
    subst hq
    cases r with
    |nil =>
     cases e with
     |d v=>cases v<;>first|rfl|(simp only[qv];rw[hms _ _ _ _ _ rfl])
     |_=>rfl
    |cons =>
     cases e with
     |d v=>cases v<;>rfl
     |_=>rfl
   cases q
   case conv c=>cases c<;>first|(simp[KR]at hl;done)|exact hconv rfl
   all_goals simp[KR]at hl
   ·cases r with
    |nil =>
     simp only[qv]
     congr 1
     cases e with
     |d v=>cases v<;>first|rfl|(simp only[Q0];rw[hc _ _ rfl])
     |_=>rfl
    |cons=>rfl
   ·cases r with
    |nil =>
     simp only[qv]
     congr 1
     cases e with
     |d v=>cases v<;>first|rfl|(simp only[Q9];rw[hc _ _ rfl])
     |_=>rfl
    |cons=>rfl
   ·match r with
    | [] =>
     cases e with
     |d v=>cases v<;>rfl
     |_=>rfl
    | [e2] =>
     cases e with
     |d v =>
      cases e2 with
      |d v2=>cases v<;>first|rfl|(simp only[qv];rw[hm _ rfl])
      |_=>cases v<;>rfl
     |_=>cases e2<;>rfl
    |e2::_::_ =>
     cases e with
     |d v=>cases v<;>(cases e2<;>rfl)
     |_=>cases e2<;>rfl
   ·cases r with
    |nil =>
     cases e with
     |d v=>cases v<;>first|rfl|(simp only[qv];rw[hm _ rfl])
     |_=>rfl
    |cons =>
     cases e with
     |d v=>cases v<;>rfl
     |_=>rfl
 ·clear h
  cases q
  case conv c=>cases c<;>first|(simp[KR]at hl;done)|(unfold qv;rfl)|(unfold qv;split<;>first|rfl|(rename_i hx;cases hx))
  all_goals first|(simp[KR]at hl;done)|(unfold qv;rfl)|(unfold qv;split<;>first|rfl|(rename_i hx;cases hx))
theorem Zrz{o:DOp}{s s':St}{ρ1:Env}(hst:Z7 o ρ L s=.ok side ρ1 L s)(hk:KD o.k=true)(hgt:Zy ρ o.guard=sO true)(h:∀b,.blk b∈Qh o ρ→s' b=s b):Z7 o ρ L s'=.ok side ρ1 L s':=by
 obtain⟨dst,gd,k⟩:=o
 unfold Z7 at hst⊢
 obtain⟨c,hg,hc⟩:∃c,Zy ρ gd=sO c∧c=true:=⟨true,hgt,rfl⟩
 simp only[hg]at hst⊢
 cases k with
 |q q xs =>
  simp only at hst⊢
  split at hst<;>(try(simp at hst;done))
  rename_i p es hes
  have hqc:qv L s' q es=qv L s q es:=ZvL fun hl e r he b hb=>h b (by
   subst he
   have hl':KR (.q q xs)=true:=by
    cases q
    case conv c=>cases c<;>simp_all[KR]
    all_goals simp_all[KR]
   subst hc
   simp only[Qh,hl',if_true,hg,hes];exact hb)
  simp only[hqc]
  split at hst<;>(try(simp at hst;done))
  split at hst<;>(simp only[SR.ok.injEq]at hst;obtain⟨rfl,rfl,-,-⟩:=hst;rfl)
 |pick x a b =>
  simp only at hst⊢
  split at hst<;>(try(simp at hst;done))
  split at hst<;>(simp only[SR.ok.injEq]at hst;obtain⟨rfl,rfl,-,-⟩:=hst;rfl)
 |bsl len n z is xs =>
  simp only at hst⊢
  split at hst<;>(try(simp at hst;done))
  split at hst<;>(try(simp at hst;done))
  split at hst<;>(simp only[SR.ok.injEq]at hst;obtain⟨rfl,rfl,-,-⟩:=hst;rfl)
 |s2b x =>
  simp only at hst⊢
  split at hst<;>(try(simp at hst;done))
  split at hst<;>(simp only[SR.ok.injEq]at hst;obtain⟨rfl,rfl,-,-⟩:=hst;rfl)
 |_=>simp[KD]at hk
def ZbZ(o:DOp)(x:Nat):Prop:=o.dst=sO x∧∃z,o.k=.alloc z
def Jb(o:DOp)(ρ:Env)(L:Loc)(s:St)(B:List (Nat×Rd)):Prop :=
 (KD o.k=true∧Zy ρ o.guard=sO true∧(∀b∈Qh o ρ,(Zcv o,b)∈B)∧∃side e,side∧Z7 o ρ L s=.ok side (ZX ρ o.dst e) L s∧∀t,o.dst=sO t→Yv ρ t=sO e) ∨
 (KD o.k=true∧Zy ρ o.guard=sO false∧∃e,∀t,o.dst=sO t→Yv ρ t=sO (.when false e)) ∨
 (∃t z,o=⟨sO t,nO,.alloc z⟩∧Yv ρ t=sO (.loc t 0)∧Zo L t=sO z)
structure Inv(T:Tab)(ms:List Nat)(A rest:List Nat)(ρ:Env)(L:Loc)(s:St)(B:List (Nat×Rd))(l:Nat→Bool)(ρ':Env)(L':Loc):Prop where
 closed:∀i,i<T.length→l i=true→∀d∈T.deps i,l d=true
 restN:∀r∈rest,l r=false
 doneN:∀i,i<T.length→i∉rest→i∉A→l i=true
 alt:∀a∈A,a<T.length
 pair:∀p∈A,∀a∈A,(ms.getD p 0).testBit a=true∨nd (T.op a).dst (ZT (T.op p))=true
 uniq:∀p∈A,∀a∈A,p≠a→ndd (T.op p).dst (T.op a).dst=true
 env:∀t,Yv ρ' t=Yv ρ t∨∃a∈A,l a=false∧(T.op a).dst=some t
 loc0:∀a∈A,l a=false→∀x,ZbZ (T.op a) x→Zo L' x=none
 loc:∀x,Zo L' x=Zo L x∨∃a∈A,l a=false∧ZbZ (T.op a) x
 pend:∀a∈A,l a=false→Jb (T.op a) ρ L s B
def Zfm(T:Tab)(ms:List Nat):Prop :=
 ∀(l:Nat→Bool),(∀i,i<T.length→l i=true→∀d∈T.deps i,l d=true)→∀i,i<T.length→(∀d∈T.deps i,l d=true)→∀a,(ms.getD i 0).testBit a=true→l a=true
theorem Jb.state{o:DOp}{s s':St}{B:List (Nat×Rd)}(h:Jb o ρ L s B)(hB:∀b,.blk b∈Qh o ρ→s' b=s b):Jb o ρ L s' B:=by
 rcases h with ⟨hk,hg,hr,side,e,hs,hst,he⟩|h|h
 ·exact .inl ⟨hk,hg,hr,side,e,hs,Zrz hst hk hg hB,he⟩
 ·exact .inr (.inl h)
 ·exact .inr (.inr h)
theorem Jb.more{o:DOp}{B B':List (Nat×Rd)}(h:Jb o ρ L s B)(hB:∀b∈Qh o ρ,(Zcv o,b)∈B→(Zcv o,b)∈B'):Jb o ρ L s B':=by
 rcases h with ⟨hk,hg,hr,h⟩|h|h
 ·exact .inl ⟨hk,hg,fun b hb=>hB b hb (hr b hb),h⟩
 ·exact .inr (.inl h)
 ·exact .inr (.inr h)
theorem Zro{o:DOp}(h:Zy ρ o.guard=sO false):Qh o ρ=[]:=by
 obtain⟨dst,gd,k⟩:=o
 cases k<;>simp only[Qh]
 simp only at h
 simp[h]
theorem Zrn{o:DOp}(h:KR o.k=false):Qh o ρ=[]:=by
 obtain⟨dst,gd,k⟩:=o
 cases k<;>simp only[Qh]
 rename_i q xs
 simp only at h
 simp[h]
section
variable {P:Program}
theorem ZnT{F:Fr P}{dk:List Zu}(h:∀g ν w tmps,ZO g ν w tmps ρ L s→DO F kp dk os ρ L s):DO F kp dk os ρ L s :=
 fun ops is k hops hk g ν w tmps hN m=>h g ν w tmps m ops is k hops hk g ν w tmps hN m
theorem Zk4{g:G}{ν:Nat→Nat}{w:World}{tmps:Array Value}{ρ:Env}{L:Loc}{s:St}(m:ZO g ν w tmps ρ L s):∀{xs:List Opd} {p:Prop} {es:List E},WE ρ true xs=sO (p,es)→p→∀x o,.loc x o∈es→∃cs,Zo L x=sO cs
 | [],p,es,h,_,x,o,hx=>by simp only[WE,Zyd,Zyh]at h;obtain⟨_,rfl⟩:=h;simp at hx
 |y::ys,p,es,h,hp,x,o,hx=>by
  simp only[WE]at h
  split at h<;>simp only[Zyd,Zyh,reduceCtorEq]at h
  rename_i p1 e1 p2 es' h1 h2
  obtain⟨rfl,rfl⟩:=h
  rcases List.mem_cons.1 hx with hx|hx
  ·subst hx
   cases y with
   |cst d=>simp[Z9]at h1
   |tmp t =>
    simp only[Z9]at h1
    split at h1
    ·rename_i c' e' he
     simp only[Zyd,Zyh]at h1
     obtain⟨rfl,rfl⟩:=h1
     exact((m.env t _ he).1 (by simpa using hp.1)).1
    ·rename_i e' _ he
     simp only[Zyd,Zyh]at h1
     obtain⟨rfl,rfl⟩:=h1
     exact(m.env t _ he).1
    ·simp at h1
  ·exact Zk4 m h2 hp.2 x o hx
theorem ZrF{F:Fr P}{dk:List Zu}{o:DOp}{ρ ρ':Env}{L L':Loc}{e:E}(hst:Z7 o ρ L s=.ok side (ZX ρ o.dst e) L s)(hs:side)(hk:KD o.k=true)(ha:Z3 ρ ρ' (ZT o))(hl:∀x,Zo L' x=Zo L x∨Zo L' x=nO)(h:DO F kp dk os (ZX ρ' o.dst e) L' s):DO F kp dk (o::os) ρ' L' s:=by
 have hput:∀e',ZX ρ o.dst e=ZX ρ o.dst e'→ZX ρ' o.dst e=ZX ρ' o.dst e':=fun e' h=>by
  cases hd:o.dst with
  |none=>rfl
  |some t=>simp only[hd,ZX,List.cons.injEq,Zyh,true_and,and_true]at h;rw[h]
 have hg:=KM (g:=o.guard) (fun t ht=>ha t (by simp[ZT,ht]))
 cases hc:Zy ρ o.guard with
 |none=>unfold Z7 at hst;simp[hc]at hst
 |some c =>
  cases c
  ·obtain⟨e',h1,-,-⟩:=ZkQ hst hc hk
   rw[hput _ h1]at h
   exact ZaB (by rw[hg,hc]) h
  ·refine ZnT fun g ν w tmps m=>?_
   obtain⟨e',h1,-,-,h2⟩:=Zry (ρ':=ρ') (L':=L') hst hs hc hk ha (fun hld q xs p es hkq hes hp x of hx=>by
    have hn:Z3 ρ ρ' (ZcU xs):=fun t ht=>ha t (by simp[ZT,hkq,WP,ht])
    obtain⟨cs,hcs⟩:=Zk4 m (by rw[Jv hn];exact hes) hp x of hx
    rcases hl x with h|h
    ·exact h
    ·rw[h]at hcs;simp at hcs)
   rw[hput _ h1]at h
   exact Za3 h2 hs h
end
theorem Zca{a b:Option Nat}(h:ndd a b=true):ndd b a=true:=by
 cases a<;>cases b<;>simp only[ndd,bne_iff_ne,ne_eq]at h⊢
 exact fun h'=>h h'.symm
theorem Zb9{a b:Option Nat}(h:ndd a b=true){t:Nat}(ha:a=sO t):b≠sO t:=by
 subst ha
 cases b with
 |none=>simp
 |some u=>simp only[ndd,bne_iff_ne]at h;intro hb;simp only[Zyd]at hb;exact h hb.symm
theorem Zg6{d:Option Nat}{l:List Nat}(h:nd d l=true){t:Nat}(ht:d=sO t):t∉l:=by
 subst ht;simpa[nd]using h
theorem JI{e:E}{ns:List Nat}(h:nd dst ns=true):Z3 ρ (ZX ρ dst e) ns:=by
 intro t ht
 cases dst with
 |none=>rfl
 |some u =>
  have:¬u=t:=fun hu=>Zg6 h rfl (hu▸ht)
  simp[ZX,Yv,this]
theorem KW(ρ:Env)(dst:Option Nat)(e:E)(t:Nat):Yv (ZX ρ dst e) t=if dst=sO t then sO e else Yv ρ t:=by
 cases dst with
 |none=>simp[ZX]
 |some u=>simp[ZX,Yv]
theorem ZwQ{q:Q}{es:List E}{r:Prop×E}(hq:qv L s q es=sO r)(hl:Zdz (.q q [])=true){x o:Nat}(hx:.loc x o∈es):∃cs,Zo L x=sO cs:=by
 cases q<;>simp[Zdz]at hl
 ·match es with
  | [a] =>
   simp only[List.mem_singleton]at hx
   subst hx
   simp only[qv,Q0]at hq
   cases h:Zo L x with
   |none=>simp[h]at hq
   |some cs=>exact⟨cs,rfl⟩
  | []=>simp at hx
  |_::_::_=>simp[qv]at hq
 ·match es with
  | [a] =>
   simp only[List.mem_singleton]at hx
   subst hx
   simp only[qv,Q9]at hq
   cases h:Zo L x with
   |none=>simp[h]at hq
   |some cs=>exact⟨cs,rfl⟩
  | []=>simp at hx
  |_::_::_=>simp[qv]at hq
theorem Zic{o:DOp}{ρ ρ':Env}{L L':Loc}{s s1:St}{ρ1:Env}{L1:Loc}(hst:Z7 o ρ L s=.ok side ρ1 L1 s1)(hk:KD o.k=true)(ha:Z3 ρ ρ' (ZT o))(hl:L'=L∨Zy ρ o.guard=sO true∧∀x,.loc x∈Qh o ρ→Zo L' x=Zo L x):∃e,ρ1=ZX ρ o.dst e∧L1=L∧s1=s∧Z7 o ρ' L' s=.ok side (ZX ρ' o.dst e) L' s:=by
 obtain⟨dst,gd,k⟩:=o
 have hg:=KM (g:=gd) (fun t ht=>ha t (by simp[ZT,ht]))
 have hn:Z3 ρ ρ' (WP k):=fun t ht=>ha t (by simp[ZT,ht])
 unfold Z7 at hst⊢
 simp only[hg]at hst⊢
 cases hc:Zy ρ gd with
 |none=>simp[hc]at hst
 |some c =>
 simp only[hc]at hst⊢
 cases k with
 |q q xs =>
  simp only at hst⊢
  rw[Jv hn]
  split at hst<;>(try(simp at hst;done))
  rename_i p es hes
  try simp only[hes]
  split at hst<;>(try(simp at hst;done))
  rename_i sd e hq
  have hqc:qv L' s q es=qv L s q es:=Zqx fun hld x of hx=>by
   rcases hl with rfl|⟨hgt,hl⟩
   ·rfl
   obtain rfl:c=true:=by simpa[hc]using hgt
   refine hl x ?_
   have hrd:KR (.q q xs)=true:=by cases q<;>simp_all[Zdz,KR]
   have hes1:es=[.loc x of]:=by
    have hq':∃r,qv L s q es=sO r:=⟨_,hq⟩
    cases q<;>simp[Zdz]at hld
    ·match es with
     | [a]=>simp only[List.mem_singleton]at hx;rw[hx]
     | []=>simp at hx
     |_::_::_=>simp[qv]at hq'
    ·match es with
     | [a]=>simp only[List.mem_singleton]at hx;rw[hx]
     | []=>simp at hx
     |_::_::_=>simp[qv]at hq'
   subst hes1
   simp only[Qh,hrd,if_true,hc,hes,JZ,List.mem_singleton]
  simp only[hqc,hq]
  split at hst<;>(simp only[SR.ok.injEq]at hst;obtain⟨rfl,rfl,rfl,rfl⟩:=hst)
  ·exact⟨e,rfl,rfl,rfl,rfl⟩
  ·exact⟨_,rfl,rfl,rfl,rfl⟩
 |pick x a b =>
  simp only at hst⊢
  rw[ZkJ hn]
  split at hst<;>(try(simp at hst;done))
  rename_i p v hp
  try simp only[hp]
  split at hst<;>(simp only[SR.ok.injEq]at hst;obtain⟨rfl,rfl,rfl,rfl⟩:=hst)
  ·exact⟨_,rfl,rfl,rfl,rfl⟩
  ·exact⟨_,rfl,rfl,rfl,rfl⟩
 |bsl len n z is xs =>
  simp only at hst⊢
  rw[Jv hn]
  split at hst<;>(try(simp at hst;done))
  rename_i p es hes
  try simp only[hes]
  split at hst<;>(try(simp at hst;done))
  rename_i ds hds
  try simp only[hds]
  split at hst<;>(simp only[SR.ok.injEq]at hst;obtain⟨rfl,rfl,rfl,rfl⟩:=hst)
  ·exact⟨_,rfl,rfl,rfl,rfl⟩
  ·exact⟨_,rfl,rfl,rfl,rfl⟩
 |s2b x =>
  simp only at hst⊢
  rw[YD hn]
  split at hst<;>(try(simp at hst;done))
  rename_i p l hl
  try simp only[hl]
  split at hst<;>(simp only[SR.ok.injEq]at hst;obtain⟨rfl,rfl,rfl,rfl⟩:=hst)
  ·exact⟨_,rfl,rfl,rfl,rfl⟩
  ·exact⟨_,rfl,rfl,rfl,rfl⟩
 |_=>simp[KD]at hk
theorem Jb.mono{o:DOp}{ρ ρ1:Env}{L L1:Loc}{B:List (Nat×Rd)}(h:Jb o ρ L s B)(ha:Z3 ρ ρ1 (ZT o))(hd:∀t,o.dst=sO t→Yv ρ1 t=Yv ρ t)(hl:∀x,.loc x∈Qh o ρ→Zo L1 x=Zo L x)(hal:∀t,ZbZ o t→Zo L1 t=Zo L t):Jb o ρ1 L1 s B:=by
 rcases h with ⟨hk,hgt,hrd,side,e,hs,hst,he⟩|⟨hk,hgf,e,he⟩|⟨t,z,rfl,h1,h2⟩
 ·left
  obtain⟨e',h1,-,-,h2⟩:=Zic hst hk ha (.inr ⟨hgt,hl⟩)
  refine⟨hk,by rw[KM fun t ht=>ha t (by simp[ZT,ht])];exact hgt,by rw[Zjh ha];exact hrd,side,e',hs,h2,fun t ht=>?_⟩
  rw[hd t ht,he t ht]
  rw[ht]at h1
  simp only[ZX,List.cons.injEq,Zyh,true_and,and_true]at h1
  rw[h1]
 ·exact .inr (.inl ⟨hk,by rw[KM fun t ht=>ha t (by simp[ZT,ht])];exact hgf,e,fun t ht=>by rw[hd t ht,he t ht]⟩)
 ·right;right
  exact⟨t,z,rfl,by rw[hd t rfl];exact h1,by rw[hal t ⟨rfl,z,rfl⟩];exact h2⟩
theorem Zdm{o:DOp}{x:Nat}(h:ZbZ o x):KD o.k=false:=by
 obtain⟨_,z,hz⟩:=h;rw[hz];rfl
section
variable {P:Program}
theorem ZiU{F:Fr P}{dk:List Zu}{T:Tab}{ms:List Nat}{A rest:List Nat}{l:Nat→Bool}{ρ':Env}{L':Loc}{B:List (Nat×Rd)}{p:Nat}(hm:Zfm T ms)(inv:Inv T ms A rest ρ L s B l ρ' L')(hA:p∈A)(hdis:p∉rest)(hl:l p=false)(hdeps:∀d∈T.deps p,l d=true)(h:∀ρ2 L2,Inv T ms A rest ρ L s B (fun j=>j==p ||l j) ρ2 L2→DO F kp dk os ρ2 L2 s):DO F kp dk (T.op p::os) ρ' L' s:=by
 have hpn:=inv.alt p hA
 have hforced:=hm l inv.closed p hpn hdeps
 have hag:Z3 ρ ρ' (ZT (T.op p)):=by
  intro t ht
  rcases inv.env t with h|⟨a,ha,hla,hda⟩
  ·exact h
  ·exfalso
   rcases inv.pair p hA a ha with hb|hb
   ·rw[hforced a hb]at hla;simp at hla
   ·exact Zg6 hb hda ht
 have hloc:∀x,Zo L' x=Zo L x∨Zo L' x=nO:=fun x=>by
  rcases inv.loc x with h|⟨a,ha,hla,hx⟩
  ·exact .inl h
  ·exact .inr (inv.loc0 a ha hla x hx)
 have hclosed:∀i,i<T.length→(i==p ||l i)=true→∀d∈T.deps i,(d==p ||l d)=true:=fun i hi hli d hd=>by
  simp only[Zyu,beq_iff_eq]at hli⊢
  rcases hli with rfl|hli
  ·exact .inr (hdeps d hd)
  ·exact .inr (inv.closed i hi hli d hd)
 have hrestN:∀r∈rest,(r==p ||l r)=false:=fun r hr=>by
  simp only[Bool.or_eq_false_iff,beq_eq_false_iff_ne]
  exact⟨fun h=>hdis (h▸hr),inv.restN r hr⟩
 have hdone:∀i,i<T.length→i∉rest→i∉A→(i==p ||l i)=true:=fun i hi h1 h2=>by simp[inv.doneN i hi h1 h2]
 have hl2:∀a,(a==p ||l a)=false→a≠p∧l a=false:=fun a ha=>by simpa using ha
 have hl2':∀a,a≠p→l a=false→(a==p ||l a)=false:=fun a ha h=>by simp[ha,h]
 rcases inv.pend p hA hl with ⟨hk,hgt,hrd,side,e,hs,hst,he⟩|⟨hk,hgf,e0,he0⟩|⟨t,z,ho,h1,h2⟩
 rotate_left
 ·obtain⟨e,he,hE⟩:∃e,(∀t,(T.op p).dst=sO t→Yv ρ t=sO e)∧e=.when false e0:=⟨_,he0,rfl⟩
  refine ZaB (e:=e0) (by rw[KM fun t ht=>hag t (by simp[ZT,ht])];exact hgf) ?_
  rw[←hE]
  refine h _ _ ?_
  refine⟨hclosed,hrestN,hdone,inv.alt,inv.pair,inv.uniq,fun t=>?_,fun a ha hla x hx=>inv.loc0 a ha (hl2 a hla).2 x hx,fun x=>?_,fun a ha hla=>inv.pend a ha (hl2 a hla).2⟩
  ·rw[KW]
   by_cases hd:(T.op p).dst=sO t
   ·rw[if_pos hd];exact .inl (he t hd).symm
   ·rw[if_neg hd]
    rcases inv.env t with h|⟨a,ha,hla,hda⟩
    ·exact .inl h
    ·exact .inr ⟨a,ha,hl2' a (fun hap=>hd (hap▸hda)) hla,hda⟩
  ·rcases inv.loc x with h|⟨a,ha,hla,hx⟩
   ·exact .inl h
   ·refine .inr ⟨a,ha,hl2' a (fun hap=>?_) hla,hx⟩
    have:=Zdm hx
    rw[hap,hk]at this;simp at this
 rotate_left
 ·refine ZrF hst hs hk hag hloc (h _ _ ?_)
  refine⟨hclosed,hrestN,hdone,inv.alt,inv.pair,inv.uniq,fun t=>?_,fun a ha hla x hx=>inv.loc0 a ha (hl2 a hla).2 x hx,fun x=>?_,fun a ha hla=>inv.pend a ha (hl2 a hla).2⟩
  ·rw[KW]
   by_cases hd:(T.op p).dst=sO t
   ·rw[if_pos hd];exact .inl (he t hd).symm
   ·rw[if_neg hd]
    rcases inv.env t with h|⟨a,ha,hla,hda⟩
    ·exact .inl h
    ·exact .inr ⟨a,ha,hl2' a (fun hap=>hd (hap▸hda)) hla,hda⟩
  ·rcases inv.loc x with h|⟨a,ha,hla,hx⟩
   ·exact .inl h
   ·refine .inr ⟨a,ha,hl2' a (fun hap=>?_) hla,hx⟩
    have:=Zdm hx
    rw[hap,hk]at this;simp at this
 ·have hal:ZbZ (T.op p) t:=⟨by rw[ho],z,by rw[ho]⟩
  have hnone:=inv.loc0 p hA hl t hal
  refine Zpb (o:=T.op p) (t:=t) (by rw[ho]) (by rw[ho]) (z:=z) (by rw[ho]) (by simp[ZbI,hnone]) (h _ _ ?_)
  have hdp:(T.op p).dst=sO t:=by rw[ho]
  refine⟨hclosed,hrestN,hdone,inv.alt,inv.pair,inv.uniq,fun u=>?_,fun a ha hla x hx=>?_,fun x=>?_,fun a ha hla=>inv.pend a ha (hl2 a hla).2⟩
  ·simp only[Yv]
   by_cases hd:t=u
   ·subst hd;simp[h1]
   ·simp only[hd,if_false]
    rcases inv.env u with h|⟨a,ha,hla,hda⟩
    ·exact .inl h
    ·exact .inr ⟨a,ha,hl2' a (fun hap=>hd (by rw[hap,hdp]at hda;simpa using hda)) hla,hda⟩
  ·obtain⟨hap,hla⟩:=hl2 a hla
   have:¬t=x:=fun htx=>Zb9 (inv.uniq p hA a ha hap.symm) hdp (htx▸hx.1)
   simp only[Zo,this,if_false]
   exact inv.loc0 a ha hla x hx
  ·simp only[Zo]
   by_cases hd:t=x
   ·subst hd;simp[h2]
   ·simp only[hd,if_false]
    rcases inv.loc x with h|⟨a,ha,hla,hx⟩
    ·exact .inl h
    ·exact .inr ⟨a,ha,hl2' a (fun hap=>hd (by have:=hx.1;rw[hap,hdp]at this;simpa using this)) hla,hx⟩
theorem Zs7{F:Fr P}{dk:List Zu}{T:Tab}{ms:List Nat}{A rest:List Nat}{B:List (Nat×Rd)}{i:Nat}(hm:Zfm T ms)(hi:i<T.length)(hdis:∀p∈A,p∉i::rest)(hready:∀r∈rest,∃d∈T.deps r,d∈i::rest)(cb:∀l ρ' L' is,Inv T ms A (i::rest) ρ L s B l ρ' L'→(∀d∈T.deps i,l d=true)→Sch T (fun j=>j==i ||l j) is→DO F kp dk (T.op i::is.map T.op) ρ' L' s){l:Nat→Bool}{is:List Nat}(sch:Sch T l is):∀{ρ':Env} {L':Loc},Inv T ms A (i::rest) ρ L s B l ρ' L'→DO F kp dk (is.map T.op) ρ' L' s:=by
 induction sch with
 |nil h=>intro ρ' L' inv;have:=inv.restN i (by simp);rw[h i hi]at this;simp at this
 | @cons l p is hp hlp hd t ih =>
  intro ρ' L' inv
  by_cases hpi:p=i
  ·subst hpi;exact cb l ρ' L' is inv hd t
  ·by_cases hpr:p∈rest
   ·obtain⟨d,hd1,hd2⟩:=hready p hpr
    have:=inv.restN d hd2
    rw[hd d hd1]at this;simp at this
   ·by_cases hpA:p∈A
    ·exact ZiU hm inv hpA (hdis p hpA) hlp hd fun ρ2 L2 inv2=>ih inv2
    ·have:=inv.doneN p hp (by simp[hpi,hpr]) hpA
     rw[hlp]at this;simp at this
theorem ZkS{L L':Loc}(h:∀x,Zo L' x=Zo L x):∀ls,ZbT L' ls=ZbT L ls
 | []=>rfl
 |l::ls=>by simp only[ZbT,h l,ZkS h ls]
theorem ZkF{ρ ρ':Env}(h:∀x,Yv ρ' x=Yv ρ x):∀ks,WV ρ' ks=WV ρ ks
 | []=>rfl
 |k::ks=>by simp only[WV,h k,ZkF h ks]
theorem Zuz{F:Fr P}{ks:List Nat}{dk:List Zu}{T:Tab}{ms:List Nat}{A:List Nat}{B:List (Nat×Rd)}(hm:Zfm T ms)(h:ZS F dk (WV ρ ks) (ZcS (WV ρ ks) L) s){l:Nat→Bool}{is:List Nat}(sch:Sch T l is):∀{ρ':Env} {L':Loc},Inv T ms A [] ρ L s B l ρ' L'→DO F (sO ks) dk (is.map T.op) ρ' L' s:=by
 induction sch with
 |nil hall =>
  intro ρ' L' inv
  have h1:∀t,Yv ρ' t=Yv ρ t:=fun t=>by
   rcases inv.env t with h|⟨a,ha,hla,_⟩
   ·exact h
   ·rw[hall a (inv.alt a ha)]at hla;simp at hla
  have h2:∀t,Zo L' t=Zo L t:=fun t=>by
   rcases inv.loc t with h|⟨a,ha,hla,_⟩
   ·exact h
   ·rw[hall a (inv.alt a ha)]at hla;simp at hla
  refine ZiD ?_
  show ZS F dk (WV ρ' ks) (ZcS (WV ρ' ks) L') s
  rw[ZkF h1]
  simp only[ZcS,ZkS h2]
  exact h
 | @cons l p is hp hlp hd t ih =>
  intro ρ' L' inv
  by_cases hpA:p∈A
  ·exact ZiU hm inv hpA (by simp) hlp hd fun ρ2 L2 inv2=>ih inv2
  ·have:=inv.doneN p hp (by simp) hpA
   rw[hlp]at this;simp at this
def DOA(F:Fr P)(kp:Option (List Nat))(dk:List Zu)(os:List (DOp×List Nat))(ρ:Env)(L:Loc)(s:St)(B:List (Nat×Rd)):Prop :=
 ∀(T:Tab) ms fl (fk:Option Nat) A rest is l ρ' L',Zfm T ms→Zb2 T ms fl fk A rest=true→(∀p∈A,p∉rest)→os=rest.map (fun i=>(T.mk fk i,fl i))→Inv T ms A rest ρ L s B l ρ' L'→Sch T l is→DO F kp dk (is.map T.op) ρ' L' s
theorem ZmU{F:Fr P}{ks:List Nat}{dk:List Zu}{B:List (Nat×Rd)}(h:ZS F dk (WV ρ ks) (ZcS (WV ρ ks) L) s):DOA F (sO ks) dk [] ρ L s B:=by
 intro T ms fl fk A rest is l ρ' L' hm hc hdis hos inv sch
 have hr:rest=[]:=by cases rest<;>simp at hos⊢
 subst hr
 exact Zuz hm h sch inv
theorem ZkR{o:DOp}{s s1:St}{ρ1:Env}{L1:Loc}(hst:Z7 o ρ L s=.ok side ρ1 L1 s1)(hk:KD o.k=true):∃e,ρ1=ZX ρ o.dst e∧L1=L∧s1=s:=by
 obtain⟨e,h1,h2,h3,_⟩:=Zic (ρ':=ρ) (L':=L) hst hk (fun _ _=>rfl) (.inl rfl)
 exact⟨e,h1,h2,h3⟩
theorem Zrx{o:DOp}{s s1:St}{ρ1:Env}{L1:Loc}{z:List D}(hst:Z7 o ρ L s=.ok side ρ1 L1 s1)(hk:o.k=.alloc z):∃t,o=⟨sO t,nO,.alloc z⟩∧side=(ZbI L t=false)∧ρ1=(t,.loc t 0)::ρ∧L1=(t,z)::L∧s1=s:=by
 obtain⟨dst,gd,k⟩:=o
 simp only at hk
 subst hk
 unfold Z7 at hst
 cases hg:Zy ρ gd with
 |none=>simp[hg]at hst
 |some c =>
  simp only[hg]at hst
  split at hst<;>simp only[SR.ok.injEq,reduceCtorEq]at hst
  rename_i t
  obtain⟨rfl,rfl,rfl,rfl⟩:=hst
  exact⟨t,rfl,rfl,rfl,rfl,rfl⟩
theorem Zj7{T:Tab}{fk:Option Nat}{i:Nat}{o:DOp}(h:T.mk fk i=o)(hk:∀k,o.k≠.fork k):fk≠sO i∧T.op i=o:=by
 unfold Tab.mk at h
 split at h
 ·subst h;exact absurd rfl (hk _)
 ·exact⟨‹_›,h⟩
theorem Zhz{T:Tab}{ms:List Nat}{fl:Nat→List Nat}{A rest:List Nat}{fk:Option Nat}{i:Nat}(hfk:fk≠sO i)(h:Zb2 T ms fl fk A (i::rest)=true):
  i<T.length∧(∀d∈T.deps i,d∉i::rest)∧i∉rest∧(∀a∈A,(ms.getD i 0).testBit a=true∨nd (T.op a).dst (ZT (T.op i))=true) ∧
  ((Zc9 T A i=true∧Zb2 T ms fl fk (i::A) rest=true) ∨
   (ZiP T (fl i) (A.filter fun a=>!(ms.getD i 0).testBit a) rest i=true∧Zb2 T ms fl fk (A.filter fun a=>!(ms.getD i 0).testBit a) rest=true∧Zc9 T A i=false)):=by
 simp only[Zb2,hfk,if_false,Zyk,decide_eq_true_eq,List.all_eq_true,Bool.not_eq_true',List.contains_eq_mem,decide_eq_false_iff_not]at h
 obtain⟨⟨⟨⟨h1,h2⟩,h3⟩,h4⟩,h5⟩:=h
 refine⟨h1,h2,h3,fun a ha=>?_,?_⟩
 ·cases hb:(ms.getD i 0).testBit a
  ·exact .inr (h4 a (List.mem_filter.2 ⟨ha,by simp only[hb];rfl⟩))
  ·exact .inl rfl
 ·split at h5
  ·rename_i hp;exact .inl ⟨hp,h5⟩
  ·rename_i hp;simp only[Zyk]at h5;exact .inr ⟨by simpa using h5.1,h5.2,by simpa using hp⟩
theorem Zkz{T:Tab}{ms:List Nat}{fl:Nat→List Nat}:∀{A rest:List Nat},Zb2 T ms fl nO A rest=chk T ms fl A rest
 |_,[]=>rfl
 |A,i::rest=>by simp only[Zb2,chk,reduceCtorEq,if_false,Zkz]
theorem Zed{T:Tab}{fl:List Nat}{free rest:List Nat}{i:Nat}(h:ZiP T fl free rest i=true):
  Zm6 (T.op i).k=true∧(∀r∈rest,∃d∈T.deps r,d∈i::rest) ∧
  ∀a∈free,nd (T.op i).dst (ZT (T.op a))=true∧ndd (T.op i).dst (T.op a).dst=true∧(ZbK (Zcv (T.op a)) fl=false→KR (T.op a).k=false):=by
 simp only[ZiP,Zyk,List.all_eq_true,List.any_eq_true,List.contains_eq_mem,decide_eq_true_eq,Bool.not_eq_true',Zyu]at h
 obtain⟨⟨h1,h2⟩,h3⟩:=h
 refine⟨h1,h2,fun a ha=>?_⟩
 obtain⟨⟨h4,h5⟩,h6⟩:=h3 a ha
 refine⟨h4,h5,fun hs=>?_⟩
 rw[hs]at h6;simpa using h6
theorem Zfv{T:Tab}{A:List Nat}{i:Nat}(h:Zc9 T A i=true):
  Kh (T.op i).k=true∧nd (T.op i).dst (ZT (T.op i))=true∧∀a∈A,nd (T.op i).dst (ZT (T.op a))=true∧ndd (T.op i).dst (T.op a).dst=true:=by
 simp only[Zc9,Zyk,List.all_eq_true]at h
 exact⟨by cases hk:(T.op i).k<;>rw[hk]at h<;>simp[pqK]at h<;>rfl,h.1.2,h.2⟩
theorem Inv.bar{T:Tab}{ms A rest:List Nat}{s s2:St}{B B2:List (Nat×Rd)}{l:Nat→Bool}{ρ':Env}{L':Loc}{i:Nat}(hm:Zfm T ms)(inv:Inv T ms A (i::rest) ρ L s B l ρ' L')(hdis:∀p∈A,p∉i::rest)(hi:i<T.length)(hir:i∉rest)(hd:∀d∈T.deps i,l d=true)(hf:∀a∈A.filter (fun a=>!(ms.getD i 0).testBit a),nd (T.op i).dst (ZT (T.op a))=true∧ndd (T.op i).dst (T.op a).dst=true)(e:E){L2 L2':Loc}(hL:∀x,Zo L' x=Zo L x→Zo L2' x=Zo L2 x)(h0:∀x,(∀a,ndd (T.op i).dst (T.op a).dst=true→ZbZ (T.op a) x→Zo L' x=nO→Zo L2' x=nO))(hp:∀a∈A.filter (fun a=>!(ms.getD i 0).testBit a),l a=false→Jb (T.op a) ρ L s B→Jb (T.op a) (ZX ρ (T.op i).dst e) L2 s2 B2):
  Inv T ms (A.filter fun a=>!(ms.getD i 0).testBit a) rest (ZX ρ (T.op i).dst e) L2 s2 B2 (fun j=>j==i ||l j) (ZX ρ' (T.op i).dst e) L2':=by
 have hforced:=hm l inv.closed i hi hd
 have hfree:∀a∈A,l a=false→a∈A.filter fun a=>!(ms.getD i 0).testBit a:=fun a ha hla=>by
  refine List.mem_filter.2 ⟨ha,?_⟩
  cases hb:(ms.getD i 0).testBit a
  ·rfl
  ·rw[hforced a hb]at hla;simp at hla
 have hsub:∀a∈A.filter (fun a=>!(ms.getD i 0).testBit a),a∈A:=fun a ha=>(List.mem_filter.1 ha).1
 have hl2:∀a,(a==i ||l a)=false→a≠i∧l a=false:=fun a ha=>by simpa using ha
 have hl2':∀a∈A,l a=false→(a==i ||l a)=false:=fun a ha h=>by
  have:a≠i:=fun hai=>hdis a ha (by simp[hai])
  simp[this,h]
 refine⟨fun j hj hlj d hdj=>?_,fun r hr=>?_,fun j hj h1 h2=>?_,fun a ha=>inv.alt a (hsub a ha),fun p hp' a ha=>inv.pair p (hsub p hp') a (hsub a ha),fun p hp' a ha=>inv.uniq p (hsub p hp') a (hsub a ha),fun t=>?_,fun a ha hla x hx=>?_,
  fun x=>?_,fun a ha hla=>hp a ha (hl2 a hla).2 (inv.pend a (hsub a ha) (hl2 a hla).2)⟩
 ·simp only[Zyu,beq_iff_eq]at hlj⊢
  rcases hlj with rfl|hlj
  ·exact .inr (hd d hdj)
  ·exact .inr (inv.closed j hj hlj d hdj)
 ·simp only[Bool.or_eq_false_iff,beq_eq_false_iff_ne]
  exact⟨fun h=>hir (h▸hr),inv.restN r (by simp[hr])⟩
 ·by_cases hji:j=i
  ·simp[hji]
  ·by_cases hjA:j∈A
   ·cases hlj:l j
    ·exact absurd (hfree j hjA hlj) h2
    ·simp
   ·simp[inv.doneN j hj (by simp[hji,h1]) hjA]
 ·rw[KW,KW]
  by_cases ht:(T.op i).dst=sO t
  ·simp[ht]
  ·simp only[ht,if_false]
   rcases inv.env t with h|⟨a,ha,hla,hda⟩
   ·exact .inl h
   ·exact .inr ⟨a,hfree a ha hla,hl2' a ha hla,hda⟩
 ·exact h0 x a (hf a ha).2 hx (inv.loc0 a (hsub a ha) (hl2 a hla).2 x hx)
 ·rcases inv.loc x with h|⟨a,ha,hla,hx⟩
  ·exact .inl (hL x h)
  ·exact .inr ⟨a,hfree a ha hla,hl2' a ha hla,hx⟩
theorem Jb.keep{o:DOp}{L L2:Loc}{s s2:St}{B:List (Nat×Rd)}{fl:List Nat}(h:Jb o ρ L s B)(hk:KB fl s s2 L L2 B)(hf:ZbK (Zcv o) fl=false→KR o.k=false)(hal:∀t,ZbZ o t→Zo L2 t=Zo L t):Jb o ρ L2 s2 (Kx fl B):=by
 cases hfl:ZbK (Zcv o) fl
 ·have hr:=Zrn (ρ:=ρ) (hf hfl)
  exact((h.state (s':=s2) (fun b hb=>by rw[hr]at hb;simp at hb)).more (fun b hb=>by rw[hr]at hb;simp at hb)).mono (fun _ _=>rfl) (fun _ _=>rfl) (fun x hx=>by rw[hr]at hx;simp at hx) hal
 ·have hm:=ZhQ (show JA s s2 L L2 (Kx fl B) from hk)
  have hin:∀b,(Zcv o,b)∈B→(Zcv o,b)∈Kx fl B:=fun b hb=>JY.2 ⟨hfl,hb⟩
  rcases h with ⟨hq,hg,hr,h'⟩|⟨hq,hg,h'⟩|h'
  ·exact((Jb.state (s':=s2) (.inl ⟨hq,hg,hr,h'⟩) (fun b hb=>hm.1 _ b (hin _ (hr _ hb)))).more (B':=Kx fl B) (fun b _ hb=>hin b hb)).mono (fun _ _=>rfl) (fun _ _=>rfl) (fun x hx=>hm.2 _ x (hin _ (hr _ hx))) hal
  ·exact .inr (.inl ⟨hq,hg,h'⟩)
  ·exact(Jb.more (B':=Kx fl B) (s:=s2) (.inr (.inr h'):Jb o ρ L s2 B) (fun b _ hb=>hin b hb)).mono (fun _ _=>rfl) (fun _ _=>rfl) (fun x hx=>by
    obtain⟨t,z,rfl,_⟩:=h'
    simp[Qh]at hx) hal
theorem ZxD{q:Q}{es:List E}{r:Prop×E}(hq:qv L s q es=sO r){e:E}{es':List E}(he:es=e::es')(hr:KR (.q q [])=true){x:Nat}(hx:.loc x∈JZ e):∃cs,Zo L x=sO cs:=by
 subst he
 cases e with
 |d v=>cases v<;>simp[JZ]at hx
 |when c e=>simp[JZ]at hx
 |loc l o =>
  simp only[JZ,List.mem_singleton,Rd.loc.injEq]at hx
  subst hx
  by_cases hl:Zdz (.q q [])=true
  ·exact ZwQ hq hl (x:=x) (o:=o) (by simp)
  ·cases q
   case conv c =>
    cases c<;>simp[KR]at hr
    cases es'<;>simp[qv]at hq
   all_goals simp[KR,Zdz]at hr hl
   ·cases es' with
    |nil=>simp[qv]at hq
    |cons e2 r2=>cases r2<;>simp[qv]at hq
   ·cases es'<;>simp[qv]at hq
theorem Jb.loc{o:DOp}{B:List (Nat×Rd)}(h:Jb o ρ L s B){x:Nat}(hx:.loc x∈Qh o ρ):∃cs,Zo L x=sO cs:=by
 rcases h with ⟨hk,hgt,hr,side,e,hs,hst,he⟩|⟨hk,hgf,_⟩|⟨t,z,rfl,_⟩
 rotate_left
 ·rw[Zro hgf]at hx;simp at hx
 rotate_left
 ·obtain⟨dst,gd,k⟩:=o
  cases k with
  |q q xs =>
   simp only[Qh]at hx
   split at hx<;>(try(simp at hx;done))
   rename_i hrd
   unfold Z7 at hst
   have hg:Zy ρ gd=sO true:=hgt
   ·simp only[hg]at hx hst
    cases ha:WE ρ true xs with
    |none=>simp[ha]at hx
    |some pe =>
     obtain⟨p,es⟩:=pe
     simp only[ha]at hx hst
     cases es with
     |nil=>simp at hx
     |cons e1 es' =>
      simp only at hx
      split at hst<;>(try(simp at hst;done))
      rename_i sd e2 hq
      exact ZxD hq rfl (by
       cases q
       case conv c=>cases c<;>simp_all[KR]
       all_goals simp_all[KR]) hx
  |_=>simp[Qh]at hx
 ·simp[Qh]at hx
theorem ZbA{F:Fr P}{dk:List Zu}{o:DOp}{f:List Nat}{os:List (DOp×List Nat)}{B:List (Nat×Rd)}(R:E→St→Prop)(hk:Kh o.k=false)(h1:∀ρ' L' os',Z3 ρ ρ' (ZT o)→(∀e s2,R e s2→DO F kp dk os' (ZX ρ' o.dst e) L' s2)→DO F kp dk (o::os') ρ' L' s)(h2:∀e s2,R e s2→KB f s s2 L L B∧DOA F kp dk os (ZX ρ o.dst e) L s2 (Kx f B)):
  DOA F kp dk ((o,f)::os) ρ L s B:=by
 intro T ms fl fk A rest is l ρ' L' hm hc hdis hos inv sch
 cases rest with
 |nil=>simp at hos
 |cons i rest =>
  simp only[Zyp,List.cons.injEq,Zyh]at hos
  obtain⟨⟨ho,rfl⟩,rfl⟩:=hos
  obtain⟨hfk,rfl⟩:=Zj7 ho.symm (fun k h=>by rw[h]at hk;simp[Kh]at hk)
  obtain⟨hi,hdeps,hir,hnm,hcs⟩:=Zhz hfk hc
  rcases hcs with ⟨hp,_⟩|⟨hb,hc',_⟩
  ·have:=(Zfv hp).1;rw[hk]at this;simp at this
  ·obtain⟨hbk,hready,hfree⟩:=Zed hb
   refine Zs7 hm hi hdis hready (fun l ρ' L' is inv hd sch=>?_) sch inv
   have hforced:=hm l inv.closed i hi hd
   have hag:Z3 ρ ρ' (ZT (T.op i)):=by
    intro t ht
    rcases inv.env t with h|⟨a,ha,hla,hda⟩
    ·exact h
    ·exfalso
     rcases hnm a ha with hb|hb
     ·rw[hforced a hb]at hla;simp at hla
     ·exact Zg6 hb hda ht
   refine h1 ρ' L' _ hag fun e s2 hR=>?_
   obtain⟨hkB,h2'⟩:=h2 e s2 hR
   refine h2' T ms fl fk _ rest is _ _ _ hm hc' (fun p hp hpr=>hdis p (List.mem_filter.1 hp).1 (by simp[hpr])) rfl (inv.bar hm hdis hi hir hd (fun a ha=>⟨(hfree a ha).1,(hfree a ha).2.1⟩) e (fun _ h=>h) (fun _ _ _ _ h=>h) fun a ha hla hpe=>?_) sch
   refine(hpe.keep hkB (hfree a ha).2.2 (fun _ _=>rfl)).mono (JI (hfree a ha).1) (fun t ht=>?_) (fun _ _=>rfl) (fun _ _=>rfl)
   rw[KW]
   have:=Zb9 (Zca (hfree a ha).2.1) ht
   simp[this]
theorem ZpA{T:Tab}{fl:List Nat}{free:List Nat}{i:Nat}(h:ZgV T fl free i=true):
  Zm6 (T.op i).k=true∧Kh (T.op i).k=false∧(∀a∈free,nd (T.op a).dst (ZT (T.op i))=true) ∧
  ∀a∈free,nd (T.op i).dst (ZT (T.op a))=true∧ndd (T.op i).dst (T.op a).dst=true∧(ZbK (Zcv (T.op a)) fl=false→KR (T.op a).k=false):=by
 simp only[ZgV,Zyk,List.all_eq_true,Bool.not_eq_true',Zyu]at h
 obtain⟨⟨⟨h1,h2⟩,h3⟩,h4⟩:=h
 refine⟨h1,h2,h3,fun a ha=>?_⟩
 obtain⟨⟨h4,h5⟩,h6⟩:=h4 a ha
 refine⟨h4,h5,fun hs=>?_⟩
 rw[hs]at h6;simpa using h6
theorem ZxI{F:Fr P}{dk:List Zu}{T:Tab}{ms:List Nat}{A rest:List Nat}{B:List (Nat×Rd)}{i j:Nat}(hm:Zfm T ms)(hi:i<T.length)(hdis:∀p∈A,p∉i::j::rest)(hready:∀r∈rest,∃d∈T.deps r,d∈i::j::rest)(cb:∀k,k=i∨k=j→∀l ρ' L' is,Inv T ms A (i::j::rest) ρ L s B l ρ' L'→(∀d∈T.deps k,l d=true)→Sch T (fun q=>q==k ||l q) is→DO F kp dk (T.op k::is.map T.op) ρ' L' s){l:Nat→Bool}{is:List Nat}(sch:Sch T l is):∀{ρ':Env} {L':Loc},Inv T ms A (i::j::rest) ρ L s B l ρ' L'→DO F kp dk (is.map T.op) ρ' L' s:=by
 induction sch with
 |nil h=>intro ρ' L' inv;have:=inv.restN i (by simp);rw[h i hi]at this;simp at this
 | @cons l p is hp hlp hd t ih =>
  intro ρ' L' inv
  by_cases hpi:p=i
  ·exact cb p (.inl hpi) l ρ' L' is inv hd t
  ·by_cases hpj:p=j
   ·exact cb p (.inr hpj) l ρ' L' is inv hd t
   ·by_cases hpr:p∈rest
    ·obtain⟨d,hd1,hd2⟩:=hready p hpr
     have:=inv.restN d hd2
     rw[hd d hd1]at this;simp at this
    ·by_cases hpA:p∈A
     ·exact ZiU hm inv hpA (hdis p hpA) hlp hd fun ρ2 L2 inv2=>ih inv2
     ·have:=inv.doneN p hp (by simp[hpi,hpj,hpr]) hpA
      rw[hlp]at this;simp at this
theorem Inv.swap{T:Tab}{ms A rest:List Nat}{B:List (Nat×Rd)}{l:Nat→Bool}{ρ':Env}{L':Loc}{i j:Nat}(h:Inv T ms A (i::j::rest) ρ L s B l ρ' L'):Inv T ms A (j::i::rest) ρ L s B l ρ' L' :=
 { h with
  restN:=fun r hr=>h.restN r (by simp at hr⊢;rcases hr with h|h|h<;>simp[h])
  doneN:=fun k hk h1 h2=>h.doneN k hk (by simp at h1⊢;exact⟨h1.2.1,h1.1,h1.2.2⟩) h2 }
theorem Zp3{F:Fr P}{dk:List Zu}{T:Tab}{ms:List Nat}{fl:Nat→List Nat}{A rest:List Nat}{B:List (Nat×Rd)}{i j:Nat}(hm:Zfm T ms)(hi:i<T.length)(hdis:∀p∈A,p∉i::j::rest)(hij:i≠j)(hir:i∉rest)(hb:ZgV T (fl i) (A.filter fun a=>!(ms.getD i 0).testBit a) i=true)(hc':chk T ms fl (A.filter fun a=>!(ms.getD i 0).testBit a) (j::rest)=true)(R:E→St→Prop)(h1:∀ρ' L' os',Z3 ρ ρ' (ZT (T.op i))→(∀e s2,R e s2→DO F kp dk os' (ZX ρ' (T.op i).dst e) L' s2)→DO F kp dk (T.op i::os') ρ' L' s)(h2:∀e s2,R e s2→KB (fl i) s s2 L L B∧DOA F kp dk ((j::rest).map fun i=>(T.op i,fl i)) (ZX ρ (T.op i).dst e) L s2 (Kx (fl i) B)){l:Nat→Bool}{ρ':Env}{L':Loc}{is:List Nat}(inv:Inv T ms A (i::j::rest) ρ L s B l ρ' L')(hd:∀d∈T.deps i,l d=true)(sch:Sch T (fun q=>q==i ||l q) is):DO F kp dk (T.op i::is.map T.op) ρ' L' s:=by
 obtain⟨hbk,hpk,hnm,hfree⟩:=ZpA hb
 have hforced:=hm l inv.closed i hi hd
 have hag:Z3 ρ ρ' (ZT (T.op i)):=by
  intro t ht
  rcases inv.env t with h|⟨a,ha,hla,hda⟩
  ·exact h
  ·exfalso
   cases hb:(ms.getD i 0).testBit a
   ·exact Zg6 (hnm a (List.mem_filter.2 ⟨ha,by simp only[hb];rfl⟩)) hda ht
   ·rw[hforced a hb]at hla;simp at hla
 refine h1 ρ' L' _ hag fun e s2 hR=>?_
 obtain⟨hkB,h2'⟩:=h2 e s2 hR
 refine h2' T ms fl nO _ (j::rest) is _ _ _ hm (by rw[Zkz];exact hc') (fun p hp hpr=>hdis p (List.mem_filter.1 hp).1 (List.mem_cons_of_mem _ hpr)) rfl
  (inv.bar hm hdis hi (by simp[hij,hir]) hd (fun a ha=>⟨(hfree a ha).1,(hfree a ha).2.1⟩) e (fun _ h=>h) (fun _ _ _ _ h=>h) fun a ha hla hpe=>?_) sch
 refine(hpe.keep hkB (hfree a ha).2.2 (fun _ _=>rfl)).mono (JI (hfree a ha).1) (fun t ht=>?_) (fun _ _=>rfl) (fun _ _=>rfl)
 rw[KW]
 have:=Zb9 (Zca (hfree a ha).2.1) ht
 simp[this]
theorem Zpa{F:Fr P}{dk:List Zu}{o1 o2:DOp}{f1 f2:List Nat}{os:List (DOp×List Nat)}{B:List (Nat×Rd)}(R1 R2:E→St→Prop)(hk2:Kh o2.k=false)(h1:∀ρ' L' os',Z3 ρ ρ' (ZT o1)→(∀e s2,R1 e s2→DO F kp dk os' (ZX ρ' o1.dst e) L' s2)→DO F kp dk (o1::os') ρ' L' s)(h1':∀e s2,R1 e s2→KB f1 s s2 L L B∧DOA F kp dk ((o2,f2)::os) (ZX ρ o1.dst e) L s2 (Kx f1 B))(h2:∀ρ' L' os',Z3 ρ ρ' (ZT o2)→(∀e s2,R2 e s2→DO F kp dk os' (ZX ρ' o2.dst e) L' s2)→DO F kp dk (o2::os') ρ' L' s)(h2':∀e s2,R2 e s2→KB f2 s s2 L L B∧DOA F kp dk ((o1,f1)::os) (ZX ρ o2.dst e) L s2 (Kx f2 B)):
  DOA F kp dk ((Zj3 o1,f1)::(o2,f2)::os) ρ L s B:=by
 intro T ms fl fk A rest is l ρ' L' hm hc hdis hos inv sch
 match rest,hos,hc,hdis,inv with
 | [],hos,_,_,_=>simp at hos
 | [_],hos,_,_,_=>simp at hos
 |i::j::rest,hos,hc,hdis,inv =>
  simp only[Zyp,List.cons.injEq,Zyh]at hos
  obtain⟨⟨ho1,rfl⟩,⟨ho2,rfl⟩,rfl⟩:=hos
  obtain⟨hfj,rfl⟩:=Zj7 ho2.symm (fun k h=>by rw[h]at hk2;simp[Kh]at hk2)
  by_cases hfi:fk=sO i
  ·have hoi:T.op i=o1:=by
    simp only[Tab.mk,hfi,if_true,Zj3]at ho1
    obtain⟨d1,g1,k1⟩:=o1
    cases hti:T.op i
    rw[hti]at ho1
    simp only[DOp.mk.injEq,K.fork.injEq]at ho1
    obtain⟨rfl,rfl,rfl⟩:=ho1
    rfl
   subst hoi
   simp only[Zb2,hfi,if_true,ZrI,Zyk,decide_eq_true_eq,List.all_eq_true,Bool.not_eq_true',List.contains_eq_mem,decide_eq_false_iff_not,bne_iff_ne,ne_eq,List.any_eq_true]at hc
   obtain⟨⟨⟨⟨⟨⟨⟨⟨⟨⟨⟨c1,c2⟩,c3⟩,c4⟩,c5⟩,c6⟩,c7⟩,c8⟩,c9⟩,c10⟩,c11⟩,c12⟩:=hc
   have hmk:∀r∈rest,T.mk fk r=T.op r:=fun r hr=>by
    unfold Tab.mk
    rw[if_neg]
    rw[hfi];intro h;simp only[Zyd]at h;exact c6 (h▸hr)
   have hmap:(rest.map fun r=>(T.mk fk r,fl r))=rest.map fun r=>(T.op r,fl r):=List.map_congr_left fun r hr=>by rw[hmk r hr]
   rw[hmap]at h1' h2'
   refine ZxI hm c1 hdis c8 (fun k hk l ρ' L' is inv hd sch=>?_) sch inv
   rcases hk with rfl|rfl
   ·exact Zp3 (fl:=fl) (R:=R1) hm c1 hdis (by simpa using c5) c6 c9 c11 h1 (fun e s2 hR=>by
     have:=h1' e s2 hR
     simpa only[Zyp]using this) inv hd sch
   ·exact Zp3 (fl:=fl) (R:=R2) (j:=i) hm c2 (fun p hp hpr=>hdis p hp (by simp at hpr⊢;rcases hpr with h|h|h<;>simp[h])) (fun h=>c5 (by simpa using h.symm)) c7 c10 c12 h2 (fun e s2 hR=>by
     have:=h2' e s2 hR
     simpa only[Zyp]using this) inv.swap hd sch
  ·exfalso
   have hti:T.op i=Zj3 o1:=by simpa only[Tab.mk,hfi,if_false]using ho1.symm
   obtain⟨_,_,_,_,hcs⟩:=Zhz hfi hc
   rcases hcs with ⟨hp,_⟩|⟨hb,_⟩
   ·simp only[Zc9,hti,Zj3,pqK,ZyH,Zyt]at hp
   ·have:=(Zed hb).1
    rw[hti]at this
    simp[Zj3,Zm6]at this
end
theorem ZjG{s s1:St}{p q ok side:Prop}{a:E}{n:Nat}{xs:List D}{ρ1:Env}{L1:Loc}(h:J2 ρ L s p q ok a n xs=.ok side ρ1 L1 s1):
  ρ1=ρ∧((∃l off cs,a=.loc l off∧L1=(l,ZF cs off xs)::L∧s1=s∧Zo L l=sO cs∧∀ρ' L',Zo L' l=Zo L l→J2 ρ' L' s p q ok a n xs=.ok side ρ' ((l,ZF cs off xs)::L') s) ∨
   (L1=L∧∀ρ' L',J2 ρ' L' s p q ok a n xs=.ok side ρ' L' s1)):=by
 obtain⟨rfl,⟨l,off,cs,rfl,hL,rfl,rfl,rfl⟩|⟨b,off,cs,rfl,hL,rfl,rfl,rfl⟩⟩:=Zgm h
 ·exact⟨rfl,.inl ⟨l,off,cs,rfl,rfl,rfl,hL,fun ρ' L' hl=>by simp only[J2,hl,hL]⟩⟩
 ·exact⟨rfl,.inr ⟨rfl,fun ρ' L'=>by simp only[J2,hL]⟩⟩
theorem ZrA{o:DOp}{s s1:St}{ρ1:Env}{L1:Loc}(hst:Z7 o ρ L s=.ok side ρ1 L1 s1)(hk:ZeH o.k=true):
  ρ1=ρ∧o.dst=nO∧((∃lx cs new,L1=(lx,new)::L∧s1=s∧Zo L lx=sO cs ∧
   ∀ρ' L',Z3 ρ ρ' (ZT o)→Zo L' lx=Zo L lx→Z7 o ρ' L' s=.ok side ρ' ((lx,new)::L') s) ∨
   (L1=L∧∀ρ' L',Z3 ρ ρ' (ZT o)→Z7 o ρ' L' s=.ok side ρ' L' s1)):=by
 obtain⟨dst,gd,k⟩:=o
 cases hg:Zy ρ gd with
 |none=>unfold Z7 at hst;simp[hg]at hst
 |some c =>
 cases k with
 |store1 a v =>
  unfold Z7 at hst
  simp only[hg]at hst
  split at hst<;>(try(simp at hst;done))
  rename_i p ea q x ha hv
  obtain⟨rfl,⟨l,off,cs,rfl,rfl,rfl,hL,hcong⟩|⟨rfl,hcong⟩⟩:=ZjG hst
  ·refine⟨rfl,rfl,.inl ⟨l,cs,_,rfl,rfl,hL,fun ρ' L' hag hl=>?_⟩⟩
   have h1:Z3 ρ1 ρ' (YQ a):=fun t ht=>hag t (by simp[ZT,WP,ht])
   have h2:Z3 ρ1 ρ' (YQ v):=fun t ht=>hag t (by simp[ZT,WP,ht])
   unfold Z7
   simp only[Zy,YD h1,YD h2,ha,hv]
   exact hcong ρ' L' hl
  ·refine⟨rfl,rfl,.inr ⟨rfl,fun ρ' L' hag=>?_⟩⟩
   have h1:Z3 ρ1 ρ' (YQ a):=fun t ht=>hag t (by simp[ZT,WP,ht])
   have h2:Z3 ρ1 ρ' (YQ v):=fun t ht=>hag t (by simp[ZT,WP,ht])
   unfold Z7
   simp only[Zy,YD h1,YD h2,ha,hv]
   exact hcong ρ' L'
 |storeN n a v =>
  unfold Z7 at hst
  simp only[hg]at hst
  split at hst<;>(try(simp at hst;done))
  rename_i p ea q xs ha hv
  obtain⟨rfl,⟨l,off,cs,rfl,rfl,rfl,hL,hcong⟩|⟨rfl,hcong⟩⟩:=ZjG hst
  ·refine⟨rfl,rfl,.inl ⟨l,cs,_,rfl,rfl,hL,fun ρ' L' hag hl=>?_⟩⟩
   have h1:Z3 ρ1 ρ' (YQ a):=fun t ht=>hag t (by simp[ZT,WP,ht])
   have h2:Z3 ρ1 ρ' (YQ v):=fun t ht=>hag t (by simp[ZT,WP,ht])
   unfold Z7
   simp only[Zy,YD h1,YD h2,ha,hv]
   exact hcong ρ' L' hl
  ·refine⟨rfl,rfl,.inr ⟨rfl,fun ρ' L' hag=>?_⟩⟩
   have h1:Z3 ρ1 ρ' (YQ a):=fun t ht=>hag t (by simp[ZT,WP,ht])
   have h2:Z3 ρ1 ρ' (YQ v):=fun t ht=>hag t (by simp[ZT,WP,ht])
   unfold Z7
   simp only[Zy,YD h1,YD h2,ha,hv]
   exact hcong ρ' L'
 |_=>simp[ZeH]at hk
def Zqj:K→Bool
 |.mapupd _ _ _ _|.delete _ _ _|.entst _ _ _=>true
 |_=>false
theorem ZuL{o:DOp}{s s1:St}{ρ1:Env}{L1:Loc}(hst:Z7 o ρ L s=.ok side ρ1 L1 s1)(hk:Zqj o.k=true):
  ρ1=ρ∧o.dst=nO∧L1=L∧∀ρ' L',Z3 ρ ρ' (ZT o)→Z7 o ρ' L' s=.ok side ρ' L' s1:=by
 obtain⟨dst,gd,k⟩:=o
 cases hg:Zy ρ gd with
 |none=>unfold Z7 at hst;simp[hg]at hst
 |some c =>
 cases k with
 |mapupd kp m k v =>
  unfold Z7 at hst
  simp only[hg]at hst
  split at hst<;>(try(simp at hst;done))
  rename_i p b q dk r dv hm hkk hv
  split at hst<;>(try(simp at hst;done))
  rename_i es hes
  split at hst<;>simp only[SR.ok.injEq,reduceCtorEq]at hst
  rename_i es' hes'
  obtain⟨rfl,rfl,rfl,rfl⟩:=hst
  refine⟨rfl,rfl,rfl,fun ρ' L' hag=>?_⟩
  have h1:Z3 ρ ρ' (YQ m):=fun t ht=>hag t (by simp[ZT,WP,ht])
  have h2:Z3 ρ ρ' (YQ k):=fun t ht=>hag t (by simp[ZT,WP,ht])
  have h3:Z3 ρ ρ' (YQ v):=fun t ht=>hag t (by simp[ZT,WP,ht])
  unfold Z7
  simp only[Zy,YD h1,YD h2,YD h3,hm,hkk,hv,hes,hes']
 |delete kp m k =>
  unfold Z7 at hst
  simp only[hg]at hst
  split at hst<;>(try(simp at hst;done))
  rename_i p b q dk hm hkk
  split at hst<;>(try(simp at hst;done))
  rename_i es hes
  split at hst<;>simp only[SR.ok.injEq,reduceCtorEq]at hst
  rename_i es' hes'
  obtain⟨rfl,rfl,rfl,rfl⟩:=hst
  refine⟨rfl,rfl,rfl,fun ρ' L' hag=>?_⟩
  have h1:Z3 ρ ρ' (YQ m):=fun t ht=>hag t (by simp[ZT,WP,ht])
  have h2:Z3 ρ ρ' (YQ k):=fun t ht=>hag t (by simp[ZT,WP,ht])
  unfold Z7
  simp only[Zy,YD h1,YD h2,hm,hkk,hes,hes']
 |entst m k v =>
  unfold Z7 at hst
  simp only[hg]at hst
  split at hst<;>(try(simp at hst;done))
  rename_i p b q n r dv hm hkk hv
  split at hst<;>(try(simp at hst;done))
  rename_i kp es dk n' hes
  split at hst<;>simp only[SR.ok.injEq,reduceCtorEq]at hst
  rename_i es' hes'
  obtain⟨rfl,rfl,rfl,rfl⟩:=hst
  refine⟨rfl,rfl,rfl,fun ρ' L' hag=>?_⟩
  have h1:Z3 ρ ρ' (YQ m):=fun t ht=>hag t (by simp[ZT,WP,ht])
  have h2:Z3 ρ ρ' (YQ k):=fun t ht=>hag t (by simp[ZT,WP,ht])
  have h3:Z3 ρ ρ' (YQ v):=fun t ht=>hag t (by simp[ZT,WP,ht])
  unfold Z7
  simp only[Zy,YD h1,YD h2,YD h3,hm,hkk,hv,hes,hes']
 |_=>simp[Zqj]at hk
theorem ZuJ{o:DOp}{pre:Nat→Prop}{ρf:Nat→Env}{sf:Nat→St}(hst:Z7 o ρ L s=.all side pre ρf sf):
  Kh o.k=false∧∃(t:Nat) (ef:Nat→E),o.dst=sO t∧(ρf=fun b=>(t,ef b)::ρ)∧∀ρ' L',Z3 ρ ρ' (ZT o)→Z7 o ρ' L' s=.all side pre (fun b=>(t,ef b)::ρ') sf:=by
 obtain⟨dst,gd,k⟩:=o
 cases hg:Zy ρ gd with
 |none=>unfold Z7 at hst;simp[hg]at hst
 |some c =>
 cases k with
 |mkmap =>
  unfold Z7 at hst
  simp only[hg]at hst
  split at hst<;>simp only[SR.all.injEq,reduceCtorEq]at hst
  obtain⟨rfl,rfl,rfl,rfl⟩:=hst
  refine⟨rfl,_,fun b=>.d (.map b),rfl,rfl,fun ρ' L' hag=>?_⟩
  unfold Z7
  simp only[Zy]
 |mkslice e n by_ z l c =>
  unfold Z7 at hst
  simp only[hg]at hst
  split at hst<;>simp only[SR.all.injEq,reduceCtorEq]at hst
  rename_i t p k1 lv q k2 hv hl hc
  obtain⟨rfl,rfl,rfl,rfl⟩:=hst
  refine⟨rfl,t,fun b=>.d (.msl b 0 lv.toNat hv.toNat n),rfl,rfl,fun ρ' L' hag=>?_⟩
  have h1:Z3 ρ ρ' (YQ l):=fun t ht=>hag t (by simp[ZT,WP,ht])
  have h2:Z3 ρ ρ' (YQ c):=fun t ht=>hag t (by simp[ZT,WP,ht])
  unfold Z7
  simp only[Zy,YD h1,YD h2,hl,hc]
 |mapent kp z m k =>
  unfold Z7 at hst
  simp only[hg]at hst
  split at hst<;>(try(simp at hst;done))
  rename_i t p b q dk hm hkk
  split at hst<;>(try(simp at hst;done))
  rename_i es hes
  split at hst<;>simp only[SR.all.injEq,reduceCtorEq]at hst
  rename_i v hv
  obtain⟨rfl,rfl,rfl,rfl⟩:=hst
  refine⟨rfl,t,fun n=>.d (.tup [v,.stamp n]),rfl,rfl,fun ρ' L' hag=>?_⟩
  have h1:Z3 ρ ρ' (YQ m):=fun t ht=>hag t (by simp[ZT,WP,ht])
  have h2:Z3 ρ ρ' (YQ k):=fun t ht=>hag t (by simp[ZT,WP,ht])
  unfold Z7
  simp only[Zy,YD h1,YD h2,hm,hkk,hes,hv]
 |store1 a v =>
  unfold Z7 at hst
  simp only[hg]at hst
  split at hst<;>(try(simp at hst;done))
  exact absurd hst Zfb
 |storeN n a v =>
  unfold Z7 at hst
  simp only[hg]at hst
  split at hst<;>(try(simp at hst;done))
  exact absurd hst Zfb
 |_ =>
  unfold Z7 at hst
  simp only[hg]at hst
  first
   | (simp at hst;done)
   |repeat' (split at hst<;>(try(simp at hst;done)))
theorem Ztp{o:DOp}{s s1:St}{ρ1:Env}{L1:Loc}(hst:Z7 o ρ L s=.ok side ρ1 L1 s1):KD o.k=true∨(∃z,o.k=.alloc z)∨ZeH o.k=true∨(∃x,o.k=.box x)∨Zqj o.k=true:=by
 obtain⟨dst,gd,k⟩:=o
 unfold Z7 at hst
 cases hg:Zy ρ gd with
 |none=>simp[hg]at hst
 |some c =>
  simp only[hg]at hst
  cases k with
  |q q xs=>exact .inl rfl
  |pick x a b=>exact .inl rfl
  |bsl len n z is xs=>exact .inl rfl
  |s2b x=>exact .inl rfl
  |alloc z=>exact .inr (.inl ⟨z,rfl⟩)
  |store1 a v=>exact .inr (.inr (.inl rfl))
  |storeN n a v=>exact .inr (.inr (.inl rfl))
  |box x=>exact .inr (.inr (.inr (.inl ⟨x,rfl⟩)))
  |mapupd kp m k v=>exact .inr (.inr (.inr (.inr rfl)))
  |delete kp m k=>exact .inr (.inr (.inr (.inr rfl)))
  |entst m k v=>exact .inr (.inr (.inr (.inr rfl)))
  |mkmap=>simp only at hst;split at hst<;>simp at hst
  |mkslice e n by_ z l c=>simp only at hst;split at hst<;>simp at hst
  |mapent kp z m k =>
   simp only at hst
   split at hst<;>(try(simp at hst;done))
   split at hst<;>(try(simp at hst;done))
   split at hst<;>simp at hst
  |call f xs=>simp at hst
  |append e n by_ z x y=>simp at hst
  |panic x=>simp at hst
  |defer f xs=>simp at hst
  |recover=>simp at hst
  |clear n z x=>simp at hst
  |copy n x y=>simp at hst
  |fork k=>simp at hst
section
variable {P:Program}
theorem ZuO{o:DOp}{L L':Loc}{ρ1:Env}{lx:Nat}{new:List D}(hst:Z7 o ρ L s=.ok side ρ1 ((lx,new)::L) s)(hk:ZeH o.k=true)(hs:side)(m:ZO g ν w tmps ρ L' s):∃cs,Zo L' lx=sO cs:=by
 have key:∀{p q ok:Prop} {a:Opd} {ea:E} {n:Nat} {xs:List D},Z9 ρ true a=sO (p,ea)→J2 ρ L s p q ok ea n xs=.ok side ρ1 ((lx,new)::L) s→∃cs,Zo L' lx=sO cs:=by
  intro p q ok a ea n xs ha h
  obtain⟨rfl,⟨l,off,cs,rfl,hL,rfl,h1,h2⟩|⟨b,off,cs,rfl,hL,rfl,h1,h2⟩⟩:=Zgm h
  ·simp only[List.cons.injEq,Zyh,and_true]at h1
   obtain⟨rfl,rfl⟩:=h1
   exact Zk4 m (xs:=[a]) (p:=p∧True) (es:=[.loc lx off]) (by simp[WE,ha]) ⟨hs.1,trivial⟩ lx off (by simp)
  ·exact absurd (congrArg List.length h1) (by simp)
 obtain⟨dst,gd,k⟩:=o
 cases hg:Zy ρ gd with
 |none=>unfold Z7 at hst;simp[hg]at hst
 |some c =>
 cases k with
 |store1 a v =>
  unfold Z7 at hst
  simp only[hg]at hst
  split at hst<;>(try(simp at hst;done))
  rename_i p ea q x ha hv
  exact key ha hst
 |storeN n a v =>
  unfold Z7 at hst
  simp only[hg]at hst
  split at hst<;>(try(simp at hst;done))
  rename_i p ea q xs ha hv
  exact key ha hst
 |_=>simp[ZeH]at hk
theorem ZuK{o:DOp}{ρ ρ1:Env}{L L1:Loc}{s s1:St}{x:Opd}(hst:Z7 o ρ L s=.ok side ρ1 L1 s1)(hk:o.k=.box x):
  ∃t p v,o.dst=sO t∧o.guard=nO∧side=(p∧ZbI L t=false∧Q3 v=true)∧ρ1=(t,.loc t 0)::ρ∧L1=(t,cellsOf v)::L∧s1=s ∧
   ∀ρ' L',Z3 ρ ρ' (ZT o)→Z7 o ρ' L' s=.ok (p∧ZbI L' t=false∧Q3 v=true) ((t,.loc t 0)::ρ') ((t,cellsOf v)::L') s:=by
 obtain⟨dst,gd,k⟩:=o
 simp only at hk
 subst hk
 unfold Z7 at hst
 cases hg:Zy ρ gd with
 |none=>simp[hg]at hst
 |some c =>
  simp only[hg]at hst
  split at hst<;>simp only[SR.ok.injEq,reduceCtorEq]at hst
  rename_i t p v hx
  obtain⟨rfl,rfl,rfl,rfl⟩:=hst
  refine⟨t,p,v,rfl,rfl,rfl,rfl,rfl,rfl,fun ρ' L' hag=>?_⟩
  have h1:Z3 ρ ρ' (YQ x):=fun u hu=>hag u (by simp[ZT,WP,hu])
  unfold Z7
  simp only[Zy,YD h1,hx]
theorem ZjF{o:DOp}{ρ ρ1:Env}{L L1:Loc}{s s1:St}(hst:Z7 o ρ L s=.ok side ρ1 L1 s1):∀k,o.k≠.fork k:=fun k hk=>by
 obtain⟨dst,gd,k'⟩:=o
 simp only at hk
 subst hk
 unfold Z7 at hst
 cases hg:Zy ρ gd<;>simp[hg]at hst
theorem Zbk{F:Fr P}{dk:List Zu}{o:DOp}{f:List Nat}{os:List (DOp×List Nat)}{ρ ρ1:Env}{L L1:Loc}{s s1:St}{B:List (Nat×Rd)}(hst:Z7 o ρ L s=.ok side ρ1 L1 s1)(hs:side)(h:if Kh o.k then DOA F kp dk os ρ1 L1 s1 (Jr o ρ++B) else KB f s s1 L L1 B∧DOA F kp dk os ρ1 L1 s1 (Jr o ρ++Kx f B)):DOA F kp dk ((o,f)::os) ρ L s B:=by
 intro T ms fl fk A rest is l ρ' L' hm hc hdis hos inv sch
 cases rest with
 |nil=>simp at hos
 |cons i rest =>
  simp only[Zyp,List.cons.injEq,Zyh]at hos
  obtain⟨⟨ho,rfl⟩,rfl⟩:=hos
  obtain⟨hfk,rfl⟩:=Zj7 ho.symm (ZjF hst)
  obtain⟨hi,hdeps,hir,hnm,hcs⟩:=Zhz hfk hc
  have hli:=inv.restN i (by simp)
  rcases hcs with ⟨hp,hc'⟩|⟨hb,hc',hnp⟩
  ·obtain⟨hp1,hp2,hp3⟩:=Zfv hp
   rw[hp1]at h
   simp only[if_true]at h
   have hiA:i∉A:=fun hA=>hdis i hA (by simp)
   have key:∀(hget:∀t,(T.op i).dst=sO t∨Yv ρ1 t=Yv ρ t) (hagr:∀a∈A,Z3 ρ ρ1 (ZT (T.op a))) (hL:∀x,Zo L1 x=Zo L x∨(ZbZ (T.op i) x∧Zo L x=nO)) (hL0:∀x,ZbZ (T.op i) x→Zo L x=nO)
     (hpend:Jb (T.op i) ρ1 L1 s (Jr (T.op i) ρ++B)) (hs1:s1=s),DO F kp dk (is.map T.op) ρ' L' s:=by
    intro hget hagr hL hL0 hpend hs1
    subst hs1
    refine h T ms fl fk (i::A) rest is l ρ' L' hm hc' (fun p hp hpr=>?_) rfl ⟨inv.closed,fun r hr=>inv.restN r (by simp[hr]),fun j hj h1 h2=>?_,fun a ha=>?_,fun p hp a ha=>?_,fun p hp a ha hpa=>?_,fun t=>?_,fun a ha hla x hx=>?_,fun x=>?_,fun a ha hla=>?_⟩ sch
    ·rcases List.mem_cons.1 hp with rfl|hp
     ·exact hir hpr
     ·exact hdis p hp (by simp[hpr])
    ·simp only[ZyP,not_or]at h2
     exact inv.doneN j hj (by simp[h2.1,h1]) h2.2
    ·rcases List.mem_cons.1 ha with rfl|ha
     ·exact hi
     ·exact inv.alt a ha
    ·rcases List.mem_cons.1 hp with rfl|hpA<;>rcases List.mem_cons.1 ha with rfl|haA
     ·exact .inr hp2
     ·exact hnm a haA
     ·exact .inr (hp3 p hpA).1
     ·exact inv.pair p hpA a haA
    ·rcases List.mem_cons.1 hp with rfl|hpA<;>rcases List.mem_cons.1 ha with rfl|haA
     ·exact absurd rfl hpa
     ·exact(hp3 a haA).2
     ·exact Zca (hp3 p hpA).2
     ·exact inv.uniq p hpA a haA hpa
    ·rcases hget t with hd|hg
     ·exact .inr ⟨i,by simp,hli,hd⟩
     ·rw[hg]
      rcases inv.env t with h|⟨a,ha,hla,hda⟩
      ·exact .inl h
      ·exact .inr ⟨a,by simp[ha],hla,hda⟩
    ·rcases List.mem_cons.1 ha with rfl|ha
     ·have:=hL0 x hx
      rcases inv.loc x with h|⟨b,hb,hlb,hxb⟩
      ·rw[h];exact this
      ·exact inv.loc0 b hb hlb x hxb
     ·exact inv.loc0 a ha hla x hx
    ·rcases hL x with hx|⟨hx,_⟩
     ·rw[hx]
      rcases inv.loc x with h|⟨b,hb,hlb,hxb⟩
      ·exact .inl h
      ·exact .inr ⟨b,by simp[hb],hlb,hxb⟩
     ·exact .inr ⟨i,by simp,hli,hx⟩
    ·rcases List.mem_cons.1 ha with rfl|ha
     ·exact hpend
     ·refine((inv.pend a ha hla).more (B':=Jr (T.op i) ρ++B) (fun b _ hb=>List.mem_append_right _ hb)).mono (hagr a ha) (fun t ht=>?_) (fun x hx=>?_) (fun t hal=>?_)
      ·rcases hget t with hd|hg
       ·exact absurd ht (Zb9 (hp3 a ha).2 hd)
       ·exact hg
      ·obtain⟨cs,hcs⟩:=(inv.pend a ha hla).loc hx
       rcases hL x with h|⟨_,h⟩
       ·exact h
       ·rw[h]at hcs;simp at hcs
      ·rcases hL t with h|⟨h,_⟩
       ·exact h
       ·exact absurd hal.1 (Zb9 (hp3 a ha).2 h.1)
   by_cases hq:KD (T.op i).k=true
   ·obtain⟨e,rfl,rfl,rfl⟩:=ZkR hst hq
    have hgc:=KM (g:=(T.op i).guard) (ρ:=ρ) (ρ':=ZX ρ (T.op i).dst e) (fun t ht=>JI hp2 t (by simp[ZT,ht]))
    refine key (fun t=>?_) (fun a ha=>JI (hp3 a ha).1) (fun x=>.inl rfl) (fun x hx=>by have:=Zdm hx;rw[hq]at this;simp at this) ?_ rfl
    ·rw[KW]
     by_cases ht:(T.op i).dst=sO t
     ·exact .inl ht
     ·exact .inr (by simp[ht])
    ·cases hgv:Zy ρ (T.op i).guard with
     |none=>unfold Z7 at hst;simp[hgv]at hst
     |some c =>
     cases c
     ·obtain⟨e',h1,-,-⟩:=ZkQ hst hgv hq
      refine .inr (.inl ⟨hq,by rw[hgc,hgv],e',fun t ht=>?_⟩)
      rw[h1,KW,if_pos ht]
     ·obtain⟨e',h1,-,-,h2⟩:=Zic (ρ':=ZX ρ (T.op i).dst e) (L':=L1) hst hq (JI hp2) (.inl rfl)
      refine .inl ⟨hq,by rw[hgc,hgv],by rw[Zjh (JI hp2)];exact fun b hb=>List.mem_append_left _ (Zs8.2 hb),side,e',hs,h2,fun t ht=>?_⟩
      rw[h1,KW,if_pos ht]
   ·obtain⟨z,hz⟩:∃z,(T.op i).k=.alloc z:=by
     cases hk:(T.op i).k<;>first|exact absurd hk (ZjF hst _)|simp_all[Kh,KD]
    obtain⟨t,ho,rfl,rfl,rfl,rfl⟩:=Zrx hst hz
    have hnone:Zo L t=nO:=by
     cases hg:Zo L t<;>simp[ZbI,hg]at hs⊢
    have hdt:(T.op i).dst=sO t:=by rw[ho]
    refine key (fun u=>?_) (fun a ha=>?_) (fun x=>?_) (fun x hx=>?_) (.inr (.inr ⟨t,z,ho,by simp[Yv],by simp[Zo]⟩)) rfl
    ·by_cases htu:t=u
     ·exact .inl (by rw[hdt,htu])
     ·exact .inr (by simp[Yv,htu])
    ·have:=JI (ρ:=ρ) (e:=.loc t 0) (hp3 a ha).1
     rw[hdt]at this;exact this
    ·by_cases htx:t=x
     ·subst htx;exact .inr ⟨⟨hdt,z,hz⟩,hnone⟩
     ·exact .inl (by simp[Zo,htx])
    ·have:=hx.1
     rw[hdt]at this
     simp only[Zyd]at this
     subst this;exact hnone
  ·obtain⟨hbk,hready,hfree⟩:=Zed hb
   have hkB:KB (fl i) s s1 L L1 B∨Kh (T.op i).k=true:=by
    cases hpk:Kh (T.op i).k
    ·rw[hpk]at h;exact .inl h.1
    ·exact .inr rfl
   have hD:∃B2,(B2=Jr (T.op i) ρ++B∧Kh (T.op i).k=true∨B2=Jr (T.op i) ρ++Kx (fl i) B∧Kh (T.op i).k=false)∧DOA F kp dk (rest.map fun i=>(T.mk fk i,fl i)) ρ1 L1 s1 B2:=by
    cases hpk:Kh (T.op i).k
    ·rw[hpk]at h;exact⟨_,.inr ⟨rfl,rfl⟩,h.2⟩
    ·rw[hpk]at h;exact⟨_,.inl ⟨rfl,rfl⟩,h⟩
   clear h
   obtain⟨B2,hB2,h⟩:=hD
   have hsubB:∀b∈Kx (fl i) B,b∈B2:=fun b hb=>by
    rcases hB2 with ⟨rfl,_⟩|⟨rfl,_⟩
    ·exact List.mem_append_right _ (JY.1 hb).2
    ·exact List.mem_append_right _ hb
   refine Zs7 hm hi hdis hready (fun l ρ' L' is inv hd sch=>?_) sch inv
   have hforced:=hm l inv.closed i hi hd
   have hag:Z3 ρ ρ' (ZT (T.op i)):=by
    intro t ht
    rcases inv.env t with h|⟨a,ha,hla,hda⟩
    ·exact h
    ·exfalso
     rcases hnm a ha with hb|hb
     ·rw[hforced a hb]at hla;simp at hla
     ·exact Zg6 hb hda ht
   have hloc:∀x,Zo L' x=Zo L x∨Zo L' x=nO:=fun x=>by
    rcases inv.loc x with h|⟨a,ha,hla,hx⟩
    ·exact .inl h
    ·exact .inr (inv.loc0 a ha hla x hx)
   have hdis':∀p∈A.filter (fun a=>!(ms.getD i 0).testBit a),p∉rest:=fun p hp hpr=>hdis p (List.mem_filter.1 hp).1 (by simp[hpr])
   rcases Ztp hst with hq|⟨z,hz⟩|hq|⟨x,hx⟩|hq
   ·obtain⟨e,rfl,rfl,rfl⟩:=ZkR hst hq
    refine ZrF hst hs hq hag hloc ?_
    refine h T ms fl fk _ rest is _ _ _ hm hc' hdis' rfl (inv.bar hm hdis hi hir hd (fun a ha=>⟨(hfree a ha).1,(hfree a ha).2.1⟩) e (fun _ h=>h) (fun _ _ _ _ h=>h) fun a ha hla hpe=>?_) sch
    refine((hpe.keep (fl:=fl i) (Zei _ _ _ _) (hfree a ha).2.2 (fun _ _=>rfl)).more (fun b _ hb=>hsubB _ hb)).mono (JI (hfree a ha).1) (fun t ht=>?_) (fun _ _=>rfl) (fun _ _=>rfl)
    rw[KW]
    have:=Zb9 (Zca (hfree a ha).2.1) ht
    simp[this]
   ·rw[hz]at hbk;simp[Zm6]at hbk
   ·obtain⟨rfl,hdn,⟨lx,cs,new,rfl,rfl,hlx,hcong⟩|⟨rfl,hcong⟩⟩:=ZrA hst hq
    ·refine ZnT fun g ν w tmps m=>?_
     have hst0:Z7 (T.op i) ρ' ((lx,cs)::L') s1=.ok side ρ' ((lx,new)::(lx,cs)::L') s1:=hcong ρ' _ hag (by simp[Zo,hlx])
     have hpl:Zo L' lx=Zo L lx:=by
      obtain⟨c2,hc2⟩:∃cs,Zo L' lx=sO cs:=ZuO (L:=(lx,cs)::L') hst0 hq hs m
      rcases hloc lx with h|h
      ·exact h
      ·rw[h]at hc2;simp at hc2
     refine Za3 (hcong ρ' L' hag hpl) hs ?_
     have hput:∀r:Env,ZX r (T.op i).dst (.d .undef)=r:=fun r=>by rw[hdn];rfl
     have hb:=inv.bar (s2:=s1) (B2:=B2) hm hdis hi hir hd (fun a ha=>⟨(hfree a ha).1,(hfree a ha).2.1⟩) (.d .undef) (L2:=(lx,new)::L) (L2':=(lx,new)::L') (fun x hx=>by simp only[Zo,hx]) (fun x _ _ _ hx=>by
      by_cases hxl:lx=x
      ·subst hxl;rw[hpl,hlx]at hx;simp at hx
      ·simp only[Zo,hxl,if_false];exact hx) (fun a ha hla hpe=>?_)
     ·rw[hput,hput]at hb
      exact h T ms fl fk _ rest is _ _ _ hm hc' hdis' rfl hb sch
     ·rw[hput]
      have hkB':KB (fl i) s1 s1 L ((lx,new)::L) B:=by
       rcases hkB with h|h
       ·exact h
       ·cases hkk:(T.op i).k<;>rw[hkk]at hq h<;>simp[ZeH,Kh]at hq h
      refine(hpe.keep hkB' (hfree a ha).2.2 (fun t hal=>?_)).more (fun b _ hb=>hsubB _ hb)
      have hn:=inv.loc0 a (List.mem_filter.1 ha).1 hla t hal
      have:¬lx=t:=fun h=>by subst h;rw[hpl,hlx]at hn;simp at hn
      simp[Zo,this]
    ·refine Za3 (hcong ρ' L' hag) hs ?_
     have hput:∀r:Env,ZX r (T.op i).dst (.d .undef)=r:=fun r=>by rw[hdn];rfl
     have hb:=inv.bar (s2:=s1) (B2:=B2) hm hdis hi hir hd (fun a ha=>⟨(hfree a ha).1,(hfree a ha).2.1⟩) (.d .undef) (L2:=L1) (L2':=L') (fun x hx=>hx) (fun _ _ _ _ hx=>hx) (fun a ha hla hpe=>by
      rw[hput];exact(hpe.keep (hkB.resolve_right (by cases hkk:(T.op i).k<;>rw[hkk]at hq<;>simp[ZeH,Zqj]at hq<;>simp[Kh])) (hfree a ha).2.2 (fun _ _=>rfl)).more (fun b _ hb=>hsubB _ hb))
     rw[hput,hput]at hb
     exact h T ms fl fk _ rest is _ _ _ hm hc' hdis' rfl hb sch
   ·obtain⟨t,p,v,hdt,hgn,rfl,rfl,rfl,rfl,hcong⟩:=ZuK hst hx
    obtain⟨hs1,hs2,hs3⟩:=hs
    have hnone:Zo L t=nO:=by
     cases hg:Zo L t<;>simp[ZbI,hg]at hs2⊢
    have hnone':Zo L' t=nO:=by
     rcases hloc t with h|h
     ·rw[h];exact hnone
     ·exact h
    refine Za3 (hcong ρ' L' hag) ⟨hs1,by simp[ZbI,hnone'],hs3⟩ ?_
    have hb:=inv.bar (s2:=s1) (B2:=B2) hm hdis hi hir hd (fun a ha=>⟨(hfree a ha).1,(hfree a ha).2.1⟩) (.loc t 0) (L2:=(t,cellsOf v)::L) (L2':=(t,cellsOf v)::L') (fun x hx=>by simp only[Zo,hx]) (fun x a hna hal hx=>by
      have:¬t=x:=fun h=>by subst h;exact Zb9 hna hdt hal.1
      simp only[Zo,this,if_false];exact hx) (fun a ha hla hpe=>?_)
    ·rw[hdt]at hb
     exact h T ms fl fk _ rest is _ _ _ hm hc' hdis' rfl hb sch
    ·have hkB':KB (fl i) s1 s1 L ((t,cellsOf v)::L) B:=hkB.resolve_right (by rw[hx];simp[Kh])
     have hnd:∀u,ZbZ (T.op a) u→¬t=u:=fun u hal h=>by subst h;exact Zb9 (hfree a ha).2.1 hdt hal.1
     refine((hpe.keep hkB' (hfree a ha).2.2 (fun u hal=>by simp[Zo,hnd u hal])).more (fun b _ hb=>hsubB _ hb)).mono (JI (hfree a ha).1) (fun u hu=>?_) (fun _ _=>rfl) (fun _ _=>rfl)
     rw[KW]
     have:=Zb9 (Zca (hfree a ha).2.1) hu
     simp[this]
   ·obtain⟨rfl,hdn,rfl,hcong⟩:=ZuL hst hq
    refine Za3 (hcong ρ' L' hag) hs ?_
    have hput:∀r:Env,ZX r (T.op i).dst (.d .undef)=r:=fun r=>by rw[hdn];rfl
    have hb:=inv.bar (s2:=s1) (B2:=B2) hm hdis hi hir hd (fun a ha=>⟨(hfree a ha).1,(hfree a ha).2.1⟩) (.d .undef) (L2:=L1) (L2':=L') (fun x hx=>hx) (fun _ _ _ _ hx=>hx) (fun a ha hla hpe=>by
     rw[hput];exact(hpe.keep (hkB.resolve_right (by cases hkk:(T.op i).k<;>rw[hkk]at hq<;>simp[ZeH,Zqj]at hq<;>simp[Kh])) (hfree a ha).2.2 (fun _ _=>rfl)).more (fun b _ hb=>hsubB _ hb))
    rw[hput,hput]at hb
    exact h T ms fl fk _ rest is _ _ _ hm hc' hdis' rfl hb sch
theorem Ztv{F:Fr P}{dk:List Zu}{o:DOp}{f:List Nat}{os:List (DOp×List Nat)}{B:List (Nat×Rd)}(hg:Zy ρ o.guard=sO false)(hk:KD o.k=true)(e:E)(h:DOA F kp dk os (ZX ρ o.dst (.when false e)) L s B):DOA F kp dk ((o,f)::os) ρ L s B:=by
 intro T ms fl fk A rest is l ρ' L' hm hc hdis hos inv sch
 cases rest with
 |nil=>simp at hos
 |cons i rest =>
  simp only[Zyp,List.cons.injEq,Zyh]at hos
  obtain⟨⟨ho,rfl⟩,rfl⟩:=hos
  obtain⟨hfk,rfl⟩:=Zj7 ho.symm (fun k h=>by rw[h]at hk;simp[KD]at hk)
  obtain⟨hi,hdeps,hir,hnm,hcs⟩:=Zhz hfk hc
  have hli:=inv.restN i (by simp)
  have hnal:∀x,¬ZbZ (T.op i) x:=fun x hx=>by have:=Zdm hx;rw[hk]at this;simp at this
  rcases hcs with ⟨hp,hc'⟩|⟨hb,hc',hnp⟩
  ·obtain⟨hp1,hp2,hp3⟩:=Zfv hp
   have hgc:=KM (g:=(T.op i).guard) (ρ:=ρ) (ρ':=ZX ρ (T.op i).dst (.when false e)) (fun t ht=>JI hp2 t (by simp[ZT,ht]))
   refine h T ms fl fk (i::A) rest is l ρ' L' hm hc' (fun p hp hpr=>?_) rfl ⟨inv.closed,fun r hr=>inv.restN r (by simp[hr]),fun j hj h1 h2=>?_,fun a ha=>?_,fun p hp a ha=>?_,fun p hp a ha hpa=>?_,fun t=>?_,fun a ha hla x hx=>?_,fun x=>?_,fun a ha hla=>?_⟩ sch
   ·rcases List.mem_cons.1 hp with rfl|hp
    ·exact hir hpr
    ·exact hdis p hp (by simp[hpr])
   ·simp only[ZyP,not_or]at h2
    exact inv.doneN j hj (by simp[h2.1,h1]) h2.2
   ·rcases List.mem_cons.1 ha with rfl|ha
    ·exact hi
    ·exact inv.alt a ha
   ·rcases List.mem_cons.1 hp with rfl|hpA<;>rcases List.mem_cons.1 ha with rfl|haA
    ·exact .inr hp2
    ·exact hnm a haA
    ·exact .inr (hp3 p hpA).1
    ·exact inv.pair p hpA a haA
   ·rcases List.mem_cons.1 hp with rfl|hpA<;>rcases List.mem_cons.1 ha with rfl|haA
    ·exact absurd rfl hpa
    ·exact(hp3 a haA).2
    ·exact Zca (hp3 p hpA).2
    ·exact inv.uniq p hpA a haA hpa
   ·rw[KW]
    by_cases ht:(T.op i).dst=sO t
    ·exact .inr ⟨i,by simp,hli,ht⟩
    ·rw[if_neg ht]
     rcases inv.env t with h|⟨a,ha,hla,hda⟩
     ·exact .inl h
     ·exact .inr ⟨a,by simp[ha],hla,hda⟩
   ·rcases List.mem_cons.1 ha with rfl|ha
    ·exact absurd hx (hnal x)
    ·exact inv.loc0 a ha hla x hx
   ·rcases inv.loc x with h|⟨b,hb,hlb,hxb⟩
    ·exact .inl h
    ·exact .inr ⟨b,by simp[hb],hlb,hxb⟩
   ·rcases List.mem_cons.1 ha with rfl|ha
    ·exact .inr (.inl ⟨hk,by rw[hgc,hg],e,fun t ht=>by rw[KW,if_pos ht]⟩)
    ·refine(inv.pend a ha hla).mono (JI (hp3 a ha).1) (fun t ht=>?_) (fun _ _=>rfl) (fun _ _=>rfl)
     rw[KW,if_neg (Zb9 (Zca (hp3 a ha).2) ht)]
  ·obtain⟨hbk,hready,hfree⟩:=Zed hb
   refine Zs7 hm hi hdis hready (fun l ρ' L' is inv hd sch=>?_) sch inv
   have hforced:=hm l inv.closed i hi hd
   have hag:Z3 ρ ρ' (ZT (T.op i)):=by
    intro t ht
    rcases inv.env t with h|⟨a,ha,hla,hda⟩
    ·exact h
    ·exfalso
     rcases hnm a ha with hb|hb
     ·rw[hforced a hb]at hla;simp at hla
     ·exact Zg6 hb hda ht
   have hdis':∀p∈A.filter (fun a=>!(ms.getD i 0).testBit a),p∉rest:=fun p hp hpr=>hdis p (List.mem_filter.1 hp).1 (by simp[hpr])
   refine ZaB (e:=e) (by rw[KM fun t ht=>hag t (by simp[ZT,ht])];exact hg) ?_
   refine h T ms fl fk _ rest is _ _ _ hm hc' hdis' rfl (inv.bar hm hdis hi hir hd (fun a ha=>⟨(hfree a ha).1,(hfree a ha).2.1⟩) (.when false e) (fun _ h=>h) (fun _ _ _ _ h=>h) fun a ha hla hpe=>?_) sch
   refine hpe.mono (JI (hfree a ha).1) (fun t ht=>?_) (fun _ _=>rfl) (fun _ _=>rfl)
   rw[KW]
   have:=Zb9 (Zca (hfree a ha).2.1) ht
   simp[this]
theorem ZrE{F:Fr P}{dk:List Zu}{o:DOp}{f:List Nat}{os:List (DOp×List Nat)}{B:List (Nat×Rd)}{pre:Nat→Prop}{ρf:Nat→Env}{sf:Nat→St}(hst:Z7 o ρ L s=.all side pre ρf sf)(hs:side)(h:∀b,pre b→KB f s (sf b) L L B∧DOA F kp dk os (ρf b) L (sf b) (Kx f B)):DOA F kp dk ((o,f)::os) ρ L s B:=by
 obtain⟨hp,t,ef,hdt,rfl,hcong⟩:=ZuJ hst
 refine ZbA (fun e s2=>∃b,pre b∧e=ef b∧s2=sf b) hp (fun ρ' L' os' hag hcont=>?_) (fun e s2 ⟨b,hb,he,h2⟩=>?_)
 ·refine Ztw (hcong ρ' L' hag) hs fun b hb=>?_
  have:=hcont (ef b) (sf b) ⟨b,hb,rfl,rfl⟩
  rw[hdt]at this;exact this
 ·subst he;subst h2
  have:=h b hb
  rw[hdt];exact this
theorem ZjS{F:Fr P}{ks:List Nat}{dk:List Zu}:∀{os:List (DOp×List Nat)} {ρ:Env} {L:Loc} {s:St} {B:List (Nat×Rd)},
  ZhC (fun ρ L s=>ZS F dk (WV ρ ks) (ZcS (WV ρ ks) L) s) (fun os ρ L s B=>DOA F (sO ks) dk os ρ L s B) os ρ L s B→DOA F (sO ks) dk os ρ L s B
 | [],ρ,L,s,B,h=>ZmU h
 | (o,f)::os,ρ,L,s,B,h=>by
  simp only[ZhC]at h
  split at h
  ·rename_i sd ρ' L' s' hst
   by_cases hp:Kh o.k=true
   ·rw[if_pos hp]at h
    exact Zbk hst h.1 (by rw[if_pos hp];exact ZjS h.2)
   ·rw[if_neg hp]at h
    exact Zbk hst h.1 (by rw[if_neg hp];exact⟨h.2.1,ZjS h.2.2⟩)
  ·rename_i sd pre ρ' s' hst
   exact ZrE hst h.1 fun b hb=>⟨(h.2 b hb).1,ZjS (h.2 b hb).2⟩
  ·exact h
end
theorem Zhk{bs:List Nat}:∀{ds:List Nat} {a:Nat},(ZdA bs ds).testBit a=true→∃d∈ds,a=d∨(bs.getD d 0).testBit a=true
 | [],a,h=>by simp[ZdA]at h
 |d::ds,a,h=>by
  simp only[ZdA,Nat.testBit_or,Zyu]at h
  rcases h with (h|h)|h
  ·exact⟨d,by simp,.inr h⟩
  ·refine⟨d,by simp,.inl ?_⟩
   rw[Nat.one_shiftLeft,Nat.testBit_two_pow]at h
   exact(of_decide_eq_true h).symm
  ·obtain⟨d',h1,h2⟩:=Zhk h
   exact⟨d',by simp[h1],h2⟩
theorem Zqm(l:Nat→Bool)(all:List (List Nat))(hcl:∀i,i<all.length→l i=true→∀d∈all.getD i [],l d=true) :
  ∀(r:List (List Nat)) (acc:List Nat) (pre:List (List Nat)),all=pre++r→acc.length=pre.length →
   (∀i,i<acc.length→(∀d∈all.getD i [],l d=true)→∀a,(acc.getD i 0).testBit a=true→l a=true) →
   ∀i,i<all.length→(∀d∈all.getD i [],l d=true)→∀a,((ZhW r acc).getD i 0).testBit a=true→l a=true
 | [],acc,pre,hall,hlen,hacc=>by
  intro i hi
  simp only[ZhW]
  exact hacc i (by rw[hlen];simp only[hall,ZyR]at hi;exact hi)
 |d::r,acc,pre,hall,hlen,hacc=>by
  simp only[ZhW]
  refine Zqm l all hcl r (acc++[ZdA acc d]) (pre++[d]) (by simp[hall]) (by simp[hlen]) fun i hi hd a ha=>?_
  simp only[Zyr,ZyE,List.length_nil]at hi
  by_cases hia:i<acc.length
  ·have e:(acc++[ZdA acc d]).getD i 0=acc.getD i 0:=by simp[Zyx,List.getElem?_append,hia]
   rw[e]at ha
   exact hacc i hia hd a ha
  ·have hie:i=acc.length:=by omega
   subst hie
   have e:(acc++[ZdA acc d]).getD acc.length 0=ZdA acc d:=by simp[Zyx]
   rw[e]at ha
   have e2:all.getD acc.length []=d:=by rw[hall,hlen];simp[Zyx]
   rw[e2]at hd
   obtain⟨d',h1,h2⟩:=Zhk ha
   rcases h2 with rfl|h2
   ·exact hd a h1
   ·by_cases hlt:d'<acc.length
    ·exact hacc d' hlt (hcl d' (by rw[hall];simp;omega) (hd d' h1)) a h2
    ·have:acc.getD d' 0=0:=by simp[Zyx,ZyV (Nat.le_of_not_lt hlt)]
     rw[this]at h2;simp at h2
def cnt(l:Nat→Bool):Nat→Nat
 |0=>0
 |n+1=>cnt l n+if l n then 0 else 1
theorem ZpJ{l l':Nat→Bool}:∀{n:Nat},(∀i,i<n→l' i=l i)→cnt l' n=cnt l n
 |0,_=>rfl
 |n+1,h=>by
  have:=ZpJ (l:=l) (l':=l') (n:=n) fun i hi=>h i (by omega)
  simp only[cnt,h n (by omega),this]
theorem ZrK{l:Nat→Bool}{i:Nat}:∀{n:Nat},i<n→l i=false→cnt (fun j=>j==i ||l j) n+1=cnt l n
 |n+1,hi,hl=>by
  by_cases hn:i=n
  ·subst hn
   have:cnt (fun j=>j==i ||l j) i=cnt l i:=ZpJ fun j hj=>by
    have:¬j=i:=by omega
    simp[this]
   simp[cnt,this,hl]
  ·have h:=ZrK (n:=n) (by omega) hl
   have hni:¬n=i:=fun h=>hn h.symm
   have:(n==i ||l n)=l n:=by simp[hni]
   simp only[cnt,this];omega
theorem ZpK{l:Nat→Bool}:∀{n:Nat},cnt l n=0→∀i,i<n→l i=true
 |n+1,h,i,hi=>by
  simp only[cnt]at h
  by_cases hn:i=n
  ·subst hn
   cases hl:l i
   ·simp[hl]at h
   ·rfl
  ·exact ZpK (n:=n) (by omega) i (by omega)
theorem ZtS(l:Nat→Bool):∀n,cnt l n≤n
 |0=>Zys _
 |n+1=>by have:=ZtS l n;simp only[cnt];split<;>omega
theorem Zuj{ops:Array Oper}{listed:Array Bool}{i:Nat}(h:i∈Region.ready .any ops listed):
  ∃o,ops[i]?=sO o∧listed.getD i true=false∧∀d∈Zcd o,listed.getD d false=true:=by
 simp only[Region.ready,List.mem_filter,List.mem_range,Zyk,Bool.not_eq_true']at h
 obtain⟨hi,hl,ha⟩:=h
 refine⟨ops[i],by simp[hi],hl,fun d hd=>?_⟩
 simp only[hi,Array.getElem?_eq_getElem,Zyv,ZyL,Array.all_eq_true]at ha
 simp only[Zcd,List.mem_map,List.mem_filter]at hd
 obtain⟨e,⟨he,hb⟩,rfl⟩:=hd
 obtain⟨n,hn,hen⟩:=ZyC he
 have hn':n<ops[i].after.size:=by simpa using hn
 have h2:=ha n hn'
 have:ops[i].after[n]=e:=by rw[←hen];simp
 rw[this]at h2
 simpa[hb]using h2
theorem ZuC{ops:Array Oper}{listed:Array Bool}{i:Nat}{o:Oper}(ho:ops[i]?=sO o)(hl:listed.getD i true=false)(hd:∀d∈Zcd o,listed.getD d false=true):i∈Region.ready .any ops listed:=by
 obtain⟨hi,rfl⟩:=Array.getElem?_eq_some_iff.1 ho
 simp only[Region.ready,List.mem_filter,List.mem_range,Zyk,Bool.not_eq_true']
 refine⟨hi,hl,?_⟩
 simp only[hi,Array.getElem?_eq_getElem,Zyv,ZyL,Array.all_eq_true]
 intro n hn
 cases hb:Region.binds .any ops[i].after[n]
 ·simp
 ·simp only[Bool.not_true,Bool.false_or]
  exact hd _ (by
   simp only[Zcd,List.mem_map,List.mem_filter]
   exact⟨_,⟨by simp,hb⟩,rfl⟩)
theorem ZxM{ops:Array Oper}{T:Tab}(hT:T.length=ops.size)(hdep:∀i o,ops[i]?=sO o→T.deps i=Zcd o)(hlt:∀i,i<T.length→∀d∈T.deps i,d<i):
  ∀(fuel t:Nat) (listed:Array Bool),listed.size=ops.size→cnt (fun j=>listed.getD j false) ops.size≤fuel →
   Sch T (fun j=>listed.getD j false) (Region.linearise.go .any ops fuel t listed []):=by
 have hready:∀listed:Array Bool,listed.size=ops.size→Region.ready .any ops listed=[]→∀i,i<ops.size→listed.getD i false=true:=by
  intro listed hsz hr i
  induction i using Nat.strongRecOn with
  |ind i ih =>
   intro hi
   cases hl:listed.getD i false
   ·exfalso
    have hi':i<listed.size:=by omega
    have hlt':listed.getD i true=false:=by simpa[Array.getD,hi']using hl
    have hm:i∈Region.ready .any ops listed:=ZuC (o:=ops[i]) (by simp[hi]) hlt' fun d hd=>by
     have hdi:d<i:=hlt i (by omega) d (by rw[hdep i ops[i] (by simp[hi])];exact hd)
     exact ih d hdi (by omega)
    rw[hr]at hm;simp at hm
   ·rfl
 intro fuel
 induction fuel with
 |zero =>
  intro t listed hsz hc
  simp only[Region.linearise.go,List.reverse_nil]
  exact .nil fun i hi=>ZpK (Nat.le_zero.1 hc) i (by omega)
 |succ fuel ih =>
  intro t listed hsz hc
  simp only[Region.linearise.go]
  change Sch T _ (match (Region.ready .any ops listed)[t % (Region.ready .any ops listed).length]? with
   |some i=>Region.linearise.go .any ops fuel (t / (Region.ready .any ops listed).length) (listed.setIfInBounds i true) [i]
   |none=>[].reverse)
  cases hi:(Region.ready .any ops listed)[t % (Region.ready .any ops listed).length]? with
  |none =>
   have hnil:Region.ready .any ops listed=[]:=by
    cases hr:Region.ready .any ops listed with
    |nil=>rfl
    |cons x xs =>
     rw[hr]at hi
     have hl:t % (x::xs).length<(x::xs).length:=Nat.mod_lt _ (by simp)
     rw[ZyK hl]at hi;simp at hi
   exact .nil fun i hi'=>hready listed hsz hnil i (by omega)
  |some i =>
   simp only[]
   rw[linearise_go_acc,List.reverse_singleton,List.singleton_append]
   obtain⟨o,ho,hl,hd⟩:=Zuj (List.mem_of_getElem? hi)
   obtain⟨his,-⟩:=Array.getElem?_eq_some_iff.1 ho
   have hisl:i<listed.size:=by omega
   have hlf:listed.getD i false=false:=by simpa[Array.getD,hisl]using hl
   have hfun:(fun j=>(listed.setIfInBounds i true).getD j false)=fun j=>j==i ||listed.getD j false:=by
    funext j
    simp only[Array.getD_eq_getD_getElem?,ZyQ]
    by_cases hij:i=j
    ·subst hij;simp[hisl]
    ·have:¬j=i:=fun h=>hij h.symm
     simp[hij,this]
   refine .cons (by omega) hlf (fun d hd'=>hd d (by rw[←hdep i o ho];exact hd')) ?_
   rw[←hfun]
   refine ih _ _ (by simp[hsz]) ?_
   rw[hfun]
   have:=ZrK (l:=fun j=>listed.getD j false) his hlf
   omega
section
variable {P:Program}
theorem Zwr{an:Ann}{N:Nat}{c:Code}{order:List Nat}{os:List (DOp×List Nat)}{ks:Option (List Nat)}(h:cc P an N c=sO (.regD order os ks)):
  ∃id ops,c=.region id ops true∧ccD P an N id ops=sO (order,os,ks):=by
 unfold cc at h;split at h<;>simp_all
 ·obtain⟨a,b,c',h1,h2,h3,h4⟩:=h;exact⟨_,_,⟨rfl,rfl⟩,by rw[h1];simp[h2,h3,h4]⟩
 all_goals (split at h<;>simp at h)
end
theorem ZxN{T:Tab}{l:Nat→Bool}{is:List Nat}(h:Sch T l is):∀i∈is,i<T.length:=by
 induction h with
 |nil h=>simp
 |cons hi hl hd t ih=>intro i hi';rcases List.mem_cons.1 hi' with rfl|h;exact hi;exact ih i h
section
variable {P:Program}
theorem ZpL{N:Nat}{ops:Array Oper}:∀{is:List Nat} {l:List DOp},ZbG P N ops is=sO l→l.length=is.length∧∀(j i:Nat),is[j]?=sO i→∃o d,ops[i]?=sO o∧cop P N ops o=sO d∧l[j]?=sO d
 | [],l,h=>by simp only[ZbG,Zyd]at h;subst h;simp
 |i::is,l,h=>by
  simp only[ZbG]at h
  split at h<;>(try(simp at h;done))
  rename_i o ho
  split at h<;>simp only[Zyd,reduceCtorEq]at h
  rename_i d ds hd hds
  subst h
  obtain⟨h1,h2⟩:=ZpL hds
  refine⟨by simp[h1],fun j i' hj=>?_⟩
  cases j with
  |zero=>simp only[List.getElem?_cons_zero,Zyd]at hj;subst hj;exact⟨o,d,ho,hd,by simp⟩
  |succ j=>simp only[List.getElem?_cons_succ]at hj⊢;exact h2 j i' hj
theorem ZrL{N:Nat}{ops:Array Oper}{f:Nat→DOp}:∀{is:List Nat},(∀i∈is,∃o,ops[i]?=sO o∧cop P N ops o=sO (f i))→ZbG P N ops is=sO (is.map f)
 | [],_=>rfl
 |i::is,h=>by
  obtain⟨o,h1,h2⟩:=h i (by simp)
  have:=ZrL (is:=is) fun j hj=>h j (by simp[hj])
  simp only[ZbG,h1,h2,this,Zyp]
theorem Zt2(g:G)(w:World)(n:Nat):Ext g w g { w with drawn:=n }:=⟨Zys _,fun _=>Zys _,fun _ _ _=>rfl,fun _ _ h=>h,fun _ _=>rfl,fun _ _=>rfl,rfl,rfl,rfl,rfl⟩
theorem ZO.drawn(m:ZO g ν w tmps ρ L s)(n:Nat):ZO g ν { w with drawn:=n } tmps ρ L s:=by
 have hg:ZbD g w g { w with drawn:=n }:=⟨Zys _,fun _ _=>rfl,fun _ _=>rfl,fun b hb=>(m.st.fresh b hb).1,rfl,rfl,rfl,rfl⟩
 exact m.grow hg
theorem ZkA:∀{n:Nat} {ds:List (List Nat)},ZlY n ds=true→∀i l,ds[i]?=sO l→∀d∈l,d<n+i
 |n,[],_,i,l,hi=>by simp at hi
 |n,x::r,h,i,l,hi=>by
  simp only[ZlY,Zyk,List.all_eq_true,decide_eq_true_eq]at h
  cases i with
  |zero=>simp only[List.getElem?_cons_zero,Zyd]at hi;subst hi;exact fun d hd=>h.1 d hd
  |succ i=>simp only[List.getElem?_cons_succ]at hi;intro d hd;have:=ZkA h.2 i l hi d hd;omega
theorem Zep{F:Fr P}{order:List Nat}{os:List (DOp×List Nat)}{ks:Option (List Nat)}{dk:List Zu}(h:DOA F ks dk os ρ L s []):ZS F (.code (.regD order os ks)::dk) ρ L s:=by
 intro k hk
 cases hk with
 |code hc ht =>
 obtain⟨id,ops,rfl,hD⟩:=Zwr hc
 unfold ccD at hD
 generalize Zvj F.an id=fk at hD
 split at hD<;>(try(simp at hD;done))
 rename_i l order' kp hcops _ _
 simp only at hD
 split at hD<;>simp only[Zyd,Zyh,reduceCtorEq]at hD
 rename_i hcond
 obtain⟨rfl,rfl,rfl⟩:=hD
 simp only[Zyk]at hcond
 obtain⟨⟨⟨hmix,hlt⟩,hperm⟩,hchk⟩:=hcond
 obtain⟨hlen,hget⟩:=ZpL hcops
 simp only[List.length_range]at hlen
 generalize hds:ops.toList.map Zcd=ds at hlt hchk h
 have hdl:ds.length=ops.size:=by rw[←hds];simp
 generalize hT:List.zip l ds=T at hchk h
 have hTl:List.length T=ops.size:=by rw[←hT];simp[hlen,hdl]
 have hTi:∀(i:Nat) (o:Oper),ops[i]?=sO o→∃d,cop P F.N ops o=sO d∧T[i]?=sO (d,Zcd o):=by
  intro i o ho
  obtain⟨hi,-⟩:=Array.getElem?_eq_some_iff.1 ho
  obtain⟨o',d,h1,h2,h3⟩:=hget i i (by simp[hi])
  rw[ho]at h1
  obtain rfl:=Option.some.inj h1
  refine⟨d,h2,?_⟩
  rw[←hT,List.getElem?_zip_eq_some]
  exact⟨h3,by rw[←hds];simp[ho]⟩
 have hdeps:∀(i:Nat) (o:Oper),ops[i]?=sO o→Tab.deps T i=Zcd o:=fun i o ho=>by
  obtain⟨d,_,h2⟩:=hTi i o ho
  simp[Tab.deps,Zyx,h2]
 have hop:∀i,i<List.length T→∃o,ops[i]?=sO o∧cop P F.N ops o=sO (Tab.op T i):=fun i hi=>by
  have hi':i<ops.size:=by omega
  obtain⟨d,h1,h2⟩:=hTi i ops[i] (by simp[hi'])
  exact⟨ops[i],by simp[hi'],by simp[Tab.op,Zyx,h2,h1]⟩
 have hdl2:∀i,i<List.length T→∀d∈Tab.deps T i,d<i:=fun i hi d hd=>by
  have hi':i<ops.size:=by omega
  have he:=hdeps i ops[i] (by simp[hi'])
  have:=ZkA hlt i (Zcd ops[i]) (by rw[←hds];simp[hi']) d (by rw[←he];exact hd)
  omega
 have hdsT:∀i,i<List.length T→ds.getD i []=Tab.deps T i:=fun i hi=>by
  have hi':i<ops.size:=by omega
  rw[hdeps i ops[i] (by simp[hi']),←hds]
  simp[Zyx,hi']
 intro g ν w tmps hN m
 refine F.T.back _ _ _ _ (.one stepR_region_draw) ?_
 refine F.T.ext g w g { w with drawn:=w.drawn+1 } _ (Zt2 g w _) ?_
 have hsc:∀t,Region.schedule (P.follows .mixedOrders) ops t=Region.linearise .any ops t:=fun t=>by simp[Region.schedule,hmix]
 rw[hsc]
 have hl0:∀j,(Array.replicate ops.size false).getD j false=false:=fun j=>by
  simp only[Array.getD_eq_getD_getElem?,Array.getElem?_replicate]
  split<;>rfl
 have hsch:=ZxM (ops:=ops) (T:=T) hTl hdeps hdl2 ops.size (w.tape w.drawn (.order F.b.fn id)) (Array.replicate ops.size false) (by simp) (ZtS _ _)
 have hDO:=h T (ZhW ds []) (fun i=>(F.an.get (id+1000000*(i+4))).getD []) _ [] order' _ _ ρ L ?_ hchk (by simp) rfl ?_ hsch
 ·refine hDO ops _ _ (ZrL fun i hi=>hop i (ZxN hsch i hi)) ht g ν _ tmps hN (m.drawn _)
 ·intro lf hcl i hi hd a ha
  refine Zqm lf ds (fun i hi hli d hd=>?_) ds [] [] rfl rfl (fun i hi=>by simp at hi) i (by omega) (fun d hd'=>hd d (by rw[←hdsT i hi];exact hd')) a ha
  exact hcl i (by omega) hli d (by rw[←hdsT i (by omega)];exact hd)
 ·refine⟨fun i hi hli=>?_,fun r hr=>hl0 r,fun i hi h1 h2=>?_,by simp,by simp,by simp,fun t=>.inl rfl,by simp,fun x=>.inl rfl,by simp⟩
  ·rw[hl0]at hli;simp at hli
  ·exfalso
   simp only[Zuv,List.all_eq_true,List.mem_range,List.contains_eq_mem,decide_eq_true_eq]at hperm
   exact h1 (hperm i (by omega))
theorem Zf6{F:Fr P}{dk:List Zu}{o:DOp}{f:List Nat}{os:List (DOp×List Nat)}{B:List (Nat×Rd)}(hg:Zy ρ o.guard=sO true){fx:Opd}(hk:o.k=.call fx xs){p q:Prop}{fd:D}{es:List E}(hf:Z9 ρ true fx=sO (q,.d fd))(ha:WE ρ true xs=sO (p,es))(hds:QR es=sO ds)(hp:p)(hq:q){Ψ:Res→St→Prop}(hc:Jc P fd ds s Ψ)(hret:∀d s',Ψ (.ret d) s'→KB f s s' L L B∧DOA F kp dk os (ZX ρ o.dst (.d d)) L s' (Kx f B))(hpan:∀d s',Ψ (.panic d) s'→K1 F [] [] d s'):DOA F kp dk ((o,f)::os) ρ L s B:=by
 refine ZbA (fun e s'=>∃d,e=.d d∧Ψ (.ret d) s') (by rw[hk];rfl) (fun ρ' L' os' hag hcont=>?_) (fun e s2 ⟨d,he,hd⟩=>by subst he;exact hret d s2 hd)
 have h1:Z3 ρ ρ' (YQ fx):=fun t ht=>hag t (by simp[ZT,hk,WP,ht])
 have h2:Z3 ρ ρ' (ZcU xs):=fun t ht=>hag t (by simp[ZT,hk,WP,ht])
 have h3:Z3 ρ ρ' (ZfB o.guard):=fun t ht=>hag t (by simp[ZT,ht])
 exact Jw (by rw[KM h3];exact hg) hk (by rw[YD h1];exact hf) (by rw[Jv h2];exact ha) hds hp hq hc (fun d s' hd=>hcont (.d d) s' ⟨d,rfl,hd⟩) (fun d s' hd=>(hpan d s' hd).weak _ _)
theorem ZbW{F:Fr P}{dk:List Zu}{o:DOp}{f:List Nat}{os:List (DOp×List Nat)}{B:List (Nat×Rd)}(hg:Zy ρ o.guard=sO true){fx:Opd}(hk:o.k=.call fx xs){p q:Prop}{fi:FuncId}{first caps:List D}{es:List E}(hf:Z9 ρ true fx=sO (q,.d (.fn (.func fi) first caps)))(ha:WE ρ true xs=sO (p,es))(hds:QR es=sO ds)(hp:p)(hq:q){Ψ:Res→St→Prop}(hc:ZN P fi (first++ds++caps) s Ψ)(hret:∀d s',Ψ (.ret d) s'→KB f s s' L L B∧DOA F kp dk os (ZX ρ o.dst (.d d)) L s' (Kx f B))(hpan:∀d s',Ψ (.panic d) s'→K1 F [] [] d s'):DOA F kp dk ((o,f)::os) ρ L s B :=
 Zf6 hg hk hf ha hds hp hq hc.V hret hpan
theorem ZnP{F:Fr P}{dk:List Zu}{o:DOp}{f:List Nat}{os:List (DOp×List Nat)}{B:List (Nat×Rd)}(hg:Zy ρ o.guard=sO true){x:Opd}(hk:o.k=.panic x){p:Prop}{t:TypeId}{d:D}(ha:Z9 ρ true x=sO (p,.d (.iface t d)))(hp:p)(h:K1 F [] [] (.iface t d) s):DOA F kp dk ((o,f)::os) ρ L s B:=by
 refine ZbA (fun _ _=>False) (by rw[hk];rfl) (fun ρ' L' os' hag hcont=>?_) (fun e s2 h=>h.elim)
 have h1:Z3 ρ ρ' (YQ x):=fun t ht=>hag t (by simp[ZT,hk,WP,ht])
 have h3:Z3 ρ ρ' (ZfB o.guard):=fun t ht=>hag t (by simp[ZT,ht])
 exact Zpe (by rw[KM h3];exact hg) hk (by rw[YD h1];exact ha) hp (h.weak _ _)
theorem Zfk{F:Fr P}{dk:List Zu}{o:DOp}{f:List Nat}{os:List (DOp×List Nat)}{B:List (Nat×Rd)}(hg:Zy ρ o.guard=sO false)(hk:Kh o.k=false){e:E}(h:DOA F kp dk os (ZX ρ o.dst (.when false e)) L s (Kx f B)):DOA F kp dk ((o,f)::os) ρ L s B:=by
 refine ZbA (fun e' s'=>e'=.when false e∧s'=s) hk (fun ρ' L' os' hag hcont=>?_) (fun e s2 ⟨h1,h2⟩=>by subst h1;subst h2;exact⟨Zei _ _ _ _,h⟩)
 have h3:Z3 ρ ρ' (ZfB o.guard):=fun t ht=>hag t (by simp[ZT,ht])
 exact ZaB (by rw[KM h3];exact hg) (hcont _ _ ⟨rfl,rfl⟩)
theorem Zcj{F:Fr P}{dk:List Zu}{o:DOp}{f:List Nat}{os:List (DOp×List Nat)}{B:List (Nat×Rd)}{c:Bool}(hg:Zy ρ o.guard=sO c){fx:Opd}(hk:o.k=.call fx xs){p q:Prop}{fi:FuncId}{first caps:List D}{es:List E}(hf:Z9 ρ c fx=sO (q,.d (.fn (.func fi) first caps)))(ha:WE ρ c xs=sO (p,es))(hds:QR es=sO ds){d:D}(hc:c=true→p∧q∧ZA P fi (first++ds++caps) d)(h:DOA F kp dk os (ZX ρ o.dst (.when c (.d d))) L s (Kx f B)):DOA F kp dk ((o,f)::os) ρ L s B:=by
 refine ZbA (fun e' s'=>e'=.when c (.d d)∧s'=s) (by rw[hk];rfl) (fun ρ' L' os' hag hcont=>?_) (fun e s2 ⟨h1,h2⟩=>by subst h1;subst h2;exact⟨Zei _ _ _ _,h⟩)
 have h1:Z3 ρ ρ' (YQ fx):=fun t ht=>hag t (by simp[ZT,hk,WP,ht])
 have h2:Z3 ρ ρ' (ZcU xs):=fun t ht=>hag t (by simp[ZT,hk,WP,ht])
 have h3:Z3 ρ ρ' (ZfB o.guard):=fun t ht=>hag t (by simp[ZT,ht])
 exact Kt (by rw[KM h3];exact hg) hk (by rw[YD h1];exact hf) (by rw[Jv h2];exact ha) hds hc (hcont _ _ ⟨rfl,rfl⟩)
theorem ZaF{F:Fr P}{dk:List Zu}{o:DOp}{f:List Nat}{os:List (DOp×List Nat)}{B:List (Nat×Rd)}(hg:Zy ρ o.guard=sO true){fx:Opd}(hk:o.k=.call fx xs){p q:Prop}{fi:FuncId}{first caps:List D}{es:List E}(hf:Z9 ρ true fx=sO (q,.d (.fn (.func fi) first caps)))(ha:WE ρ true xs=sO (p,es))(hds:QR es=sO ds)(hp:p)(hq:q){d:D}(hc:ZA P fi (first++ds++caps) d)(h:DOA F kp dk os (ZX ρ o.dst (.d d)) L s (Kx f B)):DOA F kp dk ((o,f)::os) ρ L s B :=
 ZbW hg hk hf ha hds hp hq (hc s) (fun d' s' ⟨h1,h2⟩=>by simp only[Res.ret.injEq]at h1;subst h1;subst h2;exact⟨Zei _ _ _ _,h⟩) (fun d' s' ⟨h1,_⟩=>by simp at h1)
end
section
variable {P:Program}
def Zcx(P:Program)(w:World)(size m:Nat)(x:Value)(news:List Value):Prop :=
 (∀w2,(Builtin.lenOf x).run P w2=.ok m w2)∧∀w2:World,w2.heap=w.heap→(Builtin.firstCells size m x).run P w2=.ok news.toArray w2
theorem ZnW{t u ty e:TypeId}{tu:TypeDesc}{i:TypeInfo}(ht:P.underlying t=sO (.slice e))(hu:P.underlying u=sO tu)(hnu:∀k,tu≠.int k)(hi:P.info? e=sO i){base:Option Addr}{n cap:Nat}{x:Value}(hx:Zcx P w i.size 0 x [])(hroom:n≤cap):(Builtin.append_ #[t,u] ty #[.slice base n cap,x]).run P w=.ok (.slice base n cap) w:=by
 obtain⟨h1,h2⟩:=hx
 have h2:=h2 w rfl
 have hz:(match tu with|.int _=>true|_=>false)=false:=by cases tu<;>first|rfl|exact absurd rfl (hnu _)
 cases base with
 |none=>simp[Builtin.append_,run_underlying ht,run_underlying hu,hz,sizeOf,typeInfo,hi,h1,h2,hroom]
 |some a=>simp[Builtin.append_,run_underlying ht,run_underlying hu,hz,sizeOf,typeInfo,hi,h1,h2,hroom,storeCells]
theorem Zpr{t u ty e:TypeId}{tu:TypeDesc}{i:TypeInfo}(ht:P.underlying t=sO (.slice e))(hu:P.underlying u=sO tu)(hnu:∀k,tu≠.int k)(hi:P.info? e=sO i){g n cap m:Nat}{x:Value}{news:List Value}(hx:Zcx P w i.size m x news){cur:Array Value}{T:TypeId}(hg:w.heap[g]?=sO (.cells cur T (0,0)))(h1:∀u∈news,u.oneCell'=true)(hroom:n+m≤cap)(hfit:n*i.size+news.length≤cur.size):
  (Builtin.append_ #[t,u] ty #[.slice (sO ⟨g,0,nO⟩) n cap,x]).run P w =
   .ok (.slice (sO ⟨g,0,nO⟩) (n+m) cap) (w.setRow g (cur.toList.take (n*i.size)++news++cur.toList.drop (n*i.size+news.length)).toArray):=by
 obtain⟨hx1,hx2⟩:=hx
 have hx2:=hx2 w rfl
 have hz:(match tu with|.int _=>true|_=>false)=false:=by cases tu<;>first|rfl|exact absurd rfl (hnu _)
 have hst:=run_storeCells_at P g (n*i.size) T news 0 cur w hg (by simpa using hfit) h1
 simp only[Nat.add_zero]at hst
 simp[Builtin.append_,run_underlying ht,run_underlying hu,hz,sizeOf,typeInfo,hi,hx1,hx2,hroom,Addr.add_lit,hst]
theorem Zk3{t u ty e:TypeId}{tu:TypeDesc}{i:TypeInfo}{z:Value}(ht:P.underlying t=sO (.slice e))(hu:P.underlying u=sO tu)(hnu:∀k,tu≠.int k)(hi:P.info? e=sO i)(hz':i.zero=sO z){base:Option Addr}{n cap m:Nat}{x:Value}{olds news:List Value}(hx:Zcx P w i.size m x news)(ho:∀w2:World,w2.heap=w.heap→(Builtin.firstCells i.size n (.slice base n cap)).run P w2=.ok olds.toArray w2)(hg:cap<n+m)(h63:((n+m:Nat):Int)≤9223372036854775807)(hfit:(n+m)*i.bytes≤140737488355328):
  (Builtin.append_ #[t,u] ty #[.slice base n cap,x]).run P w =
   .ok (.slice (sO ⟨w.heap.size,0,nO⟩) (n+m) (grownCap w (n+m) cap e))
    (w.drew.alloc (.cells (olds++news++(Builtin.zeroCells z.cells (grownCap w (n+m) cap e-(n+m))).toList).toArray e)):=by
 obtain⟨hx1,hx2⟩:=hx
 have hx2:=hx2 w.drew rfl
 have ho:=ho w.drew rfl
 have hz:(match tu with|.int _=>true|_=>false)=false:=by cases tu<;>first|rfl|exact absurd rfl (hnu _)
 have hn:¬(n+m≤cap):=by omega
 have h63':¬(9223372036854775807<((n:Int)+(m:Int))):=by omega
 have hf:=growslice_fits hg hfit
 have h48':¬(281474976710656<Builtin.nextslicecap (n+m) cap*i.bytes):=by omega
 simp[Builtin.append_,run_underlying ht,run_underlying hu,hz,sizeOf,typeInfo,zeroValue,hi,hz',hx1,hn,h63',h48',Question.forced,hx2,ho,newRow,grownCap]
 congr 2
 apply Array.ext'
 simp[List.append_assoc]
end
structure Q8(g:G)(w:World)(sz n:Nat)(vals:List Value)(row:Nat→List D):Prop where
 len:vals.length=n*sz
 rlen:∀i,i<n→(row i).length=sz
 rep:∀(i j:Nat) (v:Value) (d:D),i<n→j<sz→vals[i*sz+j]?=some v→(row i)[j]?=some d→Rep g w v d
 one:∀v∈vals,v.one1=true
def Q2(n:Nat)(row row2:Nat→List D):Nat→List D:=fun i=>if i<n then row i else row2 (i-n)
theorem Q8.append{sz n m:Nat}{a b:List Value}{row row2:Nat→List D}(ha:Q8 g w sz n a row)(hb:Q8 g w sz m b row2):Q8 g w sz (n+m) (a++b) (Q2 n row row2):={
 len:=by rw[Zyr,ha.len,hb.len,ZyI]
 rlen i hi:=by
  unfold Q2
  split
  ·rename_i h;exact ha.rlen i h
  ·exact hb.rlen (i-n) (by omega)
 rep i j v d hi hj hv hd:=by
  unfold Q2 at hd
  split at hd
  ·rename_i h
   have:i*sz+j<a.length:=by
    rw[ha.len]
    have:=ZyD sz (show i+1≤n from h)
    rw[ZyI,Nat.one_mul]at this;omega
   rw[ZyM this]at hv
   exact ha.rep i j v d h hj hv hd
  ·rename_i h
   have e:i*sz+j-a.length=(i-n)*sz+j:=by
    rw[ha.len,Nat.sub_mul]
    have:=ZyD sz (show n≤i by omega)
    omega
   have hge:a.length≤i*sz+j:=by
    rw[ha.len]
    have:=ZyD sz (show n≤i by omega)
    omega
   rw[List.getElem?_append_right hge,e]at hv
   exact hb.rep (i-n) j v d (by omega) hj hv hd
 one v hv:=by
  rcases List.mem_append.1 hv with h|h
  ·exact ha.one v h
  ·exact hb.one v h }
theorem Q8.mono{g g':G}{w w':World}{sz n:Nat}{a:List Value}(h:Q8 g w sz n a row)(e:Ext g w g' w'):Q8 g' w' sz n a row :=
 ⟨h.len,h.rlen,fun i j v d hi hj hv hd=>(h.rep i j v d hi hj hv hd).mono e,h.one⟩
theorem Zc7{b o:Nat}{cs:Array Value}{T:TypeId}{fr:Nat×Nat}(h:w.heap[b]?=sO (.cells cs T fr)):w.cell? ⟨b,o,nO⟩=cs[o]?:=by
 unfold World.cell?;simp[h]
section
variable {P:Program}
theorem Zh5{v:Value}{t:Tok}{n sz:Nat}(h:Rep g w v (.sl t n sz row))(hsz:0<sz):
  ∃vals,Q8 g w sz n vals row∧Zcx P w sz n v vals:=by
 cases h with
 |sl0 a t s row ht =>
  refine⟨[],⟨by simp,fun i hi=>by omega,fun i j v d hi=>by omega,by simp⟩,fun w2=>by simp[Builtin.lenOf],fun w2 _=>by cases a<;>simp[Builtin.firstCells,loadCells,loadCellsFrom]⟩
 |sl b o n cap s row t f hl hc hp hr one ht hcap hb =>
  let vals:=(Zyl (n*sz)).map fun k=>f (k / sz) (k % sz)
  have hk:∀k,k<n*sz→k / sz<n∧k % sz<sz:=fun k hk=>⟨(Nat.div_lt_iff_lt_mul hsz).2 hk,Nat.mod_lt _ hsz⟩
  have hvals:∀k v,vals[k]?=sO v→k<n*sz∧v=f (k / sz) (k % sz):=fun k v hv=>by
   simp only[vals,List.getElem?_map,Zym]at hv
   obtain⟨k',h1,h2⟩:=hv
   obtain⟨h3,h4⟩:=List.getElem?_eq_some_iff.1 h1
   simp only[List.getElem_range]at h4
   subst h4
   exact⟨by simpa using h3,h2.symm⟩
  refine⟨vals,⟨by simp[vals],hl,fun i j v d hi hj hv hd=>?_,fun v hv=>?_⟩,fun w2=>by simp[Builtin.lenOf],fun w2 hw2=>?_⟩
  ·obtain⟨_,rfl⟩:=hvals _ _ hv
   have e1:(i*sz+j) / sz=i:=by rw[Nat.mul_comm,Nat.mul_add_div hsz,Nat.div_eq_of_lt hj,Nat.add_zero]
   have e2:(i*sz+j) % sz=j:=by rw[Nat.mul_comm,Nat.mul_add_mod,Nat.mod_eq_of_lt hj]
   rw[e1,e2]
   exact hr i j d hi hd
  ·obtain⟨k,hk',rfl⟩:=ZyC hv
   obtain⟨h1,h2⟩:=hvals k _ (ZyK hk')
   rw[h2]
   exact one _ _ (hk k h1).1 (hk k h1).2
  ·refine run_firstCells_some (P:=P) w2 sz n ⟨b,o,nO⟩ n cap vals (by simp[vals]) fun k v hv=>?_
   obtain⟨h1,h2⟩:=hvals k v hv
   have hadd:(⟨b,o,nO⟩:Addr).add k=⟨b,o+k,nO⟩:=Ji b o k
   rw[hadd]
   have h3:=hc (k / sz) (k % sz) (hk k h1).1 (hk k h1).2
   have e:o+k / sz*sz+k % sz=o+k:=by rw[Nat.add_assoc,Nat.mul_comm,Nat.div_add_mod]
   rw[e]at h3
   rw[h2,←h3]
   unfold World.cell?;simp only[hw2]
theorem ZmN{sz n cap b:Nat}{vals:List Value}(h:Q8 g w sz n vals row){cur:Array Value}{T:TypeId}(hb:w.heap[b]?=sO (.cells cur T (0,0)))(ht:cur.toList.take (n*sz)=vals)(hn:n≤cap)(hcap:cap*sz≤cur.size)(hp:g.prot b=n*sz)(hbig:cap≤big):Rep g w (.slice (sO ⟨b,0,nO⟩) n cap) (.sl (.tip b) n sz row):=by
 have hidx:∀i j,i<n→j<sz→i*sz+j<n*sz:=fun i j hi hj=>by
  have:=ZyD sz (show i+1≤n from hi)
  rw[ZyI,Nat.one_mul]at this;omega
 have hle:n*sz≤cur.size:=Nat.le_trans (ZyD sz hn) hcap
 have hcell:∀i j,i<n→j<sz→cur[i*sz+j]?=sO (cur.getD (i*sz+j) undef)∧vals[i*sz+j]?=sO (cur.getD (i*sz+j) undef):=fun i j hi hj=>by
  have h1:=hidx i j hi hj
  have h2:i*sz+j<cur.size:=by omega
  have e:cur[i*sz+j]?=sO (cur.getD (i*sz+j) undef):=by simp[Array.getD,h2]
  refine⟨e,?_⟩
  rw[←ht,ZyO,if_pos h1,Array.getElem?_toList];exact e
 refine .sl b 0 n cap sz row (.tip b) (fun i j=>cur.getD (i*sz+j) undef) h.rlen (fun i j hi hj=>?_) (fun i j hi hj=>?_) (fun i j d hi hd=>?_) (fun i j hi hj=>?_) ⟨rfl,rfl,T,cur.size,?_,hcap⟩ hn hbig
 ·rw[Zc7 hb,Nat.zero_add];exact(hcell i j hi hj).1
 ·rw[hp,Nat.zero_add];exact hidx i j hi hj
 ·have hj:j<sz:=by rw[←h.rlen i hi];exact(List.getElem?_eq_some_iff.1 hd).1
  exact h.rep i j _ d hi hj (hcell i j hi hj).2 hd
 ·exact h.one _ (List.mem_of_getElem? (hcell i j hi hj).2)
 ·simp[hdr,hb]
end
def St.own(s:St)(t:Tok)(k:Nat):St :=
 match t with
 |.tip b=>s.upd b (.tip k)
 |_=>s
def Tok.okIn(t:Tok)(s:St):Prop :=
 match t with
 |.tip b=>s b=Option.none
 |.full=>True
 |.none=>False
theorem Qz{t:Tok}{k:Nat}(h:t.okIn s):s.sub (s.own t k):=by
 intro b o ho
 cases t with
 |tip c =>
  simp only[St.own,St.upd]
  by_cases hb:b=c
  ·subst hb;simp only[Tok.okIn]at h;rw[h]at ho;simp at ho
  ·simp only[hb,if_false];exact ho
 |_=>exact ho
theorem WQ.upd(h:WQ g s w){b:Nat}{o:Wt}(ho:Q6 g w b o)(hk:¬g.kept b):WQ g (s.upd b o) w:={
 obj c x hx:=by
  simp only[St.upd]at hx
  by_cases hb:c=b
  ·simp only[hb,if_true,Zyd]at hx;subst hx;rw[hb];exact ho
  ·simp only[hb,if_false]at hx;exact h.obj c x hx
 kept c x hx:=by
  simp only[St.upd]at hx
  by_cases hb:c=b
  ·rw[hb];exact hk
  ·simp only[hb,if_false]at hx;exact h.kept c x hx
 fresh:=h.fresh
 tabs:=h.tabs }
def ZdC(g:G)(b k:Nat):G:={ g with prot:=fun c=>if c=b then k else g.prot c }
theorem Zvp(c:Array Value)(T:TypeId)(k:Nat)(hf:∀b,w.heap.size≤b→g.prot b=0∧¬g.kept b):ZbD g w (ZdC g w.heap.size k) (w.drew.alloc (.cells c T)):={
 size:=by simp
 old b hb:=(by first|exact heap_alloc_old w.drew _ b hb|exact heap_alloc_old w.drew _ hb)
 prot b hb:=by simp[ZdC,show ¬b=w.heap.size by omega]
 fresh b hb:=by
  have:(w.drew.alloc (.cells c T)).heap.size=w.heap.size+1:=by simp
  rw[this]at hb
  simp only[ZdC,show ¬b=w.heap.size by omega,if_false]
  exact(hf b (by omega)).1
 kept:=rfl
 os:=rfl
 output:=rfl
 tape:=rfl }
theorem Rep.slRow{v:Value}{t:Tok}{n sz:Nat}{row row':Nat→List D}(h:Rep g w v (.sl t n sz row))(hr:∀i,i<n→row' i=row i):Rep g w v (.sl t n sz row'):=by
 cases h with
 |sl0 a t s row ht=>exact .sl0 a t sz row' ht
 |sl b o n cap s row t f hl hc hp hrep one ht hcap hb =>
  exact .sl b o n cap sz row' t f (fun i hi=>by rw[hr i hi];exact hl i hi) hc hp (fun i j d hi hd=>hrep i j d hi (by rw[←hr i hi];exact hd)) one ht hcap hb
section
variable {P:Program}
theorem Zwg{sz k:Nat}{vals rest:List Value}{T:TypeId}{cap:Nat}(hs:WQ g s w)(hr:Q8 g w sz k vals row)(hn:k≤cap)(hrest:vals.length+rest.length=cap*sz)(hbig:cap≤big):
  let w':=w.drew.alloc (.cells (vals++rest).toArray T)
  let g':=ZdC g w.heap.size (k*sz)
  ZbD g w g' w'∧WQ g' (s.own (.tip w.heap.size) (k*sz)) w'∧(Tok.tip w.heap.size).okIn s∧Rep g' w' (.slice (sO ⟨w.heap.size,0,nO⟩) k cap) (.sl (.tip w.heap.size) k sz row):=by
 intro w' g'
 have hg:ZbD g w g' w':=Zvp _ T _ hs.fresh
 have hnew:w'.heap[w.heap.size]?=sO (.cells (vals++rest).toArray T (0,0)):=heap_alloc_new w.drew _
 have hp:g'.prot w.heap.size=k*sz:=by simp[g',ZdC]
 have hle:k*sz≤(vals++rest).toArray.size:=by
  have:=ZyD sz hn
  simp only[List.size_toArray,Zyr];omega
 refine⟨hg,(hs.grow hg).upd ⟨hp,_,T,hnew,hle⟩ (fun h=>(hs.fresh _ (Zys _)).2 h),?_,?_⟩
 ·simp only[Tok.okIn]
  cases hsb:s w.heap.size with
  |none=>rfl
  |some o=>have:=(hs.obj _ o hsb).lt;omega
 ·refine ZmN (hr.mono (hg.ext hs.fresh)) hnew ?_ hn ?_ hp hbig
  ·rw[←hr.len];simp
  ·simp only[List.size_toArray,Zyr];omega
theorem Zpq{t:Tok}{sz n m:Nat}{v1 v2:Value}{row row2:Nat→List D}{tT u ty e:TypeId}{tu:TypeDesc}{i:TypeInfo}{z:Value}(ht:P.underlying tT=sO (.slice e))(hu:P.underlying u=sO tu)(hnu:∀k,tu≠.int k)(hi:P.info? e=sO i)(hz:i.zero=sO z)(hsz:i.size=sz)(hzc:z.cells.size=sz)(h0:0<sz)(hs:WQ g (s.own t (n*sz)) w)(hok:t.okIn s)(h1:Rep g w v1 (.sl t n sz row)){news:List Value}(h2:Q8 g w sz m news row2)(h3:Zcx P w sz m v2 news)(hb:(n+m)*i.bytes≤140737488355328)(hbig:n+m≤big):
  ∃v' w' g' t',(Builtin.append_ #[tT,u] ty #[v1,v2]).run P w=.ok v' w'∧Ext g w g' w'∧WQ g' (s.own t' ((n+m)*sz)) w'∧t'.okIn s∧Rep g' w' v' (.sl t' (n+m) sz (Q2 n row row2)) ∧
   (∀b,b<w.heap.size→t≠.tip b→w'.heap[b]?=w.heap[b]?∧g'.prot b=g.prot b)∧∀b,t'=.tip b→t=.tip b∨w.heap.size≤b:=by
 subst hsz
 have hs0:WQ g s w:=hs.sub (Qz hok)
 obtain⟨olds,hr1,ho1,ho2⟩:=Zh5 (P:=P) h1 h0
 have hrr:=hr1.append h2
 have grown:∀base cap,v1=.slice base n cap→cap<n+m→∃v' w' g' t',(Builtin.append_ #[tT,u] ty #[v1,v2]).run P w=.ok v' w'∧Ext g w g' w'∧WQ g' (s.own t' ((n+m)*i.size)) w'∧t'.okIn s ∧
   Rep g' w' v' (.sl t' (n+m) i.size (Q2 n row row2))∧(∀b,b<w.heap.size→t≠.tip b→w'.heap[b]?=w.heap[b]?∧g'.prot b=g.prot b)∧∀b,t'=.tip b→t=.tip b∨w.heap.size≤b:=by
  intro base cap hv hlt
  subst hv
  have hrun:=Zk3 (ty:=ty) ht hu hnu hi hz h3 ho2 hlt (by simp only[big]at hbig;omega) hb
  have hge:=grownCap_ge w (n+m) cap e
  have hle:=grownCap_le_maxLen w (n+m) cap e (by simp only[big]at hbig;simp only[maxLen];omega)
  have hn:=Zwg (T:=e) (rest:=(Builtin.zeroCells z.cells (grownCap w (n+m) cap e-(n+m))).toList) hs0 hrr hge (by
   simp only[Array.length_toList,size_zeroCells,hzc,hrr.len,←ZyI];congr 1;omega) (by simp only[maxLen]at hle;simp only[big];omega)
  obtain⟨a1,a2,a3,a4⟩:=hn
  exact⟨_,_,_,_,hrun,a1.ext hs0.fresh,a2,a3,a4,fun b hb _=>⟨a1.old b hb,a1.prot b hb⟩,fun b hb=>.inr (by simp only[Tok.tip.injEq]at hb;omega)⟩
 have stay:∀base cap,v1=.slice base n cap→m=0→n≤cap→∃v' w' g' t',(Builtin.append_ #[tT,u] ty #[v1,v2]).run P w=.ok v' w'∧Ext g w g' w'∧WQ g' (s.own t' ((n+m)*i.size)) w'∧t'.okIn s ∧
   Rep g' w' v' (.sl t' (n+m) i.size (Q2 n row row2))∧(∀b,b<w.heap.size→t≠.tip b→w'.heap[b]?=w.heap[b]?∧g'.prot b=g.prot b)∧∀b,t'=.tip b→t=.tip b∨w.heap.size≤b:=by
  intro base cap hv hm hle
  subst hv;subst hm
  have hne:news=[]:=List.eq_nil_of_length_eq_zero (by simpa using h2.len)
  subst hne
  exact⟨_,_,g,t,ZnW (ty:=ty) ht hu hnu hi h3 hle,Ext.refl g w,hs,hok,h1.slRow fun i hi=>by simp only[Q2,if_pos (show i<n from hi)],fun _ _ _=>⟨rfl,rfl⟩,fun b hb=>.inl hb⟩
 cases h1 with
 |sl0 a t s row htt =>
  by_cases hm:m=0
  ·exact stay a 0 rfl hm (Zys _)
  ·exact grown a 0 rfl (by omega)
 |sl b o n cap sz row t f hl hc hp hr one htok hcap hb' =>
  have hgr:=grown (sO ⟨b,o,nO⟩) cap rfl
  have hst:=stay (sO ⟨b,o,nO⟩) cap rfl
  by_cases hm:m=0
  ·exact hst hm hcap
  by_cases hroom:n+m≤cap
  case neg=>exact hgr (by omega)
  cases t with
  |none=>exact hok.elim
  |full=>simp only[ZjV]at htok;omega
  |tip tb =>
   obtain⟨rfl,rfl,T0,m0,hh,hm0⟩:=htok
   have hobj:=hs.obj b (.tip (n*i.size)) (by simp[St.own,St.upd])
   have hkept:=hs.kept b (.tip (n*i.size)) (by simp[St.own,St.upd])
   obtain⟨hp0,cur,T,hb1,hb2⟩:=hobj
   have hcs:cap*i.size≤cur.size:=by
    simp only[hdr,hb1,Zyd,Zyh]at hh
    omega
   have hfit:n*i.size+news.length≤cur.size:=by
    rw[h2.len,←ZyI];exact Nat.le_trans (ZyD _ hroom) hcs
   have hrun:=Zpr (ty:=ty) ht hu hnu hi h3 hb1 (fun v hv=>by rw[Zd2];exact h2.one v hv) hroom hfit
   have hcells:∀k v,(cur.toList.take (n*i.size))[k]?=sO v→w.cell? ((⟨b,0,nO⟩:Addr).add k)=sO v:=fun k v hv=>by
    rw[Ji,Zc7 hb1,Nat.zero_add]
    rw[ZyO]at hv
    split at hv
    ·simpa using hv
    ·simp at hv
   have hol:olds=cur.toList.take (n*i.size):=by
    have h:=run_firstCells_some (P:=P) w i.size n ⟨b,0,nO⟩ n cap (cur.toList.take (n*i.size)) (by simp;omega) hcells
    rw[ho2 w rfl]at h
    simpa using h
   generalize hnw:cur.toList.take (n*i.size)++news++cur.toList.drop (n*i.size+news.length)=nw at hrun
   have hnl:nw.length=cur.size:=by
    rw[←hnw];simp only[Zyr,Zyw,ZyU,Array.length_toList];omega
   have hh':=setRow_heap w b cur nw.toArray T (0,0) hb1
   have ho':∀c,c≠b→(w.setRow b nw.toArray).heap[c]?=w.heap[c]?:=fun c hc=>setRow_other w b c _ hc
   have hsz':(w.setRow b nw.toArray).heap.size=w.heap.size:=by simp[World.setRow]
   have hk2:n*i.size≤(n+m)*i.size:=ZyD _ (by omega)
   have hext:Ext g w (ZdC g b ((n+m)*i.size)) (w.setRow b nw.toArray):=by
    refine⟨by omega,fun c=>?_,fun c o ho=>?_,fun c x hx=>?_,fun c hc=>ho' c (fun h=>hkept (h▸hc)),fun c hc=>?_,rfl,rfl,rfl,rfl⟩
    ·simp only[ZdC]
     split
     ·rename_i h;rw[h,hp0];exact hk2
     ·exact Zys _
    ·by_cases hc:c=b
     ·subst hc
      rw[Zc7 hh',Zc7 hb1]
      rw[hp0]at ho
      have:o<(cur.toList.take (n*i.size)).length:=by simp;omega
      rw[List.getElem?_toArray,←hnw,List.append_assoc,ZyM this,ZyO,if_pos ho]
      simp
     ·exact Za6 (ho' c hc)
    ·by_cases hc:c=b
     ·subst hc
      simp only[hdr,hb1]at hx
      simp only[hdr,hh',List.size_toArray,hnl];exact hx
     ·rw[ZcC (ho' c hc)];exact hx
    ·simp only[ZdC]
     split
     ·rename_i h;exact absurd hc (h▸hkept)
     ·rfl
   have hp':(ZdC g b ((n+m)*i.size)).prot b=(n+m)*i.size:=by simp[ZdC]
   refine⟨_,_,ZdC g b ((n+m)*i.size),.tip b,hrun,hext,?_,hok,?_,fun c _ hc=>?_,fun c hc=>.inl hc⟩
   ·refine⟨fun c x hx=>?_,fun c x hx=>?_,fun c hc=>?_,fun n cs hc=>(hs0.tabs n cs hc).mono hext⟩
    ·by_cases hc:c=b
     ·subst hc
      simp only[St.own,St.upd,if_true,Zyd]at hx
      subst hx
      refine⟨hp',_,T,hh',?_⟩
      simp only[List.size_toArray,hnl]
      exact Nat.le_trans (ZyD _ hroom) hcs
     ·simp only[St.own,St.upd,hc,if_false]at hx
      exact(hs0.obj c x hx).mono hext (ho' c hc) (by simp[ZdC,hc])
    ·by_cases hc:c=b
     ·rw[hc];exact hkept
     ·simp only[St.own,St.upd,hc,if_false]at hx
      exact hs0.kept c x hx
    ·rw[hsz']at hc
     have hbl:b<w.heap.size:=(Array.getElem?_eq_some_iff.1 hb1).1
     simp only[ZdC,show ¬c=b by omega,if_false]
     exact hs0.fresh c hc
   ·refine ZmN (hrr.mono hext) hh' ?_ hroom (by simp only[List.size_toArray,hnl];exact hcs) hp' hb'
    have hl2:(olds++news).length=(n+m)*i.size:=hrr.len
    rw[←hnw,hol,←hl2,hol]
    exact List.take_left
   ·have:c≠b:=fun h=>hc (by rw[h])
    exact⟨ho' c this,by simp[ZdC,this]⟩
end
end Go.DL
namespace Go.DL
open Go Go.Lib
variable [Zpk]
def ZcB(s:Nat):D→Option (Nat×(Nat→List D))
 |.nilsl=>sO (0,fun _=>[])
 |.sl _ m s' row=>if s'=s then sO (m,row) else nO
 |.str l=>if s=1 then sO (l.length,fun i=>[.int .u8 ((l.getD i 0).toNat:Int)]) else nO
 |_=>nO
def Zfr(s:Nat):D→Option (Tok×Nat×(Nat→List D))
 |.nilsl=>sO (.full,0,fun _=>[])
 |.sl t n s' row=>if s'=s then sO (t,n,row) else nO
 |_=>nO
theorem ZjW{g:G}{w:World}{v:Value}{d:D}{sz n:Nat}{t:Tok}{row:Nat→List D}(h:Rep g w v d)(he:Zfr sz d=sO (t,n,row)):Rep g w v (.sl t n sz row):=by
 cases d<;>simp only[Zfr,reduceCtorEq]at he
 ·simp only[Zyd,Zyh]at he
  obtain⟨rfl,rfl,rfl⟩:=he
  cases h
  exact .sl0 _ _ _ _ (by simp)
 ·split at he<;>simp only[Zyd,Zyh,reduceCtorEq]at he
  rename_i hs
  obtain⟨rfl,rfl,rfl⟩:=he
  subst hs;exact h
section
variable {P:Program}
theorem Zet{op:Op}{e s b:Nat}{z:List D}{x y:Opd}(h:ck P op=sO (.append e s b z x y)) :
  ∃x' y' args ats t1 t2 tu,op=.call ⟨.builtin .append,args,ats⟩∧args.toList=[x',y']∧ats[0]?=sO t1∧ats[1]?=sO t2∧P.underlying t1=sO (.slice e)∧P.underlying t2=sO tu∧(∀k,tu≠.int k) ∧
   YY P e=sO s∧ZbV P e=sO z∧b=P.bytesOf e∧Y7 x'=sO x∧Y7 y'=sO y∧0<s∧z.length=s:=by
 unfold ck at h
 split at h
 ·simp at h
 ·split at h<;>(try(simp at h;done))
  all_goals (try(repeat' (split at h<;>(try(simp at h;done)))))
  all_goals
   simp only[Zyd,K.append.injEq]at h
   obtain⟨rfl,rfl,rfl,rfl,rfl,rfl⟩:=h
  ·rename_i c _ _ hcal _ _ _ e' x' y' h0 hargs _ _ _ _ s' z' l' c' hs' hz' hx' hy' t2 el h1 hdec
   obtain⟨t1,g1,g2⟩:=Option.bind_eq_some_iff.1 h0
   obtain⟨t3,g3,g4⟩:=Option.bind_eq_some_iff.1 h1
   simp only[Zyk,decide_eq_true_eq]at hdec
   obtain⟨callee,args,ats⟩:=c
   simp only at hcal
   subst hcal
   exact⟨x',y',args,ats,t1,t3,_,rfl,hargs,g1,g3,g2,g4,fun k h=>by simp at h,hs',hz',rfl,hx',hy',hdec.1,hdec.2⟩
  ·rename_i c _ _ hcal _ _ _ e' x' y' h0 hargs _ _ _ _ s' z' l' c' hs' hz' hx' hy' t2 h1 hdec
   obtain⟨t1,g1,g2⟩:=Option.bind_eq_some_iff.1 h0
   obtain⟨t3,g3,g4⟩:=Option.bind_eq_some_iff.1 h1
   simp only[Zyk,decide_eq_true_eq]at hdec
   obtain⟨callee,args,ats⟩:=c
   simp only at hcal
   subst hcal
   exact⟨x',y',args,ats,t1,t3,_,rfl,hargs,g1,g3,g2,g4,fun k h=>by simp at h,hs',hz',rfl,hx',hy',hdec.1,hdec.2⟩
theorem ZpT{g:G}{w:World}{v:Value}{d:D}{sz m:Nat}{row:Nat→List D}(h:Rep g w v d)(he:ZcB sz d=sO (m,row))(h0:0<sz):∃news,Q8 g w sz m news row∧Zcx P w sz m v news:=by
 cases d with
 |nilsl =>
  simp only[ZcB,Zyd,Zyh]at he
  obtain⟨rfl,rfl⟩:=he
  cases h
  exact⟨[],⟨by simp,fun i hi=>by omega,fun i j v d hi=>by omega,by simp⟩,fun w2=>by simp[Builtin.lenOf],fun w2 _=>by simp[Builtin.firstCells]⟩
 |sl t n s' row' =>
  simp only[ZcB]at he
  split at he<;>simp only[Zyd,Zyh,reduceCtorEq]at he
  rename_i hs
  obtain⟨rfl,rfl⟩:=he
  subst hs
  exact Zh5 h h0
 |str l =>
  simp only[ZcB]at he
  split at he<;>simp only[Zyd,Zyh,reduceCtorEq]at he
  rename_i hs
  obtain⟨rfl,rfl⟩:=he
  subst hs
  cases h with
  |str s _ hl hb =>
   subst hl
   have hsz:s.size=s.data.toList.length:=by rw[Array.length_toList];rfl
   refine⟨strCells s,⟨by simp[strCells],fun i hi=>rfl,fun i j v d hi hj hv hd=>?_,fun v hv=>by rw[←Zd2];exact strCells_oneCell s v hv⟩,fun w2=>by simp only[Builtin.lenOf,Sem.run_pure,hsz],fun w2 _=>?_⟩
   ·obtain rfl:j=0:=by omega
    simp only[Nat.mul_one,Nat.add_zero,strCells,List.getElem?_map,Zym]at hv
    obtain⟨b,hb1,rfl⟩:=hv
    simp only[List.getElem?_cons_zero,Zyd]at hd
    subst hd
    have:s.data.toList.getD i 0=b:=by simp only[Zyx,hb1,ZyL]
    rw[this]
    exact .int .u8 _ (Zp6 b)
   ·rw[←hsz];exact run_firstCells_string w2 1 s
 |_=>simp[ZcB]at he
theorem Zty{F:Fr P}{kp:Option (List Nat)}{dk:List Zu}{o:DOp}{os:List DOp}{ρ:Env}{L:Loc}{s:St}(hg:Zy ρ o.guard=sO true){e sz b:Nat}{z:List D}{x y:Opd}(hk:o.k=.append e sz b z x y)
  {p q:Prop} {t:Tok} {n m:Nat} {row row2:Nat→List D} {dy:D} {dx:D} (hx:Z9 ρ true x=sO (p,.d dx)) (hsl:Zfr sz dx=sO (t,n,row)) (hy:Z9 ρ true y=sO (q,.d dy)) (hp:p) (hq:q) (hel:ZcB sz dy=sO (m,row2)) (hok:t.okIn s)
  (hb:(n+m)*b≤140737488355328) (hbig:n+m≤big) (h:∀t':Tok,t'.okIn s→DO F kp dk os (ZX ρ o.dst (.d (.sl t' (n+m) sz (Q2 n row row2)))) L (s.own t' ((n+m)*sz))) :
  DO F kp dk (o::os) ρ L (s.own t (n*sz)):=by
 refine Qu fun oo g ν w tmps ops i r k hoo hck hcg hdst hd hN M hr hkk=>?_
 have hw:=WC M hcg hg
 have hnd:=WS hck (by rw[hk];rfl)
 rw[hk]at hck
 obtain⟨x',y',args,ats,t1,t2,tu,hop,hargs,ha1,ha2,hu1,hu2,hnu,hsz,hz,hbb,hx',hy',h0,hzl⟩:=Zet hck
 subst hbb
 have hr1:Rep g w _ (.sl t n sz row):=ZjW (Wx M hx' rfl hx hp F.ds) hsl
 have hr2:Rep g w _ _:=Wx M hy' rfl hy hq F.ds
 obtain⟨zv,hz1,hz2,hz3,ie,hie,hzz⟩:=Zbh (g:=g) (w:=w) hz
 have hsize:ie.size=sz:=by simpa[YY,hie]using hsz
 have hzlen:zv.cells.size=sz:=by have:=hz2.len;simp at this;omega
 have hby:P.bytesOf e=ie.bytes:=by simp[Program.bytesOf,hie]
 rw[hby]at hb
 obtain⟨news,hn1,hn2⟩:=ZpT (P:=P) hr2 hel h0
 obtain⟨v',w',g',t',a1,a2,a3,a4,a5,a6,a7⟩:=Zpq (ty:=oo.type) hu1 hu2 hnu hie hzz hsize hzlen h0 M.st hok hr1 hn1 hn2 hb hbig
 have hne:∀l cs,Zo L l=sO cs→t≠.tip (ν l):=fun l cs hl ht=>by
  have:=M.locSt l cs hl
  rw[ht]at this
  simp[St.own,St.upd]at this
 have hsn:∀l cs,Zo L l=sO cs→s (ν l)=nO:=fun l cs hl=>by
  cases hx:s (ν l) with
  |none=>rfl
  |some o=>have:=Qz (k:=n*sz) hok _ _ hx;rw[M.locSt l cs hl]at this;simp at this
 have mm:ZO g' ν w' tmps ρ L (s.own t' ((n+m)*sz)):=by
  refine⟨a3,fun l cs hl=>(M.loc l cs hl).mono a2 (a6 (ν l) (M.loc l cs hl).lt (hne l cs hl)).1 (a6 (ν l) (M.loc l cs hl).lt (hne l cs hl)).2,fun l cs hl=>by rw[a2.keptEq];exact M.locKept l cs hl,fun l cs hl=>?_,M.inj,fun t e he=>(M.env t e he).mono a2⟩
  cases t' with
  |tip b =>
   have:¬ν l=b:=fun hb=>by
    rcases a7 b rfl with h1|h1
    ·exact hne l cs hl (by rw[hb];exact h1)
    ·have:=(M.loc l cs hl).lt;omega
   simp only[St.own,St.upd,this,if_false];exact hsn l cs hl
  |_=>exact hsn l cs hl
 refine KQ hN hoo hdst hd hw hnd (v:=v') (w':=w') (e:=.d (.sl t' (n+m) sz (Q2 n row row2))) ?_ a2 mm a5 (h t' a4 ops r k hr hkk)
 have hae:args = #[x',y']:=by apply Array.ext';simpa using hargs
 have hats:∀vs,Builtin.append_ ats oo.type vs=Builtin.append_ #[t1,t2] oo.type vs:=fun vs=>by
  unfold Builtin.append_;simp[ha1,ha2]
 unfold execOp
 simp only[hop,hae,resolve,invoke,builtin,Sem.run_bind,Sem.run_pure,Result.andThen_ok,List.map_toArray,Zyp,ZyF,hats,a1]
end
end Go.DL
namespace Go.DL
open Go
variable [Zpk]
variable {kp:Option (List Nat)}{L:Loc}{ρ:Env}{s:St}{w:World}{os:List DOp}{ds:List D}{B:List (Nat × Rd)}{dst:Option Nat}{tmps:Array Value}{g:G}{Φ:Res→St→Prop}{ν:Nat→Nat}{xs:List Opd}{side:Prop}{row:Nat→List D}
def Jo(os:List DOp):List (DOp×List Nat):=os.map fun o=>(o,[])
section
variable {P:Program}
def ZdO(F:Fr P)(kp:Option (List Nat))(dk:List Zu)(os:List DOp)(ρ:Env)(L:Loc)(s:St):Prop:=∀B,DOA F kp dk (Jo os) ρ L s B
theorem Zdj{F:Fr P}{order:List Nat}{ks:Option (List Nat)}{dk:List Zu}(h:ZdO F ks dk os ρ L s):ZS F (.code (.regD order (Jo os) ks)::dk) ρ L s:=Zep (h [])
theorem Ql{F:Fr P}{ks:List Nat}{dk:List Zu}:∀{os:List DOp} {ρ:Env} {L:Loc} {s:St},
  ZiS (fun ρ L s=>ZS F dk (WV ρ ks) (ZcS (WV ρ ks) L) s) (fun os ρ L s=>ZdO F (sO ks) dk os ρ L s) os ρ L s→ZdO F (sO ks) dk os ρ L s
 | [],ρ,L,s,h=>fun B=>ZmU h
 |o::os,ρ,L,s,h=>by
  intro B
  simp only[ZiS]at h
  split at h
  ·rename_i sd ρ' L' s' hst
   refine Zbk hst h.1 ?_
   split
   ·exact Ql h.2 _
   ·exact⟨Zbp,Ql h.2 _⟩
  ·rename_i sd pre ρ' s' hst
   exact ZrE hst h.1 fun b hb=>⟨Zbp,Ql (h.2 b hb) _⟩
  ·exact h B
theorem Zsd{F:Fr P}{dk:List Zu}{o:DOp}(hg:Zy ρ o.guard=sO true){fx:Opd}(hk:o.k=.call fx xs){p q:Prop}{fd:D}{es:List E}(hf:Z9 ρ true fx=sO (q,.d fd))(ha:WE ρ true xs=sO (p,es))(hds:QR es=sO ds)(hp:p)(hq:q){Ψ:Res→St→Prop}(hc:Jc P fd ds s Ψ)(hret:∀d s',Ψ (.ret d) s'→ZdO F kp dk os (ZX ρ o.dst (.d d)) L s')(hpan:∀d s',Ψ (.panic d) s'→K1 F [] [] d s'):ZdO F kp dk (o::os) ρ L s :=
 fun B=>Zf6 hg hk hf ha hds hp hq hc (fun d s' h=>⟨Zbp,hret d s' h _⟩) hpan
theorem ZiC{F:Fr P}{dk:List Zu}{o:DOp}(hg:Zy ρ o.guard=sO true){fx:Opd}(hk:o.k=.call fx xs){p q:Prop}{fi:FuncId}{first caps:List D}{es:List E}(hf:Z9 ρ true fx=sO (q,.d (.fn (.func fi) first caps)))(ha:WE ρ true xs=sO (p,es))(hds:QR es=sO ds)(hp:p)(hq:q){Ψ:Res→St→Prop}(hc:ZN P fi (first++ds++caps) s Ψ)(hret:∀d s',Ψ (.ret d) s'→ZdO F kp dk os (ZX ρ o.dst (.d d)) L s')(hpan:∀d s',Ψ (.panic d) s'→K1 F [] [] d s'):ZdO F kp dk (o::os) ρ L s :=
 Zsd hg hk hf ha hds hp hq hc.V hret hpan
theorem Zsc{F:Fr P}{dk:List Zu}{o:DOp}(hg:Zy ρ o.guard=sO true){x:Opd}(hk:o.k=.panic x){p:Prop}{t:TypeId}{d:D}(ha:Z9 ρ true x=sO (p,.d (.iface t d)))(hp:p)(h:K1 F [] [] (.iface t d) s):ZdO F kp dk (o::os) ρ L s:=fun _=>ZnP hg hk ha hp h
theorem Zdh{F:Fr P}{dk:List Zu}{o:DOp}(hg:Zy ρ o.guard=sO true){fx:Opd}(hk:o.k=.call fx xs){p q:Prop}{fi:FuncId}{first caps:List D}{es:List E}(hf:Z9 ρ true fx=sO (q,.d (.fn (.func fi) first caps)))(ha:WE ρ true xs=sO (p,es))(hds:QR es=sO ds)(hp:p)(hq:q){d:D}(hc:ZA P fi (first++ds++caps) d)(h:ZdO F kp dk os (ZX ρ o.dst (.d d)) L s):ZdO F kp dk (o::os) ρ L s:=fun _=>ZaF hg hk hf ha hds hp hq hc (h _)
theorem Zkw{F:Fr P}{dk:List Zu}{o:DOp}{c:Bool}(hg:Zy ρ o.guard=sO c){fx:Opd}(hk:o.k=.call fx xs){p q:Prop}{fi:FuncId}{first caps:List D}{es:List E}(hf:Z9 ρ c fx=sO (q,.d (.fn (.func fi) first caps)))(ha:WE ρ c xs=sO (p,es))(hds:QR es=sO ds){d:D}(hc:c=true→p∧q∧ZA P fi (first++ds++caps) d)(h:ZdO F kp dk os (ZX ρ o.dst (.when c (.d d))) L s):ZdO F kp dk (o::os) ρ L s:=fun _=>Zcj hg hk hf ha hds hc (h _)
end
def Yz(l b:Nat):E→E
 |.d v=>.d v
 |.loc l' off=>if l'=l then .d (.ptr b off) else .loc l' off
 |.when c e=>.when c (Yz l b e)
def Yd(l b:Nat):Env→Env
 | []=>[]
 | (t,e)::r=>(t,Yz l b e)::Yd l b r
def delL(l:Nat):Loc→Loc
 | []=>[]
 | (k,c)::r=>if k=l then delL l r else (k,c)::delL l r
theorem Zeh(l b:Nat):∀(ρ:Env) (t:Nat),Yv (Yd l b ρ) t=(Yv ρ t).map (Yz l b)
 | [],t=>rfl
 | (k,e)::r,t=>by
  simp only[Yd,Yv]
  by_cases h:k=t
  ·simp[h]
  ·simp only[h,if_false];exact Zeh l b r t
theorem ZdV(l:Nat):∀(L:Loc) (x:Nat),Zo (delL l L) x=if x=l then nO else Zo L x
 | [],x=>by simp[delL,Zo]
 | (k,c)::r,x=>by
  simp only[delL]
  by_cases h:k=l
  ·simp only[h,if_true,Zo,ZdV l r x]
   by_cases hx:x=l
   ·simp[hx]
   ·simp[hx,show ¬l=x from fun h=>hx h.symm]
  ·simp only[h,if_false,Zo,ZdV l r x]
   by_cases hx:x=l
   ·subst hx;simp[h]
   ·simp[hx]
section
variable {P:Program}
theorem Yo.expose{l:Nat}{v:Value}{e:E}(h:Yo g ν w L v e):Yo g ν w (delL l L) v (Yz l (ν l) e):=by
 induction e with
 |d x=>exact h
 |loc l' off =>
  obtain⟨⟨cs,hcs⟩,rfl⟩:=h
  simp only[Yz]
  split
  ·rename_i hl;subst hl;exact Rep.ptr _ _
  ·rename_i hl;exact⟨⟨cs,by rw[ZdV,if_neg hl];exact hcs⟩,rfl⟩
 |when c e ih=>exact⟨fun hc=>ih (h.1 hc),h.2⟩
theorem ZO.expose(m:ZO g ν w tmps ρ L s){l:Nat}{cs:List D}(hl:Zo L l=sO cs):
  s (ν l)=nO∧ZO g ν w tmps (Yd l (ν l) ρ) (delL l L) (s.upd (ν l) (.cells cs)):=by
 have hsub:∀l' cs',Zo (delL l L) l'=sO cs'→l'≠l∧Zo L l'=sO cs':=fun l' cs' h=>by
  rw[ZdV]at h
  split at h
  ·simp at h
  ·exact⟨‹_›,h⟩
 refine⟨m.locSt l cs hl,⟨m.st.updL (o:=.cells cs) (m.loc l cs hl) (m.locKept l cs hl),fun l' cs' h=>m.loc l' cs' (hsub l' cs' h).2,fun l' cs' h=>m.locKept l' cs' (hsub l' cs' h).2,fun l' cs' h=>?_,fun a b ca cb ha hb hab=>m.inj a b ca cb (hsub a ca ha).2 (hsub b cb hb).2 hab,fun t e he=>?_⟩⟩
 ·obtain⟨h1,h2⟩:=hsub l' cs' h
  have:ν l'≠ν l:=fun hh=>h1 (m.inj l' l cs' cs h2 hl hh)
  simp only[St.upd,this,if_false];exact m.locSt l' cs' h2
 ·rw[Zeh]at he
  simp only[Zym]at he
  obtain⟨e0,h1,rfl⟩:=he
  exact(m.env t e0 h1).expose
theorem Z1{F:Fr P}{dk:List Zu}(l:Nat){cs:List D}(hl:Zo L l=sO cs)(h:∀b,s b=nO→ZS F dk (Yd l b ρ) (delL l L) (s.upd b (.cells cs))):ZS F dk ρ L s:=by
 intro k hk g ν w tmps hN m
 obtain⟨h1,h2⟩:=m.expose hl
 exact h (ν l) h1 k hk g ν w tmps hN h2
def Ja:List Nat→List D→Env→Env
 |t::ts,a::as9,ρ=>Ja ts as9 ((t,.d a)::ρ)
 |_,_,ρ=>ρ
def Zji(P:Program)(c:Frame)(cs:List Frame)(Φ:Res→St→Prop):Zsj P where
 T g w m:=∃e w',ZgP g w Φ e w'∧Zw5 P m c cs e w'
 back g w m m' hs h:=by
  obtain⟨e,w',a,b⟩:=h
  refine⟨e,w',a,?_⟩
  cases e with
  |returned v=>exact Steps.trans hs b
  |panicked ch=>exact Steps.trans hs b
  |outgrown=>exact b.elim
 ext g w g' w' m hx h:=by
  obtain⟨e,w2,⟨g2,s2,r,d1,d2,d3,d4⟩,b⟩:=h
  exact⟨e,w2,⟨g2,s2,r,hx.trans d1,d2,d3,d4⟩,b⟩
def Zbe(P:Program)(an:Ann)(fn:FuncId)(N l:Nat)(c:Frame)(cs:List Frame)(Φ:Res→St→Prop):Fr P where
 T:=Zji P c cs Φ
 b:={ (dE:Frame) with fn,kind:=.normal,roundOf:=sO l }
 cs:=c::cs
 N:=N
 ds:=[]
 an:=an
def J3(F:Fr P)(l:Nat)(Φ:Res→St→Prop):Prop:=∃an fn N c cs,F=Zbe P an fn N l c cs Φ
theorem ZaP{r:Nat}{o:Go.Loop}(hb:w.heap[r]?=sO (.loop o)):(getObj r).run P w=.ok (.loop o) w:=by
 simp[getObj,Sem.run,hb]
theorem ZdH{r:Nat}{o:Obj}{o':Go.Loop}(hb:w.heap[r]?=sO (.loop o')):(setObj r o).run P w=.ok () { w with heap:=w.heap.setIfInBounds r o }:=by
 simp[setObj,Sem.run,hb]
theorem ZxO{b:Nat}{o':Obj}(o:Obj)(hb:w.heap[b]?=sO o'):({ w with heap:=w.heap.setIfInBounds b o }:World).heap[b]?=sO o:=by
 have:=(Array.getElem?_eq_some_iff.1 hb).1
 simp[ZyQ,this]
theorem ZO.loopTo(m:ZO g ν w tmps ρ L s){l:Nat}{r:Qw}{st st':LSt}(hs:s l=sO (.loop r st)){lp:Go.Loop}(hh:w.heap[l]?=sO (.loop lp))(lp':Go.Loop)(h1:lp'.fn=lp.fn∧lp'.params=lp.params∧lp'.assign=lp.assign∧lp'.body=lp.body∧lp'.defers=lp.defers∧lp'.tmps=lp.tmps)(h2:match st' with|.ready=>lp'.state=.ready∧lp'.pending=nO|.busy=>lp'.state=.busy|.done j=>lp'.state=.done∧lp'.pending=sO j):
  Ext g w g { w with heap:=w.heap.setIfInBounds l (.loop lp') }∧ZO g ν { w with heap:=w.heap.setIfInBounds l (.loop lp') } tmps ρ L (s.upd l (.loop r st')):=by
 obtain⟨hp,l0,a1,a2,a3,a4,a5,a6,a7,a8,a9⟩:=m.st.obj l _ hs
 rw[hh]at a1
 simp only[Zyd,Obj.loop.injEq]at a1
 subst a1
 obtain⟨b1,b2,b3,b4,b5,b6⟩:=h1
 have he:=Zdu (g:=g) (w:=w) l (.loop lp') (by simp[hdr,hh]) hp (m.st.kept l _ hs)
 refine⟨he,m.named hs he (by simp) (fun c hc=>Zbf _ hc) ⟨hp,lp',ZxO _ hh,by rw[b1,a2],by rw[b2,a3],by rw[b3,a4],by rw[b4,a5],by rw[b5,a6],by rw[b6];exact a7,fun t e ht=>by rw[b6];exact(a8 t e ht).mono he,h2⟩⟩
theorem J3.begin{F:Fr P}{l:Nat}(hF:J3 F l Φ){dk:List Zu}{r:Qw}(hs:s l=sO (.loop r .ready))(h:ZS F dk ρ L (s.upd l (.loop r .busy))):ZS F (.beginR::dk) ρ L s:=by
 obtain⟨an,fn,N,c,cs,rfl⟩:=hF
 intro k hk
 cases hk with
 |beginR ht =>
  intro g ν w tmps hN m
  obtain⟨hp,l0,a1,a2,a3,a4,a5,a6,a7,a8,a9,a10⟩:=m.st.obj l _ hs
  obtain⟨he,m'⟩:=m.loopTo (st':=.busy) hs a1 { l0 with state:=.busy } ⟨rfl,rfl,rfl,rfl,rfl,rfl⟩ rfl
  have hrun:(Instr.beginRound l).run P w=.ok () { w with heap:=w.heap.setIfInBounds l (.loop { l0 with state:=.busy }) }:=by
   simp[Instr.beginRound,Instr.getLoop,ZaP a1,ZdH a1,a9]
  refine(Zji P c cs Φ).back _ _ _ _ (.one (stepR_beginRound rfl hrun)) ?_
  exact(Zji P c cs Φ).ext _ _ _ _ _ he (h _ ht g ν _ tmps hN m')
theorem Zfx{l:Nat}{l0:Go.Loop}(h:w.heap[l]?=sO (.loop l0))(j:Option Code):
  (Instr.endRound l j).run P w=.ok (.bool j.isNone) { w with heap:=w.heap.setIfInBounds l (.loop { l0 with state:=if j.isNone then .ready else .done,pending:=j }) }:=by
 simp[Instr.endRound,Instr.getLoop,ZaP h,ZdH h]
theorem J3.fin{F:Fr P}{l:Nat}(hF:J3 F l Φ){s s':St}{r:Qw}(hs:s l=sO (.loop r .busy))(hsub:s'.sub (s.upd l (.loop r .ready)))(hΦ:Φ (.ret (.bool true)) s'):ZS F [] ρ L s:=by
 obtain⟨an,fn,N,c,cs,rfl⟩:=hF
 intro k hk
 cases hk
 intro g ν w tmps hN m
 obtain⟨hp,l0,a1,_⟩:=m.st.obj l _ hs
 obtain⟨he,m'⟩:=m.loopTo (st':=.ready) hs a1 { l0 with state:=.ready,pending:=nO } ⟨rfl,rfl,rfl,rfl,rfl,rfl⟩ ⟨rfl,rfl⟩
 exact⟨.returned (.bool true),_,⟨g,s',.ret (.bool true),he,m'.st.sub hsub,.bool true,hΦ⟩,.one (stepR_round_end rfl rfl (Zfx a1 nO))⟩
theorem J3.ret{F:Fr P}{l:Nat}(hF:J3 F l Φ){dk:List Zu}{s s':St}{r:Qw}(hs:s l=sO (.loop r .busy))(hsub:s'.sub (s.upd l (.loop r (.done .ret))))(hΦ:Φ (.ret (.bool false)) s'):
  ZS F (.code .ret::dk) ρ L s:=by
 obtain⟨an,fn,N,c,cs,rfl⟩:=hF
 intro k hk
 cases hk with
 |code hc ht =>
  obtain rfl:=Zpx hc
  intro g ν w tmps hN m
  obtain⟨hp,l0,a1,_⟩:=m.st.obj l _ hs
  obtain⟨he,m'⟩:=m.loopTo (st':=.done .ret) hs a1 { l0 with state:=.done,pending:=sO .ret } ⟨rfl,rfl,rfl,rfl,rfl,rfl⟩ ⟨rfl,rfl⟩
  exact⟨.returned (.bool false),_,⟨g,s',.ret (.bool false),he,m'.st.sub hsub,.bool false,hΦ⟩,.one (stepR_round_ret rfl rfl (Zfx a1 (sO .ret)))⟩
theorem J3.exit{F:Fr P}{l id:Nat}(hF:J3 F l Φ){dk:List Zu}{s s':St}{r:Qw}(hx:Zag id dk=nO)(hs:s l=sO (.loop r .busy))(hsub:s'.sub (s.upd l (.loop r (.done (.exit id)))))(hΦ:Φ (.ret (.bool false)) s'):ZS F (.code (.exit id)::dk) ρ L s:=by
 obtain⟨an,fn,N,c,cs,rfl⟩:=hF
 intro k hk
 cases hk with
 |code hc ht =>
  obtain rfl:=ZrH hc
  intro g ν w tmps hN m
  obtain⟨hp,l0,a1,_⟩:=m.st.obj l _ hs
  obtain⟨he,m'⟩:=m.loopTo (st':=.done (.exit id)) hs a1 { l0 with state:=.done,pending:=sO (.exit id) } ⟨rfl,rfl,rfl,rfl,rfl,rfl⟩ ⟨rfl,rfl⟩
  exact⟨.returned (.bool false),_,⟨g,s',.ret (.bool false),he,m'.st.sub hsub,.bool false,hΦ⟩,.one (stepR_round_exit rfl rfl (Zck ht hx) (Zfx a1 (sO (.exit id))))⟩
theorem J3.pan{F:Fr P}{l:Nat}(hF:J3 F l Φ){d:D}{s s':St}(hsub:s'.sub s)(hΦ:Φ (.panic d) s')(hfn:∀an fn N c cs,F=Zbe P an fn N l c cs Φ→∃f,P.funcs[fn]?=sO f):K1 F ρ L d s:=by
 obtain⟨an,fn,N,c,cs,rfl⟩:=hF
 intro g ν w v todo tmps hN m hr
 obtain⟨f,hf⟩:=hfn an fn N c cs rfl
 refine⟨.panicked [{ v,recovered:=false }],w,⟨g,s',.panic d,Ext.refl g w,m.st.sub hsub,⟨v,rfl,hr⟩,hΦ⟩,.one ?_⟩
 exact step_leave_panicked (P:=P) (fr:={ (Zbe P an fn N l c cs Φ).b.atR ⟨tmps,[]⟩ todo with mode:=.panicking [{ v,recovered:=false }] }) ⟨rfl,rfl,f,hf⟩
theorem Zh0{g:G}{ν:Nat→Nat}{w:World}{L:Loc}{s:St}{N:Nat}:∀{ps:List Nat} {ds:List D} {vs:List Value} {tmps:Array Value} {ρ:Env},ZO g ν w tmps ρ L s→Yh (Rep g w) vs ds→ds.length=ps.length→(∀t∈ps,t<N)→N≤tmps.size →
  N≤((ps.zip vs).foldl (fun tmps (x:Nat×Value)=>tmps.setIfInBounds x.1 x.2) tmps).size∧ZO g ν w ((ps.zip vs).foldl (fun tmps (x:Nat×Value)=>tmps.setIfInBounds x.1 x.2) tmps) (Ja ps ds ρ) L s
 | [],_,_,tmps,ρ,m,_,_,_,hN=>by simpa[Ja]using⟨hN,m⟩
 |t::ps,[],_,tmps,ρ,m,_,hl,_,_=>by simp at hl
 |t::ps,d::ds,v::vs,tmps,ρ,m,.cons h1 h2,hl,hp,hN=>by
  have m':=m.put (t:=t) (v:=v) (e:=.d d) (by have:=hp t (by simp);omega) h1
  simpa[Ja]using Zh0 m' h2 (by simpa using hl) (fun u hu=>hp u (by simp[hu])) (by simpa using hN)
def Zbs:Env→Env
 | []=>[]
 | (t,e)::r=>if (JK e).isEmpty then (t,e)::Zbs r else Zbs r
def JC(ks:List Nat)(ρ:Env):Env:=Zbs (WV ρ ks)
theorem Ze3:∀{ρ:Env} {t:Nat} {e:E},(ρ.map (·.1)).Nodup→Yv (Zbs ρ) t=sO e→Yv ρ t=sO e∧JK e=[]
 | [],t,e,_,h=>by simp[Zbs,Yv]at h
 | (k,x)::r,t,e,hn,h=>by
  simp only[Zyp,List.nodup_cons]at hn
  simp only[Zbs]at h
  split at h
  ·rename_i hx
   simp only[Yv]at h⊢
   by_cases hk:k=t
   ·simp only[hk,if_true,Zyd]at h⊢;subst h;exact⟨rfl,by simpa using hx⟩
   ·simp only[hk,if_false]at h⊢;exact Ze3 hn.2 h
  ·obtain⟨h1,h2⟩:=Ze3 hn.2 h
   refine⟨?_,h2⟩
   have hkt:k≠t:=fun hk=>by
    subst hk
    have:=ZgC h1
    exact hn.1 (List.mem_map.2 ⟨_,this,rfl⟩)
   simp only[Yv,hkt,if_false];exact h1
theorem ZmB{ν ν':Nat→Nat}{L L':Loc}{v:Value}{e:E}(h:Yo g ν w L v e)(hl:JK e=[]):Yo g ν' w L' v e:=by
 induction e with
 |d x=>exact h
 |loc l o=>simp[JK]at hl
 |when c e ih=>exact⟨fun hc=>ih (h.1 hc) hl,h.2⟩
def Fr.mark(F:Fr P)(q:Nat):Fr P:={ F with ds:=DD.def (.mark q)::F.ds }
theorem Zhj{b:Frame}{a:Act}{k:List Item}{cs:List Frame}{g:Operand}{ps:Array Tmp}{assign body:Code}{l:Nat}{mark:List Deferred}{w₁:World}{d:Deferred}{nx:Next}{fr:Frame}(he:(Instr.enterLoop b.fn a.tmps ps assign body b.roundOf).run P w=.ok (l,mark) w₁)(hres:(Deferred.ofValue (a.eval g) #[.func (.yield l) #[] #[]]).run P w₁=.ok d w₁)(hinv:(invoke d.target d.args).run P w₁=.ok nx w₁)(hnx:Zgf P nx=sO fr):
  step P (lone (b.atR a (.code (.rangeFunc g ps assign body)::k)) cs w) =
   .next (lone fr (b.atR { a with defers:=mark++a.defers } (.inRangeFunc l::k)::cs) w₁) :=
 step_lone_go (by
  have hev:=Frame.eval_atR b { a with defers:=mark++a.defers } (.inRangeFunc l::k)
  simp only[Frame.atR]at hev
  have hres':Sem.run P (resolve ({ tmps:=a.tmps,defers:=mark++a.defers }:Act).eval { callee:=.value g,args:=#[.const (.func (.yield l) #[] #[])],argTypes:=#[] } 0) w₁=.ok d w₁:=by
   simp only[resolve]
   have e1:({ tmps:=a.tmps,defers:=mark++a.defers }:Act).eval g=a.eval g:=by cases g<;>rfl
   have e2:Array.map ({ tmps:=a.tmps,defers:=mark++a.defers }:Act).eval #[Operand.const (Value.func (Fn.yield l) #[] #[])] = #[.func (.yield l) #[] #[]]:=by simp[Act.eval]
   rw[e1,e2];exact hres
  cases nx<;>simp only[Zgf,Zyd,reduceCtorEq]at hnx<;>subst hnx <;>
   simp[stepG,stepG.exec,Frame.atR,Sem.runT_eq,he,GStep.bare_after,stepG.apply,hev,Sem.run_bind,hres',hinv,Result.andThen])
def ZiG(F:Fr P)(l:Nat)(r:Qw)(dk:List Zu)(ρ:Env)(L:Loc)(s':St):Prop :=
 (s' l=sO (.loop r .ready)∧ZS F dk ρ L (s'.del l))∨∃j dj,s' l=sO (.loop r (.done j))∧cc P F.an F.N j=sO dj∧ZS F (.code dj::dk) ρ L (s'.del l)
theorem ZkB{l:Nat}{l0:Go.Loop}(h:w.heap[l]?=sO (.loop l0))(hb:l0.state≠.busy):
  (Instr.endLoop l).run P w=.ok l0.pending { w with heap:=w.heap.setIfInBounds l (.loop { l0 with state:=.exhausted }) }:=by
 have:(l0.state==.busy)=false:=by
  cases hs:l0.state<;>first|rfl|exact absurd hs hb
 simp[Instr.endLoop,Instr.getLoop,ZaP h,ZdH h,hb]
theorem ZmA{F:Fr P}{l:Nat}{r:Qw}{dk:List Zu}{k:List Item}{s':St}(hk:QL P F.an F.N k dk)(hN:F.N≤tmps.size)(m:ZO g ν w tmps ρ L s')(h:ZiG F l r dk ρ L s'):F.T.T g w (lone (F.b.atR ⟨tmps,F.ds⟩ (.endRangeFunc l::k)) F.cs w):=by
 rcases h with ⟨hs,h⟩|⟨j,dj,hs,hj,h⟩
 ·obtain⟨hp,l0,a1,a2,a3,a4,a5,a6,a7,a8,a9,a10⟩:=m.st.obj l _ hs
  have he:=Zdu (g:=g) (w:=w) l (.loop { l0 with state:=.exhausted }) (by simp[hdr,a1]) hp (m.st.kept l _ hs)
  have m':=m.drop hs he (by simp) (fun c hc=>Zbf _ hc)
  have hrun:(Instr.endLoop l).run P w=.ok nO { w with heap:=w.heap.setIfInBounds l (.loop { l0 with state:=.exhausted }) }:=by rw[ZkB a1 (by rw[a9];simp)];simp[a10]
  refine F.T.back _ _ _ _ (.one (stepR_endRangeFunc hrun)) ?_
  exact F.T.ext _ _ _ _ _ he (h k hk g ν _ tmps hN m')
 ·obtain⟨hp,l0,a1,a2,a3,a4,a5,a6,a7,a8,a9,a10⟩:=m.st.obj l _ hs
  have he:=Zdu (g:=g) (w:=w) l (.loop { l0 with state:=.exhausted }) (by simp[hdr,a1]) hp (m.st.kept l _ hs)
  have m':=m.drop hs he (by simp) (fun c hc=>Zbf _ hc)
  have hrun:(Instr.endLoop l).run P w=.ok (sO j) { w with heap:=w.heap.setIfInBounds l (.loop { l0 with state:=.exhausted }) }:=by rw[ZkB a1 (by rw[a9];simp)];simp[a10]
  refine F.T.back _ _ _ _ (.one (stepR_endRangeFunc hrun)) ?_
  exact F.T.ext _ _ _ _ _ he (h _ (.code hj hk) g ν _ tmps hN m')
theorem KJ.mark{F:Fr P}{rs:List RV}{dds:List DD}(hF:KJ F rs Φ dds)(q:Nat):KJ (F.mark q) rs Φ (.mark q::dds):=by
 obtain⟨an,f,df,cs,hf,hrs,rfl⟩:=hF
 exact⟨an,f,df,cs,hf,hrs,rfl⟩
theorem KJ.roundOf{F:Fr P}{rs:List RV}{dds:List DD}(hF:KJ F rs Φ dds):F.b.roundOf=nO:=by
 obtain⟨an,f,df,cs,hf,hrs,rfl⟩:=hF
 rfl
end
section
variable {P:Program}
theorem ZtO{op:Op}{f:Opd}(h:ck P op=sO (.defer f xs)):∃f' args ats,op=.defer ⟨.value f',args,ats⟩∧Y7 f'=sO f∧ZcO args.toList=sO xs:=by
 unfold ck at h
 split at h
 ·simp at h
 ·split at h<;>(try(simp at h;done))
  all_goals (try(repeat' (split at h<;>(try(simp at h;done)))))
  simp only[Zyd,K.defer.injEq]at h
  obtain⟨rfl,rfl⟩:=h
  rename_i c _ _ f' hcal _ _ f xs hf hxs
  obtain⟨callee,args,ats⟩:=c
  simp only at hcal
  exact⟨f',args,ats,by rw[hcal],hf,hxs⟩
def Fr.defer(F:Fr P)(i:FuncId)(args caps:List D):Fr P:={ F with ds:=DD.def (.fn i args caps)::F.ds }
theorem KJ.defer{F:Fr P}{rs:List RV}{dds:List DD}(hF:KJ F rs Φ dds)(i:FuncId)(args caps:List D):KJ (F.defer i args caps) rs Φ (.fn i args caps::dds):=by
 obtain⟨an,f,df,cs,hf,hrs,rfl⟩:=hF
 exact⟨an,f,df,cs,hf,hrs,rfl⟩
theorem Zpc{F:Fr P}(hround:F.b.roundOf=nO){dk:List Zu}{o:DOp}(hg:o.guard=nO)(hdn:o.dst=nO){fx:Opd}(hk:o.k=.defer fx xs){p q:Prop}{i:FuncId}{first caps:List D}{es:List E}(hf:Z9 ρ true fx=sO (q,.d (.fn (.func i) first caps)))(ha:WE ρ true xs=sO (p,es))(hds:QR es=sO ds)(hp:p)(hq:q)(hr1:ZcF (first++ds))(hr2:ZcF caps)(h:DO (F.defer i (first++ds) caps) kp dk os ρ L s):DO F kp dk (o::os) ρ L s:=by
 refine Qu fun oo g ν w tmps ops j r k hoo hck hcg hdst hd hN m hr hkk=>?_
 have hw:=WC m hcg (c:=true) (by rw[hg];rfl)
 rw[hk]at hck
 obtain⟨f',args,ats,hop,hf',hxs⟩:=ZtO hck
 have hfr:Rep g w _ _:=Wx m hf' rfl hf hq F.ds
 have hargs:=J0 (Zd3 m rfl F.ds hxs ha hp) hds
 generalize hfv:(Act.mk tmps F.ds).eval f'=fv at hfr
 cases hfr with
 |fn _ fs cs' _ _ hn1 hn2 h1 h2 =>
 obtain⟨as9,ha1,_,ha2⟩:=Zde hr1
 obtain⟨vs,hv1,_,hv2⟩:=Zde hr2
 have e1:fs++args.toList.map (Act.mk tmps F.ds).eval=as9:=Zki ((WG hn1 h1).append hargs) ha1
 have e2:cs'=vs:=Zki (WG hn2 h2) hv1
 have hmap:(Array.map (Act.mk tmps F.ds).eval args)=(args.toList.map (Act.mk tmps F.ds).eval).toArray:=by apply Array.ext';simp
 have hdd:DD.def (.fn i (first++ds) caps)={ target:=.fn (.func i) cs'.toArray,args:=fs.toArray++(args.toList.map (Act.mk tmps F.ds).eval).toArray }:=by
  simp only[DD.def,hv1,ha1,ZyL,e2,←e1];simp
 have hrun:(execOp (Act.mk tmps F.ds).eval oo).run P w=.ok (.defer (DD.def (.fn i (first++ds) caps))) w:=by
  rw[hdd]
  simp[execOp,hop,resolve,hfv,hmap,Deferred.ofValue]
 have hstep:step P (lone (F.b.atR ⟨tmps,F.ds⟩ (.inRegion ops (j::r)::k)) F.cs w)=.next (lone (F.b.atR ⟨tmps,(F.defer i (first++ds) caps).ds⟩ (.inRegion ops r::k)) F.cs w):=by
  refine step_lone_go ?_
  rw[stepGR_op hoo hw,hround,Oper.semAt_none]
  have hfin:(F.b.atR ⟨tmps,(F.defer i (first++ds) caps).ds⟩ (.inRegion ops (j::r)::k)).finish undef=F.b.atR ⟨tmps,(F.defer i (first++ds) caps).ds⟩ (.inRegion ops r::k):=by
   rw[Frame.finish_atR,hoo]
   simp[Act.put,hdst,hdn]
  rw[←hfin]
  simp[stepG.apply,hrun,Frame.atR,Fr.defer]
 refine F.T.back _ _ _ _ (.one hstep) ?_
 exact h ops r k hr hkk g ν w tmps hN m
def Zyc:D→Option Value
 |.iface t (.agg cs)=>(Zig cs).map fun vs=>.iface t (.agg vs.toArray)
 |.iface t d=>(Zbw d).map (.iface t ·)
 |_=>nO
def ZfR:D→Prop
 |.iface _ (.agg cs)=>ZcF cs
 |.iface _ d=>ZfQ d
 |_=>False
theorem Zoq{d:D}(h:ZfR d):∃v,(∀g w,Rep g w v d)∧∀g w v',Rep g w v' d→v'=v:=by
 cases d<;>simp only[ZfR]at h
 rename_i t d
 by_cases hd:∃cs,d=.agg cs
 ·obtain⟨cs,rfl⟩:=hd
  simp only[ZfR]at h
  obtain⟨vs,h1,h2,h3⟩:=Zde h
  refine⟨.iface t (.agg vs.toArray),fun g w=>.iface t _ _ (.agg vs cs (h3 g w).len (h3 g w).get h2),fun g w v' hr=>?_⟩
  cases hr with
  |iface _ v _ hv =>
   cases hv with
   |agg vs' _ hn hg _=>rw[Zki (WG hn hg) h1]
 ·have h':ZfQ d:=by cases d<;>simp only[ZfR]at h<;>first|exact h|exact absurd ⟨_,rfl⟩ hd
  obtain⟨v,h1,h2,h3⟩:=Zop h'
  refine⟨.iface t v,fun g w=>.iface t _ _ (h3 g w),fun g w v' hr=>?_⟩
  cases hr with
  |iface _ v'' _ hv=>rw[Zsa hv h1]
def ZaD(m:Option D)(v:Value)(rec:Bool):FrameMode :=
 match m with
 |none=>.returning
 |some _=>.panicking [{ v,recovered:=rec }]
def Zfg(P:Program)(cf:Frame)(cs:List Frame)(Ψ:Bool→St→Prop):Zsj P where
 T g w m:=∃g' w' s' b,Ext g w g' w'∧WQ g' s' w'∧Ψ b s'∧Steps P m (lone { cf with mode:=if b then .returning else cf.mode } cs w')
 back g w m m' hs h:=let ⟨g',w',s',b,a1,a2,a3,a4⟩:=h;⟨g',w',s',b,a1,a2,a3,Steps.trans hs a4⟩
 ext g w g' w' m hx h:=let ⟨g2,w2,s',b,a1,a2,a3,a4⟩:=h;⟨g2,w2,s',b,hx.trans a1,a2,a3,a4⟩
def Qc(P:Program)(an:Ann)(f:FuncId)(N:Nat)(cf:Frame)(cs:List Frame)(Ψ:Bool→St→Prop)(m:Option D)(v:Value)(rec:Bool):Fr P where
 T:=Zfg P cf cs Ψ
 b:={ (dE:Frame) with fn:=f,kind:=.deferred,roundOf:=nO }
 cs:={ cf with mode:=ZaD m v rec }::cs
 N:=N
 ds:=[]
 an:=an
def ZbN(F:Fr P)(m:Option D)(Ψ:Bool→St→Prop)(rec:Bool):Prop :=
 ∃an f df cf cs v,Go.DL.cf P an f=sO df∧df.res=[]∧cf.mode=ZaD m v false∧(∀d,m=sO d→∀g w,Rep g w v d)∧F=Qc P an f df.n cf cs Ψ m v rec
theorem ZiF{an:Ann}{i:FuncId}{df:DF}(hf:cf P an i=sO df)(hres:df.res=[]){args:List D}{m:Option D}{Ψ:Bool→St→Prop}(hm:∀d,m=sO d→ZfR d)(h:∀F:Fr P,ZbN F m Ψ false→ZS F [.code df.body] (J4 0 args) [] s):ZcY P i args m s Ψ:=by
 have hf0:=hf
 unfold cf at hf
 split at hf<;>(try(simp at hf;done))
 rename_i fn hfn
 split at hf<;>(try(simp at hf;done))
 rename_i c hc
 split at hf<;>(try(simp at hf;done))
 rename_i hname
 split at hf<;>simp at hf
 rename_i rs d hrs hd
 subst hf
 refine⟨⟨fn,hfn,by simp[hc],by simpa using hname⟩,fun g w vs cfr cs hs ha hmode=>?_⟩
 obtain⟨v,hv1,hv2⟩:∃v,cfr.mode=ZaD m v false∧∀d,m=sO d→∀g w,Rep g w v d:=by
  cases m with
  |none=>exact⟨undef,hmode,fun d hd=>by simp at hd⟩
  |some d =>
   obtain⟨v,h1,h2⟩:=hmode
   obtain⟨v',r1,r2⟩:=Zoq (hm d rfl)
   have:=r2 g w v h2
   subst this
   exact⟨v,h1,fun d' hd'=>by simp only[Zyd]at hd';subst hd';exact r1⟩
 have hcf:({ cfr with mode:=ZaD m v false }:Frame)=cfr:=by rw[←hv1]
 have henter:Frame.enter P i vs.toArray .deferred=(Qc P an i fn.ntmps cfr cs Ψ m v false).b.atR { tmps:=vs.toArray++Array.replicate (fn.ntmps-vs.length) undef,defers:=[] } [.code c]:=by
  simp[Frame.enter,Frame.atR,hfn,hc,Qc]
 have:=h _ ⟨an,i,_,cfr,cs,v,hf0,hres,hv1,hv2,rfl⟩ [.code c] (.code hd .nil) g (fun _=>0) w (vs.toArray++Array.replicate (fn.ntmps-vs.length) undef) (by simp[Qc];omega) (ZgD hs ha _)
 obtain⟨g',w',s',b,a1,a2,a3,a4⟩:=this
 refine⟨g',w',s',b,a1,a2,a3,?_⟩
 rw[henter]
 have hcs:(Qc P an i fn.ntmps cfr cs Ψ m v false).cs=cfr::cs:=by simp only[Qc,hcf]
 rw[hcs]at a4
 exact a4
theorem ZbN.end{F:Fr P}{m:Option D}{Ψ:Bool→St→Prop}{rec:Bool}(hF:ZbN F m Ψ rec){s s':St}(hs:s'.sub s)(hΨ:Ψ (m.isNone ||rec) s'){todo:List Item}(M:ZO g ν w tmps ρ L s):F.T.T g w (lone { F.b.atR ⟨tmps,F.ds⟩ todo with mode:=.returning } F.cs w):=by
 obtain⟨an,f,df,cfr,cs,v,hf,hres,hmode,hrep,rfl⟩:=hF
 unfold cf at hf
 split at hf<;>(try(simp at hf;done))
 rename_i fn hfn
 split at hf<;>(try(simp at hf;done))
 split at hf<;>(try(simp at hf;done))
 split at hf<;>simp at hf
 rename_i rs d hrs hd
 subst hf
 simp only at hres
 subst hres
 obtain⟨rv,hrv1,_⟩:=ZmD M hrs (p:=True) (ds:=[]) rfl trivial
 refine⟨g,w,s',m.isNone ||rec,Ext.refl g w,M.st.sub hs,hΨ,?_⟩
 have hst:=step_going_returned (P:=P) (fr:={ (Qc P an f fn.ntmps cfr cs Ψ m v rec).b.atR ⟨tmps,[]⟩ todo with mode:=.returning }) (c:={ cfr with mode:=ZaD m v rec }) (cs:=cs) (w:=w) rfl ⟨rfl,rfl,fn,hfn,hrv1⟩
 have hset:({ ({ cfr with mode:=ZaD m v rec }:Frame) with mode:=settle (ZaD m v rec) }:Frame)={ cfr with mode:=if (m.isNone ||rec) then .returning else cfr.mode }:=by
  cases m with
  |none=>rfl
  |some d =>
   cases rec
   ·simp only[Option.isNone_some,Bool.or_self,Zyt,if_false,hmode];rfl
   ·rfl
 simp only at hst
 rw[hset]at hst
 exact .one hst
theorem ZbN.fin{F:Fr P}{m:Option D}{Ψ:Bool→St→Prop}{rec:Bool}(hF:ZbN F m Ψ rec){s s':St}(hs:s'.sub s)(hΨ:Ψ (m.isNone ||rec) s'):ZS F [] ρ L s:=by
 have hF':=hF
 obtain⟨an,f,df,cfr,cs,v,hf,hres,hmode,hrep,rfl⟩:=hF
 intro k hk
 cases hk
 intro g ν w tmps hN M
 refine(Zfg P cfr cs Ψ).back _ _ _ _ (.one (stepR_end rfl)) ?_
 exact hF'.end hs hΨ M
theorem ZbN.ret{F:Fr P}{m:Option D}{Ψ:Bool→St→Prop}{rec:Bool}(hF:ZbN F m Ψ rec){dk:List Zu}{s s':St}(hs:s'.sub s)(hΨ:Ψ (m.isNone ||rec) s'):ZS F (.code .ret::dk) ρ L s:=by
 have hF':=hF
 obtain⟨an,f,df,cfr,cs,v,hf,hres,hmode,hrep,rfl⟩:=hF
 intro k hk
 cases hk with
 |code hc ht =>
  obtain rfl:=Zpx hc
  intro g ν w tmps hN M
  refine(Zfg P cfr cs Ψ).back _ _ _ _ (.one (stepR_ret rfl)) ?_
  exact hF'.end hs hΨ M
theorem ZhA{op:Op}(h:ck P op=sO .recover):∃args ats,op=.call ⟨.builtin .recover,args,ats⟩:=by
 unfold ck at h
 split at h
 ·simp at h
 ·split at h<;>(try(simp at h;done))
  all_goals (try(repeat' (split at h<;>(try(simp at h;done)))))
  rename_i c _ _ hcal
  obtain⟨callee,args,ats⟩:=c
  simp only at hcal
  exact⟨args,ats,by rw[hcal]⟩
theorem Zsg{F:Fr P}{d:D}{Ψ:Bool→St→Prop}(hF:ZbN F (sO d) Ψ false){dk:List Zu}{o:DOp}(hg:o.guard=nO)(hk:o.k=.recover)(h:∀F':Fr P,ZbN F' (sO d) Ψ true→DO F' kp dk os (ZX ρ o.dst (.d d)) L s):DO F kp dk (o::os) ρ L s:=by
 obtain⟨an,f,df,cfr,cs,v,hf,hres,hmode,hrep,rfl⟩:=hF
 refine Qu fun oo g ν w tmps ops j r k hoo hck hcg hdst hd hN m hr hkk=>?_
 have hw:=WC m hcg (c:=true) (by rw[hg];rfl)
 have hnd:=WS hck (by rw[hk];rfl)
 rw[hk]at hck
 obtain⟨args,ats,hop⟩:=ZhA hck
 have hrun:(execOp (Act.mk tmps []).eval oo).run P w=.ok .recover w:=by
  simp[execOp,hop,resolve,invoke,builtin]
 have hstep:step P (lone ((Qc P an f df.n cfr cs Ψ (sO d) v false).b.atR ⟨tmps,[]⟩ (.inRegion ops (j::r)::k)) (Qc P an f df.n cfr cs Ψ (sO d) v false).cs w) =
   .next (lone ((Qc P an f df.n cfr cs Ψ (sO d) v true).b.atR ((Act.mk tmps []).put oo.dst v) (.inRegion ops r::k)) (Qc P an f df.n cfr cs Ψ (sO d) v true).cs w):=by
  refine step_lone_go ?_
  rw[stepGR_op hoo hw,Oper.semAt_eq _ _ _ hnd]
  have hfin:((Qc P an f df.n cfr cs Ψ (sO d) v false).b.atR ⟨tmps,[]⟩ (.inRegion ops (j::r)::k)).finish v=(Qc P an f df.n cfr cs Ψ (sO d) v true).b.atR ((Act.mk tmps []).put oo.dst v) (.inRegion ops r::k):=by
   rw[Frame.finish_atR,hoo];rfl
  rw[←hfin]
  simp[stepG.apply,hrun,Frame.atR,Qc,tryRecover,ZaD]
 refine(Zfg P cfr cs Ψ).back _ _ _ _ (.one hstep) ?_
 obtain⟨tmps',e1,e2,m'⟩:=ZfL m hN hd (v:=v) (e:=.d d) (hrep d rfl g w) []
 rw[hdst,e1]
 exact h _ ⟨an,f,df,cfr,cs,v,hf,hres,hmode,hrep,rfl⟩ ops r k hr hkk g ν w tmps' e2 m'
theorem Zkx{F:Fr P}{Ψ:Bool→St→Prop}{rec:Bool}(hF:ZbN F nO Ψ rec){dk:List Zu}{o:DOp}(hg:o.guard=nO)(hk:o.k=.recover)(h:DO F kp dk os (ZX ρ o.dst (.d .niliface)) L s):DO F kp dk (o::os) ρ L s:=by
 obtain⟨an,f,df,cfr,cs,v,hf,hres,hmode,hrep,rfl⟩:=hF
 refine Qu fun oo g ν w tmps ops j r k hoo hck hcg hdst hd hN m hr hkk=>?_
 have hw:=WC m hcg (c:=true) (by rw[hg];rfl)
 have hnd:=WS hck (by rw[hk];rfl)
 rw[hk]at hck
 obtain⟨args,ats,hop⟩:=ZhA hck
 have hrun:(execOp (Act.mk tmps []).eval oo).run P w=.ok .recover w:=by
  simp[execOp,hop,resolve,invoke,builtin]
 have hstep:step P (lone ((Qc P an f df.n cfr cs Ψ nO v rec).b.atR ⟨tmps,[]⟩ (.inRegion ops (j::r)::k)) (Qc P an f df.n cfr cs Ψ nO v rec).cs w) =
   .next (lone ((Qc P an f df.n cfr cs Ψ nO v rec).b.atR ((Act.mk tmps []).put oo.dst .nilIface) (.inRegion ops r::k)) (Qc P an f df.n cfr cs Ψ nO v rec).cs w):=by
  refine step_lone_go ?_
  rw[stepGR_op hoo hw,Oper.semAt_eq _ _ _ hnd]
  have hfin:((Qc P an f df.n cfr cs Ψ nO v rec).b.atR ⟨tmps,[]⟩ (.inRegion ops (j::r)::k)).finish .nilIface=(Qc P an f df.n cfr cs Ψ nO v rec).b.atR ((Act.mk tmps []).put oo.dst .nilIface) (.inRegion ops r::k):=by
   rw[Frame.finish_atR,hoo];rfl
  rw[←hfin]
  simp[stepG.apply,hrun,Frame.atR,Qc,tryRecover,ZaD]
 refine(Zfg P cfr cs Ψ).back _ _ _ _ (.one hstep) ?_
 obtain⟨tmps',e1,e2,m'⟩:=ZfL m hN hd (v:=.nilIface) (e:=.d .niliface) .niliface []
 rw[hdst,e1]
 exact h ops r k hr hkk g ν w tmps' e2 m'
end
theorem Zxq(n:Int):inR .i64 n↔-9223372036854775808≤n∧n≤9223372036854775807:=by
 simp[inR,IntKind.min,IntKind.max,IntKind.signed,IntKind.bits]
theorem ZxT(n:Int):inR .u8 n↔0≤n∧n≤255:=by
 simp[inR,IntKind.min,IntKind.max,IntKind.signed,IntKind.bits]
theorem Zxr(n:Int):inR .u32 n↔0≤n∧n≤4294967295:=by
 simp[inR,IntKind.min,IntKind.max,IntKind.signed,IntKind.bits]
theorem Zxs(n:Int):inR .u64 n↔0≤n∧n≤18446744073709551615:=by
 simp[inR,IntKind.min,IntKind.max,IntKind.signed,IntKind.bits]
theorem Zxp(n:Int):inR .i32 n↔-2147483648≤n∧n≤2147483647:=by
 simp[inR,IntKind.min,IntKind.max,IntKind.signed,IntKind.bits]
theorem ZwB(a b:Bool):(if a=true then b else false)=(a&&b):=by cases a<;>rfl
theorem Zxu(a b:Bool):(if a=true then true else b)=(a ||b):=by cases a<;>rfl
theorem Zxc{d d':D}(h:d=d'):(J5 [d]).Le d':=h▸Zyj d
theorem Zfe{b b':Bool}(h:b=b'):(J5 [.bool b]).Le (.bool b'):=h▸Zyj _
theorem ZlC{k:IntKind}{n m:Int}(h:n=m):(J5 [.int k n]).Le (.int k m):=h▸Zyj _
theorem Zxe{l m:List UInt8}(h:l=m):(J5 [.str l]).Le (.str m):=h▸Zyj _
theorem Za4{l:List D}{d:D}(h:.tup l=d)(hl:J5 l=.tup l):(J5 l).Le d:=by rw[hl,h];exact Zyj _
theorem St.upd_same(s:St)(b:Nat)(o:Wt):(s.upd b o) b=sO o:=by simp[St.upd]
theorem St.upd_ne(s:St){b c:Nat}(o:Wt)(h:c≠b):(s.upd b o) c=s c:=by simp[St.upd,h]
theorem St.upd_upd(s:St)(b:Nat)(o o':Wt):(s.upd b o).upd b o'=s.upd b o':=by
 funext c;simp only[St.upd];by_cases h:c=b<;>simp[h]
theorem St.upd_comm(s:St){b c:Nat}(o o':Wt)(h:c≠b):(s.upd b o).upd c o'=(s.upd c o').upd b o:=by
 funext x;simp only[St.upd]
 by_cases h1:x=b
 ·subst h1;simp[Ne.symm h]
 ·simp[h1]
theorem St.sub_upd{b:Nat}(o:Wt)(h:s b=nO):s.sub (s.upd b o):=fun c x hx=>by
 have:c≠b:=fun hc=>by rw[hc,h]at hx;simp at hx
 rw[St.upd_ne s o this];exact hx
theorem St.sub_trans{s s' s'':St}(h:s.sub s')(h':s'.sub s''):s.sub s'':=fun b o ho=>h' b o (h b o ho)
inductive DWf:D→Prop where
 |int (k:IntKind) (n:Int) (h:inR k n):DWf (.int k n)
 |str (l:List UInt8) (h:l.length≤big):DWf (.str l)
 |agg (cs:List D) (h:∀c∈cs,DWf c):DWf (.agg cs)
 |tup (cs:List D) (h:∀c∈cs,DWf c):DWf (.tup cs)
 |sl (t:Tok) (n s:Nat) (row:Nat→List D) (h:n≤big) (hl:∀i,i<n→(row i).length=s) (hr:∀i,i<n→∀c∈row i,DWf c):DWf (.sl t n s row)
 |ep (cs:List D) (o:Nat) (h:∀c∈cs,DWf c):DWf (.ep cs o)
 |iface (t:TypeId) (d:D) (h:DWf d):DWf (.iface t d)
 |msl (b o n cap s:Nat) (h:n≤cap) (h':cap≤big):DWf (.msl b o n cap s)
 |fn (f:Fn) (a b:List D) (h:∀c∈a,DWf c) (h':∀c∈b,DWf c):DWf (.fn f a b)
 |other (d:D) (h:match d with|.int .. |.str _|.agg _|.tup _|.sl .. |.ep .. |.iface .. |.msl .. |.fn ..=>False|_=>True):DWf d
theorem Zdl{Q:D→Prop}{vs:List Value}(hn:vs.length=ds.length)(h:∀(i:Nat) (v:Value) (d:D),vs[i]?=sO v→ds[i]?=sO d→Q d):∀c∈ds,Q c:=by
 intro c hc
 obtain⟨i,hi,rfl⟩:=ZyC hc
 exact h i (vs[i]'(by omega)) _ (by simp[show i<vs.length by omega]) (by simp[hi])
theorem Rep.wf{v:Value}{d:D}(h:Rep g w v d):DWf d:=by
 induction h with
 |int k n h=>exact .int k n h
 |str s l h hb=>exact .str l hb
 |agg vs cells hn _ _ ih=>exact .agg _ (Zdl hn ih)
 |tup vs ds hn _ ih=>exact .tup _ (Zdl hn ih)
 |sl0 a t s row ht=>exact .sl t 0 s row (Nat.zero_le _) (fun i hi=>by omega) (fun i hi=>by omega)
 |sl b o n cap s row t f hl hc hp _ one ht hcap hb ih =>
  refine .sl t n s row (by omega) hl fun i hi c hcm=>?_
  obtain⟨j,hj,rfl⟩:=ZyC hcm
  exact ih i j _ hi (by simp[hj])
 |ep b o off cells f hc hp _ one ih =>
  refine .ep _ _ fun c hcm=>?_
  obtain⟨j,hj,rfl⟩:=ZyC hcm
  exact ih j _ (by simp[hj])
 |iface t v d _ ih=>exact .iface t d ih
 |msl b off n cap s h hb=>exact .msl _ _ _ _ _ h hb
 |mslx a b off s=>exact .msl _ _ _ _ _ (Zys _) (Nat.zero_le _)
 |fn f fs cs df dc hnf hnc _ _ ihf ihc=>exact .fn f df dc (Zdl hnf ihf) (Zdl hnc ihc)
 |_=>exact .other _ trivial
theorem DWf.int_inv{k:IntKind}{n:Int}(h:DWf (.int k n)):inR k n:=by
 cases h with
 |int _ _ h=>exact h
 |other _ h=>exact h.elim
theorem DWf.str_inv{l:List UInt8}(h:DWf (.str l)):l.length≤big:=by
 cases h with
 |str _ h=>exact h
 |other _ h=>exact h.elim
theorem DWf.agg_inv{cs:List D}(h:DWf (.agg cs)):∀c∈cs,DWf c:=by
 cases h with
 |agg _ h=>exact h
 |other _ h=>exact h.elim
theorem DWf.sl_inv{t:Tok}{n s:Nat}(h:DWf (.sl t n s row)):n≤big∧(∀i,i<n→(row i).length=s)∧∀i,i<n→∀c∈row i,DWf c:=by
 cases h with
 |sl _ _ _ _ h1 h2 h3=>exact⟨h1,h2,h3⟩
 |other _ h=>exact h.elim
theorem Zwe{vs:List Value}(h:Yh (Rep g w) vs ds):∀d∈ds,DWf d:=Zdl h.len fun i v d hv hd=>(h.get i v d hv hd).wf
section
variable {P:Program}
theorem ZiB{f:FuncId}{args:List D}(hf:∃fn,P.funcs[f]?=sO fn∧fn.body.isSome=true∧(fn.name == "runtime.NumGoroutine")=false)(h:(∀a∈args,DWf a)→ZN P f args s Φ):ZN P f args s Φ :=
 ⟨hf,fun g w vs hs ha=>(h (Zwe ha)).2 g w vs hs ha⟩
theorem ZoQ{an:Ann}{f:FuncId}{df:DF}(hf:cf P an f=sO df):∃fn,P.funcs[f]?=sO fn∧fn.body.isSome=true∧(fn.name == "runtime.NumGoroutine")=false:=by
 unfold cf at hf
 split at hf<;>(try(simp at hf;done))
 rename_i fn hfn
 split at hf<;>(try(simp at hf;done))
 rename_i c hc
 split at hf<;>(try(simp at hf;done))
 rename_i hname
 exact⟨fn,hfn,by simp[hc],by simpa using hname⟩
theorem Zcw{an:Ann}{f:FuncId}{df:DF}(hf:cf P an f=sO df){args:List D}(h:(∀a∈args,DWf a)→∀F:Fr P,KJ F df.res Φ []→ZS F [.code df.body] (J4 0 args) [] s):ZN P f args s Φ :=
 ZiB (ZoQ hf) fun hw=>ZM hf (h hw)
theorem Kn{an:Ann}{f:FuncId}{df:DF}(hf:cf P an f=sO df){args:List D}{d:D}(h:(∀a∈args,DWf a)→∀(F:Fr P) (s:St),(∀{dk:List Zu} {ρ:Env} {L:Loc} {s':St} {p:Prop} {ds:List D},K5 ρ L s' df.res=sO (p,ds)→p→(J5 ds).Le d→s.sub s'→ZS F (.code .ret::dk) ρ L s') →
   ZS F [.code df.body] (J4 0 args) [] s):ZA P f args d :=
 fun s=>ZiB (ZoQ hf) fun hw=>ZM hf fun F hF=>h hw F s fun h1 h2 h3 h4=>hF.ret d s h1 h2 h3 h4 ⟨rfl,rfl⟩
end
section
variable {P:Program}
def Wi(P:Program)(f:FuncId)(args:List D)(s:St)(d:D)(s':St):Prop:=ZN P f args s fun r t=>r=.ret d∧t=s'
theorem JN{F:Fr P}{dk:List Zu}{o:DOp}{s s':St}(hg:Zy ρ o.guard=sO true){fx:Opd}(hk:o.k=.call fx xs){p q:Prop}{f:FuncId}{first caps:List D}{es:List E}(hf:Z9 ρ true fx=sO (q,.d (.fn (.func f) first caps)))(ha:WE ρ true xs=sO (p,es))(hds:QR es=sO ds)(hp:p)(hq:q){d:D}(hc:Wi P f (first++ds++caps) s d s')(h:DO F kp dk os (ZX ρ o.dst (.d d)) L s'):DO F kp dk (o::os) ρ L s :=
 Ye hg hk hf ha hds hp hq hc (fun d' t ⟨h1,h2⟩=>by simp only[Res.ret.injEq]at h1;subst h1;subst h2;exact h) (fun d' t ⟨h1,_⟩=>by simp at h1)
theorem Zc5{F:Fr P}{dk:List Zu}{o:DOp}{f:List Nat}{os:List (DOp×List Nat)}{s s':St}{B:List (Nat×Rd)}(hg:Zy ρ o.guard=sO true){fx:Opd}(hk:o.k=.call fx xs){p q:Prop}{fi:FuncId}{first caps:List D}{es:List E}(hf:Z9 ρ true fx=sO (q,.d (.fn (.func fi) first caps)))(ha:WE ρ true xs=sO (p,es))(hds:QR es=sO ds)(hp:p)(hq:q){d:D}(hc:Wi P fi (first++ds++caps) s d s')(hB:KB f s s' L L B)(h:DOA F kp dk os (ZX ρ o.dst (.d d)) L s' (Kx f B)):DOA F kp dk ((o,f)::os) ρ L s B :=
 ZbW hg hk hf ha hds hp hq hc (fun d' t ⟨h1,h2⟩=>by simp only[Res.ret.injEq]at h1;subst h1;subst h2;exact⟨hB,h⟩) (fun d' t ⟨h1,_⟩=>by simp at h1)
theorem ZtD{F:Fr P}{dk:List Zu}{o:DOp}{s s':St}(hg:Zy ρ o.guard=sO true){fx:Opd}(hk:o.k=.call fx xs){p q:Prop}{f:D}{es:List E}(hf:Z9 ρ true fx=sO (q,.d f))(ha:WE ρ true xs=sO (p,es))(hds:QR es=sO ds)(hp:p)(hq:q){d:D}(hc:Jc P f ds s fun r t=>r=.ret d∧t=s')(h:DO F kp dk os (ZX ρ o.dst (.d d)) L s'):DO F kp dk (o::os) ρ L s :=
 Jw hg hk hf ha hds hp hq hc (fun d' t ⟨h1,h2⟩=>by simp only[Res.ret.injEq]at h1;subst h1;subst h2;exact h) (fun d' t ⟨h1,_⟩=>by simp at h1)
theorem ZA.le{f:FuncId}{args:List D}{d d':D}(h:ZA P f args d)(e:d=d'):ZA P f args d':=e▸h
end
inductive LeC:List D→List D→Prop where
 |nil:LeC [] []
 |cons {d d':D} {l l':List D} (h:d.Le d') (t:LeC l l'):LeC (d::l) (d'::l')
theorem LeC.refl(l:List D):LeC l l:=by
 induction l with
 |nil=>exact .nil
 |cons d l ih=>exact .cons (Zyj d) ih
theorem LeC.len{l l':List D}(h:LeC l l'):l.length=l'.length:=by
 induction h with
 |nil=>rfl
 |cons _ _ ih=>simp[ih]
theorem LeC.get{l l':List D}(h:LeC l l'){i:Nat}{d':D}(hi:l'[i]?=sO d'):∃d,l[i]?=sO d∧d.Le d':=by
 induction h generalizing i with
 |nil=>simp at hi
 |cons h _ ih =>
  cases i with
  |zero=>simp at hi;subst hi;exact⟨_,rfl,h⟩
  |succ i=>exact ih (by simpa using hi)
theorem Zxb{cs cs':List D}(h:LeC cs cs'):(D.agg cs).Le (.agg cs'):=by
 intro g w v hv
 cases hv with
 |agg vs _ hn hr one=>exact .agg vs _ (hn.trans h.len) (fun i v d' hv hd=>by obtain⟨d,h1,h2⟩:=h.get hd;exact h2 _ _ _ (hr i v d hv h1)) one
theorem Zwd{cs cs':List D}(h:LeC cs cs'):(D.tup cs).Le (.tup cs'):=by
 intro g w v hv
 cases hv with
 |tup vs _ hn hr=>exact .tup vs _ (hn.trans h.len) (fun i v d' hv hd=>by obtain⟨d,h1,h2⟩:=h.get hd;exact h2 _ _ _ (hr i v d hv h1))
theorem Zwc{t:Tok}{n s:Nat}:(D.sl t n s row).Le (.sl .none n s row):=by
 intro g w v hv
 cases hv with
 |sl0 _ _ _ _ ht=>exact .sl0 _ _ _ _ (by simp)
 |sl b o n cap s row t f hl hc hp hr one ht hcap hb=>exact .sl b o n cap s row _ f hl hc hp hr one trivial hcap hb
theorem Zxd{t:Tok}{n s:Nat}{row row':Nat→List D}(h:∀i,i<n→LeC (row i) (row' i)):(D.sl t n s row).Le (.sl t n s row'):=by
 intro g w v hv
 cases hv with
 |sl0 _ _ _ _ ht=>exact .sl0 _ _ _ _ ht
 |sl b o n cap s row t f hl hc hp hr one ht hcap hb =>
  exact .sl b o n cap s _ _ f (fun i hi=>(h i hi).len.symm.trans (hl i hi)) hc hp (fun i j d hi hd=>by obtain⟨d',h1,h2⟩:=(h i hi).get hd;exact h2 _ _ _ (hr i j d' hi h1)) one ht hcap hb
theorem JL{s:Nat}{t:Tok}(ht:∀b,t≠.tip b):D.nilsl.Le (.sl t 0 s row):=by
 intro g w v hv;cases hv;exact .sl0 _ _ _ _ ht
theorem D.Le.trans{a b c:D}(h:a.Le b)(h':b.Le c):a.Le c:=fun g w v hv=>h' g w v (h g w v hv)
theorem ZxQ{t:Tok}{n n' s:Nat}{row row':Nat→List D}(hn:n=n')(h:∀i,i<n→row i=row' i):(D.sl t n s row).Le (.sl .none n' s row'):=by
 subst hn
 exact Zwc.trans (Zxd fun i hi=>by rw[h i hi];exact LeC.refl _)
inductive Zpi:E→E→Prop where
 |d {x y:D} (h:x.Le y):Zpi (.d x) (.d y)
 |refl (e:E):Zpi e e
inductive LeE:Env→Env→Prop where
 |nil:LeE [] []
 |cons {t:Nat} {e e':E} {ρ ρ':Env} (h:Zpi e e') (r:LeE ρ ρ'):LeE ((t,e)::ρ) ((t,e')::ρ')
 |skip {t:Nat} {e:E} {ρ ρ':Env} (r:LeE ρ ρ'):LeE ((t,e)::ρ) ((t,e)::ρ')
inductive LeL:Loc→Loc→Prop where
 |nil:LeL [] []
 |cons {t:Nat} {c c':List D} {ρ ρ':Loc} (h:LeC c c') (r:LeL ρ ρ'):LeL ((t,c)::ρ) ((t,c')::ρ')
 |skip {t:Nat} {c:List D} {ρ ρ':Loc} (r:LeL ρ ρ'):LeL ((t,c)::ρ) ((t,c)::ρ')
theorem LeE.get{ρ ρ':Env}(h:LeE ρ ρ'){t:Nat}{e':E}(he:Yv ρ' t=sO e'):∃e,Yv ρ t=sO e∧Zpi e e':=by
 induction h with
 |nil=>simp[Yv]at he
 |cons h _ ih =>
  simp only[Yv]at he⊢
  split at he
  ·simp at he;subst he;rename_i ht;rw[if_pos ht];exact⟨_,rfl,h⟩
  ·rename_i ht;rw[if_neg ht];exact ih he
 |skip _ ih =>
  simp only[Yv]at he⊢
  split at he
  ·simp at he;subst he;rename_i ht;rw[if_pos ht];exact⟨_,rfl,.refl _⟩
  ·rename_i ht;rw[if_neg ht];exact ih he
theorem LeL.get{ρ ρ':Loc}(h:LeL ρ ρ'){t:Nat}{e':List D}(he:Zo ρ' t=sO e'):∃e,Zo ρ t=sO e∧LeC e e':=by
 induction h with
 |nil=>simp[Zo]at he
 |cons h _ ih =>
  simp only[Zo]at he⊢
  split at he
  ·simp at he;subst he;rename_i ht;rw[if_pos ht];exact⟨_,rfl,h⟩
  ·rename_i ht;rw[if_neg ht];exact ih he
 |skip _ ih =>
  simp only[Zo]at he⊢
  split at he
  ·simp at he;subst he;rename_i ht;rw[if_pos ht];exact⟨_,rfl,LeC.refl _⟩
  ·rename_i ht;rw[if_neg ht];exact ih he
theorem LeL.getI{ρ ρ':Loc}(h:LeL ρ ρ'){t:Nat}{e:List D}(he:Zo ρ t=sO e):∃e',Zo ρ' t=sO e':=by
 induction h with
 |nil=>simp[Zo]at he
 |cons h _ ih =>
  simp only[Zo]at he⊢
  split at he
  ·rename_i ht;rw[if_pos ht];exact⟨_,rfl⟩
  ·rename_i ht;rw[if_neg ht];exact ih he
 |skip _ ih =>
  simp only[Zo]at he⊢
  split at he
  ·rename_i ht;rw[if_pos ht];exact⟨_,rfl⟩
  ·rename_i ht;rw[if_neg ht];exact ih he
theorem KX.le{b:Nat}{ds ds':List D}(h:KX g w b ds)(hl:LeC ds ds'):KX g w b ds':=by
 obtain⟨hp,vs,T,h1,h2,h3,h4⟩:=h
 exact⟨hp,vs,T,h1,h2.trans hl.len,fun i v d' hv hd=>by obtain⟨d,e1,e2⟩:=hl.get hd;exact e2 _ _ _ (h3 i v d hv e1),h4⟩
theorem Yo.le{v:Value}{e e':E}(h:Yo g ν w L v e)(hl:Zpi e e'):Yo g ν w L v e':=by
 cases hl with
 |refl=>exact h
 |d hd=>exact hd _ _ _ h
theorem ZO.le{ρ ρ':Env}{L L':Loc}(m:ZO g ν w tmps ρ L s)(hρ:LeE ρ ρ')(hL:LeL L L'):ZO g ν w tmps ρ' L' s:={
 st:=m.st
 loc l cs h:=by obtain⟨c,h1,h2⟩:=hL.get h;exact(m.loc l c h1).le h2
 locKept l cs h:=by obtain⟨c,h1,_⟩:=hL.get h;exact m.locKept l c h1
 locSt l cs h:=by obtain⟨c,h1,_⟩:=hL.get h;exact m.locSt l c h1
 inj l l' cs cs' h h' hν:=by obtain⟨c,h1,_⟩:=hL.get h;obtain⟨c',h1',_⟩:=hL.get h';exact m.inj l l' c c' h1 h1' hν
 env t e h:=by
  obtain⟨e0,h1,h2⟩:=hρ.get h
  exact((m.env t e0 h1).le h2).locs fun l cs hc=>⟨hL.getI hc,rfl⟩ }
section
variable {P:Program}
theorem Zwb{F:Fr P}{dk:List Zu}{ρ ρ':Env}{L L':Loc}(hρ:LeE ρ ρ')(hL:LeL L L')(h:ZS F dk ρ' L' s):ZS F dk ρ L s :=
 fun k hk g ν w tmps hN m=>h k hk g ν w tmps hN (m.le hρ hL)
end
theorem ZdQ(ρ:Env):LeE ρ ρ:=by
 induction ρ with
 |nil=>exact .nil
 |cons a r ih=>obtain⟨t,e⟩:=a;exact .cons (.refl _) ih
theorem ZaV(ρ:Loc):LeL ρ ρ:=by
 induction ρ with
 |nil=>exact .nil
 |cons a r ih=>obtain⟨t,e⟩:=a;exact .cons (LeC.refl _) ih
theorem ZmX{l:List D}{cs:List D}(hl:J5 l=.tup l)(h:LeC l cs):(J5 l).Le (.tup cs):=by rw[hl];exact Zwd h
theorem Zff{d d':D}(h:d.Le d'):(J5 [d]).Le d':=h
def Zi4:Bool→List Nat→St→St→Loc→Loc→List (Nat×Rd)→Prop
 |true,_,_,_,_,_,_=>True
 |false,fl,s,s',L,L',B=>KB fl s s' L L' B
def Zmr:Bool→List Nat→List (Nat×Rd)→List (Nat×Rd)
 |true,_,B=>B
 |false,fl,B=>Kx fl B
def ZhD(K:Env→Loc→St→Prop)(X:List (DOp×List Nat)→Env→Loc→St→List (Nat×Rd)→Prop):List (DOp×List Nat)→Env→Loc→St→List (Nat×Rd)→Prop
 | [],ρ,L,s,_=>K ρ L s
 |o::os,ρ,L,s,B=>match Z7 o.1 ρ L s with
  |.ok side ρ' L' s'=>side∧Zi4 (Kh o.1.k) o.2 s s' L L' B∧ZhD K X os ρ' L' s' (Jr o.1 ρ++Zmr (Kh o.1.k) o.2 B)
  |.all side pre ρ' s'=>side∧∀b,pre b→Zi4 false o.2 s (s' b) L L B∧ZhD K X os (ρ' b) L (s' b) (Zmr false o.2 B)
  |.stop=>X (o::os) ρ L s B
theorem Zj1{K:Env→Loc→St→Prop}{X:List (DOp×List Nat)→Env→Loc→St→List (Nat×Rd)→Prop}:∀{os:List (DOp×List Nat)} {ρ:Env} {L:Loc} {s:St} {B:List (Nat×Rd)},ZhD K X os ρ L s B→ZhC K X os ρ L s B
 | [],ρ,L,s,B,h=>h
 |o::os,ρ,L,s,B,h=>by
  simp only[ZhD,ZhC]at h⊢
  split at h<;>rename_i hst<;>simp only[hst]
  ·cases hp:Kh o.1.k
   ·rw[hp]at h
    exact⟨h.1,h.2.1,Zj1 h.2.2⟩
   ·rw[hp]at h;simp only[Zi4,Zmr]at h;exact⟨h.1,Zj1 h.2.2⟩
  ·refine⟨h.1,fun b hb=>?_⟩
   exact⟨(h.2 b hb).1,Zj1 (h.2 b hb).2⟩
  ·exact h
section
variable {P:Program}
theorem Y6{F:Fr P}{ks:List Nat}{dk:List Zu}{os:List (DOp×List Nat)}{B:List (Nat×Rd)}(h:ZhD (fun ρ L s=>ZS F dk (WV ρ ks) (ZcS (WV ρ ks) L) s) (fun os ρ L s B=>DOA F (sO ks) dk os ρ L s B) os ρ L s B):DOA F (sO ks) dk os ρ L s B:=ZjS (Zj1 h)
theorem ZbX{F:Fr P}{dk:List Zu}{o:DOp}{s0:St}(s:St)(t:Tok)(hg:Zy ρ o.guard=sO true){e sz b:Nat}{z:List D}{x y:Opd}(hk:o.k=.append e sz b z x y){p q:Prop}{n m:Nat}{row row2:Nat→List D}{dy:D}{dx:D}(hx:Z9 ρ true x=sO (p,.d dx))(hsl:Zfr sz dx=sO (t,n,row))(hy:Z9 ρ true y=sO (q,.d dy))(hel:ZcB sz dy=sO (m,row2))(hp:p)(hq:q)(hs:s0=s.own t (n*sz))(hok:t.okIn s)(hb:(n+m)*b≤140737488355328)(hbig:n+m≤big)(h:∀t':Tok,t'.okIn s→DO F kp dk os (ZX ρ o.dst (.d (.sl t' (n+m) sz (Q2 n row row2)))) L (s.own t' ((n+m)*sz))):
  DO F kp dk (o::os) ρ L s0:=by
 subst hs;exact Zty hg hk hx hsl hy hp hq hel hok hb hbig h
end
section
variable {P:Program}
theorem Wb{an:Ann}{f:FuncId}{df:DF}(hf:cf P an f=sO df){args:List D}{d:D}{s s':St}(h:(∀a∈args,DWf a)→∀(F:Fr P),(∀{dk:List Zu} {ρ:Env} {L:Loc} {t:St} {p:Prop} {ds:List D},K5 ρ L t df.res=sO (p,ds)→p→(J5 ds).Le d→s'.sub t→ZS F (.code .ret::dk) ρ L t) →
   ZS F [.code df.body] (J4 0 args) [] s):Wi P f args s d s' :=
 ZiB (ZoQ hf) fun hw=>ZM hf fun F hF=>h hw F fun h1 h2 h3 h4=>hF.ret d s' h1 h2 h3 h4 ⟨rfl,rfl⟩
def VT(P:Program)(f:D)(args:List D)(s:St)(d:D)(s':St):Prop:=Jc P f args s fun r t=>r=.ret d∧t=s'
theorem Wi.VT{f:FuncId}{first args caps:List D}{s s':St}{d:D}(h:Wi P f (first++args++caps) s d s'):VT P (.fn (.func f) first caps) args s d s':=ZN.V h
theorem ZA.VT{f:FuncId}{first args caps:List D}{d:D}(h:ZA P f (first++args++caps) d)(s:St):VT P (.fn (.func f) first caps) args s d s:=ZN.V (h s)
theorem ZcL{F:Fr P}{dk:List Zu}{o:DOp}{s s':St}(hg:Zy ρ o.guard=sO true){fx:Opd}(hk:o.k=.call fx xs){p q:Prop}{f:D}{es:List E}(hf:Z9 ρ true fx=sO (q,.d f))(ha:WE ρ true xs=sO (p,es))(hds:QR es=sO ds)(hp:p)(hq:q){d:D}(hc:VT P f ds s d s')(h:DO F kp dk os (ZX ρ o.dst (.d d)) L s'):DO F kp dk (o::os) ρ L s:=ZtD hg hk hf ha hds hp hq hc h
theorem Zw6{F:Fr P}{dk:List Zu}{o:DOp}{f:List Nat}{os:List (DOp×List Nat)}{s s':St}{B:List (Nat×Rd)}(hg:Zy ρ o.guard=sO true){fx:Opd}(hk:o.k=.call fx xs){p q:Prop}{fv:D}{es:List E}(hf:Z9 ρ true fx=sO (q,.d fv))(ha:WE ρ true xs=sO (p,es))(hds:QR es=sO ds)(hp:p)(hq:q){d:D}(hc:VT P fv ds s d s')(hB:KB f s s' L L B)(h:DOA F kp dk os (ZX ρ o.dst (.d d)) L s' (Kx f B)):DOA F kp dk ((o,f)::os) ρ L s B :=
 Zf6 hg hk hf ha hds hp hq hc (fun d' t ⟨h1,h2⟩=>by simp only[Res.ret.injEq]at h1;subst h1;subst h2;exact⟨hB,h⟩) (fun d' t ⟨h1,_⟩=>by simp at h1)
theorem Yh.leC{vs:List Value}{a a':List D}(h:Yh (Rep g w) vs a)(hl:LeC a a'):Yh (Rep g w) vs a':=by
 induction hl generalizing vs with
 |nil=>exact h
 |cons hd _ ih=>cases h with
  |cons h1 h2=>exact .cons (hd g w _ h1) (ih h2)
theorem ZN.leA{f:FuncId}{args args':List D}(hl:LeC args args')(h:ZN P f args' s Φ):ZN P f args s Φ :=
 ⟨h.1,fun g w vs hs ha=>h.2 g w vs hs (Yh.leC ha hl)⟩
theorem ZA.leA{f:FuncId}{args args':List D}{d:D}(hl:LeC args args')(h:ZA P f args' d):ZA P f args d:=fun s=>ZN.leA hl (h s)
theorem LeC.one{d d':D}(h:d.Le d'):LeC [d] [d']:=.cons h .nil
theorem LeC.two{d d' e e':D}(h:d.Le d')(h2:e.Le e'):LeC [d,e] [d',e']:=.cons h (.cons h2 .nil)
end
def St.or(s t:St):St:=fun b=>match s b with
 |some o=>sO o
 |none=>t b
theorem JB(s t:St)(b:Nat)(o:Wt):(s.or t).upd b o=(s.upd b o).or t:=by
 funext c;simp only[St.or,St.upd];by_cases h:c=b<;>simp[h]
theorem ZU{s t:St}{b:Nat}{o:Wt}(h:s b=sO o):(s.or t) b=sO o:=by simp[St.or,h]
theorem Yj{s t:St}{b:Nat}(h:s b=nO):(s.or t) b=t b:=by simp[St.or,h]
theorem Zat(s t:St):s.sub (s.or t):=fun b o h=>ZU h
def Kz(s t:St):Prop:=∀b o,t b=sO o→s b=nO
def St.single(b:Nat)(o:Wt):St:=fun c=>if c=b then sO o else nO
theorem KA(b:Nat)(o:Wt):(St.single b o) b=sO o:=by simp[St.single]
theorem Zgk{b c:Nat}(o:Wt)(h:c≠b):(St.single b o) c=nO:=by simp[St.single,h]
theorem Zbg{b:Nat}{o:Wt}(h:s b=nO):s.upd b o=s.or (St.single b o):=by
 funext c;simp only[St.or,St.upd,St.single]
 by_cases hc:c=b
 ·subst hc;simp[h]
 ·simp only[hc,if_false];cases s c<;>rfl
theorem ZbC{b:Nat}{o:Wt}(h:s b=nO):Kz s (St.single b o):=fun c x hc=>by
 simp only[St.single]at hc;split at hc
 ·rename_i e;rw[e];exact h
 ·simp at hc
def G.keep(g:G)(k:Nat→Prop):G:={ g with kept:=k }
theorem Q5{k:Nat→Prop}{v:Value}{d:D}(h:Rep g w v d):Rep (g.keep k) w v d:=h.mono0 (fun _=>Zys _) (fun _ _ _=>rfl) (fun _ _ h=>h)
theorem ZuD{k:Nat→Prop}{v:Value}{e:E}(h:Yo g ν w L v e):Yo (g.keep k) ν w L v e:=by
 induction e with
 |d d=>exact Q5 h
 |loc l off=>exact h
 |when c e ih=>exact⟨fun hc=>ih (h.1 hc),h.2⟩
theorem Zpy{k:Nat→Prop}{b:Nat}(h:KX g w b ds):KX (g.keep k) w b ds:=by
 obtain⟨hp,vs,T,h1,h2,h4,h5⟩:=h
 exact⟨hp,vs,T,h1,h2,fun i v d hv hd=>Q5 (h4 i v d hv hd),h5⟩
theorem Zmt{k:Nat→Prop}{b:Nat}{o:Wt}(h:Q6 g w b o):Q6 (g.keep k) w b o:=by
 cases o with
 |cells ds=>exact Zpy h
 |map es =>
  obtain⟨hp0,en,clock,h1,h2,h3,h4,h5,h6⟩:=h
  exact⟨hp0,en,clock,h1,h2,fun i x d hv hd=>Q5 (h3 i x d hv hd),fun i x d hv hd=>Q5 (h4 i x d hv hd),h5,h6⟩
 |tip n=>exact h
 |mapE kp es kk n =>
  obtain⟨hp0,io,hio,en,clock,h1,h2,h3,h4,h5,h6,h7⟩:=h
  exact⟨hp0,io,hio,en,clock,h1,h2,fun i x d hi hv hd=>Q5 (h3 i x d hi hv hd),fun i x d hi hv hd=>Q5 (h4 i x d hi hv hd),fun e he=>⟨Q5 (h5 e he).1,(h5 e he).2⟩,h6,h7⟩
 |loop r st =>
  obtain⟨hp,l,h1,h2,h3,h4,h5,h6,h7,h8,h9⟩:=h
  exact⟨hp,l,h1,h2,h3,h4,h5,h6,h7,fun t e he=>ZuD (h8 t e he),h9⟩
 |dfr=>exact h
theorem Yh.imp{α β:Type}{R S:α→β→Prop}{as9:List α}{bs:List β}(h:Yh R as9 bs)(hi:∀a b,R a b→S a b):Yh S as9 bs:=by
 induction h with
 |nil=>exact .nil
 |cons h _ ih=>exact .cons (hi _ _ h) ih
theorem Zp4{s t:St}(hd:Kz s t)(h:WQ g (s.or t) w):WQ (g.keep fun b=>g.kept b∨(t b).isSome) s w:={
 obj b o hb:=Zmt (h.obj b o (ZU hb))
 kept b o hb:=by
  rintro(hk|hk)
  ·exact h.kept b o (ZU hb) hk
  ·obtain⟨x,hx⟩:=Option.isSome_iff_exists.1 hk
   rw[hd b x hx]at hb;simp at hb
 fresh b hb:=by
  have h1:=h.fresh b hb
  refine⟨h1.1,?_⟩
  rintro(hk|hk)
  ·exact h1.2 hk
  ·obtain⟨x,hx⟩:=Option.isSome_iff_exists.1 hk
   have:=(h.obj b x (by rw[Yj (hd b x hx)];exact hx)).lt
   omega
 tabs n cs hc:=Q5 (h.tabs n cs hc) }
theorem Zn8{w w':World}{s t:St}{e:Ending}(hd:Kz s t)(h:WQ g (s.or t) w)(hp:ZgP (g.keep fun b=>g.kept b∨(t b).isSome) w Φ e w'):
  ZgP g w (fun r S=>∃s',Φ r s'∧Kz s' t∧S=s'.or t) e w':=by
 obtain⟨g',s',r,he,hs,hr,hΦ⟩:=hp
 have hkeq:=he.keptEq
 have he':Ext g w (g'.keep g.kept) w':=⟨he.size,he.prot,he.cell,he.hdr,fun b hb=>he.kept b (.inl hb),fun b hb=>he.keptProt b (.inl hb),rfl,he.os,he.output,he.tape⟩
 have hd':Kz s' t:=fun b o hb=>by
  cases hsb:s' b with
  |none=>rfl
  |some x=>exact absurd (by rw[hkeq];exact .inr (by rw[hb];rfl)) (hs.kept b x hsb)
 refine⟨g'.keep g.kept,s'.or t,r,he',⟨fun b o hb=>?_,fun b o hb=>?_,fun b hb=>?_,fun n cs hc=>Q5 (hs.tabs n cs hc)⟩,?_,s',hΦ,hd',rfl⟩
 ·cases hsb:s' b with
  |some x =>
   rw[ZU hsb]at hb;cases hb
   exact Zmt (hs.obj b _ hsb)
  |none =>
   rw[Yj hsb]at hb
   have h0:=h.obj b o (by rw[Yj (hd b o hb)];exact hb)
   have hk:(g.keep fun b=>g.kept b∨(t b).isSome).kept b:=.inr (by rw[hb];rfl)
   exact h0.mono he' (he.kept b hk) (he.keptProt b hk)
 ·cases hsb:s' b with
  |some x=>exact fun hk=>hs.kept b x hsb (by rw[hkeq];exact .inl hk)
  |none =>
   rw[Yj hsb]at hb
   exact h.kept b o (by rw[Yj (hd b o hb)];exact hb)
 ·have:=hs.fresh b hb
  exact⟨this.1,fun hk=>this.2 (by rw[hkeq];exact .inl hk)⟩
 ·cases e<;>cases r<;>simp only[Zsm]at hr⊢
  ·exact Q5 hr
  ·obtain⟨v,h1,h2⟩:=hr;exact⟨v,h1,Q5 h2⟩
section
variable {P:Program}
theorem ZN.frame{f:FuncId}{args:List D}{s t:St}(hd:Kz s t)(h:ZN P f args s Φ):ZN P f args (s.or t) fun r S=>∃s',Φ r s'∧Kz s' t∧S=s'.or t :=
 ⟨h.1,fun g w vs hs ha=>(h.2 _ w vs (Zp4 hd hs) (ha.imp fun _ _=>Q5)).mono fun _ _ hp=>Zn8 hd hs hp⟩
theorem Jc.frame{f:D}{args:List D}{s t:St}(hd:Kz s t)(h:Jc P f args s Φ):Jc P f args (s.or t) fun r S=>∃s',Φ r s'∧Kz s' t∧S=s'.or t:=by
 intro g w fv vs hs hf ha
 obtain⟨d,nx,fr,h1,h2,h3,h4⟩:=h _ w fv vs (Zp4 hd hs) (Q5 hf) (ha.imp fun _ _=>Q5)
 refine⟨d,nx,fr,h1,h2,h3,fun c cs=>?_⟩
 obtain⟨e,w',h5,h6⟩:=h4 c cs
 exact⟨e,w',Zn8 hd hs h5,h6⟩
end
section
variable {P:Program}
theorem Zil{an:Ann}{l N:Nat}{r:Qw}{da db:DC}{args:List D}(hs:s l=sO (.loop r .ready))(hlen:args.length=r.params.length)(ha:cc P an N r.assign=sO da)(hb:cc P an N r.body=sO db)(hN:r.N=N)(hp:∀t∈r.params,t<N)(h:∀F:Fr P,J3 F l Φ→F.b.fn=r.fn→ZS F [.code da,.beginR,.code db] (Ja r.params args r.ρ) [] s):Jc P (.fn (.yield l) [] []) args s Φ:=by
 intro g w fv vs hst hf hargs
 cases hf with
 |fn _ fs cs' _ _ hn1 hn2 h1 h2 =>
 obtain rfl:fs=[]:=by simpa using hn1
 obtain rfl:cs'=[]:=by simpa using hn2
 obtain⟨hp0,l0,a1,a2,a3,a4,a5,a6,a7,a8,a9,a10⟩:=hst.obj l _ hs
 have hsize:vs.toArray.size=l0.params.size:=by
  have e1:=hargs.len
  have e2:l0.params.toList.length=r.params.length:=by rw[a3]
  simp at e2⊢;omega
 refine⟨_,_,_,by simp[Deferred.ofValue];rfl,by simp[invoke,Instr.yield,Instr.getLoop,ZaP a1,hsize];rfl,rfl,fun c cs=>?_⟩
 have M:ZO g (fun _=>0) w l0.tmps r.ρ [] s:=⟨hst,fun l cs h=>by simp[Zo]at h,fun l cs h=>by simp[Zo]at h,fun l cs h=>by simp[Zo]at h,fun l l' cs cs' h=>by simp[Zo]at h,a8⟩
 obtain⟨hN',M'⟩:=Zh0 M hargs hlen (by rw[hN]at *;exact hp) (by rw[←hN];exact a7)
 have:=h (Zbe P an r.fn N l c cs Φ) ⟨an,r.fn,N,c,cs,rfl⟩ rfl [.code r.assign,.beginRound,.code r.body] (.code ha (.beginR (.code hb .nil))) g (fun _=>0) w _ hN' M'
 have hfr:(Zbe P an r.fn N l c cs Φ).b.atR { tmps:=(r.params.zip vs).foldl (fun tmps (x:Nat×Value)=>tmps.setIfInBounds x.1 x.2) l0.tmps,defers:=[] } [.code r.assign,.beginRound,.code r.body] =
   Frame.round l l0.fn ((l0.params.zip vs.toArray).foldl (fun tmps (x:Nat×Value)=>tmps.setIfInBounds x.1 x.2) l0.tmps) l0.assign l0.body .normal:=by
  simp only[Frame.atR,Frame.round,Zbe,a2,a4,a5,←a3]
  congr 1
  rw[←Array.foldl_toList]
  simp
 have e:(Zbe P an r.fn N l c cs Φ).ds=[]:=rfl
 rw[e,hfr]at this
 have e2:(l0.params.zip vs.toArray).size=l0.params.size:=by simp at hsize⊢;omega
 rw[e2]at this
 exact this
theorem ZiE{F:Fr P}(hr:F.b.roundOf=nO){o:Opd}{ps:List Nat}{da db:DC}{dk:List Zu}{p:Prop}{fv:D}(hf:Z9 ρ true o=sO (p,.d fv))(hp:p)(ks:List Nat)(hks:(WV ρ ks).map (·.1) |>.Nodup)(h:∀q l r,s q=nO→s l=nO→q≠l→r.ρ=JC ks ρ→r.params=ps→r.fn=F.b.fn→cc P F.an F.N r.assign=sO da→cc P F.an F.N r.body=sO db→r.N=F.N→(∀t∈ps,t<F.N) →
   ∃Ψ,Jc P fv [.fn (.yield l) [] []] ((s.upd q .dfr).upd l (.loop r .ready)) Ψ∧(∀d s',Ψ (.ret d) s'→ZiG (F.mark q) l r dk ρ L s')∧(∀d s',Ψ (.panic d) s'→K1 (F.mark q) ρ L d s')):
  ZS F (.code (.rangeF o ps da db)::dk) ρ L s:=by
 intro k hk
 cases hk with
 | @code _ _ kt _ hc ht =>
 obtain⟨f',ps',a',b',rfl,hf',hps,ha,hb,hlt⟩:=ZnY hc
 intro g ν w tmps hN m
 have hfr:Rep g w _ fv:=Wx m hf' rfl hf hp F.ds
 have hg1:=Zbo (g:=g) (w:=w) (.deferred (sO [])) m.st.fresh
 have he1:=hg1.ext m.st.fresh
 obtain⟨hq,m1⟩:=m.newObj hg1 (o:=.dfr) ⟨(m.st.fresh _ (Zys _)).1,JJ w _⟩
 let w1:=w.alloc (.deferred (sO []))
 let lp:Go.Loop:={ state:=.ready,pending:=nO,fn:=F.b.fn,tmps:=tmps,params:=ps',assign:=a',body:=b',defers:=w.heap.size }
 let r:Qw:={ fn:=F.b.fn,params:=ps,assign:=a',body:=b',defers:=w.heap.size,ρ:=JC ks ρ,N:=F.N }
 have hg2:=Zbo (g:=g) (w:=w1) (.loop lp) m1.st.fresh
 have he2:=hg2.ext m1.st.fresh
 obtain⟨hl,m2⟩:=m1.newObj hg2 (o:=.loop r .ready) ⟨(m1.st.fresh _ (Zys _)).1,lp,JJ w1 _,rfl,hps,rfl,rfl,rfl,hN,fun t e het=>by
  obtain⟨h1,h2⟩:=Ze3 hks het
  exact ZmB (((m1.env t e (Zey ρ ks t e h1))).mono he2) h2,rfl,rfl⟩
 have hqsz:w1.heap.size=w.heap.size+1:=by simp[w1]
 have hl':s w1.heap.size=nO:=by
  have hne:¬w1.heap.size=w.heap.size:=by omega
  have h0:(s.upd w.heap.size .dfr) w1.heap.size=nO:=hl
  simp only[St.upd,hne,if_false]at h0
  exact h0
 obtain⟨Ψ,hV,hret,hpan⟩:=h w.heap.size w1.heap.size r hq hl' (by omega) rfl rfl rfl ha hb rfl hlt
 have hrep2:Rep g (w1.alloc (.loop lp)) _ fv:=(hfr.mono he1).mono he2
 obtain⟨d,nx,fr,hd1,hd2,hd3,hC⟩:=hV (Zf9 g ν L) (w1.alloc (.loop lp)) _ [.func (.yield w1.heap.size) #[] #[]] m2.callSt (QD hrep2 rfl) (.cons (.fn (.yield w1.heap.size) [] [] [] [] rfl rfl (by simp) (by simp)) .nil)
 have henter:(Instr.enterLoop F.b.fn tmps ps' a' b' F.b.roundOf).run P w=.ok (w1.heap.size,[{ target:=.collected w.heap.size,args:=#[] }]) (w1.alloc (.loop lp)):=by
  rw[hr];simp[Instr.enterLoop,w1,lp]
 have hstep:=Zhj (P:=P) (b:=F.b) (a:=⟨tmps,F.ds⟩) (k:=kt) (cs:=F.cs) henter hd1 hd2 hd3
 obtain⟨e,w',⟨g',s',res,x1,x2,x3,x4⟩,hback⟩:=hC (F.b.atR { tmps:=tmps,defers:=[{ target:=.collected w.heap.size,args:=#[] }]++F.ds } (.inRangeFunc w1.heap.size::kt)) F.cs
 obtain⟨hext,hm⟩:=m2.afterCall x1 x2
 have hext':=(he1.trans he2).trans hext
 cases e with
 |returned v =>
  cases res with
  |panic d=>exact x3.elim
  |ret d =>
   refine F.T.back _ _ _ _ (.head hstep hback) ?_
   rw[finish_atR_inRangeFunc]
   exact F.T.ext _ _ _ _ _ hext' (ZmA (F:=F.mark w.heap.size) ht hN hm (hret d s' x4))
 |panicked ch =>
  cases res with
  |ret d=>exact x3.elim
  |panic d =>
   obtain⟨v,rfl,hv⟩:=x3
   refine F.T.back _ _ _ _ (.head hstep hback) ?_
   rw[Frame.raise_atR]
   exact F.T.ext _ _ _ _ _ hext' (hpan d s' x4 _ _ _ v _ _ hN hm (QD hv rfl))
 |outgrown=>exact hback.elim
theorem ZlF{F:Fr P}{d:D}{s s':St}(hs:s'.sub s)(h:K1 F ρ L d s'):K1 F ρ L d s :=
 fun g ν w v todo tmps hN m hr=>h g ν w v todo tmps hN (m.sub hs) hr
inductive Oc where
 |next
 |stop (c:Code)
 |pan (d:D)
def Oc.res:Oc→Res
 |.next=>.ret (.bool true)
 |.stop _=>.ret (.bool false)
 |.pan d=>.panic d
def Zfj(P:Program)(y:D)(n:Nat)(args:Nat→List D)(go:Nat→Oc)(A:Nat→St→Prop):Prop :=
 ∀j,j<n→(∀i,i<j→go i=.next)→∀a,A j a→Jc P y (args j) a fun r a'=>r=(go j).res∧A (j+1) a'
inductive ZgN(n:Nat)(go:Nat→Oc)(A:Nat→St→Prop)(a:St):Res→Prop where
 |all (h:∀i,i<n→go i=.next) (ha:A n a):ZgN n go A a (.ret (.tup []))
 |stop (m:Nat) (c:Code) (hm:m<n) (h:∀i,i<m→go i=.next) (hc:go m=.stop c) (ha:A (m+1) a):ZgN n go A a (.ret (.tup []))
 |pan (m:Nat) (d:D) (hm:m<n) (h:∀i,i<m→go i=.next) (hc:go m=.pan d) (ha:A (m+1) a):ZgN n go A a (.panic d)
def Zhp(P:Program)(fv:D)(n:Nat)(args:Nat→List D)(t:St):Prop :=
 ∀(y:D) (go:Nat→Oc) (A:Nat→St→Prop) (a0:St),Zfj P y n args go A→A 0 a0→Kz a0 t→Jc P fv [y] (a0.or t) fun r S=>∃a,ZgN n go A a r∧a.sub S
def lpS(q l:Nat)(r:Qw)(st:LSt):St:=(St.single q .dfr).or (St.single l (.loop r st))
structure ZkV(F:Fr P)(busy:St)(E:Oc→St→Prop):Prop where
 fin:∀{ρ:Env} {L:Loc} {S a:St},E .next a→Kz a busy→(a.or busy).sub S→ZS F [] ρ L S
 ret:∀{dk:List Zu} {ρ:Env} {L:Loc} {S a:St},E (.stop .ret) a→Kz a busy→(a.or busy).sub S→ZS F (.code .ret::dk) ρ L S
 exit:∀{id:Nat} {dk:List Zu} {ρ:Env} {L:Loc} {S a:St},Zag id dk=none→E (.stop (.exit id)) a→Kz a busy→(a.or busy).sub S→ZS F (.code (.exit id)::dk) ρ L S
 pan:∀{ρ:Env} {L:Loc} {d:D} {S a:St},E (.pan d) a→Kz a busy→(a.or busy).sub S→K1 F ρ L d S
theorem KJ.ex{F:Fr P}{rs:List RV}{dds:List DD}(hF:KJ F rs Φ dds):∃f,P.funcs[F.b.fn]?=sO f:=by
 obtain⟨an,f,df,cs,hf,hrs,rfl⟩:=hF
 obtain⟨fn,h,_⟩:=ZoQ hf
 exact⟨fn,h⟩
theorem Jf{q l:Nat}{r:Qw}{st:LSt}:(lpS q l r st) q=sO .dfr:=ZU (KA _ _)
theorem QH{q l:Nat}{r:Qw}{st:LSt}(h:q≠l):(lpS q l r st) l=sO (.loop r st):=by
 unfold lpS;rw[Yj (Zgk _ (Ne.symm h))];exact KA _ _
theorem Zb8{q l c:Nat}{r:Qw}{st:LSt}(h1:c≠q)(h2:c≠l):(lpS q l r st) c=nO:=by
 unfold lpS;rw[Yj (Zgk _ h1)];exact Zgk _ h2
theorem ZhU{q l:Nat}{r r':Qw}{st st':LSt}{a:St}(h:Kz a (lpS q l r st))(hq:q≠l):Kz a (lpS q l r' st'):=fun b o hb=>by
 by_cases h1:b=q
 ·rw[h1];exact h q _ Jf
 ·by_cases h2:b=l
  ·rw[h2];exact h l _ (QH hq)
  ·rw[Zb8 h1 h2]at hb;simp at hb
theorem Znk{q l:Nat}{r:Qw}{st st':LSt}{a S:St}(hq:q≠l)(hd:Kz a (lpS q l r st))(hs:(a.or (lpS q l r st)).sub S):(a.or (lpS q l r st')).sub (S.upd l (.loop r st')):=fun b o hb=>by
 by_cases h2:b=l
 ·subst h2
  rw[Yj (hd b _ (QH hq)),QH hq]at hb
  rw[St.upd_same];exact hb
 ·rw[St.upd_ne _ _ h2]
  refine hs b o ?_
  by_cases h1:b=q
  ·subst h1
   rw[Yj (hd b _ Jf),Jf]at hb⊢;exact hb
  ·cases ha:a b with
   |some x=>rw[ZU ha]at hb⊢;exact hb
   |none=>rw[Yj ha,Zb8 h1 h2]at hb;simp at hb
theorem ZkK{F:Fr P}{q l:Nat}{r:Qw}(hF:J3 F l Φ)(hq:q≠l)(hex:∃f,P.funcs[F.b.fn]?=sO f){E:Oc→St→Prop}(hΦ:∀oc a,E oc a→Kz a (lpS q l r .busy)→Φ oc.res (a.or (lpS q l r (match oc with|.next=>.ready|.stop c=>.done c|.pan _=>.busy)))):ZkV F (lpS q l r .busy) E:={
 fin he hd hs:=hF.fin (s':=_) (hs l _ (by rw[Yj (hd l _ (QH hq))];exact QH hq)) (Znk hq hd hs) (hΦ .next _ he hd)
 ret he hd hs:=hF.ret (hs l _ (by rw[Yj (hd l _ (QH hq))];exact QH hq)) (Znk hq hd hs) (hΦ (.stop .ret) _ he hd)
 exit hx he hd hs:=hF.exit hx (hs l _ (by rw[Yj (hd l _ (QH hq))];exact QH hq)) (Znk hq hd hs) (hΦ (.stop (.exit _)) _ he hd)
 pan he hd hs:=hF.pan hs (hΦ (.pan _) _ he hd) fun an fn N c cs e=>by
  obtain⟨f,hf⟩:=hex
  refine⟨f,?_⟩
  have:F.b.fn=fn:=by rw[e];rfl
  rw[←this];exact hf }
theorem Zdi{F:Fr P}{rs:List RV}{dds:List DD}(hF:KJ F rs Φ dds){o:Opd}{ps:List Nat}{da db:DC}{dk:List Zu}{p:Prop}{fv:D}(hf:Z9 ρ true o=sO (p,.d fv))(hp:p)(ks:List Nat)(hks:(WV ρ ks).map (·.1) |>.Nodup){a0 t:St}(hd:Kz a0 t){n:Nat}{args:Nat→List D}(hit:Zhp P fv n args t)(hlen:∀j,j<n→(args j).length=ps.length)(go:Nat→Oc)(B:Nat→St→Prop)(h0:B 0 a0)(hbody:∀j a,j<n→(∀i,i<j→go i=.next)→B j a→∀(F':Fr P) (ready busy:St),Kz a ready →
   (∀{dk:List Zu} {ρ:Env} {L:Loc},(Kz a busy→ZS F' dk ρ L (a.or busy))→ZS F' (.beginR::dk) ρ L (a.or ready)) →
   ZkV F' busy (fun oc a'=>oc=go j∧B (j+1) a')→ZS F' [.code da,.beginR,.code db] (Ja ps (args j) (JC ks ρ)) [] (a.or ready))(hall:∀q a,(∀i,i<n→go i=.next)→B n a→a q=nO→ZS (F.mark q) dk ρ L (a.upd q .dfr))(hret:∀q a m,m<n→(∀i,i<m→go i=.next)→go m=.stop .ret→B (m+1) a→a q=nO→ZS (F.mark q) (.code .ret::dk) ρ L (a.upd q .dfr))(hexit:∀q a m id,m<n→(∀i,i<m→go i=.next)→go m=.stop (.exit id)→B (m+1) a→a q=nO→ZS (F.mark q) (.code (.exit id)::dk) ρ L (a.upd q .dfr))(hpan:∀q a m d,m<n→(∀i,i<m→go i=.next)→go m=.pan d→B (m+1) a→a q=nO→K1 (F.mark q) ρ L d (a.upd q .dfr))(hgo:∀m c,go m=.stop c→c=.ret∨∃id,c=.exit id):
  ZS F (.code (.rangeF o ps da db)::dk) ρ L (a0.or t):=by
 refine ZiE hF.roundOf hf hp ks hks fun q l r hq hl hql hr1 hr2 hr3 hca hcb hr4 hps=>?_
 have hq1:a0 q=nO:=by cases h:a0 q with|none=>rfl|some x=>rw[ZU h]at hq;simp at hq
 have hl1:a0 l=nO:=by cases h:a0 l with|none=>rfl|some x=>rw[ZU h]at hl;simp at hl
 have hq2:t q=nO:=by rw[Yj hq1]at hq;exact hq
 have hl2:t l=nO:=by rw[Yj hl1]at hl;exact hl
 let stOf:Nat→LSt:=fun j=>match j with
  |0=>.ready
  |j+1=>match go j with
   |.next=>.ready
   |.stop c=>.done c
   |.pan _=>.busy
 let A:Nat→St→Prop:=fun j S=>∃a,B j a∧Kz a (lpS q l r .ready)∧S=a.or (lpS q l r (stOf j))
 have hd0:Kz a0 (lpS q l r .ready):=fun b o hb=>by
  by_cases h1:b=q
  ·rw[h1];exact hq1
  ·by_cases h2:b=l
   ·rw[h2];exact hl1
   ·rw[Zb8 h1 h2]at hb;simp at hb
 have hst:(((a0.or t).upd q .dfr).upd l (.loop r .ready))=(a0.or (lpS q l r .ready)).or t:=by
  funext b
  simp only[St.upd]
  by_cases h2:b=l
  ·subst h2;rw[if_pos rfl,ZU (s:=a0.or _) (by rw[Yj hl1];exact QH hql)]
  ·rw[if_neg h2]
   by_cases h1:b=q
   ·subst h1;rw[if_pos rfl,ZU (s:=a0.or _) (by rw[Yj hq1];exact Jf)]
   ·rw[if_neg h1]
    cases ha:a0 b with
    |some x=>rw[ZU ha,ZU (ZU ha)]
    |none=>rw[Yj ha,Yj (s:=a0.or _) (by rw[Yj ha];exact Zb8 h1 h2)]
 have hd1:Kz (a0.or (lpS q l r .ready)) t:=fun b o hb=>by
  rw[Yj (hd b o hb)]
  exact Zb8 (fun e=>by rw[e,hq2]at hb;simp at hb) (fun e=>by rw[e,hl2]at hb;simp at hb)
 have hex:=hF.ex
 have hcons:Zfj P (.fn (.yield l) [] []) n args go A:=by
  rintro j hj hnx S ⟨a,hBj,hda,rfl⟩
  have hsj:stOf j=.ready:=by
   cases j with
   |zero=>rfl
   |succ j=>simp only[stOf,hnx j (by omega)]
  rw[hsj]
  refine Zil (an:=F.an) (N:=F.N) (r:=r) (by rw[Yj (hda l _ (QH hql))];exact QH hql) (by rw[hr2];exact hlen j hj) hca hcb hr4 (by rw[hr2];exact hps) fun F' hF' hfn=>?_
  rw[hr1,hr2]
  refine hbody j a hj hnx hBj F' (lpS q l r .ready) (lpS q l r .busy) hda (fun hk=>hF'.begin (r:=r) (by rw[Yj (hda l _ (QH hql))];exact QH hql) ?_) ?_
  ·have e:(a.or (lpS q l r .ready)).upd l (.loop r .busy)=a.or (lpS q l r .busy):=by
    funext b
    simp only[St.upd]
    by_cases h2:b=l
    ·subst h2;rw[if_pos rfl,Yj (hda b _ (QH hql)),QH hql]
    ·rw[if_neg h2]
     by_cases h1:b=q
     ·subst h1;rw[Yj (hda b _ Jf),Yj (hda b _ Jf),Jf,Jf]
     ·cases ha:a b with
      |some x=>rw[ZU ha,ZU ha]
      |none=>rw[Yj ha,Yj ha,Zb8 h1 h2,Zb8 h1 h2]
   rw[e];exact hk (ZhU hda hql)
  ·refine ZkK hF' hql (by rw[hfn,hr3];exact hex) ?_
   rintro oc a' ⟨rfl,hB'⟩ hda'
   exact⟨rfl,a',hB',ZhU hda' hql,rfl⟩
 refine⟨_,by rw[hst];exact hit _ go A _ hcons ⟨a0,h0,hd0,rfl⟩ hd1,?_,?_⟩
 ·rintro d S ⟨S',hend,hsub⟩
  have fin:∀a,Kz a (lpS q l r .ready)→∀st,(a.or (lpS q l r st)).sub S→S l=sO (.loop r st)∧(a.upd q .dfr).sub (S.del l)∧a q=nO:=fun a hda st hs=>by
   refine⟨hs l _ (by rw[Yj (hda l _ (QH hql))];exact QH hql),fun b o hb=>?_,hda q _ Jf⟩
   have hbl:b≠l:=fun e=>by
    subst e
    rw[St.upd_ne _ _ (Ne.symm hql),hda b _ (QH hql)]at hb;simp at hb
   simp only[St.del,hbl,if_false]
   by_cases h1:b=q
   ·subst h1;rw[St.upd_same]at hb;exact hs b o (by rw[Yj (hda b _ Jf),Jf];exact hb)
   ·rw[St.upd_ne _ _ h1]at hb;exact hs b o (ZU hb)
  cases hend with
  |all h ha =>
   obtain⟨a,hB,hda,rfl⟩:=ha
   have hsn:stOf n=.ready:=by
    cases n with
    |zero=>rfl
    |succ n=>simp only[stOf,h n (by omega)]
   rw[hsn]at hsub
   obtain⟨f1,f2,f3⟩:=fin a hda _ hsub
   exact .inl ⟨f1,J9 f2 (hall q a h hB f3)⟩
  |stop m c hm h hc ha =>
   obtain⟨a,hB,hda,rfl⟩:=ha
   have hsn:stOf (m+1)=.done c:=by simp only[stOf,hc]
   rw[hsn]at hsub
   obtain⟨f1,f2,f3⟩:=fin a hda _ hsub
   rcases hgo m c hc with rfl|⟨id,rfl⟩
   ·exact .inr ⟨.ret,.ret,f1,rfl,J9 f2 (hret q a m hm h hc hB f3)⟩
   ·exact .inr ⟨.exit id,.exit id,f1,rfl,J9 f2 (hexit q a m id hm h hc hB f3)⟩
 ·rintro d S ⟨S',hend,hsub⟩
  cases hend with
  |pan m d hm h hc ha =>
   obtain⟨a,hB,hda,rfl⟩:=ha
   have hs:(a.upd q .dfr).sub S:=fun b o hb=>by
    by_cases h1:b=q
    ·subst h1;rw[St.upd_same]at hb;exact hsub b o (by rw[Yj (hda b _ Jf),Jf];exact hb)
    ·rw[St.upd_ne _ _ h1]at hb;exact hsub b o (ZU hb)
   exact ZlF hs (hpan q a m d hm h hc hB (hda q _ Jf))
end
end Go.DL
namespace Go.DL
open Go Go.Lib
variable [Zpk]
section
variable {P:Program}
theorem Zse{F:Fr P}{kp:Option (List Nat)}{dk:List Zu}{o:DOp}{os:List DOp}{ρ:Env}{L:Loc}{s:St}(hg:Zy ρ o.guard=sO true){e sz b:Nat}{z:List D}{x y:Opd}(hk:o.k=.append e sz b z x y)
  {p q:Prop} {t:Tok} {n m:Nat} {row row2:Nat→List D} {dy:D} {dx:D} (hx:Z9 ρ true x=sO (p,.d dx)) (hsl:Zfr sz dx=sO (t,n,row)) (hy:Z9 ρ true y=sO (q,.d dy)) (hp:p) (hq:q) (hel:∀g w v,Rep g w v dy→∃news,Q8 g w sz m news row2∧Zcx P w sz m v news) (hok:t.okIn s)
  (hb:(n+m)*b≤140737488355328) (hbig:n+m≤big) (h:∀t':Tok,t'.okIn s→DO F kp dk os (ZX ρ o.dst (.d (.sl t' (n+m) sz (Q2 n row row2)))) L (s.own t' ((n+m)*sz))) :
  DO F kp dk (o::os) ρ L (s.own t (n*sz)):=by
 refine Qu fun oo g ν w tmps ops i r k hoo hck hcg hdst hd hN M hr hkk=>?_
 have hw:=WC M hcg hg
 have hnd:=WS hck (by rw[hk];rfl)
 rw[hk]at hck
 obtain⟨x',y',args,ats,t1,t2,tu,hop,hargs,ha1,ha2,hu1,hu2,hnu,hsz,hz,hbb,hx',hy',h0,hzl⟩:=Zet hck
 subst hbb
 have hr1:Rep g w _ (.sl t n sz row):=ZjW (Wx M hx' rfl hx hp F.ds) hsl
 have hr2:Rep g w _ _:=Wx M hy' rfl hy hq F.ds
 obtain⟨zv,hz1,hz2,hz3,ie,hie,hzz⟩:=Zbh (g:=g) (w:=w) hz
 have hsize:ie.size=sz:=by simpa[YY,hie]using hsz
 have hzlen:zv.cells.size=sz:=by have:=hz2.len;simp at this;omega
 have hby:P.bytesOf e=ie.bytes:=by simp[Program.bytesOf,hie]
 rw[hby]at hb
 obtain⟨news,hn1,hn2⟩:=hel _ _ _ hr2
 obtain⟨v',w',g',t',a1,a2,a3,a4,a5,a6,a7⟩:=Zpq (ty:=oo.type) hu1 hu2 hnu hie hzz hsize hzlen h0 M.st hok hr1 hn1 hn2 hb hbig
 have hne:∀l cs,Zo L l=sO cs→t≠.tip (ν l):=fun l cs hl ht=>by
  have:=M.locSt l cs hl
  rw[ht]at this
  simp[St.own,St.upd]at this
 have hsn:∀l cs,Zo L l=sO cs→s (ν l)=nO:=fun l cs hl=>by
  cases hx:s (ν l) with
  |none=>rfl
  |some o=>have:=Qz (k:=n*sz) hok _ _ hx;rw[M.locSt l cs hl]at this;simp at this
 have mm:ZO g' ν w' tmps ρ L (s.own t' ((n+m)*sz)):=by
  refine⟨a3,fun l cs hl=>(M.loc l cs hl).mono a2 (a6 (ν l) (M.loc l cs hl).lt (hne l cs hl)).1 (a6 (ν l) (M.loc l cs hl).lt (hne l cs hl)).2,fun l cs hl=>by rw[a2.keptEq];exact M.locKept l cs hl,fun l cs hl=>?_,M.inj,fun t e he=>(M.env t e he).mono a2⟩
  cases t' with
  |tip b =>
   have:¬ν l=b:=fun hb=>by
    rcases a7 b rfl with h1|h1
    ·exact hne l cs hl (by rw[hb];exact h1)
    ·have:=(M.loc l cs hl).lt;omega
   simp only[St.own,St.upd,this,if_false];exact hsn l cs hl
  |_=>exact hsn l cs hl
 refine KQ hN hoo hdst hd hw hnd (v:=v') (w':=w') (e:=.d (.sl t' (n+m) sz (Q2 n row row2))) ?_ a2 mm a5 (h t' a4 ops r k hr hkk)
 have hae:args = #[x',y']:=by apply Array.ext';simpa using hargs
 have hats:∀vs,Builtin.append_ ats oo.type vs=Builtin.append_ #[t1,t2] oo.type vs:=fun vs=>by
  unfold Builtin.append_;simp[ha1,ha2]
 unfold execOp
 simp only[hop,hae,resolve,invoke,builtin,Sem.run_bind,Sem.run_pure,Result.andThen_ok,List.map_toArray,Zyp,ZyF,hats,a1]
theorem Zum{g:G}{w:World}{v:Value}{b off cap sz:Nat}(h:Rep g w v (.msl b off 0 cap sz)):∃news,Q8 g w sz 0 news (fun _=>[])∧Zcx P w sz 0 v news:=by
 cases h with
 |mslx a _ _ _=>exact⟨[],⟨by simp,fun i hi=>by omega,fun i j v d hi=>by omega,by simp⟩,fun w2=>by simp[Builtin.lenOf],fun w2 _=>by simp[Builtin.firstCells,loadCells,loadCellsFrom]⟩
 |msl _ _ _ _ _ hn hb=>exact⟨[],⟨by simp,fun i hi=>by omega,fun i j v d hi=>by omega,by simp⟩,fun w2=>by simp[Builtin.lenOf],fun w2 _=>run_firstCells_some (P:=P) w2 sz 0 ⟨b,off,nO⟩ 0 cap [] (by simp) (fun k v hv=>by simp at hv)⟩
theorem Zsh{F:Fr P}{dk:List Zu}{ρ:Env}{L:Loc}{s:St}(t:Nat){tk:Tok}{sz:Nat}{row:Nat→List D}(ht:Yv ρ t=sO (.d (.sl tk 0 sz row)))(h1:ZS F dk ((t,.d .nilsl)::ρ) L s)
  (h2:∀b off cap,ZS F dk ((t,.d (.msl b off 0 cap sz))::ρ) L s):ZS F dk ρ L s:=by
 intro k hk g ν w tmps hN m
 have hr:Rep g w (tmps.getD t undef) (.sl tk 0 sz row):=m.env t _ ht
 have key:∀d,Rep g w (tmps.getD t undef) d→ZO g ν w tmps ((t,.d d)::ρ) L s:=fun d hd=>⟨m.st,m.loc,m.locKept,m.locSt,m.inj,fun t' e' he=>by
  simp only[Yv]at he
  split at he
  ·rename_i hx;subst hx;simp only[Zyd]at he;subst he;exact hd
  ·exact m.env t' e' he⟩
 generalize tmps.getD t undef=v at hr key
 cases hr with
 |sl0 a _ _ _ _ =>
  cases a with
  |none=>exact h1 k hk g ν w tmps hN (key _ .nilsl)
  |some a=>exact h2 0 0 0 k hk g ν w tmps hN (key _ (.mslx a 0 0 _))
 |sl b o n cap s row t f hl hc hp hr one ht hcap hb=>exact h2 b o cap k hk g ν w tmps hN (key _ (.msl _ _ _ _ _ hcap hb))
end
end Go.DL
namespace Go.DL
open Go
variable [Zpk]
variable {kp:Option (List Nat)}{L:Loc}{ρ:Env}{s:St}{w:World}{os:List DOp}{ds:List D}{B:List (Nat × Rd)}{dst:Option Nat}{tmps:Array Value}{g:G}{Φ:Res→St→Prop}{ν:Nat→Nat}{xs:List Opd}{side:Prop}{row:Nat→List D}
section
variable {P:Program}
theorem Zqo{a:St}{q:Nat}{o:Wt}(h:a q=nO):(a.or (St.single q o)).del q=a:=by
 funext b
 simp only[St.del]
 by_cases hb:b=q
 ·rw[if_pos hb,hb,h]
 ·rw[if_neg hb]
  cases ha:a b with
  |some x=>exact ZU ha
  |none=>rw[Yj ha];exact Zgk _ hb
theorem KJ.retM{F:Fr P}{rs:List RV}{dds:List DD}(hF:KJ F rs Φ dds){q:Nat}{a:St}{dk:List Zu}(hq:a q=nO)(h:Unw P dds nO a (ZjT ρ L rs Φ)):
  ZS (F.mark q) (.code .ret::dk) ρ L (a.or (St.single q .dfr)) :=
 (hF.mark q).retU ⟨by rw[Yj hq];exact KA _ _,by rw[Zqo hq];exact h⟩
theorem KJ.ret1{F:Fr P}{rs:List RV}(hF:KJ F rs Φ []){q:Nat}{a:St}{dk:List Zu}(hq:a q=nO){p:Prop}(d:D)(s':St)(h1:K5 ρ L a rs=sO (p,ds))(h2:p)(h3:(J5 ds).Le d)(h4:s'.sub a)(h5:Φ (.ret d) s'):
  ZS (F.mark q) (.code .ret::dk) ρ L (a.or (St.single q .dfr)):=hF.retM hq ⟨p,ds,d,s',h1,h2,h3,h4,h5⟩
theorem KJ.fin1{F:Fr P}{rs:List RV}(hF:KJ F rs Φ []){q:Nat}{a:St}(hq:a q=nO){p:Prop}(d:D)(s':St)(h1:K5 ρ L a rs=sO (p,ds))(h2:p)(h3:(J5 ds).Le d)(h4:s'.sub a)(h5:Φ (.ret d) s'):
  ZS (F.mark q) [] ρ L (a.or (St.single q .dfr)) :=
 (hF.mark q).finU ⟨by rw[Yj hq];exact KA _ _,by rw[Zqo hq];exact⟨p,ds,d,s',h1,h2,h3,h4,h5⟩⟩
theorem KJ.pan1{F:Fr P}{rs:List RV}(hF:KJ F rs Φ []){q:Nat}{a:St}{d:D}(hq:a q=nO)(s':St)(h4:s'.sub a)(h5:Φ (.panic d) s'):K1 (F.mark q) ρ L d (a.or (St.single q .dfr)) :=
 (hF.mark q).panU ⟨by rw[Yj hq];exact KA _ _,by rw[Zqo hq];exact⟨d,s',Zyj d,h4,h5⟩⟩
theorem Zn3{a t:St}(h:Kz a t){q:Nat}{o:Wt}(ht:t q=sO o):a q=nO:=h q o ht
end
section
variable {P:Program}
theorem ZbB{F:Fr P}{dk:List Zu}{b:Nat}{ds ds':List D}(h:s b=sO (.cells ds))(hl:LeC ds ds')(k:ZS F dk ρ L (s.upd b (.cells ds'))):ZS F dk ρ L s:=by
 intro kk hk g ν w tmps hN m
 have hc:KX g w b ds:=m.st.obj b _ h
 exact k kk hk g ν w tmps hN ⟨m.st.updL (o:=.cells ds') (hc.le hl) (m.st.kept b _ h),m.loc,m.locKept,fun l cs hL=>by
  have hne:ν l≠b:=fun e=>by have:=m.locSt l cs hL;rw[e,h]at this;simp at this
  rw[St.upd_ne _ _ hne];exact m.locSt l cs hL,m.inj,m.env⟩
end
theorem ZuF{s:Nat}{cs:List D}{r:Nat→List D}:∀{len:Nat},cs.length=len*s→(∀i,i<len→part cs (i*s) s=r i)→cs=(Zyl len).flatMap r:=by
 intro len hl hr
 have key:∀k,k≤len→cs.take (k*s)=(Zyl k).flatMap r:=by
  intro k
  induction k with
  |zero=>intro _;simp
  |succ k ih =>
   intro hk
   rw[List.range_succ,List.flatMap_append,←ih (by omega),ZyI,Nat.one_mul,List.take_add]
   congr 1
   simp only[List.flatMap_cons,List.flatMap_nil,ZyR]
   rw[←hr k hk];rfl
 have:=key len (Zys _)
 rw[←hl,ZyA]at this;exact this
theorem Zoc(c:Array Value)(T:TypeId)(hf:∀b,w.heap.size≤b→g.prot b=0∧¬g.kept b):ZbD g w g (w.drew.alloc (.cells c T)):={
 size:=by simp
 old b hb:=(by first|exact heap_alloc_old w.drew _ b hb|exact heap_alloc_old w.drew _ hb)
 prot b hb:=rfl
 fresh b hb:=by
  have:(w.drew.alloc (.cells c T)).heap.size=w.heap.size+1:=by simp
  rw[this]at hb
  exact(hf b (by omega)).1
 kept:=rfl
 os:=rfl
 output:=rfl
 tape:=rfl }
section
variable {P:Program}
theorem Zwn{len s:Nat}{z:List D}{t e:TypeId}{parts:List (Nat×Value)}(hu:P.underlying t=sO (.slice e))(hsz:YY P e=sO s)(hz:ZbV P e=sO z)(hdis:Zaf len (parts.map (·.1))=true)(hzl:z.length=s)(hs0:0<s)(hbig:len*s≤2 ^ 24)(hl0:0<len)(hd:Yh (Rep g w) (parts.map (·.2)) ds)(hp:J6 s ds=true):
  ∃cv:Array Value,(Instr.buildSlice t len parts.toArray).run P w=.ok (.slice (sO ⟨w.heap.size,0,nO⟩) len len) (w.alloc (.cells cv e)) ∧
   Yh (Rep g w) cv.toList ((Zyl len).flatMap (Wd z ((parts.map (·.1)).zip ds)))∧∀v∈cv,v.one1=true:=by
 obtain⟨zv,hz1,hz2,hz3,ie,hie,hzz⟩:=Zbh (g:=g) (w:=w) hz
 have hsize:ie.size=s:=by simpa[YY,hie]using hsz
 have hzlen:zv.cells.size=s:=by have:=hz2.len;simp at this;omega
 have hn:(parts.map (·.1)).length=ds.length:=by have:=hd.len;simpa using this
 let c0:Array Value:=(Array.range (len*s)).map (zv.cells[· % zv.cells.size]!)
 let d0:List D:=(Zyl (len*s)).map fun i=>z.getD (i % s) .undef
 have hrep0:Yh (Rep g w) c0.toList d0:=by
  refine WG (by simp[c0,d0]) (fun i v d hv hd=>?_)
  simp only[c0,d0,Array.toList_map,Array.toList_range,List.getElem?_map,Zym]at hv hd
  obtain⟨a,ha,rfl⟩:=hv
  obtain⟨b,hb,rfl⟩:=hd
  rw[ha]at hb
  simp only[Zyd]at hb
  subst hb
  have hlt:a % s<s:=Nat.mod_lt _ hs0
  refine hz2.get (a % s) _ _ ?_ ?_
  ·rw[hzlen];simp[getElem!_pos,hzlen,hlt]
  ·simp[Zyx,hzl,hlt]
 have hone0:∀v∈c0,v.one1=true:=fun v hv=>by
  simp only[c0,Array.mem_map]at hv
  obtain⟨a,_,rfl⟩:=hv
  have hlt:a % zv.cells.size<zv.cells.size:=Nat.mod_lt _ (by omega)
  rw[getElem!_pos zv.cells (a % zv.cells.size) hlt]
  exact hz3 _ (Array.getElem_mem hlt)
 have hlen0:d0.length=len*s:=by simp[d0]
 obtain⟨cs,hfill,hcl,hrows⟩:=ZiX (parts.map (·.1)) ds d0 hdis hn hp hlen0
 obtain⟨cv,hf1,hf2,hf3⟩:=ZgZ (g:=g) (w:=w) (fun i=>sO (i*s,s)) parts ((parts.map (·.1)).map fun i=>(i*s,s)) ds cs d0 c0 (fun i x q hx hq=>by
  simp only[List.map_map,List.getElem?_map,hx,Zyv,Zyd,Function.comp_def]at hq
  rw[←hq]) (by simp) hd hrep0 hone0 hfill
 have hpos:¬len*s=0:=by simp[Nat.mul_eq_zero];omega
 have hrun:=run_buildSlice (P:=P) w t e len parts.toArray cv ie zv hu hie hzz (by rw[hsize];omega) (by rw[hsize];exact hpos) (by rw[hsize];exact hf1)
 refine⟨cv,hrun,?_,hf3⟩
 have:cs=(Zyl len).flatMap (Wd z ((parts.map (·.1)).zip ds)):=ZuF hcl fun i hi=>by
  rw[hrows i hi]
  have hzp:part d0 (i*s) s=z:=ZjP hzl hs0 hi
  rw[hzp]
 rw[←this];exact hf2
theorem Zwa{F:Fr P}{dk:List Zu}{o:DOp}(hg:Zy ρ o.guard=sO true){len n:Nat}{z:List D}{is:List Nat}(hk:o.k=.bsl len n z is xs){p:Prop}{es:List E}(ha:WE ρ true xs=sO (p,es))(hds:QR es=sO ds)(hp:p)(hok:J6 n ds=true)(hl0:0<len)(h:∀b,s b=nO→DO F kp dk os (ZX ρ o.dst (.d (.msl b 0 len len n))) L (s.upd b (.cells ((Zyl len).flatMap (Wd z (is.zip ds)))))):DO F kp dk (o::os) ρ L s:=by
 refine Qu fun oo g ν w tmps ops i r k hoo hck hcg hdst hd hN m hr hkk=>?_
 have hw:=WC m hcg hg
 have hnd:=WS hck (by rw[hk];rfl)
 rw[hk]at hck
 obtain⟨t,e,parts,hop,hu,hsz,hz,hxs,rfl,hdis,hzl,hs0,hbig⟩:=ZtN hck
 have hargs:=Zd3 m rfl F.ds hxs ha hp
 have hreps:=J0 hargs hds
 obtain⟨cv,h1,h2,h3⟩:=Zwn (P:=P) (g:=g) (w:=w) (parts:=parts.toList.map fun x=>(x.1,(Act.mk tmps F.ds).eval x.2)) hu hsz hz (by simpa[List.map_map,Function.comp_def]using hdis) hzl hs0 hbig hl0
  (by simpa[List.map_map,Function.comp_def]using hreps) hok
 have h2':Yh (Rep g w) cv.toList ((Zyl len).flatMap (Wd z ((parts.toList.map (·.1)).zip ds))):=by simpa[List.map_map,Function.comp_def]using h2
 have hgr:=Zbo (g:=g) (w:=w) (.cells cv e) m.st.fresh
 have he:=hgr.ext m.st.fresh
 have hob:Q6 g (w.alloc (.cells cv e)) w.heap.size (.cells ((Zyl len).flatMap (Wd z ((parts.toList.map (·.1)).zip ds)))) :=
  ⟨(m.st.fresh _ (Zys _)).1,_,e,JJ w _,by rw[←h2'.len];simp,fun i v d hv hd=>(h2'.get i v d (by simpa using hv) hd).mono he,h3⟩
 obtain⟨hn,m'⟩:=m.newObj hgr hob
 have hrun:(execOp (Act.mk tmps F.ds).eval oo).run P w=.ok (.value (.slice (sO ⟨w.heap.size,0,nO⟩) len len)) (w.alloc (.cells cv e)):=by
  simp only[execOp,hop,Sem.run_bind]
  have e1:(parts.map fun x=>(x.1,(Act.mk tmps F.ds).eval x.2))=(parts.toList.map fun x=>(x.1,(Act.mk tmps F.ds).eval x.2)).toArray:=by apply Array.ext';simp
  rw[e1,h1]
  rfl
 refine KQ (L':=L) hN hoo hdst hd hw hnd (e:=.d (.msl w.heap.size 0 len len n)) hrun he m' (Rep.msl _ _ _ _ _ (Zys _) ?_) ?_
 ·unfold big
  have:len≤len*n:=Nat.le_mul_of_pos_right _ hs0
  omega
 ·exact h _ hn ops r k hr hkk
theorem Zwf{sz m:Nat}{v1 v2:Value}{row row2:Nat→List D}{tT u ty e:TypeId}{tu:TypeDesc}{i:TypeInfo}{z:Value}(ht:P.underlying tT=sO (.slice e))(hu:P.underlying u=sO tu)(hnu:∀k,tu≠.int k)(hi:P.info? e=sO i)(hz:i.zero=sO z)(hsz:i.size=sz)(hzc:z.cells.size=sz)(hone:∀x∈z.cells,x.one1=true)(h0:0<sz)(hs:WQ g s w)(h1:Rep g w v1 (.sl .full 0 sz row)){news:List Value}(hm:0<m)(h2:Q8 g w sz m news row2)(h3:Zcx P w sz m v2 news)(hb:m*i.bytes≤140737488355328)(hbig:m≤big):
    ∃(cap:Nat) (cv:Array Value),(Builtin.append_ #[tT,u] ty #[v1,v2]).run P w=.ok (.slice (sO ⟨w.heap.size,0,nO⟩) m cap) (w.drew.alloc (.cells cv e))∧m≤cap∧cap≤big∧cv.size=cap*sz∧(∀v∈cv,v.one1=true) ∧
      ∀(k:Nat) (v:Value) (d:D),cv[k]?=sO v→((Zyl m).flatMap row2++List.replicate ((cap-m)*sz) .any)[k]?=sO d→Rep g w v d:=by
  subst hsz
  have grown:∀base,v1=.slice base 0 0→∃(cap:Nat) (cv:Array Value),(Builtin.append_ #[tT,u] ty #[v1,v2]).run P w=.ok (.slice (sO ⟨w.heap.size,0,nO⟩) m cap) (w.drew.alloc (.cells cv e))∧m≤cap∧cap≤big∧cv.size=cap*i.size∧(∀v∈cv,v.one1=true) ∧
      ∀(k:Nat) (v:Value) (d:D),cv[k]?=sO v→((Zyl m).flatMap row2++List.replicate ((cap-m)*i.size) .any)[k]?=sO d→Rep g w v d:=by
    intro base hv
    subst hv
    obtain⟨olds,hr1,ho1,ho2⟩:=Zh5 (P:=P) h1 h0
    have hne:olds=[]:=List.eq_nil_of_length_eq_zero (by simpa using hr1.len)
    subst hne
    have ho:=ho2
    have hrun:=Zk3 (ty:=ty) (n:=0) (cap:=0) ht hu hnu hi hz h3 ho (by omega) (by simp only[big]at hbig;omega) (by rw[Nat.zero_add];exact hb)
    rw[Nat.zero_add]at hrun
    have hge:=grownCap_ge w m 0 e
    have hle:=grownCap_le_maxLen w m 0 e (by simp only[big]at hbig;simp only[maxLen];omega)
    refine⟨_,_,hrun,hge,by simp only[maxLen]at hle;simp only[big];omega,?_,fun v hv=>?_,fun k v d hv hd=>?_⟩
    · simp only[List.nil_append,List.size_toArray,Zyr,h2.len,Array.length_toList,size_zeroCells,hzc,←ZyI]
      congr 1;omega
    · simp only[List.nil_append,List.mem_toArray,List.mem_append]at hv
      rcases hv with hv|hv
      · exact h2.one v hv
      · simp only[Builtin.zeroCells,Array.mem_toList_iff]at hv
        first
        | (simp only[Array.mem_map,Array.mem_range]at hv
           obtain⟨a,_,rfl⟩:=hv
           have hlt:a % z.cells.size<z.cells.size:=Nat.mod_lt _ (by omega)
           rw[getElem!_pos z.cells (a % z.cells.size) hlt]
           exact hone _ (Array.getElem_mem hlt))
    · simp only[List.nil_append,List.getElem?_toArray]at hv
      have hfl:((Zyl m).flatMap row2).length=m*i.size:=by
        have:∀k,k≤m→((Zyl k).flatMap row2).length=k*i.size:=by
          intro k
          induction k with
          |zero=>intro _;simp
          |succ k ih =>
            intro hk
            rw[List.range_succ,List.flatMap_append,Zyr,ih (by omega)]
            simp[h2.rlen k hk,ZyI]
        exact this m (Zys _)
      by_cases hk:k<m*i.size
      · rw[ZyM (by rw[h2.len];exact hk)]at hv
        rw[ZyM (by rw[hfl];exact hk)]at hd
        have hqr:k / i.size<m:=Nat.div_lt_of_lt_mul (by rw[Nat.mul_comm];exact hk)
        have hmr:k % i.size<i.size:=Nat.mod_lt _ h0
        have e1:k / i.size*i.size+k % i.size=k:=by rw[Nat.mul_comm];exact Nat.div_add_mod k i.size
        refine h2.rep (k / i.size) (k % i.size) v d hqr hmr (by rw[e1];exact hv) ?_
        have key:∀q,q≤m→∀a b,a<q→b<i.size→((Zyl q).flatMap row2)[a*i.size+b]?=(row2 a)[b]?:=by
          intro q
          induction q with
          |zero=>intro _ a b ha;omega
          |succ q ih =>
            intro hq a b ha hb
            have hlq:((Zyl q).flatMap row2).length=q*i.size:=by
              have:∀k,k≤m→((Zyl k).flatMap row2).length=k*i.size:=by
                intro k
                induction k with
                |zero=>intro _;simp
                |succ k ih =>
                  intro hk
                  rw[List.range_succ,List.flatMap_append,Zyr,ih (by omega)]
                  simp[h2.rlen k hk,ZyI]
              exact this q (by omega)
            rw[List.range_succ,List.flatMap_append]
            by_cases haq:a<q
            · have:a*i.size+b<q*i.size:=by
                have:=ZyD i.size (show a+1≤q from haq)
                rw[ZyI,Nat.one_mul]at this;omega
              rw[ZyM (by rw[hlq];exact this)]
              exact ih (by omega) a b haq hb
            · obtain rfl:a=q:=by omega
              rw[List.getElem?_append_right (by rw[hlq];omega),hlq]
              simp
        rw[←key m (Zys _) _ _ hqr hmr,e1];exact hd
      · rw[List.getElem?_append_right (by rw[hfl];omega),List.getElem?_replicate]at hd
        split at hd
        · simp only[Zyd]at hd;subst hd;exact .any v
        · simp at hd
  cases h1 with
  |sl0 a t s row htt=>exact grown a rfl
  |sl b o n cap sz row t f hl hc hp hr one htok hcap hb' =>
    simp only[ZjV]at htok
    subst htok
    exact grown _ rfl
end
def Zsi(g:G)(w:World)(b:Nat)(ds:List D):Prop :=
 ∃(vs:Array Value) (T:TypeId),w.heap[b]?=sO (.cells vs T (0,0))∧vs.size=ds.length∧(∀(i:Nat) (v:Value) (d:D),vs[i]?=sO v→ds[i]?=sO d→Rep g w v d)∧(∀v∈vs,v.one1=true)∧ds.length≤g.prot b
def QY(t:St)(Ln:List Nat)(d d':D):Prop:=∀g w v,(∀b∈Ln,∀ds,t b=sO (.cells ds)→Zsi g w b ds)→Rep g w v d→Rep g w v d'
inductive LdC(t:St)(Ln:List Nat):List D→List D→Prop where
 |nil:LdC t Ln [] []
 |cons {d d':D} {l l':List D} (h:QY t Ln d d') (r:LdC t Ln l l'):LdC t Ln (d::l) (d'::l')
theorem QY.refl{t:St}{Ln:List Nat}(d:D):QY t Ln d d:=fun _ _ _ _ h=>h
theorem LdC.len{t:St}{Ln:List Nat}{l l':List D}(h:LdC t Ln l l'):l.length=l'.length:=by
 induction h with
 |nil=>rfl
 |cons _ _ ih=>simp[ih]
theorem LdC.get{t:St}{Ln:List Nat}{l l':List D}(h:LdC t Ln l l'){i:Nat}{d':D}(hi:l'[i]?=sO d'):∃d,l[i]?=sO d∧QY t Ln d d':=by
 induction h generalizing i with
 |nil=>simp at hi
 |cons h1 _ ih =>
  cases i with
  |zero=>simp at hi;subst hi;exact⟨_,rfl,h1⟩
  |succ i=>simpa using ih (by simpa using hi)
theorem QY.agg{t:St}{Ln:List Nat}{l l':List D}(h:LdC t Ln l l'):QY t Ln (.agg l) (.agg l'):=by
 intro g w v hf hr
 cases hr with
 |agg vs _ hn hc one =>
  refine .agg vs _ (hn.trans h.len) (fun i v d hv hd=>?_) one
  obtain⟨x,hx,hle⟩:=h.get hd
  exact hle g w v hf (hc i v x hv hx)
def St.delL(s:St)(Ln:List Nat):St:=fun b=>if b∈Ln then nO else s b
def Zct(g:G)(t:St)(Ln:List Nat):G:={ g with prot:=fun b=>if b∈Ln then (match t b with|some (.cells ds)=>ds.length|_=>0) else g.prot b }
theorem Zfz{t:St}{Ln:List Nat}(hs:WQ g t w)(hL:∀b∈Ln,∃ds,t b=sO (.cells ds)):Ext g w (Zct g t Ln) w:={
 size:=Zys _
 prot b:=by
  simp only[Zct]
  split
  ·rename_i h
   obtain⟨ds,hd⟩:=hL b h
   have:=(hs.obj b _ hd).1
   omega
  ·exact Zys _
 cell _ _ _:=rfl
 hdr _ _ h:=h
 kept _ _:=rfl
 keptProt b hb:=by
  simp only[Zct]
  split
  ·rename_i h
   obtain⟨ds,hd⟩:=hL b h
   exact absurd hb (hs.kept b _ hd)
  ·rfl
 keptEq:=rfl
 os:=rfl
 output:=rfl
 tape:=rfl }
theorem ZrT{t:St}{Ln:List Nat}(hs:WQ g t w)(hL:∀b∈Ln,∃ds,t b=sO (.cells ds)):∀b∈Ln,∀ds,t b=sO (.cells ds)→Zsi (Zct g t Ln) w b ds:=by
 intro b hb ds hd
 obtain⟨hp,vs,T,h1,h2,h3,h4⟩:=hs.obj b _ hd
 exact⟨vs,T,h1,h2,fun i v d hv hdd=>(h3 i v d hv hdd).mono (Zfz hs hL),h4,by simp only[Zct,if_pos hb,hd];exact Zys _⟩
section
variable {P:Program}
inductive SC(N:Nat→Prop):D→Prop where
 |int (k:IntKind) (n:Int):SC N (.int k n)
 |bool (b:Bool):SC N (.bool b)
 |str (l:List UInt8):SC N (.str l)
 |nilsl:SC N .nilsl
 |agg (cs:List D) (h:∀c∈cs,SC N c):SC N (.agg cs)
 |tup (cs:List D) (h:∀c∈cs,SC N c):SC N (.tup cs)
 |sl0 (t:Tok) (s:Nat) (row:Nat→List D):SC N (.sl t 0 s row)
 |tip (b n s:Nat) (row:Nat→List D) (hb:N b) (h:∀i,i<n→∀c∈row i,SC N c):SC N (.sl (.tip b) n s row)
 |ptr (b o:Nat):SC N (.ptr b o)
 |msl (b o n cap s:Nat):SC N (.msl b o n cap s)
 |fn (f:Fn) (a b:List D) (ha:∀c∈a,SC N c) (hb:∀c∈b,SC N c):SC N (.fn f a b)
 |nilptr:SC N .nilptr
 |map (b:Nat):SC N (.map b)
 |nilmap:SC N .nilmap
 |nilfn:SC N .nilfn
 |niliface:SC N .niliface
 |undef:SC N .undef
theorem SC.rep{N:Nat→Prop}{d:D}(h:SC N d):∀{g g':G} {w:World} {v:Value},(∀b,N b→g.prot b≤g'.prot b)→Rep g w v d→Rep g' w v d:=by
 induction h with
 |int k n=>intro g g' w v _ hr;cases hr with|int _ _ h=>exact .int k n h
 |bool b=>intro g g' w v _ hr;cases hr;exact .bool b
 |str l=>intro g g' w v _ hr;cases hr with|str s _ h hb=>exact .str s l h hb
 |nilsl=>intro g g' w v _ hr;cases hr;exact .nilsl
 |agg cs _ ih =>
  intro g g' w v hp hr
  cases hr with
  |agg vs _ hn hc one=>exact .agg vs cs hn (fun i v d hv hd=>ih d (List.mem_of_getElem? hd) hp (hc i v d hv hd)) one
 |tup cs _ ih =>
  intro g g' w v hp hr
  cases hr with
  |tup vs _ hn hc=>exact .tup vs cs hn (fun i v d hv hd=>ih d (List.mem_of_getElem? hd) hp (hc i v d hv hd))
 |sl0 t s row =>
  intro g g' w v hp hr
  cases hr with
  |sl0 _ _ _ _ ht=>exact .sl0 _ t s row ht
  |sl b o n cap sz _ t f hl hc hpp hrr one ht hcap hb =>
   exact .sl b o 0 cap s row t f hl hc (fun i j hi=>by omega) (fun i j d hi=>by omega) one ht hcap hb
 |tip b n s row hb _ ih =>
  intro g g' w v hp hr
  cases hr with
  |sl0 _ _ _ _ ht=>exact .sl0 _ _ s row ht
  |sl b' o n cap sz _ t f hl hc hpp hrr one ht hcap hbig =>
   have hbb:b'=b:=ht.1
   subst hbb
   exact .sl b' o n cap s row (.tip b') f hl hc (fun i j hi hj=>Nat.lt_of_lt_of_le (hpp i j hi hj) (hp _ hb)) (fun i j d hi hd=>ih i hi d (List.mem_of_getElem? hd) hp (hrr i j d hi hd)) one ht hcap hbig
 |ptr b o=>intro g g' w v _ hr;cases hr;exact .ptr b o
 |msl b o n cap s=>intro g g' w v _ hr;cases hr with|msl _ _ _ _ _ h hb=>exact .msl b o n cap s h hb|mslx a _ _ _=>exact .mslx a _ _ _
 |fn f a b _ _ iha ihb =>
  intro g g' w v hp hr
  cases hr with
  |fn _ fs cs _ _ hnf hnc hf hc=>exact .fn f fs cs a b hnf hnc (fun i v d hv hd=>iha d (List.mem_of_getElem? hd) hp (hf i v d hv hd)) (fun i v d hv hd=>ihb d (List.mem_of_getElem? hd) hp (hc i v d hv hd))
 |nilptr=>intro g g' w v _ hr;cases hr;exact .nilptr
 |map b=>intro g g' w v _ hr;cases hr;exact .map b
 |nilmap=>intro g g' w v _ hr;cases hr;exact .nilmap
 |nilfn=>intro g g' w v _ hr;cases hr;exact .nilfn
 |niliface=>intro g g' w v _ hr;cases hr;exact .niliface
 |undef=>intro g g' w v _ hr;cases hr;exact .undef
def SCO(N:Nat→Prop):Wt→Prop
 |.cells ds=>∀d∈ds,SC N d
 |.map es=>∀e∈es,SC N e.1∧SC N e.2
 |.tip _=>True
 |.dfr=>True
 |_=>False
theorem SCO.ok{N:Nat→Prop}{o:Wt}(h:SCO N o){g g':G}{b:Nat}(hp:∀b,N b→g.prot b≤g'.prot b)(hpb:g'.prot b=g.prot b)(hr:Q6 g w b o):Q6 g' w b o:=by
 cases o with
 |cells ds =>
  obtain⟨h0,vs,T,h1,h2,h3,h4⟩:=hr
  exact⟨hpb.trans h0,vs,T,h1,h2,fun i v d hv hd=>(h d (List.mem_of_getElem? hd)).rep hp (h3 i v d hv hd),h4⟩
 |map es =>
  obtain⟨h0,en,cl,h1,h2,h3,h4,h5,h6⟩:=hr
  exact⟨hpb.trans h0,en,cl,h1,h2,fun i x d hv hd=>(h d (List.mem_of_getElem? hd)).1.rep hp (h3 i x d hv hd),fun i x d hv hd=>(h d (List.mem_of_getElem? hd)).2.rep hp (h4 i x d hv hd),h5,h6⟩
 |tip k =>
  obtain⟨h0,x⟩:=hr
  exact⟨hpb.trans h0,x⟩
 |dfr=>exact⟨hpb.trans hr.1,hr.2⟩
 |mapE _ _ _ _=>exact h.elim
 |loop _ _=>exact h.elim
def SCR(N:Nat→Prop):Res→Prop
 |.ret d=>SC N d
 |.panic d=>SC N d
theorem Yh.ldC{t:St}{Ln:List Nat}(hf:∀b∈Ln,∀ds,t b=sO (.cells ds)→Zsi g w b ds){vs:List Value}{a a':List D}(h:Yh (Rep g w) vs a)(hl:LdC t Ln a a'):Yh (Rep g w) vs a':=by
 induction hl generalizing vs with
 |nil=>cases h;exact .nil
 |cons h1 _ ih=>cases h with|cons h2 h3=>exact .cons (h1 _ _ _ hf h2) (ih h3)
theorem ZN.lend{f:FuncId}{args args':List D}{t:St}{Ln:List Nat}(hL:∀b∈Ln,∃ds,t b=sO (.cells ds))(hl:LdC t Ln args args')(h:ZN P f args' (fun _=>nO) Φ)(hΦ:∀r S,Φ r S→SCR (fun b=>(S b).isSome=true) r∧∀b o,S b=sO o→SCO (fun b=>(S b).isSome=true) o):
  ZN P f args t fun r S=>∃S',Φ r S'∧Kz S' t∧S=S'.or t:=by
 refine⟨h.1,fun g w vs hs ha=>?_⟩
 have hx:=Zfz hs hL
 have hat:=ZrT hs hL
 have ha1:Yh (Rep (Zct g t Ln) w) vs args':=Yh.ldC hat (ha.imp fun _ _ h=>Rep.mono h hx) hl
 have hst:WQ ((Zct g t Ln).keep fun b=>g.kept b∨(t b).isSome=true) (fun _=>nO) w:=by
  refine⟨fun b o hb=>by simp at hb,fun b o hb=>by simp at hb,fun b hb=>?_,fun n cs hc=>Q5 ((hs.tabs n cs hc).mono hx)⟩
  have h1:=hs.fresh b hb
  have htb:t b=nO:=by
   cases htb:t b with
   |none=>rfl
   |some o=>have:=(hs.obj b o htb).lt;omega
  have hbL:b∉Ln:=fun hm=>by obtain⟨ds,hd⟩:=hL b hm;rw[htb]at hd;simp at hd
  exact⟨by show(Zct g t Ln).prot b=0;simp only[Zct,if_neg hbL];exact h1.1,fun hk=>by rcases hk with hk|hk;exact h1.2 hk;rw[htb]at hk;simp at hk⟩
 refine(h.2 _ w vs hst (ha1.imp fun _ _ h=>Q5 h)).mono fun e w' hp=>?_
 obtain⟨g',S',r,he,hS,hr,hq⟩:=hp
 have hkeq:=he.keptEq
 obtain⟨hscr,hsco⟩:=hΦ r S' hq
 have hd':Kz S' t:=fun b o hb=>by
  cases hsb:S' b with
  |none=>rfl
  |some x=>exact absurd (by rw[hkeq];exact .inr (by rw[hb];rfl)) (hS.kept b x hsb)
 have hnL:∀b,(S' b).isSome=true→b∉Ln:=fun b hb hm=>by
  obtain⟨ds,hd⟩:=hL b hm
  rw[hd' b _ hd]at hb;simp at hb
 let g2:G:={ prot:=fun b=>if b∈Ln then 0 else g'.prot b,kept:=g.kept }
 have hp2:∀b,(S' b).isSome=true→g'.prot b≤g2.prot b:=fun b hb=>by simp only[g2,if_neg (hnL b hb)];exact Zys _
 have hf:∀b,b∉Ln→(Zct g t Ln).prot b=g.prot b:=fun b hb=>by simp only[Zct,if_neg hb]
 have hg0:∀b,b∈Ln→g.prot b=0:=fun b hb=>by obtain⟨ds,hd⟩:=hL b hb;exact(hs.obj b _ hd).1
 have he2:Ext g w g2 w':=by
  refine⟨he.size,fun b=>?_,fun b o ho=>?_,he.hdr,fun b hb=>he.kept b (.inl hb),fun b hb=>?_,rfl,he.os,he.output,he.tape⟩
  ·simp only[g2]
   split
   ·rename_i hb;rw[hg0 b hb];exact Zys _
   ·rename_i hb;rw[←hf b hb];exact he.prot b
  ·have hb:b∉Ln:=fun hb=>by rw[hg0 b hb]at ho;omega
   exact he.cell b o (by show o<(Zct g t Ln).prot b;rw[hf b hb];exact ho)
  ·have hbL:b∉Ln:=fun hm=>by obtain⟨ds,hd⟩:=hL b hm;exact hs.kept b _ hd hb
   simp only[g2,if_neg hbL]
   rw[←hf b hbL];exact he.keptProt b (.inl hb)
 have hg'0:∀b,w'.heap.size≤b→g'.prot b=0∧¬g'.kept b:=fun b hb=>hS.fresh b hb
 refine⟨g2,S'.or t,r,he2,⟨fun b o hb=>?_,fun b o hb=>?_,fun b hb=>?_,fun n cs hc=>(hs.tabs n cs hc).mono he2⟩,?_,S',hq,hd',rfl⟩
 ·cases hsb:S' b with
  |some x =>
   rw[ZU hsb]at hb;cases hb
   have hbN:(S' b).isSome=true:=by rw[hsb];rfl
   exact(hsco b _ hsb).ok hp2 (by simp only[g2,if_neg (hnL b hbN)]) (hS.obj b _ hsb)
  |none =>
   rw[Yj hsb]at hb
   have hk:g.kept b∨(t b).isSome=true:=.inr (by rw[hb];rfl)
   refine(hs.obj b o hb).mono he2 (he.kept b hk) ?_
   by_cases hbL:b∈Ln
   ·simp only[g2,if_pos hbL];exact(hg0 b hbL).symm
   ·simp only[g2,if_neg hbL];rw[←hf b hbL];exact he.keptProt b hk
 ·cases hsb:S' b with
  |some x=>exact fun hk=>hS.kept b x hsb (by rw[hkeq];exact .inl hk)
  |none=>rw[Yj hsb]at hb;exact hs.kept b o hb
 ·have:=hS.fresh b hb
  refine⟨?_,fun hk=>this.2 (by rw[hkeq];exact .inl hk)⟩
  simp only[g2]
  split
  ·rfl
  ·exact this.1
 ·cases e<;>cases r<;>simp only[Zsm]at hr⊢
  ·exact SC.rep hscr hp2 hr
  ·obtain⟨v,h1,h2⟩:=hr;exact⟨v,h1,SC.rep hscr hp2 h2⟩
end
end Go.DL
namespace Go.DL
open Go Go.ChangeShapes Go.RowKit Go.WideShapes Go.ChangeAt
variable [Zpk]
def ZdL(W:World):G:={ prot:=fun b=>match W.heap[b]? with|some (.cells vs _ _)=>vs.size|_=>0,kept:=fun b=>b<W.heap.size }
def ZlH(W:World):Prop:=∀n cs,Zpk.tab n=sO cs→Rep (ZdL W) W (.pointer (sO ⟨n,0,nO⟩)) (.ep cs 0)
theorem Zw2{W:World}(ht:ZlH W):WQ (ZdL W) (fun _=>nO) W:={
 tabs:=ht
 obj b o h:=by simp at h
 kept b o h:=by simp at h
 fresh b hb:=⟨by simp[ZdL,hb],by simp only[ZdL];omega⟩ }
theorem Zw0{P:Program}{W:World}{name:String}{g:Nat}{k:IntKind}{zs:List Int}(h:W.var? P name=sO (zs.map fun z=>Value.int k z).toArray)(hg:P.globalNamed name=sO g)(hz:∀z∈zs,inR k z) :
  Rep (ZdL W) W (.pointer (sO ⟨g,0,nO⟩)) (.ep (zs.map fun z=>.int k z) 0):=by
 unfold World.var? at h
 rw[hg]at h
 simp only[Option.bind_some]at h
 split at h<;>(try(simp at h;done))
 rename_i cs T fr hh
 simp only[Zyd]at h
 subst h
 have key:∀i (hi:i<zs.length),W.cell? ⟨g,0+i,nO⟩=sO (.int k zs[i]):=fun i hi=>by
  simp only[World.cell?,hh]
  simp[hi]
 refine .ep g 0 0 _ (fun i=>.int k (zs.getD i 0)) (fun i hi=>?_) (fun i hi=>?_) (fun i d hd=>?_) (fun i hi=>rfl)
 ·simp only[List.length_map]at hi
  rw[key i hi];simp[Zyx,hi]
 ·simp only[List.length_map]at hi
  simp only[ZdL,hh];simpa using hi
 ·simp only[List.getElem?_map,Zym]at hd
  obtain⟨z,hz1,rfl⟩:=hd
  simp only[Zyx,hz1,ZyL]
  exact .int k z (hz z (List.mem_of_getElem? hz1))
theorem ZvY{P:Program}{f:FuncId}{args:List D}(h:ZA P f args (.bool true)){W:World}(ht:ZlH W){vs:List Value}(ha:Yh (Rep (ZdL W) W) vs args) :
  Calls P f vs.toArray W fun e W'=>e=.returned (.bool true)∧Below W.heap.size W W':=by
 refine((h (fun _=>nO)).2 _ W vs (Zw2 ht) ha).mono fun e W' hp=>?_
 obtain⟨g',s',r,he,hs,hr,hq,_⟩:=hp
 subst hq
 cases e with
 |returned v=>cases hr;exact⟨rfl,he.os,he.tape,he.output,he.size,fun b hb=>he.kept b hb⟩
 |_=>exact hr.elim
section
variable {H:Type} {enc:TypeId × Value→H} {P:Program} {w:World}
def ZaH(p:Nat→Prop)(enc:TypeId×Value→H)(P:Program)(w:World)(t:TypeId)(R:List D→Prop):Prop :=
 ∀fuel cs x,p fuel→DataW.trod enc P w 0 (fun _=>true) true fuel t cs=sO x→∃ds,R ds∧Yh (Rep (ZdL w) w) cs ds∧∀v∈cs,v.one1=true
abbrev ZcM(enc:TypeId×Value→H)(P:Program)(w:World)(t:TypeId)(R:List D→Prop):Prop:=ZaH (fun _=>True) enc P w t R
variable {p q:Nat→Prop}
theorem Zud{k:IntKind}{n:Int}(h:(Lit.int k n).wf=true):inR k n:=by
 simpa[Lit.wf,inR]using h
theorem Zta{t:TypeId}{k:IntKind}(ht:P.underlying t=sO (.int k)):ZaH p enc P w t fun ds=>∃n,inR k n∧ds=[.int k n]:=by
 intro fuel cs x _ h
 obtain⟨n,rfl,_,hn⟩:=DataW.trod_int ht h
 exact⟨_,⟨n,Zud hn,rfl⟩,.cons (.int k n (Zud hn)) .nil,fun v hv=>by simp at hv;subst hv;rfl⟩
theorem ZaH.imp{t:TypeId}{R R':List D→Prop}(h:ZaH p enc P w t R)(hi:∀ds,R ds→R' ds):ZaH p enc P w t R':=fun fuel cs x hp hx=>by
 obtain⟨ds,h1,h2⟩:=h fuel cs x hp hx
 exact⟨ds,hi ds h1,h2⟩
theorem Zce{t:TypeId}{k:IntKind}(ht:P.underlying t=sO (.int k)):ZaH p enc P w t fun ds=>∃n,ds=[.int k n]:=(Zta ht).imp fun _ ⟨n,_,h⟩=>⟨n,h⟩
theorem Zs9{t:TypeId}(ht:P.underlying t=sO .bool):ZaH p enc P w t fun ds=>∃b,ds=[.bool b]:=by
 intro fuel cs x _ h
 obtain⟨n,rfl,_⟩:=DataW.trod_bool ht h
 exact⟨_,⟨n,rfl⟩,.cons (.bool n) .nil,fun v hv=>by simp at hv;subst hv;rfl⟩
theorem Zdd{t:TypeId}(ht:P.underlying t=sO .string):ZaH p enc P w t fun ds=>∃s,ds=[.str s]:=by
 intro fuel cs x _ h
 obtain⟨s,rfl,_,hs⟩:=DataW.trod_string ht h
 refine⟨_,⟨s.data.toList,rfl⟩,.cons (.str s _ rfl ?_) .nil,fun v hv=>by simp at hv;subst hv;rfl⟩
 have:s.data.toList.length=s.size:=by rw[Array.length_toList];rfl
 rw[this];simp only[maxLen]at hs;simp only[big];omega
theorem Zq4{α β:Type}{R:α→β→Prop}{a a':List α}{b b':List β}(h:Yh R a b)(h':Yh R a' b'):Yh R (a++a') (b++b'):=by
 induction h with
 |nil=>exact h'
 |cons h1 _ ih=>exact .cons h1 ih
def Cat:List (List D→Prop)→List D→Prop
 | [],ds=>ds=[]
 |R::Rs,ds=>∃a b,ds=a++b∧R a∧Cat Rs b
def Zqn(P:Program):Nat→List Field→Nat→Bool
 |o,[],n=>o==n
 |o,f::r,n=>f.offset==o&&Zqn P (o+P.cellsOf f.type) r n
inductive ZiH(p:Nat→Prop)(enc:TypeId×Value→H)(P:Program)(w:World):List Field→List (List D→Prop)→Prop where
 |nil:ZiH p enc P w [] []
 |cons {f:Field} {fs:List Field} {R:List D→Prop} {Rs:List (List D→Prop)} (h:ZaH p enc P w f.type R) (t:ZiH p enc P w fs Rs):ZiH p enc P w (f::fs) (R::Rs)
theorem ZuA{fs:List Field}{Rs:List (List D→Prop)}(hR:ZiH q enc P w fs Rs):∀{o n m:Nat} {cs:List Value},q m→Zqn P o fs n=true→cs.length=n →
  (∀f∈fs,∃x,DataW.trod enc P w 0 (fun _=>true) true m f.type ((cs.drop f.offset).take (P.cellsOf f.type))=sO x) →
  ∃ds,Cat Rs ds∧Yh (Rep (ZdL w) w) (cs.drop o) ds∧∀v∈cs.drop o,v.one1=true:=by
 induction hR with
 |nil =>
  intro o n m cs _ ho hl _
  simp only[Zqn,beq_iff_eq]at ho
  subst ho;subst hl
  exact⟨[],rfl,by rw[List.drop_length];exact .nil,by simp⟩
 |cons h _ ih =>
  rename_i f fs R Rs _
  intro o n m cs hm ho hl hx
  simp only[Zqn,Zyk,beq_iff_eq]at ho
  obtain⟨ho1,ho2⟩:=ho
  obtain⟨x,h1⟩:=hx f (List.mem_cons_self ..)
  obtain⟨a,ha1,ha2,ha3⟩:=h _ _ _ hm h1
  obtain⟨b,hb1,hb2,hb3⟩:=ih hm ho2 hl fun f' hf'=>hx f' (List.mem_cons_of_mem _ hf')
  rw[ho1]at ha2 ha3
  have e:cs.drop o=(cs.drop o).take (P.cellsOf f.type)++cs.drop (o+P.cellsOf f.type):=by
   rw[←List.drop_drop];exact(List.take_append_drop _ _).symm
  refine⟨a++b,⟨a,b,rfl,ha1,hb1⟩,by rw[e];exact Zq4 ha2 hb2,fun v hv=>?_⟩
  rw[e,List.mem_append]at hv
  exact hv.elim (ha3 v) (hb3 v)
theorem Zbd{t:TypeId}{fs:Array Field}(ht:P.underlying t=sO (.struct fs)){Rs:List (List D→Prop)}(hR:ZiH q enc P w fs.toList Rs)(ho:Zqn P 0 fs.toList (P.cellsOf t)=true)(hpq:∀n,p (n+1)→q n:=by intros;trivial):ZaH p enc P w t (Cat Rs):=by
 intro fuel cs x hp h
 obtain⟨xs,n,rfl,_,hl,hxl,hx⟩:=DataW.trod_struct ht h
 obtain⟨ds,h1,h2,h3⟩:=ZuA hR (m:=n) (hpq n hp) ho hl (fun f hf=>by
  obtain⟨i,hi,rfl⟩:=ZyC hf
  have hi':i<fs.size:=by simpa using hi
  refine⟨xs[i]'(by omega),?_⟩
  have:=hx i fs[i] (by simp[hi'])
  rw[ZyK (by omega)]at this
  simpa using this)
 rw[List.drop_zero]at h2 h3
 exact⟨ds,h1,h2,h3⟩
theorem Zc8{a:Addr}{n:Nat}{cs:List Value}(h:w.cells? 0 a n=sO cs):cs.length=n∧∀j,j<n→w.cell? (a.add j)=cs[j]?:=by
 simp only[World.cells?,Nat.zero_le,if_true]at h
 refine⟨by simpa using mapM_some_length h,fun j hj=>?_⟩
 have:=mapM_some_get h j j (by simp[hj])
 exact this
theorem ZqJ{t e:TypeId}{n:Nat}{α:Type}[Inhabited α]{f:α→List D}{row:List α→Nat→List D}(hrow:∀l i,i<l.length→row l i=f (l.getD i dE))(ht:P.underlying t=sO (.slice e))(hn:P.cellsOf e=n)(hn0:0<n)(hf:∀x,(f x).length=n)
  (he:ZaH q enc P w e fun ds=>∃x,ds=f x) (hpq:∀n,p (n+1)→q n:=by intros;trivial):ZaH p enc P w t fun ds=>∃l:List α,ds=[.sl .none l.length n (row l)]:=by
 intro fuel cs x hp h
 rcases DataW.trod_slice ht h with ⟨rfl,_⟩|⟨a,len,cap,elems,rest,m,rfl,rfl,_,_,hlc,hcap,hel,hx,hrest,_⟩
 ·exact⟨_,⟨[],rfl⟩,.cons (.sl0 _ _ _ _ (by simp)) .nil,fun v hv=>by simp at hv;subst hv;rfl⟩
 have key:∀i,i<len→∃(cs:List Value) (y:α),w.cells? 0 (a.add (i*n)) n=sO cs∧Yh (Rep (ZdL w) w) cs (f y)∧∀v∈cs,v.one1=true:=by
  intro i hi
  have h1:=hx i hi
  rw[ZyK (by omega),hn]at h1
  obtain⟨cs,h2,h3⟩:=Option.bind_eq_some_iff.1 h1
  obtain⟨ds,⟨y,rfl⟩,h4,h5⟩:=he _ _ _ (hpq _ hp) h3
  exact⟨cs,y,h2,h4,h5⟩
 have hbig:cap≤big:=by simp only[maxLen]at hcap;simp only[big];omega
 let g:(i:Nat)→i<len→α:=fun i hi=>(Classical.choose_spec (key i hi)).choose
 let c:(i:Nat)→i<len→List Value:=fun i hi=>Classical.choose (key i hi)
 have hg:∀i (hi:i<len),w.cells? 0 (a.add (i*n)) n=sO (c i hi)∧Yh (Rep (ZdL w) w) (c i hi) (f (g i hi))∧∀v∈c i hi,v.one1=true:=fun i hi=>(Classical.choose_spec (key i hi)).choose_spec
 let l:List α:=List.ofFn fun i:Fin len=>g i.1 i.2
 have hll:l.length=len:=by simp[l]
 have hlg:∀i (hi:i<len),l.getD i dE=g i hi:=fun i hi=>by simp[l,Zyx,hi]
 have hrl:∀i (hi:i<len),row l i=f (g i hi):=fun i hi=>by rw[hrow l i (by omega),hlg i hi]
 refine⟨_,⟨l,rfl⟩,.cons ?_ .nil,fun v hv=>by simp at hv;subst hv;rfl⟩
 by_cases hl0:len=0
 ·subst hl0
  have hle:l=[]:=List.eq_nil_of_length_eq_zero hll
  rw[hle]
  by_cases hs:a.spot=nO
  ·obtain⟨b,o,sp⟩:=a
   simp only at hs
   subst hs
   exact .sl b o 0 cap n _ .none (fun _ _=>undef) (fun i hi=>by simp at hi) (fun i j hi=>by simp at hi) (fun i j hi=>by simp at hi) (fun i j d hi=>by simp at hi) (fun i j hi=>by simp at hi) trivial (Nat.zero_le _) hbig
  ·have hc0:cap=0:=by
    rcases Nat.eq_zero_or_pos cap with h0|h0
    ·exact h0
    ·obtain⟨h1,h2⟩:=hrest rfl
     have h3:=h2 0 (by omega)
     rw[ZyK (by omega),hn]at h3
     obtain⟨cs,h4,_⟩:=Option.bind_eq_some_iff.1 h3
     have h5:=(Zc8 h4).2 0 (by omega)
     have h6:=(Zc8 h4).1
     rw[ZyK (by omega)]at h5
     have:=World.cell?_spot h5
     exact absurd (by simpa[Addr.add]using this) hs
   subst hc0
   exact .sl0 _ _ _ _ (by simp)
 ·have hsp:a.spot=nO:=by
   have h0:=(hg 0 (by omega)).1
   have h1:=(Zc8 h0).2 0 (by omega)
   have h2:(c 0 (by omega)).length=n:=(Zc8 h0).1
   rw[ZyK (by omega)]at h1
   have:=World.cell?_spot h1
   simpa[Addr.add]using this
  obtain⟨b,o,sp⟩:=a
  simp only at hsp
  subst hsp
  have hget:∀i j (hi:i<len) (hj:j<n),w.cell? ⟨b,o+i*n+j,nO⟩=(c i hi)[j]?:=fun i j hi hj=>by
   have h1:=(Zc8 (hg i hi).1).2 j hj
   rw[Ji,Ji]at h1
   exact h1
  have hcl:∀i (hi:i<len),(c i hi).length=n:=fun i hi=>(Zc8 (hg i hi).1).1
  rw[hll]
  refine .sl b o len cap n _ .none (fun i j=>if hi:i<len then (c i hi).getD j undef else undef) (fun i hi=>by rw[hrl i hi];exact hf _) (fun i j hi hj=>?_) (fun i j hi hj=>?_) (fun i j d hi hd=>?_) (fun i j hi hj=>?_) trivial hlc hbig
  ·simp only[dif_pos hi]
   rw[hget i j hi hj,Zyx,ZyK (by rw[hcl i hi];exact hj)];rfl
  ·have h1:=hget i j hi hj
   rw[ZyK (by rw[hcl i hi];exact hj)]at h1
   simp only[World.cell?]at h1
   split at h1
   ·rename_i vs T fr hh
    simp only[ZdL,hh]
    have h1':vs[o+i*n+j]?=sO ((c i hi)[j]'(by rw[hcl i hi];exact hj)):=by simpa using h1
    exact(Array.getElem?_eq_some_iff.1 h1').1
   ·simp at h1
  ·simp only[dif_pos hi]
   rw[hrl i hi]at hd
   have hj:j<n:=by rw[←hf (g i hi)];exact(List.getElem?_eq_some_iff.1 hd).1
   refine(hg i hi).2.1.get j _ d ?_ hd
   rw[Zyx,ZyK (by rw[hcl i hi];exact hj)];rfl
  ·simp only[dif_pos hi]
   refine(hg i hi).2.2 _ ?_
   rw[Zyx,ZyK (by rw[hcl i hi];exact hj)]
   exact List.getElem_mem _
theorem Zem{t e:TypeId}{n:Nat}{α:Type}[Inhabited α]{f:α→List D}(ht:P.underlying t=sO (.slice e))(hn:P.cellsOf e=n)(hn0:0<n)(hf:∀x,(f x).length=n)
  (he:ZaH q enc P w e fun ds=>∃x,ds=f x) (hpq:∀n,p (n+1)→q n:=by intros;trivial):ZaH p enc P w t fun ds=>∃l:List α,ds=[.sl .none l.length n fun i=>f (l.getD i dE)] :=
 ZqJ (row:=fun l i=>f (l.getD i dE)) (fun _ _ _=>rfl) ht hn hn0 hf he hpq
def Zho(enc:TypeId×Value→H)(P:Program)(t:TypeId)(Q:D→Prop):Prop :=
 ∀(W:World) (base:Nat) (v:Value) (d:DataW H) (ps:List MemPlace),Value.okWide P W .any base t v→DataW.Trod enc P W 0 (fun _=>true) true t v d ps→∃x,Q x∧Rep (ZdL W) W v x
theorem ZlP{t:TypeId}{fs:Array Field}(ht:P.underlying t=sO (.struct fs)){R:List D→Prop}(h:∀W,ZcM enc P W t R):Zho enc P t fun x=>∃ds,R ds∧x=.agg ds:=by
 intro W base v d ps hok ⟨fuel,hf⟩
 obtain⟨cs,rfl,_⟩:=okWide_struct ht hok
 obtain⟨ds,h1,h2,h3⟩:=h W _ _ _ trivial hf
 exact⟨_,⟨ds,h1,rfl⟩,.agg cs.toList ds h2.len (fun i v d hv hd=>h2.get i v d hv hd) h3⟩
theorem Zpt{t:TypeId}{R:List D→Prop}{Q:D→Prop}(h1:∀W base v,Value.okWide P W .any base t v→v.cells = #[v])(h:∀W,ZcM enc P W t R)(hq:∀ds,R ds→∃x,ds=[x]∧Q x):Zho enc P t Q:=by
 intro W base v d ps hok ⟨fuel,hf⟩
 rw[h1 _ _ _ hok]at hf
 obtain⟨ds,h2,h3,_⟩:=h W _ _ _ trivial hf
 obtain⟨x,rfl,hx⟩:=hq ds h2
 cases h3 with|cons h4 _=>exact⟨x,hx,h4⟩
theorem Zps{t:TypeId}{k:IntKind}(ht:P.underlying t=sO (.int k)):Zho enc P t fun x=>∃n,x=.int k n :=
 Zpt (fun W base v hok=>by obtain⟨a,rfl⟩:=okWide_int ht hok;rfl) (fun W=>Zce ht) fun ds ⟨n,hn⟩=>⟨_,hn,n,rfl⟩
inductive ZlA(enc:TypeId×Value→H)(P:Program):List TypeId→List (D→Prop)→Prop where
 |nil:ZlA enc P [] []
 |cons {t:TypeId} {Q:D→Prop} {ts:List TypeId} {Qs:List (D→Prop)} (h:Zho enc P t Q) (r:ZlA enc P ts Qs):ZlA enc P (t::ts) (Q::Qs)
inductive Zo7:List (D→Prop)→List D→Prop where
 |nil:Zo7 [] []
 |cons {Q:D→Prop} {x:D} {Qs:List (D→Prop)} {xs:List D} (h:Q x) (r:Zo7 Qs xs):Zo7 (Q::Qs) (x::xs)
theorem Zu2{ts:List TypeId}{Qs:List (D→Prop)}(h:ZlA enc P ts Qs):∀{W:World} {base:Nat} {vs:List Value} {ds:List (DataW H)} {ps:List MemPlace},
  (∀(j:Nat) t v,ts[j]?=sO t→vs[j]?=sO v→Value.okWide P W .any base t v)→DataW.TrodAll enc P W 0 (fun _=>true) true ts vs ds ps→∃xs,Zo7 Qs xs∧Yh (Rep (ZdL W) W) vs xs:=by
 induction h with
 |nil =>
  intro W base vs ds ps _ ht
  obtain⟨rfl,_⟩:=trodAll_nil ht
  exact⟨[],.nil,.nil⟩
 |cons h1 _ ih =>
  intro W base vs ds ps hok ht
  obtain⟨v,vs',d,ds',p,q,rfl,rfl,rfl,h2,h3⟩:=trodAll_cons ht
  obtain⟨x,hx1,hx2⟩:=h1 W base v d p (hok 0 _ _ rfl rfl) h2
  obtain⟨xs,hxs1,hxs2⟩:=ih (base:=base) (fun j t v hj hv=>hok (j+1) t v (by simpa using hj) (by simpa using hv)) h3
  exact⟨x::xs,.cons hx1 hxs1,.cons hx2 hxs2⟩
theorem Ziv(hl:laidOutB P=true){W W':World}(hb:Below W.heap.size W W'):∀{ts:List TypeId} {vs:List Value} {ds:List (DataW H)} {ps:List MemPlace},(∀t∈ts,P.readableRec t=true∧t<P.types.size) →
  DataW.TrodAll enc P W 0 (fun _=>true) true ts vs ds ps→(∀x∈ps,x.block<W.heap.size)→DataW.TrodAll enc P W' 0 (fun b=>dC (b<W.heap.size)) true ts vs ds ps
 | [],vs,ds,ps,_,h,_=>by
  obtain⟨rfl,rfl,rfl⟩:=trodAll_nil h
  rfl
 |t::ts,vs,ds,ps,ht,h,hlt=>by
  obtain⟨v,vs',d,ds',p,q,rfl,rfl,rfl,h2,h3⟩:=trodAll_cons h
  have h4:=ht t (List.mem_cons_self ..)
  exact trodAll_cons_mk (Below.trod hl h4.1 h4.2 h2 hb fun x hx=>hlt x (List.mem_append_left _ hx)) (Ziv hl hb (fun t ht'=>ht t (List.mem_cons_of_mem _ ht')) h3 fun x hx=>hlt x (List.mem_append_right _ hx))
theorem Zqc{f:FuncId}{fn:Func}{s:ChangeSpec}{tb:TypeId}{Qs:List (D→Prop)}(hv:s.vars=[])(hl:laidOutB P=true)(hr:∀t∈fn.params.toList,P.readableRec t=true∧t<P.types.size)
  (hres:fn.resultTypes = #[tb]) (hb:P.underlying tb=sO .bool) (hfn:∀ds:List (DataW H),ds.length=fn.params.toList.length→s.fn H ds={ results:=[.lit (.bool true)],args:=ds })
  (hargs:ZlA enc P fn.params.toList Qs) (hcall:∀xs,Zo7 Qs xs→ZA P f xs (.bool true))
  (W:World) (ht:ZlH W) (base:Nat) (args:Array Value) (ds gs:List (DataW H)) (before:List MemPlace)
  (hval:∀(j:Nat) t v,fn.params[j]?=sO t→args[j]?=sO v→Value.okWide P W .any base t v) (hW:DataW.Whole enc P fn.params.toList s.vars false W args.toList ds gs before) :
  Calls P f args W fun e W'=>∃v,e=.returned v∧s.post enc P fn false true false false W args v W':=by
 have hW':=hW
 obtain⟨p,q,hA,hV,rfl,_,_⟩:=hW
 rw[hv]at hV
 obtain⟨rfl,rfl⟩:=trodVars_none hV
 obtain⟨xs,hx1,hx2⟩:=Zu2 hargs (fun j t v hj hvj=>hval j t v (by simpa using hj) (by simpa using hvj)) hA
 have hlen:=(trodAll_length hA).2
 have hlt:∀x∈p,x.block<W.heap.size:=fun x hx=>by simpa using hW'.lt x (by simpa using hx)
 refine(ZvY (hcall xs hx1) ht hx2).mono fun e W' ⟨he,hbel⟩=>⟨.bool true,he,?_⟩
 have hspec:=hfn ds hlen
 refine⟨ds,[],p++[],[],p,[],hW',?_,?_,?_,hbel.frame _,fun h=>by cases h⟩
 ·rw[ZyR,hspec,hres]
  exact trodAll_mk1 ⟨1,by simp[DataW.trod,hb,Value.cells]⟩
 ·rw[ZyR,hspec]
  exact Ziv hl hbel hr hA hlt
 ·rw[hv,ZyR,hspec]
  rfl
end
end Go.DL
namespace Go.DL
open Go
variable {kp:Option (List Nat)}{L:Loc}{ρ:Env}{s:St}{w:World}{os:List DOp}{ds:List D}{B:List (Nat × Rd)}{dst:Option Nat}{tmps:Array Value}{g:G}{Φ:Res→St→Prop}{ν:Nat→Nat}{xs:List Opd}{side:Prop}{row:Nat→List D}
set_option linter.defProp false
def Eqs:=Zyf (Zyf (Zyf (Zyf (Zyf (Zyf (Zyf (Zyf (Zyf @Option.mem_def.{0} @List.append_eq.{0}) @Zyd.{0}) (Zyf (@forall_eq'.{1}) (Zyf @forall_eq'.{0} @false_implies))) (Zyf (Zyf @decide_true @Int.sub_zero) (Zyf (@Int.sub_self) (Zyf @Zxq @ZxT)))) (Zyf (Zyf (Zyf @Zxr @Zxs) (Zyf (@Zxp) (Zyf @and_assoc @Int.toNat_zero))) (Zyf (Zyf (@Bool.not_not) (Zyf @ZwB @Zxu)) (Zyf (@implies_true.{1}) (Zyf @implies_true.{0} @true_and))))) (Zyf (Zyf (Zyf (Zyf @and_true @and_self) (Zyf (@List.drop_zero.{0}) (Zyf @List.drop_succ_cons.{0} @List.take_succ_cons.{0}))) (Zyf (Zyf (@List.take_zero.{0}) (Zyf @List.take_nil.{0} @Zyv.{0,0})) (Zyf (@Option.map_none.{0,0}) (Zyf @Option.isSome_some.{0} @Option.isSome_none.{0})))) (Zyf (Zyf (Zyf @ZyL.{0} @Option.getD_none.{0}) (Zyf (@List.flatMap_cons.{0,0}) (Zyf @List.flatMap_nil.{0,0} @ZyR.{0}))) (Zyf (Zyf (@List.nil_append.{0}) (Zyf @List.cons_append.{0} @List.getElem?_cons_zero.{0})) (Zyf (@List.getElem?_cons_succ.{0}) (Zyf @ZyE.{0} @List.length_nil.{0})))))) (Zyf (Zyf (Zyf (Zyf (Zyf @Nat.zero_add @Nat.add_zero) (Zyf (@Int.toNat_natCast) (Zyf @forall_const.{1} @forall_const.{0}))) (Zyf (Zyf (@imp_self) (Zyf @Bool.and_true @Zyy)) (Zyf (@Bool.cond_false_right) (Zyf @Zyt @Bool.not_true)))) (Zyf (Zyf (Zyf @Bool.not_false @if_true_right) (Zyf (@ZiS.eq_1) (Zyf @ZiS.eq_2 @ZhD.eq_1))) (Zyf (Zyf (@ZhD.eq_2) (Zyf @Zi4.eq_1 @Zi4.eq_2)) (Zyf (@Zmr.eq_1) (Zyf @Zmr.eq_2 @Z7.eq_1))))) (Zyf (Zyf (Zyf (Zyf @J2.eq_1 @J2.eq_2) (Zyf (@J2.eq_3) (Zyf @Wk.eq_1 @JT.eq_1))) (Zyf (Zyf (@Qh.eq_1) (Zyf @JZ.eq_1 @JZ.eq_2)) (Zyf (@JZ.eq_3) (Zyf @JZ.eq_4 @KR.eq_1)))) (Zyf (Zyf (Zyf @KR.eq_2 @KR.eq_3) (Zyf (@KR.eq_4) (Zyf @KR.eq_6 @qv.eq_51))) (Zyf (Zyf (@qv.eq_52) (Zyf @qv.eq_53 @KR.eq_5)) (Zyf (@Kh.eq_1) (Zyf @Kh.eq_2 @Kh.eq_3))))))) (Zyf (Zyf (Zyf (Zyf (Zyf (Zyf @Kh.eq_4 @Kh.eq_5) (Zyf (@Kh.eq_6) (Zyf @Kh.eq_7 @KB.eq_1))) (Zyf (Zyf @JA.eq_1 @JA.eq_2) (Zyf (@JA.eq_3) (Zyf @Kx.eq_1 @Kx.eq_2)))) (Zyf (Zyf (Zyf @Jr.eq_1 @Zcv.eq_1) (Zyf (@ZbK.eq_1) (Zyf @Zui @Zyp.{0,0}))) (Zyf (Zyf (@ZyF.{0,0}) (Zyf @Zai.eq_1 @Jt.eq_1)) (Zyf (@Jt.eq_2) (Zyf @Jt.eq_3 @Qg.eq_1))))) (Zyf (Zyf (Zyf (Zyf @Qg.eq_2 @Zbw.eq_1) (Zyf (@Zbw.eq_2) (Zyf @Zbw.eq_3 @Zbw.eq_4))) (Zyf (Zyf (@Zbw.eq_5) (Zyf @Zbw.eq_6 @Zbw.eq_7)) (Zyf (@Zbw.eq_8) (Zyf @Zbw.eq_9 @Zbw.eq_10)))) (Zyf (Zyf (Zyf @Zbw.eq_11 @Zy.eq_1) (Zyf (@Zy.eq_2) (Zyf @Z9.eq_1 @Z9.eq_2))) (Zyf (Zyf (@WE.eq_1) (Zyf @WE.eq_2 @Yv.eq_1)) (Zyf (@Yv.eq_2) (Zyf @qv.eq_1 @qv.eq_2)))))) (Zyf (Zyf (Zyf (Zyf (Zyf @qv.eq_3 @qv.eq_4) (Zyf (@qv.eq_5) (Zyf @qv.eq_6 @qv.eq_7))) (Zyf (Zyf (@qv.eq_8) (Zyf @qv.eq_9 @qv.eq_10)) (Zyf (@qv.eq_11) (Zyf @qv.eq_12 @qv.eq_13)))) (Zyf (Zyf (Zyf @qv.eq_14 @qv.eq_15) (Zyf (@qv.eq_16) (Zyf @qv.eq_17 @qv.eq_18))) (Zyf (Zyf (@qv.eq_19) (Zyf @qv.eq_20 @qv.eq_21)) (Zyf (@qv.eq_22) (Zyf @qv.eq_23 @qv.eq_24))))) (Zyf (Zyf (Zyf (Zyf @qv.eq_25 @qv.eq_26) (Zyf (@qv.eq_27) (Zyf @qv.eq_28 @qv.eq_29))) (Zyf (Zyf (@qv.eq_30) (Zyf @qv.eq_31 @qv.eq_32)) (Zyf (@qv.eq_33) (Zyf @qv.eq_34 @qv.eq_35)))) (Zyf (Zyf (Zyf @qv.eq_36 @qv.eq_37) (Zyf (@qv.eq_38) (Zyf @qv.eq_39 @qv.eq_40))) (Zyf (Zyf (@qv.eq_41) (Zyf @qv.eq_42 @qv.eq_43)) (Zyf (@qv.eq_44) (Zyf @qv.eq_45 @qv.eq_46)))))))) (Zyf (Zyf (Zyf (Zyf (Zyf (Zyf (Zyf @qv.eq_47 @qv.eq_48) (Zyf (@qv.eq_49) (Zyf @qv.eq_50 @ZX.eq_1))) (Zyf (Zyf @ZX.eq_2 @kept.eq_1) (Zyf (@kept.eq_2) (Zyf @Zo0.eq_1 @Zo0.eq_2)))) (Zyf (Zyf (Zyf @WV.eq_1 @WV.eq_2) (Zyf (@ZcS.eq_1) (Zyf @ZbT.eq_1 @ZbT.eq_2))) (Zyf (Zyf (@JK.eq_1) (Zyf @JK.eq_2 @JK.eq_3)) (Zyf (@Zo.eq_1) (Zyf @Zo.eq_2 @ZbI.eq_1))))) (Zyf (Zyf (Zyf (Zyf @Zek.eq_1 @Qa.eq_1) (Zyf (@Qa.eq_2) (Zyf @ZbF.eq_1 @ZbF.eq_2))) (Zyf (Zyf (@ZbF.eq_3) (Zyf @ZbF.eq_4 @ZbF.eq_5)) (Zyf (@Zay.eq_1) (Zyf @Zay.eq_2 @Zay.eq_3)))) (Zyf (Zyf (Zyf @Zay.eq_4 @Zay.eq_5) (Zyf (@Zay.eq_6) (Zyf @Zay.eq_7 @Zay.eq_8))) (Zyf (Zyf (@Zay.eq_9) (Zyf @Zay.eq_10 @Zay.eq_11)) (Zyf (@Zay.eq_12) (Zyf @Zay.eq_13 @Zay.eq_14)))))) (Zyf (Zyf (Zyf (Zyf (Zyf @Zay.eq_15 @Zay.eq_16) (Zyf (@Zay.eq_17) (Zyf @ZeN.eq_1 @ZeN.eq_2))) (Zyf (Zyf (@ZeN.eq_3) (Zyf @ZeN.eq_4 @ZeN.eq_5)) (Zyf (@ZeN.eq_6) (Zyf @ZeN.eq_7 @ZeN.eq_8)))) (Zyf (Zyf (Zyf @eqO.eq_1 @eqO.eq_2) (Zyf (@eqO.eq_3) (Zyf @KC.eq_1 @KC.eq_2))) (Zyf (Zyf (@KC.eq_3) (Zyf @KC.eq_4 @KC.eq_5)) (Zyf (@KC.eq_6) (Zyf @KC.eq_7 @KC.eq_8))))) (Zyf (Zyf (Zyf (Zyf @KC.eq_9 @KC.eq_10) (Zyf (@KC.eq_11) (Zyf @KC.eq_12 @KC.eq_13))) (Zyf (Zyf (@KC.eq_14) (Zyf @KC.eq_15 @Qx.eq_1)) (Zyf (@Qx.eq_2) (Zyf @WH.eq_1 @WH.eq_2)))) (Zyf (Zyf (Zyf @WH.eq_3 @WH.eq_4) (Zyf (@Q0.eq_1) (Zyf @Q0.eq_2 @Q0.eq_3))) (Zyf (Zyf (@Q0.eq_4) (Zyf @Q9.eq_1 @Q9.eq_2)) (Zyf (@Q9.eq_3) (Zyf @Q9.eq_4 @ZF.eq_1))))))) (Zyf (Zyf (Zyf (Zyf (Zyf (Zyf @QR.eq_1 @QR.eq_2) (Zyf (@QR.eq_3) (Zyf @cellsOf.eq_1 @cellsOf.eq_2))) (Zyf (Zyf @Zad.eq_1 @Zad.eq_2) (Zyf (@Zad.eq_3) (Zyf @Zad.eq_4 @Zad.eq_5)))) (Zyf (Zyf (Zyf @Q3.eq_1 @Q3.eq_2) (Zyf (@Q3.eq_3) (Zyf @Q3.eq_4 @Zcl.eq_1))) (Zyf (Zyf (@Zcl.eq_2) (Zyf @Zcl.eq_3 @J6.eq_1)) (Zyf (@J6.eq_2) (Zyf @Wd.eq_1 @Wd.eq_2))))) (Zyf (Zyf (Zyf (Zyf @J4.eq_1 @J4.eq_2) (Zyf (@QO.eq_1) (Zyf @QO.eq_2 @QO.eq_3))) (Zyf (Zyf (@QO.eq_4) (Zyf @Zcg.eq_1 @Zcg.eq_2)) (Zyf (@Zcg.eq_3) (Zyf @Zcg.eq_4 @ZcW.eq_1)))) (Zyf (Zyf (Zyf @ZcW.eq_2 @ZcW.eq_3) (Zyf (@ZcW.eq_4) (Zyf @part.eq_1 @qm.eq_1))) (Zyf (Zyf (@qi.eq_1) (Zyf @qb.eq_1 @ql.eq_1)) (Zyf (@qL.eq_1) (Zyf @qa.eq_1 @qx.eq_1)))))) (Zyf (Zyf (Zyf (Zyf (Zyf @qX.eq_1 @qk.eq_1) (Zyf (@qd.eq_1) (Zyf @qe.eq_1 @qo.eq_1))) (Zyf (Zyf (@qO.eq_1) (Zyf @qf.eq_1 @qB.eq_1)) (Zyf (@qS.eq_1) (Zyf @qs.eq_1 @qy.eq_1)))) (Zyf (Zyf (Zyf @qn.eq_1 @qQ.eq_1) (Zyf (@qQ.eq_2) (Zyf @wm.eq_1 @wi.eq_1))) (Zyf (Zyf (@wl.eq_1) (Zyf @wL.eq_1 @wa.eq_1)) (Zyf (@wx.eq_1) (Zyf @wX.eq_1 @wk.eq_1))))) (Zyf (Zyf (Zyf (Zyf @wd.eq_1 @we.eq_1) (Zyf (@wo.eq_1) (Zyf @wO.eq_1 @wf.eq_1))) (Zyf (Zyf (@wB.eq_1) (Zyf @wA.eq_1 @wy.eq_1)) (Zyf (@wn.eq_1) (Zyf @vm.eq_1 @vl.eq_1)))) (Zyf (Zyf (Zyf @vL.eq_1 @va.eq_1) (Zyf (@vk.eq_1) (Zyf @vd.eq_1 @ve.eq_1))) (Zyf (Zyf (@vX.eq_1) (Zyf @vO.eq_1 @vo.eq_1)) (Zyf (@qA.eq_1) (Zyf @qu.eq_1 @zF.eq_1))))))))
end Go.DL
namespace Go.DL
open Go
variable [Zpk]
variable {kp:Option (List Nat)}{L:Loc}{ρ:Env}{s:St}{w:World}{os:List DOp}{ds:List D}{B:List (Nat × Rd)}{dst:Option Nat}{tmps:Array Value}{g:G}{Φ:Res→St→Prop}{ν:Nat→Nat}{xs:List Opd}{side:Prop}{row:Nat→List D}
section
variable {P:Program}
theorem Zky{F:Fr P}{rs:List RV}{dds:List DD}(hF:KJ F rs Φ dds){o:Opd}{ps:List Nat}{da db:DC}{dk:List Zu}{p:Prop}{fv:D}(hf:Z9 ρ true o=sO (p,.d fv))(hp:p)(ks:List Nat)(hks:(WV ρ ks).map (·.1) |>.Nodup){a0:St}{n:Nat}{args:Nat→List D}(hit:∀(y:D) (go:Nat→Oc) (A:Nat→St→Prop) (a':St),a0.sub a'→Zfj P y n args go A→A 0 a'→Jc P fv [y] a' fun r S=>∃a,ZgN n go A a r∧a.sub S)(hlen:∀j,j<n→(args j).length=ps.length)(go:Nat→Oc)(B:Nat→St→Prop)(h0:B 0 a0)(hbody:∀j a,j<n→(∀i,i<j→go i=.next)→B j a→∀(F':Fr P) (ready busy:St),Kz a ready →
   (∀{dk:List Zu} {ρ:Env} {L:Loc},(Kz a busy→ZS F' dk ρ L (a.or busy))→ZS F' (.beginR::dk) ρ L (a.or ready)) →
   ZkV F' busy (fun oc a'=>oc=go j∧B (j+1) a')→ZS F' [.code da,.beginR,.code db] (Ja ps (args j) (JC ks ρ)) [] (a.or ready))(hall:∀q a,(∀i,i<n→go i=.next)→B n a→a q=nO→ZS (F.mark q) dk ρ L (a.upd q .dfr))(hret:∀q a m,m<n→(∀i,i<m→go i=.next)→go m=.stop .ret→B (m+1) a→a q=nO→ZS (F.mark q) (.code .ret::dk) ρ L (a.upd q .dfr))(hexit:∀q a m id,m<n→(∀i,i<m→go i=.next)→go m=.stop (.exit id)→B (m+1) a→a q=nO→ZS (F.mark q) (.code (.exit id)::dk) ρ L (a.upd q .dfr))(hpan:∀q a m d,m<n→(∀i,i<m→go i=.next)→go m=.pan d→B (m+1) a→a q=nO→K1 (F.mark q) ρ L d (a.upd q .dfr))(hgo:∀m c,go m=.stop c→c=.ret∨∃id,c=.exit id):
  ZS F (.code (.rangeF o ps da db)::dk) ρ L a0:=by
 refine ZiE hF.roundOf hf hp ks hks fun q l r hq hl hql hr1 hr2 hr3 hca hcb hr4 hps=>?_
 have hq1:a0 q=nO:=hq
 have hl1:a0 l=nO:=hl
 let stOf:Nat→LSt:=fun j=>match j with
  |0=>.ready
  |j+1=>match go j with
   |.next=>.ready
   |.stop c=>.done c
   |.pan _=>.busy
 let A:Nat→St→Prop:=fun j S=>∃a,B j a∧Kz a (lpS q l r .ready)∧S=a.or (lpS q l r (stOf j))
 have hd0:Kz a0 (lpS q l r .ready):=fun b o hb=>by
  by_cases h1:b=q
  ·rw[h1];exact hq1
  ·by_cases h2:b=l
   ·rw[h2];exact hl1
   ·rw[Zb8 h1 h2]at hb;simp at hb
 have hst:((a0.upd q .dfr).upd l (.loop r .ready))=a0.or (lpS q l r .ready):=by
  funext b
  simp only[St.upd]
  by_cases h2:b=l
  ·subst h2;rw[if_pos rfl,Yj hl1];exact(QH hql).symm
  ·rw[if_neg h2]
   by_cases h1:b=q
   ·subst h1;rw[if_pos rfl,Yj hq1];exact Jf.symm
   ·rw[if_neg h1]
    cases ha:a0 b with
    |some x=>rw[ZU ha]
    |none=>rw[Yj ha];exact(Zb8 h1 h2).symm
 have hex:=hF.ex
 have hcons:Zfj P (.fn (.yield l) [] []) n args go A:=by
  rintro j hj hnx S ⟨a,hBj,hda,rfl⟩
  have hsj:stOf j=.ready:=by
   cases j with
   |zero=>rfl
   |succ j=>simp only[stOf,hnx j (by omega)]
  rw[hsj]
  refine Zil (an:=F.an) (N:=F.N) (r:=r) (by rw[Yj (hda l _ (QH hql))];exact QH hql) (by rw[hr2];exact hlen j hj) hca hcb hr4 (by rw[hr2];exact hps) fun F' hF' hfn=>?_
  rw[hr1,hr2]
  refine hbody j a hj hnx hBj F' (lpS q l r .ready) (lpS q l r .busy) hda (fun hk=>hF'.begin (r:=r) (by rw[Yj (hda l _ (QH hql))];exact QH hql) ?_) ?_
  ·have e:(a.or (lpS q l r .ready)).upd l (.loop r .busy)=a.or (lpS q l r .busy):=by
    funext b
    simp only[St.upd]
    by_cases h2:b=l
    ·subst h2;rw[if_pos rfl,Yj (hda b _ (QH hql)),QH hql]
    ·rw[if_neg h2]
     by_cases h1:b=q
     ·subst h1;rw[Yj (hda b _ Jf),Yj (hda b _ Jf),Jf,Jf]
     ·cases ha:a b with
      |some x=>rw[ZU ha,ZU ha]
      |none=>rw[Yj ha,Yj ha,Zb8 h1 h2,Zb8 h1 h2]
   rw[e];exact hk (ZhU hda hql)
  ·refine ZkK hF' hql (by rw[hfn,hr3];exact hex) ?_
   rintro oc a' ⟨rfl,hB'⟩ hda'
   exact⟨rfl,a',hB',ZhU hda' hql,rfl⟩
 refine⟨_,by rw[hst];exact hit _ go A _ (Zat _ _) hcons ⟨a0,h0,hd0,rfl⟩,?_,?_⟩
 ·rintro d S ⟨S',hend,hsub⟩
  have fin:∀a,Kz a (lpS q l r .ready)→∀st,(a.or (lpS q l r st)).sub S→S l=sO (.loop r st)∧(a.upd q .dfr).sub (S.del l)∧a q=nO:=fun a hda st hs=>by
   refine⟨hs l _ (by rw[Yj (hda l _ (QH hql))];exact QH hql),fun b o hb=>?_,hda q _ Jf⟩
   have hbl:b≠l:=fun e=>by
    subst e
    rw[St.upd_ne _ _ (Ne.symm hql),hda b _ (QH hql)]at hb;simp at hb
   simp only[St.del,hbl,if_false]
   by_cases h1:b=q
   ·subst h1;rw[St.upd_same]at hb;exact hs b o (by rw[Yj (hda b _ Jf),Jf];exact hb)
   ·rw[St.upd_ne _ _ h1]at hb;exact hs b o (ZU hb)
  cases hend with
  |all h ha =>
   obtain⟨a,hB,hda,rfl⟩:=ha
   have hsn:stOf n=.ready:=by
    cases n with
    |zero=>rfl
    |succ n=>simp only[stOf,h n (by omega)]
   rw[hsn]at hsub
   obtain⟨f1,f2,f3⟩:=fin a hda _ hsub
   exact .inl ⟨f1,J9 f2 (hall q a h hB f3)⟩
  |stop m c hm h hc ha =>
   obtain⟨a,hB,hda,rfl⟩:=ha
   have hsn:stOf (m+1)=.done c:=by simp only[stOf,hc]
   rw[hsn]at hsub
   obtain⟨f1,f2,f3⟩:=fin a hda _ hsub
   rcases hgo m c hc with rfl|⟨id,rfl⟩
   ·exact .inr ⟨.ret,.ret,f1,rfl,J9 f2 (hret q a m hm h hc hB f3)⟩
   ·exact .inr ⟨.exit id,.exit id,f1,rfl,J9 f2 (hexit q a m id hm h hc hB f3)⟩
 ·rintro d S ⟨S',hend,hsub⟩
  cases hend with
  |pan m d hm h hc ha =>
   obtain⟨a,hB,hda,rfl⟩:=ha
   have hs:(a.upd q .dfr).sub S:=fun b o hb=>by
    by_cases h1:b=q
    ·subst h1;rw[St.upd_same]at hb;exact hsub b o (by rw[Yj (hda b _ Jf),Jf];exact hb)
    ·rw[St.upd_ne _ _ h1]at hb;exact hsub b o (ZU hb)
   exact ZlF hs (hpan q a m d hm h hc hB (hda q _ Jf))
end
end Go.DL
