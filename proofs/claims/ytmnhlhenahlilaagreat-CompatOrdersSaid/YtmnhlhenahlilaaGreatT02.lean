/- Lemmas: DlW, DlX, DlY, DlZ, DlZA, DlZB, DlZC, DlZD, DlZE, DlZF, DlZGa, DlZG, DlZH, DlZI, FCode0, FCode1, FCode2. -/
import Derived.Test.YtmnhlhenahlilaaGreatT01
set_option maxHeartbeats 16000000
set_option linter.all false
namespace Go.DL
open Go
section
variable {P:Program}
def K2 (F:Fr P) (ρ:Env) (L:Loc) (d:D) (s:St):Prop :=
 ∀ g ν w v todo tmps,F.N≤tmps.size→ZX g ν w tmps ρ L s→Rep g w v d→F.T.T g w (lone { F.b.atR ⟨tmps,F.ds⟩ todo with mode:=.panicking [{ v,recovered:=false }] } F.cs w)
theorem ZX.empty {g:G} {ν:Nat→Nat} {w:World} {tmps:Array Value} {ρ:Env} {L:Loc} {s:St} (m:ZX g ν w tmps ρ L s):ZX g ν w tmps [] [] s:={
 st:=m.st
 loc l cs h:=by simp [ZI] at h
 locKept l cs h:=by simp [ZI] at h
 locSt l cs h:=by simp [ZI] at h
 inj l l' cs cs' h:=by simp [ZI] at h
 env t e h:=by simp [Wh] at h }
theorem K2.weak {F:Fr P} {d:D} {s:St} (h:K2 F [] [] d s) (ρ:Env) (L:Loc):K2 F ρ L d s :=
 fun g ν w v todo tmps hN m hr=>h g ν w v todo tmps hN m.empty hr
def Zfb (g:G) (ν:Nat→Nat) (L:Loc):G:={ g with kept:=fun b=>g.kept b∨∃ l cs,ZI L l=some cs∧b=ν l }
theorem Qt {g g':G} {w:World} {v:Value} {d:D} (h:Rep g w v d) (hp:g'.prot=g.prot):Rep g' w v d :=
 h.mono0 (fun b=>by rw [hp]; exact Nat.le_refl _) (fun _ _ _=>rfl) (fun _ _ h=>h)
theorem ZnC {g g':G} {ν:Nat→Nat} {w:World} {L:Loc} {v:Value} {e:E} (h:Yq g ν w L v e) (hp:g'.prot=g.prot):Yq g' ν w L v e:=by
 induction e with
 | d x=>exact Qt h hp
 | loc l o=>exact h
 | when c e ih=>exact ⟨fun hc=>ih (h.1 hc),h.2⟩
theorem Zjj {g g':G} {w:World} {b:Nat} {o:Kq} (h:Qr g w b o) (hp:g'.prot=g.prot):Qr g' w b o:=by
 cases o with
 | cells ds =>
  obtain ⟨h0,vs,T,h1,h2,h3,h4⟩:=h
  exact ⟨by rw [hp]; exact h0,vs,T,h1,h2,fun i v d hv hd=>Qt (h3 i v d hv hd) hp,h4⟩
 | map es =>
  obtain ⟨h0,en,cl,h1,h2,h3,h4,h5,h6⟩:=h
  exact ⟨by rw [hp]; exact h0,en,cl,h1,h2,fun i v d hv hd=>Qt (h3 i v d hv hd) hp,fun i v d hv hd=>Qt (h4 i v d hv hd) hp,h5,h6⟩
 | tip k =>
  obtain ⟨h0,h1⟩:=h
  exact ⟨by rw [hp]; exact h0,h1⟩
 | mapE kp es k n =>
  obtain ⟨h0,io,h1,en,cl,h2,h3,h4,h5,h6,h7⟩:=h
  exact ⟨by rw [hp]; exact h0,io,h1,en,cl,h2,h3,fun i v d hi hv hd=>Qt (h4 i v d hi hv hd) hp,fun i v d hi hv hd=>Qt (h5 i v d hi hv hd) hp,fun e he=>⟨Qt (h6 e he).1 hp,(h6 e he).2⟩,h7⟩
 | loop r st =>
  obtain ⟨h0,l,h1,h2,h3,h4,h5,h6,h7,h8,h9⟩:=h
  exact ⟨by rw [hp]; exact h0,l,h1,h2,h3,h4,h5,h6,h7,fun t e he=>ZnC (h8 t e he) hp,h9⟩
 | dfr =>
  obtain ⟨h0,h1⟩:=h
  exact ⟨by rw [hp]; exact h0,h1⟩
theorem ZX.callSt {g:G} {ν:Nat→Nat} {w:World} {tmps:Array Value} {ρ:Env} {L:Loc} {s:St} (m:ZX g ν w tmps ρ L s):Kg (Zfb g ν L) s w:={
 obj b o ho:=Zjj (m.st.obj b o ho) rfl
 kept b o ho:=by
  rintro (h | ⟨l,cs,hl,rfl⟩)
  ·exact m.st.kept b o ho h
  ·rw [m.locSt l cs hl] at ho; simp at ho
 fresh b hb:=⟨(m.st.fresh b hb).1,by
  rintro (h | ⟨l,cs,hl,rfl⟩)
  ·exact (m.st.fresh b hb).2 h
  ·have:=(m.loc l cs hl).lt; omega⟩ }
theorem ZX.afterCall {g g':G} {ν:Nat→Nat} {w w':World} {tmps:Array Value} {ρ:Env} {L:Loc} {s s':St} (m:ZX g ν w tmps ρ L s) (hx:Ext (Zfb g ν L) w g' w') (hs:Kg g' s' w') :
  Ext g w { g' with kept:=g.kept } w'∧ZX { g' with kept:=g.kept } ν w' tmps ρ L s':=by
 have hext:Ext g w { g' with kept:=g.kept } w' :=
  ⟨hx.size,hx.prot,hx.cell,hx.hdr,fun b hb=>hx.kept b (.inl hb),fun b hb=>hx.keptProt b (.inl hb),rfl,hx.os,hx.output,hx.tape⟩
 refine ⟨hext,⟨⟨fun b o ho=>Zjj (hs.obj b o ho) rfl,fun b o ho hk=>hs.kept b o ho (by rw [hx.keptEq]; exact .inl hk),fun b hb=>⟨(hs.fresh b hb).1,fun hk=>(hs.fresh b hb).2 (by rw [hx.keptEq]; exact .inl hk)⟩⟩,?_,m.locKept,?_,m.inj,?_⟩⟩
 ·intro l cs hl
  exact (m.loc l cs hl).mono hext (hx.kept _ (.inr ⟨l,cs,hl,rfl⟩)) (hx.keptProt _ (.inr ⟨l,cs,hl,rfl⟩))
 ·intro l cs hl
  cases hsl:s' (ν l) with
  | none=>rfl
  | some o=>exact absurd (by rw [hx.keptEq]; exact .inr ⟨l,cs,hl,rfl⟩) (hs.kept _ o hsl)
 ·intro t e he
  exact (m.env t e he).mono hext
theorem ZpO {op:Op} {f:Opd} {xs:List Opd} (h:ck P op=some (.call f xs)):∃ f' args ats,op = .call ⟨.value f',args,ats⟩∧Wm f'=some f∧Zbc args.toList=some xs:=by
 unfold ck at h
 split at h
 ·simp at h
 ·split at h <;> (try (simp at h; done))
  all_goals (try (repeat' (split at h <;> (try (simp at h; done)))))
  simp only [Option.some.injEq,K.call.injEq] at h
  obtain ⟨rfl,rfl⟩:=h
  rename_i c _ _ f' hcal _ _ f xs hf hxs
  obtain ⟨callee,args,ats⟩:=c
  simp only at hcal
  exact ⟨f',args,ats,by rw [hcal],hf,hxs⟩
theorem Zpy {op:Op} {x:Opd} (h:ck P op=some (.panic x)):∃ x',op = .panic x'∧Wm x'=some x:=by
 unfold ck at h
 split at h
 ·simp at h
 ·split at h <;> (try (simp at h; done))
  all_goals (try (repeat' (split at h <;> (try (simp at h; done)))))
  simp only [Option.map_eq_some_iff,K.panic.injEq,exists_eq_right] at h
  exact ⟨_,rfl,h⟩
def Zd8 (P:Program):Next→Option Frame
 | .enter f args=>some (Frame.enter P f args .normal)
 | .round l f tmps a b=>some (Frame.round l f tmps a b .normal)
 | _=>none
def ZqJ (P:Program) (m:Machine) (c:Frame) (cs:List Frame) (e:Ending) (w':World):Prop :=
 match e with
 | .returned v=>Steps P m (lone (c.finish v) cs w')
 | .panicked ch=>Steps P m (lone (c.raise ch) cs w')
 | .outgrown=>False
def Q5 (P:Program) (f:D) (args:List D) (s:St) (Φ:Res→St→Prop):Prop :=
 ∀ g w fv (vs:List Value),Kg g s w→Rep g w fv f→YQ (Rep g w) vs args →
  ∃ d nx fr,(Deferred.ofValue fv vs.toArray).run P w = .ok d w∧(invoke d.target d.args).run P w = .ok nx w∧Zd8 P nx=some fr ∧
   ∀ c cs,∃ e w',Zep g w Φ e w'∧ZqJ P (lone fr (c :: cs) w) c cs e w'
theorem Q5.mono {f:D} {args:List D} {s:St} {Φ Φ':Res→St→Prop} (h:Q5 P f args s Φ) (hp:∀ r s',Φ r s'→Φ' r s'):Q5 P f args s Φ':=by
 intro g w fv vs h1 h2 h3
 obtain ⟨d,nx,fr,a1,a2,a3,a4⟩:=h g w fv vs h1 h2 h3
 refine ⟨d,nx,fr,a1,a2,a3,fun c cs=>?_⟩
 obtain ⟨e,w',⟨g',s',r,b1,b2,b3,b4⟩,hb⟩:=a4 c cs
 exact ⟨e,w',⟨g',s',r,b1,b2,b3,hp _ _ b4⟩,hb⟩
theorem ZY.V {f:FuncId} {first args caps:List D} {s:St} {Φ:Res→St→Prop} (h:ZY P f (first++args++caps) s Φ):Q5 P (.fn (.func f) first caps) args s Φ:=by
 intro g w fv vs hs hf ha
 cases hf with
 | fn _ fs cs' _ _ hn1 hn2 h1 h2 =>
 obtain ⟨⟨fn,hfn1,hfn2,hfn3⟩,hcall⟩:=h
 have hall:YQ (Rep g w) (fs++vs++cs') (first++args++caps):=((Kv hn1 h1).append ha).append (Kv hn2 h2)
 have hbody:fn.body.isNone=false:=by cases hb:fn.body <;> simp [hb] at hfn2 ⊢
 refine ⟨_,.enter f (fs++vs++cs').toArray,_,by simp [Deferred.ofValue]; rfl,?_,rfl,fun c cs=>?_⟩
 ·simp only [invoke,callFunc,Sem.run_bind,run_program,Result.andThen_ok,hfn1,hfn3,hbody,Bool.false_eq_true,if_false,Sem.run_pure]
  simp
 ·obtain ⟨e,w',fr,hp,hcomes,hfrf,hleave⟩:=hcall g w _ hs hall (c :: cs)
  refine ⟨e,w',hp,?_⟩
  cases e with
  | returned v=>exact Steps.trans hcomes (.one (step_leave_returned hleave))
  | panicked ch=>exact Steps.trans hcomes (.one (step_leave_panicked hleave))
  | outgrown =>
   obtain ⟨g',s',r,b1,b2,b3,b4⟩:=hp
   cases r <;> exact b3.elim
theorem ZaH {F:Fr P} {kp:Option (List Nat)} {dk:List ZR} {o:DOp} {os:List DOp} {ρ:Env} {L:Loc} {s:St} (hg:Yd ρ o.guard=some true) {fx:Opd} {xs:List Opd} (hk:o.k = .call fx xs)
  {p q:Prop} {f:D} {es:List E} {ds:List D} (hf:YC ρ true fx=some (q,.d f)) (ha:Kn ρ true xs=some (p,es)) (hds:Qn es=some ds) (hp:p) (hq:q)
  {Ψ:Res→St→Prop} (hc:Q5 P f ds s Ψ)
  (hret:∀ d s',Ψ (.ret d) s'→DO F kp dk os (YT ρ o.dst (.d d)) L s') (hpan:∀ d s',Ψ (.panic d) s'→K2 F ρ L d s'):DO F kp dk (o :: os) ρ L s:=by
 refine QD fun oo g ν w tmps ops i r k hoo hck hcg hdst hd hN m hr hkk=>?_
 have hw:=Ky m hcg hg
 have hnd:=KN hck (by rw [hk]; rfl)
 rw [hk] at hck
 obtain ⟨f',args,ats,hop,hf',hxs⟩:=ZpO hck
 have hfr:Rep g w _ _:=Kl m hf' rfl hf hq F.ds
 have hargs:=Jk (Zdk m rfl F.ds hxs ha hp) hds
 generalize hfv:(Act.mk tmps F.ds).eval f'=fv at hfr
 have hall:YQ (Rep (Zfb g ν L) w) (args.toList.map (Act.mk tmps F.ds).eval) ds:=Kv hargs.len (fun i a b hx hy=>Qt (hargs.get i a b hx hy) rfl)
 obtain ⟨d,nx,fr,hd1,hd2,hd3,hC⟩:=hc (Zfb g ν L) w fv _ m.callSt (Qt hfr rfl) hall
 have hmap:(Array.map (Act.mk tmps F.ds).eval args)=(args.toList.map (Act.mk tmps F.ds).eval).toArray:=by apply Array.ext'; simp
 have hrun:(execOp (Act.mk tmps F.ds).eval oo).run P w = .ok nx w:=by
  simp only [execOp,hop,resolve,hfv,hmap,Sem.run_bind,hd1,Result.andThen_ok,hd2]
 have henter:step P (lone (F.b.atR ⟨tmps,F.ds⟩ (.inRegion ops (i :: r) :: k)) F.cs w) =
   .next (lone fr (F.b.atR ⟨tmps,F.ds⟩ (.inRegion ops (i :: r) :: k) :: F.cs) w):=by
  refine step_lone_go ?_
  rw [stepGR_op hoo hw,Oper.semAt_eq _ _ _ hnd]
  cases nx <;> simp only [Zd8,Option.some.injEq,reduceCtorEq] at hd3 <;> subst hd3 <;> simp [stepG.apply,hrun,Frame.atR]
 obtain ⟨e,w',⟨g',s',res,x1,x2,x3,x4⟩,hback⟩:=hC (F.b.atR ⟨tmps,F.ds⟩ (.inRegion ops (i :: r) :: k)) F.cs
 obtain ⟨hext,hm⟩:=m.afterCall x1 x2
 cases e with
 | returned v =>
  cases res with
  | panic d=>exact x3.elim
  | ret d =>
   have hfin:(F.b.atR ⟨tmps,F.ds⟩ (.inRegion ops (i :: r) :: k)).finish v=F.b.atR ((Act.mk tmps F.ds).put oo.dst v) (.inRegion ops r :: k):=by rw [Frame.finish_atR,hoo]; rfl
   have hsteps:Steps P (lone (F.b.atR ⟨tmps,F.ds⟩ (.inRegion ops (i :: r) :: k)) F.cs w) (lone (F.b.atR ((Act.mk tmps F.ds).put oo.dst v) (.inRegion ops r :: k)) F.cs w'):=by
    refine .head henter ?_
    rw [← hfin]; exact hback
   refine F.T.back _ _ _ _ hsteps ?_
   rw [hdst]
   obtain ⟨tmps',e1,e2,m'⟩:=Zeq hm hN hd (v:=v) (e:=.d d) (Qt x3 rfl) F.ds
   rw [e1]
   exact F.T.ext _ _ _ _ _ hext (hret d s' x4 ops r k hr hkk _ _ _ tmps' e2 m')
 | panicked ch =>
  cases res with
  | ret d=>exact x3.elim
  | panic d =>
   obtain ⟨v,rfl,hv⟩:=x3
   have hsteps:Steps P (lone (F.b.atR ⟨tmps,F.ds⟩ (.inRegion ops (i :: r) :: k)) F.cs w) (lone { F.b.atR ⟨tmps,F.ds⟩ (.inRegion ops (i :: r) :: k) with mode:=.panicking [{ v,recovered:=false }] } F.cs w'):=by
    refine .head henter ?_
    rw [← Frame.raise_atR]; exact hback
   refine F.T.back _ _ _ _ hsteps ?_
   exact F.T.ext _ _ _ _ _ hext (hpan d s' x4 _ _ _ v _ _ hN hm (Qt hv rfl))
 | outgrown=>exact hback.elim
theorem Z6 {F:Fr P} {kp:Option (List Nat)} {dk:List ZR} {o:DOp} {os:List DOp} {ρ:Env} {L:Loc} {s:St} (hg:Yd ρ o.guard=some true) {fx:Opd} {xs:List Opd} (hk:o.k = .call fx xs)
  {p q:Prop} {f:FuncId} {first caps:List D} {es:List E} {ds:List D} (hf:YC ρ true fx=some (q,.d (.fn (.func f) first caps))) (ha:Kn ρ true xs=some (p,es)) (hds:Qn es=some ds) (hp:p) (hq:q)
  {Ψ:Res→St→Prop} (hc:ZY P f (first++ds++caps) s Ψ)
  (hret:∀ d s',Ψ (.ret d) s'→DO F kp dk os (YT ρ o.dst (.d d)) L s') (hpan:∀ d s',Ψ (.panic d) s'→K2 F ρ L d s'):DO F kp dk (o :: os) ρ L s :=
 ZaH hg hk hf ha hds hp hq hc.V hret hpan
theorem Zpo {F:Fr P} {kp:Option (List Nat)} {dk:List ZR} {o:DOp} {os:List DOp} {ρ:Env} {L:Loc} {s:St} (hg:Yd ρ o.guard=some true) {x:Opd} (hk:o.k = .panic x)
  {p:Prop} {t:TypeId} {d:D} (ha:YC ρ true x=some (p,.d (.iface t d))) (hp:p) (h:K2 F ρ L (.iface t d) s):DO F kp dk (o :: os) ρ L s:=by
 refine QD fun oo g ν w tmps ops i r k hoo hck hcg hdst hd hN m hr hkk=>?_
 have hw:=Ky m hcg hg
 have hnd:=KN hck (by rw [hk]; rfl)
 rw [hk] at hck
 obtain ⟨x',hop,hx'⟩:=Zpy hck
 have hrep:Rep g w _ _:=Kl m hx' rfl ha hp F.ds
 generalize hv:(Act.mk tmps F.ds).eval x'=v at hrep
 have hrun:(execOp (Act.mk tmps F.ds).eval oo).run P w = .halt (.panic v) w:=by
  cases hrep
  simp [execOp,hop,hv,Instr.panic]
 refine F.T.back _ _ _ _ (.one (step_lone_go (fr':={ F.b.atR ⟨tmps,F.ds⟩ (.inRegion ops (i :: r) :: k) with mode:=.panicking [{ v,recovered:=false }] }) (cs':=F.cs) (w':=w) ?_)) (h g ν w v _ _ hN m hrep)
 rw [stepGR_op hoo hw,Oper.semAt_eq _ _ _ hnd]
 rw [← Frame.raise_atR]
 simp [stepG.apply,hrun]
end
end Go.DL
namespace Go.DL
open Go
section
variable {P:Program}
def Zal:D→Option Value
 | .int k n=>some (.int k n)
 | .bool b=>some (.bool b)
 | .str l=>some (.string ⟨l.toArray⟩)
 | .nilsl=>some (.slice none 0 0)
 | .nilptr=>some (.pointer none)
 | .ptr b o=>some (.pointer (some ⟨b,o,none⟩))
 | .map b=>some (.map (some b))
 | .nilmap=>some (.map none)
 | .nilfn=>some .nilFunc
 | .niliface=>some .nilIface
 | _=>none
def ZeU:List D→Option (List Value)
 | []=>some []
 | d :: r=>match Zal d,ZeU r with
  | some v,some vs=>some (v :: vs)
  | _,_=>none
theorem Zmu {g:G} {w:World} {v v':Value} {d:D} (h:Rep g w v d) (hv:Zal d=some v'):v=v':=by
 cases h <;> simp only [Zal,Option.some.injEq,reduceCtorEq] at hv <;> (try exact hv)
 rename_i s l h hb
 rw [← hv]
 cases s
 simp only at h
 rw [← h]
theorem ZgP {g:G} {w:World}:∀ {vs vs':List Value} {ds:List D},YQ (Rep g w) vs ds→ZeU ds=some vs'→vs=vs'
 | _,_,_,.nil,h=>by simp only [ZeU,Option.some.injEq] at h; exact h
 | _,_,_,.cons h1 h2,h=>by
  simp only [ZeU] at h
  split at h <;> simp only [Option.some.injEq,reduceCtorEq] at h
  rename_i v vs e1 e2
  rw [← h,Zmu h1 e1,ZgP h2 e2]
def ZgB:D→Prop
 | .int k n=>inR k n
 | .str l=>l.length≤big
 | d=>(Zal d).isSome=true
def ZdG:List D→Prop
 | []=>True
 | d :: r=>ZgB d∧ZdG r
theorem Zkj {d:D} (h:ZgB d):∃ v,Zal d=some v∧v.one1=true∧∀ g w,Rep g w v d:=by
 cases d <;> simp only [ZgB,Zal,Option.isSome_none,Bool.false_eq_true] at h
 ·exact ⟨_,rfl,rfl,fun g w=>.int _ _ h⟩
 ·exact ⟨_,rfl,rfl,fun g w=>.bool _⟩
 ·exact ⟨_,rfl,rfl,fun g w=>.str _ _ rfl h⟩
 ·exact ⟨_,rfl,rfl,fun g w=>.nilsl⟩
 ·exact ⟨_,rfl,rfl,fun g w=>.nilptr⟩
 ·exact ⟨_,rfl,rfl,fun g w=>.ptr _ _⟩
 ·exact ⟨_,rfl,rfl,fun g w=>.map _⟩
 ·exact ⟨_,rfl,rfl,fun g w=>.nilmap⟩
 ·exact ⟨_,rfl,rfl,fun g w=>.nilfn⟩
 ·exact ⟨_,rfl,rfl,fun g w=>.niliface⟩
theorem Zbs:∀ {ds:List D},ZdG ds→∃ vs,ZeU ds=some vs∧(∀ v∈vs,v.one1=true)∧∀ g w,YQ (Rep g w) vs ds
 | [],_=>⟨[],rfl,by simp,fun g w=>.nil⟩
 | d :: r,h=>by
  obtain ⟨v,h1,h2,h3⟩:=Zkj h.1
  obtain ⟨vs,g1,g2,g3⟩:=Zbs h.2
  exact ⟨v :: vs,by simp [ZeU,h1,g1],by simp only [List.mem_cons,forall_eq_or_imp]; exact ⟨h2,g2⟩,fun g w=>.cons (h3 g w) (g3 g w)⟩
inductive DD where
 | mark (q:Nat)
 | fn (i:FuncId) (args caps:List D)
def DD.def:DD→Deferred
 | .mark q=>{ target:=.collected q,args:=#[] }
 | .fn i args caps=>{ target:=.fn (.func i) ((ZeU caps).getD []).toArray,args:=((ZeU args).getD []).toArray }
def Za8 (g:G) (w:World) (m:FrameMode):Option D→Prop
 | none=>m = .returning
 | some d=>∃ v,m = .panicking [{ v,recovered:=false }]∧Rep g w v d
def Zce (P:Program) (i:FuncId) (args:List D) (pd:Option D) (s:St) (Ψ:Bool→St→Prop):Prop :=
 (∃ fn,P.funcs[i]? = some fn∧fn.body.isSome=true∧(fn.name == "runtime.NumGoroutine")=false) ∧
 ∀ g w (vs:List Value) (cf:Frame) (cs:List Frame),Kg g s w→YQ (Rep g w) vs args→Za8 g w cf.mode pd →
  ∃ g' w' s' b,Ext g w g' w'∧Kg g' s' w'∧Ψ b s' ∧
   Steps P (lone (Frame.enter P i vs.toArray .deferred) (cf :: cs) w) (lone { cf with mode:=if b then .returning else cf.mode } cs w')
def Unw (P:Program):List DD→Option D→St→(Option D→St→Prop)→Prop
 | [],m,s,Ψ=>Ψ m s
 | .mark q :: r,m,s,Ψ=>s q=some .dfr∧Unw P r m (s.del q) Ψ
 | .fn i args caps :: r,m,s,Ψ=>ZdG args∧ZdG caps∧Zce P i (args++caps) m s fun b s'=>Unw P r (if b then none else m) s' Ψ
theorem Zb1 {g:G} {w:World} (b:Nat) (o:Obj) (hb:hdr w b=none) (hp:g.prot b=0) (hk:¬ g.kept b):Ext g w g { w with heap:=w.heap.setIfInBounds b o } where
 size:=by simp
 prot _:=Nat.le_refl _
 cell b' o' ho:=by
  by_cases h:b'=b
  ·subst h; omega
  ·exact ZaE (by simp [Array.getElem?_setIfInBounds,Ne.symm h])
 hdr b' x hx:=by
  by_cases h:b'=b
  ·subst h; rw [hb] at hx; simp at hx
  ·rw [Za5 (w:=w) (by simp [Array.getElem?_setIfInBounds,Ne.symm h])]; exact hx
 kept b' hb':=by
  have h:b'≠b:=fun h=>hk (h ▸ hb')
  simp [Array.getElem?_setIfInBounds,Ne.symm h]
 keptProt _ _:=rfl
 keptEq:=rfl
 os:=rfl
 output:=rfl
 tape:=rfl
theorem ZX.drop {g:G} {ν:Nat→Nat} {w w':World} {tmps:Array Value} {ρ:Env} {L:Loc} {s:St} (m:ZX g ν w tmps ρ L s) {b:Nat} {o:Kq} (hb:s b=some o) (he:Ext g w g w') (hsz:w'.heap.size=w.heap.size)
  (hoth:∀ c,c≠b→w'.heap[c]? = w.heap[c]?):ZX g ν w' tmps ρ L (s.del b):={
 st:=⟨fun c x hx=>by
    simp only [St.del] at hx
    by_cases hc:c=b
    ·simp [hc] at hx
    ·simp only [hc,if_false] at hx; exact (m.st.obj c x hx).mono he (hoth c hc) rfl,
   fun c x hx=>by
    simp only [St.del] at hx
    by_cases hc:c=b
    ·simp [hc] at hx
    ·simp only [hc,if_false] at hx; exact m.st.kept c x hx,
   fun c hc=>m.st.fresh c (by omega)⟩
 loc l cs hl:=(m.loc l cs hl).mono he (hoth _ (fun h=>by have:=m.locSt l cs hl; rw [h,hb] at this; simp at this)) rfl
 locKept:=m.locKept
 locSt l cs hl:=by
  simp only [St.del]
  split
  ·rfl
  ·exact m.locSt l cs hl
 inj:=m.inj
 env t e ht:=(m.env t e ht).mono he }
theorem Zom {fr:Frame} {cs:List Frame} {w:World} {q:Nat} {ds:List Deferred} {args:Array Value} (hm:fr.mode≠.run) (hd:fr.defers={ target:=.collected q,args } :: ds) (hq:w.heap[q]? = some (.deferred (some []))) :
  step P (lone fr cs w) = .next (lone { fr with defers:=ds } cs { w with heap:=w.heap.setIfInBounds q (.deferred none) }):=by
 have hrun:(Instr.takeDeferred q).run P w = .ok [] { w with heap:=w.heap.setIfInBounds q (.deferred none) }:=by
  simp [Instr.takeDeferred,getObj,setObj,Sem.run,hq,Result.andThen]
 refine step_lone_go ?_
 cases hmode:fr.mode with
 | run=>exact absurd hmode hm
 | returning=>simp [stepG,unwind,hmode,hd,Sem.runT_eq,hrun]
 | panicking chain=>simp [stepG,unwind,hmode,hd,Sem.runT_eq,hrun]
theorem ZiK {g:G} {w:World} {m:FrameMode} {o:Option D} (h:Za8 g w m o):m≠.run:=by
 cases o with
 | none=>simp only [Za8] at h; rw [h]; simp
 | some d=>obtain ⟨v,h,_⟩:=h; rw [h]; simp
theorem ZiJ {g g':G} {w w':World} {m:FrameMode} {o:Option D} (h:Za8 g w m o) (he:Ext g w g' w'):Za8 g' w' m o:=by
 cases o with
 | none=>exact h
 | some d=>obtain ⟨v,h,hr⟩:=h; exact ⟨v,h,hr.mono he⟩
theorem Zgc {Ψ:Option D→St→Prop}:∀ (dds:List DD) {m:Option D} {s:St},Unw P dds m s Ψ→∀ {g:G} {ν:Nat→Nat} {w:World} {ρ:Env} {L:Loc} {fr:Frame} {cs:List Frame},ZX g ν w fr.tmps ρ L s→fr.defers=dds.map DD.def→Za8 g w fr.mode m →
  ∃ g' w' m' s' md,Ext g w g' w'∧ZX g' ν w' fr.tmps ρ L s'∧Ψ m' s'∧Za8 g' w' md m'∧Steps P (lone fr cs w) (lone { fr with defers:=[],mode:=md } cs w')
 | [],m,s,h,g,ν,w,ρ,L,fr,cs,M,hd,hm=>by
  refine ⟨g,w,m,s,fr.mode,Ext.refl g w,M,h,hm,?_⟩
  have:({ fr with defers:=[],mode:=fr.mode }:Frame)=fr:=by cases fr; simp only at hd; subst hd; rfl
  rw [this]; exact Steps.refl P _
 | .mark q :: r,m,s,h,g,ν,w,ρ,L,fr,cs,M,hd,hm=>by
  obtain ⟨hq,hu⟩:=h
  obtain ⟨hp0,hh⟩:=M.st.obj q _ hq
  have he:=Zb1 (g:=g) (w:=w) q (.deferred none) (by simp [hdr,hh]) hp0 (M.st.kept q _ hq)
  have M':=M.drop hq he (by simp) (fun c hc=>JZ _ hc)
  obtain ⟨g',w',m',s',md,a1,a2,a3,a4,a5⟩:=Zgc r hu (fr:={ fr with defers:=r.map DD.def }) (cs:=cs) M' rfl (ZiJ hm he)
  exact ⟨g',w',m',s',md,he.trans a1,a2,a3,a4,.head (Zom (ZiK hm) hd hh) a5⟩
 | .fn i args caps :: r,m,s,h,g,ν,w,ρ,L,fr,cs,M,hd,hm=>by
  obtain ⟨hr1,hr2,⟨fn,hfn1,hfn2,hfn3⟩,hc⟩:=h
  obtain ⟨as9,ha1,_,ha2⟩:=Zbs hr1
  obtain ⟨vs,hv1,_,hv2⟩:=Zbs hr2
  have hm':Za8 (Zfb g ν L) w ({ fr with defers:=r.map DD.def }:Frame).mode m:=by
   cases m with
   | none=>exact hm
   | some d=>obtain ⟨v,h1,h2⟩:=hm; exact ⟨v,h1,Qt h2 rfl⟩
  obtain ⟨g1,w1,s1,b,x1,x2,x3,x4⟩:=hc (Zfb g ν L) w (as9++vs) { fr with defers:=r.map DD.def } cs M.callSt ((ha2 _ _).append (hv2 _ _)) hm'
  obtain ⟨hext,hm1⟩:=M.afterCall x1 x2
  have hbody:fn.body.isNone=false:=by cases hb:fn.body <;> simp [hb] at hfn2 ⊢
  have hstep:step P (lone fr cs w) = .next (lone (Frame.enter P i (as9++vs).toArray .deferred) ({ fr with defers:=r.map DD.def } :: cs) w):=by
   refine step_defer (d:=DD.def (.fn i args caps)) (fv:=.func i) (cap:=vs.toArray) (ZiK hm) hd (by simp [DD.def,hv1]) ?_
   simp only [DD.def,hv1,ha1,Option.getD_some,invoke,callFunc,Sem.run_bind,run_program,Result.andThen_ok,hfn1,hfn3,hbody,Bool.false_eq_true,if_false,Sem.run_pure]
   simp
  have hmd:Za8 { g1 with kept:=g.kept } w1 (if b then .returning else fr.mode) (if b then none else m):=by
   cases b
   ·simp only [Bool.false_eq_true,if_false]; exact ZiJ hm hext
   ·rfl
  obtain ⟨g',w',m',s',md,a1,a2,a3,a4,a5⟩:=Zgc r x3 (fr:={ fr with defers:=r.map DD.def,mode:=if b then .returning else fr.mode }) (cs:=cs) hm1 rfl hmd
  exact ⟨g',w',m',s',md,hext.trans a1,a2,a3,a4,.head hstep (Steps.trans x4 a5)⟩
def KH {P:Program} (F:Fr P) (rs:List RV) (Φ:Res→St→Prop) (dds:List DD):Prop :=
 ∃ an f df cs,cf P an f=some df∧rs=df.res∧F={ Zjc P an f df.n cs Φ with ds:=dds.map DD.def }
theorem St.sub_refl (s:St):s.sub s:=fun _ _ h=>h
def ZiG (ρ:Env) (L:Loc) (rs:List RV) (Φ:Res→St→Prop):Option D→St→Prop
 | none,s=>∃ p ds d s',K3 ρ L s rs=some (p,ds)∧p∧(JF ds).Le d∧s'.sub s∧Φ (.ret d) s'
 | some d,s=>∃ d' s',d.Le d'∧s'.sub s∧Φ (.panic d') s'
theorem Zlt {an:Ann} {f:FuncId} {df:DF} (hf:cf P an f=some df) {cs:List Frame} {Φ:Res→St→Prop} {g:G} {ν:Nat→Nat} {w:World} {fr:Frame} {ρ:Env} {L:Loc} {s:St} {m:Option D} {dds:List DD} (hfn:fr.fn=f) (hkind:fr.kind = .normal)
  (M:ZX g ν w fr.tmps ρ L s) (hd:fr.defers=dds.map DD.def) (hm:Za8 g w fr.mode m) (hu:Unw P dds m s (ZiG ρ L df.res Φ)):(ZgG P f cs Φ).T g w (lone fr cs w):=by
 obtain ⟨g',w',m',s',md,a1,a2,a3,a4,a5⟩:=Zgc dds hu (cs:=cs) M hd hm
 unfold cf at hf
 split at hf <;> (try (simp at hf; done))
 rename_i fn hfn'
 split at hf <;> (try (simp at hf; done))
 split at hf <;> (try (simp at hf; done))
 split at hf <;> simp at hf
 rename_i rs d' hrs hd'
 subst hf
 cases m' with
 | none =>
  obtain ⟨p,ds,d,s2,h1,h2,h3,h4,h5⟩:=a3
  obtain ⟨v,hv1,hv2⟩:=Zix a2 hrs h1 h2
  exact ⟨.returned v,w',_,a5,hfn,⟨a4,rfl,hkind,fn,by rw [← hfn'] ; exact congrArg _ hfn,hv1⟩,g',s2,.ret d,a1,a2.st.sub h4,h3 _ _ _ hv2,h5⟩
 | some d =>
  obtain ⟨d',s2,h1,h2,h3⟩:=a3
  obtain ⟨v,hv1,hv2⟩:=a4
  exact ⟨.panicked [{ v,recovered:=false }],w',_,a5,hfn,⟨hv1,rfl,fn,by rw [← hfn']; exact congrArg _ hfn⟩,g',s2,.panic d',a1,a2.st.sub h2,⟨v,rfl,h1 _ _ _ hv2⟩,h3⟩
theorem KH.retU {F:Fr P} {rs:List RV} {Φ:Res→St→Prop} {dds:List DD} (hF:KH F rs Φ dds) {dk:List ZR} {ρ:Env} {L:Loc} {s:St} (h:Unw P dds none s (ZiG ρ L rs Φ)):ZU F (.code .ret :: dk) ρ L s:=by
 obtain ⟨an,f,df,cs,hf,rfl,rfl⟩:=hF
 intro k hk
 cases hk with
 | code hc ht =>
  obtain rfl:=ZnU hc
  intro g ν w tmps hN m
  refine (ZgG P f cs Φ).back _ _ _ _ (.one (stepR_ret rfl)) ?_
  exact Zlt (m:=none) hf rfl rfl (dds:=dds) m rfl rfl h
theorem KH.finU {F:Fr P} {rs:List RV} {Φ:Res→St→Prop} {dds:List DD} (hF:KH F rs Φ dds) {ρ:Env} {L:Loc} {s:St} (h:Unw P dds none s (ZiG ρ L rs Φ)):ZU F [] ρ L s:=by
 obtain ⟨an,f,df,cs,hf,rfl,rfl⟩:=hF
 intro k hk
 cases hk
 intro g ν w tmps hN m
 refine (ZgG P f cs Φ).back _ _ _ _ (.one (stepR_end rfl)) ?_
 exact Zlt (m:=none) hf rfl rfl (dds:=dds) m rfl rfl h
theorem KH.panU {F:Fr P} {rs:List RV} {Φ:Res→St→Prop} {dds:List DD} (hF:KH F rs Φ dds) {ρ:Env} {L:Loc} {d:D} {s:St} (h:Unw P dds (some d) s (ZiG ρ L rs Φ)):K2 F ρ L d s:=by
 obtain ⟨an,f,df,cs,hf,rfl,rfl⟩:=hF
 intro g ν w v todo tmps hN m hr
 exact Zlt (m:=some d) hf rfl rfl (dds:=dds) m rfl ⟨v,rfl,hr⟩ h
theorem KH.ret {F:Fr P} {rs:List RV} {Φ:Res→St→Prop} (hF:KH F rs Φ []) {dk:List ZR} {ρ:Env} {L:Loc} {s:St} {p:Prop} {ds:List D} (d:D) (s':St) (h1:K3 ρ L s rs=some (p,ds)) (h2:p) (h3:(JF ds).Le d) (h4:s'.sub s) (h5:Φ (.ret d) s') :
  ZU F (.code .ret :: dk) ρ L s:=hF.retU ⟨p,ds,d,s',h1,h2,h3,h4,h5⟩
theorem KH.fin {F:Fr P} {rs:List RV} {Φ:Res→St→Prop} (hF:KH F rs Φ []) {ρ:Env} {L:Loc} {s:St} {p:Prop} {ds:List D} (d:D) (s':St) (h1:K3 ρ L s rs=some (p,ds)) (h2:p) (h3:(JF ds).Le d) (h4:s'.sub s) (h5:Φ (.ret d) s') :
  ZU F [] ρ L s:=hF.finU ⟨p,ds,d,s',h1,h2,h3,h4,h5⟩
theorem KH.pan {F:Fr P} {rs:List RV} {Φ:Res→St→Prop} (hF:KH F rs Φ []) {ρ:Env} {L:Loc} {d:D} {s:St} (s':St) (h1:s'.sub s) (h2:Φ (.panic d) s'):K2 F ρ L d s:=hF.panU ⟨d,s',D.Le.refl d,h1,h2⟩
theorem ZP {an:Ann} {f:FuncId} {df:DF} (hf:cf P an f=some df) {args:List D} {s:St} {Φ:Res→St→Prop}
  (h:∀ F:Fr P,KH F df.res Φ []→ZU F [.code df.body] (Zap 0 args) [] s):ZY P f args s Φ :=
 ZlR hf fun cs=>h _ ⟨an,f,df,cs,hf,rfl,rfl⟩
end
end Go.DL
namespace Go.DL
open Go
def Yk (P:Program) (f:FuncId) (args:List D) (d:D):Prop:=∀ s,ZY P f args s fun r s'=>r = .ret d∧s'=s
theorem YR {P:Program} {an:Ann} {f:FuncId} {df:DF} (hf:cf P an f=some df) {args:List D} {d:D}
  (h:∀ (F:Fr P) (s:St),(∀ {dk:List ZR} {ρ:Env} {L:Loc} {s':St} {p:Prop} {ds:List D},K3 ρ L s' df.res=some (p,ds)→p→(JF ds).Le d→s.sub s'→ZU F (.code .ret :: dk) ρ L s') →
   ZU F [.code df.body] (Zap 0 args) [] s):Yk P f args d :=
 fun s=>ZP hf fun F hF=>h F s fun h1 h2 h3 h4=>hF.ret d s h1 h2 h3 h4 ⟨rfl,rfl⟩
theorem YS {P:Program} {F:Fr P} {kp:Option (List Nat)} {dk:List ZR} {o:DOp} {os:List DOp} {ρ:Env} {L:Loc} {s:St} (hg:Yd ρ o.guard=some true) {fx:Opd} {xs:List Opd} (hk:o.k = .call fx xs)
  {p q:Prop} {f:FuncId} {first caps:List D} {es:List E} {ds:List D} (hf:YC ρ true fx=some (q,.d (.fn (.func f) first caps))) (ha:Kn ρ true xs=some (p,es)) (hds:Qn es=some ds) (hp:p) (hq:q)
  {d:D} (hc:Yk P f (first++ds++caps) d) (h:DO F kp dk os (YT ρ o.dst (.d d)) L s):DO F kp dk (o :: os) ρ L s :=
 Z6 hg hk hf ha hds hp hq (hc s) (fun d' s' ⟨h1,h2⟩=>by simp only [Res.ret.injEq] at h1; subst h1; subst h2; exact h) (fun d' s' ⟨h1,_⟩=>by simp at h1)
end Go.DL
namespace Go.DL
open Go
section
variable {P:Program}
theorem ZqU {F:Fr P} {kp:Option (List Nat)} {dk:List ZR} {os:List DOp} {ρ ρ':Env} {L:Loc} {s:St} (h:∀ g ν w tmps,ZX g ν w tmps ρ L s→ZX g ν w tmps ρ' L s) (h':DO F kp dk os ρ' L s) :
  DO F kp dk os ρ L s:=fun ops is k hops hk g ν w tmps hN m=>h' ops is k hops hk g ν w tmps hN (h g ν w tmps m)
theorem ZX.headWhen {g:G} {ν:Nat→Nat} {w:World} {tmps:Array Value} {ρ:Env} {L:Loc} {s:St} {dst:Option Nat} {e:E} (m:ZX g ν w tmps (YT ρ dst e) L s):ZX g ν w tmps (YT ρ dst (.when true e)) L s:=by
 cases dst with
 | none=>exact m
 | some t =>
  refine { m with env:=fun u x hx=>?_ }
  simp only [YT,Wh] at hx
  by_cases h:t=u
  ·simp only [h,if_true,Option.some.injEq] at hx
   subst hx
   exact ⟨fun _=>m.env u e (by simp [YT,Wh,h]),fun h=>by simp at h⟩
  ·simp only [h,if_false] at hx
   exact m.env u x (by simp [YT,Wh,h,hx])
theorem Zaj {F:Fr P} {kp:Option (List Nat)} {dk:List ZR} {o:DOp} {os:List DOp} {ρ:Env} {L:Loc} {s:St} (hg:Yd ρ o.guard=some false) {e:E}
  (h:DO F kp dk os (YT ρ o.dst (.when false e)) L s):DO F kp dk (o :: os) ρ L s:=by
 refine QD fun oo g ν w tmps ops i r k hoo hck hcg hdst hd hN m hr hkk=>?_
 exact Zbd (P:=P) hN m hoo hdst hd (Ky m hcg hg) (h ops r k hr hkk)
theorem JI {F:Fr P} {kp:Option (List Nat)} {dk:List ZR} {o:DOp} {os:List DOp} {ρ:Env} {L:Loc} {s:St} {c:Bool} (hg:Yd ρ o.guard=some c) {fx:Opd} {xs:List Opd} (hk:o.k = .call fx xs)
  {p q:Prop} {f:FuncId} {first caps:List D} {es:List E} {ds:List D} (hf:YC ρ c fx=some (q,.d (.fn (.func f) first caps))) (ha:Kn ρ c xs=some (p,es)) (hds:Qn es=some ds)
  {d:D} (hc:c=true→p∧q∧Yk P f (first++ds++caps) d) (h:DO F kp dk os (YT ρ o.dst (.when c (.d d))) L s):DO F kp dk (o :: os) ρ L s:=by
 cases c
 ·exact Zaj hg h
 ·obtain ⟨h1,h2,h3⟩:=hc rfl
  exact YS hg hk hf ha hds h1 h2 h3 (ZqU (fun g ν w tmps m=>m.headWhen) h)
theorem ZX.sub {g:G} {ν:Nat→Nat} {w:World} {tmps:Array Value} {ρ:Env} {L:Loc} {s s':St} (m:ZX g ν w tmps ρ L s) (hs:s'.sub s):ZX g ν w tmps ρ L s':={
 st:=m.st.sub hs
 loc:=m.loc
 locKept:=m.locKept
 locSt l cs hl:=by
  cases hx:s' (ν l) with
  | none=>rfl
  | some o=>have:=hs _ _ hx; rw [m.locSt l cs hl] at this; simp at this
 inj:=m.inj
 env:=m.env }
theorem Qy {F:Fr P} {dk:List ZR} {ρ:Env} {L:Loc} {s s':St} (hs:s'.sub s) (h:ZU F dk ρ L s'):ZU F dk ρ L s :=
 fun k hk g ν w tmps hN m=>h k hk g ν w tmps hN (m.sub hs)
end
end Go.DL
namespace Go.DL
open Go
inductive Sch (T:Tab):(Nat→Bool)→List Nat→Prop where
 | nil {l} (h:∀ i,i < T.length→l i=true):Sch T l []
 | cons {l i is} (hi:i < T.length) (hl:l i=false) (hd:∀ d∈T.deps i,l d=true) (t:Sch T (fun j=>j == i || l j) is):Sch T l (i :: is)
def Yu (ρ ρ':Env) (ns:List Nat):Prop:=∀ t∈ns,Wh ρ' t=Wh ρ t
theorem YX {ρ ρ':Env} {c:Bool} {x:Opd} (h:Yu ρ ρ' (WQ x)):YC ρ' c x=YC ρ c x:=by
 cases x with
 | cst d=>rfl
 | tmp t=>simp only [YC,h t (by simp [WQ])]
theorem QT {ρ ρ':Env} {c:Bool}:∀ {xs:List Opd},Yu ρ ρ' (ZbS xs)→Kn ρ' c xs=Kn ρ c xs
 | [],_=>rfl
 | x :: xs,h=>by
  have h1:Yu ρ ρ' (WQ x):=fun t ht=>h t (by simp [ZbS]; exact .inl ht)
  have h2:Yu ρ ρ' (ZbS xs):=fun t ht=>h t (by simp only [ZbS,List.flatMap_cons,List.mem_append]; exact .inr ht)
  simp only [Kn,YX h1,QT h2]
theorem Qz {ρ ρ':Env} {g:Option (Nat × Bool)} (h:Yu ρ ρ' (ZcI g)):Yd ρ' g=Yd ρ g:=by
 cases g with
 | none=>rfl
 | some x=>obtain ⟨t,w⟩:=x; simp only [Yd,h t (by simp [ZcI])]
theorem Zhs {ρ ρ':Env} {c:Bool} {x a b:Opd} (h:Yu ρ ρ' (WQ x++WQ a++WQ b)):Zd1 ρ' c x a b=Zd1 ρ c x a b:=by
 have h1:Yu ρ ρ' (WQ x):=fun t ht=>h t (by simp [ht])
 have h2:Yu ρ ρ' (WQ a):=fun t ht=>h t (by simp [ht])
 have h3:Yu ρ ρ' (WQ b):=fun t ht=>h t (by simp [ht])
 simp only [Zd1,YX h1]
 split
 ·rw [YX h2,YX h3]
 ·rfl
theorem Zks {L L':Loc} {s:St} {e:E} (h:∀ x o,e = .loc x o→ZI L' x=ZI L x):QA L' s e=QA L s e:=by
 cases e with
 | d v=>cases v <;> rfl
 | loc l o=>simp only [QA,h l o rfl]
 | when c e=>rfl
theorem Zkw {L L':Loc} {s:St} {n:Nat} {e:E} (h:∀ x o,e = .loc x o→ZI L' x=ZI L x):QM L' s n e=QM L s n e:=by
 cases e with
 | d v=>cases v <;> rfl
 | loc l o=>simp only [QM,h l o rfl]
 | when c e=>rfl
theorem Zle {L L':Loc} {s:St} {q:Q} {es:List E} (h:ZbX (.q q [])=true→∀ x o,.loc x o∈es→ZI L' x=ZI L x):qv L' s q es=qv L s q es:=by
 by_cases hl:ZbX (.q q [])=true
 ·replace h:=h hl
  cases q <;> simp [ZbX] at hl
  ·match es with
   | [a]=>simp only [qv,Zks (e:=a) fun x o ha=>h x o (by rw [ha]; exact List.mem_singleton_self _)]
   | []=>rfl
   | _ :: _ :: _=>rfl
  ·match es with
   | [a]=>simp only [qv,Zkw (e:=a) fun x o ha=>h x o (by rw [ha]; exact List.mem_singleton_self _)]
   | []=>rfl
   | _ :: _ :: _=>rfl
 ·clear h
  unfold qv
  split <;> first | rfl | (exfalso; exact hl rfl) | skip
def Ju:K→Bool
 | .q _ _ | .pick _ _ _ | .bsl _ _ _ _ _ | .s2b _=>true
 | _=>false
theorem Zl8 {o:DOp} {ρ ρ':Env} {L L':Loc} {s s1:St} {side:Prop} {ρ1:Env} {L1:Loc} (hst:YK o ρ L s = .ok side ρ1 L1 s1) (hs:side) (hgt:Yd ρ o.guard=some true) (hk:Ju o.k=true) (ha:Yu ρ ρ' (Yo o))
  (hl:ZbX o.k=true→∀ q xs p es,o.k = .q q xs→Kn ρ true xs=some (p,es)→p→∀ x o,.loc x o∈es→ZI L' x=ZI L x):∃ e,ρ1=YT ρ o.dst e∧L1=L∧s1=s∧YK o ρ' L' s = .ok side (YT ρ' o.dst e) L' s:=by
 obtain ⟨dst,gd,k⟩:=o
 have hg:=Qz (g:=gd) (fun t ht=>ha t (by simp [Yo,ht]))
 have hn:Yu ρ ρ' (Kj k):=fun t ht=>ha t (by simp [Yo,ht])
 simp only at hgt
 unfold YK at hst ⊢
 simp only [hg,hgt] at hst ⊢
 cases k with
 | q q xs =>
  simp only at hst ⊢
  rw [QT hn]
  split at hst <;> (try (simp at hst; done))
  rename_i p es hes
  try simp only [hes]
  split at hst <;> (try (simp at hst; done))
  rename_i sd e hq
  have hp:p:=by
   split at hst <;> (simp only [SR.ok.injEq] at hst; obtain ⟨rfl,-,-,-⟩:=hst)
   ·exact hs.1
   ·exact (hs trivial).1
  have hqc:qv L' s q es=qv L s q es:=Zle fun hld=>hl (by cases q <;> simp_all [ZbX]) q xs p es rfl hes hp
  simp only [hqc,hq]
  split at hst <;> (simp only [SR.ok.injEq] at hst; obtain ⟨rfl,rfl,rfl,rfl⟩:=hst)
  ·exact ⟨e,rfl,rfl,rfl,rfl⟩
  ·exact ⟨_,rfl,rfl,rfl,rfl⟩
 | pick x a b =>
  simp only at hst ⊢
  rw [Zhs hn]
  split at hst <;> (try (simp at hst; done))
  rename_i p v hp
  try simp only [hp]
  split at hst <;> (simp only [SR.ok.injEq] at hst; obtain ⟨rfl,rfl,rfl,rfl⟩:=hst)
  ·exact ⟨_,rfl,rfl,rfl,rfl⟩
  ·exact ⟨_,rfl,rfl,rfl,rfl⟩
 | bsl len n z is xs =>
  simp only at hst ⊢
  rw [QT hn]
  split at hst <;> (try (simp at hst; done))
  rename_i p es hes
  try simp only [hes]
  split at hst <;> (try (simp at hst; done))
  rename_i ds hds
  try simp only [hds]
  split at hst <;> (simp only [SR.ok.injEq] at hst; obtain ⟨rfl,rfl,rfl,rfl⟩:=hst)
  ·exact ⟨_,rfl,rfl,rfl,rfl⟩
  ·exact ⟨_,rfl,rfl,rfl,rfl⟩
 | s2b x =>
  simp only at hst ⊢
  rw [YX hn]
  split at hst <;> (try (simp at hst; done))
  rename_i p l hl
  try simp only [hl]
  split at hst <;> (simp only [SR.ok.injEq] at hst; obtain ⟨rfl,rfl,rfl,rfl⟩:=hst)
  ·exact ⟨_,rfl,rfl,rfl,rfl⟩
  ·exact ⟨_,rfl,rfl,rfl,rfl⟩
 | _=>simp [Ju] at hk
theorem Zmd {o:DOp} {ρ:Env} {L:Loc} {s s1:St} {side:Prop} {ρ1:Env} {L1:Loc} (hst:YK o ρ L s = .ok side ρ1 L1 s1) (hgt:Yd ρ o.guard=some false) (hk:Ju o.k=true):∃ e,ρ1=YT ρ o.dst (.when false e)∧L1=L∧s1=s:=by
 obtain ⟨dst,gd,k⟩:=o
 have hgn:∃ x,gd=some x:=by
  cases gd with
  | none=>simp [Yd] at hgt
  | some x=>exact ⟨x,rfl⟩
 obtain ⟨x,rfl⟩:=hgn
 simp only at hgt
 unfold YK at hst
 simp only [hgt] at hst
 cases k with
 | q q xs =>
  simp only at hst
  split at hst <;> (try (simp at hst; done))
  split at hst <;> (try (simp at hst; done))
  simp only [SR.ok.injEq] at hst; obtain ⟨rfl,rfl,rfl,rfl⟩:=hst
  exact ⟨_,rfl,rfl,rfl⟩
 | pick x a b =>
  simp only at hst
  split at hst <;> (try (simp at hst; done))
  simp only [SR.ok.injEq] at hst; obtain ⟨rfl,rfl,rfl,rfl⟩:=hst
  exact ⟨_,rfl,rfl,rfl⟩
 | bsl len n z is xs =>
  simp only at hst
  split at hst <;> (try (simp at hst; done))
  split at hst <;> (try (simp at hst; done))
  simp only [SR.ok.injEq] at hst; obtain ⟨rfl,rfl,rfl,rfl⟩:=hst
  exact ⟨_,rfl,rfl,rfl⟩
 | s2b x =>
  simp only at hst
  split at hst <;> (try (simp at hst; done))
  simp only [SR.ok.injEq] at hst; obtain ⟨rfl,rfl,rfl,rfl⟩:=hst
  exact ⟨_,rfl,rfl,rfl⟩
 | _=>simp [Ju] at hk
theorem Ze8 {s s':St} {L L':Loc}:∀ {B:List Rd},QG s s' L L' B→(∀ b,.blk b∈B→s' b=s b)∧(∀ l,.loc l∈B→ZI L' l=ZI L l)
 | [],_=>⟨fun b h=>by simp at h,fun b h=>by simp at h⟩
 | .blk c :: B,h=>by
  obtain ⟨h1,h2⟩:=Ze8 h.2
  refine ⟨fun b hb=>?_,fun l hl=>h2 l (by simpa using hl)⟩
  rcases List.mem_cons.1 hb with hb | hb
  ·simp only [Rd.blk.injEq] at hb; subst hb; exact h.1
  ·exact h1 b hb
 | .loc c :: B,h=>by
  obtain ⟨h1,h2⟩:=Ze8 h.2
  refine ⟨fun b hb=>h1 b (by simpa using hb),fun l hl=>?_⟩
  rcases List.mem_cons.1 hl with hl | hl
  ·simp only [Rd.loc.injEq] at hl; subst hl; exact h.1
  ·exact h2 l hl
theorem Zef (s:St) (L:Loc):∀ B,QG s s L L B
 | []=>trivial
 | .blk _ :: B=>⟨rfl,Zef s L B⟩
 | .loc _ :: B=>⟨rfl,Zef s L B⟩
theorem Zcx (fl:Bool) (s:St) (L:Loc) (B:List Rd):KO fl s s L L B:=by
 unfold KO; split
 ·exact Zef s L B
 ·trivial
theorem ZfB {o:DOp} {ρ ρ':Env} (h:Yu ρ ρ' (Yo o)):KI o ρ'=KI o ρ:=by
 obtain ⟨dst,gd,k⟩:=o
 have hg:=Qz (g:=gd) (fun t ht=>h t (by simp [Yo,ht]))
 cases k with
 | q q xs =>
  have hn:Yu ρ ρ' (ZbS xs):=fun t ht=>h t (by simp [Yo,Kj,ht])
  simp only [KI,hg]
  split
  ·cases Yd ρ gd with
   | none=>rfl
   | some c=>simp only [QT hn]
  ·rfl
 | _=>rfl
theorem ZoN {L:Loc} {s s':St} {q:Q} {es:List E} (h:QE (.q q [])=true→∀ e r,es=e :: r→∀ b,.blk b∈JW e→s' b=s b):qv L s' q es=qv L s q es:=by
 by_cases hl:QE (.q q [])=true
 ·replace h:=h hl
  match es with
  | []=>cases q <;> simp [QE] at hl <;> rfl
  | e :: r =>
   replace h:=h e r rfl
   have hc:∀ b o,e = .d (.ptr b o)→Jg s' b=Jg s b:=fun b o he=>by subst he; simp only [Jg,h b (by simp [JW])]
   have hm:∀ b,e = .d (.map b)→JQ s' b=JQ s b:=fun b he=>by subst he; simp only [JQ,h b (by simp [JW])]
   cases q <;> simp [QE] at hl
   ·cases r with
    | nil =>
     simp only [qv]
     congr 1
     cases e with
     | d v=>cases v <;> first | rfl | (simp only [QA]; rw [hc _ _ rfl])
     | _=>rfl
    | cons=>rfl
   ·cases r with
    | nil =>
     simp only [qv]
     congr 1
     cases e with
     | d v=>cases v <;> first | rfl | (simp only [QM]; rw [hc _ _ rfl])
     | _=>rfl
    | cons=>rfl
   ·match r with
    | [] =>
     cases e with
     | d v=>cases v <;> rfl
     | _=>rfl
    | [e2] =>
     cases e with
     | d v =>
      cases e2 with
      | d v2=>cases v <;> first | rfl | (simp only [qv]; rw [hm _ rfl])
      | _=>cases v <;> rfl
     | _=>cases e2 <;> rfl
    | e2 :: _ :: _ =>
     cases e with
     | d v=>cases v <;> (cases e2 <;> rfl)
     | _=>cases e2 <;> rfl
   ·cases r with
    | nil =>
     cases e with
     | d v=>cases v <;> first | rfl | (simp only [qv]; rw [hm _ rfl])
     | _=>rfl
    | cons =>
     cases e with
     | d v=>cases v <;> rfl
     | _=>rfl
 ·clear h
  cases q <;> first | (simp [QE] at hl; done) | (unfold qv; rfl) | (unfold qv; split <;> first | rfl | (rename_i hx; cases hx))
theorem Zmf {o:DOp} {ρ:Env} {L:Loc} {s s':St} {side:Prop} {ρ1:Env} (hst:YK o ρ L s = .ok side ρ1 L s) (hk:Ju o.k=true) (h:∀ b,.blk b∈KI o ρ→s' b=s b):YK o ρ L s' = .ok side ρ1 L s':=by
 obtain ⟨dst,gd,k⟩:=o
 unfold YK at hst ⊢
 cases hg:Yd ρ gd with
 | none=>simp [hg] at hst
 | some c =>
 simp only [hg] at hst ⊢
 cases k with
 | q q xs =>
  simp only at hst ⊢
  split at hst <;> (try (simp at hst; done))
  rename_i p es hes
  have hqc:qv L s' q es=qv L s q es:=ZoN fun hl e r he b hb=>h b (by
   subst he
   have hl':QE (.q q xs)=true:=by cases q <;> simp_all [QE]
   simp only [KI,hl',if_true,hg,hes]; exact hb)
  simp only [hqc]
  split at hst <;> (try (simp at hst; done))
  split at hst <;> (simp only [SR.ok.injEq] at hst; obtain ⟨rfl,rfl,-,-⟩:=hst; rfl)
 | pick x a b =>
  simp only at hst ⊢
  split at hst <;> (try (simp at hst; done))
  split at hst <;> (simp only [SR.ok.injEq] at hst; obtain ⟨rfl,rfl,-,-⟩:=hst; rfl)
 | bsl len n z is xs =>
  simp only at hst ⊢
  split at hst <;> (try (simp at hst; done))
  split at hst <;> (try (simp at hst; done))
  split at hst <;> (simp only [SR.ok.injEq] at hst; obtain ⟨rfl,rfl,-,-⟩:=hst; rfl)
 | s2b x =>
  simp only at hst ⊢
  split at hst <;> (try (simp at hst; done))
  split at hst <;> (simp only [SR.ok.injEq] at hst; obtain ⟨rfl,rfl,-,-⟩:=hst; rfl)
 | _=>simp [Ju] at hk
def ZcU (o:DOp) (x:Nat):Prop:=o.dst=some x∧∃ z,o.k = .alloc z
def Qf (o:DOp) (ρ:Env) (L:Loc) (s:St) (B:List Rd):Prop :=
 (Ju o.k=true∧(∀ b∈KI o ρ,b∈B)∧∃ side e,side∧YK o ρ L s = .ok side (YT ρ o.dst e) L s∧∀ t,o.dst=some t→Wh ρ t=some e) ∨
 (∃ t z,o=⟨some t,none,.alloc z⟩∧Wh ρ t=some (.loc t 0)∧ZI L t=some z)
structure Inv (T:Tab) (ms:List Nat) (A rest:List Nat) (ρ:Env) (L:Loc) (s:St) (B:List Rd) (l:Nat→Bool) (ρ':Env) (L':Loc):Prop where
 closed:∀ i,i < T.length→l i=true→∀ d∈T.deps i,l d=true
 restN:∀ r∈rest,l r=false
 doneN:∀ i,i < T.length→i ∉ rest→i ∉ A→l i=true
 alt:∀ a∈A,a < T.length
 pair:∀ p∈A,∀ a∈A,(ms.getD p 0).testBit a=true∨nd (T.op a).dst (Yo (T.op p))=true
 uniq:∀ p∈A,∀ a∈A,p≠a→ndd (T.op p).dst (T.op a).dst=true
 env:∀ t,Wh ρ' t=Wh ρ t∨∃ a∈A,l a=false∧(T.op a).dst=some t
 loc0:∀ a∈A,l a=false→∀ x,ZcU (T.op a) x→ZI L' x=none
 loc:∀ x,ZI L' x=ZI L x∨∃ a∈A,l a=false∧ZcU (T.op a) x
 pend:∀ a∈A,l a=false→Qf (T.op a) ρ L s B
def Zgm (T:Tab) (ms:List Nat):Prop :=
 ∀ (l:Nat→Bool),(∀ i,i < T.length→l i=true→∀ d∈T.deps i,l d=true)→∀ i,i < T.length→(∀ d∈T.deps i,l d=true)→∀ a,(ms.getD i 0).testBit a=true→l a=true
theorem Qf.state {o:DOp} {ρ:Env} {L:Loc} {s s':St} {B:List Rd} (h:Qf o ρ L s B) (hB:∀ b,.blk b∈KI o ρ→s' b=s b):Qf o ρ L s' B:=by
 rcases h with ⟨hk,hr,side,e,hs,hst,he⟩ | h
 ·exact .inl ⟨hk,hr,side,e,hs,Zmf hst hk hB,he⟩
 ·exact .inr h
theorem Qf.more {o:DOp} {ρ:Env} {L:Loc} {s:St} {B B':List Rd} (h:Qf o ρ L s B) (hB:∀ b∈KI o ρ,b∈B→b∈B'):Qf o ρ L s B':=by
 rcases h with ⟨hk,hr,h⟩ | h
 ·exact .inl ⟨hk,fun b hb=>hB b hb (hr b hb),h⟩
 ·exact .inr h
theorem Zl4 {o:DOp} {ρ:Env} (h:QE o.k=false):KI o ρ=[]:=by
 obtain ⟨dst,gd,k⟩:=o
 cases k <;> simp only [KI]
 rename_i q xs
 simp only at h
 simp [h]
section
variable {P:Program}
theorem Zj0 {F:Fr P} {kp:Option (List Nat)} {dk:List ZR} {os:List DOp} {ρ:Env} {L:Loc} {s:St} (h:∀ g ν w tmps,ZX g ν w tmps ρ L s→DO F kp dk os ρ L s):DO F kp dk os ρ L s :=
 fun ops is k hops hk g ν w tmps hN m=>h g ν w tmps m ops is k hops hk g ν w tmps hN m
theorem Zh7 {g:G} {ν:Nat→Nat} {w:World} {tmps:Array Value} {ρ:Env} {L:Loc} {s:St} (m:ZX g ν w tmps ρ L s):∀ {xs:List Opd} {p:Prop} {es:List E},Kn ρ true xs=some (p,es)→p→∀ x o,.loc x o∈es→∃ cs,ZI L x=some cs
 | [],p,es,h,_,x,o,hx=>by simp only [Kn,Option.some.injEq,Prod.mk.injEq] at h; obtain ⟨_,rfl⟩:=h; simp at hx
 | y :: ys,p,es,h,hp,x,o,hx=>by
  simp only [Kn] at h
  split at h <;> simp only [Option.some.injEq,Prod.mk.injEq,reduceCtorEq] at h
  rename_i p1 e1 p2 es' h1 h2
  obtain ⟨rfl,rfl⟩:=h
  rcases List.mem_cons.1 hx with hx | hx
  ·subst hx
   cases y with
   | cst d=>simp [YC] at h1
   | tmp t =>
    simp only [YC] at h1
    split at h1
    ·rename_i c' e' he
     simp only [Option.some.injEq,Prod.mk.injEq] at h1
     obtain ⟨rfl,rfl⟩:=h1
     exact ((m.env t _ he).1 (by simpa using hp.1)).1
    ·rename_i e' _ he
     simp only [Option.some.injEq,Prod.mk.injEq] at h1
     obtain ⟨rfl,rfl⟩:=h1
     exact (m.env t _ he).1
    ·simp at h1
  ·exact Zh7 m h2 hp.2 x o hx
theorem Zmz {F:Fr P} {kp:Option (List Nat)} {dk:List ZR} {o:DOp} {os:List DOp} {ρ ρ':Env} {L L':Loc} {s:St} {side:Prop} {e:E} (hst:YK o ρ L s = .ok side (YT ρ o.dst e) L s) (hs:side) (hk:Ju o.k=true)
  (ha:Yu ρ ρ' (Yo o)) (hl:∀ x,ZI L' x=ZI L x∨ZI L' x=none) (h:DO F kp dk os (YT ρ' o.dst e) L' s):DO F kp dk (o :: os) ρ' L' s:=by
 have hput:∀ e',YT ρ o.dst e=YT ρ o.dst e'→YT ρ' o.dst e=YT ρ' o.dst e':=fun e' h=>by
  cases hd:o.dst with
  | none=>rfl
  | some t=>simp only [hd,YT,List.cons.injEq,Prod.mk.injEq,true_and,and_true] at h; rw [h]
 have hg:=Qz (g:=o.guard) (fun t ht=>ha t (by simp [Yo,ht]))
 cases hc:Yd ρ o.guard with
 | none=>unfold YK at hst; simp [hc] at hst
 | some c =>
  cases c
  ·obtain ⟨e',h1,-,-⟩:=Zmd hst hc hk
   rw [hput _ h1] at h
   exact Zaj (by rw [hg,hc]) h
  ·refine Zj0 fun g ν w tmps m=>?_
   obtain ⟨e',h1,-,-,h2⟩:=Zl8 (ρ':=ρ') (L':=L') hst hs hc hk ha (fun hld q xs p es hkq hes hp x of hx=>by
    have hn:Yu ρ ρ' (ZbS xs):=fun t ht=>ha t (by simp [Yo,hkq,Kj,ht])
    obtain ⟨cs,hcs⟩:=Zh7 m (by rw [QT hn]; exact hes) hp x of hx
    rcases hl x with h | h
    ·exact h
    ·rw [h] at hcs; simp at hcs)
   rw [hput _ h1] at h
   exact Zdh h2 hs h
end
end Go.DL
namespace Go.DL
open Go
theorem ZhR {a b:Option Nat} (h:ndd a b=true):ndd b a=true:=by
 cases a <;> cases b <;> simp only [ndd,bne_iff_ne,ne_eq] at h ⊢
 exact fun h'=>h h'.symm
theorem ZfM {a b:Option Nat} (h:ndd a b=true) {t:Nat} (ha:a=some t):b≠some t:=by
 subst ha
 cases b with
 | none=>simp
 | some u=>simp only [ndd,bne_iff_ne] at h; intro hb; simp only [Option.some.injEq] at hb; exact h hb.symm
theorem ZiA {d:Option Nat} {l:List Nat} (h:nd d l=true) {t:Nat} (ht:d=some t):t ∉ l:=by
 subst ht; simpa [nd] using h
theorem Zbn {ρ:Env} {dst:Option Nat} {e:E} {ns:List Nat} (h:nd dst ns=true):Yu ρ (YT ρ dst e) ns:=by
 intro t ht
 cases dst with
 | none=>rfl
 | some u =>
  have:¬ u=t:=fun hu=>ZiA h rfl (hu ▸ ht)
  simp [YT,Wh,this]
theorem Zbk (ρ:Env) (dst:Option Nat) (e:E) (t:Nat):Wh (YT ρ dst e) t=if dst=some t then some e else Wh ρ t:=by
 cases dst with
 | none=>simp [YT]
 | some u=>simp [YT,Wh]
theorem Zp7 {L:Loc} {s:St} {q:Q} {es:List E} {r:Prop × E} (hq:qv L s q es=some r) (hl:ZbX (.q q [])=true) {x o:Nat} (hx:.loc x o∈es):∃ cs,ZI L x=some cs:=by
 cases q <;> simp [ZbX] at hl
 ·match es with
  | [a] =>
   simp only [List.mem_singleton] at hx
   subst hx
   simp only [qv,QA] at hq
   cases h:ZI L x with
   | none=>simp [h] at hq
   | some cs=>exact ⟨cs,rfl⟩
  | []=>simp at hx
  | _ :: _ :: _=>simp [qv] at hq
 ·match es with
  | [a] =>
   simp only [List.mem_singleton] at hx
   subst hx
   simp only [qv,QM] at hq
   cases h:ZI L x with
   | none=>simp [h] at hq
   | some cs=>exact ⟨cs,rfl⟩
  | []=>simp at hx
  | _ :: _ :: _=>simp [qv] at hq
theorem Zfa {o:DOp} {ρ ρ':Env} {L L':Loc} {s s1:St} {side:Prop} {ρ1:Env} {L1:Loc} (hst:YK o ρ L s = .ok side ρ1 L1 s1) (hk:Ju o.k=true) (ha:Yu ρ ρ' (Yo o))
  (hl:∀ x,.loc x∈KI o ρ→ZI L' x=ZI L x):∃ e,ρ1=YT ρ o.dst e∧L1=L∧s1=s∧YK o ρ' L' s = .ok side (YT ρ' o.dst e) L' s:=by
 obtain ⟨dst,gd,k⟩:=o
 have hg:=Qz (g:=gd) (fun t ht=>ha t (by simp [Yo,ht]))
 have hn:Yu ρ ρ' (Kj k):=fun t ht=>ha t (by simp [Yo,ht])
 unfold YK at hst ⊢
 simp only [hg] at hst ⊢
 cases hc:Yd ρ gd with
 | none=>simp [hc] at hst
 | some c =>
 simp only [hc] at hst ⊢
 cases k with
 | q q xs =>
  simp only at hst ⊢
  rw [QT hn]
  split at hst <;> (try (simp at hst; done))
  rename_i p es hes
  try simp only [hes]
  split at hst <;> (try (simp at hst; done))
  rename_i sd e hq
  have hqc:qv L' s q es=qv L s q es:=Zle fun hld x of hx=>by
   refine hl x ?_
   have hrd:QE (.q q xs)=true:=by cases q <;> simp_all [ZbX,QE]
   have hes1:es=[.loc x of]:=by
    have hq':∃ r,qv L s q es=some r:=⟨_,hq⟩
    cases q <;> simp [ZbX] at hld
    ·match es with
     | [a]=>simp only [List.mem_singleton] at hx; rw [hx]
     | []=>simp at hx
     | _ :: _ :: _=>simp [qv] at hq'
    ·match es with
     | [a]=>simp only [List.mem_singleton] at hx; rw [hx]
     | []=>simp at hx
     | _ :: _ :: _=>simp [qv] at hq'
   subst hes1
   simp only [KI,hrd,if_true,hc,hes,JW,List.mem_singleton]
  simp only [hqc,hq]
  split at hst <;> (simp only [SR.ok.injEq] at hst; obtain ⟨rfl,rfl,rfl,rfl⟩:=hst)
  ·exact ⟨e,rfl,rfl,rfl,rfl⟩
  ·exact ⟨_,rfl,rfl,rfl,rfl⟩
 | pick x a b =>
  simp only at hst ⊢
  rw [Zhs hn]
  split at hst <;> (try (simp at hst; done))
  rename_i p v hp
  try simp only [hp]
  split at hst <;> (simp only [SR.ok.injEq] at hst; obtain ⟨rfl,rfl,rfl,rfl⟩:=hst)
  ·exact ⟨_,rfl,rfl,rfl,rfl⟩
  ·exact ⟨_,rfl,rfl,rfl,rfl⟩
 | bsl len n z is xs =>
  simp only at hst ⊢
  rw [QT hn]
  split at hst <;> (try (simp at hst; done))
  rename_i p es hes
  try simp only [hes]
  split at hst <;> (try (simp at hst; done))
  rename_i ds hds
  try simp only [hds]
  split at hst <;> (simp only [SR.ok.injEq] at hst; obtain ⟨rfl,rfl,rfl,rfl⟩:=hst)
  ·exact ⟨_,rfl,rfl,rfl,rfl⟩
  ·exact ⟨_,rfl,rfl,rfl,rfl⟩
 | s2b x =>
  simp only at hst ⊢
  rw [YX hn]
  split at hst <;> (try (simp at hst; done))
  rename_i p l hl
  try simp only [hl]
  split at hst <;> (simp only [SR.ok.injEq] at hst; obtain ⟨rfl,rfl,rfl,rfl⟩:=hst)
  ·exact ⟨_,rfl,rfl,rfl,rfl⟩
  ·exact ⟨_,rfl,rfl,rfl,rfl⟩
 | _=>simp [Ju] at hk
theorem Qf.mono {o:DOp} {ρ ρ1:Env} {L L1:Loc} {s:St} {B:List Rd} (h:Qf o ρ L s B) (ha:Yu ρ ρ1 (Yo o)) (hd:∀ t,o.dst=some t→Wh ρ1 t=Wh ρ t)
  (hl:∀ x,.loc x∈KI o ρ→ZI L1 x=ZI L x) (hal:∀ t,ZcU o t→ZI L1 t=ZI L t):Qf o ρ1 L1 s B:=by
 rcases h with ⟨hk,hrd,side,e,hs,hst,he⟩ | ⟨t,z,rfl,h1,h2⟩
 ·left
  obtain ⟨e',h1,-,-,h2⟩:=Zfa hst hk ha hl
  refine ⟨hk,by rw [ZfB ha]; exact hrd,side,e',hs,h2,fun t ht=>?_⟩
  rw [hd t ht,he t ht]
  rw [ht] at h1
  simp only [YT,List.cons.injEq,Prod.mk.injEq,true_and,and_true] at h1
  rw [h1]
 ·right
  exact ⟨t,z,rfl,by rw [hd t rfl]; exact h1,by rw [hal t ⟨rfl,z,rfl⟩]; exact h2⟩
theorem Zgl {o:DOp} {x:Nat} (h:ZcU o x):Ju o.k=false:=by
 obtain ⟨_,z,hz⟩:=h; rw [hz]; rfl
section
variable {P:Program}
theorem ZjY {F:Fr P} {kp:Option (List Nat)} {dk:List ZR} {T:Tab} {ms:List Nat} {A rest:List Nat} {ρ:Env} {L:Loc} {l:Nat→Bool} {ρ':Env} {L':Loc} {s:St} {B:List Rd} {p:Nat} {os:List DOp}
  (hm:Zgm T ms) (inv:Inv T ms A rest ρ L s B l ρ' L') (hA:p∈A) (hdis:p ∉ rest) (hl:l p=false) (hdeps:∀ d∈T.deps p,l d=true)
  (h:∀ ρ2 L2,Inv T ms A rest ρ L s B (fun j=>j == p || l j) ρ2 L2→DO F kp dk os ρ2 L2 s):DO F kp dk (T.op p :: os) ρ' L' s:=by
 have hpn:=inv.alt p hA
 have hforced:=hm l inv.closed p hpn hdeps
 have hag:Yu ρ ρ' (Yo (T.op p)):=by
  intro t ht
  rcases inv.env t with h | ⟨a,ha,hla,hda⟩
  ·exact h
  ·exfalso
   rcases inv.pair p hA a ha with hb | hb
   ·rw [hforced a hb] at hla; simp at hla
   ·exact ZiA hb hda ht
 have hloc:∀ x,ZI L' x=ZI L x∨ZI L' x=none:=fun x=>by
  rcases inv.loc x with h | ⟨a,ha,hla,hx⟩
  ·exact .inl h
  ·exact .inr (inv.loc0 a ha hla x hx)
 have hclosed:∀ i,i < T.length→(i == p || l i)=true→∀ d∈T.deps i,(d == p || l d)=true:=fun i hi hli d hd=>by
  simp only [Bool.or_eq_true,beq_iff_eq] at hli ⊢
  rcases hli with rfl | hli
  ·exact .inr (hdeps d hd)
  ·exact .inr (inv.closed i hi hli d hd)
 have hrestN:∀ r∈rest,(r == p || l r)=false:=fun r hr=>by
  simp only [Bool.or_eq_false_iff,beq_eq_false_iff_ne]
  exact ⟨fun h=>hdis (h ▸ hr),inv.restN r hr⟩
 have hdone:∀ i,i < T.length→i ∉ rest→i ∉ A→(i == p || l i)=true:=fun i hi h1 h2=>by simp [inv.doneN i hi h1 h2]
 have hl2:∀ a,(a == p || l a)=false→a≠p∧l a=false:=fun a ha=>by simpa using ha
 have hl2':∀ a,a≠p→l a=false→(a == p || l a)=false:=fun a ha h=>by simp [ha,h]
 rcases inv.pend p hA hl with ⟨hk,hrd,side,e,hs,hst,he⟩ | ⟨t,z,ho,h1,h2⟩
 ·refine Zmz hst hs hk hag hloc (h _ _ ?_)
  refine ⟨hclosed,hrestN,hdone,inv.alt,inv.pair,inv.uniq,fun t=>?_,fun a ha hla x hx=>inv.loc0 a ha (hl2 a hla).2 x hx,fun x=>?_,fun a ha hla=>inv.pend a ha (hl2 a hla).2⟩
  ·rw [Zbk]
   by_cases hd:(T.op p).dst=some t
   ·rw [if_pos hd]; exact .inl (he t hd).symm
   ·rw [if_neg hd]
    rcases inv.env t with h | ⟨a,ha,hla,hda⟩
    ·exact .inl h
    ·exact .inr ⟨a,ha,hl2' a (fun hap=>hd (hap ▸ hda)) hla,hda⟩
  ·rcases inv.loc x with h | ⟨a,ha,hla,hx⟩
   ·exact .inl h
   ·refine .inr ⟨a,ha,hl2' a (fun hap=>?_) hla,hx⟩
    have:=Zgl hx
    rw [hap,hk] at this; simp at this
 ·have hal:ZcU (T.op p) t:=⟨by rw [ho],z,by rw [ho]⟩
  have hnone:=inv.loc0 p hA hl t hal
  refine ZkM (o:=T.op p) (t:=t) (by rw [ho]) (by rw [ho]) (z:=z) (by rw [ho]) (by simp [Zel,hnone]) (h _ _ ?_)
  have hdp:(T.op p).dst=some t:=by rw [ho]
  refine ⟨hclosed,hrestN,hdone,inv.alt,inv.pair,inv.uniq,fun u=>?_,fun a ha hla x hx=>?_,fun x=>?_,fun a ha hla=>inv.pend a ha (hl2 a hla).2⟩
  ·simp only [Wh]
   by_cases hd:t=u
   ·subst hd; simp [h1]
   ·simp only [hd,if_false]
    rcases inv.env u with h | ⟨a,ha,hla,hda⟩
    ·exact .inl h
    ·exact .inr ⟨a,ha,hl2' a (fun hap=>hd (by rw [hap,hdp] at hda; simpa using hda)) hla,hda⟩
  ·obtain ⟨hap,hla⟩:=hl2 a hla
   have:¬ t=x:=fun htx=>ZfM (inv.uniq p hA a ha hap.symm) hdp (htx ▸ hx.1)
   simp only [ZI,this,if_false]
   exact inv.loc0 a ha hla x hx
  ·simp only [ZI]
   by_cases hd:t=x
   ·subst hd; simp [h2]
   ·simp only [hd,if_false]
    rcases inv.loc x with h | ⟨a,ha,hla,hx⟩
    ·exact .inl h
    ·exact .inr ⟨a,ha,hl2' a (fun hap=>hd (by have:=hx.1; rw [hap,hdp] at this; simpa using this)) hla,hx⟩
theorem ZpC {F:Fr P} {kp:Option (List Nat)} {dk:List ZR} {T:Tab} {ms:List Nat} {A rest:List Nat} {ρ:Env} {L:Loc} {s:St} {B:List Rd} {i:Nat}
  (hm:Zgm T ms) (hi:i < T.length) (hdis:∀ p∈A,p ∉ i :: rest) (hready:∀ r∈rest,∃ d∈T.deps r,d∈i :: rest)
  (cb:∀ l ρ' L' is,Inv T ms A (i :: rest) ρ L s B l ρ' L'→(∀ d∈T.deps i,l d=true)→Sch T (fun j=>j == i || l j) is→DO F kp dk (T.op i :: is.map T.op) ρ' L' s)
  {l:Nat→Bool} {is:List Nat} (sch:Sch T l is):∀ {ρ':Env} {L':Loc},Inv T ms A (i :: rest) ρ L s B l ρ' L'→DO F kp dk (is.map T.op) ρ' L' s:=by
 induction sch with
 | nil h=>intro ρ' L' inv; have:=inv.restN i (by simp); rw [h i hi] at this; simp at this
 | @cons l p is hp hlp hd t ih =>
  intro ρ' L' inv
  by_cases hpi:p=i
  ·subst hpi; exact cb l ρ' L' is inv hd t
  ·by_cases hpr:p∈rest
   ·obtain ⟨d,hd1,hd2⟩:=hready p hpr
    have:=inv.restN d hd2
    rw [hd d hd1] at this; simp at this
   ·by_cases hpA:p∈A
    ·exact ZjY hm inv hpA (hdis p hpA) hlp hd fun ρ2 L2 inv2=>ih inv2
    ·have:=inv.doneN p hp (by simp [hpi,hpr]) hpA
     rw [hlp] at this; simp at this
theorem Zhv {L L':Loc} (h:∀ x,ZI L' x=ZI L x):∀ ls,Zar L' ls=Zar L ls
 | []=>rfl
 | l :: ls=>by simp only [Zar,h l,Zhv h ls]
theorem Zhx {ρ ρ':Env} (h:∀ x,Wh ρ' x=Wh ρ x):∀ ks,KV ρ' ks=KV ρ ks
 | []=>rfl
 | k :: ks=>by simp only [KV,h k,Zhx h ks]
theorem ZnR {F:Fr P} {ks:List Nat} {dk:List ZR} {T:Tab} {ms:List Nat} {A:List Nat} {ρ:Env} {L:Loc} {s:St} {B:List Rd} (hm:Zgm T ms)
  (h:ZU F dk (KV ρ ks) (Zb4 (KV ρ ks) L) s) {l:Nat→Bool} {is:List Nat} (sch:Sch T l is):∀ {ρ':Env} {L':Loc},Inv T ms A [] ρ L s B l ρ' L'→DO F (some ks) dk (is.map T.op) ρ' L' s:=by
 induction sch with
 | nil hall =>
  intro ρ' L' inv
  have h1:∀ t,Wh ρ' t=Wh ρ t:=fun t=>by
   rcases inv.env t with h | ⟨a,ha,hla,_⟩
   ·exact h
   ·rw [hall a (inv.alt a ha)] at hla; simp at hla
  have h2:∀ t,ZI L' t=ZI L t:=fun t=>by
   rcases inv.loc t with h | ⟨a,ha,hla,_⟩
   ·exact h
   ·rw [hall a (inv.alt a ha)] at hla; simp at hla
  refine ZkU ?_
  show ZU F dk (KV ρ' ks) (Zb4 (KV ρ' ks) L') s
  rw [Zhx h1]
  simp only [Zb4,Zhv h2]
  exact h
 | @cons l p is hp hlp hd t ih =>
  intro ρ' L' inv
  by_cases hpA:p∈A
  ·exact ZjY hm inv hpA (by simp) hlp hd fun ρ2 L2 inv2=>ih inv2
  ·have:=inv.doneN p hp (by simp) hpA
   rw [hlp] at this; simp at this
def DOA (F:Fr P) (kp:Option (List Nat)) (dk:List ZR) (os:List (DOp × Bool)) (ρ:Env) (L:Loc) (s:St) (B:List Rd):Prop :=
 ∀ (T:Tab) ms fl A rest is l ρ' L',Zgm T ms→chk T ms fl A rest=true→(∀ p∈A,p ∉ rest)→os=rest.map (fun i=>(T.op i,fl.contains i))→Inv T ms A rest ρ L s B l ρ' L'→Sch T l is→DO F kp dk (is.map T.op) ρ' L' s
theorem Zmv {F:Fr P} {ks:List Nat} {dk:List ZR} {ρ:Env} {L:Loc} {s:St} {B:List Rd} (h:ZU F dk (KV ρ ks) (Zb4 (KV ρ ks) L) s):DOA F (some ks) dk [] ρ L s B:=by
 intro T ms fl A rest is l ρ' L' hm hc hdis hos inv sch
 have hr:rest=[]:=by cases rest <;> simp at hos ⊢
 subst hr
 exact ZnR hm h sch inv
theorem ZhJ {o:DOp} {ρ:Env} {L:Loc} {s s1:St} {side:Prop} {ρ1:Env} {L1:Loc} (hst:YK o ρ L s = .ok side ρ1 L1 s1) (hk:Ju o.k=true):∃ e,ρ1=YT ρ o.dst e∧L1=L∧s1=s:=by
 obtain ⟨e,h1,h2,h3,_⟩:=Zfa (ρ':=ρ) (L':=L) hst hk (fun _ _=>rfl) (fun _ _=>rfl)
 exact ⟨e,h1,h2,h3⟩
theorem ZlV {o:DOp} {ρ:Env} {L:Loc} {s s1:St} {side:Prop} {ρ1:Env} {L1:Loc} {z:List D} (hst:YK o ρ L s = .ok side ρ1 L1 s1) (hk:o.k = .alloc z):∃ t,o=⟨some t,none,.alloc z⟩∧side=(Zel L t=false)∧ρ1=(t,.loc t 0) :: ρ∧L1=(t,z) :: L∧s1=s:=by
 obtain ⟨dst,gd,k⟩:=o
 simp only at hk
 subst hk
 unfold YK at hst
 cases hg:Yd ρ gd with
 | none=>simp [hg] at hst
 | some c =>
  simp only [hg] at hst
  split at hst <;> simp only [SR.ok.injEq,reduceCtorEq] at hst
  rename_i t
  obtain ⟨rfl,rfl,rfl,rfl⟩:=hst
  exact ⟨t,rfl,rfl,rfl,rfl,rfl⟩
theorem Zla {T:Tab} {ms fl A rest:List Nat} {i:Nat} (h:chk T ms fl A (i :: rest)=true) :
  i < T.length∧(∀ d∈T.deps i,d ∉ i :: rest)∧i ∉ rest∧(∀ a∈A,(ms.getD i 0).testBit a=true∨nd (T.op a).dst (Yo (T.op i))=true) ∧
  ((Zey T A i=true∧chk T ms fl (i :: A) rest=true) ∨
   (Zja T (fl.contains i) (A.filter fun a=>!(ms.getD i 0).testBit a) rest i=true∧chk T ms fl (A.filter fun a=>!(ms.getD i 0).testBit a) rest=true∧Zey T A i=false)):=by
 simp only [chk,Bool.and_eq_true,decide_eq_true_eq,List.all_eq_true,Bool.not_eq_true',List.contains_eq_mem,decide_eq_false_iff_not] at h
 obtain ⟨⟨⟨⟨h1,h2⟩,h3⟩,h4⟩,h5⟩:=h
 refine ⟨h1,h2,h3,fun a ha=>?_,?_⟩
 ·cases hb:(ms.getD i 0).testBit a
  ·exact .inr (h4 a (List.mem_filter.2 ⟨ha,by simp only [hb]; rfl⟩))
  ·exact .inl rfl
 ·split at h5
  ·rename_i hp; exact .inl ⟨hp,h5⟩
  ·rename_i hp; simp only [Bool.and_eq_true] at h5; exact .inr ⟨by simpa using h5.1,h5.2,by simpa using hp⟩
theorem Zhq {T:Tab} {fl:Bool} {Zcs rest:List Nat} {i:Nat} (h:Zja T fl Zcs rest i=true) :
  Zm6 (T.op i).k=true∧(∀ r∈rest,∃ d∈T.deps r,d∈i :: rest) ∧
  ∀ a∈Zcs,nd (T.op i).dst (Yo (T.op a))=true∧ndd (T.op i).dst (T.op a).dst=true∧(fl=false→QE (T.op a).k=false):=by
 simp only [Zja,Bool.and_eq_true,List.all_eq_true,List.any_eq_true,List.contains_eq_mem,decide_eq_true_eq,Bool.not_eq_true',Bool.or_eq_true] at h
 obtain ⟨⟨h1,h2⟩,h3⟩:=h
 refine ⟨h1,h2,fun a ha=>?_⟩
 obtain ⟨⟨h4,h5⟩,h6⟩:=h3 a ha
 refine ⟨h4,h5,fun hs=>?_⟩
 rw [hs] at h6; simpa using h6
theorem ZfC {T:Tab} {A:List Nat} {i:Nat} (h:Zey T A i=true) :
  Qb (T.op i).k=true∧nd (T.op i).dst (Yo (T.op i))=true∧∀ a∈A,nd (T.op i).dst (Yo (T.op a))=true∧ndd (T.op i).dst (T.op a).dst=true:=by
 simp only [Zey,Bool.and_eq_true,List.all_eq_true] at h
 exact ⟨h.1.1,h.1.2,h.2⟩
theorem Inv.bar {T:Tab} {ms A rest:List Nat} {ρ:Env} {L:Loc} {s s2:St} {B B2:List Rd} {l:Nat→Bool} {ρ':Env} {L':Loc} {i:Nat} (hm:Zgm T ms) (inv:Inv T ms A (i :: rest) ρ L s B l ρ' L') (hdis:∀ p∈A,p ∉ i :: rest) (hi:i < T.length)
  (hir:i ∉ rest) (hd:∀ d∈T.deps i,l d=true) (hf:∀ a∈A.filter (fun a=>!(ms.getD i 0).testBit a),nd (T.op i).dst (Yo (T.op a))=true∧ndd (T.op i).dst (T.op a).dst=true) (e:E)
  {L2 L2':Loc} (hL:∀ x,ZI L' x=ZI L x→ZI L2' x=ZI L2 x) (h0:∀ x,ZI L' x=none→ZI L2' x=none)
  (hp:∀ a∈A.filter (fun a=>!(ms.getD i 0).testBit a),l a=false→Qf (T.op a) ρ L s B→Qf (T.op a) (YT ρ (T.op i).dst e) L2 s2 B2) :
  Inv T ms (A.filter fun a=>!(ms.getD i 0).testBit a) rest (YT ρ (T.op i).dst e) L2 s2 B2 (fun j=>j == i || l j) (YT ρ' (T.op i).dst e) L2':=by
 have hforced:=hm l inv.closed i hi hd
 have hfree:∀ a∈A,l a=false→a∈A.filter fun a=>!(ms.getD i 0).testBit a:=fun a ha hla=>by
  refine List.mem_filter.2 ⟨ha,?_⟩
  cases hb:(ms.getD i 0).testBit a
  ·rfl
  ·rw [hforced a hb] at hla; simp at hla
 have hsub:∀ a∈A.filter (fun a=>!(ms.getD i 0).testBit a),a∈A:=fun a ha=>(List.mem_filter.1 ha).1
 have hl2:∀ a,(a == i || l a)=false→a≠i∧l a=false:=fun a ha=>by simpa using ha
 have hl2':∀ a∈A,l a=false→(a == i || l a)=false:=fun a ha h=>by
  have:a≠i:=fun hai=>hdis a ha (by simp [hai])
  simp [this,h]
 refine ⟨fun j hj hlj d hdj=>?_,fun r hr=>?_,fun j hj h1 h2=>?_,fun a ha=>inv.alt a (hsub a ha),fun p hp' a ha=>inv.pair p (hsub p hp') a (hsub a ha),fun p hp' a ha=>inv.uniq p (hsub p hp') a (hsub a ha),fun t=>?_,fun a ha hla x hx=>?_,
  fun x=>?_,fun a ha hla=>hp a ha (hl2 a hla).2 (inv.pend a (hsub a ha) (hl2 a hla).2)⟩
 ·simp only [Bool.or_eq_true,beq_iff_eq] at hlj ⊢
  rcases hlj with rfl | hlj
  ·exact .inr (hd d hdj)
  ·exact .inr (inv.closed j hj hlj d hdj)
 ·simp only [Bool.or_eq_false_iff,beq_eq_false_iff_ne]
  exact ⟨fun h=>hir (h ▸ hr),inv.restN r (by simp [hr])⟩
 ·by_cases hji:j=i
  ·simp [hji]
  ·by_cases hjA:j∈A
   ·cases hlj:l j
    ·exact absurd (hfree j hjA hlj) h2
    ·simp
   ·simp [inv.doneN j hj (by simp [hji,h1]) hjA]
 ·rw [Zbk,Zbk]
  by_cases ht:(T.op i).dst=some t
  ·simp [ht]
  ·simp only [ht,if_false]
   rcases inv.env t with h | ⟨a,ha,hla,hda⟩
   ·exact .inl h
   ·exact .inr ⟨a,hfree a ha hla,hl2' a ha hla,hda⟩
 ·exact h0 x (inv.loc0 a (hsub a ha) (hl2 a hla).2 x hx)
 ·rcases inv.loc x with h | ⟨a,ha,hla,hx⟩
  ·exact .inl (hL x h)
  ·exact .inr ⟨a,hfree a ha hla,hl2' a ha hla,hx⟩
theorem Qf.keep {o:DOp} {ρ:Env} {L L2:Loc} {s s2:St} {B:List Rd} {fl:Bool} (h:Qf o ρ L s B) (hk:KO fl s s2 L L2 B) (hf:fl=false→QE o.k=false) (hal:∀ t,ZcU o t→ZI L2 t=ZI L t):Qf o ρ L2 s2 (Qp fl B):=by
 cases fl
 ·have hr:=Zl4 (ρ:=ρ) (hf rfl)
  exact ((h.state (s':=s2) (fun b hb=>by rw [hr] at hb; simp at hb)).more (fun b hb=>by rw [hr] at hb; simp at hb)).mono (fun _ _=>rfl) (fun _ _=>rfl) (fun x hx=>by rw [hr] at hx; simp at hx) hal
 ·have hm:=Ze8 (show QG s s2 L L2 B from hk)
  rcases h with ⟨hq,hr,h'⟩ | h'
  ·exact ((Qf.state (s':=s2) (.inl ⟨hq,hr,h'⟩) (fun b hb=>hm.1 b (hr _ hb))).more (B':=Qp true B) (fun b _ hb=>hb)).mono (fun _ _=>rfl) (fun _ _=>rfl) (fun x hx=>hm.2 x (hr _ hx)) hal
  ·exact (Qf.more (B':=Qp true B) (s:=s2) (.inr h':Qf o ρ L s2 B) (fun b _ hb=>hb)).mono (fun _ _=>rfl) (fun _ _=>rfl) (fun x hx=>by
    obtain ⟨t,z,rfl,_⟩:=h'
    simp [KI] at hx) hal
theorem ZqR {L:Loc} {s:St} {q:Q} {es:List E} {r:Prop × E} (hq:qv L s q es=some r) {e:E} {es':List E} (he:es=e :: es') (hr:QE (.q q [])=true) {x:Nat} (hx:.loc x∈JW e):∃ cs,ZI L x=some cs:=by
 subst he
 cases e with
 | d v=>cases v <;> simp [JW] at hx
 | when c e=>simp [JW] at hx
 | loc l o =>
  simp only [JW,List.mem_singleton,Rd.loc.injEq] at hx
  subst hx
  by_cases hl:ZbX (.q q [])=true
  ·exact Zp7 hq hl (x:=x) (o:=o) (by simp)
  ·cases q <;> simp [QE,ZbX] at hr hl
   ·cases es' with
    | nil=>simp [qv] at hq
    | cons e2 r2=>cases r2 <;> simp [qv] at hq
   ·cases es' <;> simp [qv] at hq
theorem Qf.loc {o:DOp} {ρ:Env} {L:Loc} {s:St} {B:List Rd} (h:Qf o ρ L s B) {x:Nat} (hx:.loc x∈KI o ρ):∃ cs,ZI L x=some cs:=by
 rcases h with ⟨hk,hr,side,e,hs,hst,he⟩ | ⟨t,z,rfl,_⟩
 ·obtain ⟨dst,gd,k⟩:=o
  cases k with
  | q q xs =>
   simp only [KI] at hx
   split at hx <;> (try (simp at hx; done))
   rename_i hrd
   unfold YK at hst
   cases hg:Yd ρ gd with
   | none=>simp [hg] at hx
   | some c =>
    simp only [hg] at hx hst
    cases ha:Kn ρ c xs with
    | none=>simp [ha] at hx
    | some pe =>
     obtain ⟨p,es⟩:=pe
     simp only [ha] at hx hst
     cases es with
     | nil=>simp at hx
     | cons e1 es' =>
      simp only at hx
      split at hst <;> (try (simp at hst; done))
      rename_i sd e2 hq
      exact ZqR hq rfl (by cases q <;> simp_all [QE]) hx
  | _=>simp [KI] at hx
 ·simp [KI] at hx
theorem Zdf {F:Fr P} {kp:Option (List Nat)} {dk:List ZR} {o:DOp} {f:Bool} {os:List (DOp × Bool)} {ρ:Env} {L:Loc} {s:St} {B:List Rd} (R:E→St→Prop) (hk:Qb o.k=false)
  (h1:∀ ρ' L' os',Yu ρ ρ' (Yo o)→(∀ e s2,R e s2→DO F kp dk os' (YT ρ' o.dst e) L' s2)→DO F kp dk (o :: os') ρ' L' s)
  (h2:∀ e s2,R e s2→KO f s s2 L L B∧DOA F kp dk os (YT ρ o.dst e) L s2 (Qp f B)) :
  DOA F kp dk ((o,f) :: os) ρ L s B:=by
 intro T ms fl A rest is l ρ' L' hm hc hdis hos inv sch
 cases rest with
 | nil=>simp at hos
 | cons i rest =>
  simp only [List.map_cons,List.cons.injEq,Prod.mk.injEq] at hos
  obtain ⟨⟨rfl,rfl⟩,rfl⟩:=hos
  obtain ⟨hi,hdeps,hir,hnm,hcs⟩:=Zla hc
  rcases hcs with ⟨hp,_⟩ | ⟨hb,hc',_⟩
  ·have:=(ZfC hp).1; rw [hk] at this; simp at this
  ·obtain ⟨hbk,hready,hfree⟩:=Zhq hb
   refine ZpC hm hi hdis hready (fun l ρ' L' is inv hd sch=>?_) sch inv
   have hforced:=hm l inv.closed i hi hd
   have hag:Yu ρ ρ' (Yo (T.op i)):=by
    intro t ht
    rcases inv.env t with h | ⟨a,ha,hla,hda⟩
    ·exact h
    ·exfalso
     rcases hnm a ha with hb | hb
     ·rw [hforced a hb] at hla; simp at hla
     ·exact ZiA hb hda ht
   refine h1 ρ' L' _ hag fun e s2 hR=>?_
   obtain ⟨hkB,h2'⟩:=h2 e s2 hR
   refine h2' T ms fl _ rest is _ _ _ hm hc' (fun p hp hpr=>hdis p (List.mem_filter.1 hp).1 (by simp [hpr])) rfl (inv.bar hm hdis hi hir hd (fun a ha=>⟨(hfree a ha).1,(hfree a ha).2.1⟩) e (fun _ h=>h) (fun _ h=>h) fun a ha hla hpe=>?_) sch
   refine (hpe.keep hkB (hfree a ha).2.2 (fun _ _=>rfl)).mono (Zbn (hfree a ha).1) (fun t ht=>?_) (fun _ _=>rfl) (fun _ _=>rfl)
   rw [Zbk]
   have:=ZfM (ZhR (hfree a ha).2.1) ht
   simp [this]
end
end Go.DL
namespace Go.DL
open Go
theorem ZfI {ρ:Env} {L:Loc} {s s1:St} {p q ok side:Prop} {a:E} {n:Nat} {xs:List D} {ρ1:Env} {L1:Loc} (h:Jq ρ L s p q ok a n xs = .ok side ρ1 L1 s1) :
  ρ1=ρ∧((∃ l off cs,a = .loc l off∧L1=(l,Ko cs off xs) :: L∧s1=s∧ZI L l=some cs∧∀ ρ' L',ZI L' l=ZI L l→Jq ρ' L' s p q ok a n xs = .ok side ρ' ((l,Ko cs off xs) :: L') s) ∨
   (L1=L∧∀ ρ' L',Jq ρ' L' s p q ok a n xs = .ok side ρ' L' s1)):=by
 obtain ⟨rfl,⟨l,off,cs,rfl,hL,rfl,rfl,rfl⟩ | ⟨b,off,cs,rfl,hL,rfl,rfl,rfl⟩⟩:=ZdY h
 ·exact ⟨rfl,.inl ⟨l,off,cs,rfl,rfl,rfl,hL,fun ρ' L' hl=>by simp only [Jq,hl,hL]⟩⟩
 ·exact ⟨rfl,.inr ⟨rfl,fun ρ' L'=>by simp only [Jq,hL]⟩⟩
theorem Zma {o:DOp} {ρ:Env} {L:Loc} {s s1:St} {side:Prop} {ρ1:Env} {L1:Loc} (hst:YK o ρ L s = .ok side ρ1 L1 s1) (hk:ZcJ o.k=true) :
  ρ1=ρ∧o.dst=none∧((∃ lx cs new,L1=(lx,new) :: L∧s1=s∧ZI L lx=some cs ∧
   ∀ ρ' L',Yu ρ ρ' (Yo o)→ZI L' lx=ZI L lx→YK o ρ' L' s = .ok side ρ' ((lx,new) :: L') s) ∨
   (L1=L∧∀ ρ' L',Yu ρ ρ' (Yo o)→YK o ρ' L' s = .ok side ρ' L' s1)):=by
 obtain ⟨dst,gd,k⟩:=o
 cases hg:Yd ρ gd with
 | none=>unfold YK at hst; simp [hg] at hst
 | some c =>
 cases k with
 | store1 a v =>
  unfold YK at hst
  simp only [hg] at hst
  split at hst <;> (try (simp at hst; done))
  rename_i p ea q x ha hv
  obtain ⟨rfl,⟨l,off,cs,rfl,rfl,rfl,hL,hcong⟩ | ⟨rfl,hcong⟩⟩:=ZfI hst
  ·refine ⟨rfl,rfl,.inl ⟨l,cs,_,rfl,rfl,hL,fun ρ' L' hag hl=>?_⟩⟩
   have h1:Yu ρ1 ρ' (WQ a):=fun t ht=>hag t (by simp [Yo,Kj,ht])
   have h2:Yu ρ1 ρ' (WQ v):=fun t ht=>hag t (by simp [Yo,Kj,ht])
   unfold YK
   simp only [Yd,YX h1,YX h2,ha,hv]
   exact hcong ρ' L' hl
  ·refine ⟨rfl,rfl,.inr ⟨rfl,fun ρ' L' hag=>?_⟩⟩
   have h1:Yu ρ1 ρ' (WQ a):=fun t ht=>hag t (by simp [Yo,Kj,ht])
   have h2:Yu ρ1 ρ' (WQ v):=fun t ht=>hag t (by simp [Yo,Kj,ht])
   unfold YK
   simp only [Yd,YX h1,YX h2,ha,hv]
   exact hcong ρ' L'
 | storeN n a v =>
  unfold YK at hst
  simp only [hg] at hst
  split at hst <;> (try (simp at hst; done))
  rename_i p ea q xs ha hv
  obtain ⟨rfl,⟨l,off,cs,rfl,rfl,rfl,hL,hcong⟩ | ⟨rfl,hcong⟩⟩:=ZfI hst
  ·refine ⟨rfl,rfl,.inl ⟨l,cs,_,rfl,rfl,hL,fun ρ' L' hag hl=>?_⟩⟩
   have h1:Yu ρ1 ρ' (WQ a):=fun t ht=>hag t (by simp [Yo,Kj,ht])
   have h2:Yu ρ1 ρ' (WQ v):=fun t ht=>hag t (by simp [Yo,Kj,ht])
   unfold YK
   simp only [Yd,YX h1,YX h2,ha,hv]
   exact hcong ρ' L' hl
  ·refine ⟨rfl,rfl,.inr ⟨rfl,fun ρ' L' hag=>?_⟩⟩
   have h1:Yu ρ1 ρ' (WQ a):=fun t ht=>hag t (by simp [Yo,Kj,ht])
   have h2:Yu ρ1 ρ' (WQ v):=fun t ht=>hag t (by simp [Yo,Kj,ht])
   unfold YK
   simp only [Yd,YX h1,YX h2,ha,hv]
   exact hcong ρ' L'
 | _=>simp [ZcJ] at hk
def ZkS:K→Bool
 | .mapupd _ _ _ _ | .delete _ _ _ | .entst _ _ _=>true
 | _=>false
theorem Zoy {o:DOp} {ρ:Env} {L:Loc} {s s1:St} {side:Prop} {ρ1:Env} {L1:Loc} (hst:YK o ρ L s = .ok side ρ1 L1 s1) (hk:ZkS o.k=true) :
  ρ1=ρ∧o.dst=none∧L1=L∧∀ ρ' L',Yu ρ ρ' (Yo o)→YK o ρ' L' s = .ok side ρ' L' s1:=by
 obtain ⟨dst,gd,k⟩:=o
 cases hg:Yd ρ gd with
 | none=>unfold YK at hst; simp [hg] at hst
 | some c =>
 cases k with
 | mapupd kp m k v =>
  unfold YK at hst
  simp only [hg] at hst
  split at hst <;> (try (simp at hst; done))
  rename_i p b q dk r dv hm hkk hv
  split at hst <;> (try (simp at hst; done))
  rename_i es hes
  split at hst <;> simp only [SR.ok.injEq,reduceCtorEq] at hst
  rename_i es' hes'
  obtain ⟨rfl,rfl,rfl,rfl⟩:=hst
  refine ⟨rfl,rfl,rfl,fun ρ' L' hag=>?_⟩
  have h1:Yu ρ ρ' (WQ m):=fun t ht=>hag t (by simp [Yo,Kj,ht])
  have h2:Yu ρ ρ' (WQ k):=fun t ht=>hag t (by simp [Yo,Kj,ht])
  have h3:Yu ρ ρ' (WQ v):=fun t ht=>hag t (by simp [Yo,Kj,ht])
  unfold YK
  simp only [Yd,YX h1,YX h2,YX h3,hm,hkk,hv,hes,hes']
 | delete kp m k =>
  unfold YK at hst
  simp only [hg] at hst
  split at hst <;> (try (simp at hst; done))
  rename_i p b q dk hm hkk
  split at hst <;> (try (simp at hst; done))
  rename_i es hes
  split at hst <;> simp only [SR.ok.injEq,reduceCtorEq] at hst
  rename_i es' hes'
  obtain ⟨rfl,rfl,rfl,rfl⟩:=hst
  refine ⟨rfl,rfl,rfl,fun ρ' L' hag=>?_⟩
  have h1:Yu ρ ρ' (WQ m):=fun t ht=>hag t (by simp [Yo,Kj,ht])
  have h2:Yu ρ ρ' (WQ k):=fun t ht=>hag t (by simp [Yo,Kj,ht])
  unfold YK
  simp only [Yd,YX h1,YX h2,hm,hkk,hes,hes']
 | entst m k v =>
  unfold YK at hst
  simp only [hg] at hst
  split at hst <;> (try (simp at hst; done))
  rename_i p b q n r dv hm hkk hv
  split at hst <;> (try (simp at hst; done))
  rename_i kp es dk n' hes
  split at hst <;> simp only [SR.ok.injEq,reduceCtorEq] at hst
  rename_i es' hes'
  obtain ⟨rfl,rfl,rfl,rfl⟩:=hst
  refine ⟨rfl,rfl,rfl,fun ρ' L' hag=>?_⟩
  have h1:Yu ρ ρ' (WQ m):=fun t ht=>hag t (by simp [Yo,Kj,ht])
  have h2:Yu ρ ρ' (WQ k):=fun t ht=>hag t (by simp [Yo,Kj,ht])
  have h3:Yu ρ ρ' (WQ v):=fun t ht=>hag t (by simp [Yo,Kj,ht])
  unfold YK
  simp only [Yd,YX h1,YX h2,YX h3,hm,hkk,hv,hes,hes']
 | _=>simp [ZkS] at hk
theorem Zod {o:DOp} {ρ:Env} {L:Loc} {s:St} {side:Prop} {pre:Nat→Prop} {ρf:Nat→Env} {sf:Nat→St} (hst:YK o ρ L s = .all side pre ρf sf) :
  Qb o.k=false∧∃ (t:Nat) (ef:Nat→E),o.dst=some t∧(ρf=fun b=>(t,ef b) :: ρ)∧∀ ρ' L',Yu ρ ρ' (Yo o)→YK o ρ' L' s = .all side pre (fun b=>(t,ef b) :: ρ') sf:=by
 obtain ⟨dst,gd,k⟩:=o
 cases hg:Yd ρ gd with
 | none=>unfold YK at hst; simp [hg] at hst
 | some c =>
 cases k with
 | mkmap =>
  unfold YK at hst
  simp only [hg] at hst
  split at hst <;> simp only [SR.all.injEq,reduceCtorEq] at hst
  obtain ⟨rfl,rfl,rfl,rfl⟩:=hst
  refine ⟨rfl,_,fun b=>.d (.map b),rfl,rfl,fun ρ' L' hag=>?_⟩
  unfold YK
  simp only [Yd]
 | mkslice e n by_ z l c =>
  unfold YK at hst
  simp only [hg] at hst
  split at hst <;> simp only [SR.all.injEq,reduceCtorEq] at hst
  rename_i t p k1 lv q k2 hv hl hc
  obtain ⟨rfl,rfl,rfl,rfl⟩:=hst
  refine ⟨rfl,t,fun b=>.d (.msl b 0 lv.toNat hv.toNat n),rfl,rfl,fun ρ' L' hag=>?_⟩
  have h1:Yu ρ ρ' (WQ l):=fun t ht=>hag t (by simp [Yo,Kj,ht])
  have h2:Yu ρ ρ' (WQ c):=fun t ht=>hag t (by simp [Yo,Kj,ht])
  unfold YK
  simp only [Yd,YX h1,YX h2,hl,hc]
 | mapent kp z m k =>
  unfold YK at hst
  simp only [hg] at hst
  split at hst <;> (try (simp at hst; done))
  rename_i t p b q dk hm hkk
  split at hst <;> (try (simp at hst; done))
  rename_i es hes
  split at hst <;> simp only [SR.all.injEq,reduceCtorEq] at hst
  rename_i v hv
  obtain ⟨rfl,rfl,rfl,rfl⟩:=hst
  refine ⟨rfl,t,fun n=>.d (.tup [v,.stamp n]),rfl,rfl,fun ρ' L' hag=>?_⟩
  have h1:Yu ρ ρ' (WQ m):=fun t ht=>hag t (by simp [Yo,Kj,ht])
  have h2:Yu ρ ρ' (WQ k):=fun t ht=>hag t (by simp [Yo,Kj,ht])
  unfold YK
  simp only [Yd,YX h1,YX h2,hm,hkk,hes,hv]
 | store1 a v =>
  unfold YK at hst
  simp only [hg] at hst
  split at hst <;> (try (simp at hst; done))
  exact absurd hst Zc2
 | storeN n a v =>
  unfold YK at hst
  simp only [hg] at hst
  split at hst <;> (try (simp at hst; done))
  exact absurd hst Zc2
 | _ =>
  unfold YK at hst
  simp only [hg] at hst
  first
   | (simp at hst; done)
   | repeat' (split at hst <;> (try (simp at hst; done)))
theorem Znh {o:DOp} {ρ:Env} {L:Loc} {s s1:St} {side:Prop} {ρ1:Env} {L1:Loc} (hst:YK o ρ L s = .ok side ρ1 L1 s1):Ju o.k=true∨(∃ z,o.k = .alloc z)∨ZcJ o.k=true∨(∃ x,o.k = .box x)∨ZkS o.k=true:=by
 obtain ⟨dst,gd,k⟩:=o
 unfold YK at hst
 cases hg:Yd ρ gd with
 | none=>simp [hg] at hst
 | some c =>
  simp only [hg] at hst
  cases k with
  | q q xs=>exact .inl rfl
  | pick x a b=>exact .inl rfl
  | bsl len n z is xs=>exact .inl rfl
  | s2b x=>exact .inl rfl
  | alloc z=>exact .inr (.inl ⟨z,rfl⟩)
  | store1 a v=>exact .inr (.inr (.inl rfl))
  | storeN n a v=>exact .inr (.inr (.inl rfl))
  | box x=>exact .inr (.inr (.inr (.inl ⟨x,rfl⟩)))
  | mapupd kp m k v=>exact .inr (.inr (.inr (.inr rfl)))
  | delete kp m k=>exact .inr (.inr (.inr (.inr rfl)))
  | entst m k v=>exact .inr (.inr (.inr (.inr rfl)))
  | mkmap=>simp only at hst; split at hst <;> simp at hst
  | mkslice e n by_ z l c=>simp only at hst; split at hst <;> simp at hst
  | mapent kp z m k =>
   simp only at hst
   split at hst <;> (try (simp at hst; done))
   split at hst <;> (try (simp at hst; done))
   split at hst <;> simp at hst
  | call f xs=>simp at hst
  | append e n by_ z x y=>simp at hst
  | panic x=>simp at hst
  | defer f xs=>simp at hst
  | recover=>simp at hst
section
variable {P:Program}
theorem Zn9 {o:DOp} {ρ:Env} {L L':Loc} {side:Prop} {ρ1:Env} {lx:Nat} {new:List D} {g:G} {ν:Nat→Nat} {w:World} {tmps:Array Value} {s:St} (hst:YK o ρ L s = .ok side ρ1 ((lx,new) :: L) s) (hk:ZcJ o.k=true) (hs:side)
  (m:ZX g ν w tmps ρ L' s):∃ cs,ZI L' lx=some cs:=by
 have key:∀ {p q ok:Prop} {a:Opd} {ea:E} {n:Nat} {xs:List D},YC ρ true a=some (p,ea)→Jq ρ L s p q ok ea n xs = .ok side ρ1 ((lx,new) :: L) s→∃ cs,ZI L' lx=some cs:=by
  intro p q ok a ea n xs ha h
  obtain ⟨rfl,⟨l,off,cs,rfl,hL,rfl,h1,h2⟩ | ⟨b,off,cs,rfl,hL,rfl,h1,h2⟩⟩:=ZdY h
  ·simp only [List.cons.injEq,Prod.mk.injEq,and_true] at h1
   obtain ⟨rfl,rfl⟩:=h1
   exact Zh7 m (xs:=[a]) (p:=p∧True) (es:=[.loc lx off]) (by simp [Kn,ha]) ⟨hs.1,trivial⟩ lx off (by simp)
  ·exact absurd (congrArg List.length h1) (by simp)
 obtain ⟨dst,gd,k⟩:=o
 cases hg:Yd ρ gd with
 | none=>unfold YK at hst; simp [hg] at hst
 | some c =>
 cases k with
 | store1 a v =>
  unfold YK at hst
  simp only [hg] at hst
  split at hst <;> (try (simp at hst; done))
  rename_i p ea q x ha hv
  exact key ha hst
 | storeN n a v =>
  unfold YK at hst
  simp only [hg] at hst
  split at hst <;> (try (simp at hst; done))
  rename_i p ea q xs ha hv
  exact key ha hst
 | _=>simp [ZcJ] at hk
theorem ZhS {F:Fr P} {kp:Option (List Nat)} {dk:List ZR} {o:DOp} {f:Bool} {os:List (DOp × Bool)} {ρ ρ1:Env} {L L1:Loc} {s s1:St} {B:List Rd} {side:Prop} (hst:YK o ρ L s = .ok side ρ1 L1 s1) (hs:side)
  (h:if Qb o.k then DOA F kp dk os ρ1 L1 s1 (KI o ρ++B) else KO f s s1 L L1 B∧DOA F kp dk os ρ1 L1 s1 (KI o ρ++Qp f B)):DOA F kp dk ((o,f) :: os) ρ L s B:=by
 intro T ms fl A rest is l ρ' L' hm hc hdis hos inv sch
 cases rest with
 | nil=>simp at hos
 | cons i rest =>
  simp only [List.map_cons,List.cons.injEq,Prod.mk.injEq] at hos
  obtain ⟨⟨rfl,rfl⟩,rfl⟩:=hos
  obtain ⟨hi,hdeps,hir,hnm,hcs⟩:=Zla hc
  have hli:=inv.restN i (by simp)
  rcases hcs with ⟨hp,hc'⟩ | ⟨hb,hc',hnp⟩
  ·obtain ⟨hp1,hp2,hp3⟩:=ZfC hp
   rw [hp1] at h
   simp only [if_true] at h
   have hiA:i ∉ A:=fun hA=>hdis i hA (by simp)
   have key:∀ (hget:∀ t,(T.op i).dst=some t∨Wh ρ1 t=Wh ρ t) (hagr:∀ a∈A,Yu ρ ρ1 (Yo (T.op a))) (hL:∀ x,ZI L1 x=ZI L x∨(ZcU (T.op i) x∧ZI L x=none)) (hL0:∀ x,ZcU (T.op i) x→ZI L x=none)
     (hpend:Qf (T.op i) ρ1 L1 s (KI (T.op i) ρ++B)) (hs1:s1=s),DO F kp dk (is.map T.op) ρ' L' s:=by
    intro hget hagr hL hL0 hpend hs1
    subst hs1
    refine h T ms fl (i :: A) rest is l ρ' L' hm hc' (fun p hp hpr=>?_) rfl ⟨inv.closed,fun r hr=>inv.restN r (by simp [hr]),fun j hj h1 h2=>?_,fun a ha=>?_,fun p hp a ha=>?_,fun p hp a ha hpa=>?_,fun t=>?_,fun a ha hla x hx=>?_,fun x=>?_,fun a ha hla=>?_⟩ sch
    ·rcases List.mem_cons.1 hp with rfl | hp
     ·exact hir hpr
     ·exact hdis p hp (by simp [hpr])
    ·simp only [List.mem_cons,not_or] at h2
     exact inv.doneN j hj (by simp [h2.1,h1]) h2.2
    ·rcases List.mem_cons.1 ha with rfl | ha
     ·exact hi
     ·exact inv.alt a ha
    ·rcases List.mem_cons.1 hp with rfl | hpA <;> rcases List.mem_cons.1 ha with rfl | haA
     ·exact .inr hp2
     ·exact hnm a haA
     ·exact .inr (hp3 p hpA).1
     ·exact inv.pair p hpA a haA
    ·rcases List.mem_cons.1 hp with rfl | hpA <;> rcases List.mem_cons.1 ha with rfl | haA
     ·exact absurd rfl hpa
     ·exact (hp3 a haA).2
     ·exact ZhR (hp3 p hpA).2
     ·exact inv.uniq p hpA a haA hpa
    ·rcases hget t with hd | hg
     ·exact .inr ⟨i,by simp,hli,hd⟩
     ·rw [hg]
      rcases inv.env t with h | ⟨a,ha,hla,hda⟩
      ·exact .inl h
      ·exact .inr ⟨a,by simp [ha],hla,hda⟩
    ·rcases List.mem_cons.1 ha with rfl | ha
     ·have:=hL0 x hx
      rcases inv.loc x with h | ⟨b,hb,hlb,hxb⟩
      ·rw [h]; exact this
      ·exact inv.loc0 b hb hlb x hxb
     ·exact inv.loc0 a ha hla x hx
    ·rcases hL x with hx | ⟨hx,_⟩
     ·rw [hx]
      rcases inv.loc x with h | ⟨b,hb,hlb,hxb⟩
      ·exact .inl h
      ·exact .inr ⟨b,by simp [hb],hlb,hxb⟩
     ·exact .inr ⟨i,by simp,hli,hx⟩
    ·rcases List.mem_cons.1 ha with rfl | ha
     ·exact hpend
     ·refine ((inv.pend a ha hla).more (B':=KI (T.op i) ρ++B) (fun b _ hb=>List.mem_append_right _ hb)).mono (hagr a ha) (fun t ht=>?_) (fun x hx=>?_) (fun t hal=>?_)
      ·rcases hget t with hd | hg
       ·exact absurd ht (ZfM (hp3 a ha).2 hd)
       ·exact hg
      ·obtain ⟨cs,hcs⟩:=(inv.pend a ha hla).loc hx
       rcases hL x with h | ⟨_,h⟩
       ·exact h
       ·rw [h] at hcs; simp at hcs
      ·rcases hL t with h | ⟨h,_⟩
       ·exact h
       ·exact absurd hal.1 (ZfM (hp3 a ha).2 h.1)
   by_cases hq:Ju (T.op i).k=true
   ·obtain ⟨e,rfl,rfl,rfl⟩:=ZhJ hst hq
    refine key (fun t=>?_) (fun a ha=>Zbn (hp3 a ha).1) (fun x=>.inl rfl) (fun x hx=>by have:=Zgl hx; rw [hq] at this; simp at this) (.inl ?_) rfl
    ·rw [Zbk]
     by_cases ht:(T.op i).dst=some t
     ·exact .inl ht
     ·exact .inr (by simp [ht])
    ·obtain ⟨e',h1,-,-,h2⟩:=Zfa (ρ':=YT ρ (T.op i).dst e) (L':=L1) hst hq (Zbn hp2) (fun _ _=>rfl)
     refine ⟨hq,by rw [ZfB (Zbn hp2)]; exact fun b hb=>List.mem_append_left _ hb,side,e',hs,h2,fun t ht=>?_⟩
     rw [h1,Zbk,if_pos ht]
   ·obtain ⟨z,hz⟩:∃ z,(T.op i).k = .alloc z:=by
     cases hk:(T.op i).k <;> simp_all [Qb,Ju]
    obtain ⟨t,ho,rfl,rfl,rfl,rfl⟩:=ZlV hst hz
    have hnone:ZI L t=none:=by
     cases hg:ZI L t <;> simp [Zel,hg] at hs ⊢
    have hdt:(T.op i).dst=some t:=by rw [ho]
    refine key (fun u=>?_) (fun a ha=>?_) (fun x=>?_) (fun x hx=>?_) (.inr ⟨t,z,ho,by simp [Wh],by simp [ZI]⟩) rfl
    ·by_cases htu:t=u
     ·exact .inl (by rw [hdt,htu])
     ·exact .inr (by simp [Wh,htu])
    ·have:=Zbn (ρ:=ρ) (e:=.loc t 0) (hp3 a ha).1
     rw [hdt] at this; exact this
    ·by_cases htx:t=x
     ·subst htx; exact .inr ⟨⟨hdt,z,hz⟩,hnone⟩
     ·exact .inl (by simp [ZI,htx])
    ·have:=hx.1
     rw [hdt] at this
     simp only [Option.some.injEq] at this
     subst this; exact hnone
  ·obtain ⟨hbk,hready,hfree⟩:=Zhq hb
   have hkB:KO (fl.contains i) s s1 L L1 B∨Qb (T.op i).k=true:=by
    cases hpk:Qb (T.op i).k
    ·rw [hpk] at h; exact .inl h.1
    ·exact .inr rfl
   have hD:∃ B2,(B2=KI (T.op i) ρ++B∧Qb (T.op i).k=true∨B2=KI (T.op i) ρ++Qp (fl.contains i) B∧Qb (T.op i).k=false)∧DOA F kp dk (rest.map fun i=>(T.op i,fl.contains i)) ρ1 L1 s1 B2:=by
    cases hpk:Qb (T.op i).k
    ·rw [hpk] at h; exact ⟨_,.inr ⟨rfl,rfl⟩,h.2⟩
    ·rw [hpk] at h; exact ⟨_,.inl ⟨rfl,rfl⟩,h⟩
   clear h
   obtain ⟨B2,hB2,h⟩:=hD
   have hsubB:∀ b∈Qp (fl.contains i) B,b∈B2:=fun b hb=>by
    rcases hB2 with ⟨rfl,_⟩ | ⟨rfl,_⟩
    ·refine List.mem_append_right _ ?_
     unfold Qp at hb; split at hb
     ·exact hb
     ·simp at hb
    ·exact List.mem_append_right _ hb
   refine ZpC hm hi hdis hready (fun l ρ' L' is inv hd sch=>?_) sch inv
   have hforced:=hm l inv.closed i hi hd
   have hag:Yu ρ ρ' (Yo (T.op i)):=by
    intro t ht
    rcases inv.env t with h | ⟨a,ha,hla,hda⟩
    ·exact h
    ·exfalso
     rcases hnm a ha with hb | hb
     ·rw [hforced a hb] at hla; simp at hla
     ·exact ZiA hb hda ht
   have hloc:∀ x,ZI L' x=ZI L x∨ZI L' x=none:=fun x=>by
    rcases inv.loc x with h | ⟨a,ha,hla,hx⟩
    ·exact .inl h
    ·exact .inr (inv.loc0 a ha hla x hx)
   have hdis':∀ p∈A.filter (fun a=>!(ms.getD i 0).testBit a),p ∉ rest:=fun p hp hpr=>hdis p (List.mem_filter.1 hp).1 (by simp [hpr])
   rcases Znh hst with hq | ⟨z,hz⟩ | hq | ⟨x,hx⟩ | hq
   ·obtain ⟨e,rfl,rfl,rfl⟩:=ZhJ hst hq
    refine Zmz hst hs hq hag hloc ?_
    refine h T ms fl _ rest is _ _ _ hm hc' hdis' rfl (inv.bar hm hdis hi hir hd (fun a ha=>⟨(hfree a ha).1,(hfree a ha).2.1⟩) e (fun _ h=>h) (fun _ h=>h) fun a ha hla hpe=>?_) sch
    refine ((hpe.keep (fl:=fl.contains i) (Zcx _ _ _ _) (hfree a ha).2.2 (fun _ _=>rfl)).more (fun b _ hb=>hsubB b hb)).mono (Zbn (hfree a ha).1) (fun t ht=>?_) (fun _ _=>rfl) (fun _ _=>rfl)
    rw [Zbk]
    have:=ZfM (ZhR (hfree a ha).2.1) ht
    simp [this]
   ·rw [hz] at hbk; simp [Zm6] at hbk
   ·obtain ⟨rfl,hdn,⟨lx,cs,new,rfl,rfl,hlx,hcong⟩ | ⟨rfl,hcong⟩⟩:=Zma hst hq
    ·refine Zj0 fun g ν w tmps m=>?_
     have hst0:YK (T.op i) ρ' ((lx,cs) :: L') s1 = .ok side ρ' ((lx,new) :: (lx,cs) :: L') s1:=hcong ρ' _ hag (by simp [ZI,hlx])
     have hpl:ZI L' lx=ZI L lx:=by
      obtain ⟨c2,hc2⟩:∃ cs,ZI L' lx=some cs:=Zn9 (L:=(lx,cs) :: L') hst0 hq hs m
      rcases hloc lx with h | h
      ·exact h
      ·rw [h] at hc2; simp at hc2
     refine Zdh (hcong ρ' L' hag hpl) hs ?_
     have hput:∀ r:Env,YT r (T.op i).dst (.d .undef)=r:=fun r=>by rw [hdn]; rfl
     have hb:=inv.bar (s2:=s1) (B2:=B2) hm hdis hi hir hd (fun a ha=>⟨(hfree a ha).1,(hfree a ha).2.1⟩) (.d .undef) (L2:=(lx,new) :: L) (L2':=(lx,new) :: L') (fun x hx=>by simp only [ZI,hx]) (fun x hx=>by
      by_cases hxl:lx=x
      ·subst hxl; rw [hpl,hlx] at hx; simp at hx
      ·simp only [ZI,hxl,if_false]; exact hx) (fun a ha hla hpe=>?_)
     ·rw [hput,hput] at hb
      exact h T ms fl _ rest is _ _ _ hm hc' hdis' rfl hb sch
     ·rw [hput]
      have hkB':KO (fl.contains i) s1 s1 L ((lx,new) :: L) B:=by
       rcases hkB with h | h
       ·exact h
       ·cases hkk:(T.op i).k <;> rw [hkk] at hq h <;> simp [ZcJ,Qb] at hq h
      refine (hpe.keep hkB' (hfree a ha).2.2 (fun t hal=>?_)).more (fun b _ hb=>hsubB b hb)
      have hn:=inv.loc0 a (List.mem_filter.1 ha).1 hla t hal
      have:¬ lx=t:=fun h=>by subst h; rw [hpl,hlx] at hn; simp at hn
      simp [ZI,this]
    ·refine Zdh (hcong ρ' L' hag) hs ?_
     have hput:∀ r:Env,YT r (T.op i).dst (.d .undef)=r:=fun r=>by rw [hdn]; rfl
     have hb:=inv.bar (s2:=s1) (B2:=B2) hm hdis hi hir hd (fun a ha=>⟨(hfree a ha).1,(hfree a ha).2.1⟩) (.d .undef) (L2:=L1) (L2':=L') (fun x hx=>hx) (fun x hx=>hx) (fun a ha hla hpe=>by
      rw [hput]; exact (hpe.keep (hkB.resolve_right (by cases hkk:(T.op i).k <;> rw [hkk] at hq <;> simp [ZcJ,ZkS] at hq <;> simp [Qb])) (hfree a ha).2.2 (fun _ _=>rfl)).more (fun b _ hb=>hsubB b hb))
     rw [hput,hput] at hb
     exact h T ms fl _ rest is _ _ _ hm hc' hdis' rfl hb sch
   ·rw [hx] at hbk; simp [Zm6] at hbk
   ·obtain ⟨rfl,hdn,rfl,hcong⟩:=Zoy hst hq
    refine Zdh (hcong ρ' L' hag) hs ?_
    have hput:∀ r:Env,YT r (T.op i).dst (.d .undef)=r:=fun r=>by rw [hdn]; rfl
    have hb:=inv.bar (s2:=s1) (B2:=B2) hm hdis hi hir hd (fun a ha=>⟨(hfree a ha).1,(hfree a ha).2.1⟩) (.d .undef) (L2:=L1) (L2':=L') (fun x hx=>hx) (fun x hx=>hx) (fun a ha hla hpe=>by
     rw [hput]; exact (hpe.keep (hkB.resolve_right (by cases hkk:(T.op i).k <;> rw [hkk] at hq <;> simp [ZcJ,ZkS] at hq <;> simp [Qb])) (hfree a ha).2.2 (fun _ _=>rfl)).more (fun b _ hb=>hsubB b hb))
    rw [hput,hput] at hb
    exact h T ms fl _ rest is _ _ _ hm hc' hdis' rfl hb sch
theorem Zmn {F:Fr P} {kp:Option (List Nat)} {dk:List ZR} {o:DOp} {f:Bool} {os:List (DOp × Bool)} {ρ:Env} {L:Loc} {s:St} {B:List Rd} {side:Prop} {pre:Nat→Prop} {ρf:Nat→Env} {sf:Nat→St} (hst:YK o ρ L s = .all side pre ρf sf) (hs:side)
  (h:∀ b,pre b→KO f s (sf b) L L B∧DOA F kp dk os (ρf b) L (sf b) (Qp f B)):DOA F kp dk ((o,f) :: os) ρ L s B:=by
 obtain ⟨hp,t,ef,hdt,rfl,hcong⟩:=Zod hst
 refine Zdf (fun e s2=>∃ b,pre b∧e=ef b∧s2=sf b) hp (fun ρ' L' os' hag hcont=>?_) (fun e s2 ⟨b,hb,he,h2⟩=>?_)
 ·refine ZlT (hcong ρ' L' hag) hs fun b hb=>?_
  have:=hcont (ef b) (sf b) ⟨b,hb,rfl,rfl⟩
  rw [hdt] at this; exact this
 ·subst he; subst h2
  have:=h b hb
  rw [hdt]; exact this
theorem ZgQ {F:Fr P} {ks:List Nat} {dk:List ZR}:∀ {os:List (DOp × Bool)} {ρ:Env} {L:Loc} {s:St} {B:List Rd},
  ZeR (fun ρ L s=>ZU F dk (KV ρ ks) (Zb4 (KV ρ ks) L) s) (fun os ρ L s B=>DOA F (some ks) dk os ρ L s B) os ρ L s B→DOA F (some ks) dk os ρ L s B
 | [],ρ,L,s,B,h=>Zmv h
 | (o,f) :: os,ρ,L,s,B,h=>by
  simp only [ZeR] at h
  split at h
  ·rename_i sd ρ' L' s' hst
   by_cases hp:Qb o.k=true
   ·rw [if_pos hp] at h
    exact ZhS hst h.1 (by rw [if_pos hp]; exact ZgQ h.2)
   ·rw [if_neg hp] at h
    exact ZhS hst h.1 (by rw [if_neg hp]; exact ⟨h.2.1,ZgQ h.2.2⟩)
  ·rename_i sd pre ρ' s' hst
   exact Zmn hst h.1 fun b hb=>⟨(h.2 b hb).1,ZgQ (h.2 b hb).2⟩
  ·exact h
end
end Go.DL
namespace Go.DL
open Go
theorem ZeK {bs:List Nat}:∀ {ds:List Nat} {a:Nat},(ZbR bs ds).testBit a=true→∃ d∈ds,a=d∨(bs.getD d 0).testBit a=true
 | [],a,h=>by simp [ZbR] at h
 | d :: ds,a,h=>by
  simp only [ZbR,Nat.testBit_or,Bool.or_eq_true] at h
  rcases h with (h | h) | h
  ·exact ⟨d,by simp,.inr h⟩
  ·refine ⟨d,by simp,.inl ?_⟩
   rw [Nat.one_shiftLeft,Nat.testBit_two_pow] at h
   exact (of_decide_eq_true h).symm
  ·obtain ⟨d',h1,h2⟩:=ZeK h
   exact ⟨d',by simp [h1],h2⟩
theorem ZkN (l:Nat→Bool) (all:List (List Nat)) (hcl:∀ i,i < all.length→l i=true→∀ d∈all.getD i [],l d=true) :
  ∀ (r:List (List Nat)) (acc:List Nat) (pre:List (List Nat)),all=pre++r→acc.length=pre.length →
   (∀ i,i < acc.length→(∀ d∈all.getD i [],l d=true)→∀ a,(acc.getD i 0).testBit a=true→l a=true) →
   ∀ i,i < all.length→(∀ d∈all.getD i [],l d=true)→∀ a,((ZgZ r acc).getD i 0).testBit a=true→l a=true
 | [],acc,pre,hall,hlen,hacc=>by
  intro i hi
  simp only [ZgZ]
  exact hacc i (by rw [hlen]; simp only [hall,List.append_nil] at hi; exact hi)
 | d :: r,acc,pre,hall,hlen,hacc=>by
  simp only [ZgZ]
  refine ZkN l all hcl r (acc++[ZbR acc d]) (pre++[d]) (by simp [hall]) (by simp [hlen]) fun i hi hd a ha=>?_
  simp only [List.length_append,List.length_cons,List.length_nil] at hi
  by_cases hia:i < acc.length
  ·have e:(acc++[ZbR acc d]).getD i 0=acc.getD i 0:=by simp [List.getD,List.getElem?_append,hia]
   rw [e] at ha
   exact hacc i hia hd a ha
  ·have hie:i=acc.length:=by omega
   subst hie
   have e:(acc++[ZbR acc d]).getD acc.length 0=ZbR acc d:=by simp [List.getD]
   rw [e] at ha
   have e2:all.getD acc.length []=d:=by rw [hall,hlen]; simp [List.getD]
   rw [e2] at hd
   obtain ⟨d',h1,h2⟩:=ZeK ha
   rcases h2 with rfl | h2
   ·exact hd a h1
   ·by_cases hlt:d' < acc.length
    ·exact hacc d' hlt (hcl d' (by rw [hall]; simp; omega) (hd d' h1)) a h2
    ·have:acc.getD d' 0=0:=by simp [List.getD,List.getElem?_eq_none (Nat.le_of_not_lt hlt)]
     rw [this] at h2; simp at h2
def cnt (l:Nat→Bool):Nat→Nat
 | 0=>0
 | n + 1=>cnt l n + if l n then 0 else 1
theorem ZkT {l l':Nat→Bool}:∀ {n:Nat},(∀ i,i < n→l' i=l i)→cnt l' n=cnt l n
 | 0,_=>rfl
 | n + 1,h=>by
  have:=ZkT (l:=l) (l':=l') (n:=n) fun i hi=>h i (by omega)
  simp only [cnt,h n (by omega),this]
theorem Zmy {l:Nat→Bool} {i:Nat}:∀ {n:Nat},i < n→l i=false→cnt (fun j=>j == i || l j) n + 1=cnt l n
 | n + 1,hi,hl=>by
  by_cases hn:i=n
  ·subst hn
   have:cnt (fun j=>j == i || l j) i=cnt l i:=ZkT fun j hj=>by
    have:¬ j=i:=by omega
    simp [this]
   simp [cnt,this,hl]
  ·have h:=Zmy (n:=n) (by omega) hl
   have hni:¬ n=i:=fun h=>hn h.symm
   have:(n == i || l n)=l n:=by simp [hni]
   simp only [cnt,this]; omega
theorem Zlf {l:Nat→Bool}:∀ {n:Nat},cnt l n=0→∀ i,i < n→l i=true
 | n + 1,h,i,hi=>by
  simp only [cnt] at h
  by_cases hn:i=n
  ·subst hn
   cases hl:l i
   ·simp [hl] at h
   ·rfl
  ·exact Zlf (n:=n) (by omega) i (by omega)
theorem Zn1 (l:Nat→Bool):∀ n,cnt l n≤n
 | 0=>Nat.le_refl _
 | n + 1=>by have:=Zn1 l n; simp only [cnt]; split <;> omega
theorem Zoh {ops:Array Oper} {listed:Array Bool} {i:Nat} (h:i∈Region.ready .any ops listed) :
  ∃ o,ops[i]? = some o∧listed.getD i true=false∧∀ d∈Za6 o,listed.getD d false=true:=by
 simp only [Region.ready,List.mem_filter,List.mem_range,Bool.and_eq_true,Bool.not_eq_true'] at h
 obtain ⟨hi,hl,ha⟩:=h
 refine ⟨ops[i],by simp [hi],hl,fun d hd=>?_⟩
 simp only [hi,Array.getElem?_eq_getElem,Option.map_some,Option.getD_some,Array.all_eq_true] at ha
 simp only [Za6,List.mem_map,List.mem_filter] at hd
 obtain ⟨e,⟨he,hb⟩,rfl⟩:=hd
 obtain ⟨n,hn,hen⟩:=List.getElem_of_mem he
 have hn':n < ops[i].after.size:=by simpa using hn
 have h2:=ha n hn'
 have:ops[i].after[n]=e:=by rw [← hen]; simp
 rw [this] at h2
 simpa [hb] using h2
theorem Zoa {ops:Array Oper} {listed:Array Bool} {i:Nat} {o:Oper} (ho:ops[i]? = some o) (hl:listed.getD i true=false) (hd:∀ d∈Za6 o,listed.getD d false=true):i∈Region.ready .any ops listed:=by
 obtain ⟨hi,rfl⟩:=Array.getElem?_eq_some_iff.1 ho
 simp only [Region.ready,List.mem_filter,List.mem_range,Bool.and_eq_true,Bool.not_eq_true']
 refine ⟨hi,hl,?_⟩
 simp only [hi,Array.getElem?_eq_getElem,Option.map_some,Option.getD_some,Array.all_eq_true]
 intro n hn
 cases hb:Region.binds .any ops[i].after[n]
 ·simp
 ·simp only [Bool.not_true,Bool.false_or]
  exact hd _ (by
   simp only [Za6,List.mem_map,List.mem_filter]
   exact ⟨_,⟨by simp,hb⟩,rfl⟩)
theorem ZqI {ops:Array Oper} {T:Tab} (hT:T.length=ops.size) (hdep:∀ i o,ops[i]? = some o→T.deps i=Za6 o) (hlt:∀ i,i < T.length→∀ d∈T.deps i,d < i) :
  ∀ (fuel t:Nat) (listed:Array Bool),listed.size=ops.size→cnt (fun j=>listed.getD j false) ops.size≤fuel →
   Sch T (fun j=>listed.getD j false) (Region.linearise.go .any ops fuel t listed []):=by
 have hready:∀ listed:Array Bool,listed.size=ops.size→Region.ready .any ops listed=[]→∀ i,i < ops.size→listed.getD i false=true:=by
  intro listed hsz hr i
  induction i using Nat.strongRecOn with
  | ind i ih =>
   intro hi
   cases hl:listed.getD i false
   ·exfalso
    have hi':i < listed.size:=by omega
    have hlt':listed.getD i true=false:=by simpa [Array.getD,hi'] using hl
    have hm:i∈Region.ready .any ops listed:=Zoa (o:=ops[i]) (by simp [hi]) hlt' fun d hd=>by
     have hdi:d < i:=hlt i (by omega) d (by rw [hdep i ops[i] (by simp [hi])]; exact hd)
     exact ih d hdi (by omega)
    rw [hr] at hm; simp at hm
   ·rfl
 intro fuel
 induction fuel with
 | zero =>
  intro t listed hsz hc
  simp only [Region.linearise.go,List.reverse_nil]
  exact .nil fun i hi=>Zlf (Nat.le_zero.1 hc) i (by omega)
 | succ fuel ih =>
  intro t listed hsz hc
  simp only [Region.linearise.go]
  change Sch T _ (match (Region.ready .any ops listed)[t % (Region.ready .any ops listed).length]? with
   | some i=>Region.linearise.go .any ops fuel (t / (Region.ready .any ops listed).length) (listed.setIfInBounds i true) [i]
   | none=>[].reverse)
  cases hi:(Region.ready .any ops listed)[t % (Region.ready .any ops listed).length]? with
  | none =>
   have hnil:Region.ready .any ops listed=[]:=by
    cases hr:Region.ready .any ops listed with
    | nil=>rfl
    | cons x xs =>
     rw [hr] at hi
     have hl:t % (x :: xs).length < (x :: xs).length:=Nat.mod_lt _ (by simp)
     rw [List.getElem?_eq_getElem hl] at hi; simp at hi
   exact .nil fun i hi'=>hready listed hsz hnil i (by omega)
  | some i =>
   simp only []
   rw [linearise_go_acc,List.reverse_singleton,List.singleton_append]
   obtain ⟨o,ho,hl,hd⟩:=Zoh (List.mem_of_getElem? hi)
   obtain ⟨his,-⟩:=Array.getElem?_eq_some_iff.1 ho
   have hisl:i < listed.size:=by omega
   have hlf:listed.getD i false=false:=by simpa [Array.getD,hisl] using hl
   have hfun:(fun j=>(listed.setIfInBounds i true).getD j false)=fun j=>j == i || listed.getD j false:=by
    funext j
    simp only [Array.getD_eq_getD_getElem?,Array.getElem?_setIfInBounds]
    by_cases hij:i=j
    ·subst hij; simp [hisl]
    ·have:¬ j=i:=fun h=>hij h.symm
     simp [hij,this]
   refine .cons (by omega) hlf (fun d hd'=>hd d (by rw [← hdep i o ho]; exact hd')) ?_
   rw [← hfun]
   refine ih _ _ (by simp [hsz]) ?_
   rw [hfun]
   have:=Zmy (l:=fun j=>listed.getD j false) his hlf
   omega
section
variable {P:Program}
theorem Zqa {an:Ann} {N:Nat} {c:Code} {order:List Nat} {os:List (DOp × Bool)} {ks:Option (List Nat)} (h:cc P an N c=some (.regD order os ks)) :
  ∃ id ops,c = .region id ops true∧ccD P an N id ops=some (order,os,ks):=by
 unfold cc at h; split at h <;> simp_all
 ·obtain ⟨a,b,c',h1,h2,h3,h4⟩:=h; exact ⟨_,_,⟨rfl,rfl⟩,by rw [h1]; simp [h2,h3,h4]⟩
 all_goals (split at h <;> simp at h)
end
end Go.DL
namespace Go.DL
open Go
theorem ZqG {T:Tab} {l:Nat→Bool} {is:List Nat} (h:Sch T l is):∀ i∈is,i < T.length:=by
 induction h with
 | nil h=>simp
 | cons hi hl hd t ih=>intro i hi'; rcases List.mem_cons.1 hi' with rfl | h; exact hi; exact ih i h
section
variable {P:Program}
theorem ZlA {N:Nat} {ops:Array Oper}:∀ {is:List Nat} {l:List DOp},Zaz P N ops is=some l→l.length=is.length∧∀ (j i:Nat),is[j]? = some i→∃ o d,ops[i]? = some o∧cop P N ops o=some d∧l[j]? = some d
 | [],l,h=>by simp only [Zaz,Option.some.injEq] at h; subst h; simp
 | i :: is,l,h=>by
  simp only [Zaz] at h
  split at h <;> (try (simp at h; done))
  rename_i o ho
  split at h <;> simp only [Option.some.injEq,reduceCtorEq] at h
  rename_i d ds hd hds
  subst h
  obtain ⟨h1,h2⟩:=ZlA hds
  refine ⟨by simp [h1],fun j i' hj=>?_⟩
  cases j with
  | zero=>simp only [List.getElem?_cons_zero,Option.some.injEq] at hj; subst hj; exact ⟨o,d,ho,hd,by simp⟩
  | succ j=>simp only [List.getElem?_cons_succ] at hj ⊢; exact h2 j i' hj
theorem ZmA {N:Nat} {ops:Array Oper} {f:Nat→DOp}:∀ {is:List Nat},(∀ i∈is,∃ o,ops[i]? = some o∧cop P N ops o=some (f i))→Zaz P N ops is=some (is.map f)
 | [],_=>rfl
 | i :: is,h=>by
  obtain ⟨o,h1,h2⟩:=h i (by simp)
  have:=ZmA (is:=is) fun j hj=>h j (by simp [hj])
  simp only [Zaz,h1,h2,this,List.map_cons]
theorem Zn4 (g:G) (w:World) (n:Nat):Ext g w g { w with drawn:=n }:=⟨Nat.le_refl _,fun _=>Nat.le_refl _,fun _ _ _=>rfl,fun _ _ h=>h,fun _ _=>rfl,fun _ _=>rfl,rfl,rfl,rfl,rfl⟩
theorem ZX.drawn {g:G} {ν:Nat→Nat} {w:World} {tmps:Array Value} {ρ:Env} {L:Loc} {s:St} (m:ZX g ν w tmps ρ L s) (n:Nat):ZX g ν { w with drawn:=n } tmps ρ L s:=by
 have hg:Zay g w g { w with drawn:=n }:=⟨Nat.le_refl _,fun _ _=>rfl,fun _ _=>rfl,fun b hb=>(m.st.fresh b hb).1,rfl,rfl,rfl,rfl⟩
 exact m.grow hg
theorem ZhB:∀ {n:Nat} {ds:List (List Nat)},Zie n ds=true→∀ i l,ds[i]? = some l→∀ d∈l,d < n + i
 | n,[],_,i,l,hi=>by simp at hi
 | n,x :: r,h,i,l,hi=>by
  simp only [Zie,Bool.and_eq_true,List.all_eq_true,decide_eq_true_eq] at h
  cases i with
  | zero=>simp only [List.getElem?_cons_zero,Option.some.injEq] at hi; subst hi; exact fun d hd=>h.1 d hd
  | succ i=>simp only [List.getElem?_cons_succ] at hi; intro d hd; have:=ZhB h.2 i l hi d hd; omega
theorem Wy {F:Fr P} {order:List Nat} {os:List (DOp × Bool)} {ks:Option (List Nat)} {dk:List ZR} {ρ:Env} {L:Loc} {s:St} (h:DOA F ks dk os ρ L s []):ZU F (.code (.regD order os ks) :: dk) ρ L s:=by
 intro k hk
 cases hk with
 | code hc ht =>
 obtain ⟨id,ops,rfl,hD⟩:=Zqa hc
 unfold ccD at hD
 split at hD <;> (try (simp at hD; done))
 rename_i l order' kp hcops _ _
 simp only at hD
 split at hD <;> simp only [Option.some.injEq,Prod.mk.injEq,reduceCtorEq] at hD
 rename_i hcond
 obtain ⟨rfl,rfl,rfl⟩:=hD
 simp only [Bool.and_eq_true] at hcond
 obtain ⟨⟨⟨hmix,hlt⟩,hperm⟩,hchk⟩:=hcond
 obtain ⟨hlen,hget⟩:=ZlA hcops
 simp only [List.length_range] at hlen
 generalize hds:ops.toList.map Za6=ds at hlt hchk h
 have hdl:ds.length=ops.size:=by rw [← hds]; simp
 generalize hT:List.zip l ds=T at hchk h
 have hTl:List.length T=ops.size:=by rw [← hT]; simp [hlen,hdl]
 have hTi:∀ (i:Nat) (o:Oper),ops[i]? = some o→∃ d,cop P F.N ops o=some d∧T[i]? = some (d,Za6 o):=by
  intro i o ho
  obtain ⟨hi,-⟩:=Array.getElem?_eq_some_iff.1 ho
  obtain ⟨o',d,h1,h2,h3⟩:=hget i i (by simp [hi])
  rw [ho] at h1
  obtain rfl:=Option.some.inj h1
  refine ⟨d,h2,?_⟩
  rw [← hT,List.getElem?_zip_eq_some]
  exact ⟨h3,by rw [← hds]; simp [ho]⟩
 have hdeps:∀ (i:Nat) (o:Oper),ops[i]? = some o→Tab.deps T i=Za6 o:=fun i o ho=>by
  obtain ⟨d,_,h2⟩:=hTi i o ho
  simp [Tab.deps,List.getD,h2]
 have hop:∀ i,i < List.length T→∃ o,ops[i]? = some o∧cop P F.N ops o=some (Tab.op T i):=fun i hi=>by
  have hi':i < ops.size:=by omega
  obtain ⟨d,h1,h2⟩:=hTi i ops[i] (by simp [hi'])
  exact ⟨ops[i],by simp [hi'],by simp [Tab.op,List.getD,h2,h1]⟩
 have hdl2:∀ i,i < List.length T→∀ d∈Tab.deps T i,d < i:=fun i hi d hd=>by
  have hi':i < ops.size:=by omega
  have he:=hdeps i ops[i] (by simp [hi'])
  have:=ZhB hlt i (Za6 ops[i]) (by rw [← hds]; simp [hi']) d (by rw [← he]; exact hd)
  omega
 have hdsT:∀ i,i < List.length T→ds.getD i []=Tab.deps T i:=fun i hi=>by
  have hi':i < ops.size:=by omega
  rw [hdeps i ops[i] (by simp [hi']),← hds]
  simp [List.getD,hi']
 intro g ν w tmps hN m
 refine F.T.back _ _ _ _ (.one stepR_region_draw) ?_
 refine F.T.ext g w g { w with drawn:=w.drawn + 1 } _ (Zn4 g w _) ?_
 have hsc:∀ t,Region.schedule (P.follows .mixedOrders) ops t=Region.linearise .any ops t:=fun t=>by simp [Region.schedule,hmix]
 rw [hsc]
 have hl0:∀ j,(Array.replicate ops.size false).getD j false=false:=fun j=>by
  simp only [Array.getD_eq_getD_getElem?,Array.getElem?_replicate]
  split <;> rfl
 have hsch:=ZqI (ops:=ops) (T:=T) hTl hdeps hdl2 ops.size (w.tape w.drawn (.order F.b.fn id)) (Array.replicate ops.size false) (by simp) (Zn1 _ _)
 have hDO:=h T (ZgZ ds []) ((F.an.get (id + 2000000)).getD []) [] order' _ _ ρ L ?_ hchk (by simp) rfl ?_ hsch
 ·refine hDO ops _ _ (ZmA fun i hi=>hop i (ZqG hsch i hi)) ht g ν _ tmps hN (m.drawn _)
 ·intro lf hcl i hi hd a ha
  refine ZkN lf ds (fun i hi hli d hd=>?_) ds [] [] rfl rfl (fun i hi=>by simp at hi) i (by omega) (fun d hd'=>hd d (by rw [← hdsT i hi]; exact hd')) a ha
  exact hcl i (by omega) hli d (by rw [← hdsT i (by omega)]; exact hd)
 ·refine ⟨fun i hi hli=>?_,fun r hr=>hl0 r,fun i hi h1 h2=>?_,by simp,by simp,by simp,fun t=>.inl rfl,by simp,fun x=>.inl rfl,by simp⟩
  ·rw [hl0] at hli; simp at hli
  ·exfalso
   simp only [Zn2,List.all_eq_true,List.mem_range,List.contains_eq_mem,decide_eq_true_eq] at hperm
   exact h1 (hperm i (by omega))
theorem ZdW {F:Fr P} {kp:Option (List Nat)} {dk:List ZR} {o:DOp} {f:Bool} {os:List (DOp × Bool)} {ρ:Env} {L:Loc} {s:St} {B:List Rd} (hg:Yd ρ o.guard=some true) {fx:Opd} {xs:List Opd} (hk:o.k = .call fx xs)
  {p q:Prop} {fd:D} {es:List E} {ds:List D} (hf:YC ρ true fx=some (q,.d fd)) (ha:Kn ρ true xs=some (p,es)) (hds:Qn es=some ds) (hp:p) (hq:q)
  {Ψ:Res→St→Prop} (hc:Q5 P fd ds s Ψ)
  (hret:∀ d s',Ψ (.ret d) s'→KO f s s' L L B∧DOA F kp dk os (YT ρ o.dst (.d d)) L s' (Qp f B)) (hpan:∀ d s',Ψ (.panic d) s'→K2 F [] [] d s'):DOA F kp dk ((o,f) :: os) ρ L s B:=by
 refine Zdf (fun e s'=>∃ d,e = .d d∧Ψ (.ret d) s') (by rw [hk]; rfl) (fun ρ' L' os' hag hcont=>?_) (fun e s2 ⟨d,he,hd⟩=>by subst he; exact hret d s2 hd)
 have h1:Yu ρ ρ' (WQ fx):=fun t ht=>hag t (by simp [Yo,hk,Kj,ht])
 have h2:Yu ρ ρ' (ZbS xs):=fun t ht=>hag t (by simp [Yo,hk,Kj,ht])
 have h3:Yu ρ ρ' (ZcI o.guard):=fun t ht=>hag t (by simp [Yo,ht])
 exact ZaH (by rw [Qz h3]; exact hg) hk (by rw [YX h1]; exact hf) (by rw [QT h2]; exact ha) hds hp hq hc (fun d s' hd=>hcont (.d d) s' ⟨d,rfl,hd⟩) (fun d s' hd=>(hpan d s' hd).weak _ _)
theorem JP {F:Fr P} {kp:Option (List Nat)} {dk:List ZR} {o:DOp} {f:Bool} {os:List (DOp × Bool)} {ρ:Env} {L:Loc} {s:St} {B:List Rd} (hg:Yd ρ o.guard=some true) {fx:Opd} {xs:List Opd} (hk:o.k = .call fx xs)
  {p q:Prop} {fi:FuncId} {first caps:List D} {es:List E} {ds:List D} (hf:YC ρ true fx=some (q,.d (.fn (.func fi) first caps))) (ha:Kn ρ true xs=some (p,es)) (hds:Qn es=some ds) (hp:p) (hq:q)
  {Ψ:Res→St→Prop} (hc:ZY P fi (first++ds++caps) s Ψ)
  (hret:∀ d s',Ψ (.ret d) s'→KO f s s' L L B∧DOA F kp dk os (YT ρ o.dst (.d d)) L s' (Qp f B)) (hpan:∀ d s',Ψ (.panic d) s'→K2 F [] [] d s'):DOA F kp dk ((o,f) :: os) ρ L s B :=
 ZdW hg hk hf ha hds hp hq hc.V hret hpan
theorem Zn7 {F:Fr P} {kp:Option (List Nat)} {dk:List ZR} {o:DOp} {f:Bool} {os:List (DOp × Bool)} {ρ:Env} {L:Loc} {s:St} {B:List Rd} (hg:Yd ρ o.guard=some true) {x:Opd} (hk:o.k = .panic x)
  {p:Prop} {t:TypeId} {d:D} (ha:YC ρ true x=some (p,.d (.iface t d))) (hp:p) (h:K2 F [] [] (.iface t d) s):DOA F kp dk ((o,f) :: os) ρ L s B:=by
 refine Zdf (fun _ _=>False) (by rw [hk]; rfl) (fun ρ' L' os' hag hcont=>?_) (fun e s2 h=>h.elim)
 have h1:Yu ρ ρ' (WQ x):=fun t ht=>hag t (by simp [Yo,hk,Kj,ht])
 have h3:Yu ρ ρ' (ZcI o.guard):=fun t ht=>hag t (by simp [Yo,ht])
 exact Zpo (by rw [Qz h3]; exact hg) hk (by rw [YX h1]; exact ha) hp (h.weak _ _)
theorem ZeS {F:Fr P} {kp:Option (List Nat)} {dk:List ZR} {o:DOp} {f:Bool} {os:List (DOp × Bool)} {ρ:Env} {L:Loc} {s:St} {B:List Rd} (hg:Yd ρ o.guard=some false) (hk:Qb o.k=false) {e:E}
  (h:DOA F kp dk os (YT ρ o.dst (.when false e)) L s (Qp f B)):DOA F kp dk ((o,f) :: os) ρ L s B:=by
 refine Zdf (fun e' s'=>e' = .when false e∧s'=s) hk (fun ρ' L' os' hag hcont=>?_) (fun e s2 ⟨h1,h2⟩=>by subst h1; subst h2; exact ⟨Zcx _ _ _ _,h⟩)
 have h3:Yu ρ ρ' (ZcI o.guard):=fun t ht=>hag t (by simp [Yo,ht])
 exact Zaj (by rw [Qz h3]; exact hg) (hcont _ _ ⟨rfl,rfl⟩)
theorem Zjl {F:Fr P} {kp:Option (List Nat)} {dk:List ZR} {o:DOp} {f:Bool} {os:List (DOp × Bool)} {ρ:Env} {L:Loc} {s:St} {B:List Rd} {c:Bool} (hg:Yd ρ o.guard=some c) {fx:Opd} {xs:List Opd} (hk:o.k = .call fx xs)
  {p q:Prop} {fi:FuncId} {first caps:List D} {es:List E} {ds:List D} (hf:YC ρ c fx=some (q,.d (.fn (.func fi) first caps))) (ha:Kn ρ c xs=some (p,es)) (hds:Qn es=some ds)
  {d:D} (hc:c=true→p∧q∧Yk P fi (first++ds++caps) d) (h:DOA F kp dk os (YT ρ o.dst (.when c (.d d))) L s (Qp f B)):DOA F kp dk ((o,f) :: os) ρ L s B:=by
 refine Zdf (fun e' s'=>e' = .when c (.d d)∧s'=s) (by rw [hk]; rfl) (fun ρ' L' os' hag hcont=>?_) (fun e s2 ⟨h1,h2⟩=>by subst h1; subst h2; exact ⟨Zcx _ _ _ _,h⟩)
 have h1:Yu ρ ρ' (WQ fx):=fun t ht=>hag t (by simp [Yo,hk,Kj,ht])
 have h2:Yu ρ ρ' (ZbS xs):=fun t ht=>hag t (by simp [Yo,hk,Kj,ht])
 have h3:Yu ρ ρ' (ZcI o.guard):=fun t ht=>hag t (by simp [Yo,ht])
 exact JI (by rw [Qz h3]; exact hg) hk (by rw [YX h1]; exact hf) (by rw [QT h2]; exact ha) hds hc (hcont _ _ ⟨rfl,rfl⟩)
theorem Kp {F:Fr P} {kp:Option (List Nat)} {dk:List ZR} {o:DOp} {f:Bool} {os:List (DOp × Bool)} {ρ:Env} {L:Loc} {s:St} {B:List Rd} (hg:Yd ρ o.guard=some true) {fx:Opd} {xs:List Opd} (hk:o.k = .call fx xs)
  {p q:Prop} {fi:FuncId} {first caps:List D} {es:List E} {ds:List D} (hf:YC ρ true fx=some (q,.d (.fn (.func fi) first caps))) (ha:Kn ρ true xs=some (p,es)) (hds:Qn es=some ds) (hp:p) (hq:q)
  {d:D} (hc:Yk P fi (first++ds++caps) d) (h:DOA F kp dk os (YT ρ o.dst (.d d)) L s (Qp f B)):DOA F kp dk ((o,f) :: os) ρ L s B :=
 JP hg hk hf ha hds hp hq (hc s) (fun d' s' ⟨h1,h2⟩=>by simp only [Res.ret.injEq] at h1; subst h1; subst h2; exact ⟨Zcx _ _ _ _,h⟩) (fun d' s' ⟨h1,_⟩=>by simp at h1)
end
end Go.DL
namespace Go.DL
open Go
section
variable {P:Program}
def ZcK (P:Program) (w:World) (size m:Nat) (x:Value) (news:List Value):Prop :=
 (∀ w2,(Builtin.lenOf x).run P w2 = .ok m w2)∧∀ w2:World,w2.heap=w.heap→(Builtin.firstCells size m x).run P w2 = .ok news.toArray w2
theorem ZnN {w:World} {t u ty e:TypeId} {tu:TypeDesc} {i:TypeInfo} (ht:P.underlying t=some (.slice e)) (hu:P.underlying u=some tu) (hnu:∀ k,tu≠.int k) (hi:P.info? e=some i) {base:Option Addr} {n cap:Nat} {x:Value}
  (hx:ZcK P w i.size 0 x []) (hroom:n≤cap):(Builtin.append_ #[t,u] ty #[.slice base n cap,x]).run P w = .ok (.slice base n cap) w:=by
 obtain ⟨h1,h2⟩:=hx
 have h2:=h2 w rfl
 have hz:(match tu with | .int _=>true | _=>false)=false:=by cases tu <;> first | rfl | exact absurd rfl (hnu _)
 cases base with
 | none=>simp [Builtin.append_,run_underlying ht,run_underlying hu,hz,sizeOf,typeInfo,hi,h1,h2,hroom]
 | some a=>simp [Builtin.append_,run_underlying ht,run_underlying hu,hz,sizeOf,typeInfo,hi,h1,h2,hroom,storeCells]
theorem Zpc {w:World} {t u ty e:TypeId} {tu:TypeDesc} {i:TypeInfo} (ht:P.underlying t=some (.slice e)) (hu:P.underlying u=some tu) (hnu:∀ k,tu≠.int k) (hi:P.info? e=some i) {g n cap m:Nat} {x:Value} {news:List Value}
  (hx:ZcK P w i.size m x news) {cur:Array Value} {T:TypeId} (hg:w.heap[g]? = some (.cells cur T (0,0))) (h1:∀ u∈news,u.oneCell'=true) (hroom:n + m≤cap) (hfit:n * i.size + news.length≤cur.size) :
  (Builtin.append_ #[t,u] ty #[.slice (some ⟨g,0,none⟩) n cap,x]).run P w =
   .ok (.slice (some ⟨g,0,none⟩) (n + m) cap) (w.setRow g (cur.toList.take (n * i.size)++news++cur.toList.drop (n * i.size + news.length)).toArray):=by
 obtain ⟨hx1,hx2⟩:=hx
 have hx2:=hx2 w rfl
 have hz:(match tu with | .int _=>true | _=>false)=false:=by cases tu <;> first | rfl | exact absurd rfl (hnu _)
 have hst:=run_storeCells_at P g (n * i.size) T news 0 cur w hg (by simpa using hfit) h1
 simp only [Nat.add_zero] at hst
 simp [Builtin.append_,run_underlying ht,run_underlying hu,hz,sizeOf,typeInfo,hi,hx1,hx2,hroom,Addr.add_lit,hst]
theorem Zpl {w:World} {t u ty e:TypeId} {tu:TypeDesc} {i:TypeInfo} {z:Value} (ht:P.underlying t=some (.slice e)) (hu:P.underlying u=some tu) (hnu:∀ k,tu≠.int k) (hi:P.info? e=some i) (hz':i.zero=some z)
  {base:Option Addr} {n cap m:Nat} {x:Value} {olds news:List Value} (hx:ZcK P w i.size m x news) (ho:∀ w2:World,w2.heap=w.heap→(Builtin.firstCells i.size n (.slice base n cap)).run P w2 = .ok olds.toArray w2)
  (hg:cap < n + m) (h63:((n + m:Nat):Int)≤9223372036854775807) (hfit:(n + m) * i.bytes≤140737488355328) :
  (Builtin.append_ #[t,u] ty #[.slice base n cap,x]).run P w =
   .ok (.slice (some ⟨w.heap.size,0,none⟩) (n + m) (grownCap w (n + m) cap e))
    (w.drew.alloc (.cells (olds++news++(Builtin.zeroCells z.cells (grownCap w (n + m) cap e - (n + m))).toList).toArray e)):=by
 obtain ⟨hx1,hx2⟩:=hx
 have hx2:=hx2 w.drew rfl
 have ho:=ho w.drew rfl
 have hz:(match tu with | .int _=>true | _=>false)=false:=by cases tu <;> first | rfl | exact absurd rfl (hnu _)
 have hn:¬ (n + m≤cap):=by omega
 have h63':¬ (9223372036854775807 < ((n:Int) + (m:Int))):=by omega
 have hf:=growslice_fits hg hfit
 have h48':¬ (281474976710656 < Builtin.nextslicecap (n + m) cap * i.bytes):=by omega
 simp [Builtin.append_,run_underlying ht,run_underlying hu,hz,sizeOf,typeInfo,zeroValue,hi,hz',hx1,hn,h63',h48',Question.forced,hx2,ho,newRow,grownCap]
 congr 2
 apply Array.ext'
 simp [List.append_assoc]
end
end Go.DL
namespace Go.DL
open Go
structure QB (g:G) (w:World) (sz n:Nat) (vals:List Value) (row:Nat→List D):Prop where
 len:vals.length=n * sz
 rlen:∀ i,i < n→(row i).length=sz
 rep:∀ (i j:Nat) (v:Value) (d:D),i < n→j < sz→vals[i * sz + j]? = some v→(row i)[j]? = some d→Rep g w v d
 one:∀ v∈vals,v.one1=true
def K0 (n:Nat) (row row2:Nat→List D):Nat→List D:=fun i=>if i < n then row i else row2 (i - n)
theorem QB.append {g:G} {w:World} {sz n m:Nat} {a b:List Value} {row row2:Nat→List D} (ha:QB g w sz n a row) (hb:QB g w sz m b row2):QB g w sz (n + m) (a++b) (K0 n row row2):={
 len:=by rw [List.length_append,ha.len,hb.len,Nat.add_mul]
 rlen i hi:=by
  unfold K0
  split
  ·rename_i h; exact ha.rlen i h
  ·exact hb.rlen (i - n) (by omega)
 rep i j v d hi hj hv hd:=by
  unfold K0 at hd
  split at hd
  ·rename_i h
   have:i * sz + j < a.length:=by
    rw [ha.len]
    have:=Nat.mul_le_mul_right sz (show i + 1≤n from h)
    rw [Nat.add_mul,Nat.one_mul] at this; omega
   rw [List.getElem?_append_left this] at hv
   exact ha.rep i j v d h hj hv hd
  ·rename_i h
   have e:i * sz + j - a.length=(i - n) * sz + j:=by
    rw [ha.len,Nat.sub_mul]
    have:=Nat.mul_le_mul_right sz (show n≤i by omega)
    omega
   have hge:a.length≤i * sz + j:=by
    rw [ha.len]
    have:=Nat.mul_le_mul_right sz (show n≤i by omega)
    omega
   rw [List.getElem?_append_right hge,e] at hv
   exact hb.rep (i - n) j v d (by omega) hj hv hd
 one v hv:=by
  rcases List.mem_append.1 hv with h | h
  ·exact ha.one v h
  ·exact hb.one v h }
theorem QB.mono {g g':G} {w w':World} {sz n:Nat} {a:List Value} {row:Nat→List D} (h:QB g w sz n a row) (e:Ext g w g' w'):QB g' w' sz n a row :=
 ⟨h.len,h.rlen,fun i j v d hi hj hv hd=>(h.rep i j v d hi hj hv hd).mono e,h.one⟩
theorem Zbo {w:World} {b o:Nat} {cs:Array Value} {T:TypeId} {fr:Nat × Nat} (h:w.heap[b]? = some (.cells cs T fr)):w.cell? ⟨b,o,none⟩=cs[o]?:=by
 unfold World.cell?; simp [h]
section
variable {P:Program}
theorem ZiB {g:G} {w:World} {v:Value} {t:Tok} {n sz:Nat} {row:Nat→List D} (h:Rep g w v (.sl t n sz row)) (hsz:0 < sz) :
  ∃ vals,QB g w sz n vals row∧ZcK P w sz n v vals:=by
 cases h with
 | sl0 a t s row ht =>
  refine ⟨[],⟨by simp,fun i hi=>by omega,fun i j v d hi=>by omega,by simp⟩,fun w2=>by simp [Builtin.lenOf],fun w2 _=>by cases a <;> simp [Builtin.firstCells,loadCells,loadCellsFrom]⟩
 | sl b o n cap s row t f hl hc hp hr one ht hcap hb =>
  let vals:=(List.range (n * sz)).map fun k=>f (k / sz) (k % sz)
  have hk:∀ k,k < n * sz→k / sz < n∧k % sz < sz:=fun k hk=>⟨(Nat.div_lt_iff_lt_mul hsz).2 hk,Nat.mod_lt _ hsz⟩
  have hvals:∀ k v,vals[k]? = some v→k < n * sz∧v=f (k / sz) (k % sz):=fun k v hv=>by
   simp only [vals,List.getElem?_map,Option.map_eq_some_iff] at hv
   obtain ⟨k',h1,h2⟩:=hv
   obtain ⟨h3,h4⟩:=List.getElem?_eq_some_iff.1 h1
   simp only [List.getElem_range] at h4
   subst h4
   exact ⟨by simpa using h3,h2.symm⟩
  refine ⟨vals,⟨by simp [vals],hl,fun i j v d hi hj hv hd=>?_,fun v hv=>?_⟩,fun w2=>by simp [Builtin.lenOf],fun w2 hw2=>?_⟩
  ·obtain ⟨_,rfl⟩:=hvals _ _ hv
   have e1:(i * sz + j) / sz=i:=by rw [Nat.mul_comm,Nat.mul_add_div hsz,Nat.div_eq_of_lt hj,Nat.add_zero]
   have e2:(i * sz + j) % sz=j:=by rw [Nat.mul_comm,Nat.mul_add_mod,Nat.mod_eq_of_lt hj]
   rw [e1,e2]
   exact hr i j d hi hd
  ·obtain ⟨k,hk',rfl⟩:=List.getElem_of_mem hv
   obtain ⟨h1,h2⟩:=hvals k _ (List.getElem?_eq_getElem hk')
   rw [h2]
   exact one _ _ (hk k h1).1 (hk k h1).2
  ·refine run_firstCells_some (P:=P) w2 sz n ⟨b,o,none⟩ n cap vals (by simp [vals]) fun k v hv=>?_
   obtain ⟨h1,h2⟩:=hvals k v hv
   have hadd:(⟨b,o,none⟩:Addr).add k=⟨b,o + k,none⟩:=QK b o k
   rw [hadd]
   have h3:=hc (k / sz) (k % sz) (hk k h1).1 (hk k h1).2
   have e:o + k / sz * sz + k % sz=o + k:=by rw [Nat.add_assoc,Nat.mul_comm,Nat.div_add_mod]
   rw [e] at h3
   rw [h2,← h3]
   unfold World.cell?; simp only [hw2]
theorem ZeX {g:G} {w:World} {sz n cap b:Nat} {vals:List Value} {row:Nat→List D} (h:QB g w sz n vals row) {cur:Array Value} {T:TypeId} (hb:w.heap[b]? = some (.cells cur T (0,0)))
  (ht:cur.toList.take (n * sz)=vals) (hn:n≤cap) (hcap:cap * sz≤cur.size) (hp:g.prot b=n * sz) (hbig:cap≤big):Rep g w (.slice (some ⟨b,0,none⟩) n cap) (.sl (.tip b) n sz row):=by
 have hidx:∀ i j,i < n→j < sz→i * sz + j < n * sz:=fun i j hi hj=>by
  have:=Nat.mul_le_mul_right sz (show i + 1≤n from hi)
  rw [Nat.add_mul,Nat.one_mul] at this; omega
 have hle:n * sz≤cur.size:=Nat.le_trans (Nat.mul_le_mul_right sz hn) hcap
 have hcell:∀ i j,i < n→j < sz→cur[i * sz + j]? = some (cur.getD (i * sz + j) undef)∧vals[i * sz + j]? = some (cur.getD (i * sz + j) undef):=fun i j hi hj=>by
  have h1:=hidx i j hi hj
  have h2:i * sz + j < cur.size:=by omega
  have e:cur[i * sz + j]? = some (cur.getD (i * sz + j) undef):=by simp [Array.getD,h2]
  refine ⟨e,?_⟩
  rw [← ht,List.getElem?_take,if_pos h1,Array.getElem?_toList]; exact e
 refine .sl b 0 n cap sz row (.tip b) (fun i j=>cur.getD (i * sz + j) undef) h.rlen (fun i j hi hj=>?_) (fun i j hi hj=>?_) (fun i j d hi hd=>?_) (fun i j hi hj=>?_) ⟨rfl,rfl,T,cur.size,?_,hcap⟩ hn hbig
 ·rw [Zbo hb,Nat.zero_add]; exact (hcell i j hi hj).1
 ·rw [hp,Nat.zero_add]; exact hidx i j hi hj
 ·have hj:j < sz:=by rw [← h.rlen i hi]; exact (List.getElem?_eq_some_iff.1 hd).1
  exact h.rep i j _ d hi hj (hcell i j hi hj).2 hd
 ·exact h.one _ (List.mem_of_getElem? (hcell i j hi hj).2)
 ·simp [hdr,hb]
end
end Go.DL
namespace Go.DL
open Go
def St.own (s:St) (t:Tok) (k:Nat):St :=
 match t with
 | .tip b=>s.upd b (.tip k)
 | _=>s
def Tok.okIn (t:Tok) (s:St):Prop :=
 match t with
 | .tip b=>s b=Option.none
 | .full=>True
 | .none=>False
theorem ZM {s:St} {t:Tok} {k:Nat} (h:t.okIn s):s.sub (s.own t k):=by
 intro b o ho
 cases t with
 | tip c =>
  simp only [St.own,St.upd]
  by_cases hb:b=c
  ·subst hb; simp only [Tok.okIn] at h; rw [h] at ho; simp at ho
  ·simp only [hb,if_false]; exact ho
 | _=>exact ho
theorem Kg.upd {g:G} {s:St} {w:World} (h:Kg g s w) {b:Nat} {o:Kq} (ho:Qr g w b o) (hk:¬ g.kept b):Kg g (s.upd b o) w:={
 obj c x hx:=by
  simp only [St.upd] at hx
  by_cases hb:c=b
  ·simp only [hb,if_true,Option.some.injEq] at hx; subst hx; rw [hb]; exact ho
  ·simp only [hb,if_false] at hx; exact h.obj c x hx
 kept c x hx:=by
  simp only [St.upd] at hx
  by_cases hb:c=b
  ·rw [hb]; exact hk
  ·simp only [hb,if_false] at hx; exact h.kept c x hx
 fresh:=h.fresh }
def J0 (g:G) (b k:Nat):G:={ g with prot:=fun c=>if c=b then k else g.prot c }
theorem ZoD {g:G} {w:World} (c:Array Value) (T:TypeId) (k:Nat) (hf:∀ b,w.heap.size≤b→g.prot b=0∧¬ g.kept b):Zay g w (J0 g w.heap.size k) (w.drew.alloc (.cells c T)):={
 size:=by simp
 old b hb:=(by first | exact heap_alloc_old w.drew _ b hb | exact heap_alloc_old w.drew _ hb)
 prot b hb:=by simp [J0,show ¬ b=w.heap.size by omega]
 fresh b hb:=by
  have:(w.drew.alloc (.cells c T)).heap.size=w.heap.size + 1:=by simp
  rw [this] at hb
  simp only [J0,show ¬ b=w.heap.size by omega,if_false]
  exact (hf b (by omega)).1
 kept:=rfl
 os:=rfl
 output:=rfl
 tape:=rfl }
theorem Rep.slRow {g:G} {w:World} {v:Value} {t:Tok} {n sz:Nat} {row row':Nat→List D} (h:Rep g w v (.sl t n sz row)) (hr:∀ i,i < n→row' i=row i):Rep g w v (.sl t n sz row'):=by
 cases h with
 | sl0 a t s row ht=>exact .sl0 a t sz row' ht
 | sl b o n cap s row t f hl hc hp hrep one ht hcap hb =>
  exact .sl b o n cap sz row' t f (fun i hi=>by rw [hr i hi]; exact hl i hi) hc hp (fun i j d hi hd=>hrep i j d hi (by rw [← hr i hi]; exact hd)) one ht hcap hb
section
variable {P:Program}
theorem ZmE {g:G} {w:World} {s:St} {sz k:Nat} {vals rest:List Value} {row:Nat→List D} {T:TypeId} {cap:Nat} (hs:Kg g s w) (hr:QB g w sz k vals row) (hn:k≤cap) (hrest:vals.length + rest.length=cap * sz) (hbig:cap≤big) :
  let w':=w.drew.alloc (.cells (vals++rest).toArray T)
  let g':=J0 g w.heap.size (k * sz)
  Zay g w g' w'∧Kg g' (s.own (.tip w.heap.size) (k * sz)) w'∧(Tok.tip w.heap.size).okIn s∧Rep g' w' (.slice (some ⟨w.heap.size,0,none⟩) k cap) (.sl (.tip w.heap.size) k sz row):=by
 intro w' g'
 have hg:Zay g w g' w':=ZoD _ T _ hs.fresh
 have hnew:w'.heap[w.heap.size]? = some (.cells (vals++rest).toArray T (0,0)):=heap_alloc_new w.drew _
 have hp:g'.prot w.heap.size=k * sz:=by simp [g',J0]
 have hle:k * sz≤(vals++rest).toArray.size:=by
  have:=Nat.mul_le_mul_right sz hn
  simp only [List.size_toArray,List.length_append]; omega
 refine ⟨hg,(hs.grow hg).upd ⟨hp,_,T,hnew,hle⟩ (fun h=>(hs.fresh _ (Nat.le_refl _)).2 h),?_,?_⟩
 ·simp only [Tok.okIn]
  cases hsb:s w.heap.size with
  | none=>rfl
  | some o=>have:=(hs.obj _ o hsb).lt; omega
 ·refine ZeX (hr.mono (hg.ext hs.fresh)) hnew ?_ hn ?_ hp hbig
  ·rw [← hr.len]; simp
  ·simp only [List.size_toArray,List.length_append]; omega
theorem ZnO {g:G} {w:World} {s:St} {t:Tok} {sz n m:Nat} {v1 v2:Value} {row row2:Nat→List D} {tT u ty e:TypeId} {tu:TypeDesc} {i:TypeInfo} {z:Value} (ht:P.underlying tT=some (.slice e)) (hu:P.underlying u=some tu) (hnu:∀ k,tu≠.int k)
  (hi:P.info? e=some i) (hz:i.zero=some z) (hsz:i.size=sz) (hzc:z.cells.size=sz) (h0:0 < sz) (hs:Kg g (s.own t (n * sz)) w) (hok:t.okIn s) (h1:Rep g w v1 (.sl t n sz row)) {news:List Value}
  (h2:QB g w sz m news row2) (h3:ZcK P w sz m v2 news) (hb:(n + m) * i.bytes≤140737488355328) (hbig:n + m≤big) :
  ∃ v' w' g' t',(Builtin.append_ #[tT,u] ty #[v1,v2]).run P w = .ok v' w'∧Ext g w g' w'∧Kg g' (s.own t' ((n + m) * sz)) w'∧t'.okIn s∧Rep g' w' v' (.sl t' (n + m) sz (K0 n row row2)) ∧
   (∀ b,b < w.heap.size→t≠.tip b→w'.heap[b]? = w.heap[b]?∧g'.prot b=g.prot b)∧∀ b,t' = .tip b→t = .tip b∨w.heap.size≤b:=by
 subst hsz
 have hs0:Kg g s w:=hs.sub (ZM hok)
 obtain ⟨olds,hr1,ho1,ho2⟩:=ZiB (P:=P) h1 h0
 have hrr:=hr1.append h2
 have grown:∀ base cap,v1 = .slice base n cap→cap < n + m→∃ v' w' g' t',(Builtin.append_ #[tT,u] ty #[v1,v2]).run P w = .ok v' w'∧Ext g w g' w'∧Kg g' (s.own t' ((n + m) * i.size)) w'∧t'.okIn s ∧
   Rep g' w' v' (.sl t' (n + m) i.size (K0 n row row2))∧(∀ b,b < w.heap.size→t≠.tip b→w'.heap[b]? = w.heap[b]?∧g'.prot b=g.prot b)∧∀ b,t' = .tip b→t = .tip b∨w.heap.size≤b:=by
  intro base cap hv hlt
  subst hv
  have hrun:=Zpl (ty:=ty) ht hu hnu hi hz h3 ho2 hlt (by simp only [big] at hbig; omega) hb
  have hge:=grownCap_ge w (n + m) cap e
  have hle:=grownCap_le_maxLen w (n + m) cap e (by simp only [big] at hbig; simp only [maxLen]; omega)
  have hn:=ZmE (T:=e) (rest:=(Builtin.zeroCells z.cells (grownCap w (n + m) cap e - (n + m))).toList) hs0 hrr hge (by
   simp only [Array.length_toList,size_zeroCells,hzc,hrr.len,← Nat.add_mul]; congr 1; omega) (by simp only [maxLen] at hle; simp only [big]; omega)
  obtain ⟨a1,a2,a3,a4⟩:=hn
  exact ⟨_,_,_,_,hrun,a1.ext hs0.fresh,a2,a3,a4,fun b hb _=>⟨a1.old b hb,a1.prot b hb⟩,fun b hb=>.inr (by simp only [Tok.tip.injEq] at hb; omega)⟩
 have stay:∀ base cap,v1 = .slice base n cap→m=0→n≤cap→∃ v' w' g' t',(Builtin.append_ #[tT,u] ty #[v1,v2]).run P w = .ok v' w'∧Ext g w g' w'∧Kg g' (s.own t' ((n + m) * i.size)) w'∧t'.okIn s ∧
   Rep g' w' v' (.sl t' (n + m) i.size (K0 n row row2))∧(∀ b,b < w.heap.size→t≠.tip b→w'.heap[b]? = w.heap[b]?∧g'.prot b=g.prot b)∧∀ b,t' = .tip b→t = .tip b∨w.heap.size≤b:=by
  intro base cap hv hm hle
  subst hv; subst hm
  have hne:news=[]:=List.eq_nil_of_length_eq_zero (by simpa using h2.len)
  subst hne
  exact ⟨_,_,g,t,ZnN (ty:=ty) ht hu hnu hi h3 hle,Ext.refl g w,hs,hok,h1.slRow fun i hi=>by simp only [K0,if_pos (show i < n from hi)],fun _ _ _=>⟨rfl,rfl⟩,fun b hb=>.inl hb⟩
 cases h1 with
 | sl0 a t s row htt =>
  by_cases hm:m=0
  ·exact stay a 0 rfl hm (Nat.le_refl _)
  ·exact grown a 0 rfl (by omega)
 | sl b o n cap sz row t f hl hc hp hr one htok hcap hb' =>
  have hgr:=grown (some ⟨b,o,none⟩) cap rfl
  have hst:=stay (some ⟨b,o,none⟩) cap rfl
  by_cases hm:m=0
  ·exact hst hm hcap
  by_cases hroom:n + m≤cap
  case neg=>exact hgr (by omega)
  cases t with
  | none=>exact hok.elim
  | full=>simp only [Zis] at htok; omega
  | tip tb =>
   obtain ⟨rfl,rfl,T0,m0,hh,hm0⟩:=htok
   have hobj:=hs.obj b (.tip (n * i.size)) (by simp [St.own,St.upd])
   have hkept:=hs.kept b (.tip (n * i.size)) (by simp [St.own,St.upd])
   obtain ⟨hp0,cur,T,hb1,hb2⟩:=hobj
   have hcs:cap * i.size≤cur.size:=by
    simp only [hdr,hb1,Option.some.injEq,Prod.mk.injEq] at hh
    omega
   have hfit:n * i.size + news.length≤cur.size:=by
    rw [h2.len,← Nat.add_mul]; exact Nat.le_trans (Nat.mul_le_mul_right _ hroom) hcs
   have hrun:=Zpc (ty:=ty) ht hu hnu hi h3 hb1 (fun v hv=>by rw [ZgO]; exact h2.one v hv) hroom hfit
   have hcells:∀ k v,(cur.toList.take (n * i.size))[k]? = some v→w.cell? ((⟨b,0,none⟩:Addr).add k)=some v:=fun k v hv=>by
    rw [QK,Zbo hb1,Nat.zero_add]
    rw [List.getElem?_take] at hv
    split at hv
    ·simpa using hv
    ·simp at hv
   have hol:olds=cur.toList.take (n * i.size):=by
    have h:=run_firstCells_some (P:=P) w i.size n ⟨b,0,none⟩ n cap (cur.toList.take (n * i.size)) (by simp; omega) hcells
    rw [ho2 w rfl] at h
    simpa using h
   generalize hnw:cur.toList.take (n * i.size)++news++cur.toList.drop (n * i.size + news.length)=nw at hrun
   have hnl:nw.length=cur.size:=by
    rw [← hnw]; simp only [List.length_append,List.length_take,List.length_drop,Array.length_toList]; omega
   have hh':=setRow_heap w b cur nw.toArray T (0,0) hb1
   have ho':∀ c,c≠b→(w.setRow b nw.toArray).heap[c]? = w.heap[c]?:=fun c hc=>setRow_other w b c _ hc
   have hsz':(w.setRow b nw.toArray).heap.size=w.heap.size:=by simp [World.setRow]
   have hk2:n * i.size≤(n + m) * i.size:=Nat.mul_le_mul_right _ (by omega)
   have hext:Ext g w (J0 g b ((n + m) * i.size)) (w.setRow b nw.toArray):=by
    refine ⟨by omega,fun c=>?_,fun c o ho=>?_,fun c x hx=>?_,fun c hc=>ho' c (fun h=>hkept (h ▸ hc)),fun c hc=>?_,rfl,rfl,rfl,rfl⟩
    ·simp only [J0]
     split
     ·rename_i h; rw [h,hp0]; exact hk2
     ·exact Nat.le_refl _
    ·by_cases hc:c=b
     ·subst hc
      rw [Zbo hh',Zbo hb1]
      rw [hp0] at ho
      have:o < (cur.toList.take (n * i.size)).length:=by simp; omega
      rw [List.getElem?_toArray,← hnw,List.append_assoc,List.getElem?_append_left this,List.getElem?_take,if_pos ho]
      simp
     ·exact ZaE (ho' c hc)
    ·by_cases hc:c=b
     ·subst hc
      simp only [hdr,hb1] at hx
      simp only [hdr,hh',List.size_toArray,hnl]; exact hx
     ·rw [Za5 (ho' c hc)]; exact hx
    ·simp only [J0]
     split
     ·rename_i h; exact absurd hc (h ▸ hkept)
     ·rfl
   have hp':(J0 g b ((n + m) * i.size)).prot b=(n + m) * i.size:=by simp [J0]
   refine ⟨_,_,J0 g b ((n + m) * i.size),.tip b,hrun,hext,?_,hok,?_,fun c _ hc=>?_,fun c hc=>.inl hc⟩
   ·refine ⟨fun c x hx=>?_,fun c x hx=>?_,fun c hc=>?_⟩
    ·by_cases hc:c=b
     ·subst hc
      simp only [St.own,St.upd,if_true,Option.some.injEq] at hx
      subst hx
      refine ⟨hp',_,T,hh',?_⟩
      simp only [List.size_toArray,hnl]
      exact Nat.le_trans (Nat.mul_le_mul_right _ hroom) hcs
     ·simp only [St.own,St.upd,hc,if_false] at hx
      exact (hs0.obj c x hx).mono hext (ho' c hc) (by simp [J0,hc])
    ·by_cases hc:c=b
     ·rw [hc]; exact hkept
     ·simp only [St.own,St.upd,hc,if_false] at hx
      exact hs0.kept c x hx
    ·rw [hsz'] at hc
     have hbl:b < w.heap.size:=(Array.getElem?_eq_some_iff.1 hb1).1
     simp only [J0,show ¬ c=b by omega,if_false]
     exact hs0.fresh c hc
   ·refine ZeX (hrr.mono hext) hh' ?_ hroom (by simp only [List.size_toArray,hnl]; exact hcs) hp' hb'
    have hl2:(olds++news).length=(n + m) * i.size:=hrr.len
    rw [← hnw,hol,← hl2,hol]
    exact List.take_left
   ·have:c≠b:=fun h=>hc (by rw [h])
    exact ⟨ho' c this,by simp [J0,this]⟩
end
end Go.DL
namespace Go.DL
open Go Go.Lib
def Zaw (s:Nat):D→Option (Nat × (Nat→List D))
 | .nilsl=>some (0,fun _=>[])
 | .sl _ m s' row=>if s'=s then some (m,row) else none
 | .str l=>if s=1 then some (l.length,fun i=>[.int .u8 ((l.getD i 0).toNat:Int)]) else none
 | _=>none
def Ze2 (s:Nat):D→Option (Tok × Nat × (Nat→List D))
 | .nilsl=>some (.full,0,fun _=>[])
 | .sl t n s' row=>if s'=s then some (t,n,row) else none
 | _=>none
theorem ZmF {g:G} {w:World} {v:Value} {d:D} {sz n:Nat} {t:Tok} {row:Nat→List D} (h:Rep g w v d) (he:Ze2 sz d=some (t,n,row)):Rep g w v (.sl t n sz row):=by
 cases d <;> simp only [Ze2,reduceCtorEq] at he
 ·simp only [Option.some.injEq,Prod.mk.injEq] at he
  obtain ⟨rfl,rfl,rfl⟩:=he
  cases h
  exact .sl0 _ _ _ _ (by simp)
 ·split at he <;> simp only [Option.some.injEq,Prod.mk.injEq,reduceCtorEq] at he
  rename_i hs
  obtain ⟨rfl,rfl,rfl⟩:=he
  subst hs; exact h
section
variable {P:Program}
theorem Zkh {op:Op} {e s b:Nat} {z:List D} {x y:Opd} (h:ck P op=some (.append e s b z x y)) :
  ∃ x' y' args ats t1 t2 tu,op = .call ⟨.builtin .append,args,ats⟩∧args.toList=[x',y']∧ats[0]? = some t1∧ats[1]? = some t2∧P.underlying t1=some (.slice e)∧P.underlying t2=some tu∧(∀ k,tu≠.int k) ∧
   Ws P e=some s∧ZaJ P e=some z∧b=P.bytesOf e∧Wm x'=some x∧Wm y'=some y∧0 < s∧z.length=s:=by
 unfold ck at h
 split at h
 ·simp at h
 ·split at h <;> (try (simp at h; done))
  all_goals (try (repeat' (split at h <;> (try (simp at h; done)))))
  all_goals
   simp only [Option.some.injEq,K.append.injEq] at h
   obtain ⟨rfl,rfl,rfl,rfl,rfl,rfl⟩:=h
  ·rename_i c _ _ hcal _ _ _ e' x' y' h0 hargs _ _ _ _ s' z' l' c' hs' hz' hx' hy' t2 el h1 hdec
   obtain ⟨t1,g1,g2⟩:=Option.bind_eq_some_iff.1 h0
   obtain ⟨t3,g3,g4⟩:=Option.bind_eq_some_iff.1 h1
   simp only [Bool.and_eq_true,decide_eq_true_eq] at hdec
   obtain ⟨callee,args,ats⟩:=c
   simp only at hcal
   subst hcal
   exact ⟨x',y',args,ats,t1,t3,_,rfl,hargs,g1,g3,g2,g4,fun k h=>by simp at h,hs',hz',rfl,hx',hy',hdec.1,hdec.2⟩
  ·rename_i c _ _ hcal _ _ _ e' x' y' h0 hargs _ _ _ _ s' z' l' c' hs' hz' hx' hy' t2 h1 hdec
   obtain ⟨t1,g1,g2⟩:=Option.bind_eq_some_iff.1 h0
   obtain ⟨t3,g3,g4⟩:=Option.bind_eq_some_iff.1 h1
   simp only [Bool.and_eq_true,decide_eq_true_eq] at hdec
   obtain ⟨callee,args,ats⟩:=c
   simp only at hcal
   subst hcal
   exact ⟨x',y',args,ats,t1,t3,_,rfl,hargs,g1,g3,g2,g4,fun k h=>by simp at h,hs',hz',rfl,hx',hy',hdec.1,hdec.2⟩
theorem ZoS {g:G} {w:World} {v:Value} {d:D} {sz m:Nat} {row:Nat→List D} (h:Rep g w v d) (he:Zaw sz d=some (m,row)) (h0:0 < sz):∃ news,QB g w sz m news row∧ZcK P w sz m v news:=by
 cases d with
 | nilsl =>
  simp only [Zaw,Option.some.injEq,Prod.mk.injEq] at he
  obtain ⟨rfl,rfl⟩:=he
  cases h
  exact ⟨[],⟨by simp,fun i hi=>by omega,fun i j v d hi=>by omega,by simp⟩,fun w2=>by simp [Builtin.lenOf],fun w2 _=>by simp [Builtin.firstCells]⟩
 | sl t n s' row' =>
  simp only [Zaw] at he
  split at he <;> simp only [Option.some.injEq,Prod.mk.injEq,reduceCtorEq] at he
  rename_i hs
  obtain ⟨rfl,rfl⟩:=he
  subst hs
  exact ZiB h h0
 | str l =>
  simp only [Zaw] at he
  split at he <;> simp only [Option.some.injEq,Prod.mk.injEq,reduceCtorEq] at he
  rename_i hs
  obtain ⟨rfl,rfl⟩:=he
  subst hs
  cases h with
  | str s _ hl hb =>
   subst hl
   have hsz:s.size=s.data.toList.length:=by rw [Array.length_toList]; rfl
   refine ⟨strCells s,⟨by simp [strCells],fun i hi=>rfl,fun i j v d hi hj hv hd=>?_,fun v hv=>by rw [← ZgO]; exact strCells_oneCell s v hv⟩,fun w2=>by simp only [Builtin.lenOf,Sem.run_pure,hsz],fun w2 _=>?_⟩
   ·obtain rfl:j=0:=by omega
    simp only [Nat.mul_one,Nat.add_zero,strCells,List.getElem?_map,Option.map_eq_some_iff] at hv
    obtain ⟨b,hb1,rfl⟩:=hv
    simp only [List.getElem?_cons_zero,Option.some.injEq] at hd
    subst hd
    have:s.data.toList.getD i 0=b:=by simp only [List.getD,hb1,Option.getD_some]
    rw [this]
    exact .int .u8 _ (Zli b)
   ·rw [← hsz]; exact run_firstCells_string w2 1 s
 | _=>simp [Zaw] at he
theorem Zka {F:Fr P} {kp:Option (List Nat)} {dk:List ZR} {o:DOp} {os:List DOp} {ρ:Env} {L:Loc} {s:St} (hg:Yd ρ o.guard=some true) {e sz b:Nat} {z:List D} {x y:Opd} (hk:o.k = .append e sz b z x y)
  {p q:Prop} {t:Tok} {n m:Nat} {row row2:Nat→List D} {dy:D} {dx:D} (hx:YC ρ true x=some (p,.d dx)) (hsl:Ze2 sz dx=some (t,n,row)) (hy:YC ρ true y=some (q,.d dy)) (hp:p) (hq:q) (hel:Zaw sz dy=some (m,row2)) (hok:t.okIn s)
  (hb:(n + m) * b≤140737488355328) (hbig:n + m≤big) (h:∀ t':Tok,t'.okIn s→DO F kp dk os (YT ρ o.dst (.d (.sl t' (n + m) sz (K0 n row row2)))) L (s.own t' ((n + m) * sz))) :
  DO F kp dk (o :: os) ρ L (s.own t (n * sz)):=by
 refine QD fun oo g ν w tmps ops i r k hoo hck hcg hdst hd hN M hr hkk=>?_
 have hw:=Ky M hcg hg
 have hnd:=KN hck (by rw [hk]; rfl)
 rw [hk] at hck
 obtain ⟨x',y',args,ats,t1,t2,tu,hop,hargs,ha1,ha2,hu1,hu2,hnu,hsz,hz,hbb,hx',hy',h0,hzl⟩:=Zkh hck
 subst hbb
 have hr1:Rep g w _ (.sl t n sz row):=ZmF (Kl M hx' rfl hx hp F.ds) hsl
 have hr2:Rep g w _ _:=Kl M hy' rfl hy hq F.ds
 obtain ⟨zv,hz1,hz2,hz3,ie,hie,hzz⟩:=Zca (g:=g) (w:=w) hz
 have hsize:ie.size=sz:=by simpa [Ws,hie] using hsz
 have hzlen:zv.cells.size=sz:=by have:=hz2.len; simp at this; omega
 have hby:P.bytesOf e=ie.bytes:=by simp [Program.bytesOf,hie]
 rw [hby] at hb
 obtain ⟨news,hn1,hn2⟩:=ZoS (P:=P) hr2 hel h0
 obtain ⟨v',w',g',t',a1,a2,a3,a4,a5,a6,a7⟩:=ZnO (ty:=oo.type) hu1 hu2 hnu hie hzz hsize hzlen h0 M.st hok hr1 hn1 hn2 hb hbig
 have hne:∀ l cs,ZI L l=some cs→t≠.tip (ν l):=fun l cs hl ht=>by
  have:=M.locSt l cs hl
  rw [ht] at this
  simp [St.own,St.upd] at this
 have hsn:∀ l cs,ZI L l=some cs→s (ν l)=none:=fun l cs hl=>by
  cases hx:s (ν l) with
  | none=>rfl
  | some o=>have:=ZM (k:=n * sz) hok _ _ hx; rw [M.locSt l cs hl] at this; simp at this
 have mm:ZX g' ν w' tmps ρ L (s.own t' ((n + m) * sz)):=by
  refine ⟨a3,fun l cs hl=>(M.loc l cs hl).mono a2 (a6 (ν l) (M.loc l cs hl).lt (hne l cs hl)).1 (a6 (ν l) (M.loc l cs hl).lt (hne l cs hl)).2,fun l cs hl=>by rw [a2.keptEq]; exact M.locKept l cs hl,fun l cs hl=>?_,M.inj,fun t e he=>(M.env t e he).mono a2⟩
  cases t' with
  | tip b =>
   have:¬ ν l=b:=fun hb=>by
    rcases a7 b rfl with h1 | h1
    ·exact hne l cs hl (by rw [hb]; exact h1)
    ·have:=(M.loc l cs hl).lt; omega
   simp only [St.own,St.upd,this,if_false]; exact hsn l cs hl
  | _=>exact hsn l cs hl
 refine QW hN hoo hdst hd hw hnd (v:=v') (w':=w') (e:=.d (.sl t' (n + m) sz (K0 n row row2))) ?_ a2 mm a5 (h t' a4 ops r k hr hkk)
 have hae:args = #[x',y']:=by apply Array.ext'; simpa using hargs
 have hats:∀ vs,Builtin.append_ ats oo.type vs=Builtin.append_ #[t1,t2] oo.type vs:=fun vs=>by
  unfold Builtin.append_; simp [ha1,ha2]
 unfold execOp
 simp only [hop,hae,resolve,invoke,builtin,Sem.run_bind,Sem.run_pure,Result.andThen_ok,List.map_toArray,List.map_cons,List.map_nil,hats,a1]
theorem ZiL {F:Fr P} {kp:Option (List Nat)} {dk:List ZR} {o:DOp} {fl:Bool} {os:List (DOp × Bool)} {ρ:Env} {L:Loc} {s:St} {B:List Rd} (hg:Yd ρ o.guard=some true) {e sz b:Nat} {z:List D} {x y:Opd} (hk:o.k = .append e sz b z x y)
  {p q:Prop} {t:Tok} {n m:Nat} {row row2:Nat→List D} {dy:D} {dx:D} (hx:YC ρ true x=some (p,.d dx)) (hsl:Ze2 sz dx=some (t,n,row)) (hy:YC ρ true y=some (q,.d dy)) (hp:p) (hq:q) (hel:Zaw sz dy=some (m,row2)) (hok:t.okIn s)
  (hb:(n + m) * b≤140737488355328) (hbig:n + m≤big) (h:∀ t':Tok,t'.okIn s→KO fl (s.own t (n * sz)) (s.own t' ((n + m) * sz)) L L B∧DOA F kp dk os (YT ρ o.dst (.d (.sl t' (n + m) sz (K0 n row row2)))) L (s.own t' ((n + m) * sz)) (Qp fl B)) :
  DOA F kp dk ((o,fl) :: os) ρ L (s.own t (n * sz)) B:=by
 refine Zdf (fun e' s'=>∃ t':Tok,t'.okIn s∧e' = .d (.sl t' (n + m) sz (K0 n row row2))∧s'=s.own t' ((n + m) * sz)) (by rw [hk]; rfl) (fun ρ' L' os' hag hcont=>?_) (fun e2 s2 ⟨t',h1,h2,h3⟩=>by subst h2; subst h3; exact h t' h1)
 have h1:Yu ρ ρ' (WQ x):=fun t ht=>hag t (by simp [Yo,hk,Kj,ht])
 have h2:Yu ρ ρ' (WQ y):=fun t ht=>hag t (by simp [Yo,hk,Kj,ht])
 have h3:Yu ρ ρ' (ZcI o.guard):=fun t ht=>hag t (by simp [Yo,ht])
 exact Zka (by rw [Qz h3]; exact hg) hk (by rw [YX h1]; exact hx) hsl (by rw [YX h2]; exact hy) hp hq hel hok hb hbig fun t' ht'=>hcont _ _ ⟨t',ht',rfl,rfl⟩
end
end Go.DL
namespace Go.DL
open Go
def ZaB (os:List DOp):List (DOp × Bool):=os.map fun o=>(o,false)
section
variable {P:Program}
def ZcW (F:Fr P) (kp:Option (List Nat)) (dk:List ZR) (os:List DOp) (ρ:Env) (L:Loc) (s:St):Prop:=∀ B,DOA F kp dk (ZaB os) ρ L s B
theorem KU {F:Fr P} {order:List Nat} {os:List DOp} {ks:Option (List Nat)} {dk:List ZR} {ρ:Env} {L:Loc} {s:St} (h:ZcW F ks dk os ρ L s):ZU F (.code (.regD order (ZaB os) ks) :: dk) ρ L s:=Wy (h [])
theorem Kz {F:Fr P} {ks:List Nat} {dk:List ZR}:∀ {os:List DOp} {ρ:Env} {L:Loc} {s:St},
  ZfT (fun ρ L s=>ZU F dk (KV ρ ks) (Zb4 (KV ρ ks) L) s) (fun os ρ L s=>ZcW F (some ks) dk os ρ L s) os ρ L s→ZcW F (some ks) dk os ρ L s
 | [],ρ,L,s,h=>fun B=>Zmv h
 | o :: os,ρ,L,s,h=>by
  intro B
  simp only [ZfT] at h
  split at h
  ·rename_i sd ρ' L' s' hst
   refine ZhS hst h.1 ?_
   split
   ·exact Kz h.2 _
   ·exact ⟨trivial,Kz h.2 _⟩
  ·rename_i sd pre ρ' s' hst
   exact Zmn hst h.1 fun b hb=>⟨trivial,Kz (h.2 b hb) _⟩
  ·exact h B
theorem Znd {F:Fr P} {kp:Option (List Nat)} {dk:List ZR} {o:DOp} {os:List DOp} {ρ:Env} {L:Loc} {s:St} (hg:Yd ρ o.guard=some true) {fx:Opd} {xs:List Opd} (hk:o.k = .call fx xs)
  {p q:Prop} {fd:D} {es:List E} {ds:List D} (hf:YC ρ true fx=some (q,.d fd)) (ha:Kn ρ true xs=some (p,es)) (hds:Qn es=some ds) (hp:p) (hq:q)
  {Ψ:Res→St→Prop} (hc:Q5 P fd ds s Ψ)
  (hret:∀ d s',Ψ (.ret d) s'→ZcW F kp dk os (YT ρ o.dst (.d d)) L s') (hpan:∀ d s',Ψ (.panic d) s'→K2 F [] [] d s'):ZcW F kp dk (o :: os) ρ L s :=
 fun B=>ZdW hg hk hf ha hds hp hq hc (fun d s' h=>⟨trivial,hret d s' h _⟩) hpan
theorem Zgd {F:Fr P} {kp:Option (List Nat)} {dk:List ZR} {o:DOp} {os:List DOp} {ρ:Env} {L:Loc} {s:St} (hg:Yd ρ o.guard=some true) {fx:Opd} {xs:List Opd} (hk:o.k = .call fx xs)
  {p q:Prop} {fi:FuncId} {first caps:List D} {es:List E} {ds:List D} (hf:YC ρ true fx=some (q,.d (.fn (.func fi) first caps))) (ha:Kn ρ true xs=some (p,es)) (hds:Qn es=some ds) (hp:p) (hq:q)
  {Ψ:Res→St→Prop} (hc:ZY P fi (first++ds++caps) s Ψ)
  (hret:∀ d s',Ψ (.ret d) s'→ZcW F kp dk os (YT ρ o.dst (.d d)) L s') (hpan:∀ d s',Ψ (.panic d) s'→K2 F [] [] d s'):ZcW F kp dk (o :: os) ρ L s :=
 Znd hg hk hf ha hds hp hq hc.V hret hpan
theorem ZmS {F:Fr P} {kp:Option (List Nat)} {dk:List ZR} {o:DOp} {os:List DOp} {ρ:Env} {L:Loc} {s:St} (hg:Yd ρ o.guard=some true) {x:Opd} (hk:o.k = .panic x)
  {p:Prop} {t:TypeId} {d:D} (ha:YC ρ true x=some (p,.d (.iface t d))) (hp:p) (h:K2 F [] [] (.iface t d) s):ZcW F kp dk (o :: os) ρ L s:=fun _=>Zn7 hg hk ha hp h
theorem Zmb {F:Fr P} {kp:Option (List Nat)} {dk:List ZR} {o:DOp} {os:List DOp} {ρ:Env} {L:Loc} {s:St} (hg:Yd ρ o.guard=some true) {e sz b:Nat} {z:List D} {x y:Opd} (hk:o.k = .append e sz b z x y)
  {p q:Prop} {t:Tok} {n m:Nat} {row row2:Nat→List D} {dy:D} {dx:D} (hx:YC ρ true x=some (p,.d dx)) (hsl:Ze2 sz dx=some (t,n,row)) (hy:YC ρ true y=some (q,.d dy)) (hp:p) (hq:q) (hel:Zaw sz dy=some (m,row2)) (hok:t.okIn s)
  (hb:(n + m) * b≤140737488355328) (hbig:n + m≤big) (h:∀ t':Tok,t'.okIn s→ZcW F kp dk os (YT ρ o.dst (.d (.sl t' (n + m) sz (K0 n row row2)))) L (s.own t' ((n + m) * sz))) :
  ZcW F kp dk (o :: os) ρ L (s.own t (n * sz)):=fun _=>ZiL hg hk hx hsl hy hp hq hel hok hb hbig fun t' ht'=>⟨trivial,h t' ht' _⟩
end
end Go.DL
namespace Go.DL
open Go
def Wi (l b:Nat):E→E
 | .d v=>.d v
 | .loc l' off=>if l'=l then .d (.ptr b off) else .loc l' off
 | .when c e=>.when c (Wi l b e)
def Yz (l b:Nat):Env→Env
 | []=>[]
 | (t,e) :: r=>(t,Wi l b e) :: Yz l b r
def delL (l:Nat):Loc→Loc
 | []=>[]
 | (k,c) :: r=>if k=l then delL l r else (k,c) :: delL l r
theorem ZhA (l b:Nat):∀ (ρ:Env) (t:Nat),Wh (Yz l b ρ) t=(Wh ρ t).map (Wi l b)
 | [],t=>rfl
 | (k,e) :: r,t=>by
  simp only [Yz,Wh]
  by_cases h:k=t
  ·simp [h]
  ·simp only [h,if_false]; exact ZhA l b r t
theorem ZeZ (l:Nat):∀ (L:Loc) (x:Nat),ZI (delL l L) x=if x=l then none else ZI L x
 | [],x=>by simp [delL,ZI]
 | (k,c) :: r,x=>by
  simp only [delL]
  by_cases h:k=l
  ·simp only [h,if_true,ZI,ZeZ l r x]
   by_cases hx:x=l
   ·simp [hx]
   ·simp [hx,show ¬ l=x from fun h=>hx h.symm]
  ·simp only [h,if_false,ZI,ZeZ l r x]
   by_cases hx:x=l
   ·subst hx; simp [h]
   ·simp [hx]
section
variable {P:Program}
theorem Yq.expose {g:G} {ν:Nat→Nat} {w:World} {L:Loc} {l:Nat} {v:Value} {e:E} (h:Yq g ν w L v e):Yq g ν w (delL l L) v (Wi l (ν l) e):=by
 induction e with
 | d x=>exact h
 | loc l' off =>
  obtain ⟨⟨cs,hcs⟩,rfl⟩:=h
  simp only [Wi]
  split
  ·rename_i hl; subst hl; exact Rep.ptr _ _
  ·rename_i hl; exact ⟨⟨cs,by rw [ZeZ,if_neg hl]; exact hcs⟩,rfl⟩
 | when c e ih=>exact ⟨fun hc=>ih (h.1 hc),h.2⟩
theorem ZX.expose {g:G} {ν:Nat→Nat} {w:World} {tmps:Array Value} {ρ:Env} {L:Loc} {s:St} (m:ZX g ν w tmps ρ L s) {l:Nat} {cs:List D} (hl:ZI L l=some cs) :
  s (ν l)=none∧ZX g ν w tmps (Yz l (ν l) ρ) (delL l L) (s.upd (ν l) (.cells cs)):=by
 have hsub:∀ l' cs',ZI (delL l L) l'=some cs'→l'≠l∧ZI L l'=some cs':=fun l' cs' h=>by
  rw [ZeZ] at h
  split at h
  ·simp at h
  ·exact ⟨‹_›,h⟩
 refine ⟨m.locSt l cs hl,⟨m.st.updL (o:=.cells cs) (m.loc l cs hl) (m.locKept l cs hl),fun l' cs' h=>m.loc l' cs' (hsub l' cs' h).2,fun l' cs' h=>m.locKept l' cs' (hsub l' cs' h).2,fun l' cs' h=>?_,fun a b ca cb ha hb hab=>m.inj a b ca cb (hsub a ca ha).2 (hsub b cb hb).2 hab,fun t e he=>?_⟩⟩
 ·obtain ⟨h1,h2⟩:=hsub l' cs' h
  have:ν l'≠ν l:=fun hh=>h1 (m.inj l' l cs' cs h2 hl hh)
  simp only [St.upd,this,if_false]; exact m.locSt l' cs' h2
 ·rw [ZhA] at he
  simp only [Option.map_eq_some_iff] at he
  obtain ⟨e0,h1,rfl⟩:=he
  exact (m.env t e0 h1).expose
theorem Yp {F:Fr P} {dk:List ZR} {ρ:Env} {L:Loc} {s:St} (l:Nat) {cs:List D} (hl:ZI L l=some cs) (h:∀ b,s b=none→ZU F dk (Yz l b ρ) (delL l L) (s.upd b (.cells cs))):ZU F dk ρ L s:=by
 intro k hk g ν w tmps hN m
 obtain ⟨h1,h2⟩:=m.expose hl
 exact h (ν l) h1 k hk g ν w tmps hN h2
def Jw:List Nat→List D→Env→Env
 | t :: ts,a :: as9,ρ=>Jw ts as9 ((t,.d a) :: ρ)
 | _,_,ρ=>ρ
def Zgz (P:Program) (c:Frame) (cs:List Frame) (Φ:Res→St→Prop):Znu P where
 T g w m:=∃ e w',Zep g w Φ e w'∧ZqJ P m c cs e w'
 back g w m m' hs h:=by
  obtain ⟨e,w',a,b⟩:=h
  refine ⟨e,w',a,?_⟩
  cases e with
  | returned v=>exact Steps.trans hs b
  | panicked ch=>exact Steps.trans hs b
  | outgrown=>exact b.elim
 ext g w g' w' m hx h:=by
  obtain ⟨e,w2,⟨g2,s2,r,d1,d2,d3,d4⟩,b⟩:=h
  exact ⟨e,w2,⟨g2,s2,r,hx.trans d1,d2,d3,d4⟩,b⟩
def Zcq (P:Program) (an:Ann) (fn:FuncId) (N l:Nat) (c:Frame) (cs:List Frame) (Φ:Res→St→Prop):Fr P where
 T:=Zgz P c cs Φ
 b:={ (default:Frame) with fn,kind:=.normal,roundOf:=some l }
 cs:=c :: cs
 N:=N
 ds:=[]
 an:=an
def Jx (F:Fr P) (l:Nat) (Φ:Res→St→Prop):Prop:=∃ an fn N c cs,F=Zcq P an fn N l c cs Φ
theorem Zau {w:World} {r:Nat} {o:Go.Loop} (hb:w.heap[r]? = some (.loop o)):(getObj r).run P w = .ok (.loop o) w:=by
 simp [getObj,Sem.run,hb]
theorem Zb3 {w:World} {r:Nat} {o:Obj} {o':Go.Loop} (hb:w.heap[r]? = some (.loop o')):(setObj r o).run P w = .ok () { w with heap:=w.heap.setIfInBounds r o }:=by
 simp [setObj,Sem.run,hb]
theorem Zqs {w:World} {b:Nat} {o':Obj} (o:Obj) (hb:w.heap[b]? = some o'):({ w with heap:=w.heap.setIfInBounds b o }:World).heap[b]? = some o:=by
 have:=(Array.getElem?_eq_some_iff.1 hb).1
 simp [Array.getElem?_setIfInBounds,this]
theorem ZX.loopTo {g:G} {ν:Nat→Nat} {w:World} {tmps:Array Value} {ρ:Env} {L:Loc} {s:St} (m:ZX g ν w tmps ρ L s) {l:Nat} {r:Qj} {st st':LSt} (hs:s l=some (.loop r st)) {lp:Go.Loop} (hh:w.heap[l]? = some (.loop lp))
  (lp':Go.Loop) (h1:lp'.fn=lp.fn∧lp'.params=lp.params∧lp'.assign=lp.assign∧lp'.body=lp.body∧lp'.defers=lp.defers∧lp'.tmps=lp.tmps)
  (h2:match st' with | .ready=>lp'.state = .ready∧lp'.pending=none | .busy=>lp'.state = .busy | .done j=>lp'.state = .done∧lp'.pending=some j) :
  Ext g w g { w with heap:=w.heap.setIfInBounds l (.loop lp') }∧ZX g ν { w with heap:=w.heap.setIfInBounds l (.loop lp') } tmps ρ L (s.upd l (.loop r st')):=by
 obtain ⟨hp,l0,a1,a2,a3,a4,a5,a6,a7,a8,a9⟩:=m.st.obj l _ hs
 rw [hh] at a1
 simp only [Option.some.injEq,Obj.loop.injEq] at a1
 subst a1
 obtain ⟨b1,b2,b3,b4,b5,b6⟩:=h1
 have he:=Zb1 (g:=g) (w:=w) l (.loop lp') (by simp [hdr,hh]) hp (m.st.kept l _ hs)
 refine ⟨he,m.named hs he (by simp) (fun c hc=>JZ _ hc) ⟨hp,lp',Zqs _ hh,by rw [b1,a2],by rw [b2,a3],by rw [b3,a4],by rw [b4,a5],by rw [b5,a6],by rw [b6]; exact a7,fun t e ht=>by rw [b6]; exact (a8 t e ht).mono he,h2⟩⟩
theorem Jx.begin {F:Fr P} {l:Nat} {Φ:Res→St→Prop} (hF:Jx F l Φ) {dk:List ZR} {ρ:Env} {L:Loc} {s:St} {r:Qj} (hs:s l=some (.loop r .ready)) (h:ZU F dk ρ L (s.upd l (.loop r .busy))):ZU F (.beginR :: dk) ρ L s:=by
 obtain ⟨an,fn,N,c,cs,rfl⟩:=hF
 intro k hk
 cases hk with
 | beginR ht =>
  intro g ν w tmps hN m
  obtain ⟨hp,l0,a1,a2,a3,a4,a5,a6,a7,a8,a9,a10⟩:=m.st.obj l _ hs
  obtain ⟨he,m'⟩:=m.loopTo (st':=.busy) hs a1 { l0 with state:=.busy } ⟨rfl,rfl,rfl,rfl,rfl,rfl⟩ rfl
  have hrun:(Instr.beginRound l).run P w = .ok () { w with heap:=w.heap.setIfInBounds l (.loop { l0 with state:=.busy }) }:=by
   simp [Instr.beginRound,Instr.getLoop,Zau a1,Zb3 a1,a9]
  refine (Zgz P c cs Φ).back _ _ _ _ (.one (stepR_beginRound rfl hrun)) ?_
  exact (Zgz P c cs Φ).ext _ _ _ _ _ he (h _ ht g ν _ tmps hN m')
theorem Zds {w:World} {l:Nat} {l0:Go.Loop} (h:w.heap[l]? = some (.loop l0)) (j:Option Code) :
  (Instr.endRound l j).run P w = .ok (.bool j.isNone) { w with heap:=w.heap.setIfInBounds l (.loop { l0 with state:=if j.isNone then .ready else .done,pending:=j }) }:=by
 simp [Instr.endRound,Instr.getLoop,Zau h,Zb3 h]
theorem Jx.fin {F:Fr P} {l:Nat} {Φ:Res→St→Prop} (hF:Jx F l Φ) {ρ:Env} {L:Loc} {s s':St} {r:Qj} (hs:s l=some (.loop r .busy)) (hsub:s'.sub (s.upd l (.loop r .ready))) (hΦ:Φ (.ret (.bool true)) s'):ZU F [] ρ L s:=by
 obtain ⟨an,fn,N,c,cs,rfl⟩:=hF
 intro k hk
 cases hk
 intro g ν w tmps hN m
 obtain ⟨hp,l0,a1,_⟩:=m.st.obj l _ hs
 obtain ⟨he,m'⟩:=m.loopTo (st':=.ready) hs a1 { l0 with state:=.ready,pending:=none } ⟨rfl,rfl,rfl,rfl,rfl,rfl⟩ ⟨rfl,rfl⟩
 exact ⟨.returned (.bool true),_,⟨g,s',.ret (.bool true),he,m'.st.sub hsub,.bool true,hΦ⟩,.one (stepR_round_end rfl rfl (Zds a1 none))⟩
theorem Jx.ret {F:Fr P} {l:Nat} {Φ:Res→St→Prop} (hF:Jx F l Φ) {dk:List ZR} {ρ:Env} {L:Loc} {s s':St} {r:Qj} (hs:s l=some (.loop r .busy)) (hsub:s'.sub (s.upd l (.loop r (.done .ret)))) (hΦ:Φ (.ret (.bool false)) s') :
  ZU F (.code .ret :: dk) ρ L s:=by
 obtain ⟨an,fn,N,c,cs,rfl⟩:=hF
 intro k hk
 cases hk with
 | code hc ht =>
  obtain rfl:=ZnU hc
  intro g ν w tmps hN m
  obtain ⟨hp,l0,a1,_⟩:=m.st.obj l _ hs
  obtain ⟨he,m'⟩:=m.loopTo (st':=.done .ret) hs a1 { l0 with state:=.done,pending:=some .ret } ⟨rfl,rfl,rfl,rfl,rfl,rfl⟩ ⟨rfl,rfl⟩
  exact ⟨.returned (.bool false),_,⟨g,s',.ret (.bool false),he,m'.st.sub hsub,.bool false,hΦ⟩,.one (stepR_round_ret rfl rfl (Zds a1 (some .ret)))⟩
theorem Jx.exit {F:Fr P} {l id:Nat} {Φ:Res→St→Prop} (hF:Jx F l Φ) {dk:List ZR} {ρ:Env} {L:Loc} {s s':St} {r:Qj} (hx:Jv id dk=none) (hs:s l=some (.loop r .busy)) (hsub:s'.sub (s.upd l (.loop r (.done (.exit id)))))
  (hΦ:Φ (.ret (.bool false)) s'):ZU F (.code (.exit id) :: dk) ρ L s:=by
 obtain ⟨an,fn,N,c,cs,rfl⟩:=hF
 intro k hk
 cases hk with
 | code hc ht =>
  obtain rfl:=Zmr hc
  intro g ν w tmps hN m
  obtain ⟨hp,l0,a1,_⟩:=m.st.obj l _ hs
  obtain ⟨he,m'⟩:=m.loopTo (st':=.done (.exit id)) hs a1 { l0 with state:=.done,pending:=some (.exit id) } ⟨rfl,rfl,rfl,rfl,rfl,rfl⟩ ⟨rfl,rfl⟩
  exact ⟨.returned (.bool false),_,⟨g,s',.ret (.bool false),he,m'.st.sub hsub,.bool false,hΦ⟩,.one (stepR_round_exit rfl rfl (ZaQ ht hx) (Zds a1 (some (.exit id))))⟩
theorem Jx.pan {F:Fr P} {l:Nat} {Φ:Res→St→Prop} (hF:Jx F l Φ) {ρ:Env} {L:Loc} {d:D} {s s':St} (hsub:s'.sub s) (hΦ:Φ (.panic d) s') (hfn:∀ an fn N c cs,F=Zcq P an fn N l c cs Φ→∃ f,P.funcs[fn]? = some f):K2 F ρ L d s:=by
 obtain ⟨an,fn,N,c,cs,rfl⟩:=hF
 intro g ν w v todo tmps hN m hr
 obtain ⟨f,hf⟩:=hfn an fn N c cs rfl
 refine ⟨.panicked [{ v,recovered:=false }],w,⟨g,s',.panic d,Ext.refl g w,m.st.sub hsub,⟨v,rfl,hr⟩,hΦ⟩,.one ?_⟩
 exact step_leave_panicked (P:=P) (fr:={ (Zcq P an fn N l c cs Φ).b.atR ⟨tmps,[]⟩ todo with mode:=.panicking [{ v,recovered:=false }] }) ⟨rfl,rfl,f,hf⟩
theorem ZiQ {g:G} {ν:Nat→Nat} {w:World} {L:Loc} {s:St} {N:Nat}:∀ {ps:List Nat} {ds:List D} {vs:List Value} {tmps:Array Value} {ρ:Env},ZX g ν w tmps ρ L s→YQ (Rep g w) vs ds→ds.length=ps.length→(∀ t∈ps,t < N)→N≤tmps.size →
  N≤((ps.zip vs).foldl (fun tmps (x:Nat × Value)=>tmps.setIfInBounds x.1 x.2) tmps).size∧ZX g ν w ((ps.zip vs).foldl (fun tmps (x:Nat × Value)=>tmps.setIfInBounds x.1 x.2) tmps) (Jw ps ds ρ) L s
 | [],_,_,tmps,ρ,m,_,_,_,hN=>by simpa [Jw] using ⟨hN,m⟩
 | t :: ps,[],_,tmps,ρ,m,_,hl,_,_=>by simp at hl
 | t :: ps,d :: ds,v :: vs,tmps,ρ,m,.cons h1 h2,hl,hp,hN=>by
  have m':=m.put (t:=t) (v:=v) (e:=.d d) (by have:=hp t (by simp); omega) h1
  simpa [Jw] using ZiQ m' h2 (by simpa using hl) (fun u hu=>hp u (by simp [hu])) (by simpa using hN)
def Za9:Env→Env
 | []=>[]
 | (t,e) :: r=>if (JH e).isEmpty then (t,e) :: Za9 r else Za9 r
def Zab (ks:List Nat) (ρ:Env):Env:=Za9 (KV ρ ks)
theorem ZeT:∀ {ρ:Env} {t:Nat} {e:E},(ρ.map (·.1)).Nodup→Wh (Za9 ρ) t=some e→Wh ρ t=some e∧JH e=[]
 | [],t,e,_,h=>by simp [Za9,Wh] at h
 | (k,x) :: r,t,e,hn,h=>by
  simp only [List.map_cons,List.nodup_cons] at hn
  simp only [Za9] at h
  split at h
  ·rename_i hx
   simp only [Wh] at h ⊢
   by_cases hk:k=t
   ·simp only [hk,if_true,Option.some.injEq] at h ⊢; subst h; exact ⟨rfl,by simpa using hx⟩
   ·simp only [hk,if_false] at h ⊢; exact ZeT hn.2 h
  ·obtain ⟨h1,h2⟩:=ZeT hn.2 h
   refine ⟨?_,h2⟩
   have hkt:k≠t:=fun hk=>by
    subst hk
    have:=Zei h1
    exact hn.1 (List.mem_map.2 ⟨_,this,rfl⟩)
   simp only [Wh,hkt,if_false]; exact h1
theorem Zng {g:G} {ν ν':Nat→Nat} {w:World} {L L':Loc} {v:Value} {e:E} (h:Yq g ν w L v e) (hl:JH e=[]):Yq g ν' w L' v e:=by
 induction e with
 | d x=>exact h
 | loc l o=>simp [JH] at hl
 | when c e ih=>exact ⟨fun hc=>ih (h.1 hc) hl,h.2⟩
def Fr.mark (F:Fr P) (q:Nat):Fr P:={ F with ds:=DD.def (.mark q) :: F.ds }
theorem ZjE {b:Frame} {a:Act} {k:List Item} {cs:List Frame} {w:World} {g:Operand} {ps:Array Tmp} {assign body:Code} {l:Nat} {mark:List Deferred} {w₁:World} {d:Deferred} {nx:Next} {fr:Frame}
  (he:(Instr.enterLoop b.fn a.tmps ps assign body b.roundOf).run P w = .ok (l,mark) w₁)
  (hres:(Deferred.ofValue (a.eval g) #[.func (.yield l) #[] #[]]).run P w₁ = .ok d w₁) (hinv:(invoke d.target d.args).run P w₁ = .ok nx w₁) (hnx:Zd8 P nx=some fr) :
  step P (lone (b.atR a (.code (.rangeFunc g ps assign body) :: k)) cs w) =
   .next (lone fr (b.atR { a with defers:=mark++a.defers } (.inRangeFunc l :: k) :: cs) w₁) :=
 step_lone_go (by
  have hev:=Frame.eval_atR b { a with defers:=mark++a.defers } (.inRangeFunc l :: k)
  simp only [Frame.atR] at hev
  have hres':Sem.run P (resolve ({ tmps:=a.tmps,defers:=mark++a.defers }:Act).eval { callee:=.value g,args:=#[.const (.func (.yield l) #[] #[])],argTypes:=#[] } 0) w₁ = .ok d w₁:=by
   simp only [resolve]
   have e1:({ tmps:=a.tmps,defers:=mark++a.defers }:Act).eval g=a.eval g:=by cases g <;> rfl
   have e2:Array.map ({ tmps:=a.tmps,defers:=mark++a.defers }:Act).eval #[Operand.const (Value.func (Fn.yield l) #[] #[])] = #[.func (.yield l) #[] #[]]:=by simp [Act.eval]
   rw [e1,e2]; exact hres
  cases nx <;> simp only [Zd8,Option.some.injEq,reduceCtorEq] at hnx <;> subst hnx <;>
   simp [stepG,stepG.exec,Frame.atR,Sem.runT_eq,he,GStep.bare_after,stepG.apply,hev,Sem.run_bind,hres',hinv,Result.andThen])
def Zj1 (F:Fr P) (l:Nat) (r:Qj) (dk:List ZR) (ρ:Env) (L:Loc) (s':St):Prop :=
 (s' l=some (.loop r .ready)∧ZU F dk ρ L (s'.del l))∨∃ j dj,s' l=some (.loop r (.done j))∧cc P F.an F.N j=some dj∧ZU F (.code dj :: dk) ρ L (s'.del l)
theorem ZhG {w:World} {l:Nat} {l0:Go.Loop} (h:w.heap[l]? = some (.loop l0)) (hb:l0.state≠.busy) :
  (Instr.endLoop l).run P w = .ok l0.pending { w with heap:=w.heap.setIfInBounds l (.loop { l0 with state:=.exhausted }) }:=by
 have:(l0.state == .busy)=false:=by
  cases hs:l0.state <;> first | rfl | exact absurd hs hb
 simp [Instr.endLoop,Instr.getLoop,Zau h,Zb3 h,hb]
theorem ZmL {F:Fr P} {l:Nat} {r:Qj} {dk:List ZR} {k:List Item} {ρ:Env} {L:Loc} {g:G} {ν:Nat→Nat} {w:World} {tmps:Array Value} {s':St} (hk:Qe P F.an F.N k dk) (hN:F.N≤tmps.size) (m:ZX g ν w tmps ρ L s')
  (h:Zj1 F l r dk ρ L s'):F.T.T g w (lone (F.b.atR ⟨tmps,F.ds⟩ (.endRangeFunc l :: k)) F.cs w):=by
 rcases h with ⟨hs,h⟩ | ⟨j,dj,hs,hj,h⟩
 ·obtain ⟨hp,l0,a1,a2,a3,a4,a5,a6,a7,a8,a9,a10⟩:=m.st.obj l _ hs
  have he:=Zb1 (g:=g) (w:=w) l (.loop { l0 with state:=.exhausted }) (by simp [hdr,a1]) hp (m.st.kept l _ hs)
  have m':=m.drop hs he (by simp) (fun c hc=>JZ _ hc)
  have hrun:(Instr.endLoop l).run P w = .ok none { w with heap:=w.heap.setIfInBounds l (.loop { l0 with state:=.exhausted }) }:=by rw [ZhG a1 (by rw [a9]; simp)]; simp [a10]
  refine F.T.back _ _ _ _ (.one (stepR_endRangeFunc hrun)) ?_
  exact F.T.ext _ _ _ _ _ he (h k hk g ν _ tmps hN m')
 ·obtain ⟨hp,l0,a1,a2,a3,a4,a5,a6,a7,a8,a9,a10⟩:=m.st.obj l _ hs
  have he:=Zb1 (g:=g) (w:=w) l (.loop { l0 with state:=.exhausted }) (by simp [hdr,a1]) hp (m.st.kept l _ hs)
  have m':=m.drop hs he (by simp) (fun c hc=>JZ _ hc)
  have hrun:(Instr.endLoop l).run P w = .ok (some j) { w with heap:=w.heap.setIfInBounds l (.loop { l0 with state:=.exhausted }) }:=by rw [ZhG a1 (by rw [a9]; simp)]; simp [a10]
  refine F.T.back _ _ _ _ (.one (stepR_endRangeFunc hrun)) ?_
  exact F.T.ext _ _ _ _ _ he (h _ (.code hj hk) g ν _ tmps hN m')
theorem KH.mark {F:Fr P} {rs:List RV} {Φ:Res→St→Prop} {dds:List DD} (hF:KH F rs Φ dds) (q:Nat):KH (F.mark q) rs Φ (.mark q :: dds):=by
 obtain ⟨an,f,df,cs,hf,hrs,rfl⟩:=hF
 exact ⟨an,f,df,cs,hf,hrs,rfl⟩
theorem KH.roundOf {F:Fr P} {rs:List RV} {Φ:Res→St→Prop} {dds:List DD} (hF:KH F rs Φ dds):F.b.roundOf=none:=by
 obtain ⟨an,f,df,cs,hf,hrs,rfl⟩:=hF
 rfl
end
end Go.DL
namespace Go.DL
open Go
section
variable {P:Program}
theorem Zox {op:Op} {f:Opd} {xs:List Opd} (h:ck P op=some (.defer f xs)):∃ f' args ats,op = .defer ⟨.value f',args,ats⟩∧Wm f'=some f∧Zbc args.toList=some xs:=by
 unfold ck at h
 split at h
 ·simp at h
 ·split at h <;> (try (simp at h; done))
  all_goals (try (repeat' (split at h <;> (try (simp at h; done)))))
  simp only [Option.some.injEq,K.defer.injEq] at h
  obtain ⟨rfl,rfl⟩:=h
  rename_i c _ _ f' hcal _ _ f xs hf hxs
  obtain ⟨callee,args,ats⟩:=c
  simp only at hcal
  exact ⟨f',args,ats,by rw [hcal],hf,hxs⟩
def Fr.defer (F:Fr P) (i:FuncId) (args caps:List D):Fr P:={ F with ds:=DD.def (.fn i args caps) :: F.ds }
theorem KH.defer {F:Fr P} {rs:List RV} {Φ:Res→St→Prop} {dds:List DD} (hF:KH F rs Φ dds) (i:FuncId) (args caps:List D):KH (F.defer i args caps) rs Φ (.fn i args caps :: dds):=by
 obtain ⟨an,f,df,cs,hf,hrs,rfl⟩:=hF
 exact ⟨an,f,df,cs,hf,hrs,rfl⟩
theorem Zpw {F:Fr P} (hround:F.b.roundOf=none) {kp:Option (List Nat)} {dk:List ZR} {o:DOp} {os:List DOp} {ρ:Env} {L:Loc} {s:St} (hg:o.guard=none) (hdn:o.dst=none) {fx:Opd} {xs:List Opd} (hk:o.k = .defer fx xs)
  {p q:Prop} {i:FuncId} {first caps:List D} {es:List E} {ds:List D} (hf:YC ρ true fx=some (q,.d (.fn (.func i) first caps))) (ha:Kn ρ true xs=some (p,es)) (hds:Qn es=some ds) (hp:p) (hq:q)
  (hr1:ZdG (first++ds)) (hr2:ZdG caps) (h:DO (F.defer i (first++ds) caps) kp dk os ρ L s):DO F kp dk (o :: os) ρ L s:=by
 refine QD fun oo g ν w tmps ops j r k hoo hck hcg hdst hd hN m hr hkk=>?_
 have hw:=Ky m hcg (c:=true) (by rw [hg]; rfl)
 rw [hk] at hck
 obtain ⟨f',args,ats,hop,hf',hxs⟩:=Zox hck
 have hfr:Rep g w _ _:=Kl m hf' rfl hf hq F.ds
 have hargs:=Jk (Zdk m rfl F.ds hxs ha hp) hds
 generalize hfv:(Act.mk tmps F.ds).eval f'=fv at hfr
 cases hfr with
 | fn _ fs cs' _ _ hn1 hn2 h1 h2 =>
 obtain ⟨as9,ha1,_,ha2⟩:=Zbs hr1
 obtain ⟨vs,hv1,_,hv2⟩:=Zbs hr2
 have e1:fs++args.toList.map (Act.mk tmps F.ds).eval=as9:=ZgP ((Kv hn1 h1).append hargs) ha1
 have e2:cs'=vs:=ZgP (Kv hn2 h2) hv1
 have hmap:(Array.map (Act.mk tmps F.ds).eval args)=(args.toList.map (Act.mk tmps F.ds).eval).toArray:=by apply Array.ext'; simp
 have hdd:DD.def (.fn i (first++ds) caps)={ target:=.fn (.func i) cs'.toArray,args:=fs.toArray++(args.toList.map (Act.mk tmps F.ds).eval).toArray }:=by
  simp only [DD.def,hv1,ha1,Option.getD_some,e2,← e1]; simp
 have hrun:(execOp (Act.mk tmps F.ds).eval oo).run P w = .ok (.defer (DD.def (.fn i (first++ds) caps))) w:=by
  rw [hdd]
  simp [execOp,hop,resolve,hfv,hmap,Deferred.ofValue]
 have hstep:step P (lone (F.b.atR ⟨tmps,F.ds⟩ (.inRegion ops (j :: r) :: k)) F.cs w) = .next (lone (F.b.atR ⟨tmps,(F.defer i (first++ds) caps).ds⟩ (.inRegion ops r :: k)) F.cs w):=by
  refine step_lone_go ?_
  rw [stepGR_op hoo hw,hround,Oper.semAt_none]
  have hfin:(F.b.atR ⟨tmps,(F.defer i (first++ds) caps).ds⟩ (.inRegion ops (j :: r) :: k)).finish undef=F.b.atR ⟨tmps,(F.defer i (first++ds) caps).ds⟩ (.inRegion ops r :: k):=by
   rw [Frame.finish_atR,hoo]
   simp [Act.put,hdst,hdn]
  rw [← hfin]
  simp [stepG.apply,hrun,Frame.atR,Fr.defer]
 refine F.T.back _ _ _ _ (.one hstep) ?_
 exact h ops r k hr hkk g ν w tmps hN m
def Zrb:D→Option Value
 | .iface t (.agg cs)=>(ZeU cs).map fun vs=>.iface t (.agg vs.toArray)
 | .iface t d=>(Zal d).map (.iface t ·)
 | _=>none
def Zf7:D→Prop
 | .iface _ (.agg cs)=>ZdG cs
 | .iface _ d=>ZgB d
 | _=>False
theorem Zov {d:D} (h:Zf7 d):∃ v,(∀ g w,Rep g w v d)∧∀ g w v',Rep g w v' d→v'=v:=by
 cases d <;> simp only [Zf7] at h
 rename_i t d
 by_cases hd:∃ cs,d = .agg cs
 ·obtain ⟨cs,rfl⟩:=hd
  simp only [Zf7] at h
  obtain ⟨vs,h1,h2,h3⟩:=Zbs h
  refine ⟨.iface t (.agg vs.toArray),fun g w=>.iface t _ _ (.agg vs cs (h3 g w).len (h3 g w).get h2),fun g w v' hr=>?_⟩
  cases hr with
  | iface _ v _ hv =>
   cases hv with
   | agg vs' _ hn hg _=>rw [ZgP (Kv hn hg) h1]
 ·have h':ZgB d:=by cases d <;> simp only [Zf7] at h <;> first | exact h | exact absurd ⟨_,rfl⟩ hd
  obtain ⟨v,h1,h2,h3⟩:=Zkj h'
  refine ⟨.iface t v,fun g w=>.iface t _ _ (h3 g w),fun g w v' hr=>?_⟩
  cases hr with
  | iface _ v'' _ hv=>rw [Zmu hv h1]
def ZaO (m:Option D) (v:Value) (rec:Bool):FrameMode :=
 match m with
 | none=>.returning
 | some _=>.panicking [{ v,recovered:=rec }]
def Zg2 (P:Program) (cf:Frame) (cs:List Frame) (Ψ:Bool→St→Prop):Znu P where
 T g w m:=∃ g' w' s' b,Ext g w g' w'∧Kg g' s' w'∧Ψ b s'∧Steps P m (lone { cf with mode:=if b then .returning else cf.mode } cs w')
 back g w m m' hs h:=let ⟨g',w',s',b,a1,a2,a3,a4⟩:=h; ⟨g',w',s',b,a1,a2,a3,Steps.trans hs a4⟩
 ext g w g' w' m hx h:=let ⟨g2,w2,s',b,a1,a2,a3,a4⟩:=h; ⟨g2,w2,s',b,hx.trans a1,a2,a3,a4⟩
def QP (P:Program) (an:Ann) (f:FuncId) (N:Nat) (cf:Frame) (cs:List Frame) (Ψ:Bool→St→Prop) (m:Option D) (v:Value) (rec:Bool):Fr P where
 T:=Zg2 P cf cs Ψ
 b:={ (default:Frame) with fn:=f,kind:=.deferred,roundOf:=none }
 cs:={ cf with mode:=ZaO m v rec } :: cs
 N:=N
 ds:=[]
 an:=an
def Zd4 (F:Fr P) (m:Option D) (Ψ:Bool→St→Prop) (rec:Bool):Prop :=
 ∃ an f df cf cs v,Go.DL.cf P an f=some df∧df.res=[]∧cf.mode=ZaO m v false∧(∀ d,m=some d→∀ g w,Rep g w v d)∧F=QP P an f df.n cf cs Ψ m v rec
theorem ZfQ {an:Ann} {i:FuncId} {df:DF} (hf:cf P an i=some df) (hres:df.res=[]) {args:List D} {m:Option D} {s:St} {Ψ:Bool→St→Prop} (hm:∀ d,m=some d→Zf7 d)
  (h:∀ F:Fr P,Zd4 F m Ψ false→ZU F [.code df.body] (Zap 0 args) [] s):Zce P i args m s Ψ:=by
 have hf0:=hf
 unfold cf at hf
 split at hf <;> (try (simp at hf; done))
 rename_i fn hfn
 split at hf <;> (try (simp at hf; done))
 rename_i c hc
 split at hf <;> (try (simp at hf; done))
 rename_i hname
 split at hf <;> simp at hf
 rename_i rs d hrs hd
 subst hf
 refine ⟨⟨fn,hfn,by simp [hc],by simpa using hname⟩,fun g w vs cfr cs hs ha hmode=>?_⟩
 obtain ⟨v,hv1,hv2⟩:∃ v,cfr.mode=ZaO m v false∧∀ d,m=some d→∀ g w,Rep g w v d:=by
  cases m with
  | none=>exact ⟨undef,hmode,fun d hd=>by simp at hd⟩
  | some d =>
   obtain ⟨v,h1,h2⟩:=hmode
   obtain ⟨v',r1,r2⟩:=Zov (hm d rfl)
   have:=r2 g w v h2
   subst this
   exact ⟨v,h1,fun d' hd'=>by simp only [Option.some.injEq] at hd'; subst hd'; exact r1⟩
 have hcf:({ cfr with mode:=ZaO m v false }:Frame)=cfr:=by rw [← hv1]
 have henter:Frame.enter P i vs.toArray .deferred=(QP P an i fn.ntmps cfr cs Ψ m v false).b.atR { tmps:=vs.toArray++Array.replicate (fn.ntmps - vs.length) undef,defers:=[] } [.code c]:=by
  simp [Frame.enter,Frame.atR,hfn,hc,QP]
 have:=h _ ⟨an,i,_,cfr,cs,v,hf0,hres,hv1,hv2,rfl⟩ [.code c] (.code hd .nil) g (fun _=>0) w (vs.toArray++Array.replicate (fn.ntmps - vs.length) undef) (by simp [QP]; omega) (ZhH hs ha _)
 obtain ⟨g',w',s',b,a1,a2,a3,a4⟩:=this
 refine ⟨g',w',s',b,a1,a2,a3,?_⟩
 rw [henter]
 have hcs:(QP P an i fn.ntmps cfr cs Ψ m v false).cs=cfr :: cs:=by simp only [QP,hcf]
 rw [hcs] at a4
 exact a4
theorem Zd4.end {F:Fr P} {m:Option D} {Ψ:Bool→St→Prop} {rec:Bool} (hF:Zd4 F m Ψ rec) {ρ:Env} {L:Loc} {s s':St} (hs:s'.sub s) (hΨ:Ψ (m.isNone || rec) s') {todo:List Item} {g:G} {ν:Nat→Nat} {w:World} {tmps:Array Value}
  (M:ZX g ν w tmps ρ L s):F.T.T g w (lone { F.b.atR ⟨tmps,F.ds⟩ todo with mode:=.returning } F.cs w):=by
 obtain ⟨an,f,df,cfr,cs,v,hf,hres,hmode,hrep,rfl⟩:=hF
 unfold cf at hf
 split at hf <;> (try (simp at hf; done))
 rename_i fn hfn
 split at hf <;> (try (simp at hf; done))
 split at hf <;> (try (simp at hf; done))
 split at hf <;> simp at hf
 rename_i rs d hrs hd
 subst hf
 simp only at hres
 subst hres
 obtain ⟨rv,hrv1,_⟩:=Zix M hrs (p:=True) (ds:=[]) rfl trivial
 refine ⟨g,w,s',m.isNone || rec,Ext.refl g w,M.st.sub hs,hΨ,?_⟩
 have hst:=step_going_returned (P:=P) (fr:={ (QP P an f fn.ntmps cfr cs Ψ m v rec).b.atR ⟨tmps,[]⟩ todo with mode:=.returning }) (c:={ cfr with mode:=ZaO m v rec }) (cs:=cs) (w:=w) rfl ⟨rfl,rfl,fn,hfn,hrv1⟩
 have hset:({ ({ cfr with mode:=ZaO m v rec }:Frame) with mode:=settle (ZaO m v rec) }:Frame)={ cfr with mode:=if (m.isNone || rec) then .returning else cfr.mode }:=by
  cases m with
  | none=>rfl
  | some d =>
   cases rec
   ·simp only [Option.isNone_some,Bool.or_self,Bool.false_eq_true,if_false,hmode]; rfl
   ·rfl
 simp only at hst
 rw [hset] at hst
 exact .one hst
theorem Zd4.fin {F:Fr P} {m:Option D} {Ψ:Bool→St→Prop} {rec:Bool} (hF:Zd4 F m Ψ rec) {ρ:Env} {L:Loc} {s s':St} (hs:s'.sub s) (hΨ:Ψ (m.isNone || rec) s'):ZU F [] ρ L s:=by
 have hF':=hF
 obtain ⟨an,f,df,cfr,cs,v,hf,hres,hmode,hrep,rfl⟩:=hF
 intro k hk
 cases hk
 intro g ν w tmps hN M
 refine (Zg2 P cfr cs Ψ).back _ _ _ _ (.one (stepR_end rfl)) ?_
 exact hF'.end hs hΨ M
theorem ZiZ {op:Op} (h:ck P op=some .recover):∃ args ats,op = .call ⟨.builtin .recover,args,ats⟩:=by
 unfold ck at h
 split at h
 ·simp at h
 ·split at h <;> (try (simp at h; done))
  all_goals (try (repeat' (split at h <;> (try (simp at h; done)))))
  rename_i c _ _ hcal
  obtain ⟨callee,args,ats⟩:=c
  simp only at hcal
  exact ⟨args,ats,by rw [hcal]⟩
theorem Znq {F:Fr P} {d:D} {Ψ:Bool→St→Prop} (hF:Zd4 F (some d) Ψ false) {kp:Option (List Nat)} {dk:List ZR} {o:DOp} {os:List DOp} {ρ:Env} {L:Loc} {s:St} (hg:o.guard=none) (hk:o.k = .recover)
  (h:∀ F':Fr P,Zd4 F' (some d) Ψ true→DO F' kp dk os (YT ρ o.dst (.d d)) L s):DO F kp dk (o :: os) ρ L s:=by
 obtain ⟨an,f,df,cfr,cs,v,hf,hres,hmode,hrep,rfl⟩:=hF
 refine QD fun oo g ν w tmps ops j r k hoo hck hcg hdst hd hN m hr hkk=>?_
 have hw:=Ky m hcg (c:=true) (by rw [hg]; rfl)
 have hnd:=KN hck (by rw [hk]; rfl)
 rw [hk] at hck
 obtain ⟨args,ats,hop⟩:=ZiZ hck
 have hrun:(execOp (Act.mk tmps []).eval oo).run P w = .ok .recover w:=by
  simp [execOp,hop,resolve,invoke,builtin]
 have hstep:step P (lone ((QP P an f df.n cfr cs Ψ (some d) v false).b.atR ⟨tmps,[]⟩ (.inRegion ops (j :: r) :: k)) (QP P an f df.n cfr cs Ψ (some d) v false).cs w) =
   .next (lone ((QP P an f df.n cfr cs Ψ (some d) v true).b.atR ((Act.mk tmps []).put oo.dst v) (.inRegion ops r :: k)) (QP P an f df.n cfr cs Ψ (some d) v true).cs w):=by
  refine step_lone_go ?_
  rw [stepGR_op hoo hw,Oper.semAt_eq _ _ _ hnd]
  have hfin:((QP P an f df.n cfr cs Ψ (some d) v false).b.atR ⟨tmps,[]⟩ (.inRegion ops (j :: r) :: k)).finish v=(QP P an f df.n cfr cs Ψ (some d) v true).b.atR ((Act.mk tmps []).put oo.dst v) (.inRegion ops r :: k):=by
   rw [Frame.finish_atR,hoo]; rfl
  rw [← hfin]
  simp [stepG.apply,hrun,Frame.atR,QP,tryRecover,ZaO]
 refine (Zg2 P cfr cs Ψ).back _ _ _ _ (.one hstep) ?_
 obtain ⟨tmps',e1,e2,m'⟩:=Zeq m hN hd (v:=v) (e:=.d d) (hrep d rfl g w) []
 rw [hdst,e1]
 exact h _ ⟨an,f,df,cfr,cs,v,hf,hres,hmode,hrep,rfl⟩ ops r k hr hkk g ν w tmps' e2 m'
theorem Zmj {F:Fr P} {Ψ:Bool→St→Prop} {rec:Bool} (hF:Zd4 F none Ψ rec) {kp:Option (List Nat)} {dk:List ZR} {o:DOp} {os:List DOp} {ρ:Env} {L:Loc} {s:St} (hg:o.guard=none) (hk:o.k = .recover)
  (h:DO F kp dk os (YT ρ o.dst (.d .niliface)) L s):DO F kp dk (o :: os) ρ L s:=by
 obtain ⟨an,f,df,cfr,cs,v,hf,hres,hmode,hrep,rfl⟩:=hF
 refine QD fun oo g ν w tmps ops j r k hoo hck hcg hdst hd hN m hr hkk=>?_
 have hw:=Ky m hcg (c:=true) (by rw [hg]; rfl)
 have hnd:=KN hck (by rw [hk]; rfl)
 rw [hk] at hck
 obtain ⟨args,ats,hop⟩:=ZiZ hck
 have hrun:(execOp (Act.mk tmps []).eval oo).run P w = .ok .recover w:=by
  simp [execOp,hop,resolve,invoke,builtin]
 have hstep:step P (lone ((QP P an f df.n cfr cs Ψ none v rec).b.atR ⟨tmps,[]⟩ (.inRegion ops (j :: r) :: k)) (QP P an f df.n cfr cs Ψ none v rec).cs w) =
   .next (lone ((QP P an f df.n cfr cs Ψ none v rec).b.atR ((Act.mk tmps []).put oo.dst .nilIface) (.inRegion ops r :: k)) (QP P an f df.n cfr cs Ψ none v rec).cs w):=by
  refine step_lone_go ?_
  rw [stepGR_op hoo hw,Oper.semAt_eq _ _ _ hnd]
  have hfin:((QP P an f df.n cfr cs Ψ none v rec).b.atR ⟨tmps,[]⟩ (.inRegion ops (j :: r) :: k)).finish .nilIface=(QP P an f df.n cfr cs Ψ none v rec).b.atR ((Act.mk tmps []).put oo.dst .nilIface) (.inRegion ops r :: k):=by
   rw [Frame.finish_atR,hoo]; rfl
  rw [← hfin]
  simp [stepG.apply,hrun,Frame.atR,QP,tryRecover,ZaO]
 refine (Zg2 P cfr cs Ψ).back _ _ _ _ (.one hstep) ?_
 obtain ⟨tmps',e1,e2,m'⟩:=Zeq m hN hd (v:=.nilIface) (e:=.d .niliface) .niliface []
 rw [hdst,e1]
 exact h ops r k hr hkk g ν w tmps' e2 m'
end
end Go.DL
namespace Go.DL
open Go
theorem ZqO (n:Int):inR .i64 n↔-9223372036854775808≤n∧n≤9223372036854775807:=by
 simp [inR,IntKind.min,IntKind.max,IntKind.signed,IntKind.bits]
theorem Zq2 (n:Int):inR .u8 n↔0≤n∧n≤255:=by
 simp [inR,IntKind.min,IntKind.max,IntKind.signed,IntKind.bits]
theorem ZqQ (n:Int):inR .u32 n↔0≤n∧n≤4294967295:=by
 simp [inR,IntKind.min,IntKind.max,IntKind.signed,IntKind.bits]
theorem ZqB (n:Int):inR .u64 n↔0≤n∧n≤18446744073709551615:=by
 simp [inR,IntKind.min,IntKind.max,IntKind.signed,IntKind.bits]
theorem ZqY (n:Int):inR .i32 n↔-2147483648≤n∧n≤2147483647:=by
 simp [inR,IntKind.min,IntKind.max,IntKind.signed,IntKind.bits]
theorem ZpG (a b:Bool):(if a=true then b else false)=(a && b):=by cases a <;> rfl
theorem Zqw (a b:Bool):(if a=true then true else b)=(a || b):=by cases a <;> rfl
theorem Y1 {b b':Bool} (h:b=b'):(JF [.bool b]).Le (.bool b'):=h ▸ D.Le.refl _
theorem Za4 {k:IntKind} {n m:Int} (h:n=m):(JF [.int k n]).Le (.int k m):=h ▸ D.Le.refl _
theorem J1 {l:List D} {d:D} (h:.tup l=d) (hl:JF l = .tup l):(JF l).Le d:=by rw [hl,h]; exact D.Le.refl _
theorem St.upd_same (s:St) (b:Nat) (o:Kq):(s.upd b o) b=some o:=by simp [St.upd]
theorem St.upd_ne (s:St) {b c:Nat} (o:Kq) (h:c≠b):(s.upd b o) c=s c:=by simp [St.upd,h]
theorem St.upd_upd (s:St) (b:Nat) (o o':Kq):(s.upd b o).upd b o'=s.upd b o':=by
 funext c; simp only [St.upd]; by_cases h:c=b <;> simp [h]
theorem St.upd_comm (s:St) {b c:Nat} (o o':Kq) (h:c≠b):(s.upd b o).upd c o'=(s.upd c o').upd b o:=by
 funext x; simp only [St.upd]
 by_cases h1:x=b
 ·subst h1; simp [Ne.symm h]
 ·simp [h1]
theorem St.sub_upd {s:St} {b:Nat} (o:Kq) (h:s b=none):s.sub (s.upd b o):=fun c x hx=>by
 have:c≠b:=fun hc=>by rw [hc,h] at hx; simp at hx
 rw [St.upd_ne s o this]; exact hx
theorem St.sub_trans {s s' s'':St} (h:s.sub s') (h':s'.sub s''):s.sub s'':=fun b o ho=>h' b o (h b o ho)
inductive DWf:D→Prop where
 | int (k:IntKind) (n:Int) (h:inR k n):DWf (.int k n)
 | str (l:List UInt8) (h:l.length≤big):DWf (.str l)
 | agg (cs:List D) (h:∀ c∈cs,DWf c):DWf (.agg cs)
 | tup (cs:List D) (h:∀ c∈cs,DWf c):DWf (.tup cs)
 | sl (t:Tok) (n s:Nat) (row:Nat→List D) (h:n≤big) (hl:∀ i,i < n→(row i).length=s) (hr:∀ i,i < n→∀ c∈row i,DWf c):DWf (.sl t n s row)
 | ep (cs:List D) (o:Nat) (h:∀ c∈cs,DWf c):DWf (.ep cs o)
 | iface (t:TypeId) (d:D) (h:DWf d):DWf (.iface t d)
 | msl (b o n cap s:Nat) (h:n≤cap) (h':cap≤big):DWf (.msl b o n cap s)
 | fn (f:Fn) (a b:List D) (h:∀ c∈a,DWf c) (h':∀ c∈b,DWf c):DWf (.fn f a b)
 | other (d:D) (h:match d with | .int .. | .str _ | .agg _ | .tup _ | .sl .. | .ep .. | .iface .. | .msl .. | .fn ..=>False | _=>True):DWf d
theorem ZbN {Q:D→Prop} {vs:List Value} {ds:List D} (hn:vs.length=ds.length) (h:∀ (i:Nat) (v:Value) (d:D),vs[i]? = some v→ds[i]? = some d→Q d):∀ c∈ds,Q c:=by
 intro c hc
 obtain ⟨i,hi,rfl⟩:=List.getElem_of_mem hc
 exact h i (vs[i]'(by omega)) _ (by simp [show i < vs.length by omega]) (by simp [hi])
theorem Rep.wf {g:G} {w:World} {v:Value} {d:D} (h:Rep g w v d):DWf d:=by
 induction h with
 | int k n h=>exact .int k n h
 | str s l h hb=>exact .str l hb
 | agg vs cells hn _ _ ih=>exact .agg _ (ZbN hn ih)
 | tup vs ds hn _ ih=>exact .tup _ (ZbN hn ih)
 | sl0 a t s row ht=>exact .sl t 0 s row (Nat.zero_le _) (fun i hi=>by omega) (fun i hi=>by omega)
 | sl b o n cap s row t f hl hc hp _ one ht hcap hb ih =>
  refine .sl t n s row (by omega) hl fun i hi c hcm=>?_
  obtain ⟨j,hj,rfl⟩:=List.getElem_of_mem hcm
  exact ih i j _ hi (by simp [hj])
 | ep b o off cells f hc hp _ one ih =>
  refine .ep _ _ fun c hcm=>?_
  obtain ⟨j,hj,rfl⟩:=List.getElem_of_mem hcm
  exact ih j _ (by simp [hj])
 | iface t v d _ ih=>exact .iface t d ih
 | msl b off n cap s h hb=>exact .msl _ _ _ _ _ h hb
 | mslx a b off s=>exact .msl _ _ _ _ _ (Nat.le_refl _) (Nat.zero_le _)
 | fn f fs cs df dc hnf hnc _ _ ihf ihc=>exact .fn f df dc (ZbN hnf ihf) (ZbN hnc ihc)
 | _=>exact .other _ trivial
theorem DWf.int_inv {k:IntKind} {n:Int} (h:DWf (.int k n)):inR k n:=by
 cases h with
 | int _ _ h=>exact h
 | other _ h=>exact h.elim
theorem DWf.str_inv {l:List UInt8} (h:DWf (.str l)):l.length≤big:=by
 cases h with
 | str _ h=>exact h
 | other _ h=>exact h.elim
theorem DWf.agg_inv {cs:List D} (h:DWf (.agg cs)):∀ c∈cs,DWf c:=by
 cases h with
 | agg _ h=>exact h
 | other _ h=>exact h.elim
theorem DWf.sl_inv {t:Tok} {n s:Nat} {row:Nat→List D} (h:DWf (.sl t n s row)):n≤big∧(∀ i,i < n→(row i).length=s)∧∀ i,i < n→∀ c∈row i,DWf c:=by
 cases h with
 | sl _ _ _ _ h1 h2 h3=>exact ⟨h1,h2,h3⟩
 | other _ h=>exact h.elim
theorem ZpT {g:G} {w:World} {vs:List Value} {ds:List D} (h:YQ (Rep g w) vs ds):∀ d∈ds,DWf d:=ZbN h.len fun i v d hv hd=>(h.get i v d hv hd).wf
section
variable {P:Program}
theorem Zgk {f:FuncId} {args:List D} {s:St} {Φ:Res→St→Prop} (hf:∃ fn,P.funcs[f]? = some fn∧fn.body.isSome=true∧(fn.name == "runtime.NumGoroutine")=false) (h:(∀ a∈args,DWf a)→ZY P f args s Φ):ZY P f args s Φ :=
 ⟨hf,fun g w vs hs ha=>(h (ZpT ha)).2 g w vs hs ha⟩
theorem ZkI {an:Ann} {f:FuncId} {df:DF} (hf:cf P an f=some df):∃ fn,P.funcs[f]? = some fn∧fn.body.isSome=true∧(fn.name == "runtime.NumGoroutine")=false:=by
 unfold cf at hf
 split at hf <;> (try (simp at hf; done))
 rename_i fn hfn
 split at hf <;> (try (simp at hf; done))
 rename_i c hc
 split at hf <;> (try (simp at hf; done))
 rename_i hname
 exact ⟨fn,hfn,by simp [hc],by simpa using hname⟩
theorem Zcy {an:Ann} {f:FuncId} {df:DF} (hf:cf P an f=some df) {args:List D} {s:St} {Φ:Res→St→Prop}
  (h:(∀ a∈args,DWf a)→∀ F:Fr P,KH F df.res Φ []→ZU F [.code df.body] (Zap 0 args) [] s):ZY P f args s Φ :=
 Zgk (ZkI hf) fun hw=>ZP hf (h hw)
theorem Qo {an:Ann} {f:FuncId} {df:DF} (hf:cf P an f=some df) {args:List D} {d:D}
  (h:(∀ a∈args,DWf a)→∀ (F:Fr P) (s:St),(∀ {dk:List ZR} {ρ:Env} {L:Loc} {s':St} {p:Prop} {ds:List D},K3 ρ L s' df.res=some (p,ds)→p→(JF ds).Le d→s.sub s'→ZU F (.code .ret :: dk) ρ L s') →
   ZU F [.code df.body] (Zap 0 args) [] s):Yk P f args d :=
 fun s=>Zgk (ZkI hf) fun hw=>ZP hf fun F hF=>h hw F s fun h1 h2 h3 h4=>hF.ret d s h1 h2 h3 h4 ⟨rfl,rfl⟩
end
section
variable {P:Program}
def YD (P:Program) (f:FuncId) (args:List D) (s:St) (d:D) (s':St):Prop:=ZY P f args s fun r t=>r = .ret d∧t=s'
theorem YF {F:Fr P} {kp:Option (List Nat)} {dk:List ZR} {o:DOp} {os:List DOp} {ρ:Env} {L:Loc} {s s':St} (hg:Yd ρ o.guard=some true) {fx:Opd} {xs:List Opd} (hk:o.k = .call fx xs)
  {p q:Prop} {f:FuncId} {first caps:List D} {es:List E} {ds:List D} (hf:YC ρ true fx=some (q,.d (.fn (.func f) first caps))) (ha:Kn ρ true xs=some (p,es)) (hds:Qn es=some ds) (hp:p) (hq:q)
  {d:D} (hc:YD P f (first++ds++caps) s d s') (h:DO F kp dk os (YT ρ o.dst (.d d)) L s'):DO F kp dk (o :: os) ρ L s :=
 Z6 hg hk hf ha hds hp hq hc (fun d' t ⟨h1,h2⟩=>by simp only [Res.ret.injEq] at h1; subst h1; subst h2; exact h) (fun d' t ⟨h1,_⟩=>by simp at h1)
theorem Zbx {F:Fr P} {kp:Option (List Nat)} {dk:List ZR} {o:DOp} {f:Bool} {os:List (DOp × Bool)} {ρ:Env} {L:Loc} {s s':St} {B:List Rd} (hg:Yd ρ o.guard=some true) {fx:Opd} {xs:List Opd} (hk:o.k = .call fx xs)
  {p q:Prop} {fi:FuncId} {first caps:List D} {es:List E} {ds:List D} (hf:YC ρ true fx=some (q,.d (.fn (.func fi) first caps))) (ha:Kn ρ true xs=some (p,es)) (hds:Qn es=some ds) (hp:p) (hq:q)
  {d:D} (hc:YD P fi (first++ds++caps) s d s') (hB:KO f s s' L L B) (h:DOA F kp dk os (YT ρ o.dst (.d d)) L s' (Qp f B)):DOA F kp dk ((o,f) :: os) ρ L s B :=
 JP hg hk hf ha hds hp hq hc (fun d' t ⟨h1,h2⟩=>by simp only [Res.ret.injEq] at h1; subst h1; subst h2; exact ⟨hB,h⟩) (fun d' t ⟨h1,_⟩=>by simp at h1)
theorem Zol {F:Fr P} {kp:Option (List Nat)} {dk:List ZR} {o:DOp} {os:List DOp} {ρ:Env} {L:Loc} {s s':St} (hg:Yd ρ o.guard=some true) {fx:Opd} {xs:List Opd} (hk:o.k = .call fx xs)
  {p q:Prop} {f:D} {es:List E} {ds:List D} (hf:YC ρ true fx=some (q,.d f)) (ha:Kn ρ true xs=some (p,es)) (hds:Qn es=some ds) (hp:p) (hq:q)
  {d:D} (hc:Q5 P f ds s fun r t=>r = .ret d∧t=s') (h:DO F kp dk os (YT ρ o.dst (.d d)) L s'):DO F kp dk (o :: os) ρ L s :=
 ZaH hg hk hf ha hds hp hq hc (fun d' t ⟨h1,h2⟩=>by simp only [Res.ret.injEq] at h1; subst h1; subst h2; exact h) (fun d' t ⟨h1,_⟩=>by simp at h1)
theorem Yk.le {f:FuncId} {args:List D} {d d':D} (h:Yk P f args d) (e:d=d'):Yk P f args d':=e ▸ h
end
end Go.DL
namespace Go.DL
open Go Go.Proofs
def ZE.r0:=[qB 3 0,qB 4 1,qB 5 2,qb 6 false]
def ZE.r1:=[qL 15 3 3,qf 16 7 [.tmp 15],qm 17 16,qn 17 (qL 18 3 4),qn 17 (qf 19 7 [.tmp 18]),qo 20 17 19,qm 21 20,qn 21 (qL 22 3 5),qn 21 (qf 23 7 [.tmp 22]),qo 24 21 23]
def ZE.r2:=[qf 25 8 [],qm 6 25]
def ZE.r3:=[qL 27 3 3,qL 28 3 3,qf 29 9 [.tmp 27,.tmp 28],qm 26 29,qx 30 0 26,qx 31 1 26,qm 7 30,qm 8 31]
def ZE.r4:=[qL 33 3 3,qL 34 3 4,qf 35 9 [.tmp 33,.tmp 34],qm 32 35,qx 36 0 32,qx 37 1 32,qm 9 36,qm 10 37]
def ZE.r5:=[qL 39 3 4,qL 40 3 5,qf 41 9 [.tmp 39,.tmp 40],qm 38 41,qx 42 0 38,qx 43 1 38,qm 11 42,qm 12 43]
def ZE.r6:=[qL 45 3 3,qL 46 3 5,qf 47 9 [.tmp 45,.tmp 46],qm 44 47,qx 48 0 44,qx 49 1 44,qm 13 48,qm 14 49]
def ZE.r7:=[qm 50 8,qf 51 14 [.tmp 50],qe 52 .eql 51 0,qm 53 52,qy 53 (qm 54 7),qy 53 (qk 55 .not 54),qO 56 53 55]
def ZE.r8:=[qb 6 false]
def ZE.r9:=[qm 57 10,qf 58 14 [.tmp 57],qm 59 12,qf 60 14 [.tmp 59],qd 61 .add 58 60,qm 62 14,qf 63 14 [.tmp 62],qd 64 .add 61 63,qe 65 .neq 64 0,qm 66 65,qn 66 (qm 67 9),qn 66 (qk 68 .not 67),qo 69 66 68,qm 70 69,qn 70 (qm 71 11),qn 70 (qk 72 .not 71),qo 73 70 72,qm 74 73,qn 74 (qm 75 13),qo 76 74 75,qm 77 76,qy 77 (qf 78 8 []),qO 79 77 78,qm 6 79]
abbrev ZE.id:Nat:=6
def ZE.an:Ann:=[(0,[3,4,5]),(1,[3,4,5,24]),(2,[6]),(3,[3,4,5,7,8]),(4,[3,4,5,7,8,9,10]),(5,[3,5,7,8,9,10,11,12]),(6,[7,8,9,10,11,12,13,14]),(7,[9,10,11,12,13,14,56]),(8,[6]),(9,[6])]
def ZE.body:DC:=.seq (qR ZE.r0 [3,4,5]) (.seq (.seq (qR ZE.r1 [3,4,5,24]) (qC 24 (.seq (qR ZE.r2 [6]) .ret) .skip)) (.seq (qR ZE.r3 [3,4,5,7,8]) (.seq (qR ZE.r4 [3,4,5,7,8,9,10]) (.seq (qR ZE.r5 [3,5,7,8,9,10,11,12]) (.seq (qR ZE.r6 [7,8,9,10,11,12,13,14]) (.seq (.seq (qR ZE.r7 [9,10,11,12,13,14,56]) (qC 56 (.seq (qR ZE.r8 [6]) .ret) .skip)) (.seq (qR ZE.r9 [6]) .ret)))))))
def ZE.df:DF:=⟨80,[.tmp 6],ZE.body⟩
theorem ZE.ok:cf Tryz.prog ZE.an ZE.id=some ZE.df:=by kernel_rfl
def ZA.r0:=[qB 1 0,qb 2 false]
def ZA.r1:=[qa 7 1 1,ql 8 7,qk 9 .lenL 8,qe 10 .gtr 9 8,qm 11 10,qn 11 (qa 12 0 1),qn 11 (ql 13 12),qn 11 (qk 14 .lenS 13),qn 11 (qe 15 .gtr 14 60),qo 16 11 15,qm 17 16,qn 17 (qa 18 2 1),qn 17 (ql 19 18),qn 17 (qk 20 .lenS 19),qn 17 (qe 21 .gtr 20 60),qo 22 17 21]
def ZA.r2:=[qb 2 true]
def ZA.r3:=[qi 3 0]
def ZA.r4:=[qm 23 3,qa 24 1 1,ql 25 24,qk 26 .lenL 25,qd 27 .lss 23 26]
def ZA.r6:List DOp:=[qa 30 1 1,ql 31 30,qm 32 3,qX 33 2 31 32,qL 34 2 33,⟨some 4,none,.alloc [.str [],.nilsl]⟩,qS 2 4 34]
def ZA.r7:=[qa 35 1 4,ql 36 35,qk 37 .lenL 36,qe 38 .gtr 37 12,qm 39 38,qn 39 (qa 40 0 4),qn 39 (ql 41 40),qn 39 (qk 42 .lenS 41),qn 39 (qe 43 .gtr 42 60),qo 44 39 43]
def ZA.r8:=[qb 2 true]
def ZA.r9:=[qi 5 0]
def ZA.r10:=[qm 45 5,qa 46 1 4,ql 47 46,qk 48 .lenL 47,qd 49 .lss 45 48]
def ZA.r12:List DOp:=[qa 52 1 4,ql 53 52,qm 54 5,qX 55 15 53 54,qL 56 15 55,⟨some 6,none,.alloc [.str [],.int .i64 0,.int .i64 0,.bool false,.bool false,.int .i64 0,.int .i64 0,.int .i64 0,.nilsl,.str [],.str [],.str [],.nilsl,.int .i64 0,.int .i64 0]⟩,qS 15 6 56]
def ZA.r13:=[qa 57 12 6,ql 58 57,qk 59 .lenL 58,qe 60 .gtr 59 8,qm 61 60,qn 61 (qa 62 7 6),qn 61 (qa 63 1 62),qn 61 (ql 64 63),qn 61 (qk 65 .lenL 64),qn 61 (qe 66 .gtr 65 8),qo 67 61 66,qm 68 67,qn 68 (qa 69 0 6),qn 68 (ql 70 69),qn 68 (qk 71 .lenS 70),qn 68 (qe 72 .gtr 71 60),qo 73 68 72,qm 74 73,qn 74 (qa 75 9 6),qn 74 (ql 76 75),qn 74 (qk 77 .lenS 76),qn 74 (qe 78 .gtr 77 60),qo 79 74 78,qm 80 79,qn 80 (qa 81 10 6),qn 80 (ql 82 81),qn 80 (qk 83 .lenS 82),qn 80 (qe 84 .gtr 83 60),qo 85 80 84,qm 86 85,qn 86 (qa 87 11 6),qn 86 (ql 88 87),qn 86 (qk 89 .lenS 88),qn 86 (qe 90 .gtr 89 60),qo 91 86 90]
def ZA.r14:=[qb 2 true]
def ZA.r11:=[qm 50 5,qe 51 .add 50 1,qm 5 51]
def ZA.l1:DC:=.seq (.seq (qR ZA.r10 [1,3,4,5,49]) (qC 49 .skip (.exit 2))) (.seq (.block 3 (.seq (qR ZA.r12 [1,3,4,5,6]) (.seq (qR ZA.r13 [1,3,4,5,91]) (qC 91 (.seq (qR ZA.r14 [2]) .ret) .skip)))) (qR ZA.r11 [1,3,4,5]))
def ZA.r5:=[qm 28 3,qe 29 .add 28 1,qm 3 29]
def ZA.l0:DC:=.seq (.seq (qR ZA.r4 [1,3,27]) (qC 27 .skip (.exit 0))) (.seq (.block 1 (.seq (qR ZA.r6 [1,3,4]) (.seq (.seq (qR ZA.r7 [1,3,4,44]) (qC 44 (.seq (qR ZA.r8 [2]) .ret) .skip)) (.seq (qR ZA.r9 [1,3,4,5]) (.block 2 (.loop ZA.l1)))))) (qR ZA.r5 [1,3]))
def ZA.r15:=[qb 2 false]
abbrev ZA.id:Nat:=7
def ZA.an:Ann:=[(0,[1]),(1,[1,22]),(2,[2]),(3,[1,3]),(4,[1,3,27]),(5,[1,3]),(6,[1,3,4]),(7,[1,3,4,44]),(8,[2]),(9,[1,3,4,5]),(10,[1,3,4,5,49]),(11,[1,3,4,5]),(12,[1,3,4,5,6]),(13,[1,3,4,5,91]),(14,[2]),(15,[2])]
def ZA.body:DC:=.seq (qR ZA.r0 [1]) (.seq (.seq (qR ZA.r1 [1,22]) (qC 22 (.seq (qR ZA.r2 [2]) .ret) .skip)) (.seq (.seq (qR ZA.r3 [1,3]) (.block 0 (.loop ZA.l0))) (.seq (qR ZA.r15 [2]) .ret)))
def ZA.df:DF:=⟨92,[.tmp 2],ZA.body⟩
theorem ZA.ok:cf Tryz.prog ZA.an ZA.id=some ZA.df:=by kernel_rfl
def ZT.r0:=[qb 0 false]
def ZT.r1:List DOp:=[qf 17 20 [.cst (.int .i64 3),.cst (.int .i64 8),.cst (.int .i64 0)],qf 18 20 [.cst (.int .i64 7),.cst (.int .i64 8),.cst (.int .i64 0)],⟨some 1,none,.alloc [.str [],.nilsl,.str []]⟩,⟨some 2,none,.alloc [.str [],.nilsl,.str []]⟩,qS 3 1 17,qS 3 2 18]
def ZT.r2:=[qL 20 3 1,qL 21 3 2,qf 22 9 [.tmp 20,.tmp 21],qm 19 22,qx 23 0 19,qx 24 1 19,qm 3 23,qm 4 24]
def ZT.r3:=[qL 26 3 2,qL 27 3 1,qf 28 9 [.tmp 26,.tmp 27],qm 25 28,qx 29 0 25,qx 30 1 25,qm 5 29,qm 6 30]
def ZT.r4:List DOp:=[qL 32 3 2,qL 33 3 1,qf 34 10 [.tmp 32,.tmp 33],qm 31 34,qx 35 0 31,qx 36 1 31,qx 37 2 31,⟨some 7,none,.alloc [.str [],.int .i64 0]⟩,qS 2 7 35,qm 8 36,qm 9 37]
def ZT.r5:=[(qL 39 3 1,false),(qf 40 20 [.cst (.int .i64 3),.cst (.int .i64 16),.cst (.int .i64 1)],true),(qf 41 11 [.tmp 39,.tmp 40],false),(qm 38 41,false),(qx 42 0 38,false),(qx 43 1 38,false),(qm 10 42,false),(qm 11 43,false)]
def ZT.r6:=[qm 44 3,qk 45 .not 44,qm 46 45,qn 46 (qm 47 5),qo 48 46 47,qm 49 48,qn 49 (qm 50 8),qn 49 (qk 51 .not 50),qo 52 49 51,qm 53 52,qn 53 (qm 54 11),qn 53 (qk 55 .not 54),qo 56 53 55,qm 57 56,qn 57 (qm 58 4),qn 57 (qf 59 14 [.tmp 58]),qn 57 (qm 60 6),qn 57 (qf 61 14 [.tmp 60]),qn 57 (qd 62 .add 59 61),qn 57 (qm 63 9),qn 57 (qf 64 14 [.tmp 63]),qn 57 (qd 65 .add 62 64),qn 57 (qe 66 .neq 65 0),qo 67 57 66,qm 68 67,qn 68 (qL 69 2 7),qn 68 ⟨some 70,none,.q (.build [.str [],.int .i64 0] [(0,1),(1,1)]) [.cst (.str [110]),.cst (.int .i64 6)]⟩,qn 68 ⟨some 71,none,.q (.bin .neq (some (.cells [(0,.str),(1,.int)]))) [.tmp 69,.tmp 70]⟩,qo 72 68 71,qm 73 72,qn 73 (qm 74 10),qn 73 ⟨some 75,none,.q (.build [.str [],.int .i64 0] [(0,1),(1,1)]) [.cst (.str [110]),.cst (.int .i64 5)]⟩,qn 73 ⟨some 76,none,.q (.build [.str [],.int .i64 0] [(0,1),(1,1)]) [.cst (.str [98]),.cst (.int .i64 8)]⟩,qn 73 ⟨some 77,none,.bsl 2 2 [.str [],.int .i64 0] [0,1] [.tmp 75,.tmp 76]⟩,qn 73 (qf 78 15 [.tmp 74,.tmp 77]),qn 73 (qk 79 .not 78),qo 80 73 79]
def ZT.r7:=[qb 0 false]
def ZT.r8:List DOp:=[qf 81 20 [.cst (.int .i64 3),.cst (.int .i64 8),.cst (.int .i64 0)],⟨some 12,none,.alloc [.str [],.nilsl,.str []]⟩,qS 3 12 81]
def ZT.r9:List (DOp × Bool):=[(qa 82 1 12,false),(ql 83 82,false),(qa 84 1 12,false),(ql 85 84,false),(⟨some 86,none,.q (.iaddr 2) [.tmp 85,.cst (.int .i64 0)]⟩,false),(qa 87 1 86,false),(ql 88 87,false),(⟨some 89,none,.q (.build [.str [],.int .i64 0,.int .i64 0,.bool false,.bool false,.int .i64 0,.int .i64 0,.int .i64 0,.nilsl,.str [],.str [],.str [],.nilsl,.int .i64 0,.int .i64 0] [(0,1),(1,1),(2,1)]) [.cst (.str [99]),.cst (.int .i64 1),.cst (.int .i64 8)]⟩,false),(⟨some 90,none,.bsl 1 15 [.str [],.int .i64 0,.int .i64 0,.bool false,.bool false,.int .i64 0,.int .i64 0,.int .i64 0,.nilsl,.str [],.str [],.str [],.nilsl,.int .i64 0,.int .i64 0] [0] [.tmp 89]⟩,false),(⟨some 91,none,.append 54 15 176 [.str [],.int .i64 0,.int .i64 0,.bool false,.bool false,.int .i64 0,.int .i64 0,.int .i64 0,.nilsl,.str [],.str [],.str [],.nilsl,.int .i64 0,.int .i64 0] (.tmp 88) (.tmp 90)⟩,true),(⟨some 92,none,.q (.iaddr 2) [.tmp 83,.cst (.int .i64 0)]⟩,false),(qa 93 1 92,false),(qs 93 91,false)]
def ZT.r10:List DOp:=[qL 95 3 1,qL 96 3 12,qf 97 10 [.tmp 95,.tmp 96],qm 94 97,qx 98 0 94,qx 99 1 94,qx 100 2 94,⟨some 13,none,.alloc [.str [],.int .i64 0]⟩,qS 2 13 98,qm 8 99,qm 14 100]
def ZT.r11:List DOp:=[qL 102 3 1,qL 103 3 2,qL 104 3 1,⟨some 105,none,.bsl 3 3 [.str [],.nilsl,.str []] [0,1,2] [.tmp 102,.tmp 103,.tmp 104]⟩,qf 106 18 [.tmp 105],qm 101 106,qx 107 0 101,qx 108 1 101,qm 15 107,qm 16 108]
def ZT.r12:=[qm 109 8,qm 110 109,qy 110 (qL 111 2 13),qy 110 ⟨some 112,none,.q (.build [.str [],.int .i64 0] [(1,1)]) [.cst (.int .i64 2)]⟩,qy 110 ⟨some 113,none,.q (.bin .eql (some (.cells [(0,.str),(1,.int)]))) [.tmp 111,.tmp 112]⟩,qO 114 110 113,qm 115 114,qy 115 (qm 116 15),qy 115 (qe 117 .eql 116 1),qO 118 115 117,qm 119 118,qy 119 (qm 120 14),qy 119 (qf 121 14 [.tmp 120]),qy 119 (qm 122 16),qy 119 (qf 123 14 [.tmp 122]),qy 119 (qd 124 .add 121 123),qy 119 (qe 125 .eql 124 0),qO 126 119 125,qm 0 126]
abbrev ZT.id:Nat:=8
def ZT.an:Ann:=[(0,[]),(1,[1,2]),(2,[1,2,3,4]),(3,[1,2,3,4,5,6]),(4,[1,2,3,4,5,6,7,8,9]),(5,[1,2,3,4,5,6,7,8,9,10,11]),(6,[1,2,80]),(7,[0]),(8,[1,2,12]),(9,[1,2,12]),(10,[1,2,8,13,14]),(11,[8,13,14,15,16]),(12,[0]),(1000005,[0,1,2,3,4,5,6,7]),(1000009,[0,1,2,3,4,5,6,7,8,9,10,11,12]),(2000005,[1]),(2000009,[9])]
def ZT.body:DC:=.seq (qR ZT.r0 []) (.seq (qR ZT.r1 [1,2]) (.seq (qR ZT.r2 [1,2,3,4]) (.seq (qR ZT.r3 [1,2,3,4,5,6]) (.seq (qR ZT.r4 [1,2,3,4,5,6,7,8,9]) (.seq (.regD [0,1,2,3,4,5,6,7] ZT.r5 (some [1,2,3,4,5,6,7,8,9,10,11])) (.seq (.seq (qR ZT.r6 [1,2,80]) (qC 80 (.seq (qR ZT.r7 [0]) .ret) .skip)) (.seq (qR ZT.r8 [1,2,12]) (.seq (.regD [0,1,2,3,4,5,6,7,8,9,10,11,12] ZT.r9 (some [1,2,12])) (.seq (qR ZT.r10 [1,2,8,13,14]) (.seq (qR ZT.r11 [8,13,14,15,16]) (.seq (qR ZT.r12 [0]) .ret)))))))))))
def ZT.df:DF:=⟨127,[.tmp 0],ZT.body⟩
theorem ZT.ok:cf Tryz.prog ZT.an ZT.id=some ZT.df:=by kernel_rfl
def WE.r0:=[qB 2 0,qB 3 1,qb 4 false,qi 5 0]
def WE.r1:List DOp:=[qL 10 3 2,qL 11 3 3,qf 12 10 [.tmp 10,.tmp 11],qm 9 12,qx 13 0 9,qx 14 1 9,qx 15 2 9,⟨some 6,none,.alloc [.str [],.int .i64 0]⟩,qS 2 6 13,qm 7 14,qm 8 15]
def WE.r2:=[qm 16 7,qk 17 .not 16,qm 18 17,qy 18 (qm 19 8),qy 18 (qe 20 .eql 19 0),qO 21 18 20,qm 22 8,qm 4 21,qm 5 22]
abbrev WE.id:Nat:=9
def WE.an:Ann:=[(0,[2,3]),(1,[7,8]),(2,[4,5])]
def WE.body:DC:=.seq (qR WE.r0 [2,3]) (.seq (qR WE.r1 [7,8]) (.seq (qR WE.r2 [4,5]) .ret))
def WE.df:DF:=⟨23,[.tmp 4,.tmp 5],WE.body⟩
theorem WE.ok:cf Tryz.prog WE.an WE.id=some WE.df:=by kernel_rfl
def Z1.r0:List DOp:=[qB 2 0,qB 3 1,⟨some 4,none,.alloc [.str [],.int .i64 0]⟩,⟨some 5,none,.alloc [.bool false]⟩,qi 6 0]
def Z1.r1:=[qL 8 3 2,qf 9 21 [.tmp 8],qk 10 .not 9,qm 11 10,qn 11 (qL 12 3 3),qn 11 (qf 13 21 [.tmp 12]),qn 11 (qk 14 .not 13),qo 15 11 14]
def Z1.r2:List DOp:=[qL 16 2 4,qS 2 4 16,⟨none,none,.store1 (.tmp 5) (.cst (.bool false))⟩,qi 6 2]
def Z1.r3:=[qL 17 3 2,qL 18 3 3,qf 19 22 [.tmp 17,.tmp 18]]
def Z1.r4:List DOp:=[⟨some 7,none,.alloc [.str [],.int .i64 0]⟩,qS 2 7 20]
def Z1.r5:List DOp:=[qL 21 2 7,qS 2 4 21,⟨none,none,.store1 (.tmp 5) (.cst (.bool true))⟩]
def Z1.a0:DC:=qR Z1.r4 [4,5,7]
def Z1.b0:DC:=.block 1 (.seq (qR Z1.r5 [4,5]) (.exit 0))
def Z1.r6:=[(qL 22 2 4,false),(ql 23 5,false),(qS 2 4 22,true),(qs 5 23,false),(qi 6 0,false)]
abbrev Z1.id:Nat:=10
def Z1.an:Ann:=[(0,[2,3,4,5,20]),(1,[2,3,4,5,15,20]),(2,[4,5,6]),(3,[4,5,19,20]),(4,[4,5,7]),(5,[4,5]),(6,[4,5,6]),(1000006,[0,1,2,3,4]),(2000006,[2])]
def Z1.body:DC:=.seq (qR Z1.r0 [2,3,4,5,20]) (.scope (.seq (.seq (qR Z1.r1 [2,3,4,5,15,20]) (qC 15 (.seq (qR Z1.r2 [4,5,6]) .ret) .skip)) (.seq (.label 0) (.seq (.seq (qR Z1.r3 [4,5,19,20]) (.block 0 (.rangeF (.tmp 19) [20] Z1.a0 Z1.b0))) (.seq (.regD [0,1,2,3,4] Z1.r6 (some [4,5,6])) .ret)))))
def Z1.df:DF:=⟨24,[.cellN 4 2,.cell1 5,.tmp 6],Z1.body⟩
theorem Z1.ok:cf Tryz.prog Z1.an Z1.id=some Z1.df:=by kernel_rfl
def Z2.r0:List DOp:=[qB 2 0,qB 3 1,⟨some 4,none,.alloc [.nilsl]⟩,⟨some 5,none,.alloc [.bool false]⟩]
def Z2.r1:=[qL 10 3 2,qL 11 3 3,qf 12 16 [.tmp 10,.tmp 11],qm 6 12]
def Z2.r2:List DOp:=[qm 13 6,⟨some 14,none,.q (.bin .eql (some .fn)) [.tmp 13,.cst (.nilfn)]⟩]
def Z2.r3:List DOp:=[⟨none,none,.store1 (.tmp 4) (.cst (.nilsl))⟩,⟨none,none,.store1 (.tmp 5) (.cst (.bool false))⟩]
def Z2.r4:List DOp:=[⟨some 7,none,.alloc [.nilsl]⟩]
def Z2.r5:=[qm 15 6]
def Z2.r6:=[qm 8 16]
def Z2.r7:List DOp:=[⟨some 9,none,.alloc [.str [],.int .i64 0]⟩,qS 2 9 17]
def Z2.r8:=[qm 18 8,ql 19 7,qk 20 .lenL 19,qd 21 .neq 18 20]
def Z2.r9:List DOp:=[⟨none,none,.store1 (.tmp 4) (.cst (.nilsl))⟩,⟨none,none,.store1 (.tmp 5) (.cst (.bool false))⟩]
def Z2.r10:List DOp:=[ql 22 7,qL 23 2 9,⟨some 24,none,.bsl 1 2 [.str [],.int .i64 0] [0] [.tmp 23]⟩,⟨some 25,none,.append 32 2 24 [.str [],.int .i64 0] (.tmp 22) (.tmp 24)⟩,qs 7 25]
def Z2.a0:DC:=.seq (qR Z2.r6 [4,5,7,8,16,17]) (qR Z2.r7 [4,5,7,8,9,16,17])
def Z2.b0:DC:=.block 1 (.seq (.seq (qR Z2.r8 [4,5,7,9,16,17,21]) (qC 21 (.seq (qR Z2.r9 [4,5]) .ret) .skip)) (qR Z2.r10 [4,5,7,16,17]))
def Z2.r11:List DOp:=[ql 26 7,qs 4 26,⟨none,none,.store1 (.tmp 5) (.cst (.bool true))⟩]
abbrev Z2.id:Nat:=11
def Z2.an:Ann:=[(0,[2,3,4,5,16,17]),(1,[4,5,6,16,17]),(2,[4,5,6,14,16,17]),(3,[4,5]),(4,[4,5,6,7,16,17]),(5,[4,5,7,15,16,17]),(6,[4,5,7,8,16,17]),(7,[4,5,7,8,9,16,17]),(8,[4,5,7,9,16,17,21]),(9,[4,5]),(10,[4,5,7,16,17]),(11,[4,5])]
def Z2.body:DC:=.seq (qR Z2.r0 [2,3,4,5,16,17]) (.seq (qR Z2.r1 [4,5,6,16,17]) (.seq (.seq (qR Z2.r2 [4,5,6,14,16,17]) (qC 14 (.seq (qR Z2.r3 [4,5]) .ret) .skip)) (.seq (qR Z2.r4 [4,5,6,7,16,17]) (.seq (.seq (qR Z2.r5 [4,5,7,15,16,17]) (.block 0 (.rangeF (.tmp 15) [16,17] Z2.a0 Z2.b0))) (.seq (qR Z2.r11 [4,5]) .ret)))))
def Z2.df:DF:=⟨27,[.cell1 4,.cell1 5],Z2.body⟩
theorem Z2.ok:cf Tryz.prog Z2.an Z2.id=some Z2.df:=by kernel_rfl
def KX.r0:=[qi 2 0]
def KX.r1:=[qm 3 0,qm 2 3]
abbrev KX.id:Nat:=14
def KX.an:Ann:=[(0,[0]),(1,[2])]
def KX.body:DC:=.seq (qR KX.r0 [0]) (.seq (qR KX.r1 [2]) .ret)
def KX.df:DF:=⟨4,[.tmp 2],KX.body⟩
theorem KX.ok:cf Tryz.prog KX.an KX.id=some KX.df:=by kernel_rfl
def Yc.r0:=[qb 4 false]
def Yc.r1:=[qm 6 0,qk 7 .lenL 6,qm 8 1,qk 9 .lenL 8,qd 10 .neq 7 9]
def Yc.r2:=[qb 4 false]
def Yc.r3:=[qi 5 0]
def Yc.r4:=[qm 11 5,qm 12 0,qk 13 .lenL 12,qd 14 .lss 11 13]
def Yc.r6:List DOp:=[qm 17 0,qm 18 5,qX 19 2 17 18,qL 20 2 19,qm 21 1,qm 22 5,qX 23 2 21 22,qL 24 2 23,⟨some 25,none,.q (.bin .neq (some (.cells [(0,.str),(1,.int)]))) [.tmp 20,.tmp 24]⟩]
def Yc.r7:=[qb 4 false]
def Yc.r5:=[qm 15 5,qe 16 .add 15 1,qm 5 16]
def Yc.l0:DC:=.seq (.seq (qR Yc.r4 [0,1,5,14]) (qC 14 .skip (.exit 0))) (.seq (.block 1 (.seq (.regD [0,1,2,3,4,5,6,7,8] (ZaB Yc.r6) (some [0,1,5,25])) (qC 25 (.seq (qR Yc.r7 [4]) .ret) .skip))) (qR Yc.r5 [0,1,5]))
def Yc.r8:=[qb 4 true]
abbrev Yc.id:Nat:=15
def Yc.an:Ann:=[(0,[0,1]),(1,[0,1,10]),(2,[4]),(3,[0,1,5]),(4,[0,1,5,14]),(5,[0,1,5]),(6,[0,1,5,25]),(7,[4]),(8,[4]),(1000006,[0,1,2,3,4,5,6,7,8])]
def Yc.body:DC:=.seq (qR Yc.r0 [0,1]) (.seq (.seq (qR Yc.r1 [0,1,10]) (qC 10 (.seq (qR Yc.r2 [4]) .ret) .skip)) (.seq (.seq (qR Yc.r3 [0,1,5]) (.block 0 (.loop Yc.l0))) (.seq (qR Yc.r8 [4]) .ret)))
def Yc.df:DF:=⟨26,[.tmp 4],Yc.body⟩
theorem Yc.ok:cf Tryz.prog Yc.an Yc.id=some Yc.df:=by kernel_rfl
def Wj.r0:List DOp:=[qB 2 0,qB 3 1,⟨some 4,none,.q .mv [.cst (.nilfn)]⟩]
def Wj.r1:List DOp:=[⟨some 5,none,.q .mv [.cst (.nilsl)]⟩]
def Wj.r2:=[qL 6 3 2,qf 7 21 [.tmp 6],qm 8 7,qy 8 (qL 9 3 3),qy 8 (qf 10 21 [.tmp 9]),qO 11 8 10]
def Wj.r3:=[qL 12 3 2,qL 13 3 3,qf 14 22 [.tmp 12,.tmp 13],qf 15 25 [.tmp 14],qm 5 15]
def Wj.r4:=[qm 16 5,qf 17 26 [.tmp 16],qm 4 17]
abbrev Wj.id:Nat:=16
def Wj.an:Ann:=[(0,[2,3]),(1,[2,3,5]),(2,[2,3,5,11]),(3,[5]),(4,[4])]
def Wj.body:DC:=.seq (qR Wj.r0 [2,3]) (.seq (qR Wj.r1 [2,3,5]) (.seq (.seq (qR Wj.r2 [2,3,5,11]) (qC 11 (qR Wj.r3 [5]) .skip)) (.seq (qR Wj.r4 [4]) .ret)))
def Wj.df:DF:=⟨18,[.tmp 4],Wj.body⟩
theorem Wj.ok:cf Tryz.prog Wj.an Wj.id=some Wj.df:=by kernel_rfl
def Zn.r0:List DOp:=[⟨some 2,none,.q .mv [.cst (.nilsl)]⟩,qi 3 0]
def Zn.r1:List DOp:=[⟨some 4,none,.q .mv [.cst (.nilsl)]⟩]
def Zn.r2:=[qm 12 0,qk 13 .lenL 12,qi 14 0]
def Zn.r3:=[qd 15 .lss 14 13]
def Zn.r4:List DOp:=[qX 16 3 12 14,qL 17 3 16,⟨some 6,none,.alloc [.str [],.nilsl,.str []]⟩,qS 3 6 17]
def Zn.r5:List DOp:=[qm 18 0,qk 19 .lenL 18,⟨some 20,none,.mkslice 4 1 1 [.bool false] (.tmp 19) (.tmp 19)⟩,qm 7 20]
def Zn.r6:=[qm 21 0,qk 22 .lenL 21,qi 23 0]
def Zn.r7:=[qd 24 .lss 23 22]
def Zn.r8:List DOp:=[qm 25 23,qX 26 3 21 23,qL 27 3 26,⟨some 9,none,.alloc [.str [],.nilsl,.str []]⟩,qm 8 25,qS 3 9 27]
def Zn.r9:=[qL 29 3 6,qL 30 3 9,qf 31 9 [.tmp 29,.tmp 30],qm 28 31,qx 32 0 28,qx 33 1 28,qm 10 32,qm 11 33]
def Zn.r10:=[qm 34 11,qe 35 .neq 34 0]
def Zn.r11:List DOp:=[qm 36 11,⟨some 2,none,.q .mv [.cst (.nilsl)]⟩,qm 3 36]
def Zn.r12:=[qm 37 7,qm 38 8,qm 39 10,qX 40 1 37 38,qs 40 39]
def Zn.r13:=[qe 41 .add 23 1,qm 23 41]
def Zn.l1:DC:=.seq (qR Zn.r7 [0,4,6,7,12,13,14,21,22,23,24]) (.seq (qC 24 .skip (.exit 2)) (.seq (.block 3 (.seq (qR Zn.r8 [0,4,6,7,8,9,12,13,14,21,22,23]) (.seq (qR Zn.r9 [0,4,6,7,8,10,11,12,13,14,21,22,23]) (.seq (.seq (qR Zn.r10 [0,4,6,7,8,10,11,12,13,14,21,22,23,35]) (qC 35 (.seq (qR Zn.r11 [2,3]) .ret) .skip)) (qR Zn.r12 [0,4,6,7,12,13,14,21,22,23]))))) (qR Zn.r13 [0,4,6,7,12,13,14,21,22,23])))
def Zn.r14:List DOp:=[qm 42 4,qm 43 7,⟨some 44,none,.bsl 1 1 [.nilsl] [0] [.tmp 43]⟩,⟨some 45,none,.append 62 1 24 [.nilsl] (.tmp 42) (.tmp 44)⟩,qm 4 45]
def Zn.r15:=[qe 46 .add 14 1,qm 14 46]
def Zn.l0:DC:=.seq (qR Zn.r3 [0,4,12,13,14,15]) (.seq (qC 15 .skip (.exit 0)) (.seq (.block 1 (.seq (qR Zn.r4 [0,4,6,12,13,14]) (.seq (qR Zn.r5 [0,4,6,7,12,13,14]) (.seq (.seq (qR Zn.r6 [0,4,6,7,12,13,14,21,22,23]) (.block 2 (.loop Zn.l1))) (qR Zn.r14 [0,4,12,13,14]))))) (qR Zn.r15 [0,4,12,13,14])))
def Zn.r16:=[qm 47 4,qm 2 47,qi 3 0]
abbrev Zn.id:Nat:=17
def Zn.an:Ann:=[(0,[0]),(1,[0,4]),(2,[0,4,12,13,14]),(3,[0,4,12,13,14,15]),(4,[0,4,6,12,13,14]),(5,[0,4,6,7,12,13,14]),(6,[0,4,6,7,12,13,14,21,22,23]),(7,[0,4,6,7,12,13,14,21,22,23,24]),(8,[0,4,6,7,8,9,12,13,14,21,22,23]),(9,[0,4,6,7,8,10,11,12,13,14,21,22,23]),(10,[0,4,6,7,8,10,11,12,13,14,21,22,23,35]),(11,[2,3]),(12,[0,4,6,7,12,13,14,21,22,23]),(13,[0,4,6,7,12,13,14,21,22,23]),(14,[0,4,12,13,14]),(15,[0,4,12,13,14]),(16,[2,3])]
def Zn.body:DC:=.seq (qR Zn.r0 [0]) (.seq (qR Zn.r1 [0,4]) (.seq (.seq (qR Zn.r2 [0,4,12,13,14]) (.block 0 (.loop Zn.l0))) (.seq (qR Zn.r16 [2,3]) .ret)))
def Zn.df:DF:=⟨48,[.tmp 2,.tmp 3],Zn.body⟩
theorem Zn.ok:cf Tryz.prog Zn.an Zn.id=some Zn.df:=by kernel_rfl
def ZG.r0:=[qi 2 0,qi 3 0]
def ZG.r1:=[qm 8 0,qf 9 17 [.tmp 8],qm 7 9,qx 10 0 7,qx 11 1 7,qm 4 10,qm 5 11]
def ZG.r2:=[qm 12 5,qe 13 .neq 12 0]
def ZG.r3:=[qm 14 5,qi 2 0,qm 3 14]
def ZG.r4:List DOp:=[qm 15 0,qk 16 .lenL 15,qe 17 .sub 16 1,⟨some 6,none,.alloc [.int .i64 0]⟩,qs 6 17]
def ZG.r5:=[ql 18 6,qe 19 .geq 18 0]
def ZG.r7:List DOp:=[qm 22 4,⟨some 23,none,.q (.mkfn (.func 28) 0) [.tmp 6]⟩,qf 24 27 [.tmp 22,.tmp 23],qk 25 .not 24]
def ZG.r8:=[ql 26 6,qm 2 26,qi 3 0]
def ZG.r9:=[ql 27 6]
def ZG.r10:List DOp:=[⟨some 6,none,.alloc [.int .i64 0]⟩,qs 6 27]
def ZG.r6:=[ql 20 6,qe 21 .sub 20 1,qs 6 21]
def ZG.l0:DC:=.seq (.seq (qR ZG.r5 [4,6,19]) (qC 19 .skip (.exit 0))) (.seq (.block 1 (.seq (qR ZG.r7 [4,6,25]) (qC 25 (.seq (qR ZG.r8 [2,3]) .ret) .skip))) (.seq (.seq (qR ZG.r9 [4,27]) (qR ZG.r10 [4,6])) (qR ZG.r6 [4,6])))
def ZG.r11:=[qi 2 0,qi 3 9]
abbrev ZG.id:Nat:=18
def ZG.an:Ann:=[(0,[0]),(1,[0,4,5]),(2,[0,4,5,13]),(3,[2,3]),(4,[4,6]),(5,[4,6,19]),(6,[4,6]),(7,[4,6,25]),(8,[2,3]),(9,[4,27]),(10,[4,6]),(11,[2,3])]
def ZG.body:DC:=.seq (qR ZG.r0 [0]) (.seq (qR ZG.r1 [0,4,5]) (.seq (.seq (qR ZG.r2 [0,4,5,13]) (qC 13 (.seq (qR ZG.r3 [2,3]) .ret) .skip)) (.seq (.seq (qR ZG.r4 [4,6]) (.block 0 (.loop ZG.l0))) (.seq (qR ZG.r11 [2,3]) .ret))))
def ZG.df:DF:=⟨28,[.tmp 2,.tmp 3],ZG.body⟩
theorem ZG.ok:cf Tryz.prog ZG.an ZG.id=some ZG.df:=by kernel_rfl
def YJ.r0:List DOp:=[⟨some 6,none,.alloc [.str [],.nilsl,.str []]⟩]
def YJ.r1:List DOp:=[qm 9 1,qm 10 0,⟨some 11,none,.q (.build [.str [],.int .i64 0,.int .i64 0,.bool false,.bool false,.int .i64 0,.int .i64 0,.int .i64 0,.nilsl,.str [],.str [],.str [],.nilsl,.int .i64 0,.int .i64 0] [(0,1),(1,1),(2,1),(6,1)]) [.cst (.str [110]),.cst (.int .i64 1),.tmp 9,.tmp 10]⟩,⟨some 7,none,.alloc [.str [],.int .i64 0,.int .i64 0,.bool false,.bool false,.int .i64 0,.int .i64 0,.int .i64 0,.nilsl,.str [],.str [],.str [],.nilsl,.int .i64 0,.int .i64 0]⟩,qS 15 7 11]
def YJ.r2:List DOp:=[qm 12 2,⟨some 13,none,.q (.build [.str [],.int .i64 0] [(0,1),(1,1)]) [.cst (.str [110]),.cst (.int .i64 1)]⟩,⟨some 14,none,.bsl 1 2 [.str [],.int .i64 0] [0] [.tmp 13]⟩,⟨some 15,none,.q (.build [.int .i64 0,.nilsl] [(0,1),(1,1)]) [.tmp 12,.tmp 14]⟩,⟨some 16,none,.q (.build [.str [],.int .i64 0,.int .i64 0,.bool false,.bool false,.int .i64 0,.int .i64 0,.int .i64 0,.nilsl,.str [],.str [],.str [],.nilsl,.int .i64 0,.int .i64 0] [(0,1),(1,1),(7,2)]) [.cst (.str [98]),.cst (.int .i64 4),.tmp 15]⟩,⟨some 8,none,.alloc [.str [],.int .i64 0,.int .i64 0,.bool false,.bool false,.int .i64 0,.int .i64 0,.int .i64 0,.nilsl,.str [],.str [],.str [],.nilsl,.int .i64 0,.int .i64 0]⟩,qS 15 8 16]
def YJ.r3:List DOp:=[qL 17 15 7,qL 18 15 8,⟨some 19,none,.bsl 2 15 [.str [],.int .i64 0,.int .i64 0,.bool false,.bool false,.int .i64 0,.int .i64 0,.int .i64 0,.nilsl,.str [],.str [],.str [],.nilsl,.int .i64 0,.int .i64 0] [0,1] [.tmp 17,.tmp 18]⟩,⟨some 20,none,.q (.build [.str [],.nilsl] [(0,1),(1,1)]) [.cst (.str [109]),.tmp 19]⟩,⟨some 21,none,.bsl 1 2 [.str [],.nilsl] [0] [.tmp 20]⟩,⟨some 22,none,.q (.build [.str [],.nilsl,.str []] [(0,1),(1,1),(2,1)]) [.cst (.str [100]),.tmp 21,.cst (.str [109])]⟩,qS 3 6 22]
abbrev YJ.id:Nat:=20
def YJ.an:Ann:=[(0,[0,1,2,6]),(1,[2,6,7]),(2,[6,7,8]),(3,[6])]
def YJ.body:DC:=.seq (qR YJ.r0 [0,1,2,6]) (.seq (qR YJ.r1 [2,6,7]) (.seq (qR YJ.r2 [6,7,8]) (.seq (qR YJ.r3 [6]) .ret)))
def YJ.df:DF:=⟨23,[.cellN 6 3],YJ.body⟩
theorem YJ.ok:cf Tryz.prog YJ.an YJ.id=some YJ.df:=by kernel_rfl
def WH.r0:=[qB 1 0,qb 2 false]
def WH.r1:List DOp:=[qL 6 3 1,qf 7 29 [.tmp 6],qm 5 7,qx 8 0 5,qx 9 1 5,⟨some 3,none,.alloc [.int .i64 0,.int .i64 0,.int .i64 0]⟩,qS 3 3 8,qm 4 9]
def WH.r2:=[qm 10 4,qk 11 .not 10,qm 2 11]
abbrev WH.id:Nat:=21
def WH.an:Ann:=[(0,[1]),(1,[4]),(2,[2])]
def WH.body:DC:=.seq (qR WH.r0 [1]) (.seq (qR WH.r1 [4]) (.seq (qR WH.r2 [2]) .ret))
def WH.df:DF:=⟨12,[.tmp 2],WH.body⟩
theorem WH.ok:cf Tryz.prog WH.an WH.id=some WH.df:=by kernel_rfl
def Y5.r0:List DOp:=[qB 2 0,qB 3 1,⟨some 4,none,.q .mv [.cst (.nilfn)]⟩]
def Y5.r1:List DOp:=[⟨some 5,none,.q (.mkfn (.func 30) 0) [.tmp 2,.tmp 3]⟩,qm 4 5]
abbrev Y5.id:Nat:=22
def Y5.an:Ann:=[(0,[2,3]),(1,[4])]
def Y5.body:DC:=.seq (qR Y5.r0 [2,3]) (.seq (qR Y5.r1 [4]) .ret)
def Y5.df:DF:=⟨6,[.tmp 4],Y5.body⟩
theorem Y5.ok:cf Tryz.prog Y5.an Y5.id=some Y5.df:=by kernel_rfl
def Yf.r0:List DOp:=[⟨some 2,none,.q .mv [.cst (.nilsl)]⟩]
def Yf.r1:=[qm 3 0,qf 4 39 [.cst (.nilsl),.tmp 3],qm 2 4]
abbrev Yf.id:Nat:=25
def Yf.an:Ann:=[(0,[0]),(1,[2])]
def Yf.body:DC:=.seq (qR Yf.r0 [0]) (.seq (qR Yf.r1 [2]) .ret)
def Yf.df:DF:=⟨5,[.tmp 2],Yf.body⟩
theorem Yf.ok:cf Tryz.prog Yf.an Yf.id=some Yf.df:=by kernel_rfl
def YA.r0:List DOp:=[qB 1 0,⟨some 2,none,.q .mv [.cst (.nilfn)]⟩]
def YA.r1:List DOp:=[⟨some 3,none,.q (.mkfn (.func 40) 0) [.tmp 1]⟩,qm 2 3]
abbrev YA.id:Nat:=26
def YA.an:Ann:=[(0,[1]),(1,[2])]
def YA.body:DC:=.seq (qR YA.r0 [1]) (.seq (qR YA.r1 [2]) .ret)
def YA.df:DF:=⟨4,[.tmp 2],YA.body⟩
theorem YA.ok:cf Tryz.prog YA.an YA.id=some YA.df:=by kernel_rfl
def Yg.r0:=[qb 4 false]
def Yg.r1:=[qm 5 0,qm 6 1,qf 7 41 [.tmp 5,.tmp 6],qe 8 .geq 7 0,qm 4 8]
abbrev Yg.id:Nat:=27
def Yg.an:Ann:=[(0,[0,1]),(1,[4])]
def Yg.body:DC:=.seq (qR Yg.r0 [0,1]) (.seq (qR Yg.r1 [4]) .ret)
def Yg.df:DF:=⟨9,[.tmp 4],Yg.body⟩
theorem Yg.ok:cf Tryz.prog Yg.an Yg.id=some Yg.df:=by kernel_rfl
def Wq.r0:=[qb 3 false]
def Wq.r1:=[qm 4 0,ql 5 1,qX 6 1 4 5,ql 7 6,qk 8 .not 7,qm 3 8]
abbrev Wq.id:Nat:=28
def Wq.an:Ann:=[(0,[0,1]),(1,[3])]
def Wq.body:DC:=.seq (qR Wq.r0 [0,1]) (.seq (qR Wq.r1 [3]) .ret)
def Wq.df:DF:=⟨9,[.tmp 3],Wq.body⟩
theorem Wq.ok:cf Tryz.prog Wq.an Wq.id=some Wq.df:=by kernel_rfl
def WK.r0:List DOp:=[qB 1 0,⟨some 2,none,.alloc [.int .i64 0,.int .i64 0,.int .i64 0]⟩,qb 3 false]
def WK.r1:List DOp:=[qL 8 3 1,qf 9 42 [.tmp 8],qm 7 9,qx 10 0 7,qx 11 1 7,qx 12 2 7,⟨some 5,none,.alloc [.int .i64 0,.int .i64 0,.int .i64 0]⟩,qm 4 10,qS 3 5 11,qm 6 12]
def WK.r2:=[qL 13 3 5,qm 14 6,qS 3 2 13,qm 3 14]
abbrev WK.id:Nat:=29
def WK.an:Ann:=[(0,[1,2]),(1,[2,5,6]),(2,[2,3])]
def WK.body:DC:=.seq (qR WK.r0 [1,2]) (.seq (qR WK.r1 [2,5,6]) (.seq (qR WK.r2 [2,3]) .ret))
def WK.df:DF:=⟨15,[.cellN 2 3,.tmp 3],WK.body⟩
theorem WK.ok:cf Tryz.prog WK.an WK.id=some WK.df:=by kernel_rfl
def Z9.r0:=[qa 5 2 1,ql 6 5,qa 7 2 2,ql 8 7,qd 9 .neq 6 8]
def Z9.r1:List DOp:=[qm 10 0,⟨some 11,none,.q (.build [.str [],.int .i64 0] [(1,1)]) [.cst (.int .i64 1)]⟩,⟨some 12,none,.call (.tmp 10) [.tmp 11]⟩]
def Z9.r2:List DOp:=[qL 13 3 1,qL 14 3 2,⟨some 15,none,.mkmap⟩,⟨some 16,none,.q (.build [.str [],.nilsl,.str [],.str [],.nilsl,.str [],.nilmap] [(0,3),(3,3),(6,1)]) [.tmp 13,.tmp 14,.tmp 15]⟩,qB 17 16,qm 4 17]
def Z9.r3:=[qm 18 4,qa 19 2 1,ql 20 19,qa 21 2 2,ql 22 21,qm 23 0,qf 24 31 [.tmp 18,.tmp 20,.tmp 22,.cst (.nilsl),.tmp 23]]
abbrev Z9.id:Nat:=30
def Z9.an:Ann:=[(0,[0,1,2,9]),(1,[]),(2,[0,1,2,4]),(3,[])]
def Z9.body:DC:=.seq (.seq (qR Z9.r0 [0,1,2,9]) (qC 9 (.seq (qR Z9.r1 []) .ret) .skip)) (.seq (qR Z9.r2 [0,1,2,4]) (qR Z9.r3 []))
def Z9.df:DF:=⟨25,[],Z9.body⟩
theorem Z9.ok:cf Tryz.prog Z9.an Z9.id=some Z9.df:=by kernel_rfl
def Zd.r0:=[qb 10 false]
def Zd.r1:=[qm 25 0,qk 26 .nilck 25,qa 27 0 26,qL 28 3 27,qm 29 1,qf 30 43 [.tmp 28,.tmp 29],qm 24 30,qx 31 0 24,qx 32 1 24,qm 11 31,qm 12 32]
def Zd.r2:=[qm 34 0,qk 35 .nilck 34,qa 36 3 35,qL 37 3 36,qm 38 2,qf 39 43 [.tmp 37,.tmp 38],qm 33 39,qx 40 0 33,qx 41 1 33,qm 13 40,qm 14 41]
def Zd.r3:List DOp:=[qm 42 0,qk 43 .nilck 42,qa 44 6 43,ql 45 44,qm 46 11,qm 47 13,⟨some 48,none,.q (.build [.int .i64 0,.int .i64 0] [(0,1),(1,1)]) [.tmp 46,.tmp 47]⟩,⟨some 49,none,.q (.lookup (.st [(0,.int),(1,.int)]) (.bool false) false) [.tmp 45,.tmp 48]⟩]
def Zd.r4:=[qb 10 true]
def Zd.r5:List DOp:=[qm 50 0,qk 51 .nilck 50,qa 52 6 51,ql 53 52,qm 54 11,qm 55 13,⟨some 56,none,.q (.build [.int .i64 0,.int .i64 0] [(0,1),(1,1)]) [.tmp 54,.tmp 55]⟩,⟨none,none,.mapupd (.st [(0,.int),(1,.int)]) (.tmp 53) (.tmp 56) (.cst (.bool true))⟩]
def Zd.r6:List (DOp × Bool):=[(qm 57 0,false),(qk 58 .nilck 57,false),(qa 59 0 58,false),(qa 60 1 59,false),(ql 61 60,false),(qm 62 11,false),(qX 63 2 61 62,false),(qL 64 2 63,false),(qm 65 0,false),(qk 66 .nilck 65,false),(qa 67 3 66,false),(qa 68 1 67,false),(ql 69 68,false),(qm 70 13,false),(qX 71 2 69 70,false),(qL 72 2 71,false),(⟨some 15,none,.alloc [.str [],.nilsl]⟩,false),(⟨some 16,none,.alloc [.str [],.nilsl]⟩,false),(qS 2 15 64,true),(qS 2 16 72,false)]
def Zd.r7:=[qa 73 1 15,ql 74 73,qk 75 .lenL 74,qa 76 1 16,ql 77 76,qk 78 .lenL 77,qd 79 .neq 75 78,qm 80 79,qy 80 (qm 81 4),qy 80 (qm 82 3),qy 80 (qf 83 44 [.tmp 82,.cst (.str [46])]),qy 80 ⟨some 84,none,.q (.build [.str [],.int .i64 0] [(0,1),(1,1)]) [.tmp 83,.cst (.int .i64 2)]⟩,qy 80 ⟨some 85,none,.call (.tmp 81) [.tmp 84]⟩,qy 80 (qk 86 .not 85),qO 87 80 86]
def Zd.r8:=[qb 10 false]
def Zd.r9:List DOp:=[qa 88 1 15,ql 89 88,qk 90 .lenL 89,qa 91 1 16,ql 92 91,qk 93 .lenL 92,⟨some 94,none,.q .min [.tmp 90,.tmp 93]⟩,qi 95 0]
def Zd.r10:=[qd 96 .lss 95 94]
def Zd.r11:=[qm 97 95,qm 17 97]
def Zd.r12:List DOp:=[qL 98 2 15,qa 99 1 15,ql 100 99,qm 101 17,qX 102 15 100 101,qL 103 15 102,qa 104 1 16,ql 105 104,qm 106 17,qX 107 15 105 106,qL 108 15 107,⟨some 109,none,.q (.build [.str [],.nilsl,.str [],.int .i64 0,.int .i64 0,.bool false,.bool false,.int .i64 0,.int .i64 0,.int .i64 0,.nilsl,.str [],.str [],.str [],.nilsl,.int .i64 0,.int .i64 0,.str [],.int .i64 0,.int .i64 0,.bool false,.bool false,.int .i64 0,.int .i64 0,.int .i64 0,.nilsl,.str [],.str [],.str [],.nilsl,.int .i64 0,.int .i64 0] [(0,2),(2,15),(17,15)]) [.tmp 98,.tmp 103,.tmp 108]⟩,⟨some 18,none,.alloc [.str [],.nilsl,.str [],.int .i64 0,.int .i64 0,.bool false,.bool false,.int .i64 0,.int .i64 0,.int .i64 0,.nilsl,.str [],.str [],.str [],.nilsl,.int .i64 0,.int .i64 0,.str [],.int .i64 0,.int .i64 0,.bool false,.bool false,.int .i64 0,.int .i64 0,.int .i64 0,.nilsl,.str [],.str [],.str [],.nilsl,.int .i64 0,.int .i64 0]⟩,qS 32 18 109]
def Zd.r13:List DOp:=[qm 110 3,qm 111 3,qk 112 .lenL 111,qm 113 3,qk 114 .lenL 113,⟨some 115,none,.q (.slice 1 false true true) [.tmp 110,.tmp 112,.tmp 114]⟩,qa 116 2 18,qa 117 0 116,ql 118 117,⟨some 119,none,.bsl 1 1 [.str []] [0] [.tmp 118]⟩,⟨some 120,none,.append 9 1 16 [.str []] (.tmp 115) (.tmp 119)⟩,qm 19 120]
def Zd.r14:=[qf 121 45 [],qk 122 .lenL 121,qi 123 0]
def Zd.r15:=[qd 124 .lss 123 122]
def Zd.r16:List DOp:=[qX 125 2 121 123,qL 126 2 125,⟨some 21,none,.alloc [.int .i64 0,.nilfn]⟩,qS 2 21 126]
def Zd.r17:List DOp:=[qa 127 1 21,ql 128 127,qL 129 32 18,⟨some 130,none,.call (.tmp 128) [.tmp 129]⟩]
def Zd.r18:List (DOp × Bool):=[(qm 131 4,false),(qm 132 19,false),(qa 134 0 21,false),(ql 135 134,false),(qf 133 44 [.tmp 132,.cst (.str [46])],true),(⟨some 136,none,.q (.build [.str [],.int .i64 0] [(0,1),(1,1)]) [.tmp 133,.tmp 135]⟩,false),(⟨some 137,none,.call (.tmp 131) [.tmp 136]⟩,false),(qk 138 .not 137,false)]
def Zd.r19:=[qb 10 false]
def Zd.r20:=[qe 139 .add 123 1,qm 123 139]
def Zd.l1:DC:=.seq (qR Zd.r15 [0,3,4,15,16,18,19,94,95,121,122,123,124]) (.seq (qC 124 .skip (.exit 2)) (.seq (.block 3 (.seq (qR Zd.r16 [0,3,4,15,16,18,19,21,94,95,121,122,123]) (.seq (.seq (qR Zd.r17 [0,3,4,15,16,18,19,21,94,95,121,122,123,130]) (qC 130 (.exit 3) .skip)) (.seq (.seq (.regD [0,1,3,4,2,5,6,7] Zd.r18 (some [0,3,4,15,16,94,95,138])) (qC 138 (.seq (qR Zd.r19 [10]) .ret) .skip)) (.exit 1))))) (qR Zd.r20 [0,3,4,15,16,18,19,94,95,121,122,123])))
def Zd.r21:=[qL 140 32 18,qf 141 46 [.tmp 140],qm 142 141,qy 142 (qm 143 0),qy 142 (qa 144 2 18),qy 142 (qa 145 9 144),qy 142 (ql 146 145),qy 142 (qa 147 17 18),qy 142 (qa 148 9 147),qy 142 (ql 149 148),qy 142 (qm 150 19),qy 142 (qm 151 4),qy 142 (qf 152 31 [.tmp 143,.tmp 146,.tmp 149,.tmp 150,.tmp 151]),qy 142 (qk 153 .not 152),qO 154 142 153]
def Zd.r22:=[qb 10 false]
def Zd.r23:=[qa 155 2 18,qa 156 12 155,ql 157 156,qk 158 .lenL 157,qi 159 0]
def Zd.r24:=[qd 160 .lss 159 158]
def Zd.r25:List DOp:=[qX 161 3 157 159,qL 162 3 161,⟨some 23,none,.alloc [.int .i64 0,.int .i64 0,.str []]⟩,qS 3 23 162]
def Zd.r26:List (DOp × Bool):=[(qm 163 0,false),(qa 164 2 23,false),(ql 165 164,false),(qa 166 2 23,false),(ql 167 166,false),(qm 168 19,false),(qm 169 19,false),(qk 170 .lenL 169,false),(qm 171 19,false),(qk 172 .lenL 171,false),(⟨some 173,none,.q (.slice 1 false true true) [.tmp 168,.tmp 170,.tmp 172]⟩,false),(qa 174 2 23,false),(ql 175 174,false),(⟨some 176,none,.bsl 1 1 [.str []] [0] [.tmp 175]⟩,false),(qm 178 4,false),(⟨some 177,none,.append 9 1 16 [.str []] (.tmp 173) (.tmp 176)⟩,true),(qf 179 31 [.tmp 163,.tmp 165,.tmp 167,.tmp 177,.tmp 178],false),(qk 180 .not 179,false)]
def Zd.r27:=[qb 10 false]
def Zd.r28:=[qe 181 .add 159 1,qm 159 181]
def Zd.l2:DC:=.seq (qR Zd.r24 [0,3,4,15,16,19,94,95,157,158,159,160]) (.seq (qC 160 .skip (.exit 4)) (.seq (.block 5 (.seq (qR Zd.r25 [0,3,4,15,16,19,23,94,95,157,158,159]) (.seq (.regD [0,1,2,3,4,5,6,7,8,9,10,11,12,13,15,14,16,17] Zd.r26 (some [0,3,4,15,16,19,94,95,157,158,159,180])) (qC 180 (.seq (qR Zd.r27 [10]) .ret) .skip)))) (qR Zd.r28 [0,3,4,15,16,19,94,95,157,158,159])))
def Zd.r29:=[qe 182 .add 95 1,qm 95 182]
def Zd.l0:DC:=.seq (qR Zd.r10 [0,3,4,15,16,94,95,96]) (.seq (qC 96 .skip (.exit 0)) (.seq (.block 1 (.seq (qR Zd.r11 [0,3,4,15,16,17,94,95]) (.seq (.regD [0,1,2,3,4,5,6,7,8,9,10,11,12,13] (ZaB Zd.r12) (some [0,3,4,15,16,18,94,95])) (.seq (.regD [0,1,2,3,4,5,6,7,8,9,10,11] (ZaB Zd.r13) (some [0,3,4,15,16,18,19,94,95])) (.seq (.seq (qR Zd.r14 [0,3,4,15,16,18,19,94,95,121,122,123]) (.block 2 (.loop Zd.l1))) (.seq (.seq (qR Zd.r21 [0,3,4,15,16,18,19,94,95,154]) (qC 154 (.seq (qR Zd.r22 [10]) .ret) .skip)) (.seq (qR Zd.r23 [0,3,4,15,16,19,94,95,157,158,159]) (.block 4 (.loop Zd.l2))))))))) (qR Zd.r29 [0,3,4,15,16,94,95])))
def Zd.r30:=[qb 10 true]
abbrev Zd.id:Nat:=31
def Zd.an:Ann:=[(0,[0,1,2,3,4]),(1,[0,2,3,4,11]),(2,[0,3,4,11,13]),(3,[0,3,4,11,13,49]),(4,[10]),(5,[0,3,4,11,13]),(6,[0,3,4,15,16]),(7,[0,3,4,15,16,87]),(8,[10]),(9,[0,3,4,15,16,94,95]),(10,[0,3,4,15,16,94,95,96]),(11,[0,3,4,15,16,17,94,95]),(12,[0,3,4,15,16,18,94,95]),(13,[0,3,4,15,16,18,19,94,95]),(14,[0,3,4,15,16,18,19,94,95,121,122,123]),(15,[0,3,4,15,16,18,19,94,95,121,122,123,124]),(16,[0,3,4,15,16,18,19,21,94,95,121,122,123]),(17,[0,3,4,15,16,18,19,21,94,95,121,122,123,130]),(18,[0,3,4,15,16,94,95,138]),(19,[10]),(20,[0,3,4,15,16,18,19,94,95,121,122,123]),(21,[0,3,4,15,16,18,19,94,95,154]),(22,[10]),(23,[0,3,4,15,16,19,94,95,157,158,159]),(24,[0,3,4,15,16,19,94,95,157,158,159,160]),(25,[0,3,4,15,16,19,23,94,95,157,158,159]),(26,[0,3,4,15,16,19,94,95,157,158,159,180]),(27,[10]),(28,[0,3,4,15,16,19,94,95,157,158,159]),(29,[0,3,4,15,16,94,95]),(30,[10]),(1000006,[0,1,2,3,4,5,6,7,8,9,10,11,12,13,14,15,16,17,18,19]),(1000012,[0,1,2,3,4,5,6,7,8,9,10,11,12,13]),(1000013,[0,1,2,3,4,5,6,7,8,9,10,11]),(1000018,[0,1,3,4,2,5,6,7]),(1000026,[0,1,2,3,4,5,6,7,8,9,10,11,12,13,15,14,16,17]),(2000006,[18]),(2000018,[2]),(2000026,[14])]
def Zd.body:DC:=.seq (qR Zd.r0 [0,1,2,3,4]) (.scope (.seq (qR Zd.r1 [0,2,3,4,11]) (.seq (qR Zd.r2 [0,3,4,11,13]) (.seq (.seq (qR Zd.r3 [0,3,4,11,13,49]) (qC 49 (.seq (qR Zd.r4 [10]) .ret) .skip)) (.seq (qR Zd.r5 [0,3,4,11,13]) (.seq (.regD [0,1,2,3,4,5,6,7,8,9,10,11,12,13,14,15,16,17,18,19] Zd.r6 (some [0,3,4,15,16])) (.seq (.seq (qR Zd.r7 [0,3,4,15,16,87]) (qC 87 (.seq (qR Zd.r8 [10]) .ret) .skip)) (.seq (.label 0) (.seq (.seq (qR Zd.r9 [0,3,4,15,16,94,95]) (.block 0 (.loop Zd.l0))) (.seq (qR Zd.r30 [10]) .ret))))))))))
def Zd.df:DF:=⟨183,[.tmp 10],Zd.body⟩
theorem Zd.ok:cf Tryz.prog Zd.an Zd.id=some Zd.df:=by kernel_rfl
end Go.DL
namespace Go.DL
open Go Go.Proofs
def Zx.r0:List DOp:=[qB 2 0,⟨some 4,none,.q .mv [.cst (.nilsl)]⟩]
def Zx.r1:=[qm 6 1]
def Zx.r2:List DOp:=[⟨some 5,none,.alloc [.str [],.int .i64 0]⟩,qS 2 5 7]
def Zx.r3:List DOp:=[ql 8 2,qL 9 2 5,⟨some 10,none,.bsl 1 2 [.str [],.int .i64 0] [0] [.tmp 9]⟩,⟨some 11,none,.append 32 2 24 [.str [],.int .i64 0] (.tmp 8) (.tmp 10)⟩,qs 2 11]
def Zx.a0:DC:=qR Zx.r2 [2,5,7]
def Zx.b0:DC:=.block 1 (qR Zx.r3 [2,7])
def Zx.r4:=[ql 12 2,qm 4 12]
abbrev Zx.id:Nat:=39
def Zx.an:Ann:=[(0,[1,2,7]),(1,[2,6,7]),(2,[2,5,7]),(3,[2,7]),(4,[4])]
def Zx.body:DC:=.seq (qR Zx.r0 [1,2,7]) (.seq (.seq (qR Zx.r1 [2,6,7]) (.block 0 (.rangeF (.tmp 6) [7] Zx.a0 Zx.b0))) (.seq (qR Zx.r4 [4]) .ret))
def Zx.df:DF:=⟨13,[.tmp 4],Zx.body⟩
theorem Zx.ok:cf Tryz.prog Zx.an Zx.id=some Zx.df:=by kernel_rfl
def ZJ.r0:=[ql 5 1,qk 6 .lenL 5,qi 7 0]
def ZJ.r1:=[qd 8 .lss 7 6]
def ZJ.r2:List DOp:=[qm 9 7,qX 10 2 5 7,qL 11 2 10,⟨some 4,none,.alloc [.str [],.int .i64 0]⟩,qm 3 9,qS 2 4 11]
def ZJ.r3:List DOp:=[qm 12 0,qm 13 3,qL 14 2 4,⟨some 15,none,.call (.tmp 12) [.tmp 13,.tmp 14]⟩,qk 16 .not 15]
def ZJ.r4:=[qe 17 .add 7 1,qm 7 17]
def ZJ.l0:DC:=.seq (qR ZJ.r1 [0,5,6,7,8]) (.seq (qC 8 .skip (.exit 0)) (.seq (.block 1 (.seq (qR ZJ.r2 [0,3,4,5,6,7]) (.seq (qR ZJ.r3 [0,5,6,7,16]) (qC 16 .ret .skip)))) (qR ZJ.r4 [0,5,6,7])))
abbrev ZJ.id:Nat:=40
def ZJ.an:Ann:=[(0,[0,5,6,7]),(1,[0,5,6,7,8]),(2,[0,3,4,5,6,7]),(3,[0,5,6,7,16]),(4,[0,5,6,7])]
def ZJ.body:DC:=.seq (qR ZJ.r0 [0,5,6,7]) (.block 0 (.loop ZJ.l0))
def ZJ.df:DF:=⟨18,[],ZJ.body⟩
theorem ZJ.ok:cf Tryz.prog ZJ.an ZJ.id=some ZJ.df:=by kernel_rfl
def Zs.r0:=[qi 4 0]
def Zs.r1:=[qm 6 0,qk 7 .lenL 6,qi 8 0]
def Zs.r2:=[qd 9 .lss 8 7]
def Zs.r3:=[qm 10 8,qm 5 10]
def Zs.r4:List DOp:=[qm 11 1,qm 12 0,qm 13 5,qX 14 1 12 13,ql 15 14,⟨some 16,none,.call (.tmp 11) [.tmp 15]⟩]
def Zs.r5:=[qm 17 5,qm 4 17]
def Zs.r6:=[qe 18 .add 8 1,qm 8 18]
def Zs.l0:DC:=.seq (qR Zs.r2 [0,1,7,8,9]) (.seq (qC 9 .skip (.exit 0)) (.seq (.block 1 (.seq (qR Zs.r3 [0,1,5,7,8]) (.seq (qR Zs.r4 [0,1,5,7,8,16]) (qC 16 (.seq (qR Zs.r5 [4]) .ret) .skip)))) (qR Zs.r6 [0,1,7,8])))
def Zs.r7:=[qi 4 (-1)]
abbrev Zs.id:Nat:=41
def Zs.an:Ann:=[(0,[0,1]),(1,[0,1,7,8]),(2,[0,1,7,8,9]),(3,[0,1,5,7,8]),(4,[0,1,5,7,8,16]),(5,[4]),(6,[0,1,7,8]),(7,[4])]
def Zs.body:DC:=.seq (qR Zs.r0 [0,1]) (.seq (.seq (qR Zs.r1 [0,1,7,8]) (.block 0 (.loop Zs.l0))) (.seq (qR Zs.r7 [4]) .ret))
def Zs.df:DF:=⟨19,[.tmp 4],Zs.body⟩
theorem Zs.ok:cf Tryz.prog Zs.an Zs.id=some Zs.df:=by kernel_rfl
def Zm.r0:List DOp:=[qB 1 0,⟨some 2,none,.q .mv [.cst (.nilptr)]⟩,⟨some 3,none,.alloc [.int .i64 0,.int .i64 0,.int .i64 0]⟩,⟨some 4,none,.alloc [.bool false]⟩]
def Zm.r1:List DOp:=[qL 9 3 1,⟨some 10,none,.mkmap⟩,⟨some 11,none,.mkmap⟩,⟨some 12,none,.q (.build [.str [],.nilsl,.str [],.nilmap,.nilmap,.int .i64 0,.int .i64 0,.str [],.nilsl] [(0,3),(3,1),(4,1),(5,1),(6,1)]) [.tmp 9,.tmp 10,.tmp 11,.cst (.int .i64 (-1)),.cst (.int .i64 (-1))]⟩,qB 13 12,qm 2 13]
def Zm.r2:List DOp:=[⟨some 14,none,.q (.mkfn (.func 55) 0) [.tmp 3,.tmp 4]⟩,⟨none,none,.defer (.tmp 14) []⟩]
def Zm.r3:=[qm 15 2,qa 16 0 1,ql 17 16,qf 18 57 [.tmp 17],qf 19 56 [.tmp 15,.tmp 18,.cst (.int .i64 1)]]
def Zm.r4:=[qm 20 2,qa 21 1 1,ql 22 21,qk 23 .lenL 22,qe 24 .geq 23 1,qm 25 24,qy 25 (qa 26 1 1),qy 25 (ql 27 26),qy 25 (qk 28 .lenL 27),qy 25 (qe 29 .leq 28 60),qO 30 25 29,qf 31 56 [.tmp 20,.tmp 30,.cst (.int .i64 3)]]
def Zm.r5:=[qa 32 1 1,ql 33 32,qk 34 .lenL 33,qi 35 0]
def Zm.r6:=[qd 36 .lss 35 34]
def Zm.r7:List DOp:=[qm 37 35,qX 38 2 33 35,qL 39 2 38,⟨some 6,none,.alloc [.str [],.nilsl]⟩,qm 5 37,qS 2 6 39]
def Zm.r8:=[qm 40 2,qm 41 5,qk 42 .nilck 40,qa 43 5 42,qs 43 41]
def Zm.r9:=[qm 44 2,qL 45 2 6,qf 46 58 [.tmp 44,.tmp 45]]
def Zm.r10:=[qe 47 .add 35 1,qm 35 47]
def Zm.l0:DC:=.seq (qR Zm.r6 [1,2,3,4,33,34,35,36]) (.seq (qC 36 .skip (.exit 0)) (.seq (.block 1 (.seq (qR Zm.r7 [1,2,3,4,5,6,33,34,35]) (.seq (qR Zm.r8 [1,2,3,4,6,33,34,35]) (qR Zm.r9 [1,2,3,4,33,34,35])))) (qR Zm.r10 [1,2,3,4,33,34,35])))
def Zm.r11:List DOp:=[qm 48 2,qk 49 .nilck 48,qa 50 5 49,⟨none,none,.store1 (.tmp 50) (.cst (.int .i64 (-1)))⟩]
def Zm.r12:List DOp:=[qm 52 2,qk 53 .nilck 52,qa 54 3 53,ql 55 54,qa 56 2 1,ql 57 56,⟨some 58,none,.q (.lookup (.sc .str) (.int .i64 0) true) [.tmp 55,.tmp 57]⟩,qm 51 58,qx 59 0 51,qx 60 1 51,qm 7 59,qm 8 60]
def Zm.r13:=[qm 61 2,qm 62 8,qf 63 56 [.tmp 61,.tmp 62,.cst (.int .i64 11)]]
def Zm.r14:List DOp:=[qm 64 2,⟨some 65,none,.q (.build [.int .i64 0,.int .i64 0,.int .i64 0] []) []⟩,qm 2 64,qS 3 3 65,⟨none,none,.store1 (.tmp 4) (.cst (.bool false))⟩]
abbrev Zm.id:Nat:=42
def Zm.an:Ann:=[(0,[1,3,4]),(1,[1,2,3,4]),(2,[1,2,3,4]),(3,[1,2,3,4]),(4,[1,2,3,4]),(5,[1,2,3,4,33,34,35]),(6,[1,2,3,4,33,34,35,36]),(7,[1,2,3,4,5,6,33,34,35]),(8,[1,2,3,4,6,33,34,35]),(9,[1,2,3,4,33,34,35]),(10,[1,2,3,4,33,34,35]),(11,[1,2,3,4]),(12,[2,3,4,8]),(13,[2,3,4]),(14,[2,3,4]),(1000012,[0,1,2,3,4,5,6,7,8,9,10,11])]
def Zm.body:DC:=.seq (qR Zm.r0 [1,3,4]) (.seq (qR Zm.r1 [1,2,3,4]) (.seq (qR Zm.r2 [1,2,3,4]) (.seq (qR Zm.r3 [1,2,3,4]) (.seq (qR Zm.r4 [1,2,3,4]) (.seq (.seq (qR Zm.r5 [1,2,3,4,33,34,35]) (.block 0 (.loop Zm.l0))) (.seq (qR Zm.r11 [1,2,3,4]) (.seq (.regD [0,1,2,3,4,5,6,7,8,9,10,11] (ZaB Zm.r12) (some [2,3,4,8])) (.seq (qR Zm.r13 [2,3,4]) (.seq (qR Zm.r14 [2,3,4]) .ret)))))))))
def Zm.df:DF:=⟨66,[.tmp 2,.cellN 3 3,.cell1 4],Zm.body⟩
theorem Zm.ok:cf Tryz.prog Zm.an Zm.id=some Zm.df:=by kernel_rfl
def Ks.r0:=[qB 2 0,qB 3 1,qi 4 0,qb 5 false]
def Ks.r1:List DOp:=[qa 6 1 2,ql 7 6,⟨some 8,none,.q (.mkfn (.func 60) 0) [.tmp 3]⟩,qf 9 59 [.tmp 7,.tmp 8],qx 10 0 9,qx 11 1 9,qm 4 10,qm 5 11]
abbrev Ks.id:Nat:=43
def Ks.an:Ann:=[(0,[2,3]),(1,[4,5])]
def Ks.body:DC:=.seq (qR Ks.r0 [2,3]) (.seq (qR Ks.r1 [4,5]) .ret)
def Ks.df:DF:=⟨12,[.tmp 4,.tmp 5],Ks.body⟩
theorem Ks.ok:cf Tryz.prog Ks.an Ks.id=some Ks.df:=by kernel_rfl
abbrev strings_Join.id:Nat:=44
def Kb.r0:List DOp:=[⟨some 0,none,.q .mv [.cst (.nilsl)]⟩]
def Kb.r1:List DOp:=[⟨some 1,none,.q (.build [.int .i64 0,.nilfn] [(0,1),(1,1)]) [.cst (.int .i64 3),.cst (.fn (.func 64) [] [])]⟩,⟨some 2,none,.q (.build [.int .i64 0,.nilfn] [(0,1),(1,1)]) [.cst (.int .i64 4),.cst (.fn (.func 65) [] [])]⟩,⟨some 3,none,.q (.build [.int .i64 0,.nilfn] [(0,1),(1,1)]) [.cst (.int .i64 5),.cst (.fn (.func 66) [] [])]⟩,⟨some 4,none,.q (.build [.int .i64 0,.nilfn] [(0,1),(1,1)]) [.cst (.int .i64 6),.cst (.fn (.func 67) [] [])]⟩,⟨some 5,none,.q (.build [.int .i64 0,.nilfn] [(0,1),(1,1)]) [.cst (.int .i64 7),.cst (.fn (.func 68) [] [])]⟩,⟨some 6,none,.q (.build [.int .i64 0,.nilfn] [(0,1),(1,1)]) [.cst (.int .i64 8),.cst (.fn (.func 69) [] [])]⟩,⟨some 7,none,.q (.build [.int .i64 0,.nilfn] [(0,1),(1,1)]) [.cst (.int .i64 9),.cst (.fn (.func 71) [] [])]⟩,⟨some 8,none,.q (.build [.int .i64 0,.nilfn] [(0,1),(1,1)]) [.cst (.int .i64 10),.cst (.fn (.func 72) [] [])]⟩,⟨some 9,none,.q (.build [.int .i64 0,.nilfn] [(0,1),(1,1)]) [.cst (.int .i64 11),.cst (.fn (.func 73) [] [])]⟩,⟨some 10,none,.bsl 9 2 [.int .i64 0,.nilfn] [0,1,2,3,4,5,6,7,8] [.tmp 1,.tmp 2,.tmp 3,.tmp 4,.tmp 5,.tmp 6,.tmp 7,.tmp 8,.tmp 9]⟩,qm 0 10]
abbrev Kb.id:Nat:=45
def Kb.an:Ann:=[(0,[]),(1,[0])]
def Kb.body:DC:=.seq (qR Kb.r0 []) (.seq (qR Kb.r1 [0]) .ret)
def Kb.df:DF:=⟨11,[.tmp 0],Kb.body⟩
theorem Kb.ok:cf Tryz.prog Kb.an Kb.id=some Kb.df:=by kernel_rfl
def Yh.r0:=[qB 1 0,qb 2 false]
def Yh.r1:List DOp:=[⟨some 4,none,.mkmap⟩,⟨none,none,.mapupd (.sc .int) (.tmp 4) (.cst (.int .i64 8)) (.cst (.fn (.func 74) [] []))⟩,⟨none,none,.mapupd (.sc .int) (.tmp 4) (.cst (.int .i64 12)) (.cst (.fn (.func 75) [] []))⟩,⟨some 5,none,.q (.mkfn (.func 76) 0) [.tmp 1]⟩,⟨none,none,.mapupd (.sc .int) (.tmp 4) (.cst (.int .i64 7)) (.tmp 5)⟩,qm 6 4,qa 7 2 1,qa 8 1 7,ql 9 8,⟨some 10,none,.q (.lookup (.sc .int) (.nilfn) false) [.tmp 6,.tmp 9]⟩,qm 3 10]
def Yh.r2:List DOp:=[qm 11 3,⟨some 12,none,.q (.bin .neq (some .fn)) [.tmp 11,.cst (.nilfn)]⟩,qm 13 12,qy 13 (qm 14 3),qy 13 ⟨some 15,none,.call (.tmp 14) []⟩,qO 16 13 15,qm 2 16]
abbrev Yh.id:Nat:=46
def Yh.an:Ann:=[(0,[1]),(1,[3]),(2,[2])]
def Yh.body:DC:=.seq (qR Yh.r0 [1]) (.seq (qR Yh.r1 [3]) (.seq (qR Yh.r2 [2]) .ret))
def Yh.df:DF:=⟨17,[.tmp 2],Yh.body⟩
theorem Yh.ok:cf Tryz.prog Yh.an Yh.id=some Yh.df:=by kernel_rfl
def ZZ.r0:List DOp:=[⟨some 3,none,.recover⟩,qm 2 3]
def ZZ.r1:List DOp:=[qm 4 2,⟨some 5,none,.q (.bin .neq (some .ifc)) [.tmp 4,.cst (.niliface)]⟩]
def ZZ.r2:List DOp:=[qm 7 2,⟨some 8,none,.q (.tassert 72 true (.agg [.int .i64 0,.int .i64 0,.int .i64 0])) [.tmp 7]⟩,qm 6 8,qx 9 0 6,qx 10 1 6,qS 3 0 9,qs 1 10]
def ZZ.r3:=[ql 11 1,qk 12 .not 11]
def ZZ.r4:List DOp:=[qm 13 2,⟨none,none,.panic (.tmp 13)⟩]
abbrev ZZ.id:Nat:=55
def ZZ.an:Ann:=[(0,[0,1,2]),(1,[0,1,2,5]),(2,[1,2]),(3,[2,12]),(4,[])]
def ZZ.body:DC:=.seq (qR ZZ.r0 [0,1,2]) (.seq (qR ZZ.r1 [0,1,2,5]) (qC 5 (.seq (qR ZZ.r2 [1,2]) (.seq (qR ZZ.r3 [2,12]) (qC 12 (qR ZZ.r4 []) .skip))) .skip))
def ZZ.df:DF:=⟨14,[],ZZ.body⟩
theorem ZZ.ok:cf Tryz.prog ZZ.an ZZ.id=some ZZ.df:=by kernel_rfl
def YL.r0:=[qm 6 1,qk 7 .not 6]
def YL.r1:List DOp:=[qm 8 0,qk 9 .nilck 8,qa 10 5 9,ql 11 10,qm 12 0,qk 13 .nilck 12,qa 14 6 13,ql 15 14,qm 16 2,⟨some 17,none,.q (.build [.int .i64 0,.int .i64 0,.int .i64 0] [(0,1),(1,1),(2,1)]) [.tmp 11,.tmp 15,.tmp 16]⟩,qk 18 (.mkif 72) 17,⟨none,none,.panic (.tmp 18)⟩]
abbrev YL.id:Nat:=56
def YL.an:Ann:=[(0,[0,2,7]),(1,[]),(1000001,[0,1,2,3,4,5,6,7,8,9,10,11])]
def YL.body:DC:=.seq (qR YL.r0 [0,2,7]) (qC 7 (.regD [0,1,2,3,4,5,6,7,8,9,10,11] (ZaB YL.r1) (some [])) .skip)
def YL.df:DF:=⟨19,[],YL.body⟩
theorem YL.ok:cf Tryz.prog YL.an YL.id=some YL.df:=by kernel_rfl
def KE.r0:=[qb 2 false]
def KE.r1:List DOp:=[⟨some 3,none,.q .mv [.cst (.fn (.func 93) [] [])]⟩]
def KE.r2:List DOp:=[qm 4 0,qk 5 .lenS 4,qe 6 .geq 5 1,qm 7 0,qk 8 .lenS 7,qe 9 .leq 8 32,⟨some 10,none,.bsl 2 1 [.bool false] [0,1] [.tmp 6,.tmp 9]⟩,qf 11 96 [.tmp 10],qm 12 11,qy 12 (qm 13 0),qy 12 ⟨some 14,none,.q .idxS [.tmp 13,.cst (.int .i64 0)]⟩,qy 12 (qf 15 94 [.tmp 14]),qO 16 12 15,qm 17 16,qy 17 (qm 18 0),qy 17 ⟨some 19,none,.s2b (.tmp 18)⟩,qy 17 (qm 20 3),qy 17 (qf 21 97 [.tmp 19,.tmp 20]),qy 17 (qk 22 .not 21),qO 23 17 22,qm 2 23]
abbrev KE.id:Nat:=57
def KE.an:Ann:=[(0,[0]),(1,[0,3]),(2,[2])]
def KE.body:DC:=.seq (qR KE.r0 [0]) (.seq (qR KE.r1 [0,3]) (.seq (qR KE.r2 [2]) .ret))
def KE.df:DF:=⟨24,[.tmp 2],KE.body⟩
theorem KE.ok:cf Tryz.prog KE.an KE.id=some KE.df:=by kernel_rfl
def Ze.r0:=[qB 2 0,qB 3 1]
def Ze.r1:List (DOp × Bool):=[(ql 11 2,false),(ql 12 2,false),(qL 13 2 3,false),(qk 14 .nilck 11,false),(qa 15 7 14,false),(qS 2 15 13,true),(qk 16 .nilck 12,false),(qa 17 6 16,false),(⟨none,none,.store1 (.tmp 17) (.cst (.int .i64 (-1)))⟩,false)]
def Ze.r2:=[(ql 18 2,false),(qa 19 0 3,false),(ql 20 19,false),(qf 21 57 [.tmp 20],true),(qf 22 56 [.tmp 18,.tmp 21,.cst (.int .i64 1)],false)]
def Ze.r3:List DOp:=[ql 24 2,qk 25 .nilck 24,qa 26 3 25,ql 27 26,qa 28 0 3,ql 29 28,⟨some 30,none,.q (.lookup (.sc .str) (.int .i64 0) true) [.tmp 27,.tmp 29]⟩,qm 23 30,qx 31 0 23,qx 32 1 23,qm 4 31,qm 5 32]
def Ze.r4:=[ql 33 2,qm 34 5,qk 35 .not 34,qf 36 56 [.tmp 33,.tmp 35,.cst (.int .i64 2)]]
def Ze.r5:=[ql 37 2,qa 38 1 3,ql 39 38,qk 40 .lenL 39,qe 41 .geq 40 1,qm 42 41,qy 42 (qa 43 1 3),qy 42 (ql 44 43),qy 42 (qk 45 .lenL 44),qy 42 (qe 46 .leq 45 40),qO 47 42 46,qf 48 56 [.tmp 37,.tmp 47,.cst (.int .i64 3)]]
def Ze.r6:List DOp:=[⟨some 6,none,.alloc [.bool false]⟩,⟨none,none,.store1 (.tmp 6) (.cst (.bool true))⟩]
def Ze.r7:=[qa 49 1 3,ql 50 49,qk 51 .lenL 50,qi 52 0]
def Ze.r8:=[qd 53 .lss 52 51]
def Ze.r9:List DOp:=[qm 54 52,qX 55 15 50 52,qL 56 15 55,⟨some 8,none,.alloc [.str [],.int .i64 0,.int .i64 0,.bool false,.bool false,.int .i64 0,.int .i64 0,.int .i64 0,.nilsl,.str [],.str [],.str [],.nilsl,.int .i64 0,.int .i64 0]⟩,qm 7 54,qS 15 8 56]
def Ze.r10:=[ql 57 2,qm 58 7,qk 59 .nilck 57,qa 60 6 59,qs 60 58]
def Ze.r11:=[ql 61 2,qL 62 15 8,qf 63 98 [.tmp 61,.tmp 62]]
def Ze.r12:=[ql 64 6,qm 65 64,qy 65 (qa 66 4 8),qy 65 (ql 67 66),qy 65 (qk 68 .not 67),qO 69 65 68,qs 6 69]
def Ze.r13:=[qe 70 .add 52 1,qm 52 70]
def Ze.l0:DC:=.seq (qR Ze.r8 [2,3,6,50,51,52,53,76]) (.seq (qC 53 .skip (.exit 0)) (.seq (.block 1 (.seq (qR Ze.r9 [2,3,6,7,8,50,51,52,76]) (.seq (qR Ze.r10 [2,3,6,8,50,51,52,76]) (.seq (qR Ze.r11 [2,3,6,8,50,51,52,76]) (qR Ze.r12 [2,3,6,50,51,52,76]))))) (qR Ze.r13 [2,3,6,50,51,52,76])))
def Ze.r14:List DOp:=[ql 71 2,qk 72 .nilck 71,qa 73 6 72,⟨none,none,.store1 (.tmp 73) (.cst (.int .i64 (-1)))⟩]
def Ze.r15:List DOp:=[⟨some 9,none,.alloc [.int .i64 0]⟩,⟨none,none,.store1 (.tmp 9) (.cst (.int .i64 0))⟩]
def Ze.r16:=[qL 74 2 3,qf 75 99 [.tmp 74]]
def Ze.r17:=[qm 10 76]
def Ze.r18:List DOp:=[ql 77 9,ql 78 2,qk 79 .nilck 78,qa 80 3 79,ql 81 80,qm 82 10,⟨some 83,none,.q (.lookup (.sc .str) (.int .i64 0) false) [.tmp 81,.tmp 82]⟩,⟨some 84,none,.q .max [.tmp 77,.tmp 83]⟩,qs 9 84]
def Ze.r19:=[ql 85 6,qm 86 85,qy 86 (ql 87 2),qy 86 (qk 88 .nilck 87),qy 86 (qa 89 4 88),qy 86 (ql 90 89),qy 86 (qm 91 10),qy 86 ⟨some 92,none,.q (.lookup (.sc .str) (.bool false) false) [.tmp 90,.tmp 91]⟩,qO 93 86 92,qs 6 93]
def Ze.a1:DC:=qR Ze.r17 [2,3,6,9,10,76]
def Ze.b1:DC:=.block 3 (.seq (.regD [0,1,2,3,4,5,6,7,8] (ZaB Ze.r18) (some [2,3,6,9,10,76])) (qR Ze.r19 [2,3,6,9,76]))
def Ze.r20:List (DOp × Bool):=[(ql 94 2,false),(qk 95 .nilck 94,false),(qa 96 3 95,false),(ql 97 96,false),(qa 98 0 3,false),(ql 99 98,false),(ql 100 2,false),(qk 101 .nilck 100,false),(qa 102 4 101,false),(ql 103 102,false),(qa 104 0 3,false),(ql 105 104,false),(ql 106 9,false),(qe 107 .add 106 1,false),(ql 108 6,false),(⟨some 109,none,.mapent (.sc .str) (.int .i64 0) (.tmp 97) (.tmp 99)⟩,true),(qx 110 1 109,false),(⟨none,none,.entst (.tmp 97) (.tmp 110) (.tmp 107)⟩,true),(⟨some 111,none,.mapent (.sc .str) (.bool false) (.tmp 103) (.tmp 105)⟩,true),(qx 112 1 111,false),(⟨none,none,.entst (.tmp 103) (.tmp 112) (.tmp 108)⟩,false)]
def Ze.r21:=[ql 113 2,ql 114 9,qe 115 .lss 114 16,qf 116 56 [.tmp 113,.tmp 115,.cst (.int .i64 10)]]
abbrev Ze.id:Nat:=58
def Ze.an:Ann:=[(0,[2,3,76]),(1,[2,3,76]),(2,[2,3,76]),(3,[2,3,5,76]),(4,[2,3,76]),(5,[2,3,76]),(6,[2,3,6,76]),(7,[2,3,6,50,51,52,76]),(8,[2,3,6,50,51,52,53,76]),(9,[2,3,6,7,8,50,51,52,76]),(10,[2,3,6,8,50,51,52,76]),(11,[2,3,6,8,50,51,52,76]),(12,[2,3,6,50,51,52,76]),(13,[2,3,6,50,51,52,76]),(14,[2,3,6,76]),(15,[2,3,6,9,76]),(16,[2,3,6,9,75,76]),(17,[2,3,6,9,10,76]),(18,[2,3,6,9,10,76]),(19,[2,3,6,9,76]),(20,[2,9]),(21,[]),(1000001,[0,1,2,3,4,5,6,7,8]),(1000002,[0,1,2,3,4]),(1000003,[0,1,2,3,4,5,6,7,8,9,10,11]),(1000018,[0,1,2,3,4,5,6,7,8]),(1000020,[0,1,2,3,4,5,6,7,8,9,10,11,12,13,14,15,16,17,18,19,20]),(2000001,[5]),(2000002,[3]),(2000020,[15,17,18])]
def Ze.body:DC:=.seq (qR Ze.r0 [2,3,76]) (.seq (.regD [0,1,2,3,4,5,6,7,8] Ze.r1 (some [2,3,76])) (.seq (.regD [0,1,2,3,4] Ze.r2 (some [2,3,76])) (.seq (.regD [0,1,2,3,4,5,6,7,8,9,10,11] (ZaB Ze.r3) (some [2,3,5,76])) (.seq (qR Ze.r4 [2,3,76]) (.seq (qR Ze.r5 [2,3,76]) (.seq (qR Ze.r6 [2,3,6,76]) (.seq (.seq (qR Ze.r7 [2,3,6,50,51,52,76]) (.block 0 (.loop Ze.l0))) (.seq (qR Ze.r14 [2,3,6,76]) (.seq (qR Ze.r15 [2,3,6,9,76]) (.seq (.seq (qR Ze.r16 [2,3,6,9,75,76]) (.block 2 (.rangeF (.tmp 75) [76] Ze.a1 Ze.b1))) (.seq (.regD [0,1,2,3,4,5,6,7,8,9,10,11,12,13,14,15,16,17,18,19,20] Ze.r20 (some [2,9])) (qR Ze.r21 []))))))))))))
def Ze.df:DF:=⟨117,[],Ze.body⟩
theorem Ze.ok:cf Tryz.prog Ze.an Ze.id=some Ze.df:=by kernel_rfl
def Yl.r0:=[qi 4 0,qb 5 false]
def Yl.r1:=[qm 7 0,qm 8 1,qf 9 100 [.tmp 7,.tmp 8],qm 6 9]
def Yl.r2:List DOp:=[qm 10 6,⟨some 11,none,.q .max [.tmp 10,.cst (.int .i64 0)]⟩,qm 12 6,qe 13 .geq 12 0,qm 4 11,qm 5 13]
abbrev Yl.id:Nat:=59
def Yl.an:Ann:=[(0,[0,1]),(1,[6]),(2,[4,5])]
def Yl.body:DC:=.seq (qR Yl.r0 [0,1]) (.seq (qR Yl.r1 [6]) (.seq (qR Yl.r2 [4,5]) .ret))
def Yl.df:DF:=⟨14,[.tmp 4,.tmp 5],Yl.body⟩
theorem Yl.ok:cf Tryz.prog Yl.an Yl.id=some Yl.df:=by kernel_rfl
def WN.r0:=[qB 2 0,qb 3 false]
def WN.r1:=[qa 4 0 2,ql 5 4,ql 6 1,qd 7 .eql 5 6,qm 3 7]
abbrev WN.id:Nat:=60
def WN.an:Ann:=[(0,[1,2]),(1,[3])]
def WN.body:DC:=.seq (qR WN.r0 [1,2]) (.seq (qR WN.r1 [3]) .ret)
def WN.df:DF:=⟨8,[.tmp 3],WN.body⟩
theorem WN.ok:cf Tryz.prog WN.an WN.id=some WN.df:=by kernel_rfl
def WA.r0:=[qB 1 0,qb 2 false]
def WA.r1:=[qa 3 2 1,qa 4 0 3,ql 5 4,qa 6 17 1,qa 7 0 6,ql 8 7,qd 9 .eql 5 8,qm 2 9]
abbrev WA.id:Nat:=64
def WA.an:Ann:=[(0,[1]),(1,[2])]
def WA.body:DC:=.seq (qR WA.r0 [1]) (.seq (qR WA.r1 [2]) .ret)
def WA.df:DF:=⟨10,[.tmp 2],WA.body⟩
theorem WA.ok:cf Tryz.prog WA.an WA.id=some WA.df:=by kernel_rfl
def Wz.r0:=[qB 1 0,qb 2 false]
def Wz.r1:=[qa 3 2 1,qa 4 1 3,ql 5 4,qa 6 17 1,qa 7 1 6,ql 8 7,qd 9 .eql 5 8,qm 2 9]
abbrev Wz.id:Nat:=65
def Wz.an:Ann:=[(0,[1]),(1,[2])]
def Wz.body:DC:=.seq (qR Wz.r0 [1]) (.seq (qR Wz.r1 [2]) .ret)
def Wz.df:DF:=⟨10,[.tmp 2],Wz.body⟩
theorem Wz.ok:cf Tryz.prog Wz.an Wz.id=some Wz.df:=by kernel_rfl
def Wb.r0:=[qB 1 0,qb 2 false]
def Wb.r1:=[qa 4 2 1,qa 5 2 4,ql 6 5,qa 7 17 1,qa 8 2 7,ql 9 8,qd 10 .eql 6 9,qm 11 10,qy 11 (qa 12 2 1),qy 11 (qa 13 3 12),qy 11 (ql 14 13),qy 11 (qa 15 17 1),qy 11 (qa 16 3 15),qy 11 (ql 17 16),qy 11 ⟨some 18,none,.q (.bin .eql (some .bool)) [.tmp 14,.tmp 17]⟩,qO 19 11 18,qm 20 19,qy 20 (qa 21 2 1),qy 20 (qa 22 13 21),qy 20 (ql 23 22),qy 20 (qa 24 17 1),qy 20 (qa 25 13 24),qy 20 (ql 26 25),qy 20 (qd 27 .eql 23 26),qO 28 20 27,qm 29 28,qy 29 (qa 30 2 1),qy 29 (qa 31 14 30),qy 29 (ql 32 31),qy 29 (qa 33 17 1),qy 29 (qa 34 14 33),qy 29 (ql 35 34),qy 29 (qd 36 .eql 32 35),qO 37 29 36,qm 3 37]
def Wb.r2:=[qm 38 3,qm 39 38,qy 39 (qa 40 2 1),qy 39 (qa 41 1 40),qy 39 (ql 42 41),qy 39 (qe 43 .neq 42 5),qy 39 (qm 44 43),qn 44 (qa 45 2 1),qn 44 (qa 46 5 45),qn 44 (ql 47 46),qn 44 (qa 48 17 1),qn 44 (qa 49 5 48),qn 44 (ql 50 49),qn 44 (qd 51 .eql 47 50),qy 39 (qo 52 44 51),qO 53 39 52,qm 2 53]
abbrev Wb.id:Nat:=66
def Wb.an:Ann:=[(0,[1]),(1,[1,3]),(2,[2])]
def Wb.body:DC:=.seq (qR Wb.r0 [1]) (.seq (qR Wb.r1 [1,3]) (.seq (qR Wb.r2 [2]) .ret))
def Wb.df:DF:=⟨54,[.tmp 2],Wb.body⟩
theorem Wb.ok:cf Tryz.prog Wb.an Wb.id=some Wb.df:=by kernel_rfl
def ZF.r0:=[qB 1 0,qb 2 false]
def ZF.r1:List (DOp × Bool):=[(qa 5 2 1,false),(qa 6 5 5,false),(ql 7 6,false),(qa 8 2 1,false),(qa 9 6 8,false),(ql 10 9,false),(⟨some 11,none,.q (.build [.int .i64 0,.int .i64 0] [(0,1),(1,1)]) [.tmp 7,.tmp 10]⟩,false),(qa 12 17 1,false),(qa 13 5 12,false),(ql 14 13,false),(qa 15 17 1,false),(qa 16 6 15,false),(ql 17 16,false),(⟨some 18,none,.q (.build [.int .i64 0,.int .i64 0] [(0,1),(1,1)]) [.tmp 14,.tmp 17]⟩,false),(⟨some 3,none,.alloc [.int .i64 0,.int .i64 0]⟩,false),(⟨some 4,none,.alloc [.int .i64 0,.int .i64 0]⟩,false),(qS 2 3 11,true),(qS 2 4 18,false)]
def ZF.r2:=[qa 19 2 1,qa 20 1 19,ql 21 20]
def ZF.r3:=[qe 23 .eql 21 2,qm 22 23]
def ZF.r4:=[qa 24 0 3,ql 25 24,qa 26 0 4,ql 27 26,qd 28 .eql 25 27,qm 2 28]
def ZF.r5:=[qe 30 .eql 21 1,qm 29 30]
def ZF.r6:=[qe 31 .eql 21 3,qm 29 31]
def ZF.r7:=[qa 32 0 3,ql 33 32,qa 34 0 4,ql 35 34,qd 36 .geq 33 35,qm 37 36,qy 37 (qa 38 1 3),qy 37 (ql 39 38),qy 37 (qa 40 1 4),qy 37 (ql 41 40),qy 37 (qd 42 .leq 39 41),qO 43 37 42,qm 2 43]
def ZF.r8:=[qa 44 1 3,ql 45 44,qa 46 1 4,ql 47 46,qd 48 .leq 45 47,qm 2 48]
abbrev ZF.id:Nat:=67
def ZF.an:Ann:=[(0,[1]),(1,[1,3,4]),(2,[3,4,21]),(3,[3,4,21,22]),(4,[2]),(5,[3,4,21,29]),(6,[3,4,29]),(7,[2]),(8,[2]),(1000001,[0,1,2,3,4,5,6,7,8,9,10,11,12,13,14,15,16,17]),(2000001,[16])]
def ZF.body:DC:=.seq (qR ZF.r0 [1]) (.seq (.regD [0,1,2,3,4,5,6,7,8,9,10,11,12,13,14,15,16,17] ZF.r1 (some [1,3,4])) (.seq (.seq (qR ZF.r2 [3,4,21]) (.block 0 (.seq (qR ZF.r3 [3,4,21,22]) (qC 22 (.seq (qR ZF.r4 [2]) .ret) (.seq (.seq (qR ZF.r5 [3,4,21,29]) (qC 29 .skip (qR ZF.r6 [3,4,29]))) (qC 29 (.seq (qR ZF.r7 [2]) .ret) .skip)))))) (.seq (qR ZF.r8 [2]) .ret)))
def ZF.df:DF:=⟨49,[.tmp 2],ZF.body⟩
theorem ZF.ok:cf Tryz.prog ZF.an ZF.id=some ZF.df:=by kernel_rfl
def WF.r0:=[qB 1 0,qb 2 false]
def WF.r1:=[qa 3 2 1,qa 4 4 3,ql 5 4,qk 6 .not 5,qm 7 6,qn 7 (qa 8 17 1),qn 7 (qa 9 4 8),qn 7 (ql 10 9),qo 11 7 10,qm 2 11]
abbrev WF.id:Nat:=68
def WF.an:Ann:=[(0,[1]),(1,[2])]
def WF.body:DC:=.seq (qR WF.r0 [1]) (.seq (qR WF.r1 [2]) .ret)
def WF.df:DF:=⟨12,[.tmp 2],WF.body⟩
theorem WF.ok:cf Tryz.prog WF.an WF.id=some WF.df:=by kernel_rfl
def WB.r0:=[qB 1 0,qb 2 false]
def WB.r1:=[qa 3 2 1,qa 4 7 3,qL 5 2 4,qa 6 17 1,qa 7 7 6,qL 8 2 7,qf 9 70 [.tmp 5,.tmp 8],qm 2 9]
abbrev WB.id:Nat:=69
def WB.an:Ann:=[(0,[1]),(1,[2])]
def WB.body:DC:=.seq (qR WB.r0 [1]) (.seq (qR WB.r1 [2]) .ret)
def WB.df:DF:=⟨10,[.tmp 2],WB.body⟩
theorem WB.ok:cf Tryz.prog WB.an WB.id=some WB.df:=by kernel_rfl
def WO.r0:=[qB 2 0,qB 3 1,qb 4 false]
def WO.r1:List DOp:=[qL 10 2 2,qf 11 103 [.tmp 10],qm 9 11,qx 12 0 9,qx 13 1 9,⟨some 5,none,.alloc [.int .i64 0,.nilsl]⟩,qS 2 5 12,qm 6 13]
def WO.r2:List DOp:=[qL 15 2 3,qf 16 103 [.tmp 15],qm 14 16,qx 17 0 14,qx 18 1 14,⟨some 7,none,.alloc [.int .i64 0,.nilsl]⟩,qS 2 7 17,qm 8 18]
def WO.r3:List DOp:=[qm 19 6,qm 20 8,⟨some 21,none,.bsl 2 1 [.int .i64 0] [0,1] [.tmp 19,.tmp 20]⟩,qf 22 104 [.tmp 21],qe 23 .eql 22 0,qm 24 23,qy 24 (qa 25 0 5),qy 24 (ql 26 25),qy 24 (qa 27 0 7),qy 24 (ql 28 27),qy 24 (qd 29 .eql 26 28),qO 30 24 29,qm 31 30,qy 31 (qa 32 1 5),qy 31 (ql 33 32),qy 31 (qa 34 1 7),qy 31 (ql 35 34),qy 31 (qf 36 105 [.tmp 33,.tmp 35]),qO 37 31 36,qm 4 37]
abbrev WO.id:Nat:=70
def WO.an:Ann:=[(0,[2,3]),(1,[3,5,6]),(2,[5,6,7,8]),(3,[4])]
def WO.body:DC:=.seq (qR WO.r0 [2,3]) (.seq (qR WO.r1 [3,5,6]) (.seq (qR WO.r2 [5,6,7,8]) (.seq (qR WO.r3 [4]) .ret)))
def WO.df:DF:=⟨38,[.tmp 4],WO.body⟩
theorem WO.ok:cf Tryz.prog WO.an WO.id=some WO.df:=by kernel_rfl
def WD.r0:=[qB 1 0,qb 2 false]
def WD.r1:=[qa 3 2 1,qa 4 10 3,ql 5 4,qa 6 17 1,qa 7 10 6,ql 8 7,qd 9 .eql 5 8,qm 10 9,qy 10 (qa 11 2 1),qy 10 (qa 12 11 11),qy 10 (ql 13 12),qy 10 (qa 14 17 1),qy 10 (qa 15 11 14),qy 10 (ql 16 15),qy 10 (qd 17 .eql 13 16),qO 18 10 17,qm 2 18]
abbrev WD.id:Nat:=71
def WD.an:Ann:=[(0,[1]),(1,[2])]
def WD.body:DC:=.seq (qR WD.r0 [1]) (.seq (qR WD.r1 [2]) .ret)
def WD.df:DF:=⟨19,[.tmp 2],WD.body⟩
theorem WD.ok:cf Tryz.prog WD.an WD.id=some WD.df:=by kernel_rfl
def WG.r0:=[qB 1 0,qb 2 false]
def WG.r1:=[qL 3 32 1,qf 4 46 [.tmp 3],qk 5 .not 4,qm 6 5,qn 6 (qa 7 2 1),qn 6 (qa 8 9 7),qn 6 (ql 9 8),qn 6 (qa 10 17 1),qn 6 (qa 11 9 10),qn 6 (ql 12 11),qn 6 (qd 13 .eql 9 12),qo 14 6 13,qm 2 14]
abbrev WG.id:Nat:=72
def WG.an:Ann:=[(0,[1]),(1,[2])]
def WG.body:DC:=.seq (qR WG.r0 [1]) (.seq (qR WG.r1 [2]) .ret)
def WG.df:DF:=⟨15,[.tmp 2],WG.body⟩
theorem WG.ok:cf Tryz.prog WG.an WG.id=some WG.df:=by kernel_rfl
def Zj.r0:=[qB 1 0,qb 2 false]
def Zj.r1:=[qa 8 2 1,qa 9 12 8,ql 10 9,qk 11 .lenL 10,qi 12 0]
def Zj.r2:=[qd 13 .lss 12 11]
def Zj.r3:List DOp:=[qX 14 3 10 12,qL 15 3 14,⟨some 4,none,.alloc [.int .i64 0,.int .i64 0,.str []]⟩,qS 3 4 15]
def Zj.r4:=[qa 16 0 4,ql 17 16,qm 5 17]
def Zj.r5:=[qm 18 5,qa 19 1 4,ql 20 19,qd 21 .leq 18 20]
def Zj.r6:=[qa 23 17 1,qL 24 15 23,qm 25 5,qf 26 106 [.tmp 24,.tmp 25],qm 22 26,qx 27 0 22,qx 28 1 22,qm 6 27,qm 7 28]
def Zj.r7:=[qm 29 7,qk 30 .not 29,qm 31 30,qn 31 (qa 32 17 1),qn 31 (qa 33 12 32),qn 31 (ql 34 33),qn 31 (qm 35 6),qn 31 (qX 36 3 34 35),qn 31 (qa 37 2 36),qn 31 (ql 38 37),qn 31 (qa 39 2 4),qn 31 (ql 40 39),qn 31 (qd 41 .neq 38 40),qo 42 31 41]
def Zj.r8:=[qb 2 false]
def Zj.r9:=[qa 43 17 1,qa 44 12 43,ql 45 44,qm 46 6,qX 47 3 45 46,qa 48 1 47,ql 49 48,qe 50 .add 49 1,qm 5 50]
def Zj.l1:DC:=.seq (.seq (qR Zj.r5 [1,4,5,10,11,12,21]) (qC 21 .skip (.exit 2))) (.block 3 (.seq (qR Zj.r6 [1,4,6,7,10,11,12]) (.seq (.seq (.regD [0,1,2,3,4,5,6,7,8,9,10,11,12,13] (ZaB Zj.r7) (some [1,4,6,10,11,12,42])) (qC 42 (.seq (qR Zj.r8 [2]) .ret) .skip)) (qR Zj.r9 [1,4,5,10,11,12]))))
def Zj.r10:=[qe 51 .add 12 1,qm 12 51]
def Zj.l0:DC:=.seq (qR Zj.r2 [1,10,11,12,13]) (.seq (qC 13 .skip (.exit 0)) (.seq (.block 1 (.seq (qR Zj.r3 [1,4,10,11,12]) (.seq (qR Zj.r4 [1,4,5,10,11,12]) (.block 2 (.loop Zj.l1))))) (qR Zj.r10 [1,10,11,12])))
def Zj.r11:=[qb 2 true]
abbrev Zj.id:Nat:=73
def Zj.an:Ann:=[(0,[1]),(1,[1,10,11,12]),(2,[1,10,11,12,13]),(3,[1,4,10,11,12]),(4,[1,4,5,10,11,12]),(5,[1,4,5,10,11,12,21]),(6,[1,4,6,7,10,11,12]),(7,[1,4,6,10,11,12,42]),(8,[2]),(9,[1,4,5,10,11,12]),(10,[1,10,11,12]),(11,[2]),(1000007,[0,1,2,3,4,5,6,7,8,9,10,11,12,13])]
def Zj.body:DC:=.seq (qR Zj.r0 [1]) (.seq (.seq (qR Zj.r1 [1,10,11,12]) (.block 0 (.loop Zj.l0))) (.seq (qR Zj.r11 [2]) .ret))
def Zj.df:DF:=⟨52,[.tmp 2],Zj.body⟩
theorem Zj.ok:cf Tryz.prog Zj.an Zj.id=some Zj.df:=by kernel_rfl
def Y6.r0:=[qb 0 false]
def Y6.r1:=[qb 0 true]
abbrev Y6.id:Nat:=74
def Y6.an:Ann:=[(0,[]),(1,[0])]
def Y6.body:DC:=.seq (qR Y6.r0 []) (.seq (qR Y6.r1 [0]) .ret)
def Y6.df:DF:=⟨1,[.tmp 0],Y6.body⟩
theorem Y6.ok:cf Tryz.prog Y6.an Y6.id=some Y6.df:=by kernel_rfl
def Y7.r0:=[qb 0 false]
def Y7.r1:=[qb 0 true]
abbrev Y7.id:Nat:=75
def Y7.an:Ann:=[(0,[]),(1,[0])]
def Y7.body:DC:=.seq (qR Y7.r0 []) (.seq (qR Y7.r1 [0]) .ret)
def Y7.df:DF:=⟨1,[.tmp 0],Y7.body⟩
theorem Y7.ok:cf Tryz.prog Y7.an Y7.id=some Y7.df:=by kernel_rfl
def Yy.r0:=[qb 1 false]
def Yy.r1:List (DOp × Bool):=[(qa 5 2 0,false),(qa 6 7 5,false),(qL 7 2 6,false),(qa 8 0 0,false),(qL 9 2 8,false),(⟨some 2,none,.alloc [.int .i64 0,.int .i64 0]⟩,false),(qf 10 78 [.tmp 9],true),(qf 11 77 [.tmp 7,.tmp 10],false),(qm 4 11,false),(qx 12 0 4,false),(qx 13 1 4,false),(qS 2 2 12,false),(qm 3 13,false)]
def Yy.r2:=[qa 14 1 2,ql 15 14,qe 16 .gtr 15 0,qm 1 16]
abbrev Yy.id:Nat:=76
def Yy.an:Ann:=[(0,[0]),(1,[2]),(2,[1]),(1000001,[0,1,2,3,4,10,5,6,7,8,9,11,12]),(2000001,[5])]
def Yy.body:DC:=.seq (qR Yy.r0 [0]) (.seq (.regD [0,1,2,3,4,10,5,6,7,8,9,11,12] Yy.r1 (some [2])) (.seq (qR Yy.r2 [1]) .ret))
def Yy.df:DF:=⟨17,[.tmp 1],Yy.body⟩
theorem Yy.ok:cf Tryz.prog Yy.an Yy.id=some Yy.df:=by kernel_rfl
def Yi.r0:List DOp:=[qB 2 0,qB 3 1,⟨some 4,none,.alloc [.int .i64 0,.int .i64 0]⟩,qi 5 0]
def Yi.r1:List DOp:=[⟨some 6,none,.q .mv [.cst (.fn (.func 107) [] [])]⟩]
def Yi.r2:=[qL 9 2 2,ql 10 3,qm 11 6,qf 12 108 [.tmp 9,.cst (.str []),.tmp 10,.tmp 11],qm 7 12]
def Yi.r3:=[qm 13 7,qe 14 .neq 13 0]
def Yi.r4:List DOp:=[⟨some 15,none,.q (.build [.int .i64 0,.int .i64 0] []) []⟩,qm 16 7,qS 2 4 15,qm 5 16]
def Yi.r5:List DOp:=[⟨some 17,none,.q (.mkfn (.func 109) 0) [.tmp 2,.tmp 3]⟩,qm 8 17]
def Yi.r6:List DOp:=[qm 18 8,⟨some 19,none,.call (.tmp 18) [.cst (.bool true)]⟩,qm 20 8,⟨some 21,none,.call (.tmp 20) [.cst (.bool false)]⟩,⟨some 22,none,.q (.build [.int .i64 0,.int .i64 0] [(0,1),(1,1)]) [.tmp 19,.tmp 21]⟩,qS 2 4 22,qi 5 0]
abbrev Yi.id:Nat:=77
def Yi.an:Ann:=[(0,[2,3,4]),(1,[2,3,4,6]),(2,[2,3,4,7]),(3,[2,3,4,7,14]),(4,[4,5]),(5,[4,8]),(6,[4,5])]
def Yi.body:DC:=.seq (qR Yi.r0 [2,3,4]) (.seq (qR Yi.r1 [2,3,4,6]) (.seq (.seq (qR Yi.r2 [2,3,4,7]) (.seq (qR Yi.r3 [2,3,4,7,14]) (qC 14 (.seq (qR Yi.r4 [4,5]) .ret) .skip))) (.seq (qR Yi.r5 [4,8]) (.seq (qR Yi.r6 [4,5]) .ret))))
def Yi.df:DF:=⟨23,[.cellN 4 2,.tmp 5],Yi.body⟩
theorem Yi.ok:cf Tryz.prog Yi.an Yi.id=some Yi.df:=by kernel_rfl
def W0.r0:List DOp:=[qB 1 0,⟨some 2,none,.q .mv [.cst (.nilmap)]⟩]
def W0.r1:=[qa 3 1 1,ql 4 3,qf 5 112 [.tmp 4],qm 2 5]
abbrev W0.id:Nat:=78
def W0.an:Ann:=[(0,[1]),(1,[2])]
def W0.body:DC:=.seq (qR W0.r0 [1]) (.seq (qR W0.r1 [2]) .ret)
def W0.df:DF:=⟨6,[.tmp 2],W0.body⟩
theorem W0.ok:cf Tryz.prog W0.an W0.id=some W0.df:=by kernel_rfl
end Go.DL
namespace Go.DL
open Go Go.Proofs
def Ki.r0:=[qb 2 false]
def Ki.r1:=[qm 3 0,qf 4 94 [.tmp 3],qk 5 .not 4,qm 6 5,qy 6 (qm 7 0),qy 6 (qf 8 95 [.tmp 7]),qy 6 (qk 9 .not 8),qO 10 6 9,qm 11 10,qy 11 (qm 12 0),qy 11 ⟨some 13,none,.q (.bin .neq (none)) [.tmp 12,.cst (.int .u8 95)]⟩,qO 14 11 13,qm 2 14]
abbrev Ki.id:Nat:=93
def Ki.an:Ann:=[(0,[0]),(1,[2])]
def Ki.body:DC:=.seq (qR Ki.r0 [0]) (.seq (qR Ki.r1 [2]) .ret)
def Ki.df:DF:=⟨15,[.tmp 2],Ki.body⟩
theorem Ki.ok:cf Tryz.prog Ki.an Ki.id=some Ki.df:=by kernel_rfl
def Kr.r0:=[qb 2 false]
def Kr.r1:List DOp:=[qm 3 0,⟨some 4,none,.q (.bin .geq (none)) [.tmp 3,.cst (.int .u8 65)]⟩,qm 5 4,qy 5 (qm 6 0),qy 5 ⟨some 7,none,.q (.bin .leq (none)) [.tmp 6,.cst (.int .u8 90)]⟩,qO 8 5 7,qm 9 8,qn 9 (qm 10 0),qn 9 ⟨some 11,none,.q (.bin .geq (none)) [.tmp 10,.cst (.int .u8 97)]⟩,qn 9 (qm 12 11),qy 12 (qm 13 0),qy 12 ⟨some 14,none,.q (.bin .leq (none)) [.tmp 13,.cst (.int .u8 122)]⟩,qn 9 (qO 15 12 14),qo 16 9 15,qm 2 16]
abbrev Kr.id:Nat:=94
def Kr.an:Ann:=[(0,[0]),(1,[2])]
def Kr.body:DC:=.seq (qR Kr.r0 [0]) (.seq (qR Kr.r1 [2]) .ret)
def Kr.df:DF:=⟨17,[.tmp 2],Kr.body⟩
theorem Kr.ok:cf Tryz.prog Kr.an Kr.id=some Kr.df:=by kernel_rfl
def KM.r0:=[qb 2 false]
def KM.r1:List DOp:=[qm 3 0,⟨some 4,none,.q (.bin .geq (none)) [.tmp 3,.cst (.int .u8 48)]⟩,qm 5 4,qy 5 (qm 6 0),qy 5 ⟨some 7,none,.q (.bin .leq (none)) [.tmp 6,.cst (.int .u8 57)]⟩,qO 8 5 7,qm 2 8]
abbrev KM.id:Nat:=95
def KM.an:Ann:=[(0,[0]),(1,[2])]
def KM.body:DC:=.seq (qR KM.r0 [0]) (.seq (qR KM.r1 [2]) .ret)
def KM.df:DF:=⟨9,[.tmp 2],KM.body⟩
theorem KM.ok:cf Tryz.prog KM.an KM.id=some KM.df:=by kernel_rfl
def KZ.r0:=[qb 2 false]
def KZ.r1:=[qm 3 0,qf 4 115 [.tmp 3,.cst (.bool false)],qk 5 .not 4,qm 2 5]
abbrev KZ.id:Nat:=96
def KZ.an:Ann:=[(0,[0]),(1,[2])]
def KZ.body:DC:=.seq (qR KZ.r0 [0]) (.seq (qR KZ.r1 [2]) .ret)
def KZ.df:DF:=⟨6,[.tmp 2],KZ.body⟩
theorem KZ.ok:cf Tryz.prog KZ.an KZ.id=some KZ.df:=by kernel_rfl
def Yb.r0:=[qb 4 false]
def Yb.r1:=[qm 5 0,qm 6 1,qf 7 116 [.tmp 5,.tmp 6],qe 8 .geq 7 0,qm 4 8]
abbrev Yb.id:Nat:=97
def Yb.an:Ann:=[(0,[0,1]),(1,[4])]
def Yb.body:DC:=.seq (qR Yb.r0 [0,1]) (.seq (qR Yb.r1 [4]) .ret)
def Yb.df:DF:=⟨9,[.tmp 4],Yb.body⟩
theorem Yb.ok:cf Tryz.prog Yb.an Yb.id=some Yb.df:=by kernel_rfl
def Zr.r0:=[qB 3 1]
def Zr.r1:=[qm 8 0,qa 9 0 3,ql 10 9,qf 11 57 [.tmp 10],qf 12 56 [.tmp 8,.tmp 11,.cst (.int .i64 1)]]
def Zr.r2:List (DOp × Bool):=[(qm 14 0,false),(qa 17 0 3,false),(ql 18 17,false),(qf 15 118 [.tmp 14],true),(⟨some 16,none,.q (.build [.str [],.nilsl] [(1,1)]) [.tmp 15]⟩,false),(qf 19 117 [.tmp 16,.tmp 18],false),(qm 13 19,false),(qx 20 0 13,false),(qx 21 1 13,false),(qm 4 20,false),(qm 5 21,false)]
def Zr.r3:=[qm 22 0,qm 23 5,qk 24 .not 23,qf 25 56 [.tmp 22,.tmp 24,.cst (.int .i64 2)]]
def Zr.r4:List (DOp × Bool):=[(qa 28 1 3,false),(ql 29 28,false),(⟨some 6,none,.alloc [.nilfn,.nilfn]⟩,false),(qf 27 119 [],true),(⟨some 30,none,.q (.lookup (.sc .int) (.agg [.nilfn,.nilfn]) true) [.tmp 27,.tmp 29]⟩,false),(qm 26 30,false),(qx 31 0 26,false),(qx 32 1 26,false),(qS 2 6 31,false),(qm 5 32,false)]
def Zr.r5:=[qm 33 0,qm 34 5,qf 35 56 [.tmp 33,.tmp 34,.cst (.int .i64 4)]]
def Zr.r6:List DOp:=[qL 36 15 3,⟨some 7,none,.alloc [.str [],.int .i64 0,.int .i64 0,.bool false,.bool false,.int .i64 0,.int .i64 0,.int .i64 0,.nilsl,.str [],.str [],.str [],.nilsl,.int .i64 0,.int .i64 0]⟩,qS 15 7 36]
def Zr.r7:List DOp:=[qa 37 0 6,ql 38 37,⟨some 39,none,.call (.tmp 38) [.tmp 7]⟩]
def Zr.r8:List DOp:=[qm 40 0,qL 41 15 7,qa 42 0 3,ql 43 42,qa 44 1 3,ql 45 44,⟨some 46,none,.q (.build [.str [],.int .i64 0,.int .i64 0,.bool false,.bool false,.int .i64 0,.int .i64 0,.int .i64 0,.nilsl,.str [],.str [],.str [],.nilsl,.int .i64 0,.int .i64 0] [(0,1),(1,1)]) [.tmp 43,.tmp 45]⟩,qf 47 120 [.tmp 41,.tmp 46],qf 48 56 [.tmp 40,.tmp 47,.cst (.int .i64 5)]]
def Zr.r9:List DOp:=[qa 49 1 6,ql 50 49,qm 51 0,qL 52 15 3,⟨some 53,none,.call (.tmp 50) [.tmp 51,.tmp 52]⟩]
abbrev Zr.id:Nat:=98
def Zr.an:Ann:=[(0,[0,3]),(1,[0,3]),(2,[0,3,5]),(3,[0,3]),(4,[0,3,5,6]),(5,[0,3,6]),(6,[0,3,6,7]),(7,[0,3,6,7]),(8,[0,3,6]),(9,[]),(1000002,[0,3,4,1,2,5,6,7,8,9,10]),(1000004,[1,2,7,0,3,4,5,6,8,9]),(2000002,[1]),(2000004,[0])]
def Zr.body:DC:=.seq (qR Zr.r0 [0,3]) (.seq (qR Zr.r1 [0,3]) (.seq (.regD [0,3,4,1,2,5,6,7,8,9,10] Zr.r2 (some [0,3,5])) (.seq (qR Zr.r3 [0,3]) (.seq (.regD [1,2,7,0,3,4,5,6,8,9] Zr.r4 (some [0,3,5,6])) (.seq (qR Zr.r5 [0,3,6]) (.seq (qR Zr.r6 [0,3,6,7]) (.seq (qR Zr.r7 [0,3,6,7]) (.seq (qR Zr.r8 [0,3,6]) (qR Zr.r9 [])))))))))
def Zr.df:DF:=⟨54,[],Zr.body⟩
theorem Zr.ok:cf Tryz.prog Zr.an Zr.id=some Zr.df:=by kernel_rfl
def Zi.r0:List DOp:=[qB 1 0,⟨some 2,none,.q .mv [.cst (.nilfn)]⟩]
def Zi.r1:List DOp:=[⟨some 3,none,.alloc [.nilsl]⟩]
def Zi.r2:=[qa 8 1 1,ql 9 8,qk 10 .lenL 9,qi 11 0]
def Zi.r3:=[qd 12 .lss 11 10]
def Zi.r4:List DOp:=[qX 13 15 9 11,qL 14 15 13,⟨some 5,none,.alloc [.str [],.int .i64 0,.int .i64 0,.bool false,.bool false,.int .i64 0,.int .i64 0,.int .i64 0,.nilsl,.str [],.str [],.str [],.nilsl,.int .i64 0,.int .i64 0]⟩,qS 15 5 14]
def Zi.r5:=[qa 15 1 5,ql 16 15]
def Zi.r6:=[qe 18 .eql 16 7,qm 17 18]
def Zi.r7:=[qe 19 .eql 16 8,qm 17 19]
def Zi.r8:=[qe 20 .eql 16 12,qm 17 20]
def Zi.r9:List DOp:=[ql 21 3,qa 22 9 5,ql 23 22,⟨some 24,none,.bsl 1 1 [.str []] [0] [.tmp 23]⟩,⟨some 25,none,.append 9 1 16 [.str []] (.tmp 21) (.tmp 24)⟩,qs 3 25]
def Zi.r10:=[qe 27 .eql 16 9,qm 26 27]
def Zi.r11:=[qa 28 12 5,ql 29 28,qk 30 .lenL 29,qi 31 0]
def Zi.r12:=[qd 32 .lss 31 30]
def Zi.r13:List DOp:=[qX 33 3 29 31,qL 34 3 33,⟨some 7,none,.alloc [.int .i64 0,.int .i64 0,.str []]⟩,qS 3 7 34]
def Zi.r14:List DOp:=[ql 35 3,qa 36 2 7,ql 37 36,⟨some 38,none,.bsl 1 1 [.str []] [0] [.tmp 37]⟩,⟨some 39,none,.append 9 1 16 [.str []] (.tmp 35) (.tmp 38)⟩,qs 3 39]
def Zi.r15:=[qe 40 .add 31 1,qm 31 40]
def Zi.l1:DC:=.seq (qR Zi.r12 [3,9,10,11,29,30,31,32]) (.seq (qC 32 .skip (.exit 3)) (.seq (.block 4 (.seq (qR Zi.r13 [3,7,9,10,11,29,30,31]) (qR Zi.r14 [3,9,10,11,29,30,31]))) (qR Zi.r15 [3,9,10,11,29,30,31])))
def Zi.r16:=[qe 41 .add 11 1,qm 11 41]
def Zi.l0:DC:=.seq (qR Zi.r3 [3,9,10,11,12]) (.seq (qC 12 .skip (.exit 0)) (.seq (.block 1 (.seq (qR Zi.r4 [3,5,9,10,11]) (.seq (qR Zi.r5 [3,5,9,10,11,16]) (.block 2 (.seq (.seq (qR Zi.r6 [3,5,9,10,11,16,17]) (qC 17 .skip (.seq (qR Zi.r7 [3,5,9,10,11,16,17]) (qC 17 .skip (qR Zi.r8 [3,5,9,10,11,16,17]))))) (qC 17 (qR Zi.r9 [3,9,10,11]) (.seq (qR Zi.r10 [3,5,9,10,11,26]) (qC 26 (.seq (qR Zi.r11 [3,9,10,11,29,30,31]) (.block 3 (.loop Zi.l1))) .skip)))))))) (qR Zi.r16 [3,9,10,11])))
def Zi.r17:List DOp:=[⟨some 42,none,.q (.mkfn (.func 121) 0) [.tmp 3]⟩,qm 2 42]
abbrev Zi.id:Nat:=99
def Zi.an:Ann:=[(0,[1]),(1,[1,3]),(2,[3,9,10,11]),(3,[3,9,10,11,12]),(4,[3,5,9,10,11]),(5,[3,5,9,10,11,16]),(6,[3,5,9,10,11,16,17]),(7,[3,5,9,10,11,16,17]),(8,[3,5,9,10,11,16,17]),(9,[3,9,10,11]),(10,[3,5,9,10,11,26]),(11,[3,9,10,11,29,30,31]),(12,[3,9,10,11,29,30,31,32]),(13,[3,7,9,10,11,29,30,31]),(14,[3,9,10,11,29,30,31]),(15,[3,9,10,11,29,30,31]),(16,[3,9,10,11]),(17,[2])]
def Zi.body:DC:=.seq (qR Zi.r0 [1]) (.seq (qR Zi.r1 [1,3]) (.seq (.seq (qR Zi.r2 [3,9,10,11]) (.block 0 (.loop Zi.l0))) (.seq (qR Zi.r17 [2]) .ret)))
def Zi.df:DF:=⟨43,[.tmp 2],Zi.body⟩
theorem Zi.ok:cf Tryz.prog Zi.an Zi.id=some Zi.df:=by kernel_rfl
def Zp.r0:=[qi 4 0]
def Zp.r1:=[qm 6 0,qk 7 .lenL 6,qi 8 0]
def Zp.r2:=[qd 9 .lss 8 7]
def Zp.r3:=[qm 10 8,qm 5 10]
def Zp.r4:List DOp:=[qm 11 1,qm 12 0,qm 13 5,qX 14 2 12 13,qL 15 2 14,⟨some 16,none,.call (.tmp 11) [.tmp 15]⟩]
def Zp.r5:=[qm 17 5,qm 4 17]
def Zp.r6:=[qe 18 .add 8 1,qm 8 18]
def Zp.l0:DC:=.seq (qR Zp.r2 [0,1,7,8,9]) (.seq (qC 9 .skip (.exit 0)) (.seq (.block 1 (.seq (qR Zp.r3 [0,1,5,7,8]) (.seq (qR Zp.r4 [0,1,5,7,8,16]) (qC 16 (.seq (qR Zp.r5 [4]) .ret) .skip)))) (qR Zp.r6 [0,1,7,8])))
def Zp.r7:=[qi 4 (-1)]
abbrev Zp.id:Nat:=100
def Zp.an:Ann:=[(0,[0,1]),(1,[0,1,7,8]),(2,[0,1,7,8,9]),(3,[0,1,5,7,8]),(4,[0,1,5,7,8,16]),(5,[4]),(6,[0,1,7,8]),(7,[4])]
def Zp.body:DC:=.seq (qR Zp.r0 [0,1]) (.seq (.seq (qR Zp.r1 [0,1,7,8]) (.block 0 (.loop Zp.l0))) (.seq (qR Zp.r7 [4]) .ret))
def Zp.df:DF:=⟨19,[.tmp 4],Zp.body⟩
theorem Zp.ok:cf Tryz.prog Zp.an Zp.id=some Zp.df:=by kernel_rfl
def Kt.r0:List DOp:=[qB 1 0,⟨some 2,none,.alloc [.int .i64 0,.nilsl]⟩,qi 3 0]
def Kt.r1:List DOp:=[qL 4 2 1,⟨some 5,none,.q (.build [.int .i64 0,.nilsl] []) []⟩,qf 6 125 [.tmp 4,.tmp 5],qx 7 0 6,qx 8 1 6,qS 2 2 7,qm 3 8]
abbrev Kt.id:Nat:=103
def Kt.an:Ann:=[(0,[1,2]),(1,[2,3])]
def Kt.body:DC:=.seq (qR Kt.r0 [1,2]) (.seq (qR Kt.r1 [2,3]) .ret)
def Kt.df:DF:=⟨9,[.cellN 2 2,.tmp 3],Kt.body⟩
theorem Kt.ok:cf Tryz.prog Kt.an Kt.id=some Kt.df:=by kernel_rfl
def ZV.r0:=[qi 2 0]
def ZV.r1:=[qi 3 0]
def ZV.r2:=[qm 6 0,qk 7 .lenL 6,qi 8 0]
def ZV.r3:=[qd 9 .lss 8 7]
def ZV.r4:=[qX 10 1 6 8,ql 11 10,qm 5 11]
def ZV.r5:=[qm 12 5,qm 13 3,qd 14 .neq 12 13]
def ZV.r6:=[qm 15 5,qm 2 15]
def ZV.r7:=[qe 16 .add 8 1,qm 8 16]
def ZV.l0:DC:=.seq (qR ZV.r3 [3,6,7,8,9]) (.seq (qC 9 .skip (.exit 0)) (.seq (.block 1 (.seq (qR ZV.r4 [3,5,6,7,8]) (.seq (qR ZV.r5 [3,5,6,7,8,14]) (qC 14 (.seq (qR ZV.r6 [2]) .ret) .skip)))) (qR ZV.r7 [3,6,7,8])))
def ZV.r8:=[qm 17 3,qm 2 17]
abbrev ZV.id:Nat:=104
def ZV.an:Ann:=[(0,[0]),(1,[0,3]),(2,[3,6,7,8]),(3,[3,6,7,8,9]),(4,[3,5,6,7,8]),(5,[3,5,6,7,8,14]),(6,[2]),(7,[3,6,7,8]),(8,[2])]
def ZV.body:DC:=.seq (qR ZV.r0 [0]) (.seq (qR ZV.r1 [0,3]) (.seq (.seq (qR ZV.r2 [3,6,7,8]) (.block 0 (.loop ZV.l0))) (.seq (qR ZV.r8 [2]) .ret)))
def ZV.df:DF:=⟨18,[.tmp 2],ZV.body⟩
theorem ZV.ok:cf Tryz.prog ZV.an ZV.id=some ZV.df:=by kernel_rfl
def Zy.r0:=[qb 4 false]
def Zy.r1:=[qm 6 0,qk 7 .lenL 6,qm 8 1,qk 9 .lenL 8,qd 10 .neq 7 9]
def Zy.r2:=[qb 4 false]
def Zy.r3:=[qm 11 0,qk 12 .lenL 11,qi 13 0]
def Zy.r4:=[qd 14 .lss 13 12]
def Zy.r5:=[qm 15 13,qm 5 15]
def Zy.r6:List DOp:=[qm 16 0,qm 17 5,qX 18 2 16 17,qL 19 2 18,qm 20 1,qm 21 5,qX 22 2 20 21,qL 23 2 22,⟨some 24,none,.q (.bin .neq (some (.cells [(0,.str),(1,.int)]))) [.tmp 19,.tmp 23]⟩]
def Zy.r7:=[qb 4 false]
def Zy.r8:=[qe 25 .add 13 1,qm 13 25]
def Zy.l0:DC:=.seq (qR Zy.r4 [0,1,12,13,14]) (.seq (qC 14 .skip (.exit 0)) (.seq (.block 1 (.seq (qR Zy.r5 [0,1,5,12,13]) (.seq (.regD [0,1,2,3,4,5,6,7,8] (ZaB Zy.r6) (some [0,1,12,13,24])) (qC 24 (.seq (qR Zy.r7 [4]) .ret) .skip)))) (qR Zy.r8 [0,1,12,13])))
def Zy.r9:=[qb 4 true]
abbrev Zy.id:Nat:=105
def Zy.an:Ann:=[(0,[0,1]),(1,[0,1,10]),(2,[4]),(3,[0,1,12,13]),(4,[0,1,12,13,14]),(5,[0,1,5,12,13]),(6,[0,1,12,13,24]),(7,[4]),(8,[0,1,12,13]),(9,[4]),(1000006,[0,1,2,3,4,5,6,7,8])]
def Zy.body:DC:=.seq (qR Zy.r0 [0,1]) (.seq (.seq (qR Zy.r1 [0,1,10]) (qC 10 (.seq (qR Zy.r2 [4]) .ret) .skip)) (.seq (.seq (qR Zy.r3 [0,1,12,13]) (.block 0 (.loop Zy.l0))) (.seq (qR Zy.r9 [4]) .ret)))
def Zy.df:DF:=⟨26,[.tmp 4],Zy.body⟩
theorem Zy.ok:cf Tryz.prog Zy.an Zy.id=some Zy.df:=by kernel_rfl
def Ku.r0:=[qB 2 0,qB 3 1,qi 4 0,qb 5 false]
def Ku.r1:List DOp:=[qa 6 12 2,ql 7 6,⟨some 8,none,.q (.mkfn (.func 127) 0) [.tmp 3]⟩,qf 9 126 [.tmp 7,.tmp 8],qx 10 0 9,qx 11 1 9,qm 4 10,qm 5 11]
abbrev Ku.id:Nat:=106
def Ku.an:Ann:=[(0,[2,3]),(1,[4,5])]
def Ku.body:DC:=.seq (qR Ku.r0 [2,3]) (.seq (qR Ku.r1 [4,5]) .ret)
def Ku.df:DF:=⟨12,[.tmp 4,.tmp 5],Ku.body⟩
theorem Ku.ok:cf Tryz.prog Ku.an Ku.id=some Ku.df:=by kernel_rfl
def Y0.r0:=[qB 1 0,qb 2 false]
def Y0.r1:List DOp:=[qa 3 0 1,ql 4 3,qe 5 .geq 4 0,qa 6 0 1,ql 7 6,qa 8 1 1,ql 9 8,qd 10 .leq 7 9,qa 11 1 1,ql 12 11,qe 13 .lss 12 34359738368,⟨some 14,none,.bsl 3 1 [.bool false] [0,1,2] [.tmp 5,.tmp 10,.tmp 13]⟩,qf 15 96 [.tmp 14],qm 2 15]
abbrev Y0.id:Nat:=107
def Y0.an:Ann:=[(0,[1]),(1,[2])]
def Y0.body:DC:=.seq (qR Y0.r0 [1]) (.seq (qR Y0.r1 [2]) .ret)
def Y0.df:DF:=⟨16,[.tmp 2],Y0.body⟩
theorem Y0.ok:cf Tryz.prog Y0.an Y0.id=some Y0.df:=by kernel_rfl
def Zh.r0:List DOp:=[qB 4 0,qB 5 1,qB 6 2,qB 7 3,⟨some 8,none,.alloc [.int .i64 0]⟩]
def Zh.r1:=[qL 13 2 4,qf 14 128 [.tmp 13],qk 15 .not 14]
def Zh.r2:List DOp:=[⟨none,none,.store1 (.tmp 8) (.cst (.int .i64 2))⟩]
def Zh.r3:List DOp:=[⟨some 9,none,.alloc [.bool false]⟩,⟨none,none,.store1 (.tmp 9) (.cst (.bool false))⟩]
def Zh.r4:=[qL 16 2 4,qf 17 129 [.tmp 16]]
def Zh.r5:=[qm 10 18]
def Zh.r6:List DOp:=[ql 20 6,qm 21 10,⟨some 22,none,.q (.lookup (.sc .str) (.agg [.int .i64 0,.int .i64 0]) true) [.tmp 20,.tmp 21]⟩,qm 19 22,qx 23 0 19,qx 24 1 19,⟨some 11,none,.alloc [.int .i64 0,.int .i64 0]⟩,qS 2 11 23,qm 12 24]
def Zh.r7:=[qm 26 10,ql 27 5,qd 28 .eql 26 27,qm 25 28]
def Zh.r8:=[qm 30 12,qk 31 .not 30,qm 29 31]
def Zh.r9:List DOp:=[⟨none,none,.store1 (.tmp 9) (.cst (.bool true))⟩]
def Zh.r10:List DOp:=[ql 33 7,qL 34 2 11,⟨some 35,none,.call (.tmp 33) [.tmp 34]⟩,qk 36 .not 35,qm 32 36]
def Zh.r11:List DOp:=[⟨none,none,.store1 (.tmp 8) (.cst (.int .i64 2))⟩]
def Zh.a0:DC:=qR Zh.r5 [5,6,7,8,9,10,18]
def Zh.b0:DC:=.block 1 (.seq (qR Zh.r6 [5,6,7,8,9,10,11,12,18]) (.block 2 (.seq (qR Zh.r7 [5,6,7,8,9,11,12,18,25]) (qC 25 .skip (.seq (qR Zh.r8 [5,6,7,8,9,11,18,29]) (qC 29 (qR Zh.r9 [5,6,7,8,9,18]) (.seq (qR Zh.r10 [5,6,7,8,9,18,32]) (qC 32 (.seq (qR Zh.r11 [8]) .ret) .skip))))))))
def Zh.r12:=[ql 37 9]
def Zh.r13:List DOp:=[⟨none,none,.store1 (.tmp 8) (.cst (.int .i64 9))⟩]
def Zh.r14:List DOp:=[⟨none,none,.store1 (.tmp 8) (.cst (.int .i64 0))⟩]
abbrev Zh.id:Nat:=108
def Zh.an:Ann:=[(0,[4,5,6,7,8,18]),(1,[4,5,6,7,8,15,18]),(2,[8]),(3,[4,5,6,7,8,9,18]),(4,[5,6,7,8,9,17,18]),(5,[5,6,7,8,9,10,18]),(6,[5,6,7,8,9,10,11,12,18]),(7,[5,6,7,8,9,11,12,18,25]),(8,[5,6,7,8,9,11,18,29]),(9,[5,6,7,8,9,18]),(10,[5,6,7,8,9,18,32]),(11,[8]),(12,[8,37]),(13,[8]),(14,[8])]
def Zh.body:DC:=.seq (qR Zh.r0 [4,5,6,7,8,18]) (.seq (.seq (qR Zh.r1 [4,5,6,7,8,15,18]) (qC 15 (.seq (qR Zh.r2 [8]) .ret) .skip)) (.seq (qR Zh.r3 [4,5,6,7,8,9,18]) (.seq (.seq (qR Zh.r4 [5,6,7,8,9,17,18]) (.block 0 (.rangeF (.tmp 17) [18] Zh.a0 Zh.b0))) (.seq (.seq (qR Zh.r12 [8,37]) (qC 37 (.seq (qR Zh.r13 [8]) .ret) .skip)) (.seq (qR Zh.r14 [8]) .ret)))))
def Zh.df:DF:=⟨38,[.cell1 8],Zh.body⟩
theorem Zh.ok:cf Tryz.prog Zh.an Zh.id=some Zh.df:=by kernel_rfl
def Wx.r0:=[qB 3 0,qi 4 0]
def Wx.r1:List DOp:=[qL 5 2 1,⟨some 6,none,.q (.mkfn (.func 111) 0) [.tmp 2,.tmp 3]⟩,qf 7 110 [.tmp 5,.tmp 6],qm 4 7]
abbrev Wx.id:Nat:=109
def Wx.an:Ann:=[(0,[1,2,3]),(1,[4])]
def Wx.body:DC:=.seq (qR Wx.r0 [1,2,3]) (.seq (qR Wx.r1 [4]) .ret)
def Wx.df:DF:=⟨8,[.tmp 4],Wx.body⟩
theorem Wx.ok:cf Tryz.prog Wx.an Wx.id=some Wx.df:=by kernel_rfl
def Z8.r0:=[qB 2 0,qi 4 0]
def Z8.r1:=[qa 8 0 2,ql 9 8,qm 5 9]
def Z8.r2:=[qa 10 1 2,ql 11 10,qk 12 .lenL 11,qi 13 0]
def Z8.r3:=[qd 14 .lss 13 12]
def Z8.r4:List DOp:=[qX 15 2 11 13,qL 16 2 15,⟨some 7,none,.alloc [.str [],.int .i64 0]⟩,qS 2 7 16]
def Z8.r5:List (DOp × Bool):=[(qm 17 5,false),(qa 18 1 7,false),(ql 19 18,false),(qm 20 1,false),(qL 21 2 7,false),(⟨some 22,none,.call (.tmp 20) [.tmp 21]⟩,true),(qd 23 .mul 19 22,false),(qd 24 .add 17 23,false),(qm 5 24,false)]
def Z8.r6:=[qe 25 .add 13 1,qm 13 25]
def Z8.l0:DC:=.seq (qR Z8.r3 [1,5,11,12,13,14]) (.seq (qC 14 .skip (.exit 0)) (.seq (.block 1 (.seq (qR Z8.r4 [1,5,7,11,12,13]) (.regD [0,1,2,3,4,5,6,7,8] Z8.r5 (some [1,5,11,12,13])))) (qR Z8.r6 [1,5,11,12,13])))
def Z8.r7:=[qm 26 5,qm 4 26]
abbrev Z8.id:Nat:=110
def Z8.an:Ann:=[(0,[1,2]),(1,[1,2,5]),(2,[1,5,11,12,13]),(3,[1,5,11,12,13,14]),(4,[1,5,7,11,12,13]),(5,[1,5,11,12,13]),(6,[1,5,11,12,13]),(7,[4]),(1000005,[0,1,2,3,4,5,6,7,8]),(2000005,[5])]
def Z8.body:DC:=.seq (qR Z8.r0 [1,2]) (.seq (qR Z8.r1 [1,2,5]) (.seq (.seq (qR Z8.r2 [1,5,11,12,13]) (.block 0 (.loop Z8.l0))) (.seq (qR Z8.r7 [4]) .ret)))
def Z8.df:DF:=⟨27,[.tmp 4],Z8.body⟩
theorem Z8.ok:cf Tryz.prog Z8.an Z8.id=some Z8.df:=by kernel_rfl
def Z7.r0:=[qB 3 0,qi 4 0]
def Z7.r1:List DOp:=[ql 6 1,qa 7 0 3,ql 8 7,⟨some 9,none,.q (.lookup (.sc .str) (.agg [.int .i64 0,.int .i64 0]) false) [.tmp 6,.tmp 8]⟩,⟨some 5,none,.alloc [.int .i64 0,.int .i64 0]⟩,qS 2 5 9]
def Z7.r2:List DOp:=[ql 10 2,qa 11 1 3,ql 12 11,qe 13 .gtr 12 0,⟨some 14,none,.q (.bin .eql (some .bool)) [.tmp 10,.tmp 13]⟩]
def Z7.r3:=[qa 15 0 5,ql 16 15,qm 4 16]
def Z7.r4:List DOp:=[ql 17 1,qa 18 0 3,ql 19 18,⟨some 20,none,.q (.lookup (.sc .str) (.agg [.int .i64 0,.int .i64 0]) false) [.tmp 17,.tmp 19]⟩,qk 21 (.fld1 1) 20,qm 4 21]
abbrev Z7.id:Nat:=111
def Z7.an:Ann:=[(0,[1,2,3]),(1,[1,2,3,5]),(2,[1,3,5,14]),(3,[4]),(4,[4])]
def Z7.body:DC:=.seq (qR Z7.r0 [1,2,3]) (.seq (.seq (qR Z7.r1 [1,2,3,5]) (.seq (qR Z7.r2 [1,3,5,14]) (qC 14 (.seq (qR Z7.r3 [4]) .ret) .skip))) (.seq (qR Z7.r4 [4]) .ret))
def Z7.df:DF:=⟨22,[.tmp 4],Z7.body⟩
theorem Z7.ok:cf Tryz.prog Z7.an Z7.id=some Z7.df:=by kernel_rfl
def ZL.r0:List DOp:=[⟨some 2,none,.q .mv [.cst (.nilmap)]⟩]
def ZL.r1:List DOp:=[⟨some 8,none,.mkmap⟩,qm 3 8]
def ZL.r2:=[qm 9 0,qk 10 .lenL 9,qi 11 0]
def ZL.r3:=[qd 12 .lss 11 10]
def ZL.r4:List DOp:=[qX 13 15 9 11,qL 14 15 13,⟨some 5,none,.alloc [.str [],.int .i64 0,.int .i64 0,.bool false,.bool false,.int .i64 0,.int .i64 0,.int .i64 0,.nilsl,.str [],.str [],.str [],.nilsl,.int .i64 0,.int .i64 0]⟩,qS 15 5 14]
def ZL.r5:List DOp:=[qL 16 15 5,qf 17 130 [.tmp 16],qm 15 17,qx 18 0 15,qx 19 1 15,⟨some 6,none,.alloc [.int .i64 0,.int .i64 0]⟩,qS 2 6 18,qm 7 19]
def ZL.r6:=[qm 20 7,qe 21 .eql 20 0]
def ZL.r7:List DOp:=[qm 22 3,qa 23 0 5,ql 24 23,qL 25 2 6,⟨none,none,.mapupd (.sc .str) (.tmp 22) (.tmp 24) (.tmp 25)⟩]
def ZL.r8:=[qe 26 .add 11 1,qm 11 26]
def ZL.l0:DC:=.seq (qR ZL.r3 [3,9,10,11,12]) (.seq (qC 12 .skip (.exit 0)) (.seq (.block 1 (.seq (qR ZL.r4 [3,5,9,10,11]) (.seq (qR ZL.r5 [3,5,6,7,9,10,11]) (.seq (qR ZL.r6 [3,5,6,9,10,11,21]) (qC 21 (qR ZL.r7 [3,9,10,11]) .skip))))) (qR ZL.r8 [3,9,10,11])))
def ZL.r9:=[qm 27 3,qm 2 27]
abbrev ZL.id:Nat:=112
def ZL.an:Ann:=[(0,[0]),(1,[0,3]),(2,[3,9,10,11]),(3,[3,9,10,11,12]),(4,[3,5,9,10,11]),(5,[3,5,6,7,9,10,11]),(6,[3,5,6,9,10,11,21]),(7,[3,9,10,11]),(8,[3,9,10,11]),(9,[2])]
def ZL.body:DC:=.seq (qR ZL.r0 [0]) (.seq (qR ZL.r1 [0,3]) (.seq (.seq (qR ZL.r2 [3,9,10,11]) (.block 0 (.loop ZL.l0))) (.seq (qR ZL.r9 [2]) .ret)))
def ZL.df:DF:=⟨28,[.tmp 2],ZL.body⟩
theorem ZL.ok:cf Tryz.prog ZL.an ZL.id=some ZL.df:=by kernel_rfl
def YO.r0:=[qb 4 false]
def YO.r1:=[qm 5 0,qm 6 1,qf 7 131 [.tmp 5,.tmp 6],qe 8 .geq 7 0,qm 4 8]
abbrev YO.id:Nat:=115
def YO.an:Ann:=[(0,[0,1]),(1,[4])]
def YO.body:DC:=.seq (qR YO.r0 [0,1]) (.seq (qR YO.r1 [4]) .ret)
def YO.df:DF:=⟨9,[.tmp 4],YO.body⟩
theorem YO.ok:cf Tryz.prog YO.an YO.id=some YO.df:=by kernel_rfl
def Zw.r0:=[qi 4 0]
def Zw.r1:=[qm 6 0,qk 7 .lenL 6,qi 8 0]
def Zw.r2:=[qd 9 .lss 8 7]
def Zw.r3:=[qm 10 8,qm 5 10]
def Zw.r4:List DOp:=[qm 11 1,qm 12 0,qm 13 5,qX 14 1 12 13,ql 15 14,⟨some 16,none,.call (.tmp 11) [.tmp 15]⟩]
def Zw.r5:=[qm 17 5,qm 4 17]
def Zw.r6:=[qe 18 .add 8 1,qm 8 18]
def Zw.l0:DC:=.seq (qR Zw.r2 [0,1,7,8,9]) (.seq (qC 9 .skip (.exit 0)) (.seq (.block 1 (.seq (qR Zw.r3 [0,1,5,7,8]) (.seq (qR Zw.r4 [0,1,5,7,8,16]) (qC 16 (.seq (qR Zw.r5 [4]) .ret) .skip)))) (qR Zw.r6 [0,1,7,8])))
def Zw.r7:=[qi 4 (-1)]
abbrev Zw.id:Nat:=116
def Zw.an:Ann:=[(0,[0,1]),(1,[0,1,7,8]),(2,[0,1,7,8,9]),(3,[0,1,5,7,8]),(4,[0,1,5,7,8,16]),(5,[4]),(6,[0,1,7,8]),(7,[4])]
def Zw.body:DC:=.seq (qR Zw.r0 [0,1]) (.seq (.seq (qR Zw.r1 [0,1,7,8]) (.block 0 (.loop Zw.l0))) (.seq (qR Zw.r7 [4]) .ret))
def Zw.df:DF:=⟨19,[.tmp 4],Zw.body⟩
theorem Zw.ok:cf Tryz.prog Zw.an Zw.id=some Zw.df:=by kernel_rfl
def Ka.r0:=[qB 2 0,qB 3 1,qi 4 0,qb 5 false]
def Ka.r1:List DOp:=[qa 6 1 2,ql 7 6,⟨some 8,none,.q (.mkfn (.func 133) 0) [.tmp 3]⟩,qf 9 132 [.tmp 7,.tmp 8],qx 10 0 9,qx 11 1 9,qm 4 10,qm 5 11]
abbrev Ka.id:Nat:=117
def Ka.an:Ann:=[(0,[2,3]),(1,[4,5])]
def Ka.body:DC:=.seq (qR Ka.r0 [2,3]) (.seq (qR Ka.r1 [4,5]) .ret)
def Ka.df:DF:=⟨12,[.tmp 4,.tmp 5],Ka.body⟩
theorem Ka.ok:cf Tryz.prog Ka.an Ka.id=some Ka.df:=by kernel_rfl
def YB.r0:List DOp:=[⟨some 2,none,.q .mv [.cst (.nilsl)]⟩]
def YB.r1:List DOp:=[qm 3 0,qk 4 .nilck 3,qa 5 7 4,qa 6 1 5,ql 7 6,qm 8 0,qk 9 .nilck 8,qa 10 6 9,ql 11 10,⟨some 12,none,.q (.slice 15 false true false) [.tmp 7,.tmp 11]⟩,qm 2 12]
abbrev YB.id:Nat:=118
def YB.an:Ann:=[(0,[0]),(1,[2]),(1000001,[0,1,2,3,4,5,6,7,8,9,10])]
def YB.body:DC:=.seq (qR YB.r0 [0]) (.seq (.regD [0,1,2,3,4,5,6,7,8,9,10] (ZaB YB.r1) (some [2])) .ret)
def YB.df:DF:=⟨13,[.tmp 2],YB.body⟩
theorem YB.ok:cf Tryz.prog YB.an YB.id=some YB.df:=by kernel_rfl
def Kc.r0:List DOp:=[⟨some 0,none,.q .mv [.cst (.nilmap)]⟩]
def Kc.r1:List DOp:=[⟨some 1,none,.mkmap⟩,⟨some 2,none,.q (.build [.nilfn,.nilfn] [(0,1),(1,1)]) [.cst (.fn (.func 134) [] []),.cst (.fn (.func 135) [] [])]⟩,⟨none,none,.mapupd (.sc .int) (.tmp 1) (.cst (.int .i64 1)) (.tmp 2)⟩,⟨some 3,none,.q (.build [.nilfn,.nilfn] [(0,1),(1,1)]) [.cst (.fn (.func 138) [] []),.cst (.fn (.func 139) [] [])]⟩,⟨none,none,.mapupd (.sc .int) (.tmp 1) (.cst (.int .i64 2)) (.tmp 3)⟩,⟨some 4,none,.q (.build [.nilfn,.nilfn] [(0,1),(1,1)]) [.cst (.fn (.func 140) [] []),.cst (.fn (.func 141) [] [])]⟩,⟨none,none,.mapupd (.sc .int) (.tmp 1) (.cst (.int .i64 3)) (.tmp 4)⟩,⟨some 5,none,.q (.build [.nilfn,.nilfn] [(0,1),(1,1)]) [.cst (.fn (.func 142) [] []),.cst (.fn (.func 143) [] [])]⟩,⟨none,none,.mapupd (.sc .int) (.tmp 1) (.cst (.int .i64 4)) (.tmp 5)⟩,⟨some 6,none,.q (.build [.nilfn,.nilfn] [(0,1),(1,1)]) [.cst (.fn (.func 144) [] []),.cst (.fn (.func 145) [] [])]⟩,⟨none,none,.mapupd (.sc .int) (.tmp 1) (.cst (.int .i64 5)) (.tmp 6)⟩,⟨some 7,none,.q (.build [.nilfn,.nilfn] [(0,1),(1,1)]) [.cst (.fn (.func 146) [] []),.cst (.fn (.func 147) [] [])]⟩,⟨none,none,.mapupd (.sc .int) (.tmp 1) (.cst (.int .i64 6)) (.tmp 7)⟩,⟨some 8,none,.q (.build [.nilfn,.nilfn] [(0,1),(1,1)]) [.cst (.fn (.func 148) [] []),.cst (.fn (.func 149) [] [])]⟩,⟨none,none,.mapupd (.sc .int) (.tmp 1) (.cst (.int .i64 7)) (.tmp 8)⟩,⟨some 9,none,.q (.build [.nilfn,.nilfn] [(0,1),(1,1)]) [.cst (.fn (.func 151) [] []),.cst (.fn (.func 152) [] [])]⟩,⟨none,none,.mapupd (.sc .int) (.tmp 1) (.cst (.int .i64 8)) (.tmp 9)⟩,⟨some 10,none,.q (.build [.nilfn,.nilfn] [(0,1),(1,1)]) [.cst (.fn (.func 153) [] []),.cst (.fn (.func 154) [] [])]⟩,⟨none,none,.mapupd (.sc .int) (.tmp 1) (.cst (.int .i64 9)) (.tmp 10)⟩,⟨some 11,none,.q (.build [.nilfn,.nilfn] [(0,1),(1,1)]) [.cst (.fn (.func 155) [] []),.cst (.fn (.func 156) [] [])]⟩,⟨none,none,.mapupd (.sc .int) (.tmp 1) (.cst (.int .i64 10)) (.tmp 11)⟩,⟨some 12,none,.q (.build [.nilfn,.nilfn] [(0,1),(1,1)]) [.cst (.fn (.func 157) [] []),.cst (.fn (.func 158) [] [])]⟩,⟨none,none,.mapupd (.sc .int) (.tmp 1) (.cst (.int .i64 11)) (.tmp 12)⟩,⟨some 13,none,.q (.build [.nilfn,.nilfn] [(0,1),(1,1)]) [.cst (.fn (.func 159) [] []),.cst (.fn (.func 160) [] [])]⟩,⟨none,none,.mapupd (.sc .int) (.tmp 1) (.cst (.int .i64 12)) (.tmp 13)⟩,qm 14 1,qm 0 14]
abbrev Kc.id:Nat:=119
def Kc.an:Ann:=[(0,[]),(1,[0])]
def Kc.body:DC:=.seq (qR Kc.r0 []) (.seq (qR Kc.r1 [0]) .ret)
def Kc.df:DF:=⟨15,[.tmp 0],Kc.body⟩
theorem Kc.ok:cf Tryz.prog Kc.an Kc.id=some Kc.df:=by kernel_rfl
def Wn.r0:=[qB 2 0,qB 3 1,qb 4 false]
def Wn.r1:List (DOp × Bool):=[(qL 5 15 2,false),(qL 7 15 3,false),(qf 6 161 [.tmp 5],true),(qf 8 161 [.tmp 7],false),(⟨some 9,none,.q (.bin .eql (some (.cells [(0,.str),(1,.str),(2,.str),(3,.str),(4,.int),(5,.int),(6,.int),(7,.int),(8,.int),(9,.int),(10,.int),(11,.bool),(12,.bool)]))) [.tmp 6,.tmp 8]⟩,false),(qm 10 9,false),(qy 10 (qa 11 7 2),false),(qy 10 (qa 12 1 11),false),(qy 10 (ql 13 12),false),(qy 10 (qa 14 7 3),false),(qy 10 (qa 15 1 14),false),(qy 10 (ql 16 15),false),(qy 10 (qf 17 105 [.tmp 13,.tmp 16]),false),(qO 18 10 17,false),(qm 19 18,false),(qy 19 (qa 20 12 2),false),(qy 19 (ql 21 20),false),(qy 19 (qa 22 12 3),false),(qy 19 (ql 23 22),false),(qy 19 (qf 24 162 [.tmp 21,.tmp 23]),false),(qO 25 19 24,false),(qm 4 25,false)]
abbrev Wn.id:Nat:=120
def Wn.an:Ann:=[(0,[2,3]),(1,[4]),(1000001,[0,2,1,3,4,5,6,7,8,9,10,11,12,13,14,15,16,17,18,19,20,21]),(2000001,[1])]
def Wn.body:DC:=.seq (qR Wn.r0 [2,3]) (.seq (.regD [0,2,1,3,4,5,6,7,8,9,10,11,12,13,14,15,16,17,18,19,20,21] Wn.r1 (some [4])) .ret)
def Wn.df:DF:=⟨26,[.tmp 4],Wn.body⟩
theorem Wn.ok:cf Tryz.prog Wn.an Wn.id=some Wn.df:=by kernel_rfl
def Z0.r0:=[ql 5 1,qk 6 .lenL 5,qi 7 0]
def Z0.r1:=[qd 8 .lss 7 6]
def Z0.r2:=[qm 9 7,qX 10 1 5 7,ql 11 10,qm 3 9,qm 4 11]
def Z0.r3:List DOp:=[ql 12 1,qm 13 3,⟨some 14,none,.q (.slice 1 false true false) [.tmp 12,.tmp 13]⟩,qm 15 4,qf 16 122 [.tmp 14,.tmp 15],qk 17 .not 16,qm 18 17,qy 18 (qm 19 0),qy 18 (qm 20 4),qy 18 ⟨some 21,none,.call (.tmp 19) [.tmp 20]⟩,qy 18 (qk 22 .not 21),qO 23 18 22]
def Z0.r4:=[qe 24 .add 7 1,qm 7 24]
def Z0.l0:DC:=.seq (qR Z0.r1 [0,1,5,6,7,8]) (.seq (qC 8 .skip (.exit 0)) (.seq (.block 1 (.seq (qR Z0.r2 [0,1,3,4,5,6,7]) (.seq (qR Z0.r3 [0,1,5,6,7,23]) (qC 23 .ret .skip)))) (qR Z0.r4 [0,1,5,6,7])))
abbrev Z0.id:Nat:=121
def Z0.an:Ann:=[(0,[0,1,5,6,7]),(1,[0,1,5,6,7,8]),(2,[0,1,3,4,5,6,7]),(3,[0,1,5,6,7,23]),(4,[0,1,5,6,7])]
def Z0.body:DC:=.seq (qR Z0.r0 [0,1,5,6,7]) (.block 0 (.loop Z0.l0))
def Z0.df:DF:=⟨25,[],Z0.body⟩
theorem Z0.ok:cf Tryz.prog Z0.an Z0.id=some Z0.df:=by kernel_rfl
def Yn.r0:=[qb 4 false]
def Yn.r1:=[qm 5 0,qm 6 1,qf 7 163 [.tmp 5,.tmp 6],qe 8 .geq 7 0,qm 4 8]
abbrev Yn.id:Nat:=122
def Yn.an:Ann:=[(0,[0,1]),(1,[4])]
def Yn.body:DC:=.seq (qR Yn.r0 [0,1]) (.seq (qR Yn.r1 [4]) .ret)
def Yn.df:DF:=⟨9,[.tmp 4],Yn.body⟩
theorem Yn.ok:cf Tryz.prog Yn.an Yn.id=some Yn.df:=by kernel_rfl
def ZN.r0:List DOp:=[qB 2 0,qB 3 1,⟨some 4,none,.alloc [.int .i64 0,.nilsl]⟩,qi 5 0]
def ZN.r1:List (DOp × Bool):=[(qL 10 2 2,false),(qL 12 2 3,false),(qf 11 128 [.tmp 10],true),(qf 13 128 [.tmp 12],false),(⟨some 14,none,.bsl 2 1 [.bool false] [0,1] [.tmp 11,.tmp 13]⟩,false),(qf 15 96 [.tmp 14],false),(qk 16 .not 15,false)]
def ZN.r2:List DOp:=[⟨some 17,none,.q (.build [.int .i64 0,.nilsl] []) []⟩,qS 2 4 17,qi 5 2]
def ZN.r3:List DOp:=[⟨some 18,none,.mkmap⟩,qm 6 18]
def ZN.r4:List DOp:=[qa 19 1 2,ql 20 19,qa 21 1 3,ql 22 21,⟨some 23,none,.bsl 2 1 [.nilsl] [0,1] [.tmp 20,.tmp 22]⟩,qf 24 164 [.tmp 23],qk 25 .lenL 24,qi 26 0]
def ZN.r5:=[qd 27 .lss 26 25]
def ZN.r6:List DOp:=[qX 28 2 24 26,qL 29 2 28,⟨some 8,none,.alloc [.str [],.int .i64 0]⟩,qS 2 8 29]
def ZN.r7:List DOp:=[qm 30 6,qa 31 0 8,ql 32 31,⟨some 33,none,.q (.lookup (.sc .str) (.int .i64 0) false) [.tmp 30,.tmp 32]⟩,qa 34 1 8,ql 35 34,qd 36 .add 33 35,⟨none,none,.mapupd (.sc .str) (.tmp 30) (.tmp 32) (.tmp 36)⟩]
def ZN.r8:List DOp:=[qm 37 6,qa 38 0 8,ql 39 38,⟨some 40,none,.q (.lookup (.sc .str) (.int .i64 0) false) [.tmp 37,.tmp 39]⟩,qe 41 .eql 40 0]
def ZN.r9:List DOp:=[qm 42 6,qa 43 0 8,ql 44 43,⟨none,none,.delete (.sc .str) (.tmp 42) (.tmp 44)⟩]
def ZN.r10:=[qe 45 .add 26 1,qm 26 45]
def ZN.l0:DC:=.seq (qR ZN.r5 [2,3,4,6,24,25,26,27]) (.seq (qC 27 .skip (.exit 0)) (.seq (.block 1 (.seq (qR ZN.r6 [2,3,4,6,8,24,25,26]) (.seq (qR ZN.r7 [2,3,4,6,8,24,25,26]) (.seq (qR ZN.r8 [2,3,4,6,8,24,25,26,41]) (qC 41 (qR ZN.r9 [2,3,4,6,24,25,26]) .skip))))) (qR ZN.r10 [2,3,4,6,24,25,26])))
def ZN.r11:List (DOp × Bool):=[(qa 46 0 2,false),(ql 47 46,false),(qa 48 0 3,false),(ql 49 48,false),(qd 50 .add 47 49,false),(qm 51 6,false),(⟨some 9,none,.alloc [.int .i64 0,.nilsl]⟩,false),(qf 52 165 [.tmp 51],true),(⟨some 53,none,.q (.build [.int .i64 0,.nilsl] [(0,1),(1,1)]) [.tmp 50,.tmp 52]⟩,false),(qS 2 9 53,false)]
def ZN.r12:=[qa 55 0 9,ql 56 55,qf 57 166 [.tmp 56],qk 58 .not 57,qm 59 58,qn 59 (qa 60 1 9),qn 59 (ql 61 60),qn 59 (qf 62 167 [.tmp 61,.cst (.fn (.func 168) [] [])]),qo 63 59 62,qm 54 63]
def ZN.r13:List DOp:=[⟨some 64,none,.q (.build [.int .i64 0,.nilsl] []) []⟩,qS 2 4 64,qi 5 3]
def ZN.r14:=[qa 66 1 9,ql 67 66,qk 68 .lenL 67,qe 69 .gtr 68 4,qm 65 69]
def ZN.r15:List DOp:=[⟨some 70,none,.q (.build [.int .i64 0,.nilsl] []) []⟩,qS 2 4 70,qi 5 7]
def ZN.r16:=[qL 71 2 9,qS 2 4 71,qi 5 0]
abbrev ZN.id:Nat:=125
def ZN.an:Ann:=[(0,[2,3,4]),(1,[2,3,4,16]),(2,[4,5]),(3,[2,3,4,6]),(4,[2,3,4,6,24,25,26]),(5,[2,3,4,6,24,25,26,27]),(6,[2,3,4,6,8,24,25,26]),(7,[2,3,4,6,8,24,25,26]),(8,[2,3,4,6,8,24,25,26,41]),(9,[2,3,4,6,24,25,26]),(10,[2,3,4,6,24,25,26]),(11,[4,9]),(12,[4,9,54]),(13,[4,5]),(14,[4,9,65]),(15,[4,5]),(16,[4,5]),(1000001,[0,2,1,3,4,5,6]),(1000011,[0,1,2,3,4,5,8,6,7,9]),(2000001,[1]),(2000011,[6])]
def ZN.body:DC:=.seq (qR ZN.r0 [2,3,4]) (.seq (.seq (.regD [0,2,1,3,4,5,6] ZN.r1 (some [2,3,4,16])) (qC 16 (.seq (qR ZN.r2 [4,5]) .ret) .skip)) (.seq (qR ZN.r3 [2,3,4,6]) (.seq (.seq (qR ZN.r4 [2,3,4,6,24,25,26]) (.block 0 (.loop ZN.l0))) (.seq (.regD [0,1,2,3,4,5,8,6,7,9] ZN.r11 (some [4,9])) (.seq (.block 2 (.seq (qR ZN.r12 [4,9,54]) (qC 54 (.seq (qR ZN.r13 [4,5]) .ret) (.seq (qR ZN.r14 [4,9,65]) (qC 65 (.seq (qR ZN.r15 [4,5]) .ret) .skip))))) (.seq (qR ZN.r16 [4,5]) .ret))))))
def ZN.df:DF:=⟨72,[.cellN 4 2,.tmp 5],ZN.body⟩
theorem ZN.ok:cf Tryz.prog ZN.an ZN.id=some ZN.df:=by kernel_rfl
def YN.r0:=[qi 4 0,qb 5 false]
def YN.r1:=[qm 7 0,qm 8 1,qf 9 169 [.tmp 7,.tmp 8],qm 6 9]
def YN.r2:List DOp:=[qm 10 6,⟨some 11,none,.q .max [.tmp 10,.cst (.int .i64 0)]⟩,qm 12 6,qe 13 .geq 12 0,qm 4 11,qm 5 13]
abbrev YN.id:Nat:=126
def YN.an:Ann:=[(0,[0,1]),(1,[6]),(2,[4,5])]
def YN.body:DC:=.seq (qR YN.r0 [0,1]) (.seq (qR YN.r1 [6]) (.seq (qR YN.r2 [4,5]) .ret))
def YN.df:DF:=⟨14,[.tmp 4,.tmp 5],YN.body⟩
theorem YN.ok:cf Tryz.prog YN.an YN.id=some YN.df:=by kernel_rfl
def WM.r0:=[qB 2 0,qb 3 false]
def WM.r1:=[ql 4 1,qa 5 0 2,ql 6 5,qd 7 .geq 4 6,qm 8 7,qy 8 (ql 9 1),qy 8 (qa 10 1 2),qy 8 (ql 11 10),qy 8 (qd 12 .leq 9 11),qO 13 8 12,qm 3 13]
abbrev WM.id:Nat:=127
def WM.an:Ann:=[(0,[1,2]),(1,[3])]
def WM.body:DC:=.seq (qR WM.r0 [1,2]) (.seq (qR WM.r1 [3]) .ret)
def WM.df:DF:=⟨14,[.tmp 3],WM.body⟩
theorem WM.ok:cf Tryz.prog WM.an WM.id=some WM.df:=by kernel_rfl
def WJ.r0:=[qB 1 0,qb 2 false]
def WJ.r1:List DOp:=[⟨some 5,none,.mkmap⟩,⟨some 3,none,.alloc [.nilmap]⟩,qs 3 5]
def WJ.r2:List DOp:=[⟨some 6,none,.q (.mkfn (.func 170) 0) [.tmp 3]⟩,qm 4 6]
def WJ.r3:List (DOp × Bool):=[(qa 7 0 1,false),(ql 8 7,false),(qa 10 1 1,false),(ql 11 10,false),(qk 12 .lenL 11,false),(qe 13 .leq 12 4,false),(qf 9 166 [.tmp 8],true),(⟨some 14,none,.bsl 2 1 [.bool false] [0,1] [.tmp 9,.tmp 13]⟩,false),(qf 15 96 [.tmp 14],false),(qm 16 15,false),(qy 16 (qa 17 1 1),false),(qy 16 (ql 18 17),false),(qy 16 (qm 19 4),false),(qy 16 (qf 20 167 [.tmp 18,.tmp 19]),false),(qy 16 (qk 21 .not 20),false),(qO 22 16 21,false),(qm 2 22,false)]
abbrev WJ.id:Nat:=128
def WJ.an:Ann:=[(0,[1]),(1,[1,3]),(2,[1,4]),(3,[2]),(1000003,[0,1,3,4,5,6,2,7,8,9,10,11,12,13,14,15,16]),(2000003,[2])]
def WJ.body:DC:=.seq (qR WJ.r0 [1]) (.seq (qR WJ.r1 [1,3]) (.seq (qR WJ.r2 [1,4]) (.seq (.regD [0,1,3,4,5,6,2,7,8,9,10,11,12,13,14,15,16] WJ.r3 (some [2])) .ret)))
def WJ.df:DF:=⟨23,[.tmp 2],WJ.body⟩
theorem WJ.ok:cf Tryz.prog WJ.an WJ.id=some WJ.df:=by kernel_rfl
def Ww.r0:List DOp:=[qB 1 0,⟨some 2,none,.q .mv [.cst (.nilfn)]⟩]
def Ww.r1:List DOp:=[⟨some 3,none,.alloc [.nilsl]⟩]
def Ww.r2:=[qL 4 2 1,qf 5 128 [.tmp 4]]
def Ww.r3:=[qa 6 1 1,ql 7 6,qf 8 171 [.tmp 7],qs 3 8]
def Ww.r4:List DOp:=[⟨some 9,none,.q (.mkfn (.func 172) 0) [.tmp 3]⟩,qm 2 9]
abbrev Ww.id:Nat:=129
def Ww.an:Ann:=[(0,[1]),(1,[1,3]),(2,[1,3,5]),(3,[3]),(4,[2])]
def Ww.body:DC:=.seq (qR Ww.r0 [1]) (.seq (qR Ww.r1 [1,3]) (.seq (.seq (qR Ww.r2 [1,3,5]) (qC 5 (qR Ww.r3 [3]) .skip)) (.seq (qR Ww.r4 [2]) .ret)))
def Ww.df:DF:=⟨10,[.tmp 2],Ww.body⟩
theorem Ww.ok:cf Tryz.prog Ww.an Ww.id=some Ww.df:=by kernel_rfl
def YI.r0:List DOp:=[qB 1 0,⟨some 2,none,.alloc [.int .i64 0,.int .i64 0]⟩,qi 3 0]
def YI.r1:=[qL 5 15 1,qf 6 173 [.tmp 5],qk 7 .not 6,qm 4 7]
def YI.r2:List DOp:=[⟨some 8,none,.q (.build [.int .i64 0,.int .i64 0] []) []⟩,qS 2 2 8,qi 3 2]
def YI.r3:=[qa 10 1 1,ql 11 10,qe 12 .eql 11 2,qm 9 12]
def YI.r4:List DOp:=[qa 13 5 1,ql 14 13,qa 15 5 1,ql 16 15,⟨some 17,none,.q (.build [.int .i64 0,.int .i64 0] [(0,1),(1,1)]) [.tmp 14,.tmp 16]⟩,qS 2 2 17,qi 3 0]
def YI.r5:List DOp:=[qa 18 5 1,ql 19 18,qa 20 6 1,ql 21 20,⟨some 22,none,.q (.build [.int .i64 0,.int .i64 0] [(0,1),(1,1)]) [.tmp 19,.tmp 21]⟩,qS 2 2 22,qi 3 0]
abbrev YI.id:Nat:=130
def YI.an:Ann:=[(0,[1,2]),(1,[1,2,4]),(2,[2,3]),(3,[1,2,9]),(4,[2,3]),(5,[2,3])]
def YI.body:DC:=.seq (qR YI.r0 [1,2]) (.seq (.block 0 (.seq (qR YI.r1 [1,2,4]) (qC 4 (.seq (qR YI.r2 [2,3]) .ret) (.seq (qR YI.r3 [1,2,9]) (qC 9 (.seq (qR YI.r4 [2,3]) .ret) .skip))))) (.seq (qR YI.r5 [2,3]) .ret))
def YI.df:DF:=⟨23,[.cellN 2 2,.tmp 3],YI.body⟩
theorem YI.ok:cf Tryz.prog YI.an YI.id=some YI.df:=by kernel_rfl
def ZH.r0:=[qi 4 0]
def ZH.r1:=[qm 6 0,qk 7 .lenL 6,qi 8 0]
def ZH.r2:=[qd 9 .lss 8 7]
def ZH.r3:=[qm 10 8,qm 5 10]
def ZH.r4:List DOp:=[qm 11 1,qm 12 0,qm 13 5,qX 14 1 12 13,ql 15 14,⟨some 16,none,.q (.bin .eql (some .bool)) [.tmp 11,.tmp 15]⟩]
def ZH.r5:=[qm 17 5,qm 4 17]
def ZH.r6:=[qe 18 .add 8 1,qm 8 18]
def ZH.l0:DC:=.seq (qR ZH.r2 [0,1,7,8,9]) (.seq (qC 9 .skip (.exit 0)) (.seq (.block 1 (.seq (qR ZH.r3 [0,1,5,7,8]) (.seq (qR ZH.r4 [0,1,5,7,8,16]) (qC 16 (.seq (qR ZH.r5 [4]) .ret) .skip)))) (qR ZH.r6 [0,1,7,8])))
def ZH.r7:=[qi 4 (-1)]
abbrev ZH.id:Nat:=131
def ZH.an:Ann:=[(0,[0,1]),(1,[0,1,7,8]),(2,[0,1,7,8,9]),(3,[0,1,5,7,8]),(4,[0,1,5,7,8,16]),(5,[4]),(6,[0,1,7,8]),(7,[4])]
def ZH.body:DC:=.seq (qR ZH.r0 [0,1]) (.seq (.seq (qR ZH.r1 [0,1,7,8]) (.block 0 (.loop ZH.l0))) (.seq (qR ZH.r7 [4]) .ret))
def ZH.df:DF:=⟨19,[.tmp 4],ZH.body⟩
theorem ZH.ok:cf Tryz.prog ZH.an ZH.id=some ZH.df:=by kernel_rfl
def Yv.r0:=[qi 4 0,qb 5 false]
def Yv.r1:=[qm 7 0,qm 8 1,qf 9 174 [.tmp 7,.tmp 8],qm 6 9]
def Yv.r2:List DOp:=[qm 10 6,⟨some 11,none,.q .max [.tmp 10,.cst (.int .i64 0)]⟩,qm 12 6,qe 13 .geq 12 0,qm 4 11,qm 5 13]
abbrev Yv.id:Nat:=132
def Yv.an:Ann:=[(0,[0,1]),(1,[6]),(2,[4,5])]
def Yv.body:DC:=.seq (qR Yv.r0 [0,1]) (.seq (qR Yv.r1 [6]) (.seq (qR Yv.r2 [4,5]) .ret))
def Yv.df:DF:=⟨14,[.tmp 4,.tmp 5],Yv.body⟩
theorem Yv.ok:cf Tryz.prog Yv.an Yv.id=some Yv.df:=by kernel_rfl
def WC.r0:=[qB 2 0,qb 3 false]
def WC.r1:=[qa 4 0 2,ql 5 4,ql 6 1,qd 7 .eql 5 6,qm 3 7]
abbrev WC.id:Nat:=133
def WC.an:Ann:=[(0,[1,2]),(1,[3])]
def WC.body:DC:=.seq (qR WC.r0 [1,2]) (.seq (qR WC.r1 [3]) .ret)
def WC.df:DF:=⟨8,[.tmp 3],WC.body⟩
theorem WC.ok:cf Tryz.prog WC.an WC.id=some WC.df:=by kernel_rfl
def W5.r0:List DOp:=[qm 2 0,qm 3 0,qm 4 0,qm 5 0,qk 6 .nilck 2,qa 7 2 6,⟨none,none,.store1 (.tmp 7) (.cst (.int .i64 0))⟩,qk 8 .nilck 3,qa 9 3 8,⟨none,none,.store1 (.tmp 9) (.cst (.bool false))⟩,qk 10 .nilck 4,qa 11 5 10,⟨none,none,.store1 (.tmp 11) (.cst (.int .i64 0))⟩,qk 12 .nilck 5,qa 13 6 12,⟨none,none,.store1 (.tmp 13) (.cst (.int .i64 0))⟩]
abbrev W5.id:Nat:=134
def W5.an:Ann:=[(0,[])]
def W5.body:DC:=qR W5.r0 []
def W5.df:DF:=⟨14,[],W5.body⟩
theorem W5.ok:cf Tryz.prog W5.an W5.id=some W5.df:=by kernel_rfl
def Wa.r0:=[qB 3 1]
def Wa.r1:=[qm 4 0,qL 5 15 3,qf 6 136 [.tmp 4,.tmp 5]]
def Wa.r2:List DOp:=[qm 7 0,qa 8 2 3,ql 9 8,⟨some 10,none,.q (.bin .shl (none)) [.cst (.int .i64 1),.tmp 9]⟩,qe 11 .sub 10 1,qa 12 5 3,ql 13 12,qa 14 6 3,ql 15 14,⟨some 16,none,.bsl 2 1 [.int .i64 0] [0,1] [.tmp 13,.tmp 15]⟩,qf 17 137 [.tmp 7,.cst (.int .i64 0),.tmp 11,.tmp 16]]
abbrev Wa.id:Nat:=135
def Wa.an:Ann:=[(0,[0,3]),(1,[0,3]),(2,[]),(1000002,[0,1,2,3,4,5,6,7,8,9,10])]
def Wa.body:DC:=.seq (qR Wa.r0 [0,3]) (.seq (qR Wa.r1 [0,3]) (.regD [0,1,2,3,4,5,6,7,8,9,10] (ZaB Wa.r2) (some [])))
def Wa.df:DF:=⟨18,[],Wa.body⟩
theorem Wa.ok:cf Tryz.prog Wa.an Wa.id=some Wa.df:=by kernel_rfl
def YV.r0:=[qB 3 1]
def YV.r1:=[qm 4 0,qa 5 2 3,ql 6 5,qe 7 .geq 6 1,qm 8 7,qy 8 (qa 9 2 3),qy 8 (ql 10 9),qy 8 (qe 11 .leq 10 32),qO 12 8 11,qm 13 12,qy 13 (qa 14 3 3),qy 13 (ql 15 14),qy 13 (qk 16 .not 15),qy 13 (qm 17 16),qn 17 (qa 18 2 3),qn 17 (ql 19 18),qn 17 (qe 20 .gtr 19 8),qn 17 (qm 21 20),qy 21 (qa 22 2 3),qy 21 (ql 23 22),qy 21 (qe 24 .rem 23 8),qy 21 (qe 25 .eql 24 0),qn 17 (qO 26 21 25),qy 13 (qo 27 17 26),qO 28 13 27,qf 29 56 [.tmp 4,.tmp 28,.cst (.int .i64 6)]]
abbrev YV.id:Nat:=136
def YV.an:Ann:=[(0,[0,3]),(1,[])]
def YV.body:DC:=.seq (qR YV.r0 [0,3]) (qR YV.r1 [])
def YV.df:DF:=⟨30,[],YV.body⟩
theorem YV.ok:cf Tryz.prog YV.an YV.id=some YV.df:=by kernel_rfl
def ZD.r0:=[qm 10 3,qk 11 .lenL 10,qi 12 0]
def ZD.r1:=[qd 13 .lss 12 11]
def ZD.r2:=[qX 14 1 10 12,ql 15 14,qm 9 15]
def ZD.r3:=[qm 16 0,qm 17 9,qm 18 1,qd 19 .geq 17 18,qm 20 19,qy 20 (qm 21 9),qy 20 (qm 22 2),qy 20 (qd 23 .leq 21 22),qO 24 20 23,qf 25 56 [.tmp 16,.tmp 24,.cst (.int .i64 7)]]
def ZD.r4:=[qm 26 9,qm 1 26]
def ZD.r5:=[qe 27 .add 12 1,qm 12 27]
def ZD.l0:DC:=.seq (qR ZD.r1 [0,1,2,10,11,12,13]) (.seq (qC 13 .skip (.exit 0)) (.seq (.block 1 (.seq (qR ZD.r2 [0,1,2,9,10,11,12]) (.seq (qR ZD.r3 [0,2,9,10,11,12]) (qR ZD.r4 [0,1,2,10,11,12])))) (qR ZD.r5 [0,1,2,10,11,12])))
abbrev ZD.id:Nat:=137
def ZD.an:Ann:=[(0,[0,1,2,10,11,12]),(1,[0,1,2,10,11,12,13]),(2,[0,1,2,9,10,11,12]),(3,[0,2,9,10,11,12]),(4,[0,1,2,10,11,12]),(5,[0,1,2,10,11,12])]
def ZD.body:DC:=.seq (qR ZD.r0 [0,1,2,10,11,12]) (.block 0 (.loop ZD.l0))
def ZD.df:DF:=⟨28,[],ZD.body⟩
theorem ZD.ok:cf Tryz.prog ZD.an ZD.id=some ZD.df:=by kernel_rfl
def W4.r0:List DOp:=[qm 2 0,qm 3 0,qm 4 0,qk 5 .nilck 2,qa 6 2 5,⟨none,none,.store1 (.tmp 6) (.cst (.int .i64 0))⟩,qk 7 .nilck 3,qa 8 3 7,⟨none,none,.store1 (.tmp 8) (.cst (.bool false))⟩,qk 9 .nilck 4,qa 10 5 9,⟨none,none,.store1 (.tmp 10) (.cst (.int .i64 0))⟩]
abbrev W4.id:Nat:=138
def W4.an:Ann:=[(0,[])]
def W4.body:DC:=qR W4.r0 []
def W4.df:DF:=⟨11,[],W4.body⟩
theorem W4.ok:cf Tryz.prog W4.an W4.id=some W4.df:=by kernel_rfl
def Wc.r0:=[qB 3 1]
def Wc.r1:=[qm 4 0,qL 5 15 3,qf 6 136 [.tmp 4,.tmp 5]]
def Wc.r2:List DOp:=[qm 7 0,qa 8 2 3,ql 9 8,⟨some 10,none,.q (.bin .shl (none)) [.cst (.int .i64 1),.tmp 9]⟩,qe 11 .sub 10 1,qa 12 5 3,ql 13 12,⟨some 14,none,.bsl 1 1 [.int .i64 0] [0] [.tmp 13]⟩,qf 15 137 [.tmp 7,.cst (.int .i64 0),.tmp 11,.tmp 14]]
abbrev Wc.id:Nat:=139
def Wc.an:Ann:=[(0,[0,3]),(1,[0,3]),(2,[]),(1000002,[0,1,2,3,4,5,6,7,8])]
def Wc.body:DC:=.seq (qR Wc.r0 [0,3]) (.seq (qR Wc.r1 [0,3]) (.regD [0,1,2,3,4,5,6,7,8] (ZaB Wc.r2) (some [])))
def Wc.df:DF:=⟨16,[],Wc.body⟩
theorem Wc.ok:cf Tryz.prog Wc.an Wc.id=some Wc.df:=by kernel_rfl
def W7.r0:List DOp:=[qm 2 0,qm 3 0,qm 4 0,qk 5 .nilck 2,qa 6 4 5,⟨none,none,.store1 (.tmp 6) (.cst (.bool false))⟩,qk 7 .nilck 3,qa 8 5 7,⟨none,none,.store1 (.tmp 8) (.cst (.int .i64 0))⟩,qk 9 .nilck 4,qa 10 6 9,⟨none,none,.store1 (.tmp 10) (.cst (.int .i64 0))⟩]
abbrev W7.id:Nat:=140
def W7.an:Ann:=[(0,[])]
def W7.body:DC:=qR W7.r0 []
def W7.df:DF:=⟨11,[],W7.body⟩
theorem W7.ok:cf Tryz.prog W7.an W7.id=some W7.df:=by kernel_rfl
def WI.r0:=[qB 3 1]
def WI.r1:List DOp:=[qm 4 0,qa 5 5 3,ql 6 5,qa 7 6 3,ql 8 7,⟨some 9,none,.bsl 2 1 [.int .i64 0] [0,1] [.tmp 6,.tmp 8]⟩,qf 10 137 [.tmp 4,.cst (.int .i64 0),.cst (.int .i64 34359738367),.tmp 9]]
abbrev WI.id:Nat:=141
def WI.an:Ann:=[(0,[0,3]),(1,[])]
def WI.body:DC:=.seq (qR WI.r0 [0,3]) (qR WI.r1 [])
def WI.df:DF:=⟨11,[],WI.body⟩
theorem WI.ok:cf Tryz.prog WI.an WI.id=some WI.df:=by kernel_rfl
def W6.r0:List DOp:=[qm 2 0,⟨some 3,none,.q (.build [.int .i64 0,.nilsl] []) []⟩,qk 4 .nilck 2,qa 5 7 4,qS 2 5 3]
abbrev W6.id:Nat:=142
def W6.an:Ann:=[(0,[])]
def W6.body:DC:=qR W6.r0 []
def W6.df:DF:=⟨6,[],W6.body⟩
theorem W6.ok:cf Tryz.prog W6.an W6.id=some W6.df:=by kernel_rfl
def Zu.r0:=[qB 2 0,qB 3 1]
def Zu.r1:=[(ql 10 2,false),(qa 11 7 3,false),(qL 12 2 11,false),(qf 13 128 [.tmp 12],true),(qf 14 56 [.tmp 10,.tmp 13,.cst (.int .i64 9)],false)]
def Zu.r2:List DOp:=[ql 15 2,qf 16 118 [.tmp 15],qf 17 112 [.tmp 16],⟨some 4,none,.alloc [.nilmap]⟩,qs 4 17]
def Zu.r3:=[qa 18 7 3,qL 19 2 18,qf 20 129 [.tmp 19]]
def Zu.r4:=[qm 5 21]
def Zu.r5:List DOp:=[ql 23 4,qm 24 5,⟨some 25,none,.q (.lookup (.sc .str) (.agg [.int .i64 0,.int .i64 0]) true) [.tmp 23,.tmp 24]⟩,qm 22 25,qx 26 0 22,qx 27 1 22,⟨some 6,none,.alloc [.int .i64 0,.int .i64 0]⟩,qS 2 6 26,qm 7 27]
def Zu.r6:=[ql 28 2,qm 29 7,qf 30 56 [.tmp 28,.tmp 29,.cst (.int .i64 8)]]
def Zu.a0:DC:=qR Zu.r4 [2,3,4,5,21]
def Zu.b0:DC:=.block 1 (.seq (qR Zu.r5 [2,3,4,7,21]) (qR Zu.r6 [2,3,4,21]))
def Zu.r7:List DOp:=[qa 32 7 3,qL 33 2 32,ql 34 4,qf 35 77 [.tmp 33,.tmp 34],qm 31 35,qx 36 0 31,qx 37 1 31,⟨some 8,none,.alloc [.int .i64 0,.int .i64 0]⟩,qS 2 8 36,qm 9 37]
def Zu.r8:=[ql 38 2,qm 39 9,qe 40 .eql 39 0,qm 41 40,qy 41 (qa 42 0 8),qy 41 (ql 43 42),qy 41 (qe 44 .geq 43 0),qO 45 41 44,qm 46 45,qy 46 (qa 47 1 8),qy 46 (ql 48 47),qy 46 (qe 49 .leq 48 1048576),qO 50 46 49,qf 51 56 [.tmp 38,.tmp 50,.cst (.int .i64 9)]]
abbrev Zu.id:Nat:=143
def Zu.an:Ann:=[(0,[2,3,21]),(1,[2,3,21]),(2,[2,3,4,21]),(3,[2,3,4,20,21]),(4,[2,3,4,5,21]),(5,[2,3,4,7,21]),(6,[2,3,4,21]),(7,[2,8,9]),(8,[]),(1000001,[0,1,2,3,4]),(2000001,[3])]
def Zu.body:DC:=.seq (qR Zu.r0 [2,3,21]) (.seq (.regD [0,1,2,3,4] Zu.r1 (some [2,3,21])) (.seq (qR Zu.r2 [2,3,4,21]) (.seq (.seq (qR Zu.r3 [2,3,4,20,21]) (.block 0 (.rangeF (.tmp 20) [21] Zu.a0 Zu.b0))) (.seq (qR Zu.r7 [2,8,9]) (qR Zu.r8 [])))))
def Zu.df:DF:=⟨52,[],Zu.body⟩
theorem Zu.ok:cf Tryz.prog Zu.an Zu.id=some Zu.df:=by kernel_rfl
def W3.r0:List DOp:=[qm 2 0,qm 3 0,qk 4 .nilck 2,qa 5 5 4,⟨none,none,.store1 (.tmp 5) (.cst (.int .i64 0))⟩,qk 6 .nilck 3,qa 7 6 6,⟨none,none,.store1 (.tmp 7) (.cst (.int .i64 0))⟩]
abbrev W3.id:Nat:=144
def W3.an:Ann:=[(0,[])]
def W3.body:DC:=qR W3.r0 []
def W3.df:DF:=⟨8,[],W3.body⟩
theorem W3.ok:cf Tryz.prog W3.an W3.id=some W3.df:=by kernel_rfl
def Wd.r0:=[qB 3 1]
def Wd.r1:List DOp:=[qm 4 0,qa 5 5 3,ql 6 5,⟨some 7,none,.bsl 1 1 [.int .i64 0] [0] [.tmp 6]⟩,qf 8 137 [.tmp 4,.cst (.int .i64 0),.cst (.int .i64 255),.tmp 7]]
def Wd.r2:List DOp:=[qm 9 0,qa 10 6 3,ql 11 10,⟨some 12,none,.bsl 1 1 [.int .i64 0] [0] [.tmp 11]⟩,qf 13 137 [.tmp 9,.cst (.int .i64 0),.cst (.int .i64 1048576),.tmp 12]]
abbrev Wd.id:Nat:=145
def Wd.an:Ann:=[(0,[0,3]),(1,[0,3]),(2,[])]
def Wd.body:DC:=.seq (qR Wd.r0 [0,3]) (.seq (qR Wd.r1 [0,3]) (qR Wd.r2 []))
def Wd.df:DF:=⟨14,[],Wd.body⟩
theorem Wd.ok:cf Tryz.prog Wd.an Wd.id=some Wd.df:=by kernel_rfl
end Go.DL
