/- Lemmas: EvM, EvN, EvO, EvP, EvQ, EvS, EvT, EvU, EvV, EvW, EvR, EvY, EvZ, EvLib, EvZa, EvZb, K15a, K15b, K15d, K15i, Top1, TopV, C15t. -/
import Derived.Test.YtmdaecbcadpmcaaGreatDoorT05
import Derived.Test.YtmdaecbcadpmcaaGreatDoorRows
set_option maxHeartbeats 16000000
set_option maxRecDepth 100000
set_option linter.all false
open Option renaming some → sO, none → nO
open Inhabited renaming default → dE
open Decidable renaming decide → dC
open And renaming intro → ZDX
open Bool renaming and_eq_true → ZD5, false_eq_true → ZEq
open Go.DL.D.Le renaming refl → ZDZ
open Go.DL.St renaming sub_refl → ZDY, upd → ZEv, upd_ne → ZD6
open Go.Proofs.Tryz renaming prog → ZDW
open List renaming append_assoc → ZEA, getElem?_take → ZEC, length_append → ZD8, length_drop → ZEx, length_take → ZEh, map_cons → ZEc, map_nil → ZEs, mem_cons → ZEz
open Nat renaming add_mul → ZEo, le_refl → ZEd, mul_le_mul_right → ZEi
open Option renaming map_eq_some_iff → ZD9
open Option.some renaming injEq → ZDV
open Prod.mk renaming injEq → ZD7
namespace Go.DL
open Go
variable [Zqj]
variable {kp:Option (List Nat)}{L:Loc}{ρ:Env}{s:St}{w:World}{os:List DOp}{ds:List D}{B:List (Nat × Rd)}{dst:Option Nat}{tmps:Array Value}{g:G}{Φ:Res→St→Prop}{ν:Nat→Nat}{xs:List Opd}{side:Prop}{row:Nat→List D}{vs:List V}
def ZzO:E→E
 |.when c e=>match c,e with
  |true,.d d=>.d d
  |c,e=>.when c e
 |e=>e
def nrm:Env→Env
 | []=>[]
 | (t,e)::r=>(t,ZzO e)::nrm r
theorem Zg7:∀(ρ:Env) (t:Nat),ZM (nrm ρ) t=(ZM ρ t).map ZzO
 | [],t=>rfl
 | (k,e)::r,t=>by simp[nrm,ZM];split;rfl;exact Zg7 r t
theorem Zs.nrm(m:Zs g ν w tmps ρ L s):Zs g ν w tmps (nrm ρ) L s:={
 st:=m.st
 loc:=m.loc
 locKept:=m.locKept
 locSt:=m.locSt
 inj:=m.inj
 env t e h:=by
  rw[Zg7]at h;simp at h;obtain⟨e0,h1,rfl⟩:=h;have h2:=m.env t e0 h1;cases e0 with
  |d d=>exact h2
  |loc l o=>exact h2
  |when c e =>
   cases c with
   |false=>exact h2
   |true =>
    cases e with
    |d d=>exact h2.1 rfl
    |loc l o=>exact h2
    |when c e=>exact h2 }
theorem Zqc{P:Program}{F:Fr P}{dk:List Zh}(h:Zv F dk (nrm ρ) L s):Zv F dk ρ L s :=
 fun k hk g ν w tmps hN m=>h k hk g ν w tmps hN m.nrm
theorem ZtC{P:Program}{F:Fr P}{d:D}(h:YV F (nrm ρ) L d s):YV F ρ L d s :=
 fun g ν w v i tmps hN m hr=>h g ν w v i tmps hN m.nrm hr
def ZnF(η:Nm)(ρ:T W)(ρd:Env):Prop:=∀t x,ρ.get t=sO (.v x)→∃d,ZM ρd t=sO (.d d)∧VR η x d
section
variable {C:Px} {η:Nm} {σ:S} {s:St} {L:Loc} {ρ:T W} {ρd:Env} {nx:Nat}
theorem Z5.nrm(h:Z5 η L ρ ρd):ZnF η ρ (nrm ρd):=fun t x hx=>by
 obtain⟨e,h1,d,h2,rfl|rfl⟩:=h t _ hx rfl;exact⟨d,by rw[Zg7,h1];rfl,h2⟩;exact⟨d,by rw[Zg7,h1];rfl,h2⟩
theorem ZnF.mono{η':Nm}(h:ZnF η ρ ρd)(hs:η.Sub η'):ZnF η' ρ ρd:=fun t x hx=>by
 obtain⟨d,h1,h2⟩:=h t x hx;exact⟨d,h1,h2.mono hs⟩
theorem Zz3(hS:Sim C η σ s)(h1:η 1=sO .full)(hρ:ZnF η ρ ρd){r:RV}{v:V}(h:rvV ρ σ r=sO v):∃p d,WV ρd [] s r=sO (p,d)∧p∧VR η v d:=by
 have i:∀{t:Nat} {a:V},(YM (.tmp t)).run ρ=sO a→∃d,ZM ρd t=sO (.d d)∧VR η a d:=fun{t a} ha=>hρ t a (ZxY (x:=ρ.get t) ha);cases r with
 |tmp t =>obtain⟨d,a1,a2⟩:=i h;exact⟨True,d,by simp[WV,a1],trivial,a2⟩
 |cell1 t =>simp[rvV]at h;split at h<;>(try(grind;done));rename_i a ha;obtain⟨d,a1,a2⟩:=i ha;obtain⟨side,e,b1,b2,b3⟩:=Zuw (L:=[]) hS h1 (.one a2) h;simp only[ZEc,ZEs,qv,ZD9,ZD7,E.d.injEq]at b1;obtain⟨x,c1,c2,rfl⟩:=b1;exact⟨True,x,by simp[WV,a1,c1],trivial,b3⟩
 |cellN t n =>simp[rvV]at h;split at h<;>(try(grind;done));rename_i a ha;obtain⟨d,a1,a2⟩:=i ha;obtain⟨side,e,b1,b2,b3⟩:=Zuw (L:=[]) hS h1 (.one a2) h;simp only[ZEc,ZEs,qv,ZD9]at b1;obtain⟨x,c1,rfl,rfl⟩:=b1;exact⟨x.1,.agg x.2,by simp[WV,a1,c1],b2,b3⟩
theorem Zoa(hS:Sim C η σ s)(h1:η 1=sO .full)(hρ:ZnF η ρ ρd):∀{rs:List RV} {vs:List V},ZrJ ρ σ rs=sO vs→∃p ds,Yt ρd [] s rs=sO (p,ds)∧p∧VRs η vs ds
 | [],vs,h=>by cases h;exact⟨True,[],rfl,trivial,.nil⟩
 |r::rs,vs,h=>by simp[ZrJ]at h;split at h<;>(try(grind;done));rename_i v hv;split at h<;>simp at h;rename_i vs' i;subst h;obtain⟨p,d,a1,a2,a3⟩:=Zz3 hS h1 hρ hv;obtain⟨q,ds,b1,b2,b3⟩:=Zoa hS h1 hρ i;exact⟨p∧q,d::ds,by simp[Yt,a1,b1],⟨a2,b2⟩,.cons _ _ _ _ a3 b3⟩
theorem ZvU(h:VRs η vs ds):VR η (mkV vs) (KM ds):=by
 cases h with
 |nil=>exact .tup _ _ .nil
 |cons v d vs ds h t =>
  cases t with
  |nil=>exact h
  |cons v' d' vs ds h' t=>exact .tup _ _ (.cons _ _ _ _ h (.cons _ _ _ _ h' t))
theorem Zth{v:V}{d:D}(h:VR η v d)(hr:ZuF v=true):ZeG d:=by
 cases h<;>simp only[ZuF,ZEq]at hr<;>simp[ZeG,J8];exact ZsW hr;rw[JW]at hr;simpa using hr
theorem Zhp:∀{vs:List V} {ds:List D},VRs η vs ds→Zj5 vs=true→Za9 ds
 | [],_,h,_=>by cases h;trivial
 |v::vs,_,h,hr=>by obtain⟨d,ds,rfl,h1,h2⟩:=h.inv;simp[Zj5]at hr;exact⟨Zth h1 hr.1,Zhp h2 hr.2⟩
def ZfD(C:Px)(η:Nm)(o:Out)(r:Res)(s:St):Prop :=
 ∃η' d,η.Sub η'∧Yr η' o.nx∧Sim C η' o.σ s∧VR η' o.v d∧r=if o.pan then .panic d else .ret d
theorem ZfD.mono{η':Nm}{o:Out}{r:Res}(h:ZfD C η' o r s)(hs:η.Sub η'):ZfD C η o r s:=by
 obtain⟨η2,d,h1,h2⟩:=h;exact⟨η2,d,hs.trans h1,h2⟩
inductive DdR(η:Nm):List Dd→List DD→Prop where
 |nil:DdR η [] []
 |mark (q b:Nat) (r:List Dd) (r':List DD) (h:η q=some (.tip b)) (t:DdR η r r'):DdR η (.mark q::r) (.mark b::r')
 |fn (i:FuncId) (a c:List V) (da dc:List D) (r:List Dd) (r':List DD) (ha:VRs η a da) (hc:VRs η c dc) (h1:Za9 da) (h2:Za9 dc) (t:DdR η r r'):DdR η (.fn i a c::r) (.fn i da dc::r')
theorem DdR.mono{η':Nm}(hs:η.Sub η'):∀{r:List Dd} {r':List DD},DdR η r r'→DdR η' r r'
 |_,_,.nil=>.nil
 |_,_,.mark q b r r' h t=>.mark q b r r' (hs _ _ h) (t.mono hs)
 |_,_,.fn i a c da dc r r' ha hc h1 h2 t=>.fn i a c da dc r r' (ha.mono hs) (hc.mono hs) h1 h2 (t.mono hs)
def FmR(C:Px)(η:Nm)(fm:Fm)(o:Out)(F:Fr C.P):Prop :=
 F.b.fn=fm.f∧F.N=fm.n∧F.an=C.an fm.f∧match fm.k with
  |.fn res=>∃Φ dds,YK F res Φ dds∧DdR η fm.ds dds∧∀r s,ZfD C η o r s→Φ r s
  |.rnd l=>∃b Φ,η l=sO (.tip b)∧KI F b Φ∧∀r s,ZfD C η o r s→Φ r s
  |.dfd pd rec=>∃m Ψ,J9 F m Ψ rec∧(match pd,m with
    |some v,sO d=>VR η v d
    |none,nO=>True
    |_,_=>False)∧∀s b,o.pan=false→o.v=.bool b→ZfD C η o (.ret (.bool b)) s→Ψ b s
end
section
variable {P:Program}
theorem Zpr{an:Ann}{l N:Nat}{r:We}{da db:DC}{args:List D}(hs:s l=sO (.loop r .ready))(hlen:args.length=r.params.length)(ha:cc P an N r.assign=sO da)(hb:cc P an N r.body=sO db)(hN:r.N=N)(hp:∀t∈r.params,t<N)(h:∀F:Fr P,KI F l Φ→F.b.fn=r.fn→F.N=N→F.an=an→Zv F [.code da,.beginR,.code db] (Ws r.params args r.ρ) [] s):WN P (.fn (.yield l) [] []) args s Φ:=by
 intro g w fv vs n hf j;cases hf with
 |fn _ fs ab _ _ hn1 hn2 h1 h2 =>
 obtain rfl:fs=[]:=by simpa using hn1
 obtain⟨hp0,l0,a1,a2,a3,a4,a5,a6,a7,a8,a9,a10⟩:=n.obj l _ hs;have i:vs.toArray.size=l0.params.size:=by
  have e1:=j.len;have e2:l0.params.toList.length=r.params.length:=by rw[a3]
  simp at e2⊢;omega
 refine⟨_,_,_,by simp[Deferred.ofValue];rfl,by simp[invoke,Instr.yield,Instr.getLoop,QQ a1,i];rfl,rfl,fun c cs=>?_⟩;have M:Zs g (fun _=>0) w l0.tmps r.ρ [] s:=⟨n,fun l cs h=>by simp[Ze]at h,fun l cs h=>by simp[Ze]at h,fun l cs h=>by simp[Ze]at h,fun l l' cs ab h=>by simp[Ze]at h,a8⟩;obtain⟨u,M'⟩:=Zhm M j hlen (by rw[hN]at *;exact hp) (by rw[←hN];exact a7);have:=h (ZaP P an r.fn N l c cs Φ) ⟨an,r.fn,N,c,cs,rfl⟩ rfl rfl rfl [.code r.assign,.beginRound,.code r.body] (.code ha (.beginR (.code hb .nil))) g (fun _=>0) w _ u M';have z:(ZaP P an r.fn N l c cs Φ).b.atR { tmps:=(r.params.zip vs).foldl (fun tmps (x:Nat×Value)=>tmps.setIfInBounds x.1 x.2) l0.tmps,defers:=[] } [.code r.assign,.beginRound,.code r.body] =
   Frame.round l l0.fn ((l0.params.zip vs.toArray).foldl (fun tmps (x:Nat×Value)=>tmps.setIfInBounds x.1 x.2) l0.tmps) l0.assign l0.body .normal:=by
  simp only[Frame.atR,a2,a4,a5,←a3]
  congr 1
  rw[←Array.foldl_toList];simp
 have e:(ZaP P an r.fn N l c cs Φ).ds=[]:=rfl;rw[e,z]at this;have e2:(l0.params.zip vs.toArray).size=l0.params.size:=by simp at i⊢;omega
 rw[e2]at this;exact this
theorem Zpp{an:Ann}{i:FuncId}{df:DF}(hf:cf P an i=sO df)(hres:df.res=[]){args:List D}{m:Option D}{Ψ:Bool→St→Prop}(hm:∀d,m=sO d→ZiZ d)(h:∀F:Fr P,J9 F m Ψ false→F.b.fn=i→F.N=df.n→F.an=an→Zv F [.code df.body] (KL 0 args) [] s):Ju P i args m s Ψ:=by
 have ah:=hf;unfold cf at hf;split at hf<;>(try(grind;done));rename_i fn ad;split at hf<;>(try(grind;done));rename_i c hc;split at hf<;>(try(grind;done));rename_i z;split at hf<;>simp at hf;rename_i rs d hrs hd;subst hf;refine⟨⟨fn,ad,by simp[hc],by simpa using z⟩,fun g w vs j cs hs ha t=>?_⟩;obtain⟨v,ab,af⟩:∃v,j.mode=QC m v false∧∀d,m=sO d→∀g w,Rep g w v d:=by
  cases m with
  |none=>exact⟨undef,t,fun d hd=>by simp at hd⟩
  |some d =>obtain⟨v,h1,h2⟩:=t;obtain⟨v',r1,r2⟩:=Zpe (hm d rfl);have:=r2 g w v h2;subst this;exact⟨v,h1,fun d' ac=>by simp at ac;subst ac;exact r1⟩
 have ag:({ j with mode:=QC m v false }:Frame)=j:=by rw[←ab]
 have u:Frame.enter P i vs.toArray .deferred=(YX P an i fn.ntmps j cs Ψ m v false).b.atR { tmps:=vs.toArray++Array.replicate (fn.ntmps-vs.length) undef,defers:=[] } [.code c]:=by simp[Frame.enter,Frame.atR,ad,hc,YX]
 have:=h _ ⟨an,i,_,j,cs,v,ah,hres,ab,af,rfl⟩ rfl rfl rfl [.code c] (.code hd .nil) g (fun _=>0) w (vs.toArray++Array.replicate (fn.ntmps-vs.length) undef) (by simp[YX];omega) (ZfX hs ha _);obtain⟨g',w',s',b,a1,a2,a3,a4⟩:=this;refine⟨g',w',s',b,a1,a2,a3,?_⟩;rw[u];have ae:(YX P an i fn.ntmps j cs Ψ m v false).cs=j::cs:=by simp[YX,ag]
 rw[ae]at a4;exact a4
theorem Zr2{an:Ann}{f:FuncId}{df:DF}(hf:cf P an f=sO df){args:List D}(h:∀F:Fr P,YK F df.res Φ []→F.b.fn=f→F.N=df.n→F.an=an→Zv F [.code df.body] (KL 0 args) [] s):Za P f args s Φ :=
 ZhX hf fun cs=>h _ ⟨an,f,df,cs,hf,rfl,rfl⟩ rfl rfl rfl
end
def ZwH(C:Px)(ih:Ih):Prop:=∀fm dk ρ σ nx o,ih fm dk ρ σ nx=sO o→∀(F:Fr C.P) η ρd s,FmR C η fm o F→Z5 η [] ρ ρd→Yr η nx→Sim C η σ s→Zv F dk ρd [] s
def QV(C:Px)(ih:Ih):Prop:=∀t,ZwH ⟨C.toCx,t⟩ ih
theorem QV.at{C:Px}{ih:Ih}(h:QV C ih):ZwH C ih:=h C.t
def Zk6(η:Nm):Option V→Option D→Prop
 |some v,sO d=>VR η v d
 |none,nO=>True
 |_,_=>False
section
variable {C:Px} {ih:Ih}
theorem ZxH{η:Nm}{m:Option V}{md:Option D}(h:Zk6 η m md)(hr:ZuE m=true):∀d,md=sO d→ZiZ d:=fun d hd=>by
 subst hd;cases m with
 |none=>exact h.elim
 |some v =>have hv:VR η v d:=h;cases hv<;>simp[ZuE]at hr;rename_i t v d hv;have i:=hv;cases hv<;>first|exact Zhp (by assumption) hr|exact Zth i hr
theorem ZgM(hih:QV C ih):∀{ds:List Dd} {m:Option V} {σ:S} {nx:Nat} {m':Option V} {σ':S} {nx':Nat},ZlO C ih ds m σ nx=sO (m',σ',nx')→∀{η:Nm} {dds:List DD} {md:Option D} {s:St},DdR η ds dds→Yr η nx→Sim C η σ s→Zk6 η m md →
  ∀{Ψ:Option D→St→Prop},(∀η' md' s',η.Sub η'→Yr η' nx'→Sim C η' σ' s'→Zk6 η' m' md'→Ψ md' s')→Unw C.P dds md s Ψ
 | [],m,σ,nx,m',σ',nx',h,η,dds,md,s,hd,hN,hS,hm,Ψ,hΨ=>by cases h;cases hd;exact hΨ η md s (Nm.Sub.refl _) hN hS hm
 |.mark q::r,m,σ,nx,m',σ',nx',h,η,dds,md,s,hd,hN,hS,hm,Ψ,hΨ=>by
  simp only[ZlO]at h;split at h<;>(try(simp at h;done));rename_i hq;cases hd with
  |mark _ b _ r' hb t =>obtain⟨b',d,e0,e1,e2⟩:=hS.get hq (fun n=>by simp);rw[hb]at e0;cases e0;cases e2;exact⟨e1,ZgM hih h t hN (hS.take hq hb) hm hΨ⟩
 |.fn i args caps::r,m,σ,nx,m',σ',nx',h,η,dds,md,s,hd,hN,hS,hm,Ψ,hΨ=>by
  simp only[ZlO]at h;split at h<;>(try(simp at h;done));rename_i n body ab;obtain⟨hr,hh⟩:=Zz h;replace h:=hh;clear hh;split at h<;>(try(simp at h;done));rename_i b σ1 nx1 j;cases hd with
  |fn _ _ _ da dc _ r' ha hc h1 h2 t =>
   refine⟨h1,h2,Zpp (an:=C.an i) ab rfl (ZxH hm hr) fun F hF e1 e2 e3=>?_⟩;refine hih.at _ _ _ _ _ _ j F η _ s ⟨e1,e2,e3,md,_,hF,hm,?_⟩ (ZvI (ha.append hc)) hN hS;intro s1 b1 _ u hp;obtain⟨η1,d,g1,g2,g3,g4,g5⟩:=hp;simp only[V.bool.injEq]at u;subst u;exact ZgM hih h (t.mono g1) g2 g3 (by
    cases b with
    |true=>trivial
    |false =>
     cases m<;>cases md<;>first|trivial|exact hm.elim|exact VR.mono g1 hm) fun η2 z s2 k1 k2 k3 k4=>hΨ η2 z s2 (g1.trans k1) k2 k3 k4
end
def ZAt(C:Cx)(r:We)(st:Option DC)(busy:Bool)(lst:LSt):Prop:=match st,busy,lst with
 |none,false,.ready=>True
 |none,true,.busy=>True
 |some dj,false,.done j=>cc C.P (C.an r.fn) r.N j=sO dj
 |_,_,_=>False
section
variable {C:Px} {ih:Ih} {η:Nm} {σ:S} {s:St} {ρ:T W} {ρd:Env} {nx:Nat}
theorem ZiC(hS:Sim C η σ s){l b:Nat}(hb:η l=sO (.tip b)){st:Option DC}{now busy:Bool}{σ':S}(h:loopTo σ l st now busy=sO σ'):
  ∃r lst,s b=sO (.loop r lst)∧(now=false→lst=.ready)∧(now=true→lst=.busy)∧∀lst',ZAt C r st busy lst'→Sim C η σ' (s.upd b (.loop r lst')):=by
 unfold loopTo at h;split at h<;>(try(grind;done));rename_i f n ps a b0 ρ0 bs hl;obtain⟨u,hh⟩:=Zz h;replace h:=hh;clear hh;cases h;obtain⟨b',d,e0,e1,e2⟩:=hS.get hl (fun n=>by simp);rw[hb]at e0;cases e0;have j:bs=now:=by simpa using u
 subst j;cases e2 with
 |loop _ _ _ _ _ _ _ _ r lst hf hn hps hlt ha hbb hρ hst =>
  subst hf;subst hn;refine⟨r,lst,e1,fun i=>?_,fun i=>?_,fun lst' t=>hS.upd hl hb (.loop _ _ _ _ _ _ _ _ r lst' rfl rfl hps hlt ha hbb hρ ?_)⟩;subst i;cases lst<;>first|rfl|exact hst.elim
  subst i;cases lst<;>first|rfl|exact hst.elim
  cases st<;>cases busy<;>cases lst'<;>exact t
theorem Zte(hih:QV C ih){fm:Fm}{fell:Bool}{o:Out}(h:ZuD C ih fm ρ σ nx fell=sO o){F:Fr C.P}(hF:FmR C η fm o F)(hρ:Z5 η [] ρ ρd)(hN:Yr η nx)(hS:Sim C η σ s):
  (fell=true→Zv F [] ρd [] s)∧(fell=false→∀dk,Zv F (.code .ret::dk) ρd [] s):=by
 obtain⟨_,_,_,hk⟩:=hF;unfold ZuD at h;split at h
 ·rename_i res i;rw[i]at hk;obtain⟨Φ,n,hI,t,hΦ⟩:=hk;split at h<;>(try(grind;done));rename_i σ1 nx1 hu;split at h<;>simp at h;rename_i vs z;subst h;have hU:Unw C.P n nO s (ZjG (nrm ρd) [] res Φ):=ZgM hih hu t hN hS (md:=nO) trivial fun η1 u s1 k1 k2 k3 k4=>by
   cases u with
   |some d=>exact k4.elim
   |none =>obtain⟨p,ds,g1,g2,g3⟩:=Zoa k3 k2.o (hρ.nrm.mono k1) z;exact⟨p,ds,_,s1,g1,g2,ZDZ _,ZDY _,hΦ _ _ ⟨η1,_,k1,k2,k3,ZvU g3,rfl⟩⟩
  exact⟨fun _=>Zqc (hI.finU hU),fun _ dk=>Zqc (hI.retU hU)⟩
 rename_i l i;rw[i]at hk;obtain⟨b,Φ,hb,hI,hΦ⟩:=hk;split at h<;>simp at h;rename_i σ1 hl;subst h;obtain⟨r,lst,e1,_,e2,e3⟩:=ZiC hS hb hl;obtain rfl:=e2 rfl;refine⟨fun hf=>?_,fun hf dk=>?_⟩;subst hf;exact hI.fin e1 (ZDY _) (hΦ _ _ ⟨η,_,Nm.Sub.refl _,hN,e3 .ready trivial,.bool true,rfl⟩);subst hf;exact hI.ret e1 (ZDY _) (hΦ _ _ ⟨η,_,Nm.Sub.refl _,hN,e3 (.done .ret) rfl,.bool false,rfl⟩);rename_i pd rec i;rw[i]at hk;obtain⟨m,Ψ,hI,hm,hΨ⟩:=hk;split at h<;>cases h;have j:pd.isNone=m.isNone:=by cases pd<;>cases m<;>first|rfl|exact hm.elim
 have hq:Ψ (m.isNone ||rec) s:=hΨ s _ rfl (by simp[j]) ⟨η,_,Nm.Sub.refl _,hN,hS,by rw[j];exact .bool _,rfl⟩;exact⟨fun _=>hI.fin (ZDY _) hq,fun _ dk=>hI.ret (ZDY _) hq⟩
theorem Zgw(hih:QV C ih){fm:Fm}{v:V}{d:D}{o:Out}(h:ZlA C ih fm ρ v σ nx=sO o){F:Fr C.P}(hF:FmR C η fm o F)(hρ:Z5 η [] ρ ρd)(hN:Yr η nx)(hS:Sim C η σ s)(hv:VR η v d):YV F ρd [] d s:=by
 obtain⟨ab,_,_,hk⟩:=hF;unfold ZlA at h;split at h
 ·rename_i res i;rw[i]at hk;obtain⟨Φ,dds,hI,t,hΦ⟩:=hk;refine ZtC (hI.panU ?_);split at h<;>(try(grind;done))
  ·rename_i σ1 u hu;split at h<;>simp at h;rename_i vs ac;subst h;exact ZgM hih hu t hN hS (md:=sO d) hv fun η1 j s1 k1 k2 k3 k4=>by
    cases j with
    |some d=>exact k4.elim
    |none =>obtain⟨p,ds,g1,g2,g3⟩:=Zoa k3 k2.o (hρ.nrm.mono k1) ac;exact⟨p,ds,_,s1,g1,g2,ZDZ _,ZDY _,hΦ _ _ ⟨η1,_,k1,k2,k3,ZvU g3,rfl⟩⟩
  rename_i v1 σ1 u hu;cases h;exact ZgM hih hu t hN hS (md:=sO d) hv fun η1 j s1 k1 k2 k3 k4=>by
   cases j with
   |none=>exact k4.elim
   |some d1=>exact⟨d1,s1,ZDZ _,ZDY _,hΦ _ _ ⟨η1,d1,k1,k2,k3,k4,rfl⟩⟩
 rename_i l i;rw[i]at hk;obtain⟨b,Φ,hb,hI,hΦ⟩:=hk;split at h<;>simp at h;rename_i ad n;subst h;refine hI.pan (ZDY _) (hΦ _ _ ⟨η,d,Nm.Sub.refl _,hN,hS,hv,rfl⟩) fun an fn N c cs z=>?_;subst z;have:fn=fm.f:=ab;rw[this];exact⟨ad,n⟩;grind
end
section
variable {P:Program}
theorem Zr3{F:Fr P}{d:D}{Ψ:Bool→St→Prop}(hF:J9 F (sO d) Ψ false){dk:List Zh}{o:DOp}(hg:o.guard=nO)(hk:o.k=.recover)(h:∀F':Fr P,J9 F' (sO d) Ψ true→F'.b=F.b→F'.N=F.N→F'.an=F.an→DO F' kp dk os (Zw ρ o.dst (.d d)) L s):DO F kp dk (o::os) ρ L s:=by
 obtain⟨an,f,df,i,cs,v,hf,ai,ad,u,rfl⟩:=hF;refine Y9 fun oo g ν w tmps t j r k af ac am ae hd hN m hr aj=>?_;have hw:=Z9 m am (c:=true) (by rw[hg];rfl);have al:=Yg ac (by rw[hk];rfl);rw[hk]at ac;obtain⟨args,ats,ak⟩:=ZgV ac;have ag:(execOp (Act.mk tmps []).eval oo).run P w=.ok .recover w:=by simp[execOp,ak,resolve,invoke,builtin]
 have z:_root_.Go.step P (lone ((YX P an f df.n i cs Ψ (sO d) v false).b.atR ⟨tmps,[]⟩ (.inRegion t (j::r)::k)) (YX P an f df.n i cs Ψ (sO d) v false).cs w) =
   .next (lone ((YX P an f df.n i cs Ψ (sO d) v true).b.atR ((Act.mk tmps []).put oo.dst v) (.inRegion t r::k)) (YX P an f df.n i cs Ψ (sO d) v true).cs w):=by
  refine step_lone_go ?_;rw[stepGR_op af hw,Oper.semAt_eq _ _ _ al];have ah:((YX P an f df.n i cs Ψ (sO d) v false).b.atR ⟨tmps,[]⟩ (.inRegion t (j::r)::k)).finish v=(YX P an f df.n i cs Ψ (sO d) v true).b.atR ((Act.mk tmps []).put oo.dst v) (.inRegion t r::k):=by rw[Frame.finish_atR,af];rfl
  rw[←ah];simp[stepG.apply,ag,Frame.atR,YX,tryRecover,QC]
 refine(Zd6 P i cs Ψ).back _ _ _ _ (.one z) ?_;obtain⟨ab,e1,e2,m'⟩:=ZeE m hN hd (v:=v) (e:=.d d) (u d rfl g w) [];rw[ae,e1];exact h _ ⟨an,f,df,i,cs,v,hf,ai,ad,u,rfl⟩ rfl rfl rfl t r k hr aj g ν w ab e2 m'
end
theorem WR.val{η:Nm}{v:V}{d:D}(h:VR η v d):WR η L (.v v) (.d d):=⟨d,h,.inl rfl⟩
theorem WR.skp{η:Nm}:WR η L .skip (.when false (.d (.bool false))):=rfl
def Zp4(η:Nm)(σ:S)(s:St):Prop:=∀(k b:Nat) (vs:List V),Zay (σ.get k)=sO vs→η k=sO (.tip b)→∃ds ex,s b=sO (.cells (ds++ex))∧VRs η vs ds
def Qt(C:Px):Prop:=∀f g σ vs v,C.lib f=sO g→g σ vs=sO v→∀(η:Nm) ds s,VRs η vs ds→Zp4 η σ s→∃d,VR η v d∧Za C.P f ds s fun r s'=>r=.ret d∧s'=s
section
variable {C:Px} {ih:Ih} {η:Nm} {σ:S} {s:St} {ρ:T W} {ρd:Env} {nx:Nat}
theorem Zk6.mono{η':Nm}(hs:η.Sub η'){a:Option V}{b:Option D}(h:Zk6 η a b):Zk6 η' a b:=by
 cases a<;>cases b<;>first|trivial|exact h.elim|exact VR.mono hs h
theorem FmR.mono{η':Nm}(hs:η.Sub η'){fm:Fm}{o:Out}{F:Fr C.P}(h:FmR C η fm o F):FmR C η' fm o F:=by
 obtain⟨h1,h2,h3,h4⟩:=h;refine⟨h1,h2,h3,?_⟩;split at h4;obtain⟨Φ,i,a,b,c⟩:=h4;exact⟨Φ,i,a,b.mono hs,fun r s hp=>c r s (hp.mono hs)⟩;obtain⟨b,Φ,a,c,d⟩:=h4;exact⟨b,Φ,hs _ _ a,c,fun r s hp=>d r s (hp.mono hs)⟩;obtain⟨m,Ψ,a,c,d⟩:=h4;exact⟨m,Ψ,a,Zk6.mono hs c,fun s b e1 e2 hp=>d s b e1 e2 (hp.mono hs)⟩
theorem Zqx(hih:QV C ih){f:FuncId}{args:List V}{o:Out}(h:(ZpP C f).run ih args σ nx=sO o)(ha:VRs η args ds)(hN:Yr η nx)(hS:Sim C η σ s):Za C.P f ds s (ZfD C η o):=by
 unfold ZpP at h;split at h;rename_i df i;exact Zr2 (an:=C.an f) i fun F hI e1 e2 e3=>hih.at _ _ _ _ _ _ h F η _ s ⟨e1,e2,e3,_,[],hI,.nil,fun _ _ h=>h⟩ (ZvI ha) hN hS;grind
theorem Zlh(hlib:Qt C)(hih:QV C ih){f:FuncId}{args:List V}{o:Out}(h:(ZgT C f).run ih args σ nx=sO o)(ha:VRs η args ds)(hN:Yr η nx)(hS:Sim C η σ s):Za C.P f ds s (ZfD C η o):=by
 unfold ZgT at h;split at h;rename_i g hg;simp only at h;split at h;simp at h;rename_i v hv;subst h;obtain⟨d,h1,h2⟩:=hlib f g σ args v hg hv η ds s ha fun _ _ _ h hb=>hS.cells h hb;exact h2.mono fun r s' ⟨e1,e2⟩=>by subst e1;subst e2;exact⟨η,d,Nm.Sub.refl _,hN,hS,h1,rfl⟩
 exact Zqx hih h ha hN hS;exact Zqx hih h ha hN hS
theorem Zli(hlib:Qt C)(hih:QV C ih){fv:V}{args:List V}{fd:D}{o:Out}(h:Zl6 C ih fv args σ nx=sO o)(hf:VR η fv fd)(ha:VRs η args ds)(hN:Yr η nx)(hS:Sim C η σ s):WN C.P fd ds s (ZfD C η o):=by
 cases hf<;>simp only[Zl6,reduceCtorEq]at h;case fn f a c da dc h1 h2 =>refine Za.V (Zlh hlib hih h ?_ hN hS);rw[ZEA];exact h1.append (ha.append h2)
 case yield l b hb =>
  split at h<;>(try(simp at h;done));rename_i f n ps a b0 ρ0 hl;obtain⟨i,hh⟩:=Zz h;replace h:=hh;clear hh;rw[Z2]at i;obtain⟨b',d,e0,e1,e2⟩:=hS.get hl (fun n=>by simp);rw[hb]at e0;cases e0;cases e2 with
  |loop _ _ _ _ _ _ _ _ r lst hf hn hps hlt hca hcb hρ hst =>
   subst hf;subst hn;subst hps;have hr:lst=.ready:=by cases lst<;>first|rfl|exact hst.elim
   subst hr;refine Zpr (an:=C.an r.fn) e1 (by rw[←ha.len];exact i) hca hcb rfl hlt fun F hI e2 e3 e4=>?_;exact hih.at _ _ _ _ _ _ h F η _ s ⟨e2,e3,e4,b,_,hb,hI,fun _ _ h=>h⟩ (Zpc hρ ha) hN hS
def Zvc(C:Px)(ih:Ih)(rest:Bx Rg)(dk:List Zh)(os:List DOp):Prop :=
 ∀fm ρ σ nx o,rest.run ih dk fm ρ σ nx=sO o→∀(F:Fr C.P) η ρd s,FmR C η fm o F→Z5 η [] ρ ρd→Yr η nx→Sim C η σ s→DO F nO dk os ρd [] s
theorem ZvF(hlib:Qt C)(hih:QV C ih){rest:Bx Rg}{dk:List Zh}(hrest:Zvc C ih rest dk os){fm:Fm}{f:FuncId}{g:Option (Nat×Bool)}{k:K}(hfk:ZiH k=true){o:Out}(h:(goF C f rest dst g k).run ih dk fm ρ σ nx=sO o){F:Fr C.P}(hg:Zk ρd g=sO true)(hF:FmR C η fm o F)(hρ:Z5 η [] ρ ρd)(hN:Yr η nx)(hS:Sim C η σ s):DO F nO dk (⟨dst,g,k⟩::os) ρd [] s:=by
 have ad:∀{k:K},ZiH k=true→(gk k ||g.isNone)=true→(match (opF (C.mu f dst) dst.isSome k).run ρ σ nx with
   |some ⟨v,σ',ab⟩=>rest.run ih dk fm ((Zb8 dst).run ρ (.v v)) σ' ab
   |none=>nO)=sO o→DO F nO dk (⟨dst,g,k⟩::os) ρd [] s:=by
  intro k hfk i h;split at h<;>(try(simp at h;done));rename_i v σ' ab ae;exact ZAr hS hN hρ hg i hfk ae fun η' e s2 k1 k2 k3 k4=>hrest _ _ _ _ _ h F η' _ s2 (hF.mono k1) (Ji (hρ.mono k1) k4 dst) k2 k3
 cases k;case call fx xs =>
  simp only[goF]at h;split at h<;>(try(simp at h;done));rename_i fv n;split at h<;>(try(simp at h;done));rename_i vs u;split at h<;>(try(simp at h;done));rename_i pan v σ' ab z;obtain⟨p,fd,a1,a2,a3⟩:=Kh hρ n;obtain⟨q,ds,b1,b2,b3⟩:=Zal hρ u;have hV:=Zli hlib hih z a3 b3 hN hS;refine Zed hg rfl a1 b1 (Zaq ds) b2 a2 hV (fun d s' hp=>?_) (fun d s' hp=>?_)
  ·obtain⟨η1,d1,k1,k2,k3,k4,k5⟩:=hp;cases pan with
   |true=>simp at k5
   |false =>cases k5;exact hrest _ _ _ _ _ h F η1 _ s' (hF.mono k1) (Ji (hρ.mono k1) (WR.val k4) dst) k2 k3
  obtain⟨η1,d1,k1,k2,k3,k4,k5⟩:=hp;cases pan with
  |false=>simp at k5
  |true =>cases k5;exact Zgw hih h (hF.mono k1) (hρ.mono k1) k2 k3 k4
 case panic x =>
  simp only[goF]at h;split at h<;>(try(simp at h;done));rename_i t v hv;obtain⟨p,d,a1,a2,a3⟩:=Kh hρ hv;cases a3 with
  |iface _ _ d hd=>exact Zk3 hg rfl a1 a2 (Zgw hih h hF hρ hN hS (.iface _ _ _ hd))
 case defer fx xs =>
  simp only[goF]at h;split at h
  ·simp only at h;split at h<;>(try(simp at h;done));rename_i j first caps vs n u
   split at h<;>(try(simp at h;done));rename_i res hk;obtain⟨hr,hh⟩:=Zz h;replace h:=hh;clear hh;simp only[ZD5]at hr;obtain⟨p,fd,a1,a2,a3⟩:=Kh hρ n;obtain⟨q,ds,b1,b2,b3⟩:=Zal hρ u;cases a3 with
   |fn _ _ _ da dc h1 h2 =>obtain⟨f1,f2,f3,f4⟩:=hF;rw[hk]at f4;obtain⟨Φ,dds,hI,hd,hΦ⟩:=f4;have r1:=Zhp (h1.append b3) hr.1;have r2:=Zhp h2 hr.2;refine Zk2 hI.roundOf rfl rfl rfl a1 b1 (Zaq ds) b2 a2 r1 r2 (hrest _ _ _ _ _ h _ η _ s ⟨f1,f2,f3,?_⟩ hρ hN hS);simp only[hk];exact⟨Φ,_,hI.defer j (da++ds) dc,.fn _ _ _ _ _ _ _ (h1.append b3) h2 r1 r2 hd,hΦ⟩
  simp at h
 case recover =>
  simp only[goF]at h;split at h
  ·simp only at h;obtain⟨f1,f2,f3,f4⟩:=hF;split at h
   ·rename_i v hk;rw[hk]at f4;obtain⟨m,Ψ,hI,hm,hΨ⟩:=f4;cases m with
    |none=>exact hm.elim
    |some d =>refine Zr3 hI rfl rfl fun F' ac e1 e2 e3=>hrest _ _ _ _ _ h F' η _ s ⟨by rw[e1];exact f1,by rw[e2];exact f2,by rw[e3];exact f3,?_⟩ (Ji hρ (WR.val hm) dst) hN hS;exact⟨sO d,Ψ,ac,hm,hΨ⟩
   ·rename_i rec hk;have af:=f4;rw[hk]at f4;obtain⟨m,Ψ,hI,hm,hΨ⟩:=f4;cases m with
    |some d=>exact hm.elim
    |none=>exact ZfC hI rfl rfl (hrest _ _ _ _ _ h F η _ s ⟨f1,f2,f3,af⟩ (Ji hρ (WR.val .niliface) dst) hN hS)
   simp at h
  simp at h
 all_goals
  simp only[goF]at h;split at h;rename_i i;exact ad hfk i h;simp at h
theorem Ztd(hlib:Qt C)(hih:QV C ih){dk:List Zh}{f:FuncId}:∀{os:List DOp},(os.all fun o=>ZiH o.k)=true→Zvc C ih (Zn9 C f os) dk os
 | [],_=>fun fm ρ σ nx o h F η ρd s hF hρ hN hS=>Zec (hih.at _ _ _ _ _ _ h F η ρd s hF hρ hN hS)
 |⟨dst,g,k⟩::os,hfk=>fun fm ρ σ nx o h F η ρd s hF hρ hN hS=>by simp only[List.all_cons,ZD5]at hfk;have IH:=Ztd hlib hih (dk:=dk) (f:=f) hfk.2;simp[Zn9]at h;split at h;exact ZvF hlib hih IH hfk.1 h rfl hF hρ hN hS;simp only at h;split at h<;>(try(grind;done));rename_i b hb;have hg:=ZoX hρ hb;split at h;exact ZvF hlib hih IH hfk.1 h hg hF hρ hN hS;exact KH (e:=.d (.bool false)) hg (IH _ _ _ _ _ h F η _ s hF (Ji hρ WR.skp dst) hN hS)
end
section
variable {P:Program}
theorem Zqe{F:Fr P}(hr:F.b.roundOf=nO){o:Opd}{ps:List Nat}{da db:DC}{dk:List Zh}{p:Prop}{fv:D}(hf:ZE ρ true o=sO (p,.d fv))(hp:p)(ks:List Nat)(hks:(Yj ρ ks).map (·.1) |>.Nodup)(h:∀q l r,s q=nO→s l=nO→q≠l→r.ρ=WG ks ρ→r.params=ps→r.fn=F.b.fn→cc P F.an F.N r.assign=sO da→cc P F.an F.N r.body=sO db→r.N=F.N→(∀t∈ps,t<F.N) →
   ∃Ψ,WN P fv [.fn (.yield l) [] []] ((s.upd q .dfr).upd l (.loop r .ready)) Ψ∧(∀d s',Ψ (.ret d) s'→∃r',Zh6 (F.mark q) l r' dk ρ L s')∧(∀d s',Ψ (.panic d) s'→YV (F.mark q) ρ L d s')):
  Zv F (.code (.rangeF o ps da db)::dk) ρ L s:=by
 intro k hk;cases hk with
 | @code _ _ kt _ hc ht =>
 obtain⟨f',ag,a',b',rfl,ap,ak,ha,hb,aw⟩:=ZoF hc;intro g ν w tmps hN m;have au:Rep g w _ fv:=Z7 m ap rfl hf hp F.ds;have ae:=JB (g:=g) (w:=w) (.deferred (sO [])) m.st.fresh;have ad:=ae.ext m.st.fresh;obtain⟨hq,m1⟩:=m.newObj ae (o:=.dfr) ⟨(m.st.fresh _ (ZEd _)).1,W0 w _⟩;let w1:=w.alloc (.deferred (sO []));let lp:Go.Loop:={ state:=.ready,pending:=nO,fn:=F.b.fn,tmps:=tmps,params:=ag,assign:=a',body:=b',defers:=w.heap.size };let r:We:={ fn:=F.b.fn,params:=ps,assign:=a',body:=b',defers:=w.heap.size,ρ:=WG ks ρ,N:=F.N };have af:=JB (g:=g) (w:=w1) (.loop lp) m1.st.fresh;have ab:=af.ext m1.st.fresh;obtain⟨hl,m2⟩:=m1.newObj af (o:=.loop r .ready) ⟨(m1.st.fresh _ (ZEd _)).1,lp,W0 w1 _,rfl,ak,rfl,rfl,rfl,hN,fun t e al=>by
  obtain⟨h1,h2⟩:=ZdQ hks al;exact ZmW (((m1.env t e (Zdb ρ ks t e h1))).mono ab) h2,rfl,rfl⟩
 have hqsz:w1.heap.size=w.heap.size+1:=by simp[w1]
 have am:s w1.heap.size=nO:=by
  have ao:¬w1.heap.size=w.heap.size:=by omega
  have h0:(s.upd w.heap.size .dfr) w1.heap.size=nO:=hl;simp[ZEv,ao]at h0;exact h0
 obtain⟨Ψ,hV,ah,ai⟩:=h w.heap.size w1.heap.size r hq am (by omega) rfl rfl rfl ha hb rfl aw;have z:Rep g (w1.alloc (.loop lp)) _ fv:=(au.mono ad).mono ab;obtain⟨d,nx,fr,aq,av,aj,hC⟩:=hV (Ze8 g ν L) (w1.alloc (.loop lp)) _ [.func (.yield w1.heap.size) #[] #[]] m2.callSt (Wk z rfl) (.cons (.fn (.yield w1.heap.size) [] [] [] [] rfl rfl (by simp) (by simp)) .nil);have u:(Instr.enterLoop F.b.fn tmps ag a' b' F.b.roundOf).run P w=.ok (w1.heap.size,[{ target:=.collected w.heap.size,args:=#[] }]) (w1.alloc (.loop lp)):=by rw[hr];simp[Instr.enterLoop,w1,lp]
 have j:=ZgI (P:=P) (b:=F.b) (a:=⟨tmps,F.ds⟩) (k:=kt) (cs:=F.cs) u aq av aj;obtain⟨e,w',⟨g',s',res,x1,x2,x3,x4⟩,i⟩:=hC (F.b.atR { tmps:=tmps,defers:=[{ target:=.collected w.heap.size,args:=#[] }]++F.ds } (.inRangeFunc w1.heap.size::kt)) F.cs;obtain⟨ac,hm⟩:=m2.afterCall x1 x2;have n:=(ad.trans ab).trans ac;cases e with
 |returned v =>
  cases res with
  |panic d=>exact x3.elim
  |ret d =>refine F.T.back _ _ _ _ (.head j i) ?_;exact F.T.ext _ _ _ _ _ n ((ah d s' x4).elim fun _ ar=>ZmU (F:=F.mark w.heap.size) ht hN hm ar)
 |panicked ch =>
  cases res with
  |ret d=>exact x3.elim
  |panic d =>obtain⟨v,rfl,hv⟩:=x3;refine F.T.back _ _ _ _ (.head j i) ?_;exact F.T.ext _ _ _ _ _ n (ai d s' x4 _ _ _ v _ _ hN hm (Wk hv rfl))
 |outgrown=>exact i.elim
end
theorem Zhd{ρ:Env}:∀{ks:List Nat} {t:Nat},t∈(Yj ρ ks).map (·.1)→t∈ks
 | [],t,h=>by cases h
 |k::ks,t,h=>by simp only[Yj]at h;split at h;simp only[ZEc,ZEz]at h;rcases h with rfl|h;simp;exact List.mem_cons_of_mem _ (Zhd h);exact List.mem_cons_of_mem _ (Zhd h)
theorem ZfS{ρ:Env}:∀{ks:List Nat},ks.Nodup→((Yj ρ ks).map (·.1)).Nodup
 | [],_=>by simp[Yj]
 |k::ks,h=>by simp at h;simp[Yj];split;simp only[ZEc,List.nodup_cons];exact⟨fun hk=>h.1 (Zhd hk),ZfS h.2⟩;exact ZfS h.2
section
variable {C:Px} {ih:Ih}
def Zp5(C:Px)(ih:Ih)(f:FuncId)(c:DC):Prop :=
 ∀fm k ρ σ nx o,(Zaa C f c).run ih fm k ρ σ nx=sO o→fm.f=f→∀(F:Fr C.P) η ρd s,FmR C η fm o F→Z5 η [] ρ ρd→Yr η nx→Sim C η σ s→Zv F (.code c::k) ρd [] s
def Zl0(C:Px)(ih:Ih):Prop:=∀f order ops kp,Zp5 C ih f (.regD order ops kp)
theorem Zv7(hlib:Qt C)(hih:QV C ih){f:FuncId}{g:Opd}{ps:List Nat}{a b:DC}:Zp5 C ih f (.rangeF g ps a b):=by
 intro fm k ρ σ nx o h hf F η ρd s hF hρ hN hS;simp[Zaa]at h;split at h<;>(try(grind;done));rename_i res hk;split at h<;>(try(grind;done));rename_i fv ah;split at h<;>(try(grind;done));rename_i pan v σ' nx' u;obtain⟨p,fd,a1,a2,a3⟩:=Kh hρ ah;obtain⟨f1,f2,f3,f4⟩:=hF;rw[hk]at f4;obtain⟨Φ,dds,hI,ag,hΦ⟩:=f4;refine Zqe hI.roundOf a1 a2 ZnK (ZfS List.nodup_range) fun q l r hq hl am hr aj hfn ao ak hrN ai=>?_;have f0:=hN.free nx (ZEd _);have n1:η.Sub (η.put nx (.tip q)):=Nm.put_sub f0 _;have ab:=hN.put (.tip q);have S1:Sim C (η.put nx (.tip q)) (σ.set (sO .dfr) nx) (s.upd q .dfr):=hS.new f0 hq .dfr;have ad:=ab.free (nx+1) (ZEd _);have n2:(η.put nx (.tip q)).Sub ((η.put nx (.tip q)).put (nx+1) (.tip l)):=Nm.put_sub ad _;have ae:=ab.put (.tip l);have al:(s.upd q .dfr) l=nO:=by rw[ZD6 s _ (Ne.symm am)];exact hl
 have S2:=S1.new ad al (o:=.loop fm.f fm.n ps a b ρ nO false) (d:=.loop r .ready)
  (.loop _ _ _ _ _ _ _ _ r .ready (by simp_all) (by simp_all) aj (by rw[←f2];exact ai) (by rw[←f3,←f2];exact ao) (by rw[←f3,←f2];exact ak) (by rw[hr];exact(hρ.round.mono n1).mono n2) trivial)
 have hV:=Zli hlib hih u ((a3.mono n1).mono n2) (.one (.yield _ _ (Nm.put_same _ _ _))) ae S2;have z:∀{η':Nm},((η.put nx (.tip q)).put (nx+1) (.tip l)).Sub η'→FmR C η' { fm with ds:=.mark nx::fm.ds } o (F.mark q):=fun{η'} hs=>by refine⟨f1,f2,f3,?_⟩;simp[hk];exact⟨Φ,_,hI.mark q,.mark _ _ _ _ (hs _ _ (n2 _ _ (Nm.put_same _ _ _))) (ag.mono (n1.trans (n2.trans hs))),fun r s hp=>hΦ r s (hp.mono (n1.trans (n2.trans hs)))⟩
 refine⟨_,hV,fun d s' hp=>?_,fun d s' hp=>?_⟩
 ·obtain⟨η1,d1,k1,k2,k3,k4,k5⟩:=hp;cases pan with
  |true=>grind
  |false =>
   simp only at h;have t:η1 (nx+1)=sO (.tip l):=k1 _ _ (Nm.put_same _ _ _);have ac:Z5 η1 [] ρ ρd:=hρ.mono (n1.trans (n2.trans k1));split at h<;>(try(grind;done))
   ·rename_i i;obtain⟨b',dd,e0,e1,e2⟩:=k3.get i (fun n=>by simp);rw[t]at e0;cases e0;cases e2 with
    |loop _ _ _ _ _ _ _ _ r' lst hf' hn' hps' hlt' ha' hb' hρ' hst =>
     have af:lst=.ready:=by cases lst<;>first|rfl|exact hst.elim
     subst af;exact⟨r',.inl ⟨e1,hih.at _ _ _ _ _ _ h (F.mark q) η1 ρd _ (z k1) ac k2 (k3.take i t)⟩⟩
   rename_i f' n' _ _ _ _ j i;obtain⟨hc,hh⟩:=Zz h;replace h:=hh;clear hh;simp at hc;obtain⟨rfl,rfl⟩:=hc;obtain⟨b',dd,e0,e1,e2⟩:=k3.get i (fun n=>by simp);rw[t]at e0;cases e0;cases e2 with
   |loop _ _ _ _ _ _ _ _ r' lst hf' hn' hps' hlt' ha' hb' hρ' hst =>
    cases lst with
    |done j'=>exact⟨r',.inr ⟨j',j,e1,by show cc C.P F.an F.N j'=_;rw[f3,f2];exact hst,hih.at _ _ _ _ _ _ h (F.mark q) η1 ρd _ (z k1) ac k2 (k3.take i t)⟩⟩
    |_=>exact hst.elim
 obtain⟨η1,d1,k1,k2,k3,k4,k5⟩:=hp;cases pan with
 |false=>grind
 |true =>cases k5;exact Zgw hih h (z k1) (hρ.mono (n1.trans (n2.trans k1))) k2 k3 k4
theorem Zao(hlib:Qt C)(hih:QV C ih)(hD:Zl0 C ih){f:FuncId}:∀c,Zp5 C ih f c
 |.skip=>fun fm k ρ σ nx o h hf F η ρd s hF hρ hN hS=>Zy (hih.at _ _ _ _ _ _ h F η ρd s hF hρ hN hS)
 |.label _=>fun fm k ρ σ nx o h hf F η ρd s hF hρ hN hS=>Yw (hih.at _ _ _ _ _ _ h F η ρd s hF hρ hN hS)
 |.seq a b=>fun fm k ρ σ nx o h hf F η ρd s hF hρ hN hS=>Zb (Zao hlib hih hD a _ _ _ _ _ _ h hf F η ρd s hF hρ hN hS)
 |.block id a=>fun fm k ρ σ nx o h hf F η ρd s hF hρ hN hS=>Zc (Zao hlib hih hD a _ _ _ _ _ _ h hf F η ρd s hF hρ hN hS)
 |.loop a=>fun fm k ρ σ nx o h hf F η ρd s hF hρ hN hS=>Zbx (Zao hlib hih hD a _ _ _ _ _ _ h hf F η ρd s hF hρ hN hS)
 |.scope a=>fun fm k ρ σ nx o h hf F η ρd s hF hρ hN hS=>Ym (Zao hlib hih hD a _ _ _ _ _ _ h hf F η ρd s hF hρ hN hS)
 |.cond c a b=>fun fm k ρ σ nx o h hf F η ρd s hF hρ hN hS=>by
  simp[Zaa]at h;split at h<;>(try(grind;done));rename_i v hv;obtain⟨p,d,a1,a2,a3⟩:=Kh hρ hv;cases a3<;>simp at h;rename_i t;cases t with
  |true=>exact Zu a1 a2 (fun _=>Zao hlib hih hD a _ _ _ _ _ _ h hf F η ρd s hF hρ hN hS) (fun h=>by grind)
  |false=>exact Zu a1 a2 (fun h=>by grind) (fun _=>Zao hlib hih hD b _ _ _ _ _ _ h hf F η ρd s hF hρ hN hS)
 |.goto l=>fun fm k ρ σ nx o h hf F η ρd s hF hρ hN hS=>by simp[Zaa]at h;split at h<;>(try(grind;done));rename_i k' i;exact Zvb i (hih.at _ _ _ _ _ _ h F η ρd s hF hρ hN hS)
 |.ret=>fun fm k ρ σ nx o h hf F η ρd s hF hρ hN hS=>(Zte hih h hF hρ hN hS).2 rfl k
 |.exit id=>fun fm k ρ σ nx o h hf F η ρd s hF hρ hN hS=>by simp[Zaa]at h;split at h;rename_i k' i;exact ZQ i (hih.at _ _ _ _ _ _ h F η ρd s hF hρ hN hS);rename_i hx;split at h<;>(try(grind;done));rename_i l hk;split at h<;>simp at h;rename_i σ1 hl;subst h;obtain⟨f1,f2,f3,f4⟩:=hF;rw[hk]at f4;obtain⟨b,Φ,hb,hI,hΦ⟩:=f4;obtain⟨r,lst,e1,_,e2,e3⟩:=ZiC hS hb hl;obtain rfl:=e2 rfl;exact hI.exit hx e1 (ZDY _) (hΦ _ _ ⟨η,_,Nm.Sub.refl _,hN,e3 (.done (.exit id)) rfl,.bool false,rfl⟩)
 |.reg ops kp=>fun fm k ρ σ nx o h hf F η ρd s hF hρ hN hS=>by simp[Zaa]at h;split at h<;>(try(grind;done));split at h<;>(try(grind;done));rename_i j;exact ZgQ (Ztd hlib hih j _ _ _ _ _ h F η ρd s hF hρ hN hS)
 |.regD order ops kp=>hD f order ops kp
 |.rangeF g ps a b=>Zv7 hlib hih
theorem Zy4(hlib:Qt C)(hih:QV C ih)(hD:Zl0 C ih):ZwH C (step C ih):=by
 intro fm dk ρ σ nx o h F η ρd s hF hρ hN hS;unfold step at h;split at h;exact(Zte hih h hF hρ hN hS).1 rfl;split at h;exact Zj (hih.at _ _ _ _ _ _ h F η ρd s hF hρ hN hS);exact Z4 (hih.at _ _ _ _ _ _ h F η ρd s hF hρ hN hS);exact Zg (Zao hlib hih hD _ _ _ _ _ _ _ h rfl F η ρd s hF hρ hN hS);·split at h<;>(try(grind;done));rename_i l hk;split at h<;>(try(grind;done));rename_i σ1 hl;have i:=hF;obtain⟨f1,f2,f3,f4⟩:=hF;rw[hk]at f4;obtain⟨b,Φ,hb,hI,hΦ⟩:=f4;obtain⟨r,lst,e1,e2,_,e3⟩:=ZiC hS hb hl;obtain rfl:=e2 rfl;exact hI.begin e1 (hih.at _ _ _ _ _ _ h F η ρd _ i hρ hN (e3 .busy trivial))
 exact Zao hlib hih hD _ _ _ _ _ _ _ h rfl F η ρd s hF hρ hN hS
theorem ZmZ{C:Cx}(hlib:∀t,Qt ⟨C,t⟩)(hD:∀(C':Px) ih,C'.toCx=C→QV C' ih→Zl0 C' ih):∀n t,QV ⟨C,t⟩ (run C n)
 |0,_=>fun _ fm dk ρ σ nx o h=>by cases h
 |n+1,_=>fun t=>Zy4 (hlib t) (ZmZ hlib hD n t) (hD ⟨C,t⟩ _ rfl (ZmZ hlib hD n t))
end
theorem Ziz{s s':St}{L L':Loc}:∀{B:List (Nat×Rd)},(∀n b,(n,.blk b)∈B→s' b=s b)→(∀n l,(n,.loc l)∈B→Ze L' l=Ze L l)→KA s s' L L' B
 | [],_,_=>trivial
 | (n,.blk b)::B,h1,h2=>⟨h1 n b (by simp),Ziz (fun m b hb=>h1 m b (by simp[hb])) (fun m l hl=>h2 m l (by simp[hl]))⟩
 | (n,.loc l)::B,h1,h2=>⟨h2 n l (by simp),Ziz (fun m b hb=>h1 m b (by simp[hb])) (fun m l hl=>h2 m l (by simp[hl]))⟩
theorem Zex{n:Nat}:∀{l:List Nat},J6 n l=true↔n∈l
 | []=>by simp[J6]
 |a::r=>by simp[J6,Zex (l:=r)];constructor;rintro(h|h);exact .inl h.symm;exact .inr h;rintro(h|h);exact .inl h.symm;exact .inr h
theorem Zfg{fl:List Nat}{s s':St}{L L':Loc}{B:List (Nat×Rd)}(h1:∀n b,n∈fl→(n,.blk b)∈B→s' b=s b)(h2:∀n l,n∈fl→(n,.loc l)∈B→Ze L' l=Ze L l):Y0 fl s s' L L' B :=
 Ziz (fun n b hb=>h1 n b (Zex.1 (Qe.1 hb).1) (Qe.1 hb).2) (fun n b hb=>h2 n b (Zex.1 (Qe.1 hb).1) (Qe.1 hb).2)
theorem ZcC{n:Nat}:∀{l:List Nat},ZfV n l=true↔n∈l
 | []=>by simp[ZfV]
 |a::r=>by simp only[ZfV];split;rename_i h;rw[Z2]at h;simp[h];rename_i h;have:¬n=a:=fun e=>h (by simp_all);rw[ZcC];simp[this]
theorem Zql{n m:Nat}{l:List Nat}(h:m=n∨m∈l):m∈ZwJ n l:=by
 unfold ZwJ;split;rename_i hm;rcases h with rfl|h;exact ZcC.1 hm;exact h;rcases h with rfl|h<;>simp[*]
theorem ZeK{fl:List Nat}{n k:Nat}(hn:n∈fl):∀{l:List (Nat×Nat)},(n,k)∈l→k∈ZlG fl l
 | [],h=>by grind
 | (t,m)::r,h=>by simp[ZlG];rcases List.mem_cons.1 h with h|h;cases h;rw[if_pos (ZcC.2 hn)];exact Zql (.inl rfl);split;exact Zql (.inr (ZeK hn h));exact ZeK hn h
theorem Zff{fl:List Nat}{n k:Nat}(hn:n∈fl):∀{l:List (Nat×Nat)},(n,k)∈l→(n,k)∈Zfe fl l
 | [],h=>by grind
 | (t,m)::r,h=>by simp[Zfe];rcases List.mem_cons.1 h with h|h;cases h;rw[if_pos (ZcC.2 hn)];simp;split;exact List.mem_cons_of_mem _ (Zff hn h);exact Zff hn h
theorem ZoU{u:Nat}:∀{r:List (Nat×Nat×Nat)},Zis u r=nO→∀x∈r,x.1≠u
 | [],_,x,h=>by grind
 | (t,a)::r,hn,x,h=>by simp only[Zis]at hn;split at hn;grind;rename_i ht;rcases List.mem_cons.1 h with rfl|h;exact fun e=>ht (Z2.2 e);exact ZoU hn x h
theorem Zls{u:Nat}{a:Nat×Nat}:∀{r:List (Nat×Nat×Nat)},Zis u r=sO a→(u,a)∈r
 | [],h=>by cases h
 | (t,b)::r,h=>by simp only[Zis]at h;split at h;rename_i ht;rw[Z2]at ht;cases h;subst ht;simp;exact List.mem_cons_of_mem _ (Zls h)
theorem Zlt{l:Nat}{vs:List V}{x:Nat}:∀{r:List (Nat×List V)},Ke x (Zjh l vs r)=if x=l then (match Ke l r with
  |some _=>sO vs
  |none=>nO) else Ke x r
 | []=>by simp[Zjh,Ke]
 | (t,c)::r=>by simp[Zjh];by_cases ht:t=l;subst ht;simp_all;simp[Ke];by_cases hx:x=t;subst hx;simp;simp_all;have:¬Nat.beq t x=true:=fun h=>hx (Z2.1 h).symm;simp_all;simp_all;simp[Ke];rw[Zlt (r:=r)];by_cases hx:x=l;subst hx;simp_all;simp[hx]
theorem Zph{l:Nat}{vs:List V}:∀{r:List (Nat×List V)},(Zjh l vs r).map (·.1)=r.map (·.1)
 | []=>rfl
 | (t,c)::r=>by simp[Zjh];split;simp;simp[Zph (r:=r)]
theorem ZoV{l:Nat}:∀{r:List (Nat×List V)},Ke l r=nO→l∉r.map (·.1)
 | [],_=>by simp
 | (t,c)::r,h=>by simp only[Ke]at h;split at h;grind;rename_i ht;simp only[ZEc,ZEz,not_or];exact⟨fun e=>ht (Z2.2 e.symm),ZoV h⟩
theorem ZbF{o:O}(h:Zi0 o=true):Zbn o=false∧∀n,o≠.tok n:=by
 cases o<;>simp[Zi0]at h<;>exact⟨rfl,fun n=>by simp⟩
theorem ZjY:∀{ks:List Nat} {σ σ0:S} {l:List (Nat×O)},ZiL ks σ=sO (σ0,l) →
  (∀k o,σ0.get k=sO o→(σ.get k=sO o∧∀o',(k,o')∉l)∨∃o',o=.ro o'∧(k,o')∈l)∧(∀k o,(k,o)∈l→σ.get k=sO o∧Zi0 o=true)∧∀k∈ks,(∃o,(k,o)∈l)∨∃o,σ.get k=sO (.ro o)
 | [],σ,σ0,l,h=>by cases h;exact⟨fun k o h=>.inl ⟨h,fun _ h=>by simp at h⟩,fun k o h=>by simp at h,fun k h=>by simp at h⟩
 |k::ks,σ,σ0,l,h=>by simp[ZiL]at h;split at h<;>(try(grind;done));rename_i o ho;split at h;rename_i i;split at h<;>simp at h;rename_i σ' l' hr;obtain⟨rfl,rfl⟩:=h;obtain⟨h1,h2,h3⟩:=ZjY hr;refine⟨fun k' o' h=>?_,fun k' o' h=>?_,fun k' h=>?_⟩;rcases h1 k' o' h with ⟨h4,h5⟩|⟨o2,rfl,h4⟩;rcases T.get_set h4 with ⟨rfl,h6⟩|⟨h0,h6⟩;simp at h6;exact .inr ⟨o,h6.symm,by simp⟩;refine .inl ⟨h6,fun o2 hm=>?_⟩;rcases List.mem_cons.1 hm with hm|hm;simp at hm;exact h0 hm.1;exact h5 o2 hm;exact .inr ⟨o2,rfl,by simp[h4]⟩;rcases List.mem_cons.1 h with h|h;cases h;exact⟨ho,i⟩;obtain⟨h4,h5⟩:=h2 k' o' h;rcases T.get_set h4 with ⟨rfl,h6⟩|⟨_,h6⟩;cases h6;cases h5;exact⟨h6,h5⟩;rcases List.mem_cons.1 h with rfl|h;exact .inl ⟨o,by simp⟩;rcases h3 k' h with ⟨o',h⟩|⟨o',h⟩;exact .inl ⟨o',by simp[h]⟩;rcases T.get_set h with ⟨rfl,_⟩|⟨_,h⟩;exact .inl ⟨o,by simp⟩;exact .inr ⟨o',h⟩;split at h<;>(try(grind;done));rename_i i;obtain⟨h1,h2,h3⟩:=ZjY h;refine⟨h1,h2,fun k' hk=>?_⟩;rcases List.mem_cons.1 hk with rfl|hk;cases o<;>cases i;exact .inr ⟨_,ho⟩;exact h3 k' hk
theorem Zqv:∀{l:List (Nat×O)} {σ σ2:S},ZjJ l σ=sO σ2→(∀k o,σ2.get k=sO o→(k,o)∈l∨(σ.get k=sO o∧∀o',(k,o')∉l))∧∀k o,(k,o)∈l→∃o',σ.get k=sO (.ro o')
 | [],σ,σ2,h=>by cases h;exact⟨fun k o h=>.inr ⟨h,fun _ h=>by simp at h⟩,fun k o h=>by simp at h⟩
 | (k',o')::l,σ,σ2,h=>by simp[ZjJ]at h;split at h<;>(try(grind;done));rename_i o1 ho;split at h<;>simp at h;rename_i σ' hb;subst h;obtain⟨h1,h2⟩:=Zqv hb;refine⟨fun k o h=>?_,fun k o h=>?_⟩;rcases T.get_set h with ⟨rfl,h3⟩|⟨h0,h3⟩;cases h3;exact .inl (by simp);rcases h1 k o h3 with h4|⟨h4,h5⟩;exact .inl (by simp[h4]);refine .inr ⟨h4,fun o2 hm=>?_⟩;rcases List.mem_cons.1 hm with hm|hm;simp at hm;exact h0 hm.1;exact h5 o2 hm;rcases List.mem_cons.1 h with h|h;cases h;exact⟨o1,ho⟩;exact h2 k o h
section
variable {C:Px} {η η':Nm} {σ σ0 σ' σ2:S} {s s':St}
def Zqg(C:Px)(η:Nm)(l:List (Nat×O))(s t:St):Prop :=
 (∀b d,C.t b=sO d→t b=sO d)∧(∀k o b,(k,o)∈l→η k=sO (.tip b)→t b=s b)∧∀b d,t b=sO d→C.t b=sO d∨∃k o,(k,o)∈l∧η k=sO (.tip b)
open Classical in
theorem Sim.lend(hS:Sim C η σ s){ks:List Nat}{l:List (Nat×O)}(h:ZiL ks σ=sO (σ0,l)):∃t,Sim ⟨C.toCx,t⟩ η σ0 s∧Zqg C η l s t:=by
 obtain⟨h1,h2,_⟩:=ZjY h;have hM:∀b k o,(k,o)∈l→η k=sO (.tip b)→∃d,s b=sO d∧OR C η k o d:=fun b k o hm hb=>by obtain⟨g1,g2⟩:=h2 k o hm;obtain⟨b',d,e1,e2,e3⟩:=hS.get g1 (ZbF g2).2;rw[hb]at e1;simp only[ZDV,Tok.tip.injEq]at e1;subst e1;exact⟨d,e2,e3⟩
 have n:∀k o,σ0.get k=sO o→∃o',σ.get k=sO o':=fun k o hk=>by rcases h1 k o hk with ⟨g,_⟩|⟨o',_,g⟩;exact⟨o,g⟩;exact⟨o',(h2 k o' g).1⟩
 let t:St:=fun b=>if ∃k o,(k,o)∈l∧η k=sO (.tip b) then s b else C.t b
 have i:∀b,(∃k o,(k,o)∈l∧η k=sO (.tip b))→t b=s b:=fun b hb=>by simp only[t];rw[if_pos hb]
 have j:∀b,¬(∃k o,(k,o)∈l∧η k=sO (.tip b))→t b=C.t b:=fun b hb=>by simp only[t];rw[if_neg hb]
 have hL:Zqg C η l s t:=by refine⟨fun b d hb=>?_,fun k o b hm hb=>i b ⟨k,o,hm,hb⟩,fun b d hb=>?_⟩;by_cases hm:∃k o,(k,o)∈l∧η k=sO (.tip b);rw[i b hm];exact(hS.kp b d hb).1;rw[j b hm];exact hb;by_cases hm:∃k o,(k,o)∈l∧η k=sO (.tip b);exact .inr hm;rw[j b hm]at hb;exact .inl hb
 refine⟨t,⟨fun k o hk=>?_,fun k k' o o' b hk u e e'=>?_,fun b d hb=>?_,fun k o b hk e=>?_⟩,hL⟩;rcases h1 k o hk with ⟨g,_⟩|⟨o',rfl,g⟩;exact hS.obj k o g;obtain⟨g1,g2⟩:=h2 k o' g;obtain⟨b,d,e1,e2,e3⟩:=hS.get g1 (ZbF g2).2;exact⟨_,e1,.inl ⟨b,d,rfl,e2,.ro o' d e3 (ZbF g2).1 (ZbF g2).2⟩⟩;obtain⟨o1,g1⟩:=n _ _ hk;obtain⟨o2,g2⟩:=n _ _ u;exact hS.inj k k' o1 o2 b g1 g2 e e';have hb:t b=sO d:=hb;by_cases hm:∃k o,(k,o)∈l∧η k=sO (.tip b);refine⟨by rw[←i b hm];exact hb,fun k' o' hk hr e=>?_⟩;obtain⟨k,o,hm,hb⟩:=hm;rcases h1 k' o' hk with ⟨g,g'⟩|⟨o2,rfl,_⟩;have:=hS.inj k k' o o' b (h2 k o hm).1 g hb e;subst this;exact g' o hm;simp[Zbn]at hr;rw[j b hm]at hb;refine⟨(hS.kp b d hb).1,fun k' o' hk hr e=>?_⟩;rcases h1 k' o' hk with ⟨g,_⟩|⟨o2,rfl,_⟩;exact(hS.kp b d hb).2 k' o' g hr e;simp[Zbn]at hr;show ∃d,t b=sO d;rcases h1 k _ hk with ⟨g,_⟩|⟨o',e0,g⟩;obtain⟨d,hd⟩:=hS.ro k o b g e;exact⟨d,hL.1 b d hd⟩;simp only[O.ro.injEq]at e0;subst e0;obtain⟨d,hd,_⟩:=hM b k o g e;exact⟨d,by rw[hL.2.1 k o b g e];exact hd⟩
theorem Sim.unlend(hS:Sim C η σ s){ks:List Nat}{l:List (Nat×O)}(h:ZiL ks σ=sO (σ0,l)){t:St}(hL:Zqg C η l s t)(hs:η.Sub η')(hS':Sim ⟨C.toCx,t⟩ η' σ' s')(hb:ZjJ l σ'=sO σ2):
  Sim C η' σ2 s'∧∀k b,k∈ks→η k=sO (.tip b)→s' b=s b:=by
 obtain⟨h1,h2,h3⟩:=ZjY h;obtain⟨b1,b2⟩:=Zqv hb;obtain⟨l1,l2,l3⟩:=hL;have hM:∀k o b,(k,o)∈l→η k=sO (.tip b)→∃d,s b=sO d∧s' b=sO d∧OR C η k o d:=fun k o b hm hb=>by obtain⟨g1,g2⟩:=h2 k o hm;obtain⟨b',d,e1,e2,e3⟩:=hS.get g1 (ZbF g2).2;rw[hb]at e1;cases e1;exact⟨d,e2,(hS'.kp b d (by show t b=_;rw[l2 k o b hm hb];exact e2)).1,e3⟩
 have i:∀k o,σ2.get k=sO o→∃o',σ'.get k=sO o':=fun k o hk=>by rcases b1 k o hk with g|⟨g,_⟩;obtain⟨o',g⟩:=b2 k o g;exact⟨_,g⟩;exact⟨o,g⟩
 refine⟨⟨fun k o hk=>?_,fun k k' o o' b hk j e e'=>?_,fun b d hb=>?_,fun k o b hk e=>?_⟩,fun k b hk hb=>?_⟩;rcases b1 k o hk with g|⟨g,_⟩;obtain⟨g1,g2⟩:=h2 k o g;obtain⟨b,d,e1,e2,e3⟩:=hS.get g1 (ZbF g2).2;obtain⟨d',f1,f2,f3⟩:=hM k o b g e1;exact⟨_,hs _ _ e1,.inl ⟨b,d',rfl,f2,f3.mono hs⟩⟩;exact hS'.obj k o g;obtain⟨o1,g1⟩:=i _ _ hk;obtain⟨o2,g2⟩:=i _ _ j;exact hS'.inj k k' o1 o2 b g1 g2 e e';obtain⟨e1,e2⟩:=hS'.kp b d (l1 b d hb);refine⟨e1,fun k o hk hr e=>?_⟩;rcases b1 k o hk with g|⟨g,_⟩;exact(hS.kp b d hb).2 k o (h2 k o g).1 hr (hS.name hs (h2 k o g).1 e);exact e2 k o g hr e;rcases b1 k _ hk with g|⟨g,g'⟩;have:=(h2 k _ g).2;simp[Zi0]at this;obtain⟨d,hd⟩:=hS'.ro k o b g e;rcases l3 b d hd with hd|⟨k0,o0,hm,n⟩;exact⟨d,hd⟩;obtain⟨o1,g1⟩:=b2 k0 o0 hm;have:=hS'.inj k k0 _ _ b g g1 e (hs _ _ n);subst this;exact absurd hm (g' o0);rcases h3 k hk with ⟨o,hm⟩|⟨o,ho⟩;obtain⟨d,f1,f2,_⟩:=hM k o b hm hb;rw[f1,f2];obtain⟨d,hd⟩:=hS.ro k o b ho hb;rw[(hS.kp b d hd).1,(hS'.kp b d (l1 b d hd)).1]
end
def ZdJ(ρd:Env)(u l o:Nat):Prop:=ZM ρd u=sO (.loc l o)∨ZM ρd u=sO (.when true (.loc l o))
structure Y4(η:Nm)(r:Rl)(ρd:Env)(L:Loc)(B:List (Nat×Rd)):Prop where
 cs:∀l vs,Ke l r.cs=some vs→∃ds,Ze L l=some ds∧VRs η vs ds
 no:∀l,Ke l r.cs=none→Ze L l=none
 nd:(r.cs.map (·.1)).Nodup
 ad:∀u l o,(u,l,o)∈r.ad→ZdJ ρd u l o
 lt:∀u l o,(u,l,o)∈r.ad→u<32768
 bn:∀n b,(n,.blk b)∈B→∃k,(n,k)∈r.bn∧η k=some (.tip b)
 bl:∀n l,(n,.loc l)∈B→(n,l)∈r.bl
theorem Y4.nil{η:Nm}{ρd:Env}:Y4 η Rl.nil ρd [] []:={
 cs l vs h:=by cases h
 no l _:=rfl
 nd:=by simp[Rl.nil]
 ad u l o h:=by cases h
 lt u l o h:=by cases h
 bn n b h:=by grind
 bl n l h:=by grind }
section
variable {η η':Nm} {r:Rl} {ρd:Env} {L:Loc} {B:List (Nat × Rd)}
theorem Y4.mono(h:Y4 η r ρd L B)(hs:η.Sub η'):Y4 η' r ρd L B:={
 cs l vs hl:=by obtain⟨ds,a,b⟩:=h.cs l vs hl;exact⟨ds,a,b.mono hs⟩
 no:=h.no
 nd:=h.nd
 ad:=h.ad
 lt:=h.lt
 bn n b hb:=by obtain⟨k,a,c⟩:=h.bn n b hb;exact⟨k,a,hs _ _ c⟩
 bl:=h.bl }
theorem ZdJ.put{u l o:Nat}(h:ZdJ ρd u l o)(hd:dst≠sO u){e:E}:ZdJ (Zw ρd dst e) u l o:=by
 unfold ZdJ;rw[Wx,if_neg hd];exact h
theorem ZvY{t:Nat}(h:noA t r=true):∀u l o,(u,l,o)∈r.ad→t≠u:=fun u l o hm e=>by
 unfold noA at h;split at h;exact ZoU ‹_› _ hm e.symm;grind
theorem ZzN{t:Nat}(h:noA t r=true):t<32768:=by
 unfold noA at h;split at h;simpa using h;grind
theorem Zxt(h:ZdW dst r=true):∀u l o,(u,l,o)∈r.ad→dst≠sO u:=fun u l o hm e=>by
 subst e;exact ZvY h u l o hm rfl
theorem Y4.put(h:Y4 η r ρd L B)(hd:ZdW dst r=true)(e:E):Y4 η r (Zw ρd dst e) L B :=
 { h with ad:=fun u l o hm=>(h.ad u l o hm).put (Zxt hd u l o hm) }
theorem Y4.next(h:Y4 η r ρd L B)(fl:List Nat):Y4 η (ZjV fl r) ρd L (YO fl B):=by
 have h1:∀{fl:List Nat} n b,(n,.blk b)∈YO fl B→∃k,(n,k)∈Zfe fl r.bn∧η k=sO (.tip b):=fun{fl} n b hb=>by obtain⟨e1,e2⟩:=Qe.1 hb;obtain⟨k,a,c⟩:=h.bn n b e2;exact⟨k,Zff (Zex.1 e1) a,c⟩
 have h2:∀{fl:List Nat} n l,(n,.loc l)∈YO fl B→(n,l)∈Zfe fl r.bl:=fun{fl} n l hb=>by obtain⟨e1,e2⟩:=Qe.1 hb;exact Zff (Zex.1 e1) (h.bl n l e2)
 cases fl with
 |nil=>rw[Zfn];exact{ cs:=h.cs,no:=h.no,nd:=h.nd,ad:=h.ad,lt:=h.lt,bn:=fun n b hb=>by simp at hb,bl:=fun n b hb=>by simp at hb }
 |cons a fl=>exact{ cs:=h.cs,no:=h.no,nd:=h.nd,ad:=h.ad,lt:=h.lt,bn:=h1,bl:=h2 }
theorem ZnH(h:Y4 η r ρd L B){x:Opd}{l o:Nat}(ha:Zqk x r=sO (l,o)):∃p,ZE ρd true x=sO (p,.loc l o)∧p:=by
 cases x with
 |cst d=>cases ha
 |tmp t =>rcases h.ad t l o (Zls ha) with h|h;exact⟨True,by simp[ZE,h],trivial⟩;exact⟨True→True,by simp[ZE,h],fun _=>trivial⟩
theorem Y4.addr(h:Y4 η r ρd L B){u l o:Nat}(hn:noA u r=true){e:E}(he:e=.loc l o∨e=.when true (.loc l o)):Y4 η ⟨r.cs,(u,l,o)::r.ad,r.bn,r.bl⟩ (Zw ρd (sO u) e) L B :=
 { h with
  ad:=fun u' l' o' hm=>by rcases List.mem_cons.1 hm with hm|hm;cases hm;unfold ZdJ;rw[Wx,if_pos rfl];exact he.imp (by rintro rfl;rfl) (by rintro rfl;rfl);exact(h.ad u' l' o' hm).put (fun hu=>ZvY hn u' l' o' hm (by simpa using hu))
  lt:=fun u' l' o' hm=>by
   rcases List.mem_cons.1 hm with hm|hm;simp at hm;rw[hm.1];exact ZzN hn;exact h.lt u' l' o' hm }
theorem Z5.off{ρ:T W}(h:Z5 η [] ρ ρd)(u:Nat)(e:E):Z5 η [] (ρ.set nO u) (Zw ρd (sO u) e):=fun t w hw hl=>by
 rcases T.get_set hw with ⟨_,h1⟩|⟨i,h1⟩;grind;obtain⟨e',h2,h3⟩:=h t w h1 hl;exact⟨e',by rw[Wx,if_neg (by simpa using Ne.symm i)];exact h2,h3⟩
theorem Y4.reads(h:Y4 η r ρd L B){R:List (Nat×Rd)}{bn bl:List (Nat×Nat)}(h1:∀k,k∈r.bn→k∈bn)(h2:∀k,k∈r.bl→k∈bl)(h3:∀n b,(n,.blk b)∈R→∃k,(n,k)∈bn∧η k=sO (.tip b))(h4:∀n l,(n,.loc l)∈R→(n,l)∈bl):Y4 η ⟨r.cs,r.ad,bn,bl⟩ ρd L (R++B) :=
 { h with
  bn:=fun n b hb=>by rcases List.mem_append.1 hb with hb|hb;exact h3 n b hb;obtain⟨k,a,c⟩:=h.bn n b hb;exact⟨k,h1 _ a,c⟩
  bl:=fun n l hb=>by
   rcases List.mem_append.1 hb with hb|hb;exact h4 n l hb;exact h2 _ (h.bl n l hb) }
end
section
variable {C:Px} {ih:Ih} {dk:List Zh} {os:List (DOp × List Nat)} {rest:Bx RgD}
def ZbM(C:Px)(ih:Ih)(rest:Bx RgD)(dk:List Zh)(os:List (DOp×List Nat)):Prop :=
 ∀r fm ρ σ nx o,rest.run r ih dk fm ρ σ nx=sO o→∀(F:Fr C.P) η ρd L s B,FmR C η fm o F→Z5 η [] ρ ρd→Yr η nx→Sim C η σ s→Y4 η r ρd L B→DOA F nO dk os ρd L s B
variable {r:Rl} {fm:Fm} {ρ:T W} {σ:S} {nx:Nat} {o:Out} {F:Fr C.P} {η:Nm} {ρd:Env} {L:Loc} {s:St} {B:List (Nat × Rd)}
theorem Zxr{t:Nat}{v:V}{d:D}(hv:VR η v d)(h:Y4 η r ρd L B):Y4 η (ZxU t v r) ρd L ((KB (.d d)).map (fun b=>(t,b))++B):=by
 have j:∀{k b:Nat},η k=sO (.tip b)→Y4 η ⟨r.cs,r.ad,(t,k)::r.bn,r.bl⟩ ρd L ([(t,.blk b)]++B):=fun{k b} hb =>
  h.reads (fun _ hm=>List.mem_cons_of_mem _ hm) (fun _ hm=>hm) (fun n b' i=>⟨k,by
   simp at i;rw[i.1,i.2];exact⟨by simp,hb⟩⟩) (fun n l hl=>by grind)
 cases hv<;>first|exact h|exact j ‹_›
theorem Zve{x:Opd}(h:(ZbR (x::xs)).run ρ=sO vs):∃v vs',(YM x).run ρ=sO v∧(ZbR xs).run ρ=sO vs'∧vs=v::vs':=by
 simp[ZbR]at h;split at h<;>(try(simp at h;done));rename_i v hv;split at h<;>simp at h;rename_i vs' i;exact⟨v,vs',hv,i,h.symm⟩
theorem ZzX(hρ:Z5 η [] ρ ρd){g:Option (Nat×Bool)}{k:K}(hg:Zk ρd g=sO true){db:Bool}{r3:R3}(h:(opF false db k).run ρ σ nx=sO r3){ρd':Env}(hR:Y4 η r ρd' L B):
  Y4 η ((rdR (dst.getD 0) k).run ρ r) ρd' L (W3 ⟨dst,g,k⟩ ρd++B):=by
 cases k;case q q xs =>
  cases hr:YP (.q q xs) with
  |false=>simpa[rdR,W3,YW,hr]using hR
  |true =>
   simp[rdR,W3,YW,hr,hg];cases xs with
   |nil=>exact hR
   |cons x ys =>simp[opF]at h;split at h<;>(try(grind;done));rename_i vs i;obtain⟨p,ds,a1,a2,a3⟩:=Zal hρ i;obtain⟨v,vs',hv,_,rfl⟩:=Zve i;obtain⟨d,ds',rfl,b1,b2⟩:=a3.inv;simp[a1,hv];exact Zxr b1 hR
 all_goals exact hR
theorem ZiU(hrest:ZbM C ih rest dk os){g:Option (Nat×Bool)}{fl:List Nat}{k:K}(hk:YB k=true)(h:(ZiT rest dst k).run r ih dk fm ρ σ nx=sO o)(hg:Zk ρd g=sO true)(hF:FmR C η fm o F)(hρ:Z5 η [] ρ ρd)(hN:Yr η nx)(hS:Sim C η σ s)(hR:Y4 η r ρd L B):DOA F nO dk ((⟨dst,g,k⟩,fl)::os) ρd L s B:=by
 simp[ZiT]at h;split at h<;>(try(grind;done));rename_i v σ1 nx1 i;obtain⟨hd,hh⟩:=Zz h;obtain⟨e1,e2,side,e,e3,e4,e5⟩:=Zo9 (L:=L) (dst:=dst) hS hN.o hρ.anyL hg hk i;have j:YU k=true:=by cases k<;>simp[YB]at hk<;>rfl
 refine QS e4 e3 ?_;simp[j];exact hrest _ _ _ _ _ _ hh F η _ L s _ hF (Ji hρ (show WR η [] (.v v) e from e5) dst) hN hS (ZzX hρ hg i (hR.put hd e))
theorem Zs8{fl:List Nat}{σ0:S}{l:List (Nat×O)}(h:Zxu fl r σ=sO (σ0,l)):∃ks,ZiL ks σ=sO (σ0,l)∧∀n k,n∈fl→(n,k)∈r.bn→k∈ks:=by
 cases fl with
 |nil=>exact⟨[],h,fun _ _ h=>by simp at h⟩
 |cons a fl=>exact⟨_,h,fun n k hn hk=>ZeK hn hk⟩
theorem ZnU(hrest:ZbM C ih rest dk os){f:FuncId}{g:Option (Nat×Bool)}{fl:List Nat}{k:K}(hk:YB k=false)(hp:YU k=false)(hnf:ZiH k=true)(h:(ZqV C f rest dst g fl k).run r ih dk fm ρ σ nx=sO o)(hg:Zk ρd g=sO true)(hF:FmR C η fm o F)(hρ:Z5 η [] ρ ρd)(hN:Yr η nx)(hS:Sim C η σ s)(hR:Y4 η r ρd L B):DOA F nO dk ((⟨dst,g,k⟩,fl)::os) ρd L s B:=by
 unfold ZqV at h;split at h<;>(try(grind;done));rename_i ad;simp only at h;split at h<;>(try(grind;done));rename_i σ0 l j;split at h<;>(try(grind;done));rename_i v σ1 z ab;split at h<;>(try(grind;done));rename_i σ2 i;obtain⟨hd,hh⟩:=Zz h;obtain⟨ks,o1,o2⟩:=Zs8 j;obtain⟨t,ac,hL⟩:=hS.lend o1;refine Zcq (YT ⟨C.toCx,t⟩ η ⟨v,σ1,z⟩) hp (fun ρ' L' os' u hc=>?_) (fun e s2 hr=>?_);exact Zvw ac hN hρ (by rw[YY (fun t ht=>u t (by simp[ZB,ht]))];exact hg) ad hk hnf ab u hc;obtain⟨η',k1,k2,k3,d,k4,rfl⟩:=hr;obtain⟨u1,u2⟩:=hS.unlend o1 hL k1 k3 i;refine⟨Zfg (fun n b hf hb=>?_) (fun _ _ _ _=>rfl),hrest _ _ _ _ _ _ hh F η' _ L s2 _ (hF.mono k1) (Ji (hρ.mono k1) (WR.val k4) dst) k2 u1 (((hR.put hd _).next fl).mono k1)⟩;obtain⟨kn,n1,n2⟩:=hR.bn n b hb;exact u2 kn b (o2 n kn hf n1) n2
theorem ZwO(hlib:Qt C)(hih:QV C ih)(hrest:ZbM C ih rest dk os){f:FuncId}{g:Option (Nat×Bool)}{fl:List Nat}{fx:Opd}(h:(goD C f rest dst g fl (.call fx xs)).run r ih dk fm ρ σ nx=sO o)(hg:Zk ρd g=sO true)(hF:FmR C η fm o F)(hρ:Z5 η [] ρ ρd)(hN:Yr η nx)(hS:Sim C η σ s)(hR:Y4 η r ρd L B):DOA F nO dk ((⟨dst,g,.call fx xs⟩,fl)::os) ρd L s B:=by
 simp[goD]at h;split at h<;>(try(grind;done));rename_i fv ab;split at h<;>(try(grind;done));rename_i vs ac;split at h<;>(try(grind;done));rename_i σ0 l u;split at h<;>(try(grind;done));rename_i pan v σ' ad j;split at h<;>(try(grind;done));rename_i σ2 i;obtain⟨ks,o1,o2⟩:=Zs8 u;obtain⟨t,z,hL⟩:=hS.lend o1;obtain⟨p,fd,a1,a2,a3⟩:=Kh hρ ab;obtain⟨q,ds,b1,b2,b3⟩:=Zal hρ ac;have hV:WN C.P fd ds s (ZfD ⟨C.toCx,t⟩ η ⟨pan,v,σ',ad⟩):=Zli (C:=⟨C.toCx,t⟩) hlib hih j a3 b3 hN z;refine Zc4 hg rfl a1 b1 (Zaq ds) b2 a2 hV (fun d S1 hp=>?_) (fun d S1 hp=>?_)
 ·obtain⟨η1,d1,k1,k2,k3,k4,k5⟩:=hp;cases pan with
  |true=>grind
  |false =>cases k5;obtain⟨hd,hh⟩:=Zz h;obtain⟨u1,u2⟩:=hS.unlend o1 hL k1 k3 i;refine⟨Zfg (fun n b hf hb=>?_) (fun _ _ _ _=>rfl),hrest _ _ _ _ _ _ hh F η1 _ L S1 _ (hF.mono k1) (Ji (hρ.mono k1) (WR.val k4) dst) k2 u1 (((hR.put hd _).next fl).mono k1)⟩;obtain⟨kn,n1,n2⟩:=hR.bn n b hb;exact u2 kn b (o2 n kn hf n1) n2
 obtain⟨η1,d1,k1,k2,k3,k4,k5⟩:=hp;cases pan with
 |false=>grind
 |true =>cases k5;exact Zgw hih h (hF.mono k1) Z5.nil k2 (hS.unlend o1 hL k1 k3 i).1 k4
end
section
variable {C:Px} {ih:Ih} {dk:List Zh} {os:List (DOp × List Nat)} {rest:Bx RgD}
variable {r:Rl} {fm:Fm} {ρ:T W} {σ:S} {nx:Nat} {o:Out} {F:Fr C.P} {η:Nm} {ρd:Env} {L:Loc} {s:St} {B:List (Nat × Rd)}
theorem ZiS{g:Option (Nat×Bool)}(hg:Zk ρd g=sO true){es:List E}{p:Prop}(ha:Ya ρd true xs=sO (p,es))(hp:p){q:Q}{e:E}(hq:qv L s q es=sO (side,e))(hs:side):
  ∃side' e',side'∧ZD ⟨dst,g,.q q xs⟩ ρd L s=.ok side' (Zw ρd dst e') L s∧(e'=e∨e'=.when true e):=by
 cases g with
 |none=>exact⟨p∧side,e,ZDX hp hs,by unfold ZD;simp[hg,ha,hq],.inl rfl⟩
 |some x=>exact⟨true=true→p∧side,.when true e,fun _=>ZDX hp hs,by unfold ZD;simp[hg,ha,hq],.inr rfl⟩
theorem Zl2(hrest:ZbM C ih rest dk os){g:Option (Nat×Bool)}{fl:List Nat}{l off:Nat}(h:(adD rest dst l off).run r ih dk fm ρ σ nx=sO o){q:Q}(hrd:YP (.q q xs)=false){e':E}(hside:side)(hst:ZD ⟨dst,g,.q q xs⟩ ρd L s=.ok side (Zw ρd dst e') L s)(he:e'=.loc l off∨e'=.when true (.loc l off))(hF:FmR C η fm o F)(hρ:Z5 η [] ρ ρd)(hN:Yr η nx)(hS:Sim C η σ s)(hR:Y4 η r ρd L B):DOA F nO dk ((⟨dst,g,.q q xs⟩,fl)::os) ρd L s B:=by
 unfold adD at h;split at h<;>(try(grind;done));rename_i u;obtain⟨hn,hh⟩:=Zz h;refine QS hst hside ?_;have i:W3 ⟨sO u,g,.q q xs⟩ ρd=[]:=by simp[W3,YW,hrd]
 simp[i];exact hrest _ _ _ _ _ _ hh F η _ L s _ hF (hρ.off u e') hN hS (hR.addr hn he)
theorem Zwc{g:Option (Nat×Bool)}{q:Q}{es:List E}{p:Prop}{l off:Nat}(hrd:YP (.q q xs)=true)(hg:Zk ρd g=sO true)(ha:Ya ρd true xs=sO (p,.loc l off::es)):W3 ⟨dst,g,.q q xs⟩ ρd=[(dst.getD 0,.loc l)]:=by
 simp[W3,YW,hrd,hg,ha,KB,Zbv]
theorem ZyJ(hrest:ZbM C ih rest dk os){g:Option (Nat×Bool)}{fl:List Nat}{q:Q}{x:Opd}{ys:List Opd}{l off:Nat}(hx:Zqk x r=sO (l,off))(h:(Zxn rest dst q ys).run l off r ih dk fm ρ σ nx=sO o)(hg:Zk ρd g=sO true)(hF:FmR C η fm o F)(hρ:Z5 η [] ρ ρd)(hN:Yr η nx)(hS:Sim C η σ s)(hR:Y4 η r ρd L B):DOA F nO dk ((⟨dst,g,.q q (x::ys)⟩,fl)::os) ρd L s B:=by
 obtain⟨p,a1,a2⟩:=ZnH hR hx;have t:Ya ρd true [x]=sO (p∧True,[.loc l off]):=by simp[Ya,a1]
 have ld:∀{q:Q} {v:V} {d:D} {side:Prop},YP (.q q [x])=true→VR η v d→side→qv L s q [.loc l off]=sO (side,.d d)→noV (ZdW dst r) (rest.run ⟨r.cs,r.ad,r.bn,(dst.getD 0,l)::r.bl⟩ ih dk fm ((Zb8 dst).run ρ (.v v)) σ nx)=sO o→DOA F nO dk ((⟨dst,g,.q q [x]⟩,fl)::os) ρd L s B:=by intro q v d side ae hv hs hq h;obtain⟨hd,hh⟩:=Zz h;obtain⟨j,e',h1,h2,h3⟩:=ZiS (dst:=dst) hg t ⟨a2,trivial⟩ hq hs;refine QS h2 h1 ?_;simp only[YU,Zwc (dst:=dst) ae hg t];refine hrest _ _ _ _ _ _ hh F η _ L s _ hF (Ji hρ (show WR η [] (.v v) e' from⟨d,hv,h3⟩) dst) hN hS ((hR.put hd e').reads (fun _ h=>h) (fun _ hm=>List.mem_cons_of_mem _ hm) (fun n b hb=>by grind) (fun n l' hl=>?_));simp at hl;rw[hl.1,hl.2];simp
 unfold Zxn at h;split at h;·split at h<;>(try(grind;done));obtain⟨j,e',h1,h2,h3⟩:=ZiS (L:=L) (s:=s) (dst:=dst) hg t ⟨a2,trivial⟩ (q:=.mv) rfl trivial;exact Zl2 hrest h rfl h1 h2 h3 hF hρ hN hS hR
 ·split at h<;>(try(grind;done));obtain⟨j,e',h1,h2,h3⟩:=ZiS (L:=L) (s:=s) (dst:=dst) hg t ⟨a2,trivial⟩ (q:=.nilck) rfl trivial;exact Zl2 hrest h rfl h1 h2 h3 hF hρ hN hS hR
 ·rename_i o1;split at h<;>(try(grind;done));obtain⟨j,e',h1,h2,h3⟩:=ZiS (L:=L) (s:=s) (dst:=dst) hg t ⟨a2,trivial⟩ (q:=.faddr o1) rfl trivial;exact Zl2 hrest h rfl h1 h2 h3 hF hρ hN hS hR
 ·rename_i m z;split at h<;>(try(grind;done));rename_i y;simp only at h;split at h<;>(try(grind;done));rename_i kk i hy;obtain⟨hb,hh⟩:=Zz h;simp[Jf,←Bool.not_eq_true]at hb;obtain⟨p2,d,b1,b2,b3⟩:=Kh hρ hy;cases b3;have ab:Ya ρd true [x,y]=sO (p∧p2∧True,[.loc l off,.d (.int kk i)]):=by simp[Ya,a1,b1]
  obtain⟨j,e',h1,h2,h3⟩:=ZiS (L:=L) (s:=s) (dst:=dst) hg ab ⟨a2,b2,trivial⟩ (q:=.iaddrA m z) rfl ⟨hb.1,by omega⟩;exact Zl2 hrest hh rfl h1 h2 h3 hF hρ hN hS hR
 ·split at h<;>(try(grind;done));simp only at h;split at h<;>(try(grind;done));rename_i cs u;split at h<;>(try(grind;done));rename_i v hv;obtain⟨ds,c1,c2⟩:=hR.cs l cs u;rw[ZjP]at hv;obtain⟨d,d1,d2⟩:=c2.get hv;exact ld rfl d2 trivial (by simp[qv,Y6,c1,d1]) h
 ·rename_i n;split at h<;>(try(grind;done));simp only at h;split at h<;>(try(grind;done));rename_i cs u;split at h<;>(try(grind;done));rename_i v hv;obtain⟨ds,c1,c2⟩:=hR.cs l cs u;unfold Zju at hv;split at hv<;>simp at hv;rename_i rr ac;subst hv;obtain⟨d1,d2⟩:=c2.partv ac;exact ld rfl (.agg _ _ d2) d1 (by simp[qv,W2,c1]) h
 grind
theorem Y4.cell(hR:Y4 η r ρd L B){l:Nat}{vs0 vs:List V}(hl:Ke l r.cs=sO vs0)(hv:VRs η vs ds):Y4 η ⟨Zjh l vs r.cs,r.ad,r.bn,r.bl⟩ ρd ((l,ds)::L) B :=
 { hR with
  cs:=fun l' i h'=>by rw[Zlt]at h';by_cases he:l'=l;subst he;simp[hl]at h';subst h';exact⟨ds,by simp[Ze],hv⟩;rw[if_neg he]at h';obtain⟨d,d1,d2⟩:=hR.cs l' i h';exact⟨d,by simp[Ze];rw[if_neg (Ne.symm he)];exact d1,d2⟩
  no:=fun l' h'=>by rw[Zlt]at h';by_cases he:l'=l;subst he;simp[hl]at h';rw[if_neg he]at h';simp[Ze];rw[if_neg (Ne.symm he)];exact hR.no l' h'
  nd:=by rw[Zph];exact hR.nd }
theorem Ztj(hrest:ZbM C ih rest dk os){fl:List Nat}{l off n:Nat}{xs:List V}{k:K}(h:ZrU rest fl l off n xs r ih dk fm ρ σ nx=sO o)(hpk:YU k=false)(hrk:W3 ⟨nO,nO,k⟩ ρd=[]){ys:List D}(hx:VRs η xs ys){p q ok:Prop}(hp:p)(hq:q)(hok:ok)(hst:ZD ⟨nO,nO,k⟩ ρd L s=KF ρd L s p q ok (.loc l off) n ys)(hF:FmR C η fm o F)(hρ:Z5 η [] ρ ρd)(hN:Yr η nx)(hS:Sim C η σ s)(hR:Y4 η r ρd L B):DOA F nO dk ((⟨nO,nO,k⟩,fl)::os) ρd L s B:=by
 unfold ZrU at h;split at h<;>(try(grind;done));rename_i cs i;split at h<;>(try(grind;done));rename_i cs' j;obtain⟨hb,hh⟩:=Zz h;obtain⟨ds,c1,c2⟩:=hR.cs l cs i;obtain⟨f0,f1,f2⟩:=c2.over hx j;have t:ZD ⟨nO,nO,k⟩ ρd L s=.ok (p∧q∧off+n≤ds.length∧ok) ρd ((l,Zt ds off ys)::L) s:=by rw[hst];simp[KF,c1]
 refine QS t ⟨hp,hq,f1,hok⟩ ?_;simp[hpk,hrk];refine⟨Zfg (fun _ _ _ _=>rfl) (fun n l' hf u=>?_),hrest _ _ _ _ _ _ hh F η ρd _ s _ hF hρ hN hS ((hR.cell i f2).next fl)⟩;have hm:=hR.bl n l' u;have:¬l=l':=fun e=>by subst e;rw[ZcC.2 (ZeK hf hm)]at hb;grind
 simp[Ze,this]
theorem Y4.more(hR:Y4 η r ρd L B){t:Nat}(ht:Zun t r=true)(hv:VRs η vs ds):Ze L t=nO∧Y4 η ⟨(t,vs)::r.cs,(t,t,0)::r.ad,r.bn,r.bl⟩ ((t,.loc t 0)::ρd) ((t,ds)::L) B:=by
 unfold Zun at ht;simp at ht;obtain⟨h1,h2⟩:=ht;split at h1<;>(try(grind;done));rename_i hc;have hA:=hR.addr (e:=.loc t 0) h2 (.inl rfl);refine⟨hR.no t hc,{ hA with
  cs:=fun l i h'=>?_
  no:=fun l h'=>?_
  nd:=?_ }⟩
 simp only[Ke]at h';by_cases he:t=l;subst he;simp at h';subst h';exact⟨ds,by simp[Ze],hv⟩;rw[if_neg (fun h=>he (Z2.1 h))]at h';obtain⟨d,d1,d2⟩:=hR.cs l i h';exact⟨d,by simp[Ze];rw[if_neg he];exact d1,d2⟩;simp only[Ke]at h';by_cases he:t=l;subst he;rw[if_pos (Z2.2 rfl)]at h';simp at h';rw[if_neg (fun h=>he (Z2.1 h))]at h';simp[Ze];simp_all;exact hR.no l h';simp only[ZEc,List.nodup_cons];exact⟨ZoV hc,hR.nd⟩
theorem Zvd(hrest:ZbM C ih rest dk os){f:FuncId}{g:Option (Nat×Bool)}{fl:List Nat}{z:List D}(h:(goD C f rest dst g fl (.alloc z)).run r ih dk fm ρ σ nx=sO o)(hF:FmR C η fm o F)(hρ:Z5 η [] ρ ρd)(hN:Yr η nx)(hS:Sim C η σ s)(hR:Y4 η r ρd L B):DOA F nO dk ((⟨dst,g,.alloc z⟩,fl)::os) ρd L s B:=by
 simp[goD]at h;split at h<;>(try(grind;done));rename_i t zv hz;obtain⟨hn,hh⟩:=Zz h;obtain⟨hl,i⟩:=hR.more hn (ofDs_ok hz);refine QS (side:=J4 L t=false) (ρ1:=(t,.loc t 0)::ρd) (L1:=(t,z)::L) (s1:=s) (by unfold ZD;simp[Zk]) (by simp[J4,hl]) ?_;exact hrest _ _ _ _ _ _ hh F η _ _ s _ hF (hρ.off t (.loc t 0)) hN hS i
theorem Zyd(hrest:ZbM C ih rest dk os){f:FuncId}{g:Option (Nat×Bool)}{fl:List Nat}{x:Opd}(h:(goD C f rest dst g fl (.box x)).run r ih dk fm ρ σ nx=sO o)(hF:FmR C η fm o F)(hρ:Z5 η [] ρ ρd)(hN:Yr η nx)(hS:Sim C η σ s)(hR:Y4 η r ρd L B):DOA F nO dk ((⟨dst,g,.box x⟩,fl)::os) ρd L s B:=by
 simp[goD]at h;split at h<;>(try(grind;done));rename_i t;simp only at h;split at h<;>(try(grind;done));rename_i v hv;obtain⟨hb,hh⟩:=Zz h;simp at hb;obtain⟨⟨hp,hn⟩,hm⟩:=hb;obtain⟨p,d,a1,a2,a3⟩:=Kh hρ hv;obtain⟨hl,i⟩:=hR.more hn (Zjx a3);refine QS (side:=p∧J4 L t=false∧WS d=true) (ρ1:=(t,.loc t 0)::ρd) (L1:=(t,cellsOf d)::L) (s1:=s) (by unfold ZD;simp[Zk,a1]) ⟨a2,by simp[J4,hl],ZlQ a3 hp⟩ ?_;refine⟨Zfg (fun _ _ _ _=>rfl) (fun n l' hf j=>?_),hrest _ _ _ _ _ _ hh F η _ _ s _ hF (hρ.off t (.loc t 0)) hN hS (i.next fl)⟩;have:¬t=l':=fun e=>by subst e;rw[ZcC.2 (ZeK hf (hR.bl _ _ j))]at hm;grind
 simp[Ze,this]
theorem ZvE(hlib:Qt C)(hih:QV C ih)(hrest:ZbM C ih rest dk os){f:FuncId}{g:Option (Nat×Bool)}{fl:List Nat}{k:K}(h:(goD C f rest dst g fl k).run r ih dk fm ρ σ nx=sO o)(hg:Zk ρd g=sO true)(hF:FmR C η fm o F)(hρ:Z5 η [] ρ ρd)(hN:Yr η nx)(hS:Sim C η σ s)(hR:Y4 η r ρd L B):DOA F nO dk ((⟨dst,g,k⟩,fl)::os) ρd L s B:=by
 cases k;case call fx xs=>exact ZwO hlib hih hrest h hg hF hρ hN hS hR
 case alloc z=>exact Zvd hrest h hF hρ hN hS hR
 case box x=>exact Zyd hrest h hF hρ hN hS hR
 case panic x =>
  simp[goD]at h;split at h<;>(try(grind;done));rename_i t v hv;obtain⟨p,d,a1,a2,a3⟩:=Kh hρ hv;cases a3 with
  |iface _ _ d hd=>exact Zov hg rfl a1 a2 (Zgw hih h hF Z5.nil hN hS (.iface _ _ _ hd))
 case defer fx xs=>cases h
 case recover=>cases h
 case fork k=>cases h
 case store1 a v =>
  simp[goD]at h;split at h<;>(try(grind;done));simp only at h;split at h;·rename_i l off ha;split at h<;>(try(grind;done));rename_i x hx;obtain⟨hc,hh⟩:=Zz h;obtain⟨p,a1,a2⟩:=ZnH hR ha;obtain⟨q,d,b1,b2,b3⟩:=Kh hρ hx;exact Ztj hrest hh rfl rfl (.one b3) a2 b2 (ZrY b3 hc) (by unfold ZD;simp[Zk,a1,b1]) hF hρ hN hS hR
  exact ZnU hrest rfl rfl rfl h hg hF hρ hN hS hR
 case storeN n a v =>
  simp[goD]at h;split at h<;>(try(grind;done));simp only at h;split at h
  ·rename_i l off ha;split at h<;>(try(grind;done));rename_i xs hx;obtain⟨p,a1,a2⟩:=ZnH hR ha;obtain⟨q,d,b1,b2,b3⟩:=Kh hρ hx;cases b3 with
   |agg _ ys hxs =>
   have i:ys.length=n:=by unfold ZrU at h;split at h<;>(try(grind;done));split at h<;>(try(grind;done));rename_i j;rw[←hxs.len];exact(Zod j).1
   exact Ztj hrest h rfl rfl hxs a2 b2 i (by unfold ZD;simp[Zk,a1,b1]) hF hρ hN hS hR
  exact ZnU hrest rfl rfl rfl h hg hF hρ hN hS hR
 case q q xs =>simp[goD]at h;split at h;rename_i x ys;simp only at h;split at h;rename_i l off hx;exact ZyJ hrest hx h hg hF hρ hN hS hR;exact ZiU hrest rfl h hg hF hρ hN hS hR;exact ZiU hrest rfl h hg hF hρ hN hS hR
 all_goals
  simp[goD]at h;first
   |exact ZiU hrest rfl h hg hF hρ hN hS hR
   |exact ZnU hrest rfl rfl rfl h hg hF hρ hN hS hR
end
theorem Zlu:∀{ρ:Env} {t:Nat} {e:E},ZM ρ t=sO e→(t,e)∈ρ
 | [],t,e,h=>by cases h
 | (k,x)::r,t,e,h=>by simp[ZM]at h;split at h;rename_i hk;cases h;subst hk;simp;exact List.mem_cons_of_mem _ (Zlu h)
theorem Zw7:∀{L:Loc},(∀l,Ze L l=nO)→L=[]
 | [],_=>rfl
 | (k,c)::r,h=>by have:=h k;simp[Ze]at this
theorem ZiQ{t nx:Nat}:∀{ad:List (Nat×Nat×Nat)} {ρ:T W} {u:Nat} {w:W},(ZmT ad t nx ρ).get u=sO w→(∃o,(u,t,o)∈ad∧w=.v (.ptr nx o))∨ρ.get u=sO w
 | [],ρ,u,w,h=>.inr h
 | (u',l,o)::r,ρ,u,w,h=>by simp only[ZmT]at h;split at h;rename_i hl;rw[Z2]at hl;subst hl;rcases T.get_set h with ⟨rfl,h3⟩|⟨_,h3⟩;simp at h3;exact .inl ⟨o,by simp,h3.symm⟩;rcases ZiQ h3 with ⟨o',h1,h2⟩|h3;exact .inl ⟨o',by simp[h1],h2⟩;exact .inr h3;rcases ZiQ h with ⟨o',h1,h2⟩|h;exact .inl ⟨o',by simp[h1],h2⟩;exact .inr h
section
variable {C:Px} {ih:Ih} {dk:List Zh}
theorem ZsR(hih:QV C ih):∀{cs:List (Nat×List V)} {ad:List (Nat×Nat×Nat)} {fm:Fm} {ρ:T W} {σ:S} {nx:Nat} {o:Out},Zq2 cs ad ih dk fm ρ σ nx=sO o →
  ∀{F:Fr C.P} {η:Nm} {ρd:Env} {L:Loc} {s:St},FmR C η fm o F→Z5 η [] ρ ρd→Yr η nx→Sim C η σ s→(∀l vs,Ke l cs=sO vs→(∃u o,(u,l,o)∈ad)→∃ds,Ze L l=sO ds∧VRs η vs ds) →
   (∀l,Ke l cs=nO→Ze L l=nO)→(cs.map (·.1)).Nodup→(∀u l o,(u,l,o)∈ad→(Ke l cs).isSome=true→ZdJ ρd u l o)→Zv F dk ρd L s
 | [],ad,fm,ρ,σ,nx,o,h,F,η,ρd,L,s,hF,hρ,hN,hS,hc,hn,hd,ha=>by obtain rfl:=Zw7 fun l=>hn l rfl;exact hih.at _ _ _ _ _ _ h F η ρd s hF hρ hN hS
 | (t,vs)::cs,ad,fm,ρ,σ,nx,o,h,F,η,ρd,L,s,hF,hρ,hN,hS,hc,hn,hd,ha=>by
  simp[Zq2]at h;split at h<;>(try(grind;done));rename_i l' o' ac;obtain⟨hl,hh⟩:=Zz h;rw[Z2]at hl;subst hl;have n:Ke l' ((l',vs)::cs)=sO vs:=by simp[Ke]
  obtain⟨ds,d1,d2⟩:=hc l' vs n ⟨_,_,Zls ac⟩;simp only[ZEc,List.nodup_cons]at hd;have j:∀{l:Nat},l≠l'→Ke l ((l',vs)::cs)=Ke l cs:=fun{l} i=>by simp only[Ke];rw[if_neg (fun h=>i (Z2.1 h).symm)]
  have z:∀{l:Nat} {x:List V},Ke l cs=sO x→l≠l':=fun{l x} hx e=>by
   subst e;have:∀{r:List (Nat×List V)} {x:List V},Ke l r=sO x→l∈r.map (·.1):=fun{r}=>by
    induction r with
    |nil=>intro x h;cases h
    |cons a r ih =>intro x h;simp only[Ke]at h;split at h;rename_i ht;rw[Z2]at ht;simp[ht];simp only[ZEc,ZEz];exact .inr (ih h)
   exact hd.1 (this hx)
  refine ZcO l' d1 fun b hb=>?_;have f0:=hN.free nx (ZEd _);have n1:η.Sub (η.put nx (.tip b)):=Nm.put_sub f0 _;refine ZsR hih hh (η:=η.put nx (.tip b)) (hF.mono n1) ?_ (hN.put _) (hS.new f0 hb (OR.cells0 (d2.mono n1))) ?_ ?_ hd.2 ?_
  ·intro u w hw ab;rw[ZcT];rcases ZiQ hw with ⟨o2,h1,rfl⟩|h1;rcases ha u l' o2 h1 (by rw[n];rfl) with h2|h2;exact⟨.d (.ptr b o2),by rw[h2];simp[QE],.ptr b o2,.ptr _ _ _ (Nm.put_same _ _ _),.inl rfl⟩;exact⟨.when true (.d (.ptr b o2)),by rw[h2];simp[QE],.ptr b o2,.ptr _ _ _ (Nm.put_same _ _ _),.inr rfl⟩;obtain⟨e,h2,h3⟩:=hρ u w h1 ab;cases w with
   |v x =>obtain⟨d,h4,rfl|rfl⟩:=h3;exact⟨_,by rw[h2];rfl,d,h4.mono n1,.inl rfl⟩;exact⟨_,by rw[h2];rfl,d,h4.mono n1,.inr rfl⟩
   |loc l o=>cases ab
   |skip =>have af:e=.when false (.d (.bool false)):=h3;subst af;exact⟨_,by rw[h2];rfl,rfl⟩
  intro l ag hl hx;have i:=z hl;obtain⟨ae,g1,g2⟩:=hc l ag (by rw[j i];exact hl) hx;exact⟨ae,by rw[Zcy,if_neg i];exact g1,g2.mono n1⟩;intro l hl;rw[Zcy];by_cases i:l=l';simp_all;rw[if_neg i];exact hn l (by rw[j i];exact hl);intro u l o2 hm hs;obtain⟨x,hx⟩:=Option.isSome_iff_exists.1 hs;have i:=z hx;unfold ZdJ;rw[ZcT];rcases ha u l o2 hm (by rw[j i];exact hs) with h2|h2;exact .inl (by rw[h2];simp[QE,i]);exact .inr (by rw[h2];simp[QE,i])
theorem Zyy(hih:QV C ih):ZbM C ih ⟨fun r ih dk fm ρ σ nx=>Zq2 r.cs r.ad ih dk fm ρ σ nx⟩ dk []:=by
 intro r fm ρ σ nx o h F η ρd L s B hF hρ hN hS hR;refine ZnD (ZsR hih h hF hρ.keep hN hS (fun l vs hl hx=>?_) (fun l hl=>?_) hR.nd (fun u l o hm _=>?_));obtain⟨u,o',hm⟩:=hx;obtain⟨ds,d1,d2⟩:=hR.cs l vs hl;refine⟨ds,?_,d2⟩;have i:ZdJ (Yj ρd ZnK) u l o':=(hR.ad u l o' hm).imp (fun h=>QZ h (List.mem_range.2 (hR.lt u l o' hm))) (fun h=>QZ h (List.mem_range.2 (hR.lt u l o' hm)));refine Zfw L _ l ds ?_ d1;rw[List.mem_flatMap];rcases i with h|h;exact⟨_,Zlu h,by simp[WU]⟩;exact⟨_,Zlu h,by simp[WU]⟩
 ·cases hg:Ze (ZaJ (Yj ρd ZnK) L) l with
  |none=>rfl
  |some cs =>have:=Jq L _ l cs hg;rw[hR.no l hl]at this;grind
 exact(hR.ad u l o hm).imp (fun h=>QZ h (List.mem_range.2 (hR.lt u l o hm))) (fun h=>QZ h (List.mem_range.2 (hR.lt u l o hm)))
end
section
variable {C:Px} {ih:Ih} {dk:List Zh} {os:List (DOp × List Nat)} {rest:Bx RgD}
variable {r:Rl} {fm:Fm} {ρ:T W} {σ:S} {nx:Nat} {o:Out} {F:Fr C.P} {η:Nm} {ρd:Env} {L:Loc} {s:St} {B:List (Nat × Rd)}
end
section
variable {C:Px} {ih:Ih} {dk:List Zh} {os:List (DOp × List Nat)} {rest:Bx RgD}
variable {r:Rl} {fm:Fm} {ρ:T W} {σ:S} {nx:Nat} {o:Out} {F:Fr C.P} {η:Nm} {ρd:Env} {L:Loc} {s:St} {B:List (Nat × Rd)}
theorem ZrH(hlib:Qt C)(hih:QV C ih){f:FuncId}:∀{os:List (DOp×List Nat)},ZbM C ih (Zj0 C f os) dk os
 | []=>Zyy hih
 | (⟨dst,g,k⟩,fl)::os=>fun r fm ρ σ nx o h F η ρd L s B hF hρ hN hS hR=>by
  unfold Zj0 at h;split at h;grind;rename_i j;have IH:=ZrH hlib hih (f:=f) (os:=os);split at h;exact ZvE hlib hih IH h rfl hF hρ hN hS hR;rename_i g0;simp only at h;split at h<;>(try(grind;done));rename_i b hb;have hg:=ZoX hρ hb;split at h;exact ZvE hlib hih IH h hg hF hρ hN hS hR;split at h<;>(try(grind;done));rename_i i;obtain⟨hd,hh⟩:=Zz h;cases hq:YB k with
  |true =>rw[hq,if_pos rfl]at hh;exact Zu5 hg hq (.d (.bool false)) (IH _ _ _ _ _ _ hh F η _ L s _ hF (Ji hρ WR.skp dst) hN hS (hR.put hd _))
  |false =>
   rw[hq]at hh;have hp:YU k=false:=by cases k<;>simp[YB]at hq<;>first|rfl|exact absurd rfl (i _)|exact absurd rfl (j _)
   exact Zeb (e:=.d (.bool false)) hg hp (IH _ _ _ _ _ _ hh F η _ L s _ hF (Ji hρ WR.skp dst) hN hS ((hR.put hd _).next fl))
theorem Ztc(hlib:Qt C)(hih:QV C ih):Zl0 C ih:=by
 intro f order i kp fm k ρ σ nx o h hf F η ρd s hF hρ hN hS;exact Zh2 (show DOA F nO k i ρd [] s [] from ZrH hlib hih _ _ _ _ _ _ h F η ρd [] s [] hF hρ hN hS Y4.nil)
end
section
variable {P:Program}
theorem Za.subM{f:FuncId}{args:List D}{Φ Φ':Res→St→Prop}(h:Za P f args s Φ)(hp:∀r s',Φ r s'→∃s2,St.sub s2 s'∧Φ' r s2):Za P f args s Φ' :=
 ⟨h.1,fun g w vs hs ha=>(h.2 g w vs hs ha).mono fun _ _ ⟨g',s',r,a,b,c,d⟩=>let ⟨s2,e1,e2⟩:=hp r s' d;⟨g',s2,r,a,b.sub e1,c,e2⟩⟩
def St.emp:St:=fun _=>nO
theorem Zvx(s:St):St.emp.or s=s:=by funext b;simp[St.or,St.emp]
theorem ZlZ{f:FuncId}{args:List D}{d:D}(h:Za P f args St.emp fun r _=>r=.ret d):Zf P f args d:=fun s=>by
 have h1:Za P f args St.emp fun r s'=>r=.ret d∧s'=St.emp:=h.subM fun r s' hr=>⟨St.emp,fun b o hb=>by simp[St.emp]at hb,hr,rfl⟩;have i:Z6 St.emp s:=fun b o _=>rfl;have h2:=h1.frame i;rw[Zvx]at h2;refine h2.mono fun r S ⟨s',⟨e1,e2⟩,_,e3⟩=>⟨e1,?_⟩;rw[e3,e2,Zvx]
end
def nm0:Nm:=fun k=>if k=0 then sO .none else if k=1 then sO .full else nO
theorem ZvX:Yr nm0 2:={
 z:=rfl
 o:=rfl
 two:=ZEd _
 free k hk:=by simp only[nm0];rw[if_neg (by omega),if_neg (by omega)] }
theorem ZxM(C:Cx)(η:Nm)(s:St):Sim ⟨C,St.emp⟩ η T.nil s:={
 obj k o h:=by simp[T.get_nil]at h
 inj k k' o o' b h:=by simp[T.get_nil]at h
 kp b d h:=by simp[St.emp]at h
 ro k o b h:=by simp[T.get_nil]at h }
section
variable {P:Program}
theorem Zu8{F:Fr P}{dk:List Zh}{o:DOp}(hg:Zk ρ o.guard=sO true){n:FuncId}(hk:o.k=.call (.cst (.fn (.func n) [] [])) xs){p:Prop}{es:List E}(ha:Ya ρ true xs=sO (p,es))(hds:WX es=sO ds)(hp:p){fn:Func}(h0:P.funcs[n]?=sO fn)(h1:fn.body=nO)(h2:(fn.name == "runtime.NumGoroutine")=false)(h3:Extern.findNext fn=nO){e:Array Value→Sem Value}(h4:Extern.find fn=sO e){d:D}(he:∀g w vs,ZJ (Rep g w) vs ds→∃v,(e vs.toArray).run P w=.ok v w∧Rep g w v d)(h:DO F kp dk os (Zw ρ o.dst (.d d)) L s):DO F kp dk (o::os) ρ L s:=by
 refine Y9 fun oo g ν w tmps ag i r k af z ap ab hd hN m hr ah=>?_;have hw:=Z9 m ap hg;have al:=Yg z (by rw[hk];rfl);rw[hk]at z;obtain⟨f',j,ats,aj,am,ai⟩:=ZsL z;have ae:Rep g w _ _:=Z7 (ρ:=ρ) m am rfl rfl trivial F.ds;have t:=KD (ZbD m rfl F.ds ai ha hp) hds;obtain⟨v,ao,ak⟩:=he g w _ t;generalize aq:(Act.mk tmps F.ds).eval f'=fv at ae;have ac:fv=.func (.func n) #[] #[]:=by
  cases ae with
  |fn _ fs cs _ _ e1 e2 _ _ =>
   obtain rfl:fs=[]:=by simpa using e1
   obtain rfl:cs=[]:=by simpa using e2
   rfl
 subst ac;have ad:(Array.map (Act.mk tmps F.ds).eval j)=(j.toList.map (Act.mk tmps F.ds).eval).toArray:=by apply Array.ext';simp
 refine Zmy (e:=.d d) hN m af ab hd hw al ⟨v,?_,ak⟩ (h ag r k hr ah);have u:(callFunc n ((j.toList.map (Act.mk tmps F.ds).eval).toArray++#[])).run P w=.ok (.value v) w:=by
  have ar:¬fn.name = "runtime.NumGoroutine":=by simpa using h2
  simp[callFunc,h0,ar,h1,h3,h4,ao]
 simp[execOp,aj,resolve,aq,ad,Deferred.ofValue,invoke];simpa using u
def Zq8(c:Nat):List Nat→Int
 | []=>-1
 |b::l=>if Nat.beq (b % 256) (c % 256) then 0 else match Zq8 c l with
  |.ofNat n=>.ofNat (n+1)
  |.negSucc _=>-1
theorem ZsV(c:Nat):∀(l:List Nat),Zq8 c l=Lib.indexByte (l.map UInt8.ofNat) (UInt8.ofNat c)
 | []=>rfl
 |b::l=>by
  have ih:=ZsV c l;simp only[Zq8,ZEc,Lib.indexByte];have j:Nat.beq (b % 256) (c % 256)=(UInt8.ofNat b==UInt8.ofNat c):=by rw[Bool.eq_iff_iff,Nat.beq_eq,beq_iff_eq];constructor;intro h;apply UInt8.toNat_inj.1;simpa using h;intro h;have:=congrArg UInt8.toNat h;simpa using this
  rw[j];split;rfl;have i:=Lib.indexByte_ge (l.map UInt8.ofNat) (UInt8.ofNat c);rw[←ih]at i⊢;cases hx:Zq8 c l with
  |ofNat n =>
   have:(Int.ofNat n==-1)=false:=by rw[beq_eq_false_iff_ne];simp only[Int.ofNat_eq_natCast,ne_eq];omega
   rw[this];rfl
  |negSucc n =>
   rw[hx]at i;have:n=0:=by have e:=Int.negSucc_eq n;omega
   subst this;rfl
theorem Zix:∀(l:List UInt8) (c:UInt8),Lib.indexByte l c<l.length∨Lib.indexByte l c=-1
 | [],c=>.inr rfl
 |b::l,c=>by simp only[Lib.indexByte];split;left;simp;split;exact .inr rfl;rename_i h;rcases Zix l c with h1|h1;left;simp;omega;rw[h1]at h;simp at h
def ZzE(n:FuncId):DF:=⟨8,[.tmp 4],.seq (.reg [⟨sO 4,nO,.q .mv [.cst (.int .i64 0)]⟩] nO) (.seq (.reg [⟨sO 5,nO,.q .mv [.tmp 0]⟩,⟨sO 6,nO,.q .mv [.tmp 1]⟩,⟨sO 7,nO,.call (.cst (.fn (.func n) [] [])) [.tmp 5,.tmp 6]⟩,⟨sO 4,nO,.q .mv [.tmp 7]⟩] nO) .ret)⟩
theorem Zra{an:Ann}{f n:FuncId}(hf:cf P an f=sO (ZzE n)){fn:Func}(h0:P.funcs[n]?=sO fn)(h1:fn.body=nO)(h2:(fn.name == "runtime.NumGoroutine")=false)(h3:Extern.findNext fn=nO)(h4:Extern.find fn=sO Extern.BytealgIndexByte.indexByte)(l:List UInt8)(c:Int):
  Zf P f [.str l,.int .u8 c] (.int .i64 (Lib.indexByte l c.toNat.toUInt8)):=by
 refine Zo hf fun F s i=>?_;refine Zb (ZgQ (Qg rfl (by repeat(first|trivial|constructor)) (Zec (Zb (ZgQ (Qg rfl (by repeat(first|trivial|constructor)) (Qg rfl (by repeat(first|trivial|constructor)) (Zu8 rfl rfl rfl rfl (by repeat(first|trivial|constructor)) h0 h1 h2 h3 h4 (d:=.int .i64 (Lib.indexByte l c.toNat.toUInt8)) (fun g w vs ha=>?_)
  (Qg rfl (by repeat(first|trivial|constructor)) (Zec (i rfl (by repeat(first|trivial|constructor)) (ZDZ _) (ZDY _))))))))))))
 cases ha with
 |cons a1 ha =>
 cases ha with
 |cons a2 ha =>
 cases ha;cases a1 with
 |str s _ hs hb =>
 cases a2 with
 |int _ _ hc =>
 subst hs;refine⟨_,Lib.run_indexByteString s c w,.int _ _ ?_⟩;have h1:=Lib.indexByte_ge s.data.toList c.toNat.toUInt8;have h2:=Zix s.data.toList c.toNat.toUInt8;simp only[big]at hb;simp only[inR,IntKind.min,IntKind.max,IntKind.signed,IntKind.bits];generalize Lib.indexByte s.data.toList c.toNat.toUInt8=z at h1 h2⊢;rcases h2 with h2|h2<;>simp<;>omega
end
def J1(f:V→V→Bool):List V→List V→Bool
 | [],[]=>true
 |a::x,b::y=>if f a b then J1 f x y else false
 |_,_=>false
def Zxo(ih:V→V→Bool)(k v:V):Bool:=match k with
 |.int i a=>match v with
  |.int j b=>Zfi i j&&eqI a b
  |_=>false
 |.bool a=>match v with
  |.bool b=>a==b
  |_=>false
 |.str a=>match v with
  |.str b=>eqS a b
  |_=>false
 |.agg a=>match v with
  |.agg b=>J1 ih a b
  |_=>false
 |.nilsl=>match v with
  |.nilsl=>true
  |_=>false
 |.sl _ m s a=>match v with
  |.sl _ m' s' b=>Nat.beq m m'&&Nat.beq s s'&&J1 ih a b
  |_=>false
 |.nilptr=>match v with
  |.nilptr=>true
  |_=>false
 |.nilmap=>match v with
  |.nilmap=>true
  |_=>false
 |.niliface=>match v with
  |.niliface=>true
  |_=>false
 |_=>false
def Zew(n:Nat):V→V→Bool:=Nat.rec (motive:=fun _=>V→V→Bool) (fun _ _=>false) (fun _ ih=>Zxo ih) n
def zV(n:Nat):V→V:=Nat.rec (motive:=fun _=>V→V) (fun k=>k) (fun _ ih k=>match k with
 |.agg a=>.agg (a.map ih)
 |.sl _ m s a=>.sl 0 m s (a.map ih)
 |k=>k) n
theorem ZvR{η η':Nm}:∀(n:Nat) {k v:V} {d:D},Zew n k v=true→VR η v d→VR η' (zV n k) d
 |0,k,v,d,h,_=>by simp[Zew]at h
 |n+1,k,v,d,h,hv=>by
  have ih:=fun{k v:V} {d:D}=>ZvR (η:=η) (η':=η') n (k:=k) (v:=v) (d:=d);have u:∀{a b:List V} {ds:List D},J1 (Zew n) a b=true→VRs η b ds→VRs η' (a.map (zV n)) ds:=by
   intro a;induction a with
   |nil =>
    intro b ds h hb;cases b with
    |nil=>obtain rfl:=hb.inv0;exact .nil
    |cons _ _=>simp[J1]at h
   |cons x a iha =>
    intro b ds h hb;cases b with
    |nil=>simp[J1]at h
    |cons y b =>simp only[J1]at h;split at h<;>(try(simp at h;done));rename_i hx;obtain⟨d,ds',rfl,h1,h2⟩:=hb.inv;exact .cons _ _ _ _ (ih hx h1) (iha h h2)
  have j:∀{s:Nat} {a b:List V} {row:Nat→List D},J1 (Zew n) a b=true→VRr η s b row→VRr η' s (a.map (zV n)) row∧a.length=b.length:=by
   intro s a;induction a with
   |nil =>
    intro b row h hb;cases b with
    |nil=>exact⟨.nil _ _,rfl⟩
    |cons _ _=>simp[J1]at h
   |cons x a iha =>
    intro b row h hb;cases b with
    |nil=>simp[J1]at h
    |cons y b =>
     simp only[J1]at h;split at h<;>(try(simp at h;done));rename_i hx;obtain⟨cs,rfl,h1,h2,h3⟩:=hb.inv;obtain⟨g1,g2⟩:=iha h h3;have hz:=ih hx (.agg _ _ h1);obtain⟨i,t,hl⟩:∃i,zV n x=.agg i∧VRs η' i (row 0):=by
      generalize he:zV n x=z at hz;cases hz with
      |agg i _ h=>exact⟨i,rfl,h⟩
     refine⟨?_,by simp[g2]⟩;rw[ZEc,t];exact .cons _ _ _ _ hl (by rw[hl.len,←h1.len,h2]) g1
  have h':Zxo (Zew n) k v=true:=h;cases k<;>simp only[Zxo,ZEq]at h'<;>cases hv<;>simp only[ZEq]at h';case int =>simp only[ZD5,QD]at h';obtain⟨h1,rfl⟩:=h';obtain rfl:=Zet h1;exact .int _ _
  case bool=>simp only[beq_iff_eq]at h';subst h';exact .bool _
  case str a b =>rw[Zmi,decide_eq_true_eq]at h';show VR η' (.str a) _;rw[←h'];exact .str _
  case agg a b ds hb=>exact .agg _ _ (u h' hb)
  case nilsl=>exact .nilsl
  case sl =>simp only[ZD5,Z2]at h';obtain⟨⟨rfl,rfl⟩,h3⟩:=h';obtain⟨g1,g2⟩:=j h3 ‹VRr η _ _ _›;exact .sl _ _ _ _ _ _ g1 (by rw[List.length_map,g2];assumption) (.inl rfl)
  case nilptr=>exact .nilptr
  case nilmap=>exact .nilmap
  case niliface=>exact .niliface
def Ziy:Option Out→Bool
 |some o=>match o.pan with
  |false=>match o.v with
   |.bool b=>b
   |_=>false
  |true=>false
 |none=>false
theorem ZvK{x:Option Out}(h:Ziy x=true):∃σ nx,x=sO ⟨false,.bool true,σ,nx⟩:=by
 cases x with
 |none=>simp[Ziy]at h
 |some o =>obtain⟨pan,v,σ,nx⟩:=o;cases pan<;>cases v<;>simp[Ziy]at h;subst h;exact⟨σ,nx,rfl⟩
def Zax(f0:FuncId)(f:FuncId):Option (S→List V→Option V):=match Nat.beq f f0 with
 |true=>sO fun _ vs=>match vs with
  | [.str s,.int k c]=>match k with
   |.u8=>sO (.int .i64 (Zq8 c.toNat s))
   |_=>nO
  |_=>nO
 |false=>nO
theorem ZyH{P:Program}{mu:FuncId→Option Nat→Bool}{f0 n:FuncId}(hf:cf P [] f0=sO (ZzE n)){fn:Func}(h0:P.funcs[n]?=sO fn)(h1:fn.body=nO)(h2:(fn.name == "runtime.NumGoroutine")=false)(h3:Extern.findNext fn=nO)(h4:Extern.find fn=sO Extern.BytealgIndexByte.indexByte)(t:St):Qt ⟨⟨P,Zax f0,mu⟩,t⟩:=by
 intro f g σ vs v i hg η ds s hv hS;simp only[Zax]at i;split at i<;>simp only[ZDV,reduceCtorEq]at i;rename_i hb;rw[Z2]at hb;subst hb;subst i;simp only at hg;split at hg<;>(try(simp at hg;done));split at hg<;>simp only[ZDV,reduceCtorEq]at hg;subst hg;obtain⟨d,d',rfl,a1,a2⟩:=hv.inv2;cases a1;cases a2;refine⟨_,.int _ _,?_⟩;rename_i l c;rw[ZsV];exact Zra hf h0 h1 h2 h3 h4 _ _ s
theorem Zza{C:Cx}(hlib:∀t,Qt ⟨C,t⟩){f:FuncId}{m:Nat}(h:Ziy ((ZgT C f).run (run C m) [] T.nil 2)=true):Zf C.P f [] (.bool true):=by
 obtain⟨σ,nx,h⟩:=ZvK h;refine ZlZ ?_;have i:=ZmZ hlib (fun C' ih he i=>Ztc (by subst he;exact hlib _) i) m St.emp;refine(Zlh (C:=⟨C,St.emp⟩) (hlib _) i h .nil ZvX (ZxM C nm0 St.emp)).mono fun r s hp=>?_;obtain⟨η',d',k1,k2,k3,k4,k5⟩:=hp;cases k4;exact k5
theorem YD.mslo{t:St}{Ln:List Nat}{b o n cap sz:Nat}(hb:b∈Ln)(ht:t b=sO (.cells ds))(hlen:n*sz≤ds.length-o)(hrow:∀i,i<n→LdC t Ln ((ds.drop (o+i*sz)).take sz) (row i)):YD t Ln (.msl b o n cap sz) (.sl .none n sz row):=by
 intro g w v hf hr;obtain⟨vs,T,hh,hsz,hc,one,hp⟩:=hf b hb ds ht;cases hr with
 |mslx a _ _ _=>exact .sl0 _ _ _ _ (by simp)
 |msl _ _ _ _ _ hcap hbig =>
 have z:∀i j,i<n→j<sz→o+i*sz+j<ds.length:=fun i j hi hj=>by have:(i+1)*sz≤n*sz:=ZEi _ hi;rw[ZEo,Nat.one_mul]at this;omega
 have u:∀i j,i<n→j<sz→vs[o+i*sz+j]?=sO (vs.getD (o+i*sz+j) undef):=fun i j hi hj=>by have h1:=z i j hi hj;simp[Array.getElem?_eq_getElem (show o+i*sz+j<vs.size by omega)]
 have ac:∀i j,i<n→j<sz→vs.getD (o+i*sz+j) undef∈vs:=fun i j hi hj=>by have h1:=z i j hi hj;simp only[Array.getD_eq_getD_getElem?,Array.getElem?_eq_getElem (show o+i*sz+j<vs.size by omega)];exact Array.getElem_mem _
 have ab:∀i,i<n→(row i).length=sz:=fun i hi=>by rw[←(hrow i hi).len,ZEh,ZEx];have:(i+1)*sz≤n*sz:=ZEi _ hi;rw[ZEo,Nat.one_mul]at this;omega
 refine .sl b o n cap sz row .none (fun i j=>vs.getD (o+i*sz+j) undef) ab (fun i j hi hj=>?_) (fun i j hi hj=>?_) (fun i j d hi hd=>?_) (fun i j hi hj=>one _ (ac i j hi hj)) trivial hcap hbig;rw[Zan hh];exact u i j hi hj;have:=z i j hi hj;omega;have hj:j<sz:=by rw[←ab i hi];exact(List.getElem?_eq_some_iff.1 hd).1
 obtain⟨x,hx,ad⟩:=(hrow i hi).get hd;rw[ZEC,if_pos hj,List.getElem?_drop]at hx;exact ad g w _ hf (hc _ _ x (u i j hi hj) hx)
theorem YD.tup{t:St}{Ln:List Nat}{l l':List D}(h:LdC t Ln l l'):YD t Ln (.tup l) (.tup l'):=by
 intro g w v hf hr;cases hr with
 |tup vs _ hn hc =>refine .tup vs _ (hn.trans h.len) (fun i v d hv hd=>?_);obtain⟨x,hx,j⟩:=h.get hd;exact j g w v hf (hc i v x hv hx)
theorem YD.iface{t:St}{Ln:List Nat}{T:TypeId}{d d':D}(h:YD t Ln d d'):YD t Ln (.iface T d) (.iface T d'):=by
 intro g w v hf hr;cases hr with
 |iface _ v _ hv=>exact .iface T v d' (h g w v hf hv)
theorem YD.sl{t:St}{Ln:List Nat}{τ:Tok}{n sz:Nat}{row row':Nat→List D}(hrow:∀i,i<n→LdC t Ln (row i) (row' i)):YD t Ln (.sl τ n sz row) (.sl .none n sz row'):=by
 intro g w v hf hr;cases hr with
 |sl0 a _ _ _ _=>exact .sl0 a _ _ _ (by simp)
 |sl b o _ cap _ _ _ f hl hc hp hrr one ht hcap hb =>refine .sl b o n cap sz row' .none f (fun i hi=>by rw[←(hrow i hi).len];exact hl i hi) hc hp (fun i j d hi hd=>?_) one trivial hcap hb;obtain⟨x,hx,u⟩:=(hrow i hi).get hd;exact u g w _ hf (hrr i j x hi hx)
theorem YD.more{t:St}{Ln Ln':List Nat}{d d':D}(h:YD t Ln d d')(hs:∀b∈Ln,b∈Ln'):YD t Ln' d d':=fun g w v hf hr=>h g w v (fun b hb=>hf b (hs b hb)) hr
theorem LdC.more{t:St}{Ln Ln':List Nat}{l l':List D}(h:LdC t Ln l l')(hs:∀b∈Ln,b∈Ln'):LdC t Ln' l l':=by
 induction h with
 |nil=>exact .nil
 |cons h _ ih=>exact .cons (h.more hs) ih
theorem Yh.frz(m:Yh g s w){Ln:List Nat}(hL:∀b∈Ln,∃ds,s b=sO (.cells ds)):Yh (J3 g s Ln) (s.delL Ln) w:=by
 have hx:=Zcx m hL;have j:∀c,c∉Ln→(J3 g s Ln).prot c=g.prot c:=fun c hc=>by simp[J3,if_neg hc]
 refine⟨fun c x i=>?_,fun c x i=>?_,fun c hc=>?_,fun n cs hc=>(m.tabs n cs hc).mono hx⟩;simp[St.delL]at i;by_cases hc:c∈Ln;simp[hc]at i;simp[hc]at i;exact(m.obj c x i).mono hx rfl (j c hc);simp[St.delL]at i;by_cases hc:c∈Ln;simp[hc]at i;simp[hc]at i;exact m.kept c x i;have h1:=m.fresh c hc;refine⟨(j c fun h=>?_).trans h1.1,h1.2⟩;obtain⟨ds,hd⟩:=hL c h;have:=(m.obj c _ hd).lt;omega
theorem Za.frz{P:Program}{f:FuncId}{args:List D}{d0:D}(h:Za P f args s Φ)(hp:∀r s',Φ r s'→∃d Ln,r=.ret d∧(∀b∈Ln,∃ds,s' b=sO (.cells ds))∧YD s' Ln d d0):Za P f args s fun r _=>r=.ret d0:=by
 refine⟨h.1,fun g w vs hs ha=>(h.2 g w vs hs ha).mono fun e w' ⟨g',s',r,hx,i,hr,hΦ⟩=>?_⟩;obtain⟨d,Ln,rfl,hL,j⟩:=hp r s' hΦ;refine⟨J3 g' s' Ln,s'.delL Ln,.ret d0,hx.trans (Zcx i hL),i.frz hL,?_,rfl⟩;cases e with
 |returned v=>exact j _ w' v (ZnY i hL) (Rep.mono hr (Zcx i hL))
 |_=>exact hr.elim
def rdL(f:V→Option V):List V→Option (List V)
 | []=>sO []
 |v::l=>match f v with
  |some r=>Jz r (rdL f l)
  |none=>nO
def Zdh(f:V→Option V)(s:Nat):List V→Option (List V)
 | []=>sO []
 |.agg cs::l=>match Nat.beq cs.length s with
  |true=>match rdL f cs with
   |some r=>Jz (.agg r) (Zdh f s l)
   |none=>nO
  |false=>nO
 |_::_=>nO
def Zem(s:Nat):Nat→List V→Option (List V)
 |0,_=>sO []
 |n+1,l=>match ZaS s l with
  |some c=>Jz (.agg c) (Zem s n (Zbd s l))
  |none=>nO
def rd(σ:S):Nat→V→Option V
 |0,_=>nO
 |n+1,v=>match v with
  |.int k a=>sO (.int k a)
  |.bool b=>sO (.bool b)
  |.str s=>sO (.str s)
  |.nilsl=>sO .nilsl
  |.nilptr=>sO .nilptr
  |.nilmap=>sO .nilmap
  |.nilfn=>sO .nilfn
  |.niliface=>sO .niliface
  |.agg cs=>match rdL (rd σ n) cs with
   |some r=>sO (.agg r)
   |none=>nO
  |.tup cs=>match rdL (rd σ n) cs with
   |some r=>sO (.tup r)
   |none=>nO
  |.iface t x=>match rd σ n x with
   |some r=>sO (.iface t r)
   |none=>nO
  |.sl _ m s rs=>match Nat.beq rs.length m with
   |true=>match Zdh (rd σ n) s rs with
    |some r=>sO (.sl 0 m s r)
    |none=>nO
   |false=>nO
  |.msl k o m _ s=>match Zay (σ.get k) with
   |some vs=>match ZaS (m*s) (Zbd o vs) with
    |some cs=>match Zem s m cs with
     |some rs=>match Zdh (rd σ n) s rs with
      |some r=>sO (.sl 0 m s r)
      |none=>nO
     |none=>nO
    |none=>nO
   |none=>nO
  |_=>nO
def dV:Nat→V→D
 |0,_=>.undef
 |n+1,v=>match v with
  |.int k a=>.int k a
  |.bool b=>.bool b
  |.str s=>.str (s.map UInt8.ofNat)
  |.nilsl=>.nilsl
  |.nilptr=>.nilptr
  |.nilmap=>.nilmap
  |.nilfn=>.nilfn
  |.niliface=>.niliface
  |.agg cs=>.agg (cs.map (dV n))
  |.tup cs=>.tup (cs.map (dV n))
  |.iface t x=>.iface t (dV n x)
  |.sl _ m s rs=>.sl .none m s fun i=>match rs[i]? with
   |some (.agg cs)=>cs.map (dV n)
   |_=>[]
  |_=>.undef
def ZxI(n:Nat)(rs:List V)(i:Nat):List D:=match rs[i]? with
 |some (.agg cs)=>cs.map (dV n)
 |_=>[]
theorem Zta{f:V→Option V}:∀{vs rs:List V},rdL f vs=sO rs→rs.length=vs.length
 | [],rs,h=>by cases h;rfl
 |v::vs,rs,h=>by simp[rdL]at h;split at h<;>(try(grind;done));obtain⟨q,hq,rfl⟩:=Kr h;simp[Zta hq]
theorem ZeF{σ:S}{n:Nat}(ih:∀v r,rd σ n v=sO r→∀η,VR η r (dV n r)):∀{vs rs:List V},rdL (rd σ n) vs=sO rs→∀η,VRs η rs (rs.map (dV n))
 | [],rs,h,η=>by cases h;exact .nil
 |v::vs,rs,h,η=>by simp[rdL]at h;split at h<;>(try(grind;done));rename_i r hr;obtain⟨q,hq,rfl⟩:=Kr h;exact .cons _ _ _ _ (ih v r hr η) (ZeF ih hq η)
theorem Zf2{σ:S}{n sz:Nat}(ih:∀v r,rd σ n v=sO r→∀η,VR η r (dV n r)):∀{vs rs:List V},Zdh (rd σ n) sz vs=sO rs→rs.length=vs.length∧∀η,VRr η sz rs (ZxI n rs)
 | [],rs,h=>by cases h;exact⟨rfl,fun _=>.nil _ _⟩
 |v::vs,rs,h=>by cases v<;>simp[Zdh]at h;split at h<;>(try(grind;done));rename_i hb;rw[Z2]at hb;split at h<;>(try(grind;done));rename_i r hr;obtain⟨q,hq,rfl⟩:=Kr h;obtain⟨h1,h2⟩:=Zf2 ih hq;exact⟨by simp[h1],fun η=>.cons _ _ _ _ (ZeF ih hr η) (by rw[Zta hr,hb]) (h2 η)⟩
theorem Zl8{sz:Nat}:∀{m:Nat} {cs rs:List V},Zem sz m cs=sO rs→rs.length=m
 |0,cs,rs,h=>by cases h;rfl
 |m+1,cs,rs,h=>by simp[Zem]at h;split at h<;>(try(grind;done));obtain⟨q,hq,rfl⟩:=Kr h;simp[Zl8 hq]
theorem ZjZ{σ:S}:∀(n:Nat) (v r:V),rd σ n v=sO r→∀η,VR η r (dV n r)
 |0,v,r,h=>by simp[rd]at h
 |n+1,v,r,h=>fun η=>by
  have ih:=ZjZ (σ:=σ) n;cases v<;>simp only[rd,ZDV,reduceCtorEq]at h;case int=>subst h;exact .int _ _
  case bool=>subst h;exact .bool _
  case str=>subst h;exact .str _
  case nilsl=>subst h;exact .nilsl
  case nilptr=>subst h;exact .nilptr
  case nilmap=>subst h;exact .nilmap
  case nilfn=>subst h;exact .nilfn
  case niliface=>subst h;exact .niliface
  case agg cs =>split at h<;>simp only[ZDV,reduceCtorEq]at h;rename_i q hq;subst h;exact .agg _ _ (ZeF ih hq η)
  case tup cs =>split at h<;>simp only[ZDV,reduceCtorEq]at h;rename_i q hq;subst h;exact .tup _ _ (ZeF ih hq η)
  case iface t x =>split at h<;>simp only[ZDV,reduceCtorEq]at h;rename_i q hq;subst h;exact .iface _ _ _ (ih x q hq η)
  case sl t m sz rs =>split at h<;>(try(simp only[reduceCtorEq]at h;done));rename_i hb;rw[Z2]at hb;split at h<;>simp only[ZDV,reduceCtorEq]at h;rename_i q hq;subst h;obtain⟨h1,h2⟩:=Zf2 ih hq;exact .sl _ _ _ _ _ _ (h2 η) (h1.trans hb) (.inl rfl)
  case msl k o m cap sz =>split at h<;>(try(simp only[reduceCtorEq]at h;done));split at h<;>(try(simp only[reduceCtorEq]at h;done));split at h<;>(try(simp only[reduceCtorEq]at h;done));rename_i rs i;split at h<;>simp only[ZDV,reduceCtorEq]at h;rename_i q hq;subst h;obtain⟨h1,h2⟩:=Zf2 ih hq;exact .sl _ _ _ _ _ _ (h2 η) (h1.trans (Zl8 i)) (.inl rfl)
def ZtE(η:Nm)(σ:S)(s:St)(n:Nat):Prop:=∀v r d,rd σ n v=sO r→VR η v d→∃Ln,(∀b∈Ln,∃ds,s b=sO (.cells ds))∧YD s Ln d (dV n r)
theorem Zgy{η:Nm}{σ:S}{s:St}{n:Nat}(ih:ZtE η σ s n):∀{vs rs:List V} {ds:List D},rdL (rd σ n) vs=sO rs→VRs η vs ds →
  ∃Ln,(∀b∈Ln,∃ds,s b=sO (.cells ds))∧LdC s Ln ds (rs.map (dV n))
 | [],rs,ds,h,hv=>by obtain rfl:=hv.inv0;cases h;exact⟨[],by simp,.nil⟩
 |v::vs,rs,ds,h,hv=>by obtain⟨d,ds',rfl,h1,h2⟩:=hv.inv;simp[rdL]at h;split at h<;>(try(grind;done));rename_i r hr;obtain⟨q,hq,rfl⟩:=Kr h;obtain⟨L1,a1,a2⟩:=ih v r d hr h1;obtain⟨L2,b1,b2⟩:=Zgy ih hq h2;refine⟨L1++L2,fun b hb=>?_,.cons (a2.more fun b hb=>by simp[hb]) (b2.more fun b hb=>by simp[hb])⟩;rcases List.mem_append.1 hb with hb|hb;exact a1 b hb;exact b1 b hb
theorem ZiW{η:Nm}{σ:S}{s:St}{n sz:Nat}(ih:ZtE η σ s n):∀{vs rs:List V} {row:Nat→List D},Zdh (rd σ n) sz vs=sO rs→VRr η sz vs row →
  ∃Ln,(∀b∈Ln,∃ds,s b=sO (.cells ds))∧∀i,i<vs.length→LdC s Ln (row i) (ZxI n rs i)
 | [],rs,row,h,hv=>⟨[],by simp,by simp⟩
 |v::vs,rs,row,h,hv=>by
  obtain⟨cs,rfl,h1,h2,h3⟩:=hv.inv;simp[Zdh]at h;split at h<;>(try(grind;done));split at h<;>(try(grind;done));rename_i r hr;obtain⟨q,hq,rfl⟩:=Kr h;obtain⟨L1,a1,a2⟩:=Zgy ih hr h1;obtain⟨L2,b1,b2⟩:=ZiW ih hq h3;refine⟨L1++L2,fun b hb=>?_,fun i hi=>?_⟩;rcases List.mem_append.1 hb with hb|hb;exact a1 b hb;exact b1 b hb;cases i with
  |zero=>exact a2.more fun b hb=>by simp[hb]
  |succ i =>have:=b2 i (by simpa using hi);exact LdC.more this fun b hb=>by simp[hb]
theorem ZoG{η:Nm}{sz:Nat}:∀{m:Nat} {cs rs:List V} {ds:List D},Zem sz m cs=sO rs→VRs η cs ds→rs.length=m∧VRr η sz rs fun i=>(ds.drop (i*sz)).take sz
 |0,cs,rs,ds,h,hv=>by cases h;exact⟨rfl,.nil _ _⟩
 |m+1,cs,rs,ds,h,hv=>by
  simp[Zem]at h;split at h<;>(try(grind;done));rename_i c hc;obtain⟨q,hq,rfl⟩:=Kr h;obtain⟨c1,rfl⟩:=JN hc;rw[QX]at hq;obtain⟨d1,d2⟩:=ZoG hq (hv.drop sz);refine⟨by simp[d1],.cons _ _ _ _ (by simpa using hv.take sz) (by simp;omega) ?_⟩;have e:(fun i=>((ds.drop sz).drop (i*sz)).take sz)=fun i=>(ds.drop ((i+1)*sz)).take sz:=by funext i;rw[List.drop_drop,ZEo,Nat.one_mul,Nat.add_comm]
  rw[e]at d2;exact d2
theorem Zv9{η:Nm}{σ:S}{n:Nat}(ih:ZtE η σ s n)(hS:Zp4 η σ s){k b o m cap sz:Nat}{cv cs rs q:List V}(hk:η k=sO (.tip b))(hcv:Zay (σ.get k)=sO cv)(hcs:ZaS (m*sz) (Zbd o cv)=sO cs)(hrs:Zem sz m cs=sO rs)(hq:Zdh (rd σ n) sz rs=sO q):
  ∃Ln,(∀b∈Ln,∃ds,s b=sO (.cells ds))∧YD s Ln (.msl b o m cap sz) (.sl .none m sz (ZxI n q)):=by
 obtain⟨ds,ex,hb,hv⟩:=hS _ _ _ hcv hk;rw[QX]at hcs;obtain⟨c1,rfl⟩:=JN hcs;obtain⟨e1,e2⟩:=ZoG hrs ((hv.drop o).take (m*sz));obtain⟨L,a1,a2⟩:=ZiW ih hq e2;have hl:=hv.len;rw[ZEx,hl]at c1;refine⟨b::L,fun c hc=>?_,YD.mslo (ds:=ds++ex) (by simp) hb (by rw[ZD8];omega) (fun i hi=>?_)⟩;rcases List.mem_cons.1 hc with rfl|hc;exact⟨_,hb⟩;exact a1 c hc;have h1:=a2 i (by omega);have hm:(i+1)*sz≤m*sz:=ZEi _ hi;rw[ZEo,Nat.one_mul]at hm;have e:((((ds.drop o).take (m*sz)).drop (i*sz)).take sz)=((ds++ex).drop (o+i*sz)).take sz:=by rw[List.drop_take,List.take_take,List.drop_drop,Nat.min_eq_left (by omega),List.drop_append,List.take_append_of_le_length (by rw[ZEx];omega)]
 rw[e]at h1;exact h1.more fun b hb=>by simp[hb]
theorem Zp0{η:Nm}{σ:S}{s:St}(hS:Zp4 η σ s):∀n,ZtE η σ s n
 |0=>fun v r d h _=>by simp[rd]at h
 |n+1=>fun v r d h hv=>by
  have ih:=Zp0 hS n;have nn:∀b∈([]:List Nat),∃ds,s b=sO (.cells ds):=by simp
  cases hv<;>simp only[rd,ZDV,reduceCtorEq]at h;case int=>subst h;exact⟨[],nn,YD.refl _⟩
  case bool=>subst h;exact⟨[],nn,YD.refl _⟩
  case str=>subst h;exact⟨[],nn,YD.refl _⟩
  case nilsl=>subst h;exact⟨[],nn,YD.refl _⟩
  case nilptr=>subst h;exact⟨[],nn,YD.refl _⟩
  case nilmap=>subst h;exact⟨[],nn,YD.refl _⟩
  case nilfn=>subst h;exact⟨[],nn,YD.refl _⟩
  case niliface=>subst h;exact⟨[],nn,YD.refl _⟩
  case agg cs ds hc =>split at h<;>simp only[ZDV,reduceCtorEq]at h;rename_i q hq;subst h;obtain⟨L,a1,a2⟩:=Zgy ih hq hc;exact⟨L,a1,YD.agg a2⟩
  case tup cs ds hc =>split at h<;>simp only[ZDV,reduceCtorEq]at h;rename_i q hq;subst h;obtain⟨L,a1,a2⟩:=Zgy ih hq hc;exact⟨L,a1,YD.tup a2⟩
  case iface t x d hx =>split at h<;>simp only[ZDV,reduceCtorEq]at h;rename_i q hq;subst h;obtain⟨L,a1,a2⟩:=ih x q d hq hx;exact⟨L,a1,YD.iface a2⟩
  case sl t m sz rs τ row hr hn ht =>split at h<;>(try(simp only[reduceCtorEq]at h;done));split at h<;>simp only[ZDV,reduceCtorEq]at h;rename_i q hq;subst h;obtain⟨L,a1,a2⟩:=ZiW ih hq hr;exact⟨L,a1,YD.sl (fun i hi=>a2 i (by omega))⟩
  case msl k b o m cap sz hk =>split at h<;>(try(simp only[reduceCtorEq]at h;done));rename_i cv u;split at h<;>(try(simp only[reduceCtorEq]at h;done));rename_i cs j;split at h<;>(try(simp only[reduceCtorEq]at h;done));rename_i rs z;split at h<;>simp only[ZDV,reduceCtorEq]at h;rename_i q hq;subst h;exact Zv9 ih hS hk u j z hq
  case gsl k b o m cap sz c hk _ _ _ =>split at h<;>(try(simp only[reduceCtorEq]at h;done));rename_i cv u;split at h<;>(try(simp only[reduceCtorEq]at h;done));rename_i cs j;split at h<;>(try(simp only[reduceCtorEq]at h;done));rename_i rs z;split at h<;>simp only[ZDV,reduceCtorEq]at h;rename_i q hq;subst h;exact Zv9 ih hS hk u j z hq
def ZxG(n:Nat):Option Out→Option V
 |some o=>match o.pan with
  |false=>rd o.σ n o.v
  |true=>nO
 |none=>nO
theorem Zn4{η η':Nm}{a:Nat}:∀{ks vs:List V} {ds:List D},J1 (Zew a) ks vs=true→VRs η vs ds→VRs η' (ks.map (zV a)) ds
 | [],[],ds,_,hb=>by obtain rfl:=hb.inv0;exact .nil
 | [],_::_,ds,h,_=>by cases h
 |_::_,[],ds,h,_=>by cases h
 |x::ks,y::vs,ds,h,hb=>by simp only[J1]at h;split at h<;>(try(grind;done));rename_i hx;obtain⟨d,ds',rfl,h1,h2⟩:=hb.inv;exact .cons _ _ _ _ (ZvR a hx h1) (Zn4 h h2)
structure W7 where
 f:FuncId
 a:Nat
 n:Nat
 ks:List V
 r:V
def WL(P:Program)(k:W7):Prop:=∀(vs:List V) (η:Nm) (ds:List D),J1 (Zew k.a) k.ks vs=true→VRs η vs ds→Zf P k.f ds (dV k.n k.r)∧VR η k.r (dV k.n k.r)
theorem JX{C:Cx}(hlib:∀t,Qt ⟨C,t⟩)(k:W7){m:Nat}(h:ZxG k.n ((ZgT C k.f).run (run C m) (k.ks.map (zV k.a)) T.nil 2)=sO k.r):WL C.P k:=by
 intro vs η ds hm hv;cases ho:(ZgT C k.f).run (run C m) (k.ks.map (zV k.a)) T.nil 2 with
 |none=>rw[ho]at h;cases h
 |some o =>rw[ho]at h;simp[ZxG]at h;split at h<;>(try(grind;done));rename_i u;have i:=ZmZ hlib (fun C' ih he i=>Ztc (by subst he;exact hlib _) i) m St.emp;have j:=Zlh (C:=⟨C,St.emp⟩) (hlib _) i ho (Zn4 hm hv) ZvX (ZxM C nm0 St.emp);refine⟨ZlZ (j.frz fun r s hp=>?_),?_⟩;obtain⟨η',d',k1,k2,k3,k4,k5⟩:=hp;rw[u]at k5;obtain⟨Ln,a1,a2⟩:=Zp0 (fun _ _ _ h hb=>k3.cells h hb) k.n o.v k.r d' h k4;exact⟨d',Ln,k5,a1,a2⟩;exact ZjZ k.n o.v k.r h η
def Zoc(f:FuncId):List W7→List W7
 | []=>[]
 |k::l=>match Nat.beq f k.f with
  |true=>k::Zoc f l
  |false=>Zoc f l
def Zg1:List W7→List V→Option V
 | [],_=>nO
 |k::l,vs=>match J1 (Zew k.a) k.ks vs with
  |true=>sO k.r
  |false=>Zg1 l vs
def Zt0(ih:V→Bool):V→Bool
 |.int _ _=>true
 |.bool _=>true
 |.str _=>true
 |.nilsl=>true
 |.nilptr=>true
 |.nilmap=>true
 |.nilfn=>true
 |.niliface=>true
 |.agg cs=>cs.all ih
 |.tup cs=>cs.all ih
 |_=>false
def ZpS(n:Nat):V→Bool:=Nat.rec (motive:=fun _=>V→Bool) (fun _=>false) (fun _ ih=>Zt0 ih) n
theorem ZsS{N:Nat→Prop}{m:Nat}:∀(n:Nat) {v:V},ZpS n v=true→SC N (dV m v)
 |0,v,h=>by cases h
 |n+1,v,h=>by
  have h':Zt0 (ZpS n) v=true:=h;cases m with
  |zero=>exact .undef
  |succ m =>
   have hl:∀{cs:List V},cs.all (ZpS n)=true→∀c∈cs.map (dV m),SC N c:=fun{cs} hc c hm=>by obtain⟨x,hx,rfl⟩:=List.mem_map.1 hm;exact ZsS n (List.all_eq_true.1 hc x hx)
   cases v<;>simp only[Zt0,ZEq]at h'<;>simp[dV];case int=>exact .int _ _
   case bool=>exact .bool _
   case str=>exact .str _
   case nilsl=>exact .nilsl
   case nilptr=>exact .nilptr
   case nilmap=>exact .nilmap
   case nilfn=>exact .nilfn
   case niliface=>exact .niliface
   case agg cs=>exact .agg _ (hl h')
   case tup cs=>exact .tup _ (hl h')
def Zxm(f0:FuncId)(K:List W7)(f:FuncId):Option (S→List V→Option V):=match Zoc f K with
 | []=>Zax f0 f
 |k::l=>sO fun σ vs=>match Zg1 (k::l) vs with
  |some r=>sO r
  |none=>match rdL (rd σ 40) vs with
   |some ws=>match Zg1 (k::l) ws with
    |some r=>noV (ZpS 40 r) (sO r)
    |none=>nO
   |none=>nO
theorem ZeJ{f:FuncId}:∀{K:List W7} {k:W7},k∈Zoc f K→k∈K∧k.f=f
 | [],k,h=>by simp[Zoc]at h
 |x::K,k,h=>by simp only[Zoc]at h;split at h;rename_i hb;rw[Z2]at hb;rcases List.mem_cons.1 h with rfl|h;exact⟨by simp,hb.symm⟩;exact⟨by simp[(ZeJ h).1],(ZeJ h).2⟩;exact⟨by simp[(ZeJ h).1],(ZeJ h).2⟩
theorem ZoO{vs:List V}{v:V}:∀{K:List W7},Zg1 K vs=sO v→∃k∈K,J1 (Zew k.a) k.ks vs=true∧v=k.r
 | [],h=>by simp[Zg1]at h
 |x::K,h=>by simp only[Zg1]at h;split at h;rename_i hm;simp only[ZDV]at h;exact⟨x,by simp,hm,h.symm⟩;obtain⟨k,h1,h2⟩:=ZoO h;exact⟨k,by simp[h1],h2⟩
theorem Zv8{σ:S}{n:Nat}{vs rs:List V}(h:rdL (rd σ n) vs=sO rs)(η:Nm):VRs η rs (rs.map (dV n)):=ZeF (fun v r h η=>ZjZ n v r h η) h η
theorem ZyI{P:Program}{mu:FuncId→Option Nat→Bool}{f0:FuncId}{K:List W7}(h0:∀t,Qt ⟨⟨P,Zax f0,mu⟩,t⟩)(hK:∀k∈K,WL P k)(t:St):Qt ⟨⟨P,Zxm f0 K,mu⟩,t⟩:=by
 intro f g σ vs v i hg η ds s hv hS;simp[Zxm]at i;split at i;exact h0 t f g σ vs v i hg η ds s hv hS;rename_i k l hs;cases i;have u:∀{ws:List V} {v:V},Zg1 (k::l) ws=sO v→∃k':W7,f=k'.f∧v=k'.r∧∀(η:Nm) (ds:List D),VRs η ws ds→Zf P k'.f ds (dV k'.n k'.r)∧VR η k'.r (dV k'.n k'.r):=fun{ws v} hk=>by obtain⟨k',h1,h2,rfl⟩:=ZoO hk;rw[←hs]at h1;obtain⟨h3,rfl⟩:=ZeJ h1;exact⟨k',rfl,rfl,fun η ds hv=>hK k' h3 ws η ds h2 hv⟩
 simp only at hg;split at hg;rename_i r hr;cases hg;obtain⟨k',rfl,rfl,hk⟩:=u hr;obtain⟨h4,h5⟩:=hk η ds hv;exact⟨_,h5,h4 s⟩;split at hg<;>(try(grind;done));rename_i ws j;split at hg<;>(try(grind;done));rename_i r hr;unfold noV at hg;split at hg<;>simp at hg;rename_i z;subst hg;obtain⟨k',rfl,rfl,hk⟩:=u hr;obtain⟨Ln,a1,a2⟩:=Zgy (Zp0 hS 40) j hv;obtain⟨h4,h5⟩:=hk η _ (Zv8 j η);refine⟨_,h5,(Za.lend a1 a2 (h4 _) ?_).mono ?_⟩;rintro r S ⟨rfl,rfl⟩;exact⟨ZsS 40 z,fun b o hb=>by simp at hb⟩;rintro r S ⟨S',⟨rfl,rfl⟩,_,rfl⟩;exact⟨rfl,rfl⟩
theorem LdC.le0{Ln:List Nat}{l l':List D}(h:LdC St.emp Ln l l'):LeC l l':=by
 induction h with
 |nil=>exact .nil
 |cons h _ ih=>exact .cons (fun g w v hr=>h g w v (fun b _ ds hd=>by simp[St.emp]at hd) hr) ih
theorem Zav{P:Program}(k:W7)(hc:Zf P k.f (k.ks.map (dV 40)) (dV k.n k.r))(h1:rdL (rd T.nil 40) (k.ks.map (zV k.a))=sO k.ks)(h2:rd T.nil k.n k.r=sO k.r):WL P k:=by
 intro vs η ds hm hv;obtain⟨Ln,_,a2⟩:=Zgy (s:=St.emp) (Zp0 (fun _ _ _ h hb=>(ZxM ⟨P,fun _=>nO,fun _ _=>false⟩ nm0 St.emp).cells h hb) 40) h1 (Zn4 (η':=nm0) hm hv);exact⟨hc.leA a2.le0,ZjZ k.n k.r k.r h2 η⟩
end Go.DL
namespace Go.DL
open Go Go.Proofs
variable {kp:Option (List Nat)}{L:Loc}{ρ:Env}{s:St}{w:World}{os:List DOp}{ds:List D}{B:List (Nat × Rd)}{dst:Option Nat}{tmps:Array Value}{g:G}{Φ:Res→St→Prop}{ν:Nat→Nat}{xs:List Opd}{side:Prop}{row:Nat→List D}{vs:List V}
def Zb5(f:FuncId)(_:Option Nat):Bool:=ZfV f [8,14,15,22,24,25,41,42,50,51,52,53,54,55,57,60,62,63,64,82,83,104,105,107,116,117,151,155,161,200,204]
theorem Qm(t:St):Qt ⟨⟨ZDW,Zax 184,Zb5⟩,t⟩ :=
 ZyH (n:=229) (by kernel_rfl) Tryz.func229 (by kernel_rfl) (by kernel_rfl) (by kernel_rfl) (by kernel_rfl) t
def ZAz:V:=.agg [.str [100],.sl 0 3 2 [.agg [.str [109],.sl 0 2 15 [.agg [.str [110],.int .i64 1,.int .i64 8,.bool false,.bool false,.int .i64 0,.int .i64 9,.int .i64 0,.nilsl,.str [],.str [],.str [],.nilsl,.int .i64 0,.int .i64 0],.agg [.str [98],.int .i64 4,.int .i64 0,.bool false,.bool false,.int .i64 0,.int .i64 0,.int .i64 0,.sl 0 1 2 [.agg [.str [110],.int .i64 1]],.str [],.str [],.str [],.nilsl,.int .i64 0,.int .i64 0]]],.agg [.str [115,48],.sl 0 1 15 [.agg [.str [122],.int .i64 2,.int .i64 8,.bool false,.bool false,.int .i64 7,.int .i64 0,.int .i64 0,.nilsl,.str [],.str [],.str [],.nilsl,.int .i64 0,.int .i64 0]]],.agg [.str [115],.sl 0 2 15 [.agg [.str [116],.int .i64 1,.int .i64 8,.bool false,.bool false,.int .i64 1,.int .i64 2,.int .i64 0,.nilsl,.str [],.str [],.str [],.nilsl,.int .i64 0,.int .i64 0],.agg [.str [99],.int .i64 9,.int .i64 0,.bool false,.bool false,.int .i64 0,.int .i64 0,.int .i64 0,.nilsl,.str [],.str [116],.str [],.sl 0 2 3 [.agg [.int .i64 1,.int .i64 1,.str [109]],.agg [.int .i64 2,.int .i64 2,.str [115,48]]],.int .i64 0,.int .i64 0]]]],.str [115]]
def kf0:W7:=⟨48,40,40,[ZAz],.bool true⟩
def kf1:W7:=⟨202,40,40,[.sl 0 1 1 [.agg [.str [110]]],.str [46]],.str [110]⟩
def kf2:W7:=⟨202,40,40,[.sl 0 1 1 [.agg [.str [98]]],.str [46]],.str [98]⟩
def kf3:W7:=⟨202,40,40,[.sl 0 1 1 [.agg [.str [116]]],.str [46]],.str [116]⟩
def kf4:W7:=⟨202,40,40,[.sl 0 1 1 [.agg [.str [99]]],.str [46]],.str [99]⟩
def kf5:W7:=⟨202,40,40,[.sl 0 2 1 [.agg [.str [99]],.agg [.str [109]]],.str [46]],.str [99,46,109]⟩
def kf6:W7:=⟨202,40,40,[.sl 0 2 1 [.agg [.str [99,46,109]],.agg [.str [110]]],.str [46]],.str [99,46,109,46,110]⟩
def kf7:W7:=⟨202,40,40,[.sl 0 2 1 [.agg [.str [99,46,109]],.agg [.str [98]]],.str [46]],.str [99,46,109,46,98]⟩
def kf8:W7:=⟨19,40,40,[.str [109,40,110,61,50,32,98,35,48,49,48,50,41]],.tup [.agg [.str [109],.int .i64 0,.nilsl,.nilsl,.sl 0 2 5 [.agg [.str [110],.int .i64 2,.nilsl,.nilsl,.nilsl],.agg [.str [98],.int .i64 0,.sl 0 2 1 [.agg [.int .u8 1],.agg [.int .u8 2]],.nilsl,.nilsl]]],.int .i64 0]⟩
def kf9:W7:=⟨19,40,40,[.str [109,40,110,61,50,32,98,35,48,49,41]],.tup [.agg [.str [109],.int .i64 0,.nilsl,.nilsl,.sl 0 2 5 [.agg [.str [110],.int .i64 2,.nilsl,.nilsl,.nilsl],.agg [.str [98],.int .i64 0,.sl 0 1 1 [.agg [.int .u8 1]],.nilsl,.nilsl]]],.int .i64 0]⟩
def Zt9:W7:=⟨19,40,40,[.str [109,40,110,61,49,50,32,98,35,48,49,41]],.tup [.agg [.str [109],.int .i64 0,.nilsl,.nilsl,.sl 0 2 5 [.agg [.str [110],.int .i64 12,.nilsl,.nilsl,.nilsl],.agg [.str [98],.int .i64 0,.sl 0 1 1 [.agg [.int .u8 1]],.nilsl,.nilsl]]],.int .i64 0]⟩
def Zua:W7:=⟨19,40,40,[.str [109,40,110,61,49,32,98,61,49,41]],.tup [.agg [.str [109],.int .i64 0,.nilsl,.nilsl,.sl 0 2 5 [.agg [.str [110],.int .i64 1,.nilsl,.nilsl,.nilsl],.agg [.str [98],.int .i64 1,.nilsl,.nilsl,.nilsl]]],.int .i64 0]⟩
def Zub:W7:=⟨19,40,40,[.str [115,40,116,61,49,32,99,40,109,40,110,32,98,41,41,41]],.tup [.agg [.str [115],.int .i64 0,.nilsl,.nilsl,.sl 0 2 5 [.agg [.str [116],.int .i64 1,.nilsl,.nilsl,.nilsl],.agg [.str [99],.int .i64 0,.nilsl,.nilsl,.sl 0 1 5 [.agg [.str [109],.int .i64 0,.nilsl,.nilsl,.sl 0 2 5 [.agg [.str [110],.int .i64 0,.nilsl,.nilsl,.nilsl],.agg [.str [98],.int .i64 0,.nilsl,.nilsl,.nilsl]]]]]]],.int .i64 0]⟩
def Zuc:W7:=⟨19,40,40,[.str [115,40,116,61,50,32,99,40,109,40,110,32,98,41,41,41]],.tup [.agg [.str [115],.int .i64 0,.nilsl,.nilsl,.sl 0 2 5 [.agg [.str [116],.int .i64 2,.nilsl,.nilsl,.nilsl],.agg [.str [99],.int .i64 0,.nilsl,.nilsl,.sl 0 1 5 [.agg [.str [109],.int .i64 0,.nilsl,.nilsl,.sl 0 2 5 [.agg [.str [110],.int .i64 0,.nilsl,.nilsl,.nilsl],.agg [.str [98],.int .i64 0,.nilsl,.nilsl,.nilsl]]]]]]],.int .i64 0]⟩
def Zud:W7:=⟨19,40,40,[.str [115,40,116,61,50,32,99,40,109,40,110,32,98,35,48,51,48,51,41,41,41]],.tup [.agg [.str [115],.int .i64 0,.nilsl,.nilsl,.sl 0 2 5 [.agg [.str [116],.int .i64 2,.nilsl,.nilsl,.nilsl],.agg [.str [99],.int .i64 0,.nilsl,.nilsl,.sl 0 1 5 [.agg [.str [109],.int .i64 0,.nilsl,.nilsl,.sl 0 2 5 [.agg [.str [110],.int .i64 0,.nilsl,.nilsl,.nilsl],.agg [.str [98],.int .i64 0,.sl 0 2 1 [.agg [.int .u8 3],.agg [.int .u8 3]],.nilsl,.nilsl]]]]]]],.int .i64 0]⟩
def Zue:W7:=⟨19,40,40,[.str [109,40,110,61,51,32,98,35,48,49,41]],.tup [.agg [.str [109],.int .i64 0,.nilsl,.nilsl,.sl 0 2 5 [.agg [.str [110],.int .i64 3,.nilsl,.nilsl,.nilsl],.agg [.str [98],.int .i64 0,.sl 0 1 1 [.agg [.int .u8 1]],.nilsl,.nilsl]]],.int .i64 0]⟩
theorem ZcB(l:List Str)(hn:l.length≤100)(hj:(joinL l [46]).length≤1000)(hr:∀i,i<l.length→row i=[.str (l.getD i dE)]){n:Nat}(he:n=l.length){r:List UInt8}(hr2:r=joinL l [46]):Zf ZDW 202 [.sl .none n 1 row,.str [46]] (.str r):=by
 subst he;subst hr2;have h:Z0 Zbu row l:=hr;exact(Zcm l (by omega) (by omega)).leA (LeC.two (h.le rfl) (ZDZ _))
theorem ZAh:WL ZDW kf1:=Zav _ (ZcB [[110]] (by decide) (by decide) (fun i hi=>by match i,hi with|0,_=>rfl) rfl rfl) (by kernel_rfl) (by kernel_rfl)
theorem ZAi:WL ZDW kf2:=Zav _ (ZcB [[98]] (by decide) (by decide) (fun i hi=>by match i,hi with|0,_=>rfl) rfl rfl) (by kernel_rfl) (by kernel_rfl)
theorem ZAj:WL ZDW kf3:=Zav _ (ZcB [[116]] (by decide) (by decide) (fun i hi=>by match i,hi with|0,_=>rfl) rfl rfl) (by kernel_rfl) (by kernel_rfl)
theorem ZAk:WL ZDW kf4:=Zav _ (ZcB [[99]] (by decide) (by decide) (fun i hi=>by match i,hi with|0,_=>rfl) rfl rfl) (by kernel_rfl) (by kernel_rfl)
theorem ZAl:WL ZDW kf5:=Zav _ (ZcB [[99],[109]] (by decide) (by decide) (fun i hi=>by match i,hi with|0,_=>rfl|1,_=>rfl) rfl rfl) (by kernel_rfl) (by kernel_rfl)
theorem ZAm:WL ZDW kf6:=Zav _ (ZcB [[99,46,109],[110]] (by decide) (by decide) (fun i hi=>by match i,hi with|0,_=>rfl|1,_=>rfl) rfl rfl) (by kernel_rfl) (by kernel_rfl)
theorem ZAn:WL ZDW kf7:=Zav _ (ZcB [[99,46,109],[98]] (by decide) (by decide) (fun i hi=>by match i,hi with|0,_=>rfl|1,_=>rfl) rfl rfl) (by kernel_rfl) (by kernel_rfl)
theorem ZAA:WL ZDW kf0:=JX (C:=⟨ZDW,Zax 184,Zb5⟩) Qm kf0 (m:=20000) (by kernel_rfl)
theorem ZAo:WL ZDW kf8:=JX (C:=⟨ZDW,Zax 184,Zb5⟩) Qm kf8 (m:=20000) (by kernel_rfl)
theorem ZAp:WL ZDW kf9:=JX (C:=⟨ZDW,Zax 184,Zb5⟩) Qm kf9 (m:=20000) (by kernel_rfl)
theorem ZzF:WL ZDW Zt9:=JX (C:=⟨ZDW,Zax 184,Zb5⟩) Qm Zt9 (m:=20000) (by kernel_rfl)
theorem ZzG:WL ZDW Zua:=JX (C:=⟨ZDW,Zax 184,Zb5⟩) Qm Zua (m:=20000) (by kernel_rfl)
theorem ZzH:WL ZDW Zub:=JX (C:=⟨ZDW,Zax 184,Zb5⟩) Qm Zub (m:=20000) (by kernel_rfl)
theorem ZzI:WL ZDW Zuc:=JX (C:=⟨ZDW,Zax 184,Zb5⟩) Qm Zuc (m:=20000) (by kernel_rfl)
theorem ZzJ:WL ZDW Zud:=JX (C:=⟨ZDW,Zax 184,Zb5⟩) Qm Zud (m:=20000) (by kernel_rfl)
theorem ZzK:WL ZDW Zue:=JX (C:=⟨ZDW,Zax 184,Zb5⟩) Qm Zue (m:=20000) (by kernel_rfl)
theorem ZyE:∀k∈([kf0,kf1,kf2,kf3,kf4,kf5,kf6,kf7,kf8,kf9,Zt9,Zua,Zub,Zuc,Zud,Zue]:List W7),WL ZDW k:=by
 intro k hk;simp only[ZEz,List.not_mem_nil,or_false]at hk;rcases hk with rfl|rfl|rfl|rfl|rfl|rfl|rfl|rfl|rfl|rfl|rfl|rfl|rfl|rfl|rfl|rfl;exact ZAA;exact ZAh;exact ZAi;exact ZAj;exact ZAk;exact ZAl;exact ZAm;exact ZAn;exact ZAo;exact ZAp;exact ZzF;exact ZzG;exact ZzH;exact ZzI;exact ZzJ;exact ZzK
theorem Zn0:Zf ZDW 6 [] (.bool true):=Zza (C:=⟨ZDW,Zxm 184 [kf0,kf1,kf2,kf3,kf4,kf5,kf6,kf7,kf8,kf9,Zt9,Zua,Zub,Zuc,Zud,Zue],Zb5⟩) (ZyI Qm ZyE) (m:=100000) (by kernel_rfl)
def ZnT(n:Nat):List Nat:=if n<10 then [48+n] else if n<100 then [48+n / 10,48+n % 10] else [48+n / 100,48+n / 10 % 10,48+n % 10]
theorem Zyr{n:Nat}(h:n<500):(ZnT n).map UInt8.ofNat=Zdw n:=by
 unfold ZnT;split;rename_i h1;rw[QK h1];rfl;rename_i h1;rw[Zlk h1,QK (n:=n % 10) (by omega)];split;rw[QK (n:=n / 10) (by omega)];rfl;rw[Zlk (n:=n / 10) (by omega),QK (n:=n / 10 / 10) (by omega),QK (n:=n / 10 % 10) (by omega),Nat.div_div_eq_div_mul];rfl
def eqN:List Nat→List Nat→Bool
 | [],[]=>true
 |a::r,b::t=>Nat.beq a b&&eqN r t
 |_,_=>false
theorem Zvy:∀{a b:List Nat},eqN a b=true→a=b
 | [],[],_=>rfl
 | [],_::_,h=>by simp[eqN]at h
 |_::_,[],h=>by simp[eqN]at h
 |a::r,b::t,h=>by simp only[eqN,ZD5]at h;rw[Nat.eq_of_beq_eq_true h.1,Zvy h.2]
def isT(n:Nat):Option V→Bool
 |some (.str s)=>eqN s (ZnT n)
 |_=>false
theorem ZzC{n:Nat}:∀{o:Option V},isT n o=true→o=sO (.str (ZnT n))
 |some (.str s),h=>by rw[Zvy h]
def ZtG(f:Nat→Option V):Nat→Bool
 |0=>true
 |n+1=>isT n (f n)&&ZtG f n
theorem ZsH{f:Nat→Option V}:∀{n i:Nat},ZtG f n=true→i<n→f i=sO (.str (ZnT i))
 |n+1,i,h,hi=>by simp only[ZtG,ZD5]at h;by_cases e:i=n;rw[e];exact ZzC h.1;exact ZsH h.2 (by omega)
def kI(n:Nat):W7:=⟨207,40,40,[.int .i64 (Int.ofNat n)],.str (ZnT n)⟩
theorem ZvL{n:Nat}(h:WL ZDW (kI n))(hn:n<500):Zf ZDW 207 [.int .i64 n] (.str (Zdw n)):=by
 have h1:=(h [.int .i64 n] nm0 [.int .i64 n] (by
  have h0:Zew 40 (.int .i64 n) (.int .i64 n)=true:=by show(Zfi .i64 .i64&&eqI n n)=true;rw[QD.2 rfl];rfl
  show J1 (Zew 40) [.int .i64 n] [.int .i64 n]=true;simp only[J1,h0,if_true]) (.cons _ _ _ _ (.int _ _) .nil)).1
 rw[←Zyr hn];exact h1
theorem Zxi:ZtG (fun n=>ZxG (kI n).n ((ZgT ⟨ZDW,Zax 184,Zb5⟩ (kI n).f).run (run ⟨ZDW,Zax 184,Zb5⟩ 1000) ((kI n).ks.map (zV (kI n).a)) T.nil 2)) 500=true:=by kernel_rfl
theorem ZyD:Q8:=fun n hn=>by
 have h:=ZsH Zxi hn;have h2:=JX (C:=⟨ZDW,Zax 184,Zb5⟩) Qm (kI n) (m:=1000) h;exact ZvL h2 hn
section
variable {H:Type} {enc:TypeId × Value→H} {w:World}
theorem ZyY:ZaF enc ZDW w 98 fun ds=>∃x:ZO,ds=x.cells:=by
 refine(KC (P:=ZDW) (q:=fun _=>True) Tryz.underlying98 (Rs:=[_,_]) (.cons (Qf Tryz.underlying9) (.cons (Jt Tryz.underlying3) .nil)) (by kernel_rfl)).imp ?_;rintro ds ⟨_,_,rfl,⟨a,rfl⟩,_,_,rfl,⟨b,rfl⟩,rfl⟩;exact⟨⟨a,b⟩,rfl⟩
theorem ZxD:ZaF enc ZDW w 54 fun ds=>∃l:List ZO,ds=[Yl l] :=
 JY (q:=fun _=>True) (f:=ZO.cells) Tryz.underlying54 (by kernel_rfl) (by decide) (fun _=>rfl) ZyY
theorem ZyX:ZaF enc ZDW w 56 fun ds=>∃x:Wi,ds=x.cells:=by
 refine(KC (P:=ZDW) (q:=fun _=>True) Tryz.underlying56 (Rs:=[_,_]) (.cons (Jt Tryz.underlying3) (.cons ZxD .nil)) (by kernel_rfl)).imp ?_;rintro ds ⟨_,_,rfl,⟨a,rfl⟩,_,_,rfl,⟨b,rfl⟩,rfl⟩;exact⟨⟨a,b⟩,rfl⟩
theorem ZyT:ZaF enc ZDW w 100 fun ds=>∃x:Yb,ds=x.cells:=by
 refine(KC (P:=ZDW) (q:=fun _=>True) Tryz.underlying100 (Rs:=[_,_,_]) (.cons (Jt Tryz.underlying3) (.cons (Jt Tryz.underlying3) (.cons (Qf Tryz.underlying9) .nil))) (by kernel_rfl)).imp ?_;rintro ds ⟨_,_,rfl,⟨a,rfl⟩,_,_,rfl,⟨b,rfl⟩,_,_,rfl,⟨c,rfl⟩,rfl⟩;exact⟨⟨a,b,c⟩,rfl⟩
theorem ZxC:ZaF enc ZDW w 57 fun ds=>∃l:List Yb,ds=[Kl l] :=
 JY (q:=fun _=>True) (f:=Yb.cells) Tryz.underlying57 (by kernel_rfl) (by decide) (fun _=>rfl) ZyT
theorem ZzZ:ZaF enc ZDW w 59 fun ds=>∃x:Fld,ds=x.cells:=by
 have hs:=Qf (p:=fun _=>True) (enc:=enc) (P:=ZDW) (w:=w) Tryz.underlying9;have hi:=Jt (p:=fun _=>True) (enc:=enc) (P:=ZDW) (w:=w) Tryz.underlying3;have hb:=ZuB (p:=fun _=>True) (enc:=enc) (P:=ZDW) (w:=w) Tryz.underlying4;have hk:=Jt (p:=fun _=>True) (enc:=enc) (P:=ZDW) (w:=w) Tryz.underlying53;refine(KC (P:=ZDW) (q:=fun _=>True) Tryz.underlying59 (Rs:=[_,_,_,_,_,_,_,_,_,_,_,_,_,_]) (.cons hs (.cons hk (.cons hi (.cons hb (.cons hb (.cons hi (.cons hi (.cons ZyX (.cons hs (.cons hs (.cons hs (.cons ZxC (.cons hi (.cons hi .nil)))))))))))))) (by kernel_rfl)).imp ?_;rintro ds ⟨_,_,rfl,⟨a,rfl⟩,_,_,rfl,⟨b,rfl⟩,_,_,rfl,⟨c,rfl⟩,_,_,rfl,⟨d,rfl⟩,_,_,rfl,⟨e,rfl⟩,_,_,rfl,⟨f,rfl⟩,_,_,rfl,⟨g,rfl⟩,_,_,rfl,⟨h,rfl⟩,_,_,rfl,⟨i,rfl⟩,_,_,rfl,⟨j,rfl⟩,_,_,rfl,⟨k,rfl⟩,_,_,rfl,⟨l,rfl⟩,_,_,rfl,⟨m,rfl⟩,_,_,rfl,⟨n,rfl⟩,rfl⟩;exact⟨⟨a,b,c,d,e,f,g,h,i,j,k,l,m,n⟩,rfl⟩
theorem ZyU:ZaF enc ZDW w 50 fun ds=>∃l:List Fld,ds=[Zm l] :=
 JY (q:=fun _=>True) (f:=Fld.cells) Tryz.underlying50 (by kernel_rfl) (by decide) (fun _=>rfl) ZzZ
theorem Zz0:ZaF enc ZDW w 52 fun ds=>∃x:Msg,ds=x.cells:=by
 refine(KC (P:=ZDW) (q:=fun _=>True) Tryz.underlying52 (Rs:=[_,_]) (.cons (Qf Tryz.underlying9) (.cons ZyU .nil)) (by kernel_rfl)).imp ?_;rintro ds ⟨_,_,rfl,⟨a,rfl⟩,_,_,rfl,⟨b,rfl⟩,rfl⟩;exact⟨⟨a,b⟩,rfl⟩
theorem ZyW:ZaF enc ZDW w 22 fun ds=>∃l:List Msg,ds=[WI l] :=
 JY (q:=fun _=>True) (f:=Msg.cells) Tryz.underlying22 (by kernel_rfl) (by decide) (fun _=>rfl) Zz0
theorem ZzY:ZaF enc ZDW w 24 fun ds=>∃x:Dfn,ds=x.cells:=by
 refine(KC (P:=ZDW) (q:=fun _=>True) Tryz.underlying24 (Rs:=[_,_,_]) (.cons (Qf Tryz.underlying9) (.cons ZyW (.cons (Qf Tryz.underlying9) .nil))) (by kernel_rfl)).imp ?_;rintro ds ⟨_,_,rfl,⟨a,rfl⟩,_,_,rfl,⟨b,rfl⟩,_,_,rfl,⟨c,rfl⟩,rfl⟩;exact⟨⟨a,b,c⟩,rfl⟩
end
section
variable {H:Type} {enc:TypeId × Value→H} {w:World} {p:Nat→Prop}
theorem ZxE:WZ p enc ZDW w 25 fun ds=>∃b:Str,ds=[ZL b] :=
 JY (q:=fun _=>True) (f:=u8C) Tryz.underlying25 (by kernel_rfl) (by decide) (fun _=>rfl) ((ZmV Tryz.underlying5).imp fun ds ⟨n,hn,h⟩=>⟨UInt8.ofNat n.toNat,by
  subst h;unfold inR IntKind.min IntKind.max at hn;simp[IntKind.signed,IntKind.bits]at hn;simp only[u8C,UInt8.toNat_ofNat',List.cons.injEq,D.int.injEq,true_and,and_true];omega⟩)
theorem ZyV:WZ p enc ZDW w 26 fun ds=>∃l:List Hdr,ds=[ZX l]:=by
 refine JY (q:=fun _=>True) (f:=Hdr.cells) Tryz.underlying26 (by kernel_rfl) (by decide) (fun _=>rfl) ((KC (P:=ZDW) (q:=fun _=>True) Tryz.underlying89 (Rs:=[_,_]) (.cons (Qf Tryz.underlying9) (.cons (Qf Tryz.underlying9) .nil)) (by kernel_rfl)).imp ?_);rintro ds ⟨_,_,rfl,⟨a,rfl⟩,_,_,rfl,⟨b,rfl⟩,rfl⟩;exact⟨⟨a,b⟩,rfl⟩
theorem Ztb:∀N:Nat,WZ (fun n=>n<N) enc ZDW w 29 fun ds=>∃x:Val,ds=x.cells
 |0=>fun fuel cs x h=>absurd h (Nat.not_lt_zero _)
 |N+1=>by
  refine(KC (P:=ZDW) (q:=fun n=>n<N) Tryz.underlying29 (Rs:=[_,_,_,_,_]) (.cons (Qf Tryz.underlying9) (.cons (Jt Tryz.underlying3) (.cons ZxE (.cons ZyV
   (.cons (ZiY (q:=fun n=>n<N) (f:=Val.cells) (row:=Zcb) (fun l i h=>Zdj h) Tryz.underlying27 (by kernel_rfl) (by decide) Val.len (Ztb N) (fun n h=>by omega)) .nil))))) (by kernel_rfl) (fun n h=>by omega)).imp ?_
  rintro ds ⟨_,_,rfl,⟨a,rfl⟩,_,_,rfl,⟨b,rfl⟩,_,_,rfl,⟨c,rfl⟩,_,_,rfl,⟨d,rfl⟩,_,_,rfl,⟨e,rfl⟩,rfl⟩;exact⟨.mk a b c d e,rfl⟩
theorem Zz1:ZaF enc ZDW w 29 fun ds=>∃x:Val,ds=x.cells:=fun i cs x _ h=>Ztb (i+1) i cs x (Nat.lt_succ_self _) h
end
end Go.DL
namespace Go.Proofs.YtmdaecbcadpmcaaGreatDoor
open Go Go.DL Go.ChangeShapes Go.WideShapes Go.ChangeAt Go.RowKit Go.Lib
set_option linter.unusedVariables false
theorem own:ownKnob Tryz.prog.godebug=nO:=by kernel_rfl
theorem laidOut:laidOutB ZDW=true:=by kernel_rfl
theorem tabsOk{W:World}(h:laidMet ZDW Rows.shapeHoldsRow.laid W):Zl1 W:=by
 intro n cs hn;have i:(match Nat.beq n 3 with
  |true=>sO (Zrz.map fun z=>D.int .u64 z)
  |false=>nO)=sO cs:=hn
 split at i;rename_i hb;obtain rfl:n=3:=Nat.eq_of_beq_eq_true hb;simp only[ZDV]at i;subst i;have ht:TabIs ZDW W "internal/strconv.uint64pow10" .u64 Zrz :=
  tabIs_of_head (g:=3) (t:=303) (e:=232) (n:=20) (by kernel_rfl) (by kernel_rfl) Tryz.underlying303 Tryz.underlying232 (by kernel_rfl) (by kernel_rfl) h.tail.tail
 exact Zy7 ht (by kernel_rfl) (by unfold inR;decide);simp at i
end Go.Proofs.YtmdaecbcadpmcaaGreatDoor
