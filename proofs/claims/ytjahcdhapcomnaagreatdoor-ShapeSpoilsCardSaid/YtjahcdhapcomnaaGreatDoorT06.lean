/- Lemmas: EvZ, EvLib, EvZa, EvZb, K15a, K15b, K15d. -/
import Derived.Test.YtjahcdhapcomnaaGreatDoorT05
set_option maxHeartbeats 16000000
set_option maxRecDepth 100000
set_option linter.all false
open Option renaming some → sO, none → nO
open Inhabited renaming default → dE
open Decidable renaming decide → dC
open Bool renaming and_eq_true → ZEK, false_eq_true → ZE3
open Go.DL.D.Le renaming refl → ZEF
open Go.Proofs.Tryz renaming prog → ZEA
open List renaming getElem?_take → ZFg, length_append → ZEM, length_drop → ZFh, length_take → ZEU, map_cons → ZEQ, mem_cons → ZFd
open Nat renaming add_mul → ZE2, mul_le_mul_right → ZEW
open Option.some renaming injEq → ZEz
namespace Go.DL
open Go
variable [Zqy]
variable {kp:Option (List Nat)}{L:Loc}{ρ:Env}{s:St}{w:World}{os:List DOp}{ds:List D}{B:List (Nat × Rd)}{dst:Option Nat}{tmps:Array Value}{g:G}{Φ:Res→St→Prop}{ν:Nat→Nat}{xs:List Opd}{side:Prop}{row:Nat→List D}{vs:List V}
def J0(f:V→V→Bool):List V→List V→Bool
 | [],[]=>true
 |a::x,b::y=>if f a b then J0 f x y else false
 |_,_=>false
def ZxP(ih:V→V→Bool)(k v:V):Bool:=match k with
 |.int i a=>match v with
  |.int j b=>Zfl i j&&eqI a b
  |_=>false
 |.bool a=>match v with
  |.bool b=>a==b
  |_=>false
 |.str a=>match v with
  |.str b=>eqS a b
  |_=>false
 |.agg a=>match v with
  |.agg b=>J0 ih a b
  |_=>false
 |.nilsl=>match v with
  |.nilsl=>true
  |_=>false
 |.sl _ m s a=>match v with
  |.sl _ m' s' b=>Nat.beq m m'&&Nat.beq s s'&&J0 ih a b
  |_=>false
 |.nilptr=>match v with
  |.nilptr=>true
  |_=>false
 |.nilmap=>match v with
  |.nilmap=>true
  |_=>false
 |.niliface=>match v with
  |.niliface=>true
  |_=>false
 |_=>false
def Zew(n:Nat):V→V→Bool:=Nat.rec (motive:=fun _=>V→V→Bool) (fun _ _=>false) (fun _ ih=>ZxP ih) n
def zV(n:Nat):V→V:=Nat.rec (motive:=fun _=>V→V) (fun k=>k) (fun _ ih k=>match k with
 |.agg a=>.agg (a.map ih)
 |.sl _ m s a=>.sl 0 m s (a.map ih)
 |k=>k) n
theorem Zwc{η η'}:∀(n) {k v d},Zew n k v=true→VR η v d→VR η' (zV n k) d
 |0,k,v,d,h,_=>by simp[Zew]at h
 |n+1,k,v,d,h,hv=>by
  have ih:=fun{k v:V} {d:D}=>Zwc (η:=η) (η':=η') n (k:=k) (v:=v) (d:=d)
  have ihs:∀{a b:List V} {ds:List D},J0 (Zew n) a b=true→VRs η b ds→VRs η' (a.map (zV n)) ds:=by
   intro a
   induction a with
   |nil =>
    intro b ds h hb
    cases b with
    |nil=>obtain rfl:=hb.inv0;exact .nil
    |cons _ _=>simp[J0]at h
   |cons x a iha =>
    intro b ds h hb
    cases b with
    |nil=>simp[J0]at h
    |cons y b =>
     simp only[J0]at h
     split at h<;>(try(simp at h;done))
     rename_i hx
     obtain⟨d,ds',rfl,h1,h2⟩:=hb.inv
     exact .cons _ _ _ _ (ih hx h1) (iha h h2)
  have ihr:∀{s:Nat} {a b:List V} {row:Nat→List D},J0 (Zew n) a b=true→VRr η s b row→VRr η' s (a.map (zV n)) row∧a.length=b.length:=by
   intro s a
   induction a with
   |nil =>
    intro b row h hb
    cases b with
    |nil=>exact⟨.nil _ _,rfl⟩
    |cons _ _=>simp[J0]at h
   |cons x a iha =>
    intro b row h hb
    cases b with
    |nil=>simp[J0]at h
    |cons y b =>
     simp only[J0]at h
     split at h<;>(try(simp at h;done))
     rename_i hx
     obtain⟨cs,rfl,h1,h2,h3⟩:=hb.inv
     obtain⟨g1,g2⟩:=iha h h3
     have hz:=ih hx (.agg _ _ h1)
     obtain⟨cs',hcs,hl⟩:∃cs',zV n x=.agg cs'∧VRs η' cs' (row 0):=by
      generalize he:zV n x=z at hz
      cases hz with
      |agg cs' _ h=>exact⟨cs',rfl,h⟩
     refine⟨?_,by simp[g2]⟩
     rw[ZEQ,hcs]
     exact .cons _ _ _ _ hl (by rw[hl.len,←h1.len,h2]) g1
  have h':ZxP (Zew n) k v=true:=h
  cases k<;>simp only[ZxP,ZE3]at h'<;>cases hv<;>simp only[ZE3]at h'
  case int =>
   simp only[ZEK,QH]at h'
   obtain⟨h1,rfl⟩:=h'
   obtain rfl:=Zet h1
   exact .int _ _
  case bool=>simp only[beq_iff_eq]at h';subst h';exact .bool _
  case str a b =>
   rw[Zml,decide_eq_true_eq]at h'
   show VR η' (.str a) _
   rw[←h']
   exact .str _
  case agg a b ds hb=>exact .agg _ _ (ihs h' hb)
  case nilsl=>exact .nilsl
  case sl =>
   simp only[ZEK,ZZ]at h'
   obtain⟨⟨rfl,rfl⟩,h3⟩:=h'
   obtain⟨g1,g2⟩:=ihr h3 ‹VRr η _ _ _›
   exact .sl _ _ _ _ _ _ g1 (by rw[List.length_map,g2];assumption) (.inl rfl)
  case nilptr=>exact .nilptr
  case nilmap=>exact .nilmap
  case niliface=>exact .niliface
def Zes:Option Out→Bool
 |some o=>match o.pan with
  |false=>match o.v with
   |.bool b=>b
   |_=>false
  |true=>false
 |none=>false
theorem Zv5{x}(h:Zes x=true):∃σ nx,x=sO ⟨false,.bool true,σ,nx⟩:=by
 cases x with
 |none=>simp[Zes]at h
 |some o =>
  obtain⟨pan,v,σ,nx⟩:=o
  cases pan<;>cases v<;>simp[Zes]at h
  subst h
  exact⟨σ,nx,rfl⟩
def Jl(f0:FuncId)(f:FuncId):Option (S→List V→Option V):=match Nat.beq f f0 with
 |true=>sO fun _ vs=>match vs with
  | [.str s,.int k c]=>match k with
   |.u8=>sO (.int .i64 (Zlw c.toNat s))
   |_=>nO
  |_=>nO
 |false=>nO
theorem Zze{P:Program}{mu:FuncId→Option Nat→Bool}{f0 n:FuncId}(hf:cf P [] f0=sO (ZAb n)){fn:Func}(h0:P.funcs[n]?=sO fn)(h1:fn.body=nO)(h2:(fn.name == "runtime.NumGoroutine")=false)(h3:Extern.findNext fn=nO)(h4:Extern.find fn=sO Extern.BytealgIndexByte.indexByte)(t:St):Qt ⟨⟨P,Jl f0,mu⟩,t⟩:=by
 intro f g σ vs v hfg hg η ds s hv hS
 simp only[Jl]at hfg
 split at hfg<;>simp only[ZEz,reduceCtorEq]at hfg
 rename_i hb
 rw[ZZ]at hb
 subst hb;subst hfg
 simp only at hg
 split at hg<;>(try(simp at hg;done))
 split at hg<;>simp only[ZEz,reduceCtorEq]at hg
 subst hg
 obtain⟨d,d',rfl,a1,a2⟩:=hv.inv2
 cases a1
 cases a2
 refine⟨_,.int _ _,?_⟩
 rename_i l c
 rw[Ztr]
 exact Zrq hf h0 h1 h2 h3 h4 _ _ s
theorem ZzI{C:Cx}(hlib:∀t,Qt ⟨C,t⟩){f:FuncId}{m:Nat}(h:Zes ((Zfa C f).run (run C m) [] T.nil 2)=true):Ze C.P f [] (.bool true):=by
 obtain⟨σ,nx,h⟩:=Zv5 h
 refine ZgS ?_
 have hih:=Zm6 hlib (fun C' ih he hih=>ZtC (by subst he;exact hlib _) hih) m St.emp
 refine(Zlj (C:=⟨C,St.emp⟩) (hlib _) hih h .nil Zwi (Zyj C nm0 St.emp)).mono fun r s hp=>?_
 obtain⟨η',d',k1,k2,k3,k4,k5⟩:=hp
 cases k4
 exact k5
theorem Ys.mslo{t Ln b o n cap sz ds row}(hb:b∈Ln)(ht:t b=sO (.cells ds))(hlen:n*sz≤ds.length-o)(hrow:∀i,i<n→LdC t Ln ((ds.drop (o+i*sz)).take sz) (row i)):Ys t Ln (.msl b o n cap sz) (.sl .none n sz row):=by
 intro g w v hf hr
 obtain⟨vs,T,hh,hsz,hc,one,hp⟩:=hf b hb ds ht
 cases hr with
 |mslx a _ _ _=>exact .sl0 _ _ _ _ (by simp)
 |msl _ _ _ _ _ hcap hbig =>
 have hin:∀i j,i<n→j<sz→o+i*sz+j<ds.length:=fun i j hi hj=>by
  have:(i+1)*sz≤n*sz:=ZEW _ hi
  rw[ZE2,Nat.one_mul]at this
  omega
 have hget:∀i j,i<n→j<sz→vs[o+i*sz+j]?=sO (vs.getD (o+i*sz+j) undef):=fun i j hi hj=>by
  have h1:=hin i j hi hj
  simp[Array.getElem?_eq_getElem (show o+i*sz+j<vs.size by omega)]
 have hmem:∀i j,i<n→j<sz→vs.getD (o+i*sz+j) undef∈vs:=fun i j hi hj=>by
  have h1:=hin i j hi hj
  simp only[Array.getD_eq_getD_getElem?,Array.getElem?_eq_getElem (show o+i*sz+j<vs.size by omega)]
  exact Array.getElem_mem _
 have hrl:∀i,i<n→(row i).length=sz:=fun i hi=>by
  rw[←(hrow i hi).len,ZEU,ZFh]
  have:(i+1)*sz≤n*sz:=ZEW _ hi
  rw[ZE2,Nat.one_mul]at this
  omega
 refine .sl b o n cap sz row .none (fun i j=>vs.getD (o+i*sz+j) undef) hrl (fun i j hi hj=>?_) (fun i j hi hj=>?_) (fun i j d hi hd=>?_) (fun i j hi hj=>one _ (hmem i j hi hj)) trivial hcap hbig
 ·rw[Zan hh];exact hget i j hi hj
 ·have:=hin i j hi hj;omega
 ·have hj:j<sz:=by rw[←hrl i hi];exact(List.getElem?_eq_some_iff.1 hd).1
  obtain⟨x,hx,hle⟩:=(hrow i hi).get hd
  rw[ZFg,if_pos hj,List.getElem?_drop]at hx
  exact hle g w _ hf (hc _ _ x (hget i j hi hj) hx)
theorem Ys.tup{t Ln l l'}(h:LdC t Ln l l'):Ys t Ln (.tup l) (.tup l'):=by
 intro g w v hf hr
 cases hr with
 |tup vs _ hn hc =>
  refine .tup vs _ (hn.trans h.len) (fun i v d hv hd=>?_)
  obtain⟨x,hx,hle⟩:=h.get hd
  exact hle g w v hf (hc i v x hv hx)
theorem Ys.iface{t Ln T d d'}(h:Ys t Ln d d'):Ys t Ln (.iface T d) (.iface T d'):=by
 intro g w v hf hr
 cases hr with
 |iface _ v _ hv=>exact .iface T v d' (h g w v hf hv)
theorem Ys.sl{t}{Ln}{τ}{n sz}{row row'}(hrow:∀i,i<n→LdC t Ln (row i) (row' i)):Ys t Ln (.sl τ n sz row) (.sl .none n sz row'):=by
 intro g w v hf hr
 cases hr with
 |sl0 a _ _ _ _=>exact .sl0 a _ _ _ (by simp)
 |sl b o _ cap _ _ _ f hl hc hp hrr one ht hcap hb =>
  refine .sl b o n cap sz row' .none f (fun i hi=>by rw[←(hrow i hi).len];exact hl i hi) hc hp (fun i j d hi hd=>?_) one trivial hcap hb
  obtain⟨x,hx,hle⟩:=(hrow i hi).get hd
  exact hle g w _ hf (hrr i j x hi hx)
theorem Ys.more{t Ln Ln' d d'}(h:Ys t Ln d d')(hs:∀b∈Ln,b∈Ln'):Ys t Ln' d d':=fun g w v hf hr=>h g w v (fun b hb=>hf b (hs b hb)) hr
theorem LdC.more{t Ln Ln' l l'}(h:LdC t Ln l l')(hs:∀b∈Ln,b∈Ln'):LdC t Ln' l l':=by
 induction h with
 |nil=>exact .nil
 |cons h _ ih=>exact .cons (h.more hs) ih
theorem Yb.frz{g s w}(m:Yb g s w){Ln}(hL:∀b∈Ln,∃ds,s b=sO (.cells ds)):Yb (QD g s Ln) (s.delL Ln) w:=by
 have hx:=Zas m hL
 have hpe:∀c,c∉Ln→(QD g s Ln).prot c=g.prot c:=fun c hc=>by simp[QD,if_neg hc]
 refine⟨fun c x hx'=>?_,fun c x hx'=>?_,fun c hc=>?_,fun n cs hc=>(m.tabs n cs hc).mono hx⟩
 ·simp[St.delL]at hx'
  by_cases hc:c∈Ln
  ·simp[hc]at hx'
  ·simp[hc]at hx';exact(m.obj c x hx').mono hx rfl (hpe c hc)
 ·simp[St.delL]at hx'
  by_cases hc:c∈Ln
  ·simp[hc]at hx'
  ·simp[hc]at hx';exact m.kept c x hx'
 ·have h1:=m.fresh c hc
  refine⟨(hpe c fun h=>?_).trans h1.1,h1.2⟩
  obtain⟨ds,hd⟩:=hL c h
  have:=(m.obj c _ hd).lt
  omega
theorem Zb.frz{P f args s Φ d0}(h:Zb P f args s Φ)(hp:∀r s',Φ r s'→∃d Ln,r=.ret d∧(∀b∈Ln,∃ds,s' b=sO (.cells ds))∧Ys s' Ln d d0):Zb P f args s fun r _=>r=.ret d0:=by
 refine⟨h.1,fun g w vs hs ha=>(h.2 g w vs hs ha).mono fun e w' ⟨g',s',r,hx,hs',hr,hΦ⟩=>?_⟩
 obtain⟨d,Ln,rfl,hL,hle⟩:=hp r s' hΦ
 refine⟨QD g' s' Ln,s'.delL Ln,.ret d0,hx.trans (Zas hs' hL),hs'.frz hL,?_,rfl⟩
 cases e with
 |returned v=>exact hle _ w' v (ZjU hs' hL) (Rep.mono hr (Zas hs' hL))
 |_=>exact hr.elim
def rdL(f:V→Option V):List V→Option (List V)
 | []=>sO []
 |v::l=>match f v with
  |some r=>JG r (rdL f l)
  |none=>nO
def Zc6(f:V→Option V)(s:Nat):List V→Option (List V)
 | []=>sO []
 |.agg cs::l=>match Nat.beq cs.length s with
  |true=>match rdL f cs with
   |some r=>JG (.agg r) (Zc6 f s l)
   |none=>nO
  |false=>nO
 |_::_=>nO
def Zel(s:Nat):Nat→List V→Option (List V)
 |0,_=>sO []
 |n+1,l=>match ZaP s l with
  |some c=>JG (.agg c) (Zel s n (Za9 s l))
  |none=>nO
def rd(σ:S):Nat→V→Option V
 |0,_=>nO
 |n+1,v=>match v with
  |.int k a=>sO (.int k a)
  |.bool b=>sO (.bool b)
  |.str s=>sO (.str s)
  |.nilsl=>sO .nilsl
  |.nilptr=>sO .nilptr
  |.nilmap=>sO .nilmap
  |.nilfn=>sO .nilfn
  |.niliface=>sO .niliface
  |.agg cs=>match rdL (rd σ n) cs with
   |some r=>sO (.agg r)
   |none=>nO
  |.tup cs=>match rdL (rd σ n) cs with
   |some r=>sO (.tup r)
   |none=>nO
  |.iface t x=>match rd σ n x with
   |some r=>sO (.iface t r)
   |none=>nO
  |.sl _ m s rs=>match Nat.beq rs.length m with
   |true=>match Zc6 (rd σ n) s rs with
    |some r=>sO (.sl 0 m s r)
    |none=>nO
   |false=>nO
  |.msl k o m _ s=>match JM (σ.get k) with
   |some vs=>match ZaP (m*s) (Za9 o vs) with
    |some cs=>match Zel s m cs with
     |some rs=>match Zc6 (rd σ n) s rs with
      |some r=>sO (.sl 0 m s r)
      |none=>nO
     |none=>nO
    |none=>nO
   |none=>nO
  |_=>nO
def dV:Nat→V→D
 |0,_=>.undef
 |n+1,v=>match v with
  |.int k a=>.int k a
  |.bool b=>.bool b
  |.str s=>.str (s.map UInt8.ofNat)
  |.nilsl=>.nilsl
  |.nilptr=>.nilptr
  |.nilmap=>.nilmap
  |.nilfn=>.nilfn
  |.niliface=>.niliface
  |.agg cs=>.agg (cs.map (dV n))
  |.tup cs=>.tup (cs.map (dV n))
  |.iface t x=>.iface t (dV n x)
  |.sl _ m s rs=>.sl .none m s fun i=>match rs[i]? with
   |some (.agg cs)=>cs.map (dV n)
   |_=>[]
  |_=>.undef
def Zyg(n:Nat)(rs:List V)(i:Nat):List D:=match rs[i]? with
 |some (.agg cs)=>cs.map (dV n)
 |_=>[]
theorem ZtA{f}:∀{vs rs},rdL f vs=sO rs→rs.length=vs.length
 | [],rs,h=>by cases h;rfl
 |v::vs,rs,h=>by
  simp[rdL]at h
  split at h<;>(try(grind;done))
  obtain⟨q,hq,rfl⟩:=Kt h
  simp[ZtA hq]
theorem ZeH{σ n}(ih:∀v r,rd σ n v=sO r→∀η,VR η r (dV n r)):∀{vs rs},rdL (rd σ n) vs=sO rs→∀η,VRs η rs (rs.map (dV n))
 | [],rs,h,η=>by
  cases h
  exact .nil
 |v::vs,rs,h,η=>by
  simp[rdL]at h
  split at h<;>(try(grind;done))
  rename_i r hr
  obtain⟨q,hq,rfl⟩:=Kt h
  exact .cons _ _ _ _ (ih v r hr η) (ZeH ih hq η)
theorem Zf0{σ n sz}(ih:∀v r,rd σ n v=sO r→∀η,VR η r (dV n r)):∀{vs rs},Zc6 (rd σ n) sz vs=sO rs→rs.length=vs.length∧∀η,VRr η sz rs (Zyg n rs)
 | [],rs,h=>by
  cases h
  exact⟨rfl,fun _=>.nil _ _⟩
 |v::vs,rs,h=>by
  cases v<;>simp[Zc6]at h
  split at h<;>(try(grind;done))
  rename_i hb
  rw[ZZ]at hb
  split at h<;>(try(grind;done))
  rename_i r hr
  obtain⟨q,hq,rfl⟩:=Kt h
  obtain⟨h1,h2⟩:=Zf0 ih hq
  exact⟨by simp[h1],fun η=>.cons _ _ _ _ (ZeH ih hr η) (by rw[ZtA hr,hb]) (h2 η)⟩
theorem Zmb{sz}:∀{m cs rs},Zel sz m cs=sO rs→rs.length=m
 |0,cs,rs,h=>by cases h;rfl
 |m+1,cs,rs,h=>by
  simp[Zel]at h
  split at h<;>(try(grind;done))
  obtain⟨q,hq,rfl⟩:=Kt h
  simp[Zmb hq]
theorem Zj3{σ}:∀(n v r),rd σ n v=sO r→∀η,VR η r (dV n r)
 |0,v,r,h=>by simp[rd]at h
 |n+1,v,r,h=>fun η=>by
  have ih:=Zj3 (σ:=σ) n
  cases v<;>simp only[rd,ZEz,reduceCtorEq]at h
  case int=>subst h;exact .int _ _
  case bool=>subst h;exact .bool _
  case str=>subst h;exact .str _
  case nilsl=>subst h;exact .nilsl
  case nilptr=>subst h;exact .nilptr
  case nilmap=>subst h;exact .nilmap
  case nilfn=>subst h;exact .nilfn
  case niliface=>subst h;exact .niliface
  case agg cs =>
   split at h<;>simp only[ZEz,reduceCtorEq]at h
   rename_i q hq
   subst h
   exact .agg _ _ (ZeH ih hq η)
  case tup cs =>
   split at h<;>simp only[ZEz,reduceCtorEq]at h
   rename_i q hq
   subst h
   exact .tup _ _ (ZeH ih hq η)
  case iface t x =>
   split at h<;>simp only[ZEz,reduceCtorEq]at h
   rename_i q hq
   subst h
   exact .iface _ _ _ (ih x q hq η)
  case sl t m sz rs =>
   split at h<;>(try(simp only[reduceCtorEq]at h;done))
   rename_i hb
   rw[ZZ]at hb
   split at h<;>simp only[ZEz,reduceCtorEq]at h
   rename_i q hq
   subst h
   obtain⟨h1,h2⟩:=Zf0 ih hq
   exact .sl _ _ _ _ _ _ (h2 η) (h1.trans hb) (.inl rfl)
  case msl k o m cap sz =>
   split at h<;>(try(simp only[reduceCtorEq]at h;done))
   split at h<;>(try(simp only[reduceCtorEq]at h;done))
   split at h<;>(try(simp only[reduceCtorEq]at h;done))
   rename_i rs hrs
   split at h<;>simp only[ZEz,reduceCtorEq]at h
   rename_i q hq
   subst h
   obtain⟨h1,h2⟩:=Zf0 ih hq
   exact .sl _ _ _ _ _ _ (h2 η) (h1.trans (Zmb hrs)) (.inl rfl)
def Zt0(η:Nm)(σ:S)(s:St)(n:Nat):Prop:=∀v r d,rd σ n v=sO r→VR η v d→∃Ln,(∀b∈Ln,∃ds,s b=sO (.cells ds))∧Ys s Ln d (dV n r)
theorem Zgv{η σ s n}(ih:Zt0 η σ s n):∀{vs rs ds},rdL (rd σ n) vs=sO rs→VRs η vs ds →
  ∃Ln,(∀b∈Ln,∃ds,s b=sO (.cells ds))∧LdC s Ln ds (rs.map (dV n))
 | [],rs,ds,h,hv=>by
  obtain rfl:=hv.inv0
  cases h
  exact⟨[],by simp,.nil⟩
 |v::vs,rs,ds,h,hv=>by
  obtain⟨d,ds',rfl,h1,h2⟩:=hv.inv
  simp[rdL]at h
  split at h<;>(try(grind;done))
  rename_i r hr
  obtain⟨q,hq,rfl⟩:=Kt h
  obtain⟨L1,a1,a2⟩:=ih v r d hr h1
  obtain⟨L2,b1,b2⟩:=Zgv ih hq h2
  refine⟨L1++L2,fun b hb=>?_,.cons (a2.more fun b hb=>by simp[hb]) (b2.more fun b hb=>by simp[hb])⟩
  rcases List.mem_append.1 hb with hb|hb
  ·exact a1 b hb
  ·exact b1 b hb
theorem ZiY{η}{σ}{s}{n sz}(ih:Zt0 η σ s n):∀{vs rs} {row},Zc6 (rd σ n) sz vs=sO rs→VRr η sz vs row →
  ∃Ln,(∀b∈Ln,∃ds,s b=sO (.cells ds))∧∀i,i<vs.length→LdC s Ln (row i) (Zyg n rs i)
 | [],rs,row,h,hv=>⟨[],by simp,by simp⟩
 |v::vs,rs,row,h,hv=>by
  obtain⟨cs,rfl,h1,h2,h3⟩:=hv.inv
  simp[Zc6]at h
  split at h<;>(try(grind;done))
  split at h<;>(try(grind;done))
  rename_i r hr
  obtain⟨q,hq,rfl⟩:=Kt h
  obtain⟨L1,a1,a2⟩:=Zgv ih hr h1
  obtain⟨L2,b1,b2⟩:=ZiY ih hq h3
  refine⟨L1++L2,fun b hb=>?_,fun i hi=>?_⟩
  ·rcases List.mem_append.1 hb with hb|hb
   ·exact a1 b hb
   ·exact b1 b hb
  ·cases i with
   |zero=>exact a2.more fun b hb=>by simp[hb]
   |succ i =>
    have:=b2 i (by simpa using hi)
    exact LdC.more this fun b hb=>by simp[hb]
theorem ZoQ{η sz}:∀{m cs rs ds},Zel sz m cs=sO rs→VRs η cs ds→rs.length=m∧VRr η sz rs fun i=>(ds.drop (i*sz)).take sz
 |0,cs,rs,ds,h,hv=>by
  cases h
  exact⟨rfl,.nil _ _⟩
 |m+1,cs,rs,ds,h,hv=>by
  simp[Zel]at h
  split at h<;>(try(grind;done))
  rename_i c hc
  obtain⟨q,hq,rfl⟩:=Kt h
  obtain⟨c1,rfl⟩:=JO hc
  rw[Q4]at hq
  obtain⟨d1,d2⟩:=ZoQ hq (hv.drop sz)
  refine⟨by simp[d1],.cons _ _ _ _ (by simpa using hv.take sz) (by simp;omega) ?_⟩
  have e:(fun i=>((ds.drop sz).drop (i*sz)).take sz)=fun i=>(ds.drop ((i+1)*sz)).take sz:=by
   funext i
   rw[List.drop_drop,ZE2,Nat.one_mul,Nat.add_comm]
  rw[e]at d2
  exact d2
theorem Zwv{η σ s n}(ih:Zt0 η σ s n)(hS:Zql η σ s){k b o m cap sz cv cs rs q}(hk:η k=sO (.tip b))(hcv:JM (σ.get k)=sO cv)(hcs:ZaP (m*sz) (Za9 o cv)=sO cs)(hrs:Zel sz m cs=sO rs)(hq:Zc6 (rd σ n) sz rs=sO q):
  ∃Ln,(∀b∈Ln,∃ds,s b=sO (.cells ds))∧Ys s Ln (.msl b o m cap sz) (.sl .none m sz (Zyg n q)):=by
 obtain⟨ds,ex,hb,hv⟩:=hS _ _ _ hcv hk
 rw[Q4]at hcs
 obtain⟨c1,rfl⟩:=JO hcs
 obtain⟨e1,e2⟩:=ZoQ hrs ((hv.drop o).take (m*sz))
 obtain⟨L,a1,a2⟩:=ZiY ih hq e2
 have hl:=hv.len
 rw[ZFh,hl]at c1
 refine⟨b::L,fun c hc=>?_,Ys.mslo (ds:=ds++ex) (by simp) hb (by rw[ZEM];omega) (fun i hi=>?_)⟩
 ·rcases List.mem_cons.1 hc with rfl|hc
  ·exact⟨_,hb⟩
  ·exact a1 c hc
 ·have h1:=a2 i (by omega)
  have hm:(i+1)*sz≤m*sz:=ZEW _ hi
  rw[ZE2,Nat.one_mul]at hm
  have e:((((ds.drop o).take (m*sz)).drop (i*sz)).take sz)=((ds++ex).drop (o+i*sz)).take sz:=by
   rw[List.drop_take,List.take_take,List.drop_drop,Nat.min_eq_left (by omega),List.drop_append,List.take_append_of_le_length (by rw[ZFh];omega)]
  rw[e]at h1
  exact h1.more fun b hb=>by simp[hb]
theorem Zqh{η σ s}(hS:Zql η σ s):∀n,Zt0 η σ s n
 |0=>fun v r d h _=>by simp[rd]at h
 |n+1=>fun v r d h hv=>by
  have ih:=Zqh hS n
  have nn:∀b∈([]:List Nat),∃ds,s b=sO (.cells ds):=by simp
  cases hv<;>simp only[rd,ZEz,reduceCtorEq]at h
  case int=>subst h;exact⟨[],nn,Ys.refl _⟩
  case bool=>subst h;exact⟨[],nn,Ys.refl _⟩
  case str=>subst h;exact⟨[],nn,Ys.refl _⟩
  case nilsl=>subst h;exact⟨[],nn,Ys.refl _⟩
  case nilptr=>subst h;exact⟨[],nn,Ys.refl _⟩
  case nilmap=>subst h;exact⟨[],nn,Ys.refl _⟩
  case nilfn=>subst h;exact⟨[],nn,Ys.refl _⟩
  case niliface=>subst h;exact⟨[],nn,Ys.refl _⟩
  case agg cs ds hc =>
   split at h<;>simp only[ZEz,reduceCtorEq]at h
   rename_i q hq
   subst h
   obtain⟨L,a1,a2⟩:=Zgv ih hq hc
   exact⟨L,a1,Ys.agg a2⟩
  case tup cs ds hc =>
   split at h<;>simp only[ZEz,reduceCtorEq]at h
   rename_i q hq
   subst h
   obtain⟨L,a1,a2⟩:=Zgv ih hq hc
   exact⟨L,a1,Ys.tup a2⟩
  case iface t x d hx =>
   split at h<;>simp only[ZEz,reduceCtorEq]at h
   rename_i q hq
   subst h
   obtain⟨L,a1,a2⟩:=ih x q d hq hx
   exact⟨L,a1,Ys.iface a2⟩
  case sl t m sz rs τ row hr hn ht =>
   split at h<;>(try(simp only[reduceCtorEq]at h;done))
   split at h<;>simp only[ZEz,reduceCtorEq]at h
   rename_i q hq
   subst h
   obtain⟨L,a1,a2⟩:=ZiY ih hq hr
   exact⟨L,a1,Ys.sl (fun i hi=>a2 i (by omega))⟩
  case msl k b o m cap sz hk =>
   split at h<;>(try(simp only[reduceCtorEq]at h;done))
   rename_i cv hcv
   split at h<;>(try(simp only[reduceCtorEq]at h;done))
   rename_i cs hcs
   split at h<;>(try(simp only[reduceCtorEq]at h;done))
   rename_i rs hrs
   split at h<;>simp only[ZEz,reduceCtorEq]at h
   rename_i q hq
   subst h
   exact Zwv ih hS hk hcv hcs hrs hq
  case gsl k b o m cap sz c hk _ _ _ =>
   split at h<;>(try(simp only[reduceCtorEq]at h;done))
   rename_i cv hcv
   split at h<;>(try(simp only[reduceCtorEq]at h;done))
   rename_i cs hcs
   split at h<;>(try(simp only[reduceCtorEq]at h;done))
   rename_i rs hrs
   split at h<;>simp only[ZEz,reduceCtorEq]at h
   rename_i q hq
   subst h
   exact Zwv ih hS hk hcv hcs hrs hq
def ZuX(n:Nat):Option Out→Option V
 |some o=>match o.pan with
  |false=>rd o.σ n o.v
  |true=>nO
 |none=>nO
theorem Zn9{η η' a}:∀{ks vs ds},J0 (Zew a) ks vs=true→VRs η vs ds→VRs η' (ks.map (zV a)) ds
 | [],[],ds,_,hb=>by obtain rfl:=hb.inv0;exact .nil
 | [],_::_,ds,h,_=>by cases h
 |_::_,[],ds,h,_=>by cases h
 |x::ks,y::vs,ds,h,hb=>by
  simp only[J0]at h
  split at h<;>(try(grind;done))
  rename_i hx
  obtain⟨d,ds',rfl,h1,h2⟩:=hb.inv
  exact .cons _ _ _ _ (Zwc a hx h1) (Zn9 h h2)
structure KW where
 f:FuncId
 a:Nat
 n:Nat
 ks:List V
 r:V
def WT(P:Program)(k:KW):Prop:=∀(vs:List V) (η:Nm) (ds:List D),J0 (Zew k.a) k.ks vs=true→VRs η vs ds→Ze P k.f ds (dV k.n k.r)∧VR η k.r (dV k.n k.r)
theorem Jj{C}(hlib:∀t,Qt ⟨C,t⟩)(k){m}(h:ZuX k.n ((Zfa C k.f).run (run C m) (k.ks.map (zV k.a)) T.nil 2)=sO k.r):WT C.P k:=by
 intro vs η ds hm hv
 cases ho:(Zfa C k.f).run (run C m) (k.ks.map (zV k.a)) T.nil 2 with
 |none=>rw[ho]at h;cases h
 |some o =>
  rw[ho]at h
  simp[ZuX]at h
  split at h<;>(try(grind;done))
  rename_i hpan
  have hih:=Zm6 hlib (fun C' ih he hih=>ZtC (by subst he;exact hlib _) hih) m St.emp
  have hcall:=Zlj (C:=⟨C,St.emp⟩) (hlib _) hih ho (Zn9 hm hv) Zwi (Zyj C nm0 St.emp)
  refine⟨ZgS (hcall.frz fun r s hp=>?_),?_⟩
  ·obtain⟨η',d',k1,k2,k3,k4,k5⟩:=hp
   rw[hpan]at k5
   obtain⟨Ln,a1,a2⟩:=Zqh (fun _ _ _ h hb=>k3.cells h hb) k.n o.v k.r d' h k4
   exact⟨d',Ln,k5,a1,a2⟩
  ·exact Zj3 k.n o.v k.r h η
def Zoj(f:FuncId):List KW→List KW
 | []=>[]
 |k::l=>match Nat.beq f k.f with
  |true=>k::Zoj f l
  |false=>Zoj f l
def Zg4:List KW→List V→Option V
 | [],_=>nO
 |k::l,vs=>match J0 (Zew k.a) k.ks vs with
  |true=>sO k.r
  |false=>Zg4 l vs
def Zun(ih:V→Bool):V→Bool
 |.int _ _=>true
 |.bool _=>true
 |.str _=>true
 |.nilsl=>true
 |.nilptr=>true
 |.nilmap=>true
 |.nilfn=>true
 |.niliface=>true
 |.agg cs=>cs.all ih
 |.tup cs=>cs.all ih
 |_=>false
def Zp9(n:Nat):V→Bool:=Nat.rec (motive:=fun _=>V→Bool) (fun _=>false) (fun _ ih=>Zun ih) n
theorem Ztp{N m}:∀(n) {v},Zp9 n v=true→SC N (dV m v)
 |0,v,h=>by cases h
 |n+1,v,h=>by
  have h':Zun (Zp9 n) v=true:=h
  cases m with
  |zero=>exact .undef
  |succ m =>
   have hl:∀{cs:List V},cs.all (Zp9 n)=true→∀c∈cs.map (dV m),SC N c:=fun{cs} hc c hm=>by
    obtain⟨x,hx,rfl⟩:=List.mem_map.1 hm
    exact Ztp n (List.all_eq_true.1 hc x hx)
   cases v<;>simp only[Zun,ZE3]at h'<;>simp[dV]
   case int=>exact .int _ _
   case bool=>exact .bool _
   case str=>exact .str _
   case nilsl=>exact .nilsl
   case nilptr=>exact .nilptr
   case nilmap=>exact .nilmap
   case nilfn=>exact .nilfn
   case niliface=>exact .niliface
   case agg cs=>exact .agg _ (hl h')
   case tup cs=>exact .tup _ (hl h')
def ZxN(f0:FuncId)(K:List KW)(f:FuncId):Option (S→List V→Option V):=match Zoj f K with
 | []=>Jl f0 f
 |k::l=>sO fun σ vs=>match Zg4 (k::l) vs with
  |some r=>sO r
  |none=>match rdL (rd σ 40) vs with
   |some ws=>match Zg4 (k::l) ws with
    |some r=>noV (Zp9 40 r) (sO r)
    |none=>nO
   |none=>nO
theorem ZeM{f}:∀{K k},k∈Zoj f K→k∈K∧k.f=f
 | [],k,h=>by simp[Zoj]at h
 |x::K,k,h=>by
  simp only[Zoj]at h
  split at h
  ·rename_i hb
   rw[ZZ]at hb
   rcases List.mem_cons.1 h with rfl|h
   ·exact⟨by simp,hb.symm⟩
   ·exact⟨by simp[(ZeM h).1],(ZeM h).2⟩
  ·exact⟨by simp[(ZeM h).1],(ZeM h).2⟩
theorem ZoZ{vs v}:∀{K},Zg4 K vs=sO v→∃k∈K,J0 (Zew k.a) k.ks vs=true∧v=k.r
 | [],h=>by simp[Zg4]at h
 |x::K,h=>by
  simp only[Zg4]at h
  split at h
  ·rename_i hm
   simp only[ZEz]at h
   exact⟨x,by simp,hm,h.symm⟩
  ·obtain⟨k,h1,h2⟩:=ZoZ h
   exact⟨k,by simp[h1],h2⟩
theorem Zwu{σ n vs rs}(h:rdL (rd σ n) vs=sO rs)(η):VRs η rs (rs.map (dV n)):=ZeH (fun v r h η=>Zj3 n v r h η) h η
theorem Zzf{P mu f0 K}(h0:∀t,Qt ⟨⟨P,Jl f0,mu⟩,t⟩)(hK:∀k∈K,WT P k)(t):Qt ⟨⟨P,ZxN f0 K,mu⟩,t⟩:=by
 intro f g σ vs v hfg hg η ds s hv hS
 simp[ZxN]at hfg
 split at hfg
 ·exact h0 t f g σ vs v hfg hg η ds s hv hS
 ·rename_i k l hs
  cases hfg
  have key:∀{ws:List V} {v:V},Zg4 (k::l) ws=sO v→∃k':KW,f=k'.f∧v=k'.r∧∀(η:Nm) (ds:List D),VRs η ws ds→Ze P k'.f ds (dV k'.n k'.r)∧VR η k'.r (dV k'.n k'.r):=fun{ws v} hk=>by
   obtain⟨k',h1,h2,rfl⟩:=ZoZ hk
   rw[←hs]at h1
   obtain⟨h3,rfl⟩:=ZeM h1
   exact⟨k',rfl,rfl,fun η ds hv=>hK k' h3 ws η ds h2 hv⟩
  simp only at hg
  split at hg
  ·rename_i r hr
   cases hg
   obtain⟨k',rfl,rfl,hk⟩:=key hr
   obtain⟨h4,h5⟩:=hk η ds hv
   exact⟨_,h5,h4 s⟩
  ·split at hg<;>(try(grind;done))
   rename_i ws hws
   split at hg<;>(try(grind;done))
   rename_i r hr
   unfold noV at hg
   split at hg<;>simp at hg
   rename_i hfl
   subst hg
   obtain⟨k',rfl,rfl,hk⟩:=key hr
   obtain⟨Ln,a1,a2⟩:=Zgv (Zqh hS 40) hws hv
   obtain⟨h4,h5⟩:=hk η _ (Zwu hws η)
   refine⟨_,h5,(Zb.lend a1 a2 (h4 _) ?_).mono ?_⟩
   ·rintro r S ⟨rfl,rfl⟩
    exact⟨Ztp 40 hfl,fun b o hb=>by simp at hb⟩
   ·rintro r S ⟨S',⟨rfl,rfl⟩,_,rfl⟩
    exact⟨rfl,rfl⟩
theorem LdC.le0{Ln l l'}(h:LdC St.emp Ln l l'):LeC l l':=by
 induction h with
 |nil=>exact .nil
 |cons h _ ih=>exact .cons (fun g w v hr=>h g w v (fun b _ ds hd=>by simp[St.emp]at hd) hr) ih
theorem Zau{P}(k)(hc:Ze P k.f (k.ks.map (dV 40)) (dV k.n k.r))(h1:rdL (rd T.nil 40) (k.ks.map (zV k.a))=sO k.ks)(h2:rd T.nil k.n k.r=sO k.r):WT P k:=by
 intro vs η ds hm hv
 obtain⟨Ln,_,a2⟩:=Zgv (s:=St.emp) (Zqh (fun _ _ _ h hb=>(Zyj ⟨P,fun _=>nO,fun _ _=>false⟩ nm0 St.emp).cells h hb) 40) h1 (Zn9 (η':=nm0) hm hv)
 exact⟨hc.leA a2.le0,Zj3 k.n k.r k.r h2 η⟩
end Go.DL
namespace Go.DL
open Go Go.Proofs
variable {kp:Option (List Nat)}{L:Loc}{ρ:Env}{s:St}{w:World}{os:List DOp}{ds:List D}{B:List (Nat × Rd)}{dst:Option Nat}{tmps:Array Value}{g:G}{Φ:Res→St→Prop}{ν:Nat→Nat}{xs:List Opd}{side:Prop}{row:Nat→List D}{vs:List V}
def Zaw(f:FuncId)(_:Option Nat):Bool:=ZfW f [6,13,15,17,18,27,28,29,33,34,39,40,41,52,53,58,59,60,62,65,67,74,75,99,100,102,116,120,126,170,203]
theorem Kv(t:St):Qt ⟨⟨ZEA,Jl 149,Zaw⟩,t⟩ :=
 Zze (n:=188) (by kernel_rfl) Tryz.func188 (by kernel_rfl) (by kernel_rfl) (by kernel_rfl) (by kernel_rfl) t
def ZA4:V:=.agg [.str [100],.sl 0 3 2 [.agg [.str [109],.sl 0 2 15 [.agg [.str [110],.int .i64 1,.int .i64 8,.bool false,.bool false,.int .i64 0,.int .i64 9,.int .i64 0,.nilsl,.str [],.str [],.str [],.nilsl,.int .i64 0,.int .i64 0],.agg [.str [98],.int .i64 4,.int .i64 0,.bool false,.bool false,.int .i64 0,.int .i64 0,.int .i64 0,.sl 0 1 2 [.agg [.str [110],.int .i64 1]],.str [],.str [],.str [],.nilsl,.int .i64 0,.int .i64 0]]],.agg [.str [115,48],.sl 0 1 15 [.agg [.str [122],.int .i64 2,.int .i64 8,.bool false,.bool false,.int .i64 7,.int .i64 0,.int .i64 0,.nilsl,.str [],.str [],.str [],.nilsl,.int .i64 0,.int .i64 0]]],.agg [.str [115],.sl 0 2 15 [.agg [.str [116],.int .i64 1,.int .i64 8,.bool false,.bool false,.int .i64 1,.int .i64 2,.int .i64 0,.nilsl,.str [],.str [],.str [],.nilsl,.int .i64 0,.int .i64 0],.agg [.str [99],.int .i64 9,.int .i64 0,.bool false,.bool false,.int .i64 0,.int .i64 0,.int .i64 0,.nilsl,.str [],.str [116],.str [],.sl 0 2 3 [.agg [.int .i64 1,.int .i64 1,.str [109]],.agg [.int .i64 2,.int .i64 2,.str [115,48]]],.int .i64 0,.int .i64 0]]]],.str [115]]
def kf0:KW:=⟨31,40,40,[ZA4],.bool true⟩
def kf1:KW:=⟨168,40,40,[.sl 0 1 1 [.agg [.str [110]]],.str [46]],.str [110]⟩
def kf2:KW:=⟨168,40,40,[.sl 0 1 1 [.agg [.str [98]]],.str [46]],.str [98]⟩
def kf3:KW:=⟨168,40,40,[.sl 0 1 1 [.agg [.str [116]]],.str [46]],.str [116]⟩
def kf4:KW:=⟨168,40,40,[.sl 0 1 1 [.agg [.str [99]]],.str [46]],.str [99]⟩
def kf5:KW:=⟨168,40,40,[.sl 0 2 1 [.agg [.str [99]],.agg [.str [109]]],.str [46]],.str [99,46,109]⟩
def kf6:KW:=⟨168,40,40,[.sl 0 2 1 [.agg [.str [99,46,109]],.agg [.str [110]]],.str [46]],.str [99,46,109,46,110]⟩
def kf7:KW:=⟨168,40,40,[.sl 0 2 1 [.agg [.str [99,46,109]],.agg [.str [98]]],.str [46]],.str [99,46,109,46,98]⟩
def kf8:KW:=⟨12,40,40,[.str [109,40,110,61,50,32,98,35,48,49,48,50,41]],.tup [.agg [.str [109],.int .i64 0,.nilsl,.nilsl,.sl 0 2 5 [.agg [.str [110],.int .i64 2,.nilsl,.nilsl,.nilsl],.agg [.str [98],.int .i64 0,.sl 0 2 1 [.agg [.int .u8 1],.agg [.int .u8 2]],.nilsl,.nilsl]]],.int .i64 0]⟩
def kf9:KW:=⟨12,40,40,[.str [109,40,110,61,50,32,98,35,48,49,41]],.tup [.agg [.str [109],.int .i64 0,.nilsl,.nilsl,.sl 0 2 5 [.agg [.str [110],.int .i64 2,.nilsl,.nilsl,.nilsl],.agg [.str [98],.int .i64 0,.sl 0 1 1 [.agg [.int .u8 1]],.nilsl,.nilsl]]],.int .i64 0]⟩
def Zuw:KW:=⟨12,40,40,[.str [109,40,110,61,49,50,32,98,35,48,49,41]],.tup [.agg [.str [109],.int .i64 0,.nilsl,.nilsl,.sl 0 2 5 [.agg [.str [110],.int .i64 12,.nilsl,.nilsl,.nilsl],.agg [.str [98],.int .i64 0,.sl 0 1 1 [.agg [.int .u8 1]],.nilsl,.nilsl]]],.int .i64 0]⟩
def Zux:KW:=⟨12,40,40,[.str [109,40,110,61,49,32,98,61,49,41]],.tup [.agg [.str [109],.int .i64 0,.nilsl,.nilsl,.sl 0 2 5 [.agg [.str [110],.int .i64 1,.nilsl,.nilsl,.nilsl],.agg [.str [98],.int .i64 1,.nilsl,.nilsl,.nilsl]]],.int .i64 0]⟩
def Zuy:KW:=⟨12,40,40,[.str [115,40,116,61,49,32,99,40,109,40,110,32,98,41,41,41]],.tup [.agg [.str [115],.int .i64 0,.nilsl,.nilsl,.sl 0 2 5 [.agg [.str [116],.int .i64 1,.nilsl,.nilsl,.nilsl],.agg [.str [99],.int .i64 0,.nilsl,.nilsl,.sl 0 1 5 [.agg [.str [109],.int .i64 0,.nilsl,.nilsl,.sl 0 2 5 [.agg [.str [110],.int .i64 0,.nilsl,.nilsl,.nilsl],.agg [.str [98],.int .i64 0,.nilsl,.nilsl,.nilsl]]]]]]],.int .i64 0]⟩
def Zuz:KW:=⟨12,40,40,[.str [115,40,116,61,50,32,99,40,109,40,110,32,98,41,41,41]],.tup [.agg [.str [115],.int .i64 0,.nilsl,.nilsl,.sl 0 2 5 [.agg [.str [116],.int .i64 2,.nilsl,.nilsl,.nilsl],.agg [.str [99],.int .i64 0,.nilsl,.nilsl,.sl 0 1 5 [.agg [.str [109],.int .i64 0,.nilsl,.nilsl,.sl 0 2 5 [.agg [.str [110],.int .i64 0,.nilsl,.nilsl,.nilsl],.agg [.str [98],.int .i64 0,.nilsl,.nilsl,.nilsl]]]]]]],.int .i64 0]⟩
def ZuA:KW:=⟨12,40,40,[.str [115,40,116,61,50,32,99,40,109,40,110,32,98,35,48,51,48,51,41,41,41]],.tup [.agg [.str [115],.int .i64 0,.nilsl,.nilsl,.sl 0 2 5 [.agg [.str [116],.int .i64 2,.nilsl,.nilsl,.nilsl],.agg [.str [99],.int .i64 0,.nilsl,.nilsl,.sl 0 1 5 [.agg [.str [109],.int .i64 0,.nilsl,.nilsl,.sl 0 2 5 [.agg [.str [110],.int .i64 0,.nilsl,.nilsl,.nilsl],.agg [.str [98],.int .i64 0,.sl 0 2 1 [.agg [.int .u8 3],.agg [.int .u8 3]],.nilsl,.nilsl]]]]]]],.int .i64 0]⟩
def ZuB:KW:=⟨12,40,40,[.str [109,40,110,61,51,32,98,35,48,49,41]],.tup [.agg [.str [109],.int .i64 0,.nilsl,.nilsl,.sl 0 2 5 [.agg [.str [110],.int .i64 3,.nilsl,.nilsl,.nilsl],.agg [.str [98],.int .i64 0,.sl 0 1 1 [.agg [.int .u8 1]],.nilsl,.nilsl]]],.int .i64 0]⟩
theorem Zcs(l:List Str)(hn:l.length≤100)(hj:(joinL l [46]).length≤1000)(hr:∀i,i<l.length→row i=[.str (l.getD i dE)]){n:Nat}(he:n=l.length){r:List UInt8}(hr2:r=joinL l [46]):Ze ZEA 168 [.sl .none n 1 row,.str [46]] (.str r):=by
 subst he;subst hr2
 have h:ZX Zbp row l:=hr
 exact(Zcd l (by omega) (by omega)).leA (LeC.two (h.le rfl) (ZEF _))
theorem ZAP:WT ZEA kf1:=Zau _ (Zcs [[110]] (by decide) (by decide) (fun i hi=>by match i,hi with|0,_=>rfl) rfl rfl) (by kernel_rfl) (by kernel_rfl)
theorem ZAQ:WT ZEA kf2:=Zau _ (Zcs [[98]] (by decide) (by decide) (fun i hi=>by match i,hi with|0,_=>rfl) rfl rfl) (by kernel_rfl) (by kernel_rfl)
theorem ZAR:WT ZEA kf3:=Zau _ (Zcs [[116]] (by decide) (by decide) (fun i hi=>by match i,hi with|0,_=>rfl) rfl rfl) (by kernel_rfl) (by kernel_rfl)
theorem ZAS:WT ZEA kf4:=Zau _ (Zcs [[99]] (by decide) (by decide) (fun i hi=>by match i,hi with|0,_=>rfl) rfl rfl) (by kernel_rfl) (by kernel_rfl)
theorem ZAT:WT ZEA kf5:=Zau _ (Zcs [[99],[109]] (by decide) (by decide) (fun i hi=>by match i,hi with|0,_=>rfl|1,_=>rfl) rfl rfl) (by kernel_rfl) (by kernel_rfl)
theorem ZAU:WT ZEA kf6:=Zau _ (Zcs [[99,46,109],[110]] (by decide) (by decide) (fun i hi=>by match i,hi with|0,_=>rfl|1,_=>rfl) rfl rfl) (by kernel_rfl) (by kernel_rfl)
theorem ZAV:WT ZEA kf7:=Zau _ (Zcs [[99,46,109],[98]] (by decide) (by decide) (fun i hi=>by match i,hi with|0,_=>rfl|1,_=>rfl) rfl rfl) (by kernel_rfl) (by kernel_rfl)
theorem ZA5:WT ZEA kf0:=Jj (C:=⟨ZEA,Jl 149,Zaw⟩) Kv kf0 (m:=20000) (by kernel_rfl)
theorem ZAW:WT ZEA kf8:=Jj (C:=⟨ZEA,Jl 149,Zaw⟩) Kv kf8 (m:=20000) (by kernel_rfl)
theorem ZAX:WT ZEA kf9:=Jj (C:=⟨ZEA,Jl 149,Zaw⟩) Kv kf9 (m:=20000) (by kernel_rfl)
theorem ZAc:WT ZEA Zuw:=Jj (C:=⟨ZEA,Jl 149,Zaw⟩) Kv Zuw (m:=20000) (by kernel_rfl)
theorem ZAd:WT ZEA Zux:=Jj (C:=⟨ZEA,Jl 149,Zaw⟩) Kv Zux (m:=20000) (by kernel_rfl)
theorem ZAe:WT ZEA Zuy:=Jj (C:=⟨ZEA,Jl 149,Zaw⟩) Kv Zuy (m:=20000) (by kernel_rfl)
theorem ZAf:WT ZEA Zuz:=Jj (C:=⟨ZEA,Jl 149,Zaw⟩) Kv Zuz (m:=20000) (by kernel_rfl)
theorem ZAg:WT ZEA ZuA:=Jj (C:=⟨ZEA,Jl 149,Zaw⟩) Kv ZuA (m:=20000) (by kernel_rfl)
theorem ZAh:WT ZEA ZuB:=Jj (C:=⟨ZEA,Jl 149,Zaw⟩) Kv ZuB (m:=20000) (by kernel_rfl)
theorem Zzb:∀k∈([kf0,kf1,kf2,kf3,kf4,kf5,kf6,kf7,kf8,kf9,Zuw,Zux,Zuy,Zuz,ZuA,ZuB]:List KW),WT ZEA k:=by
 intro k hk
 simp only[ZFd,List.not_mem_nil,or_false]at hk
 rcases hk with rfl|rfl|rfl|rfl|rfl|rfl|rfl|rfl|rfl|rfl|rfl|rfl|rfl|rfl|rfl|rfl
 ·exact ZA5
 ·exact ZAP
 ·exact ZAQ
 ·exact ZAR
 ·exact ZAS
 ·exact ZAT
 ·exact ZAU
 ·exact ZAV
 ·exact ZAW
 ·exact ZAX
 ·exact ZAc
 ·exact ZAd
 ·exact ZAe
 ·exact ZAf
 ·exact ZAg
 ·exact ZAh
theorem Zn6:Ze ZEA 5 [] (.bool true):=ZzI (C:=⟨ZEA,ZxN 149 [kf0,kf1,kf2,kf3,kf4,kf5,kf6,kf7,kf8,kf9,Zuw,Zux,Zuy,Zuz,ZuA,ZuB],Zaw⟩) (Zzf Kv Zzb) (m:=100000) (by kernel_rfl)
end Go.DL
