/- Lemmas: EvZa, EvZb, K15a, K15b, K15d, K15i, Top1, TopV, TopW, C15t. -/
import Derived.Test.YtmdaecbcadpmcaaGreatDoorT06
import Derived.Test.YtmdaecbcadpmcaaGreatDoorRows
set_option maxHeartbeats 16000000
set_option maxRecDepth 100000
set_option linter.all false
open List renaming length->I
open Option renaming some -> sO, none -> nO
open Inhabited renaming default -> dE
open Decidable renaming decide -> dC
open Bool renaming and_eq_true -> ZHN, false_eq_true -> ZIe
open Go.DL.D.Le renaming refl -> ZHL
open Go.Proofs.Tryz renaming prog -> ZHF
open List renaming getElem?_take -> ZIm, length_append -> ZHO, length_drop -> ZIh, length_take -> ZHZ, mem_cons -> ZIj
open Nat renaming add_mul -> ZIa, mul_le_mul_right -> ZH5
open Option.some renaming injEq -> ZHE
namespace Go.DL
open Go
variable [Zsq]
variable {kp:Option (List Nat)}{L:Loc}{H:Env}{s:St}{w:World}{os:List DOp}{ds:List D}{B:List (Nat × Rd)}{dst:Option Nat}{tmps:Array Value}{g:G}{Φ:Res->St->Prop}{Z:Nat->Nat}{xs:List Opd}{side:Prop}{row:Nat->List D}{vs:List V}
def YC.mslo{t Ln b o n cap sz ds row}(hb:b∈Ln)(ht:t b=sO (.cells ds))(hlen:n*sz<=I ds-o)(hrow:∀i,i<n->LdC t Ln ((ds.drop (o+i*sz)).take sz) (row i)):YC t Ln (.msl b o n cap sz) (.sl .none n sz row):=by
 intro g w v hf hr;obtain⟨vs,T,hh,hsz,hc,one,hp⟩:=hf b hb ds ht;cases hr with
 |mslx a _ _ _=>exact .sl0 _ _ _ _ ψ
 |msl _ _ _ _ _ hcap hbig =>
 have z:∀i j,i<n->j<sz->o+i*sz+j<I ds:=λi j hi hj=>by have:(i+1)*sz<=n*sz:=ZH5 _ hi;rw[ZIa,Nat.one_mul]at this;omega
 have u:∀i j,i<n->j<sz->vs[o+i*sz+j]?=sO (vs.getD (o+i*sz+j) undef):=λi j hi hj=>by have h1:=z i j hi hj;simp[Array.getElem?_eq_getElem (show o+i*sz+j<vs.size by omega)]
 have ab:∀i j,i<n->j<sz->vs.getD (o+i*sz+j) undef∈vs:=λi j hi hj=>by have h1:=z i j hi hj;simp only[Array.getD_eq_getD_getElem?,Array.getElem?_eq_getElem (show o+i*sz+j<vs.size by omega)];exact Array.getElem_mem _
 have ac:∀i,i<n->(row i).length=sz:=λi hi=>by rw[<-(hrow i hi).len,ZHZ,ZIh];have:(i+1)*sz<=n*sz:=ZH5 _ hi;rw[ZIa,Nat.one_mul]at this;omega
 refine .sl b o n cap sz row .none (λi j=>vs.getD (o+i*sz+j) undef) ac (λi j hi hj=>?_) (λi j hi hj=>?_) (λi j d hi hd=>?_) (λi j hi hj=>one _ (ab i j hi hj)) trivial hcap hbig;rw[Zbg hh];exact u i j hi hj;have:=z i j hi hj;omega;have hj:j<sz:=by rw[<-ac i hi];exact(List.getElem?_eq_some_iff.1 hd).1
 obtain⟨x,hx,ad⟩:=(hrow i hi).get hd;rw[ZIm,if_pos hj,List.getElem?_drop]at hx;exact ad g w _ hf (hc _ _ x (u i j hi hj) hx)
def YC.tup{t Ln l l'}(h:LdC t Ln l l'):YC t Ln (.tup l) (.tup l'):=by
 intro g w v u n;cases n with
 |tup vs _ hn hc =>refine .tup vs _ (hn.trans h.len) (λi v d hv hd=>?_);obtain⟨x,z,j⟩:=h.get hd;exact j g w v u (hc i v x hv z)
def YC.iface{t Ln T d i}(h:YC t Ln d i):YC t Ln (.iface T d) (.iface T i):=by
 intro g w v n j;cases j with
 |iface _ v _ hv=>exact .iface T v i (h g w v n hv)
def YC.sl{t}{Ln}{τ}{n sz}{row row'}(z:∀i,i<n->LdC t Ln (row i) (row' i)):YC t Ln (.sl τ n sz row) (.sl .none n sz row'):=by
 intro g w v hf hr;cases hr with
 |sl0 a _ _ _ _=>exact .sl0 a _ _ _ ψ
 |sl b o _ cap _ _ _ f hl hc hp hrr one ht hcap hb =>refine .sl b o n cap sz row' .none f (λi hi=>by rw[<-(z i hi).len];exact hl i hi) hc hp (λi j d hi hd=>?_) one trivial hcap hb;obtain⟨x,hx,u⟩:=(z i hi).get hd;exact u g w _ hf (hrr i j x hi hx)
def YC.more{t Ln Ln' d i}(h:YC t Ln d i)(j:∀b∈Ln,b∈Ln'):YC t Ln' d i:=λg w v u n=>h g w v (λb z=>u b (j b z)) n
def LdC.more{t Ln Ln' l l'}(h:LdC t Ln l l')(i:∀b∈Ln,b∈Ln'):LdC t Ln' l l':=by
 induction h with
 |nil=>exact .nil
 |cons h _ ih=>exact .cons (h.more i) ih
def Yp.frz{g s w}(m:Yp g s w){Ln}(hL:∀b∈Ln,∃ds,s b=sO (.cells ds)):Yp (Ju g s Ln) (s.delL Ln) w:=by
 have z:=Zbm m hL;have j:∀c,c∉Ln->(Ju g s Ln).prot c=g.prot c:=λc t=>by simp[Ju,if_neg t]
 refine⟨λc x i=>?_,λc x i=>?_,λc t=>?_,λn cs t=>(m.tabs n cs t).mono z⟩;simp[St.delL]at i;by_cases t:c∈Ln;simp[t]at i;simp[t]at i;exact(m.obj c x i).mono z rfl (j c t);simp[St.delL]at i;by_cases t:c∈Ln;simp[t]at i;simp[t]at i;exact m.kept c x i;have u:=m.fresh c t;refine⟨(j c λh=>?_).trans u.1,u.2⟩;obtain⟨ds,hd⟩:=hL c h;have:=(m.obj c _ hd).lt;omega
def Ze.frz{P f args s Φ t}(h:Ze P f args s Φ)(hp:∀r s',Φ r s'->∃d Ln,r=.ret d/\(∀b∈Ln,∃ds,s' b=sO (.cells ds))/\YC s' Ln d t):Ze P f args s λr _=>r=.ret t:=by
 refine⟨h.1,λg w vs hs ha=>(h.2 g w vs hs ha).mono λe z ⟨g',s',r,hx,i,u,hΦ⟩=>?_⟩;obtain⟨d,Ln,rfl,n,j⟩:=hp r s' hΦ;refine⟨Ju g' s' Ln,s'.delL Ln,.ret t,hx.trans (Zbm i n),i.frz n,?_,rfl⟩;cases e with
 |returned v=>exact j _ z v (Zli i n) (Rep.mono u (Zbm i n))
 |_=>exact u.elim
def rdL(f:V->Option V):List V->Option (List V)
 | []=>sO []
 |v::l=>match f v with
  |some r=>Zau r (rdL f l)
  |none=>nO
def Zev(f:V->Option V)(s:Nat):List V->Option (List V)
 | []=>sO []
 |.agg cs::l=>match Nat.beq (I cs) s with
  |true=>match rdL f cs with
   |some r=>Zau (.agg r) (Zev f s l)
   |none=>nO
  |false=>nO
 |_::_=>nO
def Zfw(s:Nat):Nat->List V->Option (List V)
 |0,_=>sO []
 |n+1,l=>match ZbL s l with
  |some c=>Zau (.agg c) (Zfw s n (Zb9 s l))
  |none=>nO
def rd(U:S):Nat->V->Option V
 |0,_=>nO
 |n+1,v=>match v with
  |.int k a=>sO (.int k a)
  |.bool b=>sO (.bool b)
  |.str s=>sO (.str s)
  |.nilsl=>sO .nilsl
  |.nilptr=>sO .nilptr
  |.nilmap=>sO .nilmap
  |.nilfn=>sO .nilfn
  |.niliface=>sO .niliface
  |.agg cs=>match rdL (rd U n) cs with
   |some r=>sO (.agg r)
   |none=>nO
  |.tup cs=>match rdL (rd U n) cs with
   |some r=>sO (.tup r)
   |none=>nO
  |.iface t x=>match rd U n x with
   |some r=>sO (.iface t r)
   |none=>nO
  |.sl _ m s rs=>match Nat.beq (I rs) m with
   |true=>match Zev (rd U n) s rs with
    |some r=>sO (.sl 0 m s r)
    |none=>nO
   |false=>nO
  |.msl k o m _ s=>match Zbs (U.get k) with
   |some vs=>match ZbL (m*s) (Zb9 o vs) with
    |some cs=>match Zfw s m cs with
     |some rs=>match Zev (rd U n) s rs with
      |some r=>sO (.sl 0 m s r)
      |none=>nO
     |none=>nO
    |none=>nO
   |none=>nO
  |_=>nO
def dV:Nat->V->D
 |0,_=>.undef
 |n+1,v=>match v with
  |.int k a=>.int k a
  |.bool b=>.bool b
  |.str s=>.str (s.map UInt8.ofNat)
  |.nilsl=>.nilsl
  |.nilptr=>.nilptr
  |.nilmap=>.nilmap
  |.nilfn=>.nilfn
  |.niliface=>.niliface
  |.agg cs=>.agg (cs.map (dV n))
  |.tup cs=>.tup (cs.map (dV n))
  |.iface t x=>.iface t (dV n x)
  |.sl _ m s rs=>.sl .none m s λi=>match rs[i]? with
   |some (.agg cs)=>cs.map (dV n)
   |_=>[]
  |_=>.undef
def ZAz(n:Nat)(rs:List V)(i:Nat):List D:=match rs[i]? with
 |some (.agg cs)=>cs.map (dV n)
 |_=>[]
def ZvI{f}:∀{vs rs},rdL f vs=sO rs->I rs=I vs
 | [],rs,h=>by cases h;rfl
 |v::vs,rs,h=>by simp[rdL]at h;split at h<;>(try(grind;done));obtain⟨q,i,rfl⟩:=K8 h;simp[ZvI i]
def ZfT{U n}(ih:∀v r,rd U n v=sO r->∀J,VR J r (dV n r)):∀{vs rs},rdL (rd U n) vs=sO rs->∀J,VRs J rs (rs.map (dV n))
 | [],rs,h,J=>by cases h;exact .nil
 |v::vs,rs,h,J=>by simp[rdL]at h;split at h<;>(try(grind;done));rename_i r j;obtain⟨q,i,rfl⟩:=K8 h;exact .cons _ _ _ _ (ih v r j J) (ZfT ih i J)
def Zha{U n sz}(ih:∀v r,rd U n v=sO r->∀J,VR J r (dV n r)):∀{vs rs},Zev (rd U n) sz vs=sO rs->I rs=I vs/\∀J,VRr J sz rs (ZAz n rs)
 | [],rs,h=>by cases h;exact⟨rfl,λ_=>.nil _ _⟩
 |v::vs,rs,h=>by cases v<;>simp[Zev]at h;split at h<;>(try(grind;done));rename_i j;rw[Z8]at j;split at h<;>(try(grind;done));rename_i r i;obtain⟨q,u,rfl⟩:=K8 h;obtain⟨z,t⟩:=Zha ih u;exact⟨by simp[z],λJ=>.cons _ _ _ _ (ZfT ih i J) (by rw[ZvI i,j]) (t J)⟩
def ZnH{sz}:∀{m cs rs},Zfw sz m cs=sO rs->I rs=m
 |0,cs,rs,h=>by cases h;rfl
 |m+1,cs,rs,h=>by simp[Zfw]at h;split at h<;>(try(grind;done));obtain⟨q,hq,rfl⟩:=K8 h;simp[ZnH hq]
def Zlv{U}:∀(n v r),rd U n v=sO r->∀J,VR J r (dV n r)
 |0,v,r,h=>by simp[rd]at h
 |n+1,v,r,h=>λJ=>by
  have ih:=Zlv (U:=U) n;cases v<;>simp only[rd,ZHE,reduceCtorEq]at h;case int=>subst h;exact .int _ _
  case bool=>subst h;exact .bool _
  case str=>subst h;exact .str _
  case nilsl=>subst h;exact .nilsl
  case nilptr=>subst h;exact .nilptr
  case nilmap=>subst h;exact .nilmap
  case nilfn=>subst h;exact .nilfn
  case niliface=>subst h;exact .niliface
  case agg cs =>split at h<;>simp only[ZHE,reduceCtorEq]at h;rename_i q j;subst h;exact .agg _ _ (ZfT ih j J)
  case tup cs =>split at h<;>simp only[ZHE,reduceCtorEq]at h;rename_i q j;subst h;exact .tup _ _ (ZfT ih j J)
  case iface t x =>split at h<;>simp only[ZHE,reduceCtorEq]at h;rename_i q j;subst h;exact .iface _ _ _ (ih x q j J)
  case sl t m sz rs =>split at h<;>(try(simp only[reduceCtorEq]at h;done));rename_i hb;rw[Z8]at hb;split at h<;>simp only[ZHE,reduceCtorEq]at h;rename_i q j;subst h;obtain⟨z,u⟩:=Zha ih j;exact .sl _ _ _ _ _ _ (u J) (z.trans hb) (.inl rfl)
  case msl k o m cap sz =>split at h<;>(try(simp only[reduceCtorEq]at h;done));split at h<;>(try(simp only[reduceCtorEq]at h;done));split at h<;>(try(simp only[reduceCtorEq]at h;done));rename_i rs i;split at h<;>simp only[ZHE,reduceCtorEq]at h;rename_i q j;subst h;obtain⟨z,u⟩:=Zha ih j;exact .sl _ _ _ _ _ _ (u J) (z.trans (ZnH i)) (.inl rfl)
def Zwb(J:Nm)(U:S)(s:St)(n:Nat):Prop:=∀v r d,rd U n v=sO r->VR J v d->∃Ln,(∀b∈Ln,∃ds,s b=sO (.cells ds))/\YC s Ln d (dV n r)
def ZhJ{J U s n}(ih:Zwb J U s n):∀{vs rs ds},rdL (rd U n) vs=sO rs->VRs J vs ds ->
  ∃Ln,(∀b∈Ln,∃ds,s b=sO (.cells ds))/\LdC s Ln ds (rs.map (dV n))
 | [],rs,ds,h,hv=>by obtain rfl:=hv.inv0;cases h;exact⟨[],ψ,.nil⟩
 |v::vs,rs,ds,h,hv=>by obtain⟨d,ds',rfl,z,i⟩:=hv.inv;simp[rdL]at h;split at h<;>(try(grind;done));rename_i r u;obtain⟨q,j,rfl⟩:=K8 h;obtain⟨L1,a1,a2⟩:=ih v r d u z;obtain⟨L2,t,b2⟩:=ZhJ ih j i;refine⟨L1++L2,λb hb=>?_,.cons (a2.more λb hb=>by simp[hb]) (b2.more λb hb=>by simp[hb])⟩;rcases List.mem_append.1 hb with hb|hb;exact a1 b hb;exact t b hb
def Zke{J}{U}{s}{n sz}(ih:Zwb J U s n):∀{vs rs} {row},Zev (rd U n) sz vs=sO rs->VRr J sz vs row ->
  ∃Ln,(∀b∈Ln,∃ds,s b=sO (.cells ds))/\∀i,i<I vs->LdC s Ln (row i) (ZAz n rs i)
 | [],rs,row,h,hv=>⟨[],ψ,ψ⟩
 |v::vs,rs,row,h,hv=>by
  obtain⟨cs,rfl,h1,h2,t⟩:=hv.inv;simp[Zev]at h;split at h<;>(try(grind;done));split at h<;>(try(grind;done));rename_i r hr;obtain⟨q,u,rfl⟩:=K8 h;obtain⟨L1,a1,a2⟩:=ZhJ ih hr h1;obtain⟨L2,z,b2⟩:=Zke ih u t;refine⟨L1++L2,λb hb=>?_,λi j=>?_⟩;rcases List.mem_append.1 hb with hb|hb;exact a1 b hb;exact z b hb;cases i with
  |zero=>exact a2.more λb hb=>by simp[hb]
  |succ i =>have:=b2 i (by simpa using j);exact LdC.more this λb hb=>by simp[hb]
def ZqC{J sz}:∀{m cs rs ds},Zfw sz m cs=sO rs->VRs J cs ds->I rs=m/\VRr J sz rs λi=>(ds.drop (i*sz)).take sz
 |0,cs,rs,ds,h,hv=>by cases h;exact⟨rfl,.nil _ _⟩
 |m+1,cs,rs,ds,h,hv=>by
  simp[Zfw]at h;split at h<;>(try(grind;done));rename_i c hc;obtain⟨q,hq,rfl⟩:=K8 h;obtain⟨c1,rfl⟩:=ZaD hc;rw[JW]at hq;obtain⟨n,j⟩:=ZqC hq (hv.drop sz);refine⟨by simp[n],.cons _ _ _ _ (by simpa using hv.take sz) (by simp;omega) ?_⟩;have e:(λi=>((ds.drop sz).drop (i*sz)).take sz)=λi=>(ds.drop ((i+1)*sz)).take sz:=by funext i;rw[List.drop_drop,ZIa,Nat.one_mul,Nat.add_comm]
  rw[e]at j;exact j
def ZyO{J U s n}(ih:Zwb J U s n)(hS:Zr9 J U s){k b o m cap sz cv cs rs q}(hk:J k=sO (.tip b))(z:Zbs (U.get k)=sO cv)(j:ZbL (m*sz) (Zb9 o cv)=sO cs)(u:Zfw sz m cs=sO rs)(hq:Zev (rd U n) sz rs=sO q):
  ∃Ln,(∀b∈Ln,∃ds,s b=sO (.cells ds))/\YC s Ln (.msl b o m cap sz) (.sl .none m sz (ZAz n q)):=by
 obtain⟨ds,ex,t,hv⟩:=hS _ _ _ z hk;rw[JW]at j;obtain⟨c1,rfl⟩:=ZaD j;obtain⟨e1,e2⟩:=ZqC u ((hv.drop o).take (m*sz));obtain⟨L,a1,a2⟩:=Zke ih hq e2;have hl:=hv.len;rw[ZIh,hl]at c1;refine⟨b::L,λc hc=>?_,YC.mslo (ds:=ds++ex) ψ t (by rw[ZHO];omega) (λi hi=>?_)⟩;rcases List.mem_cons.1 hc with rfl|hc;exact⟨_,t⟩;exact a1 c hc;have h1:=a2 i ω;have hm:(i+1)*sz<=m*sz:=ZH5 _ hi;rw[ZIa,Nat.one_mul]at hm;have e:((((ds.drop o).take (m*sz)).drop (i*sz)).take sz)=((ds++ex).drop (o+i*sz)).take sz:=by rw[List.drop_take,List.take_take,List.drop_drop,Nat.min_eq_left ω,List.drop_append,List.take_append_of_le_length (by rw[ZIh];omega)]
 rw[e]at h1;exact h1.more λb t=>by simp[t]
def Zr7{J U s}(hS:Zr9 J U s):∀n,Zwb J U s n
 |0=>λv r d h _=>by simp[rd]at h
 |n+1=>λv r d h hv=>by
  have ih:=Zr7 hS n;have nn:∀b∈([]:List Nat),∃ds,s b=sO (.cells ds):=by simp
  cases hv<;>simp only[rd,ZHE,reduceCtorEq]at h;case int=>subst h;exact⟨[],nn,YC.refl _⟩
  case bool=>subst h;exact⟨[],nn,YC.refl _⟩
  case str=>subst h;exact⟨[],nn,YC.refl _⟩
  case nilsl=>subst h;exact⟨[],nn,YC.refl _⟩
  case nilptr=>subst h;exact⟨[],nn,YC.refl _⟩
  case nilmap=>subst h;exact⟨[],nn,YC.refl _⟩
  case nilfn=>subst h;exact⟨[],nn,YC.refl _⟩
  case niliface=>subst h;exact⟨[],nn,YC.refl _⟩
  case agg cs ds hc =>split at h<;>simp only[ZHE,reduceCtorEq]at h;rename_i q hq;subst h;obtain⟨L,a1,a2⟩:=ZhJ ih hq hc;exact⟨L,a1,YC.agg a2⟩
  case tup cs ds hc =>split at h<;>simp only[ZHE,reduceCtorEq]at h;rename_i q hq;subst h;obtain⟨L,a1,a2⟩:=ZhJ ih hq hc;exact⟨L,a1,YC.tup a2⟩
  case iface t x d hx =>split at h<;>simp only[ZHE,reduceCtorEq]at h;rename_i q hq;subst h;obtain⟨L,a1,a2⟩:=ih x q d hq hx;exact⟨L,a1,YC.iface a2⟩
  case sl t m sz rs τ row hr hn ht =>split at h<;>(try(simp only[reduceCtorEq]at h;done));split at h<;>simp only[ZHE,reduceCtorEq]at h;rename_i q hq;subst h;obtain⟨L,a1,a2⟩:=Zke ih hq hr;exact⟨L,a1,YC.sl (λi hi=>a2 i ω)⟩
  case msl k b o m cap sz hk =>split at h<;>(try(simp only[reduceCtorEq]at h;done));rename_i cv z;split at h<;>(try(simp only[reduceCtorEq]at h;done));rename_i cs j;split at h<;>(try(simp only[reduceCtorEq]at h;done));rename_i rs u;split at h<;>simp only[ZHE,reduceCtorEq]at h;rename_i q hq;subst h;exact ZyO ih hS hk z j u hq
  case gsl k b o m cap sz c hk _ _ _ =>split at h<;>(try(simp only[reduceCtorEq]at h;done));rename_i cv z;split at h<;>(try(simp only[reduceCtorEq]at h;done));rename_i cs j;split at h<;>(try(simp only[reduceCtorEq]at h;done));rename_i rs u;split at h<;>simp only[ZHE,reduceCtorEq]at h;rename_i q hq;subst h;exact ZyO ih hS hk z j u hq
def ZAw(n:Nat):Option Out->Option V
 |some o=>match o.pan with
  |false=>rd o.U n o.v
  |true=>nO
 |none=>nO
def ZpL{J J' a}:∀{ks vs ds},ZaO (ZfF a) ks vs=true->VRs J vs ds->VRs J' (ks.map (zV a)) ds
 | [],[],ds,_,hb=>by obtain rfl:=hb.inv0;exact .nil
 | [],_::_,ds,h,_=>by cases h
 |_::_,[],ds,h,_=>by cases h
 |x::ks,y::vs,ds,h,hb=>by simp only[ZaO]at h;split at h<;>(try(grind;done));rename_i j;obtain⟨d,ds',rfl,n,i⟩:=hb.inv;exact .cons _ _ _ _ (Zys a j n) (ZpL h i)
structure QO where
 f:FuncId
 a:Nat
 n:Nat
 ks:List V
 r:V
def Kg(P:Program)(k:QO):Prop:=∀(vs:List V) (J:Nm) (ds:List D),ZaO (ZfF k.a) k.ks vs=true->VRs J vs ds->Zc P k.f ds (dV k.n k.r)/\VR J k.r (dV k.n k.r)
def ZaL{C}(n:∀t,Jg ⟨C,t⟩)(k){m}(h:ZAw k.n ((Zh9 C k.f).run (run C m) (k.ks.map (zV k.a)) T.nil 2)=sO k.r):Kg C.P k:=by
 intro vs J ds hm hv;cases z:(Zh9 C k.f).run (run C m) (k.ks.map (zV k.a)) T.nil 2 with
 |none=>rw[z]at h;cases h
 |some o =>rw[z]at h;simp[ZAw]at h;split at h<;>(try(grind;done));rename_i u;have j:=ZoL n (λC' ih he j=>ZvL (by subst he;exact n _) j) m St.emp;have i:=ZmM (C:=⟨C,St.emp⟩) (n _) j z (ZpL hm hv) Zyz (ZAD C nm0 St.emp);refine⟨Znv (i.frz λr s hp=>?_),?_⟩;obtain⟨J',d',k1,k2,k3,k4,k5⟩:=hp;rw[u]at k5;obtain⟨Ln,a1,a2⟩:=Zr7 (λ_ _ _ h hb=>k3.cells h hb) k.n o.v k.r d' h k4;exact⟨d',Ln,k5,a1,a2⟩;exact Zlv k.n o.v k.r h J
def Zp7(f:FuncId):List QO->List QO
 | []=>[]
 |k::l=>match Nat.beq f k.f with
  |true=>k::Zp7 f l
  |false=>Zp7 f l
def Zij:List QO->List V->Option V
 | [],_=>nO
 |k::l,vs=>match ZaO (ZfF k.a) k.ks vs with
  |true=>sO k.r
  |false=>Zij l vs
def Zwx(ih:V->Bool):V->Bool
 |.int _ _=>true
 |.bool _=>true
 |.str _=>true
 |.nilsl=>true
 |.nilptr=>true
 |.nilmap=>true
 |.nilfn=>true
 |.niliface=>true
 |.agg cs=>cs.all ih
 |.tup cs=>cs.all ih
 |_=>false
def Zr0(n:Nat):V->Bool:=Nat.rec (motive:=λ_=>V->Bool) (λ_=>false) (λ_ ih=>Zwx ih) n
def Zvs{N m}:∀(n) {v},Zr0 n v=true->SC N (dV m v)
 |0,v,h=>by cases h
 |n+1,v,h=>by
  have h':Zwx (Zr0 n) v=true:=h;cases m with
  |zero=>exact .undef
  |succ m =>
   have i:∀{cs:List V},cs.all (Zr0 n)=true->∀c∈cs.map (dV m),SC N c:=λ{cs} hc c hm=>by obtain⟨x,j,rfl⟩:=List.mem_map.1 hm;exact Zvs n (List.all_eq_true.1 hc x j)
   cases v<;>simp only[Zwx,ZIe]at h'<;>simp[dV];case int=>exact .int _ _
   case bool=>exact .bool _
   case str=>exact .str _
   case nilsl=>exact .nilsl
   case nilptr=>exact .nilptr
   case nilmap=>exact .nilmap
   case nilfn=>exact .nilfn
   case niliface=>exact .niliface
   case agg cs=>exact .agg _ (i h')
   case tup cs=>exact .tup _ (i h')
def Zz5(f0:FuncId)(K:List QO)(f:FuncId):Option (S->List V->Option V):=match Zp7 f K with
 | []=>Zbo f0 f
 |k::l=>sO λU vs=>match Zij (k::l) vs with
  |some r=>sO r
  |none=>match rdL (rd U 40) vs with
   |some ws=>match Zij (k::l) ws with
    |some r=>noV (Zr0 40 r) (sO r)
    |none=>nO
   |none=>nO
def ZfX{f}:∀{K k},k∈Zp7 f K->k∈K/\k.f=f
 | [],k,h=>by simp[Zp7]at h
 |x::K,k,h=>by simp only[Zp7]at h;split at h;rename_i i;rw[Z8]at i;rcases List.mem_cons.1 h with rfl|h;exact⟨ψ,i.symm⟩;exact⟨by simp[(ZfX h).1],(ZfX h).2⟩;exact⟨by simp[(ZfX h).1],(ZfX h).2⟩
def ZqL{vs v}:∀{K},Zij K vs=sO v->∃k∈K,ZaO (ZfF k.a) k.ks vs=true/\v=k.r
 | [],h=>by simp[Zij]at h
 |x::K,h=>by simp only[Zij]at h;split at h;rename_i hm;simp only[ZHE]at h;exact⟨x,ψ,hm,h.symm⟩;obtain⟨k,j,i⟩:=ZqL h;exact⟨k,by simp[j],i⟩
def ZyN{U n vs rs}(h:rdL (rd U n) vs=sO rs)(J):VRs J rs (rs.map (dV n)):=ZfT (λv r h J=>Zlv n v r h J) h J
def ZBx{P mu f0 K}(h0:∀t,Jg ⟨⟨P,Zbo f0,mu⟩,t⟩)(hK:∀k∈K,Kg P k)(t):Jg ⟨⟨P,Zz5 f0 K,mu⟩,t⟩:=by
 intro f g U vs v i hg J ds s hv hS;simp[Zz5]at i;split at i;exact h0 t f g U vs v i hg J ds s hv hS;rename_i k l hs;cases i;have j:∀{ws:List V} {v:V},Zij (k::l) ws=sO v->∃n:QO,f=n.f/\v=n.r/\∀(J:Nm) (ds:List D),VRs J ws ds->Zc P n.f ds (dV n.n n.r)/\VR J n.r (dV n.n n.r):=λ{ws v} hk=>by obtain⟨n,h1,h2,rfl⟩:=ZqL hk;rw[<-hs]at h1;obtain⟨h3,rfl⟩:=ZfX h1;exact⟨n,rfl,rfl,λJ ds hv=>hK n h3 ws J ds h2 hv⟩
 simp only at hg;split at hg;rename_i r hr;cases hg;obtain⟨n,rfl,rfl,hk⟩:=j hr;obtain⟨h4,h5⟩:=hk J ds hv;exact⟨_,h5,h4 s⟩;split at hg<;>(try(grind;done));rename_i ws u;split at hg<;>(try(grind;done));rename_i r hr;unfold noV at hg;split at hg<;>simp at hg;rename_i z;subst hg;obtain⟨n,rfl,rfl,hk⟩:=j hr;obtain⟨Ln,a1,a2⟩:=ZhJ (Zr7 hS 40) u hv;obtain⟨h4,h5⟩:=hk J _ (ZyN u J);refine⟨_,h5,(Ze.lend a1 a2 (h4 _) ?_).mono ?_⟩;rintro r S ⟨rfl,rfl⟩;exact⟨Zvs 40 z,λb o hb=>by simp at hb⟩;rintro r S ⟨S',⟨rfl,rfl⟩,_,rfl⟩;exact⟨rfl,rfl⟩
def LdC.le0{Ln l l'}(h:LdC St.emp Ln l l'):LeC l l':=by
 induction h with
 |nil=>exact .nil
 |cons h _ ih=>exact .cons (λg w v j=>h g w v (λb _ ds i=>by simp[St.emp]at i) j) ih
def Zbn{P}{k}(j:Zc P k.f (k.ks.map (dV 40)) (dV k.n k.r))(n:rdL (rd T.nil 40) (k.ks.map (zV k.a))=sO k.ks)(i:rd T.nil k.n k.r=sO k.r):Kg P k:=by
 intro vs J ds hm t;obtain⟨Ln,_,a2⟩:=ZhJ (s:=St.emp) (Zr7 (λ_ _ _ h u=>(ZAD ⟨P,λ_=>nO,λ_ _=>false⟩ nm0 St.emp).cells h u) 40) n (ZpL (J':=nm0) hm t);exact⟨j.leA a2.le0,Zlv k.n k.r k.r i J⟩
end Go.DL
namespace Go.DL
open Go Go.Proofs
variable {kp:Option (List Nat)}{L:Loc}{H:Env}{s:St}{w:World}{os:List DOp}{ds:List D}{B:List (Nat × Rd)}{dst:Option Nat}{tmps:Array Value}{g:G}{Φ:Res->St->Prop}{Z:Nat->Nat}{xs:List Opd}{side:Prop}{row:Nat->List D}{vs:List V}
def Zc7(f:FuncId)(_:Option Nat):Bool:=Zg0 f [8,14,15,22,24,25,41,42,50,51,52,53,54,55,57,60,62,63,64,82,83,104,105,107,116,117,151,155,161,200,204]
def Q8(t:St):Jg ⟨⟨ZHF,Zbo 184,Zc7⟩,t⟩ :=
 ZBw (n:=229) (by kernel_rfl) Tryz.func229 (by kernel_rfl) (by kernel_rfl) (by kernel_rfl) (by kernel_rfl) t
def ZDh:V:=.agg [.str [100],.sl 0 3 2 [.agg [.str [109],.sl 0 2 15 [.agg [.str [110],.i 1,.i 8,.bool false,.bool false,.i 0,.i 9,.i 0,.nilsl,.str [],.str [],.str [],.nilsl,.i 0,.i 0],.agg [.str [98],.i 4,.i 0,.bool false,.bool false,.i 0,.i 0,.i 0,.sl 0 1 2 [.agg [.str [110],.i 1]],.str [],.str [],.str [],.nilsl,.i 0,.i 0]]],.agg [.str [115,48],.sl 0 1 15 [.agg [.str [122],.i 2,.i 8,.bool false,.bool false,.i 7,.i 0,.i 0,.nilsl,.str [],.str [],.str [],.nilsl,.i 0,.i 0]]],.agg [.str [115],.sl 0 2 15 [.agg [.str [116],.i 1,.i 8,.bool false,.bool false,.i 1,.i 2,.i 0,.nilsl,.str [],.str [],.str [],.nilsl,.i 0,.i 0],.agg [.str [99],.i 9,.i 0,.bool false,.bool false,.i 0,.i 0,.i 0,.nilsl,.str [],.str [116],.str [],.sl 0 2 3 [.agg [.i 1,.i 1,.str [109]],.agg [.i 2,.i 2,.str [115,48]]],.i 0,.i 0]]]],.str [115]]
def kf0:QO:=⟨48,40,40,[ZDh],.bool true⟩
def kf1:QO:=⟨202,40,40,[.sl 0 1 1 [.agg [.str [110]]],.str [46]],.str [110]⟩
def kf2:QO:=⟨202,40,40,[.sl 0 1 1 [.agg [.str [98]]],.str [46]],.str [98]⟩
def kf3:QO:=⟨202,40,40,[.sl 0 1 1 [.agg [.str [116]]],.str [46]],.str [116]⟩
def kf4:QO:=⟨202,40,40,[.sl 0 1 1 [.agg [.str [99]]],.str [46]],.str [99]⟩
def kf5:QO:=⟨202,40,40,[.sl 0 2 1 [.agg [.str [99]],.agg [.str [109]]],.str [46]],.str [99,46,109]⟩
def kf6:QO:=⟨202,40,40,[.sl 0 2 1 [.agg [.str [99,46,109]],.agg [.str [110]]],.str [46]],.str [99,46,109,46,110]⟩
def kf7:QO:=⟨202,40,40,[.sl 0 2 1 [.agg [.str [99,46,109]],.agg [.str [98]]],.str [46]],.str [99,46,109,46,98]⟩
def kf8:QO:=⟨19,40,40,[.str [109,40,110,61,50,32,98,35,48,49,48,50,41]],.tup [.agg [.str [109],.i 0,.nilsl,.nilsl,.sl 0 2 5 [.agg [.str [110],.i 2,.nilsl,.nilsl,.nilsl],.agg [.str [98],.i 0,.sl 0 2 1 [.agg [.int .u8 1],.agg [.int .u8 2]],.nilsl,.nilsl]]],.i 0]⟩
def kf9:QO:=⟨19,40,40,[.str [109,40,110,61,50,32,98,35,48,49,41]],.tup [.agg [.str [109],.i 0,.nilsl,.nilsl,.sl 0 2 5 [.agg [.str [110],.i 2,.nilsl,.nilsl,.nilsl],.agg [.str [98],.i 0,.sl 0 1 1 [.agg [.int .u8 1]],.nilsl,.nilsl]]],.i 0]⟩
def ZwF:QO:=⟨19,40,40,[.str [109,40,110,61,49,50,32,98,35,48,49,41]],.tup [.agg [.str [109],.i 0,.nilsl,.nilsl,.sl 0 2 5 [.agg [.str [110],.i 12,.nilsl,.nilsl,.nilsl],.agg [.str [98],.i 0,.sl 0 1 1 [.agg [.int .u8 1]],.nilsl,.nilsl]]],.i 0]⟩
def ZwG:QO:=⟨19,40,40,[.str [109,40,110,61,49,32,98,61,49,41]],.tup [.agg [.str [109],.i 0,.nilsl,.nilsl,.sl 0 2 5 [.agg [.str [110],.i 1,.nilsl,.nilsl,.nilsl],.agg [.str [98],.i 1,.nilsl,.nilsl,.nilsl]]],.i 0]⟩
def ZwH:QO:=⟨19,40,40,[.str [115,40,116,61,49,32,99,40,109,40,110,32,98,41,41,41]],.tup [.agg [.str [115],.i 0,.nilsl,.nilsl,.sl 0 2 5 [.agg [.str [116],.i 1,.nilsl,.nilsl,.nilsl],.agg [.str [99],.i 0,.nilsl,.nilsl,.sl 0 1 5 [.agg [.str [109],.i 0,.nilsl,.nilsl,.sl 0 2 5 [.agg [.str [110],.i 0,.nilsl,.nilsl,.nilsl],.agg [.str [98],.i 0,.nilsl,.nilsl,.nilsl]]]]]]],.i 0]⟩
def ZwI:QO:=⟨19,40,40,[.str [115,40,116,61,50,32,99,40,109,40,110,32,98,41,41,41]],.tup [.agg [.str [115],.i 0,.nilsl,.nilsl,.sl 0 2 5 [.agg [.str [116],.i 2,.nilsl,.nilsl,.nilsl],.agg [.str [99],.i 0,.nilsl,.nilsl,.sl 0 1 5 [.agg [.str [109],.i 0,.nilsl,.nilsl,.sl 0 2 5 [.agg [.str [110],.i 0,.nilsl,.nilsl,.nilsl],.agg [.str [98],.i 0,.nilsl,.nilsl,.nilsl]]]]]]],.i 0]⟩
def ZwJ:QO:=⟨19,40,40,[.str [115,40,116,61,50,32,99,40,109,40,110,32,98,35,48,51,48,51,41,41,41]],.tup [.agg [.str [115],.i 0,.nilsl,.nilsl,.sl 0 2 5 [.agg [.str [116],.i 2,.nilsl,.nilsl,.nilsl],.agg [.str [99],.i 0,.nilsl,.nilsl,.sl 0 1 5 [.agg [.str [109],.i 0,.nilsl,.nilsl,.sl 0 2 5 [.agg [.str [110],.i 0,.nilsl,.nilsl,.nilsl],.agg [.str [98],.i 0,.sl 0 2 1 [.agg [.int .u8 3],.agg [.int .u8 3]],.nilsl,.nilsl]]]]]]],.i 0]⟩
def ZwK:QO:=⟨19,40,40,[.str [109,40,110,61,51,32,98,35,48,49,41]],.tup [.agg [.str [109],.i 0,.nilsl,.nilsl,.sl 0 2 5 [.agg [.str [110],.i 3,.nilsl,.nilsl,.nilsl],.agg [.str [98],.i 0,.sl 0 1 1 [.agg [.int .u8 1]],.nilsl,.nilsl]]],.i 0]⟩
def ZdE(l:List Str)(hn:I l<=100)(hj:(joinL l [46]).length<=1000)(u:∀i,i<I l->row i=[.str (l.getD i dE)]){n:Nat}(t:n=I l){r:List UInt8}(j:r=joinL l [46]):Zc ZHF 202 [.sl .none n 1 row,.str [46]] (.str r):=by
 subst t;subst j;have h:ZQ Zcw row l:=u;exact(Zdn l ω ω).leA (LeC.two (h.le rfl) (ZHL _))
def ZC1:Kg ZHF kf1:=Zbn (ZdE [[110]] (by decide) (by decide) (λi j=>by match i,j with|0,_=>rfl) rfl rfl) (by kernel_rfl) (by kernel_rfl)
def ZC2:Kg ZHF kf2:=Zbn (ZdE [[98]] (by decide) (by decide) (λi j=>by match i,j with|0,_=>rfl) rfl rfl) (by kernel_rfl) (by kernel_rfl)
def ZC3:Kg ZHF kf3:=Zbn (ZdE [[116]] (by decide) (by decide) (λi j=>by match i,j with|0,_=>rfl) rfl rfl) (by kernel_rfl) (by kernel_rfl)
def ZC4:Kg ZHF kf4:=Zbn (ZdE [[99]] (by decide) (by decide) (λi j=>by match i,j with|0,_=>rfl) rfl rfl) (by kernel_rfl) (by kernel_rfl)
def ZC5:Kg ZHF kf5:=Zbn (ZdE [[99],[109]] (by decide) (by decide) (λi j=>by match i,j with|0,_=>rfl|1,_=>rfl) rfl rfl) (by kernel_rfl) (by kernel_rfl)
def ZC6:Kg ZHF kf6:=Zbn (ZdE [[99,46,109],[110]] (by decide) (by decide) (λi j=>by match i,j with|0,_=>rfl|1,_=>rfl) rfl rfl) (by kernel_rfl) (by kernel_rfl)
def ZC7:Kg ZHF kf7:=Zbn (ZdE [[99,46,109],[98]] (by decide) (by decide) (λi j=>by match i,j with|0,_=>rfl|1,_=>rfl) rfl rfl) (by kernel_rfl) (by kernel_rfl)
def ZDi:Kg ZHF kf0:=ZaL (C:=⟨ZHF,Zbo 184,Zc7⟩) Q8 kf0 (m:=20000) (by kernel_rfl)
def ZC8:Kg ZHF kf8:=ZaL (C:=⟨ZHF,Zbo 184,Zc7⟩) Q8 kf8 (m:=20000) (by kernel_rfl)
def ZC9:Kg ZHF kf9:=ZaL (C:=⟨ZHF,Zbo 184,Zc7⟩) Q8 kf9 (m:=20000) (by kernel_rfl)
def ZCv:Kg ZHF ZwF:=ZaL (C:=⟨ZHF,Zbo 184,Zc7⟩) Q8 ZwF (m:=20000) (by kernel_rfl)
def ZCw:Kg ZHF ZwG:=ZaL (C:=⟨ZHF,Zbo 184,Zc7⟩) Q8 ZwG (m:=20000) (by kernel_rfl)
def ZCx:Kg ZHF ZwH:=ZaL (C:=⟨ZHF,Zbo 184,Zc7⟩) Q8 ZwH (m:=20000) (by kernel_rfl)
def ZCy:Kg ZHF ZwI:=ZaL (C:=⟨ZHF,Zbo 184,Zc7⟩) Q8 ZwI (m:=20000) (by kernel_rfl)
def ZCz:Kg ZHF ZwJ:=ZaL (C:=⟨ZHF,Zbo 184,Zc7⟩) Q8 ZwJ (m:=20000) (by kernel_rfl)
def ZCA:Kg ZHF ZwK:=ZaL (C:=⟨ZHF,Zbo 184,Zc7⟩) Q8 ZwK (m:=20000) (by kernel_rfl)
def ZBt:∀k∈([kf0,kf1,kf2,kf3,kf4,kf5,kf6,kf7,kf8,kf9,ZwF,ZwG,ZwH,ZwI,ZwJ,ZwK]:List QO),Kg ZHF k:=by
 intro k i;simp only[ZIj,List.not_mem_nil,or_false]at i;rcases i with rfl|rfl|rfl|rfl|rfl|rfl|rfl|rfl|rfl|rfl|rfl|rfl|rfl|rfl|rfl|rfl;exact ZDi;exact ZC1;exact ZC2;exact ZC3;exact ZC4;exact ZC5;exact ZC6;exact ZC7;exact ZC8;exact ZC9;exact ZCv;exact ZCw;exact ZCx;exact ZCy;exact ZCz;exact ZCA
def ZpI:Zc ZHF 6 [] (.bool true):=ZB1 (C:=⟨ZHF,Zz5 184 [kf0,kf1,kf2,kf3,kf4,kf5,kf6,kf7,kf8,kf9,ZwF,ZwG,ZwH,ZwI,ZwJ,ZwK],Zc7⟩) (ZBx Q8 ZBt) (m:=100000) (by kernel_rfl)
def ZpC(n:Nat):List Nat:=if n<10 then [48+n] else if n<100 then [48+n / 10,48+n % 10] else [48+n / 100,48+n / 10 % 10,48+n % 10]
def ZBj{n:Nat}(h:n<500):(ZpC n).map UInt8.ofNat=Zdw n:=by
 unfold ZpC;split;rename_i i;rw[QQ i];rfl;rename_i i;rw[Zid i,QQ (n:=n % 10) ω];split;rw[QQ (n:=n / 10) ω];rfl;rw[Zid (n:=n / 10) ω,QQ (n:=n / 10 / 10) ω,QQ (n:=n / 10 % 10) ω,Nat.div_div_eq_div_mul];rfl
def eqN:List Nat->List Nat->Bool
 | [],[]=>true
 |a::r,b::t=>Nat.beq a b&&eqN r t
 |_,_=>false
def Zx6:∀{a b:List Nat},eqN a b=true->a=b
 | [],[],_=>rfl
 | [],_::_,h=>by simp[eqN]at h
 |_::_,[],h=>by simp[eqN]at h
 |a::r,b::t,h=>by simp only[eqN,ZHN]at h;rw[Nat.eq_of_beq_eq_true h.1,Zx6 h.2]
def isT(n:Nat):Option V->Bool
 |some (.str s)=>eqN s (ZpC n)
 |_=>false
def ZCs{n:Nat}:∀{o:Option V},isT n o=true->o=sO (.str (ZpC n))
 |some (.str s),h=>by rw[Zx6 h]
def Zwc(f:Nat->Option V):Nat->Bool
 |0=>true
 |n+1=>isT n (f n)&&Zwc f n
def Zvf{f:Nat->Option V}:∀{n i:Nat},Zwc f n=true->i<n->f i=sO (.str (ZpC i))
 |n+1,i,h,hi=>by simp only[Zwc,ZHN]at h;by_cases e:i=n;rw[e];exact ZCs h.1;exact Zvf h.2 ω
def kI(n:Nat):QO:=⟨207,40,40,[.i (Int.ofNat n)],.str (ZpC n)⟩
def Zyj{n:Nat}(h:Kg ZHF (kI n))(i:n<500):Zc ZHF 207 [.i n] (.str (Zdw n)):=by
 have t:=(h [.i n] nm0 [.i n] (by
  have j:ZfF 40 (.i n) (.i n)=true:=by show(Zgt .i64 .i64&&eqI n n)=true;rw[JA.2 rfl];rfl
  show ZaO (ZfF 40) [.i n] [.i n]=true;simp only[ZaO,j,if_true]) (.cons _ _ _ _ (.int _ _) .nil)).1
 rw[<-ZBj i];exact t
def Zz0:Zwc (λn=>ZAw (kI n).n ((Zh9 ⟨ZHF,Zbo 184,Zc7⟩ (kI n).f).run (run ⟨ZHF,Zbo 184,Zc7⟩ 1000) ((kI n).ks.map (zV (kI n).a)) T.nil 2)) 500=true:=by kernel_rfl
def ZBs:Zba:=λn i=>by
 have h:=Zvf Zz0 i;have j:=ZaL (C:=⟨ZHF,Zbo 184,Zc7⟩) Q8 (kI n) (m:=1000) h;exact Zyj j i
section
variable {H:Type} {enc:TypeId × Value->H} {w:World}
def ZBN:ZaX enc ZHF w 98 λds=>∃x:Yn,ds=x.cells:=by
 refine(Ko (P:=ZHF) (q:=λ_=>True) Tryz.underlying98 (Rs:=[_,_]) (.cons (KD Tryz.underlying9) (.cons (JM Tryz.underlying3) .nil)) (by kernel_rfl)).imp ?_;rintro ds ⟨_,_,rfl,⟨a,rfl⟩,_,_,rfl,⟨b,rfl⟩,rfl⟩;exact⟨⟨a,b⟩,rfl⟩
def ZAu:ZaX enc ZHF w 54 λds=>∃l:List Yn,ds=[Yd l] :=
 ZaM (q:=λ_=>True) (f:=Yn.cells) Tryz.underlying54 (by kernel_rfl) (by decide) (λ_=>rfl) ZBN
def ZBM:ZaX enc ZHF w 56 λds=>∃x:Jp,ds=x.cells:=by
 refine(Ko (P:=ZHF) (q:=λ_=>True) Tryz.underlying56 (Rs:=[_,_]) (.cons (JM Tryz.underlying3) (.cons ZAu .nil)) (by kernel_rfl)).imp ?_;rintro ds ⟨_,_,rfl,⟨a,rfl⟩,_,_,rfl,⟨b,rfl⟩,rfl⟩;exact⟨⟨a,b⟩,rfl⟩
def ZBI:ZaX enc ZHF w 100 λds=>∃x:Yw,ds=x.cells:=by
 refine(Ko (P:=ZHF) (q:=λ_=>True) Tryz.underlying100 (Rs:=[_,_,_]) (.cons (JM Tryz.underlying3) (.cons (JM Tryz.underlying3) (.cons (KD Tryz.underlying9) .nil))) (by kernel_rfl)).imp ?_;rintro ds ⟨_,_,rfl,⟨a,rfl⟩,_,_,rfl,⟨b,rfl⟩,_,_,rfl,⟨c,rfl⟩,rfl⟩;exact⟨⟨a,b,c⟩,rfl⟩
def ZAs:ZaX enc ZHF w 57 λds=>∃l:List Yw,ds=[Yk l] :=
 ZaM (q:=λ_=>True) (f:=Yw.cells) Tryz.underlying57 (by kernel_rfl) (by decide) (λ_=>rfl) ZBI
def ZCM:ZaX enc ZHF w 59 λds=>∃x:Fld,ds=x.cells:=by
 have u:=KD (p:=λ_=>True) (enc:=enc) (P:=ZHF) (w:=w) Tryz.underlying9;have t:=JM (p:=λ_=>True) (enc:=enc) (P:=ZHF) (w:=w) Tryz.underlying3;have z:=Zxa (p:=λ_=>True) (enc:=enc) (P:=ZHF) (w:=w) Tryz.underlying4;have hk:=JM (p:=λ_=>True) (enc:=enc) (P:=ZHF) (w:=w) Tryz.underlying53;refine(Ko (P:=ZHF) (q:=λ_=>True) Tryz.underlying59 (Rs:=[_,_,_,_,_,_,_,_,_,_,_,_,_,_]) (.cons u (.cons hk (.cons t (.cons z (.cons z (.cons t (.cons t (.cons ZBM (.cons u (.cons u (.cons u (.cons ZAs (.cons t (.cons t .nil)))))))))))))) (by kernel_rfl)).imp ?_;rintro ds ⟨_,_,rfl,⟨a,rfl⟩,_,_,rfl,⟨b,rfl⟩,_,_,rfl,⟨c,rfl⟩,_,_,rfl,⟨d,rfl⟩,_,_,rfl,⟨e,rfl⟩,_,_,rfl,⟨f,rfl⟩,_,_,rfl,⟨g,rfl⟩,_,_,rfl,⟨h,rfl⟩,_,_,rfl,⟨i,rfl⟩,_,_,rfl,⟨j,rfl⟩,_,_,rfl,⟨k,rfl⟩,_,_,rfl,⟨l,rfl⟩,_,_,rfl,⟨m,rfl⟩,_,_,rfl,⟨n,rfl⟩,rfl⟩;exact⟨⟨a,b,c,d,e,f,g,h,i,j,k,l,m,n⟩,rfl⟩
def ZBJ:ZaX enc ZHF w 50 λds=>∃l:List Fld,ds=[Zk l] :=
 ZaM (q:=λ_=>True) (f:=Fld.cells) Tryz.underlying50 (by kernel_rfl) (by decide) (λ_=>rfl) ZCM
def ZCN:ZaX enc ZHF w 52 λds=>∃x:Msg,ds=x.cells:=by
 refine(Ko (P:=ZHF) (q:=λ_=>True) Tryz.underlying52 (Rs:=[_,_]) (.cons (KD Tryz.underlying9) (.cons ZBJ .nil)) (by kernel_rfl)).imp ?_;rintro ds ⟨_,_,rfl,⟨a,rfl⟩,_,_,rfl,⟨b,rfl⟩,rfl⟩;exact⟨⟨a,b⟩,rfl⟩
def ZBL:ZaX enc ZHF w 22 λds=>∃l:List Msg,ds=[Yy l] :=
 ZaM (q:=λ_=>True) (f:=Msg.cells) Tryz.underlying22 (by kernel_rfl) (by decide) (λ_=>rfl) ZCN
def ZCL:ZaX enc ZHF w 24 λds=>∃x:Dfn,ds=x.cells:=by
 refine(Ko (P:=ZHF) (q:=λ_=>True) Tryz.underlying24 (Rs:=[_,_,_]) (.cons (KD Tryz.underlying9) (.cons ZBL (.cons (KD Tryz.underlying9) .nil))) (by kernel_rfl)).imp ?_;rintro ds ⟨_,_,rfl,⟨a,rfl⟩,_,_,rfl,⟨b,rfl⟩,_,_,rfl,⟨c,rfl⟩,rfl⟩;exact⟨⟨a,b,c⟩,rfl⟩
end
section
variable {H:Type} {enc:TypeId × Value->H} {w:World} {p:Nat->Prop}
def ZAv:WV p enc ZHF w 25 λds=>∃b:Str,ds=[Zs b] :=
 ZaM (q:=λ_=>True) (f:=u8C) Tryz.underlying25 (by kernel_rfl) (by decide) (λ_=>rfl) ((ZiE Tryz.underlying5).imp λds ⟨n,i,h⟩=>⟨UInt8.ofNat n.toNat,by
  subst h;unfold inR IntKind.min IntKind.max at i;simp[IntKind.signed,IntKind.bits]at i;simp only[u8C,UInt8.toNat_ofNat',List.cons.injEq,D.int.injEq,true_and,and_true];omega⟩)
def ZBK:WV p enc ZHF w 26 λds=>∃l:List Hdr,ds=[Zx l]:=by
 refine ZaM (q:=λ_=>True) (f:=Hdr.cells) Tryz.underlying26 (by kernel_rfl) (by decide) (λ_=>rfl) ((Ko (P:=ZHF) (q:=λ_=>True) Tryz.underlying89 (Rs:=[_,_]) (.cons (KD Tryz.underlying9) (.cons (KD Tryz.underlying9) .nil)) (by kernel_rfl)).imp ?_);rintro ds ⟨_,_,rfl,⟨a,rfl⟩,_,_,rfl,⟨b,rfl⟩,rfl⟩;exact⟨⟨a,b⟩,rfl⟩
def ZvJ:∀N:Nat,WV (λn=>n<N) enc ZHF w 29 λds=>∃x:Val,ds=x.cells
 |0=>λfuel cs x h=>absurd h (Nat.not_lt_zero _)
 |N+1=>by
  refine(Ko (P:=ZHF) (q:=λn=>n<N) Tryz.underlying29 (Rs:=[_,_,_,_,_]) (.cons (KD Tryz.underlying9) (.cons (JM Tryz.underlying3) (.cons ZAv (.cons ZBK
   (.cons (Zkg (q:=λn=>n<N) (f:=Val.cells) (row:=J5) (λl i h=>ZcL h) Tryz.underlying27 (by kernel_rfl) (by decide) Val.len (ZvJ N) (λn h=>by omega)) .nil))))) (by kernel_rfl) (λn h=>by omega)).imp ?_
  rintro ds ⟨_,_,rfl,⟨a,rfl⟩,_,_,rfl,⟨b,rfl⟩,_,_,rfl,⟨c,rfl⟩,_,_,rfl,⟨d,rfl⟩,_,_,rfl,⟨e,rfl⟩,rfl⟩;exact⟨.mk a b c d e,rfl⟩
def ZDr:ZaX enc ZHF w 29 λds=>∃x:Val,ds=x.cells:=λi j x _ h=>ZvJ (i+1) i j x (Nat.lt_succ_self _) h
end
section
variable {H:Type} {enc:TypeId × Value->H} {w:World} {p:Nat->Prop}
def ZyP:WV p enc ZHF w 25 λds=>∃b:Str,I b<=140737488351232/\ds=[Zs b]:=by
 refine(Zcg (n:=1) (q:=λ_=>True) (f:=u8C) (Qx:=λ_=>True) (row:=λl i=>u8C (l.getD i dE)) (λ_ _ _=>rfl) Tryz.underlying25 (by kernel_rfl) (by decide) (λ_=>rfl) ((ZiE Tryz.underlying5).imp λds ⟨n,t,h⟩=>⟨UInt8.ofNat n.toNat,trivial,by
  subst h;unfold inR IntKind.min IntKind.max at t;simp[IntKind.signed,IntKind.bits]at t;simp only[u8C,UInt8.toNat_ofNat',List.cons.injEq,D.int.injEq,true_and,and_true];omega⟩)).imp ?_
 rintro ds ⟨l,_,j,rfl⟩;rw[show Program.bytesOf ZHF 5=1 by kernel_rfl,Nat.mul_one]at j;exact⟨l,j,rfl⟩
def ZAt:WV p enc ZHF w 26 λds=>∃l:List Hdr,I l*32<=140737488351232/\ds=[Zx l]:=by
 refine(Zcg (n:=2) (q:=λ_=>True) (f:=Hdr.cells) (Qx:=λ_=>True) (row:=λl i=>Hdr.cells (l.getD i dE)) (λ_ _ _=>rfl) Tryz.underlying26 (by kernel_rfl) (by decide) (λ_=>rfl) ((Ko (P:=ZHF) (q:=λ_=>True) Tryz.underlying89 (Rs:=[_,_]) (.cons (KD Tryz.underlying9) (.cons (KD Tryz.underlying9) .nil)) (by kernel_rfl)).imp ?_)).imp ?_;rintro ds ⟨_,_,rfl,⟨a,rfl⟩,_,_,rfl,⟨b,rfl⟩,rfl⟩;exact⟨⟨a,b⟩,trivial,rfl⟩;rintro ds ⟨l,_,j,rfl⟩;rw[show Program.bytesOf ZHF 89=32 by kernel_rfl]at j;exact⟨l,j,rfl⟩
def Zt3:∀N:Nat,WV (λn=>n<N) enc ZHF w 29 λds=>∃x:Val,Zdd x/\ds=x.cells
 |0=>λfuel cs x h=>absurd h (Nat.not_lt_zero _)
 |N+1=>by
  refine(Ko (P:=ZHF) (q:=λn=>n<N) Tryz.underlying29 (Rs:=[_,_,_,_,_]) (.cons (KD Tryz.underlying9) (.cons (JM Tryz.underlying3) (.cons (ZyP) (.cons ZAt
   (.cons (Zcg (n:=5) (q:=λn=>n<N) (f:=Val.cells) (Qx:=Zdd) (row:=J5) (λl i h=>ZcL h) Tryz.underlying27 (by kernel_rfl) (by decide) Val.len (Zt3 N) (λn h=>by omega)) .nil))))) (by kernel_rfl) (λn h=>by omega)).imp ?_
  rintro ds ⟨_,_,rfl,⟨a,rfl⟩,_,_,rfl,⟨b,rfl⟩,_,_,rfl,⟨c,hc,rfl⟩,_,_,rfl,⟨d,hd,rfl⟩,_,_,rfl,⟨e,he,hb,rfl⟩,rfl⟩;rw[show Program.bytesOf ZHF 29=96 by kernel_rfl]at hb;exact⟨.mk a b c d e,Zcr.2 ⟨⟨hc,hd,hb⟩,he⟩,rfl⟩
def ZBO:ZaX enc ZHF w 29 λds=>∃x:Val,Zdd x/\ds=x.cells:=λi j x _ h=>Zt3 (i+1) i j x (Nat.lt_succ_self _) h
end
end Go.DL
namespace Go.Proofs.YtmdaecbcadpmcaaGreatDoor
open Go Go.DL Go.ChangeShapes Go.WideShapes Go.ChangeAt Go.RowKit Go.Lib
set_option linter.unusedVariables false
def own:ownKnob Tryz.prog.godebug=nO:=by kernel_rfl
def laidOut:laidOutB ZHF=true:=by kernel_rfl
def tabsOk{W:World}(h:laidMet ZHF Rows.shapeHoldsRow.laid W):Zny W:=by
 intro n cs u;have i:(match Nat.beq n 3 with
  |true=>sO (ZtJ.map λz=>D.int .u64 z)
  |false=>nO)=sO cs:=u
 split at i;rename_i hb;obtain rfl:n=3:=Nat.eq_of_beq_eq_true hb;simp only[ZHE]at i;subst i;have j:TabIs ZHF W "internal/strconv.uint64pow10" .u64 ZtJ :=
  tabIs_of_head (g:=3) (t:=303) (e:=232) (n:=20) (by kernel_rfl) (by kernel_rfl) Tryz.underlying303 Tryz.underlying232 (by kernel_rfl) (by kernel_rfl) h.tail.tail
 exact ZBX j (by kernel_rfl) (by unfold inR;decide);simp at i
end Go.Proofs.YtmdaecbcadpmcaaGreatDoor
