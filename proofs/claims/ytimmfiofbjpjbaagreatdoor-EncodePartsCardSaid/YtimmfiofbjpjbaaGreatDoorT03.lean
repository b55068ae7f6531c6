/- Lemmas: DlAg, Api, DlAe, DlAf, R04a, Lst, R04b, Iv, R04d, R04e, R05a, R05b, R05c, R05d, R05e, R05f, R05g, R05h, R05i, R05j, R05k, Own, S00, S01, S02, Maps, S03, S04, S05, S06, Val, DlCp, Z05, Z06, W01, W02, W03, S10, S11, R43d, U01, A01, A02, A03, S12, S13, S14, S15, S16, S17, S18, S19, S20, S21, S22. -/
import Derived.Test.YtimmfiofbjpjbaaGreatDoorT02
set_option maxHeartbeats 16000000
set_option maxRecDepth 100000
set_option linter.all false
open List renaming length->I
open Option renaming some -> sO, none -> nO
open Inhabited renaming default -> dE
open Decidable renaming decide -> dC
open Go.Proofs.Tryz
open And renaming intro -> ZHy
open Bool renaming and_eq_true -> ZHG, false_and -> ZH8, false_eq_true -> ZH5, or_eq_true -> ZHT, true_and -> ZHX
open Go.DL.D.Le renaming refl -> ZHx
open Go.DL.St renaming single -> ZH1, sub_refl -> ZHw, sub_trans -> ZIe, sub_upd -> ZHV, upd -> ZH7, upd_ne -> ZHD, upd_same -> ZHB, upd_upd -> ZHO
open Go.Proofs.Tryz renaming prog -> ZHv
open Int renaming reduceEq -> ZId, reduceToNat -> ZHC
open List renaming append_assoc -> ZHY, append_nil -> ZH3, getD -> ZHL, getElem?_append_left -> ZHW, getElem?_append_right -> ZIf, getElem_of_mem -> ZHR, length_append -> ZHF, length_cons -> ZHN, length_drop -> ZH9, length_map -> ZHS, length_take -> ZHQ, map_cons -> ZHM, map_nil -> ZH2, mem_cons -> ZIa, range -> ZHJ, take_length -> ZH0
open Nat renaming add_mul -> ZHU, le_refl -> ZHK, le_trans -> ZIg, mul_le_mul_right -> ZHP, reduceAdd -> ZHE, reduceEqDiff -> ZHz, reduceLeDiff -> ZHA
open Option renaming getD_some -> ZIc
open Option.some renaming injEq -> ZHu
namespace Go.DL
open Go
variable [Zsc]
variable {kp:Option (List Nat)}{L:Loc}{H:Env}{s:St}{w:World}{os:List DOp}{ds:List D}{B:List (Nat × Rd)}{dst:Option Nat}{tmps:Array Value}{g:G}{Φ:Res->St->Prop}{Z:Nat->Nat}{xs:List Opd}{side:Prop}{row:Nat->List D}
def Zts(T:Tab)(ms:List Nat):Nat->List Nat->List Nat->List Nat×List (Nat×List Nat)×List Nat
 |0,rest,_=>(rest,[],[])
 |n+1,rest,A =>
  let rdy:=rest.filter λi=>(T.deps i).all λd=>!rest.contains d;let free:=λ(i:Nat) (A:List Nat)=>A.filter λa=>!(ms.getD i 0).testBit a;let fl:=λ(i:Nat) (A:List Nat) (l:List (Nat×List Nat))=>match (free i A).filter λa=>YU (T.op a).k with
   | []=>l
   |as9=>(i,as9.map λa=>ZbO (T.op a))::l
  match rdy.find? λi=>ZcX T A i&&A.all λa=>(ms.getD i 0).testBit a ||nd (T.op a).dst (ZA (T.op i)) with
  |some i=>match Zts T ms n (rest.erase i) (i::A) with
   | (od,f,k)=>(i::od,f,k)
  |none=>match rdy with
   | []=>(rest,[],[])
   | [i]=>match Zts T ms n (rest.erase i) (free i A) with
    | (od,f,k)=>(i::od,fl i A f,k)
   |i::j::_=>match Zts T ms n ((rest.erase i).erase j) (free j (free i A)) with
    | (od,f,k)=>(i::j::od,fl i A (fl j A f),i::k)
def bS:List Nat->Nat
 | []=>0
 |a::l=>1 <<< a |||bS l
def bR:List DOp->Nat->Nat
 | [],m=>m
 |o::r,m=>bS (ZA o) |||match o.dst with
  |some d=>bR r m ^^^ (bR r m &&& 1 <<< d)
  |none=>bR r m
abbrev LB:=List (Nat×Nat)
def LB.get(d:Nat):LB->Nat->Nat
 | [],_=>d
 | (j,m)::r,k=>if j=k then m else LB.get d r k
def LB.put:LB->Nat->Nat->LB
 | [],k,m=>[(k,m)]
 | (j,n)::r,k,m=>if j=k then (j,n |||m)::r else (j,n)::LB.put r k m
def lvI(f:Nat->LB->Nat×LB×LB):Nat->Nat->LB->Nat×LB×LB
 |0,m,b=>f m b
 |n+1,m,b=>match f m b with
  | (m',k,b')=>if m' |||m=m then (m,k,b') else lvI f n (m' |||m) b'
def lvS(f:LB->Nat×LB×LB):Nat->LB->Nat×LB×LB
 |0,b=>f b
 |n+1,b=>match f b with
  | (m,k,b')=>if b'=b then (m,k,b') else lvS f n b'
def lvC(P:Program)(N ret:Nat):Code->LB->LB->Nat->Nat×LB×LB
 |.region id ops _,_,b,m=>match Jq P N ops (List.range ops.size) with
  |some l=>(bR l m,[(id,m)],b)
  |none=>(0,[],b)
 |.seq x y,ex,b,m=>match lvC P N ret y ex b m with
  | (m,k,b)=>match lvC P N ret x ex b m with
   | (m,k',b)=>(m,k'++k,b)
 |.cond c x y,ex,b,m=>match lvC P N ret x ex b m,ZW c with
  | (n,k,b),sO c=>match lvC P N ret y ex b m with
   | (m,k',b)=>(bS (ZQ c) |||n |||m,k++k',b)
  |_,nO=>(0,[],b)
 |.block id x,ex,b,m=>lvC P N ret x ((id,m)::ex) b m
 |.loop x,ex,b,_=>lvI (λm b=>lvC P N ret x ex b m) 9 0 b
 |.exit id,ex,b,_=>(LB.get ret ex id,[],b)
 |.ret,_,b,_=>(ret,[],b)
 |.scope x,ex,b,m=>lvS (λb=>lvC P N ret x ex b m) 9 b
 |.label l,_,b,m=>(m,[],b.put l m)
 |.goto l,_,b,_=>(LB.get 0 b l,[],b)
 |.rangeFunc f _ x y,ex,b,m0=>match ZW f,lvI (λm b=>match lvC P N ret y ex b (m |||m0) with
   | (m1,k,b)=>match lvC P N ret x ex b m1 with
    | (m2,k',b)=>(m2 |||m0 |||m,k++k',b)) 9 0 b with
  |some f,(m,k,b)=>(bS (ZQ f) |||m,k,b)
  |none,_=>(0,[],b)
 |_,_,b,m=>(m,[],b)
def fN:Nat->Option Nat
 |0=>sO 0
 |n+1=>sO (n+1)
def fNs:List Nat->Option (List Nat)
 | []=>sO []
 |a::l=>match fN a,fNs l with
  |some a,sO l=>sO (a::l)
  |_,_=>nO
def kpO:Nat->Nat->Nat->Option (List Nat)
 |0,_,_=>sO []
 |n+1,i,m=>match kpO n (i+1) (m / 2) with
  |some l=>if m % 2=1 then match fN i with
   |some i=>sO (i::l)
   |none=>nO
   else sO l
  |none=>nO
def kpM(N m:Nat):Option (List Nat):=kpO N 0 m
def rvM:List RV->Nat
 | []=>0
 |.tmp t::r=>1 <<< t |||rvM r
 |.cell1 t::r=>1 <<< t |||rvM r
 |.cellN t _::r=>1 <<< t |||rvM r
def dOf(P:Program)(N:Nat)(ops:Array Oper):List DOp×List Nat×List (Nat×List Nat)×List Nat :=
 match Jq P N ops (List.range ops.size) with
 |some l=>(l,Zts (l.zip (ops.toList.map JK)) (Zf3 (ops.toList.map JK) []) ops.size (List.range ops.size) [])
 |none=>([],[],[],[])
def anD(P:Program)(N:Nat):Code->Ann
 |.region id ops true=>match dOf P N ops with
  | (_,od,fl,_)=>(id+1000000,od)::fl.map λx=>(id+1000000*(x.1+4),x.2)
 |.seq a b=>anD P N a++anD P N b
 |.cond _ a b=>anD P N a++anD P N b
 |.block _ a=>anD P N a
 |.loop a=>anD P N a
 |.scope a=>anD P N a
 |.rangeFunc _ _ a b=>anD P N a++anD P N b
 |_=>[]
def lvF(P:Program)(fn:Func)(c:Code):LB :=
 match Zjq P fn.results.toList with
 |some rs=>(lvC P fn.ntmps (rvM rs) c [] [] (rvM rs)).2.1
 |none=>[]
def anF(P:Program)(f:FuncId):Ann :=
 match P.funcs[f]? with
 |some fn=>match fn.body with
  |some c=>(lvF P fn c).filterMap (λx=>(kpM fn.ntmps x.2).map λk=>(x.1,k))++anD P fn.ntmps c
  |none=>[]
 |none=>[]
def fLL:List (Nat×Nat)->Option (List (Nat×Nat))
 | []=>sO []
 | (a,b)::l=>match fN a,fN b,fLL l with
  |some a,sO b,sO l=>sO ((a,b)::l)
  |_,_,_=>nO
def fCC:List (Nat×SK)->Option (List (Nat×SK))
 | []=>sO []
 | (a,b)::l=>match fN a,fCC l with
  |some a,sO l=>sO ((a,b)::l)
  |_,_=>nO
def fP:Option ZeR->Option (Option ZeR)
 |none=>sO nO
 |some p=>match p with
  |.cells l=>match fCC l with
   |some l=>sO (sO (.cells l))
   |none=>nO
  |p=>sO (sO p)
def plP(P:Program):Op->Option ZeR
 |.binOp _ t x y _=>match P.underlying t with
  |some (.struct fs)=>(Kq P fs.toList).map .cells
  |some (.array n e)=>match Qc P e,ZP P e with
   |some k,sO 1=>sO (.cells ((List.range n).map (·,k)))
   |_,_=>nO
  |_=>ZdK P t x y
 |_=>nO
def fQ(P:Program)(op:Op)(q:Q)(xs:List Opd):Option K :=
 match q with
 |.loadN n=>match fN n with
  |some n=>sO (.q (.loadN n) xs)
  |none=>nO
 |.bin o _=>match fP (plP P op) with
  |some p=>sO (.q (.bin o p) xs)
  |none=>nO
 |.faddr n=>match fN n with
  |some n=>sO (.q (.faddr n) xs)
  |none=>nO
 |.fld1 n=>match fN n with
  |some n=>sO (.q (.fld1 n) xs)
  |none=>nO
 |.fldN n m=>match fN n,fN m with
  |some n,sO m=>sO (.q (.fldN n m) xs)
  |_,_=>nO
 |.iaddr n=>match fN n with
  |some n=>sO (.q (.iaddr n) xs)
  |none=>nO
 |.iaddrA n m=>match fN n,fN m with
  |some n,sO m=>sO (.q (.iaddrA n m) xs)
  |_,_=>nO
 |.idxA n m o=>match fN n,fN m with
  |some n,sO m=>sO (.q (.idxA n m o) xs)
  |_,_=>nO
 |.sliceA n m a b c=>match fN n,fN m with
  |some n,sO m=>sO (.q (.sliceA n m a b c) xs)
  |_,_=>nO
 |.slice n a b c=>match fN n with
  |some n=>sO (.q (.slice n a b c) xs)
  |none=>nO
 |.build z l=>match fLL l with
  |some l=>sO (.q (.build z l) xs)
  |none=>nO
 |.mkfn f n=>match fN n with
  |some n=>sO (.q (.mkfn f n) xs)
  |none=>nO
 |q=>sO (.q q xs)
def fK(P:Program)(op:Op):K->Option K
 |.q q xs=>fQ P op q xs
 |.storeN n a v=>match fN n with
  |some n=>sO (.storeN n a v)
  |none=>nO
 |.bsl n s z is xs=>match fN s with
  |some s=>sO (.bsl n s z is xs)
  |none=>nO
 |.append e s b z x y=>match fN s,fN b with
  |some s,sO b=>sO (.append e s b z x y)
  |_,_=>nO
 |.mkslice e s b z x y=>match fN s,fN b with
  |some s,sO b=>sO (.mkslice e s b z x y)
  |_,_=>nO
 |.clear s z x=>match fN s with
  |some s=>sO (.clear s z x)
  |none=>nO
 |.copy s x y=>match fN s with
  |some s=>sO (.copy s x y)
  |none=>nO
 |.pick c a b=>sO (.pick c a b)
 |.alloc z=>sO (.alloc z)
 |.box x=>sO (.box x)
 |.s2b x=>sO (.s2b x)
 |.store1 a v=>sO (.store1 a v)
 |.call f xs=>sO (.call f xs)
 |.defer f xs=>sO (.defer f xs)
 |.mkmap=>sO .mkmap
 |.mapupd a b c d=>sO (.mapupd a b c d)
 |.mapent a b c d=>sO (.mapent a b c d)
 |.entst a b c=>sO (.entst a b c)
 |.panic x=>sO (.panic x)
 |.recover=>sO .recover
 |.delete a b c=>sO (.delete a b c)
 |.fork _=>nO
def fO(P:Program):List (DOp×Oper)->Option (List DOp)
 | []=>sO []
 | (o,r)::l=>match fK P r.op o.k,fO P l,o.dst,o.guard with
  |some k,sO l,sO d,nO=>sO (⟨sO d,nO,k⟩::l)
  |some k,sO l,nO,nO=>sO (⟨nO,nO,k⟩::l)
  |some k,sO l,sO d,sO (t,true)=>sO (⟨sO d,sO (t,true),k⟩::l)
  |some k,sO l,sO d,sO (t,false)=>sO (⟨sO d,sO (t,false),k⟩::l)
  |some k,sO l,nO,sO (t,true)=>sO (⟨nO,sO (t,true),k⟩::l)
  |some k,sO l,nO,sO (t,false)=>sO (⟨nO,sO (t,false),k⟩::l)
  |_,_,_,_=>nO
def ZgC(id:Nat):Code->Option (Array Oper)
 |.region i ops _=>if i=id then sO ops else nO
 |.seq a b=>match ZgC id a with
  |some x=>sO x
  |none=>ZgC id b
 |.cond _ a b=>match ZgC id a with
  |some x=>sO x
  |none=>ZgC id b
 |.block _ a=>ZgC id a
 |.loop a=>ZgC id a
 |.scope a=>ZgC id a
 |.rangeFunc _ _ a b=>match ZgC id a with
  |some x=>sO x
  |none=>ZgC id b
 |_=>nO
def Zwt(fn:Func)(id:Nat):Option (Array Oper):=match fn.body with
 |some c=>ZgC id c
 |none=>nO
def ZDE(P:Program)(fn:Func)(id:Nat):List DOp:=match Zwt fn id with
 |some ops=>match Jq P fn.ntmps ops (List.range ops.size) with
  |some l=>match fO P (l.zip ops.toList) with
   |some l=>l
   |none=>[]
  |none=>[]
 |none=>[]
def ZDD(P:Program)(fn:Func)(id:Nat):List DOp:=match Zwt fn id with
 |some ops=>match dOf P fn.ntmps ops with
  | (l,od,_)=>match fO P (od.map λi=>(l.zip ops.toList).getD i dE) with
   |some l=>l
   |none=>[]
 |none=>[]
def ZDd(fl:List (Nat×List Nat)):List Nat->List DOp->Option (List (DOp×List Nat))
 |i::od,o::l=>match ZDd fl od l,fl.find? λx=>x.1==i with
  |some r,sO (_,t)=>match fNs t with
   |some t=>sO ((o,t)::r)
   |none=>nO
  |some r,nO=>sO ((o,[])::r)
  |none,_=>nO
 |_,_=>sO []
def ZDF(P:Program)(fn:Func)(id:Nat):List (DOp×List Nat):=match Zwt fn id with
 |some ops=>match dOf P fn.ntmps ops with
  | (l,od,fl,_)=>match fO P (od.map λi=>(l.zip ops.toList).getD i dE) with
   |some l=>match ZDd fl od l with
    |some r=>r
    |none=>[]
   |none=>[]
 |none=>[]
def ZCP(P:Program)(fn:Func)(id:Nat):List Nat:=match Zwt fn id with
 |some ops=>(dOf P fn.ntmps ops).2.1
 |none=>[]
def skC(P:Program)(fn:Func)(lv:LB):Code->Option DC
 |.skip=>sO .skip
 |.region id ops true=>match fN (LB.get 0 lv id),(dOf P fn.ntmps ops).2.2.1 with
  |some m,[]=>sO (.regD (ZCP P fn id) (ZwY (ZDD P fn id)) (kpM fn.ntmps m))
  |some m,_::_=>sO (.regD (ZCP P fn id) (ZDF P fn id) (kpM fn.ntmps m))
  |none,_=>nO
 |.region id _ false=>match fN (LB.get 0 lv id) with
  |some m=>sO (.reg (ZDE P fn id) (kpM fn.ntmps m))
  |none=>nO
 |.seq a b=>match skC P fn lv a,skC P fn lv b with
  |some x,sO y=>sO (.seq x y)
  |_,_=>nO
 |.cond c a b=>match ZW c,skC P fn lv a,skC P fn lv b with
  |some c,sO x,sO y=>sO (.cond c x y)
  |_,_,_=>nO
 |.block id a=>match skC P fn lv a with
  |some x=>sO (.block id x)
  |none=>nO
 |.loop a=>match skC P fn lv a with
  |some x=>sO (.loop x)
  |none=>nO
 |.exit id=>sO (.exit id)
 |.ret=>sO .ret
 |.scope a=>match skC P fn lv a with
  |some x=>sO (.scope x)
  |none=>nO
 |.label l=>sO (.label l)
 |.goto l=>sO (.goto l)
 |.rangeFunc f ps a b=>match ZW f,skC P fn lv a,skC P fn lv b with
  |some f,sO x,sO y=>sO (.rangeF f ps.toList x y)
  |_,_,_=>nO
 |_=>nO
def skF(P:Program)(fn:Func):DC:=match fn.body with
 |some c=>match skC P fn (lvF P fn c) c with
  |some d=>d
  |none=>.skip
 |none=>.skip
def fR:List RV->Option (List RV)
 | []=>sO []
 |.tmp t::r=>match fR r with
  |some r=>sO (.tmp t::r)
  |none=>nO
 |.cell1 t::r=>match fR r with
  |some r=>sO (.cell1 t::r)
  |none=>nO
 |.cellN t n::r=>match fN n,fR r with
  |some n,sO r=>sO (.cellN t n::r)
  |_,_=>nO
def rsF(P:Program)(fn:Func):List RV:=match Zjq P fn.results.toList with
 |some rs=>match fR rs with
  |some rs=>rs
  |none=>[]
 |none=>[]
def cR{P:Program}(f:FuncId)(fn:Func){rs:List RV}{b:DC}(h1:rsF P fn=rs:=by conv=>lhs;whnf)(h2:skF P fn=b:=by conv=>lhs;whnf)(h:cf P (anF P f) f=sO ⟨fn.ntmps,rsF P fn,skF P fn⟩:=by kernel_rfl):cf P (anF P f) f=sO ⟨fn.ntmps,rs,b⟩:=h1▸h2▸h
def upT:List Nat->List WW->List WW
 |0::r,_::d=>upT r d
 |1::r,.code (.seq a b)::d=>upT r (.code a::.code b::d)
 |2::r,.code (.block i a)::d=>upT r (.code a::.inBlock i::d)
 |_,d=>d
structure Tie{P:Program}(l:List Nat)(X:Fr P->Env->Loc->St->Prop)(A:Prop):Prop
section
variable {P:Program} {F:Fr P} {l:List Nat} {dk:List WW} {H:Env} {L:Loc} {s:St} {ks:Option (List Nat)} {os:List DOp} {ps:List (DOp × List Nat)} {B:List (Nat × Rd)}
def tU:Tie l (λ(F:Fr P)=>Zw F (upT l dk)) (Zw F dk H L s):=⟨⟩
def tO:Tie l (λ(F:Fr P)=>Zw F (upT l dk)) (DO F ks dk os H L s):=⟨⟩
def tO0:Tie l (λ(F:Fr P)=>Zw F (upT l dk)) (Q3 F ks dk os H L s):=⟨⟩
def tOD:Tie l (λ(F:Fr P)=>Zw F (upT l dk)) (DOA F ks dk ps H L s B):=⟨⟩
def jU(l:List Nat)(J:(Fr P->Env->Loc->St->Prop)->Prop){X:Fr P->Env->Loc->St->Prop}{A:Prop}(h1:J X)(h2:J X->A)(_h:Tie l X A:=by first|exact tU|exact tO|exact tO0|exact tOD):A:=h2 h1
def lpU{a}(J:(Fr P->Env->Loc->St->Prop)->Prop)(i:J λ(F:Fr P)=>Zw F (.code a::.inLoop a::dk))(t:(J λ(F:Fr P)=>Zw F (.code a::.inLoop a::dk))->Zw F (.code a::.inLoop a::dk) H L s):Zw F (.code (.loop a)::dk) H L s:=ZaA (t i)
end
end Go.DL
namespace Go.DL
open Go
variable {kp:Option (List Nat)}{L:Loc}{H:Env}{s:St}{w:World}{os:List DOp}{ds:List D}{B:List (Nat × Rd)}{dst:Option Nat}{tmps:Array Value}{g:G}{Φ:Res->St->Prop}{Z:Nat->Nat}{xs:List Opd}{side:Prop}{row:Nat->List D}
abbrev Str:=List UInt8
structure Yw where
 field:Str
 factor:Int
deriving Inhabited,DecidableEq
structure ZbA where
 base:Int
 terms:List Yw
deriving Inhabited,DecidableEq
structure Y6 where
 low:Int
 high:Int
 of:Str
deriving Inhabited,DecidableEq
structure Fld where
 name:Str
 kind:Int
 bits:Int
 little:Bool
 loose:Bool
 low:Int
 high:Int
 size:ZbA
 of:Str
 tag:Str
 from_:Str
 cases:List Y6
 check:Int
 key:Int
deriving Inhabited,DecidableEq
structure Msg where
 name:Str
 fields:List Fld
deriving Inhabited,DecidableEq
structure Dfn where
 name:Str
 msgs:List Msg
 start:Str
deriving Inhabited,DecidableEq
def slD{α:Type}[Inhabited α](n:Nat)(f:α->List D)(l:List α):D:=.sl .none (I l) n (λi=>f (l.getD i dE))
def eQ1:=@slD.eq_1
def Yw.cells(t:Yw):List D:=[.str t.field,.i t.factor]
def Y6.cells(c:Y6):List D:=[.i c.low,.i c.high,.str c.of]
def Yj(l:List Yw):D:=slD 2 Yw.cells l
def WP(l:List Y6):D:=slD 3 Y6.cells l
def ZbA.cells(s:ZbA):List D:=[.i s.base,Yj s.terms]
def eQ4:=@ZbA.cells.eq_1
def Fld.cells(f:Fld):List D:=[.str f.name,.i f.kind,.i f.bits,.bool f.little,.bool f.loose,.i f.low,.i f.high,.i f.size.base,Yj f.size.terms,.str f.of,.str f.tag,.str f.from_,WP f.cases,.i f.check,.i f.key]
def eQ0:=@Fld.cells.eq_1
def Zr(l:List Fld):D:=slD 15 Fld.cells l
def Msg.cells(m:Msg):List D:=[.str m.name,Zr m.fields]
def eQ3:=@Msg.cells.eq_1
def YF(l:List Msg):D:=slD 2 Msg.cells l
def Dfn.cells(d:Dfn):List D:=[.str d.name,YF d.msgs,.str d.start]
def eQ2:=@Dfn.cells.eq_1
def WE{α}[Inhabited α]{n}{f:α->List D}{l:List α}(h:DWf (slD n f l)):I l<=big/\∀x∈l,∀c∈f x,DWf c:=by
 obtain⟨u,h2,h3⟩:=h.sl_inv;refine⟨u,λx hx c hc=>?_⟩;obtain⟨i,t,rfl⟩:=ZHR hx;exact h3 i t c (by simpa[ZHL,t]using hc)
structure Yw.Wf(t:Yw):Prop where
 field:I t.field<=big
 factor:inR .i64 t.factor
structure Y6.Wf(c:Y6):Prop where
 low:inR .i64 c.low
 high:inR .i64 c.high
 of:I c.of<=big
structure ZbA.Wf(s:ZbA):Prop where
 base:inR .i64 s.base
 nterms:I s.terms<=big
 terms:∀t∈s.terms,t.Wf
structure Fld.Wf(f:Fld):Prop where
 name:I f.name<=big
 kind:inR .i64 f.kind
 bits:inR .i64 f.bits
 low:inR .i64 f.low
 high:inR .i64 f.high
 size:f.size.Wf
 of:I f.of<=big
 tag:I f.tag<=big
 from_:I f.from_<=big
 ncases:I f.cases<=big
 cases:∀c∈f.cases,c.Wf
 check:inR .i64 f.check
 key:inR .i64 f.key
structure Msg.Wf(m:Msg):Prop where
 name:I m.name<=big
 nfields:I m.fields<=big
 fields:∀f∈m.fields,f.Wf
structure Dfn.Wf(d:Dfn):Prop where
 name:I d.name<=big
 nmsgs:I d.msgs<=big
 msgs:∀m∈d.msgs,m.Wf
 start:I d.start<=big
def Yw.wf_of{t:Yw}(h:∀c∈t.cells,DWf c):t.Wf:=by
 simp only[Yw.cells,ZIa,List.not_mem_nil,or_false,forall_eq_or_imp,forall_eq]at h;exact⟨h.1.str_inv,h.2.int_inv⟩
def Y6.wf_of{t:Y6}(h:∀c∈t.cells,DWf c):t.Wf:=by
 simp only[Y6.cells,ZIa,List.not_mem_nil,or_false,forall_eq_or_imp,forall_eq]at h;exact⟨h.1.int_inv,h.2.1.int_inv,h.2.2.str_inv⟩
def ZtV{l}(h:DWf (Yj l)):I l<=big/\∀t∈l,t.Wf:=⟨(WE h).1,λt i=>Yw.wf_of ((WE h).2 t i)⟩
def Zss{l}(h:DWf (WP l)):I l<=big/\∀t∈l,t.Wf:=⟨(WE h).1,λt i=>Y6.wf_of ((WE h).2 t i)⟩
def Fld.wf_of{f:Fld}(h:∀c∈f.cells,DWf c):f.Wf:=by
 simp only[Fld.cells,ZIa,List.not_mem_nil,or_false,forall_eq_or_imp,forall_eq]at h;obtain⟨h1,h2,h3,h4,h5,h6,h7,h8,h9,t,u,ab,i,ac,ad⟩:=h;exact⟨h1.str_inv,h2.int_inv,h3.int_inv,h6.int_inv,h7.int_inv,⟨h8.int_inv,(ZtV h9).1,(ZtV h9).2⟩,t.str_inv,u.str_inv,ab.str_inv,(Zss i).1,(Zss i).2,ac.int_inv,ad.int_inv⟩
def Zjz{l}(h:DWf (Zr l)):I l<=big/\∀t∈l,t.Wf:=⟨(WE h).1,λt i=>Fld.wf_of ((WE h).2 t i)⟩
def Msg.wf_of{m:Msg}(h:∀c∈m.cells,DWf c):m.Wf:=by
 simp only[Msg.cells,ZIa,List.not_mem_nil,or_false,forall_eq_or_imp,forall_eq]at h;exact⟨h.1.str_inv,(Zjz h.2).1,(Zjz h.2).2⟩
def Zvd{l}(h:DWf (YF l)):I l<=big/\∀t∈l,t.Wf:=⟨(WE h).1,λt i=>Msg.wf_of ((WE h).2 t i)⟩
def Dfn.wf_of{m:Dfn}(h:∀c∈m.cells,DWf c):m.Wf:=by
 simp only[Dfn.cells,ZIa,List.not_mem_nil,or_false,forall_eq_or_imp,forall_eq]at h;exact⟨h.1.str_inv,(Zvd h.2.1).1,(Zvd h.2.1).2,h.2.2.str_inv⟩
def ZCx{s:Fld}(h:DWf (.agg s.cells)):s.Wf:=Fld.wf_of h.agg_inv
def Zx6{s:Msg}(h:DWf (.agg s.cells)):s.Wf:=Msg.wf_of h.agg_inv
def ZCv{s:Dfn}(h:DWf (.agg s.cells)):s.Wf:=Dfn.wf_of h.agg_inv
def ZD{α:Type}[Inhabited α]{l:List α}{i}(h:i<I l):l.getD i dE∈l:=by
 simp[ZHL,h]
end Go.DL
namespace Go.DL
open Go
variable [Zsc]
variable {kp:Option (List Nat)}{L:Loc}{H:Env}{s:St}{w:World}{os:List DOp}{ds:List D}{B:List (Nat × Rd)}{dst:Option Nat}{tmps:Array Value}{g:G}{Φ:Res->St->Prop}{Z:Nat->Nat}{xs:List Opd}{side:Prop}{row:Nat->List D}
def Zi6(P:Program)(fv:D)(n:Nat)(args:Nat->List D)(t:St):Prop :=
 ∀(l:Nat) (go:Nat->Oc) (A:Nat->St->Prop) (a0:St),Zmn P (.fn (.yield l) [] []) n args go A->A 0 a0->Z4 a0 t->WN P fv [.fn (.yield l) [] []] (a0.or t) λr S=>∃a,Zg1 n go A a r/\a.sub S
section
variable {P:Program}
def ZcS.Y{fv n args t}(h:ZcS P fv n args t):Zi6 P fv n args t:=λ_=>h _
def KM{F:Fr P}{rs}{Φ}{dds}(hF:YJ F rs Φ dds){o}{ps}{da db}{dk}{H}{L}{p}{fv}(hf:Zy H true o=sO (p,.d fv))(hp:p)(ks)(hks:(Yn H ks).map (·.1) |>.Nodup){a0 t}(hd:Z4 a0 t){n}{args}(hit:Zi6 P fv n args t)(hlen:∀j,j<n->(args j).length=I ps)(go:Nat->Oc)(B:Nat->St->Prop)(h0:B 0 a0)(hbody:∀j a,j<n->(∀i,i<j->go i=.next)->B j a->∀(F':Fr P) (ready busy:St),Z4 a ready ->
   (∀{dk:List WW} {H:Env} {L:Loc},(Z4 a busy->Zw F' dk H L (a.or busy))->Zw F' (.beginR::dk) H L (a.or ready)) ->
   Zsb F' busy (λoc a'=>oc=go j/\B (j+1) a')->Zw F' [.code da,.beginR,.code db] (WL ps (args j) (Kd ks H)) [] (a.or ready))(hall:∀q a,(∀i,i<n->go i=.next)->B n a->a q=nO->Zw (F.mark q) dk H L (a.upd q .dfr))(hret:∀q a m,m<n->(∀i,i<m->go i=.next)->go m=.stop .ret->B (m+1) a->a q=nO->Zw (F.mark q) (.code .ret::dk) H L (a.upd q .dfr))(hexit:∀q a m id,m<n->(∀i,i<m->go i=.next)->go m=.stop (.exit id)->B (m+1) a->a q=nO->Zw (F.mark q) (.code (.exit id)::dk) H L (a.upd q .dfr))(hpan:∀q a m d,m<n->(∀i,i<m->go i=.next)->go m=.pan d->B (m+1) a->a q=nO->Y4 (F.mark q) H L d (a.upd q .dfr))(hgo:∀m c,go m=.stop c->c=.ret\/∃id,c=.exit id):
  Zw F (.code (.rangeF o ps da db)::dk) H L (a0.or t):=by
 refine Zr6 hF.roundOf hf hp ks hks λq l r hq hl ab a4 ah a5 aq ar a6 az=>?_;have ag:a0 q=nO:=by cases h:a0 q with|none=>rfl|some x=>rw[Zt h]at hq;simp at hq
 have af:a0 l=nO:=by cases h:a0 l with|none=>rfl|some x=>rw[Zt h]at hl;simp at hl
 have a3:t q=nO:=by rw[ZF ag]at hq;exact hq
 have ay:t l=nO:=by rw[ZF af]at hl;exact hl
 let stOf:Nat->LSt:=λj=>match j with
  |0=>.ready
  |j+1=>match go j with
   |.next=>.ready
   |.stop c=>.done c
   |.pan _=>.busy
 let A:Nat->St->Prop:=λj S=>∃a,B j a/\Z4 a (lpS q l r .ready)/\S=a.or (lpS q l r (stOf j));have au:Z4 a0 (lpS q l r .ready):=λb o hb=>by by_cases h1:b=q;rw[h1];exact ag;by_cases h2:b=l;rw[h2];exact af;rw[Zfe h1 h2]at hb;simp at hb
 have a8:(((a0.or t).upd q .dfr).upd l (.loop r .ready))=(a0.or (lpS q l r .ready)).or t:=by
  funext b;simp only[ZH7];by_cases h2:b=l;subst h2;rw[if_pos rfl,Zt (s:=a0.or _) (by rw[ZF af];exact QB ab)];rw[if_neg h2];by_cases h1:b=q;subst h1;rw[if_pos rfl,Zt (s:=a0.or _) (by rw[ZF ag];exact Zau)];rw[if_neg h1];cases ha:a0 b with
  |some x=>rw[Zt ha,Zt (Zt ha)]
  |none=>rw[ZF ha,ZF (s:=a0.or _) (by rw[ZF ha];exact Zfe h1 h2)]
 have av:Z4 (a0.or (lpS q l r .ready)) t:=λb o hb=>by rw[ZF (hd b o hb)];exact Zfe (λe=>by rw[e,a3]at hb;simp at hb) (λe=>by rw[e,ay]at hb;simp at hb)
 have aw:=hF.ex;have ae:Zmn P (.fn (.yield l) [] []) n args go A:=by
  rintro j hj al S ⟨a,ao,u,rfl⟩;have a7:stOf j=.ready:=by
   cases j with
   |zero=>rfl
   |succ j=>simp only[stOf,al j ω]
  rw[a7];refine Zra (an:=F.an) (N:=F.N) (r:=r) (by rw[ZF (u l _ (QB ab))];exact QB ab) (by rw[ah];exact hlen j hj) aq ar a6 (by rw[ah];exact az) λF' aj ax=>?_;rw[a4,ah];refine hbody j a hj al ao F' (lpS q l r .ready) (lpS q l r .busy) u (λhk=>aj.begin (r:=r) (by rw[ZF (u l _ (QB ab))];exact QB ab) ?_) ?_
  .have e:(a.or (lpS q l r .ready)).upd l (.loop r .busy)=a.or (lpS q l r .busy):=by
    funext b;simp only[ZH7];by_cases h2:b=l;subst h2;rw[if_pos rfl,ZF (u b _ (QB ab)),QB ab];rw[if_neg h2];by_cases h1:b=q;subst h1;rw[ZF (u b _ Zau),ZF (u b _ Zau),Zau,Zau];cases ha:a b with
    |some x=>rw[Zt ha,Zt ha]
    |none=>rw[ZF ha,ZF ha,Zfe h1 h2,Zfe h1 h2]
   rw[e];exact hk (Zte u ab)
  refine Zum aj ab (by rw[ax,a5];exact aw) ?_;rintro oc a' ⟨rfl,am⟩ ak;exact⟨rfl,a',am,Zte ak ab,rfl⟩
 refine⟨_,by rw[a8];exact hit _ go A _ ae ⟨a0,h0,au,rfl⟩ av,?_,?_⟩
 .rintro d S ⟨S',ad,ac⟩;have fin:∀a,Z4 a (lpS q l r .ready)->∀st,(a.or (lpS q l r st)).sub S->S l=sO (.loop r st)/\(a.upd q .dfr).sub (S.del l)/\a q=nO:=λa u st hs=>by
   refine⟨hs l _ (by rw[ZF (u l _ (QB ab))];exact QB ab),λb o hb=>?_,u q _ Zau⟩;have ap:b≠l:=λe=>by subst e;rw[ZHD _ _ (Ne.symm ab),u b _ (QB ab)]at hb;simp at hb
   simp only[St.del,ap,if_false];by_cases h1:b=q;subst h1;rw[ZHB]at hb;exact hs b o (by rw[ZF (u b _ Zau),Zau];exact hb);rw[ZHD _ _ h1]at hb;exact hs b o (Zt hb)
  cases ad with
  |all h ha =>
   obtain⟨a,hB,u,rfl⟩:=ha;have ai:stOf n=.ready:=by
    cases n with
    |zero=>rfl
    |succ n=>simp only[stOf,h n ω]
   rw[ai]at ac;obtain⟨f1,f2,f3⟩:=fin a u _ ac;exact .inl ⟨f1,KF f2 (hall q a h hB f3)⟩
  |stop m c hm h hc ha =>
   obtain⟨a,hB,u,rfl⟩:=ha;have ai:stOf (m+1)=.done c:=by simp only[stOf,hc]
   rw[ai]at ac;obtain⟨f1,f2,f3⟩:=fin a u _ ac;rcases hgo m c hc with rfl|⟨id,rfl⟩;exact .inr ⟨.ret,.ret,f1,rfl,KF f2 (hret q a m hm h hc hB f3)⟩;exact .inr ⟨.exit id,.exit id,f1,rfl,KF f2 (hexit q a m id hm h hc hB f3)⟩
 rintro d S ⟨S',ad,ac⟩;cases ad with
 |pan m d hm h hc ha =>
  obtain⟨a,hB,u,rfl⟩:=ha;have hs:(a.upd q .dfr).sub S:=λb o hb=>by by_cases h1:b=q;subst h1;rw[ZHB]at hb;exact ac b o (by rw[ZF (u b _ Zau),Zau];exact hb);rw[ZHD _ _ h1]at hb;exact ac b o (Zt hb)
  exact ZvM hs (hpan q a m d hm h hc hB (u q _ Zau))
end
def gR0{A B:Prop}(k:B)(h:Hid B->A:=by
 intro hk;first|refine Zm ?_|refine YK ?_|refine Yt ?_
 simp only[Eqs,reduceCtorEq,Int.reduceToNat,reduceIte,Nat.reduceEqDiff,Nat.reduceAdd,Nat.reduceLeDiff];exact hk.out):A:=h ⟨k⟩
def gQ{p:Prop}(e:p){A B:Prop}(k:B)(h:p->Hid B->A:=by
 intro e1 hk;first|refine Zm ?_|refine YK ?_|refine Yt ?_
 simp only[Eqs,reduceCtorEq,Int.reduceToNat,reduceIte,Nat.reduceEqDiff,Nat.reduceAdd,Nat.reduceLeDiff,e1];exact hk.out):A:=h e ⟨k⟩
def kF{A B:Prop}(k:B)(h:Hid B->A:=by
 intro hk;refine And.intro (by first|trivial|exact⟨rfl,trivial⟩|simp[Wg,KY,YZ,Zan]) ?_;exact hk.out):A:=h ⟨k⟩
def cX{p q:Prop}(e:p)(c:q){A B:Prop}(k:B)(h:p->q->Hid B->A:=by
 intro e1 hc hk;refine Zay rfl rfl rfl rfl rfl φ φ hc (Zm ?_);simp only[Eqs,reduceCtorEq,Int.reduceToNat,reduceIte,Nat.reduceEqDiff,Nat.reduceAdd,Nat.reduceLeDiff,e1];exact hk.out):A:=h e c ⟨k⟩
def tX{p q:Prop}(e:p)(c:q){A B:Prop}(k:B)(h:p->q->Hid B->A:=by
 intro e1 hc hk;refine Zaz rfl rfl rfl rfl rfl φ φ hc (Zm ?_);simp only[Eqs,reduceCtorEq,Int.reduceToNat,reduceIte,Nat.reduceEqDiff,Nat.reduceAdd,Nat.reduceLeDiff,e1];exact hk.out):A:=h e c ⟨k⟩
def cG{q:Prop}(c:q){A B:Prop}(k:B)(h:q->Hid B->A:=by
 intro hc hk;refine Zi2 rfl rfl rfl rfl rfl (λhcg=>⟨by first|trivial|(simpa[Zgl]using hcg),trivial,hc⟩) (Zm ?_);simp only[Eqs,reduceCtorEq,Int.reduceToNat,reduceIte,Nat.reduceEqDiff,Nat.reduceAdd,Nat.reduceLeDiff];exact hk.out):A:=h c ⟨k⟩
def cW{q:Prop}(c:q){A B:Prop}(k:B)(h:q->Hid B->A:=by
 intro hc hk;refine ZvG rfl rfl rfl rfl rfl φ φ hc (Zm ?_);simp only[Eqs,reduceCtorEq,Int.reduceToNat,reduceIte,Nat.reduceEqDiff,Nat.reduceAdd,Nat.reduceLeDiff];exact hk.out):A:=h c ⟨k⟩
def cV{q:Prop}(c:q){A B C:Prop}(k:B)(k2:C)(h:q->Hid B->Hid C->A:=by
 intro hc hk hk2;exact Zg0 rfl rfl rfl rfl rfl φ φ hc hk.out hk2.out):A:=h c ⟨k⟩ ⟨k2⟩
def vV{q:Prop}(c:q){A B C:Prop}(k:B)(k2:C)(h:q->Hid B->Hid C->A:=by
 intro hc hk hk2;exact Zbz rfl rfl rfl rfl rfl φ φ hc hk.out hk2.out):A:=h c ⟨k⟩ ⟨k2⟩
def cV0{q:Prop}(c:q){A B C:Prop}(k:B)(k2:C)(h:q->Hid B->Hid C->A:=by
 intro hc hk hk2;exact Zw3 rfl rfl rfl rfl rfl φ φ hc hk.out hk2.out):A:=h c ⟨k⟩ ⟨k2⟩
def vV0{q:Prop}(c:q){A B C:Prop}(k:B)(k2:C)(h:q->Hid B->Hid C->A:=by
 intro hc hk hk2;exact Znj rfl rfl rfl rfl rfl φ φ hc hk.out hk2.out):A:=h c ⟨k⟩ ⟨k2⟩
def cXD{p q:Prop}(e:p)(c:q){A B:Prop}(k:B)(h:p->q->Hid B->A:=by
 intro e1 hc hk;refine ZfM rfl rfl rfl rfl rfl φ φ hc (Yt ?_);simp only[Eqs,reduceCtorEq,Int.reduceToNat,reduceIte,Nat.reduceEqDiff,Nat.reduceAdd,Nat.reduceLeDiff,e1];exact hk.out):A:=h e c ⟨k⟩
def tXD{p q:Prop}(e:p)(c:q){A B:Prop}(k:B)(h:p->q->Hid B->A:=by
 intro e1 hc hk;refine Zi1 rfl rfl rfl rfl rfl φ φ hc (by first|trivial|exact⟨rfl,trivial⟩|simp[Wg,KY]) (Yt ?_);simp only[Eqs,reduceCtorEq,Int.reduceToNat,reduceIte,Nat.reduceEqDiff,Nat.reduceAdd,Nat.reduceLeDiff,e1];exact hk.out):A:=h e c ⟨k⟩
def cGD{q:Prop}(c:q){A B:Prop}(k:B)(h:q->Hid B->A:=by
 intro hc hk;refine ZvE rfl rfl rfl rfl rfl (λhcg=>⟨by first|trivial|(simpa[Zgl]using hcg),trivial,hc⟩) (Yt ?_);simp only[Eqs,reduceCtorEq,Int.reduceToNat,reduceIte,Nat.reduceEqDiff,Nat.reduceAdd,Nat.reduceLeDiff];exact hk.out):A:=h c ⟨k⟩
def cWD{q:Prop}(c:q){A B:Prop}(k:B)(h:q->Hid B->A:=by
 intro hc hk;refine ZCc rfl rfl rfl rfl rfl φ φ hc (by first|trivial|exact⟨rfl,trivial⟩|simp[Wg,KY]) (Yt ?_);simp only[Eqs,reduceCtorEq,Int.reduceToNat,reduceIte,Nat.reduceEqDiff,Nat.reduceAdd,Nat.reduceLeDiff];exact hk.out):A:=h c ⟨k⟩
def cVD{q:Prop}(c:q){A B C:Prop}(k:B)(k2:C)(h:q->Hid B->Hid C->A:=by
 intro hc hk hk2;exact ZhH rfl rfl rfl rfl rfl φ φ hc hk.out hk2.out):A:=h c ⟨k⟩ ⟨k2⟩
def gA{A B:Prop}(k:B)(h:Hid B->A:=by
 intro hq;repeat(first|refine Zc ?_|refine Zs ?_|refine Z3 ?_|refine ZI ?_|refine Yx ?_|refine Zd ?_|refine Yr ?_|refine ZS rfl ?_)
 first|refine rgR (by conv=>lhs;whnf) (by conv=>lhs;whnf) (Zm ?_)|refine Zit (by conv=>lhs;whnf) (by conv=>lhs;whnf) (YK ?_)|refine rgD (by conv=>lhs;whnf) (by conv=>lhs;whnf) (Yt ?_)
 simp only[Eqs,reduceCtorEq,Int.reduceToNat,reduceIte,Nat.reduceEqDiff,Nat.reduceAdd,Nat.reduceLeDiff];repeat(refine And.intro (by first|omega|trivial|(intro h0;simp at h0;omega)) ?_)
 exact hq.out):A:=h ⟨k⟩
def xA{p:Prop}(e:p){A B:Prop}(k:B)(h:p->Hid B->A:=by
 intro e1 hq;repeat(first|refine Zc ?_|refine Zs ?_|refine Z3 ?_|refine ZI ?_|refine Yx ?_|refine Zd ?_|refine Yr ?_|refine ZS rfl ?_)
 first|refine rgR (by conv=>lhs;whnf) (by conv=>lhs;whnf) (Zm ?_)|refine Zit (by conv=>lhs;whnf) (by conv=>lhs;whnf) (YK ?_)|refine rgD (by conv=>lhs;whnf) (by conv=>lhs;whnf) (Yt ?_)
 simp only[Eqs,reduceCtorEq,Int.reduceToNat,reduceIte,Nat.reduceEqDiff,Nat.reduceAdd,Nat.reduceLeDiff,e1];repeat(refine And.intro (by first|omega|trivial|(intro h0;simp at h0;omega)) ?_)
 exact hq.out):A:=h e ⟨k⟩
def gG{A B:Prop}(k:B)(h:Hid B->A:=by
 intro hq;repeat(first|refine Zc ?_|refine Zs ?_|refine Z3 ?_|refine ZI ?_|refine Yx ?_|refine Zd ?_|refine Yr ?_|refine ZS rfl ?_)
 first|refine rgR (by conv=>lhs;whnf) (by conv=>lhs;whnf) (Zm ?_)|refine Zit (by conv=>lhs;whnf) (by conv=>lhs;whnf) (YK ?_)|refine rgD (by conv=>lhs;whnf) (by conv=>lhs;whnf) (Yt ?_)
 simp only[Eqs,reduceCtorEq,Int.reduceToNat,reduceIte,Nat.reduceEqDiff,Nat.reduceAdd,Nat.reduceLeDiff];repeat(first|refine Zc ?_|refine Zs ?_|refine Z3 ?_|refine ZI ?_|refine Yx ?_|refine Zd ?_|refine Yr ?_|refine ZS rfl ?_)
 first|refine rgR (by conv=>lhs;whnf) (by conv=>lhs;whnf) (Zm ?_)|refine Zit (by conv=>lhs;whnf) (by conv=>lhs;whnf) (YK ?_)|refine rgD (by conv=>lhs;whnf) (by conv=>lhs;whnf) (Yt ?_)
 simp only[Eqs,reduceCtorEq,Int.reduceToNat,reduceIte,Nat.reduceEqDiff,Nat.reduceAdd,Nat.reduceLeDiff];exact hq.out):A:=h ⟨k⟩
def iG{A B:Prop}(k:B)(h:Hid B->A:=by
 intro hq;repeat(first|refine Zc ?_|refine Zs ?_|refine Z3 ?_|refine ZI ?_|refine Yx ?_|refine Zd ?_|refine Yr ?_|refine ZS rfl ?_)
 refine Zn rfl trivial (λh=>by first|(simp at h;done)|(rw[hk]at h;simp at h;done)) (λ_=>?_);repeat(first|refine Zc ?_|refine Zs ?_|refine Z3 ?_|refine ZI ?_|refine Yx ?_|refine Zd ?_|refine Yr ?_|refine ZS rfl ?_)
 first|refine rgR (by conv=>lhs;whnf) (by conv=>lhs;whnf) (Zm ?_)|refine Zit (by conv=>lhs;whnf) (by conv=>lhs;whnf) (YK ?_)|refine rgD (by conv=>lhs;whnf) (by conv=>lhs;whnf) (Yt ?_)
 simp only[Eqs,reduceCtorEq,Int.reduceToNat,reduceIte,Nat.reduceEqDiff,Nat.reduceAdd,Nat.reduceLeDiff];exact hq.out):A:=h ⟨k⟩
def gI{A B:Prop}(k:B)(h:Hid B->A:=by
 intro hq;repeat(first|refine Zc ?_|refine Zs ?_|refine Z3 ?_|refine ZI ?_|refine Yx ?_|refine Zd ?_|refine Yr ?_|refine ZS rfl ?_)
 first|refine rgR (by conv=>lhs;whnf) (by conv=>lhs;whnf) (Zm ?_)|refine Zit (by conv=>lhs;whnf) (by conv=>lhs;whnf) (YK ?_)|refine rgD (by conv=>lhs;whnf) (by conv=>lhs;whnf) (Yt ?_)
 simp only[Eqs,reduceCtorEq,Int.reduceToNat,reduceIte,Nat.reduceEqDiff,Nat.reduceAdd,Nat.reduceLeDiff];repeat(first|refine Zc ?_|refine Zs ?_|refine Z3 ?_|refine ZI ?_|refine Yx ?_|refine Zd ?_|refine Yr ?_|refine ZS rfl ?_)
 refine Zn rfl trivial (λh=>by first|(simp at h;done)|(rw[hk]at h;simp at h;done)) (λ_=>?_);exact hq.out):A:=h ⟨k⟩
section
variable {P:Program} {F:Fr P} {dk:List WW} {H:Env} {L:Loc} {s:St}
def xP{A:Prop}{t:St}{B:Nat->Prop}(l:Nat)(k:∀b,t b=nO->B b)(h:∀n,n=l->(∀b,t b=nO->Hid (B b))->A:=by
 intro n hn hk;refine Zdk n (by rw[hn];rfl) λb hb=>?_;simp only[hn,Eqs,reduceCtorEq,Int.reduceToNat,reduceIte,Nat.reduceEqDiff,Nat.reduceAdd,Nat.reduceLeDiff,JT,Ja,delL];exact(hk b hb).out):A:=h l rfl λb hb=>⟨k b hb⟩
def kE{A B:Prop}(l:List Nat)(k:B)(h:∀n,n=l->Hid B->A:=by
 intro n hn hk;refine Zqh n ?_;simp only[hn,Eqs,reduceCtorEq,Int.reduceToNat,reduceIte,Nat.reduceEqDiff,Nat.reduceAdd,Nat.reduceLeDiff];exact hk.out):A:=h l rfl ⟨k⟩
end
end Go.DL
namespace Go.DL
open Go Go.Proofs
variable {kp:Option (List Nat)}{L:Loc}{H:Env}{s:St}{w:World}{os:List DOp}{ds:List D}{B:List (Nat × Rd)}{dst:Option Nat}{tmps:Array Value}{g:G}{Φ:Res->St->Prop}{Z:Nat->Nat}{xs:List Opd}{side:Prop}{row:Nat->List D}
def ZjO(c:UInt8):Bool:=(dC ((65:Int)<=c.toNat)&&dC ((c.toNat:Int)<=90)) ||(dC ((97:Int)<=c.toNat)&&dC ((c.toNat:Int)<=122))
def Zv0(c:UInt8):Bool:=dC ((48:Int)<=c.toNat)&&dC ((c.toNat:Int)<=57)
def Zf5(c:UInt8):Bool:=ZjO c ||Zv0 c ||decide ((c.toNat:Int)=95)
def Y8(s:Str):Bool:=match s with
 | []=>false
 |c::_=>dC (I s<=32)&&ZjO c&&s.all Zf5
def ZdT(v:Int):Bool:=dC (-1048576<=v)&&dC (v<=1048576)
end Go.DL
namespace Go.DL
open Go
variable {kp:Option (List Nat)}{L:Loc}{H:Env}{s:St}{w:World}{os:List DOp}{ds:List D}{B:List (Nat × Rd)}{dst:Option Nat}{tmps:Array Value}{g:G}{Φ:Res->St->Prop}{Z:Nat->Nat}{xs:List Opd}{side:Prop}{row:Nat->List D}
def Wp{α:Type}[Inhabited α]{l:List α}{k}(h:k<I l):l.drop k=l.getD k dE::l.drop (k+1):=by
 rw[List.drop_eq_getElem_cons h];simp[ZHL,h]
def Yi{α:Type}[Inhabited α]{l:List α}{k}(h:k<I l):l.take (k+1)=l.take k++[l.getD k dE]:=by
 rw[List.take_succ_eq_append_getElem h];simp[ZHL,h]
def ZU{α:Type}[Inhabited α](f:α->List D)(row:Nat->List D)(l:List α):Prop:=∀i,i<I l->row i=f (l.getD i dE)
section
variable {α:Type} [Inhabited α] {f:α->List D} {row row2:Nat->List D} {l a b:List α}
def ZU.self:ZU f (λi=>f (l.getD i dE)) l:=λ_ _=>rfl
def ZU.nil:ZU f row []:=λi h=>absurd h (Nat.not_lt_zero i)
def ZU.one{x}(h:row 0=f x):ZU f row [x]:=λi t=>by
 obtain rfl:i=0:=by simp at t;exact t
 exact h
def ZU.app{n}(h:ZU f row a)(u:ZU f row2 b)(hn:n=I a):ZU f (Yg n row row2) (a++b):=λi hi=>by
 subst hn;unfold Yg;split;rename_i t;rw[h i t];simp[ZHL,ZHW t];rename_i t;rw[u (i-I a) (by simp at hi;omega)];simp[ZHL,ZIf (Nat.not_lt.1 t)]
def ZU.snoc{n x}(h:ZU f row a)(i:row2 0=f x)(t:n=I a):ZU f (Yg n row row2) (a++[x]):=h.app (.one i) t
def ZU.take(h:ZU f row l)(k):ZU f row (l.take k):=λi t=>by
 rw[ZHQ]at t;rw[h i ω];simp[ZHL,List.getElem?_take_of_lt (show i<k by omega)]
def ZU.le{t n s}(h:ZU f row l)(u:n=I l):(D.sl t n s row).Le (slD s f l):=Zee u λi hi=>h i ω
def ZU.leT{t n s}(h:ZU f row l)(hn:n=I l):(D.sl t n s row).Le (.sl t (I l) s λi=>f (l.getD i dE)):=by
 subst hn;exact Znn λi u=>by rw[h i u];exact LeC.refl _
end
open Go.Proofs
def Zad(t:Yw):Bool:=Y8 t.field&&!dC (t.factor=0)&&ZdT t.factor
def ZeA:List Str->List Yw->Bool
 |_,[]=>true
 |seen,t::r=>Zad t&&!dC (t.field∈seen)&&ZeA (seen++[t.field]) r
def Z6(s:ZbA):Bool:=ZdT s.base&&dC (I s.terms<=4)&&ZeA [] s.terms
abbrev ZeP:=Str->Option (Int×Int)
def ZbJ(r:Int×Int):Bool:=dC (r.1<0) ||decide (r.2<r.1) ||decide (34359738368<=r.2)
def Qy(look:ZeP)(t:Yw):Bool:=match look t.field with|some r=>ZbJ r|none=>false
def JH(look:ZeP)(t:Yw):Bool:=(look t.field).isNone
def Zcu(s:ZbA)(look:ZeP):Int:=if Z6 s=false then 2 else if s.terms.any (Qy look) then 2 else if s.terms.any (JH look) then 9 else 0
def Zh1(look:ZeP)(t:Yw):Int×Int:=(look t.field).getD (0,0)
def loT(look:ZeP)(t:Yw):Int:=if 0<t.factor then t.factor*(Zh1 look t).1 else t.factor*(Zh1 look t).2
def hiT(look:ZeP)(t:Yw):Int:=if 0<t.factor then t.factor*(Zh1 look t).2 else t.factor*(Zh1 look t).1
def loS(look:ZeP):List Yw->Int
 | []=>0
 |t::r=>loT look t+loS look r
def hiS(look:ZeP):List Yw->Int
 | []=>0
 |t::r=>hiT look t+hiS look r
def JV(s:ZbA)(look:ZeP):Int×Int×Int:=if Zcu s look=0 then (s.base+loS look s.terms,s.base+hiS look s.terms,0) else (0,0,Zcu s look)
def Zy5{α:Type}[Inhabited α]{p}{l:List α}{i}(h:i<I l):(l.take (i+1)).any p=((l.take i).any p ||p (l.getD i dE)):=by
 rw[Yi h,List.any_append];simp
def ZCl{α:Type}[Inhabited α]{p}{l:List α}{i}(h:i<I l)(t:p (l.getD i dE)=true):l.any p=true :=
 List.any_eq_true.2 ⟨_,ZD h,t⟩
def Zwa{α β:Type}[Inhabited α]{f}{b:β}{l:List α}{i:Nat}(h:i<I l):(l.take (i+1)).foldl f b=f ((l.take i).foldl f b) (l.getD i dE):=by
 rw[Yi h,List.foldl_append];rfl
def Zj{α:Type}(p:α->Bool):List α->Int
 | []=>-1
 |x::r=>if p x then 0 else if Zj p r<0 then -1 else Zj p r+1
def Wc{α}{p:α->Bool}{l:List α}(h:∀x∈l,p x=false):Zj p l=-1:=by
 induction l with
 |nil=>rfl
 |cons x r ih=>simp[Zj,h x ψ,ih (λy i=>h y (by simp[i]))]
def WZ{α}[Inhabited α]{p}{l:List α}{i:Nat}(hi:i<I l)(t:p (l.getD i dE)=true)(h:∀j,j<i->p (l.getD j dE)=false):Zj p l=i:=by
 induction l generalizing i with
 |nil=>simp at hi
 |cons x r ih =>
  cases i with
  |zero=>simp at t;simp[Zj,t]
  |succ i =>have u:=h 0 ω;have:=ih (i:=i) (by simpa using hi) (by simpa using t) (λj hj=>by simpa using h (j+1) ω);simp at u;simp[Zj,u,this];omega
def ZaK{α}(p:α->Bool)(l:List α):-1<=Zj p l:=by
 induction l with
 |nil=>simp[Zj]
 |cons x r ih=>simp only[Zj];split<;>(try split)<;>omega
def WC{α}(p:α->Bool)(l:List α):Zj p l<I l:=by
 induction l with
 |nil=>simp[Zj]
 |cons x r ih=>simp only[Zj,ZHN];split<;>(try split)<;>omega
def Zco{α}{p:α->Bool}{l:List α}(h:Zj p l<0):∀x∈l,p x=false:=by
 induction l with
 |nil=>simp
 |cons x r ih =>have:=ZaK p r;simp only[Zj]at h;split at h;omega;rename_i t;split at h;rename_i i;intro y hy;rcases List.mem_cons.1 hy with rfl|hy;simpa using t;exact ih i y hy;omega
def Jt{α}[Inhabited α]{p:α->Bool}{l:List α}(h:0<=Zj p l):p (l.getD (Zj p l).toNat dE)=true/\∀j,j<(Zj p l).toNat->p (l.getD j dE)=false:=by
 induction l with
 |nil=>simp[Zj]at h
 |cons x r ih =>
  have:=ZaK p r;by_cases i:p x=true;simp[Zj,i];simp only[Zj,i,if_false,ZH5]at h⊢;by_cases t:Zj p r<0;simp[t]at h;rw[if_neg t];obtain⟨u,h2⟩:=ih ω;rw[show(Zj p r+1).toNat=(Zj p r).toNat+1 by omega];refine⟨by simpa using u,λj hj=>?_⟩;cases j with
  |zero=>simpa using i
  |succ j=>simpa using h2 j ω
def Q0{α:Type}[Inhabited α]{l:List α}{n j}(h:j<n):(l.take n).getD j dE=l.getD j dE:=by
 simp[ZHL,List.getElem?_take_of_lt h]
def Zq(d:Dfn)(s:Str)(n:Nat):Int:=Zj (λm=>dC (m.name=s)) (d.msgs.take n)
def KO(m:Msg)(s:Str)(n:Nat):Int:=Zj (λf=>dC (f.name=s)) (m.fields.take n)
def J3(f:Fld)(tag:Int):Int:=Zj (λc=>dC (c.low<=tag)&&dC (tag<=c.high)) f.cases
def YE(f:Fld):Bool:=dC (1<=f.kind)&&dC (f.kind<=3)
def KD(f:Fld):Int×Int:=if f.kind=2 then (f.low,f.low) else (f.low,f.high)
def ZrU(a b:Int):Bool:=dC (0<=a)&&(dC (a<=b)&&dC (b<34359738368))
def ZwZ:List Str:=[[],[98,108,120,104],[98,108,120],[111,120,104],[115],[120,104],[111,104],[102,115],[102],[116,99],[98],[114,107],[102,115,121]]
def ZoV(k:Int):Str:=ZwZ.getD k.toNat []
def Zct(s:Str)(c:UInt8):Bool:=dC (c∈s)
def zrA(u:Str)(f:Fld):Bool:=(Zct u 98 ||decide (f.bits=0))&&((Zct u 108||!f.little)&&((Zct u 111||!f.loose)&&((Zct u 120 ||decide (f.low=0))&&(Zct u 104 ||decide (f.high=0)))))
def zrB(u:Str)(f:Fld):Bool:=(Zct u 115 ||(dC (f.size.base=0)&&dC (I f.size.terms=0)))&&((Zct u 102 ||decide (f.of=[]))&&((Zct u 116 ||decide (f.tag=[]))&&(Zct u 114 ||decide (f.from_=[]))))
def zrC(u:Str)(f:Fld):Bool:=(Zct u 99 ||decide (I f.cases=0))&&((Zct u 107 ||decide (f.check=0))&&(Zct u 121 ||decide (f.key=0)))
def Zlu(f:Fld):Bool:=zrA (ZoV f.kind) f&&(zrB (ZoV f.kind) f&&zrC (ZoV f.kind) f)
def ZcU(f:Fld):Bool:=dC (f.bits<1) ||(dC (32<f.bits) ||(f.little&&(!dC (f.bits=16)&&(!dC (f.bits=24)&&!dC (f.bits=32)))))
def Znd(f:Fld):Int:=if f.kind=2 then f.low else f.high
def Ztj(f:Fld):Bool:=dC (f.low<0) ||(dC (Znd f<f.low) ||decide (2 ^ f.bits.toNat<=Znd f))
def JJ(f:Fld):Int:=if ZcU f then 6 else if Ztj f then 7 else 0
def ZC4{b}(h0:0<=b)(h1:b<=32):J8 .i64 1 b=2 ^ b.toNat:=by
 unfold J8;rw[show Nat.min b.toNat IntKind.i64.bits=b.toNat from Nat.min_eq_left (show b.toNat<=IntKind.i64.bits by simp[IntKind.bits];omega)];simp
def Zgj{b:Int}(h0:0<=b)(h1:b<=32):(0:Int)<2 ^ b.toNat/\(2:Int) ^ b.toNat<=4294967296:=by
 have h:=Nat.pow_le_pow_right (n:=2) ω (show b.toNat<=32 by omega);have i:=Nat.two_pow_pos b.toNat;rw[show(2:Int) ^ b.toNat=((2 ^ b.toNat:Nat):Int) from(Int.natCast_pow 2 b.toNat).symm];generalize 2 ^ b.toNat=x at h i⊢;omega
def Zvv(m:Msg)(s:Str)(n:Nat):Bool:=(m.fields.take n).any λf=>dC (f.kind=9)&&dC (f.tag=s)
def ZeW(d:Dfn)(at_:Nat)(high:Int):Int->List Y6->Int
 |_,[]=>0
 |low,c::r=>if dC (c.low<low) ||(dC (c.high<c.low) ||decide (high<c.high)) then 7 else if Zq d c.of at_<0 then 8 else ZeW d at_ high (c.high+1) r
def Zsr(d:Dfn)(at_:Nat)(f:Fld)(low high:Int):Int:=if dC (I f.cases<1) ||decide (40<I f.cases) then 3 else ZeW d at_ high low f.cases
def WB(fs:List Fld):ZeP:=λs=>if Zj (λf=>dC (f.name=s)) fs<0 then nO else if YE (fs.getD (Zj (λf=>dC (f.name=s)) fs).toNat dE) then sO (KD (fs.getD (Zj (λf=>dC (f.name=s)) fs).toNat dE)) else nO
def ZdQ(fs:List Fld)(s:ZbA):Int:=if Z6 s=false then 9 else if s.terms.any (JH (WB fs)) then 8 else if !dC ((JV s (WB fs)).2.2=0) ||(dC ((JV s (WB fs)).1<0) ||decide (1048576<(JV s (WB fs)).2.1)) then 9 else 0
def Za5(l:List Str):D:=slD 1 (λs=>[.str s]) l
def ZaQ(f:Fld):List Str:=if dC (f.kind=7) ||(dC (f.kind=8) ||decide (f.kind=12)) then [f.of] else []
def Yv(f:Fld):List Str:=ZaQ f++if f.kind=9 then f.cases.map (·.of) else []
def Zca(out:List Str)(s:Str):List Str:=if s∈out then out else out++[s]
def Kj(m:Msg):List Str:=(m.fields.flatMap Yv).foldl Zca []
def Zt6(out s):(Zca out s).length<=I out+1:=by unfold Zca;split<;>simp
def ZlB(l i:List Str):(l.foldl Zca i).length<=I i+I l:=by
 induction l generalizing i with
 |nil=>simp
 |cons x r ih=>have:=ih (Zca i x);have:=Zt6 i x;simp only[List.foldl_cons,ZHN];omega
def ZiT(l:List Fld)(i):((l.take i).flatMap Yv).length<=(l.flatMap Yv).length:=by
 conv=>rhs;rw[<-List.take_append_drop i l,List.flatMap_append,ZHF]
 omega
def ZlA(l:List Fld)(i)(t:i<I l):(l.take (i+1)).flatMap Yv=(l.take i).flatMap Yv++Yv (l.getD i dE):=by
 rw[Yi t,List.flatMap_append];simp
def Zfz(d:Dfn)(m:Msg)(prev:List Bool):Bool:=m.fields.all (λf=>!f.loose)&&(Kj m).all λs=>prev.getD (Zq d s (I prev)).toNat dE
def KH(d:Dfn):Nat->List Bool
 |0=>[]
 |n+1=>KH d n++[Zfz d (d.msgs.getD n dE) (KH d n)]
def ZcL(d n):(KH d n).length=n:=by
 induction n with
 |zero=>rfl
 |succ n ih=>simp[KH,ih]
structure ZDe(d:Dfn)(j:Nat):Prop where
 few:((d.msgs.getD j default).fields.flatMap Yv).length<=1000000
 ref:∀s∈Kj (d.msgs.getD j default),0<=Zq d s j
def Zsj{α:Type}[Inhabited α]{p}{l:List α}{i}(h:i<I l):(l.take (i+1)).all p=((l.take i).all p&&p (l.getD i dE)):=by
 rw[Yi h,List.all_append];simp
def Zol(f:Fld):Bool:=!dC (f.bits=2)&&(!dC (f.bits=4)&&(dC (f.bits<8) ||(dC (512<f.bits)||!dC (Int.tmod f.bits 8=0))))
def Zjn(m:Msg)(i:Nat)(f:Fld):Bool:=dC (KO m f.tag i<0) ||(!YE (m.fields.getD (KO m f.tag i).toNat dE) ||Zvv m f.tag i)
def Zp6(d:Dfn)(at_:Nat)(f:Fld):Bool:=dC (Zq d f.of at_<0)||!(KH d at_).getD (Zq d f.of at_).toNat dE
def QS(d:Dfn)(at_:Nat)(m:Msg)(i:Nat)(f:Fld):Int :=
 if f.kind=1 then JJ f else if f.kind=2 then JJ f
 else if f.kind=3 then (if ZrU f.low f.high then 0 else 7)
 else if f.kind=4 then ZdQ (m.fields.take i) f.size
 else if f.kind=5 then (if dC (f.low<0) ||(dC (255<f.low) ||(dC (f.high<0) ||decide (1048576<f.high))) then 7 else 0)
 else if f.kind=6 then (if dC (f.high<2) ||decide (1048576<f.high) then 7 else 0)
 else if f.kind=7 then (if Zq d f.of at_<0 then 8 else ZdQ (m.fields.take i) f.size)
 else if f.kind=8 then (if Zq d f.of at_<0 then 8 else 0)
 else if f.kind=9 then (if Zjn m i f then 8 else Zsr d at_ f (KD (m.fields.getD (KO m f.tag i).toNat dE)).1 (KD (m.fields.getD (KO m f.tag i).toNat dE)).2)
 else if f.kind=10 then (if Zol f then 6 else 0)
 else if f.kind=11 then (if dC (f.check<1) ||decide (3<f.check) then 7 else if KO m f.from_ i<0 then 8 else 0)
 else if f.kind=12 then (if dC (f.key<0) ||decide (4294967295<f.key) then 7 else if Zp6 d at_ f then 8 else ZdQ (m.fields.take i) f.size)
 else 0
def Qk(d:Dfn)(at_:Nat)(m:Msg)(i:Nat)(f:Fld):Int :=
 if Y8 f.name=false then 1 else if 0<=KO m f.name i then 2 else if dC (f.kind<1) ||decide (12<f.kind) then 4 else if Zlu f=false then 5 else QS d at_ m i f
def YO(d:Dfn)(at_:Nat)(m:Msg):Nat->List Fld->Option (Int×Int)
 |_,[]=>nO
 |i,f::r=>if Qk d at_ m i f=0 then YO d at_ m (i+1) r else sO (i,Qk d at_ m i f)
def W1(d:Dfn)(at_:Nat)(m:Msg):Option (Int×Int) :=
 if Y8 m.name=false then sO (-1,1) else if 0<=Zq d m.name at_ then sO (-1,2) else if dC (I m.fields<1) ||decide (40<I m.fields) then sO (-1,3) else YO d at_ m 0 m.fields
def Zxu(d:Dfn)(at_:Nat)(deps:List Int)(b:Int)(l:List Str):Int:=l.foldl (λa s=>max a (deps.getD (Zq d s at_).toNat dE)) b
def Ze4(d:Dfn)(at_:Nat)(deps:List Int)(m:Msg):Int:=Zxu d at_ deps 0 (Kj m)+1
def JR(d:Dfn):Nat->List Msg->List Int->Option (Int×Int×Int)
 |_,[],_=>if Zq d d.start (I d.msgs)<0 then sO (-1,-1,11) else nO
 |at_,m::r,deps=>match W1 d at_ m with
  |some (i,c)=>sO (at_,i,c)
  |none=>if 16<Ze4 d at_ deps m then sO (at_,-1,10) else JR d (at_+1) r (deps++[Ze4 d at_ deps m])
def Zsw(d:Dfn):Option (Int×Int×Int) :=
 if Y8 d.name=false then sO (-1,-1,1) else if dC (I d.msgs<1) ||decide (60<I d.msgs) then sO (-1,-1,3) else JR d 0 d.msgs []
def ZfE(d:Dfn):Bool:=(Zsw d).isNone
def Zxh{d at_ i low l}(h:ZeW d at_ i low l=0):∀c∈l,0<=Zq d c.of at_:=by
 induction l generalizing low with
 |nil=>simp
 |cons c r ih =>simp only[ZeW]at h;split at h;omega;split at h;omega;intro x hx;rcases List.mem_cons.1 hx with rfl|hx;omega;exact ih h x hx
def Zqs{d at_ i m f}(h:Qk d at_ m i f=0):(Yv f).length<=41/\∀s∈Yv f,0<=Zq d s at_:=by
 unfold Qk at h;split at h;· omega
 split at h;· omega
 split at h;· omega
 rename_i hk;split at h;· omega
 simp only[ZHT,decide_eq_true_eq,not_or,Int.not_lt]at hk;have t:f.kind=1\/f.kind=2\/f.kind=3\/f.kind=4\/f.kind=5\/f.kind=6\/f.kind=7\/f.kind=8\/f.kind=9\/f.kind=10\/f.kind=11\/f.kind=12:=ω;unfold QS at h;rcases t with hk|hk|hk|hk|hk|hk|hk|hk|hk|hk|hk|hk<;>simp only[hk,ZId,if_true,if_false]at h<;>(try(simp[Yv,ZaQ,hk];done));simp only[Yv,ZaQ,hk];split at h;omega;simp;omega;simp only[Yv,ZaQ,hk];split at h;omega;simp;omega;split at h;omega;unfold Zsr at h;split at h;omega;rename_i u;simp only[ZHT,decide_eq_true_eq,not_or,Nat.not_lt]at u;have:=Zxh h;simp[Yv,ZaQ,hk];exact⟨ω,this⟩;split at h;omega;split at h;omega;rename_i hv;simp only[Zp6,ZHT,decide_eq_true_eq,not_or]at hv;simp[Yv,ZaQ,hk];omega
def ZnS{d at_ m i l}(h:YO d at_ m i l=nO):(l.flatMap Yv).length<=41*I l/\∀s∈l.flatMap Yv,0<=Zq d s at_:=by
 induction l generalizing i with
 |nil=>simp
 |cons f r ih =>simp only[YO]at h;split at h;rename_i hf;have t:=Zqs hf;have u:=ih h;simp only[List.flatMap_cons,ZHF,ZHN,List.mem_append];refine⟨ω,λs hs=>?_⟩;rcases hs with hs|hs;exact t.2 s hs;exact u.2 s hs;simp at h
def Zhf{s}{l i:List Str}:s∈l.foldl Zca i↔s∈i\/s∈l:=by
 induction l generalizing i with
 |nil=>simp
 |cons x r ih =>simp only[List.foldl_cons,ih,ZIa];unfold Zca;split;rename_i h;constructor;rintro(h1|h1);exact .inl h1;exact .inr (.inr h1);rintro(h1|rfl|h1);exact .inl h1;exact .inl h;exact .inr h1;simp only[List.mem_append,List.mem_singleton,_root_.or_assoc]
def Zui{s m}:s∈Kj m↔s∈m.fields.flatMap Yv:=by
 unfold Kj;rw[Zhf];simp
def ZAi{d j m}(hm:d.msgs.getD j dE=m)(h:W1 d j m=nO):ZDe d j:=by
 unfold W1 at h;split at h;· simp at h
 split at h;· simp at h
 split at h;· simp at h
 rename_i i;simp only[ZHT,decide_eq_true_eq,not_or,Nat.not_lt]at i;have:=ZnS h;subst hm;exact⟨ω,λs t=>this.2 s (Zui.1 t)⟩
end Go.DL
namespace Go.DL
open Go
variable {kp:Option (List Nat)}{L:Loc}{H:Env}{s:St}{w:World}{os:List DOp}{ds:List D}{B:List (Nat × Rd)}{dst:Option Nat}{tmps:Array Value}{g:G}{Φ:Res->St->Prop}{Z:Nat->Nat}{xs:List Opd}{side:Prop}{row:Nat->List D}
def Yb{q:Nat->Prop}{j}(h:∀i,i<j->q i)(hj:q j):∀i,i<j+1->q i:=λi u=>by
 rcases Nat.lt_or_eq_of_le (Nat.le_of_lt_succ u) with t |rfl;exact h i t;exact hj
def ZpF{s}{t:Tok}{x k:Nat}(i:t.okIn s){o:QL}(u:s x=sO o):(s.own t k) x=sO o:=YR i _ _ u
def st2(st:St)(t1:Tok)(k1:Nat)(t2:Tok)(k2:Nat)(x:Nat)(c:QL):St:=((st.own t1 k1).own t2 k2).upd x c
def Yp{st u t2 x i t c}:(st2 st u i t2 t x c) x=sO c:=ZHB _ _ _
def Yq{st t1 t2 x t u c i}:(st2 st t1 t t2 u x c).upd x i=st2 st t1 t t2 u x i:=ZHO _ _ _ _
open Go.Proofs
def KB{α:Type}(p:α->Bool):List α->Nat
 | []=>0
 |x::r=>if p x then 1 else KB p r+1
def Jk{α}{p:α->Bool}{l:List α}(h:∀x∈l,p x=false):KB p l=I l:=by
 induction l with
 |nil=>rfl
 |cons x r ih=>simp only[KB,h x ψ,ZHN];rw[ih λy i=>h y (by simp[i])];simp
def ZaR{α}[Inhabited α]{p}{l:List α}{i:Nat}(hi:i<I l)(t:p (l.getD i dE)=true)(h:∀j,j<i->p (l.getD j dE)=false):KB p l=i+1:=by
 induction l generalizing i with
 |nil=>simp at hi
 |cons x r ih =>
  cases i with
  |zero=>simp at t;simp[KB,t]
  |succ i =>have u:=h 0 ω;simp only[List.getD_cons_zero]at u;simp only[List.getD_cons_succ,ZHN]at t hi;simp only[KB,u];rw[ih ω t λj hj=>by have:=h (j+1) ω;simpa only[List.getD_cons_succ]using this];simp
def byC(b:UInt8):List D:=[.int .u8 (b.toNat:Int)]
def Jf{α}(p:α->Bool)(l:List α):l.any p=dC (0<=Zj p l):=by
 induction l with
 |nil=>rfl
 |cons x r ih =>have:=ZaK p r;rw[List.any_cons,ih];simp only[Zj];by_cases i:p x=true;simp[i];by_cases t:Zj p r<0;simp[i,t];simp[i,t];omega
def ZdS(l f p)(sts:Nat->St)(hf:∀i,i<I l->VT ZHv f [.agg (l.getD i dE).cells] (sts i) (.bool (p (l.getD i dE))) (sts (i+1))):
  ZL ZHv 65 [slD 2 Msg.cells l,f] (sts 0) (.i (Zj p l)) (sts (KB p l)):=by
 refine ZE (cR 65 f65) λad F t=>?_;have hw:=(WE (ad (slD 2 Msg.cells l) ψ)).1;unfold big at hw;clear ad;refine rx @eQ1 ?_;refine rx @eQ1 ?_;refine Zd (fr (I l) (λi Q=>i<=I l->(∀j,j<i->p (l.getD j dE)=false)->Q [(0,.d (slD 2 Msg.cells l)),(1,.d f),(7,.d (.i (I l))),(8,.d (.i i))] [] (sts i)) (λn ab=>?_) λae=>?_);intro i hn hi u;refine rx @eQ1 ?_;refine Zc (Zn rfl trivial (λh1=>?_) (λh1=>?_));simp at h1;refine rx @eQ1 ?_;refine xA (nd2 @eQ1 @eQ3) ?_;refine cW (hf i h1) ?_;refine cd (λh2=>?_) (λh2=>?_);have e1:=WZ h1 h2 u;have e2:=ZaR h1 h2 u;rw[e1,e2]at t;refine rg ?_;exact t rfl φ (ZHx _) ZHw;refine gA ?_;refine Ze ?_;exact ab ((I l)-(i+1)) ω (i+1) rfl ω (Yb (q:=λj=>p (l.getD j dE)=false) u h2);simp at h1;obtain rfl:i=I l:=ω;have ac:∀x∈l,p x=false:=λx hx=>by obtain⟨j,hj,rfl⟩:=ZHR hx;have:=u j hj;simpa[ZHL,hj]using this
 rw[Wc ac,Jk ac]at t;refine rg ?_;exact t rfl φ (ZHx _) ZHw;exact ae _ 0 rfl ω (by intro j hj;omega)
def Zfw(l f p)(sts:Nat->St)(hf:∀i,i<I l->VT ZHv f [.agg (l.getD i dE).cells] (sts i) (.bool (p (l.getD i dE))) (sts (i+1))):
  ZL ZHv 223 [slD 3 Y6.cells l,f] (sts 0) (.i (Zj p l)) (sts (KB p l)):=by
 refine ZE (cR 223 f223) λad F t=>?_;have hw:=(WE (ad (slD 3 Y6.cells l) ψ)).1;unfold big at hw;clear ad;refine rx @eQ1 ?_;refine rx @eQ1 ?_;refine Zd (fr (I l) (λi Q=>i<=I l->(∀j,j<i->p (l.getD j dE)=false)->Q [(0,.d (slD 3 Y6.cells l)),(1,.d f),(7,.d (.i (I l))),(8,.d (.i i))] [] (sts i)) (λn ab=>?_) λae=>?_);intro i hn hi u;refine rx @eQ1 ?_;refine Zc (Zn rfl trivial (λh1=>?_) (λh1=>?_));simp at h1;refine rx @eQ1 ?_;refine xA (nd2 @eQ1 @Y6.cells.eq_1) ?_;refine cW (hf i h1) ?_;refine cd (λh2=>?_) (λh2=>?_);have e1:=WZ h1 h2 u;have e2:=ZaR h1 h2 u;rw[e1,e2]at t;refine rg ?_;exact t rfl φ (ZHx _) ZHw;refine gA ?_;refine Ze ?_;exact ab ((I l)-(i+1)) ω (i+1) rfl ω (Yb (q:=λj=>p (l.getD j dE)=false) u h2);simp at h1;obtain rfl:i=I l:=ω;have ac:∀x∈l,p x=false:=λx hx=>by obtain⟨j,hj,rfl⟩:=ZHR hx;have:=u j hj;simpa[ZHL,hj]using this
 rw[Wc ac,Jk ac]at t;refine rg ?_;exact t rfl φ (ZHx _) ZHw;exact ae _ 0 rfl ω (by intro j hj;omega)
def QF(l f p)(sts:Nat->St)(hf:∀i,i<I l->VT ZHv f [.agg (l.getD i dE).cells] (sts i) (.bool (p (l.getD i dE))) (sts (i+1))):
  ZL ZHv 174 [slD 15 Fld.cells l,f] (sts 0) (.i (Zj p l)) (sts (KB p l)):=by
 refine ZE (cR 174 f174) λad F t=>?_;have hw:=(WE (ad (slD 15 Fld.cells l) ψ)).1;unfold big at hw;clear ad;refine rx @eQ1 ?_;refine rx @eQ1 ?_;refine Zd (fr (I l) (λi Q=>i<=I l->(∀j,j<i->p (l.getD j dE)=false)->Q [(0,.d (slD 15 Fld.cells l)),(1,.d f),(7,.d (.i (I l))),(8,.d (.i i))] [] (sts i)) (λn ab=>?_) λae=>?_);intro i hn hi u;refine rx @eQ1 ?_;refine Zc (Zn rfl trivial (λh1=>?_) (λh1=>?_));simp at h1;refine rx @eQ1 ?_;refine xA (nd2 @eQ1 @eQ0) ?_;refine cW (hf i h1) ?_;refine cd (λh2=>?_) (λh2=>?_);have e1:=WZ h1 h2 u;have e2:=ZaR h1 h2 u;rw[e1,e2]at t;refine rg ?_;exact t rfl φ (ZHx _) ZHw;refine gA ?_;refine Ze ?_;exact ab ((I l)-(i+1)) ω (i+1) rfl ω (Yb (q:=λj=>p (l.getD j dE)=false) u h2);simp at h1;obtain rfl:i=I l:=ω;have ac:∀x∈l,p x=false:=λx hx=>by obtain⟨j,hj,rfl⟩:=ZHR hx;have:=u j hj;simpa[ZHL,hj]using this
 rw[Wc ac,Jk ac]at t;refine rg ?_;exact t rfl φ (ZHx _) ZHw;exact ae _ 0 rfl ω (by intro j hj;omega)
def Zfy(l f p)(sts:Nat->St)(hf:∀i,i<I l->VT ZHv f [.int .u8 ((l.getD i dE).toNat:Int)] (sts i) (.bool (p (l.getD i dE))) (sts (i+1))):
  ZL ZHv 81 [slD 1 byC l,f] (sts 0) (.i (Zj p l)) (sts (KB p l)):=by
 refine ZE (cR 81 f81) λad F t=>?_;have hw:=(WE (ad (slD 1 byC l) ψ)).1;unfold big at hw;clear ad;refine rx @eQ1 ?_;refine rx @eQ1 ?_;refine Zd (fr (I l) (λi Q=>i<=I l->(∀j,j<i->p (l.getD j dE)=false)->Q [(0,.d (slD 1 byC l)),(1,.d f),(7,.d (.i (I l))),(8,.d (.i i))] [] (sts i)) (λn ab=>?_) λae=>?_);intro i hn hi u;refine rx @eQ1 ?_;refine Zc (Zn rfl trivial (λh1=>?_) (λh1=>?_));simp at h1;refine rx @eQ1 ?_;refine xA (nd2 @eQ1 @byC.eq_1) ?_;refine cW (hf i h1) ?_;refine cd (λh2=>?_) (λh2=>?_);have e1:=WZ h1 h2 u;have e2:=ZaR h1 h2 u;rw[e1,e2]at t;refine rg ?_;exact t rfl φ (ZHx _) ZHw;refine gA ?_;refine Ze ?_;exact ab ((I l)-(i+1)) ω (i+1) rfl ω (Yb (q:=λj=>p (l.getD j dE)=false) u h2);simp at h1;obtain rfl:i=I l:=ω;have ac:∀x∈l,p x=false:=λx hx=>by obtain⟨j,hj,rfl⟩:=ZHR hx;have:=u j hj;simpa[ZHL,hj]using this
 rw[Wc ac,Jk ac]at t;refine rg ?_;exact t rfl φ (ZHx _) ZHw;exact ae _ 0 rfl ω (by intro j hj;omega)
def Zdf(l f p)(sts:Nat->St)(hf:∀i,i<I l->VT ZHv f [.agg (l.getD i dE).cells] (sts i) (.bool (p (l.getD i dE))) (sts (i+1))):
  ZL ZHv 306 [slD 15 Fld.cells l,f] (sts 0) (.bool (l.any p)) (sts (KB p l)):=by
 refine ZE (cR 306 f306) λu F t=>?_;clear u;refine gG ?_;refine ct (QF l f p sts hf) ?_;rw[Jf]at t;exact t rfl φ (ZHx _) ZHw
def K2(l){f p}(sts:Nat->St)(hf:∀i,i<I l->VT ZHv f [.int .u8 ((l.getD i dE).toNat:Int)] (sts i) (.bool (p (l.getD i dE))) (sts (i+1))):
  ZL ZHv 52 [slD 1 byC l,f] (sts 0) (.bool (l.any p)) (sts (KB p l)):=by
 refine ZE (cR 52 f52) λu F t=>?_;clear u;refine gG ?_;refine ct (Zfy l f p sts hf) ?_;rw[Jf]at t;exact t rfl φ (ZHx _) ZHw
def boC(b:Bool):List D:=[.bool b]
def ZbM(s:Str):List D:=[.str s]
def Znv{α:Type}[DecidableEq α](v)(l:List α):l.any (λx=>dC (v=x))=dC (v∈l):=by
 induction l with
 |nil=>simp
 |cons x r ih=>rw[List.any_cons,ih];simp[ZIa]
def ZiP{α:Type}[Inhabited α]{l r:List α}(h:I l=I r)(u:∀j,j<I l->l.getD j dE=r.getD j dE):l=r:=by
 apply List.ext_getElem h;intro i t h3;have:=u i t;simpa[ZHL,t,h3]using this
def ZiC(l v):Zf ZHv 112 [slD 1 boC l,.bool v] (.i (Zj (λx=>dC (v=x)) l)):=by
 refine WG (cR 112 f112) λad F st u=>?_;have hw:=(WE (ad (slD 1 boC l) ψ)).1;unfold big at hw;clear ad;refine rx @eQ1 ?_;refine rx @eQ1 ?_;refine Zd (fr (I l) (λi Q=>i<=I l->(∀j,j<i->dC (v=l.getD j dE)=false)->Q [(0,.d (slD 1 boC l)),(1,.d (.bool v)),(7,.d (.i (I l))),(8,.d (.i i))] [] st) (λn t=>?_) λae=>?_);intro i hn hi ab;refine rx @eQ1 ?_;refine Zc (Zn rfl trivial (λh1=>?_) (λh1=>?_));simp at h1;refine rx @eQ1 ?_;refine xA (nd2 @eQ1 @boC.eq_1) ?_;refine cd (λh2=>?_) (λh2=>?_);have e1:=WZ (p:=λx=>dC (v=x)) h1 h2 ab;refine rg ?_;refine ri u ?_;exact e1.symm;refine gA ?_;refine Ze ?_;exact t ((I l)-(i+1)) ω (i+1) rfl ω (Yb (q:=λj=>dC (v=l.getD j dE)=false) ab h2);simp at h1;obtain rfl:i=I l:=ω;have ac:∀x∈l,(λx=>dC (v=x)) x=false:=λx hx=>by obtain⟨j,hj,rfl⟩:=ZHR hx;have:=ab j hj;simpa[ZHL,hj]using this
 refine rg ?_;refine ri u ?_;exact(Wc ac).symm;exact ae _ 0 rfl ω (by intro j hj;omega)
def ZfI(l v):Zf ZHv 80 [slD 1 boC l,.bool v] (.bool (dC (v∈l))):=by
 refine Zi (cR 80 f80) λF st i=>?_;refine gG ?_;refine cl (ZiC l v) ?_;refine rb i ?_;rw[<-Jf,Znv];try congr
def ZgX(l v):Zf ZHv 299 [slD 1 ZbM l,.str v] (.i (Zj (λx=>dC (v=x)) l)):=by
 refine WG (cR 299 f299) λad F st u=>?_;have hw:=(WE (ad (slD 1 ZbM l) ψ)).1;unfold big at hw;clear ad;refine rx @eQ1 ?_;refine rx @eQ1 ?_;refine Zd (fr (I l) (λi Q=>i<=I l->(∀j,j<i->dC (v=l.getD j dE)=false)->Q [(0,.d (slD 1 ZbM l)),(1,.d (.str v)),(7,.d (.i (I l))),(8,.d (.i i))] [] st) (λn t=>?_) λae=>?_);intro i hn hi ab;refine rx @eQ1 ?_;refine Zc (Zn rfl trivial (λh1=>?_) (λh1=>?_));simp at h1;refine rx @eQ1 ?_;refine xA (nd2 @eQ1 @ZbM.eq_1) ?_;refine cd (λh2=>?_) (λh2=>?_);have e1:=WZ (p:=λx=>dC (v=x)) h1 h2 ab;refine rg ?_;refine ri u ?_;exact e1.symm;refine gA ?_;refine Ze ?_;exact t ((I l)-(i+1)) ω (i+1) rfl ω (Yb (q:=λj=>dC (v=l.getD j dE)=false) ab h2);simp at h1;obtain rfl:i=I l:=ω;have ac:∀x∈l,(λx=>dC (v=x)) x=false:=λx hx=>by obtain⟨j,hj,rfl⟩:=ZHR hx;have:=ab j hj;simpa[ZHL,hj]using this
 refine rg ?_;refine ri u ?_;exact(Wc ac).symm;exact ae _ 0 rfl ω (by intro j hj;omega)
def Zew(l v):Zf ZHv 256 [slD 1 ZbM l,.str v] (.bool (dC (v∈l))):=by
 refine Zi (cR 256 f256) λF st i=>?_;refine gG ?_;refine cl (ZgX l v) ?_;refine rb i ?_;rw[<-Jf,Znv];try congr
def ZiB(l r):Zf ZHv 297 [slD 2 Yw.cells l,slD 2 Yw.cells r] (.bool (dC (l=r))):=by
 refine WG (cR 297 f297) λad F st t=>?_;have hw:=(WE (ad (slD 2 Yw.cells l) ψ)).1;unfold big at hw;clear ad;refine rx @eQ1 ?_;refine rx @eQ1 ?_;refine cd (λh1=>?_) (λh1=>?_);refine rg ?_;refine rb t ?_;exact(decide_eq_false (λe=>by rw[e]at h1;simp at h1)).symm;have ab:I l=I r:=by simp at h1;omega
 refine rx @eQ1 ?_;refine Zd (fr (I l) (λi Q=>i<=I l->(∀j,j<i->l.getD j dE=r.getD j dE)->Q [(0,.d (slD 2 Yw.cells l)),(1,.d (slD 2 Yw.cells r)),(12,.d (.i (I l))),(13,.d (.i i))] [] st) (λn u=>?_) λag=>?_);intro i hn hi ac;refine rx @eQ1 ?_;refine Zc (Zn rfl trivial (λh2=>?_) (λh2=>?_));simp at h2;refine rx @eQ1 ?_;refine xA (nd2 @eQ1 @Yw.cells.eq_1) ?_;refine cd (λh3=>?_) (λh3=>?_);have af:l.getD i dE≠r.getD i dE:=λe=>by rw[e]at h3;simp at h3
 refine rg ?_;refine rb t ?_;exact(decide_eq_false (λe=>af (by rw[e]))).symm;have ae:l.getD i dE=r.getD i dE:=by generalize l.getD i dE=a at h3⊢;generalize r.getD i dE=b at h3⊢;cases a;cases b;simpa[and_assoc]using h3
 refine gA ?_;refine Ze ?_;exact u ((I l)-(i+1)) ω (i+1) rfl ω (Yb (q:=λj=>l.getD j dE=r.getD j dE) ac ae);simp at h2;obtain rfl:i=I l:=ω;refine rg ?_;refine rb t ?_;exact(decide_eq_true (ZiP ab ac)).symm;exact ag _ 0 rfl ω (by intro j hj;omega)
def ZiA(l r):Zf ZHv 298 [slD 3 Y6.cells l,slD 3 Y6.cells r] (.bool (dC (l=r))):=by
 refine WG (cR 298 f298) λad F st t=>?_;have hw:=(WE (ad (slD 3 Y6.cells l) ψ)).1;unfold big at hw;clear ad;refine rx @eQ1 ?_;refine rx @eQ1 ?_;refine cd (λh1=>?_) (λh1=>?_);refine rg ?_;refine rb t ?_;exact(decide_eq_false (λe=>by rw[e]at h1;simp at h1)).symm;have ab:I l=I r:=by simp at h1;omega
 refine rx @eQ1 ?_;refine Zd (fr (I l) (λi Q=>i<=I l->(∀j,j<i->l.getD j dE=r.getD j dE)->Q [(0,.d (slD 3 Y6.cells l)),(1,.d (slD 3 Y6.cells r)),(12,.d (.i (I l))),(13,.d (.i i))] [] st) (λn u=>?_) λag=>?_);intro i hn hi ac;refine rx @eQ1 ?_;refine Zc (Zn rfl trivial (λh2=>?_) (λh2=>?_));simp at h2;refine rx @eQ1 ?_;refine xA (nd2 @eQ1 @Y6.cells.eq_1) ?_;refine cd (λh3=>?_) (λh3=>?_);have af:l.getD i dE≠r.getD i dE:=λe=>by rw[e]at h3;simp at h3
 refine rg ?_;refine rb t ?_;exact(decide_eq_false (λe=>af (by rw[e]))).symm;have ae:l.getD i dE=r.getD i dE:=by generalize l.getD i dE=a at h3⊢;generalize r.getD i dE=b at h3⊢;cases a;cases b;simpa[and_assoc]using h3
 refine gA ?_;refine Ze ?_;exact u ((I l)-(i+1)) ω (i+1) rfl ω (Yb (q:=λj=>l.getD j dE=r.getD j dE) ac ae);simp at h2;obtain rfl:i=I l:=ω;refine rg ?_;refine rb t ?_;exact(decide_eq_true (ZiP ab ac)).symm;exact ag _ 0 rfl ω (by intro j hj;omega)
def Zhs(c):Zf ZHv 49 [.int .u8 c.toNat] (.bool (ZjO c)):=by
 refine Zi (cR 49 f49) λF st i=>?_;refine gG ?_;refine rb i ?_;rfl
def Zrv(c):Zf ZHv 50 [.int .u8 c.toNat] (.bool (Zv0 c)):=by
 refine Zi (cR 50 f50) λF st i=>?_;refine gG ?_;refine rb i ?_;rfl
def Zd6(v):Zf ZHv 260 [.i v] (.bool (ZdT v)):=by
 refine Zi (cR 260 f260) λF st i=>?_;refine gG ?_;refine rb i ?_;simp only[ZdT]
def Zmj(l):Zf ZHv 51 [slD 1 boC l] (.bool (!dC (false∈l))):=by
 refine Zi (cR 51 f51) λF st i=>?_;refine gG ?_;refine cl (ZfI l false) ?_;refine rb i ?_;rfl
def ZkB{a b}:Zf ZHv 51 [.sl .full 2 1 (ZR [.bool false] ([0,1].zip [.bool a,.bool b]))] (.bool (a&&b)):=by
 have h:ZU boC (ZR [.bool false] ([0,1].zip [.bool a,.bool b])) [a,b]:=λi t=>by
  match i,t with
  |0,_=>rfl
  |1,_=>rfl
 refine((Zmj [a,b]).leA (LeC.one (h.le rfl))).le ?_;cases a<;>cases b<;>rfl
def Zq1{a b c}:Zf ZHv 51 [.sl .full 3 1 (ZR [.bool false] ([0,1,2].zip [.bool a,.bool b,.bool c]))] (.bool (a&&(b&&c))):=by
 have h:ZU boC (ZR [.bool false] ([0,1,2].zip [.bool a,.bool b,.bool c])) [a,b,c]:=λi t=>by
  match i,t with
  |0,_=>rfl
  |1,_=>rfl
  |2,_=>rfl
 refine((Zmj [a,b,c]).leA (LeC.one (h.le rfl))).le ?_;cases a<;>cases b<;>cases c<;>rfl
def ZpW{c}:Zf ZHv 48 [.int .u8 c.toNat] (.bool (!Zf5 c)):=by
 refine Zi (cR 48 f48) λF st i=>?_;refine gG ?_;refine cl (Zhs c) ?_;refine cG (Zrv c) ?_;refine rb i ?_;unfold Zf5;cases ZjO c<;>cases Zv0 c<;>rfl
def ZwJ(s):Zf ZHv 52 [slD 1 byC s,.fn (.func 48) [] []] (.bool (s.any λc=>!Zf5 c)) :=
 λst=>K2 s (λ_=>st) λi _=> ZpW.VT (first:=[]) (caps:=[]) st
def ZjJ(s):Y8 s=(((dC (1<=(I s:Int))&&dC ((I s:Int)<=32))&&ZjO (s.getD 0 0))&&!(s.any λc=>!Zf5 c)):=by
 cases s with
 |nil=>rfl
 |cons c r =>
  have h:∀l:Str,l.all Zf5=!(l.any λc=>!Zf5 c):=λl=>by
   induction l with
   |nil=>rfl
   |cons x r ih=>simp only[List.all_cons,List.any_cons,ih];cases Zf5 x<;>simp
  simp only[Y8,h,List.getD_cons_zero,ZHN]
  congr 2
  have i:dC (1<=((I r+1:Nat):Int))=true:=decide_eq_true ω;rw[i,ZHX];exact decide_eq_decide.2 ω
def ZaT(s):Zf ZHv 26 [.str s] (.bool (Y8 s)):=by
 refine WG (cR 26 f26) λt F st i=>?_;have u:=(t (.str s) ψ).str_inv;unfold big at u;refine gG ?_;refine rg ?_;refine cl ZkB ?_;refine aa ?_;refine cG (Zhs _) ?_;refine cG (ZwJ s) ?_;rw[ZjJ]at i;refine rb i ?_;trivial
end Go.DL
namespace Go.DL
open Go
variable {kp:Option (List Nat)}{L:Loc}{H:Env}{s:St}{w:World}{os:List DOp}{ds:List D}{B:List (Nat × Rd)}{dst:Option Nat}{tmps:Array Value}{g:G}{Φ:Res->St->Prop}{Z:Nat->Nat}{xs:List Opd}{side:Prop}{row:Nat->List D}
section
variable {K V:Type} [DecidableEq K]
def Zp(k:K):List (K×V)->Option V
 | []=>nO
 |e::r=>if k=e.1 then sO e.2 else Zp k r
def YN(k:K)(v:V):List (K×V)->List (K×V)
 | []=>[(k,v)]
 |e::r=>if k=e.1 then (k,v)::r else e::YN k v r
def WJ(kD:K->D)(vD:V->D)(l:List (K×V)):List (D×D):=l.map λe=>(kD e.1,vD e.2)
def ZkX(kp:KP)(kD:K->D):Prop:=∀a b,Kl kp (kD a) (kD b)=sO (dC (a=b))
def YD{kp}{i}{vD:V->D}(h:ZkX kp i)(k:K)(l:List (K×V)):Zbs kp (i k) (WJ i vD l)=sO ((Zp k l).map vD):=by
 induction l with
 |nil=>rfl
 |cons e r ih =>simp only[WJ,ZHM,Zbs,h k e.1,Zp];by_cases t:k=e.1;simp[t];simp only[t,decide_false,if_false];exact ih
def JX{kp}{i}{vD}(h:ZkX kp i)(k:K)(v:V)(l:List (K×V)):JP kp (i k) (vD v) (WJ i vD l)=sO (WJ i vD (YN k v l)):=by
 induction l with
 |nil=>rfl
 |cons e r ih =>simp only[WJ,ZHM,JP,h k e.1,YN];by_cases t:k=e.1;simp[t];simp only[t,decide_false,if_false,ZHM];rw[show JP kp (i k) (vD v) (r.map λe=>(i e.1,vD e.2))=_ from ih];rfl
def YX{kp}{i:K->D}(h:ZkX kp i)(k:K):Qz kp (i k)=true:=by simp[Qz,h k k]
def WU(k j)(v:V)(l:List (K×V)):Zp j (YN k v l)=if j=k then sO v else Zp j l:=by
 induction l with
 |nil=>simp[YN,Zp]
 |cons e r ih =>simp only[YN];by_cases i:k=e.1;subst i;simp only[if_true,Zp];split<;>rfl;simp only[i,if_false,Zp,ih];by_cases t:j=e.1;subst t;simp[Ne.symm i];simp[t]
def ZxQ{k}{l:List (K×V)}:Zp k l=nO↔k∉l.map (·.1):=by
 induction l with
 |nil=>simp[Zp]
 |cons x r ih =>simp only[Zp,ZHM,ZIa];by_cases h:k=x.1;simp[h];simp[h,ih]
end
def Kz(s:Str):D:=.str s
def ZN:ZkX (.sc .str) Kz:=λa b=>rfl
def YW(n:Int):D:=.i n
def Zc5:ZkX (.sc .int) YW:=λa b=>by simp[Kl,YW,Yk]
open Go.Proofs
def vst(st:St)(b x:Nat)(es:List (D×D)):St:=(st.upd b (.map es)).upd x (.cells [.map b])
def ZAH{st b x es}:(vst st b x es) x=sO (.cells [.map b]):=ZHB _ _ _
def ZAG{st b x es}(h:b≠x):(vst st b x es) b=sO (.map es):=by
 unfold vst;rw[ZHD _ _ h];exact ZHB _ _ _
def ZB7{st b x es i}(h:b≠x):(vst st b x es).upd b (.map i)=vst st b x i:=by
 unfold vst;rw[St.upd_comm h,ZHO]
abbrev Zei(l:List (Str×Bool)):List (D×D):=WJ Kz D.bool l
def ZmV(o:Option Bool):Wh (.bool false) false (o.map D.bool)=.bool (o.getD false):=by cases o<;>rfl
def ZoM(t st b x)(h:b≠x)(l):
  ZL ZHv 259 [.agg t.cells,.ptr x 0] (vst st b x (Zei l)) (.bool ((Zp t.field l).getD false||!Zad t)) (vst st b x (Zei (YN t.field true l))):=by
 refine ZE (cR 259 f259) λhwf F i=>?_;have u:=YD (vD:=D.bool) ZN t.field l;have e2:=JX (vD:=D.bool) ZN t.field true l;have e3:=YX ZN t.field;simp only[show Kz t.field=D.str t.field from rfl]at u e2 e3;refine rx @Yw.cells.eq_1 ?_;refine rh ?_;refine Zm ?_;simp only[Eqs,reduceCtorEq,ZHC,reduceIte,ZHz,ZHE,ZHA,ZAH,ZAG h,u,ZmV];generalize (Zp t.field l).getD false=tw at *;refine rh ?_;refine Zm ?_;simp only[Eqs,reduceCtorEq,ZHC,reduceIte,ZHz,ZHE,ZHA,ZAH,ZAG h,e2,ZB7 h];cases tw with
 |false =>refine rx @Yw.cells.eq_1 ?_;refine clD (ZaT t.field) ?_;refine clD (Zd6 t.factor) ?_;refine clD Zq1 ?_;refine i rfl φ (ZeD ?_) ZHw;unfold Zad;cases Y8 t.field<;>cases dC (t.factor=0)<;>cases ZdT t.factor<;>rfl
 |true =>refine rx @Yw.cells.eq_1 ?_;refine ZeN rfl rfl (e:=.d (.bool false)) (Yt ?_);simp only[Eqs,reduceCtorEq,ZHC,reduceIte,ZHz,ZHE,ZHA];refine ZeN rfl rfl (e:=.d (.bool false)) (Yt ?_);simp only[Eqs,reduceCtorEq,ZHC,reduceIte,ZHz,ZHE,ZHA];refine ZeN rfl rfl (e:=.d (.bool false)) (Yt ?_);simp only[Eqs,reduceCtorEq,ZHC,reduceIte,ZHz,ZHE,ZHA];exact i rfl φ (ZeD ψ) ZHw
def Zet{n i}(h:i<n):(ZHJ n).getD i dE=i:=by simp[ZHL,h]
def Zfx(l f p)(sts:Nat->St)(hf:∀i,i<I l->VT ZHv f [.agg (l.getD i dE).cells] (sts i) (.bool (p i)) (sts (i+1))):
  ZL ZHv 300 [slD 2 Yw.cells l,f] (sts 0) (.i (Zj p (ZHJ (I l)))) (sts (KB p (ZHJ (I l)))):=by
 refine ZE (cR 300 f300) λad F t=>?_;have hw:=(WE (ad (slD 2 Yw.cells l) ψ)).1;unfold big at hw;clear ad;refine rx @eQ1 ?_;refine rx @eQ1 ?_;refine Zd (fr (I l) (λi Q=>i<=I l->(∀j,j<i->p j=false)->Q [(0,.d (slD 2 Yw.cells l)),(1,.d f),(7,.d (.i (I l))),(8,.d (.i i))] [] (sts i)) (λn ab=>?_) λae=>?_);intro i hn hi u;refine rx @eQ1 ?_;refine Zc (Zn rfl trivial (λh1=>?_) (λh1=>?_));simp at h1;refine rx @eQ1 ?_;refine xA (nd2 @eQ1 @Yw.cells.eq_1) ?_;refine cW (hf i h1) ?_;refine cd (λh2=>?_) (λh2=>?_);have e1:=WZ (p:=p) (l:=ZHJ (I l)) (i:=i) (by simpa using h1) (by rw[Zet h1];exact h2) (λj hj=>by rw[Zet ω];exact u j hj);have e2:=ZaR (p:=p) (l:=ZHJ (I l)) (i:=i) (by simpa using h1) (by rw[Zet h1];exact h2) (λj hj=>by rw[Zet ω];exact u j hj);rw[e1,e2]at t;refine rg ?_;exact t rfl φ (ZHx _) ZHw;refine gA ?_;refine Ze ?_;exact ab ((I l)-(i+1)) ω (i+1) rfl ω (Yb (q:=λj=>p j=false) u h2);simp at h1;obtain rfl:i=I l:=ω;have ac:∀x∈ZHJ (I l),p x=false:=λx hx=>u x (by simpa using hx);rw[Wc ac,Jk ac,List.length_range]at t;refine rg ?_;exact t rfl φ (ZHx _) ZHw;exact ae _ 0 rfl ω (by intro j hj;omega)
def ZdR(l f p)(sts:Nat->St)(hf:∀i,i<I l->VT ZHv f [.agg (l.getD i dE).cells] (sts i) (.bool (p i)) (sts (i+1))):
  ZL ZHv 261 [slD 2 Yw.cells l,f] (sts 0) (.bool ((ZHJ (I l)).any p)) (sts (KB p (ZHJ (I l)))):=by
 refine ZE (cR 261 f261) λu F t=>?_;clear u;refine gG ?_;refine ct (Zfx l f p sts hf) ?_;rw[Jf]at t;exact t rfl φ (ZHx _) ZHw
def Zln(l:List Yw):Nat->List (Str×Bool)
 |0=>[]
 |i+1=>YN (l.getD i dE).field true (Zln l i)
def Zyw{l s i}(hi:i<=I l):(Zp s (Zln l i)).getD false=dC (s∈(l.take i).map (·.field)):=by
 induction i with
 |zero=>simp[Zln,Zp]
 |succ i ih =>have h:=ih ω;rw[Zln,WU,Yi ω,List.map_append];by_cases t:s=(l.getD i dE).field;rw[if_pos t];simp[t];rw[if_neg t,h];simp only[List.mem_append,ZHM,ZH2,List.mem_singleton,t,or_false]
def Zdi(l r:List Yw)(k)(hr:r=l.drop k)(hk:k<=I l):ZeA ((l.take k).map (·.field)) r=!((ZHJ (I r)).any λi=>(dC ((l.getD (k+i) dE).field∈(l.take (k+i)).map (·.field))||!Zad (l.getD (k+i) dE))):=by
 induction r generalizing k with
 |nil=>rfl
 |cons t q ih =>
  have u:k<I l:=by have:=congrArg List.length hr;simp at this;omega
  rw[Wp u]at hr;injection hr with h1 h2;have h3:=ih (k+1) h2 ω;rw[ZeA,ZHN,List.range_succ_eq_map,List.any_cons,List.any_map];rw[show(l.take k).map (·.field)++[t.field]=(l.take (k+1)).map (·.field) by rw[Yi u,List.map_append,<-h1];rfl,h3];simp only[Nat.add_zero,<-h1,Function.comp_def,Nat.succ_eq_add_one];rw[show(λi=>dC ((l.getD (k+(i+1)) dE).field∈(l.take (k+(i+1))).map (·.field))||!Zad (l.getD (k+(i+1)) dE))=λi=>dC ((l.getD (k+1+i) dE).field∈(l.take (k+1+i)).map (·.field))||!Zad (l.getD (k+1+i) dE) from funext λi=>by rw[show k+(i+1)=k+1+i by omega]];cases Zad t<;>cases dC (t.field∈(l.take k).map (·.field))<;>simp
def Zbx(s):Zf ZHv 245 [.agg s.cells] (.bool (Z6 s)):=by
 refine WG (cR 245 f245) λhwf F st t=>?_;refine rx (nd2 @eQ4 (nd2 @Yj.eq_1 @eQ1)) ?_;refine rg ?_;intro b hb;refine Zc ?_;refine Zdk 3 rfl λx hx=>?_;simp only[Eqs,reduceCtorEq,ZHC,reduceIte,ZHz,ZHE,ZHA,JT,Ja,delL];refine rg ?_;have u:b≠x:=λe=>by rw[e,ZHB]at hx;simp at hx
 have ab:∀o,(st.upd b o) x=nO:=λo=>by rw[ZHD _ _ (Ne.symm u)]at hx⊢;exact hx
 have ac:(st.upd b (.map [])).upd x (.cells [.map b])=vst st b x (Zei []):=rfl;rw[ac];cases hc:(ZdT s.base&&dC ((I s.terms:Int)<=4)) with
 |false =>refine rx (nd2 @eQ4 (nd2 @Yj.eq_1 @eQ1)) ?_;refine clD (Zd6 s.base) ?_;refine cXD @hc ZkB ?_;refine ZeN rfl rfl (e:=.d (.bool false)) (Yt ?_);simp only[Eqs,reduceCtorEq,ZHC,reduceIte,ZHz,ZHE,ZHA];refine t rfl φ (ZeD ?_) (ZIe (ZHV _ hb) (ZHV _ (ab _)));unfold Z6;rw[show dC (I s.terms<=4)=dC ((I s.terms:Int)<=4) from decide_eq_decide.2 ω,hc];rfl
 |true =>refine rx (nd2 @eQ4 (nd2 @Yj.eq_1 @eQ1)) ?_;refine clD (Zd6 s.base) ?_;refine cXD @hc ZkB ?_;refine Zi1 rfl rfl rfl rfl rfl φ φ (by exact ZdR s.terms (.fn (.func 259) [] [.ptr x 0]) (λi=>dC ((s.terms.getD i dE).field∈(s.terms.take i).map (·.field))||!Zad (s.terms.getD i dE)) (λi=>vst st b x (Zei (Zln s.terms i))) (λi hi=>(by have:=ZoM (s.terms.getD i dE) st b x u (Zln s.terms i);rw[Zyw ω]at this;exact this.VT (first:=[]) (args:=[_]) (caps:=[_])))) (by first|trivial|exact⟨rfl,trivial⟩|simp[Wg,KY]) (Yt ?_);simp only[Eqs,reduceCtorEq,ZHC,reduceIte,ZHz,ZHE,ZHA];refine t rfl φ (ZeD ?_) (ZIe (ZHV _ hb) (ZHV _ (ab _)));have hv:=Zdi s.terms s.terms 0 rfl ω;simp only[Nat.zero_add]at hv;rw[<-hv];unfold Z6;rw[show dC (I s.terms<=4)=dC ((I s.terms:Int)<=4) from decide_eq_decide.2 ω,hc,ZHX];rfl
def Ziy(l)(hl:I l<=1000000)(st):Za ZHv 262 [Yj l] st (λr s=>r=.ret (Yj l)/\s=st):=by
 refine Zb (cR 262 f262) λF hF=>?_;by_cases h0:I l=0;have ac:l=[]:=List.eq_nil_of_length_eq_zero h0;subst ac;refine Zed 0 rfl ?_ λb off cap=>?_
 skip
 refine rx (nd2 @Yj.eq_1 @eQ1) ?_;refine rg ?_;refine i1 ?_;refine rg ?_;exact hF.ret _ st rfl φ (K5 (YL λb h=>by cases h)) ZHw ⟨rfl,rfl⟩
 skip
 refine rx (nd2 @Yj.eq_1 @eQ1) ?_;refine rg ?_;refine iG ?_;refine Zec (s:=st) (t:=.full) (m:=0) (row2:=λ_=>[]) rfl rfl rfl rfl rfl φ φ (λg w v h=>Zf6 h) trivial (by decide) (by unfold big;decide) λt1 u=>?_;refine gR0 ?_;exact hF.ret _ st rfl φ (K5 ((ZU.nil (f:=Yw.cells)).le rfl)) (YR u) ⟨rfl,rfl⟩
 skip
 refine rx (nd2 @Yj.eq_1 @eQ1) ?_;refine gA ?_;refine iG ?_;refine JA (st) (.full) rfl rfl rfl rfl rfl rfl φ φ rfl (by first|trivial|assumption) ω (by (unfold big;omega)) λt1 u=>Zm ?_;simp only[Eqs,reduceCtorEq,ZHC,reduceIte,ZHz,ZHE,ZHA];have ab:ZU Yw.cells (Yg 0 (ZR [.str [],.i 0] ([].zip [])) λi=>(l.getD i dE).cells) ([]++l):=ZU.nil.app ZU.self rfl;exact hF.ret _ st rfl φ (K5 (ab.le ψ)) (YR u) ⟨rfl,rfl⟩
def ZcK(l)(hl:I l<=big)(x):ZcS ZHv (.fn (.func 263) [] [.ptr x 0]) (I l) (λj=>[.str (l.getD j dE).field]) (ZH1 x (.cells [Yj l])):=by
 intro y go A a0 ae hA hd;have hw:=hl;unfold big at hw;refine Za.V (first:=[]) (args:=[y]) (caps:=[.ptr x 0]) (Zb (cR 263 f263) λF hF=>?_);have hx:∀a,Z4 a (ZH1 x (.cells [Yj l]))->(a.or (ZH1 x (.cells [Yj l]))) x=sO (.cells [Yj l]):=λa ag=>by rw[ZF (ag x _ Yl),Yl]
 generalize hT:ZH1 x (.cells [Yj l])=T at *;refine rh ?_;refine Zm ?_;simp only[Eqs,reduceCtorEq,ZHC,reduceIte,ZHz,ZHE,ZHA,hx a0 hd,Yj,slD];refine Zd (fr (I l) (λj Q=>∀a,A j a->Z4 a T->(∀i,i<j->go i=.next)->j<=I l->Q [(0,.d y),(5,.d (Yj l)),(6,.d (.i (I l))),(7,.d (.i j))] [] (a.or T)) (λn ad=>?_) λah=>?_)
 .clear hA hd;intro j hn a hA hd ab hj;refine rx (nd2 @Yj.eq_1 @eQ1) ?_;refine Zc (Zn rfl trivial (λh1=>?_) (λh1=>?_))
  .simp at h1;generalize hg:l.getD j dE=g at *;refine xA (nd2 @Yw.cells.eq_1 (nd2 @Yj.eq_1 (nd2 @eQ1 @hg))) ?_;refine rg ?_;have u:=(ae j h1 ab a hA).frame hd;simp only[hg]at u;refine vV (u) ?_ ?_
   .rintro d S ⟨s',⟨hr,ac⟩,af,rfl⟩;cases t:go j with
    |next =>rw[t]at hr;cases hr;refine gR0 ?_;refine i0 ?_;refine gA ?_;refine Ze ?_;exact ad ((I l)-(j+1)) ω (j+1) rfl s' ac af (Yb (q:=λi=>go i=.next) ab t) ω
    |stop c =>rw[t]at hr;cases hr;refine gR0 ?_;refine i1 ?_;exact hF.ret (.tup []) _ rfl trivial (ZHx _) ZHw ⟨s',.stop j c h1 ab t ac,Kv⟩
    |pan d=>rw[t]at hr;cases hr
   rintro d S ⟨s',⟨hr,ac⟩,af,rfl⟩;cases t:go j with
   |pan d' =>rw[t]at hr;cases hr;exact hF.pan _ ZHw ⟨s',.pan j d h1 ab t ac,Kv⟩
   |next=>rw[t]at hr;cases hr
   |stop c=>rw[t]at hr;cases hr
  simp at h1;obtain rfl:j=I l:=ω;refine ZS rfl ?_;exact hF.fin (.tup []) _ rfl trivial (ZHx _) ZHw ⟨a,.all ab hA,Kv⟩
 exact ah _ 0 rfl a0 hA hd (by intro i hi;omega) ω
def Zae{s}(h:Z6 s=true):I s.terms<=4:=by
 unfold Z6 at h;simp only[ZHG,decide_eq_true_eq]at h;exact h.1.2
def Zd5(s)(t:Z6 s=true){st}:Za ZHv 246 [.agg s.cells] st (λr S=>∃x,st x=nO/\r=.ret (.fn (.func 263) [] [.ptr x 0])/\S=st.or (ZH1 x (.cells [Yj s.terms]))):=by
 have hfew:=Zae t;refine Zb (cR 246 f246) λF hF=>?_;refine rx @eQ4 ?_;refine rg ?_;refine rx @eQ4 ?_;refine cX @t (Zbx s) ?_;refine i1 ?_;refine rx @eQ4 ?_;have c9:=(Ziy s.terms ω st);refine cV (c9) ?_ ?_;rintro d S ⟨i,rfl⟩;cases i;refine gR0 ?_;refine⟨rfl,?_⟩;refine Zc ?_;refine Zdk 3 rfl λx u=>?_;simp only[Eqs,reduceCtorEq,ZHC,reduceIte,ZHz,ZHE,ZHA,JT,Ja,delL];refine rg ?_;exact hF.ret _ _ rfl φ (ZHx _) ZHw ⟨x,u,rfl,Qn u⟩;rintro d S ⟨i,_⟩;cases i
def Ql(r:Int×Int):D:=.agg [.i r.1,.i r.2]
abbrev Zy0:=List (Str×(Int×Int))
abbrev Zbm(l:Zy0):List (D×D):=WJ Kz Ql l
def Zo{b c o}(h:(s.upd b o) c=nO):c≠b/\s c=nO:=by
 have:c≠b:=λe=>by rw[e,ZHB]at h;simp at h
 exact⟨this,by rw[ZHD _ _ this]at h;exact h⟩
def ZkA(r):Zf ZHv 309 [Ql r] (.bool (!ZbJ r)):=by
 refine Zi (cR 309 f309) λF st i=>?_;refine rx @Ql.eq_1 ?_;refine rg ?_;refine cl Zq1 ?_;refine rb i ?_;unfold ZbJ;rw[Bool.not_or,Bool.not_or,<-decide_not,<-decide_not,<-decide_not];simp only[Int.not_lt,Int.not_le,Bool.and_assoc]
def ckS(st:St)(b5 b6 b7 b8 b9 b:Nat)(rc:Int)(nn:Bool):St :=
 ((((st.upd b5 (.cells [.str []])).upd b6 (.cells [.map b])).upd b7 (.cells [.fn (.func 309) [] []])).upd b8 (.cells [.i rc])).upd b9 (.cells [.bool nn])
structure Wq(st:St)(b5 b6 b7 b8 b9:Nat):Prop where
 n5:st b5=none
 n6:b6≠b5/\st b6=none
 n7:b7≠b6/\b7≠b5/\st b7=none
 n8:b8≠b7/\b8≠b6/\b8≠b5/\st b8=none
 n9:b9≠b8/\b9≠b7/\b9≠b6/\b9≠b5/\st b9=none
section
variable {st:St} {b5 b6 b7 b8 b9 b:Nat} {rc:Int} {nn:Bool}
def Wq.g5(h:Wq st b5 b6 b7 b8 b9):(ckS st b5 b6 b7 b8 b9 b rc nn) b5=sO (.cells [.str []]):=by
 simp[ckS,ZH7,h.n6.1.symm,h.n7.2.1.symm,h.n8.2.2.1.symm,h.n9.2.2.2.1.symm]
def Wq.g6(h:Wq st b5 b6 b7 b8 b9):(ckS st b5 b6 b7 b8 b9 b rc nn) b6=sO (.cells [.map b]):=by
 simp[ckS,ZH7,h.n7.1.symm,h.n8.2.1.symm,h.n9.2.2.1.symm]
def Wq.g7(h:Wq st b5 b6 b7 b8 b9):(ckS st b5 b6 b7 b8 b9 b rc nn) b7=sO (.cells [.fn (.func 309) [] []]):=by
 simp[ckS,ZH7,h.n8.1.symm,h.n9.2.1.symm]
def Wq.g8(h:Wq st b5 b6 b7 b8 b9):(ckS st b5 b6 b7 b8 b9 b rc nn) b8=sO (.cells [.i rc]):=by
 simp[ckS,ZH7,h.n9.1.symm]
def Wq.g9:(ckS st b5 b6 b7 b8 b9 b rc nn) b9=sO (.cells [.bool nn]):=by
 simp[ckS,ZH7]
def Wq.gm(h:Wq st b5 b6 b7 b8 b9){o}(i:st b=sO o):(ckS st b5 b6 b7 b8 b9 b rc nn) b=sO o:=by
 have t:b≠b5:=λe=>by rw[e,h.n5]at i;simp at i
 have u:b≠b6:=λe=>by rw[e,h.n6.2]at i;simp at i
 have h7:b≠b7:=λe=>by rw[e,h.n7.2.2]at i;simp at i
 have h8:b≠b8:=λe=>by rw[e,h.n8.2.2.2]at i;simp at i
 have h9:b≠b9:=λe=>by rw[e,h.n9.2.2.2.2]at i;simp at i
 simp[ckS,ZH7,t,u,h7,h8,h9,i]
def Wq.s8(h:Wq st b5 b6 b7 b8 b9)(rc'):(ckS st b5 b6 b7 b8 b9 b rc nn).upd b8 (.cells [.i rc'])=ckS st b5 b6 b7 b8 b9 b rc' nn:=by
 unfold ckS;rw[St.upd_comm h.n9.1.symm,ZHO]
def Wq.s9(nn'):(ckS st b5 b6 b7 b8 b9 b rc nn).upd b9 (.cells [.bool nn'])=ckS st b5 b6 b7 b8 b9 b rc nn':=by
 unfold ckS;rw[ZHO]
def Wq.sub(h:Wq st b5 b6 b7 b8 b9):st.sub (ckS st b5 b6 b7 b8 b9 b rc nn):=λc o i=>by
 have t:c≠b5:=λe=>by rw[e,h.n5]at i;simp at i
 have u:c≠b6:=λe=>by rw[e,h.n6.2]at i;simp at i
 have h7:c≠b7:=λe=>by rw[e,h.n7.2.2]at i;simp at i
 have h8:c≠b8:=λe=>by rw[e,h.n8.2.2.2]at i;simp at i
 have h9:c≠b9:=λe=>by rw[e,h.n9.2.2.2.2]at i;simp at i
 simp[ckS,ZH7,t,u,h7,h8,h9,i]
end
def Zk0{st t b5 b6 b7 b8 b9 b rc u nn i}(h:Z4 (ckS st b5 b6 b7 b8 b9 b rc nn) t):Z4 (ckS st b5 b6 b7 b8 b9 b u i) t:=λc o hc=>by
 have:=h c o hc;unfold ckS at this⊢;have k9:=Zo this;have k8:=Zo k9.2;rw[ZHD _ _ k9.1,ZHD _ _ k8.1];exact k8.2
def Zsz{st b5 b6 b7 b8 b9 b rc nn}(h:Wq st b5 b6 b7 b8 b9){H L}(hρ:ZK H 8=sO (.d (.ptr b8 0)):=by rfl):
  YC H L (ckS st b5 b6 b7 b8 b9 b rc nn) [.cell1 8]=sO (True/\True,[.i rc]):=by
 simp[YC,Kn,hρ,Wm,Z1,h.g8]
def Zpi{α:Type}[Inhabited α]{p}{l:List α}(h:∀i,i<I l->p (l.getD i dE)=false):l.any p=false:=by
 apply List.any_eq_false.2;intro x u;obtain⟨i,t,rfl⟩:=ZHR u;have:=h i t;simpa[ZHL,t]using this
def ZkO{s j}(h:Z6 s=true)(hj:j<I s.terms):(s.terms.getD j dE).field≠[]:=by
 unfold Z6 at h;simp only[ZHG]at h;have t:=Zdi s.terms s.terms 0 rfl ω;simp only[List.take_zero,ZH2,Nat.zero_add]at t;rw[t]at h;have h2:((ZHJ (I s.terms)).any λi=>dC ((s.terms.getD i dE).field∈(s.terms.take i).map (·.field))||!Zad (s.terms.getD i dE))=false:=by simpa using h.2
 have u:=List.any_eq_false.1 h2 j (by simpa using hj);simp only[ZHT,not_or,Bool.not_eq_true',Bool.not_eq_false]at u;have h4:=u.2;intro e;rw[Zad,e]at h4;simp[Y8]at h4
def ZoO(s b l st)(hb:st b=sO (.map (Zbm l))):
  Za ZHv 310 [.agg s.cells,.str [],.map b,.fn (.func 309) [] []] st (λr S=>r=.ret (.i (Zcu s (λk=>Zp k l)))/\S=st):=by
 refine Zb (cR 310 f310) λF hF=>?_;refine rx @eQ4 ?_;refine rx @eQ4 ?_;refine cl (Zbx s) ?_;refine cd (λhv=>?_) (λhv=>?_);have ag:Z6 s=false:=by simpa using hv
 refine rg ?_;refine hF.ret _ st rfl φ (Zg2 ?_) ZHw ⟨rfl,rfl⟩;rw[Zcu,if_pos ag];have ag:Z6 s=true:=by simpa using hv
 refine rg ?_;refine Zc (Zc ?_);refine xP 5 λb5 h5=>?_;refine xP 6 λb6 h6=>?_;refine xP 7 λb7 h7=>?_;refine xP 8 λb8 h8=>?_;refine xP 9 λb9 h9=>?_;refine rx @eQ4 ?_;refine cV (Zd5 s ag) ?_ ?_
 .rintro d S ⟨x,hx,hd,rfl⟩;cases hd;refine gR0 ?_;refine Zd ?_;have t:Wq st b5 b6 b7 b8 b9:=by have k6:=Zo h6;have k7:=Zo h7;have ax:=Zo k7.2;have k8:=Zo h8;have au:=Zo k8.2;have ay:=Zo au.2;have k9:=Zo h9;have av:=Zo k9.2;have aw:=Zo av.2;have az:=Zo aw.2;exact⟨h5,k6,⟨k7.1,ax⟩,⟨k8.1,au.1,ay⟩,⟨k9.1,av.1,aw.1,az⟩⟩
  have hfew:=Zae ag;rw[show(((((st.upd b5 (.cells [.str []])).upd b6 (.cells [.map b])).upd b7 (.cells [.fn (.func 309) [] []])).upd b8 (.cells [.i 0])).upd b9 (.cells [.bool false]))=ckS st b5 b6 b7 b8 b9 b 0 false from rfl]at hx⊢;refine KM hF rfl trivial [5,6,7,8,9] (by show([5,6,7,8,9]:List Nat).Nodup;decide) (W6 hx) (ZcK s.terms (by unfold big;omega) x).Y (λj hj=>rfl)
   (λj=>if Qy (λk=>Zp k l) (s.terms.getD j dE) then .stop .ret else .next)
   (λj a=>((∀i,i<j->Qy (λk=>Zp k l) (s.terms.getD i dE)=false)/\a=ckS st b5 b6 b7 b8 b9 b 0 ((s.terms.take j).any (JH λk=>Zp k l)))\/((∃nn,a=ckS st b5 b6 b7 b8 b9 b 2 nn)/\∃i,i<j/\Qy (λk=>Zp k l) (s.terms.getD i dE)=true))
   (.inl ⟨λi hi=>by omega,rfl⟩) ?_ ?_ ?_ ?_ ?_ ?_
  .intro j a hj ae hB F' ready busy hdr ap ad;have ac:∀i,i<j->Qy (λk=>Zp k l) (s.terms.getD i dE)=false:=λi hi=>by have:=ae i hi;split at this;simp at this;rename_i h;simpa using h
   rcases hB with ⟨_,rfl⟩|⟨_,i,hi,ah⟩
   .skip
    simp only[Eqs,reduceCtorEq,ZHC,reduceIte,ZHz,ZHE,ZHA,WL,Kd,Ji,Km,List.isEmpty_nil,List.isEmpty_cons];refine rg ?_;refine ap λal=>?_;have ar:(s.terms.getD j dE).field≠[]:=ZkO ag hj;have aj:=Zy5 (p:=JH λk=>Zp k l) hj;generalize am:s.terms.getD j dE=tm at *;have e1:=YD (vD:=Ql) ZN tm.field l;have e3:=YX ZN tm.field;simp only[show Kz tm.field=D.str tm.field from rfl]at e1 e3;cases hg:Zp tm.field l with
    |none =>
     rw[hg]at e1;have u:Qy (λk=>Zp k l) tm=false:=by simp[Qy,hg]
     have af:JH (λk=>Zp k l) tm=true:=by simp[JH,hg]
     rw[af,Bool.or_true]at aj;rw[if_neg (by rw[u];simp)]at ad;refine rh ?_;refine Zm ?_;simp only[Eqs,reduceCtorEq,ZHC,reduceIte,ZHz,ZHE,ZHA,Zt (t.g6 ),Zt (t.gm hb),e1,e3];refine rh ?_;refine Zm ?_;simp only[Eqs,reduceCtorEq,ZHC,reduceIte,ZHz,ZHE,ZHA,Zt (t.g5 )];refine Zn rfl trivial (λh=>by simp at h;exact absurd h ar) (λ_=>?_);refine rg ?_;refine i1 ?_;refine rh ?_;refine Zm ?_;simp only[Eqs,reduceCtorEq,ZHC,reduceIte,ZHz,ZHE,ZHA,Zt (Wq.g9 ),W8,Wq.s9];refine Zs (Zs ?_);exact ad.fin ⟨rfl,.inl ⟨Yb (q:=λi=>Qy (λk=>Zp k l) (s.terms.getD i dE)=false) ac (by rw[am];exact u),by rw[aj]⟩⟩ (Zk0 al) ZHw
    |some r =>
     rw[hg]at e1;have u:Qy (λk=>Zp k l) tm=ZbJ r:=by simp[Qy,hg]
     have af:JH (λk=>Zp k l) tm=false:=by simp[JH,hg]
     rw[af,Bool.or_false]at aj;refine rh ?_;refine Zm ?_;simp only[Eqs,reduceCtorEq,ZHC,reduceIte,ZHz,ZHE,ZHA,Zt (t.g6 ),Zt (t.gm hb),e1,e3,Ql];refine rh ?_;refine Zm ?_;simp only[Eqs,reduceCtorEq,ZHC,reduceIte,ZHz,ZHE,ZHA,Zt (t.g5 )];refine Zn rfl trivial (λh=>by simp at h;exact absurd h ar) (λ_=>?_);refine gI ?_;refine rh ?_;refine Zm ?_;simp only[Eqs,reduceCtorEq,ZHC,reduceIte,ZHz,ZHE,ZHA,Zt (t.g7 )];refine cl (ZkA r) ?_;refine cd (λhr=>?_) (λhr=>?_);have ai:ZbJ r=true:=by simpa using hr
     rw[if_pos (by rw[u];exact ai)]at ad;refine rh ?_;refine Zm ?_;simp only[Eqs,reduceCtorEq,ZHC,reduceIte,ZHz,ZHE,ZHA,Zt (t.g8 ),W8,t.s8];exact ad.ret ⟨rfl,.inr ⟨⟨_,rfl⟩,j,ω,by rw[am,u];exact ai⟩⟩ (Zk0 al) ZHw;have ai:ZbJ r=false:=by simpa using hr
     rw[if_neg (by rw[u,ai];simp)]at ad;refine ZI (Zs (Zs ?_));exact ad.fin ⟨rfl,.inl ⟨Yb (q:=λi=>Qy (λk=>Zp k l) (s.terms.getD i dE)=false) ac (by rw[am,u];exact ai),by rw[aj]⟩⟩ al ZHw
   rw[ac i hi]at ah;simp at ah
  intro q a ae hB hq;have ac:∀i,i<I s.terms->Qy (λk=>Zp k l) (s.terms.getD i dE)=false:=λi hi=>by have:=ae i hi;split at this;simp at this;rename_i h;simpa using h
  rcases hB with ⟨_,rfl⟩|⟨_,i,hi,ah⟩;rw[ZH0]at hq⊢;have ak:s.terms.any (Qy λk=>Zp k l)=false:=Zpi ac;have hI:=Zcu.eq_1 s λk=>Zp k l;rw[if_neg (by rw[ag];simp),if_neg (by rw[ak];simp)]at hI;rw[Qn hq];have aq:=W6 (o:=QL.dfr) hq;generalize s.terms.any (JH λk=>Zp k l)=nn at *;refine rh ?_;refine Zm ?_;simp only[Eqs,reduceCtorEq,ZHC,reduceIte,ZHz,ZHE,ZHA,Zt (Wq.g9 )];refine cd (λhn=>?_) (λhn=>?_);rw[if_pos hn]at hI;refine rh ?_;refine Zm ?_;simp only[Eqs,reduceCtorEq,ZHC,reduceIte,ZHz,ZHE,ZHA,Zt (t.g8 ),W8,t.s8];exact hF.ret1 (Zjr (Zk0 aq) Yl) (.i 9) st (Zsz t) ⟨trivial,trivial⟩ (ZHx _) t.sub ⟨by rw[hI],rfl⟩;rw[if_neg (by rw[hn];simp)]at hI;refine rh ?_;refine Zm ?_;simp only[Eqs,reduceCtorEq,ZHC,reduceIte,ZHz,ZHE,ZHA,Zt (t.g8 ),W8,t.s8];exact hF.ret1 (Zjr (Zk0 aq) Yl) (.i 0) st (Zsz t) ⟨trivial,trivial⟩ (ZHx _) t.sub ⟨by rw[hI],rfl⟩;rw[ac i hi]at ah;simp at ah;intro q a m hm ae ab hB hq;have ac:∀i,i<m->Qy (λk=>Zp k l) (s.terms.getD i dE)=false:=λi hi=>by have:=ae i hi;split at this;simp at this;rename_i h;simpa using h
  have u:Qy (λk=>Zp k l) (s.terms.getD m dE)=true:=by split at ab;rename_i h;exact h;simp at ab
  rcases hB with ⟨ao,_⟩|⟨⟨nn,rfl⟩,_⟩;rw[ao m ω]at u;simp at u;have ak:s.terms.any (Qy λk=>Zp k l)=true:=ZCl hm u;have hI:=Zcu.eq_1 s λk=>Zp k l;rw[if_neg (by rw[ag];simp),if_pos ak]at hI;rw[Qn hq];exact hF.ret1 hq (.i 2) st (Zsz t) ⟨trivial,trivial⟩ (ZHx _) t.sub ⟨by rw[hI],rfl⟩;intro q a m id hm ae ab;split at ab<;>simp at ab;intro q a m d hm ae ab;split at ab<;>simp at ab;intro m c ab;split at ab<;>simp at ab;exact .inl ab.symm
 rintro d S ⟨x,hx,hd,rfl⟩;cases hd
def QZ(v:Yw->Int):List Yw->Int
 | []=>0
 |t::r=>t.factor*v t+QZ v r
def ZyG{v}{l:List Yw}{i}(h:i<I l):QZ v (l.take (i+1))=QZ v (l.take i)+(l.getD i dE).factor*v (l.getD i dE):=by
 rw[Yi h];generalize l.getD i dE=x;induction l.take i with
 |nil=>simp[QZ]
 |cons y r ih=>simp only[List.cons_append,QZ,ih];omega
def ZqO{a b}(i:-1048576<=a/\a<=1048576)(t:0<=b/\b<34359738368):-36028797018963968<=a*b/\a*b<=36028797018963968:=by
 have h1:a*b<=1048576*b:=Int.mul_le_mul_of_nonneg_right i.2 t.1;have h2:-1048576*b<=a*b:=Int.mul_le_mul_of_nonneg_right i.1 t.1;omega
def ZwT{v l}(h:∀t∈l,(-1048576<=t.factor/\t.factor<=1048576)/\0<=v t/\v t<34359738368):-36028797018963968*(I l:Int)<=QZ v l/\QZ v l<=36028797018963968*(I l:Int):=by
 induction l with
 |nil=>simp[QZ]
 |cons t r ih =>have h1:=ih λx i=>h x (by simp[i]);have h2:=ZqO (h t ψ).1 (h t ψ).2;simp only[QZ,ZHN];generalize t.factor*v t=y at *;omega
def ZoY{s}(h:Z6 s=true):(-1048576<=s.base/\s.base<=1048576)/\∀t∈s.terms,-1048576<=t.factor/\t.factor<=1048576:=by
 unfold Z6 at h;simp only[ZHG]at h;refine⟨by have:=h.1.1;simpa[ZdT]using this,λt ht=>?_⟩;have h1:=Zdi s.terms s.terms 0 rfl ω;simp only[List.take_zero,ZH2,Nat.zero_add]at h1;rw[h1]at h;have h2:((ZHJ (I s.terms)).any λi=>dC ((s.terms.getD i dE).field∈(s.terms.take i).map (·.field))||!Zad (s.terms.getD i dE))=false:=by simpa using h.2
 obtain⟨j,hj,rfl⟩:=ZHR ht;have h3:=List.any_eq_false.1 h2 j (by simpa using hj);simp only[ZHT,not_or,Bool.not_eq_true',Bool.not_eq_false]at h3;have u:=h3.2;unfold Zad at u;simp only[ZHG]at u;have h5:=u.2;simpa[ZdT,ZHL,hj]using h5
def Zht(s)(hv:Z6 s=true){f}(v){st}(hb:∀t∈s.terms,0<=v t/\v t<34359738368)(hf:∀t∈s.terms,VT ZHv f [.agg t.cells] st (.i (v t)) st):
  ZL ZHv 221 [.agg s.cells,f] st (.i (s.base+QZ v s.terms)) st:=by
 refine ZE (cR 221 f221) λah F ac=>?_;clear ah;have hfew:=Zae hv;have ad:=ZoY hv;refine rx (nd2 @eQ4 (nd2 @Yj.eq_1 @eQ1)) ?_;refine rx @eQ4 ?_;refine rx (nd2 @eQ4 (nd2 @Yj.eq_1 @eQ1)) ?_;refine Zd (fr (I s.terms) (λj Q=>j<=I s.terms->Q [(1,.d f),(5,.d (.i (s.base+QZ v (s.terms.take j)))),(11,.d (Yj s.terms)),(12,.d (.i (I s.terms))),(13,.d (.i j))] [] st) (λn ab=>?_) λai=>?_);intro j hn hj;refine rg ?_;refine Zc (Zn rfl trivial (λh1=>?_) (λh1=>?_));simp at h1;have i:=ZD h1;have af:=ZyG (v:=v) h1;have ae:=ZwT (v:=v) (l:=s.terms.take j) λt ht=>⟨ad.2 t (List.mem_of_mem_take ht),hb t (List.mem_of_mem_take ht)⟩;rw[ZHQ]at ae;generalize ag:s.terms.getD j dE=tm at *;have hmb:=ZqO (ad.2 tm i) (hb tm i);refine xA (nd2 @Yw.cells.eq_1 (nd2 @Yj.eq_1 (nd2 @eQ1 @ag))) ?_;refine rx @Yw.cells.eq_1 ?_;refine cWD (hf tm i) ?_;generalize hmv:tm.factor*v tm=mv at *;refine aa ?_;refine gA ?_;refine Ze ?_;have u:=ab ((I s.terms)-(j+1)) ω (j+1) rfl ω;rw[af,<-Int.add_assoc]at u;exact u;simp at h1;obtain rfl:j=I s.terms:=ω;rw[ZH0];refine rg ?_;exact ac rfl φ (ZHx _) ZHw;have hk:=ai _ 0 rfl ω;rw[List.take_zero,show QZ v []=0 from rfl,Int.add_zero]at hk;exact hk
def ZdX(look:ZeP)(least:Bool)(t:Yw):Int:=if least=dC (0<t.factor) then (Zh1 look t).1 else (Zh1 look t).2
def ZBZ(look l):QZ (ZdX look true) l=loS look l:=by
 induction l with
 |nil=>rfl
 |cons t r ih =>simp only[QZ,loS,ih,loT,ZdX];by_cases h:0<t.factor<;>simp[h]
def ZBY(look l):QZ (ZdX look false) l=hiS look l:=by
 induction l with
 |nil=>rfl
 |cons t r ih =>simp only[QZ,hiS,ih,hiT,ZdX];by_cases h:0<t.factor<;>simp[h]
def ZqM(o:Option (Int×Int)):Wh (.agg [.i 0,.i 0]) false (o.map Ql)=.agg [.i (o.getD (0,0)).1,.i (o.getD (0,0)).2]:=by cases o<;>rfl
def Ziw(t l least b x y){st}(hb:st b=sO (.map (Zbm l)))(hx:st x=sO (.cells [.map b]))(hy:st y=sO (.cells [.bool least])):
  ZL ZHv 312 [.agg t.cells,.ptr x 0,.ptr y 0] st (.i (ZdX (λk=>Zp k l) least t)) st:=by
 refine ZE (cR 312 f312) λu F i=>?_;clear u;have e1:=YD (vD:=Ql) ZN t.field l;have e3:=YX ZN t.field;simp only[show Kz t.field=D.str t.field from rfl]at e1 e3;refine rx @Yw.cells.eq_1 ?_;refine rh ?_;refine Zm ?_;simp only[Eqs,reduceCtorEq,ZHC,reduceIte,ZHz,ZHE,ZHA,hx,hb,e1,e3,ZqM];refine rx @hy ?_;refine cd (λh1=>?_) (λh1=>?_);refine rg ?_;refine i rfl φ (Zg2 ?_) ZHw;unfold ZdX Zh1;rw[if_pos (by simpa using h1)];refine rh ?_;refine Zm ?_;simp only[Eqs,reduceCtorEq,ZHC,reduceIte,ZHz,ZHE,ZHA,hx,hb,e1,e3,ZqM];refine i rfl φ (Zg2 ?_) ZHw;unfold ZdX Zh1;rw[if_neg (by simpa using h1)]
def ZzO{s i}(h:Zcu s i=0):Z6 s=true/\∀t∈s.terms,∀u,0<=ZdX i u t/\ZdX i u t<34359738368:=by
 unfold Zcu at h;split at h;· omega
 rename_i hv;split at h;· omega
 rename_i hb;refine⟨by simpa using hv,λt ht u=>?_⟩;have h1:Qy i t=false:=by
  cases hx:Qy i t with
  |false=>rfl
  |true=>exact absurd (List.any_eq_true.2 ⟨t,ht,hx⟩) hb
 unfold Qy at h1;unfold ZdX Zh1;cases hl:i t.field with
 |none=>simp
 |some r =>rw[hl]at h1;simp only[ZbJ,Bool.or_eq_false_iff,decide_eq_false_iff_not]at h1;simp only[ZIc];split<;>omega
def ZdP(s l least b x y){st}(he:Zcu s (λk=>Zp k l)=0)(hb:st b=sO (.map (Zbm l)))(hx:st x=sO (.cells s.cells))(hy:st y=sO (.cells [.map b])):
  ZL ZHv 311 [.bool least,.ptr x 0,.ptr y 0] st (.i (s.base+QZ (ZdX (λk=>Zp k l) least) s.terms)) st:=by
 refine ZE (cR 311 f311) λac F u=>?_;clear ac;have i:=ZzO he;refine rg ?_;refine Zc ?_;refine xP 3 λz hz=>?_;have ab:b≠z:=λe=>by rw[e,hz]at hb;simp at hb
 have ae:x≠z:=λe=>by rw[e,hz]at hx;simp at hx
 have af:y≠z:=λe=>by rw[e,hz]at hy;simp at hy
 have ad:(st.upd z (.cells [.bool least])) x=sO (.cells s.cells):=by rw[ZHD _ _ ae];exact hx
 refine rx (nd2 @ad @eQ4) ?_;refine Zaz rfl rfl rfl rfl rfl φ φ (by exact Zht s i.1 (ZdX (λk=>Zp k l) least) (λt ht=>i.2 t ht least) (λt ht=>(Ziw t l least b y z (by rw[ZHD _ _ ab];exact hb) (by rw[ZHD _ _ af];exact hy) (ZHB _ _ _)).VT (first:=[]) (args:=[_]) (caps:=[_,_]))) (Zm ?_);simp only[Eqs,reduceCtorEq,ZHC,reduceIte,ZHz,ZHE,ZHA];exact u rfl φ (ZHx _) (ZHV _ hz)
def Zm9(s b l){st}(hb:st b=sO (.map (Zbm l))):
  Za ZHv 305 [.agg s.cells,.map b] st (λr S=>r=.ret (.tup [Ql ((JV s λk=>Zp k l).1,(JV s λk=>Zp k l).2.1),.i (JV s λk=>Zp k l).2.2])/\S=st):=by
 refine Zb (cR 305 f305) λF hF=>?_;have hI:=JV.eq_1 s λk=>Zp k l;refine rx @eQ4 ?_;refine rg ?_;refine rx @eQ4 ?_;refine cV (ZoO s b l st hb) ?_ ?_;rintro d S ⟨hd,rfl⟩;cases hd;refine gR0 ?_;refine rg ?_;refine cd (λh1=>?_) (λh1=>?_);have i:¬Zcu s (λk=>Zp k l)=0:=by simpa using h1
 rw[if_neg i]at hI;refine rg ?_;refine hF.ret _ S rfl φ (JC ?_ rfl) ZHw ⟨rfl,rfl⟩;rw[hI];rfl;have i:Zcu s (λk=>Zp k l)=0:=by simpa using h1
 rw[if_pos i]at hI;refine ZI (Zc ?_);refine xP 2 λx hx=>?_;refine xP 3 λy hy=>?_;have ac:b≠x:=λe=>by rw[e,hx]at hb;simp at hb
 have ab:=Zo hy;have ad:b≠y:=λe=>by rw[e,ab.2]at hb;simp at hb
 have t:((S.upd x (.cells s.cells)).upd y (.cells [.map b])) b=sO (.map (Zbm l)):=by rw[ZHD _ _ ad,ZHD _ _ ac];exact hb
 have u:((S.upd x (.cells s.cells)).upd y (.cells [.map b])) x=sO (.cells s.cells):=by rw[ZHD _ _ ab.1.symm];exact ZHB _ _ _
 refine gG ?_;refine cW ((ZdP s l true b x y i t u (ZHB _ _ _)).VT (first:=[]) (args:=[_]) (caps:=[_,_])) ?_;refine cW ((ZdP s l false b x y i t u (ZHB _ _ _)).VT (first:=[]) (args:=[_]) (caps:=[_,_])) ?_;refine hF.ret _ S rfl (by first|trivial|simp) (JC ?_ rfl) (ZIe (ZHV _ hx) (ZHV _ hy)) ⟨rfl,rfl⟩;rw[hI,ZBZ,ZBY];rfl;rintro d S ⟨hd,_⟩;cases hd
def ZeI(o:Option Int):Wh (.i 0) false (o.map YW)=.i (o.getD 0):=by cases o<;>rfl
abbrev Kc(l:List (Str×Int)):List (D×D):=WJ Kz YW l
def inC(n:Int):List D:=[.i n]
end Go.DL
namespace Go.DL
open Go
structure Hdr where
 name:Str
 text:Str
deriving Inhabited,DecidableEq
def Hdr.cells(h:Hdr):List D:=[.str h.name,.str h.text]
def Yc(l:List Hdr):D:=slD 2 Hdr.cells l
def u8C(b:UInt8):List D:=[.int .u8 b.toNat]
def Zh(b:Str):D:=slD 1 u8C b
inductive Val where
 |mk (name:Str) (int:Int) (bytes:Str) (hdrs:List Hdr) (parts:List Val)
namespace Val
def name:Val->Str
 |mk n _ _ _ _=>n
def int:Val->Int
 |mk _ i _ _ _=>i
def bytes:Val->Str
 |mk _ _ b _ _=>b
def hdrs:Val->List Hdr
 |mk _ _ _ h _=>h
def parts:Val->List Val
 |mk _ _ _ _ p=>p
end Val
instance:Inhabited Val:=⟨.mk [] 0 [] [] []⟩
def ZAl:List D:=[.str [],.i 0,Zh [],Yc [],.nilsl]
mutual
def Val.cells:Val->List D
 |.mk n i b h p=>[.str n,.i i,Zh b,Yc h,.sl .none (I p) 5 λj=>(Val.cellsL p).getD j ZAl]
def Val.cellsL:List Val->List (List D)
 | []=>[]
 |v::r=>v.cells::Val.cellsL r
end
def Val.cellsL_get:∀(l j),j<I l->(Val.cellsL l).getD j ZAl=(l.getD j dE).cells
 | [],j,h=>absurd h (Nat.not_lt_zero _)
 |v::r,0,_=>rfl
 |v::r,j+1,h=>by have:=cellsL_get r j (by simpa using h);simpa[Val.cellsL]using this
def Zbv(p:List Val)(j:Nat):List D:=(Val.cellsL p).getD j ZAl
def Zb3{p j}(h:j<I p):Zbv p j=(p.getD j dE).cells:=Val.cellsL_get p j h
def ZY(p:List Val):D:=.sl .none (I p) 5 (Zbv p)
def Val.cells_eq(v:Val):v.cells=[.str v.name,.i v.int,Zh v.bytes,Yc v.hdrs,ZY v.parts]:=by
 cases v;rfl
def Val.len(v:Val):I v.cells=5:=by rw[Val.cells_eq];rfl
def Val.ind{p:Val->Prop}(h:∀v:Val,(∀x∈v.parts,p x)->p v)(v):p v:=by
 have i:∀n:Nat,∀v:Val,SizeOf.sizeOf v<n->p v:=by
  intro n;induction n with
  |zero=>intro v h;omega
  |succ n ih =>
   intro v hv;refine h v λx t=>ih x ?_;have h1:SizeOf.sizeOf x<SizeOf.sizeOf v.parts:=List.sizeOf_lt_of_mem t;have h2:SizeOf.sizeOf v.parts<SizeOf.sizeOf v:=by cases v;simp[Val.parts];omega
   omega
 exact i _ v (Nat.lt_succ_self _)
def QX{l i}(h:i<I l):Zbv l i=[.str (l.getD i dE).name,.i (l.getD i dE).int,Zh (l.getD i dE).bytes,Yc (l.getD i dE).hdrs,ZY (l.getD i dE).parts]:=by rw[Zb3 h,Val.cells_eq]
end Go.DL
namespace Go.DL
open Go
variable [Zsc]
variable {kp:Option (List Nat)}{L:Loc}{H:Env}{s:St}{w:World}{os:List DOp}{ds:List D}{B:List (Nat × Rd)}{dst:Option Nat}{tmps:Array Value}{g:G}{Φ:Res->St->Prop}{Z:Nat->Nat}{xs:List Opd}{side:Prop}{row:Nat->List D}
variable {P:Program}
def ZDH{k i:IntKind}{a b:Int}(h:0<=b):Zgo .shl k i a b=sO (k.wrap (J8 k a b)):=if_pos h
def ZA5{op s x y}(h:ck P op=sO (.copy s x y)):
  ∃x' y' args ats t1 e,op=.call ⟨.builtin .copy,args,ats⟩/\args.toList=[x',y']/\ats[0]?=sO t1/\P.underlying t1=sO (.slice e)/\ZP P e=sO s/\ZW x'=sO x/\ZW y'=sO y/\0<s:=by
 unfold ck at h;split at h;simp at h;split at h<;>(try(simp at h;done));all_goals (try(repeat' (split at h<;>(try(simp at h;done)))))
 all_goals
  simp only[ZHu,K.copy.injEq]at h;obtain⟨rfl,rfl,rfl⟩:=h
 rename_i c _ _ i _ _ e x' y' h1 t _ _ _ s' x1 y1 hs hx hy u;obtain⟨t1,g1,g2⟩:=Option.bind_eq_some_iff.1 h1;obtain⟨callee,args,ats⟩:=c;simp only at i;subst i;exact⟨x',y',args,ats,t1,e,rfl,t,g1,g2,hs,hx,hy,of_decide_eq_true u⟩
def ZuJ{F:Fr P}{kp dk o os H L s}(hg:Zk H o.guard=sO true){sz x y}(hk:o.k=.copy sz x y){p q b off n cap m row2 dy cs}(hx:Zy H true x=sO (p,.d (.msl b off n cap sz)))(hy:Zy H true y=sO (q,.d dy))(hp:p)(hq:q)(hcs:Z1 s b=sO cs)(hlen:off+n*sz<=I cs)(hel:WX P s sz dy m row2)(hmn:m<=n)(h:DO F kp dk os (Zv H o.dst (.d (.i m))) L (s.upd b (.cells (Zx cs off ((ZHJ m).flatMap row2))))):DO F kp dk (o::os) H L s:=by
 refine Y1 λoo g Z w tmps bb i r k az aj be af hd hN M hr av=>?_;have hw:=Z2 M be hg;have ay:=Z9 aj (by rw[hk];rfl);rw[hk]at aj;obtain⟨x',y',ao,ap,t1,e,bh,ai,aq,ba,al,bl,bn,h0⟩:=ZA5 aj;have a0:Rep g w _ (.msl b off n cap sz):=ZX M bl rfl hx hp F.ds;have a6:Rep g w _ _:=ZX M bn rfl hy hq F.ds;have a8:s b=sO (.cells cs):=by unfold Z1 at hcs;split at hcs<;>simp only[ZHu,reduceCtorEq]at hcs;subst hcs;assumption
 obtain⟨ah,ad,ax⟩:=hel _ _ _ M.st a6 h0;have bc:ao = #[x',y']:=by apply Array.ext';simpa using ai
 obtain⟨ie,au,ak⟩:∃ie,P.info? e=sO ie/\ie.size=sz:=by
  unfold ZP at al;cases hi:P.info? e with
  |none=>simp[hi]at al
  |some ie=>exact⟨ie,rfl,by simpa[hi]using al⟩
 generalize bj:(Act.mk tmps F.ds).eval x'=vx at a0;generalize bk:(Act.mk tmps F.ds).eval y'=vy at a6 ax;have ab:∀v' w',(Builtin.copy_ ap oo.type #[vx,vy]).run P w=.ok v' w'->(execOp (Act.mk tmps F.ds).eval oo).run P w=.ok (.value v') w':=λv' w' a7=>by unfold execOp;simp only[bh,bc,resolve,invoke,builtin,Sem.run_bind,Sem.run_pure,Result.andThen_ok,List.map_toArray,ZHM,ZH2,bj,bk,a7]
 subst ak;have bf:=ZbD ad.rlen m (ZHK _);obtain⟨aw,ac⟩:=ax;have ac:=ac w rfl;have ag:Nat.min m n=m:=Nat.min_eq_left hmn;have ar:∀(t:Option Addr) ae w',vx=.slice t n ae->(match t with|some a=>storeCells a ah|none=>pure ()).run P w=.ok () w'->(Builtin.copy_ ap oo.type #[vx,vy]).run P w=.ok (.i m) w':=λt ae w' hv u=>by
  subst hv;cases t with
  |none=>simp at u;subst u;simp[Builtin.copy_,aq,run_underlying ba,sizeOf,typeInfo,au,aw,ac,ag,goInt]
  |some a=>simp at u;simp[Builtin.copy_,aq,run_underlying ba,sizeOf,typeInfo,au,aw,ac,ag,u,goInt]
 have u:=ZbN (P:=P) (off:=off) (Qt M.st hcs) ad.flat ad.one (by rw[bf];have:=ZHP ie.size hmn;omega) (M.st.kept b _ a8);obtain⟨w',a1,a2,a3,a4,a5⟩:=u;have bi:s.upd b (.cells cs)=s:=by funext c;simp only[ZH7];split<;>simp_all
 cases a0 with
 |msl _ _ _ _ _ hc1 hc2 =>have am:=ar _ _ w' rfl a1;have m':=M.named (o':=.cells (Zx cs off ((ZHJ m).flatMap row2))) a8 a2 a3 a4 a5;exact Yf (L':=L) hN az af hd hw ay (e:=.d (.i m)) (ab _ _ am) a2 m' (.int _ _ (by simp only[big]at hc2;exact⟨by show(-9223372036854775808:Int)<=_;omega,by show _<=(9223372036854775807:Int);omega⟩)) (h bb r k hr av)
 |mslx a =>
  obtain rfl:m=0:=ω;have bg:ah=[]:=List.eq_nil_of_length_eq_zero (by simpa using ad.len);subst bg;have am:=ar (sO a) 0 w rfl (by simp[storeCells]);have a9:Zx cs off ((ZHJ 0).flatMap row2)=cs:=by simp[Zx]
  rw[a9,bi]at h;exact Yf (L':=L) (s':=s) hN az af hd hw ay (e:=.d (.i 0)) (ab _ _ am) (Ext.refl g w) M (.int _ _ ⟨by decide,by decide⟩) (h bb r k hr av)
def Zi0{F:Fr P}{kp dk o os H L s}(hg:Zk H o.guard=sO true){sz x y}(hk:o.k=.copy sz x y){p q b off n cap m row2 dy cs}(hx:Zy H true x=sO (p,.d (.msl b off n cap sz)))(hy:Zy H true y=sO (q,.d dy))(hp:p)(hq:q)(hcs:Z1 s b=sO cs)(hlen:off+n*sz<=I cs)(hel:WX P s sz dy m row2)(hmn:m<=n)(h:Q3 F kp dk os (Zv H o.dst (.d (.i m))) L (s.upd b (.cells (Zx cs off ((ZHJ m).flatMap row2))))):Q3 F kp dk (o::os) H L s:=λB=>by
 refine ZbR (λe' s'=>e'=.d (.i m)/\s'=s.upd b (.cells (Zx cs off ((ZHJ m).flatMap row2)))) (by rw[hk];rfl) (λH' L' os' i u=>?_) (λe2 s2 ⟨h1,h2⟩=>by
  subst h1;subst h2;exact⟨J6,h _⟩)
 have h1:Zz H H' (ZQ x):=λt ht=>i t (by simp[ZA,hk,Yh,ht]);have h2:Zz H H' (ZQ y):=λt ht=>i t (by simp[ZA,hk,Yh,ht]);have h3:Zz H H' (Zcr o.guard):=λt ht=>i t (by simp[ZA,ht]);exact ZuJ (by rw[YY h3];exact hg) hk (by rw[ZO h1];exact hx) (by rw[ZO h2];exact hy) hp hq hcs hlen hel hmn (u _ _ ⟨rfl,rfl⟩)
inductive Buf(S:St)(sz:Nat)(rows:List (List D)):D->Option Nat->Prop where
 |nil (h:rows=[]):Buf S sz rows .nilsl none
 |obj (x cap:Nat) (X:List D) (h:S x=some (.cells (rows.flatten++X))) (hX:X.length=(cap-I rows)*sz) (hc:I rows<=cap):Buf S sz rows (.msl x 0 (I rows) cap sz) (some x)
def ZhG(s s':St)(ob ob':Option Nat):Prop:=(∀y o,s y=sO o->ob≠sO y->s' y=sO o/\ob'≠sO y)
def Buf.fr{s s' sz rows d ob c i}(h:Buf s sz rows d ob)(t:ZhG s s' c i)(u:∀x,ob=sO x->c≠sO x):Buf s' sz rows d ob/\∀x,ob=sO x->i≠sO x:=by
 cases h with
 |nil h=>exact⟨.nil h,λx e=>by cases e⟩
 |obj x cap X h hX hc=>exact⟨.obj x cap X (t x _ h (u x rfl)).1 hX hc,λy e=>by cases e;exact(t x _ h (u x rfl)).2⟩
def ZfV{sz:Nat}:∀{rows:List (List D)},(∀r∈rows,I r=sz)->I rows.flatten=I rows*sz
 | [],_=>by simp
 |r::l,h=>by rw[List.flatten_cons,ZHF,h r ψ,ZfV λq i=>h q (by simp[i]),ZHN,ZHU,Nat.one_mul,Nat.add_comm]
def ZAJ{P}{F:Fr P}{kp dk o os H L s}(hg:Zk H o.guard=sO true){e sz bt z x y}(hk:o.k=.append e sz bt z x y){p q row2 dy}(hx:Zy H true x=sO (p,.d .nilsl))(hy:Zy H true y=sO (q,.d dy))(hp:p)(hq:q)(hel:WX P s sz dy 0 row2)(h:DO F kp dk os (Zv H o.dst (.d .nilsl)) L s):DO F kp dk (o::os) H L s:=by
 refine Y1 λoo g Z w tmps a9 i r k ay u aq ae hd hN M hr ar=>?_;have hw:=Z2 M aq hg;have av:=Z9 u (by rw[hk];rfl);rw[hk]at u;obtain⟨x',y',ac,al,t1,t2,tu,az,t,am,ao,a3,a4,ax,a0,hz,hbb,a7,a8,h0,hzl⟩:=JS u;have ah:Rep g w _ .nilsl:=ZX M a7 rfl hx hp F.ds;have ai:Rep g w _ _:=ZX M a8 rfl hy hq F.ds;obtain⟨zv,hz1,hz2,hz3,ie,af,hzz⟩:=KK (g:=g) (w:=w) hz;have ab:ie.size=sz:=by simpa[ZP,af]using a0
 subst ab;obtain⟨ak,au,ag⟩:=hel _ _ _ M.st ai h0;have aw:ak=[]:=List.eq_nil_of_length_eq_zero (by simpa using au.len);subst aw;have ap:ac = #[x',y']:=by apply Array.ext';simpa using t
 have ad:∀vs,Builtin.append_ al oo.type vs=Builtin.append_ #[t1,t2] oo.type vs:=λvs=>by unfold Builtin.append_;simp[am,ao]
 generalize a5:(Act.mk tmps F.ds).eval x'=vx at ah;generalize a6:(Act.mk tmps F.ds).eval y'=vy at ai ag;cases ah;have aj:=Zjb (ty:=oo.type) (n:=0) (cap:=0) (base:=nO) a3 a4 ax af ag ω;exact Yf (L':=L) (s':=s) hN ay ae hd hw av (e:=.d .nilsl) (by
  unfold execOp;simp only[az,ap,resolve,invoke,builtin,Sem.run_bind,Sem.run_pure,Result.andThen_ok,List.map_toArray,ZHM,ZH2,ad,a5,a6,aj]) (Ext.refl g w) M Rep.nilsl (h a9 r k hr ar)
def Zup{A X c:List D}{n}(i:A.length=n):Zx (A++X) n c=A++c++X.drop (I c):=by
 subst i;unfold Zx;rw[List.take_left,<-List.drop_drop,List.drop_left]
def ZkU{P}{F:Fr P}{kp dk o os H L s}(hg:Zk H o.guard=sO true){e sz bt z x y}(hk:o.k=.append e sz bt z x y){p q rows D0 ob m row2 dy}(hB:Buf s sz rows D0 ob)(hw:∀r∈rows,I r=sz)(hx:Zy H true x=sO (p,.d D0))(hy:Zy H true y=sO (q,.d dy))(hp:p)(hq:q)(hel:WX P s sz dy m row2)(hb:(I rows+m)*bt<=140737488355328)(hbig:I rows+m<=big){new}(hr:(ZHJ m).map row2=new)(hw2:∀r∈new,I r=sz)(h:∀s' D1 ob1,Buf s' sz (rows++new) D1 ob1->ZhG s s' ob ob1->DO F kp dk os (Zv H o.dst (.d D1)) L s'):DO F kp dk (o::os) H L s:=by
 have ae:(ZHJ m).flatMap row2=new.flatten:=by rw[<-hr,List.flatMap_def]
 have t:I new=m:=by rw[<-hr];simp
 cases hB with
 |nil h0 =>
  subst h0;by_cases hm:m=0;subst hm;have ah:new=[]:=List.eq_nil_of_length_eq_zero t;subst ah;exact ZAJ hg hk hx hy hp hq hel <|h s _ nO (.nil rfl) λy o' i _=>⟨i,λe=>by cases e⟩;refine Zmo hg hk hx rfl hy hel hp hq (Nat.pos_of_ne_zero hm) (by simpa using hb) (by simpa using hbig) λc cap hc ab=>?_;have ai:I new<=cap:=ω;refine h _ _ (sO c) ?_ λy o' i _=>?_;rw[show(D.msl c 0 m cap sz)=.msl c 0 ([]++new).length cap sz by rw[List.nil_append,t]];refine .obj c cap (List.replicate ((cap-m)*sz) .any) ?_ ?_ ?_;rw[ZHB,ae,List.nil_append];rw[List.length_replicate,List.nil_append,t];rw[List.nil_append];exact ai;have:y≠c:=λe=>by rw[e,hc]at i;cases i
  exact⟨by rw[ZHD _ _ this];exact i,λe=>this (Option.some.inj e).symm⟩
 |obj x0 cap X hb0 hX hc =>
  have ad:=ZfV hw;have ac:(rows.flatten++X).length=cap*sz:=by rw[ZHF,ad,hX,<-ZHU];congr 1;omega
  refine ZkV hg hk hx hy hp hq (cs:=rows.flatten++X) (by simp only[Z1,hb0]) (by rw[ac,Nat.zero_add];exact ZHP _ hc) hel (λak=>⟨rfl,by rw[ac];exact ZHP _ ak⟩) hb hbig (λab=>?_) λc u hlt ag ab=>?_;refine h _ _ (sO x0) ?_ λy o' i af=>?_;rw[show(D.msl x0 0 (I rows+m) cap sz)=.msl x0 0 (rows++new).length cap sz by rw[ZHF,t]];refine .obj x0 cap (X.drop (I new.flatten)) ?_ ?_ (by rw[ZHF,t];exact ab);rw[ZHB,ae,Zup ad,List.flatten_append];rw[ZH9,hX,ZfV hw2,t,ZHF,t,<-Nat.sub_mul];congr 1;omega;have:y≠x0:=λe=>af (by rw[e]);exact⟨by rw[ZHD _ _ this];exact i,λe=>this (Option.some.inj e).symm⟩;refine h _ _ (sO c) ?_ λy o' i af=>?_;rw[show(D.msl c 0 (I rows+m) u sz)=.msl c 0 (rows++new).length u sz by rw[ZHF,t]];refine .obj c u (List.replicate ((u-(I rows+m))*sz) .any) ?_ (by rw[List.length_replicate,ZHF,t]) (by rw[ZHF,t];exact ab);have aj:part (rows.flatten++X) 0 (I rows*sz)=rows.flatten:=by unfold part;rw[List.drop_zero,List.take_left' ad]
  rw[ZHB,ae,aj,List.flatten_append];have:y≠c:=λe=>by rw[e,ag]at i;cases i
  exact⟨by rw[ZHD _ _ this];exact i,λe=>this (Option.some.inj e).symm⟩
def ZrY{P}{F:Fr P}{kp dk o fl os H L s B}(hg:Zk H o.guard=sO true){e sz bt z x y}(hk:o.k=.append e sz bt z x y){p q rows D0 ob m row2 dy}(hB:Buf s sz rows D0 ob)(hw:∀r∈rows,I r=sz)(hx:Zy H true x=sO (p,.d D0))(hy:Zy H true y=sO (q,.d dy))(hp:p)(hq:q)(hel:WX P s sz dy m row2)(hb:(I rows+m)*bt<=140737488355328)(hbig:I rows+m<=big){new}(hr:(ZHJ m).map row2=new)(hw2:∀r∈new,I r=sz)(h:∀s' D1 ob1,Buf s' sz (rows++new) D1 ob1->ZhG s s' ob ob1->Zhi false fl s s' L L B/\DOA F kp dk os (Zv H o.dst (.d D1)) L s' (Zla false fl B)):DOA F kp dk ((o,fl)::os) H L s B:=by
 refine ZbR (λe' s'=>∃D1 ob1,e'=.d D1/\Buf s' sz (rows++new) D1 ob1/\ZhG s s' ob ob1) (by rw[hk];rfl) (λH' L' os' i u=>?_) (λe2 s2 ⟨D1,ob1,h1,h2,h3⟩=>by
  subst h1;exact h s2 D1 ob1 h2 h3)
 have e1:Zz H H' (ZQ x):=λt ht=>i t (by simp[ZA,hk,Yh,ht]);have e2:Zz H H' (ZQ y):=λt ht=>i t (by simp[ZA,hk,Yh,ht]);have e3:Zz H H' (Zcr o.guard):=λt ht=>i t (by simp[ZA,ht]);exact ZkU (by rw[YY e3];exact hg) hk hB hw (by rw[ZO e1];exact hx) (by rw[ZO e2];exact hy) hp hq hel hb hbig hr hw2 λs' D1 ob1 h1 h2=>u _ _ ⟨D1,ob1,rfl,h1,h2⟩
def Zw2{P}{F:Fr P}{kp dk o os H L s}(hg:Zk H o.guard=sO true){e sz bt z x y}(hk:o.k=.append e sz bt z x y){p q rows D0 ob m row2 dy}(hB:Buf s sz rows D0 ob)(hw:∀r∈rows,I r=sz)(hx:Zy H true x=sO (p,.d D0))(hy:Zy H true y=sO (q,.d dy))(hp:p)(hq:q)(u:WX P s sz dy m row2)(hb:(I rows+m)*bt<=140737488355328)(t:I rows+m<=big){new}(hr:(ZHJ m).map row2=new)(hw2:∀r∈new,I r=sz)(h:∀s' D1 i,Buf s' sz (rows++new) D1 i->ZhG s s' ob i->Q3 F kp dk os (Zv H o.dst (.d D1)) L s'):Q3 F kp dk (o::os) H L s :=
 λB=>ZrY hg hk hB hw hx hy hp hq u hb t hr hw2 λs' D1 i h1 h2=>⟨J6,h s' D1 i h1 h2 _⟩
end Go.DL
namespace Go.DL
open Go Go.Proofs
variable {kp:Option (List Nat)}{L:Loc}{H:Env}{s:St}{w:World}{os:List DOp}{ds:List D}{B:List (Nat × Rd)}{dst:Option Nat}{tmps:Array Value}{g:G}{Φ:Res->St->Prop}{Z:Nat->Nat}{xs:List Opd}{side:Prop}{row:Nat->List D}
def Zip(n t:Nat):UInt8:=UInt8.ofNat (t*2 ^ (7-n % 8))
def Ziq(b:List UInt8)(n t:Nat):List UInt8:=b.set (I b-1) (b.getD (I b-1) dE |||Zip n t)
def Zd2(b:List UInt8)(n:Nat):List UInt8:=if n % 8=0 then b++[0] else b
def Zbc(v:Nat):Nat->List UInt8->Nat->List UInt8
 |0,b,_=>b
 |k+1,b,n=>Zbc v k (Ziq (Zd2 b n) n (v / 2 ^ k % 2)) (n+1)
def Zyh(v b n):Zbc v 0 b n=b:=rfl
def Zj2(v k b n):Zbc v (k+1) b n=Zbc v k (Ziq (Zd2 b n) n (v / 2 ^ k % 2)) (n+1):=rfl
def BOk(b:List UInt8)(n:Nat):Prop:=I b=(n+7) / 8
def Zm1{b n}(h:BOk b n):(Zd2 b n).length=n / 8+1:=by
 unfold BOk at h;unfold Zd2;split;rw[ZHF,List.length_singleton];omega;omega
def ZtB{b n t}(h:BOk b n):BOk (Ziq (Zd2 b n) n t) (n+1):=by
 have:=Zm1 h;unfold BOk Ziq;rw[List.length_set];omega
def Zm2{v}:∀{k b n},BOk b n->BOk (Zbc v k b n) (n+k)
 |0,_,_,h=>h
 |k+1,b,n,h=>by have:=Zm2 (v:=v) (k:=k) (ZtB (t:=v / 2 ^ k % 2) h);rw[Nat.add_assoc,Nat.add_comm 1 k]at this;exact this
def BOk.bytes{b n}(h:BOk b n)(l:List UInt8):BOk (b++l) (n+8*I l):=by
 unfold BOk at *;rw[ZHF,h];omega
def leS(v:Nat):Nat->List UInt8
 |0=>[]
 |k+1=>UInt8.ofNat v::leS (v / 256) k
def Wb(S:St)(z:Nat)(ob:Option Nat)(b:List UInt8)(n:Nat)(rest:List D):Prop:=∃bD,S z=sO (.cells (bD::.i n::rest))/\Buf S 1 (b.map u8C) bD ob/\ob≠sO z
def WbF(z:Nat)(S:St)(ob:Option Nat)(S':St)(ob':Option Nat):Prop:=∀y o,S y=sO o->y≠z->ob≠sO y->S' y=sO o/\ob'≠sO y
def WbF.trans{z S S1 S2 ob i t}(h:WbF z S ob S1 i)(h2:WbF z S1 i S2 t):WbF z S ob S2 t:=λy o hy u hn=>by
 obtain⟨h3,h4⟩:=h y o hy u hn;exact h2 y o h3 u h4
def WbF.refl{z S ob}:WbF z S ob S ob:=λ_ _ t _ i=>⟨t,i⟩
def ZhG.wb{z S S' ob i}(h:ZhG S S' ob i):WbF z S ob S' i:=λy o u _ t=>h y o u t
def WbF.upd{z S S' ob i o}(h:WbF z S ob S' i):WbF z S ob (S'.upd z o) i:=λy o hy t u=>by
 rw[ZHD _ _ t];exact h y o hy t u
def WbP(S:St)(z:Nat)(ob:Option Nat)(b:List UInt8)(n:Nat)(rest:List D)(r:Res)(S':St):Prop:=r=.ret (.tup [])/\∃ob',Wb S' z ob' b n rest/\WbF z S ob S' ob'
def ZeK{l:List UInt8}:∀r∈l.map u8C,I r=1:=λr i=>by
 obtain⟨x,_,rfl⟩:=List.mem_map.1 i;rfl
def Buf.upd{s sz rows d ob z o}(h:Buf s sz rows d ob)(i:ob≠sO z):Buf (s.upd z o) sz rows d ob:=by
 cases h with
 |nil h=>exact .nil h
 |obj x cap X h hX hc=>exact .obj x cap X (by rw[ZHD _ _ λe=>i (by rw[e])];exact h) hX hc
def Buf.cell{s sz rows d ob}(h:Buf s sz rows d ob):QV d=true:=by cases h<;>rfl
def Zc7(l:List UInt8):(ZHJ (I l)).map (λi=>u8C (l.getD i dE))=l.map u8C:=by
 apply List.ext_getElem?;intro i;simp only[List.getElem?_map,List.getElem?_range,ZHL];by_cases h:i<I l;simp[h];simp[h]
def ZeL(l:List UInt8):(l.map u8C).flatten=l.map λc=>D.int .u8 c.toNat:=by
 induction l with
 |nil=>rfl
 |cons a r ih=>rw[ZHM,List.flatten_cons,ih];rfl
def ZAE{b:List UInt8}{X q}(h:q<I b):((b.map u8C).flatten++X)[q*1]?=sO (.int .u8 (b.getD q dE).toNat):=by
 rw[ZeL,Nat.mul_one,ZHW (by rw[ZHS];exact h),List.getElem?_map];simp[ZHL,h]
def ZyM{b:List UInt8}{X q}(y:UInt8)(h:q<I b):((b.map u8C).flatten++X).take q++[.int .u8 y.toNat]++((b.map u8C).flatten++X).drop (q+1)=((b.set q y).map u8C).flatten++X:=by
 rw[ZeL,ZeL];rw[List.take_append_of_le_length (by rw[ZHS];omega),<-List.map_take,List.drop_append_of_le_length (by rw[ZHS];omega),<-List.map_drop,<-ZHY]
 congr 1
 rw[List.set_eq_take_append_cons_drop,if_pos h];simp
def ZDs(x y:UInt8):Qf .or .u8 (x.toNat:Int) (y.toNat:Int)=((x |||y).toNat:Int):=by
 have hx:=x.toNat_lt;have hy:=y.toNat_lt;unfold Qf;simp only;have i:(BitVec.ofInt 8 (x.toNat:Int)).toNat=x.toNat:=by rw[BitVec.toNat_ofInt];omega
 have t:(BitVec.ofInt 8 (y.toNat:Int)).toNat=y.toNat:=by rw[BitVec.toNat_ofInt];omega
 show IntKind.u8.wrap ((BitVec.ofInt 8 (x.toNat:Int) |||BitVec.ofInt 8 (y.toNat:Int)).toNat:Int)=_;rw[BitVec.toNat_or,i,t,UInt8.toNat_or];have h:=Nat.or_lt_two_pow (n:=8) hx hy;have u:IntKind.u8.wrap ((x.toNat |||y.toNat:Nat):Int)=((x.toNat |||y.toNat:Nat):Int) % 256:=rfl;rw[u];omega
def Zy4{n:Nat}(h:n<4611686018427387904):Qf .and .i64 (n:Int) 1=((n % 2:Nat):Int):=by
 unfold Qf;simp only;have i:(BitVec.ofInt 64 (n:Int)).toNat=n:=by rw[BitVec.toNat_ofInt];omega
 show IntKind.i64.wrap ((BitVec.ofInt 64 (n:Int) &&& BitVec.ofInt 64 1).toNat:Int)=_;rw[BitVec.toNat_and,i,show(BitVec.ofInt 64 1).toNat=1 from rfl,Nat.and_one_is_mod];have t:∀m:Nat,m<2->IntKind.i64.wrap (m:Int)=(m:Int):=λm hm=>by rcases(by omega:m=0\/m=1) with rfl|rfl<;>rfl
 exact t _ (Nat.mod_lt _ (by decide))
def Zvs{v:Nat}(hv:v<4611686018427387904)(j:Nat):QE .i64 (v:Int) (j:Int)=((v / 2 ^ j:Nat):Int):=by
 unfold QE;rw[Int.toNat_natCast,Int.fdiv_eq_ediv_of_nonneg _ (by exact_mod_cast Nat.zero_le _)];have i:((v:Int) / 2 ^ (Nat.min j 64))=((v / 2 ^ (Nat.min j 64):Nat):Int):=by push_cast;rfl
 rw[show Nat.min j IntKind.i64.bits=Nat.min j 64 from rfl,i];by_cases h:j<=64;rw[show Nat.min j 64=j from Nat.min_eq_left h];rw[show Nat.min j 64=64 from Nat.min_eq_right ω,Nat.div_eq_of_lt ω,Nat.div_eq_of_lt];have:(2:Nat) ^ 64<=2 ^ j:=Nat.pow_le_pow_right (by decide) ω;omega
def ZAa{n t}(ht:t<2):(Zip n t).toNat=t*2 ^ (7-n % 8):=by
 unfold Zip;rw[UInt8.toNat_ofNat'];have i:∀k:Nat,k<=7->2 ^ k<=128:=λk u=>Nat.pow_le_pow_right (n:=2) (by decide) u;have:=i (7-n % 8) ω;rcases(by omega:t=0\/t=1) with rfl|rfl<;>omega
def ZBU{n t:Nat}(u:t<2):J8 .u8 (t:Int) (7-((n:Int) % 8))=((Zip n t).toNat:Int):=by
 rw[ZAa u];unfold J8;have i:(7-((n:Int) % 8)).toNat=7-n % 8:=ω;rw[i,show Nat.min (7-n % 8) IntKind.u8.bits=7-n % 8 from Nat.min_eq_left (by show _<=8;omega)]
 push_cast
 rfl
def Zwk{L s}(l):qv L s .lenL [.d (Zh l)]=sO (True,.d (.i (I l))):=rfl
def Kp{S z ob b n rest}(l:List UInt8)(hb:Wb S z ob b n rest)(hn:(n:Int)+8*(I b+I l)<=100000000000):Za ZHv 67 [.ptr z 0,Zh l] S (WbP S z ob (b++l) (n+8*I l) rest):=by
 obtain⟨bD,hz,hB,t⟩:=hb;refine Zb (cR 67 f67) λF hF=>?_;refine rx @hz ?_;refine ZkU rfl rfl (hB) (by exact ZeK) rfl rfl φ φ (.elems rfl) (by rw[ZHS];omega) (by rw[ZHS];unfold big;omega) (by exact Zc7 l) (by exact ZeK) λs1 D1 ac u i=>?_;have ab:=(i z _ hz t).1;refine gQ @ab ?_;refine⟨u.cell,?_⟩;refine xA (nd2 @ZHB (nd2 @Zwk @ZHO)) ?_;exact hF.fin (.tup []) _ rfl trivial (ZHx _) ZHw ⟨rfl,ac,⟨D1,by rw[ZHB];rfl,by rw[List.map_append];exact u.upd (i z _ hz t).2,(i z _ hz t).2⟩,i.wb.upd⟩
def ZiN{S z ob b n rest}(v k:Nat)(hv:v<4611686018427387904)(hk:k<=1000)(hb:Wb S z ob b n rest)(hbo:BOk b n)(hn:n<=100000000000):Za ZHv 66 [.ptr z 0,.i v,.i k] S (WbP S z ob (Zbc v k b n) (n+k) rest):=by
 refine Zb (cR 66 f66) λF hF=>?_;refine Zd (fr (k) (λi Q=>∀b1 n1 t S1,Wb S1 z t b1 n1 rest->WbF z S ob S1 t->BOk b1 n1->n1=n+i->Zbc v (k-i) b1 n1=Zbc v k b n->i<=k->Q [(0,.d (.ptr z 0)),(1,.d (.i v)),(2,.d (.i ((k-i:Nat):Int)))] [] S1) (λn ah=>?_) λbg=>?_)
 .intro i hn2 b1 n1 t S1 am ak u a5 hp hi;have au:=am;obtain⟨bD,ad,ae,ab⟩:=au;refine rg ?_;refine cd (λhd=>?_) (λhd=>?_)
  .simp only[decide_eq_true_eq]at hd;have ag:=Zm1 u;refine xA @ad ?_;rw[Int.tmod_eq_emod_of_nonneg (show 0<=(n1:Int) by omega)];refine aa ?_;refine jU [0] (λQ=>∀ap S2,Wb S2 z ap (Zd2 b1 n1) n1 rest->WbF z S ob S2 ap->Q F [(0,.d (.ptr z 0)),(1,.d (.i v)),(2,.d (.i ((k-i:Nat):Int)))] [] S2) ?_ λj1=>?_
   .intro ap S2 bc a0;obtain⟨bD2,ao,ax,ai⟩:=bc;obtain⟨j,hj⟩:∃j,k-i=j+1:=⟨k-i-1,ω⟩;rw[hj,Zj2]at hp;rw[hj,show((j+1:Nat):Int)=(j:Int)+1 by omega];generalize Zd2 b1 n1=b2 at *;cases ax with
    |nil h0 =>have:=congrArg List.length h0;rw[ZHS,ag]at this;simp at this
    |obj x cap X hx hX hc =>
     have al:(b2.map u8C).length=n1 / 8+1:=by rw[ZHS,ag]
     generalize aj:(b2.map u8C).flatten++X=cs at hx;rw[al]at ao;have hqb:n1 / 8<=100000000000:=ω;generalize hqe:n1 / 8=q at *;have a7:((q+1:Nat):Int)-1=(q:Int):=ω;have a4:((j:Int)+1)-1=(j:Int):=ω;have aq:q<I b2:=ω;have az:cs[q*1]?=sO (.int .u8 (b2.getD q dE).toNat):=by rw[<-aj];exact ZAE aq
     have a9:v / 2 ^ j % 2<2:=Nat.mod_lt _ (by decide);have bb:v / 2 ^ j<4611686018427387904:=Nat.lt_of_le_of_lt (Nat.div_le_self _ _) hv;have a8:QE .i64 (v:Int) (j:Int)=((v / 2 ^ j:Nat):Int):=Zvs hv j;have be:IntKind.u8.wrap ((v / 2 ^ j % 2:Nat):Int)=((v / 2 ^ j % 2:Nat):Int):=by rcases(by omega:v / 2 ^ j % 2=0\/v / 2 ^ j % 2=1) with h|h<;>rw[h]<;>rfl
     have ba:(n1:Int).tmod 8=(n1:Int) % 8:=Int.tmod_eq_emod_of_nonneg ω;refine rh ?_;refine YK ?_;simp(maxSteps:=1000000) only[Eqs,reduceCtorEq,ZHC,reduceIte,ZHz,ZHE,ZHA,ao,hx,a7,a4,az,a8,Zy4 bb,be,ba,ZBU a9,ZDs];have hpc:=(Zip n1 (v / 2 ^ j % 2)).toNat_lt;have hcl:q*1+1<=I cs:=by rw[<-aj,ZHF,ZeL,ZHS];omega
     generalize v / 2 ^ j=vj at *;refine aa ?_;rw[Nat.mul_one];have ar:=ZyM (X:=X) (b2.getD q dE |||Zip n1 (vj % 2)) aq;rw[aj]at ar;rw[ar];have av:x≠z:=λe=>ai (by rw[e]);have a6:Ziq b2 n1 (vj % 2)=b2.set q (b2.getD q dE |||Zip n1 (vj % 2)):=by unfold Ziq;rw[ag,Nat.add_sub_cancel]
     rw[a6]at hp;refine rh ?_;refine Zm ?_;simp only[Eqs,reduceCtorEq,ZHC,reduceIte,ZHz,ZHE,ZHA,ZHD _ _ av.symm,ao];refine aa ?_;refine gA ?_;rw[show(j:Int)+1-1=((k-(i+1):Nat):Int) by omega];have ac:∀y,((b2.set q y).map u8C).length=q+1:=λy=>by rw[ZHS,List.length_set,ag]
     have ay:∀o y,Buf ((S2.upd x (.cells (((b2.set q y).map u8C).flatten++X))).upd z o) 1 ((b2.set q y).map u8C) (.msl x 0 (q+1) cap 1) (sO x):=λo y=>by have:=Buf.obj (S:=(S2.upd x (.cells (((b2.set q y).map u8C).flatten++X))).upd z o) (sz:=1) (rows:=(b2.set q y).map u8C) x cap X (by rw[ZHD _ _ av,ZHB]) (by rw[hX,al,ac]) (by rw[ac,<-al];exact hc);rw[ac]at this;exact this
     have a3:∀o,WbF z S2 (sO x) (S2.upd x o) (sO x):=λo y o' hy _ hn=>⟨by rw[ZHD _ _ λe=>hn (by rw[e])];exact hy,hn⟩;refine Ze ?_;exact ah ((k)-(i+1)) ω (i+1) rfl (b2.set q (b2.getD q dE |||Zip n1 (vj % 2))) (n1+1) (sO x) _ ⟨_,ZHB _ _ _,ay _ _,ai⟩ ((a0.trans (a3 _)).upd) (by unfold BOk;rw[List.length_set];omega) ω (by rw[show k-(i+1)=j by omega];exact hp) ω
   refine cd (λh8=>?_) (λh8=>?_);refine rx @ad ?_;refine ZkU rfl rfl (ae) (by exact ZeK) rfl rfl φ φ (.elems rfl) (by rw[ZHS];simp only[BOk]at u;omega) (by rw[ZHS];simp only[BOk]at u;unfold big;omega) (by exact Zc7 [0]) (by exact ZeK) λs1 D1 t ae af=>?_;have bf:=(af z _ ad ab).1;refine gQ @bf ?_;refine⟨ae.cell,?_⟩;have aw:n1 % 8=0:=by simp only[decide_eq_true_eq]at h8;omega
   exact j1 t _ ⟨D1,ZHB _ _ _,by unfold Zd2;rw[if_pos aw,List.map_append];exact ae.upd (af z _ ad ab).2,(af z _ ad ab).2⟩ (ak.trans af.wb.upd);refine ZI ?_;refine kE [0,1,2] ?_;exact j1 t S1 (by unfold Zd2;rw[if_neg (by simp only[decide_eq_false_iff_not]at h8;omega)];exact am) ak
  simp only[decide_eq_false_iff_not]at hd;obtain rfl:i=k:=ω;refine ZS rfl ?_;rw[Nat.sub_self,Zyh]at hp;exact hF.fin (.tup []) _ rfl trivial (ZHx _) ZHw ⟨rfl,t,by rw[<-hp,<-a5];exact am,ak⟩
 exact bg _ 0 rfl b n ob S hb .refl hbo rfl rfl ω
def ZrS(c:UInt8):Bool:=dC ((32:Int)<c.toNat)&&dC ((c.toNat:Int)<127)
def ZeJ(c:UInt8):Bool:=((dC ((65:Int)<=c.toNat)&&dC ((c.toNat:Int)<=90)) ||(dC ((97:Int)<=c.toNat)&&dC ((c.toNat:Int)<=122)) ||(dC ((48:Int)<=c.toNat)&&dC ((c.toNat:Int)<=57))) ||decide ((c.toNat:Int)=45)
def Zhh(s:Str):Bool:=s.all ZeJ&&(dC (1<=(I s:Int))&&dC ((I s:Int)<=32))
def ZoS(c:UInt8):Bool:=dC ((c.toNat:Int)=32) ||ZrS c
def Zjt(t:Str):Bool:=dC (t=[]) ||(!dC (((t.getD 0 0).toNat:Int)=32)&&!dC (((t.getD (I t-1) 0).toNat:Int)=32))
def Zen(h:Hdr):Bool:=h.text.all ZoS&&(Zhh h.name&&Zjt h.text)
def KC(l:List Hdr):Bool:=l.all Zen&&dC ((I l:Int)<=100)
def Zia(h:Hdr):Str:=h.name++[58,32]++h.text++[13,10]
def Qp(l:List Hdr):Str:=l.flatMap Zia++[13,10]
def ZAo(c):ZrS c=(dC ((33:Int)<=c.toNat)&&dC ((c.toNat:Int)<=126)):=by
 unfold ZrS;rw[show dC ((33:Int)<=c.toNat)=dC ((32:Int)<c.toNat) from decide_eq_decide.2 ω,show dC ((c.toNat:Int)<=126)=dC ((c.toNat:Int)<127) from decide_eq_decide.2 ω]
def Zek{a b c}:Zf ZHv 233 [.int .u8 a,.int .u8 b,.int .u8 c] (.bool (dC (b<=a)&&dC (a<=c))):=by
 refine Zi (cR 233 f233) λF st i=>?_;refine gG ?_;refine rb i ?_;rfl
def Zro{c}:Zf ZHv 225 [.int .u8 c.toNat] (.bool (ZeJ c)):=by
 refine Zi (cR 225 f225) λF st i=>?_;refine gG ?_;refine cl Zek ?_;refine cG Zek ?_;refine cG Zek ?_;refine rb i ?_;unfold ZeJ;rfl
def Zn3{c}:Zf ZHv 189 [.int .u8 c.toNat] (.bool (ZrS c)):=by
 refine Zi (cR 189 f189) λF st i=>?_;refine gG ?_;refine cl Zek ?_;refine rb i ?_;rw[ZAo]
def Zpy{c}:Zf ZHv 224 [.int .u8 c.toNat] (.bool (!ZeJ c)):=by
 refine Zi (cR 224 f224) λF st i=>?_;refine gG ?_;refine cl Zro ?_;refine rb i ?_;rfl
def Zn0(s):Zf ZHv 52 [slD 1 byC s,.fn (.func 224) [] []] (.bool (s.any λc=>!ZeJ c)) :=
 λst=>K2 s (λ_=>st) λi _=> Zpy.VT (first:=[]) (caps:=[]) st
def Zph{α:Type}(p)(l:List α):l.all p=!(l.any λc=>!p c):=by
 induction l with
 |nil=>rfl
 |cons x r ih=>simp only[List.all_cons,List.any_cons,ih];cases p x<;>simp
def Zs2{s}:Zf ZHv 186 [.str s] (.bool (Zhh s)):=by
 refine WG (cR 186 f186) λt F st i=>?_;have u:=(t (.str s) ψ).str_inv;unfold big at u;refine gG ?_;refine cG (Zn0 s) ?_;refine rb i ?_;unfold Zhh;rw[Zph];generalize (s.any λc=>!ZeJ c)=x;generalize dC (1<=(I s:Int))=y;generalize dC ((I s:Int)<=32)=z;cases x<;>cases y<;>cases z<;>rfl
def Zd8(l f p)(sts:Nat->St)(hf:∀i,i<I l->VT ZHv f [.agg (l.getD i dE).cells] (sts i) (.bool (p (l.getD i dE))) (sts (i+1))):
  ZL ZHv 118 [slD 2 Hdr.cells l,f] (sts 0) (.i (Zj p l)) (sts (KB p l)):=by
 refine ZE (cR 118 f118) λad F t=>?_;have hw:=(WE (ad (slD 2 Hdr.cells l) ψ)).1;unfold big at hw;clear ad;refine rx @eQ1 ?_;refine rx @eQ1 ?_;refine Zd (fr (I l) (λi Q=>i<=I l->(∀j,j<i->p (l.getD j dE)=false)->Q [(0,.d (slD 2 Hdr.cells l)),(1,.d f),(7,.d (.i (I l))),(8,.d (.i i))] [] (sts i)) (λn ab=>?_) λae=>?_);intro i hn hi u;refine rx @eQ1 ?_;refine Zc (Zn rfl trivial (λh1=>?_) (λh1=>?_));simp at h1;refine rx @eQ1 ?_;refine xA (nd2 @eQ1 @Hdr.cells.eq_1) ?_;refine cW (hf i h1) ?_;refine cd (λh2=>?_) (λh2=>?_);have e1:=WZ h1 h2 u;have e2:=ZaR h1 h2 u;rw[e1,e2]at t;refine rg ?_;exact t rfl φ (ZHx _) ZHw;refine gA ?_;refine Ze ?_;exact ab ((I l)-(i+1)) ω (i+1) rfl ω (Yb (q:=λj=>p (l.getD j dE)=false) u h2);simp at h1;obtain rfl:i=I l:=ω;have ac:∀x∈l,p x=false:=λx hx=>by obtain⟨j,hj,rfl⟩:=ZHR hx;have:=u j hj;simpa[ZHL,hj]using this
 rw[Wc ac,Jk ac]at t;refine rg ?_;exact t rfl φ (ZHx _) ZHw;exact ae _ 0 rfl ω (by intro j hj;omega)
def Jz(l){f p}(sts:Nat->St)(hf:∀i,i<I l->VT ZHv f [.agg (l.getD i dE).cells] (sts i) (.bool (p (l.getD i dE))) (sts (i+1))):
  ZL ZHv 90 [slD 2 Hdr.cells l,f] (sts 0) (.bool (l.any p)) (sts (KB p l)):=by
 refine ZE (cR 90 f90) λu F t=>?_;clear u;refine gG ?_;refine ct (Zd8 l f p sts hf) ?_;rw[Jf]at t;exact t rfl φ (ZHx _) ZHw
def JD(c:UInt8):Bool:=dC ((c.toNat:Int)=32)
def ZcO(s:Str):Str:=s.dropWhile JD
def Za7(s:Str):Str:=(s.reverse.dropWhile JD).reverse
def ZoT{s}(h:JD (s.getD 0 0)=true)(i:0<I s):ZcO s=ZcO (s.drop 1):=by
 cases s with
 |nil=>simp at i
 |cons c r=>simp only[List.getD_cons_zero]at h;simp[ZcO,List.dropWhile_cons,h]
def Zq4{s}(h:(dC (0<(I s:Int))&&JD (s.getD 0 0))=false):ZcO s=s:=by
 cases s with
 |nil=>rfl
 |cons c r =>
  simp only[List.getD_cons_zero,ZHN]at h;have t:JD c=false:=by have i:dC (0<((I r+1:Nat):Int))=true:=decide_eq_true ω;rw[i,ZHX]at h;exact h
  simp[ZcO,List.dropWhile_cons,t]
def ZqK(l)(a:UInt8):(l++[a]).getD ((l++[a]).length-1) 0=a:=by simp[ZHL]
def ZoU{s}(h:JD (s.getD (I s-1) 0)=true)(i:0<I s):Za7 s=Za7 (s.take (I s-1)):=by
 rcases List.eq_nil_or_concat s with rfl|⟨l,a,rfl⟩;simp at i;rw[List.concat_eq_append]at h⊢;rw[ZqK]at h;simp[Za7,List.dropWhile_cons,h]
def Zq5{s}(h:(dC (0<(I s:Int))&&JD (s.getD (I s-1) 0))=false):Za7 s=s:=by
 rcases List.eq_nil_or_concat s with rfl|⟨l,a,rfl⟩;rfl;rw[List.concat_eq_append]at h⊢;rw[ZqK]at h;have t:JD a=false:=by have i:dC (0<((l++[a]).length:Int))=true:=decide_eq_true (by rw[ZHF,List.length_singleton];omega);rw[i,ZHX]at h;exact h
 simp[Za7,List.dropWhile_cons,t]
def ZyI(s):(Za7 s).length<=I s:=by
 unfold Za7;rw[List.length_reverse];exact ZIg (List.dropWhile_sublist _).length_le ψ
def ZyJ(t):dC (ZcO (Za7 t)=t)=Zjt t:=by
 have i:∀s:Str,(ZcO s).length<=I s:=λs=>(List.dropWhile_sublist _).length_le;by_cases ht:t=[];subst ht;rfl;have hp:=List.length_pos_iff.2 ht;have h0:Zjt t=(!JD (t.getD 0 0)&&!JD (t.getD (I t-1) 0)):=by unfold Zjt;rw[decide_eq_false ht,Bool.false_or];rfl
 rw[h0];cases hr:JD (t.getD (I t-1) 0) with
 |true =>rw[Bool.not_true,Bool.and_false,decide_eq_false];intro h;have u:=congrArg List.length h;rw[ZoU hr hp]at u;have h2:=i (Za7 (t.take (I t-1)));have h3:=ZyI (t.take (I t-1));rw[ZHQ]at h3;omega
 |false =>
  rw[Zq5 (by rw[hr,Bool.and_false]),Bool.not_false,Bool.and_true];cases hl:JD (t.getD 0 0) with
  |true =>rw[Bool.not_true,decide_eq_false];intro h;have u:=congrArg List.length h;rw[ZoT hl hp]at u;have h2:=i (t.drop 1);rw[ZH9]at h2;omega
  |false=>rw[Zq4 (by rw[hl,Bool.and_false])];simp
def ZfL{s}:Zf ZHv 226 [.str s,.int .u8 32] (.str (ZcO s)):=by
 refine WG (cR 226 f226) λu F st i=>?_;have hs:=(u (.str s) ψ).str_inv;unfold big at hs;clear u;refine rg ?_;refine Zc (Zd ?_);refine lpU (λQ=>∀n (t:Str),I t<=n->I t<=9223372036854775807->ZcO t=ZcO s->Q F [(0,.d (.str t)),(1,.d (.int .u8 32))] [] st) ?_ λab=>?_
 .intro n;induction n with
  |zero =>intro t hn hb ht;obtain rfl:t=[]:=List.length_eq_zero_iff.1 ω;refine gA ?_;refine iG ?_;refine rs i ?_;rw[<-ht];rfl
  |succ n ih =>intro t hn hb ht;refine gA ?_;refine cd (λh1=>?_) (λh1=>?_);simp only[ZHG,decide_eq_true_eq]at h1;refine gA ?_;refine Zs (Ze ?_);rw[show List.take (I t-1) (t.drop 1)=t.drop 1 from List.take_of_length_le ψ];exact ih _ (by rw[ZH9];omega) (by rw[ZH9];omega) (by rw[<-ht];exact(ZoT (decide_eq_true h1.2) ω).symm);refine rg ?_;refine rs i ?_;rw[<-ht];exact(Zq4 h1).symm
 exact ab (I s) s (ZHK _) hs rfl
def ZfA(s):Zf ZHv 227 [.str s,.int .u8 32] (.str (Za7 s)):=by
 refine WG (cR 227 f227) λu F st i=>?_;have hs:=(u (.str s) ψ).str_inv;unfold big at hs;clear u;refine rg ?_;refine Zc (Zd ?_);refine lpU (λQ=>∀n (t:Str),I t<=n->I t<=9223372036854775807->Za7 t=Za7 s->Q F [(0,.d (.str t)),(1,.d (.int .u8 32))] [] st) ?_ λab=>?_
 .intro n;induction n with
  |zero =>intro t hn hb ht;obtain rfl:t=[]:=List.length_eq_zero_iff.1 ω;refine gA ?_;refine iG ?_;refine rs i ?_;rw[<-ht];rfl
  |succ n ih =>
   intro t hn hb ht;refine gA ?_;refine cd (λh1=>?_) (λh1=>?_);simp only[ZHG,decide_eq_true_eq]at h1;rw[show((I t:Int)-1).toNat=I t-1 by omega]at h1;refine gA ?_;refine Zs (Ze ?_);rw[show((I t:Int)-1).toNat=I t-1 by omega];exact ih _ (by rw[ZHQ];omega) (by rw[ZHQ];omega) (by rw[<-ht];exact(ZoU (decide_eq_true h1.2) ω).symm);have h2:(dC (0<(I t:Int))&&JD (t.getD (I t-1) 0))=false:=by rw[show((I t:Int)-1).toNat=I t-1 by omega]at h1;exact h1
   refine rg ?_;refine rs i ?_;rw[<-ht];exact(Zq5 h2).symm
 exact ab (I s) s (ZHK _) hs rfl
def ZoP{s}:Zf ZHv 187 [.str s,.str [32]] (.str (ZcO (Za7 s))):=by
 refine Zi (cR 187 f187) λF st i=>?_;refine gG ?_;refine cd (λu=>?_) (λu=>?_);refine rg ?_;have t:s=[]:=by simpa using u
 subst t;refine rs i ?_;rfl;refine gA ?_;refine i1 ?_;refine gA ?_;refine cl0 (ZfA s) ?_;refine cl0 ZfL ?_;refine rs i ?_;rfl
def Zn2{c}:Zf ZHv 188 [.int .u8 c.toNat] (.bool (!ZoS c)):=by
 refine Zi (cR 188 f188) λF st i=>?_;refine gG ?_;refine cG Zn3 ?_;refine rb i ?_;unfold ZoS;rw[Bool.not_or]
def ZmN{s}:Zf ZHv 52 [slD 1 byC s,.fn (.func 188) [] []] (.bool (s.any λc=>!ZoS c)) :=
 λst=>K2 s (λ_=>st) λi _=> Zn2.VT (first:=[]) (caps:=[]) st
def Zrp(h:Hdr):Zf ZHv 151 [.agg h.cells] (.bool (Zen h)):=by
 refine Zi (cR 151 f151) λF st i=>?_;refine rx @Hdr.cells.eq_1 ?_;refine rg ?_;refine clD Zs2 ?_;refine cGD ZoP ?_;refine cGD ZmN ?_;refine rb i ?_;rw[ZyJ];unfold Zen;rw[Zph];generalize (h.text.any λc=>!ZoS c)=x;generalize Zhh h.name=y;generalize Zjt h.text=z;cases x<;>cases y<;>cases z<;>rfl
def Zn1{h:Hdr}:Zf ZHv 150 [.agg h.cells] (.bool (!Zen h)):=by
 refine Zi (cR 150 f150) λF st i=>?_;refine rx @Hdr.cells.eq_1 ?_;refine rg ?_;rw[show D.agg [.str h.name,.str h.text]=.agg h.cells from rfl];refine cl (Zrp h) ?_;refine rb i ?_;rfl
def ZmM(l):Zf ZHv 90 [slD 2 Hdr.cells l,.fn (.func 150) [] []] (.bool (l.any λc=>!Zen c)) :=
 λst=>Jz l (λ_=>st) λi _=> Zn1.VT (first:=[]) (caps:=[]) st
def ZjN{L s}(l):qv L s .lenL [.d (Yc l)]=sO (True,.d (.i (I l))):=rfl
def atH{L s}(l i):qv L s (.iaddr 2) [.d (Yc l),.d (.i i)]=sO (0<=i/\i<I l,.d (.ep (l.getD i.toNat dE).cells 0)):=rfl
def Zrn(l):Zf ZHv 99 [Yc l] (.bool (KC l)):=by
 refine Zi (cR 99 f99) λF st i=>?_;refine rg ?_;refine rx @ZjN ?_;refine cG (ZmM l) ?_;refine rb i ?_;unfold KC;rw[Zph];rw[Bool.and_comm]
def ZcP(l:List Hdr):Prop:=∀h∈l,I h.text<=1048576
def ZzH{h:Hdr}(i:Zen h=true)(ht:I h.text<=1048576):(Zia h).length<=1048620:=by
 unfold Zen Zhh at i;simp only[ZHG,decide_eq_true_eq]at i;unfold Zia;simp only[ZHF,ZHN,List.length_nil];omega
def ZfW(l:List Hdr):Str:=l.flatMap Zia
def ZxT{l}(t:∀h∈l,Zen h=true)(u:ZcP l):(ZfW l).length<=I l*1048620:=by
 induction l with
 |nil=>simp[ZfW]
 |cons a r ih =>have h1:=ZzH (t a ψ) (u a ψ);have h2:=ih (λh i=>t h (by simp[i])) (λh i=>u h (by simp[i]));unfold ZfW at h2⊢;rw[List.flatMap_cons,ZHF,ZHN,ZHU];omega
def Zwd{l:List Hdr}{i}(h:i<I l):ZfW (l.take (i+1))=ZfW (l.take i)++Zia (l.getD i dE):=by
 rw[Yi h];simp[ZfW]
def ZzJ{l}(u:KC l=true)(ht:ZcP l)(i):(ZfW (l.take i)).length<=104862000/\I l<=100:=by
 unfold KC at u;rw[ZHG,List.all_eq_true,decide_eq_true_eq]at u;have h1:=ZxT (l:=l.take i) (λh t=>u.1 h (List.mem_of_mem_take t)) (λh t=>ht h (List.mem_of_mem_take t));rw[ZHQ]at h1;have h2:min i (I l)<=100:=ω;have h3:=ZHP 1048620 h2;omega
def ZBo{l}(t:KC l=true)(ht:ZcP l){i}(u:i<I l):(l.getD i dE).name.length<=32/\(l.getD i dE).text.length<=1048576:=by
 refine⟨?_,ht _ (ZD u)⟩;unfold KC at t;rw[ZHG,List.all_eq_true]at t;have:=t.1 _ (ZD u);unfold Zen Zhh at this;simp only[ZHG,decide_eq_true_eq]at this;omega
def ZhE(l:List Hdr):D:=if KC l then .tup [Zh (Qp l),.i 0] else .tup [.nilsl,.i 2]
def ZdZ{l}(ht:ZcP l):Zf ZHv 69 [Yc l] (ZhE l):=by
 refine Zi (cR 69 f69) λF st t=>?_;have hW:=ZhE.eq_1 l;refine gG ?_;refine cl (Zrn l) ?_;cases hk:KC l with
 |false =>rw[hk,if_neg ψ]at hW;rw[hW]at t;refine i1 ?_;refine rg ?_;exact t rfl ψ (ZHx _) ZHw
 |true =>
  rw[hk,if_pos rfl]at hW;rw[hW]at t;have hl:=ZzJ hk ht;refine iG ?_;refine rx @ZjN ?_;refine kl (st) [(4,.d (.sl .full 0 1 λ_=>[])),(10,.d (Yc l)),(11,.d (.i (I l))),(12,.d (.i (0:Nat)))] [] (.cons (.d (YL λb h=>by cases h)) Qe) ZaB ?_;refine Zd (fr (I l) (λi Q=>∀tk row o,tk.okIn st->ZU byC row o->o=ZfW (l.take i)->i<=I l->Q [(4,.d (.sl tk (I o) 1 row)),(10,.d (Yc l)),(11,.d (.i (I l))),(12,.d (.i i))] [] (st.own tk (I o*1))) (λn ac=>?_) λag=>?_);intro i hn tk row o htk ad ho hi;have h1:=hl i;rw[<-ho]at h1;refine rg ?_;refine Zc (Zn rfl trivial (λh2=>?_) (λh2=>?_));simp at h2;have h3:=Zwd h2;have h4:=hl (i+1);have h5:=ZBo hk ht h2;rw[h3,<-ho]at h4;rw[<-ho]at h3;rw[ZHF]at h4;generalize hg:l.getD i dE=g at *;refine xA (nd2 @atH (nd2 @hg @Hdr.cells.eq_1)) ?_;refine rg ?_;repeat(refine ZHy (by first|omega|trivial|(intro h0;simp at h0;omega)|(((try simp only[ZHF,ZHN,List.length_nil]);unfold big;omega))) ?_)
  have hB:g.name++[58,32]++g.text++[13,10]=Zia g:=rfl;rw[hB];generalize Zia g=b at *;refine JA (st) (tk) rfl rfl rfl rfl rfl rfl φ φ rfl (by first|trivial|assumption) ω (by (unfold big;omega)) λt1 ae=>Zm ?_;simp only[Eqs,reduceCtorEq,ZHC,reduceIte,ZHz,ZHE,ZHA];refine gA ?_;have u:ZU byC (Yg (I o) row λi=>[.int .u8 ((b.getD i 0).toNat:Int)]) (o++b):=ad.app ZU.self rfl;have ab:=ac (I l-(i+1)) ω (i+1) rfl t1 _ _ ae u h3.symm ω;rw[ZHF]at ab;refine Ze ?_;exact ab;simp at h2;obtain rfl:i=I l:=ω;rw[ZH0]at ho;refine rg ?_;refine JA (st) (tk) rfl rfl rfl rfl rfl rfl φ φ rfl (by first|trivial|assumption) (by (simp;omega)) (by (simp;unfold big;omega)) λt1 ae=>Zm ?_;simp only[Eqs,reduceCtorEq,ZHC,reduceIte,ZHz,ZHE,ZHA];have u:ZU byC (Yg (I o) row λi=>[.int .u8 ((([13,10]:Str).getD i 0).toNat:Int)]) (o++[13,10]):=ad.app ZU.self rfl;have af:Qp l=o++[13,10]:=by rw[ho];rfl
  rw[af]at t;exact t rfl ψ (Zpc rfl (.cons (u.le ψ) (LeC.refl _))) (YR ae);exact ag _ 0 rfl .full _ [] trivial ZU.nil rfl ω
def ZzM(f):YE f=(dC (f.kind=1) ||decide (f.kind=2) ||decide (f.kind=3)):=by
 unfold YE;rw[Bool.eq_iff_iff];simp only[ZHG,ZHT,decide_eq_true_eq];omega
def Zfp(f):Zf ZHv 129 [.agg f.cells] (.bool (YE f)):=by
 refine Zi (cR 129 f129) λF st i=>?_;refine rx @eQ0 ?_;refine rx @eQ0 ?_;refine rb i ?_;exact(ZzM f).symm
def Zj6(f:Fld):(Int×Int)×Int:=if YE f then (KD f,0) else ((0,0),2)
def ZoC(f):Zf ZHv 308 [.agg f.cells] (.tup [Ql (Zj6 f).1,.i (Zj6 f).2]):=by
 refine Zi (cR 308 f308) λF st i=>?_;have t:=Zj6.eq_1 f;refine rx @eQ0 ?_;refine rx @eQ0 ?_;refine cl (Zfp f) ?_;refine cd (λu=>?_) (λu=>?_);rw[if_neg (by simpa using u)]at t;refine rg ?_;refine i rfl (by first|trivial|simp) (JC ?_ rfl) ZHw;rw[t];rfl;rw[if_pos (by simpa using u)]at t;refine rx @eQ0 ?_;refine cd (λh2=>?_) (λh2=>?_);refine rx @eQ0 ?_;refine i rfl (by first|trivial|simp) (JC ?_ rfl) ZHw;rw[t,KD,if_pos (by simpa using h2)];rfl;refine rx @eQ0 ?_;refine i rfl (by first|trivial|simp) (JC ?_ rfl) ZHw;rw[t,KD,if_neg (by simpa using h2)];rfl
def JN(fs:List Fld):Nat->Zy0
 |0=>[]
 |i+1=>if YE (fs.getD i dE) then YN (fs.getD i dE).name (KD (fs.getD i dE)) (JN fs i) else JN fs i
def Zfq(fs st):Za ZHv 304 [Zr fs] st λr S=>∃b,st b=nO/\r=.ret (.map b)/\S=st.upd b (.map (Zbm (JN fs (I fs)))):=by
 refine Zbe (cR 304 f304) λac F hF=>?_;have hw:=(Zjz (ac (Zr fs) ψ)).1;unfold big at hw;clear ac;refine gG ?_;intro b hb;refine rx (nd2 @Zr.eq_1 @eQ1) ?_;refine Zd (fr (I fs) (λi Q=>i<=I fs->Q [(3,.d (.map b)),(9,.d (Zr fs)),(10,.d (.i (I fs))),(11,.d (.i i))] [] (st.upd b (.map (Zbm (JN fs i))))) (λn t=>?_) λae=>?_)
 .intro i hn hi;refine rg ?_;refine Zc (Zn rfl trivial (λh1=>?_) (λh1=>?_))
  .simp at h1;have ab:JN fs (i+1)=if YE (fs.getD i dE) then YN (fs.getD i dE).name (KD (fs.getD i dE)) (JN fs i) else JN fs i:=rfl
   generalize hf:fs.getD i dE=f at *;have hP:=Zj6.eq_1 f;refine xA (nd2 @Zr.eq_1 (nd2 @eQ1 (nd2 @eQ0 @hf))) ?_;refine rx @eQ0 ?_;refine cX @Ql.eq_1 (ZoC f) ?_;refine rg ?_;refine cd (λh2=>?_) (λh2=>?_)
   .have u:YE f=true:=by
     cases hx:YE f with
     |true=>rfl
     |false=>rw[hP,hx]at h2;simp at h2
    rw[if_pos u]at hP ab;have e2:=JX (vD:=Ql) ZN f.name (KD f) (JN fs i);have e3:=YX ZN f.name;simp only[show Kz f.name=D.str f.name from rfl,show Ql (KD f)=D.agg [.i (KD f).1,.i (KD f).2] from rfl]at e2 e3;have ad:(Zj6 f).1=KD f:=by rw[hP]
    refine rx (nd2 @eQ0 (nd2 @ad (nd2 @e2 (nd2 @e3 (nd2 @ZHB (nd2 @ZHO (nd2 @Yp @Yq))))))) ?_;refine gA ?_;rw[<-ab];refine Ze ?_;exact t ((I fs)-(i+1)) ω (i+1) rfl ω
   have u:YE f=false:=by
    cases hx:YE f with
    |true=>rw[hP,hx]at h2;simp at h2
    |false=>rfl
   rw[if_neg (by rw[u];simp)]at ab;refine gA ?_;rw[<-ab];refine Ze ?_;exact t ((I fs)-(i+1)) ω (i+1) rfl ω
  simp at h1;obtain rfl:i=I fs:=ω;refine rg ?_;exact hF.ret _ _ rfl φ (ZHx _) ZHw ⟨b,hb,rfl,rfl⟩
 exact ae _ 0 rfl ω
def ZfH(l f p)(sts:Nat->St)(hf:∀i,i<I l->VT ZHv f [.agg (l.getD i dE).cells] (sts i) (.bool (p (l.getD i dE))) (sts (i+1))):
  ZL ZHv 35 [slD 2 Msg.cells l,f] (sts 0) (.tup [.i (max (Zj p l) 0),.bool (dC (0<=Zj p l))]) (sts (KB p l)):=by
 refine ZE (cR 35 f35) λu F t=>?_;clear u;refine gG ?_;refine ct (ZdS l f p sts hf) ?_;refine rg ?_;exact t rfl φ (JC rfl rfl) ZHw
def Zhr(l f p)(sts:Nat->St)(hf:∀i,i<I l->VT ZHv f [.agg (l.getD i dE).cells] (sts i) (.bool (p (l.getD i dE))) (sts (i+1))):
  ZL ZHv 212 [slD 15 Fld.cells l,f] (sts 0) (.tup [.i (max (Zj p l) 0),.bool (dC (0<=Zj p l))]) (sts (KB p l)):=by
 refine ZE (cR 212 f212) λu F t=>?_;clear u;refine gG ?_;refine ct (QF l f p sts hf) ?_;refine rg ?_;exact t rfl φ (JC rfl rfl) ZHw
def Ziv(l f p)(sts:Nat->St)(hf:∀i,i<I l->VT ZHv f [.agg (l.getD i dE).cells] (sts i) (.bool (p (l.getD i dE))) (sts (i+1))):
  ZL ZHv 180 [slD 3 Y6.cells l,f] (sts 0) (.tup [.i (max (Zj p l) 0),.bool (dC (0<=Zj p l))]) (sts (KB p l)):=by
 refine ZE (cR 180 f180) λu F t=>?_;clear u;refine gG ?_;refine ct (Zfw l f p sts hf) ?_;refine rg ?_;exact t rfl φ (JC rfl rfl) ZHw
def Zm5{x:Msg}(s b){st}(u:st b=sO (.cells [.str s])):ZL ZHv 36 [.agg x.cells,.ptr b 0] st (.bool (dC (x.name=s))) st:=by
 refine ZE (cR 36 f36) λt F i=>?_;clear t;refine rx @eQ3 ?_;refine rx @u ?_;exact i rfl φ (ZHx _) ZHw
def ZlD{x:Fld}(s b){st}(u:st b=sO (.cells [.str s])):ZL ZHv 213 [.agg x.cells,.ptr b 0] st (.bool (dC (x.name=s))) st:=by
 refine ZE (cR 213 f213) λt F i=>?_;clear t;refine rx @eQ0 ?_;refine rx @u ?_;exact i rfl φ (ZHx _) ZHw
def Za4(d:Dfn)(s):Zf ZHv 22 [.agg d.cells,.str s] (.tup [.i (max (Zj (λx=>dC (x.name=s)) d.msgs) 0),.bool (dC (0<=Zj (λx=>dC (x.name=s)) d.msgs))]):=by
 refine Zi (cR 22 f22) λF st t=>?_;refine rx @eQ2 ?_;refine Zc ?_;refine xP 3 λb u=>?_;refine rx @eQ2 ?_;refine ct (ZfH d.msgs (.fn (.func 36) [] [.ptr b 0]) (λx=>dC (x.name=s)) (λ_=>st.upd b (.cells [.str s])) (λi hi=>(Zm5 s b (ZHB _ _ _)).VT (first:=[]) (args:=[_]) (caps:=[_]))) ?_;exact t rfl φ (JC rfl rfl) (ZHV _ u)
def ZcH(d:Msg)(s):Zf ZHv 170 [.agg d.cells,.str s] (.tup [.i (max (Zj (λx=>dC (x.name=s)) d.fields) 0),.bool (dC (0<=Zj (λx=>dC (x.name=s)) d.fields))]):=by
 refine Zi (cR 170 f170) λF st t=>?_;refine rx @eQ3 ?_;refine Zc ?_;refine xP 3 λb u=>?_;refine rx @eQ3 ?_;refine ct (Zhr d.fields (.fn (.func 213) [] [.ptr b 0]) (λx=>dC (x.name=s)) (λ_=>st.upd b (.cells [.str s])) (λi hi=>(ZlD s b (ZHB _ _ _)).VT (first:=[]) (args:=[_]) (caps:=[_]))) ?_;exact t rfl φ (JC rfl rfl) (ZHV _ u)
def Zm4{c:Y6}(tag b){st}(u:st b=sO (.cells [.i tag])):ZL ZHv 181 [.agg c.cells,.ptr b 0] st (.bool (dC (c.low<=tag)&&dC (tag<=c.high))) st:=by
 refine ZE (cR 181 f181) λt F i=>?_;clear t;refine rx @Y6.cells.eq_1 ?_;refine rx @u ?_;exact i rfl φ (ZHx _) ZHw
def ZpK(f tag):Zf ZHv 145 [.agg f.cells,.i tag] (.tup [.i (max (J3 f tag) 0),.bool (dC (0<=J3 f tag))]):=by
 refine Zi (cR 145 f145) λF st t=>?_;refine rx @eQ0 ?_;refine Zc ?_;refine xP 3 λb u=>?_;refine rx @eQ0 ?_;refine ct (Ziv f.cases (.fn (.func 181) [] [.ptr b 0]) (λc=>dC (c.low<=tag)&&dC (tag<=c.high)) (λ_=>st.upd b (.cells [.i tag])) (λi hi=>(Zm4 tag b (ZHB _ _ _)).VT (first:=[]) (args:=[_]) (caps:=[_]))) ?_;exact t rfl φ (JC rfl rfl) (ZHV _ u)
def Zue{α:Type}[Inhabited α]{p:α->Bool}{l:List α}{n:Nat}(h:0<=Zj p (l.take n)):Zj p l=Zj p (l.take n):=by
 have t:=Jt h;have u:=WC p (l.take n);rw[ZHQ]at u;have h3:=WZ (p:=p) (l:=l) (i:=(Zj p (l.take n)).toNat) ω (by rw[<-Q0 (n:=n) ω];exact t.1) (λj hj=>by rw[<-Q0 (n:=n) ω];exact t.2 j hj);omega
def Zv7{d:Dfn}{s:Str}{n:Nat}(h:0<=Zq d s n):Zq d s (I d.msgs)=Zq d s n/\Zq d s n<n/\Zq d s n<I d.msgs:=by
 unfold Zq at *;have i:=WC (λm:Msg=>dC (m.name=s)) (d.msgs.take n);rw[ZHQ]at i;refine⟨?_,ω,ω⟩;rw[ZH0];exact Zue h
def Zpm{d:Dfn}{at_:Nat}{l:List Msg}{deps:List Int}(h:JR d at_ l deps=nO):(∀i,i<I l->W1 d (at_+i) (l.getD i dE)=nO)/\0<=Zq d d.start (I d.msgs):=by
 induction l generalizing at_ deps with
 |nil =>simp only[JR]at h;split at h;simp at h;exact⟨λi t=>by simp at t,ω⟩
 |cons m r ih =>
  simp only[JR]at h;split at h;simp at h;rename_i hm;split at h;simp at h;have u:=ih h;refine⟨λi t=>?_,u.2⟩;cases i with
  |zero=>simpa using hm
  |succ i =>have:=u.1 i (by simpa using t);simpa[Nat.add_assoc,Nat.add_comm 1 i]using this
structure QM(d:Dfn):Prop where
 many:I d.msgs<=60
 start:0<=Zq d d.start (I d.msgs)
 flaw:∀i,i<I d.msgs->W1 d i (d.msgs.getD i default)=none
def Zq6{d:Dfn}(h:ZfE d=true):QM d:=by
 unfold ZfE Zsw at h;split at h;simp at h;split at h;simp at h;rename_i t;simp only[ZHT,decide_eq_true_eq,not_or,Nat.not_lt]at t;simp only[Option.isNone_iff_eq_none]at h;have:=Zpm h;refine⟨ω,this.2,λi u=>by simpa using this.1 i u⟩
def Zn8{s:Str}(h:Y8 s=true):I s<=32:=by
 unfold Y8 at h;split at h;simp;simp only[ZHG,decide_eq_true_eq]at h;exact h.1.1
structure Zeg(d:Dfn)(j:Nat)(m:Msg):Prop where
 name:I m.name<=32
 many:I m.fields<=40
 field:∀i,i<I m.fields->Qk d j m i (m.fields.getD i default)=0
def ZmK{d:Dfn}{j:Nat}{m:Msg}{k:Nat}{l:List Fld}(h:YO d j m k l=nO):∀i,i<I l->Qk d j m (k+i) (l.getD i dE)=0:=by
 induction l generalizing k with
 |nil=>intro i t;simp at t
 |cons f r ih =>
  simp only[YO]at h;split at h
  .rename_i u;intro i t;cases i with
   |zero=>simpa using u
   |succ i=>have:=ih h i (by simpa using t);simpa[Nat.add_assoc,Nat.add_comm 1 i]using this
  simp at h
def ZzX{d:Dfn}{j:Nat}{m:Msg}(h:W1 d j m=nO):Zeg d j m:=by
 unfold W1 at h;split at h;· simp at h
 rename_i t;split at h;· simp at h
 split at h;· simp at h
 rename_i u;simp only[ZHT,decide_eq_true_eq,not_or,Nat.not_lt]at u;exact⟨Zn8 (by simpa using t),ω,λi hi=>by simpa using ZmK h i hi⟩
structure ZvI(d:Dfn)(j:Nat)(f:Fld):Prop where
 name:I f.name<=32
 ref:∀s∈Yv f,0<=Zq d s (I d.msgs)/\Zq d s (I d.msgs)<j
 cases:f.cases≠[]->f.kind=9
def ZuH{f:Fld}(h1:1<=f.kind)(h2:f.kind<=12)(h:Zlu f=true)(t:f.cases≠[]):f.kind=9:=by
 have hk:f.kind=1\/f.kind=2\/f.kind=3\/f.kind=4\/f.kind=5\/f.kind=6\/f.kind=7\/f.kind=8\/f.kind=9\/f.kind=10\/f.kind=11\/f.kind=12:=ω;simp only[Zlu,ZHG]at h;have i:=h.2.2;rcases hk with hk|hk|hk|hk|hk|hk|hk|hk|hk|hk|hk|hk<;>rw[hk]at i⊢<;>simp[zrC,ZoV,ZwZ,Zct,t]at i<;>rfl
def Zzx{d:Dfn}{j i:Nat}{m:Msg}{f:Fld}(h:Qk d j m i f=0):ZvI d j f:=by
 have t:=Zqs h;unfold Qk at h;split at h;· omega
 rename_i u;split at h;· omega
 split at h;· omega
 rename_i hk;split at h;· omega
 rename_i hz;simp only[ZHT,decide_eq_true_eq,not_or,Int.not_lt]at hk;refine⟨Zn8 (by simpa using u),λs hs=>?_,λhc=>ZuH ω ω (by simpa using hz) hc⟩;have h3:=t.2 s hs;have h4:=Zv7 h3;exact⟨ω,ω⟩
def QM.msg{d:Dfn}(h:QM d){j:Nat}(i:j<I d.msgs):Zeg d j (d.msgs.getD j dE):=ZzX (h.flaw j i)
def QM.fld{d:Dfn}(h:QM d){j i:Nat}(u:j<I d.msgs)(t:i<(d.msgs.getD j dE).fields.length):ZvI d j ((d.msgs.getD j dE).fields.getD i dE):=Zzx ((h.msg u).field i t)
end Go.DL
namespace Go.DL
open Go
variable {kp:Option (List Nat)}{L:Loc}{H:Env}{s:St}{w:World}{os:List DOp}{ds:List D}{B:List (Nat × Rd)}{dst:Option Nat}{tmps:Array Value}{g:G}{Φ:Res->St->Prop}{Z:Nat->Nat}{xs:List Opd}{side:Prop}{row:Nat->List D}
def ixS(d:Dfn)(s:Str):Nat:=(Zq d s (I d.msgs)).toNat
open Go.Proofs
def upS(v of:Int):Int:=((v+of)-1).tdiv of*of
def ZDa{v of}(hv:-2000<=v/\v<=2000)(ho:1<=of/\of<=1000):(-4000<=((v+of)-1).tdiv of/\((v+of)-1).tdiv of<=4000)/\-5000<=upS v of/\upS v of<=5000:=by
 unfold upS;have i:=Int.mul_tdiv_add_tmod (v+of-1) of;have h2:=Int.tmod_lt_of_pos (v+of-1) (show 0<of by omega);have h3:=Int.lt_tmod_of_pos (v+of-1) (show 0<of by omega);rw[Int.mul_comm]at i;generalize (v+of-1).tmod of=r at *;generalize (v+of-1).tdiv of=q at *;have h4:-4000<=q*of/\q*of<=4000:=ω;refine⟨?_,ω⟩;rcases Int.lt_trichotomy q 0 with hq|hq|hq;have:=Int.mul_le_mul_of_nonneg_left (show(1:Int)<=of by omega) (show 0<=-q by omega);simp only[Int.neg_mul,Int.mul_one]at this;omega;omega;have:=Int.mul_le_mul_of_nonneg_left (show(1:Int)<=of by omega) (show 0<=q by omega);omega
def Zt9{v of}(hv:-2000<=v/\v<=2000)(ho:1<=of/\of<=1000):Zf ZHv 101 [.i v,.i of] (.i (upS v of)):=by
 have hb:=ZDa hv ho;have t:((v+of)-1).tdiv of*of=upS v of:=rfl;refine Zi (cR 101 f101) λF st i=>?_;refine gG ?_;generalize ((v+of)-1).tdiv of=q at *;rw[t];generalize upS v of=u at *;refine aa ?_;refine ri i ?_;rfl
structure ZgZ(f:Fld):Prop where
 num:f.kind=1\/f.kind=2->-1000<=f.bits/\f.bits<=1000
 pad:f.kind=10->1<=f.bits/\f.bits<=1000
def ZcA(f:Fld)(o:Int):Int:=if f.kind=1\/f.kind=2 then (o+f.bits).tmod 8 else if f.kind=10 then (upS o f.bits).tmod 8 else 0
def Kt(l:List Fld):Nat->Int
 |0=>0
 |i+1=>ZcA (l.getD i dE) (Kt l i)
def Zz1{f o}:-8<ZcA f o/\ZcA f o<8:=by
 have h:∀x:Int,-8<x.tmod 8/\x.tmod 8<8:=λx=>⟨Int.lt_tmod_of_pos x (by decide),Int.tmod_lt_of_pos x (by decide)⟩;unfold ZcA;split;exact h _;split;exact h _;omega
def Zvg(l i):-8<Kt l i/\Kt l i<8:=by
 cases i with
 |zero=>simp[Kt]
 |succ i=>exact Zz1
def Zmu(f:Fld){o}(ho:-2000<=o/\o<=2000)(hb:-1000<=f.bits/\f.bits<=1000):Zf ZHv 210 [.agg f.cells,.i o] (.i (o+f.bits)):=by
 refine Zi (cR 210 f210) λF st i=>?_;refine rx @eQ0 ?_;refine xA @eQ0 ?_;refine ri i ?_;rfl
def Zmv(f:Fld){o}(u:-2000<=o/\o<=2000)(t:1<=f.bits/\f.bits<=1000):Zf ZHv 211 [.agg f.cells,.i o] (.i (upS o f.bits)):=by
 refine Zi (cR 211 f211) λF st i=>?_;refine rx @eQ0 ?_;refine rx @eQ0 ?_;refine cl (Zt9 u t) ?_;refine ri i ?_;rfl
def Zsf:List (D×D):=[(.i 1,.fn (.func 210) [] []),(.i 2,.fn (.func 210) [] []),(.i 10,.fn (.func 211) [] [])]
def Zg4{st}:Za ZHv 166 [] st λr S=>∃b,st b=nO/\r=.ret (.map b)/\S=st.upd b (.map Zsf):=by
 refine Zb (cR 166 f166) λF i=>?_;refine gG ?_;refine rh ?_;refine Zm ?_;simp only[Eqs,reduceCtorEq,ZHC,reduceIte,ZHz,ZHE,ZHA,JP,Kl,Yk,ZHB,ZHO,Yp,Yq,decide_false,ZId,ite_false];intro b t;exact i.ret _ _ rfl φ (ZHx _) ZHw ⟨b,t,rfl,rfl⟩
def Zcq(k:Int):Bool:=dC (k=1) ||(dC (k=2) ||decide (k=10))
def Zeq(k:Int):D:=if k=1 then .fn (.func 210) [] [] else if k=2 then .fn (.func 210) [] [] else if k=10 then .fn (.func 211) [] [] else .nilfn
def ZnX(k):Zbs (.sc .int) (.i k) Zsf=sO (if Zcq k then sO (Zeq k) else nO):=by
 simp only[Zsf,Zbs,Kl,Yk,if_true,Zcq,Zeq];by_cases i:k=1;simp[i];by_cases t:k=2;simp[t];by_cases u:k=10;simp[u];simp[i,t,u]
def ZqL(k):Wh .nilfn true (if Zcq k=true then sO (Zeq k) else nO)=.tup [Zeq k,.bool (Zcq k)]:=by
 unfold Zcq Zeq;by_cases i:k=1;simp[i,Wh];by_cases t:k=2;simp[t,Wh];by_cases u:k=10;simp[u,Wh];simp[i,t,u,Wh]
def ZdI(f:Fld):Bool:=!Zcq f.kind ||f.little
def Zpf(f){st}:ZL ZHv 168 [.agg f.cells] st (.bool (ZdI f)) st:=by
 refine ZE (cR 168 f168) λu F i=>?_;clear u;refine rx @eQ0 ?_;refine rx @eQ0 ?_;refine cVD Zg4 ?_ ?_;rintro d S ⟨b,hb,hd,rfl⟩;cases hd;refine⟨by simp[Wg,KY,YZ,Zan],?_⟩;have t:=ZnX f.kind;refine gQ (nd2 @t (nd2 @ZHB @ZqL)) ?_;refine rx @eQ0 ?_;exact i rfl φ (by unfold ZdI;cases Zcq f.kind<;>exact ZHx _) (ZHV _ hb);rintro d S ⟨b,hb,hd,_⟩;cases hd
def Zws(l:List Fld)(j:Nat):List D:=[.i j,.i (Kt l j)]
def ZdB(l)(hl:I l<=1000)(hb:∀f∈l,ZgZ f)(x):ZcS ZHv (.fn (.func 165) [] [.ptr x 0]) (I l+1) (Zws l) (ZH1 x (.cells [Zr l])):=by
 intro y go A a0 aj hA hd;refine Za.V (first:=[]) (args:=[y]) (caps:=[.ptr x 0]) (Zb (cR 165 f165) λF hF=>?_);have hx:∀a,Z4 a (ZH1 x (.cells [Zr l]))->(a.or (ZH1 x (.cells [Zr l]))) x=sO (.cells [Zr l]):=λa ap=>by rw[ZF (ap x _ Yl),Yl]
 generalize hT:ZH1 x (.cells [Zr l])=T at *;refine rg ?_;refine rh ?_;refine Zm ?_;simp only[Eqs,reduceCtorEq,ZHC,reduceIte,ZHz,ZHE,ZHA,hx a0 hd,Zr,slD];refine Zd (fr (I l) (λj Q=>∀a,A j a->Z4 a T->(∀i,i<j->go i=.next)->j<=I l->Q [(0,.d y),(1,.d (.ptr x 0)),(3,.d (.i (Kt l j))),(8,.d (Zr l)),(9,.d (.i (I l))),(10,.d (.i j))] [] (a.or T)) (λn ad=>?_) λar=>?_)
 .clear hA hd;intro j hn a hA hd ac hj;refine rg ?_;have ae:=(aj j ω ac a hA).frame hd;unfold Zws at ae;have ho:=Zvg l j;refine Zc (Zn rfl trivial (λh1=>?_) (λh1=>?_))
  .simp at h1;have ao:=hb (l.getD j dE) (by simp[ZHL,h1]);have am:Kt l (j+1)=ZcA (l.getD j dE) (Kt l j):=rfl;generalize hg:l.getD j dE=g at *;refine xA (nd2 @Zr.eq_1 (nd2 @eQ1 (nd2 @hg @eQ0))) ?_;refine rg ?_;refine vV (ae) ?_ ?_
   .rintro d S ⟨s',⟨hr,u⟩,af,rfl⟩;cases t:go j with
    |next =>
     rw[t]at hr;cases hr;refine gR0 ?_;refine i0 ?_;refine rx @eQ0 ?_;refine cVD Zg4 ?_ ?_;rintro d S ⟨b,ag,ak,rfl⟩;cases ak;have aq:=ZnX g.kind;refine⟨by simp[Wg,KY,YZ,Zan],?_⟩;refine gQ (nd2 @aq (nd2 @ZHB @ZqL)) ?_;refine rg ?_;have h8:=Zvg l (j+1);refine cd (λhk=>?_) (λhk=>?_);by_cases ah:g.kind=10;have al:Zeq g.kind=.fn (.func 211) [] []:=by simp[Zeq,ah]
     have ab:(upS (Kt l j) g.bits).tmod 8=Kt l (j+1):=by rw[am,ZcA,if_neg ω,if_pos ah]
     rw[<-ab]at h8;rw[al];refine rx @eQ0 ?_;refine ZvG rfl rfl rfl rfl rfl φ φ (by exact(Zmv g ω (ao.pad ah)).VT (first:=[]) (args:=[_,_]) (caps:=[]) _) (Zm ?_);simp only[Eqs,reduceCtorEq,ZHC,reduceIte,ZHz,ZHE,ZHA];refine aa ?_;rw[ab];refine gA ?_;refine KF (ZHV _ ag) ?_;refine Ze ?_;exact ad ((I l)-(j+1)) ω (j+1) rfl s' u af (Yb (q:=λi=>go i=.next) ac t) ω;have ai:g.kind=1\/g.kind=2:=by simp only[Zcq,ZHT,decide_eq_true_eq]at hk;omega
     have al:Zeq g.kind=.fn (.func 210) [] []:=by rcases ai with h|h<;>simp[Zeq,h]
     have ab:(Kt l j+g.bits).tmod 8=Kt l (j+1):=by rw[am,ZcA,if_pos ai]
     rw[<-ab]at h8;rw[al];refine rx @eQ0 ?_;refine ZvG rfl rfl rfl rfl rfl φ φ (by exact(Zmu g ω (ao.num ai)).VT (first:=[]) (args:=[_,_]) (caps:=[]) _) (Zm ?_);simp only[Eqs,reduceCtorEq,ZHC,reduceIte,ZHz,ZHE,ZHA];refine aa ?_;rw[ab];refine gA ?_;refine KF (ZHV _ ag) ?_;refine Ze ?_;exact ad ((I l)-(j+1)) ω (j+1) rfl s' u af (Yb (q:=λi=>go i=.next) ac t) ω;have ab:(0:Int)=Kt l (j+1):=by simp only[Zcq,Bool.or_eq_false_iff,decide_eq_false_iff_not]at hk;rw[am,ZcA,if_neg ω,if_neg ω]
     refine rg ?_;refine gA ?_;rw[show(D.int IntKind.i64 0)=.i (Kt l (j+1)) by rw[<-ab]];refine KF (ZHV _ ag) ?_;refine Ze ?_;exact ad ((I l)-(j+1)) ω (j+1) rfl s' u af (Yb (q:=λi=>go i=.next) ac t) ω;rintro d S ⟨b,ag,ak,_⟩;cases ak
    |stop c =>rw[t]at hr;cases hr;refine gR0 ?_;refine i1 ?_;exact hF.ret (.tup []) _ rfl trivial (ZHx _) ZHw ⟨s',.stop j c ω ac t u,Kv⟩
    |pan d=>rw[t]at hr;cases hr
   rintro d S ⟨s',⟨hr,u⟩,af,rfl⟩;cases t:go j with
   |pan d' =>rw[t]at hr;cases hr;exact hF.pan _ ZHw ⟨s',.pan j d ω ac t u,Kv⟩
   |next=>rw[t]at hr;cases hr
   |stop c=>rw[t]at hr;cases hr
  simp at h1;obtain rfl:j=I l:=ω;refine rh ?_;refine Zm ?_;simp only[Eqs,reduceCtorEq,ZHC,reduceIte,ZHz,ZHE,ZHA,hx a hd,Zr,slD];refine vV (ae) ?_ ?_
  .rintro d S ⟨s',⟨hr,u⟩,af,rfl⟩;cases t:go (I l) with
   |next =>rw[t]at hr;cases hr;refine gR0 ?_;exact hF.fin (.tup []) _ rfl trivial (ZHx _) ZHw ⟨s',.all (Yb (q:=λi=>go i=.next) ac t) u,Kv⟩
   |stop c =>rw[t]at hr;cases hr;refine gR0 ?_;exact hF.fin (.tup []) _ rfl trivial (ZHx _) ZHw ⟨s',.stop (I l) c ω ac t u,Kv⟩
   |pan d=>rw[t]at hr;cases hr
  rintro d S ⟨s',⟨hr,u⟩,af,rfl⟩;cases t:go (I l) with
  |pan d' =>rw[t]at hr;cases hr;exact hF.pan _ ZHw ⟨s',.pan (I l) d ω ac t u,Kv⟩
  |next=>rw[t]at hr;cases hr
  |stop c=>rw[t]at hr;cases hr
 exact ar _ 0 rfl a0 hA hd (by intro i hi;omega) ω
def ZeT(l st):Za ZHv 121 [Zr l] st λr S=>∃x,st x=nO/\r=.ret (.fn (.func 165) [] [.ptr x 0])/\S=st.or (ZH1 x (.cells [Zr l])):=by
 refine Zb (cR 121 f121) λF t=>?_;refine rx (nd2 @Zr.eq_1 @eQ1) ?_;refine Zc ?_;refine xP 1 λx i=>?_;refine rg ?_;exact t.ret _ _ rfl φ (ZHx _) ZHw ⟨x,i,rfl,Qn i⟩
def Zt8(l)(hl:I l<=1000)(hb:∀f∈l,ZgZ f)(k:Nat)(hk:k<=I l){st:St}:ZL ZHv 171 [Zr l,.i k] st (.i (Kt l k)) st:=by
 refine Zb (cR 171 f171) λF hF=>?_;refine rx (nd2 @Zr.eq_1 @eQ1) ?_;refine rg ?_;rw[show(D.sl .none (I l) 15 λi=>(l.getD i dE).cells)=Zr l from rfl];refine cV (ZeT l st) ?_ ?_
 .rintro d S ⟨x,hx,hd,rfl⟩;cases hd;refine gR0 ?_;refine Zd ?_;refine xP 3 λz3 h3=>?_;refine xP 4 λz4 h4=>?_;have ap:z3≠x:=λe=>by subst e;rw[ZF hx,Yl]at h3;simp at h3
  have al:st z3=nO:=by
   cases h:st z3 with
   |none=>rfl
   |some o=>rw[Zt h]at h3;simp at h3
  have k4:=Zo h4;have aq:z4≠x:=λe=>by subst e;have:=k4.2;rw[ZF hx,Yl]at this;simp at this
  have am:st z4=nO:=by
   cases h:st z4 with
   |none=>rfl
   |some o=>have:=k4.2;rw[Zt h]at this;simp at this
  have hA:∀v,∃A:St,A=(st.upd z3 (.cells [.i k])).upd z4 (.cells [.i v])/\A z3=sO (.cells [.i k])/\A z4=sO (.cells [.i v])/\st.sub A/\A x=nO:=λv=>by refine⟨_,rfl,by rw[ZHD _ _ (Ne.symm k4.1)];exact ZHB _ _ _,ZHB _ _ _,ZIe (ZHV _ al) (ZHV _ (by rw[ZHD _ _ k4.1];exact am)),?_⟩;rw[ZHD _ _ (Ne.symm aq),ZHD _ _ (Ne.symm ap)];exact hx
  obtain⟨A0,e0,g3,g4,hsub0,ao⟩:=hA 0;obtain⟨A1,e1,g3',aj,ae,hx1⟩:=hA (Kt l k);have af:A0.upd z4 (.cells [.i (Kt l k)])=A1:=by rw[e0,e1,ZHO]
  have ai:(((st.or (ZH1 x (.cells [Zr l]))).upd z3 (.cells [.i k])).upd z4 (.cells [.i 0]))=A0.or (ZH1 x (.cells [Zr l])):=by
   rw[e0];funext c;by_cases c4:c=z4;subst c4;rw[ZHB,Zt (ZHB _ _ _)];rw[ZHD _ _ c4];by_cases c3:c=z3;subst c3;rw[ZHB,Zt (by rw[ZHD _ _ c4];exact ZHB _ _ _)];rw[ZHD _ _ c3];show(match st c with|some o=>sO o|none=>_)=match ((st.upd z3 _).upd z4 _) c with|some o=>sO o|none=>_
   rw[ZHD _ _ c4,ZHD _ _ c3]
  rw[ai];clear ai hA;refine KM hF rfl trivial [3,4] (by show([3,4]:List Nat).Nodup;decide) (W6 ao) (ZdB l hl hb x).Y (λj hj=>rfl)
   (λj=>if j=k then .stop .ret else .next) (λj a=>(j<=k/\a=A0)\/(k<j/\a=A1)) (.inl ⟨Nat.zero_le _,rfl⟩) ?_ ?_ ?_ ?_ ?_ ?_
  intro j a hj ab hB F' ready busy hdr ah u;have hjk:j<=k:=by refine Nat.le_of_not_lt λh=>?_;have:=ab k h;simp at this
  rcases hB with ⟨_,rfl⟩|⟨h,_⟩
  skip
  simp only[Eqs,reduceCtorEq,ZHC,reduceIte,ZHz,ZHE,ZHA,WL,Kd,Ji,Km,List.isEmpty_nil,List.isEmpty_cons,Zws];refine gG ?_;refine ah λad=>?_;refine rh ?_;refine Zm ?_;simp only[Eqs,reduceCtorEq,ZHC,reduceIte,ZHz,ZHE,ZHA,Zt g3];refine cd (λhc=>?_) (λhc=>?_);have ac:j=k:=by simp at hc;omega
  subst ac;rw[if_pos rfl]at u;refine rh ?_;refine Zm ?_;simp only[Eqs,reduceCtorEq,ZHC,reduceIte,ZHz,ZHE,ZHA,Zt g4,W8];rw[af];exact u.ret ⟨rfl,.inr ⟨ω,rfl⟩⟩ (λb o ag=>by rw[<-af,ZHD _ _ (λe=>by subst e;rw[ad _ o ag]at g4;simp at g4)];exact ad b o ag) ZHw;have ac:j≠k:=by simp at hc;omega
  rw[if_neg ac]at u;refine ZI (Zs ?_);exact u.fin ⟨rfl,.inl ⟨ω,rfl⟩⟩ ad ZHw;omega;intro q a ab hB hq;have:=ab k ω;simp at this;intro q a m hm ab t hB hq;have ak:m=k:=by split at t;assumption;simp at t
  subst ak;rcases hB with ⟨h,_⟩|⟨_,rfl⟩;omega;rw[Qn hq];exact hF.ret1 hq (.i (Kt l m)) st (by simp only[Eqs,reduceCtorEq,ZHC,reduceIte,ZHz,ZHE,ZHA,YC,Kn,aj];rfl) φ (ZHx _) ae ⟨rfl,rfl⟩;intro q a m id hm ab t;split at t<;>simp at t;intro q a m d hm ab t;split at t<;>simp at t;intro m c t;split at t<;>simp at t;exact .inl t.symm
 rintro d S ⟨x,hx,hd,_⟩;cases hd
def Qq(l:List Fld)(i:Nat):Bool:=if i=I l then !dC (Kt l i=0) else !(dC (Kt l i=0)||!ZdI (l.getD i dE))||!(!dC ((l.getD i dE).kind=11) ||decide (Kt l (max (Zj (λx=>dC (x.name=(l.getD i dE).from_)) l) 0).toNat=0))
def Zmw{st a c o f}(ha:st a=sO (.cells [.i o]))(hc:st c=sO (.cells f.cells)):ZL ZHv 167 [.ptr a 0,.ptr c 0] st (.bool (dC (o=0)||!ZdI f)) st:=by
 refine ZE (cR 167 f167) λt F i=>?_;clear t;by_cases u:o=0;subst u;refine rg ?_;refine rx (nd2 @ha @hc) ?_;refine JB rfl (e:=.d (.bool false)) (Zm ?_);simp only[Eqs,reduceCtorEq,ZHC,reduceIte,ZHz,ZHE,ZHA];exact i rfl ψ (ZHx _) ZHw;have h1:dC (o=0)=false:=decide_eq_false u;rw[h1,Bool.false_or]at i;refine rg ?_;refine rx (nd2 @ha (nd2 @hc (nd2 @h1 @eQ0))) ?_;refine Zaz rfl rfl rfl rfl rfl φ φ (by exact Zpf f) (Zm ?_);simp only[Eqs,reduceCtorEq,ZHC,reduceIte,ZHz,ZHE,ZHA];exact i rfl ψ (by cases ZdI f<;>exact ZHx _) ZHw
def okF(l):W7 (Zr l)=true:=rfl
def ceF(l):cellsOf (Zr l)=[Zr l]:=rfl
def Zmx{st a c l}(hl:I l<=1000)(hb:∀f∈l,ZgZ f){f:Fld}(ha:st a=sO (.cells [Zr l]))(hc:st c=sO (.cells f.cells))(hpos:0<I l):
  ZL ZHv 169 [.ptr a 0,.ptr c 0] st (.bool (!dC (f.kind=11) ||decide (Kt l (max (Zj (λx=>dC (x.name=f.from_)) l) 0).toNat=0))) st:=by
 refine ZE (cR 169 f169) λu F i=>?_;clear u;have hq1:=WC (λx=>dC (x.name=f.from_)) l;have hq0:=ZaK (λx:Fld=>dC (x.name=f.from_)) l;have t:D.agg [.str [],Zr l]=.agg (Msg.mk [] l).cells:=rfl;refine rg ?_;refine rx (nd2 @ha (nd2 @hc (nd2 @eQ0 (nd2 @okF @ceF)))) ?_;rw[t];refine cl (ZcH ⟨[],l⟩ f.from_) ?_;obtain⟨q,hq⟩:∃q:Nat,max (Zj (λx=>dC (x.name=f.from_)) l) 0=q:=⟨(max (Zj (λx=>dC (x.name=f.from_)) l) 0).toNat,ω⟩;simp only[hq,Int.toNat_natCast]at i⊢;by_cases h0:f.kind=11;have h1:dC (f.kind=11)=true:=decide_eq_true h0;rw[h1,Bool.not_true,Bool.false_or]at i;refine rx (nd2 @ha (nd2 @hc (nd2 @eQ0 @h1))) ?_;refine Zaz rfl rfl rfl rfl rfl φ φ (by exact Zt8 l hl hb q ω) (Zm ?_);simp only[Eqs,reduceCtorEq,ZHC,reduceIte,ZHz,ZHE,ZHA];exact i rfl ψ (ZHx _) ZHw;have h1:dC (f.kind=11)=false:=decide_eq_false h0;rw[h1,Bool.not_false,Bool.true_or]at i;refine rx (nd2 @ha (nd2 @hc (nd2 @eQ0 @h1))) ?_;refine JB rfl (e:=.d (.i 0)) (Zm ?_);simp only[Eqs,reduceCtorEq,ZHC,reduceIte,ZHz,ZHE,ZHA];exact i rfl ψ (ZHx _) ZHw
def ZeU{c v st}(h:VT ZHv c [] st (.bool v) st):ZL ZHv 173 [c] st (.bool (!v)) st:=by
 refine ZE (cR 173 f173) λt F i=>?_;clear t;refine gG ?_;refine cW (h) ?_;exact i rfl φ (ZHx _) ZHw
structure Ck where
 d:Dfn
 at_:Int
 field:Int
 m:Msg
def Ck.cells(k:Ck)(bd bs:Nat):List D:=[.str k.d.name,YF k.d.msgs,.str k.d.start,.map bd,.map bs,.i k.at_,.i k.field,.str k.m.name,Zr k.m.fields]
structure Qd(st:St)(x bd bs:Nat)(k:Ck)(dl:List (Str×Int))(sl:List (Str×Bool)):Prop where
 x:st x=some (.cells (k.cells bd bs))
 bd:st bd=some (.map (Kc dl))
 bs:st bs=some (.map (Zei sl))
def Qd.mono{st A x bd bs k dl sl}(h:Qd st x bd bs k dl sl)(i:st.sub A):Qd A x bd bs k dl sl:=⟨i _ _ h.x,i _ _ h.bd,i _ _ h.bs⟩
def Zdz(d:D):Prop:=∃a f c,d=.iface 156 (.agg [.i a,.i f,.i c])
def Wu(ok:Bool)(st:St)(r:Res)(S:St):Prop:=S=st/\if ok then r=.ret (.tup []) else ∃d,Zdz d/\r=.panic d
def YA{ok st S d}(h:Wu ok st (.ret d) S):ok=true/\d=.tup []/\S=st:=by
 obtain⟨t,i⟩:=h;cases ok with
 |true=>simp at i;exact⟨rfl,i,t⟩
 |false=>simp at i
def Yz{ok st S d}(h:Wu ok st (.panic d) S):ok=false/\Zdz d/\S=st:=by
 obtain⟨t,i⟩:=h;cases ok with
 |true=>simp at i
 |false=>simp at i;exact⟨rfl,i,t⟩
def Zbb{ok st}(h:ok=true):Wu ok st (.ret (.tup [])) st:=by subst h;exact⟨rfl,rfl⟩
def Wa{ok st d}(h:ok=false)(i:Zdz d):Wu ok st (.panic d) st:=by subst h;exact⟨rfl,d,i,rfl⟩
def Zh5(a f c:Int):D:=.iface 156 (.agg [.i a,.i f,.i c])
def Zs1{a f c}:Zdz (Zh5 a f c):=⟨a,f,c,rfl⟩
def Zf8{x bd bs}{k:Ck}{st}(u:st x=sO (.cells (k.cells bd bs)))(fine code):Za ZHv 208 [.ptr x 0,.bool fine,.i code] st (λr S=>S=st/\r=if fine then .ret (.tup []) else .panic (Zh5 k.at_ k.field code)):=by
 refine Zb (cR 208 f208) λF t=>?_;refine rg ?_;refine cd (λh=>?_) (λh=>?_);have i:fine=false:=by simpa using h
 refine rx (nd2 @u @Ck.cells.eq_1) ?_;refine ZvC rfl rfl rfl trivial ?_;exact t.pan st ZHw ⟨rfl,by rw[i];rfl⟩;have i:fine=true:=by simpa using h
 refine ZI ?_;exact t.fin (.tup []) st rfl trivial (ZHx _) ZHw ⟨rfl,by rw[i];rfl⟩
def ZT{x bd bs}{k:Ck}{st}(u:st x=sO (.cells (k.cells bd bs)))(fine code):Za ZHv 208 [.ptr x 0,.bool fine,.i code] st (Wu fine st) :=
 (Zf8 u fine code).mono λr S ⟨t,i⟩=>by
  subst t;cases fine with
  |true=>exact⟨rfl,i⟩
  |false=>exact⟨rfl,_,Zs1,i⟩
def ZmW(o:Option Int):Wh (.i 0) true (o.map YW)=.tup [.i (o.getD 0),.bool o.isSome]:=by cases o<;>rfl
def Zof(o:Option (Int×Int)):Wh (.agg [.i 0,.i 0]) true (o.map Ql)=.tup [.agg [.i (o.getD (0,0)).1,.i (o.getD (0,0)).2],.bool o.isSome]:=by cases o<;>rfl
def ZcI{x bd bs k dl sl st}(u:Qd st x bd bs k dl sl)(name):Za ZHv 285 [.ptr x 0,.str name] st (Wu (Zp name dl).isSome st):=by
 refine Zb (cR 285 f285) λF hF=>?_;have e1:=YD (vD:=YW) ZN name dl;have e3:=YX ZN name;simp only[show Kz name=D.str name from rfl]at e1 e3;refine rh ?_;refine Zm ?_;simp only[Eqs,reduceCtorEq,ZHC,reduceIte,ZHz,ZHE,ZHA,u.x,u.bd,Ck.cells,e1,e3,ZmW];refine rg ?_;refine cV (ZT u.x (Zp name dl).isSome 8) ?_ ?_;rintro d S h;obtain⟨i,rfl,rfl⟩:=YA h;refine gR0 ?_;exact hF.fin (.tup []) S rfl trivial (ZHx _) ZHw (Zbb i);rintro d S h;obtain⟨i,t,rfl⟩:=Yz h;exact hF.pan S ZHw (Wa i t)
def QY{x bd bs}{k:Ck}{st}(hx:st x=sO (.cells (k.cells bd bs))){n:Nat}(hn:k.field=n)(hl:n<=I k.m.fields):ZL ZHv 252 [.ptr x 0] st (Zr (k.m.fields.take n)) st:=by
 refine ZE (cR 252 f252) λab F t=>?_;clear ab;refine rg ?_;refine rx (nd2 @hx (nd2 @Ck.cells.eq_1 (nd2 @Zr.eq_1 (nd2 @eQ1 @hn)))) ?_;refine⟨ω,ω,ω,?_⟩;rw[ite_self];have u:ZU Fld.cells (λi=>(k.m.fields.getD i dE).cells) (k.m.fields.take n):=ZU.self.take n;exact t rfl φ (K5 (u.le (by rw[ZHQ];omega))) ZHw
def Ys:Int->Int->List Int->Bool
 |_,_,[]=>true
 |low,high,n::r=>dC (low<=n)&&dC (n<=high)&&Ys n high r
def Zfr{x bd bs}{k:Ck}{st}(hx:st x=sO (.cells (k.cells bd bs)))(low high l):Za ZHv 272 [.ptr x 0,.i low,.i high,slD 1 inC l] st (Wu (Ys low high l) st):=by
 refine Zbe (cR 272 f272) λab F hF=>?_;have hw:=(WE (ab (slD 1 inC l) ψ)).1;unfold big at hw;clear ab;refine rx @eQ1 ?_;refine Zd (fr (I l) (λi Q=>∀lo,Ys low high l=Ys lo high (l.drop i)->i<=I l->Q [(0,.d (.ptr x 0)),(1,.d (.i lo)),(2,.d (.i high)),(10,.d (slD 1 inC l)),(11,.d (.i (I l))),(12,.d (.i i))] [] st) (λn t=>?_) λad=>?_);intro i hn lo hS hi;refine rg ?_;refine Zc (Zn rfl trivial (λh1=>?_) (λh1=>?_));simp at h1;rw[Wp h1,Ys]at hS;generalize hv:l.getD i dE=v at *;refine xA (nd2 @eQ1 (nd2 @inC.eq_1 @hv)) ?_;refine rg ?_;refine cV (ZT hx (dC (lo<=v)&&dC (v<=high)) 7) ?_ ?_;rintro d S h;obtain⟨u,rfl,rfl⟩:=YA h;rw[u,ZHX]at hS;refine gR0 ?_;refine rg ?_;refine gA ?_;refine Ze ?_;exact t ((I l)-(i+1)) ω (i+1) rfl v hS ω;rintro d S h;obtain⟨u,ac,rfl⟩:=Yz h;rw[u,ZH8]at hS;exact hF.pan S ZHw (Wa hS ac);simp at h1;obtain rfl:i=I l:=ω;rw[List.drop_length,Ys]at hS;refine ZS rfl ?_;exact hF.fin (.tup []) st rfl trivial (ZHx _) ZHw (Zbb hS);exact ad _ 0 rfl low rfl ω
def Zdl(f:Fld):Bool:=dC (1<=f.bits)&&dC (f.bits<=32)&&(!f.little ||(dC (8<f.bits)&&dC (f.bits.tmod 8=0)))
def Zhq{x bd bs}{k:Ck}{st}(hx:st x=sO (.cells (k.cells bd bs)))(f):Za ZHv 271 [.ptr x 0,.agg f.cells] st (Wu (Zdl f) st):=by
 refine Zb (cR 271 f271) λF u=>?_;refine rx @eQ0 ?_;refine rx @eQ0 ?_;have ht1:=Int.tmod_lt_of_pos f.bits (by decide:(0:Int)<8);have ht2:=Int.lt_tmod_of_pos f.bits (by decide:(0:Int)<8);refine⟨λ_=>⟨by decide,ω,ω⟩,?_⟩;refine cV (ZT hx (Zdl f) 6) ?_ ?_;rintro d S h;obtain⟨i,rfl,rfl⟩:=YA h;refine gR0 ?_;exact u.fin (.tup []) S rfl trivial (ZHx _) ZHw (Zbb i);rintro d S h;obtain⟨i,t,rfl⟩:=Yz h;exact u.pan S ZHw (Wa i t)
abbrev QD(fs:List Fld):Zy0:=JN fs (I fs)
abbrev ivP(fs:List Fld)(s:ZbA):Int×Int×Int:=JV s λk=>Zp k (QD fs)
def Zcv(fs:List Fld)(t:Yw):Bool:=(Zp t.field (QD fs)).isSome
def Zfu(fs:List Fld)(s:ZbA):Bool:=Z6 s&&(s.terms.all (Zcv fs)&&(dC ((ivP fs s).2.2=0)&&dC (0<=(ivP fs s).1)&&dC ((ivP fs s).2.1<=1048576)))
def ZcJ{x bd bs}{k:Ck}{st}(hx:st x=sO (.cells (k.cells bd bs))){n:Nat}(hn:k.field=n)(hl:n<=I k.m.fields)(f:Fld):
  Za ZHv 278 [.ptr x 0,.agg f.cells] st (Wu (Zfu (k.m.fields.take n) f.size) st):=by
 refine Zb (cR 278 f278) λF hF=>?_;have hS:=Zfu.eq_1 (k.m.fields.take n) f.size;generalize ao:k.m.fields.take n=fs at *;refine rx @eQ0 ?_;refine rx @eQ0 ?_;have ah:D.agg [D.int IntKind.i64 f.size.base,Yj f.size.terms]=.agg f.size.cells:=rfl;simp only[ah];refine clD (Zbx f.size) ?_;refine cVD (ZT hx (Z6 f.size) 9) ?_ ?_
 .rintro d S h;obtain⟨hv,rfl,rfl⟩:=YA h;rw[hv,ZHX]at hS;first|refine⟨by first|trivial|exact⟨rfl,rfl,trivial⟩|exact⟨rfl,trivial⟩,?_⟩|skip
  refine gR0 ?_;refine rg ?_;refine tX @ao (QY hx hn hl) ?_;refine cV (Zfq fs S) ?_ ?_
  .rintro d S' ⟨b,hb,hd,rfl⟩;cases hd;refine gR0 ?_;refine Zc (Zc ?_);refine xP 2 λz2 h2=>?_;refine xP 4 λz4 h4=>?_;have k2:=Zo h2;have k4:=Zo h4;have ai:=Zo k4.2;have ar:x≠b:=λe=>by rw[e,hb]at hx;simp at hx
   have ap:x≠z2:=λe=>by rw[e,k2.2]at hx;simp at hx
   have aq:x≠z4:=λe=>by rw[e,ai.2]at hx;simp at hx
   obtain⟨A,hA⟩:∃A,A=((S.upd b (.map (Zbm (JN fs (I fs))))).upd z2 (.cells [.ptr x 0])).upd z4 (.cells [.map b]):=⟨_,rfl⟩;have gx:A x=sO (.cells (k.cells bd bs)):=by rw[hA,ZHD _ _ aq,ZHD _ _ ap,ZHD _ _ ar];exact hx
   have gb:A b=sO (.map (Zbm (QD fs))):=by rw[hA,ZHD _ _ ai.1.symm,ZHD _ _ k2.1.symm];exact ZHB _ _ _
   have g2:A z2=sO (.cells [.ptr x 0]):=by rw[hA,ZHD _ _ k4.1.symm];exact ZHB _ _ _
   have g4:A z4=sO (.cells [.map b]):=by rw[hA];exact ZHB _ _ _
   have ae:S.sub A:=by rw[hA];exact ZIe (ZHV _ hb) (ZIe (ZHV _ h2) (ZHV _ h4))
   rw[<-hA];clear hA h2 h4 k2 k4 ai;refine rx @eQ0 ?_;simp only[ah];have hfew:=Zae hv;refine cV (Zd5 f.size hv) ?_ ?_
   .rintro d S' ⟨y,hy,hd,rfl⟩;cases hd;refine gR0 ?_;refine Zd ?_;refine KM hF rfl trivial [2,4] (by show([2,4]:List Nat).Nodup;decide) (W6 hy) (ZcK f.size.terms (by unfold big;omega) y).Y (λj hj=>rfl)
     (λj=>if Zcv fs (f.size.terms.getD j dE) then .next else .pan (Zh5 k.at_ k.field 8)) (λj a=>a=A) rfl ?_ ?_ ?_ ?_ ?_ ?_
    .intro j a hj ac hB F' ready aj hdr al ad;subst hB;simp only[Eqs,reduceCtorEq,ZHC,reduceIte,ZHz,ZHE,ZHA,WL,Kd,Ji,Km,List.isEmpty_nil,List.isEmpty_cons];refine rg ?_;refine al λam=>?_;generalize htm:f.size.terms.getD j dE=tm at *;have e1:=YD (vD:=Ql) ZN tm.field (QD fs);have e3:=YX ZN tm.field;simp only[show Kz tm.field=D.str tm.field from rfl]at e1 e3;refine rh ?_;refine Zm ?_;simp only[Eqs,reduceCtorEq,ZHC,reduceIte,ZHz,ZHE,ZHA,Zt g4,Zt gb,e1,e3,Zof];refine rh ?_;refine Zm ?_;simp only[Eqs,reduceCtorEq,ZHC,reduceIte,ZHz,ZHE,ZHA,Zt g2];refine cV (Zf8 (st:=a.or aj) (Zt gx) (Zp tm.field (QD fs)).isSome 8) ?_ ?_
     .rintro d S' ⟨rfl,h⟩;cases hk:(Zp tm.field (QD fs)).isSome with
      |false=>rw[hk]at h;simp at h
      |true =>rw[hk]at h;simp at h;subst h;refine gR0 ?_;refine Zs ?_;exact ad.fin ⟨by rw[if_pos (show Zcv fs tm=true from hk)],rfl⟩ am ZHw
     rintro d S' ⟨rfl,h⟩;cases hk:(Zp tm.field (QD fs)).isSome with
     |true=>rw[hk]at h;simp at h
     |false =>rw[hk]at h;simp at h;subst h;exact ad.pan ⟨by rw[if_neg (by rw[show Zcv fs tm=false from hk];simp)],rfl⟩ am ZHw
    intro q a ac hB hq;subst hB;have ab:f.size.terms.all (Zcv fs)=true:=by apply List.all_eq_true.2;intro t ht;obtain⟨i,hi,rfl⟩:=ZHR ht;have:=ac i hi;split at this;rename_i h;simpa[ZHL,hi]using h;simp at this
    rw[ab,ZHX]at hS;rw[Qn hq];refine rh ?_;refine Zm ?_;simp only[Eqs,reduceCtorEq,ZHC,reduceIte,ZHz,ZHE,ZHA,Zt g4,Fld.cells];simp only[ah];refine cV (Zm9 f.size b (QD fs) (Zt gb)) ?_ ?_;rintro d S' ⟨hd,rfl⟩;cases hd;refine gQ @Ql.eq_1 ?_;refine rh ?_;refine Zm ?_;simp only[Eqs,reduceCtorEq,ZHC,reduceIte,ZHz,ZHE,ZHA,Zt g2];refine cV (ZT (st:=a.or (ZH1 q .dfr)) (Zt gx) (dC ((ivP fs f.size).2.2=0)&&dC (0<=(ivP fs f.size).1)&&dC ((ivP fs f.size).2.1<=1048576)) 9) ?_ ?_;rintro d S' h;obtain⟨ag,rfl,rfl⟩:=YA h;rw[ag]at hS;refine gR0 ?_;exact hF.fin1 hq (.tup []) S rfl trivial (ZHx _) ae (Zbb hS);rintro d S' h;obtain⟨ag,af,rfl⟩:=Yz h;rw[ag]at hS;exact hF.pan1 hq S ae (Wa hS af);rintro d S' ⟨hd,_⟩;cases hd;intro q a m hm ac u;split at u<;>simp at u;intro q a m id hm ac u;split at u<;>simp at u;intro q a m d hm ac u hB hq;subst hB;rw[Qn hq];have ak:Zcv fs (f.size.terms.getD m dE)=false:=by split at u;simp at u;rename_i h;simpa using h
    have ab:f.size.terms.all (Zcv fs)=false:=by apply List.all_eq_false.2;exact⟨_,ZD hm,by rw[ak];simp⟩
    rw[ab,ZH8]at hS;split at u;simp at u;simp at u;subst u;exact hF.pan1 hq S ae (Wa hS Zs1);intro m c u;split at u<;>simp at u
   rintro d S' ⟨y,hy,hd,_⟩;cases hd
  rintro d S' ⟨b,hb,hd,_⟩;cases hd
 rintro d S h;obtain⟨hv,af,rfl⟩:=Yz h;rw[hv,ZH8]at hS;exact hF.pan S ZHw (Wa hS af)
def Zch(dl:List (Str×Int))(high:Int):Int->List Y6->Bool
 |_,[]=>true
 |low,c::r=>Ys low high [c.low,c.high]&&((Zp c.of dl).isSome&&Zch dl high (c.high+1) r)
def ZfB(fs:List Fld)(f:Fld):Bool:=fs.any λo=>dC (o.kind=9)&&dC (o.tag=f.tag)
def Zjd(fs:List Fld)(dl:List (Str×Int))(f:Fld):Bool :=
 ((Zp f.tag (QD fs)).isSome&&!ZfB fs f)&&((dC (1<=(I f.cases:Int))&&dC ((I f.cases:Int)<=40))&&Zch dl ((Zp f.tag (QD fs)).getD (0,0)).2 ((Zp f.tag (QD fs)).getD (0,0)).1 f.cases)
def ZlE{o:Fld}(f:Fld)(y st)(u:st y=sO (.cells f.cells)):ZL ZHv 307 [.agg o.cells,.ptr y 0] st (.bool (dC (o.kind=9)&&dC (o.tag=f.tag))) st:=by
 refine ZE (cR 307 f307) λt F i=>?_;clear t;refine rx @eQ0 ?_;refine rx (nd2 @u @eQ0) ?_;exact i rfl φ (ZHx _) ZHw
def ZyQ(a b):ZU inC (ZR [.i 0] ([0,1].zip [.i a,.i b])) [a,b]:=λi t=>by
 match i,t with
 |0,_=>rfl
 |1,_=>rfl
def Zde{x bd bs}{k:Ck}{st}(i:st x=sO (.cells (k.cells bd bs)))(low high a b):Za ZHv 272 [.ptr x 0,.i low,.i high,.sl .full 2 1 (ZR [.i 0] ([0,1].zip [.i a,.i b]))] st (Wu (Ys low high [a,b]) st) :=
 Za.leA (.cons (ZHx _) (.cons (ZHx _) (.cons (ZHx _) (LeC.one ((ZyQ a b).le rfl))))) (Zfr i low high [a,b])
def QK{x bd bs}{k:Ck}{st}(i:st x=sO (.cells (k.cells bd bs)))(low high a):Za ZHv 272 [.ptr x 0,.i low,.i high,.sl .full 1 1 (ZR [.i 0] ([0].zip [.i a]))] st (Wu (Ys low high [a]) st) :=
 Za.leA (.cons (ZHx _) (.cons (ZHx _) (.cons (ZHx _) (LeC.one ((ZU.one (f:=inC) (x:=a) rfl).le rfl))))) (Zfr i low high [a])
def ZoD{x bd bs k dl sl st}(hst:Qd st x bd bs k dl sl){n:Nat}(hn:k.field=n)(hl:n<=I k.m.fields)(f)(hR:((Zp f.tag (QD (k.m.fields.take n))).getD (0,0)).2<4611686018427387904):
  Za ZHv 289 [.ptr x 0,.agg f.cells] st (Wu (Zjd (k.m.fields.take n) dl f) st):=by
 refine Zbe (cR 289 f289) λah F hF=>?_;have ai:=(ZCx (s:=f) (ah _ ψ)).cases;clear ah;have hx:=hst.x;have hS:=Zjd.eq_1 (k.m.fields.take n) dl f;generalize ag:k.m.fields.take n=fs at *;have e1:=YD (vD:=Ql) ZN f.tag (QD fs);have e3:=YX ZN f.tag;simp only[show Kz f.tag=D.str f.tag from rfl]at e1 e3;refine rx @eQ0 ?_;refine rx @eQ0 ?_;refine tXD @ag (QY hx hn hl) ?_;refine cVD (Zfq fs st) ?_ ?_;rintro d S ⟨b,hb,hd,rfl⟩;cases hd;first|refine⟨by first|trivial|exact⟨rfl,rfl,trivial⟩|exact⟨rfl,trivial⟩,?_⟩|skip
 have hxb:x≠b:=λe=>by rw[e,hb]at hx;simp at hx
 generalize hr:(Zp f.tag (QD fs)).getD (0,0)=r at *;refine Yt ?_;simp only[Eqs,reduceCtorEq,ZHC,reduceIte,ZHz,ZHE,ZHA,e1,e3,Zof,hr,ZHB,ZHO,Yp,Yq];refine Zc ?_;refine xP 3 λy hy=>?_;obtain⟨A,hA⟩:∃A,A=((st.upd b (.map (Zbm (JN fs (I fs))))).upd y (.cells f.cells)):=⟨_,rfl⟩;have ac:st.sub A:=by rw[hA];exact ZIe (ZHV _ hb) (ZHV _ hy)
 have gy:A y=sO (.cells f.cells):=by rw[hA];exact ZHB _ _ _
 have ae:=hst.mono ac;have aj:[D.str f.name,D.int IntKind.i64 f.kind,D.int IntKind.i64 f.bits,D.bool f.little,D.bool f.loose,D.int IntKind.i64 f.low,D.int IntKind.i64 f.high,D.int IntKind.i64 f.size.base,Yj f.size.terms,D.str f.of,D.str f.tag,D.str f.from_,WP f.cases,D.int IntKind.i64 f.check,D.int IntKind.i64 f.key]=f.cells:=rfl;rw[aj,<-hA];clear hA hy;refine rg ?_;refine tX @ag (QY ae.x hn hl) ?_;refine ct (Zdf fs (.fn (.func 307) [] [.ptr y 0]) (λo=>dC (o.kind=9)&&dC (o.tag=f.tag)) (λ_=>A) (λi hi=>(ZlE f y A gy).VT (first:=[]) (args:=[_]) (caps:=[_]))) ?_;rw[show(fs.any λo=>dC (o.kind=9)&&dC (o.tag=f.tag))=ZfB fs f from rfl];refine rg ?_;refine cV (ZT ae.x ((Zp f.tag (QD fs)).isSome&&!ZfB fs f) 8) ?_ ?_;rintro d S h;obtain⟨t,rfl,rfl⟩:=YA h;rw[t,ZHX]at hS;refine gR0 ?_;refine rx (nd2 @gy (nd2 @eQ0 (nd2 @WP.eq_1 @eQ1))) ?_;refine cV (ZT ae.x (dC (1<=(I f.cases:Int))&&dC ((I f.cases:Int)<=40)) 3) ?_ ?_;rintro d S2 h;obtain⟨t,rfl,rfl⟩:=YA h;rw[t,ZHX]at hS;simp only[ZHG,decide_eq_true_eq]at t;refine gR0 ?_;refine rg ?_;refine rx (nd2 @gy (nd2 @eQ0 (nd2 @WP.eq_1 @eQ1))) ?_;refine Zd (fr (I f.cases) (λi Q=>∀lo,Zch dl r.2 r.1 f.cases=Zch dl r.2 lo (f.cases.drop i)->i<=I f.cases->Q [(0,.d (.ptr x 0)),(4,.loc 4 0),(7,.d (.i lo)),(45,.d (WP f.cases)),(46,.d (.i (I f.cases))),(47,.d (.i i))] [(4,[.i r.1,.i r.2])] S2) (λn af=>?_) λak=>?_);intro i hni lo hL hi;refine rg ?_;refine Zc (Zn rfl trivial (λh1=>?_) (λh1=>?_));simp at h1;rw[Wp h1,Zch]at hL;have hcb:-9223372036854775808<=(f.cases.getD i dE).high/\(f.cases.getD i dE).high<=9223372036854775807:=(ai _ (ZD h1)).high;generalize hc:f.cases.getD i dE=c at *;refine xA (nd2 @WP.eq_1 (nd2 @eQ1 (nd2 @Y6.cells.eq_1 @hc))) ?_;refine rx @Y6.cells.eq_1 ?_;refine cV (Zde ae.x lo r.2 c.low c.high) ?_ ?_;rintro d S3 h;obtain⟨ab,rfl,rfl⟩:=YA h;rw[ab,ZHX]at hL;simp only[Ys,Bool.and_true,ZHG,decide_eq_true_eq]at ab;refine gR0 ?_;refine rx @Y6.cells.eq_1 ?_;refine cV (ZcI ae c.of) ?_ ?_;rintro d S4 h;obtain⟨ad,rfl,rfl⟩:=YA h;rw[ad,ZHX]at hL;refine gR0 ?_;refine xA @Y6.cells.eq_1 ?_;refine gA ?_;refine Ze ?_;exact af ((I f.cases)-(i+1)) ω (i+1) rfl (c.high+1) hL ω;rintro d S4 h;obtain⟨ad,u,rfl⟩:=Yz h;rw[ad,ZH8]at hL;exact hF.pan st ac (Wa (hS.trans hL) u);rintro d S3 h;obtain⟨ab,u,rfl⟩:=Yz h;rw[ab,ZH8]at hL;exact hF.pan st ac (Wa (hS.trans hL) u);simp at h1;obtain rfl:i=I f.cases:=ω;rw[List.drop_length,Zch]at hL;refine ZS rfl ?_;exact hF.fin (.tup []) st rfl trivial (ZHx _) ac (Zbb (hS.trans hL));exact ak _ 0 rfl r.1 rfl ω;rintro d S2 h;obtain⟨t,u,rfl⟩:=Yz h;rw[t,ZH8]at hS;exact hF.pan st ac (Wa hS u);rintro d S h;obtain⟨t,u,rfl⟩:=Yz h;rw[t,ZH8]at hS;exact hF.pan st ac (Wa hS u);rintro d S ⟨b,hb,hd,_⟩;cases hd
def ZsA(f:Fld):Fld:={ f with bits:=0,little:=false,low:=0,high:=0 }
def ZlG(f y s)(t:s y=sO (.cells f.cells)):ZL ZHv 269 [.ptr y 0] s (.tup []) (s.upd y (.cells (ZsA f).cells)):=by
 refine Zb (cR 269 f269) λF i=>?_;refine rx (nd2 @t (nd2 @eQ0 (nd2 @ZHB (nd2 @ZHO (nd2 @Yp @Yq))))) ?_;exact i.fin (.tup []) _ rfl trivial (ZHx _) ZHw ⟨rfl,rfl⟩
def ZsB(f:Fld):Fld:={ f with bits:=0,little:=false,low:=0 }
def ZlI(f y s)(t:s y=sO (.cells f.cells)):ZL ZHv 273 [.ptr y 0] s (.tup []) (s.upd y (.cells (ZsB f).cells)):=by
 refine Zb (cR 273 f273) λF i=>?_;refine rx (nd2 @t (nd2 @eQ0 (nd2 @ZHB (nd2 @ZHO (nd2 @Yp @Yq))))) ?_;exact i.fin (.tup []) _ rfl trivial (ZHx _) ZHw ⟨rfl,rfl⟩
def ZsC(f:Fld):Fld:={ f with loose:=false,low:=0,high:=0 }
def ZlK(f y s)(t:s y=sO (.cells f.cells)):ZL ZHv 275 [.ptr y 0] s (.tup []) (s.upd y (.cells (ZsC f).cells)):=by
 refine Zb (cR 275 f275) λF i=>?_;refine rx (nd2 @t (nd2 @eQ0 (nd2 @ZHB (nd2 @ZHO (nd2 @Yp @Yq))))) ?_;exact i.fin (.tup []) _ rfl trivial (ZHx _) ZHw ⟨rfl,rfl⟩
def ZnD(f:Fld):Fld:={ f with size:=⟨0,[]⟩ }
def ZlM(f y s)(t:s y=sO (.cells f.cells)):ZL ZHv 277 [.ptr y 0] s (.tup []) (s.upd y (.cells (ZnD f).cells)):=by
 refine Zb (cR 277 f277) λF i=>?_;refine rx (nd2 @t (nd2 @eQ0 (nd2 @ZHB (nd2 @ZHO (nd2 @Yp @Yq))))) ?_;refine KL (ds':=(ZnD f).cells) (ZHB _ _ _) (.cons (ZHx _) (.cons (ZHx _) (.cons (ZHx _) (.cons (ZHx _) (.cons (ZHx _) (.cons (ZHx _) (.cons (ZHx _) (.cons (ZHx _) (.cons (YL ψ) (.cons (ZHx _) (.cons (ZHx _) (.cons (ZHx _) (.cons (ZHx _) (.cons (ZHx _) (.cons (ZHx _) (.nil)))))))))))))))) ?_;rw[ZHO];exact i.fin (.tup []) _ rfl trivial (ZHx _) ZHw ⟨rfl,rfl⟩
def ZsD(f:Fld):Fld:={ f with low:=0,high:=0 }
def ZlN(f y s)(t:s y=sO (.cells f.cells)):ZL ZHv 279 [.ptr y 0] s (.tup []) (s.upd y (.cells (ZsD f).cells)):=by
 refine Zb (cR 279 f279) λF i=>?_;refine rx (nd2 @t (nd2 @eQ0 (nd2 @ZHB (nd2 @ZHO (nd2 @Yp @Yq))))) ?_;exact i.fin (.tup []) _ rfl trivial (ZHx _) ZHw ⟨rfl,rfl⟩
def ZsE(f:Fld):Fld:={ f with loose:=false,high:=0 }
def Zkg(f y s)(t:s y=sO (.cells f.cells)):ZL ZHv 281 [.ptr y 0] s (.tup []) (s.upd y (.cells (ZsE f).cells)):=by
 refine Zb (cR 281 f281) λF i=>?_;refine rx (nd2 @t (nd2 @eQ0 (nd2 @ZHB (nd2 @ZHO (nd2 @Yp @Yq))))) ?_;exact i.fin (.tup []) _ rfl trivial (ZHx _) ZHw ⟨rfl,rfl⟩
def ZnE(f:Fld):Fld:={ f with of:=[],size:=⟨0,[]⟩ }
def Zki(f y s)(t:s y=sO (.cells f.cells)):ZL ZHv 283 [.ptr y 0] s (.tup []) (s.upd y (.cells (ZnE f).cells)):=by
 refine Zb (cR 283 f283) λF i=>?_;refine rx (nd2 @t (nd2 @eQ0 (nd2 @ZHB (nd2 @ZHO (nd2 @Yp @Yq))))) ?_;refine KL (ds':=(ZnE f).cells) (ZHB _ _ _) (.cons (ZHx _) (.cons (ZHx _) (.cons (ZHx _) (.cons (ZHx _) (.cons (ZHx _) (.cons (ZHx _) (.cons (ZHx _) (.cons (ZHx _) (.cons (YL ψ) (.cons (ZHx _) (.cons (ZHx _) (.cons (ZHx _) (.cons (ZHx _) (.cons (ZHx _) (.cons (ZHx _) (.nil)))))))))))))))) ?_;rw[ZHO];exact i.fin (.tup []) _ rfl trivial (ZHx _) ZHw ⟨rfl,rfl⟩
def ZsF(f:Fld):Fld:={ f with of:=[] }
def Zkk(f y s)(t:s y=sO (.cells f.cells)):ZL ZHv 286 [.ptr y 0] s (.tup []) (s.upd y (.cells (ZsF f).cells)):=by
 refine Zb (cR 286 f286) λF i=>?_;refine rx (nd2 @t (nd2 @eQ0 (nd2 @ZHB (nd2 @ZHO (nd2 @Yp @Yq))))) ?_;exact i.fin (.tup []) _ rfl trivial (ZHx _) ZHw ⟨rfl,rfl⟩
def ZnF(f:Fld):Fld:={ f with tag:=[],cases:=[] }
def Zkm(f y s)(t:s y=sO (.cells f.cells)):ZL ZHv 288 [.ptr y 0] s (.tup []) (s.upd y (.cells (ZnF f).cells)):=by
 refine Zb (cR 288 f288) λF i=>?_;refine rx (nd2 @t (nd2 @eQ0 (nd2 @ZHB (nd2 @ZHO (nd2 @Yp @Yq))))) ?_;refine KL (ds':=(ZnF f).cells) (ZHB _ _ _) (.cons (ZHx _) (.cons (ZHx _) (.cons (ZHx _) (.cons (ZHx _) (.cons (ZHx _) (.cons (ZHx _) (.cons (ZHx _) (.cons (ZHx _) (.cons (ZHx _) (.cons (ZHx _) (.cons (ZHx _) (.cons (ZHx _) (.cons (YL ψ) (.cons (ZHx _) (.cons (ZHx _) (.nil)))))))))))))))) ?_;rw[ZHO];exact i.fin (.tup []) _ rfl trivial (ZHx _) ZHw ⟨rfl,rfl⟩
def Zpo(f:Fld):Fld:={ f with bits:=0 }
def Zkn(f y s)(t:s y=sO (.cells f.cells)):ZL ZHv 290 [.ptr y 0] s (.tup []) (s.upd y (.cells (Zpo f).cells)):=by
 refine Zb (cR 290 f290) λF i=>?_;refine rx (nd2 @t (nd2 @eQ0 (nd2 @ZHB (nd2 @ZHO (nd2 @Yp @Yq))))) ?_;exact i.fin (.tup []) _ rfl trivial (ZHx _) ZHw ⟨rfl,rfl⟩
def Zpp(f:Fld):Fld:={ f with from_:=[],check:=0 }
def Zkp(f y s)(t:s y=sO (.cells f.cells)):ZL ZHv 292 [.ptr y 0] s (.tup []) (s.upd y (.cells (Zpp f).cells)):=by
 refine Zb (cR 292 f292) λF i=>?_;refine rx (nd2 @t (nd2 @eQ0 (nd2 @ZHB (nd2 @ZHO (nd2 @Yp @Yq))))) ?_;exact i.fin (.tup []) _ rfl trivial (ZHx _) ZHw ⟨rfl,rfl⟩
def Zk1(f:Fld):Fld:={ f with of:=[],size:=⟨0,[]⟩,key:=0 }
def Zkr(f y s)(t:s y=sO (.cells f.cells)):ZL ZHv 294 [.ptr y 0] s (.tup []) (s.upd y (.cells (Zk1 f).cells)):=by
 refine Zb (cR 294 f294) λF i=>?_;refine rx (nd2 @t (nd2 @eQ0 (nd2 @ZHB (nd2 @ZHO (nd2 @Yp @Yq))))) ?_;refine KL (ds':=(Zk1 f).cells) (ZHB _ _ _) (.cons (ZHx _) (.cons (ZHx _) (.cons (ZHx _) (.cons (ZHx _) (.cons (ZHx _) (.cons (ZHx _) (.cons (ZHx _) (.cons (ZHx _) (.cons (YL ψ) (.cons (ZHx _) (.cons (ZHx _) (.cons (ZHx _) (.cons (ZHx _) (.cons (ZHx _) (.cons (ZHx _) (.nil)))))))))))))))) ?_;rw[ZHO];exact i.fin (.tup []) _ rfl trivial (ZHx _) ZHw ⟨rfl,rfl⟩
def ck1(f:Fld):Bool:=Zdl f&&Ys 0 (2 ^ f.bits.toNat-1) [f.low,f.high]
def ck2(f:Fld):Bool:=Zdl f&&Ys 0 (2 ^ f.bits.toNat-1) [f.low]
def ck3(f:Fld):Bool:=Ys 0 34359738367 [f.low,f.high]
def ck5(f:Fld):Bool:=Ys 0 255 [f.low]&&Ys 0 1048576 [f.high]
def ck6(f:Fld):Bool:=Ys 2 1048576 [f.high]
def ck7(fs:List Fld)(dl:List (Str×Int))(f:Fld):Bool:=(Zp f.of dl).isSome&&Zfu fs f.size
def ck8(dl:List (Str×Int))(f:Fld):Bool:=(Zp f.of dl).isSome
def ZvU(f:Fld):Bool:=dC (f.bits=2) ||decide (f.bits=4) ||(dC (8<=f.bits)&&dC (f.bits<=512)&&dC (f.bits.tmod 8=0))
def ZvV(fs:List Fld)(f:Fld):Bool:=Ys 1 3 [f.check]&&dC (0<=Zj (λx=>dC (x.name=f.from_)) fs)
def ZvW(fs:List Fld)(sl:List (Str×Bool))(f:Fld):Bool:=Ys 0 4294967295 [f.key]&&((Zp f.of sl).getD false&&Zfu fs f.size)
def ZdF(f:Fld):D.agg [D.str f.name,D.int IntKind.i64 f.kind,D.int IntKind.i64 f.bits,D.bool f.little,D.bool f.loose,D.int IntKind.i64 f.low,D.int IntKind.i64 f.high,D.int IntKind.i64 f.size.base,Yj f.size.terms,D.str f.of,D.str f.tag,D.str f.from_,WP f.cases,D.int IntKind.i64 f.check,D.int IntKind.i64 f.key]=.agg f.cells:=rfl
def ZlH{x bd bs k dl sl st}(hst:Qd st x bd bs k dl sl){n:Nat}(hn:k.field=n)(hl:n<=I k.m.fields)(f):
  Za ZHv 270 [.ptr x 0,.agg f.cells] st (Wu (ck1 f) st):=by
 refine Zb (cR 270 f270) λF hF=>?_;have hS:=ck1.eq_1 f;refine rx @eQ0 ?_;refine rx @eQ0 ?_;simp only[ZdF];refine cV (Zhq hst.x f) ?_ ?_;rintro d S h;obtain⟨i,rfl,rfl⟩:=YA h;rw[i,ZHX]at hS;first|refine⟨by first|trivial|exact⟨rfl,trivial⟩,?_⟩|skip
 refine gR0 ?_;have hb1:1<=f.bits/\f.bits<=32:=by unfold Zdl at i;simp only[ZHG,decide_eq_true_eq]at i;exact i.1
 have u:=ZC4 (b:=f.bits) ω ω;have h2p:=Zgj (b:=f.bits) ω ω;refine rx @eQ0 ?_;rw[u];generalize hpw:(2:Int) ^ f.bits.toNat=pw at *;refine⟨ω,ω,ω,ω,ω,?_⟩;refine cV0 (Zde hst.x 0 (pw-1) f.low f.high) ?_ ?_;rintro d S h;obtain⟨i,rfl,rfl⟩:=YA h;rw[i]at hS;refine gR0 ?_;exact hF.fin (.tup []) _ rfl trivial (ZHx _) ZHw (Zbb hS);rintro d S h;obtain⟨i,t,rfl⟩:=Yz h;rw[i]at hS;exact hF.pan _ ZHw (Wa hS t);rintro d S h;obtain⟨i,t,rfl⟩:=Yz h;rw[i,ZH8]at hS;exact hF.pan _ ZHw (Wa hS t)
def ZlJ{x bd bs k dl sl st}(hst:Qd st x bd bs k dl sl){n:Nat}(hn:k.field=n)(hl:n<=I k.m.fields)(f):
  Za ZHv 274 [.ptr x 0,.agg f.cells] st (Wu (ck2 f) st):=by
 refine Zb (cR 274 f274) λF hF=>?_;have hS:=ck2.eq_1 f;refine rx @eQ0 ?_;refine rx @eQ0 ?_;simp only[ZdF];refine cV (Zhq hst.x f) ?_ ?_;rintro d S h;obtain⟨i,rfl,rfl⟩:=YA h;rw[i,ZHX]at hS;first|refine⟨by first|trivial|exact⟨rfl,trivial⟩,?_⟩|skip
 refine gR0 ?_;have hb1:1<=f.bits/\f.bits<=32:=by unfold Zdl at i;simp only[ZHG,decide_eq_true_eq]at i;exact i.1
 have u:=ZC4 (b:=f.bits) ω ω;have h2p:=Zgj (b:=f.bits) ω ω;refine rx @eQ0 ?_;rw[u];generalize hpw:(2:Int) ^ f.bits.toNat=pw at *;refine⟨ω,ω,ω,ω,ω,?_⟩;refine cV0 (QK hst.x 0 (pw-1) f.low) ?_ ?_;rintro d S h;obtain⟨i,rfl,rfl⟩:=YA h;rw[i]at hS;refine gR0 ?_;exact hF.fin (.tup []) _ rfl trivial (ZHx _) ZHw (Zbb hS);rintro d S h;obtain⟨i,t,rfl⟩:=Yz h;rw[i]at hS;exact hF.pan _ ZHw (Wa hS t);rintro d S h;obtain⟨i,t,rfl⟩:=Yz h;rw[i,ZH8]at hS;exact hF.pan _ ZHw (Wa hS t)
def ZlL{x bd bs k dl sl st}(hst:Qd st x bd bs k dl sl){n:Nat}(hn:k.field=n)(hl:n<=I k.m.fields)(f):
  Za ZHv 276 [.ptr x 0,.agg f.cells] st (Wu (ck3 f) st):=by
 refine Zb (cR 276 f276) λF hF=>?_;have u:=ck3.eq_1 f;refine rx @eQ0 ?_;refine rx @eQ0 ?_;refine cV (Zde hst.x 0 34359738367 f.low f.high) ?_ ?_;rintro d S h;obtain⟨i,rfl,rfl⟩:=YA h;rw[i]at u;refine gR0 ?_;exact hF.fin (.tup []) _ rfl trivial (ZHx _) ZHw (Zbb u);rintro d S h;obtain⟨i,t,rfl⟩:=Yz h;rw[i]at u;exact hF.pan _ ZHw (Wa u t)
def ZlO{x bd bs k dl sl st}(hst:Qd st x bd bs k dl sl){n:Nat}(hn:k.field=n)(hl:n<=I k.m.fields)(f):
  Za ZHv 280 [.ptr x 0,.agg f.cells] st (Wu (ck5 f) st):=by
 refine Zb (cR 280 f280) λF hF=>?_;have u:=ck5.eq_1 f;refine rx @eQ0 ?_;refine rx @eQ0 ?_;refine cV (QK hst.x 0 255 f.low) ?_ ?_;rintro d S h;obtain⟨i,rfl,rfl⟩:=YA h;rw[i,ZHX]at u;first|refine⟨by first|trivial|exact⟨rfl,trivial⟩,?_⟩|skip
 refine gR0 ?_;refine rx @eQ0 ?_;refine cV (QK hst.x 0 1048576 f.high) ?_ ?_;rintro d S h;obtain⟨i,rfl,rfl⟩:=YA h;rw[i]at u;refine gR0 ?_;exact hF.fin (.tup []) _ rfl trivial (ZHx _) ZHw (Zbb u);rintro d S h;obtain⟨i,t,rfl⟩:=Yz h;rw[i]at u;exact hF.pan _ ZHw (Wa u t);rintro d S h;obtain⟨i,t,rfl⟩:=Yz h;rw[i,ZH8]at u;exact hF.pan _ ZHw (Wa u t)
def Zkh{x bd bs k dl sl st}(hst:Qd st x bd bs k dl sl){n:Nat}(hn:k.field=n)(hl:n<=I k.m.fields)(f):
  Za ZHv 282 [.ptr x 0,.agg f.cells] st (Wu (ck6 f) st):=by
 refine Zb (cR 282 f282) λF hF=>?_;have u:=ck6.eq_1 f;refine rx @eQ0 ?_;refine rx @eQ0 ?_;refine cV (QK hst.x 2 1048576 f.high) ?_ ?_;rintro d S h;obtain⟨i,rfl,rfl⟩:=YA h;rw[i]at u;refine gR0 ?_;exact hF.fin (.tup []) _ rfl trivial (ZHx _) ZHw (Zbb u);rintro d S h;obtain⟨i,t,rfl⟩:=Yz h;rw[i]at u;exact hF.pan _ ZHw (Wa u t)
def Zkj{x bd bs k dl sl st}(hst:Qd st x bd bs k dl sl){n:Nat}(hn:k.field=n)(hl:n<=I k.m.fields)(f):
  Za ZHv 284 [.ptr x 0,.agg f.cells] st (Wu (ck7 (k.m.fields.take n) dl f) st):=by
 refine Zb (cR 284 f284) λF hF=>?_;have u:=ck7.eq_1 (k.m.fields.take n) dl f;refine rx @eQ0 ?_;refine rx @eQ0 ?_;refine cV (ZcI hst f.of) ?_ ?_;rintro d S h;obtain⟨i,rfl,rfl⟩:=YA h;rw[i,ZHX]at u;first|refine⟨by first|trivial|exact⟨rfl,trivial⟩,?_⟩|skip
 refine gR0 ?_;refine rx @eQ0 ?_;simp only[ZdF];refine cV (ZcJ hst.x hn hl f) ?_ ?_;rintro d S h;obtain⟨i,rfl,rfl⟩:=YA h;rw[i]at u;refine gR0 ?_;exact hF.fin (.tup []) _ rfl trivial (ZHx _) ZHw (Zbb u);rintro d S h;obtain⟨i,t,rfl⟩:=Yz h;rw[i]at u;exact hF.pan _ ZHw (Wa u t);rintro d S h;obtain⟨i,t,rfl⟩:=Yz h;rw[i,ZH8]at u;exact hF.pan _ ZHw (Wa u t)
def Zkl{x bd bs k dl sl st}(hst:Qd st x bd bs k dl sl){n:Nat}(hn:k.field=n)(hl:n<=I k.m.fields)(f):
  Za ZHv 287 [.ptr x 0,.agg f.cells] st (Wu (ck8 dl f) st):=by
 refine Zb (cR 287 f287) λF hF=>?_;have u:=ck8.eq_1 dl f;refine rx @eQ0 ?_;refine rx @eQ0 ?_;refine cV (ZcI hst f.of) ?_ ?_;rintro d S h;obtain⟨i,rfl,rfl⟩:=YA h;rw[i]at u;refine gR0 ?_;exact hF.fin (.tup []) _ rfl trivial (ZHx _) ZHw (Zbb u);rintro d S h;obtain⟨i,t,rfl⟩:=Yz h;rw[i]at u;exact hF.pan _ ZHw (Wa u t)
def Zko{x bd bs k dl sl st}(hst:Qd st x bd bs k dl sl){n:Nat}(hn:k.field=n)(hl:n<=I k.m.fields)(f):
  Za ZHv 291 [.ptr x 0,.agg f.cells] st (Wu (ZvU f) st):=by
 refine Zb (cR 291 f291) λF hF=>?_;have u:=ZvU.eq_1 f;refine rx @eQ0 ?_;refine rx @eQ0 ?_;have ht1:=Int.tmod_lt_of_pos f.bits (by decide:(0:Int)<8);have ht2:=Int.lt_tmod_of_pos f.bits (by decide:(0:Int)<8);refine⟨λ_=>⟨by decide,ω,ω⟩,?_⟩;refine cV (ZT hst.x (dC (f.bits=2) ||decide (f.bits=4) ||decide (8<=f.bits)&&dC (f.bits<=512)&&dC (f.bits.tmod 8=0)) 6) ?_ ?_;rintro d S h;obtain⟨i,rfl,rfl⟩:=YA h;rw[i]at u;refine gR0 ?_;exact hF.fin (.tup []) _ rfl trivial (ZHx _) ZHw (Zbb u);rintro d S h;obtain⟨i,t,rfl⟩:=Yz h;rw[i]at u;exact hF.pan _ ZHw (Wa u t)
def Zkq{x bd bs k dl sl st}(hst:Qd st x bd bs k dl sl){n:Nat}(hn:k.field=n)(hl:n<=I k.m.fields)(f):
  Za ZHv 293 [.ptr x 0,.agg f.cells] st (Wu (ZvV (k.m.fields.take n) f) st):=by
 refine Zb (cR 293 f293) λF hF=>?_;have u:=ZvV.eq_1 (k.m.fields.take n) f;refine rx @eQ0 ?_;refine rx @eQ0 ?_;refine cV (QK hst.x 1 3 f.check) ?_ ?_;rintro d S h;obtain⟨i,rfl,rfl⟩:=YA h;rw[i,ZHX]at u;first|refine⟨by first|trivial|exact⟨rfl,trivial⟩,?_⟩|skip
 refine gR0 ?_;refine rx @eQ0 ?_;refine tXD (nd2 @Zr.eq_1 @eQ1) (QY hst.x hn hl) ?_;refine clD ((ZcH ⟨[],k.m.fields.take n⟩ f.from_)) ?_;refine rg ?_;refine cV (ZT hst.x (dC (0<=Zj (λx=>dC (x.name=f.from_)) (k.m.fields.take n))) 8) ?_ ?_;rintro d S h;obtain⟨i,rfl,rfl⟩:=YA h;rw[i]at u;refine gR0 ?_;exact hF.fin (.tup []) _ rfl trivial (ZHx _) ZHw (Zbb u);rintro d S h;obtain⟨i,t,rfl⟩:=Yz h;rw[i]at u;exact hF.pan _ ZHw (Wa u t);rintro d S h;obtain⟨i,t,rfl⟩:=Yz h;rw[i,ZH8]at u;exact hF.pan _ ZHw (Wa u t)
def Zks{x bd bs k dl sl st}(u:Qd st x bd bs k dl sl){n:Nat}(hn:k.field=n)(hl:n<=I k.m.fields)(f):
  Za ZHv 295 [.ptr x 0,.agg f.cells] st (Wu (ZvW (k.m.fields.take n) sl f) st):=by
 refine Zb (cR 295 f295) λF hF=>?_;have hS:=ZvW.eq_1 (k.m.fields.take n) sl f;refine rx @eQ0 ?_;refine rx @eQ0 ?_;refine cV (QK u.x 0 4294967295 f.key) ?_ ?_;rintro d S h;obtain⟨i,rfl,rfl⟩:=YA h;rw[i,ZHX]at hS;first|refine⟨by first|trivial|exact⟨rfl,trivial⟩,?_⟩|skip
 refine gR0 ?_;have e1:=YD (vD:=D.bool) ZN f.of sl;have e3:=YX ZN f.of;simp only[show Kz f.of=D.str f.of from rfl]at e1 e3;refine rh ?_;refine YK ?_;simp only[Eqs,reduceCtorEq,ZHC,reduceIte,ZHz,ZHE,ZHA,Fld.cells,u.x,u.bs,Ck.cells,e1,e3,ZmV];refine cV0 (ZT u.x ((Zp f.of sl).getD false) 8) ?_ ?_;rintro d S h;obtain⟨i,rfl,rfl⟩:=YA h;rw[i,ZHX]at hS;first|refine⟨by first|trivial|exact⟨rfl,trivial⟩,?_⟩|skip
 refine gR0 ?_;refine rx @eQ0 ?_;simp only[ZdF];refine cV (ZcJ u.x hn hl f) ?_ ?_;rintro d S h;obtain⟨i,rfl,rfl⟩:=YA h;rw[i]at hS;refine gR0 ?_;exact hF.fin (.tup []) _ rfl trivial (ZHx _) ZHw (Zbb hS);rintro d S h;obtain⟨i,t,rfl⟩:=Yz h;rw[i]at hS;exact hF.pan _ ZHw (Wa hS t);rintro d S h;obtain⟨i,t,rfl⟩:=Yz h;rw[i,ZH8]at hS;exact hF.pan _ ZHw (Wa hS t);rintro d S h;obtain⟨i,t,rfl⟩:=Yz h;rw[i,ZH8]at hS;exact hF.pan _ ZHw (Wa hS t)
def Zyd(f:Fld):List D:=[.str f.name,.str f.of,.str f.tag,.str f.from_,.i f.kind,.i f.bits,.i f.low,.i f.high,.i f.size.base,.i f.check,.i f.key,.bool f.little,.bool f.loose]
def Zf9(f):Zf ZHv 296 [.agg f.cells] (.agg (Zyd f)):=by
 refine Zi (cR 296 f296) λF st i=>?_;refine rx @eQ0 ?_;refine rx @eQ0 ?_;exact i rfl (by first|trivial|simp) (ZHx _) ZHw
def ZiU(a b:Fld):Zf ZHv 254 [.agg a.cells,.agg b.cells] (.bool (dC (a=b))):=by
 refine Zi (cR 254 f254) λF st ae=>?_;refine rx @eQ0 ?_;refine rx @eQ0 ?_;simp only[ZdF];refine clD (Zf9 a) ?_;refine cXD @Zyd.eq_1 (Zf9 b) ?_;refine cGD (ZiB a.size.terms b.size.terms) ?_;refine cGD (ZiA a.cases b.cases) ?_;refine ae rfl φ (ZeD ?_) ZHw;rw[Bool.eq_iff_iff];simp only[ZHG,decide_eq_true_eq];constructor;rintro⟨⟨⟨h1,h2,h3,h4,h5,h6,h7,h8,h9,i,t,u,ab⟩,ac⟩,ad⟩;obtain⟨n1,k1,b1,l1,o1,lo1,hi1,⟨sb1,st1⟩,of1,t1,f1,c1,ch1,ke1⟩:=a;obtain⟨n2,k2,b2,l2,o2,lo2,hi2,⟨sb2,st2⟩,of2,t2,f2,c2,ch2,ke2⟩:=b;simp only at h1 h2 h3 h4 h5 h6 h7 h8 h9 i t u ab ac ad;subst h1;subst h2;subst h3;subst h4;subst h5;subst h6;subst h7;subst h8;subst h9;subst i;subst t;subst u;subst ab;subst ac;subst ad;rfl;rintro rfl;simp
abbrev ZrK(x:Nat×Nat):D:=.agg [.fn (.func x.1) [] [],.fn (.func x.2) [] []]
def Zig:List (Int×(Nat×Nat)):=[(1,(269,270)),(2,(273,274)),(3,(275,276)),(4,(277,278)),(5,(279,280)),(6,(281,282)),(7,(283,284)),(8,(286,287)),(9,(288,289)),(10,(290,291)),(11,(292,293)),(12,(294,295))]
def ZoE(st):Za ZHv 253 [] st λr S=>∃b,st b=nO/\r=.ret (.map b)/\S=st.upd b (.map (WJ YW ZrK Zig)):=by
 refine Zb (cR 253 f253) λF i=>?_;refine rg ?_;refine rh ?_;refine Zm ?_;simp only[Eqs,reduceCtorEq,ZHC,reduceIte,ZHz,ZHE,ZHA,JP,ZId,decide_false,ZHB,ZHO,Yp,Yq];intro b t;exact i.ret _ _ rfl φ (ZHx _) ZHw ⟨b,t,rfl,rfl⟩
def ZeM(n:Str)(k:Int):Fld:=⟨n,k,0,false,false,0,0,⟨0,[]⟩,[],[],[],[],0,0⟩
def Ze2(f:Fld):Fld :=
 if f.kind=1 then ZsA f else if f.kind=2 then ZsB f else if f.kind=3 then ZsC f else if f.kind=4 then ZnD f else if f.kind=5 then ZsD f else if f.kind=6 then ZsE f
 else if f.kind=7 then ZnE f else if f.kind=8 then ZsF f else if f.kind=9 then ZnF f else if f.kind=10 then Zpo f else if f.kind=11 then Zpp f else Zk1 f
def ZeY(fs:List Fld)(dl:List (Str×Int))(sl:List (Str×Bool))(f:Fld):Bool :=
 if f.kind=1 then ck1 f else if f.kind=2 then ck2 f else if f.kind=3 then ck3 f else if f.kind=4 then Zfu fs f.size else if f.kind=5 then ck5 f else if f.kind=6 then ck6 f
 else if f.kind=7 then ck7 fs dl f else if f.kind=8 then ck8 dl f else if f.kind=9 then Zjd fs dl f else if f.kind=10 then ZvU f else if f.kind=11 then ZvV fs f else ZvW fs sl f
def Jh(f:Fld):Bool:=dC (1<=f.kind)&&dC (f.kind<=12)
def ZBv{x bd bs k dl sl st}(t:Qd st x bd bs k dl sl){n:Nat}(hn:k.field=n)(hl:n<=I k.m.fields)(f)(hR:((Zp f.tag (QD (k.m.fields.take n))).getD (0,0)).2<4611686018427387904)(hk:Jh f=true):
  ∃c q,Zp f.kind Zig=sO (c,q)/\(∀y s,s y=sO (.cells f.cells)->ZL ZHv c [.ptr y 0] s (.tup []) (s.upd y (.cells (Ze2 f).cells))) /\
   ∀A,st.sub A->Za ZHv q [.ptr x 0,.agg f.cells] A (Wu (ZeY (k.m.fields.take n) dl sl f) A):=by
 unfold Jh at hk;simp only[ZHG,decide_eq_true_eq]at hk;have i:f.kind=1\/f.kind=2\/f.kind=3\/f.kind=4\/f.kind=5\/f.kind=6\/f.kind=7\/f.kind=8\/f.kind=9\/f.kind=10\/f.kind=11\/f.kind=12:=ω;unfold Ze2 ZeY;rcases i with h|h|h|h|h|h|h|h|h|h|h|h<;>simp only[h,ZId,if_true,if_false];exact⟨_,_,rfl,λy s hy=>ZlG f y s hy,λA u=>ZlH (t.mono u) hn hl f⟩;exact⟨_,_,rfl,λy s hy=>ZlI f y s hy,λA u=>ZlJ (t.mono u) hn hl f⟩;exact⟨_,_,rfl,λy s hy=>ZlK f y s hy,λA u=>ZlL (t.mono u) hn hl f⟩;exact⟨_,_,rfl,λy s hy=>ZlM f y s hy,λA u=>ZcJ (t.mono u).x hn hl f⟩;exact⟨_,_,rfl,λy s hy=>ZlN f y s hy,λA u=>ZlO (t.mono u) hn hl f⟩;exact⟨_,_,rfl,λy s hy=>Zkg f y s hy,λA u=>Zkh (t.mono u) hn hl f⟩;exact⟨_,_,rfl,λy s hy=>Zki f y s hy,λA u=>Zkj (t.mono u) hn hl f⟩;exact⟨_,_,rfl,λy s hy=>Zkk f y s hy,λA u=>Zkl (t.mono u) hn hl f⟩;exact⟨_,_,rfl,λy s hy=>Zkm f y s hy,λA u=>ZoD (t.mono u) hn hl f hR⟩;exact⟨_,_,rfl,λy s hy=>Zkn f y s hy,λA u=>Zko (t.mono u) hn hl f⟩;exact⟨_,_,rfl,λy s hy=>Zkp f y s hy,λA u=>Zkq (t.mono u) hn hl f⟩;exact⟨_,_,rfl,λy s hy=>Zkr f y s hy,λA u=>Zks (t.mono u) hn hl f⟩
def Zx0{f}(i:Jh f=false):Zp f.kind Zig=nO:=by
 rw[ZxQ];unfold Jh at i;simp only[Bool.and_eq_false_iff,decide_eq_false_iff_not]at i;simp only[Zig,ZHM,ZH2,ZIa,List.not_mem_nil,or_false];omega
def QP(fs:List Fld)(dl:List (Str×Int))(sl:List (Str×Bool))(f:Fld):Bool :=
 Y8 f.name&&(!dC (0<=Zj (λx=>dC (x.name=f.name)) fs)&&(Jh f&&(dC (Ze2 f=ZeM f.name f.kind)&&ZeY fs dl sl f)))
def ZlF{x bd bs k dl sl st}(hst:Qd st x bd bs k dl sl){n:Nat}(hn:k.field=n)(hl:n<=I k.m.fields)(f)(hR:((Zp f.tag (QD (k.m.fields.take n))).getD (0,0)).2<4611686018427387904):
  Za ZHv 241 [.ptr x 0,.agg f.cells] st (Wu (QP (k.m.fields.take n) dl sl f) st):=by
 refine Zb (cR 241 f241) λF hF=>?_;have hS:=QP.eq_1 (k.m.fields.take n) dl sl f;refine rx @eQ0 ?_;refine rx @eQ0 ?_;refine cl (ZaT f.name) ?_;refine cV (ZT hst.x (Y8 f.name) 1) ?_ ?_
 .rintro d S h;obtain⟨ah,rfl,rfl⟩:=YA h;rw[ah,ZHX]at hS;refine gR0 ?_;refine rx @eQ0 ?_;refine tXD (nd2 @Zr.eq_1 @eQ1) (QY hst.x hn hl) ?_;refine clD ((ZcH ⟨[],k.m.fields.take n⟩ f.name)) ?_;refine rg ?_;refine cV (ZT hst.x (!dC (0<=Zj (λx=>dC (x.name=f.name)) (k.m.fields.take n))) 2) ?_ ?_
  .rintro d S2 h;obtain⟨t,rfl,rfl⟩:=YA h;rw[t,ZHX]at hS;refine gR0 ?_;refine rx @eQ0 ?_;refine cVD (ZoE S2) ?_ ?_
   .rintro d S3 ⟨b,hb,hd,rfl⟩;cases hd;refine⟨by first|trivial|exact⟨rfl,trivial⟩,?_⟩;have e1:=YD (vD:=ZrK) Zc5 f.kind Zig;have e3:=YX Zc5 f.kind;simp only[show YW f.kind=D.i f.kind from rfl]at e1 e3;have ag:=ZHV (.map (WJ YW ZrK Zig)) hb;cases af:Jh f with
    |false =>rw[af,ZH8]at hS;rw[Zx0 af]at e1;refine gQ (nd2 @e1 (nd2 @e3 (nd2 @ZHB (nd2 @ZHO (nd2 @Yp @Yq))))) ?_;refine rg ?_;refine cV (ZT (hst.mono ag).x false 4) ?_ ?_;rintro d S4 h;exact absurd (YA h).1 ψ;rintro d S4 h;obtain⟨_,i,rfl⟩:=Yz h;exact hF.pan S2 ag (Wa hS i)
    |true =>rw[af,ZHX]at hS;obtain⟨c,q,hg,ae,ad⟩:=ZBv hst hn hl f hR af;rw[hg]at e1;refine gQ (nd2 @e1 (nd2 @e3 (nd2 @ZHB (nd2 @ZHO (nd2 @Yp @Yq))))) ?_;refine rg ?_;refine cV (ZT (hst.mono ag).x true 4) ?_ ?_;rintro d S4 h;obtain⟨_,rfl,rfl⟩:=YA h;refine gR0 ?_;refine rx @eQ0 ?_;refine Zc ?_;refine xP 7 λy hy=>?_;have ai:[D.str f.name,D.int IntKind.i64 f.kind,D.int IntKind.i64 f.bits,D.bool f.little,D.bool f.loose,D.int IntKind.i64 f.low,D.int IntKind.i64 f.high,D.int IntKind.i64 f.size.base,Yj f.size.terms,D.str f.of,D.str f.tag,D.str f.from_,WP f.cases,D.int IntKind.i64 f.check,D.int IntKind.i64 f.key]=f.cells:=rfl;simp only[ai];have ac:∀o,S2.sub (((S2.upd b (.map (WJ YW ZrK Zig)))).upd y o):=λo=>ZIe ag (ZHV _ hy);refine rg ?_;refine ct (ae y _ (ZHB _ _ _)) ?_;simp only[ZHO];refine rx (nd2 @eQ0 (nd2 @ZHB (nd2 @ZHO (nd2 @Yp @Yq)))) ?_;simp only[ZdF];refine Zay rfl rfl rfl rfl rfl φ φ (by exact(ZiU (Ze2 f) (ZeM f.name f.kind)).leA (LeC.two (ZHx _) (Zr9 (cs':=(ZeM f.name f.kind).cells) (.cons (ZHx _) (.cons (ZHx _) (.cons (ZHx _) (.cons (ZHx _) (.cons (ZHx _) (.cons (ZHx _) (.cons (ZHx _) (.cons (ZHx _) (.cons (YL ψ) (.cons (ZHx _) (.cons (ZHx _) (.cons (ZHx _) (.cons (YL ψ) (.cons (ZHx _) (.cons (ZHx _) .nil)))))))))))))))))) (Zm ?_);simp only[Eqs,reduceCtorEq,ZHC,reduceIte,ZHz,ZHE,ZHA];refine cV (ZT (hst.mono (ac _)).x (dC (Ze2 f=ZeM f.name f.kind)) 5) ?_ ?_;rintro d S5 h;obtain⟨u,rfl,rfl⟩:=YA h;rw[u,ZHX]at hS;refine gR0 ?_;refine rx @eQ0 ?_;simp only[ZdF];refine cV (ad _ (ac _)) ?_ ?_;rintro d S6 h;obtain⟨ab,rfl,rfl⟩:=YA h;rw[ab]at hS;refine gR0 ?_;exact hF.fin (.tup []) S2 rfl trivial (ZHx _) (ac _) (Zbb hS);rintro d S6 h;obtain⟨ab,i,rfl⟩:=Yz h;rw[ab]at hS;exact hF.pan S2 (ac _) (Wa hS i);rintro d S5 h;obtain⟨u,i,rfl⟩:=Yz h;rw[u,ZH8]at hS;exact hF.pan S2 (ac _) (Wa hS i);rintro d S4 h;exact absurd (Yz h).1 ψ
   rintro d S3 ⟨b,hb,hd,_⟩;cases hd
  rintro d S2 h;obtain⟨t,i,rfl⟩:=Yz h;rw[t,ZH8]at hS;exact hF.pan _ ZHw (Wa hS i)
 rintro d S h;obtain⟨ah,i,rfl⟩:=Yz h;rw[ah,ZH8]at hS;exact hF.pan _ ZHw (Wa hS i)
def ddS(l:List Str):List Str:=l.foldl Zca []
def Zt7(l i:List Str):∃r,l.foldl Zca i=i++r:=by
 induction l generalizing i with
 |nil=>exact⟨[],ψ⟩
 |cons x r ih =>obtain⟨q,t⟩:=ih (Zca i x);rw[List.foldl_cons,t];unfold Zca;split;exact⟨q,rfl⟩;exact⟨[x]++q,ψ⟩
def ZsJ{l:List Str}{i}(h:i<I l):ddS (l.take (i+1))=Zca (ddS (l.take i)) (l.getD i dE):=by
 unfold ddS;rw[Yi h,List.foldl_append];rfl
def ZuV{l s}:s∈ddS l↔s∈l:=by unfold ddS;rw[Zhf];simp
def ZBa(l i):∃r,ddS l=ddS (l.take i)++r:=by
 conv=>enter [1,r];lhs;rw[<-List.take_append_drop i l]
 unfold ddS;rw[List.foldl_append];exact Zt7 _ _
def ZCu{l i}(h:i<I l)(hn:l.getD i dE∉l.take i):(ddS (l.take i)).length<(ddS l).length/\(ddS l).getD (ddS (l.take i)).length dE=l.getD i dE/\(ddS (l.take (i+1))).length=(ddS (l.take i)).length+1:=by
 have t:=ZsJ h;have hm:l.getD i dE∉ddS (l.take i):=λhm=>hn (ZuV.1 hm);rw[Zca,if_neg hm]at t;obtain⟨r,u⟩:=ZBa l (i+1);rw[t]at u;refine⟨by rw[u];simp,by rw[u];simp[ZHL],by rw[t];simp⟩
def Zzo{l:List Str}{i}(h:i<I l)(t:l.getD i dE∈l.take i):ddS (l.take (i+1))=ddS (l.take i):=by
 rw[ZsJ h,Zca,if_pos (ZuV.2 t)]
def Zjp(l:List Str)(i)(h:i<=I l){tk s}:Zf ZHv 256 [.sl tk i 1 (λi=>[.str (l.getD i dE)]),.str s] (.bool (dC (s∈l.take i))):=by
 have t:ZU ZbM (λi=>[.str (l.getD i dE)]) (l.take i):=(ZU.self (f:=ZbM) (l:=l)).take i;exact(Zew (l.take i) s).leA (LeC.two (t.le (by rw[ZHQ];omega)) (ZHx _))
def Zke(l)(hl:I l<=big)(x):ZcS ZHv (.fn (.func 255) [] [.ptr x 0]) (ddS l).length (λj=>[.str ((ddS l).getD j dE)]) (ZH1 x (.cells [Za5 l])):=by
 intro y go A a0 af hA hd;have hw:=hl;unfold big at hw;refine Za.V (first:=[]) (args:=[y]) (caps:=[.ptr x 0]) (Zb (cR 255 f255) λF hF=>?_);have hx:∀a,Z4 a (ZH1 x (.cells [Za5 l]))->(a.or (ZH1 x (.cells [Za5 l]))) x=sO (.cells [Za5 l]):=λa ai=>by rw[ZF (ai x _ Yl),Yl]
 generalize hT:ZH1 x (.cells [Za5 l])=T at *;refine rh ?_;refine Zm ?_;simp only[Eqs,reduceCtorEq,ZHC,reduceIte,ZHz,ZHE,ZHA,hx a0 hd,Za5,slD];refine Zd (fr (I l) (λi Q=>∀a,A (ddS (l.take i)).length a->Z4 a T->(∀j,j<(ddS (l.take i)).length->go j=.next)->i<=I l->Q [(0,.d y),(1,.d (.ptr x 0)),(5,.d (Za5 l)),(6,.d (.i (I l))),(7,.d (.i i))] [] (a.or T)) (λn ab=>?_) λaj=>?_)
 .clear hA hd;intro i hn a hA hd u hi;refine rg ?_;refine Zc (Zn rfl trivial (λh1=>?_) (λh1=>?_))
  .simp at h1;by_cases hm:l.getD i dE∈l.take i;have ah:=Zzo h1 hm;refine xA (nd2 @Za5.eq_1 @eQ1) ?_;refine rh ?_;refine Zm ?_;simp only[Eqs,reduceCtorEq,ZHC,reduceIte,ZHz,ZHE,ZHA,hx a hd,Za5,slD];refine aa ?_;refine Zay rfl rfl rfl rfl rfl φ φ (by exact Zjp l i ω) (Zm ?_);simp only[Eqs,reduceCtorEq,ZHC,reduceIte,ZHz,ZHE,ZHA,decide_eq_true hm];refine JB rfl (e:=.d (.bool false)) (Zm ?_);simp only[Eqs,reduceCtorEq,ZHC,reduceIte,ZHz,ZHE,ZHA];refine i0 ?_;refine gA ?_;refine Ze ?_;exact ab ((I l)-(i+1)) ω (i+1) rfl a (by rw[ah];exact hA) hd (by rw[ah];exact u) ω;have ac:=ZCu h1 hm;refine xA (nd2 @Za5.eq_1 @eQ1) ?_;refine rh ?_;refine Zm ?_;simp only[Eqs,reduceCtorEq,ZHC,reduceIte,ZHz,ZHE,ZHA,hx a hd,Za5,slD];refine aa ?_;refine Zay rfl rfl rfl rfl rfl φ φ (by exact Zjp l i ω) (Zm ?_);simp only[Eqs,reduceCtorEq,ZHC,reduceIte,ZHz,ZHE,ZHA,decide_eq_false hm];have ad:=(af _ ac.1 u a hA).frame hd;simp only[ac.2.1]at ad;refine vV (ad) ?_ ?_
   .rintro d S ⟨s',⟨hr,ae⟩,ag,rfl⟩;cases t:go (ddS (l.take i)).length with
    |next =>rw[t]at hr;cases hr;refine gR0 ?_;refine i0 ?_;refine gA ?_;refine Ze ?_;exact ab ((I l)-(i+1)) ω (i+1) rfl s' (by rw[ac.2.2];exact ae) ag (by rw[ac.2.2];exact Yb (q:=λi=>go i=.next) u t) ω
    |stop c =>rw[t]at hr;cases hr;refine gR0 ?_;refine i1 ?_;exact hF.ret (.tup []) _ rfl trivial (ZHx _) ZHw ⟨s',.stop _ c ac.1 u t ae,Kv⟩
    |pan d=>rw[t]at hr;cases hr
   rintro d S ⟨s',⟨hr,ae⟩,ag,rfl⟩;cases t:go (ddS (l.take i)).length with
   |pan d' =>rw[t]at hr;cases hr;exact hF.pan _ ZHw ⟨s',.pan _ d ac.1 u t ae,Kv⟩
   |next=>rw[t]at hr;cases hr
   |stop c=>rw[t]at hr;cases hr
  simp at h1;obtain rfl:i=I l:=ω;rw[ZH0]at hA u;refine ZS rfl ?_;exact hF.fin (.tup []) _ rfl trivial (ZHx _) ZHw ⟨a,.all u hA,Kv⟩
 exact aj _ 0 rfl a0 hA hd (by intro i hi;simp[ddS]at hi) ω
def Zm6(m:Msg)(hb:(m.fields.flatMap Yv).length<=1000000){st}:Za ZHv 242 [.agg m.cells] st λr S=>∃x,st x=nO/\r=.ret (.fn (.func 255) [] [.ptr x 0])/\S=st.or (ZH1 x (.cells [Za5 (m.fields.flatMap Yv)])):=by
 refine Zbe (cR 242 f242) λal F hF=>?_;have hw:=(Zx6 (s:=m) (al _ ψ)).nfields;have ap:=(Zx6 (s:=m) (al _ ψ)).fields;unfold big at hw;clear al;refine rx @eQ3 ?_;refine rg ?_;refine rx (nd2 @eQ3 (nd2 @Zr.eq_1 @eQ1)) ?_;refine Zd ?_;refine kl (st) [(3,.loc 3 0),(9,.d (Zr m.fields)),(10,.d (.i (I m.fields))),(11,.d (.i (0:Nat)))] [(3,[.sl .full 0 1 λ_=>[]])] Qe (.cons (.cons (YL ψ) .nil) .nil) ?_;refine fr (I m.fields) (λi Q=>∀tk row t,tk.okIn st->ZU (λs=>[.str s]) row t->t=(m.fields.take i).flatMap Yv->i<=I m.fields->Q [(3,.loc 3 0),(9,.d (Zr m.fields)),(10,.d (.i (I m.fields))),(11,.d (.i i))] [(3,[.sl tk (I t) 1 row])] (st.own tk (I t*1))) (λn ae=>?_) λar=>?_;intro i hn tk row t ag u ad hi;refine rg ?_;refine Zc (Zn rfl trivial (λh1=>?_) (λh1=>?_));simp at h1;have af:=ZlA m.fields i h1;have ac:=ZiT m.fields (i+1);rw[af,ZHF,<-ad]at ac;have aq:=(ap _ (ZD h1)).ncases;unfold big at aq;generalize hf:m.fields.getD i dE=f at *;refine xA (nd2 @Zr.eq_1 (nd2 @eQ1 (nd2 @eQ0 @hf))) ?_;refine rx @eQ0 ?_;refine rg ?_;refine jU [0] (λQ=>∀bb:Bool,bb=(dC (f.kind=7) ||(dC (f.kind=8) ||decide (f.kind=12)))->Q F [(3,.loc 3 0),(5,.loc 5 0),(9,.d (Zr m.fields)),(10,.d (.int .i64 (I m.fields))),(11,.d (.int .i64 i)),(16,.d (.int .i64 f.kind)),(17,.d (.bool bb))] [(3,[.sl tk (I t) 1 row]),(5,f.cells)] (st.own tk (I t*1))) ?_ λjn=>?_;intro bb ai;refine cd (λh3=>?_) (λh3=>?_);have aj:Yv f=[f.of]:=by
  subst h3;have h9:¬f.kind=9:=by intro e;rw[e]at ai;simp at ai
  unfold Yv ZaQ;rw[<-ai,if_pos rfl,if_neg h9,ZH3]
 rw[aj]at af ac;simp only[ZHN,List.length_nil]at ac;refine rx @eQ0 ?_;refine JA (st) (tk) rfl rfl rfl rfl rfl rfl φ φ rfl (by first|trivial|assumption) ω (by (unfold big;omega)) λt1 ak=>Zm ?_;simp only[Eqs,reduceCtorEq,ZHC,reduceIte,ZHz,ZHE,ZHA];refine gA ?_;refine Ze ?_;have ab:=ae ((I m.fields)-(i+1)) ω (i+1) rfl t1 _ (t++[f.of]) ak (u.snoc (x:=f.of) (row2:=ZR [.str []] ([0].zip [.str f.of])) rfl rfl) (by rw[af,ad]) ω;rw[ZHF]at ab;exact ab;have aj:Yv f=if f.kind=9 then f.cases.map (·.of) else []:=by subst h3;unfold Yv ZaQ;rw[<-ai,if_neg ψ,List.nil_append]
 rw[aj]at af ac;refine rg ?_;refine cd (λh4=>?_) (λh4=>?_);have h9:f.kind=9:=by simpa using h4
 rw[if_pos h9]at af ac;simp only[ZHS]at ac;refine rx (nd2 @eQ0 (nd2 @WP.eq_1 @eQ1)) ?_;refine Zd (fr (I f.cases) (λq Q=>∀tk row o,tk.okIn st->ZU (λs=>[.str s]) row o->o=t++(f.cases.take q).map (·.of)->q<=I f.cases->Q [(3,.loc 3 0),(9,.d (Zr m.fields)),(10,.d (.i (I m.fields))),(11,.d (.i i)),(29,.d (WP f.cases)),(30,.d (.i (I f.cases))),(31,.d (.i q))] [(3,[.sl tk (I o) 1 row])] (st.own tk (I o*1))) (λn ah=>?_) λao=>?_);clear u ag;intro q hnq tk row o ag u ho hq;have hol:I o=I t+q:=by rw[ho];simp;omega
 refine rg ?_;refine Zc (Zn rfl trivial (λh5=>?_) (λh5=>?_));simp at h5;have am:(f.cases.take (q+1)).map (·.of)=(f.cases.take q).map (·.of)++[(f.cases.getD q dE).of]:=by rw[Yi h5,List.map_append];rfl
 generalize hc:f.cases.getD q dE=c at *;refine xA (nd2 @WP.eq_1 (nd2 @eQ1 (nd2 @Y6.cells.eq_1 @hc))) ?_;refine rx @Y6.cells.eq_1 ?_;refine JA (st) (tk) rfl rfl rfl rfl rfl rfl φ φ rfl (by first|trivial|assumption) ω (by (unfold big;omega)) λt1 ak=>Zm ?_;simp only[Eqs,reduceCtorEq,ZHC,reduceIte,ZHz,ZHE,ZHA];refine gA ?_;refine Ze ?_;have ab:=ah ((I f.cases)-(q+1)) ω (q+1) rfl t1 _ (o++[c.of]) ak (u.snoc (x:=c.of) (row2:=ZR [.str []] ([0].zip [.str c.of])) rfl rfl) (by rw[am,ho,ZHY]) ω;rw[ZHF]at ab;exact ab;simp at h5;obtain rfl:q=I f.cases:=ω;rw[ZH0]at ho;refine gA ?_;refine Ze ?_;exact ae ((I m.fields)-(i+1)) ω (i+1) rfl tk row o ag u (by rw[af,ho,ad]) ω;exact ao _ 0 rfl tk row t ag u ψ ω;have h9:¬f.kind=9:=by simpa using h4
 rw[if_neg h9,ZH3]at af;refine ZI ?_;refine gA ?_;refine Ze ?_;exact ae ((I m.fields)-(i+1)) ω (i+1) rfl tk row t ag u (by rw[af,ad]) ω;refine cd (λh2=>?_) (λh2=>?_);refine ZI ?_;refine jn _ ?_;rw[h2,Bool.true_or];refine rg ?_;refine cd (λh3=>?_) (λh3=>?_);refine ZI ?_;refine jn _ ?_;rw[h2,h3];rfl;refine rg ?_;refine jn _ ?_;rw[h2,h3];rfl;simp at h1;obtain rfl:i=I m.fields:=ω;rw[ZH0]at ad;refine ZS rfl (Zc ?_);refine kl (st) [(3,.loc 3 0),(9,.d (Zr m.fields)),(10,.d (.i (I m.fields))),(11,.d (.i (I m.fields))),(12,.d (.bool (dC ((I m.fields:Int)<I m.fields))))] [(3,[Za5 t])] Qe (.cons (.cons (u.le rfl) .nil) .nil) ?_;refine xP 3 λx hx=>?_;refine rg ?_;exact hF.ret _ _ rfl φ (ZHx _) ZHw ⟨x,hx,rfl,by rw[<-ad];exact Qn hx⟩;exact ar _ 0 rfl .full _ [] trivial ZU.nil rfl ω
def Kg(dl:List (Str×Int))(m:Msg):Int:=(Kj m).foldl (λa s=>max a ((Zp s dl).getD 0)) 0
def Jy(sl:List (Str×Bool))(m:Msg):Bool:=(m.fields.all λf=>!f.loose)&&(Kj m).all λs=>(Zp s sl).getD false
def QJ(dl:List (Str×Int))(sl:List (Str×Bool))(m:Msg)(n:Nat):Bool:=(ZHJ n).all λi=>QP (m.fields.take i) dl sl (m.fields.getD i dE)
def Zd1(dl:List (Str×Int))(sl:List (Str×Bool))(m:Msg):Bool :=
 Y8 m.name&&(!(Zp m.name dl).isSome&&((dC (1<=(I m.fields:Int))&&dC ((I m.fields:Int)<=40))&&(QJ dl sl m (I m.fields)&&dC (Kg dl m<16))))
def Zo3:Int:=4611686018427387904
def Zpu{u dl sl f}(h:QP u dl sl f=true)(t:YE f=true):(KD f).2<Zo3:=by
 unfold QP at h;simp only[ZHG]at h;have i:=h.2.2.2.2;unfold YE at t;simp only[ZHG,decide_eq_true_eq]at t;have hk:f.kind=1\/f.kind=2\/f.kind=3:=ω;unfold ZeY at i;unfold KD Zo3;rcases hk with hk|hk|hk<;>simp only[hk,ZId,if_true,if_false]at i⊢;unfold ck1 Zdl at i;simp only[Ys,ZHG,decide_eq_true_eq,Bool.and_true]at i;have:=Zgj (b:=f.bits) ω ω;generalize (2:Int) ^ f.bits.toNat=pw at *;omega;unfold ck2 Zdl at i;simp only[Ys,ZHG,decide_eq_true_eq,Bool.and_true]at i;have:=Zgj (b:=f.bits) ω ω;generalize (2:Int) ^ f.bits.toNat=pw at *;omega;unfold ck3 at i;simp only[Ys,ZHG,decide_eq_true_eq,Bool.and_true]at i;omega
def Zwx{t i}(h:∀j,j<i->YE (t.getD j dE)=true->(KD (t.getD j dE)).2<Zo3)(k):((Zp k (JN t i)).getD (0,0)).2<Zo3:=by
 induction i with
 |zero=>simp[JN,Zp,Zo3]
 |succ i ih =>have u:=ih λj hj=>h j ω;simp only[JN];split;rename_i hn;rw[WU];split;exact h i ω hn;exact u;exact u
def Zrm{dl sl m i}(h:QJ dl sl m i=true)(hi:i<=I m.fields)(k):((Zp k (QD (m.fields.take i))).getD (0,0)).2<4611686018427387904:=by
 refine Zwx (λj u t=>?_) k;rw[ZHQ]at u;rw[Q0 ω]at t⊢;exact Zpu (List.all_eq_true.1 h j (by simp;omega)) t
def Zrk{t dl sl f}(h:QP t dl sl f=true):(Yv f).length<=41:=by
 unfold QP at h;simp only[ZHG]at h;have i:=h.2.2.2.2;unfold Yv;rw[ZHF];have h1:(ZaQ f).length<=1:=by unfold ZaQ;split<;>simp
 split;rename_i u;unfold ZeY at i;simp only[u,ZId,if_true,if_false]at i;unfold Zjd at i;simp only[ZHG,decide_eq_true_eq]at i;simp only[ZHS];omega;simp;omega
def ZsW{dl sl m}(h:QJ dl sl m (I m.fields)=true)(hm:I m.fields<=40):(m.fields.flatMap Yv).length<=1000000:=by
 have t:∀l:List Fld,(∀f∈l,(Yv f).length<=41)->(l.flatMap Yv).length<=41*I l:=by
  intro l;induction l with
  |nil=>simp
  |cons x r ih =>intro hx;have:=ih λf u=>hx f (by simp[u]);have:=hx x ψ;simp only[List.flatMap_cons,ZHF,ZHN];omega
 have:=t m.fields λf u=>by obtain⟨i,hi,rfl⟩:=ZHR u;have:=Zrk (List.all_eq_true.1 h i (by simpa using hi));simpa[ZHL,hi]using this
 omega
def Zjy{dl sl m i}:QJ dl sl m (i+1)=(QJ dl sl m i&&QP (m.fields.take i) dl sl (m.fields.getD i dE)):=by
 unfold QJ;rw[List.range_succ,List.all_append];simp
def Zrl{dl sl m i n}(t:i<n)(h:QP (m.fields.take i) dl sl (m.fields.getD i dE)=false):QJ dl sl m n=false :=
 List.all_eq_false.2 ⟨i,by simpa using t,by rw[h];simp⟩
def Qd.ne{st x bd bs k dl sl}(h:Qd st x bd bs k dl sl):x≠bd/\x≠bs :=
 ⟨λe=>by have:=h.x;rw[e,h.bd]at this;simp at this,λe=>by have:=h.x;rw[e,h.bs]at this;simp at this⟩
def Qd.updX{st x bd bs k dl sl}(h:Qd st x bd bs k dl sl)(k'):Qd (st.upd x (.cells (k'.cells bd bs))) x bd bs k' dl sl :=
 ⟨ZHB _ _ _,by rw[ZHD _ _ h.ne.1.symm];exact h.bd,by rw[ZHD _ _ h.ne.2.symm];exact h.bs⟩
def ZeQ(ok:Bool)(st:St)(x bd bs:Nat)(k:Ck)(dl:List (Str×Int))(sl:List (Str×Bool))(r:Res)(S:St):Prop :=
 if ok then r=.ret (.tup [])/\S=((st.upd x (.cells (k.cells bd bs))).upd bd (.map (Kc dl))).upd bs (.map (Zei sl)) else (∃d,Zdz d/\r=.panic d)/\∀b,b≠x->b≠bd->b≠bs->S b=st b
def Zve{ok st x bd bs k dl sl d c}(h:ok=false)(t:Zdz d):ZeQ ok st x bd bs k dl sl (.panic d) (st.upd x (.cells c)):=by
 subst h;exact⟨⟨d,t,rfl⟩,λb i _ _=>ZHD _ _ i⟩
def Zqq{K V}[DecidableEq K]{kp i}{vD:V->D}(h:ZkX kp i)(k:K)(z:D)(l:List (K×V)):ZdY kp (i k) z (WJ i vD l)=sO ((Zp k l).elim z vD):=by
 induction l with
 |nil=>rfl
 |cons e r ih =>simp only[WJ,ZHM,ZdY,h k e.1,Zp];by_cases t:k=e.1;simp[t];simp only[t,decide_false,if_false];exact ih
def nxS(s1:St)(x z2 z6 z9:Nat)(sb:Bool)(dp:Int):St:=((s1.upd z2 (.cells [.ptr x 0])).upd z6 (.cells [.bool sb])).upd z9 (.cells [.i dp])
structure Qr(s1:St)(z2 z6 z9:Nat):Prop where
 n2:s1 z2=none
 n6:z6≠z2/\s1 z6=none
 n9:z9≠z6/\z9≠z2/\s1 z9=none
section
variable {s1:St} {x z2 z6 z9:Nat} {sb:Bool} {dp:Int}
def Qr.g2(h:Qr s1 z2 z6 z9):(nxS s1 x z2 z6 z9 sb dp) z2=sO (.cells [.ptr x 0]):=by
 simp[nxS,ZH7,h.n6.1.symm,h.n9.2.1.symm]
def Qr.g6(h:Qr s1 z2 z6 z9):(nxS s1 x z2 z6 z9 sb dp) z6=sO (.cells [.bool sb]):=by
 simp[nxS,ZH7,h.n9.1.symm]
def Qr.g9:(nxS s1 x z2 z6 z9 sb dp) z9=sO (.cells [.i dp]):=by
 simp[nxS,ZH7]
def Qr.gs(h:Qr s1 z2 z6 z9){b o}(i:s1 b=sO o):(nxS s1 x z2 z6 z9 sb dp) b=sO o:=by
 have t:b≠z2:=λe=>by rw[e,h.n2]at i;simp at i
 have u:b≠z6:=λe=>by rw[e,h.n6.2]at i;simp at i
 have h9:b≠z9:=λe=>by rw[e,h.n9.2.2]at i;simp at i
 simp[nxS,ZH7,t,u,h9,i]
def Qr.sub(h:Qr s1 z2 z6 z9):s1.sub (nxS s1 x z2 z6 z9 sb dp):=λb o i=>h.gs i
def Qr.u9(dp'):(nxS s1 x z2 z6 z9 sb dp).upd z9 (.cells [.i dp'])=nxS s1 x z2 z6 z9 sb dp':=by
 unfold nxS;rw[ZHO]
def Qr.u6(h:Qr s1 z2 z6 z9)(sb'):(nxS s1 x z2 z6 z9 sb dp).upd z6 (.cells [.bool sb'])=nxS s1 x z2 z6 z9 sb' dp:=by
 unfold nxS;rw[St.upd_comm h.n9.1.symm,ZHO]
def Qr.disj{u i t}(h:Z4 (nxS s1 x z2 z6 z9 sb dp) t):Z4 (nxS s1 x z2 z6 z9 u i) t:=λc o hc=>by
 have:=h c o hc;unfold nxS at this⊢;have k9:=Zo this;have k6:=Zo k9.2;rw[ZHD _ _ k9.1,ZHD _ _ k6.1];exact k6.2
def Qr.ub(h:Qr s1 z2 z6 z9){b o o'}(i:s1 b=sO o):(nxS s1 x z2 z6 z9 sb dp).upd b o'=nxS (s1.upd b o') x z2 z6 z9 sb dp:=by
 have t:b≠z2:=λe=>by rw[e,h.n2]at i;simp at i
 have u:b≠z6:=λe=>by rw[e,h.n6.2]at i;simp at i
 have h9:b≠z9:=λe=>by rw[e,h.n9.2.2]at i;simp at i
 unfold nxS;rw[St.upd_comm h9,St.upd_comm u,St.upd_comm t]
def Qr.of(h:Qr s1 z2 z6 z9){b o o'}(i:s1 b=sO o):Qr (s1.upd b o') z2 z6 z9:=by
 have t:z2≠b:=λe=>by rw[<-e,h.n2]at i;simp at i
 have u:z6≠b:=λe=>by rw[<-e,h.n6.2]at i;simp at i
 have h9:z9≠b:=λe=>by rw[<-e,h.n9.2.2]at i;simp at i
 exact⟨by rw[ZHD _ _ t];exact h.n2,⟨h.n6.1,by rw[ZHD _ _ u];exact h.n6.2⟩,⟨h.n9.1,h.n9.2.1,by rw[ZHD _ _ h9];exact h.n9.2.2⟩⟩
end
def ZiM{dl m}(h:∀s,0<=(Zp s dl).getD 0/\(Zp s dl).getD 0<=16):0<=Kg dl m/\Kg dl m<=16:=by
 unfold Kg;have:∀(l:List Str) (b:Int),0<=b->b<=16->0<=l.foldl (λa s=>max a ((Zp s dl).getD 0)) b/\l.foldl (λa s=>max a ((Zp s dl).getD 0)) b<=16:=by
  intro l;induction l with
  |nil=>intro b i t;exact⟨i,t⟩
  |cons s r ih =>intro b i t;have:=h s;exact ih (max b ((Zp s dl).getD 0)) ω ω
 exact this _ 0 ω ω
def ZpL{x bd bs k dl sl st}(hst:Qd st x bd bs k dl sl)(hdd:bd≠bs)(hdl:∀s,0<=(Zp s dl).getD 0/\(Zp s dl).getD 0<=16)(m):
  Za ZHv 209 [.ptr x 0,.agg m.cells] st (ZeQ (Zd1 dl sl m) st x bd bs { k with field:=-1,m:=m } (YN m.name (Kg dl m+1) dl) (YN m.name (Jy sl m) sl)):=by
 refine Zb (cR 209 f209) λF hF=>?_;have hS:=Zd1.eq_1 dl sl m;have hx:=hst.x;have a9:=hst.ne;refine rx @eQ3 ?_;refine rx (nd2 @eQ3 (nd2 @hx (nd2 @Ck.cells.eq_1 (nd2 @ZHB (nd2 @ZHO (nd2 @Yp @Yq)))))) ?_;obtain⟨k1,au⟩:∃k1:Ck,k1={ k with field:=-1,m:=m }:=⟨_,rfl⟩;have u:=hst.updX k1;have a3:(st.upd x (.cells [.str k.d.name,YF k.d.msgs,.str k.d.start,.map bd,.map bs,.i k.at_,.i (-1),.str m.name,Zr m.fields]))=st.upd x (.cells (k1.cells bd bs)):=by rw[au];rfl
 rw[a3];rw[<-au]at hF;generalize ae:st.upd x (.cells (k1.cells bd bs))=S1 at *;have e1:=YD (vD:=YW) ZN m.name dl;have e3:=YX ZN m.name;simp only[show Kz m.name=D.str m.name from rfl]at e1 e3;have ah:∀d,Zd1 dl sl m=false->Zdz d->ZeQ (Zd1 dl sl m) st x bd bs k1 (YN m.name (Kg dl m+1) dl) (YN m.name (Jy sl m) sl) (.panic d) S1:=λd h hd=>by rw[<-ae];exact Zve h hd
 clear a3;refine rx @eQ3 ?_;refine clD (ZaT m.name) ?_;refine cVD (ZT u.x (Y8 m.name) 1) ?_ ?_;rintro d S h;obtain⟨ac,rfl,rfl⟩:=YA h;rw[ac,ZHX]at hS;first|refine⟨by first|trivial|exact⟨rfl,trivial⟩,?_⟩|skip
 refine gR0 ?_;refine rh ?_;refine YK ?_;simp only[Eqs,reduceCtorEq,ZHC,reduceIte,ZHz,ZHE,ZHA,Msg.cells,u.x,u.bd,Ck.cells,e1,e3,ZmW];refine rg ?_;refine cV (ZT u.x (!(Zp m.name dl).isSome) 2) ?_ ?_;rintro d S h;obtain⟨ac,rfl,rfl⟩:=YA h;rw[ac,ZHX]at hS;refine gR0 ?_;refine rx (nd2 @eQ3 (nd2 @Zr.eq_1 @eQ1)) ?_;refine cV (ZT u.x (dC (1<=(I m.fields:Int))&&dC ((I m.fields:Int)<=40)) 3) ?_ ?_;rintro d S h;obtain⟨ac,rfl,rfl⟩:=YA h;rw[ac,ZHX]at hS;simp only[ZHG,decide_eq_true_eq]at ac;refine gR0 ?_;refine rg ?_;refine rx (nd2 @eQ3 (nd2 @Zr.eq_1 @eQ1)) ?_;subst au;refine Zd (fr (I m.fields) (λi Q=>∀fl:Int,QJ dl sl m i=true->i<=I m.fields->Q [(2,.loc 2 0),(3,.loc 3 0),(6,.loc 6 0),(50,.d (Zr m.fields)),(51,.d (.i (I m.fields))),(52,.d (.i i))] [(2,[.ptr x 0]),(3,m.cells),(6,[.bool ((m.fields.take i).all λf=>!f.loose)])] (st.upd x (.cells (({ k with field:=fl,m:=m }:Ck).cells bd bs)))) (λn ao=>?_) λbl=>?_);intro i hn fl al hi;refine rg ?_;refine Zc (Zn rfl trivial (λh1=>?_) (λh1=>?_));simp at h1;have hR:=Zrm al hi;have aw:=Zjy (dl:=dl) (sl:=sl) (m:=m) (i:=i);have ag:=Zsj (p:=λf:Fld=>!f.loose) h1;generalize hf:m.fields.getD i dE=f at *;refine xA (nd2 @Zr.eq_1 (nd2 @eQ1 (nd2 @eQ0 @hf))) ?_;refine rx (nd2 @eQ0 (nd2 @Ck.cells.eq_1 (nd2 @ZHB (nd2 @ZHO (nd2 @Yp @Yq))))) ?_;have bj:=hst.updX ({ k with field:=(i:Int),m:=m }:Ck);refine rx @eQ0 ?_;simp only[ZdF];refine cV (ZlF bj (n:=i) rfl hi f (hR _)) ?_ ?_;rintro d S2 h;obtain⟨aj,rfl,rfl⟩:=YA h;refine gR0 ?_;refine rx @eQ0 ?_;refine gA ?_;rw[show(m.fields.take i)=({ k with field:=(i:Int),m:=m }:Ck).m.fields.take i from rfl]at aw;rw[aj,Bool.and_true]at aw;refine Ze ?_;have ai:=ao ((I m.fields)-(i+1)) ω (i+1) rfl i (aw.trans al) ω;rw[ag]at ai;exact ai;rintro d S2 h;obtain⟨aj,ad,rfl⟩:=Yz h;rw[Zrl h1 (by rw[hf];exact aj),ZH8]at hS;exact hF.pan _ ZHw (Zve hS ad);simp at h1;obtain rfl:i=I m.fields:=ω;rw[ZH0];rw[al,ZHX]at hS;have av:=ZsW al ω;refine rx (nd2 @Ck.cells.eq_1 (nd2 @ZHB (nd2 @ZHO (nd2 @Yp @Yq)))) ?_;refine rg ?_;refine Zc (Zc ?_);refine xP 2 λz2 h2=>?_;refine xP 6 λz6 h6=>?_;refine xP 9 λz9 h9=>?_;have k6:=Zo h6;have k9:=Zo h9;have ax:=Zo k9.2;have a4:(st.upd x (.cells [.str k.d.name,YF k.d.msgs,.str k.d.start,.map bd,.map bs,.i k.at_,.i (-1),.str m.name,Zr m.fields]))=S:=ae;rw[a4]at h2 k6 k9 ax⊢;have ab:Qr S z2 z6 z9:=⟨h2,k6,⟨k9.1,ax⟩⟩;clear h6 h9 k6 k9 ax h2;have hlen:(Kj m).length<=1000000:=by have:=ZlB (m.fields.flatMap Yv) [];unfold Kj;simp only[List.length_nil,Nat.zero_add]at this;omega
 have hmst:S.sub (nxS S x z2 z6 z9 (m.fields.all λf=>!f.loose) 0):=ab.sub;rw[show((S.upd z2 (.cells [.ptr x 0])).upd z6 (.cells [.bool (m.fields.all λf=>!f.loose)])).upd z9 (.cells [.i 0])=nxS S x z2 z6 z9 (m.fields.all λf=>!f.loose) 0 from rfl];refine rx @eQ3 ?_;refine cV (Zm6 m av) ?_ ?_;rintro d S2 ⟨y,hy,hd,rfl⟩;cases hd;refine gR0 ?_;refine Zd ?_;have bg:ddS (m.fields.flatMap Yv)=Kj m:=rfl;have a7:=Zke (m.fields.flatMap Yv) (by unfold big;omega) y;rw[bg]at a7;refine KM hF rfl trivial [2,6,9] (by show([2,6,9]:List Nat).Nodup;decide) (W6 hy) a7.Y (λj hj=>rfl) (λ_=>.next)
  (λj a=>a=nxS S x z2 z6 z9 ((m.fields.all λf=>!f.loose)&&((Kj m).take j).all λs=>(Zp s sl).getD false) (((Kj m).take j).foldl (λa s=>max a ((Zp s dl).getD 0)) 0)) ψ ?_ ?_ ?_ ?_ ?_ ?_
 intro j a hj am hB F' ready busy hdr a6 ap;subst hB;simp only[Eqs,reduceCtorEq,ZHC,reduceIte,ZHz,ZHE,ZHA,WL,Kd,Ji,Km,List.isEmpty_nil,List.isEmpty_cons];refine rg ?_;refine a6 λbf=>?_;have ag:=Zsj (p:=λs:Str=>(Zp s sl).getD false) hj;have ar:=Zwa (f:=λa s=>max a ((Zp s dl).getD 0)) (b:=(0:Int)) hj;generalize hnm:(Kj m).getD j dE=nm at *;have e1:=YD (vD:=YW) ZN nm dl;have e2:=YD (vD:=D.bool) ZN nm sl;have e3:=YX ZN nm;simp only[show Kz nm=D.str nm from rfl]at e1 e2 e3;rw[ag,ar]at ap;generalize ((Kj m).take j).foldl (λa s=>max a ((Zp s dl).getD 0)) 0=dp at *;generalize ((Kj m).take j).all (λs=>(Zp s sl).getD false)=sb at *;generalize (m.fields.all λf=>!f.loose)=lo at *;refine rh ?_;refine YK ?_;simp only[Eqs,reduceCtorEq,ZHC,reduceIte,ZHz,ZHE,ZHA,Zt (ab.g2 ),Zt (Qr.g9 ),Zt (ab.gs u.x),Zt (ab.gs u.bd),Ck.cells,e1,e3,ZeI,W8,Qr.u9];refine rh ?_;refine Zm ?_;simp only[Eqs,reduceCtorEq,ZHC,reduceIte,ZHz,ZHE,ZHA,Zt (ab.g2 ),Zt (ab.g6 ),Zt (ab.gs u.x),Zt (ab.gs u.bs),Ck.cells,e2,e3,ZmV,W8,ab.u6];refine Zs ?_;exact ap.fin ⟨rfl,by rw[<-Bool.and_assoc]⟩ (Qr.disj bf) ZHw;intro q a am hB hq;subst hB;rw[ZH0]at hq⊢;rw[Qn hq];rw[show((m.fields.all λf=>!f.loose)&&(Kj m).all λs=>(Zp s sl).getD false)=Jy sl m from rfl,show(Kj m).foldl (λa s=>max a ((Zp s dl).getD 0)) 0=Kg dl m from rfl]at hq⊢;have hdp:=ZiM (m:=m) hdl;generalize Jy sl m=sb at *;generalize Kg dl m=dp at *;have ay:=Zt (t:=ZH1 q .dfr) (ab.g2 (x:=x) (sb:=sb) (dp:=dp));have bb:=Zt (t:=ZH1 q .dfr) (ab.g6 (x:=x) (sb:=sb) (dp:=dp));have az:=Zt (t:=ZH1 q .dfr) (Qr.g9 (s1:=S) (x:=x) (z2:=z2) (z6:=z6) (z9:=z9) (sb:=sb) (dp:=dp));have a0:=Zt (t:=ZH1 q .dfr) (ab.gs (x:=x) (sb:=sb) (dp:=dp) u.x);have bc:=Zt (t:=ZH1 q .dfr) (ab.gs (x:=x) (sb:=sb) (dp:=dp) u.bd);have be:=Zt (t:=ZH1 q .dfr) (ab.gs (x:=x) (sb:=sb) (dp:=dp) u.bs);generalize hX:(nxS S x z2 z6 z9 sb dp).or (ZH1 q .dfr)=X at *;have n2:∀b o,S b=sO o->z2≠b:=λb o h e=>by rw[<-e,ab.n2]at h;simp at h
 have n6:∀b o,S b=sO o->z6≠b:=λb o h e=>by rw[<-e,ab.n6.2]at h;simp at h
 have n9:∀b o,S b=sO o->z9≠b:=λb o h e=>by rw[<-e,ab.n9.2.2]at h;simp at h
 have u2:∀(Y:St) o,(Y.upd bd o) z2=Y z2:=λY o=>ZHD _ _ (n2 _ _ u.bd);have u6:∀(Y:St) o,(Y.upd bd o) z6=Y z6:=λY o=>ZHD _ _ (n6 _ _ u.bd);have u9:∀(Y:St) o,(Y.upd bd o) z9=Y z9:=λY o=>ZHD _ _ (n9 _ _ u.bd);have ux:∀(Y:St) o,(Y.upd bd o) x=Y x:=λY o=>ZHD _ _ a9.1;have us:∀(Y:St) o,(Y.upd bd o) bs=Y bs:=λY o=>ZHD _ _ hdd.symm;have v2:∀(Y:St) o,(Y.upd bs o) z2=Y z2:=λY o=>ZHD _ _ (n2 _ _ u.bs);have v6:∀(Y:St) o,(Y.upd bs o) z6=Y z6:=λY o=>ZHD _ _ (n6 _ _ u.bs);have v9:∀(Y:St) o,(Y.upd bs o) z9=Y z9:=λY o=>ZHD _ _ (n9 _ _ u.bs);have vx:∀(Y:St) o,(Y.upd bs o) x=Y x:=λY o=>ZHD _ _ a9.2;have d1:=Zqq (vD:=YW) ZN m.name (D.i 0) dl;have d2:=JX (vD:=YW) ZN m.name (dp+1) dl;have s1:=Zqq (vD:=D.bool) ZN m.name (D.bool false) sl;have s2:=JX (vD:=D.bool) ZN m.name sb sl;simp only[show Kz m.name=D.str m.name from rfl,show YW (dp+1)=D.i (dp+1) from rfl]at d1 d2 s1 s2;refine xA (nd2 @eQ3 (nd2 @ay (nd2 @bb (nd2 @az (nd2 @a0 (nd2 @bc (nd2 @be (nd2 @u2 (nd2 @u6 (nd2 @u9 (nd2 @ux (nd2 @us (nd2 @v2 (nd2 @v6 (nd2 @v9 (nd2 @vx (nd2 @d1 (nd2 @d2 (nd2 @s1 (nd2 @s2 (nd2 @e3 (nd2 @Ck.cells.eq_1 (nd2 @ZHB (nd2 @ZHO (nd2 @Yp @Yq))))))))))))))))))))))))) ?_;refine rx (nd2 @u2 (nd2 @v2 (nd2 @ay (nd2 @u9 (nd2 @v9 @az))))) ?_;have a5:(X.upd bd (.map (WJ Kz YW (YN m.name (dp+1) dl)))).upd bs (.map (WJ Kz D.bool (YN m.name sb sl)))=(nxS ((S.upd bd (.map (Kc (YN m.name (dp+1) dl)))).upd bs (.map (Zei (YN m.name sb sl)))) x z2 z6 z9 sb dp).or (ZH1 q .dfr):=by rw[<-hX,W8,W8,ab.ub u.bd,(ab.of u.bd).ub (by rw[us];exact u.bs)]
 have aq:Qr ((S.upd bd (.map (Kc (YN m.name (dp+1) dl)))).upd bs (.map (Zei (YN m.name sb sl)))) z2 z6 z9:=(ab.of u.bd).of (by rw[us];exact u.bs);have ba:(nxS ((S.upd bd (.map (Kc (YN m.name (dp+1) dl)))).upd bs (.map (Zei (YN m.name sb sl)))) x z2 z6 z9 sb dp) q=nO:=by
  have bh:q≠bs:=λe=>by have:=ab.gs (x:=x) (sb:=sb) (dp:=dp) u.bs;rw[<-e,hq]at this;simp at this
  have bi:q≠bd:=λe=>by have:=ab.gs (x:=x) (sb:=sb) (dp:=dp) u.bd;rw[<-e,hq]at this;simp at this
  rw[<-(ab.of u.bd).ub (by rw[us];exact u.bs),<-ab.ub u.bd,ZHD _ _ bh,ZHD _ _ bi];exact hq
 have bk:((X.upd bd (.map (WJ Kz YW (YN m.name (dp+1) dl)))).upd bs (.map (WJ Kz D.bool (YN m.name sb sl)))) x=sO (.cells (({ k with field:=-1,m:=m }:Ck).cells bd bs)):=by rw[vx,ux];exact a0
 refine cV (ZT bk (dC (dp<16)) 10) ?_ ?_;rintro d S3 h;obtain⟨ak,rfl,rfl⟩:=YA h;rw[ak]at hS;refine gR0 ?_;rw[a5];exact hF.fin1 ba (.tup []) _ rfl trivial (ZHx _) aq.sub (by rw[hS];exact⟨rfl,by rw[<-ae]⟩);rintro d S3 h;obtain⟨ak,ad,rfl⟩:=Yz h;rw[ak]at hS;rw[a5];exact hF.pan1 ba _ aq.sub (by rw[hS];exact⟨⟨d,ad,rfl⟩,λb h1 h2 h3=>by rw[ZHD _ _ h3,ZHD _ _ h2,<-ae,ZHD _ _ h1]⟩);intro q a m hm am af;simp at af;intro q a m id hm am af;simp at af;intro q a m d hm am af;simp at af;intro m c af;simp at af;rintro d S2 ⟨y,hy,hd,_⟩;cases hd;have a8:=bl _ 0 rfl (-1) (by simp[QJ]) ω;rw[ae]at a8;exact a8;rintro d S h;obtain⟨ac,ad,rfl⟩:=Yz h;rw[ac,ZH8]at hS;exact hF.pan _ ZHw (ah _ hS ad);rintro d S h;obtain⟨ac,ad,rfl⟩:=Yz h;rw[ac,ZH8]at hS;exact hF.pan _ ZHw (ah _ hS ad);rintro d S h;obtain⟨ac,ad,rfl⟩:=Yz h;rw[ac,ZH8]at hS;exact hF.pan _ ZHw (ah _ hS ad)
def Zqi{P}{F:Fr P}{H L d s}(h:DWf d->Y4 F H L d s):Y4 F H L d s :=
 λg Z w v i tmps u m t=>h t.wf g Z w v i tmps u m t
def DWf.iface_inv{t d}(h:DWf (.iface t d)):DWf d:=by
 cases h with
 |iface _ _ h=>exact h
 |other _ h=>exact absurd h ψ
def Zbp{P i args m s Ψ Ψ'}(h:JY P i args m s Ψ)(hi:∀b S,Ψ b S->Ψ' b S):JY P i args m s Ψ' :=
 ⟨h.1,λg w vs cf cs h1 h2 h3=>by
  obtain⟨g',w',s',b,a1,a2,t,u⟩:=h.2 g w vs cf cs h1 h2 h3;exact⟨g',w',s',b,a1,a2,hi _ _ t,u⟩⟩
def ZgS{z3 z4 c b st}(h3:st z3=sO c)(h4:st z4=sO (.cells [.bool b])):
  JY ZHv 207 [.ptr z3 0,.ptr z4 0] nO st λ_ S=>S=st:=by
 refine Zb5 (cR 207 f207) rfl ψ λF i=>?_;refine rg ?_;refine Zgp i rfl rfl ?_;refine gR0 ?_;refine rg ?_;refine cd (λh=>?_) (λh=>?_);simp at h;refine ZI ?_;exact i.fin ZHw rfl
def ZgT{z3 z4 b st}(hz:z3≠z4)(x y z)(hx:inR .i64 x)(hy:inR .i64 y)(hw:inR .i64 z)(h3:st z3=sO (.cells [.i 0,.i 0,.i 0]))(u:st z4=sO (.cells [.bool b])):
  JY ZHv 207 [.ptr z3 0,.ptr z4 0] (sO (Zh5 x y z)) st λb S=>b=true/\S=(st.upd z3 (.cells [.i x,.i y,.i z])).upd z4 (.cells [.bool true]):=by
 refine Zb5 (cR 207 f207) rfl (by rintro d ⟨⟩;exact⟨hx,hy,hw,trivial⟩) λF hF=>?_;have i:∀o,(st.upd z3 o) z4=sO (.cells [.bool b]):=λo=>by rw[ZHD _ _ (Ne.symm hz)];exact u
 refine rg ?_;refine Znm hF rfl rfl λF2 t=>?_;refine gR0 ?_;refine rx @Zh5.eq_1 ?_;refine cd (λh=>?_) (λh=>?_);refine rx (nd2 @Zh5.eq_1 (nd2 @h3 (nd2 @u (nd2 @i (nd2 @ZHB (nd2 @ZHO (nd2 @Yp @Yq))))))) ?_;refine rx (nd2 @u (nd2 @i (nd2 @ZHB (nd2 @ZHO (nd2 @Yp @Yq))))) ?_;refine cd (λh5=>?_) (λh5=>?_);simp at h5;refine ZI ?_;exact t.fin ZHw ⟨rfl,rfl⟩;simp[Zh5]at h
def ZcF(dl:List (Str×Int))(sl:List (Str×Bool)):List Msg->Option (List (Str×Int)×List (Str×Bool))
 | []=>sO (dl,sl)
 |m::r=>if Zd1 dl sl m then ZcF (YN m.name (Kg dl m+1) dl) (YN m.name (Jy sl m) sl) r else nO
def ZdL(d:Dfn):Bool :=
 Y8 d.name&&((dC (1<=(I d.msgs:Int))&&dC ((I d.msgs:Int)<=60))&&(ZcF [] [] d.msgs).elim false λp=>(Zp d.start p.1).isSome)
def Zmf(dl sl l l'):ZcF dl sl (l++l')=(ZcF dl sl l).elim nO λp=>ZcF p.1 p.2 l':=by
 induction l generalizing dl sl with
 |nil=>rfl
 |cons m r ih =>simp only[List.cons_append,ZcF];split;exact ih _ _;rfl
def ZqX{l:List Msg}{i dl sl}(h:ZcF [] [] (l.take i)=sO (dl,sl))(t:i<I l):ZcF [] [] (l.take (i+1))=if Zd1 dl sl (l.getD i dE) then sO (YN (l.getD i dE).name (Kg dl (l.getD i dE)+1) dl,YN (l.getD i dE).name (Jy sl (l.getD i dE)) sl) else nO:=by
 rw[Yi t,Zmf,h];rfl
def ZAn{l i dl sl}(h:ZcF [] [] (l.take i)=sO (dl,sl))(hi:i<I l)(u:Zd1 dl sl (l.getD i dE)=false):ZcF [] [] l=nO:=by
 have t:=ZqX h hi;rw[u]at t;rw[<-List.take_append_drop (i+1) l,Zmf,t];rfl
structure Zba(S st:St)(x bd bs z3 z4:Nat)(k:Ck)(dl:List (Str×Int))(sl:List (Str×Bool)):Prop where
 ck:Qd S x bd bs k dl sl
 c3:S z3=some (.cells [.i 0,.i 0,.i 0])
 c4:S z4=some (.cells [.bool false])
 sub:st.sub S
 fx:st x=none
 fd:st bd=none
 fs:st bs=none
 f3:st z3=none
 f4:st z4=none
 nd:bd≠bs
 n34:z3≠z4
section
variable {S st:St} {x bd bs z3 z4:Nat} {k:Ck} {dl:List (Str × Int)} {sl:List (Str × Bool)}
def Zba.n3(h:Zba S st x bd bs z3 z4 k dl sl):z3≠x/\z3≠bd/\z3≠bs:=by
 refine⟨λe=>?_,λe=>?_,λe=>?_⟩;have i:=h.c3;rw[e,h.ck.x]at i;simp[Ck.cells]at i;have i:=h.c3;rw[e,h.ck.bd]at i;simp at i;have i:=h.c3;rw[e,h.ck.bs]at i;simp at i
def Zba.n4(h:Zba S st x bd bs z3 z4 k dl sl):z4≠x/\z4≠bd/\z4≠bs:=by
 refine⟨λe=>?_,λe=>?_,λe=>?_⟩;have i:=h.c4;rw[e,h.ck.x]at i;simp[Ck.cells]at i;have i:=h.c4;rw[e,h.ck.bd]at i;simp at i;have i:=h.c4;rw[e,h.ck.bs]at i;simp at i
def Zba.move(h:Zba S st x bd bs z3 z4 k dl sl){S':St}{k':Ck}{dl':List (Str×Int)}{sl':List (Str×Bool)}(t:Qd S' x bd bs k' dl' sl')(i:∀b,b≠x->b≠bd->b≠bs->S' b=S b):Zba S' st x bd bs z3 z4 k' dl' sl':={
 ck:=t
 c3:=by rw[i _ h.n3.1 h.n3.2.1 h.n3.2.2];exact h.c3
 c4:=by rw[i _ h.n4.1 h.n4.2.1 h.n4.2.2];exact h.c4
 sub b o hb:=by rw[i b (λe=>by rw[e,h.fx]at hb;simp at hb) (λe=>by rw[e,h.fd]at hb;simp at hb) (λe=>by rw[e,h.fs]at hb;simp at hb)];exact h.sub b o hb
 fx:=h.fx
 fd:=h.fd
 fs:=h.fs
 f3:=h.f3
 f4:=h.f4
 nd:=h.nd
 n34:=h.n34 }
def Zba.updX(h:Zba S st x bd bs z3 z4 k dl sl)(k'):Zba (S.upd x (.cells (k'.cells bd bs))) st x bd bs z3 z4 k' dl sl :=
 h.move (h.ck.updX k') λb i _ _=>ZHD _ _ i
def Zba.bad(h:Zba S st x bd bs z3 z4 k dl sl){S':St}(ho:∀b,b≠x->b≠bd->b≠bs->S' b=S b){F:Fr ZHv}(hF:YJ F [.tmp 2,.cellN 3 3,.cell1 4] (λr S=>S=st/\∃a f c,r=Res.ret (.tup [.any,.agg [.i a,.i f,.i c],.bool true])) [.fn 207 [] [.ptr z3 0,.ptr z4 0]]){d:D}(hd:Zdz d)(hr:∀s' c3,s' z3=sO (.cells c3)->I c3=3->s' z4=sO (.cells [.bool true])->∃p,YC H L s' [.tmp 2,.cellN 3 3,.cell1 4]=sO (p,[.ptr x 0,.agg c3,.bool true])/\p):Y4 F H L d S':=by
 obtain⟨a,f,c,rfl⟩:=hd;refine Zqi λhw=>?_;have i:=DWf.agg_inv (DWf.iface_inv hw);have h1:inR .i64 a:=(i _ ψ).int_inv;have h2:inR .i64 f:=(i _ ψ).int_inv;have h3:inR .i64 c:=(i _ ψ).int_inv;have ab:S' z3=sO (.cells [.i 0,.i 0,.i 0]):=by rw[ho _ h.n3.1 h.n3.2.1 h.n3.2.2];exact h.c3
 have ac:S' z4=sO (.cells [.bool false]):=by rw[ho _ h.n4.1 h.n4.2.1 h.n4.2.2];exact h.c4
 refine hF.panU ⟨trivial,⟨rfl,rfl,trivial⟩,Zbp (ZgT h.n34 a f c h1 h2 h3 ab ac) ?_⟩;rintro b S2 ⟨rfl,rfl⟩;obtain⟨p,t,u⟩:=hr ((S'.upd z3 (.cells [.i a,.i f,.i c])).upd z4 (.cells [.bool true])) [.i a,.i f,.i c] (by rw[ZHD _ _ h.n34,ZHB]) rfl (ZHB _ _ _);refine⟨p,_,_,st,t,u,?_,?_,rfl,a,f,c,rfl⟩;exact Zpc rfl (.cons (λ_ _ v _=>.any v) (LeC.refl _));intro b o hb;have e1:b≠z3:=λe=>by rw[e,h.f3]at hb;simp at hb
 have e2:b≠z4:=λe=>by rw[e,h.f4]at hb;simp at hb
 rw[ZHD _ _ e2,ZHD _ _ e1];rw[ho b (λe=>by rw[e,h.fx]at hb;simp at hb) (λe=>by rw[e,h.fd]at hb;simp at hb) (λe=>by rw[e,h.fs]at hb;simp at hb)];exact h.sub b o hb
end
def Zba.mk0{st bd bs x z3 z4 c}(u:st bd=nO)(hbs:st.upd bd (.map []) bs=nO)(hx:(st.upd bd (.map [])).upd bs (.map []) x=nO)(h3:((st.upd bd (.map [])).upd bs (.map [])).upd x (.cells c) z3=nO)(h4:(((st.upd bd (.map [])).upd bs (.map [])).upd x (.cells c)).upd z3 (.cells [.i 0,.i 0,.i 0]) z4=nO)(k):
  ((((st.upd bd (.map [])).upd bs (.map [])).upd x (.cells c)).upd z3 (.cells [.i 0,.i 0,.i 0])).upd z4 (.cells [.bool false]) x=sO (.cells c) /\
  Zba ((((((st.upd bd (.map [])).upd bs (.map [])).upd x (.cells c)).upd z3 (.cells [.i 0,.i 0,.i 0])).upd z4 (.cells [.bool false])).upd x (.cells (k.cells bd bs))) st x bd bs z3 z4 k [] []:=by
 have a4:=Zo h4;have b4:=Zo a4.2;have c4:=Zo b4.2;have d4:=Zo c4.2;have a3:=Zo h3;have b3:=Zo a3.2;have c3:=Zo b3.2;have ax:=Zo hx;have t:=Zo ax.2;have i:=Zo hbs;refine⟨?_,⟨⟨?_,?_,?_⟩,?_,?_,?_,?_,?_,?_,?_,?_,?_,?_⟩⟩;rw[ZHD _ _ b4.1.symm,ZHD _ _ a3.1.symm,ZHB];exact ZHB _ _ _;rw[ZHD _ _ t.1.symm,ZHD _ _ d4.1.symm,ZHD _ _ c3.1.symm,ZHD _ _ t.1.symm,ZHD _ _ i.1.symm,ZHB];rfl;rw[ZHD _ _ ax.1.symm,ZHD _ _ c4.1.symm,ZHD _ _ b3.1.symm,ZHD _ _ ax.1.symm,ZHB];rfl;rw[ZHD _ _ a3.1,ZHD _ _ a4.1.symm,ZHB];rw[ZHD _ _ b4.1,ZHB];intro b o hb;have e:∀y,st y=nO->b≠y:=λy hy e=>by rw[e,hy]at hb;simp at hb
 rw[ZHD _ _ (e _ t.2),ZHD _ _ (e _ d4.2),ZHD _ _ (e _ c3.2),ZHD _ _ (e _ t.2),ZHD _ _ (e _ i.2),ZHD _ _ (e _ u)];exact hb;exact t.2;exact u;exact i.2;exact c3.2;exact d4.2;exact i.1.symm;exact a4.1.symm
def Zwj{c:List D}(h:I c=3):∃a b d,c=[a,b,d]:=by
 match c,h with
 | [a,b,d],_=>exact⟨a,b,d,rfl⟩
def Zkf(d st):
  Za ZHv 164 [.agg d.cells] st λr S=>S=st/\∃a f c,r=.ret (.tup [.any,.agg [.i a,.i f,.i c],.bool (!ZdL d)]):=by
 refine Zb (cR 164 f164) λF hF=>?_;have hS:=ZdL.eq_1 d;refine rx @eQ2 ?_;refine rx @eQ2 ?_;intro bd aj bs ak;refine Zc ?_;refine xP 13 λx hx=>?_;refine xP 3 λz3 h3=>?_;refine xP 4 λz4 h4=>?_;refine rg ?_;refine Zmq (by obtain⟨_,_,_,_,_,_,rfl⟩:=hF;rfl) rfl rfl rfl rfl rfl rfl trivial trivial ?_ ?_ ?_;trivial;exact⟨rfl,rfl,trivial⟩;have ac:=hF.defer 207 [] [.ptr z3 0,.ptr z4 0];clear hF;refine gR0 ?_;generalize F.defer 207 [] [.ptr z3 0,.ptr z4 0]=F at ac⊢;obtain⟨au,ab⟩:=Zba.mk0 aj ak hx h3 h4 ⟨d,-1,-1,⟨[],[]⟩⟩;refine KL au (ds':=Ck.cells ⟨d,-1,-1,⟨[],[]⟩⟩ bd bs) (.cons (ZHx _) (.cons (ZHx _) (.cons (ZHx _) (.cons (ZHx _) (.cons (ZHx _) (.cons (ZHx _) (.cons (ZHx _) (.cons (ZHx _) (.cons (YL λb h=>by cases h) .nil))))))))) ?_;generalize (ZH7 (ZH7 (ZH7 (ZH7 (ZH7 (ZH7 st _ _) _ _) _ _) _ _) _ _) _ _)=S at *;clear aj ak hx h3 h4 au;refine rx @eQ2 ?_;refine cl (ZaT d.name) ?_;refine cV (ZT ab.ck.x (Y8 d.name) 1) ?_ ?_;rintro dd S2 h;obtain⟨u,rfl,rfl⟩:=YA h;rw[u,ZHX]at hS;refine gR0 ?_;refine rx (nd2 @eQ2 (nd2 @YF.eq_1 @eQ1)) ?_;refine cV (ZT ab.ck.x (dC (1<=(I d.msgs:Int))&&dC ((I d.msgs:Int)<=60)) 3) ?_ ?_;rintro dd S2 h;obtain⟨u,rfl,rfl⟩:=YA h;rw[u,ZHX]at hS;simp only[ZHG,decide_eq_true_eq]at u;have hlen:=u.2;refine gR0 ?_;refine rx (nd2 @eQ2 (nd2 @YF.eq_1 @eQ1)) ?_;generalize ap:(⟨d,-1,-1,⟨[],[]⟩⟩:Ck)=k0 at *;have aw:k0.d=d:=by rw[<-ap]
 clear ap;refine Zd (fr (I d.msgs) (λi Q=>∀(S:St) (k:Ck) dl sl,Zba S st x bd bs z3 z4 k dl sl->k.d=d->ZcF [] [] (d.msgs.take i)=sO (dl,sl)->(∀s,0<=(Zp s dl).getD 0/\(Zp s dl).getD 0<=16)->i<=I d.msgs->Q [(1,.loc 1 0),(2,.d (.ptr x 0)),(3,.d (.ptr z3 0)),(4,.d (.ptr z4 0)),(33,.d (YF d.msgs)),(34,.d (.i (I d.msgs))),(35,.d (.i i))] [(1,d.cells)] S) (λn ag=>?_) λaz=>?_);intro i hni S k dl sl ab ax ae ah hi;refine rg ?_;refine Zc (Zn rfl trivial (λh1=>?_) (λh1=>?_));simp at h1;refine xA (nd2 @YF.eq_1 (nd2 @eQ1 @eQ3)) ?_;refine rx (nd2 @ab.ck.x (nd2 @Ck.cells.eq_1 (nd2 @ZHB (nd2 @ZHO (nd2 @Yp @Yq))))) ?_;have af:(S.upd x (.cells [.str k.d.name,YF k.d.msgs,.str k.d.start,.map bd,.map bs,.i i,.i k.field,.str k.m.name,Zr k.m.fields]))=S.upd x (.cells (({ k with at_:=i }:Ck).cells bd bs)):=rfl;rw[af];have t:=ab.updX { k with at_:=i };generalize S.upd x (.cells (({ k with at_:=i }:Ck).cells bd bs))=S1 at *;have ao:({ k with at_:=(i:Int) }:Ck).d=d:=ax;clear af ab;generalize ({ k with at_:=i }:Ck)=k1 at *;have ar:=ZqX ae h1;have ay:=ZAn ae h1;generalize hm:d.msgs.getD i dE=m at *;refine rx @hm ?_;rw[show(D.agg [.str m.name,Zr m.fields])=.agg m.cells from rfl];refine cV (ZpL t.ck t.nd ah m) ?_ ?_;rintro dd S2 h;unfold ZeQ at h;split at h;rename_i u;rw[if_pos u]at ar;obtain⟨h4,h5⟩:=h;cases h4;have am:=t.move (S':=S2) (k':={ k1 with field:=-1,m:=m }) (dl':=YN m.name (Kg dl m+1) dl) (sl':=YN m.name (Jy sl m) sl) (by
   subst h5;have aq:=t.ck.ne;exact⟨by rw[ZHD _ _ aq.2,ZHD _ _ aq.1,ZHB],by rw[ZHD _ _ t.nd,ZHB],ZHB _ _ _⟩) (λb h1 h2 h3=>by rw[h5,ZHD _ _ h3,ZHD _ _ h2,ZHD _ _ h1])
 have al:∀s,0<=(Zp s (YN m.name (Kg dl m+1) dl)).getD 0/\(Zp s (YN m.name (Kg dl m+1) dl)).getD 0<=16:=λs=>by
  rw[WU];split;have hd16:=ZiM (m:=m) ah;have:Kg dl m<16:=by unfold Zd1 at u;simp only[ZHG,decide_eq_true_eq]at u;exact u.2.2.2.2
  simp only[ZIc];omega;exact ah s
 clear h5;refine gR0 ?_;refine gA ?_;refine Ze ?_;exact ag ((I d.msgs)-(i+1)) ω (i+1) rfl _ _ _ _ am ao ar al ω;exact absurd h.1 ψ;rintro dd S2 h;unfold ZeQ at h;split at h;exact absurd h.1 ψ;rename_i ai;obtain⟨⟨d2,ad,h4⟩,h5⟩:=h;cases h4;have hb:Zd1 dl sl m=false:=by simpa using ai
 rw[ay hb]at hS;exact t.bad h5 (by rw[hS]at ac;exact ac) ad (λs' c3 h1 h2 h3=>by obtain⟨u1,u2,u3,rfl⟩:=Zwj h2;refine⟨_,by simp only[Eqs,reduceCtorEq,ZHC,reduceIte,ZHz,ZHE,ZHA,YC,Kn,h1,h3];rfl,?_⟩;trivial);simp at h1;obtain rfl:i=I d.msgs:=ω;rw[ZH0]at ae;rw[ae]at hS;simp only[Option.elim]at hS;refine rx (nd2 @ab.ck.x (nd2 @Ck.cells.eq_1 (nd2 @ZHB (nd2 @ZHO (nd2 @Yp @Yq))))) ?_;have af:(S.upd x (.cells [.str k.d.name,YF k.d.msgs,.str k.d.start,.map bd,.map bs,.i (-1),.i k.field,.str k.m.name,Zr k.m.fields]))=S.upd x (.cells (({ k with at_:=-1 }:Ck).cells bd bs)):=rfl;rw[af];have t:=ab.updX { k with at_:=-1 };generalize S.upd x (.cells (({ k with at_:=-1 }:Ck).cells bd bs))=S1 at *;clear af ab;generalize ({ k with at_:=-1 }:Ck)=k1 at *;have e1:=YD (vD:=YW) ZN d.start dl;have e3:=YX ZN d.start;simp only[show Kz d.start=D.str d.start from rfl]at e1 e3;refine rh ?_;refine YK ?_;simp only[Eqs,reduceCtorEq,ZHC,reduceIte,ZHz,ZHE,ZHA,Dfn.cells,t.ck.x,t.ck.bd,Ck.cells,e1,e3,ZmW];refine rg ?_;refine cV (ZT t.ck.x (Zp d.start dl).isSome 11) ?_ ?_;rintro dd S2 h;obtain⟨u,rfl,rfl⟩:=YA h;rw[u]at hS;refine gR0 ?_;have av:∀o,(S2.upd z3 o) z4=sO (.cells [.bool false]):=λo=>by rw[ZHD _ _ t.n34.symm];exact t.c4
 refine rx (nd2 @t.c3 (nd2 @t.c4 (nd2 @av (nd2 @ZHB (nd2 @ZHO (nd2 @Yp @Yq)))))) ?_;refine ac.retU ⟨trivial,⟨rfl,rfl,trivial⟩,Zbp (ZgS (by rw[ZHD _ _ t.n34,ZHB]) (ZHB _ _ _)) ?_⟩;rintro b S3 rfl;rw[ite_self];have g3:((S2.upd z3 (.cells [.i 0,.i 0,.i 0])).upd z4 (.cells [.bool false])) z3=sO (.cells [.i 0,.i 0,.i 0]):=by rw[ZHD _ _ t.n34,ZHB]
 have g4:((S2.upd z3 (.cells [.i 0,.i 0,.i 0])).upd z4 (.cells [.bool false])) z4=sO (.cells [.bool false]):=ZHB _ _ _;refine⟨_,[.ptr x 0,.agg [.i 0,.i 0,.i 0],.bool false],.tup [.any,.agg [.i 0,.i 0,.i 0],.bool false],st,by simp only[Eqs,reduceCtorEq,ZHC,reduceIte,ZHz,ZHE,ZHA,YC,Kn,g3,g4];rfl,φ,?_,?_,rfl,0,0,0,by rw[hS];rfl⟩;exact Zpc rfl (.cons (λ_ _ v _=>.any v) (LeC.refl _));intro b o hb;have e1:b≠z3:=λe=>by rw[e,t.f3]at hb;simp at hb
 have e2:b≠z4:=λe=>by rw[e,t.f4]at hb;simp at hb
 rw[ZHD _ _ e2,ZHD _ _ e1];exact t.sub b o hb;rintro dd S2 h;obtain⟨u,ad,rfl⟩:=Yz h;rw[u]at hS;exact t.bad (λ_ _ _ _=>rfl) (by rw[hS]at ac;exact ac) ad (λs' c3 h1 h2 h3=>by obtain⟨u1,u2,u3,rfl⟩:=Zwj h2;refine⟨_,by simp only[Eqs,reduceCtorEq,ZHC,reduceIte,ZHz,ZHE,ZHA,YC,Kn,h1,h3];rfl,?_⟩;trivial);exact az _ 0 rfl _ k0 [] [] ab aw rfl (by simp[Zp]) ω;rintro dd S2 h;obtain⟨u,ad,rfl⟩:=Yz h;rw[u,ZH8]at hS;exact ab.bad (λ_ _ _ _=>rfl) (by rw[hS]at ac;exact ac) ad (λs' c3 h1 h2 h3=>by obtain⟨u1,u2,u3,rfl⟩:=Zwj h2;refine⟨_,by simp only[Eqs,reduceCtorEq,ZHC,reduceIte,ZHz,ZHE,ZHA,YC,Kn,h1,h3];rfl,?_⟩;trivial);rintro dd S2 h;obtain⟨u,ad,rfl⟩:=Yz h;rw[u,ZH8]at hS;exact ab.bad (λ_ _ _ _=>rfl) (by rw[hS]at ac;exact ac) ad (λs' c3 h1 h2 h3=>by obtain⟨u1,u2,u3,rfl⟩:=Zwj h2;refine⟨_,by simp only[Eqs,reduceCtorEq,ZHC,reduceIte,ZHz,ZHE,ZHA,YC,Kn,h1,h3];rfl,?_⟩;trivial)
def ZoB(d st):
  Za ZHv 120 [.agg d.cells] st λr S=>S=st/\∃a f c,r=.ret (.tup [.agg [.i a,.i f,.i c],.bool (!ZdL d)]):=by
 refine Zb (cR 120 f120) λF t=>?_;refine rx @eQ2 ?_;refine rx @eQ2 ?_;rw[show(D.agg [.str d.name,YF d.msgs,.str d.start])=.agg d.cells from rfl];refine cV (Zkf d st) ?_ ?_;rintro i S2 ⟨rfl,a,f,c,h⟩;cases h;refine gR0 ?_;refine rg ?_;exact t.ret _ S2 rfl ψ (ZHx _) ZHw ⟨rfl,a,f,c,rfl⟩;rintro i S2 ⟨_,a,f,c,h⟩;cases h
end Go.DL
