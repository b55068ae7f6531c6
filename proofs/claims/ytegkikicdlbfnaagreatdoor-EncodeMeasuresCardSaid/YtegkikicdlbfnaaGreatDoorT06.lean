/- Lemmas: EvC, EvD, EvE, EvF, EvG, EvH, EvI, EvJ, EvK, EvL, EvM, EvN, EvO, EvP, EvQ, EvS, EvT, EvU, EvV, EvW, EvR, EvY, EvZ, EvLib, EvZa, EvZb, K16a, K16b, K16d. -/
import Derived.Test.YtegkikicdlbfnaaGreatDoorT05
set_option maxHeartbeats 16000000
set_option maxRecDepth 100000
set_option linter.all false
open List renaming length->I
open Option renaming some -> sO, none -> nO
open Inhabited renaming default -> dE
open Decidable renaming decide -> dC
open And renaming intro -> ZH4
open Array renaming getD_eq_getD_getElem? -> ZIN
open Bool renaming and_eq_true -> ZIb, false_and -> ZIE, false_eq_true -> ZIz, or_eq_true -> ZIp
open Go.DL.D.Le renaming refl -> ZH3
open Go.DL.St renaming sub_refl -> ZH2, upd -> ZID, upd_ne -> ZH8, upd_same -> ZH5
open Go.Proofs.Tryz renaming prog -> ZH1
open List renaming append_assoc -> ZIv, append_nil -> ZIy, getD -> ZIg, getElem?_append_left -> ZIB, getElem?_take -> ZII, length_append -> ZIc, length_drop -> ZIG, length_map -> ZIo, length_take -> ZIm, map_cons -> ZIj, map_nil -> ZIA, mem_cons -> ZIF, range -> ZIf
open Nat renaming add_mul -> ZIs, le_refl -> ZIh, mul_le_mul_right -> ZIn
open Option renaming getD_some -> ZIH, map_eq_some_iff -> ZIe, map_some -> ZIx
open Option.some renaming injEq -> ZH0
open Prod.mk renaming injEq -> ZId
namespace Go.DL
open Go
variable [ZsL]
variable {kp:Option (List Nat)}{L:Loc}{H:Env}{s:St}{w:World}{os:List DOp}{ds:List D}{B:List (Nat × Rd)}{dst:Option Nat}{tmps:Array Value}{g:G}{Φ:Res->St->Prop}{Z:Nat->Nat}{xs:List Opd}{side:Prop}{row:Nat->List D}{vs:List V}
def ZpQ:List Nat:=ZIf 32768
def ZDV(P:Program)(N id:Nat)(ops:Array Oper):Ann :=
 match Jt P N ops (ZIf ops.size) with
 |some l =>
  let ds:=ops.toList.map JJ
  match ZtX (l.zip ds) (Zgi ds []) ops.size (ZIf ops.size) []with
  | (od,fl,fk)=>(id+1000000,od)::(id,ZpQ)::(fl.map (λx=>(id+1000000*(x.1+4),x.2))++(match fk with
   | []=>[]
   |_::_=>[(id+3000000,fk)]))
 |none=>[]
def ZgH(P:Program)(N:Nat):Code->Ann
 |.region id ops true=>ZDV P N id ops
 |.seq a b=>ZgH P N a++ZgH P N b
 |.cond _ a b=>ZgH P N a++ZgH P N b
 |.block _ a=>ZgH P N a
 |.loop a=>ZgH P N a
 |.scope a=>ZgH P N a
 |.rangeFunc _ _ a b=>ZgH P N a++ZgH P N b
 |_=>[]
def ZDU(P:Program)(f:FuncId):Ann :=
 match P.funcs[f]? with
 |some fn=>match fn.body with
  |some c=>ZgH P fn.ntmps c
  |none=>[]
 |none=>[]
structure Cx where
 P:Program
 lib:FuncId->Option (S->List V->Option V)
 mu:FuncId->Option Nat->Bool
def Cx.an(C:Cx)(f:FuncId):Ann:=ZDU C.P f
def Cx.df(C:Cx)(f:FuncId):Option DF:=cf C.P (C.an f) f
inductive Dd where
 |mark (q:Nat)
 |fn (i:FuncId) (args caps:List V)
inductive Fk where
 |fn (res:List RV)
 |rnd (l:Nat)
 |dfd (pd:Option V) (rec:Bool)
structure Fm where
 f:FuncId
 n:Nat
 k:Fk
 ds:List Dd
structure Out where
 pan:Bool
 v:V
 U:S
 nx:Nat
abbrev Ih:=Fm->List W2->T W->S->Nat->Option Out
def wV:Option W->Option V
 |some w=>match w with
  |.v x=>sO x
  |_=>nO
 |none=>nO
def YQ:Opd->Bx (T W->Option V)
 |.cst d=>match ofD d with
  |some v=>⟨λ_=>sO v⟩
  |none=>⟨λ_=>nO⟩
 |.tmp t=>⟨λH=>wV ((T.getF t).run H)⟩
def Zcr:List Opd->Bx (T W->Option (List V))
 | []=>⟨λ_=>sO []⟩
 |x::xs=>⟨λH=>match (YQ x).run H with
  |some v=>match (Zcr xs).run H with
   |some vs=>sO (v::vs)
   |none=>nO
  |none=>nO⟩
def ZjZ:Option (Nat×Bool)->Bx (T W->Option Bool)
 |none=>⟨λ_=>sO true⟩
 |some (t,want)=>⟨λH=>match (T.getF t).run H with
  |some w=>match w with
   |.v x=>match x with
    |.bool b=>sO (Zi1 b want)
    |_=>nO
   |.skip=>sO false
   |_=>nO
  |none=>nO⟩
def ZcN:Option Nat->Bx (T W->W->T W)
 |some t=>⟨λH w=>(T.setF t).run (sO w) H⟩
 |none=>⟨λH _=>H⟩
def Zkf:Opd->Bx (T W->Bool)
 |.cst d=>match d with
  |.bool _=>⟨λ_=>true⟩
  |_=>⟨λ_=>false⟩
 |.tmp t=>⟨λH=>match (T.getF t).run H with
  |some w=>match w with
   |.v x=>match x with
    |.bool _=>true
    |_=>false
   |.skip=>true
   |_=>false
  |none=>false⟩
def ZoA:Nat->List V->T W->T W
 |_,[],H=>H
 |i,v::vs,H=>ZoA (i+1) vs (H.set (sO (.v v)) i)
def Zfw:List Nat->List V->T W->T W
 |t::ts,a::as9,H=>Zfw ts as9 (H.set (sO (.v a)) t)
 |_,_,H=>H
def ZgZ(zero:List V)(ps:List (Nat×V))(i:Nat):List V :=
 match ps with
 | []=>zero
 | (k,d)::r=>if Nat.beq k i then ZfS d else ZgZ zero r i
def Zlt(zero:List V)(ps:List (Nat×V)):Nat->Nat->List V
 |0,_=>[]
 |n+1,i=>.agg (ZgZ zero ps i)::Zlt zero ps n (i+1)
def Zfu(s:Nat):List V->Bool
 | []=>true
 |d::r=>Zpz d&&Nat.beq (ZfS d).length s&&Zfu s r
def Zh0(z:List V):Nat->List V
 |0=>[]
 |n+1=>z++Zh0 z n
def u8V(l:List Nat):List V:=l.map λm=>.agg [.int .u8 (Int.ofNat (m % 256))]
def ZA2(U:S)(s:Nat):V->Option (Nat×List V)
 |.nilsl=>sO (0,[])
 |.sl _ m s' rs=>noV (Nat.beq s' s) (sO (m,rs))
 |.str l=>noV (Nat.beq s 1) (sO (I l,u8V l))
 |.msl b o n _ s'=>match ZaY (U.get b) with
  |some cs=>noV (Nat.beq s' s&&Nat.ble (o+n*s) (I cs)) (match Zxp s n (ZbD o cs) with
   |some rs=>sO (n,rs)
   |none=>nO)
  |none=>nO
 |_=>nO
def Zqy(U:S)(t k:Nat):Option S :=
 if Nat.beq t 1 then sO U else match U.get t with
  |some (.tok m)=>noV (Nat.beq m k) (sO (U.set nO t))
  |_=>nO
def ZhS(U:S)(a:V)(n:Nat)(xs:List V):Option S :=
 match a with
 |.ptr b o=>match U.get b with
  |some (.cells cs)=>match ZkQ o n xs cs with
   |some cs'=>sO (U.set (sO (.cells cs')) b)
   |none=>nO
  |some (.buf cs)=>match ZkQ o n xs cs with
   |some cs'=>sO (U.set (sO (.buf cs')) b)
   |none=>nO
  |_=>nO
 |_=>nO
structure R3 where
 v:V
 U:S
 nx:Nat
def Zjw(s:Nat)(U:S)(nx m:Nat)(cs:List V):Option R3:=sO ⟨.msl nx 0 m nO s,U.set (sO (.buf cs)) nx,nx+2⟩
def ZsS(s bytes:Nat)(U:S)(nx m:Nat)(rs:List V):Option R3 :=
 noV (Nat.ble (m*bytes) 140737488355328&&Nat.ble m big) <|match Zos s m rs with
  |some cs=>Zjw s U nx m cs
  |none=>nO
def ZsT(s bytes:Nat)(U:S)(nx t n m:Nat)(rs rs2:List V):Option R3 :=
 noV (Nat.ble ((n+m)*bytes) 140737488355328&&Nat.ble (n+m) big) <|match Zqy U t (n*s) with
  |some U'=>sO ⟨.sl nx (n+m) s (ZpT n rs rs2),U'.set (sO (.tok ((n+m)*s))) nx,nx+1⟩
  |none=>nO
def ZzM(mu:Bool)(s bytes:Nat)(U:S)(nx:Nat)(x:V)(m:Nat)(rs2:List V):Option R3 :=
 match x with
 |.nilsl=>if mu&&Nat.ble 1 m then ZsS s bytes U nx m rs2 else ZsT s bytes U nx 1 0 m [] rs2
 |.sl t n s' rs=>noV (Nat.beq s' s) <|if mu&&Nat.ble 1 m&&Nat.beq t 1&&Nat.beq n 0 then ZsS s bytes U nx m rs2 else ZsT s bytes U nx t n m rs rs2
 |.msl b o n cap s'=>noV (Nat.beq s' s&&Nat.ble ((n+m)*bytes) 140737488355328&&Nat.ble (n+m) big) <|match Zos s m rs2 with
  |some cs2=>match cap with
   |none=>match U.get b with
    |some (.buf cs)=>noV (Nat.beq o 0) <|match Zbj (n*s) cs with
     |some c1=>Zjw s (U.set nO b) nx (n+m) (ZpT (n*s) c1 cs2)
     |none=>nO
    |_=>nO
   |some cap=>match U.get b with
    |some (.cells cs)=>if Nat.ble (n+m) cap then noV (Nat.beq o 0) <|match ZkQ (n*s) (m*s) cs2 cs with
      |some cs'=>sO ⟨.msl b 0 (n+m) (sO cap) s,U.set (sO (.cells cs')) b,nx⟩
      |none=>nO
     else noV (Nat.ble (o+n*s) (I cs)) <|match Zbj (n*s) (ZbD o cs) with
      |some c1=>Zjw s U nx (n+m) (ZpT (n*s) c1 cs2)
      |none=>nO
    |_=>nO
  |none=>nO
 |_=>nO
def gk:K->Bool
 |.q _ _=>true
 |.pick _ _ _=>true
 |.bsl _ _ _ _ _=>true
 |.s2b _=>true
 |.append ..=>true
 |.clear ..=>true
 |_=>false
def mp2(x:Option V)(f:V->Option R3):Option R3:=match x with
 |some v=>f v
 |none=>nO
def up(x:Option S)(v:V)(nx:Nat):Option R3:=match x with
 |some U=>sO ⟨v,U,nx⟩
 |none=>nO
def ZDG:K->Bool
 |.store1 _ _=>true
 |.storeN _ _ _=>true
 |.mkmap=>true
 |_=>false
def opF(mu dst:Bool):K->Bx (T W->S->Nat->Option R3)
 |.q q xs=>⟨λH U nx=>match (Zcr xs).run H with
  |some vs=>match (Bx.mk (qV q)).run U vs with
   |some v=>sO ⟨v,U,nx⟩
   |none=>nO
  |none=>nO⟩
 |.pick c a b=>⟨λH U nx=>mp2 ((YQ c).run H) λx=>match x with
  |.bool v=>match v with
   |true=>noV ((Zkf b).run H) (mp2 ((YQ a).run H) λy=>match y with
    |.bool y=>sO ⟨.bool y,U,nx⟩
    |_=>nO)
   |false=>noV ((Zkf a).run H) (mp2 ((YQ b).run H) λy=>match y with
    |.bool y=>sO ⟨.bool y,U,nx⟩
    |_=>nO)
  |_=>nO⟩
 |.alloc z=>match ofDs z with
  |some z=>⟨λ_ U nx=>noV dst (sO ⟨.ptr nx 0,U.set (sO (.cells z)) nx,nx+1⟩)⟩
  |none=>⟨λ_ _ _=>nO⟩
 |.box x=>⟨λH U nx=>noV dst (mp2 ((YQ x).run H) λv=>noV (Zpz v) (sO ⟨.ptr nx 0,U.set (sO (.cells (ZfS v))) nx,nx+1⟩))⟩
 |.bsl len n z is xs=>match ofDs z with
  |some z=>⟨λH U nx=>match (Zcr xs).run H with
   |some vs=>noV (Zfu n vs&&Nat.beq (I z) n) (if mu&&dst&&Nat.ble 1 len then match Zos n len (Zlt z (is.zip vs) len 0) with
     |some cs=>sO ⟨.msl nx 0 len (sO len) n,U.set (sO (.cells cs)) nx,nx+1⟩
     |none=>nO
    else sO ⟨.sl 1 len n (Zlt z (is.zip vs) len 0),U,nx⟩)
   |none=>nO⟩
  |none=>⟨λ_ _ _=>nO⟩
 |.s2b x=>⟨λH U nx=>mp2 ((YQ x).run H) λv=>match v with
  |.str l=>sO ⟨.sl 0 (I l) 1 (u8V l),U,nx⟩
  |_=>nO⟩
 |.store1 a v=>⟨λH U nx=>noV (!dst) (mp2 ((YQ a).run H) λa=>mp2 ((YQ v).run H) λx=>noV (ZxJ x) (up (ZhS U a 1 [x]) .nilsl nx))⟩
 |.storeN n a v=>⟨λH U nx=>noV (!dst) (mp2 ((YQ a).run H) λa=>mp2 ((YQ v).run H) λx=>match x with
  |.agg xs=>up (ZhS U a n xs) .nilsl nx
  |_=>nO)⟩
 |.mkmap=>⟨λ_ U nx=>noV dst (sO ⟨.map nx,U.set (sO (.map [])) nx,nx+1⟩)⟩
 |.mkslice _ n bytes z l h=>match ofDs z with
  |some z=>⟨λH U nx=>noV dst (mp2 ((YQ l).run H) λl=>mp2 ((YQ h).run H) λh=>match l with
   |.int _ l=>match h with
    |.int _ h=>noV (leI 0 l&&leI l h&&leI (Int.mul bytes h) 140737488355328&&leI h big) (sO ⟨.msl nx 0 l.toNat (sO h.toNat) n,U.set (sO (.cells (Zh0 z h.toNat))) nx,nx+1⟩)
    |_=>nO
   |_=>nO)⟩
  |none=>⟨λ_ _ _=>nO⟩
 |.mapupd kp m k v=>⟨λH U nx=>noV (!dst) (mp2 ((YQ m).run H) λm=>mp2 ((YQ k).run H) λk=>mp2 ((YQ v).run H) λv=>match m with
  |.map b=>match U.get b with
   |some (.map es)=>noV (Zej kp k k).isSome (match ZqA kp k v es with
    |some es'=>sO ⟨.nilsl,U.set (sO (.map es')) b,nx⟩
    |none=>nO)
   |_=>nO
  |_=>nO)⟩
 |.delete kp m k=>⟨λH U nx=>noV (!dst) (mp2 ((YQ m).run H) λm=>mp2 ((YQ k).run H) λk=>match m with
  |.map b=>match U.get b with
   |some (.map es)=>noV (Zej kp k k).isSome (match Ztk kp k es with
    |some es'=>sO ⟨.nilsl,U.set (sO (.map es')) b,nx⟩
    |none=>nO)
   |_=>nO
  |_=>nO)⟩
 |.mapent kp z m k=>match ofD z with
  |some z=>⟨λH U nx=>noV dst (mp2 ((YQ m).run H) λm=>mp2 ((YQ k).run H) λk=>match m with
   |.map b=>match U.get b with
    |some (.map es)=>noV (Zej kp k k).isSome (match Ztq kp k z es with
     |some v=>sO ⟨.tup [v,.stamp nx],U.set (sO (.mapE kp es k nx)) b,nx+1⟩
     |none=>nO)
    |_=>nO
   |_=>nO)⟩
  |none=>⟨λ_ _ _=>nO⟩
 |.entst m st v=>⟨λH U nx=>noV (!dst) (mp2 ((YQ m).run H) λm=>mp2 ((YQ st).run H) λst=>mp2 ((YQ v).run H) λv=>match m with
  |.map b=>match st with
   |.stamp n=>match U.get b with
    |some (.mapE kp es k n')=>noV (Nat.beq n n') (match ZqA kp k v es with
     |some es'=>sO ⟨.nilsl,U.set (sO (.map es')) b,nx⟩
     |none=>nO)
    |_=>nO
   |_=>nO
  |_=>nO)⟩
 |.clear s z x=>match ofDs z with
  |some z=>⟨λH U nx=>mp2 ((YQ x).run H) λx=>match x with
   |.msl b o n _ s'=>noV (Nat.beq s' s) (up (ZhS U (.ptr b o) (n*s) (Zh0 z n)) (.tup []) nx)
   |_=>nO⟩
  |none=>⟨λ_ _ _=>nO⟩
 |.fork k=>match ZDG k with
  |true=>opF mu dst k
  |false=>⟨λ_ _ _=>nO⟩
 |.append _ s bytes _ x y=>⟨λH U nx=>mp2 ((YQ x).run H) λx=>mp2 ((YQ y).run H) λy=>match ZA2 U s y with
  |some (m,rs2)=>ZzM mu s bytes U nx x m rs2
  |none=>nO⟩
 |_=>⟨λ_ _ _=>nO⟩
def rvV(H:T W)(U:S):RV->Option V
 |.tmp t=>(YQ (.tmp t)).run H
 |.cell1 t=>match (YQ (.tmp t)).run H with
  |some a=>qV .load1 U [a]
  |none=>nO
 |.cellN t n=>match (YQ (.tmp t)).run H with
  |some a=>qV (.loadN n) U [a]
  |none=>nO
def Zue(H:T W)(U:S):List RV->Option (List V)
 | []=>sO []
 |r::rs=>match rvV H U r with
  |some v=>match Zue H U rs with
   |some vs=>sO (v::vs)
   |none=>nO
  |none=>nO
def mkV:List V->V
 | [v]=>v
 |vs=>.tup vs
def Zse(C:Cx)(f:FuncId):Bx (Ih->List V->S->Nat->Option Out) :=
 match C.df f with
 |some df=>⟨λih args U nx=>ih ⟨f,df.n,.fn df.res,[]⟩ [.code df.body] (ZoA 0 args T.nil) U nx⟩
 |none=>⟨λ_ _ _ _=>nO⟩
def Zia(C:Cx)(f:FuncId):Bx (Ih->List V->S->Nat->Option Out) :=
 match C.lib f with
 |some g=>⟨λih args U nx=>match g U args with
  |some v=>sO ⟨false,v,U,nx⟩
  |none=>(Zse C f).run ih args U nx⟩
 |none=>Zse C f
def Zn0(C:Cx)(ih:Ih)(f:V)(args:List V)(U:S)(nx:Nat):Option Out :=
 match f with
 |.fn f first caps=>(Zia C f).run ih (first++(args++caps)) U nx
 |.yield l=>match U.get l with
  |some (.loop f n ps a b H nO false)=>noV (Nat.beq (I args) (I ps)) (ih ⟨f,n,.rnd l,[]⟩ [.code a,.beginR,.code b] (Zfw ps args H) U nx)
  |_=>nO
 |_=>nO
def Zxo:V->Bool
 |.int k n=>ZwW k n
 |.bool _=>true
 |.str l=>Nat.ble (I l) big
 |.nilsl=>true
 |.nilptr=>true
 |.ptr _ _=>true
 |.map _=>true
 |.nilmap=>true
 |.nilfn=>true
 |.niliface=>true
 |_=>false
def ZlG:List V->Bool
 | []=>true
 |v::r=>Zxo v&&ZlG r
def Zxn:Option V->Bool
 |some x=>match x with
  |.iface _ v=>match v with
   |.agg cs=>ZlG cs
   |v=>Zxo v
  |_=>false
 |none=>true
def ZnI(C:Cx)(ih:Ih):List Dd->Option V->S->Nat->Option (Option V×S×Nat)
 | [],m,U,nx=>sO (m,U,nx)
 |.mark q::r,m,U,nx=>match U.get q with
  |some .dfr=>ZnI C ih r m (U.set nO q) nx
  |_=>nO
 |.fn i args caps::r,m,U,nx=>match C.df i with
  |some ⟨n,[],body⟩=>noV (Zxn m) <|match ih ⟨i,n,.dfd m false,[]⟩ [.code body] (ZoA 0 (args++caps) T.nil) U nx with
   |some ⟨false,.bool b,U',nx'⟩=>ZnI C ih r (if b then nO else m) U' nx'
   |_=>nO
  |_=>nO
def loopTo(U:S)(l:Nat)(st:Option DC)(now busy:Bool):Option S :=
 match U.get l with
 |some (.loop f n ps a b H nO bs)=>noV (bs==now) (sO (U.set (sO (.loop f n ps a b H st busy)) l))
 |_=>nO
def Zxm(C:Cx)(ih:Ih)(fm:Fm)(H:T W)(U:S)(nx:Nat)(fell:Bool):Option Out :=
 match fm.k with
 |.fn res=>match ZnI C ih fm.ds nO U nx with
  |some (nO,U',nx')=>match Zue H U' res with
   |some vs=>sO ⟨false,mkV vs,U',nx'⟩
   |none=>nO
  |_=>nO
 |.rnd l=>match loopTo U l (if fell then nO else sO .ret) true false with
  |some U'=>sO ⟨false,.bool fell,U',nx⟩
  |none=>nO
 |.dfd pd rec=>match fm.ds with
  | []=>sO ⟨false,.bool (pd.isNone ||rec),U,nx⟩
  |_=>nO
def Znt(C:Cx)(ih:Ih)(fm:Fm)(H:T W)(v:V)(U:S)(nx:Nat):Option Out :=
 match fm.k with
 |.fn res=>match ZnI C ih fm.ds (sO v) U nx with
  |some (nO,U',nx')=>match Zue H U' res with
   |some vs=>sO ⟨false,mkV vs,U',nx'⟩
   |none=>nO
  |some (sO v,U',nx')=>sO ⟨true,v,U',nx'⟩
  |none=>nO
 |.rnd _=>match C.P.funcs[fm.f]? with
  |some _=>sO ⟨true,v,U,nx⟩
  |none=>nO
 |.dfd _ _=>nO
abbrev Rg:=Ih->List W2->Fm->T W->S->Nat->Option Out
def goF(C:Cx)(f:FuncId)(rest:Bx Rg)(dst:Option Nat)(g:Option (Nat×Bool))(k:K):Bx Rg :=
 match k with
 |.call fx xs=>⟨λih dk fm H U nx=>match (YQ fx).run H with
  |some fv=>match (Zcr xs).run H with
   |some vs=>match Zn0 C ih fv vs U nx with
    |some ⟨pan,v,U',nx'⟩=>match pan with
     |false=>rest.run ih dk fm ((ZcN dst).run H (.v v)) U' nx'
     |true=>Znt C ih fm H v U' nx'
    |none=>nO
   |none=>nO
  |none=>nO⟩
 |.panic x=>⟨λih _ fm H U nx=>match (YQ x).run H with
  |some (.iface t v)=>Znt C ih fm H (.iface t v) U nx
  |_=>nO⟩
 |.defer fx xs=>match g,dst with
  |none,nO=>⟨λih dk fm H U nx=>match (YQ fx).run H,(Zcr xs).run H with
   |some (.fn j first caps),sO vs=>match fm.k with
    |.fn _=>noV (ZlG (first++vs)&&ZlG caps) (rest.run ih dk { fm with ds:=.fn j (first++vs) caps::fm.ds } H U nx)
    |_=>nO
   |_,_=>nO⟩
  |_,_=>⟨λ_ _ _ _ _ _=>nO⟩
 |.recover=>match g with
  |none=>⟨λih dk fm H U nx=>match fm.k with
   |.dfd (sO v) false=>rest.run ih dk { fm with k:=.dfd (sO v) true } ((ZcN dst).run H (.v v)) U nx
   |.dfd nO _=>rest.run ih dk fm ((ZcN dst).run H (.v .niliface)) U nx
   |_=>nO⟩
  |_=>⟨λ_ _ _ _ _ _=>nO⟩
 |k=>match gk k ||g.isNone with
  |true=>⟨λih dk fm H U nx=>match (opF (C.mu f dst) dst.isSome k).run H U nx with
   |some ⟨v,U',nx'⟩=>rest.run ih dk fm ((ZcN dst).run H (.v v)) U' nx'
   |none=>nO⟩
  |false=>⟨λ_ _ _ _ _ _=>nO⟩
def Zqj(C:Cx)(f:FuncId):List DOp->Bx Rg
 | []=>⟨λih dk fm H U nx=>ih fm dk H U nx⟩
 |⟨dst,g,k⟩::os=>match g with
  |none=>goF C f (Zqj C f os) dst g k
  |some _=>⟨λih dk fm H U nx=>match (ZjZ g).run H with
   |some b=>match b with
    |true=>(goF C f (Zqj C f os) dst g k).run ih dk fm H U nx
    |false=>(Zqj C f os).run ih dk fm ((ZcN dst).run H .skip) U nx
   |none=>nO⟩
def Zkc:K->Bool
 |.fork _=>false
 |_=>true
structure Rl where
 cs:List (Nat×List V)
 ad:List (Nat×Nat×Nat)
 bn:List (Nat×Nat)
 bl:List (Nat×Nat)
def Rl.nil:Rl:=⟨[],[],[],[]⟩
def ZjV(u:Nat):List (Nat×Nat×Nat)->Option (Nat×Nat)
 | []=>nO
 | (t,a)::r=>if Nat.beq t u then sO a else ZjV u r
def Kx(l:Nat):List (Nat×List V)->Option (List V)
 | []=>nO
 | (t,c)::r=>if Nat.beq t l then sO c else Kx l r
def ZkP(l:Nat)(vs:List V):List (Nat×List V)->List (Nat×List V)
 | []=>[]
 | (t,c)::r=>if Nat.beq t l then (t,vs)::r else (t,c)::ZkP l vs r
def Zg0(n:Nat):List Nat->Bool
 | []=>false
 |a::r=>if Nat.beq a n then true else Zg0 n r
def ZzI(n:Nat)(l:List Nat):List Nat:=if Zg0 n l then l else n::l
def ZnA(fl:List Nat):List (Nat×Nat)->List Nat
 | []=>[]
 | (t,n)::r=>if Zg0 t fl then ZzI n (ZnA fl r) else ZnA fl r
def Zgd(fl:List Nat):List (Nat×Nat)->List (Nat×Nat)
 | []=>[]
 | (t,n)::r=>if Zg0 t fl then (t,n)::Zgd fl r else Zgd fl r
def noA(u:Nat)(r:Rl):Bool:=match ZjV u r.ad with
 |none=>Nat.blt u 32768
 |some _=>false
def ZeG(dst:Option Nat)(r:Rl):Bool:=match dst with
 |none=>true
 |some t=>noA t r
def Zw5(t:Nat)(r:Rl):Bool:=(match Kx t r.cs with
 |none=>true
 |some _=>false)&&noA t r
def Zlw(fl:List Nat)(r:Rl):Rl:=match fl with
 | []=>⟨r.cs,r.ad,[],[]⟩
 |fl=>⟨r.cs,r.ad,Zgd fl r.bn,Zgd fl r.bl⟩
def Zky:O->Bool
 |.cells _=>true
 |.buf _=>true
 |.map _=>true
 |_=>false
def Zkh:List Nat->S->Option (S×List (Nat×O))
 | [],U=>sO (U,[])
 |k::r,U=>match U.get k with
  |some o=>match Zky o with
   |true=>match Zkh r (U.set (sO (.ro o)) k) with
    |some (U',l)=>sO (U',(k,o)::l)
    |none=>nO
   |false=>match ZbQ o with
    |true=>Zkh r U
    |false=>nO
  |none=>nO
def Zlj:List (Nat×O)->S->Option S
 | [],U=>sO U
 | (k,o)::r,U=>match U.get k with
  |some (.ro _)=>match Zlj r U with
   |some U'=>sO (U'.set (sO o) k)
   |none=>nO
  |_=>nO
def ZAG(fl:List Nat)(r:Rl)(U:S):Option (S×List (Nat×O)):=match fl with
 | []=>sO (U,[])
 |fl=>Zkh (ZnA fl r.bn) U
def ZsM:Opd->Rl->Option (Nat×Nat)
 |.tmp t,r=>ZjV t r.ad
 |.cst _,_=>nO
def ZBc(t:Nat)(v:V)(r:Rl):Rl:=match v with
 |.ptr k _=>⟨r.cs,r.ad,(t,k)::r.bn,r.bl⟩
 |.msl k _ _ _ _=>⟨r.cs,r.ad,(t,k)::r.bn,r.bl⟩
 |.map k=>⟨r.cs,r.ad,(t,k)::r.bn,r.bl⟩
 |_=>r
def rdR(t:Nat)(k:K):Bx (T W->Rl->Rl):=match k with
 |.q q xs=>match YT (.q q xs) with
  |true=>match xs with
   |x::_=>⟨λH r=>match (YQ x).run H with
    |some v=>ZBc t v r
    |none=>r⟩
   | []=>⟨λ_ r=>r⟩
  |false=>⟨λ_ r=>r⟩
 |_=>⟨λ_ r=>r⟩
abbrev RgD:=Rl->Rg
def Zkq(rest:Bx RgD)(dst:Option Nat)(k:K):Bx RgD :=
 ⟨λr ih dk fm H U nx=>match (opF false dst.isSome k).run H U nx with
  |some ⟨v,_,_⟩=>noV (ZeG dst r) (rest.run ((rdR (dst.getD 0) k).run H r) ih dk fm ((ZcN dst).run H (.v v)) U nx)
  |none=>nO⟩
def Ztm(C:Cx)(f:FuncId)(rest:Bx RgD)(dst:Option Nat)(g:Option (Nat×Bool))(fl:List Nat)(k:K):Bx RgD :=
 match gk k ||g.isNone with
 |true=>⟨λr ih dk fm H U nx=>match ZAG fl r U with
  |some (σ0,l)=>match (opF (C.mu f dst) dst.isSome k).run H σ0 nx with
   |some ⟨v,U',nx'⟩=>match Zlj l U' with
    |some σ2=>noV (ZeG dst r) (rest.run (Zlw fl r) ih dk fm ((ZcN dst).run H (.v v)) σ2 nx')
    |none=>nO
   |none=>nO
  |none=>nO⟩
 |false=>⟨λ_ _ _ _ _ _ _=>nO⟩
def adD(rest:Bx RgD)(dst:Option Nat)(l o:Nat):Bx RgD :=
 match dst with
 |some u=>⟨λr ih dk fm H U nx=>noV (noA u r) (rest.run ⟨r.cs,(u,l,o)::r.ad,r.bn,r.bl⟩ ih dk fm ((T.setF u).run nO H) U nx)⟩
 |none=>⟨λ_ _ _ _ _ _ _=>nO⟩
def ZAx(rest:Bx RgD)(dst:Option Nat)(q:Q)(xs:List Opd):Bx (Nat->Nat->RgD) :=
 match q with
 |.mv=>match xs with
  | []=>⟨λl o=>(adD rest dst l o).run⟩
  |_=>⟨λ_ _ _ _ _ _ _ _ _=>nO⟩
 |.nilck=>match xs with
  | []=>⟨λl o=>(adD rest dst l o).run⟩
  |_=>⟨λ_ _ _ _ _ _ _ _ _=>nO⟩
 |.faddr off=>match xs with
  | []=>⟨λl o=>(adD rest dst l (o+off)).run⟩
  |_=>⟨λ_ _ _ _ _ _ _ _ _=>nO⟩
 |.iaddrA m z=>match xs with
  | [x]=>⟨λl o r ih dk fm H U nx=>match (YQ x).run H with
   |some (.int _ i)=>noV (leI 0 i&&!leI m i) ((adD rest dst l (o+i.toNat*z)).run r ih dk fm H U nx)
   |_=>nO⟩
  |_=>⟨λ_ _ _ _ _ _ _ _ _=>nO⟩
 |.load1=>match xs with
  | []=>⟨λl o r ih dk fm H U nx=>match Kx l r.cs with
   |some cs=>match Ziu o cs with
    |some v=>noV (ZeG dst r) (rest.run ⟨r.cs,r.ad,r.bn,(dst.getD 0,l)::r.bl⟩ ih dk fm ((ZcN dst).run H (.v v)) U nx)
    |none=>nO
   |none=>nO⟩
  |_=>⟨λ_ _ _ _ _ _ _ _ _=>nO⟩
 |.loadN n=>match xs with
  | []=>⟨λl o r ih dk fm H U nx=>match Kx l r.cs with
   |some cs=>match Zk3 cs o n with
    |some v=>noV (ZeG dst r) (rest.run ⟨r.cs,r.ad,r.bn,(dst.getD 0,l)::r.bl⟩ ih dk fm ((ZcN dst).run H (.v v)) U nx)
    |none=>nO
   |none=>nO⟩
  |_=>⟨λ_ _ _ _ _ _ _ _ _=>nO⟩
 |_=>⟨λ_ _ _ _ _ _ _ _ _=>nO⟩
def Zuq(rest:Bx RgD)(fl:List Nat)(l o n:Nat)(xs:List V):RgD:=λr ih dk fm H U nx=>match Kx l r.cs with
 |some cs=>match ZkQ o n xs cs with
  |some cs'=>noV (!Zg0 l (ZnA fl r.bl)) (rest.run (Zlw fl ⟨ZkP l cs' r.cs,r.ad,r.bn,r.bl⟩) ih dk fm H U nx)
  |none=>nO
 |none=>nO
def goD(C:Cx)(f:FuncId)(rest:Bx RgD)(dst:Option Nat)(g:Option (Nat×Bool))(fl:List Nat)(k:K):Bx RgD :=
 match k with
 |.call fx xs=>⟨λr ih dk fm H U nx=>match (YQ fx).run H with
  |some fv=>match (Zcr xs).run H with
   |some vs=>match ZAG fl r U with
    |some (σ0,l)=>match Zn0 C ih fv vs σ0 nx with
     |some ⟨pan,v,U',nx'⟩=>match Zlj l U' with
      |some σ2=>match pan with
       |false=>noV (ZeG dst r) (rest.run (Zlw fl r) ih dk fm ((ZcN dst).run H (.v v)) σ2 nx')
       |true=>Znt C ih fm T.nil v σ2 nx'
      |none=>nO
     |none=>nO
    |none=>nO
   |none=>nO
  |none=>nO⟩
 |.panic x=>⟨λ_ ih _ fm H U nx=>match (YQ x).run H with
  |some (.iface t v)=>Znt C ih fm T.nil (.iface t v) U nx
  |_=>nO⟩
 |.defer _ _=>⟨λ_ _ _ _ _ _ _=>nO⟩
 |.recover=>⟨λ_ _ _ _ _ _ _=>nO⟩
 |.fork _=>⟨λ_ _ _ _ _ _ _=>nO⟩
 |.alloc z=>match g,dst,ofDs z with
  |none,sO t,sO z=>⟨λr ih dk fm H U nx=>noV (Zw5 t r) (rest.run ⟨(t,z)::r.cs,(t,t,0)::r.ad,r.bn,r.bl⟩ ih dk fm ((T.setF t).run nO H) U nx)⟩
  |_,_,_=>⟨λ_ _ _ _ _ _ _=>nO⟩
 |.box x=>match g,dst with
  |none,sO t=>⟨λr ih dk fm H U nx=>match (YQ x).run H with
   |some v=>noV (Zpz v&&Zw5 t r&&!Zg0 t (ZnA fl r.bl)) (rest.run (Zlw fl ⟨(t,ZfS v)::r.cs,(t,t,0)::r.ad,r.bn,r.bl⟩) ih dk fm ((T.setF t).run nO H) U nx)
   |none=>nO⟩
  |_,_=>⟨λ_ _ _ _ _ _ _=>nO⟩
 |.store1 a v=>match g,dst with
  |none,nO=>⟨λr ih dk fm H U nx=>match ZsM a r with
   |some (l,o)=>match (YQ v).run H with
    |some x=>noV (ZxJ x) (Zuq rest fl l o 1 [x] r ih dk fm H U nx)
    |none=>nO
   |none=>(Ztm C f rest dst g fl (.store1 a v)).run r ih dk fm H U nx⟩
  |_,_=>⟨λ_ _ _ _ _ _ _=>nO⟩
 |.storeN n a v=>match g,dst with
  |none,nO=>⟨λr ih dk fm H U nx=>match ZsM a r with
   |some (l,o)=>match (YQ v).run H with
    |some (.agg xs)=>Zuq rest fl l o n xs r ih dk fm H U nx
    |_=>nO
   |none=>(Ztm C f rest dst g fl (.storeN n a v)).run r ih dk fm H U nx⟩
  |_,_=>⟨λ_ _ _ _ _ _ _=>nO⟩
 |.q q xs=>match xs with
  |x::ys=>⟨λr ih dk fm H U nx=>match ZsM x r with
   |some (l,o)=>(ZAx rest dst q ys).run l o r ih dk fm H U nx
   |none=>(Zkq rest dst (.q q xs)).run r ih dk fm H U nx⟩
  | []=>Zkq rest dst (.q q xs)
 |k=>match YF k with
  |true=>Zkq rest dst k
  |false=>Ztm C f rest dst g fl k
def ZoX:List (Nat×Nat×Nat)->Nat->Nat->T W->T W
 | [],_,_,H=>H
 | (u,l,o)::r,t,nx,H=>if Nat.beq l t then (ZoX r t nx H).set (sO (.v (.ptr nx o))) u else ZoX r t nx H
def Ztt:List (Nat×List V)->List (Nat×Nat×Nat)->Rg
 | [],_=>λih dk fm H U nx=>ih fm dk H U nx
 | (t,vs)::r,ad=>λih dk fm H U nx=>match ZjV t ad with
  |some (l,_)=>noV (Nat.beq l t) (Ztt r ad ih dk fm (ZoX ad t nx H) (U.set (sO (.cells vs)) nx) (nx+1))
  |none=>nO
def ZlB(C:Cx)(f:FuncId):List (DOp×List Nat)->Bx RgD
 | []=>⟨λr ih dk fm H U nx=>Ztt r.cs r.ad ih dk fm H U nx⟩
 | (⟨dst,g,k⟩,fl)::os=>match k with
  |.fork _=>⟨λ_ _ _ _ _ _ _=>nO⟩
  |k=>match g with
   |none=>goD C f (ZlB C f os) dst g fl k
   |some _=>⟨λr ih dk fm H U nx=>match (ZjZ g).run H with
    |some b=>match b with
     |true=>(goD C f (ZlB C f os) dst g fl k).run r ih dk fm H U nx
     |false=>match k with
      |.alloc _=>nO
      |k=>noV (ZeG dst r) ((ZlB C f os).run (if YF k then r else Zlw fl r) ih dk fm ((ZcN dst).run H .skip) U nx)
    |none=>nO⟩
abbrev Cd:=Ih->Fm->List W2->T W->S->Nat->Option Out
def ZaB(C:Cx)(f:FuncId):DC->Bx Cd
 |.skip=>⟨λih fm k H U nx=>ih fm k H U nx⟩
 |.label _=>⟨λih fm k H U nx=>ih fm k H U nx⟩
 |.seq a b=>⟨λih fm k H U nx=>(ZaB C f a).run ih fm (.code b::k) H U nx⟩
 |.cond c a b=>⟨λih fm k H U nx=>match (YQ c).run H with
  |some v=>match v with
   |.bool t=>match t with
    |true=>(ZaB C f a).run ih fm k H U nx
    |false=>(ZaB C f b).run ih fm k H U nx
   |_=>nO
  |none=>nO⟩
 |.block id a=>⟨λih fm k H U nx=>(ZaB C f a).run ih fm (.inBlock id::k) H U nx⟩
 |.loop a=>⟨λih fm k H U nx=>(ZaB C f a).run ih fm (.inLoop a::k) H U nx⟩
 |.scope a=>⟨λih fm k H U nx=>(ZaB C f a).run ih fm (.inScope a::k) H U nx⟩
 |.exit id=>⟨λih fm k H U nx=>match Q2 id k with
  |some k'=>ih fm k' H U nx
  |none=>match fm.k with
   |.rnd l=>match loopTo U l (sO (.exit id)) true false with
    |some U'=>sO ⟨false,.bool false,U',nx⟩
    |none=>nO
   |_=>nO⟩
 |.goto l=>⟨λih fm k H U nx=>match ZdJ l k with
  |some k'=>ih fm k' H U nx
  |none=>nO⟩
 |.ret=>⟨λih fm _ H U nx=>Zxm C ih fm H U nx false⟩
 |.reg ops kp=>match kp with
  |none=>match ops.all λo=>Zkc o.k with
   |true=>⟨λih fm k H U nx=>(Zqj C f ops).run ih k fm H U nx⟩
   |false=>⟨λ_ _ _ _ _ _=>nO⟩
  |some _=>⟨λ_ _ _ _ _ _=>nO⟩
 |.regD _ ops _=>⟨λih fm k H U nx=>(ZlB C f ops).run Rl.nil ih k fm H U nx⟩
 |.rangeF g ps a b=>⟨λih fm k H U nx=>match fm.k with
  |.fn _=>match (YQ g).run H with
   |some fv=>match Zn0 C ih fv [.yield (nx+1)] ((U.set (sO .dfr) nx).set (sO (.loop fm.f fm.n ps a b H nO false)) (nx+1)) (nx+2) with
    |some ⟨pan,v,U',nx'⟩=>match pan with
     |false=>match U'.get (nx+1) with
      |some (.loop _ _ _ _ _ _ nO false)=>ih { fm with ds:=.mark nx::fm.ds } k H (U'.set nO (nx+1)) nx'
      |some (.loop f' n' _ _ _ _ (sO j) false)=>noV (Nat.beq f' fm.f&&Nat.beq n' fm.n) (ih { fm with ds:=.mark nx::fm.ds } (.code j::k) H (U'.set nO (nx+1)) nx')
      |_=>nO
     |true=>Znt C ih { fm with ds:=.mark nx::fm.ds } H v U' nx'
    |none=>nO
   |none=>nO
  |_=>nO⟩
def step(C:Cx)(ih:Ih)(fm:Fm)(dk:List W2)(H:T W)(U:S)(nx:Nat):Option Out :=
 match dk with
 | []=>Zxm C ih fm H U nx true
 |it::k=>match it with
  |.inBlock _=>ih fm k H U nx
  |.inScope _=>ih fm k H U nx
  |.inLoop c=>(ZaB C fm.f c).run ih fm (.inLoop c::k) H U nx
  |.beginR=>match fm.k with
   |.rnd l=>match loopTo U l nO false true with
    |some U'=>ih fm k H U' nx
    |none=>nO
   |_=>nO
  |.code c=>(ZaB C fm.f c).run ih fm k H U nx
def run(C:Cx)(n:Nat):Ih:=Nat.rec (motive:=λ_=>Ih) (λ_ _ _ _ _=>nO) (λ_ ih=>step C ih) n
def ZBe(a b):UInt8.ofNat a=UInt8.ofNat b↔a % 256=b % 256:=by
 rw[<-UInt8.toNat_inj];simp
def Zoj:∀(a b),eqS a b=dC (a.map UInt8.ofNat=b.map UInt8.ofNat)
 | [],[]=>by simp[eqS]
 | [],b::y=>by simp[eqS]
 |a::x,[]=>by simp[eqS]
 |a::x,b::y=>by simp only[eqS,ZIj,List.cons.injEq,ZBe,Zoj x y];by_cases h:a % 256=b % 256<;>simp
def ZtF:∀(a b),ZdL a b=Op.bytesLess (a.map UInt8.ofNat) (b.map UInt8.ofNat)
 | [],[]=>by simp[ZdL,Op.bytesLess]
 | [],b::y=>by simp[ZdL,Op.bytesLess]
 |a::x,[]=>by simp[ZdL,Op.bytesLess]
 |a::x,b::y=>by
  have i:(UInt8.ofNat a<UInt8.ofNat b)↔a % 256<b % 256:=by rw[UInt8.lt_iff_toNat_lt];simp
  have t:=ZBe a b;simp[ZdL,Op.bytesLess,ZtF x y];by_cases h1:a % 256<b % 256;simp[h1,i];by_cases u:a % 256=b % 256;simp[u,i,t];simp[u,i,t]
section
variable {J:Nm}
def Zo6{k x y i t}(hx:VR J x i)(hy:VR J y t){b}(h:ZlH k x y=sO b):Yk k i t=sO b:=by
 cases k<;>cases hx<;>cases hy<;>simp only[ZlH,reduceCtorEq]at h;split at h<;>simp only[ZH0,reduceCtorEq]at h;rename_i u;obtain rfl:=Zfl u;simp only[Yk,if_true,ZH0];rw[<-ZjP];exact h;simp only[ZH0]at h;simp only[Yk,ZH0];rw[<-Zoj];exact h;simpa only[Yk]using h
def Zjz{xs ys ds es}(hx:VRs J xs ds)(hy:VRs J ys es):∀{l b},Zhr xs ys l=sO b->Wk ds es l=sO b
 | [],b,h=>by simpa only[Zhr,Wk]using h
 | (o,k)::r,b,h=>by simp only[Zhr]at h;split at h<;>(try(simp at h;done));rename_i x y h1 h2;split at h<;>simp only[ZH0,reduceCtorEq]at h;rename_i b1 b2 h3 h4;obtain⟨dx,i,u⟩:=hx.get h1;obtain⟨dy,t,ab⟩:=hy.get h2;simp only[Wk,i,t,Zo6 u ab h3,Zjz hx hy h4,h]
def Zbb{kp x y i t}(hx:VR J x i)(hy:VR J y t){b}(h:Zej kp x y=sO b):Kr kp i t=sO b:=by
 cases kp with
 |sc k=>exact Zo6 hx hy h
 |st l =>cases hx<;>cases hy<;>simp only[Zej,reduceCtorEq]at h;rename_i cs ds u cs' ds' h2;split at h<;>(try(simp at h;done));rename_i hl;simp only[Kr];rw[if_pos ⟨by rw[<-u.len];exact hl.1,by rw[<-h2.len];exact hl.2⟩];exact Zjz u h2 h
def Zgg{kp x i}(u:VR J x i)(h:(Zej kp x x).isSome=true):QD kp i=true:=by
 cases t:Zej kp x x with
 |none=>rw[t]at h;grind
 |some b=>simp[QD,Zbb u u t]
def Zt2{p x y i u}(hx:VR J x i)(hy:VR J y u){b}(h:Zsn p x y=sO b):∃side,YI p i u=sO (side,b)/\side:=by
 cases p<;>cases hx<;>cases hy<;>simp only[Zsn,reduceCtorEq,ZH0]at h;case cells.agg.agg l cs ds h1 cs' ds' h2=>exact⟨True,by simp[YI,Zjz h1 h2 h],trivial⟩
 case sl.sl.nilsl t n s rs τ row h1 h2 h3 =>split at h<;>simp only[ZH0,reduceCtorEq]at h;subst h;exact⟨_,rfl,‹_›⟩
 all_goals (subst h;exact⟨True,rfl,trivial⟩)
def Zca{k n v}(h:ZgU k n=sO v):v=.int k n/\inR k n:=by
 unfold ZgU at h;split at h<;>simp at h;exact⟨h.symm,ZvI ‹_›⟩
def ZCb{op k k' a b v}(hk:Zuh op=true\/k=k')(h:ZAN op k a b=sO v):∃side d,Zau op nO (.int k a) (.int k' b)=sO (side,d)/\side/\VR J v d:=by
 have i:Zuh op=false->k=k':=λh=>hk.resolve_left (by rw[h];simp);cases op<;>simp only[ZAN]at h;case shl =>split at h<;>(try(simp at h;done));rename_i u;obtain⟨rfl,t⟩:=Zca h;rw[ZhD,decide_eq_true_eq]at u;exact⟨_,_,rfl,⟨u,t⟩,.int _ _⟩
 case shr =>split at h<;>(try(simp at h;done));rename_i u;obtain⟨rfl,t⟩:=Zca h;rw[ZhD,decide_eq_true_eq]at u;exact⟨_,_,rfl,⟨u,t⟩,.int _ _⟩
 all_goals
  obtain rfl:=i rfl;simp only[Zau,if_true,Q7]
 case add=>obtain⟨rfl,t⟩:=Zca h;exact⟨_,_,rfl,t,.int _ _⟩
 case sub=>obtain⟨rfl,t⟩:=Zca h;exact⟨_,_,rfl,t,.int _ _⟩
 case mul=>obtain⟨rfl,t⟩:=Zca h;exact⟨_,_,rfl,t,.int _ _⟩
 case quo =>split at h<;>(try(simp at h;done));rename_i u;obtain⟨rfl,t⟩:=Zca h;rw[ZjP,decide_eq_false_iff_not]at u;exact⟨_,_,rfl,⟨u,t⟩,.int _ _⟩
 case rem =>split at h<;>(try(simp at h;done));rename_i u;obtain⟨rfl,t⟩:=Zca h;rw[ZjP,decide_eq_false_iff_not]at u;exact⟨_,_,rfl,⟨u,t⟩,.int _ _⟩
 all_goals
  simp only[ZH0]at h;subst h;refine⟨_,_,rfl,trivial,?_⟩;try simp only[ZjP,ZhD]
 case lss=>rw[show(!dC (b<=a))=dC (a<b) by by_cases hh:a<b<;>simp[hh]<;>omega];exact .bool _
 case gtr=>rw[show(!dC (a<=b))=dC (b<a) by by_cases hh:b<a<;>simp[hh]<;>omega];exact .bool _
 case geq=>exact .bool _
 all_goals first|exact .bool _|exact .int _ _
def ZCd{op a b v}(h:ZAO op a b=sO v):∃side d,Zef op (a.map UInt8.ofNat) (b.map UInt8.ofNat)=sO (side,d)/\side/\VR J v d:=by
 cases op<;>simp only[ZAO,reduceCtorEq]at h;case add =>split at h<;>simp at h;rename_i i;subst h;refine⟨_,_,rfl,by simpa using i,?_⟩;rw[<-List.map_append];exact .str _
 all_goals
  cases h;refine⟨_,_,rfl,trivial,?_⟩;simp[Zoj,ZtF];exact .bool _
def ZCc{op p x y u dy}(hx:VR J x u)(hy:VR J y dy){v}(h:Zt9 op p x y=sO v):∃side d,eqO op p u dy=sO (side,d)/\side/\VR J v d:=by
 cases p with
 |none=>simp[Zt9]at h
 |some p =>
  cases op<;>simp only[Zt9,reduceCtorEq]at h;case eql =>split at h<;>simp only[ZH0,reduceCtorEq]at h;subst h;obtain⟨side,i,t⟩:=Zt2 hx hy ‹_›;exact⟨side,_,by simp only[eqO,i,ZIx],t,.bool _⟩
  case neq =>split at h<;>simp only[ZH0,reduceCtorEq]at h;subst h;obtain⟨side,i,t⟩:=Zt2 hx hy ‹_›;exact⟨side,_,by simp only[eqO,i,ZIx],t,.bool _⟩
def ZCa{op p x y t u}(hx:VR J x t)(hy:VR J y u){v}(h:Zt8 op p x y=sO v):∃side d,Zau op p t u=sO (side,d)/\side/\VR J v d:=by
 have i:(∀k a,t≠.int k a)->(∀l,t≠.str l)->Zt9 op p x y=sO v->∃side d,Zau op p t u=sO (side,d)/\side/\VR J v d:=λh1 h2 h3=>by obtain⟨side,d,e1,e2,e3⟩:=ZCc hx hy h3;refine⟨side,d,?_,e2,e3⟩;rw[<-e1];cases t<;>first|rfl|exact absurd rfl (h1 _ _)|exact absurd rfl (h2 _)
 cases hx;case int k a =>cases hy<;>simp only[Zt8,reduceCtorEq]at h;rename_i k' b;split at h<;>(try(simp at h;done));rename_i hb;rw[ZIp]at hb;obtain⟨side,d,e1,e2,e3⟩:=ZCb (J:=J) (k':=k') (hb.imp id Zfl) h;refine⟨side,d,?_,e2,e3⟩;rw[<-e1];rfl
 case str s =>cases hy<;>simp only[Zt8,reduceCtorEq]at h;exact ZCd h
 all_goals exact i (λ_ _=>by simp) (λ_=>by simp) (by simpa only[Zt8]using h)
def MR(J:Nm)(e:V×V)(d:D×D):Prop:=VR J e.1 d.1/\VR J e.2 d.2
def MR.mono{J'}(h:J.Sub J'){e d}(m:MR J e d):MR J' e d:=⟨m.1.mono h,m.2.mono h⟩
def Ztv{kp k dk}(u:VR J k dk):∀{es ds r},ZI (MR J) es ds->Zop kp k es=sO r ->
  ∃i,ZbF kp dk ds=sO i/\(match r,i with|some v,sO d=>VR J v d|none,nO=>True|_,_=>False)
 | [],ds,r,h,hf=>by cases h;simp only[Zop,ZH0]at hf;subst hf;exact⟨nO,rfl,trivial⟩
 |e::es,ds,r,h,hf=>by
  cases h with
  |cons h1 h2 =>
  simp only[Zop]at hf;split at hf<;>(try(simp at hf;done));rename_i t;simp only[ZH0]at hf;subst hf;exact⟨sO _,by simp only[ZbF,Zbb u h1.1 t],h1.2⟩;rename_i t;obtain⟨i,e1,e2⟩:=Ztv u h2 hf;exact⟨i,by simp only[ZbF,Zbb u h1.1 t,e1],e2⟩
def ZqB{kp k v dk t}(i:VR J k dk)(hv:VR J v t):∀{es r ds},ZI (MR J) es ds->ZqA kp k v es=sO r ->
  ∃r',JR kp dk t ds=sO r'/\ZI (MR J) r r'
 | [],r,ds,h,hf=>by cases h;simp only[ZqA,ZH0]at hf;subst hf;exact⟨_,rfl,.cons ⟨i,hv⟩ .nil⟩
 |e::es,r,ds,h,hf=>by
  cases h with
  |cons h1 h2 =>
  simp only[ZqA]at hf;split at hf<;>(try(simp at hf;done));rename_i u;simp only[ZH0]at hf;subst hf;exact⟨(dk,t)::_,by simp only[JR,Zbb i h1.1 u],.cons ⟨i,hv⟩ h2⟩;rename_i u;simp only[ZIe]at hf;obtain⟨r0,hr,rfl⟩:=hf;obtain⟨r',e1,e2⟩:=ZqB i hv h2 hr;exact⟨_,by simp only[JR,Zbb i h1.1 u,e1,ZIx],.cons h1 e2⟩
def Zvu{kp k dk}(t:VR J k dk):∀{es r ds},ZI (MR J) es ds->Ztk kp k es=sO r ->
  ∃u,ZgM kp dk ds=sO u/\ZI (MR J) r u
 | [],r,ds,h,hf=>by cases h;simp only[Ztk,ZH0]at hf;subst hf;exact⟨_,rfl,.nil⟩
 |e::es,r,ds,h,hf=>by
  cases h with
  |cons h1 h2 =>
  simp only[Ztk]at hf;split at hf<;>(try(simp at hf;done));rename_i i;simp only[ZH0]at hf;subst hf;exact⟨_,by simp only[ZgM,Zbb t h1.1 i],h2⟩;rename_i i;simp only[ZIe]at hf;obtain⟨r0,hr,rfl⟩:=hf;obtain⟨u,e1,e2⟩:=Zvu t h2 hr;exact⟨_,by simp only[ZgM,Zbb t h1.1 i,e1,ZIx],.cons h1 e2⟩
def Zvy{kp k z dk u}(t:VR J k dk)(hz:VR J z u):∀{es ds v},ZI (MR J) es ds->Ztq kp k z es=sO v ->
  ∃d,Zeh kp dk u ds=sO d/\VR J v d
 | [],ds,v,h,hf=>by cases h;simp only[Ztq,ZH0]at hf;subst hf;exact⟨_,rfl,hz⟩
 |e::es,ds,v,h,hf=>by
  cases h with
  |cons h1 h2 =>
  simp only[Ztq]at hf;split at hf<;>(try(simp at hf;done));rename_i i;simp only[ZH0]at hf;subst hf;exact⟨_,by simp only[Zeh,Zbb t h1.1 i],h1.2⟩;rename_i i;obtain⟨d,e1,e2⟩:=Zvy t hz h2 hf;exact⟨d,by simp only[Zeh,Zbb t h1.1 i,e1],e2⟩
def ZtH{z}{i}(t:VR J z i){ok}{r}{r'}(h:match r,r' with|some v,sO d=>VR J v d|none,nO=>True|_,_=>False):VR J (Zsk z ok r) (Wh i ok r'):=by
 cases r<;>cases r'<;>simp only at h<;>cases ok<;>simp only[Zsk,Wh,if_true,if_false,ZIz];exact t;exact .tup _ _ (.cons _ _ _ _ t (.one (.bool _)));exact h;exact .tup _ _ (.cons _ _ _ _ h (.one (.bool _)))
end
def WR(J:Nm)(L:Loc):W->E->Prop
 |.v x,e=>∃d,VR J x d/\(e=.d d\/e=.when true (.d d))
 |.loc l o,e=>e=.loc l o\/e=.when true (.loc l o)
 |.skip,e=>e=.when false (.d (.bool false))
def live(_:Loc):W->Bool
 |.loc _ _=>false
 |_=>true
def Z6(J:Nm)(L:Loc)(H:T W)(ρd:Env):Prop:=∀t w,H.get t=sO w->live L w=true->∃e,ZM ρd t=sO e/\WR J L w e
def Z6.anyL{J L L' H ρd}(h:Z6 J L H ρd):Z6 J L' H ρd:=λt w i u=>by
 cases w with
 |v x=>exact h t _ i rfl
 |loc l o=>cases u
 |skip=>exact h t _ i rfl
structure Px extends Cx where
 t:St
instance:Coe Px Cx:=⟨Px.toCx⟩
inductive OR(C:Cx)(J:Nm)(k0:Nat):O->Qv->Prop where
 |cells (vs:List V) (ds ex:List D) (h:VRs J vs ds):OR C J k0 (.cells vs) (.cells (ds++ex))
 |buf (vs:List V) (ds ex:List D) (h:VRs J vs ds) (hc:J (k0+1)=some (.tip (ds++ex).length)):OR C J k0 (.buf vs) (.cells (ds++ex))
 |map (es:List (V×V)) (ds:List (D×D)) (h:ZI (MR J) es ds):OR C J k0 (.map es) (.map ds)
 |tok (n:Nat):OR C J k0 (.tok n) (.tip n)
 |mapE (kp:KP) (es:List (V×V)) (ds:List (D×D)) (k:V) (dk:D) (n m:Nat) (h:ZI (MR J) es ds) (hk:VR J k dk) (hn:J n=some (.tip m)):OR C J k0 (.mapE kp es k n) (.mapE kp ds dk m)
 |dfr:OR C J k0 .dfr .dfr
 |ro (o:O) (d:Qv) (h:OR C J k0 o d) (hr:ZbQ o=false) (hk:∀n,o≠.tok n):OR C J k0 (.ro o) d
 |loop (f:FuncId) (n:Nat) (ps:List Nat) (a b:DC) (H:T W) (st:Option DC) (busy:Bool) (r:Zb7) (lst:LSt) (hf:r.fn=f) (hn:r.N=n) (hps:r.params=ps) (hlt:∀t∈ps,t<n)
   (ha:cc C.P (C.an f) n r.assign=some a) (hb:cc C.P (C.an f) n r.body=some b) (hρ:Z6 J [] H r.H)
   (hst:match st,busy,lst with
    |none,false,.ready=>True
    |none,true,.busy=>True
    |some dj,false,.done j=>cc C.P (C.an f) n j=some dj
    |_,_,_=>False):OR C J k0 (.loop f n ps a b H st busy) (.loop r lst)
structure Sim(C:Px)(J:Nm)(U:S)(s:St):Prop where
 obj:∀k o,U.get k=some o->∃t,J k=some t/\((∃b d,t=.tip b/\s b=some d/\OR C J k o d)\/(∃n,o=.tok n/\t=.full))
 inj:∀k k' o o' b,U.get k=some o->U.get k'=some o'->J k=some (.tip b)->J k'=some (.tip b)->k=k'
 kp:∀b d,C.t b=some d->s b=some d/\∀k o,U.get k=some o->ZbQ o=false->J k≠some (.tip b)
 ro:∀k o b,U.get k=some (.ro o)->J k=some (.tip b)->∃d,C.t b=some d
def WR.mono{J J' L}(h:J.Sub J'){w e}(x:WR J L w e):WR J' L w e:=by
 cases w with
 |v v=>obtain⟨d,i,t⟩:=x;exact⟨d,i.mono h,t⟩
 |_=>exact x
def Z6.mono{J J' L}(h:J.Sub J'){H ρd}(x:Z6 J L H ρd):Z6 J' L H ρd:=λt w hw hl=>by
 obtain⟨e,i,u⟩:=x t w hw hl;exact⟨e,i,u.mono h⟩
def OR.mono{C J J'}(h:J.Sub J'){k0 o d}(x:OR C J k0 o d):OR C J' k0 o d:=by
 induction x with
 |cells vs ds ex h1=>exact .cells vs ds ex (h1.mono h)
 |buf vs ds ex h1 hc=>exact .buf vs ds ex (h1.mono h) (h _ _ hc)
 |map es ds h1=>exact .map es ds (h1.imp λ_ _ m=>m.mono h)
 |tok n=>exact .tok n
 |mapE kp es ds k dk n m h1 hk hn=>exact .mapE kp es ds k dk n m (h1.imp λ_ _ m=>m.mono h) (hk.mono h) (h _ _ hn)
 |dfr=>exact .dfr
 |ro o d h1 hr hk ih=>exact .ro o d ih hr hk
 |loop f n ps a b H st busy r lst hf hn hps hlt ha hb hρ hst=>exact .loop f n ps a b H st busy r lst hf hn hps hlt ha hb (hρ.mono h) hst
def Sim.name{C J J' U s}(x:Sim C J U s)(u:J.Sub J'){k o}(h:U.get k=sO o){t}(e:J' k=sO t):J k=sO t:=by
 obtain⟨t0,i,_⟩:=x.obj k o h;rw[u _ _ i]at e;rw[i,e]
def Sim.mono{C:Px}{J J':Nm}(h:J.Sub J'){U:S}(x:Sim C J U s):Sim C J' U s:={
 obj k o hk:=by obtain⟨t,u,h2⟩:=x.obj k o hk;refine⟨t,h _ _ u,h2.imp (λ⟨b,d,a1,a2,i⟩=>⟨b,d,a1,a2,i.mono h⟩) id⟩
 inj k k' o o' b hk hk' e e':=x.inj k k' o o' b hk hk' (x.name h hk e) (x.name h hk' e')
 kp b d hb:=⟨(x.kp b d hb).1,λk o hk hr e=>(x.kp b d hb).2 k o hk hr (x.name h hk e)⟩
 ro k o b hk e:=x.ro k o b hk (x.name h hk e) }
section
variable {C:Px} {J:Nm} {U:S} {s:St}
def Sim.get(x:Sim C J U s){k o}(h:U.get k=sO o)(u:∀n,o≠.tok n):∃b d,J k=sO (.tip b)/\s b=sO d/\OR C J k o d:=by
 obtain⟨t,i,⟨b,d,rfl,a1,a2⟩|⟨n,rfl,_⟩⟩:=x.obj k o h;exact⟨b,d,i,a1,a2⟩;exact absurd rfl (u n)
def OR.cellsO{C k0 o d vs}(h:OR C J k0 o d)(t:cellsO o=sO vs):∃ds ex,d=.cells (ds++ex)/\VRs J vs ds:=by
 have i:∀{o:O} {d:Qv},OR C J k0 o d->(o=.cells vs\/o=.buf vs)->∃ds ex,d=.cells (ds++ex)/\VRs J vs ds:=λ{o d} h ho=>by
  rcases ho with rfl|rfl
  .cases h with
   |cells vs ds ex h=>exact⟨ds,ex,rfl,h⟩
  cases h with
  |buf vs ds ex h=>exact⟨ds,ex,rfl,h⟩
 cases o<;>simp[Go.DL.cellsO]at t;subst t;exact i h (.inl rfl);subst t;exact i h (.inr rfl);rename_i o;cases h with
 |ro _ _ h _ _ =>cases o<;>simp at t;subst t;exact i h (.inl rfl);subst t;exact i h (.inr rfl)
def Zwx{o vs}(h:cellsO o=sO vs)(n):o≠.tok n:=λe=>by subst e;cases h
def Sim.cells(x:Sim C J U s){k b vs}(h:ZaY (U.get k)=sO vs)(hb:J k=sO (.tip b)):∃ds ex,s b=sO (.cells (ds++ex))/\VRs J vs ds:=by
 cases i:U.get k with
 |none=>rw[i]at h;cases h
 |some o =>rw[i]at h;obtain⟨b',d,t,u,h3⟩:=x.get i (Zwx h);rw[hb]at t;cases t;obtain⟨ds,ex,rfl,h4⟩:=h3.cellsO h;exact⟨ds,ex,u,h4⟩
def Sim.map(x:Sim C J U s){k b es}(h:U.get k=sO (.map es))(hb:J k=sO (.tip b)):∃ds,s b=sO (.map ds)/\ZI (MR J) es ds:=by
 obtain⟨b',d,i,t,u⟩:=x.get h (λn=>by simp);rw[hb]at i;cases i;cases u with
 |map es ds h=>exact⟨ds,t,h⟩
def Sim.mapO(x:Sim C J U s){k b es}(h:mapO (U.get k)=sO es)(hb:J k=sO (.tip b)):∃ds,s b=sO (.map ds)/\ZI (MR J) es ds:=by
 cases i:U.get k with
 |none=>rw[i]at h;cases h
 |some o =>
  rw[i]at h;cases o<;>simp[Go.DL.mapO]at h;subst h;exact x.map i hb;rename_i o;cases o<;>cases h;obtain⟨b',d,u,h2,t⟩:=x.get i (λn=>by simp);rw[hb]at u;cases u;cases t with
  |ro _ _ t _ _=>cases t with
   |map es ds h=>exact⟨ds,h2,h⟩
def ZvF{U:S}{k k' o}(h:(U.set nO k).get k'=sO o):k'≠k/\U.get k'=sO o:=by
 rcases T.get_set h with ⟨_,i⟩|⟨t,i⟩;simp at i;exact⟨t,i⟩
def Sim.subT{U':S}(x:Sim C J U s)(h:∀k o,U'.get k=sO o->U.get k=sO o):Sim C J U' s:={
 obj k o hk:=x.obj k o (h k o hk)
 inj k k' o o' b hk hk':=x.inj k k' o o' b (h _ _ hk) (h _ _ hk')
 kp b d hb:=⟨(x.kp b d hb).1,λk o hk=>(x.kp b d hb).2 k o (h _ _ hk)⟩
 ro k o b hk:=x.ro k o b (h _ _ hk) }
def Sim.forget(x:Sim C J U s)(k):Sim C J (U.set nO k) s:=x.subT λ_ _ h=>(ZvF h).2
def Sim.upd(x:Sim C J U s){k b:Nat}{o o':O}{d:Qv}(h:U.get k=sO o)(hb:J k=sO (.tip b))(ho:OR C J k o' d)(hr:ZbQ o=false:=by rfl)(hr':ZbQ o'=false:=by rfl):Sim C J (U.set (sO o') k) (s.upd b d) where
 obj k' o1 h':=by rcases T.get_set h' with ⟨rfl,h1⟩|⟨u,h1⟩;cases h1;exact⟨_,hb,.inl ⟨b,d,rfl,ZH5 s b d,ho⟩⟩;obtain⟨t,e1,⟨b',d',rfl,e2,e3⟩|e2⟩:=x.obj k' o1 h1;refine⟨_,e1,.inl ⟨b',d',rfl,?_,e3⟩⟩;have:b'≠b:=λi=>u (x.inj k' k _ _ b h1 h (by rw[<-i];exact e1) hb);rw[ZH8 s d this];exact e2;exact⟨t,e1,.inr e2⟩
 inj k1 k2 o1 o2 b' h1 h2 e1 e2:=by
  have:∀k' o1,(U.set (sO o') k).get k'=sO o1->∃o,U.get k'=sO o:=λk' o1 h'=>by rcases T.get_set h' with ⟨rfl,_⟩|⟨_,h'⟩;exact⟨_,h⟩;exact⟨_,h'⟩
  obtain⟨p1,q1⟩:=this _ _ h1;obtain⟨p2,q2⟩:=this _ _ h2;exact x.inj k1 k2 p1 p2 b' q1 q2 e1 e2
 kp c e hc:=by obtain⟨h1,h2⟩:=x.kp c e hc;have:c≠b:=λec=>h2 k o h hr (by rw[ec];exact hb);refine⟨by rw[ZH8 s d this];exact h1,λk' o1 h' ab=>?_⟩;rcases T.get_set h' with ⟨rfl,_⟩|⟨_,h'⟩;exact h2 _ o h hr;exact h2 k' o1 h' ab
 ro k' o1 b' h' e:=by rcases T.get_set h' with ⟨rfl,h1⟩|⟨_,h'⟩;cases h1;simp[ZbQ]at hr';exact x.ro k' o1 b' h' e
end
def Nm.put(J:Nm)(k:Nat)(t:Tok):Nm:=λk'=>if k'=k then sO t else J k'
def Nm.put_sub{J:Nm}{k}(h:J k=nO)(t):J.Sub (J.put k t):=λu t' i=>by
 have:u≠k:=λe=>by rw[e,h]at i;grind
 simp[Nm.put,this,i]
def Nm.put_same{J:Nm}{k t}:(J.put k t) k=sO t:=by simp[Nm.put]
structure Yu(J:Nm)(nx:Nat):Prop where
 z:J 0=some .none
 o:J 1=some .full
 two:2<=nx
 free:∀k,nx<=k->J k=none
def Yu.put{J:Nm}{nx:Nat}(h:Yu J nx)(t:Tok):Yu (J.put nx t) (nx+1):={
 z:=by have:=h.two;simp[Nm.put];rw[if_neg ω];exact h.z
 o:=by have:=h.two;simp[Nm.put];rw[if_neg ω];exact h.o
 two:=by have:=h.two;omega
 free k hk:=by simp[Nm.put];rw[if_neg ω];exact h.free k ω }
section
variable {C:Px} {J:Nm} {U:S} {s:St}
def Sim.fresh(x:Sim C J U s){b}(hb:s b=nO){k o}(h:U.get k=sO o):J k≠sO (.tip b):=λe=>by
 obtain⟨t,i,⟨b',d,rfl,u,_⟩|⟨n,_,rfl⟩⟩:=x.obj k o h;rw[e]at i;cases i;rw[hb]at u;grind;rw[e]at i;grind
def Sim.new(x:Sim C J U s){nx}(hn:J nx=nO){b}(hb:s b=nO){o d}(ho:OR C (J.put nx (.tip b)) nx o d)(hr:ZbQ o=false:=by rfl):Sim C (J.put nx (.tip b)) (U.set (sO o) nx) (s.upd b d):=by
 have ac:=Nm.put_sub hn (.tip b);have x':=x.mono ac;refine⟨λk o1 h=>?_,λk1 k2 o1 o2 b' h1 h2 e1 e2=>?_,λc e hc=>?_,λk o1 c h e=>?_⟩;rcases T.get_set h with ⟨rfl,h1⟩|⟨u,h1⟩;cases h1;exact⟨_,Nm.put_same,.inl ⟨b,d,rfl,ZH5 s b d,ho⟩⟩;obtain⟨t,e1,⟨b',d',rfl,e2,e3⟩|e2⟩:=x'.obj k o1 h1;refine⟨_,e1,.inl ⟨b',d',rfl,?_,e3⟩⟩;have:b'≠b:=λad=>by rw[ad,hb]at e2;grind
 rw[ZH8 s d this];exact e2;exact⟨t,e1,.inr e2⟩;have i:∀k o1 b',(U.set (sO o) nx).get k=sO o1->(J.put nx (.tip b)) k=sO (.tip b')->k≠nx->U.get k=sO o1/\J k=sO (.tip b'):=λk o1 b' h e u=>by rcases T.get_set h with ⟨rfl,_⟩|⟨_,h⟩;exact absurd rfl u;exact⟨h,by simpa[Nm.put,u]using e⟩
 by_cases c1:k1=nx<;>by_cases c2:k2=nx;simp_all;exfalso;obtain⟨q1,q2⟩:=i k2 o2 b' h2 e2 c2;rw[c1,Nm.put_same]at e1;cases e1;exact x.fresh hb q1 q2;exfalso;obtain⟨q1,q2⟩:=i k1 o1 b' h1 e1 c1;rw[c2,Nm.put_same]at e2;cases e2;exact x.fresh hb q1 q2;obtain⟨q1,q2⟩:=i k1 o1 b' h1 e1 c1;obtain⟨q3,q4⟩:=i k2 o2 b' h2 e2 c2;exact x.inj k1 k2 o1 o2 b' q1 q3 q2 q4;obtain⟨h1,h2⟩:=x'.kp c e hc;have ab:c≠b:=λec=>by rw[ec,hb]at h1;grind
 refine⟨by rw[ZH8 s d ab];exact h1,λk o1 h ae e1=>?_⟩;rcases T.get_set h with ⟨rfl,_⟩|⟨_,h⟩;rw[Nm.put_same]at e1;simp at e1;exact ab e1.symm;exact h2 k o1 h ae e1;rcases T.get_set h with ⟨rfl,h1⟩|⟨_,h⟩;cases h1;cases hr;exact x'.ro k o1 c h e
end
section
variable {J:Nm} {L:Loc} {H:T W} {ρd:Env}
def ZBh{x v}(h:wV x=sO v):x=sO (.v v):=by
 unfold wV at h;split at h;split at h<;>cases h;rfl;grind
def KE(hρ:Z6 J L H ρd){x v}(h:(YQ x).run H=sO v):∃p d,ZC ρd true x=sO (p,.d d)/\p/\VR J v d:=by
 cases x with
 |cst d =>simp[YQ]at h;split at h<;>cases h;exact⟨True,d,rfl,trivial,ZhE ‹_›⟩
 |tmp t =>obtain⟨e,i,d,u,rfl|rfl⟩:=hρ t _ (ZBh h) rfl;exact⟨True,d,by simp[ZC,i],trivial,u⟩;exact⟨True->True,d,by simp[ZC,i],λ_=>trivial,u⟩
def ZaM(i:Z6 J L H ρd):∀{xs vs},(Zcr xs).run H=sO vs->∃p ds,Ya ρd true xs=sO (p,ds.map .d)/\p/\VRs J vs ds
 | [],vs,h=>by cases h;exact⟨True,[],rfl,trivial,.nil⟩
 |x::xs,vs,h=>by simp[Zcr]at h;split at h<;>(try(grind;done));rename_i v h1;split at h<;>simp at h;rename_i vs' h2;subst h;obtain⟨p,d,a1,a2,t⟩:=KE i h1;obtain⟨q,ds,u,b2,b3⟩:=ZaM i h2;exact⟨p/\q,d::ds,by simp[Ya,a1,u],⟨a2,b2⟩,.cons _ _ _ _ t b3⟩
def ZaS:∀(ds),Kh (ds.map .d)=sO ds
 | []=>rfl
 |d::ds=>by simp[Kh,ZaS ds]
def Zrd(hρ:Z6 J L H ρd){g b}(h:(ZjZ g).run H=sO b):Zn ρd g=sO b:=by
 cases g with
 |none=>simpa[ZjZ,Zn]using h
 |some x =>
  obtain⟨t,want⟩:=x;simp[ZjZ]at h;split at h<;>(try(grind;done));rename_i w hw;cases w with
  |v x =>obtain⟨e,u,h2⟩:=hρ t _ hw rfl;cases x<;>cases h;obtain⟨d,h3,rfl|rfl⟩:=h2<;>cases h3;simp[Zn,u];simp[Zn,u]
  |loc l o=>grind
  |skip =>obtain⟨e,u,h2⟩:=hρ t _ hw rfl;cases h;have i:e=.when false (.d (.bool false)):=h2;subst i;simp[Zn,u]
def JL(hρ:Z6 J L H ρd){w e}(hw:WR J L w e)(dst):Z6 J L ((ZcN dst).run H w) (Zx ρd dst e):=by
 cases dst with
 |none=>exact hρ
 |some t =>intro t' w' h hl;rcases T.get_set (t:=H) (x:=sO w) (k:=t) h with ⟨rfl,u⟩|⟨i,u⟩;cases u;exact⟨e,by simp[Zx,ZM],hw⟩;obtain⟨e',h2,h3⟩:=hρ t' w' u hl;exact⟨e',by simp[Zx,ZM];rw[if_neg (Ne.symm i)];exact h2,h3⟩
def ZyV(hρ:Z6 J L H ρd){x c}(h:(Zkf x).run H=true)(hc:c=false):∃p z,ZC ρd c x=sO (p,.d (.bool z))/\p:=by
 subst hc;cases x with
 |cst d =>cases d<;>cases h;exact⟨True,_,rfl,trivial⟩
 |tmp t =>
  simp[Zkf]at h;split at h<;>(try(grind;done));rename_i w hw;cases w with
  |v x =>obtain⟨e,u,h2⟩:=hρ t _ hw rfl;cases x<;>cases h;obtain⟨d,h3,rfl|rfl⟩:=h2<;>cases h3;exact⟨True,_,by simp[ZC,u];rfl,trivial⟩;exact⟨_,_,by simp only[ZC,u];rfl,λh=>by simp at h⟩
  |loc l o=>grind
  |skip =>obtain⟨e,u,h2⟩:=hρ t _ hw rfl;have i:e=.when false (.d (.bool false)):=h2;subst i;exact⟨_,_,by simp only[ZC,u];rfl,λh=>by simp at h⟩
end
def WS{vs f v}(h:a1 vs f=sO v):∃x,vs=[x]/\f x=sO v:=by
 unfold a1 at h;split at h;exact⟨_,rfl,h⟩;grind
def ZdT{vs f v}(h:a2 vs f=sO v):∃x y,vs=[x,y]/\f x y=sO v:=by
 unfold a2 at h;split at h;exact⟨_,_,rfl,h⟩;grind
def ZD{α b}{r:Option α}{v:α}(h:noV b r=sO v):b=true/\r=sO v:=by
 cases b<;>simp[noV]at h;exact⟨rfl,h⟩
def Zb9{i n r v}(h:Zgc i n r=sO v):0<=i/\i<n/\r=sO v:=by
 unfold Zgc at h;split at h<;>(try(grind;done));rename_i t;simp[ZhD]at t;exact⟨t.1,ω,h⟩
def Zaq{a b}:Nat.ble a b=true↔a<=b:=by rw[Nat.ble_eq]
def Z3{a b}:Nat.beq a b=true↔a=b:=by rw[Nat.beq_eq]
def JG{a b}:leI a b=true↔a<=b:=by rw[ZhD,decide_eq_true_eq]
def Jb{a b}:eqI a b=true↔a=b:=by rw[ZjP,decide_eq_true_eq]
def isub(a b):Int.sub a b=a-b:=rfl
section
variable {C:Px} {J:Nm} {U:S} {s:St} {L:Loc}
def Zex{b f v}(h:Zjy U b f=sO v):∃cs,ZaY (U.get b)=sO cs/\f cs=sO v:=by
 unfold Zjy at h;split at h;rename_i i;exact⟨_,i,h⟩;grind
def Zib(u:Sim C J U s){k b cs}(h:ZaY (U.get k)=sO cs)(hb:J k=sO (.tip b)):∃ds ex,Z1 s b=sO (ds++ex)/\VRs J cs ds:=by
 obtain⟨ds,ex,i,t⟩:=u.cells h hb;exact⟨ds,ex,by simp[Z1,i],t⟩
def ZhA{cs ds}(ex)(h:VRs J cs ds){o v}(t:Ziu o cs=sO v):∃d,(ds++ex)[o]?=sO d/\VR J v d:=by
 rw[Zlq]at t;obtain⟨d,i,u⟩:=h.get t;refine⟨d,?_,u⟩;rw[ZIB (List.getElem?_eq_some_iff.1 i).1];exact i
def ZtZ{ds ex o n}(h:o+n<=I ds):part (ds++ex) o n=part ds o n:=by
 unfold part;rw[List.drop_append_of_le_length ω,List.take_append_of_le_length (by simp;omega)]
def ZmH{ds ex i o}(h:o+I i<=I ds):Zt (ds++ex) o i=Zt ds o i++ex:=by
 unfold Zt;rw[List.take_append_of_le_length ω,List.drop_append_of_le_length ω,ZIv,ZIv,ZIv]
def ZlK{cs ds}(ex)(h:VRs J cs ds){o n v}(i:Zk3 cs o n=sO v):o+n<=(ds++ex).length/\VR J v (.agg (part (ds++ex) o n)):=by
 unfold Zk3 at i;split at i<;>simp at i;rename_i r hr;subst i;obtain⟨t,u⟩:=h.partv hr;exact⟨by simp;omega,by rw[ZtZ t];exact .agg _ _ u⟩
def Zbw:∀{bs vs ds r},VRs J vs ds->J8 bs vs=sO r->Wz bs (ds.map .d)=sO r
 | [],vs,ds,r,hv,h=>by
  cases vs with
  |nil=>obtain rfl:=hv.inv0;simpa[J8,Wz]using h
  |cons v vs=>cases h
 |true::bs,vs,ds,r,hv,h=>by
  cases vs with
  |nil=>cases h
  |cons v vs =>obtain⟨d,ds',rfl,t,u⟩:=hv.inv;cases t<;>simp[J8]at h;obtain⟨q,i,rfl⟩:=h;simp[Wz,Zbw u i]
 |false::bs,vs,ds,r,hv,h=>by simp[J8]at h;obtain⟨q,i,rfl⟩:=h;simp[Wz,Zbw hv i]
def ZCw{t n τ}(u:J 1=sO .full)(ht:t=0\/J t=sO τ){l h mx}:ZxF t n l h mx=0\/J (ZxF t n l h mx)=sO (ZbK τ n l h mx):=by
 unfold ZxF ZbK;cases mx with
 |some m =>simp only[Jb];split;exact .inr u;exact .inl rfl
 |none =>simp only[Jb,Z3];split;split;rename_i i;subst i;rcases ht with h|h;simp at h;rw[u]at h;cases h;exact .inr u;split;rcases ht with h|h;exact .inl h;refine .inr ?_;cases τ<;>simp_all;exact .inl rfl;exact .inl rfl
def Zzl(h1:J 1=sO .full){z lo hi mx x v d}(hx:VR J x d)(h:Zuj z lo hi mx x=sO v):∃side r,Za3 z lo hi mx d=sO (side,r)/\side/\VR J v r:=by
 cases hx<;>simp only[Zuj,reduceCtorEq]at h;case nilsl =>split at h<;>simp only[ZH0,reduceCtorEq]at h;rename_i hc;subst h;simp only[ZIb,Jb]at hc;exact⟨_,_,rfl,⟨hc.1.1,hc.1.2,hc.2⟩,.nilsl⟩
 case sl t n s rs τ row hr hn ht =>split at h<;>(try(simp at h;done));rename_i hc;split at h<;>simp only[ZH0,reduceCtorEq]at h;rename_i r ab;subst h;simp only[ZIb,Z3,JG]at hc;obtain⟨⟨⟨⟨rfl,c1⟩,c2⟩,c3⟩,c4⟩:=hc;rw[Ju]at ab;obtain⟨l1,rfl⟩:=Zaj ab;simp only[Za3,if_true];refine⟨_,_,rfl,⟨c1,c2,c3,λm hm=>?_⟩,?_⟩;subst hm;simp only[ZDa,ZIb,JG]at c4;exact c4;refine .sl _ _ _ _ _ _ ((hr.drop (lo.getD 0).toNat).take _) ?_ (ZCw h1 ht);rw[ZIm];exact Nat.min_eq_left l1
 case msl k b o n cap s hb =>split at h<;>(try(simp at h;done));rename_i hc;split at h<;>simp only[ZH0,reduceCtorEq]at h;rename_i i;subst h;simp only[ZIb,Z3,JG]at hc i;obtain⟨⟨rfl,c1⟩,c2⟩:=hc;simp only[Za3,if_true];refine⟨_,_,rfl,⟨c1,c2,i.1,i.2⟩,?_⟩;by_cases he:mx.getD (cap:Int)=lo.getD 0;rw[if_pos he,if_pos (Jb.2 he)];exact .msl _ _ _ _ _ _ hb;rw[if_neg he,if_neg (λh=>he (Jb.1 h))];exact .msl _ _ _ _ _ _ hb
 case gsl k b o n cap s c hb hb2 hcap hl =>
  split at h<;>(try(simp at h;done));rename_i hc;split at h<;>(try(simp at h;done));rename_i i;simp[JG,Jb,ZhD]at hc i;obtain⟨⟨rfl,c1⟩,c2⟩:=hc;obtain⟨c3,c4⟩:=i;simp only[Za3,if_true];cases mx with
  |none =>
   cases h;refine⟨_,_,rfl,⟨c1,c2,by simp only[Option.getD_none];omega,ψ⟩,?_⟩;simp only[Option.getD_none];by_cases he:(cap:Int)=lo.getD 0;rw[if_pos he];rcases c4 with c4|c4;rw[c4]at he⊢;simp only[Int.toNat_zero,Nat.zero_mul,Nat.add_zero];exact .gsl _ _ _ _ _ _ c hb hb2 (by rw[isub];omega) (by have:=Nat.le_trans (Nat.le_add_right o (cap*s)) hl;rw[he];simpa using this);omega;rw[if_neg he];refine .gsl _ _ _ _ _ _ c hb hb2 (by rw[isub];omega) ?_;have e:(lo.getD 0).toNat+((cap:Int)-lo.getD 0).toNat=cap:=ω
   calc o+(lo.getD 0).toNat*s+((cap:Int)-lo.getD 0).toNat*s=o+((lo.getD 0).toNat+((cap:Int)-lo.getD 0).toNat)*s:=by rw[ZIs];omega
    _=o+cap*s:=by rw[e]
    _<=c:=hl
  |some m =>simp only at h;split at h<;>simp at h;rename_i u;simp only[ZIb,JG]at u;subst h;refine⟨_,_,rfl,⟨c1,c2,by simpa using u.1,by simp only[ZIH];omega⟩,?_⟩;simp only[ZIH];by_cases he:m=lo.getD 0;rw[if_pos he,if_pos (Jb.2 he)];exact .msl _ _ _ _ _ _ hb;rw[if_neg he,if_neg (λh=>he (Jb.1 h))];exact .msl _ _ _ _ _ _ hb
def Zts:∀{cells ps vs r cds ds},VRs J cells cds->VRs J vs ds->Zsg cells ps vs=sO r->∃rd,ZbE cds ps ds=sO rd/\VRs J r rd
 |cells,[],vs,r,cds,ds,hc,hv,h=>by
  cases vs with
  |nil =>obtain rfl:=hv.inv0;cases h;exact⟨_,rfl,hc⟩
  |cons v vs=>cases h
 |cells,(o,n)::ps,vs,r,cds,ds,hc,hv,h=>by
  cases vs with
  |nil=>cases h
  |cons v vs =>
   obtain⟨d,ds',rfl,h1,h2⟩:=hv.inv;simp only[Zsg]at h;split at h<;>(try(grind;done));rename_i hp;split at h<;>(try(grind;done));rename_i cs u;have i:VRs J (ZfS v) (cellsOf d):=by cases h1<;>first|exact .one (by constructor<;>assumption)|assumption
   have t:Kc d=true:=by cases h1<;>first|rfl|cases hp
   obtain⟨e0,e1,e2⟩:=hc.over i u;obtain⟨rd,e3,e4⟩:=Zts e2 h2 h;refine⟨rd,?_,e4⟩;simp only[ZbE];rw[if_pos ⟨t,by rw[<-i.len,e0],e1⟩];exact e3
def Zrn{b o n cap cs r ds ex l}(e0:Z1 s b=sO (ds++ex))(e1:VRs J cs ds)(u:o+n<=I cs)(hr:Zbj n (ZbD o cs)=sO r)(hl:ZnZ r=sO l):
  ∃side d,qv L s (.conv .b2s) ([D.msl b o n cap 1].map .d)=sO (side,.d d)/\side/\VR J (.str l) d:=by
 rw[Ju]at hr;obtain⟨l1,rfl⟩:=Zaj hr;have hlen:o+n<=I ds:=by rw[<-e1.len];exact u
 obtain⟨i1,i2⟩:=((e1.drop o).take n).bytes hl;have hn:((cs.drop o).take n).length=n:=by rw[ZIm];exact Nat.min_eq_left l1
 rw[hn]at i1 i2;have hp:∀i,i<n->part (ds++ex) (o+i) 1=part ((ds.drop o).take n) i 1:=λi t=>by
  rw[ZtZ ω];unfold part;rw[List.drop_take,List.take_take,List.drop_drop]
  congr 1;omega
 refine⟨o+n<=(ds++ex).length/\∀i,i<n->Zp9 (part (ds++ex) (o+i) 1),.str ((ZIf n).map λi=>Zc5 (part (ds++ex) (o+i) 1)),by simp[qv,e0],⟨by simp;omega,λi t=>by rw[hp i t];exact i1 i t⟩,?_⟩;have:((ZIf n).map λi=>Zc5 (part (ds++ex) (o+i) 1))=l.map UInt8.ofNat:=by rw[i2];exact List.map_congr_left λi t=>by simp_all
 rw[this];exact .str _
def ZD0(a b):(if leI a b=true then a else b)=Min.min a b:=by simp[JG];exact(Int.min_def a b).symm
def ZDZ(a b):(if leI a b=true then b else a)=Max.max a b:=by simp[JG];exact(Int.max_def a b).symm
def Zxe(hS:Sim C J U s)(h1:J 1=sO .full){q vs ds}(hv:VRs J vs ds){v}(h:qV q U vs=sO v):∃side d,qv L s q (ds.map .d)=sO (side,.d d)/\side/\VR J v d:=by
 cases q<;>(try simp only[qV]at h);case mv =>obtain⟨x,rfl,hh⟩:=WS h;replace h:=hh;clear hh;obtain⟨d,rfl,hx⟩:=hv.inv1;simp only[ZH0]at h;subst h;exact⟨True,d,rfl,trivial,hx⟩
 case nilck =>obtain⟨x,rfl,hh⟩:=WS h;replace h:=hh;clear hh;obtain⟨d,rfl,hx⟩:=hv.inv1;cases hx<;>simp only[reduceCtorEq,ZH0]at h<;>subst h;exact⟨True,_,rfl,trivial,by constructor;assumption⟩;exact⟨True,_,rfl,trivial,by constructor;assumption⟩;exact⟨True,_,rfl,trivial,by constructor<;>assumption⟩;exact⟨True,_,rfl,trivial,by constructor;assumption⟩
 case load1 =>
  obtain⟨x,rfl,hh⟩:=WS h;replace h:=hh;clear hh;obtain⟨d,rfl,hx⟩:=hv.inv1;cases hx<;>simp only[reduceCtorEq]at h;case ep cs o ds hc =>obtain⟨d,e1,e2⟩:=ZhA [] hc h;rw[ZIy]at e1;exact⟨True,d,by simp only[ZIj,ZIA,qv,Wg,e1,ZIx],trivial,e2⟩
  case ptr k b o hb =>obtain⟨cs,hg,hh⟩:=Zex h;replace h:=hh;clear hh;obtain⟨ds,ex,e0,e1⟩:=Zib hS hg hb;obtain⟨d,e2,e3⟩:=ZhA ex e1 h;exact⟨True,d,by simp only[ZIj,ZIA,qv,Wg,e0,e2,ZIx],trivial,e3⟩
 case loadN n =>
  obtain⟨x,rfl,hh⟩:=WS h;replace h:=hh;clear hh;obtain⟨d,rfl,hx⟩:=hv.inv1;cases hx<;>simp only[reduceCtorEq]at h;case ep cs o ds hc =>obtain⟨e1,e2⟩:=ZlK [] hc h;rw[ZIy]at e1 e2;exact⟨_,_,by simp only[ZIj,ZIA,qv,Kn,ZIx]<;>rfl,e1,e2⟩
  case ptr k b o hb =>obtain⟨cs,hg,hh⟩:=Zex h;replace h:=hh;clear hh;obtain⟨ds,ex,e0,e1⟩:=Zib hS hg hb;obtain⟨e2,e3⟩:=ZlK ex e1 h;exact⟨_,_,by simp only[ZIj,ZIA,qv,Kn,e0,ZIx]<;>rfl,e2,e3⟩
 case bin op p =>obtain⟨x,y,rfl,hh⟩:=ZdT h;replace h:=hh;clear hh;obtain⟨d,d',rfl,hx,hy⟩:=hv.inv2;obtain⟨side,r,e1,e2,e3⟩:=ZCa hx hy h;exact⟨side,r,by simp only[ZIj,ZIA,qv,e1,ZIx],e2,e3⟩
 case not =>obtain⟨x,rfl,hh⟩:=WS h;replace h:=hh;clear hh;obtain⟨d,rfl,hx⟩:=hv.inv1;cases hx<;>simp only[reduceCtorEq,ZH0]at h;subst h;exact⟨True,_,rfl,trivial,.bool _⟩
 case neg =>obtain⟨x,rfl,hh⟩:=WS h;replace h:=hh;clear hh;obtain⟨d,rfl,hx⟩:=hv.inv1;cases hx<;>simp only[reduceCtorEq]at h;obtain⟨rfl,hr⟩:=Zca h;exact⟨_,_,rfl,hr,.int _ _⟩
 case xorm =>obtain⟨x,rfl,hh⟩:=WS h;replace h:=hh;clear hh;obtain⟨d,rfl,hx⟩:=hv.inv1;cases hx<;>simp only[reduceCtorEq,ZH0]at h;subst h;exact⟨True,_,rfl,trivial,.int _ _⟩
 case conv c =>
  cases c<;>simp only at h;case int k =>obtain⟨x,rfl,hh⟩:=WS h;replace h:=hh;clear hh;obtain⟨d,rfl,hx⟩:=hv.inv1;cases hx<;>simp only[reduceCtorEq,ZH0]at h;subst h;simp only[ZIj,ZIA,qv];split;exact⟨True,_,rfl,trivial,.int _ _⟩;exact⟨True,_,rfl,trivial,.int _ _⟩
  case str =>obtain⟨x,rfl,hh⟩:=WS h;replace h:=hh;clear hh;obtain⟨d,rfl,hx⟩:=hv.inv1;cases hx<;>simp only[reduceCtorEq,ZH0]at h;subst h;exact⟨True,_,rfl,trivial,.str _⟩
  case i2s =>
   obtain⟨x,rfl,hh⟩:=WS h;replace h:=hh;clear hh;obtain⟨d,rfl,hx⟩:=hv.inv1;cases hx<;>simp only[reduceCtorEq]at h;obtain⟨hb,hh⟩:=ZD h;replace h:=hh;clear hh;rw[Zaq]at hb;simp only[ZH0]at h;subst h;refine⟨_,_,rfl,hb,?_⟩;have:=VR.str (J:=J) ((Utf8.encode ‹Int›).data.toList.map UInt8.toNat)
   rwa [Zmx]at this
  case b2s =>
   obtain⟨x,rfl,hh⟩:=WS h;replace h:=hh;clear hh;obtain⟨d,rfl,hx⟩:=hv.inv1;cases hx<;>simp only[reduceCtorEq]at h;case nilsl =>simp only[ZH0]at h;subst h;exact⟨True,_,rfl,trivial,.str []⟩
   case sl t n z rs τ row hr hn ht =>obtain⟨hb,hh⟩:=ZD h;replace h:=hh;clear hh;rw[Z3]at hb;subst hb;simp only[ZIe]at h;obtain⟨l,hl,rfl⟩:=h;obtain⟨e1,e2⟩:=hr.bytes hl;subst hn;refine⟨_,_,by simp only[ZIj,ZIA,qv,if_true]<;>rfl,e1,?_⟩;rw[<-e2];exact .str _
   case msl k b o n cap z hb =>obtain⟨hz,hh⟩:=ZD h;replace h:=hh;clear hh;rw[Z3]at hz;subst hz;obtain⟨cs,hg,hh⟩:=Zex h;replace h:=hh;clear hh;obtain⟨ds,ex,e0,e1⟩:=Zib hS hg hb;obtain⟨ab,hh⟩:=ZD h;replace h:=hh;clear hh;rw[Zaq]at ab;split at h<;>simp only[reduceCtorEq,ZIe]at h;rename_i r hr;obtain⟨l,hl,rfl⟩:=h;exact Zrn e0 e1 ab hr hl
   case gsl k b o n cap z c hb hb2 hcap hl =>obtain⟨hz,hh⟩:=ZD h;replace h:=hh;clear hh;rw[Z3]at hz;subst hz;obtain⟨cs,hg,hh⟩:=Zex h;replace h:=hh;clear hh;obtain⟨ds,ex,e0,e1⟩:=Zib hS hg hb;obtain⟨ab,hh⟩:=ZD h;replace h:=hh;clear hh;rw[Zaq]at ab;split at h<;>simp only[reduceCtorEq,ZIe]at h;rename_i r hr;obtain⟨l,hl,rfl⟩:=h;exact Zrn e0 e1 ab hr hl
 case faddr off =>obtain⟨x,rfl,hh⟩:=WS h;replace h:=hh;clear hh;obtain⟨d,rfl,hx⟩:=hv.inv1;cases hx<;>simp only[reduceCtorEq,ZH0]at h<;>subst h;exact⟨True,_,rfl,trivial,by constructor;assumption⟩;exact⟨True,_,rfl,trivial,by constructor;assumption⟩
 case fld1 off =>obtain⟨x,rfl,hh⟩:=WS h;replace h:=hh;clear hh;obtain⟨d,rfl,hx⟩:=hv.inv1;cases hx<;>simp only[reduceCtorEq]at h;rename_i cs ds hc;obtain⟨d,e1,e2⟩:=ZhA [] hc h;rw[ZIy]at e1;exact⟨True,d,by simp only[ZIj,ZIA,qv,e1,ZIx],trivial,e2⟩
 case fldN off n =>obtain⟨x,rfl,hh⟩:=WS h;replace h:=hh;clear hh;obtain⟨d,rfl,hx⟩:=hv.inv1;cases hx<;>simp only[reduceCtorEq]at h;rename_i cs ds hc;obtain⟨e1,e2⟩:=ZlK [] hc h;rw[ZIy]at e1 e2;exact⟨_,_,rfl,e1,e2⟩
 case iaddr z =>
  obtain⟨x,y,rfl,hh⟩:=ZdT h;replace h:=hh;clear hh;obtain⟨d,d',rfl,hx,hy⟩:=hv.inv2;cases hy<;>simp only[reduceCtorEq]at h;cases hx<;>simp only[reduceCtorEq]at h;case int.sl k i t n z' rs τ row hr hn ht =>obtain⟨hz,hh⟩:=ZD h;replace h:=hh;clear hh;rw[Z3]at hz;obtain⟨i0,i1,hh⟩:=Zb9 h;replace h:=hh;clear hh;split at h<;>simp only[reduceCtorEq,ZH0]at h;rename_i cs ae;rw[Zlq]at ae;obtain⟨cs',e1,e2,_⟩:=hr.get ae;simp only[V.agg.injEq]at e1;subst e1;subst h;exact⟨_,_,by simp only[ZIj,ZIA,qv,hz,if_true]<;>rfl,ZH4 i0 i1,.ep _ _ _ e2⟩
  case int.msl k i kb b o n cap z' hb =>obtain⟨hz,hh⟩:=ZD h;replace h:=hh;clear hh;rw[Z3]at hz;obtain⟨i0,i1,hh⟩:=Zb9 h;replace h:=hh;clear hh;simp only[ZH0]at h;subst h;exact⟨_,_,by simp only[ZIj,ZIA,qv,hz,if_true]<;>rfl,ZH4 i0 i1,.ptr _ _ _ hb⟩
  case int.gsl k i kb b o n cap z' c hb hb2 hcap hl =>obtain⟨hz,hh⟩:=ZD h;replace h:=hh;clear hh;rw[Z3]at hz;obtain⟨i0,i1,hh⟩:=Zb9 h;replace h:=hh;clear hh;simp only[ZH0]at h;subst h;exact⟨_,_,by simp only[ZIj,ZIA,qv,hz,if_true]<;>rfl,ZH4 i0 i1,.ptr _ _ _ hb⟩
 case iaddrA m z =>obtain⟨x,y,rfl,hh⟩:=ZdT h;replace h:=hh;clear hh;obtain⟨d,d',rfl,hx,hy⟩:=hv.inv2;cases hy<;>simp only[reduceCtorEq]at h;cases hx<;>simp only[reduceCtorEq]at h<;>obtain⟨i0,i1,h⟩:=Zb9 h<;>simp only[ZH0]at h<;>subst h;exact⟨_,_,rfl,ZH4 i0 i1,by constructor;assumption⟩;exact⟨_,_,rfl,ZH4 i0 i1,by constructor;assumption⟩
 case idxA m z one =>obtain⟨x,y,rfl,hh⟩:=ZdT h;replace h:=hh;clear hh;obtain⟨d,d',rfl,hx,hy⟩:=hv.inv2;cases hy<;>simp only[reduceCtorEq]at h;cases hx<;>simp only[reduceCtorEq]at h;rename_i k i cs ds hc;obtain⟨i0,i1,hh⟩:=Zb9 h;replace h:=hh;clear hh;cases one;simp only[ZIz,if_false]at h;obtain⟨e1,e2⟩:=ZlK [] hc h;rw[ZIy]at e1 e2;exact⟨_,_,rfl,⟨i0,i1,e1⟩,e2⟩;simp only[if_true]at h;obtain⟨d,e1,e2⟩:=ZhA [] hc h;rw[ZIy]at e1;exact⟨_,d,by simp only[ZIj,ZIA,qv,e1,ZIx]<;>rfl,ZH4 i0 i1,e2⟩
 case sliceA m z lo hi mx =>
  cases vs with
  |nil=>simp at h
  |cons x r =>
  obtain⟨d,ad,rfl,hx,hr⟩:=hv.inv;cases hx<;>simp only[reduceCtorEq]at h;rename_i k b o hb;split at h<;>(try(simp at h;done));rename_i l hh mm u;obtain⟨hc,hh⟩:=ZD h;replace h:=hh;clear hh;simp only[ZH0]at h;subst h;simp only[ZIb,JG,Zaq]at hc;have e:=Zbw hr u;simp only[ZIj,qv,e];refine⟨_,_,rfl,⟨hc.1.1.1.1,hc.1.1.1.2,hc.1.1.2,hc.1.2,hc.2⟩,?_⟩;by_cases he:mm.getD (m:Int)=l.getD 0;rw[if_pos he,if_pos (Jb.2 he)];exact .msl _ _ _ _ _ _ hb;rw[if_neg he,if_neg (λh=>he (Jb.1 h))];exact .msl _ _ _ _ _ _ hb
 case idxS =>
  obtain⟨x,y,rfl,hh⟩:=ZdT h;replace h:=hh;clear hh;obtain⟨d,d',rfl,hx,hy⟩:=hv.inv2;cases hy<;>simp only[reduceCtorEq]at h;cases hx<;>simp only[reduceCtorEq]at h;rename_i k i l;obtain⟨i0,i1,hh⟩:=Zb9 h;replace h:=hh;clear hh;simp only[ZH0]at h;subst h;refine⟨_,_,rfl,⟨i0,by simpa using i1⟩,?_⟩;have:(((l.map UInt8.ofNat).getD i.toNat 0).toNat:Int)=Int.ofNat (l.getD i.toNat 0 % 256):=by simp only[ZIg,List.getElem?_map];cases l[i.toNat]?<;>simp
  rw[this];exact .int _ _
 case lenS =>obtain⟨x,rfl,hh⟩:=WS h;replace h:=hh;clear hh;obtain⟨d,rfl,hx⟩:=hv.inv1;cases hx<;>simp only[reduceCtorEq,ZH0]at h;subst h;refine⟨True,_,rfl,trivial,?_⟩;rw[ZIo];exact .int _ _
 case lenL =>obtain⟨x,rfl,hh⟩:=WS h;replace h:=hh;clear hh;obtain⟨d,rfl,hx⟩:=hv.inv1;cases hx<;>simp only[reduceCtorEq,ZH0]at h<;>subst h<;>exact⟨True,_,rfl,trivial,.int _ _⟩
 case lenA n =>obtain⟨x,rfl,hh⟩:=WS h;replace h:=hh;clear hh;obtain⟨d,rfl,hx⟩:=hv.inv1;obtain⟨hb,hh⟩:=ZD h;replace h:=hh;clear hh;rw[Zaq]at hb;simp only[ZH0]at h;subst h;exact⟨_,_,rfl,KT hb,.int _ _⟩
 case ext k =>obtain⟨x,rfl,hh⟩:=WS h;replace h:=hh;clear hh;obtain⟨d,rfl,hx⟩:=hv.inv1;cases hx<;>simp only[reduceCtorEq]at h;rename_i cs ds hc;obtain⟨d,e1,e2⟩:=ZhA [] hc h;rw[ZIy]at e1;exact⟨True,d,by simp only[ZIj,ZIA,qv,e1,ZIx],trivial,e2⟩
 case build zero parts =>cases hz:ofDs zero<;>simp only[hz,reduceCtorEq,ZIe]at h;rename_i z;obtain⟨r,hr,rfl⟩:=h;obtain⟨rd,e1,e2⟩:=Zts (ofDs_ok hz) hv hr;exact⟨True,_,by simp only[qv,ZaS,e1,ZIx]<;>rfl,trivial,.agg _ _ e2⟩
 case mkfn f k =>cases f<;>simp only[reduceCtorEq,ZH0]at h;subst h;exact⟨True,_,by simp only[qv,ZaS,ZIx]<;>rfl,trivial,.fn _ _ _ _ _ (hv.take k) (hv.drop k)⟩
 case mkif t =>obtain⟨x,rfl,hh⟩:=WS h;replace h:=hh;clear hh;obtain⟨d,rfl,hx⟩:=hv.inv1;simp only[ZH0]at h;subst h;exact⟨True,_,rfl,trivial,.iface _ _ _ hx⟩
 case sliceS lo hi =>
  cases vs with
  |nil=>simp at h
  |cons x r =>
  obtain⟨d,ad,rfl,hx,hr⟩:=hv.inv;cases hx<;>simp only[reduceCtorEq]at h;rename_i l;split at h<;>(try(simp at h;done));rename_i a b c u;obtain⟨hc,hh⟩:=ZD h;replace h:=hh;clear hh;simp only[ZH0]at h;subst h;simp only[ZIb,JG]at hc;have e:=Zbw hr u;simp only[ZIj,qv,e,ZIo];refine⟨_,_,rfl,⟨hc.1.1,hc.1.2,hc.2⟩,?_⟩;rw[<-List.map_drop,<-List.map_take];exact .str _
 case slice z lo hi mx =>
  cases vs with
  |nil=>simp at h
  |cons x r =>
  obtain⟨d,ad,rfl,hx,hr⟩:=hv.inv;simp only at h;split at h<;>(try(simp at h;done));rename_i l hh m u;have e:=Zbw hr u;obtain⟨side,r',e1,e2,e3⟩:=Zzl h1 hx h;exact⟨side,r',by simp only[ZIj,qv,e,e1,ZIx],e2,e3⟩
 case min =>obtain⟨x,y,rfl,hh⟩:=ZdT h;replace h:=hh;clear hh;obtain⟨d,d',rfl,hx,hy⟩:=hv.inv2;cases hx<;>simp only[reduceCtorEq]at h;cases hy<;>simp only[reduceCtorEq]at h;obtain⟨hk,hh⟩:=ZD h;replace h:=hh;clear hh;obtain rfl:=Zfl hk;simp only[ZH0]at h;subst h;refine⟨True,_,by simp only[ZIj,ZIA,qv,if_true]<;>rfl,trivial,?_⟩;rw[ZD0];exact .int _ _
 case max =>obtain⟨x,y,rfl,hh⟩:=ZdT h;replace h:=hh;clear hh;obtain⟨d,d',rfl,hx,hy⟩:=hv.inv2;cases hx<;>simp only[reduceCtorEq]at h;cases hy<;>simp only[reduceCtorEq]at h;obtain⟨hk,hh⟩:=ZD h;replace h:=hh;clear hh;obtain rfl:=Zfl hk;simp only[ZH0]at h;subst h;refine⟨True,_,by simp only[ZIj,ZIA,qv,if_true]<;>rfl,trivial,?_⟩;rw[ZDZ];exact .int _ _
 case tassert t ok zero =>cases ok<;>simp only at h;obtain⟨x,rfl,hh⟩:=WS h;replace h:=hh;clear hh;obtain⟨d,rfl,hx⟩:=hv.inv1;cases hx<;>simp only[reduceCtorEq]at h;obtain⟨ht,hh⟩:=ZD h;replace h:=hh;clear hh;rw[Z3]at ht;simp only[ZH0]at h;subst h;exact⟨True,_,by simp only[ZIj,ZIA,qv,ht,if_true]<;>rfl,trivial,by assumption⟩;obtain⟨x,rfl,hh⟩:=WS h;replace h:=hh;clear hh;obtain⟨d,rfl,hx⟩:=hv.inv1;cases hx<;>simp only[reduceCtorEq]at h;obtain⟨ht,hh⟩:=ZD h;replace h:=hh;clear hh;rw[Z3]at ht;simp only[ZH0]at h;subst h;exact⟨True,_,by simp only[ZIj,ZIA,qv,ht,if_true]<;>rfl,trivial,.tup _ _ (.cons _ _ _ _ ‹_› (.one (.bool _)))⟩;simp only[ZIe]at h;obtain⟨z,hz,rfl⟩:=h;exact⟨True,_,rfl,trivial,.tup _ _ (.cons _ _ _ _ (ZhE hz) (.one (.bool _)))⟩
 case lookup kp zero ok =>cases hz:ofD zero<;>simp only[hz,reduceCtorEq]at h;rename_i z;obtain⟨x,y,rfl,hh⟩:=ZdT h;replace h:=hh;clear hh;obtain⟨d,d',rfl,hx,hy⟩:=hv.inv2;obtain⟨hk,hh⟩:=ZD h;replace h:=hh;clear hh;have af:=Zgg hy hk;cases hx<;>simp only[reduceCtorEq]at h;rename_i k b hb;split at h<;>simp only[reduceCtorEq,ZIe]at h;rename_i es ac;obtain⟨r,hr,rfl⟩:=h;obtain⟨ag,e1,e2⟩:=hS.mapO ac hb;obtain⟨r',e3,e4⟩:=Ztv hy e2 hr;exact⟨_,_,by simp only[ZIj,ZIA,qv,KU,e1,e3,ZIx]<;>rfl,af,ZtH (ZhE hz) e4⟩;simp only[ZH0]at h;subst h;exact⟨_,_,rfl,af,ZtH (r':=nO) (ZhE hz) trivial⟩
 case lenM =>
  obtain⟨x,rfl,hh⟩:=WS h;replace h:=hh;clear hh;obtain⟨d,rfl,hx⟩:=hv.inv1;cases hx<;>simp only[reduceCtorEq]at h;·rename_i k b hb;split at h<;>(try(simp at h;done));rename_i es ac;obtain⟨hl,hh⟩:=ZD h;replace h:=hh;clear hh;rw[Zaq]at hl;simp only[ZH0]at h;subst h;obtain⟨ag,e1,e2⟩:=hS.mapO ac hb;refine⟨_,_,by simp only[ZIj,ZIA,qv,KU,e1]<;>rfl,by rw[<-e2.len];exact hl,?_⟩;rw[<-e2.len];exact .int _ _
  simp only[ZH0]at h;subst h;exact⟨True,_,rfl,trivial,.int _ _⟩
end
section
variable {C:Px} {J:Nm} {U:S} {s:St} {L:Loc} {H:T W} {ρd:Env} {nx:Nat}
def Zzx:∀(l:List Nat) (k),VRr J 1 (u8V (l.drop k)) (λi=>[D.int .u8 (((l.map UInt8.ofNat).getD (k+i) 0).toNat:Int)])
 |l,k=>by
  have key:∀(m:List Nat) (k:Nat),l.drop k=m->VRr J 1 (u8V m) (λi=>[D.int .u8 (((l.map UInt8.ofNat).getD (k+i) 0).toNat:Int)]):=by
   intro m;induction m with
   |nil=>intro k _;exact .nil _ _
   |cons a m ih =>
    intro k t;have u:l[k]?=sO a:=by have:=congrArg (λx=>x[0]?) t;simpa using this
    have h2:l.drop (k+1)=m:=by have:=congrArg List.tail t;simpa using this
    refine .cons 1 _ _ _ ?_ rfl ((ih (k+1) h2).congr λi _=>by rw[show k+1+i=k+(i+1) by omega]);have:(((l.map UInt8.ofNat).getD (k+0) 0).toNat:Int)=Int.ofNat (a % 256):=by simp[u]
    rw[this];exact .one (.int _ _)
  exact key _ k rfl
def ZvN{z u}(t:VRs J z u){i}:∀{is:List Nat} {vs ds},VRs J vs ds->VRs J (ZgZ z (is.zip vs) i) (ZZ u (is.zip ds) i)
 | [],vs,ds,h=>by simpa[ZgZ,ZZ]using t
 |k::is,vs,ds,h=>by
  cases vs with
  |nil=>obtain rfl:=h.inv0;simpa[ZgZ,ZZ]using t
  |cons v vs =>
   obtain⟨d,ds',rfl,h1,h2⟩:=h.inv;simp[ZgZ,ZZ];by_cases hk:k=i;simp_all;cases h1<;>first|exact .one (by constructor<;>assumption)|assumption
   simp_all;exact ZvN t h2
def Zk6{v}{d}(h:VR J v d):VRs J (ZfS v) (cellsOf d):=by
 cases h<;>first|exact .one (by constructor<;>assumption)|assumption
def ZnK{v d}(h:VR J v d)(i:Zpz v=true):Kc d=true:=by
 cases h<;>first|rfl|cases i
def Zuu{v d}(h:VR J v d)(i:ZxJ v=true):Qp d=true:=by
 cases h<;>first|rfl|cases i
def Zkj{n}:∀{vs ds},VRs J vs ds->Zfu n vs=true->Qb n ds=true
 | [],ds,h,hp=>by obtain rfl:=h.inv0;rfl
 |v::vs,ds,h,hp=>by obtain⟨d,ds',rfl,i,t⟩:=h.inv;simp[Zfu]at hp;simp[Qb];exact⟨⟨ZnK i hp.1.1,by rw[<-(Zk6 i).len];exact hp.1.2⟩,Zkj t hp.2⟩
def ZtG{n z}(t:I z=n){i}:∀{is:List Nat} {vs},Zfu n vs=true->(ZgZ z (is.zip vs) i).length=n
 | [],vs,_=>by simpa[ZgZ]using t
 |k::is,[],_=>by simpa[ZgZ]using t
 |k::is,v::vs,hp=>by simp[Zfu]at hp;simp[ZgZ];split;exact hp.1.2;exact ZtG t hp.2
def Zno{n z zd}(hz:VRs J z zd)(t:I z=n){is:List Nat}{vs ds}(hv:VRs J vs ds)(u:Zfu n vs=true):∀(len i),VRr J n (Zlt z (is.zip vs) len i) (λj=>ZZ zd (is.zip ds) (i+j))/\(Zlt z (is.zip vs) len i).length=len
 |0,i=>⟨.nil _ _,rfl⟩
 |len+1,i=>by obtain⟨h1,h2⟩:=Zno hz t hv u len (i+1);refine⟨.cons _ _ _ _ (ZvN hz hv) (ZtG t u) (h1.congr λj _=>by rw[show i+1+j=i+(j+1) by omega]),by simp[Zlt,h2]⟩
def Zrp(hS:Sim C J U s)(h1:J 1=sO .full)(hρ:Z6 J L H ρd){dst g}(hg:Zn ρd g=sO true){k r}(hk:YF k=true){db}(h:(opF false db k).run H U nx=sO r):
  r.U=U/\r.nx=nx/\∃side e,side/\ZF ⟨dst,g,k⟩ ρd L s=.ok side (Zx ρd dst e) L s/\WR J L (.v r.v) e:=by
 have fin:∀{side:Prop} {d:D} {v:V},side->VR J v d->ZF ⟨dst,g,k⟩ ρd L s=(match g with
   |none=>.ok side (Zx ρd dst (.d d)) L s
   |some _=>.ok (true=true->side) (Zx ρd dst (.when true (.d d))) L s)->∃side e,side/\ZF ⟨dst,g,k⟩ ρd L s=.ok side (Zx ρd dst e) L s/\WR J L (.v v) e:=by
  intro side d v hs hv u;cases g with
  |none=>exact⟨side,.d d,hs,u,d,hv,.inl rfl⟩
  |some x=>exact⟨_,.when true (.d d),λ_=>hs,u,d,hv,.inr rfl⟩
 cases k<;>simp only[YF,ZIz]at hk;case q q xs =>simp only[opF]at h;split at h<;>(try(simp at h;done));rename_i vs t;split at h<;>simp only[ZH0,reduceCtorEq]at h;rename_i v hv;subst h;obtain⟨p,ds,a1,a2,a3⟩:=ZaM hρ t;obtain⟨side,d,b1,b2,b3⟩:=Zxe (L:=L) hS h1 a3 hv;refine⟨rfl,rfl,fin (side:=p/\side) ⟨a2,b2⟩ b3 ?_⟩;unfold ZF;simp only[hg,a1,b1];cases g<;>rfl
 case pick c a b =>
  simp only[opF]at h;unfold mp2 at h;split at h<;>(try(simp at h;done));rename_i cv hc;obtain⟨pc,dc,c1,c2,c3⟩:=KE hρ hc;cases c3<;>simp only[reduceCtorEq]at h;rename_i cb;have ab:∀{x y:Opd} {yb:Bool},(Zkf x).run H=true->(YQ y).run H=sO (.bool yb)->(∃p z,ZC ρd false x=sO (p,.d (.bool z))/\p)/\∃p,ZC ρd true y=sO (p,.d (.bool yb))/\p:=by intro x y yb hx hy;obtain⟨p,d,e1,e2,e3⟩:=KE hρ hy;cases e3;exact⟨ZyV hρ hx rfl,p,e1,e2⟩
  cases cb;·simp only at h;obtain⟨hb,h⟩:=ZD h;split at h<;>(try(simp at h;done));rename_i yv hy;split at h<;>cases h;obtain⟨⟨p1,z,e1,e2⟩,p2,e3,e4⟩:=ab hb hy;refine⟨rfl,rfl,fin (side:=pc/\p1/\p2) ⟨c2,e2,e4⟩ (.bool _) ?_⟩;unfold ZF ZdP;simp[hg,c1,e1,e3];cases g<;>rfl
  simp only at h;obtain⟨hb,h⟩:=ZD h;split at h<;>(try(simp at h;done));rename_i yv hy;split at h<;>cases h;obtain⟨⟨p1,z,e1,e2⟩,p2,e3,e4⟩:=ab hb hy;refine⟨rfl,rfl,fin (side:=pc/\p2/\p1) ⟨c2,e4,e2⟩ (.bool _) ?_⟩;unfold ZF ZdP;simp[hg,c1,e1,e3];cases g<;>rfl
 case bsl len n z is xs =>simp only[opF]at h;cases hz:ofDs z<;>simp only[hz,reduceCtorEq]at h;rename_i zv;split at h<;>(try(simp at h;done));rename_i vs t;obtain⟨hb,h⟩:=ZD h;cases h;simp only[ZIb,Z3]at hb;obtain⟨p,ds,a1,a2,a3⟩:=ZaM hρ t;obtain⟨l1,l2⟩:=Zno (is:=is) (ofDs_ok hz) hb.2 a3 hb.1 len 0;refine⟨rfl,rfl,fin (side:=p/\Qb n ds=true) ⟨a2,Zkj a3 hb.1⟩ (.sl 1 len n _ .full (ZZ z (is.zip ds)) (l1.congr λi _=>by rw[Nat.zero_add]) l2 (.inr h1)) ?_⟩;unfold ZF;simp only[hg,a1,ZaS];cases g<;>rfl
 case s2b x =>simp only[opF]at h;unfold mp2 at h;split at h<;>(try(simp at h;done));rename_i xv hx;obtain⟨p,d,a1,a2,a3⟩:=KE hρ hx;cases a3<;>simp only[reduceCtorEq,ZH0]at h;rename_i l;subst h;refine⟨rfl,rfl,fin (side:=p) a2 (.sl 0 (I l) 1 (u8V l) .none _ (Zzx l 0) (by simp[u8V]) (.inl rfl)) ?_⟩;unfold ZF;simp only[hg,a1,ZIo,Nat.zero_add];cases g<;>rfl
end
def Y0(C:Px)(J:Nm)(r:R3)(e:E)(s2:St):Prop:=∃J',J.Sub J'/\Yu J' r.nx/\Sim C J' r.U s2/\∃d,VR J' r.v d/\e=.d d
def OR.cells0{C J k vs ds}(h:VRs J vs ds):OR C J k (.cells vs) (.cells ds):=by
 simpa using OR.cells (C:=C) (k0:=k) vs ds [] h
def ZuU{cs i o}(h:o+I i<=I cs):(Zt cs o i).length=I cs:=by
 simp[Zt];omega
def JE{s b cs}(h:s b=sO (.cells cs)):Z1 s b=sO cs:=by simp[Z1,h]
section
variable {C:Px} {J:Nm} {U:S} {s:St} {L:Loc} {H:T W} {ρd:Env} {nx:Nat}
def WA{x f r}(h:mp2 x f=sO r):∃v,x=sO v/\f v=sO r:=by
 cases x with
 |none=>cases h
 |some v=>exact⟨v,rfl,h⟩
def Zut{x v r}(h:up x v nx=sO r):∃U',x=sO U'/\r=⟨v,U',nx⟩:=by
 cases x with
 |none=>cases h
 |some U'=>simp[up]at h;exact⟨U',rfl,h.symm⟩
def Y0.new(hS:Sim C J U s)(hN:Yu J nx){b}(hb:s b=nO){o d}(ho:OR C (J.put nx (.tip b)) nx o d){v e}(hv:VR (J.put nx (.tip b)) v e)(hr:ZbQ o=false:=by rfl):Y0 C J ⟨v,U.set (sO o) nx,nx+1⟩ (.d e) (s.upd b d) :=
 ⟨_,Nm.put_sub (hN.free nx (ZIh _)) _,hN.put _,hS.new (hN.free nx (ZIh _)) hb ho hr,e,hv,rfl⟩
def Y0.turn(hS:Sim C J U s)(hN:Yu J nx){k b o o' d}(h:U.get k=sO o)(hb:J k=sO (.tip b))(ho:OR C J k o' d){v e}(hv:VR J v e)(hr:ZbQ o=false:=by rfl)(hr':ZbQ o'=false:=by rfl):Y0 C J ⟨v,U.set (sO o') k,nx⟩ (.d e) (s.upd b d) :=
 ⟨J,Nm.Sub.refl _,hN,hS.upd h hb ho hr hr',e,hv,rfl⟩
def Zk2(hS:Sim C J U s){a n xs U'}(h:ZhS U a n xs=sO U'){da}(ha:VR J a da){ys}(hx:VRs J xs ys):
  ∃b off cs,da=.ptr b off/\Z1 s b=sO cs/\off+I ys<=I cs/\I ys=n/\Sim C J U' (s.upd b (.cells (Zt cs off ys))):=by
 cases ha<;>simp only[ZhS,reduceCtorEq]at h;rename_i k b o hb;split at h<;>(try(simp at h;done));all_goals
  rename_i cs i;split at h<;>simp at h;rename_i cs' ab;subst h;obtain⟨ds,ex,e1,e2⟩:=hS.cells (vs:=cs) (by rw[i];rfl) hb;obtain⟨f0,f1,f2⟩:=e2.over hx ab;have hl:I ys=n:=by rw[<-hx.len,f0]
  have t:Zt (ds++ex) o ys=Zt ds o ys++ex:=ZmH ω;refine⟨b,o,_,rfl,JE e1,by simp;omega,hl,?_⟩;rw[t]
 exact hS.upd i hb (.cells _ _ _ f2);refine hS.upd i hb (.buf _ _ _ f2 ?_);obtain⟨b',d,g1,g2,g3⟩:=hS.get i (λn=>by simp);rw[hb]at g1;cases g1;rw[e1]at g2;cases g2;generalize u:(Qv.cells (ds++ex))=dd at g3;cases g3 with
 |buf _ ds2 ex2 _ hc =>
  simp only[Qv.cells.injEq]at u;rw[hc];have:(Zt ds o ys++ex).length=(ds2++ex2).length:=by rw[<-u,ZIc,ZIc,ZuU ω]
  rw[this]
variable {P:Program} {F:Fr P} {kp:Option (List Nat)} {dk:List W2} {os:List DOp} {H':Env} {L':Loc}
def Wy(hρ:Z6 J L H ρd){x v}(h:(YQ x).run H=sO v)(i:ZA ρd H' (ZS x)):∃p d,ZC H' true x=sO (p,.d d)/\p/\VR J v d:=by
 obtain⟨p,d,t,u,h3⟩:=KE hρ h;exact⟨p,d,by rw[ZQ i];exact t,u,h3⟩
def Zyk(hS:Sim C J U s)(hN:Yu J nx){dst z mu r}(h:(opF mu dst.isSome (.alloc z)).run H U nx=sO r)(hc:∀e s2,Y0 C J r e s2->DO F kp dk os (Zx H' dst e) L' s2):DO F kp dk (⟨dst,nO,.alloc z⟩::os) H' L' s:=by
 simp[opF]at h;cases u:ofDs z<;>simp[u]at h;obtain⟨hd,i⟩:=ZD h;replace h:=i;clear i;cases h;cases dst with
 |none=>grind
 |some t=>exact ZxP rfl rfl rfl λb hb=>hc (.d (.ptr b 0)) _ (Y0.new hS hN hb (OR.cells0 (ofDs_ok u)) (.ptr _ _ _ Nm.put_same))
def ZBP(hS:Sim C J U s)(hN:Yu J nx)(hρ:Z6 J L H ρd){dst x mu r}(h:(opF mu dst.isSome (.box x)).run H U nx=sO r)(u:ZA ρd H' (ZS x))(hc:∀e s2,Y0 C J r e s2->DO F kp dk os (Zx H' dst e) L' s2):DO F kp dk (⟨dst,nO,.box x⟩::os) H' L' s:=by
 obtain⟨hd,i⟩:=ZD h;replace h:=i;clear i;obtain⟨v,hv,i⟩:=WA h;replace h:=i;clear i;obtain⟨hp,i⟩:=ZD h;replace h:=i;clear i;cases h;obtain⟨p,d,a1,a2,a3⟩:=Wy hρ hv u;cases dst with
 |none=>grind
 |some t=>exact ZBj rfl rfl rfl a1 a2 (ZnK a3 hp) λb hb=>hc (.d (.ptr b 0)) _ (Y0.new hS hN hb (OR.cells0 ((Zk6 a3).mono (Nm.put_sub (hN.free nx (ZIh _)) _))) (.ptr _ _ _ Nm.put_same))
def ZwJ(hS:Sim C J U s)(hN:Yu J nx)(hρ:Z6 J L H ρd){dst a v mu r}(h:(opF mu dst.isSome (.store1 a v)).run H U nx=sO r)(hag:ZA ρd H' (ZS a++ZS v))(hc:∀e s2,Y0 C J r e s2->DO F kp dk os (Zx H' dst e) L' s2):DO F kp dk (⟨dst,nO,.store1 a v⟩::os) H' L' s:=by
 obtain⟨hd,hh⟩:=ZD h;replace h:=hh;clear hh;obtain⟨av,ha,hh⟩:=WA h;replace h:=hh;clear hh;obtain⟨xv,hx,hh⟩:=WA h;replace h:=hh;clear hh;obtain⟨ab,hh⟩:=ZD h;replace h:=hh;clear hh;obtain⟨U',ac,rfl⟩:=Zut h;obtain⟨p,da,a1,a2,a3⟩:=Wy hρ ha (λt ht=>hag t (by simp[ht]));obtain⟨q,dx,b1,b2,b3⟩:=Wy hρ hx (λt ht=>hag t (by simp[ht]));have u:=Zuu b3 ab;have i:cellsOf dx=[dx]:=by cases dx<;>first|rfl|cases u
 obtain⟨b,off,cs,rfl,c1,c2,c3,c4⟩:=Zk2 hS ac a3 (.one b3);cases dst with
 |some t=>grind
 |none =>refine Zf3 rfl (.inl ⟨rfl,trivial⟩) a1 b1 a2 b2 c1 (λ_=>u) (λn hn=>by grind) (by rw[i];exact c2) rfl ?_;rw[i];exact hc (.d .nilsl) _ ⟨J,Nm.Sub.refl _,hN,c4,.nilsl,.nilsl,rfl⟩
def ZwK(hS:Sim C J U s)(hN:Yu J nx)(hρ:Z6 J L H ρd){dst a v n mu r}(h:(opF mu dst.isSome (.storeN n a v)).run H U nx=sO r)(hag:ZA ρd H' (ZS a++ZS v))(hc:∀e s2,Y0 C J r e s2->DO F kp dk os (Zx H' dst e) L' s2):DO F kp dk (⟨dst,nO,.storeN n a v⟩::os) H' L' s:=by
 obtain⟨hd,hh⟩:=ZD h;replace h:=hh;clear hh;obtain⟨av,ha,hh⟩:=WA h;replace h:=hh;clear hh;obtain⟨xv,hx,hh⟩:=WA h;replace h:=hh;clear hh;obtain⟨p,da,a1,a2,a3⟩:=Wy hρ ha (λt ht=>hag t (by simp[ht]));obtain⟨q,dx,b1,b2,b3⟩:=Wy hρ hx (λt ht=>hag t (by simp[ht]));cases b3<;>simp at h;rename_i xs ys u;obtain⟨U',i,rfl⟩:=Zut h;obtain⟨b,off,cs,rfl,c1,c2,c3,c4⟩:=Zk2 hS i a3 u;cases dst with
 |some t=>grind
 |none =>refine Zf3 rfl (.inr ⟨n,rfl⟩) a1 b1 a2 b2 c1 (λhn=>by grind) (λm hm=>?_) c2 rfl ?_;simp only[K.storeN.injEq]at hm;exact⟨⟨_,rfl⟩,by rw[<-hm.1];exact c3⟩;exact hc (.d .nilsl) _ ⟨J,Nm.Sub.refl _,hN,c4,.nilsl,.nilsl,rfl⟩
def Zyn(hS:Sim C J U s)(u:Yu J nx){dst mu r}(h:(opF mu dst.isSome .mkmap).run H U nx=sO r)(hc:∀e s2,Y0 C J r e s2->DO F kp dk os (Zx H' dst e) L' s2):DO F kp dk (⟨dst,nO,.mkmap⟩::os) H' L' s:=by
 obtain⟨hd,i⟩:=ZD h;replace h:=i;clear i;cases h;cases dst with
 |none=>grind
 |some t=>exact Zsz rfl rfl rfl λb hb=>hc (.d (.map b)) _ (Y0.new hS u hb (.map [] [] .nil) (.map _ _ Nm.put_same))
def Zla{z}{zd}(hz:VRs J z zd):∀n,VRs J (Zh0 z n) (W6 zd n)
 |0=>by simp[Zh0];exact .nil
 |n+1=>by exact hz.append (Zla hz n)
def ZuI(hS:Sim C J U s)(hN:Yu J nx)(hρ:Z6 J L H ρd){dst e n bytes z l hx mu r}(h:(opF mu dst.isSome (.mkslice e n bytes z l hx)).run H U nx=sO r)(hag:ZA ρd H' (ZS l++ZS hx))(hc:∀e s2,Y0 C J r e s2->DO F kp dk os (Zx H' dst e) L' s2):DO F kp dk (⟨dst,nO,.mkslice e n bytes z l hx⟩::os) H' L' s:=by
 simp[opF]at h;cases hz:ofDs z<;>simp[hz]at h;obtain⟨hd,u⟩:=ZD h;replace h:=u;clear u;obtain⟨lv,hl,u⟩:=WA h;replace h:=u;clear u;obtain⟨hv,u,u⟩:=WA h;replace h:=u;clear u;obtain⟨p,dl,a1,a2,a3⟩:=Wy hρ hl (λt ht=>hag t (by simp[ht]));obtain⟨q,dh,b1,b2,b3⟩:=Wy hρ u (λt ht=>hag t (by simp[ht]));cases a3<;>simp at h;cases b3<;>simp at h;obtain⟨hb,u⟩:=ZD h;replace h:=u;clear u;cases h;simp[JG]at hb;cases dst with
 |none=>grind
 |some t =>refine ZnP rfl rfl rfl a1 b1 a2 b2 hb.1.1.1 hb.1.1.2 hb.1.2 hb.2 λb i=>hc (.d (.msl b 0 _ _ n)) _ (Y0.new hS hN i (OR.cells0 (Zla (ofDs_ok hz) _)) (.msl _ _ _ _ _ _ Nm.put_same))
def ZwI(hS:Sim C J U s)(hN:Yu J nx)(hρ:Z6 J L H ρd){dst mk m k v mu r}(h:(opF mu dst.isSome (.mapupd mk m k v)).run H U nx=sO r)(hag:ZA ρd H' (ZS m++ZS k++ZS v))(hc:∀e s2,Y0 C J r e s2->DO F kp dk os (Zx H' dst e) L' s2):DO F kp dk (⟨dst,nO,.mapupd mk m k v⟩::os) H' L' s:=by
 simp only[opF]at h;obtain⟨hd,hh⟩:=ZD h;replace h:=hh;clear hh;obtain⟨mv,hm,hh⟩:=WA h;replace h:=hh;clear hh;obtain⟨kv,hk,hh⟩:=WA h;replace h:=hh;clear hh;obtain⟨vv,hv,hh⟩:=WA h;replace h:=hh;clear hh;obtain⟨p,dm,a1,a2,a3⟩:=Wy hρ hm (λt ht=>hag t (by simp[ht]));obtain⟨q,dk',b1,b2,b3⟩:=Wy hρ hk (λt ht=>hag t (by simp[ht]));obtain⟨q',dv,c1,c2,c3⟩:=Wy hρ hv (λt ht=>hag t (by simp[ht]));cases a3<;>simp only[reduceCtorEq]at h;rename_i kb b hb;split at h<;>(try(simp at h;done));rename_i es i;obtain⟨ab,hh⟩:=ZD h;replace h:=hh;clear hh;split at h<;>simp only[ZH0,reduceCtorEq]at h;rename_i es' u;subst h;obtain⟨ds,e1,e2⟩:=hS.map i hb;obtain⟨ds',e3,e4⟩:=ZqB b3 c3 e2 u;cases dst with
 |some t=>simp at hd
 |none=>exact ZqM rfl rfl rfl a1 b1 c1 a2 b2 c2 (by simp only[KU,e1]) e3 (Zgg b3 ab) (hc (.d .nilsl) _ (Y0.turn hS hN i hb (.map _ _ e4) .nilsl))
def ZwG(hS:Sim C J U s)(hN:Yu J nx)(hρ:Z6 J L H ρd){dst mk m k mu r}(h:(opF mu dst.isSome (.delete mk m k)).run H U nx=sO r)(hag:ZA ρd H' (ZS m++ZS k))(hc:∀e s2,Y0 C J r e s2->DO F kp dk os (Zx H' dst e) L' s2):DO F kp dk (⟨dst,nO,.delete mk m k⟩::os) H' L' s:=by
 obtain⟨hd,hh⟩:=ZD h;replace h:=hh;clear hh;obtain⟨mv,hm,hh⟩:=WA h;replace h:=hh;clear hh;obtain⟨kv,hk,hh⟩:=WA h;replace h:=hh;clear hh;obtain⟨p,dm,a1,a2,a3⟩:=Wy hρ hm (λt ht=>hag t (by simp[ht]));obtain⟨q,dk',b1,b2,b3⟩:=Wy hρ hk (λt ht=>hag t (by simp[ht]));cases a3<;>simp only[reduceCtorEq]at h;rename_i kb b hb;split at h<;>(try(simp at h;done));rename_i es i;obtain⟨ab,hh⟩:=ZD h;replace h:=hh;clear hh;split at h<;>simp only[ZH0,reduceCtorEq]at h;rename_i es' u;subst h;obtain⟨ds,e1,e2⟩:=hS.map i hb;obtain⟨ds',e3,e4⟩:=Zvu b3 e2 u;cases dst with
 |some t=>simp at hd
 |none=>exact ZqK rfl rfl rfl a1 b1 a2 b2 (by simp only[KU,e1]) e3 (Zgg b3 ab) (hc (.d .nilsl) _ (Y0.turn hS hN i hb (.map _ _ e4) .nilsl))
def ZwH(hS:Sim C J U s)(hN:Yu J nx)(hρ:Z6 J L H ρd){dst mk z m k mu r}(h:(opF mu dst.isSome (.mapent mk z m k)).run H U nx=sO r)(hag:ZA ρd H' (ZS m++ZS k))(hc:∀e s2,Y0 C J r e s2->DO F kp dk os (Zx H' dst e) L' s2):DO F kp dk (⟨dst,nO,.mapent mk z m k⟩::os) H' L' s:=by
 simp[opF]at h;cases hz:ofD z<;>simp[hz]at h;obtain⟨hd,hh⟩:=ZD h;replace h:=hh;clear hh;obtain⟨mv,hm,hh⟩:=WA h;replace h:=hh;clear hh;obtain⟨kv,hk,hh⟩:=WA h;replace h:=hh;clear hh;obtain⟨p,dm,a1,a2,a3⟩:=Wy hρ hm (λt ht=>hag t (by simp[ht]));obtain⟨q,dk',b1,b2,b3⟩:=Wy hρ hk (λt ht=>hag t (by simp[ht]));cases a3<;>simp at h;rename_i kb b hb;split at h<;>(try(grind;done));rename_i es u;obtain⟨ab,hh⟩:=ZD h;replace h:=hh;clear hh;split at h<;>simp at h;rename_i v hv;subst h;obtain⟨ds,e1,e2⟩:=hS.map u hb;obtain⟨d,e3,e4⟩:=Zvy b3 (ZhE hz) e2 hv;cases dst with
 |none=>grind
 |some t =>refine ZqL rfl rfl rfl a1 b1 a2 b2 (by simp[KU,e1]) e3 (Zgg b3 ab) λn=>hc (.d (.tup [d,.stamp n])) _ ?_;have i:=Nm.put_sub (hN.free nx (ZIh _)) (.tip n);exact⟨_,i,hN.put _,(hS.mono i).upd u (i _ _ hb) (.mapE _ _ _ _ _ _ _ (e2.imp λ_ _ m=>m.mono i) (b3.mono i) Nm.put_same),_,.tup _ _ (.cons _ _ _ _ (e4.mono i) (.one (.stamp _ _ Nm.put_same))),rfl⟩
def Zym(hS:Sim C J U s)(hN:Yu J nx)(hρ:Z6 J L H ρd){dst m st v mu r}(h:(opF mu dst.isSome (.entst m st v)).run H U nx=sO r)(hag:ZA ρd H' (ZS m++ZS st++ZS v))(hc:∀e s2,Y0 C J r e s2->DO F kp dk os (Zx H' dst e) L' s2):DO F kp dk (⟨dst,nO,.entst m st v⟩::os) H' L' s:=by
 simp only[opF]at h;obtain⟨hd,hh⟩:=ZD h;replace h:=hh;clear hh;obtain⟨mv,hm,hh⟩:=WA h;replace h:=hh;clear hh;obtain⟨kv,hk,hh⟩:=WA h;replace h:=hh;clear hh;obtain⟨vv,hv,hh⟩:=WA h;replace h:=hh;clear hh;obtain⟨p,dm,a1,a2,a3⟩:=Wy hρ hm (λt ht=>hag t (by simp[ht]));obtain⟨q,dk',b1,b2,b3⟩:=Wy hρ hk (λt ht=>hag t (by simp[ht]));obtain⟨q',dv,c1,c2,c3⟩:=Wy hρ hv (λt ht=>hag t (by simp[ht]));cases a3<;>simp only[reduceCtorEq]at h;rename_i kb b hb;cases b3<;>simp only[reduceCtorEq]at h;rename_i kn n hn;split at h<;>(try(simp at h;done));rename_i mk es key n' i;obtain⟨ab,hh⟩:=ZD h;replace h:=hh;clear hh;rw[Z3]at ab;subst ab;split at h<;>simp only[ZH0,reduceCtorEq]at h;rename_i es' u;subst h;obtain⟨b',d,e0,e1,e2⟩:=hS.get i (λn=>by simp);rw[hb]at e0;simp only[ZH0,Tok.tip.injEq]at e0;subst e0;cases e2 with
 |mapE _ _ ds _ dkey _ m' g1 g2 g3 =>
  rw[hn]at g3;simp only[ZH0,Tok.tip.injEq]at g3;subst g3;obtain⟨ds',e3,e4⟩:=ZqB g2 c3 g1 u;cases dst with
  |some t=>simp at hd
  |none=>exact Zsy rfl rfl rfl a1 b1 c1 a2 b2 c2 e1 e3 (hc (.d .nilsl) _ (Y0.turn hS hN i hb (.map _ _ e4) .nilsl))
end
def St.del_upd(s:St)(b d):(s.del b).upd b d=s.upd b d:=by
 funext c;simp[ZID,St.del];split<;>rfl
def St.upd_del{b d}(h:s b=sO d):(s.del b).upd b d=s:=by
 funext c;simp[ZID,St.del];split;rename_i i;rw[i,h];rfl
section
variable {C:Px} {J:Nm} {U:S} {s:St}
def Sim.take(x:Sim C J U s){k b:Nat}{o:O}(h:U.get k=sO o)(hb:J k=sO (.tip b))(hr:ZbQ o=false:=by rfl):Sim C J (U.set nO k) (s.del b) where
 obj k' o' h':=by obtain⟨u,h1⟩:=ZvF h';obtain⟨t,e1,⟨b',d',rfl,e2,e3⟩|e2⟩:=x.obj k' o' h1;refine⟨_,e1,.inl ⟨b',d',rfl,?_,e3⟩⟩;have:b'≠b:=λi=>u (x.inj k' k _ _ b h1 h (by rw[<-i];exact e1) hb);simp[St.del,this];exact e2;exact⟨t,e1,.inr e2⟩
 inj:=(x.forget k).inj
 kp c e hc:=by obtain⟨h1,h2⟩:=(x.forget k).kp c e hc;have:c≠b:=λec=>(x.kp c e hc).2 k o h hr (by rw[ec];exact hb);exact⟨by simp[St.del,this];exact h1,h2⟩
 ro:=(x.forget k).ro
def Sim.newFull(x:Sim C J U s){nx}(hn:J nx=nO)(m):Sim C (J.put nx .full) (U.set (sO (.tok m)) nx) s:=by
 have x':=x.mono (Nm.put_sub hn .full);have i:∀k o1 b,(U.set (sO (O.tok m)) nx).get k=sO o1->(J.put nx .full) k=sO (.tip b)->U.get k=sO o1:=λk o1 b h e=>by
  have t:k≠nx:=λhk=>by rw[hk,Nm.put_same]at e;grind
  rcases T.get_set h with ⟨rfl,_⟩|⟨_,h⟩;exact absurd rfl t;exact h
 refine⟨λk o h=>?_,λk1 k2 o1 o2 b h1 h2 u e2=>x'.inj k1 k2 o1 o2 b (i _ _ _ h1 u) (i _ _ _ h2 e2) u e2,λc e hc=>⟨(x'.kp c e hc).1,λk o1 h hr u=>(x'.kp c e hc).2 k o1 (i _ _ _ h u) hr u⟩,λk o1 c h e=>x'.ro k o1 c (i _ _ _ h e) e⟩;rcases T.get_set h with ⟨rfl,h1⟩|⟨_,h1⟩;cases h1;exact⟨_,Nm.put_same,.inr ⟨m,rfl,rfl⟩⟩;exact x'.obj k o h1
def Zxg(row:Nat->List D)(m):(ZIf (m+1)).flatMap row=row 0++(ZIf m).flatMap λi=>row (i+1):=by
 rw[List.range_succ_eq_map,List.flatMap_cons,List.flatMap_map]
def VRr.flat{z}:∀{m rs cs row},VRr J z rs row->Zos z m rs=sO cs->VRs J cs ((ZIf m).flatMap row)/\I cs=m*z
 |0,rs,cs,row,_,h=>by have:sO []=sO cs:=h;cases this;exact⟨.nil,ψ⟩
 |m+1,rs,cs,row,u,h=>by
  cases u with
  |nil=>cases h
  |cons _ c rs row h1 hl t =>
   have i:(match Zos z m rs with
    |some r=>sO (ZpT z c r)
    |none=>nO)=sO cs:=h
   split at i<;>simp at i;rename_i r u;subst i;obtain⟨g1,g2⟩:=t.flat u;rw[Zho hl,Zxg];exact⟨h1.append g1,by rw[ZIc,g2,hl,ZIs];omega⟩
def Znw{z}:∀{n vs rs ds},VRs J vs ds->Zxp z n vs=sO rs->VRr J z rs (λi=>part ds (i*z) z)/\I rs=n/\n*z<=I ds
 |0,vs,rs,ds,_,h=>by have:sO []=sO rs:=h;cases this;exact⟨.nil _ _,rfl,ω⟩
 |n+1,vs,rs,ds,hv,h=>by
  have t:(match Zbj z vs with
   |some r=>J5 (.agg r) (Zxp z n (ZbD z vs))
   |none=>nO)=sO rs:=h
  split at t<;>(try(simp at t;done));rename_i r hr;obtain⟨q,u,rfl⟩:=KN t;obtain⟨t1,rfl⟩:=Zaj hr;rw[Ju]at u;obtain⟨g1,g2,g3⟩:=Znw (hv.drop z) u;have hlen:=hv.len;rw[ZIG]at g3;refine⟨.cons _ _ _ _ ?_ (by rw[ZIm];omega) (g1.congr λi _=>?_),by simp[g2],by rw[ZIs];omega⟩;simpa[part]using hv.take z;simp[part]
  congr 2
  rw[ZIs];omega
def ZCp{P}(hS:Sim C J U s){z v d}(hv:VR J v d){m rs}(h:ZA2 U z v=sO (m,rs)):∃row,W3 P s z d m row/\VRr J z rs row/\I rs=m:=by
 cases hv<;>simp only[ZA2,reduceCtorEq]at h;case nilsl =>cases h;exact⟨λ_=>[],W3.elems rfl,.nil _ _,rfl⟩
 case sl t n z' rs' τ row h1 h2 h3 =>obtain⟨hz,hh⟩:=ZD h;rw[Z3]at hz;subst hz;cases hh;exact⟨row,W3.elems (by simp[ZaT]),h1,h2⟩
 case str l =>obtain⟨hz,hh⟩:=ZD h;rw[Z3]at hz;subst hz;cases hh;refine⟨λi=>[D.int .u8 (((l.map UInt8.ofNat).getD i 0).toNat:Int)],W3.elems (m:=I l) (by simp[ZaT]),?_,by simp[u8V]⟩;have:=Zzx (J:=J) l 0;simpa using this
 case msl k b o n cap z' hb =>
  split at h<;>(try(grind;done));rename_i cs u;obtain⟨hc,hh⟩:=ZD h;simp at hc;obtain⟨rfl,hc⟩:=hc;split at hh<;>simp at hh;rename_i r hr;obtain⟨rfl,rfl⟩:=hh;obtain⟨ds,ex,e1,e2⟩:=hS.cells u hb;rw[Ju]at hr;obtain⟨g1,g2,g3⟩:=Znw (e2.drop o) hr;have hl:=e2.len;refine⟨_,W3.msl (JE e1) (by rw[ZIc];omega),g1.congr λi hi=>?_,g2⟩;have h1:i*z'+z'<=n*z':=by rw[<-Nat.succ_mul];exact ZIn _ ω
  simp[part];rw[List.drop_append_of_le_length ω,List.take_append_of_le_length (by rw[ZIG];omega)]
 case gsl k b o n cap z' c hb h2 hcap hl0 =>
  split at h<;>(try(grind;done));rename_i cs u;obtain⟨hc,hh⟩:=ZD h;simp at hc;obtain⟨rfl,hc⟩:=hc;split at hh<;>simp at hh;rename_i r hr;obtain⟨rfl,rfl⟩:=hh;obtain⟨ds,ex,e1,e2⟩:=hS.cells u hb;rw[Ju]at hr;obtain⟨g1,g2,g3⟩:=Znw (e2.drop o) hr;have hl:=e2.len;refine⟨_,W3.msl (JE e1) (by rw[ZIc];omega),g1.congr λi hi=>?_,g2⟩;have h1:i*z'+z'<=n*z':=by rw[<-Nat.succ_mul];exact ZIn _ ω
  simp[part];rw[List.drop_append_of_le_length ω,List.take_append_of_le_length (by rw[ZIG];omega)]
end
section
variable {C:Px} {J:Nm} {U:S} {s:St} {L:Loc} {H:T W} {ρd:Env} {nx:Nat}
variable {P:Program} {F:Fr P} {kp:Option (List Nat)} {dk:List W2} {os:List DOp} {H':Env} {L':Loc}
def Zyl(hS:Sim C J U s)(hN:Yu J nx)(hρ:Z6 J L H ρd){dst g}(hg:Zn H' g=sO true){n0 z x mu r db}(h:(opF mu db (.clear n0 z x)).run H U nx=sO r)(hag:ZA ρd H' (ZS x))(hc:∀e s2,Y0 C J r e s2->DO F kp dk os (Zx H' dst e) L' s2):DO F kp dk (⟨dst,g,.clear n0 z x⟩::os) H' L' s:=by
 simp[opF]at h;cases hz:ofDs z<;>simp[hz]at h;rename_i zv;obtain⟨v,hv,u⟩:=WA h;replace h:=u;clear u;obtain⟨p,d,a1,a2,a3⟩:=Wy hρ hv hag;have fin:∀{k b o n cap:Nat} {z':Nat} ,VR J (.ptr k o) (.ptr b o)->d=.msl b o n cap z'->noV (Nat.beq z' n0) (up (ZhS U (.ptr k o) (n*n0) (Zh0 zv n)) (.tup []) nx)=sO r->DO F kp dk (⟨dst,g,.clear n0 z x⟩::os) H' L' s:=by intro k b o n cap z' hp hd h;obtain⟨i,u⟩:=ZD h;replace h:=u;clear u;rw[Z3]at i;subst i;obtain⟨U',t,rfl⟩:=Zut h;obtain⟨b',off,cs,e1,c1,c2,c3,c4⟩:=Zk2 hS t hp (Zla (ofDs_ok hz) n);cases e1;subst hd;exact ZmP hg rfl a1 a2 c1 ω (hc (.d (.tup [])) _ ⟨J,Nm.Sub.refl _,hN,c4,_,.tup _ _ .nil,rfl⟩)
 cases a3<;>simp at h;case msl k b o n cap z' hb=>exact fin (.ptr _ _ _ hb) rfl h
 case gsl k b o n cap z' c hb h2 hcap hl0=>exact fin (.ptr _ _ _ hb) rfl h
def Y0.buf(hS:Sim C J U s)(i:Yu J nx){b}(hb:s b=nO){z m cap cs ds ex}(hv:VRs J cs ds)(hm:m<=cap)(hl:(ds++ex).length=cap*z){r}(h:Zjw z U nx m cs=sO r):Y0 C J r (.d (.msl b 0 m cap z)) (s.upd b (.cells (ds++ex))):=by
 cases h;have f0:=i.free nx (ZIh _);have f1:=i.free (nx+1) ω;have s1:J.Sub (J.put (nx+1) (.tip (ds++ex).length)):=Nm.put_sub f1 _;have u:(J.put (nx+1) (.tip (ds++ex).length)) nx=nO:=by simp only[Nm.put];rw[if_neg ω];exact f0
 have t:=Nm.put_sub u (.tip b);have hx:((J.put (nx+1) (.tip (ds++ex).length)).put nx (.tip b)) (nx+1)=sO (.tip (ds++ex).length):=by simp[Nm.put]
 refine⟨_,s1.trans t,⟨?_,?_,?_,?_⟩,(hS.mono s1).new u hb (.buf _ _ _ ((hv.mono s1).mono t) hx),_,.gsl _ _ _ _ _ _ _ Nm.put_same hx hm ω,rfl⟩;exact t _ _ (s1 _ _ i.z);exact t _ _ (s1 _ _ i.o);have:=i.two;show 2<=nx+2;omega;intro k hk;have hk:nx+2<=k:=hk;simp[Nm.put];rw[if_neg ω,if_neg ω];exact i.free k ω
def Y0.bufMove(hS:Sim C J U s)(i:Yu J nx){k b o}(t:U.get k=sO o)(hb:J k=sO (.tip b))(hr:ZbQ o=false){z m cap cs ds ex}(hv:VRs J cs ds)(hm:m<=cap)(hl:cap*z<=(ds++ex).length){r}(h:Zjw z (U.set nO k) nx m cs=sO r):Y0 C J r (.d (.msl b 0 m cap z)) (s.upd b (.cells (ds++ex))):=by
 rw[<-St.del_upd s b];cases h;have f0:=i.free nx (ZIh _);have f1:=i.free (nx+1) ω;have s1:J.Sub (J.put (nx+1) (.tip (ds++ex).length)):=Nm.put_sub f1 _;have f2:(J.put (nx+1) (.tip (ds++ex).length)) nx=nO:=by simp only[Nm.put];rw[if_neg ω];exact f0
 have u:=Nm.put_sub f2 (.tip b);have hx:((J.put (nx+1) (.tip (ds++ex).length)).put nx (.tip b)) (nx+1)=sO (.tip (ds++ex).length):=by simp[Nm.put]
 refine⟨_,s1.trans u,⟨?_,?_,?_,?_⟩,((hS.take t hb hr).mono s1).new f2 (by simp[St.del]) (.buf _ _ _ ((hv.mono s1).mono u) hx),_,.gsl _ _ _ _ _ _ _ Nm.put_same hx hm ω,rfl⟩;exact u _ _ (s1 _ _ i.z);exact u _ _ (s1 _ _ i.o);have:=i.two;show 2<=nx+2;omega;intro k t;have t:nx+2<=k:=t;simp[Nm.put];rw[if_neg ω,if_neg ω];exact i.free k ω
end
section
variable {C:Px} {J:Nm} {U:S} {s:St} {L:Loc} {H:T W} {ρd:Env} {nx:Nat}
variable {P:Program} {F:Fr P} {kp:Option (List Nat)} {dk:List W2} {os:List DOp} {H':Env} {L':Loc}
def ZxE(u:Sim C J U s)(hN:Yu J nx){t k τ U'}(ht:t=0\/J t=sO τ)(h:Zqy U t k=sO U'):
  ∃s0,s=s0.own τ k/\τ.okIn s0/\Sim C J U' s0:=by
 unfold Zqy at h;split at h;rename_i h1;rw[Z3]at h1;subst h1;cases h;have:=ht.resolve_left ω;rw[hN.o]at this;cases this;exact⟨s,rfl,trivial,u⟩;split at h<;>(try(grind;done));rename_i m hm;obtain⟨hk,hh⟩:=ZD h;rw[Z3]at hk;subst hk;cases hh;obtain⟨t0,i,e1⟩:=u.obj t _ hm;have hτ:τ=t0:=by rcases ht with rfl|ht;rw[hN.z]at i;cases i;obtain⟨_,_,h,_⟩|⟨_,_,h⟩:=e1<;>grind;rw[i]at ht;simpa using ht.symm
 subst hτ;obtain⟨b,d,rfl,g1,g2⟩|⟨n,g1,rfl⟩:=e1;cases g2;refine⟨s.del b,?_,by simp[Tok.okIn,St.del],u.take hm i⟩;exact(St.upd_del g1).symm;exact⟨s,rfl,trivial,u.forget t⟩
def Y0.tok{s0 U'}(hS:Sim C J U' s0)(hN:Yu J nx){t}(ht:t.okIn s0){n z rs row}(hr:VRr J z rs row)(hl:I rs=n):
  Y0 C J ⟨.sl nx n z rs,U'.set (sO (.tok (n*z))) nx,nx+1⟩ (.d (.sl t n z row)) (s0.own t (n*z)):=by
 have u:=hN.free nx (ZIh _);have i:=Nm.put_sub u t;refine⟨_,i,hN.put _,?_,_,.sl _ _ _ _ _ _ (hr.mono i) hl (.inr Nm.put_same),rfl⟩;cases t with
 |tip b=>exact hS.new u ht (.tok _)
 |full=>exact hS.newFull u _
 |none=>exact ht.elim
def Zoe(hS:Sim C J U s)(hN:Yu J nx){dst g}(hg:Zn H' g=sO true){e z b zd x y p q dx dy}(hx:ZC H' true x=sO (p,.d dx))(hy:ZC H' true y=sO (q,.d dy))(hp:p)(hq:q){t n m τ row row2 rs rs2}(hsl:Zee z dx=sO (τ,n,row))(ht:t=0\/J t=sO τ)(hr:VRr J z rs row)(hl:I rs=n)(hel:W3 P s z dy m row2)(hr2:VRr J z rs2 row2)(hl2:I rs2=m){r}(h:ZsT z b U nx t n m rs rs2=sO r)(hc:∀e s2,Y0 C J r e s2->DO F kp dk os (Zx H' dst e) L' s2):DO F kp dk (⟨dst,g,.append e z b zd x y⟩::os) H' L' s:=by
 obtain⟨hb,hh⟩:=ZD h;replace h:=hh;clear hh;simp at hb;split at h<;>simp at h;rename_i U' hσ;subst h;obtain⟨s0,rfl,u,i⟩:=ZxE hS hN ht hσ;refine Zwj hg rfl hx hsl hy hp hq hel u hb.1 hb.2 λt' ab=>hc _ _ ?_;have:=hr.append hr2;rw[hl]at this;rw[Zho hl];exact Y0.tok i hN ab this (by simp[hl,hl2])
def Zod(hS:Sim C J U s)(hN:Yu J nx){dst g}(hg:Zn H' g=sO true){e z b zd x y p q dx dy}(hx:ZC H' true x=sO (p,.d dx))(hy:ZC H' true y=sO (q,.d dy))(hp:p)(hq:q){m row row2 rs2}(hsl:Zee z dx=sO (.full,0,row))(hm:0<m)(hel:W3 P s z dy m row2)(hr2:VRr J z rs2 row2){r}(h:ZsS z b U nx m rs2=sO r)(hc:∀e s2,Y0 C J r e s2->DO F kp dk os (Zx H' dst e) L' s2):DO F kp dk (⟨dst,g,.append e z b zd x y⟩::os) H' L' s:=by
 obtain⟨hb,hh⟩:=ZD h;replace h:=hh;clear hh;simp at hb;split at h<;>(try(grind;done));rename_i cs u;obtain⟨g1,g2⟩:=hr2.flat u;refine ZmO hg rfl hx hsl hy hel hp hq hm hb.1 hb.2 λc cap t i=>hc _ _ (Y0.buf hS hN t g1 i ?_ h);have:=g1.len;have e1:m*z+(cap-m)*z=cap*z:=by rw[<-ZIs];congr 1;omega
 simp_all
def Zxq{cs o xs}:Zt cs o xs=cs.take o++xs++cs.drop (o+I xs):=rfl
def Ztn(hS:Sim C J U s)(hN:Yu J nx){dst g}(hg:Zn H' g=sO true){e z bt zd x y p q dx dy}(hx:ZC H' true x=sO (p,.d dx))(hy:ZC H' true y=sO (q,.d dy))(hp:p)(hq:q){k o n m cap z' row2 rs2}(hv:VR J (.msl k o n cap z') dx)(hel:W3 P s z dy m row2)(hr2:VRr J z rs2 row2){mu}{r}(h:ZzM mu z bt U nx (.msl k o n cap z') m rs2=sO r)(hc:∀e s2,Y0 C J r e s2->DO F kp dk os (Zx H' dst e) L' s2):DO F kp dk (⟨dst,g,.append e z bt zd x y⟩::os) H' L' s:=by
 obtain⟨hb,hh⟩:=ZD h;replace h:=hh;clear hh;simp at hb;obtain⟨⟨rfl,ac⟩,ad⟩:=hb;split at h<;>(try(simp at h;done));rename_i ao aj;obtain⟨g1,g2⟩:=hr2.flat aj;have ag:((ZIf m).flatMap row2).length=m*z':=by rw[<-g1.len,g2]
 cases hv with
 |gsl _ b _ _ cap' _ c hb h2 hcap hlc =>
  simp only at h;split at h<;>(try(simp at h;done));rename_i cs ab;obtain⟨ho,hh⟩:=ZD h;replace h:=hh;clear hh;rw[Z3]at ho;subst ho;split at h<;>(try(simp at h;done));rename_i c1 af;obtain⟨t1,rfl⟩:=Zaj af;obtain⟨b',d,e0,e1,e2⟩:=hS.get ab (λn=>by simp);rw[hb]at e0;cases e0;cases e2 with
  |buf _ ds ex hds hce =>
   rw[h2]at hce;cases hce;have hl:=hds.len;have ah:(cs.take (n*z')).length=n*z':=by rw[ZIm];omega
   rw[Zho ah]at h;have hnc:n*z'<=cap'*z':=ZIn _ hcap;have ai:(n+m)*z'=n*z'+m*z':=ZIs _ _ _;have am:VRs J (cs.take (n*z')++ao) ((ds++ex).take (n*z')++(ZIf m).flatMap row2):=by rw[List.take_append_of_le_length ω];exact(hds.take _).append g1
   refine Zle hg rfl hx hy hp hq (JE e1) ω hel (λt=>⟨rfl,?_⟩) ac ad (λt=>?_) (λc i _ ae u=>?_);have:=ZIn z' t;omega;rw[Zxq];refine hc _ _ (Y0.bufMove hS hN ab hb rfl am t ?_ h);simp at hlc⊢;omega;have ak:part (ds++ex) 0 (n*z')=(ds++ex).take (n*z'):=by simp[part]
   refine hc _ _ (Y0.buf (hS.forget k) hN ae am u ?_ h);have e1:(n+m)*z'+(i-(n+m))*z'=i*z':=by rw[<-ZIs];congr 1;omega
   simp[ag]at hlc⊢;omega
 |msl _ b _ _ cap _ hb =>
  simp only at h;split at h<;>(try(simp at h;done));rename_i cs ab;obtain⟨ds,ex,e1,e2⟩:=hS.cells (vs:=cs) (by rw[ab];rfl) hb;have hl:=e2.len;have ai:(n+m)*z'=n*z'+m*z':=ZIs _ _ _;split at h;rename_i t;rw[Zaq]at t;obtain⟨ho,hh⟩:=ZD h;replace h:=hh;clear hh;rw[Z3]at ho;subst ho;split at h<;>simp at h;rename_i cs' al;subst h;obtain⟨f0,f1,f2⟩:=e2.over g1 al;refine Zle hg rfl hx hy hp hq (JE e1) (by simp;omega) hel (λ_=>⟨rfl,by simp;omega⟩) ac ad (λ_=>?_) (λc i hlt _ _=>by omega);rw[ZmH (by rw[ag];omega)];exact hc _ _ (Y0.turn hS hN ab hb (.cells _ _ _ f2) (.msl _ _ _ _ _ _ hb));rename_i t;have t:cap<n+m:=by have:¬n+m<=cap:=λh=>t (Zaq.2 h);omega
  obtain⟨ho,hh⟩:=ZD h;replace h:=hh;clear hh;rw[Zaq]at ho;split at h<;>(try(simp at h;done));rename_i c1 af;obtain⟨t1,rfl⟩:=Zaj af;rw[Ju]at h t1;have ah:((cs.drop o).take (n*z')).length=n*z':=by rw[ZIm];omega
  rw[Zho ah]at h;have ak:part (ds++ex) o (n*z')=(ds.drop o).take (n*z'):=by simp only[part];rw[List.drop_append_of_le_length ω,List.take_append_of_le_length (by rw[ZIG];omega)]
  refine Zle hg rfl hx hy hp hq (JE e1) (by simp;omega) hel (λh=>by omega) ac ad (λh=>by omega) (λc i _ ae u=>?_);rw[ak];refine hc _ _ (Y0.buf hS hN ae (((e2.drop o).take _).append g1) u ?_ h);have e1:(n+m)*z'+(i-(n+m))*z'=i*z':=by rw[<-ZIs];congr 1;omega
  have:((ds.drop o).take (n*z')).length=n*z':=by rw[ZIm,ZIG];omega
  simp[ag];omega
def ZwF(hS:Sim C J U s)(hN:Yu J nx)(hρ:Z6 J L H ρd){dst g}(hg:Zn H' g=sO true){e z b zd x y mu db r}(h:(opF mu db (.append e z b zd x y)).run H U nx=sO r)(hag:ZA ρd H' (ZS x++ZS y))(hc:∀e s2,Y0 C J r e s2->DO F kp dk os (Zx H' dst e) L' s2):DO F kp dk (⟨dst,g,.append e z b zd x y⟩::os) H' L' s:=by
 obtain⟨xv,hx,hh⟩:=WA h;replace h:=hh;clear hh;obtain⟨yv,hy,hh⟩:=WA h;replace h:=hh;clear hh;split at h<;>(try(grind;done));rename_i m rs2 ac;obtain⟨p,dx,a1,a2,a3⟩:=Wy hρ hx (λt ht=>hag t (by simp[ht]));obtain⟨q,dy,b1,b2,b3⟩:=Wy hρ hy (λt ht=>hag t (by simp[ht]));obtain⟨row2,i,u,ab⟩:=ZCp (P:=P) hS b3 ac;cases a3<;>(try(cases h;done));case nilsl =>simp only[ZzM]at h;split at h;rename_i hm;simp at hm;exact Zod hS hN hg a1 b1 a2 b2 rfl ω i u h hc;exact Zoe hS hN hg a1 b1 a2 b2 rfl (.inr hN.o) (.nil _ _) rfl i u ab h hc
 case sl t n z' rs τ row h1 h2 h3 =>obtain⟨hz,hh⟩:=ZD h;replace h:=hh;clear hh;rw[Z3]at hz;subst hz;split at h;rename_i hm;simp at hm;obtain⟨⟨⟨_,hm⟩,rfl⟩,rfl⟩:=hm;have hτ:=h3.resolve_left ω;rw[hN.o]at hτ;cases hτ;exact Zod (row:=row) hS hN hg a1 b1 a2 b2 (by simp[Zee]) ω i u h hc;exact Zoe hS hN hg a1 b1 a2 b2 (by simp[Zee]) h3 h1 h2 i u ab h hc
 case msl k b' o n cap z' hb=>exact Ztn hS hN hg a1 b1 a2 b2 (.msl _ _ _ _ _ _ hb) i u h hc
 case gsl k b' o n cap z' c hb h2 hcap hl0=>exact Ztn hS hN hg a1 b1 a2 b2 (.gsl _ _ _ _ _ _ _ hb h2 hcap hl0) i u h hc
def Zz8(hS:Sim C J U s)(hN:Yu J nx)(hρ:Z6 J L H ρd){dst g}(hg:Zn H' g=sO true){len n z is xs mu db r}(h:(opF mu db (.bsl len n z is xs)).run H U nx=sO r)(hag:ZA ρd H' (Zbe xs))(u:(mu&&db&&Nat.ble 1 len)=true)(hc:∀e s2,Y0 C J r e s2->DO F kp dk os (Zx H' dst e) L' s2):DO F kp dk (⟨dst,g,.bsl len n z is xs⟩::os) H' L' s:=by
 simp only[opF]at h;cases hz:ofDs z<;>simp only[hz,reduceCtorEq]at h;split at h<;>(try(grind;done));rename_i vs t;obtain⟨hp,hh⟩:=ZD h;replace h:=hh;clear hh;rw[u,if_pos rfl]at h;split at h<;>simp at h;rename_i cs i;subst h;simp at hp u;obtain⟨p,ds,a1,a2,a3⟩:=ZaM hρ t;rw[<-Ka hag]at a1;obtain⟨g1,g2⟩:=Zno (is:=is) (ofDs_ok hz) hp.2 a3 hp.1 len 0;obtain⟨g3,g4⟩:=g1.flat i;simp at g3;exact Zve hg rfl a1 (ZaS ds) a2 (Zkj a3 hp.1) u.2 λb hb=>hc _ _ (Y0.new hS hN hb (OR.cells0 (g3.mono (Nm.put_sub (hN.free nx (ZIh _)) _))) (.msl _ _ _ _ _ _ Nm.put_same))
end
section
variable {C:Px} {J:Nm} {U:S} {s:St} {L:Loc} {H:T W} {ρd:Env} {nx:Nat}
variable {P:Program} {F:Fr P} {kp:Option (List Nat)} {dk:List W2} {os:List DOp} {H':Env} {L':Loc}
def Zyo(hS:Sim C J U s)(hN:Yu J nx)(hρ:Z6 J L H ρd){dst g k}(hg:Zn H' g=sO true)(hgk:(gk k ||g.isNone)=true)(hk:YF k=false)(hf:Zkc k=true){mu r}(h:(opF mu dst.isSome k).run H U nx=sO r)(u:ZA ρd H' (ZB ⟨dst,g,k⟩))(hc:∀e s2,Y0 C J r e s2->DO F kp dk os (Zx H' dst e) L' s2):DO F kp dk (⟨dst,g,k⟩::os) H' L' s:=by
 have u:ZA ρd H' (Yj k):=λt ht=>u t (by simp[ZB,ht]);have i:gk k=false->g=nO:=λhh=>by rw[hh,Bool.false_or]at hgk;cases g<;>simp_all
 cases k<;>simp only[YF,Bool.true_eq_false]at hk;case alloc z=>obtain rfl:=i rfl;exact Zyk hS hN h hc
 case box x=>obtain rfl:=i rfl;exact ZBP hS hN hρ h u hc
 case store1 a v=>obtain rfl:=i rfl;exact ZwJ hS hN hρ h u hc
 case storeN n a v=>obtain rfl:=i rfl;exact ZwK hS hN hρ h u hc
 case append e z b zd x y=>exact ZwF hS hN hρ hg h u hc
 case mkmap=>obtain rfl:=i rfl;exact Zyn hS hN h hc
 case mapupd kp' m k v=>obtain rfl:=i rfl;exact ZwI hS hN hρ h u hc
 case mapent kp' z m k=>obtain rfl:=i rfl;exact ZwH hS hN hρ h u hc
 case entst m st v=>obtain rfl:=i rfl;exact Zym hS hN hρ h u hc
 case mkslice e n b z l c=>obtain rfl:=i rfl;exact ZuI hS hN hρ h u hc
 case delete kp' m k=>obtain rfl:=i rfl;exact ZwG hS hN hρ h u hc
 case clear n z x=>exact Zyl hS hN hρ hg h u hc
 case fork k=>simp[Zkc]at hf
 all_goals simp[opF]at h
def ZDf{t i k}(hk:YF k=true)(u:(∃len n z is xs,k=.bsl len n z is xs/\(t&&i&&Nat.ble 1 len)=true)->False){r}(h:(opF t i k).run H U nx=sO r):(opF false i k).run H U nx=sO r:=by
 cases k<;>simp only[YF,ZIz]at hk;case bsl len n z is xs =>
  have hm:(t&&i&&Nat.ble 1 len)=false:=by cases hh:(t&&i&&Nat.ble 1 len);rfl;exact(u ⟨_,_,_,_,_,rfl,hh⟩).elim
  simp only[opF]at h⊢;cases hz:ofDs z<;>simp only[hz,reduceCtorEq]at h⊢;simp only[hm,ZIz,if_false]at h;simpa only[ZIE,ZIz,if_false]using h
 all_goals exact h
def ZnX{H l}:ZA H H l:=λ_ _=>rfl
def ZDQ(u:Sim C J U s)(t:Yu J nx)(hρ:Z6 J L H ρd){dst g k}(hg:Zn ρd g=sO true)(hgk:(gk k ||g.isNone)=true)(hf:Zkc k=true){mu r}(h:(opF mu dst.isSome k).run H U nx=sO r)(hc:∀J' e s2,J.Sub J'->Yu J' r.nx->Sim C J' r.U s2->WR J' L (.v r.v) e->DO F kp dk os (Zx ρd dst e) L s2):DO F kp dk (⟨dst,g,k⟩::os) ρd L s:=by
 have i:∀e s2,Y0 C J r e s2->DO F kp dk os (Zx ρd dst e) L s2:=λe s2 hr=>by obtain⟨J',h1,h2,h3,d,h4,rfl⟩:=hr;exact hc J' _ s2 h1 h2 h3 ⟨d,h4,.inl rfl⟩
 cases hk:YF k with
 |false=>exact Zyo u t hρ hg hgk hk hf h ZnX i
 |true =>by_cases hb:∃len n z is xs,k=.bsl len n z is xs/\(mu&&dst.isSome&&Nat.ble 1 len)=true;obtain⟨len,n,z,is,xs,rfl,hm⟩:=hb;exact Zz8 u t hρ hg h ZnX hm i;obtain⟨e1,e2,side,e,e3,e4,e5⟩:=Zrp (L:=L) u t.o hρ hg hk (ZDf hk hb h);exact QO e4 e3 (hc J e s (Nm.Sub.refl _) (by rw[e2];exact t) (by rw[e1];exact u) e5)
end
def T.get_lt{α}{t:T α}{k a}(h:t.get k=sO a):k<32768:=by
 unfold T.get T.getF at h;cases i:Nat.blt k 32768 with
 |false=>rw[i]at h;grind
 |true=>simpa using i
def Jx{H t e}(i:ZM H t=sO e):∀{ks},t∈ks->ZM (Yn H ks) t=sO e
 | [],h=>by grind
 |k::ks,h=>by
  simp[Yn];by_cases u:k=t;subst u;simp[i,ZM];have ht:t∈ks:=by simpa[Ne.symm u]using h
  split;simp[ZM,u];exact Jx i ht;exact Jx i ht
def Zfj{t e}(u:Ke e=[]):∀{H},ZM H t=sO e->ZM (Q5 H) t=sO e
 | [],h=>by cases h
 | (k,x)::r,h=>by simp[ZM]at h;simp[Q5];by_cases i:k=t;simp[i]at h;subst h;simp[u,ZM,i];simp[i]at h;split;simp[ZM,i];exact Zfj u h;exact Zfj u h
section
variable {J:Nm} {L:Loc} {H:T W} {ρd:Env}
def WR.locs{w e}(h:WR J [] w e)(t:live [] w=true):Ke e=[]:=by
 cases w with
 |v x =>obtain⟨d,_,rfl|rfl⟩:=h<;>rfl
 |loc l o=>cases t
 |skip =>have i:e=.when false (.d (.bool false)):=h;subst i;rfl
def Z6.keep(h:Z6 J L H ρd):Z6 J L H (Yn ρd ZpQ):=λt w i hl=>by
 obtain⟨e,u,h2⟩:=h t w i hl;exact⟨e,Jx u (List.mem_range.2 (T.get_lt i)),h2⟩
def Z6.round(h:Z6 J [] H ρd):Z6 J [] H (W1 ZpQ ρd):=λt w hw u=>by
 obtain⟨e,h1,i⟩:=h.keep t w hw u;exact⟨e,Zfj (i.locs u) h1,i⟩
def Z6.nil:Z6 J L T.nil ρd:=λt w i=>by simp[T.get_nil]at i
def Z6.set(h:Z6 J L H ρd){v d}(hv:VR J v d)(t):Z6 J L (H.set (sO (.v v)) t) ((t,.d d)::ρd):=λt' w hw hl=>by
 rcases T.get_set hw with ⟨rfl,u⟩|⟨i,u⟩;cases u;exact⟨.d d,by simp[ZM],d,hv,.inl rfl⟩;obtain⟨e,h2,h3⟩:=h t' w u hl;exact⟨e,by simp[ZM];rw[if_neg (Ne.symm i)];exact h2,h3⟩
def Zrt:∀{ts} {vs} {ds} {H} {ρd},Z6 J L H ρd->VRs J vs ds->Z6 J L (Zfw ts vs H) (WB ts ds ρd)
 | [],_,_,_,_,h,_=>by simpa[Zfw,WB]using h
 |_::_,[],_,_,_,h,hv=>by cases hv;simpa[Zfw,WB]using h
 |t::ts,v::vs,_,_,_,h,hv=>by obtain⟨d,ds,rfl,i,u⟩:=hv.inv;exact Zrt (ts:=ts) (h.set i t) u
def Zrf:∀{vs i H t w},(ZoA i vs H).get t=sO w->(∃j v,t=i+j/\vs[j]?=sO v/\w=.v v)\/H.get t=sO w
 | [],i,H,t,w,h=>.inr h
 |v::vs,i,H,t,w,h=>by rcases Zrf (vs:=vs) (i:=i+1) h with ⟨j,v',rfl,h1,u⟩|h1;exact .inl ⟨j+1,v',ω,by simpa using h1,u⟩;rcases T.get_set h1 with ⟨rfl,u⟩|⟨_,u⟩;simp at u;exact .inl ⟨0,v,rfl,rfl,u.symm⟩;exact .inr u
def Zmp:∀{ds i j d},ds[j]?=sO d->ZM (K9 i ds) (i+j)=sO (.d d)
 | [],i,j,d,h=>by grind
 |x::ds,i,0,d,h=>by cases h;simp[K9,ZM]
 |x::ds,i,j+1,d,h=>by have:=Zmp (ds:=ds) (i:=i+1) (j:=j) (by simpa using h);simp only[K9,ZM];rw[if_neg ω,show i+(j+1)=i+1+j by omega];exact this
def ZyE{vs ds}(hv:VRs J vs ds):Z6 J L (ZoA 0 vs T.nil) (K9 0 ds):=λt w hw _=>by
 rcases Zrf hw with ⟨j,v,rfl,i,rfl⟩|h;obtain⟨d,u,h3⟩:=hv.get i;exact⟨.d d,Zmp u,d,h3,.inl rfl⟩;simp[T.get_nil]at h
end
def ZDc:E->E
 |.when c e=>match c,e with
  |true,.d d=>.d d
  |c,e=>.when c e
 |e=>e
def nrm:Env->Env
 | []=>[]
 | (t,e)::r=>(t,ZDc e)::nrm r
def Zit:∀(H t),ZM (nrm H) t=(ZM H t).map ZDc
 | [],t=>rfl
 | (k,e)::r,t=>by simp[nrm,ZM];split;rfl;exact Zit r t
def Zw.nrm(m:Zw g Z w tmps H L s):Zw g Z w tmps (nrm H) L s:={
 st:=m.st
 loc:=m.loc
 locKept:=m.locKept
 locSt:=m.locSt
 inj:=m.inj
 env t e h:=by
  rw[Zit]at h;simp at h;obtain⟨u,h1,rfl⟩:=h;have i:=m.env t u h1;cases u with
  |d d=>exact i
  |loc l o=>exact i
  |when c e =>
   cases c with
   |false=>exact i
   |true =>
    cases e with
    |d d=>exact i.1 rfl
    |loc l o=>exact i
    |when c e=>exact i }
def ZsD{P}{F:Fr P}{dk H L s}(h:Zv F dk (nrm H) L s):Zv F dk H L s :=
 λk t g Z w tmps i m=>h k t g Z w tmps i m.nrm
def Zwp{P}{F:Fr P}{H L d s}(h:Y3 F (nrm H) L d s):Y3 F H L d s :=
 λg Z w v i tmps t m u=>h g Z w v i tmps t m.nrm u
def ZpK(J:Nm)(H:T W)(ρd:Env):Prop:=∀t x,H.get t=sO (.v x)->∃d,ZM ρd t=sO (.d d)/\VR J x d
section
variable {C:Px} {J:Nm} {U:S} {s:St} {L:Loc} {H:T W} {ρd:Env} {nx:Nat}
def Z6.nrm(h:Z6 J L H ρd):ZpK J H (nrm ρd):=λt x hx=>by
 obtain⟨e,i,d,u,rfl|rfl⟩:=h t _ hx rfl;exact⟨d,by rw[Zit,i];rfl,u⟩;exact⟨d,by rw[Zit,i];rfl,u⟩
def ZpK.mono{J'}(h:ZpK J H ρd)(hs:J.Sub J'):ZpK J' H ρd:=λt x hx=>by
 obtain⟨d,i,u⟩:=h t x hx;exact⟨d,i,u.mono hs⟩
def ZDs(hS:Sim C J U s)(h1:J 1=sO .full)(hρ:ZpK J H ρd){r v}(h:rvV H U r=sO v):∃p d,Kf ρd [] s r=sO (p,d)/\p/\VR J v d:=by
 have i:∀{t:Nat} {a:V},(YQ (.tmp t)).run H=sO a->∃d,ZM ρd t=sO (.d d)/\VR J a d:=λ{t a} ha=>hρ t a (ZBh (x:=H.get t) ha);cases r with
 |tmp t =>obtain⟨d,a1,a2⟩:=i h;exact⟨True,d,by simp[Kf,a1],trivial,a2⟩
 |cell1 t =>simp[rvV]at h;split at h<;>(try(grind;done));rename_i a ha;obtain⟨d,a1,a2⟩:=i ha;obtain⟨side,e,u,b2,b3⟩:=Zxe (L:=[]) hS h1 (.one a2) h;simp only[ZIj,ZIA,qv,ZIe,ZId,E.d.injEq]at u;obtain⟨x,c1,c2,rfl⟩:=u;exact⟨True,x,by simp[Kf,a1,c1],trivial,b3⟩
 |cellN t n =>simp[rvV]at h;split at h<;>(try(grind;done));rename_i a ha;obtain⟨d,a1,a2⟩:=i ha;obtain⟨side,e,u,b2,b3⟩:=Zxe (L:=[]) hS h1 (.one a2) h;simp only[ZIj,ZIA,qv,ZIe]at u;obtain⟨x,c1,rfl,rfl⟩:=u;exact⟨x.1,.agg x.2,by simp[Kf,a1,c1],b2,b3⟩
def Zql(u:Sim C J U s)(t:J 1=sO .full)(hρ:ZpK J H ρd):∀{rs vs},Zue H U rs=sO vs->∃p ds,Yw ρd [] s rs=sO (p,ds)/\p/\VRs J vs ds
 | [],vs,h=>by cases h;exact⟨True,[],rfl,trivial,.nil⟩
 |r::rs,vs,h=>by simp[Zue]at h;split at h<;>(try(grind;done));rename_i v hv;split at h<;>simp at h;rename_i vs' i;subst h;obtain⟨p,d,a1,a2,a3⟩:=ZDs u t hρ hv;obtain⟨q,ds,b1,b2,b3⟩:=Zql u t hρ i;exact⟨p/\q,d::ds,by simp[Yw,a1,b1],⟨a2,b2⟩,.cons _ _ _ _ a3 b3⟩
def ZyP{vs}{ds}(h:VRs J vs ds):VR J (mkV vs) (Qa ds):=by
 cases h with
 |nil=>exact .tup _ _ .nil
 |cons v d vs ds h t =>
  cases t with
  |nil=>exact h
  |cons v' d' vs ds h' t=>exact .tup _ _ (.cons _ _ _ _ h (.cons _ _ _ _ h' t))
def Zv7{v d}(h:VR J v d)(i:Zxo v=true):ZfA d:=by
 cases h<;>simp only[Zxo,ZIz]at i<;>simp[ZfA,Zay];exact ZvI i;rw[Zaq]at i;simpa using i
def ZiL:∀{vs ds},VRs J vs ds->ZlG vs=true->ZbA ds
 | [],_,h,_=>by cases h;trivial
 |v::vs,_,h,hr=>by obtain⟨d,ds,rfl,i,t⟩:=h.inv;simp[ZlG]at hr;exact⟨Zv7 i hr.1,ZiL t hr.2⟩
def ZgF(C:Px)(J:Nm)(o:Out)(r:Res)(s:St):Prop :=
 ∃J' d,J.Sub J'/\Yu J' o.nx/\Sim C J' o.U s/\VR J' o.v d/\r=if o.pan then .panic d else .ret d
def ZgF.mono{J' o r}(h:ZgF C J' o r s)(u:J.Sub J'):ZgF C J o r s:=by
 obtain⟨η2,d,i,t⟩:=h;exact⟨η2,d,u.trans i,t⟩
inductive DdR(J:Nm):List Dd->List DD->Prop where
 |nil:DdR J [] []
 |mark (q b:Nat) (r:List Dd) (r':List DD) (h:J q=some (.tip b)) (t:DdR J r r'):DdR J (.mark q::r) (.mark b::r')
 |fn (i:FuncId) (a c:List V) (da dc:List D) (r:List Dd) (r':List DD) (ha:VRs J a da) (hc:VRs J c dc) (h1:ZbA da) (h2:ZbA dc) (t:DdR J r r'):DdR J (.fn i a c::r) (.fn i da dc::r')
def DdR.mono{J'}(hs:J.Sub J'):∀{r r'},DdR J r r'->DdR J' r r'
 |_,_,.nil=>.nil
 |_,_,.mark q b r r' h t=>.mark q b r r' (hs _ _ h) (t.mono hs)
 |_,_,.fn i a c da dc r r' ha hc h1 h2 t=>.fn i a c da dc r r' (ha.mono hs) (hc.mono hs) h1 h2 (t.mono hs)
def FmR(C:Px)(J:Nm)(fm:Fm)(o:Out)(F:Fr C.P):Prop :=
 F.b.fn=fm.f/\F.N=fm.n/\F.an=C.an fm.f/\match fm.k with
  |.fn res=>∃Φ dds,YL F res Φ dds/\DdR J fm.ds dds/\∀r s,ZgF C J o r s->Φ r s
  |.rnd l=>∃b Φ,J l=sO (.tip b)/\K7 F b Φ/\∀r s,ZgF C J o r s->Φ r s
  |.dfd pd rec=>∃m Ψ,Zaz F m Ψ rec/\(match pd,m with
    |some v,sO d=>VR J v d
    |none,nO=>True
    |_,_=>False)/\∀s b,o.pan=false->o.v=.bool b->ZgF C J o (.ret (.bool b)) s->Ψ b s
end
section
variable {P:Program}
def ZrJ{an l N r s da db args Φ}(hs:s l=sO (.loop r .ready))(hlen:I args=I r.params)(ha:cc P an N r.assign=sO da)(hb:cc P an N r.body=sO db)(hN:r.N=N)(hp:∀t∈r.params,t<N)(h:∀F:Fr P,K7 F l Φ->F.b.fn=r.fn->F.N=N->F.an=an->Zv F [.code da,.beginR,.code db] (WB r.params args r.H) [] s):WP P (.fn (.yield l) [] []) args s Φ:=by
 intro g w fv vs ab hf i;cases hf with
 |fn _ fs ac _ _ hn1 hn2 h1 h2 =>
 obtain rfl:fs=[]:=by simpa using hn1
 obtain⟨hp0,l0,a1,a2,a3,a4,a5,a6,a7,a8,a9,a10⟩:=ab.obj l _ hs;have u:vs.toArray.size=l0.params.size:=by
  have e1:=i.len;have e2:I l0.params.toList=I r.params:=by rw[a3]
  simp at e2⊢;omega
 refine⟨_,_,_,by simp[Deferred.ofValue];rfl,by simp[invoke,Instr.yield,Instr.getLoop,Jl a1,u];rfl,rfl,λc cs=>?_⟩;have M:Zw g (λ_=>0) w l0.tmps r.H [] s:=⟨ab,λl cs h=>by simp[Zg]at h,λl cs h=>by simp[Zg]at h,λl cs h=>by simp[Zg]at h,λl l' cs ac h=>by simp[Zg]at h,a8⟩;obtain⟨ad,M'⟩:=ZiI M i hlen (by rw[hN]at *;exact hp) (by rw[<-hN];exact a7);have:=h (Zbf P an r.fn N l c cs Φ) ⟨an,r.fn,N,c,cs,rfl⟩ rfl rfl rfl [.code r.assign,.beginRound,.code r.body] (.code ha (.beginR (.code hb .nil))) g (λ_=>0) w _ ad M';have ae:(Zbf P an r.fn N l c cs Φ).b.atR { tmps:=(r.params.zip vs).foldl (λtmps (x:Nat×Value)=>tmps.setIfInBounds x.1 x.2) l0.tmps,defers:=[] } [.code r.assign,.beginRound,.code r.body] =
   Frame.round l l0.fn ((l0.params.zip vs.toArray).foldl (λtmps (x:Nat×Value)=>tmps.setIfInBounds x.1 x.2) l0.tmps) l0.assign l0.body .normal:=by
  simp only[Frame.atR,a2,a4,a5,<-a3]
  congr 1
  rw[<-Array.foldl_toList];simp
 have e:(Zbf P an r.fn N l c cs Φ).ds=[]:=rfl;rw[e,ae]at this;have e2:(l0.params.zip vs.toArray).size=l0.params.size:=by simp at u⊢;omega
 rw[e2]at this;exact this
def ZrH{an i df}(hf:cf P an i=sO df)(hres:df.res=[]){args m s Ψ}(hm:∀d,m=sO d->Zkw d)(h:∀F:Fr P,Zaz F m Ψ false->F.b.fn=i->F.N=df.n->F.an=an->Zv F [.code df.body] (K9 0 args) [] s):J1 P i args m s Ψ:=by
 have ai:=hf;unfold cf at hf;split at hf<;>(try(grind;done));rename_i fn ae;split at hf<;>(try(grind;done));rename_i c hc;split at hf<;>(try(grind;done));rename_i ac;split at hf<;>simp at hf;rename_i rs d hrs hd;subst hf;refine⟨⟨fn,ae,by simp[hc],by simpa using ac⟩,λg w vs t cs hs ha u=>?_⟩;obtain⟨v,af,aj⟩:∃v,t.mode=Ja m v false/\∀d,m=sO d->∀g w,Rep g w v d:=by
  cases m with
  |none=>exact⟨undef,u,λd hd=>by simp at hd⟩
  |some d =>obtain⟨v,h1,h2⟩:=u;obtain⟨v',r1,r2⟩:=Zrv (hm d rfl);have:=r2 g w v h2;subst this;exact⟨v,h1,λd' ad=>by simp at ad;subst ad;exact r1⟩
 have ag:({ t with mode:=Ja m v false }:Frame)=t:=by rw[<-af]
 have ab:Frame.enter P i vs.toArray .deferred=(Y6 P an i fn.ntmps t cs Ψ m v false).b.atR { tmps:=vs.toArray++Array.replicate (fn.ntmps-I vs) undef,defers:=[] } [.code c]:=by simp[Frame.enter,Frame.atR,ae,hc,Y6]
 have:=h _ ⟨an,i,_,t,cs,v,ai,hres,af,aj,rfl⟩ rfl rfl rfl [.code c] (.code hd .nil) g (λ_=>0) w (vs.toArray++Array.replicate (fn.ntmps-I vs) undef) (by simp[Y6];omega) (Zg3 hs ha);obtain⟨g',w',s',b,a1,a2,a3,a4⟩:=this;refine⟨g',w',s',b,a1,a2,a3,?_⟩;rw[ab];have ah:(Y6 P an i fn.ntmps t cs Ψ m v false).cs=t::cs:=by simp[Y6,ag]
 rw[ah]at a4;exact a4
def Zuz{an f df}(i:cf P an f=sO df){args s Φ}(h:∀F:Fr P,YL F df.res Φ []->F.b.fn=f->F.N=df.n->F.an=an->Zv F [.code df.body] (K9 0 args) [] s):Za P f args s Φ :=
 Zjj i λt=>h _ ⟨an,f,df,t,i,rfl,rfl⟩ rfl rfl rfl
end
def ZzE(C:Px)(ih:Ih):Prop:=∀fm dk H U nx o,ih fm dk H U nx=sO o->∀(F:Fr C.P) J ρd s,FmR C J fm o F->Z6 J [] H ρd->Yu J nx->Sim C J U s->Zv F dk ρd [] s
def Jr(C:Px)(ih:Ih):Prop:=∀t,ZzE ⟨C.toCx,t⟩ ih
def Jr.at{C ih}(h:Jr C ih):ZzE C ih:=h C.t
def ZmT(J:Nm):Option V->Option D->Prop
 |some v,sO d=>VR J v d
 |none,nO=>True
 |_,_=>False
section
variable {C:Px} {ih:Ih}
def ZAV{J m md}(h:ZmT J m md)(hr:Zxn m=true):∀d,md=sO d->Zkw d:=λd hd=>by
 subst hd;cases m with
 |none=>exact h.elim
 |some v =>have u:VR J v d:=h;cases u<;>simp[Zxn]at hr;rename_i t v d u;have i:=u;cases u<;>first|exact ZiL (by assumption) hr|exact Zv7 i hr
def ZhV(hih:Jr C ih):∀{ds m U nx m' U' nx'},ZnI C ih ds m U nx=sO (m',U',nx')->∀{J dds md s},DdR J ds dds->Yu J nx->Sim C J U s->ZmT J m md ->
  ∀{Ψ},(∀J' md' s',J.Sub J'->Yu J' nx'->Sim C J' U' s'->ZmT J' m' md'->Ψ md' s')->Unw C.P dds md s Ψ
 | [],m,U,nx,m',U',nx',h,J,dds,md,s,hd,hN,hS,hm,Ψ,hΨ=>by cases h;cases hd;exact hΨ J md s (Nm.Sub.refl _) hN hS hm
 |.mark q::r,m,U,nx,m',U',nx',h,J,dds,md,s,hd,hN,hS,hm,Ψ,hΨ=>by
  simp only[ZnI]at h;split at h<;>(try(simp at h;done));rename_i hq;cases hd with
  |mark _ b _ r' hb t =>obtain⟨b',d,e0,e1,e2⟩:=hS.get hq (λn=>by simp);rw[hb]at e0;cases e0;cases e2;exact⟨e1,ZhV hih h t hN (hS.take hq hb) hm hΨ⟩
 |.fn i args caps::r,m,U,nx,m',U',nx',h,J,dds,md,s,hd,hN,hS,hm,Ψ,hΨ=>by
  simp only[ZnI]at h;split at h<;>(try(simp at h;done));rename_i n body ac;obtain⟨hr,hh⟩:=ZD h;replace h:=hh;clear hh;split at h<;>(try(simp at h;done));rename_i b σ1 nx1 ab;cases hd with
  |fn _ _ _ da dc _ r' ha hc h1 h2 t =>
   refine⟨h1,h2,ZrH (an:=C.an i) ac rfl (ZAV hm hr) λF hF e1 e2 e3=>?_⟩;refine hih.at _ _ _ _ _ _ ab F J _ s ⟨e1,e2,e3,md,_,hF,hm,?_⟩ (ZyE (ha.append hc)) hN hS;intro s1 b1 _ u hp;obtain⟨η1,d,g1,g2,g3,g4,g5⟩:=hp;simp only[V.bool.injEq]at u;subst u;exact ZhV hih h (t.mono g1) g2 g3 (by
    cases b with
    |true=>trivial
    |false =>
     cases m<;>cases md<;>first|trivial|exact hm.elim|exact VR.mono g1 hm) λη2 ad s2 k1 k2 k3 k4=>hΨ η2 ad s2 (g1.trans k1) k2 k3 k4
end
def ZDT(C:Cx)(r:Zb7)(st:Option DC)(busy:Bool)(lst:LSt):Prop:=match st,busy,lst with
 |none,false,.ready=>True
 |none,true,.busy=>True
 |some dj,false,.done j=>cc C.P (C.an r.fn) r.N j=sO dj
 |_,_,_=>False
section
variable {C:Px} {ih:Ih} {J:Nm} {U:S} {s:St} {H:T W} {ρd:Env} {nx:Nat}
def Zj7(hS:Sim C J U s){l b}(hb:J l=sO (.tip b)){st now busy U'}(h:loopTo U l st now busy=sO U'):
  ∃r lst,s b=sO (.loop r lst)/\(now=false->lst=.ready)/\(now=true->lst=.busy)/\∀lst',ZDT C r st busy lst'->Sim C J U' (s.upd b (.loop r lst')):=by
 unfold loopTo at h;split at h<;>(try(grind;done));rename_i f n ps a b0 ρ0 bs hl;obtain⟨ab,hh⟩:=ZD h;replace h:=hh;clear hh;cases h;obtain⟨b',d,e0,e1,e2⟩:=hS.get hl (λn=>by simp);rw[hb]at e0;cases e0;have t:bs=now:=by simpa using ab
 subst t;cases e2 with
 |loop _ _ _ _ _ _ _ _ r lst hf hn hps hlt ha hbb hρ hst =>
  subst hf;subst hn;refine⟨r,lst,e1,λi=>?_,λi=>?_,λlst' u=>hS.upd hl hb (.loop _ _ _ _ _ _ _ _ r lst' rfl rfl hps hlt ha hbb hρ ?_)⟩;subst i;cases lst<;>first|rfl|exact hst.elim
  subst i;cases lst<;>first|rfl|exact hst.elim
  cases st<;>cases busy<;>cases lst'<;>exact u
def Zv4(hih:Jr C ih){fm fell o}(h:Zxm C ih fm H U nx fell=sO o){F}(hF:FmR C J fm o F)(hρ:Z6 J [] H ρd)(hN:Yu J nx)(hS:Sim C J U s):
  (fell=true->Zv F [] ρd [] s)/\(fell=false->∀dk,Zv F (.code .ret::dk) ρd [] s):=by
 obtain⟨_,_,_,hk⟩:=hF;unfold Zxm at h;split at h
 .rename_i res i;rw[i]at hk;obtain⟨Φ,u,hI,ab,hΦ⟩:=hk;split at h<;>(try(grind;done));rename_i σ1 nx1 hu;split at h<;>simp at h;rename_i vs ac;subst h;have hU:Unw C.P u nO s (Zlg (nrm ρd) [] res Φ):=ZhV hih hu ab hN hS (md:=nO) trivial λη1 ad s1 k1 k2 k3 k4=>by
   cases ad with
   |some d=>exact k4.elim
   |none =>obtain⟨p,ds,g1,g2,g3⟩:=Zql k3 k2.o (hρ.nrm.mono k1) ac;exact⟨p,ds,_,s1,g1,g2,ZH3 _,ZH2,hΦ _ _ ⟨η1,_,k1,k2,k3,ZyP g3,rfl⟩⟩
  exact⟨λ_=>ZsD (hI.finU hU),λ_ dk=>ZsD (hI.retU hU)⟩
 rename_i l i;rw[i]at hk;obtain⟨b,Φ,hb,hI,hΦ⟩:=hk;split at h<;>simp at h;rename_i σ1 hl;subst h;obtain⟨r,lst,e1,_,e2,e3⟩:=Zj7 hS hb hl;obtain rfl:=e2 rfl;refine⟨λhf=>?_,λhf dk=>?_⟩;subst hf;exact hI.fin e1 ZH2 (hΦ _ _ ⟨J,_,Nm.Sub.refl _,hN,e3 .ready trivial,.bool true,rfl⟩);subst hf;exact hI.ret e1 ZH2 (hΦ _ _ ⟨J,_,Nm.Sub.refl _,hN,e3 (.done .ret) rfl,.bool false,rfl⟩);rename_i pd rec i;rw[i]at hk;obtain⟨m,Ψ,hI,hm,hΨ⟩:=hk;split at h<;>cases h;have t:pd.isNone=m.isNone:=by cases pd<;>cases m<;>first|rfl|exact hm.elim
 have hq:Ψ (m.isNone ||rec) s:=hΨ s _ rfl (by simp[t]) ⟨J,_,Nm.Sub.refl _,hN,hS,by rw[t];exact .bool _,rfl⟩;exact⟨λ_=>hI.fin ZH2 hq,λ_ dk=>hI.ret ZH2 hq⟩
def ZhG(hih:Jr C ih){fm v d o}(h:Znt C ih fm H v U nx=sO o){F}(hF:FmR C J fm o F)(hρ:Z6 J [] H ρd)(hN:Yu J nx)(hS:Sim C J U s)(hv:VR J v d):Y3 F ρd [] d s:=by
 obtain⟨ae,_,_,hk⟩:=hF;unfold Znt at h;split at h
 .rename_i res i;rw[i]at hk;obtain⟨Φ,dds,hI,u,hΦ⟩:=hk;refine Zwp (hI.panU ?_);split at h<;>(try(grind;done))
  .rename_i σ1 ag hu;split at h<;>simp at h;rename_i vs af;subst h;exact ZhV hih hu u hN hS (md:=sO d) hv λη1 t s1 k1 k2 k3 k4=>by
    cases t with
    |some d=>exact k4.elim
    |none =>obtain⟨p,ds,g1,g2,g3⟩:=Zql k3 k2.o (hρ.nrm.mono k1) af;exact⟨p,ds,_,s1,g1,g2,ZH3 _,ZH2,hΦ _ _ ⟨η1,_,k1,k2,k3,ZyP g3,rfl⟩⟩
  rename_i v1 σ1 ag hu;cases h;exact ZhV hih hu u hN hS (md:=sO d) hv λη1 t s1 k1 k2 k3 k4=>by
   cases t with
   |none=>exact k4.elim
   |some d1=>exact⟨d1,s1,ZH3 _,ZH2,hΦ _ _ ⟨η1,d1,k1,k2,k3,k4,rfl⟩⟩
 rename_i l i;rw[i]at hk;obtain⟨b,Φ,hb,hI,hΦ⟩:=hk;split at h<;>simp at h;rename_i ac ab;subst h;refine hI.pan ZH2 (hΦ _ _ ⟨J,d,Nm.Sub.refl _,hN,hS,hv,rfl⟩) λan fn N c cs ad=>?_;subst ad;have:fn=fm.f:=ae;rw[this];exact⟨ac,ab⟩;grind
end
section
variable {P:Program}
def ZuA{F:Fr P}{d Ψ}(hF:Zaz F (sO d) Ψ false){kp dk o os H L s}(hg:o.guard=nO)(hk:o.k=.recover)(h:∀F':Fr P,Zaz F' (sO d) Ψ true->F'.b=F.b->F'.N=F.N->F'.an=F.an->DO F' kp dk os (Zx H o.dst (.d d)) L s):DO F kp dk (o::os) H L s:=by
 obtain⟨an,f,df,i,cs,v,hf,ai,ac,u,rfl⟩:=hF;refine Y5 λoo g Z w tmps t j r k ah ab ak af hd hN m hr al=>?_;have hw:=Z9 m ak (c:=true) (by rw[hg];rfl);have am:=Yd ab (by rw[hk];rfl);rw[hk]at ab;obtain⟨args,ats,ao⟩:=Zie ab;have aj:(execOp (Act.mk tmps []).eval oo).run P w=.ok .recover w:=by simp[execOp,ao,resolve,invoke,builtin]
 have ad:_root_.Go.step P (lone ((Y6 P an f df.n i cs Ψ (sO d) v false).b.atR ⟨tmps,[]⟩ (.inRegion t (j::r)::k)) (Y6 P an f df.n i cs Ψ (sO d) v false).cs w) =
   .next (lone ((Y6 P an f df.n i cs Ψ (sO d) v true).b.atR ((Act.mk tmps []).put oo.dst v) (.inRegion t r::k)) (Y6 P an f df.n i cs Ψ (sO d) v true).cs w):=by
  refine step_lone_go ?_;rw[stepGR_op ah hw,Oper.semAt_eq _ _ _ am];have ag:((Y6 P an f df.n i cs Ψ (sO d) v false).b.atR ⟨tmps,[]⟩ (.inRegion t (j::r)::k)).finish v=(Y6 P an f df.n i cs Ψ (sO d) v true).b.atR ((Act.mk tmps []).put oo.dst v) (.inRegion t r::k):=by rw[Frame.finish_atR,ah];rfl
  rw[<-ag];simp[stepG.apply,aj,Frame.atR,Y6,tryRecover,Ja]
 refine(ZeP P i cs Ψ).back _ _ _ _ (.one ad) ?_;obtain⟨ae,e1,e2,m'⟩:=Zfy m hN hd (v:=v) (e:=.d d) (u d rfl g w) [];rw[af,e1];exact h _ ⟨an,f,df,i,cs,v,hf,ai,ac,u,rfl⟩ rfl rfl rfl t r k hr al g Z w ae e2 m'
end
def WR.val{J L v d}(h:VR J v d):WR J L (.v v) (.d d):=⟨d,h,.inl rfl⟩
def WR.skp{J L}:WR J L .skip (.when false (.d (.bool false))):=rfl
def Zst(J:Nm)(U:S)(s:St):Prop:=∀(k b:Nat) (vs:List V),ZaY (U.get k)=sO vs->J k=sO (.tip b)->∃ds ex,s b=sO (.cells (ds++ex))/\VRs J vs ds
def Q1(C:Px):Prop:=∀f g U vs v,C.lib f=sO g->g U vs=sO v->∀(J:Nm) ds s,VRs J vs ds->Zst J U s->∃d,VR J v d/\Za C.P f ds s λr s'=>r=.ret d/\s'=s
section
variable {C:Px} {ih:Ih} {J:Nm} {U:S} {s:St} {H:T W} {ρd:Env} {nx:Nat}
def ZmT.mono{J'}(i:J.Sub J'){a b}(h:ZmT J a b):ZmT J' a b:=by
 cases a<;>cases b<;>first|trivial|exact h.elim|exact VR.mono i h
def FmR.mono{J'}(t:J.Sub J'){fm o F}(h:FmR C J fm o F):FmR C J' fm o F:=by
 obtain⟨h1,h2,h3,h4⟩:=h;refine⟨h1,h2,h3,?_⟩;split at h4;obtain⟨Φ,i,a,b,c⟩:=h4;exact⟨Φ,i,a,b.mono t,λr s u=>c r s (u.mono t)⟩;obtain⟨b,Φ,a,c,d⟩:=h4;exact⟨b,Φ,t _ _ a,c,λr s u=>d r s (u.mono t)⟩;obtain⟨m,Ψ,a,c,d⟩:=h4;exact⟨m,Ψ,a,ZmT.mono t c,λs b e1 e2 u=>d s b e1 e2 (u.mono t)⟩
def ZsZ(t:Jr C ih){f args ds o}(h:(Zse C f).run ih args U nx=sO o)(ha:VRs J args ds)(hN:Yu J nx)(hS:Sim C J U s):Za C.P f ds s (ZgF C J o):=by
 unfold Zse at h;split at h;rename_i df i;exact Zuz (an:=C.an f) i λF hI u e2 e3=>t.at _ _ _ _ _ _ h F J _ s ⟨u,e2,e3,_,[],hI,.nil,λ_ _ h=>h⟩ (ZyE ha) hN hS;grind
def Zm1(t:Q1 C)(i:Jr C ih){f args ds o}(h:(Zia C f).run ih args U nx=sO o)(ha:VRs J args ds)(hN:Yu J nx)(u:Sim C J U s):Za C.P f ds s (ZgF C J o):=by
 unfold Zia at h;split at h;rename_i g hg;simp only at h;split at h;simp at h;rename_i v hv;subst h;obtain⟨d,h1,h2⟩:=t f g U args v hg hv J ds s ha λ_ _ _ h hb=>u.cells h hb;exact h2.mono λr s' ⟨e1,e2⟩=>by subst e1;subst e2;exact⟨J,d,Nm.Sub.refl _,hN,u,h1,rfl⟩
 exact ZsZ i h ha hN u;exact ZsZ i h ha hN u
def Zm2(u:Q1 C)(t:Jr C ih){fv args fd ds o}(h:Zn0 C ih fv args U nx=sO o)(hf:VR J fv fd)(ha:VRs J args ds)(hN:Yu J nx)(hS:Sim C J U s):WP C.P fd ds s (ZgF C J o):=by
 cases hf<;>simp only[Zn0,reduceCtorEq]at h;case fn f a c da dc h1 h2 =>refine Za.V (Zm1 u t h ?_ hN hS);rw[ZIv];exact h1.append (ha.append h2)
 case yield l b hb =>
  split at h<;>(try(simp at h;done));rename_i f n ps a b0 ρ0 hl;obtain⟨i,hh⟩:=ZD h;replace h:=hh;clear hh;rw[Z3]at i;obtain⟨b',d,e0,e1,e2⟩:=hS.get hl (λn=>by simp);rw[hb]at e0;cases e0;cases e2 with
  |loop _ _ _ _ _ _ _ _ r lst hf hn hps hlt hca hcb hρ hst =>
   subst hf;subst hn;subst hps;have hr:lst=.ready:=by cases lst<;>first|rfl|exact hst.elim
   subst hr;refine ZrJ (an:=C.an r.fn) e1 (by rw[<-ha.len];exact i) hca hcb rfl hlt λF hI e2 e3 e4=>?_;exact t.at _ _ _ _ _ _ h F J _ s ⟨e2,e3,e4,b,_,hb,hI,λ_ _ h=>h⟩ (Zrt hρ ha) hN hS
def ZxX(C:Px)(ih:Ih)(rest:Bx Rg)(dk:List W2)(os:List DOp):Prop :=
 ∀fm H U nx o,rest.run ih dk fm H U nx=sO o->∀(F:Fr C.P) J ρd s,FmR C J fm o F->Z6 J [] H ρd->Yu J nx->Sim C J U s->DO F nO dk os ρd [] s
def ZyC(hlib:Q1 C)(hih:Jr C ih){rest dk os}(hrest:ZxX C ih rest dk os){fm f dst g k}(hfk:Zkc k=true){o}(h:(goF C f rest dst g k).run ih dk fm H U nx=sO o){F}(hg:Zn ρd g=sO true)(hF:FmR C J fm o F)(hρ:Z6 J [] H ρd)(hN:Yu J nx)(hS:Sim C J U s):DO F nO dk (⟨dst,g,k⟩::os) ρd [] s:=by
 have af:∀{k:K},Zkc k=true->(gk k ||g.isNone)=true->(match (opF (C.mu f dst) dst.isSome k).run H U nx with
   |some ⟨v,U',ad⟩=>rest.run ih dk fm ((ZcN dst).run H (.v v)) U' ad
   |none=>nO)=sO o->DO F nO dk (⟨dst,g,k⟩::os) ρd [] s:=by
  intro k hfk ab h;split at h<;>(try(simp at h;done));rename_i v U' ad ah;exact ZDQ hS hN hρ hg ab hfk ah λJ' e s2 k1 k2 k3 k4=>hrest _ _ _ _ _ h F J' _ s2 (hF.mono k1) (JL (hρ.mono k1) k4 dst) k2 k3
 cases k;case call fx xs =>
  simp only[goF]at h;split at h<;>(try(simp at h;done));rename_i fv u;split at h<;>(try(simp at h;done));rename_i vs ac;split at h<;>(try(simp at h;done));rename_i pan v U' ad i;obtain⟨p,fd,a1,a2,a3⟩:=KE hρ u;obtain⟨q,ds,b1,b2,b3⟩:=ZaM hρ ac;have hV:=Zm2 hlib hih i a3 b3 hN hS;refine ZbL hg rfl a1 b1 (ZaS ds) b2 a2 hV (λd s' hp=>?_) (λd s' hp=>?_)
  .obtain⟨η1,d1,k1,k2,k3,k4,k5⟩:=hp;cases pan with
   |true=>simp at k5
   |false =>cases k5;exact hrest _ _ _ _ _ h F η1 _ s' (hF.mono k1) (JL (hρ.mono k1) (WR.val k4) dst) k2 k3
  obtain⟨η1,d1,k1,k2,k3,k4,k5⟩:=hp;cases pan with
  |false=>simp at k5
  |true =>cases k5;exact ZhG hih h (hF.mono k1) (hρ.mono k1) k2 k3 k4
 case panic x =>
  simp only[goF]at h;split at h<;>(try(simp at h;done));rename_i t v hv;obtain⟨p,d,a1,a2,a3⟩:=KE hρ hv;cases a3 with
  |iface _ _ d hd=>exact ZmR hg rfl a1 a2 (ZhG hih h hF hρ hN hS (.iface _ _ _ hd))
 case defer fx xs =>
  simp only[goF]at h;split at h
  .simp only at h;split at h<;>(try(simp at h;done));rename_i j first caps vs u ac
   split at h<;>(try(simp at h;done));rename_i res hk;obtain⟨hr,hh⟩:=ZD h;replace h:=hh;clear hh;simp only[ZIb]at hr;obtain⟨p,fd,a1,a2,a3⟩:=KE hρ u;obtain⟨q,ds,b1,b2,b3⟩:=ZaM hρ ac;cases a3 with
   |fn _ _ _ da dc h1 h2 =>obtain⟨f1,f2,f3,f4⟩:=hF;rw[hk]at f4;obtain⟨Φ,dds,hI,hd,hΦ⟩:=f4;have r1:=ZiL (h1.append b3) hr.1;have r2:=ZiL h2 hr.2;refine ZmQ hI.roundOf rfl rfl rfl a1 b1 (ZaS ds) b2 a2 r1 r2 (hrest _ _ _ _ _ h _ J _ s ⟨f1,f2,f3,?_⟩ hρ hN hS);simp only[hk];exact⟨Φ,_,hI.defer j (da++ds) dc,.fn _ _ _ _ _ _ _ (h1.append b3) h2 r1 r2 hd,hΦ⟩
  simp at h
 case recover =>
  simp only[goF]at h;split at h
  .simp only at h;obtain⟨f1,f2,f3,f4⟩:=hF;split at h
   .rename_i v hk;rw[hk]at f4;obtain⟨m,Ψ,hI,hm,hΨ⟩:=f4;cases m with
    |none=>exact hm.elim
    |some d =>refine ZuA hI rfl rfl λF' ag e1 e2 e3=>hrest _ _ _ _ _ h F' J _ s ⟨by rw[e1];exact f1,by rw[e2];exact f2,by rw[e3];exact f3,?_⟩ (JL hρ (WR.val hm) dst) hN hS;exact⟨sO d,Ψ,ag,hm,hΨ⟩
   .rename_i rec hk;have ae:=f4;rw[hk]at f4;obtain⟨m,Ψ,hI,hm,hΨ⟩:=f4;cases m with
    |some d=>exact hm.elim
    |none=>exact ZgE hI rfl rfl (hrest _ _ _ _ _ h F J _ s ⟨f1,f2,f3,ae⟩ (JL hρ (WR.val .niliface) dst) hN hS)
   simp at h
  simp at h
 all_goals
  simp only[goF]at h;split at h;rename_i ab;exact af hfk ab h;simp at h
def Zv3(i:Q1 C)(t:Jr C ih){dk f}:∀{os},(os.all λo=>Zkc o.k)=true->ZxX C ih (Zqj C f os) dk os
 | [],_=>λfm H U nx o h F J ρd s hF u hN hS=>ZeY (t.at _ _ _ _ _ _ h F J ρd s hF u hN hS)
 |⟨dst,g,k⟩::os,hfk=>λfm H U nx o h F J ρd s hF u hN hS=>by simp only[List.all_cons,ZIb]at hfk;have IH:=Zv3 i t (dk:=dk) (f:=f) hfk.2;simp[Zqj]at h;split at h;exact ZyC i t IH hfk.1 h rfl hF u hN hS;simp only at h;split at h<;>(try(grind;done));rename_i b hb;have hg:=Zrd u hb;split at h;exact ZyC i t IH hfk.1 h hg hF u hN hS;exact Zao (e:=.d (.bool false)) hg (IH _ _ _ _ _ h F J _ s hF (JL u WR.skp dst) hN hS)
end
section
variable {P:Program}
def ZsF{F:Fr P}(hr:F.b.roundOf=nO){o ps da db dk H L s p fv}(hf:ZC H true o=sO (p,.d fv))(hp:p)(ks)(hks:(Yn H ks).map (·.1) |>.Nodup)(h:∀q l r,s q=nO->s l=nO->q≠l->r.H=W1 ks H->r.params=ps->r.fn=F.b.fn->cc P F.an F.N r.assign=sO da->cc P F.an F.N r.body=sO db->r.N=F.N->(∀t∈ps,t<F.N) ->
   ∃Ψ,WP P fv [.fn (.yield l) [] []] ((s.upd q .dfr).upd l (.loop r .ready)) Ψ/\(∀d s',Ψ (.ret d) s'->∃r',Zjr (F.mark q) l r' dk H L s')/\(∀d s',Ψ (.panic d) s'->Y3 (F.mark q) H L d s')):
  Zv F (.code (.rangeF o ps da db)::dk) H L s:=by
 intro k hk;cases hk with
 | @code _ _ kt _ hc ht =>
 obtain⟨f',al,a',b',rfl,ar,ay,ha,hb,aw⟩:=ZqS hc;intro g Z w tmps hN m;have au:Rep g w _ fv:=Z0 m ar rfl hf hp F.ds;have ah:=J7 (g:=g) (w:=w) (.deferred (sO [])) m.st.fresh;have af:=ah.ext m.st.fresh;obtain⟨hq,m1⟩:=m.newObj ah (o:=.dfr) ⟨(m.st.fresh _ (ZIh _)).1,Kl w⟩;let w1:=w.alloc (.deferred (sO []));let lp:Go.Loop:={ state:=.ready,pending:=nO,fn:=F.b.fn,tmps:=tmps,params:=al,assign:=a',body:=b',defers:=w.heap.size };let r:Zb7:={ fn:=F.b.fn,params:=ps,assign:=a',body:=b',defers:=w.heap.size,H:=W1 ks H,N:=F.N };have ai:=J7 (g:=g) (w:=w1) (.loop lp) m1.st.fresh;have ad:=ai.ext m1.st.fresh;obtain⟨hl,m2⟩:=m1.newObj ai (o:=.loop r .ready) ⟨(m1.st.fresh _ (ZIh _)).1,lp,Kl w1,rfl,ay,rfl,rfl,rfl,hN,λt e aq=>by
  obtain⟨h1,h2⟩:=ZeA hks aq;exact Zo0 (((m1.env t e (ZdY H ks t e h1))).mono ad) h2,rfl,rfl⟩
 have hqsz:w1.heap.size=w.heap.size+1:=by simp[w1]
 have av:s w1.heap.size=nO:=by have ax:¬w1.heap.size=w.heap.size:=ω;have h0:(s.upd w.heap.size .dfr) w1.heap.size=nO:=hl;simp[ZID,ax]at h0;exact h0
 obtain⟨Ψ,hV,ak,aj⟩:=h w.heap.size w1.heap.size r hq av ω rfl rfl rfl ha hb rfl aw;have ae:Rep g (w1.alloc (.loop lp)) _ fv:=(au.mono af).mono ad;obtain⟨d,nx,fr,am,ao,ap,hC⟩:=hV (Zf6 g Z L) (w1.alloc (.loop lp)) _ [.func (.yield w1.heap.size) #[] #[]] m2.callSt (Wq ae rfl) (.cons (.fn (.yield w1.heap.size) [] [] [] [] rfl rfl ψ ψ) .nil);have ac:(Instr.enterLoop F.b.fn tmps al a' b' F.b.roundOf).run P w=.ok (w1.heap.size,[{ target:=.collected w.heap.size,args:=#[] }]) (w1.alloc (.loop lp)):=by rw[hr];simp[Instr.enterLoop,w1,lp]
 have ab:=ZhR (P:=P) (b:=F.b) (a:=⟨tmps,F.ds⟩) (k:=kt) (cs:=F.cs) ac am ao ap;obtain⟨e,w',⟨g',s',res,x1,x2,x3,x4⟩,i⟩:=hC (F.b.atR { tmps:=tmps,defers:=[{ target:=.collected w.heap.size,args:=#[] }]++F.ds } (.inRangeFunc w1.heap.size::kt)) F.cs;obtain⟨ag,hm⟩:=m2.afterCall x1 x2;have u:=(af.trans ad).trans ag;cases e with
 |returned v =>
  cases res with
  |panic d=>exact x3.elim
  |ret d =>refine F.T.back _ _ _ _ (.head ab i) ?_;exact F.T.ext _ _ _ _ _ u ((ak d s' x4).elim λ_ az=>ZoY (F:=F.mark w.heap.size) ht hN hm az)
 |panicked ch =>
  cases res with
  |ret d=>exact x3.elim
  |panic d =>obtain⟨v,rfl,hv⟩:=x3;refine F.T.back _ _ _ _ (.head ab i) ?_;exact F.T.ext _ _ _ _ _ u (aj d s' x4 _ _ _ v _ _ hN hm (Wq hv rfl))
 |outgrown=>exact i.elim
end
def Zix{H}:∀{ks t},t∈(Yn H ks).map (·.1)->t∈ks
 | [],t,h=>by cases h
 |k::ks,t,h=>by simp only[Yn]at h;split at h;simp only[ZIj,ZIF]at h;rcases h with rfl|h;simp;exact List.mem_cons_of_mem _ (Zix h);exact List.mem_cons_of_mem _ (Zix h)
def ZgW{H}:∀{ks},ks.Nodup->((Yn H ks).map (·.1)).Nodup
 | [],_=>by simp[Yn]
 |k::ks,h=>by simp at h;simp[Yn];split;simp only[ZIj,List.nodup_cons];exact⟨λi=>h.1 (Zix i),ZgW h.2⟩;exact ZgW h.2
section
variable {C:Px} {ih:Ih}
def Zsu(C:Px)(ih:Ih)(f:FuncId)(c:DC):Prop :=
 ∀fm k H U nx o,(ZaB C f c).run ih fm k H U nx=sO o->fm.f=f->∀(F:Fr C.P) J ρd s,FmR C J fm o F->Z6 J [] H ρd->Yu J nx->Sim C J U s->Zv F (.code c::k) ρd [] s
def ZnT(C:Px)(ih:Ih):Prop:=∀f order ops kp,Zsu C ih f (.regD order ops kp)
def Zy3(hlib:Q1 C)(hih:Jr C ih){f g ps a b}:Zsu C ih f (.rangeF g ps a b):=by
 intro fm k H U nx o h hf F J ρd s hF hρ hN hS;simp[ZaB]at h;split at h<;>(try(grind;done));rename_i res hk;split at h<;>(try(grind;done));rename_i fv aj;split at h<;>(try(grind;done));rename_i pan v U' nx' ab;obtain⟨p,fd,a1,a2,a3⟩:=KE hρ aj;obtain⟨f1,f2,f3,f4⟩:=hF;rw[hk]at f4;obtain⟨Φ,dds,hI,ai,hΦ⟩:=f4;refine ZsF hI.roundOf a1 a2 ZpQ (ZgW List.nodup_range) λq l r hq hl ao hr am hfn ag ah hrN al=>?_;have f0:=hN.free nx (ZIh _);have n1:J.Sub (J.put nx (.tip q)):=Nm.put_sub f0 _;have ad:=hN.put (.tip q);have S1:Sim C (J.put nx (.tip q)) (U.set (sO .dfr) nx) (s.upd q .dfr):=hS.new f0 hq .dfr;have ac:=ad.free (nx+1) (ZIh _);have n2:(J.put nx (.tip q)).Sub ((J.put nx (.tip q)).put (nx+1) (.tip l)):=Nm.put_sub ac _;have af:=ad.put (.tip l);have ak:(s.upd q .dfr) l=nO:=by rw[ZH8 s _ (Ne.symm ao)];exact hl
 have S2:=S1.new ac ak (o:=.loop fm.f fm.n ps a b H nO false) (d:=.loop r .ready)
  (.loop _ _ _ _ _ _ _ _ r .ready (by simp_all) (by simp_all) am (by rw[<-f2];exact al) (by rw[<-f3,<-f2];exact ag) (by rw[<-f3,<-f2];exact ah) (by rw[hr];exact(hρ.round.mono n1).mono n2) trivial)
 have hV:=Zm2 hlib hih ab ((a3.mono n1).mono n2) (.one (.yield _ _ Nm.put_same)) af S2;have u:∀{J':Nm},((J.put nx (.tip q)).put (nx+1) (.tip l)).Sub J'->FmR C J' { fm with ds:=.mark nx::fm.ds } o (F.mark q):=λ{J'} hs=>by refine⟨f1,f2,f3,?_⟩;simp[hk];exact⟨Φ,_,hI.mark q,.mark _ _ _ _ (hs _ _ (n2 _ _ Nm.put_same)) (ai.mono (n1.trans (n2.trans hs))),λr s hp=>hΦ r s (hp.mono (n1.trans (n2.trans hs)))⟩
 refine⟨_,hV,λd s' hp=>?_,λd s' hp=>?_⟩
 .obtain⟨η1,d1,k1,k2,k3,k4,k5⟩:=hp;cases pan with
  |true=>grind
  |false =>
   simp only at h;have t:η1 (nx+1)=sO (.tip l):=k1 _ _ Nm.put_same;have ae:Z6 η1 [] H ρd:=hρ.mono (n1.trans (n2.trans k1));split at h<;>(try(grind;done))
   .rename_i i;obtain⟨b',dd,e0,e1,e2⟩:=k3.get i (λn=>by simp);rw[t]at e0;cases e0;cases e2 with
    |loop _ _ _ _ _ _ _ _ r' lst hf' hn' hps' hlt' ha' hb' hρ' hst =>
     have ap:lst=.ready:=by cases lst<;>first|rfl|exact hst.elim
     subst ap;exact⟨r',.inl ⟨e1,hih.at _ _ _ _ _ _ h (F.mark q) η1 ρd _ (u k1) ae k2 (k3.take i t)⟩⟩
   rename_i f' n' _ _ _ _ j i;obtain⟨hc,hh⟩:=ZD h;replace h:=hh;clear hh;simp at hc;obtain⟨rfl,rfl⟩:=hc;obtain⟨b',dd,e0,e1,e2⟩:=k3.get i (λn=>by simp);rw[t]at e0;cases e0;cases e2 with
   |loop _ _ _ _ _ _ _ _ r' lst hf' hn' hps' hlt' ha' hb' hρ' hst =>
    cases lst with
    |done j'=>exact⟨r',.inr ⟨j',j,e1,by show cc C.P F.an F.N j'=_;rw[f3,f2];exact hst,hih.at _ _ _ _ _ _ h (F.mark q) η1 ρd _ (u k1) ae k2 (k3.take i t)⟩⟩
    |_=>exact hst.elim
 obtain⟨η1,d1,k1,k2,k3,k4,k5⟩:=hp;cases pan with
 |false=>grind
 |true =>cases k5;exact ZhG hih h (u k1) (hρ.mono (n1.trans (n2.trans k1))) k2 k3 k4
def ZaQ(hlib:Q1 C)(hih:Jr C ih)(hD:ZnT C ih){f}:∀c,Zsu C ih f c
 |.skip=>λfm k H U nx o h hf F J ρd s hF hρ hN hS=>ZE (hih.at _ _ _ _ _ _ h F J ρd s hF hρ hN hS)
 |.label _=>λfm k H U nx o h hf F J ρd s hF hρ hN hS=>Yy (hih.at _ _ _ _ _ _ h F J ρd s hF hρ hN hS)
 |.seq a b=>λfm k H U nx o h hf F J ρd s hF hρ hN hS=>Zc (ZaQ hlib hih hD a _ _ _ _ _ _ h hf F J ρd s hF hρ hN hS)
 |.block id a=>λfm k H U nx o h hf F J ρd s hF hρ hN hS=>Zd (ZaQ hlib hih hD a _ _ _ _ _ _ h hf F J ρd s hF hρ hN hS)
 |.loop a=>λfm k H U nx o h hf F J ρd s hF hρ hN hS=>JT (ZaQ hlib hih hD a _ _ _ _ _ _ h hf F J ρd s hF hρ hN hS)
 |.scope a=>λfm k H U nx o h hf F J ρd s hF hρ hN hS=>Yr (ZaQ hlib hih hD a _ _ _ _ _ _ h hf F J ρd s hF hρ hN hS)
 |.cond c a b=>λfm k H U nx o h hf F J ρd s hF hρ hN hS=>by
  simp[ZaB]at h;split at h<;>(try(grind;done));rename_i v hv;obtain⟨p,d,a1,a2,a3⟩:=KE hρ hv;cases a3<;>simp at h;rename_i t;cases t with
  |true=>exact Zl a1 a2 (λ_=>ZaQ hlib hih hD a _ _ _ _ _ _ h hf F J ρd s hF hρ hN hS) (λh=>by grind)
  |false=>exact Zl a1 a2 (λh=>by grind) (λ_=>ZaQ hlib hih hD b _ _ _ _ _ _ h hf F J ρd s hF hρ hN hS)
 |.goto l=>λfm k H U nx o h hf F J ρd s hF hρ hN hS=>by simp[ZaB]at h;split at h<;>(try(grind;done));rename_i k' i;exact ZxV i (hih.at _ _ _ _ _ _ h F J ρd s hF hρ hN hS)
 |.ret=>λfm k H U nx o h hf F J ρd s hF hρ hN hS=>(Zv4 hih h hF hρ hN hS).2 rfl k
 |.exit id=>λfm k H U nx o h hf F J ρd s hF hρ hN hS=>by simp[ZaB]at h;split at h;rename_i k' i;exact ZO i (hih.at _ _ _ _ _ _ h F J ρd s hF hρ hN hS);rename_i hx;split at h<;>(try(grind;done));rename_i l hk;split at h<;>simp at h;rename_i σ1 hl;subst h;obtain⟨f1,f2,f3,f4⟩:=hF;rw[hk]at f4;obtain⟨b,Φ,hb,hI,hΦ⟩:=f4;obtain⟨r,lst,e1,_,e2,e3⟩:=Zj7 hS hb hl;obtain rfl:=e2 rfl;exact hI.exit hx e1 ZH2 (hΦ _ _ ⟨J,_,Nm.Sub.refl _,hN,e3 (.done (.exit id)) rfl,.bool false,rfl⟩)
 |.reg ops kp=>λfm k H U nx o h hf F J ρd s hF hρ hN hS=>by simp[ZaB]at h;split at h<;>(try(grind;done));split at h<;>(try(grind;done));rename_i u;exact Zh3 (Zv3 hlib hih u _ _ _ _ _ h F J ρd s hF hρ hN hS)
 |.regD order ops kp=>hD f order ops kp
 |.rangeF g ps a b=>Zy3 hlib hih
def ZCr(u:Q1 C)(t:Jr C ih)(hD:ZnT C ih):ZzE C (step C ih):=by
 intro fm dk H U nx o h F J ρd s hF hρ hN hS;unfold step at h;split at h;exact(Zv4 t h hF hρ hN hS).1 rfl;split at h;exact Zk (t.at _ _ _ _ _ _ h F J ρd s hF hρ hN hS);exact Z5 (t.at _ _ _ _ _ _ h F J ρd s hF hρ hN hS);exact Ze (ZaQ u t hD _ _ _ _ _ _ _ h rfl F J ρd s hF hρ hN hS);·split at h<;>(try(grind;done));rename_i l hk;split at h<;>(try(grind;done));rename_i σ1 hl;have i:=hF;obtain⟨f1,f2,f3,f4⟩:=hF;rw[hk]at f4;obtain⟨b,Φ,hb,hI,hΦ⟩:=f4;obtain⟨r,lst,e1,e2,_,e3⟩:=Zj7 hS hb hl;obtain rfl:=e2 rfl;exact hI.begin e1 (t.at _ _ _ _ _ _ h F J ρd _ i hρ hN (e3 .busy trivial))
 exact ZaQ u t hD _ _ _ _ _ _ _ h rfl F J ρd s hF hρ hN hS
def Zo4{C}(hlib:∀t,Q1 ⟨C,t⟩)(hD:∀(C':Px) ih,C'.toCx=C->Jr C' ih->ZnT C' ih):∀n t,Jr ⟨C,t⟩ (run C n)
 |0,_=>λ_ fm dk H U nx o h=>by cases h
 |n+1,_=>λt=>ZCr (hlib t) (Zo4 hlib hD n t) (hD ⟨C,t⟩ _ rfl (Zo4 hlib hD n t))
end
def Zj3{s s' L L'}:∀{B},(∀n b,(n,.blk b)∈B->s' b=s b)->(∀n l,(n,.loc l)∈B->Zg L' l=Zg L l)->K0 s s' L L' B
 | [],_,_=>trivial
 | (n,.blk b)::B,h1,h2=>⟨h1 n b ψ,Zj3 (λm b i=>h1 m b (by simp[i])) (λm l t=>h2 m l (by simp[t]))⟩
 | (n,.loc l)::B,h1,h2=>⟨h2 n l ψ,Zj3 (λm b i=>h1 m b (by simp[i])) (λm l t=>h2 m l (by simp[t]))⟩
def Zfr{n}:∀{l},Zaw n l=true↔n∈l
 | []=>by simp[Zaw]
 |a::r=>by simp[Zaw,Zfr (l:=r)];constructor;rintro(h|h);exact .inl h.symm;exact .inr h;rintro(h|h);exact .inl h.symm;exact .inr h
def Zgf{fl s s' L L' B}(t:∀n b,n∈fl->(n,.blk b)∈B->s' b=s b)(u:∀n l,n∈fl->(n,.loc l)∈B->Zg L' l=Zg L l):Wd fl s s' L L' B :=
 Zj3 (λn b i=>t n b (Zfr.1 (QM.1 i).1) (QM.1 i).2) (λn b i=>u n b (Zfr.1 (QM.1 i).1) (QM.1 i).2)
def Zdo{n}:∀{l},Zg0 n l=true↔n∈l
 | []=>by simp[Zg0]
 |a::r=>by simp only[Zg0];split;rename_i h;rw[Z3]at h;simp[h];rename_i h;have:¬n=a:=λe=>h (by simp_all);rw[Zdo];simp[this]
def ZsN{n m l}(h:m=n\/m∈l):m∈ZzI n l:=by
 unfold ZzI;split;rename_i hm;rcases h with rfl|h;exact Zdo.1 hm;exact h;rcases h with rfl|h<;>simp[*]
def ZfE{fl n k}(i:n∈fl):∀{l},(n,k)∈l->k∈ZnA fl l
 | [],h=>by grind
 | (t,m)::r,h=>by simp[ZnA];rcases List.mem_cons.1 h with h|h;cases h;rw[if_pos (Zdo.2 i)];exact ZsN (.inl rfl);split;exact ZsN (.inr (ZfE i h));exact ZfE i h
def Zge{fl n k}(i:n∈fl):∀{l},(n,k)∈l->(n,k)∈Zgd fl l
 | [],h=>by grind
 | (t,m)::r,h=>by simp[Zgd];rcases List.mem_cons.1 h with h|h;cases h;rw[if_pos (Zdo.2 i)];simp;split;exact List.mem_cons_of_mem _ (Zge i h);exact Zge i h
def Zra{u}:∀{r},ZjV u r=nO->∀x∈r,x.1≠u
 | [],_,x,h=>by grind
 | (t,a)::r,hn,x,h=>by simp only[ZjV]at hn;split at hn;grind;rename_i i;rcases List.mem_cons.1 h with rfl|h;exact λe=>i (Z3.2 e);exact Zra hn x h
def Znj{u a}:∀{r},ZjV u r=sO a->(u,a)∈r
 | [],h=>by cases h
 | (t,b)::r,h=>by simp only[ZjV]at h;split at h;rename_i i;rw[Z3]at i;cases h;subst i;simp;exact List.mem_cons_of_mem _ (Znj h)
def Znk{l vs x}:∀{r},Kx x (ZkP l vs r)=if x=l then (match Kx l r with
  |some _=>sO vs
  |none=>nO) else Kx x r
 | []=>by simp[ZkP,Kx]
 | (t,c)::r=>by simp[ZkP];by_cases u:t=l;subst u;simp_all;simp[Kx];by_cases i:x=t;subst i;simp;simp_all;have:¬Nat.beq t x=true:=λh=>i (Z3.1 h).symm;simp_all;simp_all;simp[Kx];rw[Znk (r:=r)];by_cases i:x=l;subst i;simp_all;simp[i]
def Zry{l vs}:∀{r},(ZkP l vs r).map (·.1)=r.map (·.1)
 | []=>rfl
 | (t,c)::r=>by simp[ZkP];split;simp;simp[Zry (r:=r)]
def Zrb{l}:∀{r},Kx l r=nO->l∉r.map (·.1)
 | [],_=>by simp
 | (t,c)::r,h=>by simp only[Kx]at h;split at h;grind;rename_i i;simp only[ZIj,ZIF,not_or];exact⟨λe=>i (Z3.2 e.symm),Zrb h⟩
def Zcf{o}(h:Zky o=true):ZbQ o=false/\∀n,o≠.tok n:=by
 cases o<;>simp[Zky]at h<;>exact⟨rfl,λn=>by simp⟩
def Zlz:∀{ks U σ0 l},Zkh ks U=sO (σ0,l) ->
  (∀k o,σ0.get k=sO o->(U.get k=sO o/\∀t,(k,t)∉l)\/∃t,o=.ro t/\(k,t)∈l)/\(∀k o,(k,o)∈l->U.get k=sO o/\Zky o=true)/\∀k∈ks,(∃o,(k,o)∈l)\/∃o,U.get k=sO (.ro o)
 | [],U,σ0,l,h=>by cases h;exact⟨λk o h=>.inl ⟨h,λ_ h=>by simp at h⟩,λk o h=>by simp at h,λk h=>by simp at h⟩
 |k::ks,U,σ0,l,h=>by simp[Zkh]at h;split at h<;>(try(grind;done));rename_i o ho;split at h;rename_i i;split at h<;>simp at h;rename_i U' l' hr;obtain⟨rfl,rfl⟩:=h;obtain⟨h1,h2,h3⟩:=Zlz hr;refine⟨λk' t h=>?_,λk' t h=>?_,λk' h=>?_⟩;rcases h1 k' t h with ⟨h4,h5⟩|⟨o2,rfl,h4⟩;rcases T.get_set h4 with ⟨rfl,u⟩|⟨h0,u⟩;simp at u;exact .inr ⟨o,u.symm,ψ⟩;refine .inl ⟨u,λo2 hm=>?_⟩;rcases List.mem_cons.1 hm with hm|hm;simp at hm;exact h0 hm.1;exact h5 o2 hm;exact .inr ⟨o2,rfl,by simp[h4]⟩;rcases List.mem_cons.1 h with h|h;cases h;exact⟨ho,i⟩;obtain⟨h4,h5⟩:=h2 k' t h;rcases T.get_set h4 with ⟨rfl,u⟩|⟨_,u⟩;cases u;cases h5;exact⟨u,h5⟩;rcases List.mem_cons.1 h with rfl|h;exact .inl ⟨o,ψ⟩;rcases h3 k' h with ⟨t,h⟩|⟨t,h⟩;exact .inl ⟨t,by simp[h]⟩;rcases T.get_set h with ⟨rfl,_⟩|⟨_,h⟩;exact .inl ⟨o,ψ⟩;exact .inr ⟨t,h⟩;split at h<;>(try(grind;done));rename_i i;obtain⟨h1,h2,h3⟩:=Zlz h;refine⟨h1,h2,λk' hk=>?_⟩;rcases List.mem_cons.1 hk with rfl|hk;cases o<;>cases i;exact .inr ⟨_,ho⟩;exact h3 k' hk
def ZsX:∀{l U σ2},Zlj l U=sO σ2->(∀k o,σ2.get k=sO o->(k,o)∈l\/(U.get k=sO o/\∀o',(k,o')∉l))/\∀k o,(k,o)∈l->∃o',U.get k=sO (.ro o')
 | [],U,σ2,h=>by cases h;exact⟨λk o h=>.inr ⟨h,λ_ h=>by simp at h⟩,λk o h=>by simp at h⟩
 | (k',o')::l,U,σ2,h=>by simp[Zlj]at h;split at h<;>(try(grind;done));rename_i o1 ho;split at h<;>simp at h;rename_i U' hb;subst h;obtain⟨h1,h2⟩:=ZsX hb;refine⟨λk o h=>?_,λk o h=>?_⟩;rcases T.get_set h with ⟨rfl,i⟩|⟨u,i⟩;cases i;exact .inl ψ;rcases h1 k o i with t|⟨t,h5⟩;exact .inl (by simp[t]);refine .inr ⟨t,λo2 hm=>?_⟩;rcases List.mem_cons.1 hm with hm|hm;simp at hm;exact u hm.1;exact h5 o2 hm;rcases List.mem_cons.1 h with h|h;cases h;exact⟨o1,ho⟩;exact h2 k o h
section
variable {C:Px} {J J':Nm} {U σ0 U' σ2:S} {s s':St}
def ZsI(C:Px)(J:Nm)(l:List (Nat×O))(s t:St):Prop :=
 (∀b d,C.t b=sO d->t b=sO d)/\(∀k o b,(k,o)∈l->J k=sO (.tip b)->t b=s b)/\∀b d,t b=sO d->C.t b=sO d\/∃k o,(k,o)∈l/\J k=sO (.tip b)
open Classical in
def Sim.lend(hS:Sim C J U s){ks l}(h:Zkh ks U=sO (σ0,l)):∃t,Sim ⟨C.toCx,t⟩ J σ0 s/\ZsI C J l s t:=by
 obtain⟨h1,h2,_⟩:=Zlz h;have hM:∀b k o,(k,o)∈l->J k=sO (.tip b)->∃d,s b=sO d/\OR C J k o d:=λb k o hm hb=>by obtain⟨g1,g2⟩:=h2 k o hm;obtain⟨b',d,e1,e2,e3⟩:=hS.get g1 (Zcf g2).2;rw[hb]at e1;simp only[ZH0,Tok.tip.injEq]at e1;subst e1;exact⟨d,e2,e3⟩
 have ab:∀k o,σ0.get k=sO o->∃o',U.get k=sO o':=λk o hk=>by rcases h1 k o hk with ⟨g,_⟩|⟨o',_,g⟩;exact⟨o,g⟩;exact⟨o',(h2 k o' g).1⟩
 let t:St:=λb=>if ∃k o,(k,o)∈l/\J k=sO (.tip b) then s b else C.t b
 have i:∀b,(∃k o,(k,o)∈l/\J k=sO (.tip b))->t b=s b:=λb hb=>by simp only[t];rw[if_pos hb]
 have u:∀b,¬(∃k o,(k,o)∈l/\J k=sO (.tip b))->t b=C.t b:=λb hb=>by simp only[t];rw[if_neg hb]
 have hL:ZsI C J l s t:=by refine⟨λb d hb=>?_,λk o b hm hb=>i b ⟨k,o,hm,hb⟩,λb d hb=>?_⟩;by_cases hm:∃k o,(k,o)∈l/\J k=sO (.tip b);rw[i b hm];exact(hS.kp b d hb).1;rw[u b hm];exact hb;by_cases hm:∃k o,(k,o)∈l/\J k=sO (.tip b);exact .inr hm;rw[u b hm]at hb;exact .inl hb
 refine⟨t,⟨λk o hk=>?_,λk k' o o' b hk ac e e'=>?_,λb d hb=>?_,λk o b hk e=>?_⟩,hL⟩;rcases h1 k o hk with ⟨g,_⟩|⟨o',rfl,g⟩;exact hS.obj k o g;obtain⟨g1,g2⟩:=h2 k o' g;obtain⟨b,d,e1,e2,e3⟩:=hS.get g1 (Zcf g2).2;exact⟨_,e1,.inl ⟨b,d,rfl,e2,.ro o' d e3 (Zcf g2).1 (Zcf g2).2⟩⟩;obtain⟨o1,g1⟩:=ab _ _ hk;obtain⟨o2,g2⟩:=ab _ _ ac;exact hS.inj k k' o1 o2 b g1 g2 e e';have hb:t b=sO d:=hb;by_cases hm:∃k o,(k,o)∈l/\J k=sO (.tip b);refine⟨by rw[<-i b hm];exact hb,λk' o' hk hr e=>?_⟩;obtain⟨k,o,hm,hb⟩:=hm;rcases h1 k' o' hk with ⟨g,g'⟩|⟨o2,rfl,_⟩;have:=hS.inj k k' o o' b (h2 k o hm).1 g hb e;subst this;exact g' o hm;simp[ZbQ]at hr;rw[u b hm]at hb;refine⟨(hS.kp b d hb).1,λk' o' hk hr e=>?_⟩;rcases h1 k' o' hk with ⟨g,_⟩|⟨o2,rfl,_⟩;exact(hS.kp b d hb).2 k' o' g hr e;simp[ZbQ]at hr;show ∃d,t b=sO d;rcases h1 k _ hk with ⟨g,_⟩|⟨o',e0,g⟩;obtain⟨d,hd⟩:=hS.ro k o b g e;exact⟨d,hL.1 b d hd⟩;simp only[O.ro.injEq]at e0;subst e0;obtain⟨d,hd,_⟩:=hM b k o g e;exact⟨d,by rw[hL.2.1 k o b g e];exact hd⟩
def Sim.unlend(hS:Sim C J U s){ks l}(h:Zkh ks U=sO (σ0,l)){t}(hL:ZsI C J l s t)(hs:J.Sub J')(hS':Sim ⟨C.toCx,t⟩ J' U' s')(hb:Zlj l U'=sO σ2):
  Sim C J' σ2 s'/\∀k b,k∈ks->J k=sO (.tip b)->s' b=s b:=by
 obtain⟨h1,h2,h3⟩:=Zlz h;obtain⟨b1,b2⟩:=ZsX hb;obtain⟨l1,l2,l3⟩:=hL;have hM:∀k o b,(k,o)∈l->J k=sO (.tip b)->∃d,s b=sO d/\s' b=sO d/\OR C J k o d:=λk o b hm hb=>by obtain⟨g1,g2⟩:=h2 k o hm;obtain⟨b',d,e1,e2,e3⟩:=hS.get g1 (Zcf g2).2;rw[hb]at e1;cases e1;exact⟨d,e2,(hS'.kp b d (by show t b=_;rw[l2 k o b hm hb];exact e2)).1,e3⟩
 have i:∀k o,σ2.get k=sO o->∃o',U'.get k=sO o':=λk o hk=>by rcases b1 k o hk with g|⟨g,_⟩;obtain⟨o',g⟩:=b2 k o g;exact⟨_,g⟩;exact⟨o,g⟩
 refine⟨⟨λk o hk=>?_,λk k' o o' b hk ab e e'=>?_,λb d hb=>?_,λk o b hk e=>?_⟩,λk b hk hb=>?_⟩;rcases b1 k o hk with g|⟨g,_⟩;obtain⟨g1,g2⟩:=h2 k o g;obtain⟨b,d,e1,e2,e3⟩:=hS.get g1 (Zcf g2).2;obtain⟨d',f1,f2,f3⟩:=hM k o b g e1;exact⟨_,hs _ _ e1,.inl ⟨b,d',rfl,f2,f3.mono hs⟩⟩;exact hS'.obj k o g;obtain⟨o1,g1⟩:=i _ _ hk;obtain⟨o2,g2⟩:=i _ _ ab;exact hS'.inj k k' o1 o2 b g1 g2 e e';obtain⟨e1,e2⟩:=hS'.kp b d (l1 b d hb);refine⟨e1,λk o hk hr e=>?_⟩;rcases b1 k o hk with g|⟨g,_⟩;exact(hS.kp b d hb).2 k o (h2 k o g).1 hr (hS.name hs (h2 k o g).1 e);exact e2 k o g hr e;rcases b1 k _ hk with g|⟨g,g'⟩;have:=(h2 k _ g).2;simp[Zky]at this;obtain⟨d,hd⟩:=hS'.ro k o b g e;rcases l3 b d hd with hd|⟨k0,o0,hm,u⟩;exact⟨d,hd⟩;obtain⟨o1,g1⟩:=b2 k0 o0 hm;have:=hS'.inj k k0 _ _ b g g1 e (hs _ _ u);subst this;exact absurd hm (g' o0);rcases h3 k hk with ⟨o,hm⟩|⟨o,ho⟩;obtain⟨d,f1,f2,_⟩:=hM k o b hm hb;rw[f1,f2];obtain⟨d,hd⟩:=hS.ro k o b ho hb;rw[(hS.kp b d hd).1,(hS'.kp b d (l1 b d hd)).1]
end
def Zeu(ρd:Env)(u l o:Nat):Prop:=ZM ρd u=sO (.loc l o)\/ZM ρd u=sO (.when true (.loc l o))
structure Wa(J:Nm)(r:Rl)(ρd:Env)(L:Loc)(B:List (Nat×Rd)):Prop where
 cs:∀l vs,Kx l r.cs=some vs->∃ds,Zg L l=some ds/\VRs J vs ds
 no:∀l,Kx l r.cs=none->Zg L l=none
 nd:(r.cs.map (·.1)).Nodup
 ad:∀u l o,(u,l,o)∈r.ad->Zeu ρd u l o
 lt:∀u l o,(u,l,o)∈r.ad->u<32768
 bn:∀n b,(n,.blk b)∈B->∃k,(n,k)∈r.bn/\J k=some (.tip b)
 bl:∀n l,(n,.loc l)∈B->(n,l)∈r.bl
def Wa.nil{J:Nm}{ρd:Env}:Wa J Rl.nil ρd [] []:={
 cs l vs h:=by cases h
 no l _:=rfl
 nd:=by simp[Rl.nil]
 ad u l o h:=by cases h
 lt u l o h:=by cases h
 bn n b h:=by grind
 bl n l h:=by grind }
section
variable {J J':Nm} {r:Rl} {ρd:Env} {L:Loc} {B:List (Nat × Rd)}
def Wa.mono(h:Wa J r ρd L B)(i:J.Sub J'):Wa J' r ρd L B:={
 cs l vs hl:=by obtain⟨ds,a,b⟩:=h.cs l vs hl;exact⟨ds,a,b.mono i⟩
 no:=h.no
 nd:=h.nd
 ad:=h.ad
 lt:=h.lt
 bn n b hb:=by obtain⟨k,a,c⟩:=h.bn n b hb;exact⟨k,a,i _ _ c⟩
 bl:=h.bl }
def Zeu.put{u l o}(h:Zeu ρd u l o){dst}(i:dst≠sO u){e}:Zeu (Zx ρd dst e) u l o:=by
 unfold Zeu;rw[WJ,if_neg i];exact h
def ZyT{t}(h:noA t r=true):∀u l o,(u,l,o)∈r.ad->t≠u:=λu l o hm e=>by
 unfold noA at h;split at h;exact Zra ‹_› _ hm e.symm;grind
def ZDb{t}(h:noA t r=true):t<32768:=by
 unfold noA at h;split at h;simpa using h;grind
def ZAF{dst}(h:ZeG dst r=true):∀u l o,(u,l,o)∈r.ad->dst≠sO u:=λu l o hm e=>by
 subst e;exact ZyT h u l o hm rfl
def Wa.put(h:Wa J r ρd L B){dst}(i:ZeG dst r=true)(e):Wa J r (Zx ρd dst e) L B :=
 { h with ad:=λu l o hm=>(h.ad u l o hm).put (ZAF i u l o hm) }
def Wa.next(h:Wa J r ρd L B)(fl):Wa J (Zlw fl r) ρd L (YZ fl B):=by
 have h1:∀{fl:List Nat} n b,(n,.blk b)∈YZ fl B->∃k,(n,k)∈Zgd fl r.bn/\J k=sO (.tip b):=λ{fl} n b i=>by obtain⟨t,u⟩:=QM.1 i;obtain⟨k,a,c⟩:=h.bn n b u;exact⟨k,Zge (Zfr.1 t) a,c⟩
 have h2:∀{fl:List Nat} n l,(n,.loc l)∈YZ fl B->(n,l)∈Zgd fl r.bl:=λ{fl} n l i=>by obtain⟨t,u⟩:=QM.1 i;exact Zge (Zfr.1 t) (h.bl n l u)
 cases fl with
 |nil=>rw[Zkb];exact{ cs:=h.cs,no:=h.no,nd:=h.nd,ad:=h.ad,lt:=h.lt,bn:=λn b i=>by simp at i,bl:=λn b i=>by simp at i }
 |cons a fl=>exact{ cs:=h.cs,no:=h.no,nd:=h.nd,ad:=h.ad,lt:=h.lt,bn:=h1,bl:=h2 }
def ZpN(h:Wa J r ρd L B){x l o}(i:ZsM x r=sO (l,o)):∃p,ZC ρd true x=sO (p,.loc l o)/\p:=by
 cases x with
 |cst d=>cases i
 |tmp t =>rcases h.ad t l o (Znj i) with h|h;exact⟨True,by simp[ZC,h],trivial⟩;exact⟨True->True,by simp[ZC,h],λ_=>trivial⟩
def Wa.addr(h:Wa J r ρd L B){u l o}(hn:noA u r=true){e}(he:e=.loc l o\/e=.when true (.loc l o)):Wa J ⟨r.cs,(u,l,o)::r.ad,r.bn,r.bl⟩ (Zx ρd (sO u) e) L B :=
 { h with
  ad:=λu' i t hm=>by rcases List.mem_cons.1 hm with hm|hm;cases hm;unfold Zeu;rw[WJ,if_pos rfl];exact he.imp (by rintro rfl;rfl) (by rintro rfl;rfl);exact(h.ad u' i t hm).put (λhu=>ZyT hn u' i t hm (by simpa using hu))
  lt:=λu' i t hm=>by
   rcases List.mem_cons.1 hm with hm|hm;simp at hm;rw[hm.1];exact ZDb hn;exact h.lt u' i t hm }
def Z6.off{H}(h:Z6 J [] H ρd)(u e):Z6 J [] (H.set nO u) (Zx ρd (sO u) e):=λt w hw hl=>by
 rcases T.get_set hw with ⟨_,h1⟩|⟨i,h1⟩;grind;obtain⟨e',h2,h3⟩:=h t w h1 hl;exact⟨e',by rw[WJ,if_neg (by simpa using Ne.symm i)];exact h2,h3⟩
def Wa.reads(h:Wa J r ρd L B){R bn bl}(i:∀k,k∈r.bn->k∈bn)(t:∀k,k∈r.bl->k∈bl)(u:∀n b,(n,.blk b)∈R->∃k,(n,k)∈bn/\J k=sO (.tip b))(h4:∀n l,(n,.loc l)∈R->(n,l)∈bl):Wa J ⟨r.cs,r.ad,bn,bl⟩ ρd L (R++B) :=
 { h with
  bn:=λn b hb=>by rcases List.mem_append.1 hb with hb|hb;exact u n b hb;obtain⟨k,a,c⟩:=h.bn n b hb;exact⟨k,i _ a,c⟩
  bl:=λn l hb=>by
   rcases List.mem_append.1 hb with hb|hb;exact h4 n l hb;exact t _ (h.bl n l hb) }
end
section
variable {C:Px} {ih:Ih} {dk:List W2} {os:List (DOp × List Nat)} {rest:Bx RgD}
def Zcl(C:Px)(ih:Ih)(rest:Bx RgD)(dk:List W2)(os:List (DOp×List Nat)):Prop :=
 ∀r fm H U nx o,rest.run r ih dk fm H U nx=sO o->∀(F:Fr C.P) J ρd L s B,FmR C J fm o F->Z6 J [] H ρd->Yu J nx->Sim C J U s->Wa J r ρd L B->DOA F nO dk os ρd L s B
variable {r:Rl} {fm:Fm} {H:T W} {U:S} {nx:Nat} {o:Out} {F:Fr C.P} {J:Nm} {ρd:Env} {L:Loc} {s:St} {B:List (Nat × Rd)}
def ZAD{t v d}(hv:VR J v d)(h:Wa J r ρd L B):Wa J (ZBc t v r) ρd L ((K1 (.d d)).map (λb=>(t,b))++B):=by
 have u:∀{k b:Nat},J k=sO (.tip b)->Wa J ⟨r.cs,r.ad,(t,k)::r.bn,r.bl⟩ ρd L ([(t,.blk b)]++B):=λ{k b} hb =>
  h.reads (λ_ hm=>List.mem_cons_of_mem _ hm) (λ_ hm=>hm) (λn b' i=>⟨k,by
   simp at i;rw[i.1,i.2];exact⟨ψ,hb⟩⟩) (λn l hl=>by grind)
 cases hv<;>first|exact h|exact u ‹_›
def Zx0{x xs vs}(h:(Zcr (x::xs)).run H=sO vs):∃v t,(YQ x).run H=sO v/\(Zcr xs).run H=sO t/\vs=v::t:=by
 simp[Zcr]at h;split at h<;>(try(simp at h;done));rename_i v u;split at h<;>simp at h;rename_i t i;exact⟨v,t,u,i,h.symm⟩
def ZDm(hρ:Z6 J [] H ρd){dst g k}(hg:Zn ρd g=sO true){db r3}(h:(opF false db k).run H U nx=sO r3){ρd'}(t:Wa J r ρd' L B):
  Wa J ((rdR (dst.getD 0) k).run H r) ρd' L (Ko ⟨dst,g,k⟩ ρd++B):=by
 cases k;case q q xs =>
  cases u:YT (.q q xs) with
  |false=>simpa[rdR,Ko,Y4,u]using t
  |true =>
   simp[rdR,Ko,Y4,u,hg];cases xs with
   |nil=>exact t
   |cons x ys =>simp[opF]at h;split at h<;>(try(grind;done));rename_i vs i;obtain⟨p,ds,a1,a2,a3⟩:=ZaM hρ i;obtain⟨v,vs',hv,_,rfl⟩:=Zx0 i;obtain⟨d,ds',rfl,b1,b2⟩:=a3.inv;simp[a1,hv];exact ZAD b1 t
 all_goals exact t
def Zkr(u:Zcl C ih rest dk os){dst g fl k}(hk:YF k=true)(h:(Zkq rest dst k).run r ih dk fm H U nx=sO o)(hg:Zn ρd g=sO true)(hF:FmR C J fm o F)(hρ:Z6 J [] H ρd)(hN:Yu J nx)(hS:Sim C J U s)(hR:Wa J r ρd L B):DOA F nO dk ((⟨dst,g,k⟩,fl)::os) ρd L s B:=by
 simp[Zkq]at h;split at h<;>(try(grind;done));rename_i v σ1 nx1 i;obtain⟨hd,hh⟩:=ZD h;obtain⟨e1,e2,side,e,e3,e4,e5⟩:=Zrp (L:=L) (dst:=dst) hS hN.o hρ.anyL hg hk i;have t:Y1 k=true:=by cases k<;>simp[YF]at hk<;>rfl
 refine Jn e4 e3 ?_;simp[t];exact u _ _ _ _ _ _ hh F J _ L s _ hF (JL hρ (show WR J [] (.v v) e from e5) dst) hN hS (ZDm hρ hg i (hR.put hd e))
def ZvX{fl σ0 l}(h:ZAG fl r U=sO (σ0,l)):∃ks,Zkh ks U=sO (σ0,l)/\∀n k,n∈fl->(n,k)∈r.bn->k∈ks:=by
 cases fl with
 |nil=>exact⟨[],h,λ_ _ h=>by simp at h⟩
 |cons a fl=>exact⟨_,h,λn k t i=>ZfE t i⟩
def Zp2(hrest:Zcl C ih rest dk os){f dst g fl k}(hk:YF k=false)(hp:Y1 k=false)(hnf:Zkc k=true)(h:(Ztm C f rest dst g fl k).run r ih dk fm H U nx=sO o)(hg:Zn ρd g=sO true)(hF:FmR C J fm o F)(hρ:Z6 J [] H ρd)(hN:Yu J nx)(hS:Sim C J U s)(hR:Wa J r ρd L B):DOA F nO dk ((⟨dst,g,k⟩,fl)::os) ρd L s B:=by
 unfold Ztm at h;split at h<;>(try(grind;done));rename_i ad;simp only at h;split at h<;>(try(grind;done));rename_i σ0 l ab;split at h<;>(try(grind;done));rename_i v σ1 af ae;split at h<;>(try(grind;done));rename_i σ2 i;obtain⟨hd,hh⟩:=ZD h;obtain⟨ks,o1,o2⟩:=ZvX ab;obtain⟨t,ac,hL⟩:=hS.lend o1;refine Zb5 (Y0 ⟨C.toCx,t⟩ J ⟨v,σ1,af⟩) hp (λH' L' os' u hc=>?_) (λe s2 hr=>?_);exact Zyo ac hN hρ (by rw[YX (λt ht=>u t (by simp[ZB,ht]))];exact hg) ad hk hnf ae u hc;obtain⟨J',k1,k2,k3,d,k4,rfl⟩:=hr;obtain⟨u1,u2⟩:=hS.unlend o1 hL k1 k3 i;refine⟨Zgf (λn b hf hb=>?_) (λ_ _ _ _=>rfl),hrest _ _ _ _ _ _ hh F J' _ L s2 _ (hF.mono k1) (JL (hρ.mono k1) (WR.val k4) dst) k2 u1 (((hR.put hd _).next fl).mono k1)⟩;obtain⟨kn,n1,n2⟩:=hR.bn n b hb;exact u2 kn b (o2 n kn hf n1) n2
def ZzP(hlib:Q1 C)(hih:Jr C ih)(hrest:Zcl C ih rest dk os){f dst g fl fx xs}(h:(goD C f rest dst g fl (.call fx xs)).run r ih dk fm H U nx=sO o)(hg:Zn ρd g=sO true)(hF:FmR C J fm o F)(hρ:Z6 J [] H ρd)(hN:Yu J nx)(hS:Sim C J U s)(hR:Wa J r ρd L B):DOA F nO dk ((⟨dst,g,.call fx xs⟩,fl)::os) ρd L s B:=by
 simp[goD]at h;split at h<;>(try(grind;done));rename_i fv ad;split at h<;>(try(grind;done));rename_i vs ae;split at h<;>(try(grind;done));rename_i σ0 l ab;split at h<;>(try(grind;done));rename_i pan v U' af u;split at h<;>(try(grind;done));rename_i σ2 i;obtain⟨ks,o1,o2⟩:=ZvX ab;obtain⟨t,ac,hL⟩:=hS.lend o1;obtain⟨p,fd,a1,a2,a3⟩:=KE hρ ad;obtain⟨q,ds,b1,b2,b3⟩:=ZaM hρ ae;have hV:WP C.P fd ds s (ZgF ⟨C.toCx,t⟩ J ⟨pan,v,U',af⟩):=Zm2 (C:=⟨C.toCx,t⟩) hlib hih u a3 b3 hN ac;refine ZdR hg rfl a1 b1 (ZaS ds) b2 a2 hV (λd S1 hp=>?_) (λd S1 hp=>?_)
 .obtain⟨η1,d1,k1,k2,k3,k4,k5⟩:=hp;cases pan with
  |true=>grind
  |false =>cases k5;obtain⟨hd,hh⟩:=ZD h;obtain⟨u1,u2⟩:=hS.unlend o1 hL k1 k3 i;refine⟨Zgf (λn b hf hb=>?_) (λ_ _ _ _=>rfl),hrest _ _ _ _ _ _ hh F η1 _ L S1 _ (hF.mono k1) (JL (hρ.mono k1) (WR.val k4) dst) k2 u1 (((hR.put hd _).next fl).mono k1)⟩;obtain⟨kn,n1,n2⟩:=hR.bn n b hb;exact u2 kn b (o2 n kn hf n1) n2
 obtain⟨η1,d1,k1,k2,k3,k4,k5⟩:=hp;cases pan with
 |false=>grind
 |true =>cases k5;exact ZhG hih h (hF.mono k1) Z6.nil k2 (hS.unlend o1 hL k1 k3 i).1 k4
end
section
variable {C:Px} {ih:Ih} {dk:List W2} {os:List (DOp × List Nat)} {rest:Bx RgD}
variable {r:Rl} {fm:Fm} {H:T W} {U:S} {nx:Nat} {o:Out} {F:Fr C.P} {J:Nm} {ρd:Env} {L:Loc} {s:St} {B:List (Nat × Rd)}
def Zkp{dst g}(t:Zn ρd g=sO true){xs es p}(i:Ya ρd true xs=sO (p,es))(u:p){q side e}(hq:qv L s q es=sO (side,e))(hs:side):
  ∃side' e',side'/\ZF ⟨dst,g,.q q xs⟩ ρd L s=.ok side' (Zx ρd dst e') L s/\(e'=e\/e'=.when true e):=by
 cases g with
 |none=>exact⟨p/\side,e,ZH4 u hs,by unfold ZF;simp[t,i,hq],.inl rfl⟩
 |some x=>exact⟨true=true->p/\side,.when true e,λ_=>ZH4 u hs,by unfold ZF;simp[t,i,hq],.inr rfl⟩
def ZnW(t:Zcl C ih rest dk os){dst g fl l off}(h:(adD rest dst l off).run r ih dk fm H U nx=sO o){q xs}(hrd:YT (.q q xs)=false){side e'}(hside:side)(hst:ZF ⟨dst,g,.q q xs⟩ ρd L s=.ok side (Zx ρd dst e') L s)(he:e'=.loc l off\/e'=.when true (.loc l off))(hF:FmR C J fm o F)(hρ:Z6 J [] H ρd)(hN:Yu J nx)(hS:Sim C J U s)(hR:Wa J r ρd L B):DOA F nO dk ((⟨dst,g,.q q xs⟩,fl)::os) ρd L s B:=by
 unfold adD at h;split at h<;>(try(grind;done));rename_i u;obtain⟨hn,hh⟩:=ZD h;refine Jn hst hside ?_;have i:Ko ⟨sO u,g,.q q xs⟩ ρd=[]:=by simp[Ko,Y4,hrd]
 simp[i];exact t _ _ _ _ _ _ hh F J _ L s _ hF (hρ.off u e') hN hS (hR.addr hn he)
def Zy8{dst g q xs es p l off}(i:YT (.q q xs)=true)(u:Zn ρd g=sO true)(t:Ya ρd true xs=sO (p,.loc l off::es)):Ko ⟨dst,g,.q q xs⟩ ρd=[(dst.getD 0,.loc l)]:=by
 simp[Ko,Y4,i,u,t,K1,Zb2]
def ZB2(hrest:Zcl C ih rest dk os){dst g fl q x ys l off}(hx:ZsM x r=sO (l,off))(h:(ZAx rest dst q ys).run l off r ih dk fm H U nx=sO o)(hg:Zn ρd g=sO true)(hF:FmR C J fm o F)(hρ:Z6 J [] H ρd)(hN:Yu J nx)(hS:Sim C J U s)(hR:Wa J r ρd L B):DOA F nO dk ((⟨dst,g,.q q (x::ys)⟩,fl)::os) ρd L s B:=by
 obtain⟨p,a1,a2⟩:=ZpN hR hx;have u:Ya ρd true [x]=sO (p/\True,[.loc l off]):=by simp[Ya,a1]
 have ld:∀{q:Q} {v:V} {d:D} {side:Prop},YT (.q q [x])=true->VR J v d->side->qv L s q [.loc l off]=sO (side,.d d)->noV (ZeG dst r) (rest.run ⟨r.cs,r.ad,r.bn,(dst.getD 0,l)::r.bl⟩ ih dk fm ((ZcN dst).run H (.v v)) U nx)=sO o->DOA F nO dk ((⟨dst,g,.q q [x]⟩,fl)::os) ρd L s B:=by intro q v d side ae hv hs hq h;obtain⟨hd,hh⟩:=ZD h;obtain⟨t,e',h1,h2,h3⟩:=Zkp (dst:=dst) hg u ⟨a2,trivial⟩ hq hs;refine Jn h2 h1 ?_;simp only[Y1,Zy8 (dst:=dst) ae hg u];refine hrest _ _ _ _ _ _ hh F J _ L s _ hF (JL hρ (show WR J [] (.v v) e' from⟨d,hv,h3⟩) dst) hN hS ((hR.put hd e').reads (λ_ h=>h) (λ_ hm=>List.mem_cons_of_mem _ hm) (λn b hb=>by grind) (λn l' hl=>?_));simp at hl;rw[hl.1,hl.2];simp
 unfold ZAx at h;split at h;·split at h<;>(try(grind;done));obtain⟨t,e',h1,h2,h3⟩:=Zkp (L:=L) (s:=s) (dst:=dst) hg u ⟨a2,trivial⟩ (q:=.mv) rfl trivial;exact ZnW hrest h rfl h1 h2 h3 hF hρ hN hS hR
 .split at h<;>(try(grind;done));obtain⟨t,e',h1,h2,h3⟩:=Zkp (L:=L) (s:=s) (dst:=dst) hg u ⟨a2,trivial⟩ (q:=.nilck) rfl trivial;exact ZnW hrest h rfl h1 h2 h3 hF hρ hN hS hR
 .rename_i o1;split at h<;>(try(grind;done));obtain⟨t,e',h1,h2,h3⟩:=Zkp (L:=L) (s:=s) (dst:=dst) hg u ⟨a2,trivial⟩ (q:=.faddr o1) rfl trivial;exact ZnW hrest h rfl h1 h2 h3 hF hρ hN hS hR
 .rename_i m z;split at h<;>(try(grind;done));rename_i y;simp only at h;split at h<;>(try(grind;done));rename_i kk i hy;obtain⟨hb,hh⟩:=ZD h;simp[JG,<-Bool.not_eq_true]at hb;obtain⟨p2,d,b1,b2,b3⟩:=KE hρ hy;cases b3;have ac:Ya ρd true [x,y]=sO (p/\p2/\True,[.loc l off,.d (.int kk i)]):=by simp[Ya,a1,b1]
  obtain⟨t,e',h1,h2,h3⟩:=Zkp (L:=L) (s:=s) (dst:=dst) hg ac ⟨a2,b2,trivial⟩ (q:=.iaddrA m z) rfl ⟨hb.1,ω⟩;exact ZnW hrest hh rfl h1 h2 h3 hF hρ hN hS hR
 .split at h<;>(try(grind;done));simp only at h;split at h<;>(try(grind;done));rename_i cs ab;split at h<;>(try(grind;done));rename_i v hv;obtain⟨ds,c1,c2⟩:=hR.cs l cs ab;rw[Zlq]at hv;obtain⟨d,d1,d2⟩:=c2.get hv;exact ld rfl d2 trivial (by simp[qv,Wg,c1,d1]) h
 .rename_i n;split at h<;>(try(grind;done));simp only at h;split at h<;>(try(grind;done));rename_i cs ab;split at h<;>(try(grind;done));rename_i v hv;obtain⟨ds,c1,c2⟩:=hR.cs l cs ab;unfold Zk3 at hv;split at hv<;>simp at hv;rename_i rr af;subst hv;obtain⟨d1,d2⟩:=c2.partv af;exact ld rfl (.agg _ _ d2) d1 (by simp[qv,Kn,c1]) h
 grind
def Wa.cell(hR:Wa J r ρd L B){l vs0 vs}(hl:Kx l r.cs=sO vs0){ds}(hv:VRs J vs ds):Wa J ⟨ZkP l vs r.cs,r.ad,r.bn,r.bl⟩ ρd ((l,ds)::L) B :=
 { hR with
  cs:=λl' i t=>by rw[Znk]at t;by_cases u:l'=l;subst u;simp[hl]at t;subst t;exact⟨ds,by simp[Zg],hv⟩;rw[if_neg u]at t;obtain⟨d,d1,d2⟩:=hR.cs l' i t;exact⟨d,by simp[Zg];rw[if_neg (Ne.symm u)];exact d1,d2⟩
  no:=λl' t=>by rw[Znk]at t;by_cases u:l'=l;subst u;simp[hl]at t;rw[if_neg u]at t;simp[Zg];rw[if_neg (Ne.symm u)];exact hR.no l' t
  nd:=by rw[Zry];exact hR.nd }
def Zwa(hrest:Zcl C ih rest dk os){fl l off n xs k}(h:Zuq rest fl l off n xs r ih dk fm H U nx=sO o)(hpk:Y1 k=false)(hrk:Ko ⟨nO,nO,k⟩ ρd=[]){ys}(hx:VRs J xs ys){p q ok}(hp:p)(hq:q)(hok:ok)(hst:ZF ⟨nO,nO,k⟩ ρd L s=K5 ρd L s p q ok (.loc l off) n ys)(hF:FmR C J fm o F)(hρ:Z6 J [] H ρd)(hN:Yu J nx)(hS:Sim C J U s)(hR:Wa J r ρd L B):DOA F nO dk ((⟨nO,nO,k⟩,fl)::os) ρd L s B:=by
 unfold Zuq at h;split at h<;>(try(grind;done));rename_i cs i;split at h<;>(try(grind;done));rename_i cs' t;obtain⟨hb,hh⟩:=ZD h;obtain⟨ds,c1,c2⟩:=hR.cs l cs i;obtain⟨f0,f1,f2⟩:=c2.over hx t;have u:ZF ⟨nO,nO,k⟩ ρd L s=.ok (p/\q/\off+n<=I ds/\ok) ρd ((l,Zt ds off ys)::L) s:=by rw[hst];simp[K5,c1]
 refine Jn u ⟨hp,hq,f1,hok⟩ ?_;simp[hpk,hrk];refine⟨Zgf (λ_ _ _ _=>rfl) (λn l' hf ab=>?_),hrest _ _ _ _ _ _ hh F J ρd _ s _ hF hρ hN hS ((hR.cell i f2).next fl)⟩;have hm:=hR.bl n l' ab;have:¬l=l':=λe=>by subst e;rw[Zdo.2 (ZfE hf hm)]at hb;grind
 simp[Zg,this]
def Wa.more(hR:Wa J r ρd L B){t}(ht:Zw5 t r=true){vs ds}(hv:VRs J vs ds):Zg L t=nO/\Wa J ⟨(t,vs)::r.cs,(t,t,0)::r.ad,r.bn,r.bl⟩ ((t,.loc t 0)::ρd) ((t,ds)::L) B:=by
 unfold Zw5 at ht;simp at ht;obtain⟨h1,h2⟩:=ht;split at h1<;>(try(grind;done));rename_i hc;have hA:=hR.addr (e:=.loc t 0) h2 (.inl rfl);refine⟨hR.no t hc,{ hA with
  cs:=λl i u=>?_
  no:=λl u=>?_
  nd:=?_ }⟩
 simp only[Kx]at u;by_cases he:t=l;subst he;simp at u;subst u;exact⟨ds,by simp[Zg],hv⟩;rw[if_neg (λh=>he (Z3.1 h))]at u;obtain⟨d,d1,d2⟩:=hR.cs l i u;exact⟨d,by simp[Zg];rw[if_neg he];exact d1,d2⟩;simp only[Kx]at u;by_cases he:t=l;subst he;rw[if_pos (Z3.2 rfl)]at u;simp at u;rw[if_neg (λh=>he (Z3.1 h))]at u;simp[Zg];simp_all;exact hR.no l u;simp only[ZIj,List.nodup_cons];exact⟨Zrb hc,hR.nd⟩
def ZxZ(u:Zcl C ih rest dk os){f dst g fl z}(h:(goD C f rest dst g fl (.alloc z)).run r ih dk fm H U nx=sO o)(hF:FmR C J fm o F)(hρ:Z6 J [] H ρd)(hN:Yu J nx)(hS:Sim C J U s)(hR:Wa J r ρd L B):DOA F nO dk ((⟨dst,g,.alloc z⟩,fl)::os) ρd L s B:=by
 simp[goD]at h;split at h<;>(try(grind;done));rename_i t zv hz;obtain⟨hn,hh⟩:=ZD h;obtain⟨hl,i⟩:=hR.more hn (ofDs_ok hz);refine Jn (side:=Zav L t=false) (ρ1:=(t,.loc t 0)::ρd) (L1:=(t,z)::L) (s1:=s) (by unfold ZF;simp[Zn]) (by simp[Zav,hl]) ?_;exact u _ _ _ _ _ _ hh F J _ _ s _ hF (hρ.off t (.loc t 0)) hN hS i
def ZBs(hrest:Zcl C ih rest dk os){f dst g fl x}(h:(goD C f rest dst g fl (.box x)).run r ih dk fm H U nx=sO o)(hF:FmR C J fm o F)(hρ:Z6 J [] H ρd)(hN:Yu J nx)(hS:Sim C J U s)(hR:Wa J r ρd L B):DOA F nO dk ((⟨dst,g,.box x⟩,fl)::os) ρd L s B:=by
 simp[goD]at h;split at h<;>(try(grind;done));rename_i t;simp only at h;split at h<;>(try(grind;done));rename_i v hv;obtain⟨hb,hh⟩:=ZD h;simp at hb;obtain⟨⟨hp,hn⟩,hm⟩:=hb;obtain⟨p,d,a1,a2,a3⟩:=KE hρ hv;obtain⟨hl,i⟩:=hR.more hn (Zk6 a3);refine Jn (side:=p/\Zav L t=false/\Kc d=true) (ρ1:=(t,.loc t 0)::ρd) (L1:=(t,cellsOf d)::L) (s1:=s) (by unfold ZF;simp[Zn,a1]) ⟨a2,by simp[Zav,hl],ZnK a3 hp⟩ ?_;refine⟨Zgf (λ_ _ _ _=>rfl) (λn l' hf u=>?_),hrest _ _ _ _ _ _ hh F J _ _ s _ hF (hρ.off t (.loc t 0)) hN hS (i.next fl)⟩;have:¬t=l':=λe=>by subst e;rw[Zdo.2 (ZfE hf (hR.bl _ _ u))]at hm;grind
 simp[Zg,this]
def ZyB(hlib:Q1 C)(hih:Jr C ih)(hrest:Zcl C ih rest dk os){f dst g fl k}(h:(goD C f rest dst g fl k).run r ih dk fm H U nx=sO o)(hg:Zn ρd g=sO true)(hF:FmR C J fm o F)(hρ:Z6 J [] H ρd)(hN:Yu J nx)(hS:Sim C J U s)(hR:Wa J r ρd L B):DOA F nO dk ((⟨dst,g,k⟩,fl)::os) ρd L s B:=by
 cases k;case call fx xs=>exact ZzP hlib hih hrest h hg hF hρ hN hS hR
 case alloc z=>exact ZxZ hrest h hF hρ hN hS hR
 case box x=>exact ZBs hrest h hF hρ hN hS hR
 case panic x =>
  simp[goD]at h;split at h<;>(try(grind;done));rename_i t v hv;obtain⟨p,d,a1,a2,a3⟩:=KE hρ hv;cases a3 with
  |iface _ _ d hd=>exact ZqJ hg rfl a1 a2 (ZhG hih h hF Z6.nil hN hS (.iface _ _ _ hd))
 case defer fx xs=>cases h
 case recover=>cases h
 case fork k=>cases h
 case store1 a v =>
  simp[goD]at h;split at h<;>(try(grind;done));simp only at h;split at h;·rename_i l off ha;split at h<;>(try(grind;done));rename_i x hx;obtain⟨hc,hh⟩:=ZD h;obtain⟨p,a1,a2⟩:=ZpN hR ha;obtain⟨q,d,b1,b2,b3⟩:=KE hρ hx;exact Zwa hrest hh rfl rfl (.one b3) a2 b2 (Zuu b3 hc) (by unfold ZF;simp[Zn,a1,b1]) hF hρ hN hS hR
  exact Zp2 hrest rfl rfl rfl h hg hF hρ hN hS hR
 case storeN n a v =>
  simp[goD]at h;split at h<;>(try(grind;done));simp only at h;split at h
  .rename_i l off ha;split at h<;>(try(grind;done));rename_i xs hx;obtain⟨p,a1,a2⟩:=ZpN hR ha;obtain⟨q,d,b1,b2,b3⟩:=KE hρ hx;cases b3 with
   |agg _ ys hxs =>
   have i:I ys=n:=by unfold Zuq at h;split at h<;>(try(grind;done));split at h<;>(try(grind;done));rename_i u;rw[<-hxs.len];exact(Zqo u).1
   exact Zwa hrest h rfl rfl hxs a2 b2 i (by unfold ZF;simp[Zn,a1,b1]) hF hρ hN hS hR
  exact Zp2 hrest rfl rfl rfl h hg hF hρ hN hS hR
 case q q xs =>simp[goD]at h;split at h;rename_i x ys;simp only at h;split at h;rename_i l off hx;exact ZB2 hrest hx h hg hF hρ hN hS hR;exact Zkr hrest rfl h hg hF hρ hN hS hR;exact Zkr hrest rfl h hg hF hρ hN hS hR
 all_goals
  simp[goD]at h;first
   |exact Zkr hrest rfl h hg hF hρ hN hS hR
   |exact Zp2 hrest rfl rfl rfl h hg hF hρ hN hS hR
end
def Znl:∀{H t e},ZM H t=sO e->(t,e)∈H
 | [],t,e,h=>by cases h
 | (k,x)::r,t,e,h=>by simp[ZM]at h;split at h;rename_i i;cases h;subst i;simp;exact List.mem_cons_of_mem _ (Znl h)
def ZAg:∀{L},(∀l,Zg L l=nO)->L=[]
 | [],_=>rfl
 | (k,c)::r,h=>by have:=h k;simp[Zg]at this
def Zkm{t nx}:∀{ad H u w},(ZoX ad t nx H).get u=sO w->(∃o,(u,t,o)∈ad/\w=.v (.ptr nx o))\/H.get u=sO w
 | [],H,u,w,h=>.inr h
 | (u',l,o)::r,H,u,w,h=>by simp only[ZoX]at h;split at h;rename_i hl;rw[Z3]at hl;subst hl;rcases T.get_set h with ⟨rfl,h3⟩|⟨_,h3⟩;simp at h3;exact .inl ⟨o,ψ,h3.symm⟩;rcases Zkm h3 with ⟨o',i,h2⟩|h3;exact .inl ⟨o',by simp[i],h2⟩;exact .inr h3;rcases Zkm h with ⟨o',i,h2⟩|h;exact .inl ⟨o',by simp[i],h2⟩;exact .inr h
section
variable {C:Px} {ih:Ih} {dk:List W2}
def Zvz(hih:Jr C ih):∀{cs ad fm H U nx o},Ztt cs ad ih dk fm H U nx=sO o ->
  ∀{F J ρd L s},FmR C J fm o F->Z6 J [] H ρd->Yu J nx->Sim C J U s->(∀l vs,Kx l cs=sO vs->(∃u o,(u,l,o)∈ad)->∃ds,Zg L l=sO ds/\VRs J vs ds) ->
   (∀l,Kx l cs=nO->Zg L l=nO)->(cs.map (·.1)).Nodup->(∀u l o,(u,l,o)∈ad->(Kx l cs).isSome=true->Zeu ρd u l o)->Zv F dk ρd L s
 | [],ad,fm,H,U,nx,o,h,F,J,ρd,L,s,hF,hρ,hN,hS,hc,hn,hd,ha=>by obtain rfl:=ZAg λl=>hn l rfl;exact hih.at _ _ _ _ _ _ h F J ρd s hF hρ hN hS
 | (t,vs)::cs,ad,fm,H,U,nx,o,h,F,J,ρd,L,s,hF,hρ,hN,hS,hc,hn,hd,ha=>by
  simp[Ztt]at h;split at h<;>(try(grind;done));rename_i l' o' af;obtain⟨hl,hh⟩:=ZD h;rw[Z3]at hl;subst hl;have ac:Kx l' ((l',vs)::cs)=sO vs:=by simp[Kx]
  obtain⟨ds,d1,d2⟩:=hc l' vs ac ⟨_,_,Znj af⟩;simp only[ZIj,List.nodup_cons]at hd;have ab:∀{l:Nat},l≠l'->Kx l ((l',vs)::cs)=Kx l cs:=λ{l} i=>by simp only[Kx];rw[if_neg (λh=>i (Z3.1 h).symm)]
  have ae:∀{l:Nat} {x:List V},Kx l cs=sO x->l≠l':=λ{l x} hx e=>by
   subst e;have:∀{r:List (Nat×List V)} {x:List V},Kx l r=sO x->l∈r.map (·.1):=λ{r}=>by
    induction r with
    |nil=>intro x h;cases h
    |cons a r ih =>intro x h;simp only[Kx]at h;split at h;rename_i ht;rw[Z3]at ht;simp[ht];simp only[ZIj,ZIF];exact .inr (ih h)
   exact hd.1 (this hx)
  refine ZdC l' d1 λb hb=>?_;have f0:=hN.free nx (ZIh _);have n1:J.Sub (J.put nx (.tip b)):=Nm.put_sub f0 _;refine Zvz hih hh (J:=J.put nx (.tip b)) (hF.mono n1) ?_ (hN.put _) (hS.new f0 hb (OR.cells0 (d2.mono n1))) ?_ ?_ hd.2 ?_
  .intro u w hw ag;rw[ZdI];rcases Zkm hw with ⟨o2,h1,rfl⟩|h1;rcases ha u l' o2 h1 (by rw[ac];rfl) with h2|h2;exact⟨.d (.ptr b o2),by rw[h2];simp[Jc],.ptr b o2,.ptr _ _ _ Nm.put_same,.inl rfl⟩;exact⟨.when true (.d (.ptr b o2)),by rw[h2];simp[Jc],.ptr b o2,.ptr _ _ _ Nm.put_same,.inr rfl⟩;obtain⟨e,h2,h3⟩:=hρ u w h1 ag;cases w with
   |v x =>obtain⟨d,h4,rfl|rfl⟩:=h3;exact⟨_,by rw[h2];rfl,d,h4.mono n1,.inl rfl⟩;exact⟨_,by rw[h2];rfl,d,h4.mono n1,.inr rfl⟩
   |loc l o=>cases ag
   |skip =>have ai:e=.when false (.d (.bool false)):=h3;subst ai;exact⟨_,by rw[h2];rfl,rfl⟩
  intro l aj hl hx;have i:=ae hl;obtain⟨ah,g1,g2⟩:=hc l aj (by rw[ab i];exact hl) hx;exact⟨ah,by rw[Zdg,if_neg i];exact g1,g2.mono n1⟩;intro l hl;rw[Zdg];by_cases i:l=l';simp_all;rw[if_neg i];exact hn l (by rw[ab i];exact hl);intro u l o2 hm hs;obtain⟨x,hx⟩:=Option.isSome_iff_exists.1 hs;have i:=ae hx;unfold Zeu;rw[ZdI];rcases ha u l o2 hm (by rw[ab i];exact hs) with h2|h2;exact .inl (by rw[h2];simp[Jc,i]);exact .inr (by rw[h2];simp[Jc,i])
def ZBQ(hih:Jr C ih):Zcl C ih ⟨λr ih dk fm H U nx=>Ztt r.cs r.ad ih dk fm H U nx⟩ dk []:=by
 intro r fm H U nx o h F J ρd L s B hF hρ hN hS t;refine ZpI (Zvz hih h hF hρ.keep hN hS (λl vs hl hx=>?_) (λl hl=>?_) t.nd (λu l o hm _=>?_));obtain⟨u,o',hm⟩:=hx;obtain⟨ds,d1,d2⟩:=t.cs l vs hl;refine⟨ds,?_,d2⟩;have i:Zeu (Yn ρd ZpQ) u l o':=(t.ad u l o' hm).imp (λh=>Jx h (List.mem_range.2 (t.lt u l o' hm))) (λh=>Jx h (List.mem_range.2 (t.lt u l o' hm)));refine Zgx L _ l ds ?_ d1;rw[List.mem_flatMap];rcases i with h|h;exact⟨_,Znl h,by simp[Ke]⟩;exact⟨_,Znl h,by simp[Ke]⟩
 .cases hg:Zg (Za9 (Yn ρd ZpQ) L) l with
  |none=>rfl
  |some cs =>have:=JX L _ l cs hg;rw[t.no l hl]at this;grind
 exact(t.ad u l o hm).imp (λh=>Jx h (List.mem_range.2 (t.lt u l o hm))) (λh=>Jx h (List.mem_range.2 (t.lt u l o hm)))
end
section
variable {C:Px} {ih:Ih} {dk:List W2} {os:List (DOp × List Nat)} {rest:Bx RgD}
variable {r:Rl} {fm:Fm} {H:T W} {U:S} {nx:Nat} {o:Out} {F:Fr C.P} {J:Nm} {ρd:Env} {L:Loc} {s:St} {B:List (Nat × Rd)}
end
section
variable {C:Px} {ih:Ih} {dk:List W2} {os:List (DOp × List Nat)} {rest:Bx RgD}
variable {r:Rl} {fm:Fm} {H:T W} {U:S} {nx:Nat} {o:Out} {F:Fr C.P} {J:Nm} {ρd:Env} {L:Loc} {s:St} {B:List (Nat × Rd)}
def Zuc(u:Q1 C)(hih:Jr C ih){f}:∀{os},Zcl C ih (ZlB C f os) dk os
 | []=>ZBQ hih
 | (⟨dst,g,k⟩,fl)::os=>λr fm H U nx o h F J ρd L s B hF hρ hN hS hR=>by
  unfold ZlB at h;split at h;grind;rename_i t;have IH:=Zuc u hih (f:=f) (os:=os);split at h;exact ZyB u hih IH h rfl hF hρ hN hS hR;rename_i g0;simp only at h;split at h<;>(try(grind;done));rename_i b hb;have hg:=Zrd hρ hb;split at h;exact ZyB u hih IH h hg hF hρ hN hS hR;split at h<;>(try(grind;done));rename_i i;obtain⟨hd,hh⟩:=ZD h;cases hq:YF k with
  |true =>rw[hq,if_pos rfl]at hh;exact ZxO hg hq (.d (.bool false)) (IH _ _ _ _ _ _ hh F J _ L s _ hF (JL hρ WR.skp dst) hN hS (hR.put hd _))
  |false =>
   rw[hq]at hh;have hp:Y1 k=false:=by cases k<;>simp[YF]at hq<;>first|rfl|exact absurd rfl (i _)|exact absurd rfl (t _)
   exact ZeX (e:=.d (.bool false)) hg hp (IH _ _ _ _ _ _ hh F J _ L s _ hF (JL hρ WR.skp dst) hN hS ((hR.put hd _).next fl))
def Zv2(t:Q1 C)(u:Jr C ih):ZnT C ih:=by
 intro f order i kp fm k H U nx o h hf F J ρd s hF hρ hN hS;exact Zjn (show DOA F nO k i ρd [] s [] from Zuc t u _ _ _ _ _ _ h F J ρd [] s [] hF hρ hN hS Wa.nil)
end
section
variable {P:Program}
def Za.subM{f args s Φ Φ'}(h:Za P f args s Φ)(u:∀r s',Φ r s'->∃s2,St.sub s2 s'/\Φ' r s2):Za P f args s Φ' :=
 ⟨h.1,λg w vs hs t=>(h.2 g w vs hs t).mono λ_ _ ⟨i,s',r,a,b,c,d⟩=>let ⟨s2,e1,e2⟩:=u r s' d;⟨i,s2,r,a,b.sub e1,c,e2⟩⟩
def St.emp:St:=λ_=>nO
def Zyp(s):St.emp.or s=s:=by funext b;simp[St.or,St.emp]
def ZnS{f args d}(h:Za P f args St.emp λr _=>r=.ret d):Zf P f args d:=λs=>by
 have h1:Za P f args St.emp λr s'=>r=.ret d/\s'=St.emp:=h.subM λr s' hr=>⟨St.emp,λb o hb=>by simp[St.emp]at hb,hr,rfl⟩;have i:Z8 St.emp s:=λb o _=>rfl;have t:=h1.frame i;rw[Zyp]at t;refine t.mono λr S ⟨s',⟨u,e2⟩,_,e3⟩=>⟨u,?_⟩;rw[e3,e2,Zyp]
end
def nm0:Nm:=λk=>if k=0 then sO .none else if k=1 then sO .full else nO
def ZyS:Yu nm0 2:={
 z:=rfl
 o:=rfl
 two:=ZIh _
 free k hk:=by simp only[nm0];rw[if_neg ω,if_neg ω] }
def ZA0(C:Cx)(J:Nm)(s:St):Sim ⟨C,St.emp⟩ J T.nil s:={
 obj k o h:=by simp[T.get_nil]at h
 inj k k' o o' b h:=by simp[T.get_nil]at h
 kp b d h:=by simp[St.emp]at h
 ro k o b h:=by simp[T.get_nil]at h }
section
variable {P:Program}
def ZxS{F:Fr P}{kp dk o os H L s}(hg:Zn H o.guard=sO true){n xs}(hk:o.k=.call (.cst (.fn (.func n) [] [])) xs){p es ds}(ha:Ya H true xs=sO (p,es))(hds:Kh es=sO ds)(hp:p){fn}(h0:P.funcs[n]?=sO fn)(h1:fn.body=nO)(h2:(fn.name == "runtime.NumGoroutine")=false)(h3:Extern.findNext fn=nO){e}(h4:Extern.find fn=sO e){d}(he:∀g w vs,ZI (Rep g w) vs ds->∃v,(e vs.toArray).run P w=.ok v w/\Rep g w v d)(h:DO F kp dk os (Zx H o.dst (.d d)) L s):DO F kp dk (o::os) H L s:=by
 refine Y5 λoo g Z w tmps av i r k ao ac ai ad hd hN m hr al=>?_;have hw:=Z9 m ai hg;have am:=Yd ac (by rw[hk];rfl);rw[hk]at ac;obtain⟨f',t,ats,ap,aj,au⟩:=Zvq ac;have ae:Rep g w _ _:=Z0 (H:=H) m aj rfl rfl trivial F.ds;have u:=K3 (Zcd m rfl F.ds au ha hp) hds;obtain⟨v,aq,ar⟩:=he g w _ u;generalize ak:(Act.mk tmps F.ds).eval f'=fv at ae;have af:fv=.func (.func n) #[] #[]:=by
  cases ae with
  |fn _ fs cs _ _ e1 e2 _ _ =>
   obtain rfl:fs=[]:=by simpa using e1
   obtain rfl:cs=[]:=by simpa using e2
   rfl
 subst af;have ag:(Array.map (Act.mk tmps F.ds).eval t)=(t.toList.map (Act.mk tmps F.ds).eval).toArray:=by apply Array.ext';simp
 refine Zoz (e:=.d d) hN m ao ad hd hw am ⟨v,?_,ar⟩ (h av r k hr al);have ab:(callFunc n ((t.toList.map (Act.mk tmps F.ds).eval).toArray++#[])).run P w=.ok (.value v) w:=by
  have ah:¬fn.name = "runtime.NumGoroutine":=by simpa using h2
  simp[callFunc,h0,ah,h1,h3,h4,aq]
 simp[execOp,ap,resolve,ak,ag,Deferred.ofValue,invoke];simpa using ab
def ZtA(c:Nat):List Nat->Int
 | []=>-1
 |b::l=>if Nat.beq (b % 256) (c % 256) then 0 else match ZtA c l with
  |.ofNat n=>.ofNat (n+1)
  |.negSucc _=>-1
def ZvH(c):∀(l),ZtA c l=Lib.indexByte (l.map UInt8.ofNat) (UInt8.ofNat c)
 | []=>rfl
 |b::l=>by
  have ih:=ZvH c l;simp only[ZtA,ZIj,Lib.indexByte];have t:Nat.beq (b % 256) (c % 256)=(UInt8.ofNat b==UInt8.ofNat c):=by rw[Bool.eq_iff_iff,Nat.beq_eq,beq_iff_eq];constructor;intro h;apply UInt8.toNat_inj.1;simpa using h;intro h;have:=congrArg UInt8.toNat h;simpa using this
  rw[t];split;rfl;have i:=Lib.indexByte_ge (l.map UInt8.ofNat) (UInt8.ofNat c);rw[<-ih]at i⊢;cases u:ZtA c l with
  |ofNat n =>
   have:(Int.ofNat n==-1)=false:=by rw[beq_eq_false_iff_ne];simp only[Int.ofNat_eq_natCast,ne_eq];omega
   rw[this];rfl
  |negSucc n =>
   rw[u]at i;have:n=0:=by have e:=Int.negSucc_eq n;omega
   subst this;rfl
def Zj0:∀(l c),Lib.indexByte l c<I l\/Lib.indexByte l c=-1
 | [],c=>.inr rfl
 |b::l,c=>by simp only[Lib.indexByte];split;left;simp;split;exact .inr rfl;rename_i h;rcases Zj0 l c with h1|h1;left;simp;omega;rw[h1]at h;simp at h
def ZC8(n:FuncId):DF:=⟨8,[.tmp 4],.seq (.reg [⟨sO 4,nO,.q .mv [.cst (.i 0)]⟩] nO) (.seq (.reg [⟨sO 5,nO,.q .mv [.tmp 0]⟩,⟨sO 6,nO,.q .mv [.tmp 1]⟩,⟨sO 7,nO,.call (.cst (.fn (.func n) [] [])) [.tmp 5,.tmp 6]⟩,⟨sO 4,nO,.q .mv [.tmp 7]⟩] nO) .ret)⟩
def ZtC{an f n}(hf:cf P an f=sO (ZC8 n)){t}(h0:P.funcs[n]?=sO t)(h1:t.body=nO)(h2:(t.name == "runtime.NumGoroutine")=false)(h3:Extern.findNext t=nO)(h4:Extern.find t=sO Extern.BytealgIndexByte.indexByte){l c}:
  Zf P f [.str l,.int .u8 c] (.i (Lib.indexByte l c.toNat.toUInt8)):=by
 refine Zh hf λF s i=>?_;refine Zc (Zh3 (QO rfl (by repeat(first|trivial|constructor)) (ZeY (Zc (Zh3 (QO rfl (by repeat(first|trivial|constructor)) (QO rfl (by repeat(first|trivial|constructor)) (ZxS rfl rfl rfl rfl (by repeat(first|trivial|constructor)) h0 h1 h2 h3 h4 (d:=.int .i64 (Lib.indexByte l c.toNat.toUInt8)) (λg w vs u=>?_)
  (QO rfl (by repeat(first|trivial|constructor)) (ZeY (i rfl (by repeat(first|trivial|constructor)) (ZH3 _) ZH2)))))))))))
 cases u with
 |cons a1 u =>
 cases u with
 |cons a2 u =>
 cases u;cases a1 with
 |str s _ hs hb =>
 cases a2 with
 |int _ _ hc =>
 subst hs;refine⟨_,Lib.run_indexByteString s c w,.int _ _ ?_⟩;have h1:=Lib.indexByte_ge s.data.toList c.toNat.toUInt8;have h2:=Zj0 s.data.toList c.toNat.toUInt8;simp only[big]at hb;simp only[inR,IntKind.min,IntKind.max,IntKind.signed,IntKind.bits];generalize Lib.indexByte s.data.toList c.toNat.toUInt8=z at h1 h2⊢;rcases h2 with h2|h2<;>simp<;>omega
end
def Zat(f:V->V->Bool):List V->List V->Bool
 | [],[]=>true
 |a::x,b::y=>if f a b then Zat f x y else false
 |_,_=>false
def ZAy(ih:V->V->Bool)(k v:V):Bool:=match k with
 |.int i a=>match v with
  |.int j b=>Zgh i j&&eqI a b
  |_=>false
 |.bool a=>match v with
  |.bool b=>a==b
  |_=>false
 |.str a=>match v with
  |.str b=>eqS a b
  |_=>false
 |.agg a=>match v with
  |.agg b=>Zat ih a b
  |_=>false
 |.nilsl=>match v with
  |.nilsl=>true
  |_=>false
 |.sl _ m s a=>match v with
  |.sl _ m' s' b=>Nat.beq m m'&&Nat.beq s s'&&Zat ih a b
  |_=>false
 |.nilptr=>match v with
  |.nilptr=>true
  |_=>false
 |.nilmap=>match v with
  |.nilmap=>true
  |_=>false
 |.niliface=>match v with
  |.niliface=>true
  |_=>false
 |_=>false
def Zfq(n:Nat):V->V->Bool:=Nat.rec (motive:=λ_=>V->V->Bool) (λ_ _=>false) (λ_ ih=>ZAy ih) n
def zV(n:Nat):V->V:=Nat.rec (motive:=λ_=>V->V) (λk=>k) (λ_ ih k=>match k with
 |.agg a=>.agg (a.map ih)
 |.sl _ m s a=>.sl 0 m s (a.map ih)
 |k=>k) n
def ZyM{J J'}:∀(n) {k v d},Zfq n k v=true->VR J v d->VR J' (zV n k) d
 |0,k,v,d,h,_=>by simp[Zfq]at h
 |n+1,k,v,d,h,hv=>by
  have ih:=λ{k v:V} {d:D}=>ZyM (J:=J) (J':=J') n (k:=k) (v:=v) (d:=d);have ab:∀{a b:List V} {ds:List D},Zat (Zfq n) a b=true->VRs J b ds->VRs J' (a.map (zV n)) ds:=by
   intro a;induction a with
   |nil =>
    intro b ds h hb;cases b with
    |nil=>obtain rfl:=hb.inv0;exact .nil
    |cons _ _=>simp[Zat]at h
   |cons x a iha =>
    intro b ds h hb;cases b with
    |nil=>simp[Zat]at h
    |cons y b =>simp only[Zat]at h;split at h<;>(try(simp at h;done));rename_i hx;obtain⟨d,ds',rfl,h1,h2⟩:=hb.inv;exact .cons _ _ _ _ (ih hx h1) (iha h h2)
  have u:∀{s:Nat} {a b:List V} {row:Nat->List D},Zat (Zfq n) a b=true->VRr J s b row->VRr J' s (a.map (zV n)) row/\I a=I b:=by
   intro s a;induction a with
   |nil =>
    intro b row h hb;cases b with
    |nil=>exact⟨.nil _ _,rfl⟩
    |cons _ _=>simp[Zat]at h
   |cons x a iha =>
    intro b row h hb;cases b with
    |nil=>simp[Zat]at h
    |cons y b =>
     simp only[Zat]at h;split at h<;>(try(simp at h;done));rename_i hx;obtain⟨cs,rfl,h1,h2,h3⟩:=hb.inv;obtain⟨g1,g2⟩:=iha h h3;have hz:=ih hx (.agg _ _ h1);obtain⟨i,t,hl⟩:∃i,zV n x=.agg i/\VRs J' i (row 0):=by
      generalize he:zV n x=z at hz;cases hz with
      |agg i _ h=>exact⟨i,rfl,h⟩
     refine⟨?_,by simp[g2]⟩;rw[ZIj,t];exact .cons _ _ _ _ hl (by rw[hl.len,<-h1.len,h2]) g1
  have h':ZAy (Zfq n) k v=true:=h;cases k<;>simp only[ZAy,ZIz]at h'<;>cases hv<;>simp only[ZIz]at h';case int =>simp only[ZIb,Jb]at h';obtain⟨h1,rfl⟩:=h';obtain rfl:=Zfl h1;exact .int _ _
  case bool=>simp only[beq_iff_eq]at h';subst h';exact .bool _
  case str a b =>rw[Zoj,decide_eq_true_eq]at h';show VR J' (.str a) _;rw[<-h'];exact .str _
  case agg a b ds hb=>exact .agg _ _ (ab h' hb)
  case nilsl=>exact .nilsl
  case sl =>simp only[ZIb,Z3]at h';obtain⟨⟨rfl,rfl⟩,h3⟩:=h';obtain⟨g1,g2⟩:=u h3 ‹VRr J _ _ _›;exact .sl _ _ _ _ _ _ g1 (by rw[ZIo,g2];assumption) (.inl rfl)
  case nilptr=>exact .nilptr
  case nilmap=>exact .nilmap
  case niliface=>exact .niliface
def Zj2:Option Out->Bool
 |some o=>match o.pan with
  |false=>match o.v with
   |.bool b=>b
   |_=>false
  |true=>false
 |none=>false
def ZyF{x}(h:Zj2 x=true):∃U nx,x=sO ⟨false,.bool true,U,nx⟩:=by
 cases x with
 |none=>simp[Zj2]at h
 |some o =>obtain⟨pan,v,U,nx⟩:=o;cases pan<;>cases v<;>simp[Zj2]at h;subst h;exact⟨U,nx,rfl⟩
def Zfn(f0:FuncId)(f:FuncId):Option (S->List V->Option V):=match Nat.beq f f0 with
 |true=>sO λ_ vs=>match vs with
  | [.str s,.int k c]=>match k with
   |.u8=>sO (.i (ZtA c.toNat s))
   |_=>nO
  |_=>nO
 |false=>nO
def ZB0{P:Program}{mu:FuncId->Option Nat->Bool}{f0 n:FuncId}(hf:cf P [] f0=sO (ZC8 n)){fn:Func}(h0:P.funcs[n]?=sO fn)(h1:fn.body=nO)(h2:(fn.name == "runtime.NumGoroutine")=false)(h3:Extern.findNext fn=nO)(h4:Extern.find fn=sO Extern.BytealgIndexByte.indexByte)(t:St):Q1 ⟨⟨P,Zfn f0,mu⟩,t⟩:=by
 intro f g U vs v i u J ds s hv hS;simp only[Zfn]at i;split at i<;>simp only[ZH0,reduceCtorEq]at i;rename_i hb;rw[Z3]at hb;subst hb;subst i;simp only at u;split at u<;>(try(simp at u;done));split at u<;>simp only[ZH0,reduceCtorEq]at u;subst u;obtain⟨d,d',rfl,a1,a2⟩:=hv.inv2;cases a1;cases a2;refine⟨_,.int _ _,?_⟩;rename_i l c;rw[ZvH];exact ZtC hf h0 h1 h2 h3 h4 s
def ZCy{C:Cx}(u:∀t,Q1 ⟨C,t⟩){f:FuncId}{m:Nat}(h:Zj2 ((Zia C f).run (run C m) [] T.nil 2)=true):Zf C.P f [] (.bool true):=by
 obtain⟨U,nx,h⟩:=ZyF h;refine ZnS ?_;have i:=Zo4 u (λC' ih he i=>Zv2 (by subst he;exact u _) i) m St.emp;refine(Zm1 (C:=⟨C,St.emp⟩) (u _) i h .nil ZyS (ZA0 C nm0 St.emp)).mono λr s hp=>?_;obtain⟨J',d',k1,k2,k3,k4,k5⟩:=hp;cases k4;exact k5
def Z2.mslo{t Ln b o n cap sz ds row}(hb:b∈Ln)(ht:t b=sO (.cells ds))(hlen:n*sz<=I ds-o)(hrow:∀i,i<n->LdC t Ln ((ds.drop (o+i*sz)).take sz) (row i)):Z2 t Ln (.msl b o n cap sz) (.sl .none n sz row):=by
 intro g w v hf hr;obtain⟨vs,T,hh,hsz,hc,one,hp⟩:=hf b hb ds ht;cases hr with
 |mslx a _ _ _=>exact .sl0 _ _ _ _ ψ
 |msl _ _ _ _ _ hcap hbig =>
 have ab:∀i j,i<n->j<sz->o+i*sz+j<I ds:=λi j hi hj=>by have:(i+1)*sz<=n*sz:=ZIn _ hi;rw[ZIs,Nat.one_mul]at this;omega
 have u:∀i j,i<n->j<sz->vs[o+i*sz+j]?=sO (vs.getD (o+i*sz+j) undef):=λi j hi hj=>by have h1:=ab i j hi hj;simp[Array.getElem?_eq_getElem (show o+i*sz+j<vs.size by omega)]
 have ac:∀i j,i<n->j<sz->vs.getD (o+i*sz+j) undef∈vs:=λi j hi hj=>by have h1:=ab i j hi hj;simp only[ZIN,Array.getElem?_eq_getElem (show o+i*sz+j<vs.size by omega)];exact Array.getElem_mem _
 have ad:∀i,i<n->(row i).length=sz:=λi hi=>by rw[<-(hrow i hi).len,ZIm,ZIG];have:(i+1)*sz<=n*sz:=ZIn _ hi;rw[ZIs,Nat.one_mul]at this;omega
 refine .sl b o n cap sz row .none (λi j=>vs.getD (o+i*sz+j) undef) ad (λi j hi hj=>?_) (λi j hi hj=>?_) (λi j d hi hd=>?_) (λi j hi hj=>one _ (ac i j hi hj)) trivial hcap hbig;rw[JU hh];exact u i j hi hj;have:=ab i j hi hj;omega;have hj:j<sz:=by rw[<-ad i hi];exact(List.getElem?_eq_some_iff.1 hd).1
 obtain⟨x,hx,ae⟩:=(hrow i hi).get hd;rw[ZII,if_pos hj,List.getElem?_drop]at hx;exact ae g w _ hf (hc _ _ x (u i j hi hj) hx)
def Z2.tup{t Ln l l'}(h:LdC t Ln l l'):Z2 t Ln (.tup l) (.tup l'):=by
 intro g w v hf hr;cases hr with
 |tup vs _ hn hc =>refine .tup vs _ (hn.trans h.len) (λi v d hv hd=>?_);obtain⟨x,hx,u⟩:=h.get hd;exact u g w v hf (hc i v x hv hx)
def Z2.iface{t Ln T d i}(h:Z2 t Ln d i):Z2 t Ln (.iface T d) (.iface T i):=by
 intro g w v u hr;cases hr with
 |iface _ v _ hv=>exact .iface T v i (h g w v u hv)
def Z2.sl{t}{Ln}{τ}{n sz}{row row'}(hrow:∀i,i<n->LdC t Ln (row i) (row' i)):Z2 t Ln (.sl τ n sz row) (.sl .none n sz row'):=by
 intro g w v hf hr;cases hr with
 |sl0 a _ _ _ _=>exact .sl0 a _ _ _ ψ
 |sl b o _ cap _ _ _ f hl hc hp hrr one ht hcap hb =>refine .sl b o n cap sz row' .none f (λi hi=>by rw[<-(hrow i hi).len];exact hl i hi) hc hp (λi j d hi hd=>?_) one trivial hcap hb;obtain⟨x,hx,u⟩:=(hrow i hi).get hd;exact u g w _ hf (hrr i j x hi hx)
def Z2.more{t Ln Ln' d i}(h:Z2 t Ln d i)(hs:∀b∈Ln,b∈Ln'):Z2 t Ln' d i:=λg w v hf hr=>h g w v (λb u=>hf b (hs b u)) hr
def LdC.more{t Ln Ln' l l'}(h:LdC t Ln l l')(i:∀b∈Ln,b∈Ln'):LdC t Ln' l l':=by
 induction h with
 |nil=>exact .nil
 |cons h _ ih=>exact .cons (h.more i) ih
def Yh.frz{g s w}(m:Yh g s w){Ln}(hL:∀b∈Ln,∃ds,s b=sO (.cells ds)):Yh (KF g s Ln) (s.delL Ln) w:=by
 have hx:=Jw m hL;have t:∀c,c∉Ln->(KF g s Ln).prot c=g.prot c:=λc u=>by simp[KF,if_neg u]
 refine⟨λc x i=>?_,λc x i=>?_,λc u=>?_,λn cs u=>(m.tabs n cs u).mono hx⟩;simp[St.delL]at i;by_cases u:c∈Ln;simp[u]at i;simp[u]at i;exact(m.obj c x i).mono hx rfl (t c u);simp[St.delL]at i;by_cases u:c∈Ln;simp[u]at i;simp[u]at i;exact m.kept c x i;have h1:=m.fresh c u;refine⟨(t c λh=>?_).trans h1.1,h1.2⟩;obtain⟨ds,hd⟩:=hL c h;have:=(m.obj c _ hd).lt;omega
def Za.frz{P f args s Φ d0}(h:Za P f args s Φ)(hp:∀r s',Φ r s'->∃d Ln,r=.ret d/\(∀b∈Ln,∃ds,s' b=sO (.cells ds))/\Z2 s' Ln d d0):Za P f args s λr _=>r=.ret d0:=by
 refine⟨h.1,λg w vs hs ha=>(h.2 g w vs hs ha).mono λe w' ⟨g',s',r,hx,i,hr,hΦ⟩=>?_⟩;obtain⟨d,Ln,rfl,u,t⟩:=hp r s' hΦ;refine⟨KF g' s' Ln,s'.delL Ln,.ret d0,hx.trans (Jw i u),i.frz u,?_,rfl⟩;cases e with
 |returned v=>exact t _ w' v (ZeQ i u) (Rep.mono hr (Jw i u))
 |_=>exact hr.elim
def rdL(f:V->Option V):List V->Option (List V)
 | []=>sO []
 |v::l=>match f v with
  |some r=>J5 r (rdL f l)
  |none=>nO
def Zd4(f:V->Option V)(s:Nat):List V->Option (List V)
 | []=>sO []
 |.agg cs::l=>match Nat.beq (I cs) s with
  |true=>match rdL f cs with
   |some r=>J5 (.agg r) (Zd4 f s l)
   |none=>nO
  |false=>nO
 |_::_=>nO
def Zfb(s:Nat):Nat->List V->Option (List V)
 |0,_=>sO []
 |n+1,l=>match Zbj s l with
  |some c=>J5 (.agg c) (Zfb s n (ZbD s l))
  |none=>nO
def rd(U:S):Nat->V->Option V
 |0,_=>nO
 |n+1,v=>match v with
  |.int k a=>sO (.int k a)
  |.bool b=>sO (.bool b)
  |.str s=>sO (.str s)
  |.nilsl=>sO .nilsl
  |.nilptr=>sO .nilptr
  |.nilmap=>sO .nilmap
  |.nilfn=>sO .nilfn
  |.niliface=>sO .niliface
  |.agg cs=>match rdL (rd U n) cs with
   |some r=>sO (.agg r)
   |none=>nO
  |.tup cs=>match rdL (rd U n) cs with
   |some r=>sO (.tup r)
   |none=>nO
  |.iface t x=>match rd U n x with
   |some r=>sO (.iface t r)
   |none=>nO
  |.sl _ m s rs=>match Nat.beq (I rs) m with
   |true=>match Zd4 (rd U n) s rs with
    |some r=>sO (.sl 0 m s r)
    |none=>nO
   |false=>nO
  |.msl k o m _ s=>match ZaY (U.get k) with
   |some vs=>match Zbj (m*s) (ZbD o vs) with
    |some cs=>match Zfb s m cs with
     |some rs=>match Zd4 (rd U n) s rs with
      |some r=>sO (.sl 0 m s r)
      |none=>nO
     |none=>nO
    |none=>nO
   |none=>nO
  |_=>nO
def dV:Nat->V->D
 |0,_=>.undef
 |n+1,v=>match v with
  |.int k a=>.int k a
  |.bool b=>.bool b
  |.str s=>.str (s.map UInt8.ofNat)
  |.nilsl=>.nilsl
  |.nilptr=>.nilptr
  |.nilmap=>.nilmap
  |.nilfn=>.nilfn
  |.niliface=>.niliface
  |.agg cs=>.agg (cs.map (dV n))
  |.tup cs=>.tup (cs.map (dV n))
  |.iface t x=>.iface t (dV n x)
  |.sl _ m s rs=>.sl .none m s λi=>match rs[i]? with
   |some (.agg cs)=>cs.map (dV n)
   |_=>[]
  |_=>.undef
def ZAW(n:Nat)(rs:List V)(i:Nat):List D:=match rs[i]? with
 |some (.agg cs)=>cs.map (dV n)
 |_=>[]
def Zv0{f}:∀{vs rs},rdL f vs=sO rs->I rs=I vs
 | [],rs,h=>by cases h;rfl
 |v::vs,rs,h=>by simp[rdL]at h;split at h<;>(try(grind;done));obtain⟨q,i,rfl⟩:=KN h;simp[Zv0 i]
def Zfz{U n}(ih:∀v r,rd U n v=sO r->∀J,VR J r (dV n r)):∀{vs rs},rdL (rd U n) vs=sO rs->∀J,VRs J rs (rs.map (dV n))
 | [],rs,h,J=>by cases h;exact .nil
 |v::vs,rs,h,J=>by simp[rdL]at h;split at h<;>(try(grind;done));rename_i r t;obtain⟨q,i,rfl⟩:=KN h;exact .cons _ _ _ _ (ih v r t J) (Zfz ih i J)
def Zg8{U n sz}(ih:∀v r,rd U n v=sO r->∀J,VR J r (dV n r)):∀{vs rs},Zd4 (rd U n) sz vs=sO rs->I rs=I vs/\∀J,VRr J sz rs (ZAW n rs)
 | [],rs,h=>by cases h;exact⟨rfl,λ_=>.nil _ _⟩
 |v::vs,rs,h=>by cases v<;>simp[Zd4]at h;split at h<;>(try(grind;done));rename_i i;rw[Z3]at i;split at h<;>(try(grind;done));rename_i r t;obtain⟨q,hq,rfl⟩:=KN h;obtain⟨u,h2⟩:=Zg8 ih hq;exact⟨by simp[u],λJ=>.cons _ _ _ _ (Zfz ih t J) (by rw[Zv0 t,i]) (h2 J)⟩
def Zn2{sz}:∀{m cs rs},Zfb sz m cs=sO rs->I rs=m
 |0,cs,rs,h=>by cases h;rfl
 |m+1,cs,rs,h=>by simp[Zfb]at h;split at h<;>(try(grind;done));obtain⟨q,hq,rfl⟩:=KN h;simp[Zn2 hq]
def ZlA{U}:∀(n v r),rd U n v=sO r->∀J,VR J r (dV n r)
 |0,v,r,h=>by simp[rd]at h
 |n+1,v,r,h=>λJ=>by
  have ih:=ZlA (U:=U) n;cases v<;>simp only[rd,ZH0,reduceCtorEq]at h;case int=>subst h;exact .int _ _
  case bool=>subst h;exact .bool _
  case str=>subst h;exact .str _
  case nilsl=>subst h;exact .nilsl
  case nilptr=>subst h;exact .nilptr
  case nilmap=>subst h;exact .nilmap
  case nilfn=>subst h;exact .nilfn
  case niliface=>subst h;exact .niliface
  case agg cs =>split at h<;>simp only[ZH0,reduceCtorEq]at h;rename_i q u;subst h;exact .agg _ _ (Zfz ih u J)
  case tup cs =>split at h<;>simp only[ZH0,reduceCtorEq]at h;rename_i q u;subst h;exact .tup _ _ (Zfz ih u J)
  case iface t x =>split at h<;>simp only[ZH0,reduceCtorEq]at h;rename_i q u;subst h;exact .iface _ _ _ (ih x q u J)
  case sl t m sz rs =>split at h<;>(try(simp only[reduceCtorEq]at h;done));rename_i hb;rw[Z3]at hb;split at h<;>simp only[ZH0,reduceCtorEq]at h;rename_i q u;subst h;obtain⟨h1,h2⟩:=Zg8 ih u;exact .sl _ _ _ _ _ _ (h2 J) (h1.trans hb) (.inl rfl)
  case msl k o m cap sz =>split at h<;>(try(simp only[reduceCtorEq]at h;done));split at h<;>(try(simp only[reduceCtorEq]at h;done));split at h<;>(try(simp only[reduceCtorEq]at h;done));rename_i rs i;split at h<;>simp only[ZH0,reduceCtorEq]at h;rename_i q u;subst h;obtain⟨h1,h2⟩:=Zg8 ih u;exact .sl _ _ _ _ _ _ (h2 J) (h1.trans (Zn2 i)) (.inl rfl)
def Zwr(J:Nm)(U:S)(s:St)(n:Nat):Prop:=∀v r d,rd U n v=sO r->VR J v d->∃Ln,(∀b∈Ln,∃ds,s b=sO (.cells ds))/\Z2 s Ln d (dV n r)
def ZhI{J U s n}(ih:Zwr J U s n):∀{vs rs ds},rdL (rd U n) vs=sO rs->VRs J vs ds ->
  ∃Ln,(∀b∈Ln,∃ds,s b=sO (.cells ds))/\LdC s Ln ds (rs.map (dV n))
 | [],rs,ds,h,hv=>by obtain rfl:=hv.inv0;cases h;exact⟨[],ψ,.nil⟩
 |v::vs,rs,ds,h,hv=>by obtain⟨d,ds',rfl,u,h2⟩:=hv.inv;simp[rdL]at h;split at h<;>(try(grind;done));rename_i r hr;obtain⟨q,hq,rfl⟩:=KN h;obtain⟨L1,a1,a2⟩:=ih v r d hr u;obtain⟨L2,i,t⟩:=ZhI ih hq h2;refine⟨L1++L2,λb hb=>?_,.cons (a2.more λb hb=>by simp[hb]) (t.more λb hb=>by simp[hb])⟩;rcases List.mem_append.1 hb with hb|hb;exact a1 b hb;exact i b hb
def Zkt{J}{U}{s}{n sz}(ih:Zwr J U s n):∀{vs rs} {row},Zd4 (rd U n) sz vs=sO rs->VRr J sz vs row ->
  ∃Ln,(∀b∈Ln,∃ds,s b=sO (.cells ds))/\∀i,i<I vs->LdC s Ln (row i) (ZAW n rs i)
 | [],rs,row,h,hv=>⟨[],ψ,ψ⟩
 |v::vs,rs,row,h,hv=>by
  obtain⟨cs,rfl,h1,h2,h3⟩:=hv.inv;simp[Zd4]at h;split at h<;>(try(grind;done));split at h<;>(try(grind;done));rename_i r hr;obtain⟨q,hq,rfl⟩:=KN h;obtain⟨L1,a1,a2⟩:=ZhI ih hr h1;obtain⟨L2,t,u⟩:=Zkt ih hq h3;refine⟨L1++L2,λb hb=>?_,λi hi=>?_⟩;rcases List.mem_append.1 hb with hb|hb;exact a1 b hb;exact t b hb;cases i with
  |zero=>exact a2.more λb hb=>by simp[hb]
  |succ i =>have:=u i (by simpa using hi);exact LdC.more this λb hb=>by simp[hb]
def ZqT{J sz}:∀{m cs rs ds},Zfb sz m cs=sO rs->VRs J cs ds->I rs=m/\VRr J sz rs λi=>(ds.drop (i*sz)).take sz
 |0,cs,rs,ds,h,hv=>by cases h;exact⟨rfl,.nil _ _⟩
 |m+1,cs,rs,ds,h,hv=>by
  simp[Zfb]at h;split at h<;>(try(grind;done));rename_i c hc;obtain⟨q,hq,rfl⟩:=KN h;obtain⟨c1,rfl⟩:=Zaj hc;rw[Ju]at hq;obtain⟨u,t⟩:=ZqT hq (hv.drop sz);refine⟨by simp[u],.cons _ _ _ _ (by simpa using hv.take sz) (by simp;omega) ?_⟩;have e:(λi=>((ds.drop sz).drop (i*sz)).take sz)=λi=>(ds.drop ((i+1)*sz)).take sz:=by funext i;rw[List.drop_drop,ZIs,Nat.one_mul,Nat.add_comm]
  rw[e]at t;exact t
def Zy5{J U s n}(ih:Zwr J U s n)(hS:Zst J U s){k b o m cap sz cv cs rs q}(hk:J k=sO (.tip b))(hcv:ZaY (U.get k)=sO cv)(t:Zbj (m*sz) (ZbD o cv)=sO cs)(hrs:Zfb sz m cs=sO rs)(hq:Zd4 (rd U n) sz rs=sO q):
  ∃Ln,(∀b∈Ln,∃ds,s b=sO (.cells ds))/\Z2 s Ln (.msl b o m cap sz) (.sl .none m sz (ZAW n q)):=by
 obtain⟨ds,ex,u,hv⟩:=hS _ _ _ hcv hk;rw[Ju]at t;obtain⟨c1,rfl⟩:=Zaj t;obtain⟨e1,e2⟩:=ZqT hrs ((hv.drop o).take (m*sz));obtain⟨L,a1,a2⟩:=Zkt ih hq e2;have hl:=hv.len;rw[ZIG,hl]at c1;refine⟨b::L,λc hc=>?_,Z2.mslo (ds:=ds++ex) ψ u (by rw[ZIc];omega) (λi hi=>?_)⟩;rcases List.mem_cons.1 hc with rfl|hc;exact⟨_,u⟩;exact a1 c hc;have h1:=a2 i ω;have hm:(i+1)*sz<=m*sz:=ZIn _ hi;rw[ZIs,Nat.one_mul]at hm;have e:((((ds.drop o).take (m*sz)).drop (i*sz)).take sz)=((ds++ex).drop (o+i*sz)).take sz:=by rw[List.drop_take,List.take_take,List.drop_drop,Nat.min_eq_left ω,List.drop_append,List.take_append_of_le_length (by rw[ZIG];omega)]
 rw[e]at h1;exact h1.more λb u=>by simp[u]
def Zso{J U s}(hS:Zst J U s):∀n,Zwr J U s n
 |0=>λv r d h _=>by simp[rd]at h
 |n+1=>λv r d h hv=>by
  have ih:=Zso hS n;have nn:∀b∈([]:List Nat),∃ds,s b=sO (.cells ds):=by simp
  cases hv<;>simp only[rd,ZH0,reduceCtorEq]at h;case int=>subst h;exact⟨[],nn,Z2.refl _⟩
  case bool=>subst h;exact⟨[],nn,Z2.refl _⟩
  case str=>subst h;exact⟨[],nn,Z2.refl _⟩
  case nilsl=>subst h;exact⟨[],nn,Z2.refl _⟩
  case nilptr=>subst h;exact⟨[],nn,Z2.refl _⟩
  case nilmap=>subst h;exact⟨[],nn,Z2.refl _⟩
  case nilfn=>subst h;exact⟨[],nn,Z2.refl _⟩
  case niliface=>subst h;exact⟨[],nn,Z2.refl _⟩
  case agg cs ds hc =>split at h<;>simp only[ZH0,reduceCtorEq]at h;rename_i q hq;subst h;obtain⟨L,a1,a2⟩:=ZhI ih hq hc;exact⟨L,a1,Z2.agg a2⟩
  case tup cs ds hc =>split at h<;>simp only[ZH0,reduceCtorEq]at h;rename_i q hq;subst h;obtain⟨L,a1,a2⟩:=ZhI ih hq hc;exact⟨L,a1,Z2.tup a2⟩
  case iface t x d hx =>split at h<;>simp only[ZH0,reduceCtorEq]at h;rename_i q hq;subst h;obtain⟨L,a1,a2⟩:=ih x q d hq hx;exact⟨L,a1,Z2.iface a2⟩
  case sl t m sz rs τ row hr hn ht =>split at h<;>(try(simp only[reduceCtorEq]at h;done));split at h<;>simp only[ZH0,reduceCtorEq]at h;rename_i q hq;subst h;obtain⟨L,a1,a2⟩:=Zkt ih hq hr;exact⟨L,a1,Z2.sl (λi hi=>a2 i ω)⟩
  case msl k b o m cap sz hk =>split at h<;>(try(simp only[reduceCtorEq]at h;done));rename_i cv ab;split at h<;>(try(simp only[reduceCtorEq]at h;done));rename_i cs u;split at h<;>(try(simp only[reduceCtorEq]at h;done));rename_i rs ac;split at h<;>simp only[ZH0,reduceCtorEq]at h;rename_i q hq;subst h;exact Zy5 ih hS hk ab u ac hq
  case gsl k b o m cap sz c hk _ _ _ =>split at h<;>(try(simp only[reduceCtorEq]at h;done));rename_i cv ab;split at h<;>(try(simp only[reduceCtorEq]at h;done));rename_i cs u;split at h<;>(try(simp only[reduceCtorEq]at h;done));rename_i rs ac;split at h<;>simp only[ZH0,reduceCtorEq]at h;rename_i q hq;subst h;exact Zy5 ih hS hk ab u ac hq
def ZAU(n:Nat):Option Out->Option V
 |some o=>match o.pan with
  |false=>rd o.U n o.v
  |true=>nO
 |none=>nO
def Zqd{J J' a}:∀{ks vs ds},Zat (Zfq a) ks vs=true->VRs J vs ds->VRs J' (ks.map (zV a)) ds
 | [],[],ds,_,hb=>by obtain rfl:=hb.inv0;exact .nil
 | [],_::_,ds,h,_=>by cases h
 |_::_,[],ds,h,_=>by cases h
 |x::ks,y::vs,ds,h,hb=>by simp only[Zat]at h;split at h<;>(try(grind;done));rename_i u;obtain⟨d,ds',rfl,i,t⟩:=hb.inv;exact .cons _ _ _ _ (ZyM a u i) (Zqd h t)
structure Zc8 where
 f:FuncId
 a:Nat
 n:Nat
 ks:List V
 r:V
def Zbr(P:Program)(k:Zc8):Prop:=∀(vs:List V) (J:Nm) (ds:List D),Zat (Zfq k.a) k.ks vs=true->VRs J vs ds->Zf P k.f ds (dV k.n k.r)/\VR J k.r (dV k.n k.r)
def Zls{C}(hlib:∀t,Q1 ⟨C,t⟩)(k){m}(h:ZAU k.n ((Zia C k.f).run (run C m) (k.ks.map (zV k.a)) T.nil 2)=sO k.r):Zbr C.P k:=by
 intro vs J ds hm hv;cases ho:(Zia C k.f).run (run C m) (k.ks.map (zV k.a)) T.nil 2 with
 |none=>rw[ho]at h;cases h
 |some o =>rw[ho]at h;simp[ZAU]at h;split at h<;>(try(grind;done));rename_i ab;have u:=Zo4 hlib (λC' ih he u=>Zv2 (by subst he;exact hlib _) u) m St.emp;have i:=Zm1 (C:=⟨C,St.emp⟩) (hlib _) u ho (Zqd hm hv) ZyS (ZA0 C nm0 St.emp);refine⟨ZnS (i.frz λr s hp=>?_),?_⟩;obtain⟨J',d',k1,k2,k3,k4,k5⟩:=hp;rw[ab]at k5;obtain⟨Ln,a1,a2⟩:=Zso (λ_ _ _ h hb=>k3.cells h hb) k.n o.v k.r d' h k4;exact⟨d',Ln,k5,a1,a2⟩;exact ZlA k.n o.v k.r h J
def Zqn(f:FuncId):List Zc8->List Zc8
 | []=>[]
 |k::l=>match Nat.beq f k.f with
  |true=>k::Zqn f l
  |false=>Zqn f l
def Zio:List Zc8->List V->Option V
 | [],_=>nO
 |k::l,vs=>match Zat (Zfq k.a) k.ks vs with
  |true=>sO k.r
  |false=>Zio l vs
def ZwN(ih:V->Bool):V->Bool
 |.int _ _=>true
 |.bool _=>true
 |.str _=>true
 |.nilsl=>true
 |.nilptr=>true
 |.nilmap=>true
 |.nilfn=>true
 |.niliface=>true
 |.agg cs=>cs.all ih
 |.tup cs=>cs.all ih
 |_=>false
def Zsh(n:Nat):V->Bool:=Nat.rec (motive:=λ_=>V->Bool) (λ_=>false) (λ_ ih=>ZwN ih) n
def ZvC{N m}:∀(n) {v},Zsh n v=true->SC N (dV m v)
 |0,v,h=>by cases h
 |n+1,v,h=>by
  have h':ZwN (Zsh n) v=true:=h;cases m with
  |zero=>exact .undef
  |succ m =>
   have i:∀{cs:List V},cs.all (Zsh n)=true->∀c∈cs.map (dV m),SC N c:=λ{cs} hc c hm=>by obtain⟨x,t,rfl⟩:=List.mem_map.1 hm;exact ZvC n (List.all_eq_true.1 hc x t)
   cases v<;>simp only[ZwN,ZIz]at h'<;>simp[dV];case int=>exact .int _ _
   case bool=>exact .bool _
   case str=>exact .str _
   case nilsl=>exact .nilsl
   case nilptr=>exact .nilptr
   case nilmap=>exact .nilmap
   case nilfn=>exact .nilfn
   case niliface=>exact .niliface
   case agg cs=>exact .agg _ (i h')
   case tup cs=>exact .tup _ (i h')
def ZAw(f0:FuncId)(K:List Zc8)(f:FuncId):Option (S->List V->Option V):=match Zqn f K with
 | []=>Zfn f0 f
 |k::l=>sO λU vs=>match Zio (k::l) vs with
  |some r=>sO r
  |none=>match rdL (rd U 40) vs with
   |some ws=>match Zio (k::l) ws with
    |some r=>noV (Zsh 40 r) (sO r)
    |none=>nO
   |none=>nO
def ZfD{f}:∀{K k},k∈Zqn f K->k∈K/\k.f=f
 | [],k,h=>by simp[Zqn]at h
 |x::K,k,h=>by simp only[Zqn]at h;split at h;rename_i i;rw[Z3]at i;rcases List.mem_cons.1 h with rfl|h;exact⟨ψ,i.symm⟩;exact⟨by simp[(ZfD h).1],(ZfD h).2⟩;exact⟨by simp[(ZfD h).1],(ZfD h).2⟩
def Zq4{vs v}:∀{K},Zio K vs=sO v->∃k∈K,Zat (Zfq k.a) k.ks vs=true/\v=k.r
 | [],h=>by simp[Zio]at h
 |x::K,h=>by simp only[Zio]at h;split at h;rename_i hm;simp only[ZH0]at h;exact⟨x,ψ,hm,h.symm⟩;obtain⟨k,i,t⟩:=Zq4 h;exact⟨k,by simp[i],t⟩
def Zy4{U n vs rs}(h:rdL (rd U n) vs=sO rs)(J):VRs J rs (rs.map (dV n)):=Zfz (λv r h J=>ZlA n v r h J) h J
def ZB1{P mu f0 K}(h0:∀t,Q1 ⟨⟨P,Zfn f0,mu⟩,t⟩)(hK:∀k∈K,Zbr P k)(t):Q1 ⟨⟨P,ZAw f0 K,mu⟩,t⟩:=by
 intro f g U vs v i hg J ds s hv hS;simp[ZAw]at i;split at i;exact h0 t f g U vs v i hg J ds s hv hS;rename_i k l hs;cases i;have ab:∀{ws:List V} {v:V},Zio (k::l) ws=sO v->∃k':Zc8,f=k'.f/\v=k'.r/\∀(J:Nm) (ds:List D),VRs J ws ds->Zf P k'.f ds (dV k'.n k'.r)/\VR J k'.r (dV k'.n k'.r):=λ{ws v} hk=>by obtain⟨k',h1,h2,rfl⟩:=Zq4 hk;rw[<-hs]at h1;obtain⟨h3,rfl⟩:=ZfD h1;exact⟨k',rfl,rfl,λJ ds hv=>hK k' h3 ws J ds h2 hv⟩
 simp only at hg;split at hg;rename_i r hr;cases hg;obtain⟨k',rfl,rfl,hk⟩:=ab hr;obtain⟨h4,h5⟩:=hk J ds hv;exact⟨_,h5,h4 s⟩;split at hg<;>(try(grind;done));rename_i ws u;split at hg<;>(try(grind;done));rename_i r hr;unfold noV at hg;split at hg<;>simp at hg;rename_i ac;subst hg;obtain⟨k',rfl,rfl,hk⟩:=ab hr;obtain⟨Ln,a1,a2⟩:=ZhI (Zso hS 40) u hv;obtain⟨h4,h5⟩:=hk J _ (Zy4 u J);refine⟨_,h5,(Za.lend a1 a2 (h4 _) ?_).mono ?_⟩;rintro r S ⟨rfl,rfl⟩;exact⟨ZvC 40 ac,λb o hb=>by simp at hb⟩;rintro r S ⟨S',⟨rfl,rfl⟩,_,rfl⟩;exact⟨rfl,rfl⟩
def LdC.le0{Ln l l'}(h:LdC St.emp Ln l l'):LeC l l':=by
 induction h with
 |nil=>exact .nil
 |cons h _ ih=>exact .cons (λg w v t=>h g w v (λb _ ds i=>by simp[St.emp]at i) t) ih
def Zrj{P}{k}(hc:Zf P k.f (k.ks.map (dV 40)) (dV k.n k.r))(i:rdL (rd T.nil 40) (k.ks.map (zV k.a))=sO k.ks)(t:rd T.nil k.n k.r=sO k.r):Zbr P k:=by
 intro vs J ds hm hv;obtain⟨Ln,_,a2⟩:=ZhI (s:=St.emp) (Zso (λ_ _ _ h u=>(ZA0 ⟨P,λ_=>nO,λ_ _=>false⟩ nm0 St.emp).cells h u) 40) i (Zqd (J':=nm0) hm hv);exact⟨hc.leA a2.le0,ZlA k.n k.r k.r t J⟩
end Go.DL
namespace Go.DL
open Go Go.Proofs
variable {kp:Option (List Nat)}{L:Loc}{H:Env}{s:St}{w:World}{os:List DOp}{ds:List D}{B:List (Nat × Rd)}{dst:Option Nat}{tmps:Array Value}{g:G}{Φ:Res->St->Prop}{Z:Nat->Nat}{xs:List Opd}{side:Prop}{row:Nat->List D}{vs:List V}
def Zj9(f:FuncId)(_:Option Nat):Bool:=Zg0 f [7,8,17,18,19,20,21,23,24,33,34,41,42,43,44,45,47,50,52,53,54,84,85,87,96,97,111,112,134,135,136,137,138,139,140,142,143,144,145,146,147,148,192,196]
def Zfm(t:St):Q1 ⟨⟨ZH1,Zfn 156,Zj9⟩,t⟩ :=
 ZB0 (n:=204) (by kernel_rfl) Tryz.func204 (by kernel_rfl) (by kernel_rfl) (by kernel_rfl) (by kernel_rfl) t
def ZDX:V:=.agg [.str [100],.sl 0 1 2 [.agg [.str [109],.sl 0 4 15 [.agg [.str [97],.i 1,.i 4,.bool false,.bool false,.i 0,.i 15,.i 0,.nilsl,.str [],.str [],.str [],.nilsl,.i 0,.i 0],.agg [.str [107],.i 2,.i 4,.bool false,.bool false,.i 5,.i 0,.i 0,.nilsl,.str [],.str [],.str [],.nilsl,.i 0,.i 0],.agg [.str [98],.i 5,.i 0,.bool false,.bool false,.i 0,.i 3,.i 0,.nilsl,.str [],.str [],.str [],.nilsl,.i 0,.i 0],.agg [.str [115],.i 11,.i 0,.bool false,.bool false,.i 0,.i 0,.i 0,.nilsl,.str [],.str [],.str [97],.nilsl,.i 1,.i 0]]]],.str [109]]
def kf0:Zc8:=⟨39,40,40,[ZDX],.bool true⟩
def kf1:Zc8:=⟨194,40,40,[.sl 0 1 1 [.agg [.str [97]]],.str [46]],.str [97]⟩
def kf2:Zc8:=⟨194,40,40,[.sl 0 1 1 [.agg [.str [98]]],.str [46]],.str [98]⟩
def kf3:Zc8:=⟨11,40,40,[.str [109,40,97,61,49,50,32,98,35,54,49,54,50,41]],.tup [.agg [.str [109],.i 0,.nilsl,.nilsl,.sl 0 2 5 [.agg [.str [97],.i 12,.nilsl,.nilsl,.nilsl],.agg [.str [98],.i 0,.sl 0 2 1 [.agg [.int .u8 97],.agg [.int .u8 98]],.nilsl,.nilsl]]],.i 0]⟩
def kf4:Zc8:=⟨11,40,40,[.str [109,40,97,61,49,54,32,98,41]],.tup [.agg [.str [109],.i 0,.nilsl,.nilsl,.sl 0 2 5 [.agg [.str [97],.i 16,.nilsl,.nilsl,.nilsl],.agg [.str [98],.i 0,.nilsl,.nilsl,.nilsl]]],.i 0]⟩
def ZvJ(l:List Str)(hn:I l<=100)(hj:(joinL l [46]).length<=1000)(hr:∀i,i<I l->row i=[.str (l.getD i dE)]){n:Nat}(u:n=I l){r:List UInt8}(t:r=joinL l [46]):Zf ZH1 194 [.sl .none n 1 row,.str [46]] (.str r):=by
 subst u;subst t;have h:ZY ZbZ row l:=hr;exact(Zc0 l ω ω).leA (LeC.two (h.le rfl) (ZH3 _))
def ZDJ:Zbr ZH1 kf1:=Zrj (ZvJ [[97]] (by decide) (by decide) (λi t=>by match i,t with|0,_=>rfl) rfl rfl) (by kernel_rfl) (by kernel_rfl)
def ZDK:Zbr ZH1 kf2:=Zrj (ZvJ [[98]] (by decide) (by decide) (λi t=>by match i,t with|0,_=>rfl) rfl rfl) (by kernel_rfl) (by kernel_rfl)
def ZDY:Zbr ZH1 kf0:=Zls (C:=⟨ZH1,Zfn 156,Zj9⟩) Zfm kf0 (m:=20000) (by kernel_rfl)
def ZDL:Zbr ZH1 kf3:=Zls (C:=⟨ZH1,Zfn 156,Zj9⟩) Zfm kf3 (m:=20000) (by kernel_rfl)
def ZDM:Zbr ZH1 kf4:=Zls (C:=⟨ZH1,Zfn 156,Zj9⟩) Zfm kf4 (m:=20000) (by kernel_rfl)
def ZBV:∀k∈([kf0,kf1,kf2,kf3,kf4]:List Zc8),Zbr ZH1 k:=by
 intro k i;simp only[ZIF,List.not_mem_nil,or_false]at i;rcases i with rfl|rfl|rfl|rfl|rfl;exact ZDY;exact ZDJ;exact ZDK;exact ZDL;exact ZDM
def Zqa:Zf ZH1 5 [] (.bool true):=ZCy (C:=⟨ZH1,ZAw 156 [kf0,kf1,kf2,kf3,kf4],Zj9⟩) (ZB1 Zfm ZBV) (m:=100000) (by kernel_rfl)
end Go.DL
