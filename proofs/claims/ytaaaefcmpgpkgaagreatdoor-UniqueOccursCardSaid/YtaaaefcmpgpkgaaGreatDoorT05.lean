/- Lemmas: EvC, EvD, EvE, EvF, EvG, EvH, EvI, EvJ, EvK, EvL, EvM, EvN, EvO, EvP, EvQ, EvS, EvT, EvU, EvV, EvW, EvR, EvY, EvZ, EvLib, EvZa, EvZb, K22a, K22b, K22c. -/
import Derived.Test.YtaaaefcmpgpkgaaGreatDoorT04
set_option maxHeartbeats 16000000
set_option linter.all false
open And renaming intro → ZvI
open Bool renaming and_eq_true → ZvN, or_eq_true → ZvW, true_and → ZvU
open Go.DL.D.Le renaming refl → ZvM
open Go.DL.St renaming sub_refl → ZvK, upd_ne → ZvP, upd_same → ZvQ, upd_upd → ZvV
open Go.Proofs.Tryz renaming prog → ZvJ
open List renaming length_append → ZvT
open Nat renaming le_refl → ZvR
open Option renaming map_eq_some_iff → ZvO
open Option.some renaming injEq → ZvD
open Prod.mk renaming injEq → ZvL
namespace Go.DL
open Go
variable [Znt]
def ZqL (T:Tab) (ms:List Nat):Nat→List Nat→List Nat→List Nat × List (Nat × List Nat) × List Nat
 | 0,rest,_=>(rest,[],[])
 | n + 1,rest,A =>
  let rdy:=rest.filter fun i=>(T.deps i).all fun d=>!rest.contains d
  let free:=fun (i:Nat) (A:List Nat)=>A.filter fun a=>!(ms.getD i 0).testBit a
  let fl:=fun (i:Nat) (A:List Nat) (l:List (Nat × List Nat))=>match (free i A).filter fun a=>Kg (T.op a).k with
   | []=>l
   | as9=>(i,as9.map fun a=>Zbl (T.op a)) :: l
  match rdy.find? fun i=>ZbX T A i && A.all fun a=>(ms.getD i 0).testBit a || nd (T.op a).dst (ZN (T.op i)) with
  | some i=>match ZqL T ms n (rest.erase i) (i :: A) with
   | (od,f,k)=>(i :: od,f,k)
  | none=>match rdy with
   | []=>(rest,[],[])
   | [i]=>match ZqL T ms n (rest.erase i) (free i A) with
    | (od,f,k)=>(i :: od,fl i A f,k)
   | i :: j :: _=>match ZqL T ms n ((rest.erase i).erase j) (free j (free i A)) with
    | (od,f,k)=>(i :: j :: od,fl i A (fl j A f),i :: k)
def Zjo:List Nat:=List.range 32768
def Zvy (P:Program) (N id:Nat) (ops:Array Oper):Ann :=
 match Zax P N ops (List.range ops.size) with
 | some l =>
  let ds:=ops.toList.map Za0
  match ZqL (l.zip ds) (Zgu ds []) ops.size (List.range ops.size) [] with
  | (od,fl,fk)=>(id + 1000000,od) :: (id,Zjo) :: (fl.map (fun x=>(id + 1000000 * (x.1 + 4),x.2))++(match fk with
   | []=>[]
   | _ :: _=>[(id + 3000000,fk)]))
 | none=>[]
def Zfb (P:Program) (N:Nat):Code→Ann
 | .region id ops true=>Zvy P N id ops
 | .seq a b=>Zfb P N a++Zfb P N b
 | .cond _ a b=>Zfb P N a++Zfb P N b
 | .block _ a=>Zfb P N a
 | .loop a=>Zfb P N a
 | .scope a=>Zfb P N a
 | .rangeFunc _ _ a b=>Zfb P N a++Zfb P N b
 | _=>[]
def Zvx (P:Program) (f:FuncId):Ann :=
 match P.funcs[f]? with
 | some fn=>match fn.body with
  | some c=>Zfb P fn.ntmps c
  | none=>[]
 | none=>[]
structure Cx where
 P:Program
 lib:FuncId→Option (S→List V→Option V)
 mu:FuncId→Option Nat→Bool
def Cx.an (C:Cx) (f:FuncId):Ann:=Zvx C.P f
def Cx.df (C:Cx) (f:FuncId):Option DF:=cf C.P (C.an f) f
inductive Dd where
 | mark (q:Nat)
 | fn (i:FuncId) (args caps:List V)
inductive Fk where
 | fn (res:List RV)
 | rnd (l:Nat)
 | dfd (pd:Option V) (rec:Bool)
structure Fm where
 f:FuncId
 n:Nat
 k:Fk
 ds:List Dd
structure Out where
 pan:Bool
 v:V
 σ:S
 nx:Nat
abbrev Ih:=Fm→List Zp→T W→S→Nat→Option Out
def wV:Option W→Option V
 | some w=>match w with
  | .v x=>some x
  | _=>none
 | none=>none
def WA:Opd→Bx (T W→Option V)
 | .cst d=>match ofD d with
  | some v=>⟨fun _=>some v⟩
  | none=>⟨fun _=>none⟩
 | .tmp t=>⟨fun ρ=>wV ((T.getF t).run ρ)⟩
def ZbD:List Opd→Bx (T W→Option (List V))
 | []=>⟨fun _=>some []⟩
 | x :: xs=>⟨fun ρ=>match (WA x).run ρ with
  | some v=>match (ZbD xs).run ρ with
   | some vs=>some (v :: vs)
   | none=>none
  | none=>none⟩
def Zhs:Option (Nat × Bool)→Bx (T W→Option Bool)
 | none=>⟨fun _=>some true⟩
 | some (t,want)=>⟨fun ρ=>match (T.getF t).run ρ with
  | some w=>match w with
   | .v x=>match x with
    | .bool b=>some (Zbg b want)
    | _=>none
   | .skip=>some false
   | _=>none
  | none=>none⟩
def Zct:Option Nat→Bx (T W→W→T W)
 | some t=>⟨fun ρ w=>(T.setF t).run (some w) ρ⟩
 | none=>⟨fun ρ _=>ρ⟩
def ZfL:Opd→Bx (T W→Bool)
 | .cst d=>match d with
  | .bool _=>⟨fun _=>true⟩
  | _=>⟨fun _=>false⟩
 | .tmp t=>⟨fun ρ=>match (T.getF t).run ρ with
  | some w=>match w with
   | .v x=>match x with
    | .bool _=>true
    | _=>false
   | .skip=>true
   | _=>false
  | none=>false⟩
def ZkD:Nat→List V→T W→T W
 | _,[],ρ=>ρ
 | i,v :: vs,ρ=>ZkD (i + 1) vs (ρ.set (some (.v v)) i)
def Zeq:List Nat→List V→T W→T W
 | t :: ts,a :: as9,ρ=>Zeq ts as9 (ρ.set (some (.v a)) t)
 | _,_,ρ=>ρ
def Zfi (zero:List V) (ps:List (Nat × V)) (i:Nat):List V :=
 match ps with
 | []=>zero
 | (k,d) :: r=>if Nat.beq k i then ZeI d else Zfi zero r i
def Ziv (zero:List V) (ps:List (Nat × V)):Nat→Nat→List V
 | 0,_=>[]
 | n + 1,i=>.agg (Zfi zero ps i) :: Ziv zero ps n (i + 1)
def Zeo (s:Nat):List V→Bool
 | []=>true
 | d :: r=>ZgP d && Nat.beq (ZeI d).length s && Zeo s r
def ZfZ (z:List V):Nat→List V
 | 0=>[]
 | n + 1=>z++ZfZ z n
def u8V (l:List Nat):List V:=l.map fun m=>.agg [.int .u8 (Int.ofNat (m % 256))]
def Ztw (σ:S) (s:Nat):V→Option (Nat × List V)
 | .nilsl=>some (0,[])
 | .sl _ m s' rs=>noV (Nat.beq s' s) (some (m,rs))
 | .str l=>noV (Nat.beq s 1) (some (l.length,u8V l))
 | .msl b o n _ s'=>match Zak (σ.get b) with
  | some cs=>noV (Nat.beq s' s && Nat.ble (o + n * s) cs.length) (match ZqX s n (ZbF o cs) with
   | some rs=>some (n,rs)
   | none=>none)
  | none=>none
 | _=>none
def ZlO (σ:S) (t k:Nat):Option S :=
 if Nat.beq t 1 then some σ else match σ.get t with
  | some (.tok m)=>noV (Nat.beq m k) (some (σ.set none t))
  | _=>none
def Zbz (σ:S) (a:V) (n:Nat) (xs:List V):Option S :=
 match a with
 | .ptr b o=>match σ.get b with
  | some (.cells cs)=>match Zh1 o n xs cs with
   | some cs'=>some (σ.set (some (.cells cs')) b)
   | none=>none
  | some (.buf cs)=>match Zh1 o n xs cs with
   | some cs'=>some (σ.set (some (.buf cs')) b)
   | none=>none
  | _=>none
 | _=>none
structure R3 where
 v:V
 σ:S
 nx:Nat
def Zd6 (s:Nat) (σ:S) (nx m:Nat) (cs:List V):Option R3:=some ⟨.msl nx 0 m none s,σ.set (some (.buf cs)) nx,nx + 2⟩
def Zj9 (s bytes:Nat) (σ:S) (nx m:Nat) (rs:List V):Option R3 :=
 noV (Nat.ble (m * bytes) 140737488355328 && Nat.ble m big) <| match Zir s m rs with
  | some cs=>Zd6 s σ nx m cs
  | none=>none
def Zka (s bytes:Nat) (σ:S) (nx t n m:Nat) (rs rs2:List V):Option R3 :=
 noV (Nat.ble ((n + m) * bytes) 140737488355328 && Nat.ble (n + m) big) <| match ZlO σ t (n * s) with
  | some σ'=>some ⟨.sl nx (n + m) s (Zlk n rs rs2),σ'.set (some (.tok ((n + m) * s))) nx,nx + 1⟩
  | none=>none
def Zll (mu:Bool) (s bytes:Nat) (σ:S) (nx:Nat) (x:V) (m:Nat) (rs2:List V):Option R3 :=
 match x with
 | .nilsl=>if mu && Nat.ble 1 m then Zj9 s bytes σ nx m rs2 else Zka s bytes σ nx 1 0 m [] rs2
 | .sl t n s' rs=>noV (Nat.beq s' s) <| if mu && Nat.ble 1 m && Nat.beq t 1 && Nat.beq n 0 then Zj9 s bytes σ nx m rs2 else Zka s bytes σ nx t n m rs rs2
 | .msl b o n cap s'=>noV (Nat.beq s' s && Nat.ble ((n + m) * bytes) 140737488355328 && Nat.ble (n + m) big) <| match Zir s m rs2 with
  | some cs2=>match cap with
   | none=>match σ.get b with
    | some (.buf cs)=>noV (Nat.beq o 0) <| match Zbe (n * s) cs with
     | some c1=>Zd6 s (σ.set none b) nx (n + m) (Zlk (n * s) c1 cs2)
     | none=>none
    | _=>none
   | some cap=>match σ.get b with
    | some (.cells cs)=>if Nat.ble (n + m) cap then noV (Nat.beq o 0) <| match Zh1 (n * s) (m * s) cs2 cs with
      | some cs'=>some ⟨.msl b 0 (n + m) (some cap) s,σ.set (some (.cells cs')) b,nx⟩
      | none=>none
     else noV (Nat.ble (o + n * s) cs.length) <| match Zbe (n * s) (ZbF o cs) with
      | some c1=>Zd6 s σ nx (n + m) (Zlk (n * s) c1 cs2)
      | none=>none
    | _=>none
  | none=>none
 | _=>none
def gk:K→Bool
 | .q _ _=>true
 | .pick _ _ _=>true
 | .bsl _ _ _ _ _=>true
 | .s2b _=>true
 | .append ..=>true
 | .clear ..=>true
 | _=>false
def mp2 (x:Option V) (f:V→Option R3):Option R3:=match x with
 | some v=>f v
 | none=>none
def up (x:Option S) (v:V) (nx:Nat):Option R3:=match x with
 | some σ=>some ⟨v,σ,nx⟩
 | none=>none
def Zvl:K→Bool
 | .store1 _ _=>true
 | .storeN _ _ _=>true
 | .mkmap=>true
 | _=>false
def opF (mu dst:Bool):K→Bx (T W→S→Nat→Option R3)
 | .q q xs=>⟨fun ρ σ nx=>match (ZbD xs).run ρ with
  | some vs=>match (Bx.mk (qV q)).run σ vs with
   | some v=>some ⟨v,σ,nx⟩
   | none=>none
  | none=>none⟩
 | .pick c a b=>⟨fun ρ σ nx=>mp2 ((WA c).run ρ) fun x=>match x with
  | .bool v=>match v with
   | true=>noV ((ZfL b).run ρ) (mp2 ((WA a).run ρ) fun y=>match y with
    | .bool y=>some ⟨.bool y,σ,nx⟩
    | _=>none)
   | false=>noV ((ZfL a).run ρ) (mp2 ((WA b).run ρ) fun y=>match y with
    | .bool y=>some ⟨.bool y,σ,nx⟩
    | _=>none)
  | _=>none⟩
 | .alloc z=>match ofDs z with
  | some z=>⟨fun _ σ nx=>noV dst (some ⟨.ptr nx 0,σ.set (some (.cells z)) nx,nx + 1⟩)⟩
  | none=>⟨fun _ _ _=>none⟩
 | .box x=>⟨fun ρ σ nx=>noV dst (mp2 ((WA x).run ρ) fun v=>noV (ZgP v) (some ⟨.ptr nx 0,σ.set (some (.cells (ZeI v))) nx,nx + 1⟩))⟩
 | .bsl len n z is xs=>match ofDs z with
  | some z=>⟨fun ρ σ nx=>match (ZbD xs).run ρ with
   | some vs=>noV (Zeo n vs && Nat.beq z.length n) (if mu && dst && Nat.ble 1 len then match Zir n len (Ziv z (is.zip vs) len 0) with
     | some cs=>some ⟨.msl nx 0 len (some len) n,σ.set (some (.cells cs)) nx,nx + 1⟩
     | none=>none
    else some ⟨.sl 1 len n (Ziv z (is.zip vs) len 0),σ,nx⟩)
   | none=>none⟩
  | none=>⟨fun _ _ _=>none⟩
 | .s2b x=>⟨fun ρ σ nx=>mp2 ((WA x).run ρ) fun v=>match v with
  | .str l=>some ⟨.sl 0 l.length 1 (u8V l),σ,nx⟩
  | _=>none⟩
 | .store1 a v=>⟨fun ρ σ nx=>noV (!dst) (mp2 ((WA a).run ρ) fun a=>mp2 ((WA v).run ρ) fun x=>noV (Zna x) (up (Zbz σ a 1 [x]) .nilsl nx))⟩
 | .storeN n a v=>⟨fun ρ σ nx=>noV (!dst) (mp2 ((WA a).run ρ) fun a=>mp2 ((WA v).run ρ) fun x=>match x with
  | .agg xs=>up (Zbz σ a n xs) .nilsl nx
  | _=>none)⟩
 | .mkmap=>⟨fun _ σ nx=>noV dst (some ⟨.map nx,σ.set (some (.map [])) nx,nx + 1⟩)⟩
 | .mkslice _ n bytes z l h=>match ofDs z with
  | some z=>⟨fun ρ σ nx=>noV dst (mp2 ((WA l).run ρ) fun l=>mp2 ((WA h).run ρ) fun h=>match l with
   | .int _ l=>match h with
    | .int _ h=>noV (leI 0 l && leI l h && leI (Int.mul bytes h) 140737488355328 && leI h big) (some ⟨.msl nx 0 l.toNat (some h.toNat) n,σ.set (some (.cells (ZfZ z h.toNat))) nx,nx + 1⟩)
    | _=>none
   | _=>none)⟩
  | none=>⟨fun _ _ _=>none⟩
 | .mapupd kp m k v=>⟨fun ρ σ nx=>noV (!dst) (mp2 ((WA m).run ρ) fun m=>mp2 ((WA k).run ρ) fun k=>mp2 ((WA v).run ρ) fun v=>match m with
  | .map b=>match σ.get b with
   | some (.map es)=>noV (Zdz kp k k).isSome (match ZlR kp k v es with
    | some es'=>some ⟨.nilsl,σ.set (some (.map es')) b,nx⟩
    | none=>none)
   | _=>none
  | _=>none)⟩
 | .delete kp m k=>⟨fun ρ σ nx=>noV (!dst) (mp2 ((WA m).run ρ) fun m=>mp2 ((WA k).run ρ) fun k=>match m with
  | .map b=>match σ.get b with
   | some (.map es)=>noV (Zdz kp k k).isSome (match ZnX kp k es with
    | some es'=>some ⟨.nilsl,σ.set (some (.map es')) b,nx⟩
    | none=>none)
   | _=>none
  | _=>none)⟩
 | .mapent kp z m k=>match ofD z with
  | some z=>⟨fun ρ σ nx=>noV dst (mp2 ((WA m).run ρ) fun m=>mp2 ((WA k).run ρ) fun k=>match m with
   | .map b=>match σ.get b with
    | some (.map es)=>noV (Zdz kp k k).isSome (match Zn3 kp k z es with
     | some v=>some ⟨.tup [v,.stamp nx],σ.set (some (.mapE kp es k nx)) b,nx + 1⟩
     | none=>none)
    | _=>none
   | _=>none)⟩
  | none=>⟨fun _ _ _=>none⟩
 | .entst m st v=>⟨fun ρ σ nx=>noV (!dst) (mp2 ((WA m).run ρ) fun m=>mp2 ((WA st).run ρ) fun st=>mp2 ((WA v).run ρ) fun v=>match m with
  | .map b=>match st with
   | .stamp n=>match σ.get b with
    | some (.mapE kp es k n')=>noV (Nat.beq n n') (match ZlR kp k v es with
     | some es'=>some ⟨.nilsl,σ.set (some (.map es')) b,nx⟩
     | none=>none)
    | _=>none
   | _=>none
  | _=>none)⟩
 | .clear s z x=>match ofDs z with
  | some z=>⟨fun ρ σ nx=>mp2 ((WA x).run ρ) fun x=>match x with
   | .msl b o n _ s'=>noV (Nat.beq s' s) (up (Zbz σ (.ptr b o) (n * s) (ZfZ z n)) (.tup []) nx)
   | _=>none⟩
  | none=>⟨fun _ _ _=>none⟩
 | .fork k=>match Zvl k with
  | true=>opF mu dst k
  | false=>⟨fun _ _ _=>none⟩
 | .append _ s bytes _ x y=>⟨fun ρ σ nx=>mp2 ((WA x).run ρ) fun x=>mp2 ((WA y).run ρ) fun y=>match Ztw σ s y with
  | some (m,rs2)=>Zll mu s bytes σ nx x m rs2
  | none=>none⟩
 | _=>⟨fun _ _ _=>none⟩
def rvV (ρ:T W) (σ:S):RV→Option V
 | .tmp t=>(WA (.tmp t)).run ρ
 | .cell1 t=>match (WA (.tmp t)).run ρ with
  | some a=>qV .load1 σ [a]
  | none=>none
 | .cellN t n=>match (WA (.tmp t)).run ρ with
  | some a=>qV (.loadN n) σ [a]
  | none=>none
def ZlG (ρ:T W) (σ:S):List RV→Option (List V)
 | []=>some []
 | r :: rs=>match rvV ρ σ r with
  | some v=>match ZlG ρ σ rs with
   | some vs=>some (v :: vs)
   | none=>none
  | none=>none
def mkV:List V→V
 | [v]=>v
 | vs=>.tup vs
def ZmT (C:Cx) (f:FuncId):Bx (Ih→List V→S→Nat→Option Out) :=
 match C.df f with
 | some df=>⟨fun ih args σ nx=>ih ⟨f,df.n,.fn df.res,[]⟩ [.code df.body] (ZkD 0 args T.nil) σ nx⟩
 | none=>⟨fun _ _ _ _=>none⟩
def Zin (C:Cx) (f:FuncId):Bx (Ih→List V→S→Nat→Option Out) :=
 match C.lib f with
 | some g=>⟨fun ih args σ nx=>match g σ args with
  | some v=>some ⟨false,v,σ,nx⟩
  | none=>(ZmT C f).run ih args σ nx⟩
 | none=>ZmT C f
def Zkc (C:Cx) (ih:Ih) (f:V) (args:List V) (σ:S) (nx:Nat):Option Out :=
 match f with
 | .fn f first caps=>(Zin C f).run ih (first++(args++caps)) σ nx
 | .yield l=>match σ.get l with
  | some (.loop f n ps a b ρ none false)=>noV (Nat.beq args.length ps.length) (ih ⟨f,n,.rnd l,[]⟩ [.code a,.beginR,.code b] (Zeq ps args ρ) σ nx)
  | _=>none
 | _=>none
def ZqW:V→Bool
 | .int k n=>ZqA k n
 | .bool _=>true
 | .str l=>Nat.ble l.length big
 | .nilsl=>true
 | .nilptr=>true
 | .ptr _ _=>true
 | .map _=>true
 | .nilmap=>true
 | .nilfn=>true
 | .niliface=>true
 | _=>false
def ZiC:List V→Bool
 | []=>true
 | v :: r=>ZqW v && ZiC r
def ZqV:Option V→Bool
 | some x=>match x with
  | .iface _ v=>match v with
   | .agg cs=>ZiC cs
   | v=>ZqW v
  | _=>false
 | none=>true
def Zia (C:Cx) (ih:Ih):List Dd→Option V→S→Nat→Option (Option V × S × Nat)
 | [],m,σ,nx=>some (m,σ,nx)
 | .mark q :: r,m,σ,nx=>match σ.get q with
  | some .dfr=>Zia C ih r m (σ.set none q) nx
  | _=>none
 | .fn i args caps :: r,m,σ,nx=>match C.df i with
  | some ⟨n,[],body⟩=>noV (ZqV m) <| match ih ⟨i,n,.dfd m false,[]⟩ [.code body] (ZkD 0 (args++caps) T.nil) σ nx with
   | some ⟨false,.bool b,σ',nx'⟩=>Zia C ih r (if b then none else m) σ' nx'
   | _=>none
  | _=>none
def loopTo (σ:S) (l:Nat) (st:Option DC) (now busy:Bool):Option S :=
 match σ.get l with
 | some (.loop f n ps a b ρ none bs)=>noV (bs == now) (some (σ.set (some (.loop f n ps a b ρ st busy)) l))
 | _=>none
def ZqU (C:Cx) (ih:Ih) (fm:Fm) (ρ:T W) (σ:S) (nx:Nat) (fell:Bool):Option Out :=
 match fm.k with
 | .fn res=>match Zia C ih fm.ds none σ nx with
  | some (none,σ',nx')=>match ZlG ρ σ' res with
   | some vs=>some ⟨false,mkV vs,σ',nx'⟩
   | none=>none
  | _=>none
 | .rnd l=>match loopTo σ l (if fell then none else some .ret) true false with
  | some σ'=>some ⟨false,.bool fell,σ',nx⟩
  | none=>none
 | .dfd pd rec=>match fm.ds with
  | []=>some ⟨false,.bool (pd.isNone || rec),σ,nx⟩
  | _=>none
def ZjG (C:Cx) (ih:Ih) (fm:Fm) (ρ:T W) (v:V) (σ:S) (nx:Nat):Option Out :=
 match fm.k with
 | .fn res=>match Zia C ih fm.ds (some v) σ nx with
  | some (none,σ',nx')=>match ZlG ρ σ' res with
   | some vs=>some ⟨false,mkV vs,σ',nx'⟩
   | none=>none
  | some (some v,σ',nx')=>some ⟨true,v,σ',nx'⟩
  | none=>none
 | .rnd _=>match C.P.funcs[fm.f]? with
  | some _=>some ⟨true,v,σ,nx⟩
  | none=>none
 | .dfd _ _=>none
abbrev Rg:=Ih→List Zp→Fm→T W→S→Nat→Option Out
def goF (C:Cx) (f:FuncId) (rest:Bx Rg) (dst:Option Nat) (g:Option (Nat × Bool)) (k:K):Bx Rg :=
 match k with
 | .call fx xs=>⟨fun ih dk fm ρ σ nx=>match (WA fx).run ρ with
  | some fv=>match (ZbD xs).run ρ with
   | some vs=>match Zkc C ih fv vs σ nx with
    | some ⟨pan,v,σ',nx'⟩=>match pan with
     | false=>rest.run ih dk fm ((Zct dst).run ρ (.v v)) σ' nx'
     | true=>ZjG C ih fm ρ v σ' nx'
    | none=>none
   | none=>none
  | none=>none⟩
 | .panic x=>⟨fun ih _ fm ρ σ nx=>match (WA x).run ρ with
  | some (.iface t v)=>ZjG C ih fm ρ (.iface t v) σ nx
  | _=>none⟩
 | .defer fx xs=>match g,dst with
  | none,none=>⟨fun ih dk fm ρ σ nx=>match (WA fx).run ρ,(ZbD xs).run ρ with
   | some (.fn j first caps),some vs=>match fm.k with
    | .fn _=>noV (ZiC (first++vs) && ZiC caps) (rest.run ih dk { fm with ds:=.fn j (first++vs) caps :: fm.ds } ρ σ nx)
    | _=>none
   | _,_=>none⟩
  | _,_=>⟨fun _ _ _ _ _ _=>none⟩
 | .recover=>match g with
  | none=>⟨fun ih dk fm ρ σ nx=>match fm.k with
   | .dfd (some v) false=>rest.run ih dk { fm with k:=.dfd (some v) true } ((Zct dst).run ρ (.v v)) σ nx
   | .dfd none _=>rest.run ih dk fm ((Zct dst).run ρ (.v .niliface)) σ nx
   | _=>none⟩
  | _=>⟨fun _ _ _ _ _ _=>none⟩
 | k=>match gk k || g.isNone with
  | true=>⟨fun ih dk fm ρ σ nx=>match (opF (C.mu f dst) dst.isSome k).run ρ σ nx with
   | some ⟨v,σ',nx'⟩=>rest.run ih dk fm ((Zct dst).run ρ (.v v)) σ' nx'
   | none=>none⟩
  | false=>⟨fun _ _ _ _ _ _=>none⟩
def ZlF (C:Cx) (f:FuncId):List DOp→Bx Rg
 | []=>⟨fun ih dk fm ρ σ nx=>ih fm dk ρ σ nx⟩
 | ⟨dst,g,k⟩ :: os=>match g with
  | none=>goF C f (ZlF C f os) dst g k
  | some _=>⟨fun ih dk fm ρ σ nx=>match (Zhs g).run ρ with
   | some b=>match b with
    | true=>(goF C f (ZlF C f os) dst g k).run ih dk fm ρ σ nx
    | false=>(ZlF C f os).run ih dk fm ((Zct dst).run ρ .skip) σ nx
   | none=>none⟩
def ZhA:K→Bool
 | .fork _=>false
 | _=>true
structure Rl where
 cs:List (Nat × List V)
 ad:List (Nat × Nat × Nat)
 bn:List (Nat × Nat)
 bl:List (Nat × Nat)
def Rl.nil:Rl:=⟨[],[],[],[]⟩
def Zgi (u:Nat):List (Nat × Nat × Nat)→Option (Nat × Nat)
 | []=>none
 | (t,a) :: r=>if Nat.beq t u then some a else Zgi u r
def Qk (l:Nat):List (Nat × List V)→Option (List V)
 | []=>none
 | (t,c) :: r=>if Nat.beq t l then some c else Qk l r
def Zh0 (l:Nat) (vs:List V):List (Nat × List V)→List (Nat × List V)
 | []=>[]
 | (t,c) :: r=>if Nat.beq t l then (t,vs) :: r else (t,c) :: Zh0 l vs r
def Zfj (n:Nat):List Nat→Bool
 | []=>false
 | a :: r=>if Nat.beq a n then true else Zfj n r
def ZsF (n:Nat) (l:List Nat):List Nat:=if Zfj n l then l else n :: l
def ZjN (fl:List Nat):List (Nat × Nat)→List Nat
 | []=>[]
 | (t,n) :: r=>if Zfj t fl then ZsF n (ZjN fl r) else ZjN fl r
def ZeV (fl:List Nat):List (Nat × Nat)→List (Nat × Nat)
 | []=>[]
 | (t,n) :: r=>if Zfj t fl then (t,n) :: ZeV fl r else ZeV fl r
def noA (u:Nat) (r:Rl):Bool:=match Zgi u r.ad with
 | none=>Nat.blt u 32768
 | some _=>false
def ZdM (dst:Option Nat) (r:Rl):Bool:=match dst with
 | none=>true
 | some t=>noA t r
def ZqJ (t:Nat) (r:Rl):Bool:=(match Qk t r.cs with
 | none=>true
 | some _=>false) && noA t r
def JV (fl:List Nat) (r:Rl):Rl:=match fl with
 | []=>⟨r.cs,r.ad,[],[]⟩
 | fl=>⟨r.cs,r.ad,ZeV fl r.bn,ZeV fl r.bl⟩
def ZfQ:O→Bool
 | .cells _=>true
 | .buf _=>true
 | .map _=>true
 | _=>false
def Zgx:List Nat→S→Option (S × List (Nat × O))
 | [],σ=>some (σ,[])
 | k :: r,σ=>match σ.get k with
  | some o=>match ZfQ o with
   | true=>match Zgx r (σ.set (some (.ro o)) k) with
    | some (σ',l)=>some (σ',(k,o) :: l)
    | none=>none
   | false=>match ZaW o with
    | true=>Zgx r σ
    | false=>none
  | none=>none
def ZeQ:List (Nat × O)→S→Option S
 | [],σ=>some σ
 | (k,o) :: r,σ=>match σ.get k with
  | some (.ro _)=>match ZeQ r σ with
   | some σ'=>some (σ'.set (some o) k)
   | none=>none
  | _=>none
def ZlC (fl:List Nat) (r:Rl) (σ:S):Option (S × List (Nat × O)):=match fl with
 | []=>some (σ,[])
 | fl=>Zgx (ZjN fl r.bn) σ
def Zdu:Opd→Rl→Option (Nat × Nat)
 | .tmp t,r=>Zgi t r.ad
 | .cst _,_=>none
def ZtB (t:Nat) (v:V) (r:Rl):Rl:=match v with
 | .ptr k _=>⟨r.cs,r.ad,(t,k) :: r.bn,r.bl⟩
 | .msl k _ _ _ _=>⟨r.cs,r.ad,(t,k) :: r.bn,r.bl⟩
 | .map k=>⟨r.cs,r.ad,(t,k) :: r.bn,r.bl⟩
 | _=>r
def rdR (t:Nat) (k:K):Bx (T W→Rl→Rl):=match k with
 | .q q xs=>match Kg (.q q xs) with
  | true=>match xs with
   | x :: _=>⟨fun ρ r=>match (WA x).run ρ with
    | some v=>ZtB t v r
    | none=>r⟩
   | []=>⟨fun _ r=>r⟩
  | false=>⟨fun _ r=>r⟩
 | _=>⟨fun _ r=>r⟩
abbrev RgD:=Rl→Rg
def ZhG (rest:Bx RgD) (dst:Option Nat) (k:K):Bx RgD :=
 ⟨fun r ih dk fm ρ σ nx=>match (opF false dst.isSome k).run ρ σ nx with
  | some ⟨v,_,_⟩=>noV (ZdM dst r) (rest.run ((rdR (dst.getD 0) k).run ρ r) ih dk fm ((Zct dst).run ρ (.v v)) σ nx)
  | none=>none⟩
def Zls (C:Cx) (f:FuncId) (rest:Bx RgD) (dst:Option Nat) (g:Option (Nat × Bool)) (fl:List Nat) (k:K):Bx RgD :=
 match gk k || g.isNone with
 | true=>⟨fun r ih dk fm ρ σ nx=>match ZlC fl r σ with
  | some (σ0,l)=>match (opF (C.mu f dst) dst.isSome k).run ρ σ0 nx with
   | some ⟨v,σ',nx'⟩=>match ZeQ l σ' with
    | some σ2=>noV (ZdM dst r) (rest.run (JV fl r) ih dk fm ((Zct dst).run ρ (.v v)) σ2 nx')
    | none=>none
   | none=>none
  | none=>none⟩
 | false=>⟨fun _ _ _ _ _ _ _=>none⟩
def adD (rest:Bx RgD) (dst:Option Nat) (l o:Nat):Bx RgD :=
 match dst with
 | some u=>⟨fun r ih dk fm ρ σ nx=>noV (noA u r) (rest.run ⟨r.cs,(u,l,o) :: r.ad,r.bn,r.bl⟩ ih dk fm ((T.setF u).run none ρ) σ nx)⟩
 | none=>⟨fun _ _ _ _ _ _ _=>none⟩
def Zta (rest:Bx RgD) (dst:Option Nat) (q:Q) (xs:List Opd):Bx (Nat→Nat→RgD) :=
 match q with
 | .mv=>match xs with
  | []=>⟨fun l o=>(adD rest dst l o).run⟩
  | _=>⟨fun _ _ _ _ _ _ _ _ _=>none⟩
 | .nilck=>match xs with
  | []=>⟨fun l o=>(adD rest dst l o).run⟩
  | _=>⟨fun _ _ _ _ _ _ _ _ _=>none⟩
 | .faddr off=>match xs with
  | []=>⟨fun l o=>(adD rest dst l (o + off)).run⟩
  | _=>⟨fun _ _ _ _ _ _ _ _ _=>none⟩
 | .iaddrA m z=>match xs with
  | [x]=>⟨fun l o r ih dk fm ρ σ nx=>match (WA x).run ρ with
   | some (.int _ i)=>noV (leI 0 i && !leI m i) ((adD rest dst l (o + i.toNat * z)).run r ih dk fm ρ σ nx)
   | _=>none⟩
  | _=>⟨fun _ _ _ _ _ _ _ _ _=>none⟩
 | .load1=>match xs with
  | []=>⟨fun l o r ih dk fm ρ σ nx=>match Qk l r.cs with
   | some cs=>match Zgl o cs with
    | some v=>noV (ZdM dst r) (rest.run ⟨r.cs,r.ad,r.bn,(dst.getD 0,l) :: r.bl⟩ ih dk fm ((Zct dst).run ρ (.v v)) σ nx)
    | none=>none
   | none=>none⟩
  | _=>⟨fun _ _ _ _ _ _ _ _ _=>none⟩
 | .loadN n=>match xs with
  | []=>⟨fun l o r ih dk fm ρ σ nx=>match Qk l r.cs with
   | some cs=>match Zh9 cs o n with
    | some v=>noV (ZdM dst r) (rest.run ⟨r.cs,r.ad,r.bn,(dst.getD 0,l) :: r.bl⟩ ih dk fm ((Zct dst).run ρ (.v v)) σ nx)
    | none=>none
   | none=>none⟩
  | _=>⟨fun _ _ _ _ _ _ _ _ _=>none⟩
 | _=>⟨fun _ _ _ _ _ _ _ _ _=>none⟩
def ZoT (rest:Bx RgD) (fl:List Nat) (l o n:Nat) (xs:List V):RgD:=fun r ih dk fm ρ σ nx=>match Qk l r.cs with
 | some cs=>match Zh1 o n xs cs with
  | some cs'=>noV (!Zfj l (ZjN fl r.bl)) (rest.run (JV fl ⟨Zh0 l cs' r.cs,r.ad,r.bn,r.bl⟩) ih dk fm ρ σ nx)
  | none=>none
 | none=>none
def goD (C:Cx) (f:FuncId) (rest:Bx RgD) (dst:Option Nat) (g:Option (Nat × Bool)) (fl:List Nat) (k:K):Bx RgD :=
 match k with
 | .call fx xs=>⟨fun r ih dk fm ρ σ nx=>match (WA fx).run ρ with
  | some fv=>match (ZbD xs).run ρ with
   | some vs=>match ZlC fl r σ with
    | some (σ0,l)=>match Zkc C ih fv vs σ0 nx with
     | some ⟨pan,v,σ',nx'⟩=>match ZeQ l σ' with
      | some σ2=>match pan with
       | false=>noV (ZdM dst r) (rest.run (JV fl r) ih dk fm ((Zct dst).run ρ (.v v)) σ2 nx')
       | true=>ZjG C ih fm T.nil v σ2 nx'
      | none=>none
     | none=>none
    | none=>none
   | none=>none
  | none=>none⟩
 | .panic x=>⟨fun _ ih _ fm ρ σ nx=>match (WA x).run ρ with
  | some (.iface t v)=>ZjG C ih fm T.nil (.iface t v) σ nx
  | _=>none⟩
 | .defer _ _=>⟨fun _ _ _ _ _ _ _=>none⟩
 | .recover=>⟨fun _ _ _ _ _ _ _=>none⟩
 | .fork _=>⟨fun _ _ _ _ _ _ _=>none⟩
 | .alloc z=>match g,dst,ofDs z with
  | none,some t,some z=>⟨fun r ih dk fm ρ σ nx=>noV (ZqJ t r) (rest.run ⟨(t,z) :: r.cs,(t,t,0) :: r.ad,r.bn,r.bl⟩ ih dk fm ((T.setF t).run none ρ) σ nx)⟩
  | _,_,_=>⟨fun _ _ _ _ _ _ _=>none⟩
 | .box x=>match g,dst with
  | none,some t=>⟨fun r ih dk fm ρ σ nx=>match (WA x).run ρ with
   | some v=>noV (ZgP v && ZqJ t r && !Zfj t (ZjN fl r.bl)) (rest.run (JV fl ⟨(t,ZeI v) :: r.cs,(t,t,0) :: r.ad,r.bn,r.bl⟩) ih dk fm ((T.setF t).run none ρ) σ nx)
   | none=>none⟩
  | _,_=>⟨fun _ _ _ _ _ _ _=>none⟩
 | .store1 a v=>match g,dst with
  | none,none=>⟨fun r ih dk fm ρ σ nx=>match Zdu a r with
   | some (l,o)=>match (WA v).run ρ with
    | some x=>noV (Zna x) (ZoT rest fl l o 1 [x] r ih dk fm ρ σ nx)
    | none=>none
   | none=>(Zls C f rest dst g fl (.store1 a v)).run r ih dk fm ρ σ nx⟩
  | _,_=>⟨fun _ _ _ _ _ _ _=>none⟩
 | .storeN n a v=>match g,dst with
  | none,none=>⟨fun r ih dk fm ρ σ nx=>match Zdu a r with
   | some (l,o)=>match (WA v).run ρ with
    | some (.agg xs)=>ZoT rest fl l o n xs r ih dk fm ρ σ nx
    | _=>none
   | none=>(Zls C f rest dst g fl (.storeN n a v)).run r ih dk fm ρ σ nx⟩
  | _,_=>⟨fun _ _ _ _ _ _ _=>none⟩
 | .q q xs=>match xs with
  | x :: ys=>⟨fun r ih dk fm ρ σ nx=>match Zdu x r with
   | some (l,o)=>(Zta rest dst q ys).run l o r ih dk fm ρ σ nx
   | none=>(ZhG rest dst (.q q xs)).run r ih dk fm ρ σ nx⟩
  | []=>ZhG rest dst (.q q xs)
 | k=>match WW k with
  | true=>ZhG rest dst k
  | false=>Zls C f rest dst g fl k
def Zh8:K→Option (Opd × Nat)
 | .store1 a _=>some (a,1)
 | .storeN n a _=>some (a,n)
 | _=>none
def ZuN (a:Opd) (n:Nat) (a2:Opd) (n2:Nat):Bx (T W→Rl→Bool) :=
 ⟨fun ρ r=>match Zdu a r,Zdu a2 r,(WA a).run ρ,(WA a2).run ρ with
  | none,none,some (.ptr b o),some (.ptr b2 o2)=>!Nat.beq b b2 || Nat.ble (o + n) o2 || Nat.ble (o2 + n2) o
  | _,_,_,_=>false⟩
def eqL:List Nat→List Nat→Bool
 | [],[]=>true
 | a :: x,b :: y=>Nat.beq a b && eqL x y
 | _,_=>false
def ZtA (rest:Bx RgD) (t t2:Nat) (fl:List Nat):Bx RgD :=
 ⟨fun r ih dk fm ρ σ nx=>match ZlC fl r σ with
  | some _=>noV (noA t r && noA t2 r) (rest.run (JV fl (JV fl r)) ih dk fm ((T.setF t2).run (some (.v (.map (nx + 1)))) ((T.setF t).run (some (.v (.map nx))) ρ)) ((σ.set (some (.map [])) nx).set (some (.map [])) (nx + 1)) (nx + 2))
  | none=>none⟩
def Zqy (C:Cx) (f:FuncId) (rest:Bx RgD) (dst:Option Nat) (g:Option (Nat × Bool)) (k:K) (fl:List Nat) (dst2:Option Nat) (g2:Option (Nat × Bool)) (k2:K) (fl2:List Nat):Bx RgD :=
 match g with
 | some _=>⟨fun _ _ _ _ _ _ _=>none⟩
 | none=>match g2 with
  | some _=>⟨fun _ _ _ _ _ _ _=>none⟩
  | none=>match Zh8 k with
   | some (a,n)=>match Zh8 k2 with
    | some (a2,n2)=>match dst,dst2,fl,fl2 with
     | none,none,[],[]=>⟨fun r ih dk fm ρ σ nx=>noV ((ZuN a n a2 n2).run ρ r) ((goD C f (goD C f rest none none [] k2) none none [] k).run r ih dk fm ρ σ nx)⟩
     | _,_,_,_=>⟨fun _ _ _ _ _ _ _=>none⟩
    | none=>⟨fun _ _ _ _ _ _ _=>none⟩
   | none=>match k with
    | .mkmap=>match k2 with
     | .mkmap=>match dst with
      | some t=>match dst2 with
       | some t2=>match eqL fl fl2 && !Nat.beq t t2 with
        | true=>ZtA rest t t2 fl
        | false=>⟨fun _ _ _ _ _ _ _=>none⟩
       | none=>⟨fun _ _ _ _ _ _ _=>none⟩
      | none=>⟨fun _ _ _ _ _ _ _=>none⟩
     | _=>⟨fun _ _ _ _ _ _ _=>none⟩
    | _=>⟨fun _ _ _ _ _ _ _=>none⟩
def ZkR:List (Nat × Nat × Nat)→Nat→Nat→T W→T W
 | [],_,_,ρ=>ρ
 | (u,l,o) :: r,t,nx,ρ=>if Nat.beq l t then (ZkR r t nx ρ).set (some (.v (.ptr nx o))) u else ZkR r t nx ρ
def Zn6:List (Nat × List V)→List (Nat × Nat × Nat)→Rg
 | [],_=>fun ih dk fm ρ σ nx=>ih fm dk ρ σ nx
 | (t,vs) :: r,ad=>fun ih dk fm ρ σ nx=>match Zgi t ad with
  | some (l,_)=>noV (Nat.beq l t) (Zn6 r ad ih dk fm (ZkR ad t nx ρ) (σ.set (some (.cells vs)) nx) (nx + 1))
  | none=>none
def Zgz (C:Cx) (f:FuncId):List (DOp × List Nat)→Bx RgD
 | []=>⟨fun r ih dk fm ρ σ nx=>Zn6 r.cs r.ad ih dk fm ρ σ nx⟩
 | (⟨dst,g,k⟩,fl) :: os=>match k with
  | .fork k1=>match os with
   | (⟨dst2,g2,k2⟩,fl2) :: os2=>Zqy C f (Zgz C f os2) dst g k1 fl dst2 g2 k2 fl2
   | []=>⟨fun _ _ _ _ _ _ _=>none⟩
  | k=>match g with
   | none=>goD C f (Zgz C f os) dst g fl k
   | some _=>⟨fun r ih dk fm ρ σ nx=>match (Zhs g).run ρ with
    | some b=>match b with
     | true=>(goD C f (Zgz C f os) dst g fl k).run r ih dk fm ρ σ nx
     | false=>match k with
      | .alloc _=>none
      | k=>noV (ZdM dst r) ((Zgz C f os).run (if WW k then r else JV fl r) ih dk fm ((Zct dst).run ρ .skip) σ nx)
    | none=>none⟩
abbrev Cd:=Ih→Fm→List Zp→T W→S→Nat→Option Out
def Zaf (C:Cx) (f:FuncId):DC→Bx Cd
 | .skip=>⟨fun ih fm k ρ σ nx=>ih fm k ρ σ nx⟩
 | .label _=>⟨fun ih fm k ρ σ nx=>ih fm k ρ σ nx⟩
 | .seq a b=>⟨fun ih fm k ρ σ nx=>(Zaf C f a).run ih fm (.code b :: k) ρ σ nx⟩
 | .cond c a b=>⟨fun ih fm k ρ σ nx=>match (WA c).run ρ with
  | some v=>match v with
   | .bool t=>match t with
    | true=>(Zaf C f a).run ih fm k ρ σ nx
    | false=>(Zaf C f b).run ih fm k ρ σ nx
   | _=>none
  | none=>none⟩
 | .block id a=>⟨fun ih fm k ρ σ nx=>(Zaf C f a).run ih fm (.inBlock id :: k) ρ σ nx⟩
 | .loop a=>⟨fun ih fm k ρ σ nx=>(Zaf C f a).run ih fm (.inLoop a :: k) ρ σ nx⟩
 | .scope a=>⟨fun ih fm k ρ σ nx=>(Zaf C f a).run ih fm (.inScope a :: k) ρ σ nx⟩
 | .exit id=>⟨fun ih fm k ρ σ nx=>match Jf id k with
  | some k'=>ih fm k' ρ σ nx
  | none=>match fm.k with
   | .rnd l=>match loopTo σ l (some (.exit id)) true false with
    | some σ'=>some ⟨false,.bool false,σ',nx⟩
    | none=>none
   | _=>none⟩
 | .goto l=>⟨fun ih fm k ρ σ nx=>match Zcm l k with
  | some k'=>ih fm k' ρ σ nx
  | none=>none⟩
 | .ret=>⟨fun ih fm _ ρ σ nx=>ZqU C ih fm ρ σ nx false⟩
 | .reg ops kp=>match kp with
  | none=>match ops.all fun o=>ZhA o.k with
   | true=>⟨fun ih fm k ρ σ nx=>(ZlF C f ops).run ih k fm ρ σ nx⟩
   | false=>⟨fun _ _ _ _ _ _=>none⟩
  | some _=>⟨fun _ _ _ _ _ _=>none⟩
 | .regD _ ops _=>⟨fun ih fm k ρ σ nx=>(Zgz C f ops).run Rl.nil ih k fm ρ σ nx⟩
 | .rangeF g ps a b=>⟨fun ih fm k ρ σ nx=>match fm.k with
  | .fn _=>match (WA g).run ρ with
   | some fv=>match Zkc C ih fv [.yield (nx + 1)] ((σ.set (some .dfr) nx).set (some (.loop fm.f fm.n ps a b ρ none false)) (nx + 1)) (nx + 2) with
    | some ⟨pan,v,σ',nx'⟩=>match pan with
     | false=>match σ'.get (nx + 1) with
      | some (.loop _ _ _ _ _ _ none false)=>ih { fm with ds:=.mark nx :: fm.ds } k ρ (σ'.set none (nx + 1)) nx'
      | some (.loop f' n' _ _ _ _ (some j) false)=>noV (Nat.beq f' fm.f && Nat.beq n' fm.n) (ih { fm with ds:=.mark nx :: fm.ds } (.code j :: k) ρ (σ'.set none (nx + 1)) nx')
      | _=>none
     | true=>ZjG C ih { fm with ds:=.mark nx :: fm.ds } ρ v σ' nx'
    | none=>none
   | none=>none
  | _=>none⟩
def step (C:Cx) (ih:Ih) (fm:Fm) (dk:List Zp) (ρ:T W) (σ:S) (nx:Nat):Option Out :=
 match dk with
 | []=>ZqU C ih fm ρ σ nx true
 | it :: k=>match it with
  | .inBlock _=>ih fm k ρ σ nx
  | .inScope _=>ih fm k ρ σ nx
  | .inLoop c=>(Zaf C fm.f c).run ih fm (.inLoop c :: k) ρ σ nx
  | .beginR=>match fm.k with
   | .rnd l=>match loopTo σ l none false true with
    | some σ'=>ih fm k ρ σ' nx
    | none=>none
   | _=>none
  | .code c=>(Zaf C fm.f c).run ih fm k ρ σ nx
def run (C:Cx) (n:Nat):Ih:=Nat.rec (motive:=fun _=>Ih) (fun _ _ _ _ _=>none) (fun _ ih=>step C ih) n
end Go.DL
namespace Go.DL
open Go
variable [Znt]
theorem ZtC (a b:Nat):UInt8.ofNat a=UInt8.ofNat b↔a % 256=b % 256:=by
 rw [← UInt8.toNat_inj]; simp [UInt8.toNat_ofNat']
theorem Zkq:∀ (a b:List Nat),eqS a b=decide (a.map UInt8.ofNat=b.map UInt8.ofNat)
 | [],[]=>by simp [eqS]
 | [],b :: y=>by simp [eqS]
 | a :: x,[]=>by simp [eqS]
 | a :: x,b :: y=>by
  simp only [eqS,List.map_cons,List.cons.injEq,ZtC,Zkq x y]
  by_cases h:a % 256=b % 256 <;> simp [h,Nat.beq_eq]
theorem Zoi:∀ (a b:List Nat),Zc6 a b=Op.bytesLess (a.map UInt8.ofNat) (b.map UInt8.ofNat)
 | [],[]=>by simp [Zc6,Op.bytesLess]
 | [],b :: y=>by simp [Zc6,Op.bytesLess]
 | a :: x,[]=>by simp [Zc6,Op.bytesLess]
 | a :: x,b :: y=>by
  have e1:(UInt8.ofNat a < UInt8.ofNat b)↔a % 256 < b % 256:=by
   rw [UInt8.lt_iff_toNat_lt]; simp [UInt8.toNat_ofNat']
  have e2:=ZtC a b
  simp only [Zc6,List.map_cons,Op.bytesLess,Zoi x y]
  by_cases h1:a % 256 < b % 256
  ·simp [h1,e1,Nat.blt_eq]
  ·by_cases h2:a % 256=b % 256
   ·simp [h1,h2,e1,e2,Nat.blt_eq]
   ·simp [h1,h2,e1,e2,Nat.blt_eq]
section
variable {η:Nm}
theorem ZkZ {k:SK} {x y:V} {dx dy:D} (hx:VR η x dx) (hy:VR η y dy) {b:Bool} (h:ZiD k x y=some b):Wg k dx dy=some b:=by
 cases k <;> cases hx <;> cases hy <;> simp only [ZiD,reduceCtorEq] at h
 ·split at h <;> simp only [ZvD,reduceCtorEq] at h
  rename_i hk
  obtain rfl:=Zei hk
  simp only [Wg,if_true,ZvD]
  rw [← Zhj]; exact h
 ·simp only [ZvD] at h
  simp only [Wg,ZvD]
  rw [← Zkq]; exact h
 ·simpa only [Wg] using h
theorem Zhc {xs ys:List V} {ds es:List D} (hx:VRs η xs ds) (hy:VRs η ys es):∀ {l:List (Nat × SK)} {b:Bool},Zfz xs ys l=some b→KN ds es l=some b
 | [],b,h=>by simpa only [Zfz,KN] using h
 | (o,k) :: r,b,h=>by
  simp only [Zfz] at h
  split at h <;> (try (simp at h; done))
  rename_i x y h1 h2
  split at h <;> simp only [ZvD,reduceCtorEq] at h
  rename_i b1 b2 h3 h4
  obtain ⟨dx,hdx,hvx⟩:=hx.get h1
  obtain ⟨dy,hdy,hvy⟩:=hy.get h2
  simp only [KN,hdx,hdy,ZkZ hvx hvy h3,Zhc hx hy h4,h]
theorem Zba {kp:KP} {x y:V} {dx dy:D} (hx:VR η x dx) (hy:VR η y dy) {b:Bool} (h:Zdz kp x y=some b):Qt kp dx dy=some b:=by
 cases kp with
 | sc k=>exact ZkZ hx hy h
 | st l =>
  cases hx <;> cases hy <;> simp only [Zdz,reduceCtorEq] at h
  rename_i cs ds h1 cs' ds' h2
  split at h <;> (try (simp at h; done))
  rename_i hl
  simp only [Qt]
  rw [if_pos ⟨by rw [← h1.len]; exact hl.1,by rw [← h2.len]; exact hl.2⟩]
  exact Zhc h1 h2 h
theorem ZeX {kp:KP} {x:V} {dx:D} (hx:VR η x dx) (h:(Zdz kp x x).isSome=true):Jg kp dx=true:=by
 cases hk:Zdz kp x x with
 | none=>rw [hk] at h; simp at h
 | some b=>simp [Jg,Zba hx hx hk]
theorem ZoB {p:Zdt} {x y:V} {dx dy:D} (hx:VR η x dx) (hy:VR η y dy) {b:Bool} (h:Zm8 p x y=some b):∃ side,WV p dx dy=some (side,b)∧side:=by
 cases p <;> cases hx <;> cases hy <;> simp only [Zm8,reduceCtorEq,ZvD] at h
 case cells.agg.agg l cs ds h1 cs' ds' h2=>exact ⟨True,by simp [WV,Zhc h1 h2 h],trivial⟩
 case sl.sl.nilsl t n s rs τ row h1 h2 h3 =>
  split at h <;> simp only [ZvD,reduceCtorEq] at h
  subst h
  exact ⟨_,rfl,‹_›⟩
 all_goals (subst h; exact ⟨True,rfl,trivial⟩)
theorem ZbZ {k:IntKind} {n:Int} {v:V} (h:Zfe k n=some v):v = .int k n∧inR k n:=by
 unfold Zfe at h
 split at h <;> simp only [ZvD,reduceCtorEq] at h
 exact ⟨h.symm,ZpM ‹_›⟩
theorem Zug {op:BinOp} {k k':IntKind} {a b:Int} {v:V} (hk:ZoM op=true∨k=k') (h:Ztk op k a b=some v):∃ side d,Zaw op none (.int k a) (.int k' b)=some (side,d)∧side∧VR η v d:=by
 have hsh:ZoM op=false→k=k':=fun h=>hk.resolve_left (by rw [h]; simp)
 cases op <;> simp only [Ztk] at h
 case shl =>
  split at h <;> (try (simp at h; done))
  rename_i h0
  obtain ⟨rfl,hr⟩:=ZbZ h
  rw [ZfI,decide_eq_true_eq] at h0
  exact ⟨_,_,rfl,⟨h0,hr⟩,.int _ _⟩
 case shr =>
  split at h <;> (try (simp at h; done))
  rename_i h0
  obtain ⟨rfl,hr⟩:=ZbZ h
  rw [ZfI,decide_eq_true_eq] at h0
  exact ⟨_,_,rfl,⟨h0,hr⟩,.int _ _⟩
 all_goals
  obtain rfl:=hsh rfl
  simp only [Zaw,if_true,Jy]
 case add=>obtain ⟨rfl,hr⟩:=ZbZ h; exact ⟨_,_,rfl,hr,.int _ _⟩
 case sub=>obtain ⟨rfl,hr⟩:=ZbZ h; exact ⟨_,_,rfl,hr,.int _ _⟩
 case mul=>obtain ⟨rfl,hr⟩:=ZbZ h; exact ⟨_,_,rfl,hr,.int _ _⟩
 case quo =>
  split at h <;> (try (simp at h; done))
  rename_i h0
  obtain ⟨rfl,hr⟩:=ZbZ h
  rw [Zhj,decide_eq_false_iff_not] at h0
  exact ⟨_,_,rfl,⟨h0,hr⟩,.int _ _⟩
 case rem =>
  split at h <;> (try (simp at h; done))
  rename_i h0
  obtain ⟨rfl,hr⟩:=ZbZ h
  rw [Zhj,decide_eq_false_iff_not] at h0
  exact ⟨_,_,rfl,⟨h0,hr⟩,.int _ _⟩
 all_goals
  simp only [ZvD] at h
  subst h
  refine ⟨_,_,rfl,trivial,?_⟩
  try simp only [Zhj,ZfI]
 case lss=>rw [show (!decide (b≤a))=decide (a < b) by by_cases hh:a < b <;> simp [hh] <;> omega]; exact .bool _
 case gtr=>rw [show (!decide (a≤b))=decide (b < a) by by_cases hh:b < a <;> simp [hh] <;> omega]; exact .bool _
 case geq=>exact .bool _
 all_goals first | exact .bool _ | exact .int _ _
theorem Zui {op:BinOp} {a b:List Nat} {v:V} (h:Ztl op a b=some v):∃ side d,Zdw op (a.map UInt8.ofNat) (b.map UInt8.ofNat)=some (side,d)∧side∧VR η v d:=by
 cases op <;> simp only [Ztl,reduceCtorEq] at h
 case add =>
  split at h <;> simp only [ZvD,reduceCtorEq] at h
  rename_i hb
  rw [Nat.ble_eq] at hb
  subst h
  refine ⟨_,_,rfl,by simpa using hb,?_⟩
  rw [← List.map_append]; exact .str _
 all_goals
  simp only [ZvD] at h
  subst h
  refine ⟨_,_,rfl,trivial,?_⟩
  simp only [Zkq,Zoi]
  exact .bool _
theorem Zuh {op:BinOp} {p:Option Zdt} {x y:V} {dx dy:D} (hx:VR η x dx) (hy:VR η y dy) {v:V} (h:ZoF op p x y=some v):∃ side d,eqO op p dx dy=some (side,d)∧side∧VR η v d:=by
 cases p with
 | none=>simp [ZoF] at h
 | some p =>
  cases op <;> simp only [ZoF,reduceCtorEq] at h
  case eql =>
   split at h <;> simp only [ZvD,reduceCtorEq] at h
   subst h
   obtain ⟨side,h1,h2⟩:=ZoB hx hy ‹_›
   exact ⟨side,_,by simp only [eqO,h1,Option.map_some],h2,.bool _⟩
  case neq =>
   split at h <;> simp only [ZvD,reduceCtorEq] at h
   subst h
   obtain ⟨side,h1,h2⟩:=ZoB hx hy ‹_›
   exact ⟨side,_,by simp only [eqO,h1,Option.map_some],h2,.bool _⟩
theorem Zuf {op:BinOp} {p:Option Zdt} {x y:V} {dx dy:D} (hx:VR η x dx) (hy:VR η y dy) {v:V} (h:ZoE op p x y=some v):∃ side d,Zaw op p dx dy=some (side,d)∧side∧VR η v d:=by
 have oth:(∀ k a,dx≠.int k a)→(∀ l,dx≠.str l)→ZoF op p x y=some v→∃ side d,Zaw op p dx dy=some (side,d)∧side∧VR η v d:=fun h1 h2 h3=>by
  obtain ⟨side,d,e1,e2,e3⟩:=Zuh hx hy h3
  refine ⟨side,d,?_,e2,e3⟩
  rw [← e1]
  cases dx <;> first | rfl | exact absurd rfl (h1 _ _) | exact absurd rfl (h2 _)
 cases hx
 case int k a =>
  cases hy <;> simp only [ZoE,reduceCtorEq] at h
  rename_i k' b
  split at h <;> (try (simp at h; done))
  rename_i hb
  rw [ZvW] at hb
  obtain ⟨side,d,e1,e2,e3⟩:=Zug (η:=η) (k':=k') (hb.imp id Zei) h
  refine ⟨side,d,?_,e2,e3⟩
  rw [← e1]
  rfl
 case str s =>
  cases hy <;> simp only [ZoE,reduceCtorEq] at h
  exact Zui h
 all_goals exact oth (fun _ _=>by simp) (fun _=>by simp) (by simpa only [ZoE] using h)
def MR (η:Nm) (e:V × V) (d:D × D):Prop:=VR η e.1 d.1∧VR η e.2 d.2
theorem MR.mono {η':Nm} (h:η.Sub η') {e:V × V} {d:D × D} (m:MR η e d):MR η' e d:=⟨m.1.mono h,m.2.mono h⟩
theorem Zn8 {kp:KP} {k:V} {dk:D} (hk:VR η k dk):∀ {es:List (V × V)} {ds:List (D × D)} {r:Option V},ZZ (MR η) es ds→Zkw kp k es=some r →
  ∃ r',ZbG kp dk ds=some r'∧(match r,r' with | some v,some d=>VR η v d | none,none=>True | _,_=>False)
 | [],ds,r,h,hf=>by
  cases h
  simp only [Zkw,ZvD] at hf
  subst hf
  exact ⟨none,rfl,trivial⟩
 | e :: es,ds,r,h,hf=>by
  cases h with
  | cons h1 h2 =>
  simp only [Zkw] at hf
  split at hf <;> (try (simp at hf; done))
  ·rename_i hb
   simp only [ZvD] at hf
   subst hf
   exact ⟨some _,by simp only [ZbG,Zba hk h1.1 hb],h1.2⟩
  ·rename_i hb
   obtain ⟨r',e1,e2⟩:=Zn8 hk h2 hf
   exact ⟨r',by simp only [ZbG,Zba hk h1.1 hb,e1],e2⟩
theorem ZlS {kp:KP} {k v:V} {dk dv:D} (hk:VR η k dk) (hv:VR η v dv):∀ {es r:List (V × V)} {ds:List (D × D)},ZZ (MR η) es ds→ZlR kp k v es=some r →
  ∃ r',ZaC kp dk dv ds=some r'∧ZZ (MR η) r r'
 | [],r,ds,h,hf=>by
  cases h
  simp only [ZlR,ZvD] at hf
  subst hf
  exact ⟨_,rfl,.cons ⟨hk,hv⟩ .nil⟩
 | e :: es,r,ds,h,hf=>by
  cases h with
  | cons h1 h2 =>
  simp only [ZlR] at hf
  split at hf <;> (try (simp at hf; done))
  ·rename_i hb
   simp only [ZvD] at hf
   subst hf
   exact ⟨(dk,dv) :: _,by simp only [ZaC,Zba hk h1.1 hb],.cons ⟨hk,hv⟩ h2⟩
  ·rename_i hb
   simp only [ZvO] at hf
   obtain ⟨r0,hr,rfl⟩:=hf
   obtain ⟨r',e1,e2⟩:=ZlS hk hv h2 hr
   exact ⟨_,by simp only [ZaC,Zba hk h1.1 hb,e1,Option.map_some],.cons h1 e2⟩
theorem ZpD {kp:KP} {k:V} {dk:D} (hk:VR η k dk):∀ {es r:List (V × V)} {ds:List (D × D)},ZZ (MR η) es ds→ZnX kp k es=some r →
  ∃ r',Zfc kp dk ds=some r'∧ZZ (MR η) r r'
 | [],r,ds,h,hf=>by
  cases h
  simp only [ZnX,ZvD] at hf
  subst hf
  exact ⟨_,rfl,.nil⟩
 | e :: es,r,ds,h,hf=>by
  cases h with
  | cons h1 h2 =>
  simp only [ZnX] at hf
  split at hf <;> (try (simp at hf; done))
  ·rename_i hb
   simp only [ZvD] at hf
   subst hf
   exact ⟨_,by simp only [Zfc,Zba hk h1.1 hb],h2⟩
  ·rename_i hb
   simp only [ZvO] at hf
   obtain ⟨r0,hr,rfl⟩:=hf
   obtain ⟨r',e1,e2⟩:=ZpD hk h2 hr
   exact ⟨_,by simp only [Zfc,Zba hk h1.1 hb,e1,Option.map_some],.cons h1 e2⟩
theorem ZpE {kp:KP} {k z:V} {dk dz:D} (hk:VR η k dk) (hz:VR η z dz):∀ {es:List (V × V)} {ds:List (D × D)} {v:V},ZZ (MR η) es ds→Zn3 kp k z es=some v →
  ∃ d,Zdy kp dk dz ds=some d∧VR η v d
 | [],ds,v,h,hf=>by
  cases h
  simp only [Zn3,ZvD] at hf
  subst hf
  exact ⟨_,rfl,hz⟩
 | e :: es,ds,v,h,hf=>by
  cases h with
  | cons h1 h2 =>
  simp only [Zn3] at hf
  split at hf <;> (try (simp at hf; done))
  ·rename_i hb
   simp only [ZvD] at hf
   subst hf
   exact ⟨_,by simp only [Zdy,Zba hk h1.1 hb],h1.2⟩
  ·rename_i hb
   obtain ⟨d,e1,e2⟩:=ZpE hk hz h2 hf
   exact ⟨d,by simp only [Zdy,Zba hk h1.1 hb,e1],e2⟩
theorem Zom {z:V} {dz:D} (hz:VR η z dz) {ok:Bool} {r:Option V} {r':Option D} (h:match r,r' with | some v,some d=>VR η v d | none,none=>True | _,_=>False):VR η (Zm6 z ok r) (KJ dz ok r'):=by
 cases r <;> cases r' <;> simp only at h <;> cases ok <;> simp only [Zm6,KJ,if_true,if_false,Bool.false_eq_true]
 ·exact hz
 ·exact .tup _ _ (.cons _ _ _ _ hz (.one (.bool _)))
 ·exact h
 ·exact .tup _ _ (.cons _ _ _ _ h (.one (.bool _)))
end
end Go.DL
namespace Go.DL
open Go
variable [Znt]
def WR (η:Nm) (L:Loc):W→E→Prop
 | .v x,e=>∃ d,VR η x d∧(e = .d d∨e = .when true (.d d))
 | .loc l o,e=>e = .loc l o∨e = .when true (.loc l o)
 | .skip,e=>e = .when false (.d (.bool false))
def Zol (_:Loc):W→Bool
 | .loc _ _=>false
 | _=>true
def YI (η:Nm) (L:Loc) (ρ:T W) (ρd:Env):Prop:=∀ t w,ρ.get t=some w→Zol L w=true→∃ e,Ye ρd t=some e∧WR η L w e
theorem YI.anyL {η:Nm} {L L':Loc} {ρ:T W} {ρd:Env} (h:YI η L ρ ρd):YI η L' ρ ρd:=fun t w hw hl=>by
 cases w with
 | v x=>exact h t _ hw rfl
 | loc l o=>simp [Zol] at hl
 | skip=>exact h t _ hw rfl
structure Px extends Cx where
 t:St
instance:Coe Px Cx:=⟨Px.toCx⟩
inductive OR (C:Cx) (η:Nm) (k0:Nat):O→Y6→Prop where
 | cells (vs:List V) (ds ex:List D) (h:VRs η vs ds):OR C η k0 (.cells vs) (.cells (ds++ex))
 | buf (vs:List V) (ds ex:List D) (h:VRs η vs ds) (hc:η (k0 + 1)=some (.tip (ds++ex).length)):OR C η k0 (.buf vs) (.cells (ds++ex))
 | map (es:List (V × V)) (ds:List (D × D)) (h:ZZ (MR η) es ds):OR C η k0 (.map es) (.map ds)
 | tok (n:Nat):OR C η k0 (.tok n) (.tip n)
 | mapE (kp:KP) (es:List (V × V)) (ds:List (D × D)) (k:V) (dk:D) (n m:Nat) (h:ZZ (MR η) es ds) (hk:VR η k dk) (hn:η n=some (.tip m)):OR C η k0 (.mapE kp es k n) (.mapE kp ds dk m)
 | dfr:OR C η k0 .dfr .dfr
 | ro (o:O) (d:Y6) (h:OR C η k0 o d) (hr:ZaW o=false) (hk:∀ n,o≠.tok n):OR C η k0 (.ro o) d
 | loop (f:FuncId) (n:Nat) (ps:List Nat) (a b:DC) (ρ:T W) (st:Option DC) (busy:Bool) (r:KM) (lst:LSt) (hf:r.fn=f) (hn:r.N=n) (hps:r.params=ps) (hlt:∀ t∈ps,t < n)
   (ha:cc C.P (C.an f) n r.assign=some a) (hb:cc C.P (C.an f) n r.body=some b) (hρ:YI η [] ρ r.ρ)
   (hst:match st,busy,lst with
    | none,false,.ready=>True
    | none,true,.busy=>True
    | some dj,false,.done j=>cc C.P (C.an f) n j=some dj
    | _,_,_=>False):OR C η k0 (.loop f n ps a b ρ st busy) (.loop r lst)
structure Sim (C:Px) (η:Nm) (σ:S) (s:St):Prop where
 obj:∀ k o,σ.get k=some o→∃ t,η k=some t∧((∃ b d,t = .tip b∧s b=some d∧OR C η k o d)∨(∃ n,o = .tok n∧t = .full))
 inj:∀ k k' o o' b,σ.get k=some o→σ.get k'=some o'→η k=some (.tip b)→η k'=some (.tip b)→k=k'
 kp:∀ b d,C.t b=some d→s b=some d∧∀ k o,σ.get k=some o→ZaW o=false→η k≠some (.tip b)
 ro:∀ k o b,σ.get k=some (.ro o)→η k=some (.tip b)→∃ d,C.t b=some d
theorem WR.mono {η η':Nm} {L:Loc} (h:η.Sub η') {w:W} {e:E} (x:WR η L w e):WR η' L w e:=by
 cases w with
 | v v=>obtain ⟨d,h1,h2⟩:=x; exact ⟨d,h1.mono h,h2⟩
 | _=>exact x
theorem YI.mono {η η':Nm} {L:Loc} (h:η.Sub η') {ρ:T W} {ρd:Env} (x:YI η L ρ ρd):YI η' L ρ ρd:=fun t w hw hl=>by
 obtain ⟨e,h1,h2⟩:=x t w hw hl
 exact ⟨e,h1,h2.mono h⟩
theorem OR.mono {C:Cx} {η η':Nm} (h:η.Sub η') {k0:Nat} {o:O} {d:Y6} (x:OR C η k0 o d):OR C η' k0 o d:=by
 induction x with
 | cells vs ds ex h1=>exact .cells vs ds ex (h1.mono h)
 | buf vs ds ex h1 hc=>exact .buf vs ds ex (h1.mono h) (h _ _ hc)
 | map es ds h1=>exact .map es ds (h1.imp fun _ _ m=>m.mono h)
 | tok n=>exact .tok n
 | mapE kp es ds k dk n m h1 hk hn=>exact .mapE kp es ds k dk n m (h1.imp fun _ _ m=>m.mono h) (hk.mono h) (h _ _ hn)
 | dfr=>exact .dfr
 | ro o d h1 hr hk ih=>exact .ro o d ih hr hk
 | loop f n ps a b ρ st busy r lst hf hn hps hlt ha hb hρ hst=>exact .loop f n ps a b ρ st busy r lst hf hn hps hlt ha hb (hρ.mono h) hst
theorem Sim.name {C:Px} {η η':Nm} {σ:S} {s:St} (x:Sim C η σ s) (hs:η.Sub η') {k:Nat} {o:O} (h:σ.get k=some o) {t:Tok} (e:η' k=some t):η k=some t:=by
 obtain ⟨t0,h0,_⟩:=x.obj k o h
 rw [hs _ _ h0] at e
 rw [h0,e]
theorem Sim.mono {C:Px} {η η':Nm} (h:η.Sub η') {σ:S} {s:St} (x:Sim C η σ s):Sim C η' σ s:={
 obj k o hk:=by
  obtain ⟨t,h1,h2⟩:=x.obj k o hk
  refine ⟨t,h _ _ h1,h2.imp (fun ⟨b,d,a1,a2,a3⟩=>⟨b,d,a1,a2,a3.mono h⟩) id⟩
 inj k k' o o' b hk hk' e e':=x.inj k k' o o' b hk hk' (x.name h hk e) (x.name h hk' e')
 kp b d hb:=⟨(x.kp b d hb).1,fun k o hk hr e=>(x.kp b d hb).2 k o hk hr (x.name h hk e)⟩
 ro k o b hk e:=x.ro k o b hk (x.name h hk e) }
section
variable {C:Px} {η:Nm} {σ:S} {s:St}
theorem Sim.get (x:Sim C η σ s) {k:Nat} {o:O} (h:σ.get k=some o) (ho:∀ n,o≠.tok n):∃ b d,η k=some (.tip b)∧s b=some d∧OR C η k o d:=by
 obtain ⟨t,h1,⟨b,d,rfl,a1,a2⟩ | ⟨n,rfl,_⟩⟩:=x.obj k o h
 ·exact ⟨b,d,h1,a1,a2⟩
 ·exact absurd rfl (ho n)
theorem OR.cellsO {C:Cx} {k0:Nat} {o:O} {d:Y6} {vs:List V} (h:OR C η k0 o d) (hc:cellsO o=some vs):∃ ds ex,d = .cells (ds++ex)∧VRs η vs ds:=by
 have key:∀ {o:O} {d:Y6},OR C η k0 o d→(o = .cells vs∨o = .buf vs)→∃ ds ex,d = .cells (ds++ex)∧VRs η vs ds:=fun {o d} h ho=>by
  rcases ho with rfl | rfl
  ·cases h with
   | cells vs ds ex h=>exact ⟨ds,ex,rfl,h⟩
  ·cases h with
   | buf vs ds ex h=>exact ⟨ds,ex,rfl,h⟩
 cases o <;> simp only [Go.DL.cellsO,reduceCtorEq,ZvD] at hc
 ·subst hc; exact key h (.inl rfl)
 ·subst hc; exact key h (.inr rfl)
 ·rename_i o
  cases h with
  | ro _ _ h _ _ =>
   cases o <;> simp only [reduceCtorEq,ZvD] at hc
   ·subst hc; exact key h (.inl rfl)
   ·subst hc; exact key h (.inr rfl)
theorem Zqh {o:O} {vs:List V} (h:cellsO o=some vs) (n:Nat):o≠.tok n:=fun e=>by subst e; simp [cellsO] at h
theorem Sim.cells (x:Sim C η σ s) {k b:Nat} {vs:List V} (h:Zak (σ.get k)=some vs) (hb:η k=some (.tip b)):∃ ds ex,s b=some (.cells (ds++ex))∧VRs η vs ds:=by
 cases hk:σ.get k with
 | none=>rw [hk] at h; simp [Zak] at h
 | some o =>
  rw [hk] at h
  obtain ⟨b',d,h1,h2,h3⟩:=x.get hk (Zqh h)
  rw [hb] at h1
  simp only [ZvD,Tok.tip.injEq] at h1
  subst h1
  obtain ⟨ds,ex,rfl,h4⟩:=h3.cellsO h
  exact ⟨ds,ex,h2,h4⟩
theorem Sim.map (x:Sim C η σ s) {k b:Nat} {es:List (V × V)} (h:σ.get k=some (.map es)) (hb:η k=some (.tip b)):∃ ds,s b=some (.map ds)∧ZZ (MR η) es ds:=by
 obtain ⟨b',d,h1,h2,h3⟩:=x.get h (fun n=>by simp)
 rw [hb] at h1
 simp only [ZvD,Tok.tip.injEq] at h1
 subst h1
 cases h3 with
 | map es ds h=>exact ⟨ds,h2,h⟩
theorem Sim.mapO (x:Sim C η σ s) {k b:Nat} {es:List (V × V)} (h:mapO (σ.get k)=some es) (hb:η k=some (.tip b)):∃ ds,s b=some (.map ds)∧ZZ (MR η) es ds:=by
 cases hk:σ.get k with
 | none=>rw [hk] at h; simp [Go.DL.mapO] at h
 | some o =>
  rw [hk] at h
  cases o <;> simp only [Go.DL.mapO,reduceCtorEq,ZvD] at h
  ·subst h; exact x.map hk hb
  ·rename_i o
   cases o <;> simp only [reduceCtorEq,ZvD] at h
   subst h
   obtain ⟨b',d,h1,h2,h3⟩:=x.get hk (fun n=>by simp)
   rw [hb] at h1
   simp only [ZvD,Tok.tip.injEq] at h1
   subst h1
   cases h3 with
   | ro _ _ h3 _ _=>cases h3 with
    | map es ds h=>exact ⟨ds,h2,h⟩
theorem ZpK {σ:S} {k k':Nat} {o:O} (h:(σ.set none k).get k'=some o):k'≠k∧σ.get k'=some o:=by
 rcases T.get_set h with ⟨_,h'⟩ | ⟨h0,h'⟩
 ·simp at h'
 ·exact ⟨h0,h'⟩
theorem Sim.subT {σ':S} (x:Sim C η σ s) (h:∀ k o,σ'.get k=some o→σ.get k=some o):Sim C η σ' s:={
 obj k o hk:=x.obj k o (h k o hk)
 inj k k' o o' b hk hk':=x.inj k k' o o' b (h _ _ hk) (h _ _ hk')
 kp b d hb:=⟨(x.kp b d hb).1,fun k o hk=>(x.kp b d hb).2 k o (h _ _ hk)⟩
 ro k o b hk:=x.ro k o b (h _ _ hk) }
theorem Sim.forget (x:Sim C η σ s) (k:Nat):Sim C η (σ.set none k) s:=x.subT fun _ _ h=>(ZpK h).2
theorem Sim.upd (x:Sim C η σ s) {k b:Nat} {o o':O} {d:Y6} (h:σ.get k=some o) (hb:η k=some (.tip b)) (ho:OR C η k o' d) (hr:ZaW o=false:=by rfl) (hr':ZaW o'=false:=by rfl):Sim C η (σ.set (some o') k) (s.upd b d) where
 obj k' o1 h':=by
  rcases T.get_set h' with ⟨rfl,h1⟩ | ⟨hne,h1⟩
  ·simp only [ZvD] at h1; subst h1
   exact ⟨_,hb,.inl ⟨b,d,rfl,ZvQ s b d,ho⟩⟩
  ·obtain ⟨t,e1,⟨b',d',rfl,e2,e3⟩ | e2⟩:=x.obj k' o1 h1
   ·refine ⟨_,e1,.inl ⟨b',d',rfl,?_,e3⟩⟩
    have:b'≠b:=fun hbb=>hne (x.inj k' k _ _ b h1 h (by rw [← hbb]; exact e1) hb)
    rw [ZvP s d this]; exact e2
   ·exact ⟨t,e1,.inr e2⟩
 inj k1 k2 o1 o2 b' h1 h2 e1 e2:=by
  have:∀ k' o1,(σ.set (some o') k).get k'=some o1→∃ o,σ.get k'=some o:=fun k' o1 h'=>by
   rcases T.get_set h' with ⟨rfl,_⟩ | ⟨_,h'⟩
   ·exact ⟨_,h⟩
   ·exact ⟨_,h'⟩
  obtain ⟨p1,q1⟩:=this _ _ h1
  obtain ⟨p2,q2⟩:=this _ _ h2
  exact x.inj k1 k2 p1 p2 b' q1 q2 e1 e2
 kp c e hc:=by
  obtain ⟨h1,h2⟩:=x.kp c e hc
  have:c≠b:=fun ec=>h2 k o h hr (by rw [ec]; exact hb)
  refine ⟨by rw [ZvP s d this]; exact h1,fun k' o1 h' hr1=>?_⟩
  rcases T.get_set h' with ⟨rfl,_⟩ | ⟨_,h'⟩
  ·exact h2 _ o h hr
  ·exact h2 k' o1 h' hr1
 ro k' o1 b' h' e:=by
  rcases T.get_set h' with ⟨rfl,h1⟩ | ⟨_,h'⟩
  ·simp only [ZvD] at h1; subst h1; simp [ZaW] at hr'
  ·exact x.ro k' o1 b' h' e
end
def Nm.put (η:Nm) (k:Nat) (t:Tok):Nm:=fun k'=>if k'=k then some t else η k'
theorem Nm.put_sub {η:Nm} {k:Nat} (h:η k=none) (t:Tok):η.Sub (η.put k t):=fun k' t' hk=>by
 have:k'≠k:=fun e=>by rw [e,h] at hk; simp at hk
 simp [Nm.put,this,hk]
theorem Nm.put_same (η:Nm) (k:Nat) (t:Tok):(η.put k t) k=some t:=by simp [Nm.put]
structure Wq (η:Nm) (nx:Nat):Prop where
 z:η 0=some .none
 o:η 1=some .full
 two:2≤nx
 free:∀ k,nx≤k→η k=none
theorem Wq.put {η:Nm} {nx:Nat} (h:Wq η nx) (t:Tok):Wq (η.put nx t) (nx + 1):={
 z:=by have:=h.two; simp only [Nm.put]; rw [if_neg (by omega)]; exact h.z
 o:=by have:=h.two; simp only [Nm.put]; rw [if_neg (by omega)]; exact h.o
 two:=by have:=h.two; omega
 free k hk:=by simp only [Nm.put]; rw [if_neg (by omega)]; exact h.free k (by omega) }
section
variable {C:Px} {η:Nm} {σ:S} {s:St}
theorem Sim.fresh (x:Sim C η σ s) {b:Nat} (hb:s b=none) {k:Nat} {o:O} (h:σ.get k=some o):η k≠some (.tip b):=fun e=>by
 obtain ⟨t,h1,⟨b',d,rfl,h2,_⟩ | ⟨n,_,rfl⟩⟩:=x.obj k o h
 ·rw [e] at h1
  simp only [ZvD,Tok.tip.injEq] at h1
  subst h1
  rw [hb] at h2; simp at h2
 ·rw [e] at h1; simp at h1
theorem Sim.new (x:Sim C η σ s) {nx:Nat} (hn:η nx=none) {b:Nat} (hb:s b=none) {o:O} {d:Y6} (ho:OR C (η.put nx (.tip b)) nx o d) (hr:ZaW o=false:=by rfl):Sim C (η.put nx (.tip b)) (σ.set (some o) nx) (s.upd b d):=by
 have hsub:=Nm.put_sub hn (.tip b)
 have x':=x.mono hsub
 refine ⟨fun k o1 h=>?_,fun k1 k2 o1 o2 b' h1 h2 e1 e2=>?_,fun c e hc=>?_,fun k o1 c h e=>?_⟩
 ·rcases T.get_set h with ⟨rfl,h1⟩ | ⟨hne,h1⟩
  ·simp only [ZvD] at h1; subst h1
   exact ⟨_,Nm.put_same _ _ _,.inl ⟨b,d,rfl,ZvQ s b d,ho⟩⟩
  ·obtain ⟨t,e1,⟨b',d',rfl,e2,e3⟩ | e2⟩:=x'.obj k o1 h1
   ·refine ⟨_,e1,.inl ⟨b',d',rfl,?_,e3⟩⟩
    have:b'≠b:=fun hbb=>by rw [hbb,hb] at e2; simp at e2
    rw [ZvP s d this]; exact e2
   ·exact ⟨t,e1,.inr e2⟩
 ·have key:∀ k o1 b',(σ.set (some o) nx).get k=some o1→(η.put nx (.tip b)) k=some (.tip b')→k≠nx→σ.get k=some o1∧η k=some (.tip b'):=fun k o1 b' h e hne=>by
   rcases T.get_set h with ⟨rfl,_⟩ | ⟨_,h⟩
   ·exact absurd rfl hne
   ·exact ⟨h,by simpa only [Nm.put,hne,if_false] using e⟩
  by_cases c1:k1=nx <;> by_cases c2:k2=nx
  ·rw [c1,c2]
  ·exfalso
   obtain ⟨q1,q2⟩:=key k2 o2 b' h2 e2 c2
   rw [c1,Nm.put_same] at e1
   simp only [ZvD,Tok.tip.injEq] at e1
   subst e1
   exact x.fresh hb q1 q2
  ·exfalso
   obtain ⟨q1,q2⟩:=key k1 o1 b' h1 e1 c1
   rw [c2,Nm.put_same] at e2
   simp only [ZvD,Tok.tip.injEq] at e2
   subst e2
   exact x.fresh hb q1 q2
  ·obtain ⟨q1,q2⟩:=key k1 o1 b' h1 e1 c1
   obtain ⟨q3,q4⟩:=key k2 o2 b' h2 e2 c2
   exact x.inj k1 k2 o1 o2 b' q1 q3 q2 q4
 ·obtain ⟨h1,h2⟩:=x'.kp c e hc
  have hcb:c≠b:=fun ec=>by rw [ec,hb] at h1; simp at h1
  refine ⟨by rw [ZvP s d hcb]; exact h1,fun k o1 h hr1 e1=>?_⟩
  rcases T.get_set h with ⟨rfl,_⟩ | ⟨_,h⟩
  ·rw [Nm.put_same] at e1
   simp only [ZvD,Tok.tip.injEq] at e1
   exact hcb e1.symm
  ·exact h2 k o1 h hr1 e1
 ·rcases T.get_set h with ⟨rfl,h1⟩ | ⟨_,h⟩
  ·simp only [ZvD] at h1; subst h1; simp [ZaW] at hr
  ·exact x'.ro k o1 c h e
end
section
variable {η:Nm} {L:Loc} {ρ:T W} {ρd:Env}
theorem ZtF {x:Option W} {v:V} (h:wV x=some v):x=some (.v v):=by
 unfold wV at h
 split at h
 ·split at h <;> simp only [ZvD,reduceCtorEq] at h
  subst h; rfl
 ·simp at h
theorem KZ (hρ:YI η L ρ ρd) {x:Opd} {v:V} (h:(WA x).run ρ=some v):∃ p d,ZV ρd true x=some (p,.d d)∧p∧VR η v d:=by
 cases x with
 | cst d =>
  simp only [WA] at h
  split at h <;> simp only [ZvD,reduceCtorEq] at h
  subst h
  exact ⟨True,d,rfl,trivial,ZfK ‹_›⟩
 | tmp t =>
  simp only [WA] at h
  obtain ⟨e,h1,d,h2,rfl | rfl⟩:=hρ t _ (ZtF h) rfl
  ·exact ⟨True,d,by simp only [ZV,h1],trivial,h2⟩
  ·exact ⟨True→True,d,by simp only [ZV,h1],fun _=>trivial,h2⟩
theorem ZaQ (hρ:YI η L ρ ρd):∀ {xs:List Opd} {vs:List V},(ZbD xs).run ρ=some vs→∃ p ds,Wc ρd true xs=some (p,ds.map .d)∧p∧VRs η vs ds
 | [],vs,h=>by
  simp only [ZbD,ZvD] at h
  subst h
  exact ⟨True,[],rfl,trivial,.nil⟩
 | x :: xs,vs,h=>by
  simp only [ZbD] at h
  split at h <;> (try (simp at h; done))
  rename_i v h1
  split at h <;> simp only [ZvD,reduceCtorEq] at h
  rename_i vs' h2
  subst h
  obtain ⟨p,d,a1,a2,a3⟩:=KZ hρ h1
  obtain ⟨q,ds,b1,b2,b3⟩:=ZaQ hρ h2
  exact ⟨p∧q,d :: ds,by simp only [Wc,a1,b1,List.map_cons],⟨a2,b2⟩,.cons _ _ _ _ a3 b3⟩
theorem ZaU:∀ (ds:List D),K4 (ds.map .d)=some ds
 | []=>rfl
 | d :: ds=>by simp only [List.map_cons,K4,ZaU ds,Option.map_some]
theorem Zmi (hρ:YI η L ρ ρd) {g:Option (Nat × Bool)} {b:Bool} (h:(Zhs g).run ρ=some b):Zu ρd g=some b:=by
 cases g with
 | none=>simpa only [Zhs,Zu] using h
 | some x =>
  obtain ⟨t,want⟩:=x
  simp only [Zhs] at h
  split at h <;> (try (simp at h; done))
  rename_i w hw
  cases w with
  | v x =>
   obtain ⟨e,h1,h2⟩:=hρ t _ hw rfl
   cases x <;> simp only [reduceCtorEq,ZvD] at h
   subst h
   obtain ⟨d,h3,rfl | rfl⟩:=h2 <;> cases h3
   ·simp only [Zu,h1]
   ·simp only [Zu,h1,ZvU]
  | loc l o=>simp at h
  | skip =>
   obtain ⟨e,h1,h2⟩:=hρ t _ hw rfl
   simp only [ZvD] at h
   subst h
   have h2':e = .when false (.d (.bool false)):=h2
   subst h2'
   simp only [Zu,h1,Bool.false_and]
theorem J2 (hρ:YI η L ρ ρd) {w:W} {e:E} (hw:WR η L w e) (dst:Option Nat):YI η L ((Zct dst).run ρ w) (ZQ ρd dst e):=by
 cases dst with
 | none=>exact hρ
 | some t =>
  intro t' w' h hl
  rcases T.get_set (t:=ρ) (x:=some w) (k:=t) h with ⟨rfl,h1⟩ | ⟨hne,h1⟩
  ·simp only [ZvD] at h1; subst h1
   exact ⟨e,by simp [ZQ,Ye],hw⟩
  ·obtain ⟨e',h2,h3⟩:=hρ t' w' h1 hl
   exact ⟨e',by simp only [ZQ,Ye]; rw [if_neg (Ne.symm hne)]; exact h2,h3⟩
theorem Zr9 (hρ:YI η L ρ ρd) {x:Opd} {c:Bool} (h:(ZfL x).run ρ=true) (hc:c=false):∃ p z,ZV ρd c x=some (p,.d (.bool z))∧p:=by
 subst hc
 cases x with
 | cst d =>
  cases d <;> simp only [ZfL,Bool.false_eq_true] at h
  exact ⟨True,_,rfl,trivial⟩
 | tmp t =>
  simp only [ZfL] at h
  split at h <;> (try (simp at h; done))
  rename_i w hw
  cases w with
  | v x =>
   obtain ⟨e,h1,h2⟩:=hρ t _ hw rfl
   cases x <;> simp only [Bool.false_eq_true] at h
   obtain ⟨d,h3,rfl | rfl⟩:=h2 <;> cases h3
   ·exact ⟨True,_,by simp only [ZV,h1]; rfl,trivial⟩
   ·exact ⟨_,_,by simp only [ZV,h1]; rfl,fun h=>by simp at h⟩
  | loc l o=>simp at h
  | skip =>
   obtain ⟨e,h1,h2⟩:=hρ t _ hw rfl
   have h2':e = .when false (.d (.bool false)):=h2
   subst h2'
   exact ⟨_,_,by simp only [ZV,h1]; rfl,fun h=>by simp at h⟩
end
end Go.DL
namespace Go.DL
open Go
variable [Znt]
theorem K5 {vs:List V} {f:V→Option V} {v:V} (h:a1 vs f=some v):∃ x,vs=[x]∧f x=some v:=by
 unfold a1 at h
 split at h
 ·exact ⟨_,rfl,h⟩
 ·simp at h
theorem Zdd {vs:List V} {f:V→V→Option V} {v:V} (h:a2 vs f=some v):∃ x y,vs=[x,y]∧f x y=some v:=by
 unfold a2 at h
 split at h
 ·exact ⟨_,_,rfl,h⟩
 ·simp at h
theorem ZL {α:Type} {b:Bool} {r:Option α} {v:α} (h:noV b r=some v):b=true∧r=some v:=by
 cases b <;> simp only [noV,if_true,if_false,Bool.false_eq_true,reduceCtorEq] at h
 exact ⟨rfl,h⟩
theorem ZbY {i:Int} {n:Nat} {r:Option V} {v:V} (h:ZeU i n r=some v):0≤i∧i < n∧r=some v:=by
 unfold ZeU at h
 split at h <;> (try (simp at h; done))
 rename_i hb
 simp only [ZvN,ZfI,decide_eq_true_eq,Bool.not_eq_true',decide_eq_false_iff_not] at hb
 exact ⟨hb.1,by omega,h⟩
theorem K2 {a b:Nat}:Nat.ble a b=true↔a≤b:=by rw [Nat.ble_eq]
theorem ZY {a b:Nat}:Nat.beq a b=true↔a=b:=by rw [Nat.beq_eq]
theorem J1 {a b:Int}:leI a b=true↔a≤b:=by rw [ZfI,decide_eq_true_eq]
theorem JZ {a b:Int}:eqI a b=true↔a=b:=by rw [Zhj,decide_eq_true_eq]
theorem ZuU (a b:Int):Int.sub a b=a - b:=rfl
section
variable {C:Px} {η:Nm} {σ:S} {s:St} {L:Loc}
theorem ZdH {b:Nat} {f:List V→Option V} {v:V} (h:Zhb σ b f=some v):∃ cs,Zak (σ.get b)=some cs∧f cs=some v:=by
 unfold Zhb at h
 split at h
 ·rename_i hg; exact ⟨_,hg,h⟩
 ·simp at h
theorem Zf6 (hS:Sim C η σ s) {k b:Nat} {cs:List V} (h:Zak (σ.get k)=some cs) (hb:η k=some (.tip b)):∃ ds ex,YS s b=some (ds++ex)∧VRs η cs ds:=by
 obtain ⟨ds,ex,h1,h2⟩:=hS.cells h hb
 exact ⟨ds,ex,by simp only [YS,h1],h2⟩
theorem ZfG {cs:List V} {ds:List D} (ex:List D) (h:VRs η cs ds) {o:Nat} {v:V} (hv:Zgl o cs=some v):∃ d,(ds++ex)[o]? = some d∧VR η v d:=by
 rw [Ziu] at hv
 obtain ⟨d,h1,h2⟩:=h.get hv
 refine ⟨d,?_,h2⟩
 rw [List.getElem?_append_left (List.getElem?_eq_some_iff.1 h1).1]; exact h1
theorem Zoz {ds ex:List D} {o n:Nat} (h:o + n≤ds.length):part (ds++ex) o n=part ds o n:=by
 unfold part
 rw [List.drop_append_of_le_length (by omega),List.take_append_of_le_length (by simp; omega)]
theorem Zjd {ds ex ys:List D} {o:Nat} (h:o + ys.length≤ds.length):ZC (ds++ex) o ys=ZC ds o ys++ex:=by
 unfold ZC
 rw [List.take_append_of_le_length (by omega),List.drop_append_of_le_length (by omega),List.append_assoc,List.append_assoc,List.append_assoc]
theorem ZiF {cs:List V} {ds:List D} (ex:List D) (h:VRs η cs ds) {o n:Nat} {v:V} (hv:Zh9 cs o n=some v):o + n≤(ds++ex).length∧VR η v (.agg (part (ds++ex) o n)):=by
 unfold Zh9 at hv
 split at hv <;> simp only [ZvD,reduceCtorEq] at hv
 rename_i r hr
 subst hv
 obtain ⟨h1,h2⟩:=h.partv hr
 exact ⟨by simp; omega,by rw [Zoz h1]; exact .agg _ _ h2⟩
theorem Zbt:∀ {bs:List Bool} {vs:List V} {ds:List D} {r:List (Option Int)},VRs η vs ds→Jp bs vs=some r→K0 bs (ds.map .d)=some r
 | [],vs,ds,r,hv,h=>by
  cases vs with
  | nil=>obtain rfl:=hv.inv0; simpa only [Jp,K0,List.map_nil] using h
  | cons v vs=>simp [Jp] at h
 | true :: bs,vs,ds,r,hv,h=>by
  cases vs with
  | nil=>simp [Jp] at h
  | cons v vs =>
   obtain ⟨d,ds',rfl,h1,h2⟩:=hv.inv
   cases h1 <;> simp only [Jp,reduceCtorEq,ZvO] at h
   obtain ⟨q,hq,rfl⟩:=h
   simp only [List.map_cons,K0,Zbt h2 hq,Option.map_some]
 | false :: bs,vs,ds,r,hv,h=>by
  simp only [Jp,ZvO] at h
  obtain ⟨q,hq,rfl⟩:=h
  simp only [K0,Zbt hv hq,Option.map_some]
theorem Zuu {t n:Nat} {τ:Tok} (h1:η 1=some .full) (ht:t=0∨η t=some τ) {l h:Int} {mx:Option Int}:Zrd t n l h mx=0∨η (Zrd t n l h mx)=some (ZbL τ n l h mx):=by
 unfold Zrd ZbL
 cases mx with
 | some m =>
  simp only [JZ]
  split
  ·exact .inr h1
  ·exact .inl rfl
 | none =>
  simp only [JZ,ZY]
  split
  ·split
   ·rename_i ht1
    subst ht1
    rcases ht with h | h
    ·simp at h
    ·rw [h1] at h
     simp only [ZvD] at h
     subst h; exact .inr h1
   ·split
    ·rcases ht with h | h
     ·exact .inl h
     ·refine .inr ?_
      cases τ <;> simp_all
    ·exact .inl rfl
  ·exact .inl rfl
theorem Zsp (h1:η 1=some .full) {z:Nat} {lo hi mx:Option Int} {x v:V} {d:D} (hx:VR η x d) (h:ZoN z lo hi mx x=some v):∃ side r,Za3 z lo hi mx d=some (side,r)∧side∧VR η v r:=by
 cases hx <;> simp only [ZoN,reduceCtorEq] at h
 case nilsl =>
  split at h <;> simp only [ZvD,reduceCtorEq] at h
  rename_i hc
  subst h
  simp only [ZvN,JZ] at hc
  exact ⟨_,_,rfl,⟨hc.1.1,hc.1.2,hc.2⟩,.nilsl⟩
 case sl t n s rs τ row hr hn ht =>
  split at h <;> (try (simp at h; done))
  rename_i hc
  split at h <;> simp only [ZvD,reduceCtorEq] at h
  rename_i r hr'
  subst h
  simp only [ZvN,ZY,J1] at hc
  obtain ⟨⟨⟨⟨rfl,c1⟩,c2⟩,c3⟩,c4⟩:=hc
  rw [JQ] at hr'
  obtain ⟨l1,rfl⟩:=Zan hr'
  simp only [Za3,if_true]
  refine ⟨_,_,rfl,⟨c1,c2,c3,fun m hm=>?_⟩,?_⟩
  ·subst hm
   simp only [ZuZ,ZvN,J1] at c4
   exact c4
  ·refine .sl _ _ _ _ _ _ ((hr.drop (lo.getD 0).toNat).take _) ?_ (Zuu h1 ht)
   rw [List.length_take]
   exact Nat.min_eq_left l1
 case msl k b o n cap s hb =>
  split at h <;> (try (simp at h; done))
  rename_i hc
  split at h <;> simp only [ZvD,reduceCtorEq] at h
  rename_i hc2
  subst h
  simp only [ZvN,ZY,J1] at hc hc2
  obtain ⟨⟨rfl,c1⟩,c2⟩:=hc
  simp only [Za3,if_true]
  refine ⟨_,_,rfl,⟨c1,c2,hc2.1,hc2.2⟩,?_⟩
  by_cases he:mx.getD (cap:Int)=lo.getD 0
  ·rw [if_pos he,if_pos (JZ.2 he)]; exact .msl _ _ _ _ _ _ hb
  ·rw [if_neg he,if_neg (fun h=>he (JZ.1 h))]; exact .msl _ _ _ _ _ _ hb
 case gsl k b o n cap s c hb hb2 hcap hl =>
  split at h <;> (try (simp at h; done))
  rename_i hc
  split at h <;> (try (simp at h; done))
  rename_i hc2
  simp only [ZvN,ZY,J1,ZvW,JZ,Bool.not_eq_true',ZfI,decide_eq_false_iff_not,decide_eq_true_eq] at hc hc2
  obtain ⟨⟨rfl,c1⟩,c2⟩:=hc
  obtain ⟨c3,c4⟩:=hc2
  simp only [Za3,if_true]
  cases mx with
  | none =>
   simp only [ZvD] at h
   subst h
   refine ⟨_,_,rfl,⟨c1,c2,by simp only [Option.getD_none]; omega,by simp⟩,?_⟩
   simp only [Option.getD_none]
   by_cases he:(cap:Int)=lo.getD 0
   ·rw [if_pos he]
    have:o + (lo.getD 0).toNat * s=o∨True:=.inr trivial
    rcases c4 with c4 | c4
    ·rw [c4] at he ⊢
     simp only [Int.toNat_zero,Nat.zero_mul,Nat.add_zero]
     exact .gsl _ _ _ _ _ _ c hb hb2 (by rw [ZuU]; omega) (by have:=Nat.le_trans (Nat.le_add_right o (cap * s)) hl; rw [he]; simpa using this)
    ·omega
   ·rw [if_neg he]
    refine .gsl _ _ _ _ _ _ c hb hb2 (by rw [ZuU]; omega) ?_
    have e:(lo.getD 0).toNat + ((cap:Int) - lo.getD 0).toNat=cap:=by omega
    calc o + (lo.getD 0).toNat * s + ((cap:Int) - lo.getD 0).toNat * s=o + ((lo.getD 0).toNat + ((cap:Int) - lo.getD 0).toNat) * s:=by rw [Nat.add_mul]; omega
     _=o + cap * s:=by rw [e]
     _≤c:=hl
  | some m =>
   simp only at h
   split at h <;> simp only [ZvD,reduceCtorEq] at h
   rename_i hc3
   simp only [ZvN,J1] at hc3
   subst h
   refine ⟨_,_,rfl,⟨c1,c2,by simpa using hc3.1,by simp only [Option.getD_some]; omega⟩,?_⟩
   simp only [Option.getD_some]
   by_cases he:m=lo.getD 0
   ·rw [if_pos he,if_pos (JZ.2 he)]; exact .msl _ _ _ _ _ _ hb
   ·rw [if_neg he,if_neg (fun h=>he (JZ.1 h))]; exact .msl _ _ _ _ _ _ hb
theorem Zn5:∀ {cells:List V} {ps:List (Nat × Nat)} {vs r:List V} {cds ds:List D},VRs η cells cds→VRs η vs ds→Zgc cells ps vs=some r→∃ rd,Za8 cds ps ds=some rd∧VRs η r rd
 | cells,[],vs,r,cds,ds,hc,hv,h=>by
  cases vs with
  | nil =>
   obtain rfl:=hv.inv0
   simp only [Zgc,ZvD] at h
   subst h
   exact ⟨_,rfl,hc⟩
  | cons v vs=>simp [Zgc] at h
 | cells,(o,n) :: ps,vs,r,cds,ds,hc,hv,h=>by
  cases vs with
  | nil=>simp [Zgc] at h
  | cons v vs =>
   obtain ⟨d,ds',rfl,h1,h2⟩:=hv.inv
   simp only [Zgc] at h
   split at h <;> (try (simp at h; done))
   rename_i hp
   split at h <;> (try (simp at h; done))
   rename_i cs hcs
   have hcell:VRs η (ZeI v) (cellsOf d):=by
    cases h1 <;> first | exact .one (by constructor <;> assumption) | assumption
   have hpart:Qi d=true:=by
    cases h1 <;> first | rfl | simp [ZgP] at hp
   obtain ⟨e0,e1,e2⟩:=hc.over hcell hcs
   obtain ⟨rd,e3,e4⟩:=Zn5 e2 h2 h
   refine ⟨rd,?_,e4⟩
   simp only [Za8]
   rw [if_pos ⟨hpart,by rw [← hcell.len,e0],e1⟩]
   exact e3
theorem Zmm {b o n cap:Nat} {cs r:List V} {ds ex:List D} {l:List Nat} (e0:YS s b=some (ds++ex)) (e1:VRs η cs ds) (hle:o + n≤cs.length) (hr:Zbe n (ZbF o cs)=some r) (hl:Zfy r=some l) :
  ∃ side d,qv L s (.conv .b2s) ([D.msl b o n cap 1].map .d)=some (side,.d d)∧side∧VR η (.str l) d:=by
 rw [JQ] at hr
 obtain ⟨l1,rfl⟩:=Zan hr
 have hlen:o + n≤ds.length:=by rw [← e1.len]; exact hle
 obtain ⟨i1,i2⟩:=((e1.drop o).take n).bytes hl
 have hn:((cs.drop o).take n).length=n:=by rw [List.length_take]; exact Nat.min_eq_left l1
 rw [hn] at i1 i2
 have hp:∀ i,i < n→part (ds++ex) (o + i) 1=part ((ds.drop o).take n) i 1:=fun i hi=>by
  rw [Zoz (by omega)]
  unfold part
  rw [List.drop_take,List.take_take,List.drop_drop]
  congr 1; omega
 refine ⟨o + n≤(ds++ex).length∧∀ i,i < n→Zlw (part (ds++ex) (o + i) 1),.str ((List.range n).map fun i=>ZcD (part (ds++ex) (o + i) 1)),by simp only [List.map_cons,List.map_nil,qv,e0,if_true],⟨by simp; omega,fun i hi=>by rw [hp i hi]; exact i1 i hi⟩,?_⟩
 have:((List.range n).map fun i=>ZcD (part (ds++ex) (o + i) 1))=l.map UInt8.ofNat:=by
  rw [i2]
  exact List.map_congr_left fun i hi=>by rw [hp i (by simpa using hi)]
 rw [this]
 exact .str _
theorem ZvB (a b:Int):(if leI a b=true then a else b)=Min.min a b:=by simp only [J1]; exact (Int.min_def a b).symm
theorem ZvA (a b:Int):(if leI a b=true then b else a)=Max.max a b:=by simp only [J1]; exact (Int.max_def a b).symm
theorem ZqN (hS:Sim C η σ s) (h1:η 1=some .full) {q:Q} {vs:List V} {ds:List D} (hv:VRs η vs ds) {v:V} (h:qV q σ vs=some v):∃ side d,qv L s q (ds.map .d)=some (side,.d d)∧side∧VR η v d:=by
 cases q <;> (try simp only [qV] at h)
 case mv =>
  obtain ⟨x,rfl,hh⟩:=K5 h; replace h:=hh; clear hh
  obtain ⟨d,rfl,hx⟩:=hv.inv1
  simp only [ZvD] at h
  subst h
  exact ⟨True,d,rfl,trivial,hx⟩
 case nilck =>
  obtain ⟨x,rfl,hh⟩:=K5 h; replace h:=hh; clear hh
  obtain ⟨d,rfl,hx⟩:=hv.inv1
  cases hx <;> simp only [reduceCtorEq,ZvD] at h <;> subst h
  ·exact ⟨True,_,rfl,trivial,by constructor; assumption⟩
  ·exact ⟨True,_,rfl,trivial,by constructor; assumption⟩
  ·exact ⟨True,_,rfl,trivial,by constructor <;> assumption⟩
  ·exact ⟨True,_,rfl,trivial,by constructor; assumption⟩
 case load1 =>
  obtain ⟨x,rfl,hh⟩:=K5 h; replace h:=hh; clear hh
  obtain ⟨d,rfl,hx⟩:=hv.inv1
  cases hx <;> simp only [reduceCtorEq] at h
  case ep cs o ds hc =>
   obtain ⟨d,e1,e2⟩:=ZfG [] hc h
   rw [List.append_nil] at e1
   exact ⟨True,d,by simp only [List.map_cons,List.map_nil,qv,K3,e1,Option.map_some],trivial,e2⟩
  case ptr k b o hb =>
   obtain ⟨cs,hg,hh⟩:=ZdH h; replace h:=hh; clear hh
   obtain ⟨ds,ex,e0,e1⟩:=Zf6 hS hg hb
   obtain ⟨d,e2,e3⟩:=ZfG ex e1 h
   exact ⟨True,d,by simp only [List.map_cons,List.map_nil,qv,K3,e0,e2,Option.map_some],trivial,e3⟩
 case loadN n =>
  obtain ⟨x,rfl,hh⟩:=K5 h; replace h:=hh; clear hh
  obtain ⟨d,rfl,hx⟩:=hv.inv1
  cases hx <;> simp only [reduceCtorEq] at h
  case ep cs o ds hc =>
   obtain ⟨e1,e2⟩:=ZiF [] hc h
   rw [List.append_nil] at e1 e2
   exact ⟨_,_,by simp only [List.map_cons,List.map_nil,qv,Qe,Option.map_some] <;> rfl,e1,e2⟩
  case ptr k b o hb =>
   obtain ⟨cs,hg,hh⟩:=ZdH h; replace h:=hh; clear hh
   obtain ⟨ds,ex,e0,e1⟩:=Zf6 hS hg hb
   obtain ⟨e2,e3⟩:=ZiF ex e1 h
   exact ⟨_,_,by simp only [List.map_cons,List.map_nil,qv,Qe,e0,Option.map_some] <;> rfl,e2,e3⟩
 case bin op p =>
  obtain ⟨x,y,rfl,hh⟩:=Zdd h; replace h:=hh; clear hh
  obtain ⟨d,d',rfl,hx,hy⟩:=hv.inv2
  obtain ⟨side,r,e1,e2,e3⟩:=Zuf hx hy h
  exact ⟨side,r,by simp only [List.map_cons,List.map_nil,qv,e1,Option.map_some],e2,e3⟩
 case not =>
  obtain ⟨x,rfl,hh⟩:=K5 h; replace h:=hh; clear hh
  obtain ⟨d,rfl,hx⟩:=hv.inv1
  cases hx <;> simp only [reduceCtorEq,ZvD] at h
  subst h
  exact ⟨True,_,rfl,trivial,.bool _⟩
 case neg =>
  obtain ⟨x,rfl,hh⟩:=K5 h; replace h:=hh; clear hh
  obtain ⟨d,rfl,hx⟩:=hv.inv1
  cases hx <;> simp only [reduceCtorEq] at h
  obtain ⟨rfl,hr⟩:=ZbZ h
  exact ⟨_,_,rfl,hr,.int _ _⟩
 case xorm =>
  obtain ⟨x,rfl,hh⟩:=K5 h; replace h:=hh; clear hh
  obtain ⟨d,rfl,hx⟩:=hv.inv1
  cases hx <;> simp only [reduceCtorEq,ZvD] at h
  subst h
  exact ⟨True,_,rfl,trivial,.int _ _⟩
 case conv c =>
  cases c <;> simp only at h
  case int k =>
   obtain ⟨x,rfl,hh⟩:=K5 h; replace h:=hh; clear hh
   obtain ⟨d,rfl,hx⟩:=hv.inv1
   cases hx <;> simp only [reduceCtorEq,ZvD] at h
   subst h
   simp only [List.map_cons,List.map_nil,qv]
   split
   ·exact ⟨True,_,rfl,trivial,.int _ _⟩
   ·exact ⟨True,_,rfl,trivial,.int _ _⟩
  case str =>
   obtain ⟨x,rfl,hh⟩:=K5 h; replace h:=hh; clear hh
   obtain ⟨d,rfl,hx⟩:=hv.inv1
   cases hx <;> simp only [reduceCtorEq,ZvD] at h
   subst h
   exact ⟨True,_,rfl,trivial,.str _⟩
  case i2s =>
   obtain ⟨x,rfl,hh⟩:=K5 h; replace h:=hh; clear hh
   obtain ⟨d,rfl,hx⟩:=hv.inv1
   cases hx <;> simp only [reduceCtorEq] at h
   obtain ⟨hb,hh⟩:=ZL h; replace h:=hh; clear hh
   rw [K2] at hb
   simp only [ZvD] at h
   subst h
   refine ⟨_,_,rfl,hb,?_⟩
   have:=VR.str (η:=η) ((Utf8.encode ‹Int›).data.toList.map UInt8.toNat)
   rwa [Zi8] at this
  case b2s =>
   obtain ⟨x,rfl,hh⟩:=K5 h; replace h:=hh; clear hh
   obtain ⟨d,rfl,hx⟩:=hv.inv1
   cases hx <;> simp only [reduceCtorEq] at h
   case nilsl =>
    simp only [ZvD] at h
    subst h
    exact ⟨True,_,rfl,trivial,.str []⟩
   case sl t n z rs τ row hr hn ht =>
    obtain ⟨hb,hh⟩:=ZL h; replace h:=hh; clear hh
    rw [ZY] at hb
    subst hb
    simp only [ZvO] at h
    obtain ⟨l,hl,rfl⟩:=h
    obtain ⟨e1,e2⟩:=hr.bytes hl
    subst hn
    refine ⟨_,_,by simp only [List.map_cons,List.map_nil,qv,if_true] <;> rfl,e1,?_⟩
    rw [← e2]; exact .str _
   case msl k b o n cap z hb =>
    obtain ⟨hz,hh⟩:=ZL h; replace h:=hh; clear hh
    rw [ZY] at hz
    subst hz
    obtain ⟨cs,hg,hh⟩:=ZdH h; replace h:=hh; clear hh
    obtain ⟨ds,ex,e0,e1⟩:=Zf6 hS hg hb
    obtain ⟨hle,hh⟩:=ZL h; replace h:=hh; clear hh
    rw [K2] at hle
    split at h <;> simp only [reduceCtorEq,ZvO] at h
    rename_i r hr
    obtain ⟨l,hl,rfl⟩:=h
    exact Zmm e0 e1 hle hr hl
   case gsl k b o n cap z c hb hb2 hcap hl =>
    obtain ⟨hz,hh⟩:=ZL h; replace h:=hh; clear hh
    rw [ZY] at hz
    subst hz
    obtain ⟨cs,hg,hh⟩:=ZdH h; replace h:=hh; clear hh
    obtain ⟨ds,ex,e0,e1⟩:=Zf6 hS hg hb
    obtain ⟨hle,hh⟩:=ZL h; replace h:=hh; clear hh
    rw [K2] at hle
    split at h <;> simp only [reduceCtorEq,ZvO] at h
    rename_i r hr
    obtain ⟨l,hl,rfl⟩:=h
    exact Zmm e0 e1 hle hr hl
 case faddr off =>
  obtain ⟨x,rfl,hh⟩:=K5 h; replace h:=hh; clear hh
  obtain ⟨d,rfl,hx⟩:=hv.inv1
  cases hx <;> simp only [reduceCtorEq,ZvD] at h <;> subst h
  ·exact ⟨True,_,rfl,trivial,by constructor; assumption⟩
  ·exact ⟨True,_,rfl,trivial,by constructor; assumption⟩
 case fld1 off =>
  obtain ⟨x,rfl,hh⟩:=K5 h; replace h:=hh; clear hh
  obtain ⟨d,rfl,hx⟩:=hv.inv1
  cases hx <;> simp only [reduceCtorEq] at h
  rename_i cs ds hc
  obtain ⟨d,e1,e2⟩:=ZfG [] hc h
  rw [List.append_nil] at e1
  exact ⟨True,d,by simp only [List.map_cons,List.map_nil,qv,e1,Option.map_some],trivial,e2⟩
 case fldN off n =>
  obtain ⟨x,rfl,hh⟩:=K5 h; replace h:=hh; clear hh
  obtain ⟨d,rfl,hx⟩:=hv.inv1
  cases hx <;> simp only [reduceCtorEq] at h
  rename_i cs ds hc
  obtain ⟨e1,e2⟩:=ZiF [] hc h
  rw [List.append_nil] at e1 e2
  exact ⟨_,_,rfl,e1,e2⟩
 case iaddr z =>
  obtain ⟨x,y,rfl,hh⟩:=Zdd h; replace h:=hh; clear hh
  obtain ⟨d,d',rfl,hx,hy⟩:=hv.inv2
  cases hy <;> simp only [reduceCtorEq] at h
  cases hx <;> simp only [reduceCtorEq] at h
  case int.sl k i t n z' rs τ row hr hn ht =>
   obtain ⟨hz,hh⟩:=ZL h; replace h:=hh; clear hh
   rw [ZY] at hz
   obtain ⟨i0,i1,hh⟩:=ZbY h; replace h:=hh; clear hh
   split at h <;> simp only [reduceCtorEq,ZvD] at h
   rename_i cs hcs
   rw [Ziu] at hcs
   obtain ⟨cs',e1,e2,_⟩:=hr.get hcs
   simp only [V.agg.injEq] at e1
   subst e1; subst h
   exact ⟨_,_,by simp only [List.map_cons,List.map_nil,qv,hz,if_true] <;> rfl,ZvI i0 i1,.ep _ _ _ e2⟩
  case int.msl k i kb b o n cap z' hb =>
   obtain ⟨hz,hh⟩:=ZL h; replace h:=hh; clear hh
   rw [ZY] at hz
   obtain ⟨i0,i1,hh⟩:=ZbY h; replace h:=hh; clear hh
   simp only [ZvD] at h
   subst h
   exact ⟨_,_,by simp only [List.map_cons,List.map_nil,qv,hz,if_true] <;> rfl,ZvI i0 i1,.ptr _ _ _ hb⟩
  case int.gsl k i kb b o n cap z' c hb hb2 hcap hl =>
   obtain ⟨hz,hh⟩:=ZL h; replace h:=hh; clear hh
   rw [ZY] at hz
   obtain ⟨i0,i1,hh⟩:=ZbY h; replace h:=hh; clear hh
   simp only [ZvD] at h
   subst h
   exact ⟨_,_,by simp only [List.map_cons,List.map_nil,qv,hz,if_true] <;> rfl,ZvI i0 i1,.ptr _ _ _ hb⟩
 case iaddrA m z =>
  obtain ⟨x,y,rfl,hh⟩:=Zdd h; replace h:=hh; clear hh
  obtain ⟨d,d',rfl,hx,hy⟩:=hv.inv2
  cases hy <;> simp only [reduceCtorEq] at h
  cases hx <;> simp only [reduceCtorEq] at h <;> obtain ⟨i0,i1,h⟩:=ZbY h <;> simp only [ZvD] at h <;> subst h
  ·exact ⟨_,_,rfl,ZvI i0 i1,by constructor; assumption⟩
  ·exact ⟨_,_,rfl,ZvI i0 i1,by constructor; assumption⟩
 case idxA m z one =>
  obtain ⟨x,y,rfl,hh⟩:=Zdd h; replace h:=hh; clear hh
  obtain ⟨d,d',rfl,hx,hy⟩:=hv.inv2
  cases hy <;> simp only [reduceCtorEq] at h
  cases hx <;> simp only [reduceCtorEq] at h
  rename_i k i cs ds hc
  obtain ⟨i0,i1,hh⟩:=ZbY h; replace h:=hh; clear hh
  cases one
  ·simp only [Bool.false_eq_true,if_false] at h
   obtain ⟨e1,e2⟩:=ZiF [] hc h
   rw [List.append_nil] at e1 e2
   exact ⟨_,_,rfl,⟨i0,i1,e1⟩,e2⟩
  ·simp only [if_true] at h
   obtain ⟨d,e1,e2⟩:=ZfG [] hc h
   rw [List.append_nil] at e1
   exact ⟨_,d,by simp only [List.map_cons,List.map_nil,qv,e1,Option.map_some] <;> rfl,ZvI i0 i1,e2⟩
 case sliceA m z lo hi mx =>
  cases vs with
  | nil=>simp at h
  | cons x r =>
  obtain ⟨d,ds',rfl,hx,hr⟩:=hv.inv
  cases hx <;> simp only [reduceCtorEq] at h
  rename_i k b o hb
  split at h <;> (try (simp at h; done))
  rename_i l hh mm hi'
  obtain ⟨hc,hh⟩:=ZL h; replace h:=hh; clear hh
  simp only [ZvD] at h
  subst h
  simp only [ZvN,J1,K2] at hc
  have e:=Zbt hr hi'
  simp only [List.map_cons,qv,e]
  refine ⟨_,_,rfl,⟨hc.1.1.1.1,hc.1.1.1.2,hc.1.1.2,hc.1.2,hc.2⟩,?_⟩
  by_cases he:mm.getD (m:Int)=l.getD 0
  ·rw [if_pos he,if_pos (JZ.2 he)]; exact .msl _ _ _ _ _ _ hb
  ·rw [if_neg he,if_neg (fun h=>he (JZ.1 h))]; exact .msl _ _ _ _ _ _ hb
 case idxS =>
  obtain ⟨x,y,rfl,hh⟩:=Zdd h; replace h:=hh; clear hh
  obtain ⟨d,d',rfl,hx,hy⟩:=hv.inv2
  cases hy <;> simp only [reduceCtorEq] at h
  cases hx <;> simp only [reduceCtorEq] at h
  rename_i k i l
  obtain ⟨i0,i1,hh⟩:=ZbY h; replace h:=hh; clear hh
  simp only [ZvD] at h
  subst h
  refine ⟨_,_,rfl,⟨i0,by simpa using i1⟩,?_⟩
  have:(((l.map UInt8.ofNat).getD i.toNat 0).toNat:Int)=Int.ofNat (l.getD i.toNat 0 % 256):=by
   simp only [List.getD,List.getElem?_map]
   cases l[i.toNat]? <;> simp
  rw [this]
  exact .int _ _
 case lenS =>
  obtain ⟨x,rfl,hh⟩:=K5 h; replace h:=hh; clear hh
  obtain ⟨d,rfl,hx⟩:=hv.inv1
  cases hx <;> simp only [reduceCtorEq,ZvD] at h
  subst h
  refine ⟨True,_,rfl,trivial,?_⟩
  rw [List.length_map]; exact .int _ _
 case lenL =>
  obtain ⟨x,rfl,hh⟩:=K5 h; replace h:=hh; clear hh
  obtain ⟨d,rfl,hx⟩:=hv.inv1
  cases hx <;> simp only [reduceCtorEq,ZvD] at h <;> subst h <;> exact ⟨True,_,rfl,trivial,.int _ _⟩
 case lenA n =>
  obtain ⟨x,rfl,hh⟩:=K5 h; replace h:=hh; clear hh
  obtain ⟨d,rfl,hx⟩:=hv.inv1
  obtain ⟨hb,hh⟩:=ZL h; replace h:=hh; clear hh
  rw [K2] at hb
  simp only [ZvD] at h
  subst h
  exact ⟨_,_,rfl,QK hb,.int _ _⟩
 case ext k =>
  obtain ⟨x,rfl,hh⟩:=K5 h; replace h:=hh; clear hh
  obtain ⟨d,rfl,hx⟩:=hv.inv1
  cases hx <;> simp only [reduceCtorEq] at h
  rename_i cs ds hc
  obtain ⟨d,e1,e2⟩:=ZfG [] hc h
  rw [List.append_nil] at e1
  exact ⟨True,d,by simp only [List.map_cons,List.map_nil,qv,e1,Option.map_some],trivial,e2⟩
 case build zero parts =>
  cases hz:ofDs zero <;> simp only [hz,reduceCtorEq,ZvO] at h
  rename_i z
  obtain ⟨r,hr,rfl⟩:=h
  obtain ⟨rd,e1,e2⟩:=Zn5 (ofDs_ok hz) hv hr
  exact ⟨True,_,by simp only [qv,ZaU,e1,Option.map_some] <;> rfl,trivial,.agg _ _ e2⟩
 case mkfn f k =>
  cases f <;> simp only [reduceCtorEq,ZvD] at h
  subst h
  exact ⟨True,_,by simp only [qv,ZaU,Option.map_some] <;> rfl,trivial,.fn _ _ _ _ _ (hv.take k) (hv.drop k)⟩
 case mkif t =>
  obtain ⟨x,rfl,hh⟩:=K5 h; replace h:=hh; clear hh
  obtain ⟨d,rfl,hx⟩:=hv.inv1
  simp only [ZvD] at h
  subst h
  exact ⟨True,_,rfl,trivial,.iface _ _ _ hx⟩
 case sliceS lo hi =>
  cases vs with
  | nil=>simp at h
  | cons x r =>
  obtain ⟨d,ds',rfl,hx,hr⟩:=hv.inv
  cases hx <;> simp only [reduceCtorEq] at h
  rename_i l
  split at h <;> (try (simp at h; done))
  rename_i a b c hi'
  obtain ⟨hc,hh⟩:=ZL h; replace h:=hh; clear hh
  simp only [ZvD] at h
  subst h
  simp only [ZvN,J1] at hc
  have e:=Zbt hr hi'
  simp only [List.map_cons,qv,e,List.length_map]
  refine ⟨_,_,rfl,⟨hc.1.1,hc.1.2,hc.2⟩,?_⟩
  rw [← List.map_drop,← List.map_take]
  exact .str _
 case slice z lo hi mx =>
  cases vs with
  | nil=>simp at h
  | cons x r =>
  obtain ⟨d,ds',rfl,hx,hr⟩:=hv.inv
  simp only at h
  split at h <;> (try (simp at h; done))
  rename_i l hh m hi'
  have e:=Zbt hr hi'
  obtain ⟨side,r',e1,e2,e3⟩:=Zsp h1 hx h
  exact ⟨side,r',by simp only [List.map_cons,qv,e,e1,Option.map_some],e2,e3⟩
 case min =>
  obtain ⟨x,y,rfl,hh⟩:=Zdd h; replace h:=hh; clear hh
  obtain ⟨d,d',rfl,hx,hy⟩:=hv.inv2
  cases hx <;> simp only [reduceCtorEq] at h
  cases hy <;> simp only [reduceCtorEq] at h
  obtain ⟨hk,hh⟩:=ZL h; replace h:=hh; clear hh
  obtain rfl:=Zei hk
  simp only [ZvD] at h
  subst h
  refine ⟨True,_,by simp only [List.map_cons,List.map_nil,qv,if_true] <;> rfl,trivial,?_⟩
  rw [ZvB]; exact .int _ _
 case max =>
  obtain ⟨x,y,rfl,hh⟩:=Zdd h; replace h:=hh; clear hh
  obtain ⟨d,d',rfl,hx,hy⟩:=hv.inv2
  cases hx <;> simp only [reduceCtorEq] at h
  cases hy <;> simp only [reduceCtorEq] at h
  obtain ⟨hk,hh⟩:=ZL h; replace h:=hh; clear hh
  obtain rfl:=Zei hk
  simp only [ZvD] at h
  subst h
  refine ⟨True,_,by simp only [List.map_cons,List.map_nil,qv,if_true] <;> rfl,trivial,?_⟩
  rw [ZvA]; exact .int _ _
 case tassert t ok zero =>
  cases ok <;> simp only at h
  ·obtain ⟨x,rfl,hh⟩:=K5 h; replace h:=hh; clear hh
   obtain ⟨d,rfl,hx⟩:=hv.inv1
   cases hx <;> simp only [reduceCtorEq] at h
   obtain ⟨ht,hh⟩:=ZL h; replace h:=hh; clear hh
   rw [ZY] at ht
   simp only [ZvD] at h
   subst h
   exact ⟨True,_,by simp only [List.map_cons,List.map_nil,qv,ht,if_true] <;> rfl,trivial,by assumption⟩
  ·obtain ⟨x,rfl,hh⟩:=K5 h; replace h:=hh; clear hh
   obtain ⟨d,rfl,hx⟩:=hv.inv1
   cases hx <;> simp only [reduceCtorEq] at h
   ·obtain ⟨ht,hh⟩:=ZL h; replace h:=hh; clear hh
    rw [ZY] at ht
    simp only [ZvD] at h
    subst h
    exact ⟨True,_,by simp only [List.map_cons,List.map_nil,qv,ht,if_true] <;> rfl,trivial,.tup _ _ (.cons _ _ _ _ ‹_› (.one (.bool _)))⟩
   ·simp only [ZvO] at h
    obtain ⟨z,hz,rfl⟩:=h
    exact ⟨True,_,rfl,trivial,.tup _ _ (.cons _ _ _ _ (ZfK hz) (.one (.bool _)))⟩
 case lookup kp zero ok =>
  cases hz:ofD zero <;> simp only [hz,reduceCtorEq] at h
  rename_i z
  obtain ⟨x,y,rfl,hh⟩:=Zdd h; replace h:=hh; clear hh
  obtain ⟨d,d',rfl,hx,hy⟩:=hv.inv2
  obtain ⟨hk,hh⟩:=ZL h; replace h:=hh; clear hh
  have hko:=ZeX hy hk
  cases hx <;> simp only [reduceCtorEq] at h
  ·rename_i k b hb
   split at h <;> simp only [reduceCtorEq,ZvO] at h
   rename_i es hes
   obtain ⟨r,hr,rfl⟩:=h
   obtain ⟨es',e1,e2⟩:=hS.mapO hes hb
   obtain ⟨r',e3,e4⟩:=Zn8 hy e2 hr
   exact ⟨_,_,by simp only [List.map_cons,List.map_nil,qv,QM,e1,e3,Option.map_some] <;> rfl,hko,Zom (ZfK hz) e4⟩
  ·simp only [ZvD] at h
   subst h
   exact ⟨_,_,rfl,hko,Zom (r':=none) (ZfK hz) trivial⟩
 case lenM =>
  obtain ⟨x,rfl,hh⟩:=K5 h; replace h:=hh; clear hh
  obtain ⟨d,rfl,hx⟩:=hv.inv1
  cases hx <;> simp only [reduceCtorEq] at h
  ·rename_i k b hb
   split at h <;> (try (simp at h; done))
   rename_i es hes
   obtain ⟨hl,hh⟩:=ZL h; replace h:=hh; clear hh
   rw [K2] at hl
   simp only [ZvD] at h
   subst h
   obtain ⟨es',e1,e2⟩:=hS.mapO hes hb
   refine ⟨_,_,by simp only [List.map_cons,List.map_nil,qv,QM,e1] <;> rfl,by rw [← e2.len]; exact hl,?_⟩
   rw [← e2.len]; exact .int _ _
  ·simp only [ZvD] at h
   subst h
   exact ⟨True,_,rfl,trivial,.int _ _⟩
end
end Go.DL
namespace Go.DL
open Go
variable [Znt]
section
variable {C:Px} {η:Nm} {σ:S} {s:St} {L:Loc} {ρ:T W} {ρd:Env} {nx:Nat}
theorem Zsy:∀ (l:List Nat) (k:Nat),VRr η 1 (u8V (l.drop k)) (fun i=>[D.int .u8 (((l.map UInt8.ofNat).getD (k + i) 0).toNat:Int)])
 | l,k=>by
  have key:∀ (m:List Nat) (k:Nat),l.drop k=m→VRr η 1 (u8V m) (fun i=>[D.int .u8 (((l.map UInt8.ofNat).getD (k + i) 0).toNat:Int)]):=by
   intro m
   induction m with
   | nil=>intro k _; exact .nil _ _
   | cons a m ih =>
    intro k hk
    have h1:l[k]? = some a:=by
     have:=congrArg (fun x=>x[0]?) hk
     simpa using this
    have h2:l.drop (k + 1)=m:=by
     have:=congrArg List.tail hk
     simpa using this
    refine .cons 1 _ _ _ ?_ rfl ((ih (k + 1) h2).congr fun i _=>by rw [show k + 1 + i=k + (i + 1) by omega])
    have:(((l.map UInt8.ofNat).getD (k + 0) 0).toNat:Int)=Int.ofNat (a % 256):=by
     simp [List.getD,h1]
    rw [this]
    exact .one (.int _ _)
  exact key _ k rfl
theorem ZpN {z:List V} {zd:List D} (hz:VRs η z zd) {i:Nat}:∀ {is:List Nat} {vs:List V} {ds:List D},VRs η vs ds→VRs η (Zfi z (is.zip vs) i) (Wm zd (is.zip ds) i)
 | [],vs,ds,h=>by simpa [Zfi,Wm] using hz
 | k :: is,vs,ds,h=>by
  cases vs with
  | nil=>obtain rfl:=h.inv0; simpa [Zfi,Wm] using hz
  | cons v vs =>
   obtain ⟨d,ds',rfl,h1,h2⟩:=h.inv
   simp only [List.zip_cons_cons,Zfi,Wm]
   by_cases hk:k=i
   ·rw [if_pos hk,if_pos (ZY.2 hk)]
    cases h1 <;> first | exact .one (by constructor <;> assumption) | assumption
   ·rw [if_neg hk,if_neg (fun h=>hk (ZY.1 h))]
    exact ZpN hz h2
theorem Zid {v:V} {d:D} (h:VR η v d):VRs η (ZeI v) (cellsOf d):=by
 cases h <;> first | exact .one (by constructor <;> assumption) | assumption
theorem ZjV {v:V} {d:D} (h:VR η v d) (hp:ZgP v=true):Qi d=true:=by
 cases h <;> first | rfl | simp [ZgP] at hp
theorem ZjU {v:V} {d:D} (h:VR η v d) (hp:Zna v=true):Jb d=true:=by
 cases h <;> first | rfl | simp [Zna] at hp
theorem ZhC {n:Nat}:∀ {vs:List V} {ds:List D},VRs η vs ds→Zeo n vs=true→Q2 n ds=true
 | [],ds,h,hp=>by obtain rfl:=h.inv0; rfl
 | v :: vs,ds,h,hp=>by
  obtain ⟨d,ds',rfl,h1,h2⟩:=h.inv
  simp only [Zeo,ZvN,ZY] at hp
  simp only [Q2,ZvN,decide_eq_true_eq]
  exact ⟨⟨ZjV h1 hp.1.1,by rw [← (Zid h1).len]; exact hp.1.2⟩,ZhC h2 hp.2⟩
theorem Zok {n:Nat} {z:List V} (hz:z.length=n) {i:Nat}:∀ {is:List Nat} {vs:List V},Zeo n vs=true→(Zfi z (is.zip vs) i).length=n
 | [],vs,_=>by simpa [Zfi] using hz
 | k :: is,[],_=>by simpa [Zfi] using hz
 | k :: is,v :: vs,hp=>by
  simp only [Zeo,ZvN,ZY] at hp
  simp only [List.zip_cons_cons,Zfi]
  split
  ·exact hp.1.2
  ·exact Zok hz hp.2
theorem ZjC {n:Nat} {z:List V} {zd:List D} (hz:VRs η z zd) (hzl:z.length=n) {is:List Nat} {vs:List V} {ds:List D} (hv:VRs η vs ds) (hp:Zeo n vs=true):∀ (len i:Nat),VRr η n (Ziv z (is.zip vs) len i) (fun j=>Wm zd (is.zip ds) (i + j))∧(Ziv z (is.zip vs) len i).length=len
 | 0,i=>⟨.nil _ _,rfl⟩
 | len + 1,i=>by
  obtain ⟨h1,h2⟩:=ZjC hz hzl hv hp len (i + 1)
  refine ⟨.cons _ _ _ _ (ZpN hz hv) (Zok hzl hp) (h1.congr fun j _=>by rw [show i + 1 + j=i + (j + 1) by omega]),by simp [Ziv,h2]⟩
theorem Zmo (hS:Sim C η σ s) (h1:η 1=some .full) (hρ:YI η L ρ ρd) {dst:Option Nat} {g:Option (Nat × Bool)} (hg:Zu ρd g=some true) {k:K} {r:R3} (hk:WW k=true) {db:Bool} (h:(opF false db k).run ρ σ nx=some r) :
  r.σ=σ∧r.nx=nx∧∃ side e,side∧ZU ⟨dst,g,k⟩ ρd L s = .ok side (ZQ ρd dst e) L s∧WR η L (.v r.v) e:=by
 have fin:∀ {side:Prop} {d:D} {v:V},side→VR η v d→ZU ⟨dst,g,k⟩ ρd L s=(match g with
   | none=>.ok side (ZQ ρd dst (.d d)) L s
   | some _=>.ok (true=true→side) (ZQ ρd dst (.when true (.d d))) L s)→∃ side e,side∧ZU ⟨dst,g,k⟩ ρd L s = .ok side (ZQ ρd dst e) L s∧WR η L (.v v) e:=by
  intro side d v hs hv hst
  cases g with
  | none=>exact ⟨side,.d d,hs,hst,d,hv,.inl rfl⟩
  | some x=>exact ⟨_,.when true (.d d),fun _=>hs,hst,d,hv,.inr rfl⟩
 cases k <;> simp only [WW,Bool.false_eq_true] at hk
 case q q xs =>
  simp only [opF] at h
  split at h <;> (try (simp at h; done))
  rename_i vs hvs
  split at h <;> simp only [ZvD,reduceCtorEq] at h
  rename_i v hv
  subst h
  obtain ⟨p,ds,a1,a2,a3⟩:=ZaQ hρ hvs
  obtain ⟨side,d,b1,b2,b3⟩:=ZqN (L:=L) hS h1 a3 hv
  refine ⟨rfl,rfl,fin (side:=p∧side) ⟨a2,b2⟩ b3 ?_⟩
  unfold ZU
  simp only [hg,a1,b1]
  cases g <;> rfl
 case pick c a b =>
  simp only [opF] at h
  unfold mp2 at h
  split at h <;> (try (simp at h; done))
  rename_i cv hc
  obtain ⟨pc,dc,c1,c2,c3⟩:=KZ hρ hc
  cases c3 <;> simp only [reduceCtorEq] at h
  rename_i cb
  have key:∀ {x y:Opd} {yb:Bool},(ZfL x).run ρ=true→(WA y).run ρ=some (.bool yb)→(∃ p z,ZV ρd false x=some (p,.d (.bool z))∧p)∧∃ p,ZV ρd true y=some (p,.d (.bool yb))∧p:=by
   intro x y yb hx hy
   obtain ⟨p,d,e1,e2,e3⟩:=KZ hρ hy
   cases e3
   exact ⟨Zr9 hρ hx rfl,p,e1,e2⟩
  cases cb
  ·simp only at h
   obtain ⟨hb,h⟩:=ZL h
   split at h <;> (try (simp at h; done))
   rename_i yv hy
   split at h <;> simp only [ZvD,reduceCtorEq] at h
   subst h
   obtain ⟨⟨p1,z,e1,e2⟩,p2,e3,e4⟩:=key hb hy
   refine ⟨rfl,rfl,fin (side:=pc∧p1∧p2) ⟨c2,e2,e4⟩ (.bool _) ?_⟩
   unfold ZU Zc8
   simp only [hg,c1,ZvU,Bool.not_false,Bool.and_self,e1,e3,Bool.false_eq_true,if_false]
   cases g <;> rfl
  ·simp only at h
   obtain ⟨hb,h⟩:=ZL h
   split at h <;> (try (simp at h; done))
   rename_i yv hy
   split at h <;> simp only [ZvD,reduceCtorEq] at h
   subst h
   obtain ⟨⟨p1,z,e1,e2⟩,p2,e3,e4⟩:=key hb hy
   refine ⟨rfl,rfl,fin (side:=pc∧p2∧p1) ⟨c2,e4,e2⟩ (.bool _) ?_⟩
   unfold ZU Zc8
   simp only [hg,c1,ZvU,Bool.not_true,Bool.and_false,Bool.and_self,e1,e3,if_true]
   cases g <;> rfl
 case bsl len n z is xs =>
  simp only [opF] at h
  cases hz:ofDs z <;> simp only [hz,reduceCtorEq] at h
  rename_i zv
  split at h <;> (try (simp at h; done))
  rename_i vs hvs
  obtain ⟨hb,h⟩:=ZL h
  simp only [Bool.false_and,Bool.false_eq_true,if_false,ZvD] at h
  subst h
  simp only [ZvN,ZY] at hb
  obtain ⟨p,ds,a1,a2,a3⟩:=ZaQ hρ hvs
  obtain ⟨l1,l2⟩:=ZjC (is:=is) (ofDs_ok hz) hb.2 a3 hb.1 len 0
  refine ⟨rfl,rfl,fin (side:=p∧Q2 n ds=true) ⟨a2,ZhC a3 hb.1⟩ (.sl 1 len n _ .full (Wm z (is.zip ds)) (l1.congr fun i _=>by rw [Nat.zero_add]) l2 (.inr h1)) ?_⟩
  unfold ZU
  simp only [hg,a1,ZaU]
  cases g <;> rfl
 case s2b x =>
  simp only [opF] at h
  unfold mp2 at h
  split at h <;> (try (simp at h; done))
  rename_i xv hx
  obtain ⟨p,d,a1,a2,a3⟩:=KZ hρ hx
  cases a3 <;> simp only [reduceCtorEq,ZvD] at h
  rename_i l
  subst h
  refine ⟨rfl,rfl,fin (side:=p) a2 (.sl 0 l.length 1 (u8V l) .none _ (Zsy l 0) (by simp [u8V]) (.inl rfl)) ?_⟩
  unfold ZU
  simp only [hg,a1,List.length_map,Nat.zero_add]
  cases g <;> rfl
end
end Go.DL
namespace Go.DL
open Go
variable [Znt]
def Ks (C:Px) (η:Nm) (r:R3) (e:E) (s2:St):Prop:=∃ η',η.Sub η'∧Wq η' r.nx∧Sim C η' r.σ s2∧∃ d,VR η' r.v d∧e = .d d
theorem OR.cells0 {C:Cx} {η:Nm} {k:Nat} {vs:List V} {ds:List D} (h:VRs η vs ds):OR C η k (.cells vs) (.cells ds):=by
 simpa using OR.cells (C:=C) (k0:=k) vs ds [] h
theorem Zfq {cs ys:List D} {o:Nat} (h:o + ys.length≤cs.length):(ZC cs o ys).length=cs.length:=by
 simp [ZC]; omega
theorem QO {s:St} {b:Nat} {cs:List D} (h:s b=some (.cells cs)):YS s b=some cs:=by simp only [YS,h]
section
variable {C:Px} {η:Nm} {σ:S} {s:St} {L:Loc} {ρ:T W} {ρd:Env} {nx:Nat}
theorem Kv {x:Option V} {f:V→Option R3} {r:R3} (h:mp2 x f=some r):∃ v,x=some v∧f v=some r:=by
 cases x with
 | none=>simp [mp2] at h
 | some v=>exact ⟨v,rfl,h⟩
theorem Zic {x:Option S} {v:V} {r:R3} (h:up x v nx=some r):∃ σ',x=some σ'∧r=⟨v,σ',nx⟩:=by
 cases x with
 | none=>simp [up] at h
 | some σ'=>simp only [up,ZvD] at h; exact ⟨σ',rfl,h.symm⟩
theorem Ks.new (hS:Sim C η σ s) (hN:Wq η nx) {b:Nat} (hb:s b=none) {o:O} {d:Y6} (ho:OR C (η.put nx (.tip b)) nx o d) {v:V} {e:D} (hv:VR (η.put nx (.tip b)) v e) (hr:ZaW o=false:=by rfl):Ks C η ⟨v,σ.set (some o) nx,nx + 1⟩ (.d e) (s.upd b d) :=
 ⟨_,Nm.put_sub (hN.free nx (ZvR _)) _,hN.put _,hS.new (hN.free nx (ZvR _)) hb ho hr,e,hv,rfl⟩
theorem Ks.turn (hS:Sim C η σ s) (hN:Wq η nx) {k b:Nat} {o o':O} {d:Y6} (h:σ.get k=some o) (hb:η k=some (.tip b)) (ho:OR C η k o' d) {v:V} {e:D} (hv:VR η v e) (hr:ZaW o=false:=by rfl) (hr':ZaW o'=false:=by rfl):Ks C η ⟨v,σ.set (some o') k,nx⟩ (.d e) (s.upd b d) :=
 ⟨η,Nm.Sub.refl _,hN,hS.upd h hb ho hr hr',e,hv,rfl⟩
theorem Zdr (hS:Sim C η σ s) {a:V} {n:Nat} {xs:List V} {σ':S} (h:Zbz σ a n xs=some σ') {da:D} (ha:VR η a da) {ys:List D} (hx:VRs η xs ys) :
  ∃ b off cs,da = .ptr b off∧YS s b=some cs∧off + ys.length≤cs.length∧ys.length=n∧Sim C η σ' (s.upd b (.cells (ZC cs off ys))):=by
 cases ha <;> simp only [Zbz,reduceCtorEq] at h
 rename_i k b o hb
 split at h <;> (try (simp at h; done))
 all_goals
  rename_i cs hcs
  split at h <;> simp only [reduceCtorEq,ZvD] at h
  rename_i cs' hset
  subst h
  obtain ⟨ds,ex,e1,e2⟩:=hS.cells (vs:=cs) (by rw [hcs]; rfl) hb
  obtain ⟨f0,f1,f2⟩:=e2.over hx hset
  have hl:ys.length=n:=by rw [← hx.len,f0]
  have hset':ZC (ds++ex) o ys=ZC ds o ys++ex:=Zjd (by omega)
  refine ⟨b,o,_,rfl,QO e1,by simp; omega,hl,?_⟩
  rw [hset']
 ·exact hS.upd hcs hb (.cells _ _ _ f2)
 ·refine hS.upd hcs hb (.buf _ _ _ f2 ?_)
  obtain ⟨b',d,g1,g2,g3⟩:=hS.get hcs (fun n=>by simp)
  rw [hb] at g1
  simp only [ZvD,Tok.tip.injEq] at g1
  subst g1
  rw [e1] at g2
  simp only [ZvD] at g2
  subst g2
  generalize hde:(Y6.cells (ds++ex))=dd at g3
  cases g3 with
  | buf _ ds2 ex2 _ hc =>
   simp only [Y6.cells.injEq] at hde
   rw [hc]
   have:(ZC ds o ys++ex).length=(ds2++ex2).length:=by
    rw [← hde,ZvT,ZvT,Zfq (by omega)]
   rw [this]
variable {P:Program} {F:Fr P} {kp:Option (List Nat)} {dk:List Zp} {os:List DOp} {ρ':Env} {L':Loc}
theorem KY (hρ:YI η L ρ ρd) {x:Opd} {v:V} (h:(WA x).run ρ=some v) (hag:ZR ρd ρ' (Yw x)):∃ p d,ZV ρ' true x=some (p,.d d)∧p∧VR η v d:=by
 obtain ⟨p,d,h1,h2,h3⟩:=KZ hρ h
 exact ⟨p,d,by rw [Yi hag]; exact h1,h2,h3⟩
theorem ZrI (hS:Sim C η σ s) (hN:Wq η nx) {dst:Option Nat} {z:List D} {mu:Bool} {r:R3} (h:(opF mu dst.isSome (.alloc z)).run ρ σ nx=some r)
  (hc:∀ e s2,Ks C η r e s2→DO F kp dk os (ZQ ρ' dst e) L' s2):DO F kp dk (⟨dst,none,.alloc z⟩ :: os) ρ' L' s:=by
 simp only [opF] at h
 cases hz:ofDs z <;> simp only [hz,reduceCtorEq] at h
 rename_i zv
 obtain ⟨hd,hh⟩:=ZL h; replace h:=hh; clear hh
 simp only [ZvD] at h
 subst h
 cases dst with
 | none=>simp at hd
 | some t=>exact Zrj rfl rfl rfl fun b hb=>hc (.d (.ptr b 0)) _ (Ks.new hS hN hb (OR.cells0 (ofDs_ok hz)) (.ptr _ _ _ (Nm.put_same _ _ _)))
theorem Zt3 (hS:Sim C η σ s) (hN:Wq η nx) (hρ:YI η L ρ ρd) {dst:Option Nat} {x:Opd} {mu:Bool} {r:R3} (h:(opF mu dst.isSome (.box x)).run ρ σ nx=some r) (hag:ZR ρd ρ' (Yw x))
  (hc:∀ e s2,Ks C η r e s2→DO F kp dk os (ZQ ρ' dst e) L' s2):DO F kp dk (⟨dst,none,.box x⟩ :: os) ρ' L' s:=by
 simp only [opF] at h
 obtain ⟨hd,hh⟩:=ZL h; replace h:=hh; clear hh
 obtain ⟨v,hv,hh⟩:=Kv h; replace h:=hh; clear hh
 obtain ⟨hp,hh⟩:=ZL h; replace h:=hh; clear hh
 simp only [ZvD] at h
 subst h
 obtain ⟨p,d,a1,a2,a3⟩:=KY hρ hv hag
 cases dst with
 | none=>simp at hd
 | some t=>exact ZtG rfl rfl rfl a1 a2 (ZjV a3 hp) fun b hb=>hc (.d (.ptr b 0)) _ (Ks.new hS hN hb (OR.cells0 ((Zid a3).mono (Nm.put_sub (hN.free nx (ZvR _)) _))) (.ptr _ _ _ (Nm.put_same _ _ _)))
theorem Zqt (hS:Sim C η σ s) (hN:Wq η nx) (hρ:YI η L ρ ρd) {dst:Option Nat} {a v:Opd} {mu:Bool} {r:R3} (h:(opF mu dst.isSome (.store1 a v)).run ρ σ nx=some r) (hag:ZR ρd ρ' (Yw a++Yw v))
  (hc:∀ e s2,Ks C η r e s2→DO F kp dk os (ZQ ρ' dst e) L' s2):DO F kp dk (⟨dst,none,.store1 a v⟩ :: os) ρ' L' s:=by
 simp only [opF] at h
 obtain ⟨hd,hh⟩:=ZL h; replace h:=hh; clear hh
 obtain ⟨av,ha,hh⟩:=Kv h; replace h:=hh; clear hh
 obtain ⟨xv,hx,hh⟩:=Kv h; replace h:=hh; clear hh
 obtain ⟨hcl,hh⟩:=ZL h; replace h:=hh; clear hh
 obtain ⟨σ',hst,rfl⟩:=Zic h
 obtain ⟨p,da,a1,a2,a3⟩:=KY hρ ha (fun t ht=>hag t (by simp [ht]))
 obtain ⟨q,dx,b1,b2,b3⟩:=KY hρ hx (fun t ht=>hag t (by simp [ht]))
 have hok:=ZjU b3 hcl
 have hcx:cellsOf dx=[dx]:=by cases dx <;> first | rfl | simp [Jb] at hok
 obtain ⟨b,off,cs,rfl,c1,c2,c3,c4⟩:=Zdr hS hst a3 (.one b3)
 cases dst with
 | some t=>simp at hd
 | none =>
  refine ZbT rfl (.inl ⟨rfl,trivial⟩) a1 b1 a2 b2 c1 (fun _=>hok) (fun n hn=>by simp at hn) (by rw [hcx]; exact c2) rfl ?_
  rw [hcx]
  exact hc (.d .nilsl) _ ⟨η,Nm.Sub.refl _,hN,c4,.nilsl,.nilsl,rfl⟩
theorem Zqu (hS:Sim C η σ s) (hN:Wq η nx) (hρ:YI η L ρ ρd) {dst:Option Nat} {a v:Opd} {n:Nat} {mu:Bool} {r:R3} (h:(opF mu dst.isSome (.storeN n a v)).run ρ σ nx=some r) (hag:ZR ρd ρ' (Yw a++Yw v))
  (hc:∀ e s2,Ks C η r e s2→DO F kp dk os (ZQ ρ' dst e) L' s2):DO F kp dk (⟨dst,none,.storeN n a v⟩ :: os) ρ' L' s:=by
 simp only [opF] at h
 obtain ⟨hd,hh⟩:=ZL h; replace h:=hh; clear hh
 obtain ⟨av,ha,hh⟩:=Kv h; replace h:=hh; clear hh
 obtain ⟨xv,hx,hh⟩:=Kv h; replace h:=hh; clear hh
 obtain ⟨p,da,a1,a2,a3⟩:=KY hρ ha (fun t ht=>hag t (by simp [ht]))
 obtain ⟨q,dx,b1,b2,b3⟩:=KY hρ hx (fun t ht=>hag t (by simp [ht]))
 cases b3 <;> simp only [reduceCtorEq] at h
 rename_i xs ys hxs
 obtain ⟨σ',hst,rfl⟩:=Zic h
 obtain ⟨b,off,cs,rfl,c1,c2,c3,c4⟩:=Zdr hS hst a3 hxs
 cases dst with
 | some t=>simp at hd
 | none =>
  refine ZbT rfl (.inr ⟨n,rfl⟩) a1 b1 a2 b2 c1 (fun hn=>by simp at hn) (fun m hm=>?_) c2 rfl ?_
  ·simp only [K.storeN.injEq] at hm
   exact ⟨⟨_,rfl⟩,by rw [← hm.1]; exact c3⟩
  ·exact hc (.d .nilsl) _ ⟨η,Nm.Sub.refl _,hN,c4,.nilsl,.nilsl,rfl⟩
theorem ZrL (hS:Sim C η σ s) (hN:Wq η nx) {dst:Option Nat} {mu:Bool} {r:R3} (h:(opF mu dst.isSome .mkmap).run ρ σ nx=some r)
  (hc:∀ e s2,Ks C η r e s2→DO F kp dk os (ZQ ρ' dst e) L' s2):DO F kp dk (⟨dst,none,.mkmap⟩ :: os) ρ' L' s:=by
 simp only [opF] at h
 obtain ⟨hd,hh⟩:=ZL h; replace h:=hh; clear hh
 simp only [ZvD] at h
 subst h
 cases dst with
 | none=>simp at hd
 | some t=>exact Zji rfl rfl rfl fun b hb=>hc (.d (.map b)) _ (Ks.new hS hN hb (.map [] [] .nil) (.map _ _ (Nm.put_same _ _ _)))
theorem Zif {z:List V} {zd:List D} (hz:VRs η z zd):∀ n,VRs η (ZfZ z n) (QC zd n)
 | 0=>by simp [ZfZ,QC]; exact .nil
 | n + 1=>by
  have:QC zd (n + 1)=zd++QC zd n:=by simp [QC,List.replicate_succ]
  rw [this]
  exact hz.append (Zif hz n)
theorem Zo5 (hS:Sim C η σ s) (hN:Wq η nx) (hρ:YI η L ρ ρd) {dst:Option Nat} {e:TypeId} {n bytes:Nat} {z:List D} {l hx:Opd} {mu:Bool} {r:R3} (h:(opF mu dst.isSome (.mkslice e n bytes z l hx)).run ρ σ nx=some r) (hag:ZR ρd ρ' (Yw l++Yw hx))
  (hc:∀ e s2,Ks C η r e s2→DO F kp dk os (ZQ ρ' dst e) L' s2):DO F kp dk (⟨dst,none,.mkslice e n bytes z l hx⟩ :: os) ρ' L' s:=by
 simp only [opF] at h
 cases hz:ofDs z <;> simp only [hz,reduceCtorEq] at h
 rename_i zv
 obtain ⟨hd,hh⟩:=ZL h; replace h:=hh; clear hh
 obtain ⟨lv,hl,hh⟩:=Kv h; replace h:=hh; clear hh
 obtain ⟨hv,hh,hh⟩:=Kv h; replace h:=hh; clear hh
 obtain ⟨p,dl,a1,a2,a3⟩:=KY hρ hl (fun t ht=>hag t (by simp [ht]))
 obtain ⟨q,dh,b1,b2,b3⟩:=KY hρ hh (fun t ht=>hag t (by simp [ht]))
 cases a3 <;> simp only [reduceCtorEq] at h
 cases b3 <;> simp only [reduceCtorEq] at h
 obtain ⟨hb,hh⟩:=ZL h; replace h:=hh; clear hh
 simp only [ZvD] at h
 subst h
 simp only [ZvN,J1] at hb
 cases dst with
 | none=>simp at hd
 | some t =>
  refine ZjZ rfl rfl rfl a1 b1 a2 b2 hb.1.1.1 hb.1.1.2 hb.1.2 hb.2 fun b hb'=>hc (.d (.msl b 0 _ _ n)) _ (Ks.new hS hN hb' (OR.cells0 (Zif (ofDs_ok hz) _)) (.msl _ _ _ _ _ _ (Nm.put_same _ _ _)))
theorem Zqs (hS:Sim C η σ s) (hN:Wq η nx) (hρ:YI η L ρ ρd) {dst:Option Nat} {mk:KP} {m k v:Opd} {mu:Bool} {r:R3} (h:(opF mu dst.isSome (.mapupd mk m k v)).run ρ σ nx=some r) (hag:ZR ρd ρ' (Yw m++Yw k++Yw v))
  (hc:∀ e s2,Ks C η r e s2→DO F kp dk os (ZQ ρ' dst e) L' s2):DO F kp dk (⟨dst,none,.mapupd mk m k v⟩ :: os) ρ' L' s:=by
 simp only [opF] at h
 obtain ⟨hd,hh⟩:=ZL h; replace h:=hh; clear hh
 obtain ⟨mv,hm,hh⟩:=Kv h; replace h:=hh; clear hh
 obtain ⟨kv,hk,hh⟩:=Kv h; replace h:=hh; clear hh
 obtain ⟨vv,hv,hh⟩:=Kv h; replace h:=hh; clear hh
 obtain ⟨p,dm,a1,a2,a3⟩:=KY hρ hm (fun t ht=>hag t (by simp [ht]))
 obtain ⟨q,dk',b1,b2,b3⟩:=KY hρ hk (fun t ht=>hag t (by simp [ht]))
 obtain ⟨q',dv,c1,c2,c3⟩:=KY hρ hv (fun t ht=>hag t (by simp [ht]))
 cases a3 <;> simp only [reduceCtorEq] at h
 rename_i kb b hb
 split at h <;> (try (simp at h; done))
 rename_i es hes
 obtain ⟨hko,hh⟩:=ZL h; replace h:=hh; clear hh
 split at h <;> simp only [ZvD,reduceCtorEq] at h
 rename_i es' hes'
 subst h
 obtain ⟨ds,e1,e2⟩:=hS.map hes hb
 obtain ⟨ds',e3,e4⟩:=ZlS b3 c3 e2 hes'
 cases dst with
 | some t=>simp at hd
 | none=>exact ZlZ rfl rfl rfl a1 b1 c1 a2 b2 c2 (by simp only [QM,e1]) e3 (ZeX b3 hko) (hc (.d .nilsl) _ (Ks.turn hS hN hes hb (.map _ _ e4) .nilsl))
theorem Zqq (hS:Sim C η σ s) (hN:Wq η nx) (hρ:YI η L ρ ρd) {dst:Option Nat} {mk:KP} {m k:Opd} {mu:Bool} {r:R3} (h:(opF mu dst.isSome (.delete mk m k)).run ρ σ nx=some r) (hag:ZR ρd ρ' (Yw m++Yw k))
  (hc:∀ e s2,Ks C η r e s2→DO F kp dk os (ZQ ρ' dst e) L' s2):DO F kp dk (⟨dst,none,.delete mk m k⟩ :: os) ρ' L' s:=by
 simp only [opF] at h
 obtain ⟨hd,hh⟩:=ZL h; replace h:=hh; clear hh
 obtain ⟨mv,hm,hh⟩:=Kv h; replace h:=hh; clear hh
 obtain ⟨kv,hk,hh⟩:=Kv h; replace h:=hh; clear hh
 obtain ⟨p,dm,a1,a2,a3⟩:=KY hρ hm (fun t ht=>hag t (by simp [ht]))
 obtain ⟨q,dk',b1,b2,b3⟩:=KY hρ hk (fun t ht=>hag t (by simp [ht]))
 cases a3 <;> simp only [reduceCtorEq] at h
 rename_i kb b hb
 split at h <;> (try (simp at h; done))
 rename_i es hes
 obtain ⟨hko,hh⟩:=ZL h; replace h:=hh; clear hh
 split at h <;> simp only [ZvD,reduceCtorEq] at h
 rename_i es' hes'
 subst h
 obtain ⟨ds,e1,e2⟩:=hS.map hes hb
 obtain ⟨ds',e3,e4⟩:=ZpD b3 e2 hes'
 cases dst with
 | some t=>simp at hd
 | none=>exact ZlX rfl rfl rfl a1 b1 a2 b2 (by simp only [QM,e1]) e3 (ZeX b3 hko) (hc (.d .nilsl) _ (Ks.turn hS hN hes hb (.map _ _ e4) .nilsl))
theorem Zqr (hS:Sim C η σ s) (hN:Wq η nx) (hρ:YI η L ρ ρd) {dst:Option Nat} {mk:KP} {z:D} {m k:Opd} {mu:Bool} {r:R3} (h:(opF mu dst.isSome (.mapent mk z m k)).run ρ σ nx=some r) (hag:ZR ρd ρ' (Yw m++Yw k))
  (hc:∀ e s2,Ks C η r e s2→DO F kp dk os (ZQ ρ' dst e) L' s2):DO F kp dk (⟨dst,none,.mapent mk z m k⟩ :: os) ρ' L' s:=by
 simp only [opF] at h
 cases hz:ofD z <;> simp only [hz,reduceCtorEq] at h
 rename_i zv
 obtain ⟨hd,hh⟩:=ZL h; replace h:=hh; clear hh
 obtain ⟨mv,hm,hh⟩:=Kv h; replace h:=hh; clear hh
 obtain ⟨kv,hk,hh⟩:=Kv h; replace h:=hh; clear hh
 obtain ⟨p,dm,a1,a2,a3⟩:=KY hρ hm (fun t ht=>hag t (by simp [ht]))
 obtain ⟨q,dk',b1,b2,b3⟩:=KY hρ hk (fun t ht=>hag t (by simp [ht]))
 cases a3 <;> simp only [reduceCtorEq] at h
 rename_i kb b hb
 split at h <;> (try (simp at h; done))
 rename_i es hes
 obtain ⟨hko,hh⟩:=ZL h; replace h:=hh; clear hh
 split at h <;> simp only [ZvD,reduceCtorEq] at h
 rename_i v hv
 subst h
 obtain ⟨ds,e1,e2⟩:=hS.map hes hb
 obtain ⟨d,e3,e4⟩:=ZpE b3 (ZfK hz) e2 hv
 cases dst with
 | none=>simp at hd
 | some t =>
  refine ZlY rfl rfl rfl a1 b1 a2 b2 (by simp only [QM,e1]) e3 (ZeX b3 hko) fun n=>hc (.d (.tup [d,.stamp n])) _ ?_
  have hsub:=Nm.put_sub (hN.free nx (ZvR _)) (.tip n)
  exact ⟨_,hsub,hN.put _,(hS.mono hsub).upd hes (hsub _ _ hb) (.mapE _ _ _ _ _ _ _ (e2.imp fun _ _ m=>m.mono hsub) (b3.mono hsub) (Nm.put_same _ _ _)),_,.tup _ _ (.cons _ _ _ _ (e4.mono hsub) (.one (.stamp _ _ (Nm.put_same _ _ _)))),rfl⟩
theorem ZrK (hS:Sim C η σ s) (hN:Wq η nx) (hρ:YI η L ρ ρd) {dst:Option Nat} {m st v:Opd} {mu:Bool} {r:R3} (h:(opF mu dst.isSome (.entst m st v)).run ρ σ nx=some r) (hag:ZR ρd ρ' (Yw m++Yw st++Yw v))
  (hc:∀ e s2,Ks C η r e s2→DO F kp dk os (ZQ ρ' dst e) L' s2):DO F kp dk (⟨dst,none,.entst m st v⟩ :: os) ρ' L' s:=by
 simp only [opF] at h
 obtain ⟨hd,hh⟩:=ZL h; replace h:=hh; clear hh
 obtain ⟨mv,hm,hh⟩:=Kv h; replace h:=hh; clear hh
 obtain ⟨kv,hk,hh⟩:=Kv h; replace h:=hh; clear hh
 obtain ⟨vv,hv,hh⟩:=Kv h; replace h:=hh; clear hh
 obtain ⟨p,dm,a1,a2,a3⟩:=KY hρ hm (fun t ht=>hag t (by simp [ht]))
 obtain ⟨q,dk',b1,b2,b3⟩:=KY hρ hk (fun t ht=>hag t (by simp [ht]))
 obtain ⟨q',dv,c1,c2,c3⟩:=KY hρ hv (fun t ht=>hag t (by simp [ht]))
 cases a3 <;> simp only [reduceCtorEq] at h
 rename_i kb b hb
 cases b3 <;> simp only [reduceCtorEq] at h
 rename_i kn n hn
 split at h <;> (try (simp at h; done))
 rename_i mk es key n' hes
 obtain ⟨hnn,hh⟩:=ZL h; replace h:=hh; clear hh
 rw [ZY] at hnn
 subst hnn
 split at h <;> simp only [ZvD,reduceCtorEq] at h
 rename_i es' hes'
 subst h
 obtain ⟨b',d,e0,e1,e2⟩:=hS.get hes (fun n=>by simp)
 rw [hb] at e0
 simp only [ZvD,Tok.tip.injEq] at e0
 subst e0
 cases e2 with
 | mapE _ _ ds _ dkey _ m' g1 g2 g3 =>
  rw [hn] at g3
  simp only [ZvD,Tok.tip.injEq] at g3
  subst g3
  obtain ⟨ds',e3,e4⟩:=ZlS g2 c3 g1 hes'
  cases dst with
  | some t=>simp at hd
  | none=>exact Znj rfl rfl rfl a1 b1 c1 a2 b2 c2 e1 e3 (hc (.d .nilsl) _ (Ks.turn hS hN hes hb (.map _ _ e4) .nilsl))
end
end Go.DL
namespace Go.DL
open Go
variable [Znt]
theorem St.del_upd (s:St) (b:Nat) (d:Y6):(s.del b).upd b d=s.upd b d:=by
 funext c; simp only [St.upd,St.del]; split <;> rfl
theorem St.upd_del {s:St} {b:Nat} {d:Y6} (h:s b=some d):(s.del b).upd b d=s:=by
 funext c; simp only [St.upd,St.del]; split
 ·rename_i hc; rw [hc,h]
 ·rfl
section
variable {C:Px} {η:Nm} {σ:S} {s:St}
theorem Sim.take (x:Sim C η σ s) {k b:Nat} {o:O} (h:σ.get k=some o) (hb:η k=some (.tip b)) (hr:ZaW o=false:=by rfl):Sim C η (σ.set none k) (s.del b) where
 obj k' o' h':=by
  obtain ⟨hne,h1⟩:=ZpK h'
  obtain ⟨t,e1,⟨b',d',rfl,e2,e3⟩ | e2⟩:=x.obj k' o' h1
  ·refine ⟨_,e1,.inl ⟨b',d',rfl,?_,e3⟩⟩
   have:b'≠b:=fun hbb=>hne (x.inj k' k _ _ b h1 h (by rw [← hbb]; exact e1) hb)
   simp only [St.del,this,if_false]; exact e2
  ·exact ⟨t,e1,.inr e2⟩
 inj:=(x.forget k).inj
 kp c e hc:=by
  obtain ⟨h1,h2⟩:=(x.forget k).kp c e hc
  have:c≠b:=fun ec=>(x.kp c e hc).2 k o h hr (by rw [ec]; exact hb)
  exact ⟨by simp only [St.del,this,if_false]; exact h1,h2⟩
 ro:=(x.forget k).ro
theorem Sim.newFull (x:Sim C η σ s) {nx:Nat} (hn:η nx=none) (m:Nat):Sim C (η.put nx .full) (σ.set (some (.tok m)) nx) s:=by
 have x':=x.mono (Nm.put_sub hn .full)
 have key:∀ k o1 b,(σ.set (some (O.tok m)) nx).get k=some o1→(η.put nx .full) k=some (.tip b)→σ.get k=some o1:=fun k o1 b h e=>by
  have hne:k≠nx:=fun hk=>by rw [hk,Nm.put_same] at e; simp at e
  rcases T.get_set h with ⟨rfl,_⟩ | ⟨_,h⟩
  ·exact absurd rfl hne
  ·exact h
 refine ⟨fun k o h=>?_,fun k1 k2 o1 o2 b h1 h2 e1 e2=>x'.inj k1 k2 o1 o2 b (key _ _ _ h1 e1) (key _ _ _ h2 e2) e1 e2,fun c e hc=>⟨(x'.kp c e hc).1,fun k o1 h hr e1=>(x'.kp c e hc).2 k o1 (key _ _ _ h e1) hr e1⟩,fun k o1 c h e=>x'.ro k o1 c (key _ _ _ h e) e⟩
 rcases T.get_set h with ⟨rfl,h1⟩ | ⟨_,h1⟩
 ·simp only [ZvD] at h1; subst h1
  exact ⟨_,Nm.put_same _ _ _,.inr ⟨m,rfl,rfl⟩⟩
 ·exact x'.obj k o h1
theorem ZqP (row:Nat→List D) (m:Nat):(List.range (m + 1)).flatMap row=row 0++(List.range m).flatMap fun i=>row (i + 1):=by
 rw [List.range_succ_eq_map,List.flatMap_cons,List.flatMap_map]
theorem VRr.flat {z:Nat}:∀ {m:Nat} {rs cs:List V} {row:Nat→List D},VRr η z rs row→Zir z m rs=some cs→VRs η cs ((List.range m).flatMap row)∧cs.length=m * z
 | 0,rs,cs,row,_,h=>by
  have:some []=some cs:=h
  simp only [ZvD] at this
  subst this
  exact ⟨.nil,by simp⟩
 | m + 1,rs,cs,row,hr,h=>by
  cases hr with
  | nil=>simp [Zir] at h
  | cons _ c rs row h1 hl t =>
   have h':(match Zir z m rs with
    | some r=>some (Zlk z c r)
    | none=>none)=some cs:=h
   split at h' <;> simp only [ZvD,reduceCtorEq] at h'
   rename_i r hr
   subst h'
   obtain ⟨g1,g2⟩:=t.flat hr
   rw [Zfx hl,ZqP]
   exact ⟨h1.append g1,by rw [ZvT,g2,hl,Nat.add_mul]; omega⟩
theorem ZjJ {z:Nat}:∀ {n:Nat} {vs rs:List V} {ds:List D},VRs η vs ds→ZqX z n vs=some rs→VRr η z rs (fun i=>part ds (i * z) z)∧rs.length=n∧n * z≤ds.length
 | 0,vs,rs,ds,_,h=>by
  have:some []=some rs:=h
  simp only [ZvD] at this
  subst this
  exact ⟨.nil _ _,rfl,by omega⟩
 | n + 1,vs,rs,ds,hv,h=>by
  have h':(match Zbe z vs with
   | some r=>JU (.agg r) (ZqX z n (ZbF z vs))
   | none=>none)=some rs:=h
  split at h' <;> (try (simp at h'; done))
  rename_i r hr
  obtain ⟨q,hq,rfl⟩:=QG h'
  obtain ⟨t1,rfl⟩:=Zan hr
  rw [JQ] at hq
  obtain ⟨g1,g2,g3⟩:=ZjJ (hv.drop z) hq
  have hlen:=hv.len
  rw [List.length_drop] at g3
  refine ⟨.cons _ _ _ _ ?_ (by rw [List.length_take]; omega) (g1.congr fun i _=>?_),by simp [g2],by rw [Nat.add_mul]; omega⟩
  ·simpa [part] using hv.take z
  ·simp only [part,List.drop_drop]
   congr 2
   rw [Nat.add_mul]; omega
theorem Zup {P:Program} (hS:Sim C η σ s) {z:Nat} {v:V} {d:D} (hv:VR η v d) {m:Nat} {rs:List V} (h:Ztw σ z v=some (m,rs)):∃ row,JG P s z d m row∧VRr η z rs row∧rs.length=m:=by
 cases hv <;> simp only [Ztw,reduceCtorEq] at h
 case nilsl =>
  simp only [ZvD,ZvL] at h
  obtain ⟨rfl,rfl⟩:=h
  exact ⟨fun _=>[],JG.elems rfl,.nil _ _,rfl⟩
 case sl t n z' rs' τ row h1 h2 h3 =>
  obtain ⟨hz,hh⟩:=ZL h
  rw [ZY] at hz
  subst hz
  simp only [ZvD,ZvL] at hh
  obtain ⟨rfl,rfl⟩:=hh
  exact ⟨row,JG.elems (by simp [Zbr]),h1,h2⟩
 case str l =>
  obtain ⟨hz,hh⟩:=ZL h
  rw [ZY] at hz
  subst hz
  simp only [ZvD,ZvL] at hh
  obtain ⟨rfl,rfl⟩:=hh
  refine ⟨fun i=>[D.int .u8 (((l.map UInt8.ofNat).getD i 0).toNat:Int)],JG.elems (m:=l.length) (by simp only [Zbr,if_true,List.length_map]),?_,by simp [u8V]⟩
  have:=Zsy (η:=η) l 0
  simpa using this
 case msl k b o n cap z' hb =>
  split at h <;> (try (simp at h; done))
  rename_i cs hcs
  obtain ⟨hc,hh⟩:=ZL h
  simp only [ZvN,ZY,K2] at hc
  obtain ⟨rfl,hc⟩:=hc
  split at hh <;> simp only [ZvD,ZvL,reduceCtorEq] at hh
  rename_i r hr
  obtain ⟨rfl,rfl⟩:=hh
  obtain ⟨ds,ex,e1,e2⟩:=hS.cells hcs hb
  rw [JQ] at hr
  obtain ⟨g1,g2,g3⟩:=ZjJ (e2.drop o) hr
  have hl:=e2.len
  refine ⟨_,JG.msl (QO e1) (by rw [ZvT]; omega),g1.congr fun i hi=>?_,g2⟩
  have h1:i * z' + z'≤n * z':=by
   rw [← Nat.succ_mul]; exact Nat.mul_le_mul_right _ (by omega)
  simp only [part,List.drop_drop]
  rw [List.drop_append_of_le_length (by omega),List.take_append_of_le_length (by rw [List.length_drop]; omega)]
 case gsl k b o n cap z' c hb h2 hcap hl0 =>
  split at h <;> (try (simp at h; done))
  rename_i cs hcs
  obtain ⟨hc,hh⟩:=ZL h
  simp only [ZvN,ZY,K2] at hc
  obtain ⟨rfl,hc⟩:=hc
  split at hh <;> simp only [ZvD,ZvL,reduceCtorEq] at hh
  rename_i r hr
  obtain ⟨rfl,rfl⟩:=hh
  obtain ⟨ds,ex,e1,e2⟩:=hS.cells hcs hb
  rw [JQ] at hr
  obtain ⟨g1,g2,g3⟩:=ZjJ (e2.drop o) hr
  have hl:=e2.len
  refine ⟨_,JG.msl (QO e1) (by rw [ZvT]; omega),g1.congr fun i hi=>?_,g2⟩
  have h1:i * z' + z'≤n * z':=by
   rw [← Nat.succ_mul]; exact Nat.mul_le_mul_right _ (by omega)
  simp only [part,List.drop_drop]
  rw [List.drop_append_of_le_length (by omega),List.take_append_of_le_length (by rw [List.length_drop]; omega)]
end
section
variable {C:Px} {η:Nm} {σ:S} {s:St} {L:Loc} {ρ:T W} {ρd:Env} {nx:Nat}
variable {P:Program} {F:Fr P} {kp:Option (List Nat)} {dk:List Zp} {os:List DOp} {ρ':Env} {L':Loc}
theorem ZrJ (hS:Sim C η σ s) (hN:Wq η nx) (hρ:YI η L ρ ρd) {dst:Option Nat} {g:Option (Nat × Bool)} (hg:Zu ρ' g=some true) {n0:Nat} {z:List D} {x:Opd} {mu:Bool} {r:R3} {db:Bool} (h:(opF mu db (.clear n0 z x)).run ρ σ nx=some r) (hag:ZR ρd ρ' (Yw x))
  (hc:∀ e s2,Ks C η r e s2→DO F kp dk os (ZQ ρ' dst e) L' s2):DO F kp dk (⟨dst,g,.clear n0 z x⟩ :: os) ρ' L' s:=by
 simp only [opF] at h
 cases hz:ofDs z <;> simp only [hz,reduceCtorEq] at h
 rename_i zv
 obtain ⟨v,hv,hh⟩:=Kv h; replace h:=hh; clear hh
 obtain ⟨p,d,a1,a2,a3⟩:=KY hρ hv hag
 have fin:∀ {k b o n cap:Nat} {z':Nat} ,VR η (.ptr k o) (.ptr b o)→d = .msl b o n cap z'→noV (Nat.beq z' n0) (up (Zbz σ (.ptr k o) (n * n0) (ZfZ zv n)) (.tup []) nx)=some r→DO F kp dk (⟨dst,g,.clear n0 z x⟩ :: os) ρ' L' s:=by
  intro k b o n cap z' hp hd h
  obtain ⟨hz',hh⟩:=ZL h; replace h:=hh; clear hh
  rw [ZY] at hz'
  subst hz'
  obtain ⟨σ',hst,rfl⟩:=Zic h
  obtain ⟨b',off,cs,e1,c1,c2,c3,c4⟩:=Zdr hS hst hp (Zif (ofDs_ok hz) n)
  simp only [D.ptr.injEq] at e1
  obtain ⟨rfl,rfl⟩:=e1
  subst hd
  exact ZsB hg rfl a1 a2 c1 (by omega) (hc (.d (.tup [])) _ ⟨η,Nm.Sub.refl _,hN,c4,_,.tup _ _ .nil,rfl⟩)
 cases a3 <;> simp only [reduceCtorEq] at h
 case msl k b o n cap z' hb=>exact fin (.ptr _ _ _ hb) rfl h
 case gsl k b o n cap z' c hb h2 hcap hl0=>exact fin (.ptr _ _ _ hb) rfl h
theorem Ks.buf (hS:Sim C η σ s) (hN:Wq η nx) {b:Nat} (hb:s b=none) {z m cap:Nat} {cs:List V} {ds ex:List D} (hv:VRs η cs ds) (hm:m≤cap) (hl:(ds++ex).length=cap * z) {r:R3} (h:Zd6 z σ nx m cs=some r):Ks C η r (.d (.msl b 0 m cap z)) (s.upd b (.cells (ds++ex))):=by
 simp only [Zd6,ZvD] at h
 subst h
 have f0:=hN.free nx (ZvR _)
 have f1:=hN.free (nx + 1) (by omega)
 have s1:η.Sub (η.put (nx + 1) (.tip (ds++ex).length)):=Nm.put_sub f1 _
 have f2:(η.put (nx + 1) (.tip (ds++ex).length)) nx=none:=by simp only [Nm.put]; rw [if_neg (by omega)]; exact f0
 have s2:=Nm.put_sub f2 (.tip b)
 have hx:((η.put (nx + 1) (.tip (ds++ex).length)).put nx (.tip b)) (nx + 1)=some (.tip (ds++ex).length):=by simp [Nm.put]
 refine ⟨_,s1.trans s2,⟨?_,?_,?_,?_⟩,(hS.mono s1).new f2 hb (.buf _ _ _ ((hv.mono s1).mono s2) hx),_,.gsl _ _ _ _ _ _ _ (Nm.put_same _ _ _) hx hm (by omega),rfl⟩
 ·exact s2 _ _ (s1 _ _ hN.z)
 ·exact s2 _ _ (s1 _ _ hN.o)
 ·have:=hN.two; show 2≤nx + 2; omega
 ·intro k hk
  have hk:nx + 2≤k:=hk
  simp only [Nm.put]
  rw [if_neg (by omega),if_neg (by omega)]
  exact hN.free k (by omega)
theorem Ks.bufMove (hS:Sim C η σ s) (hN:Wq η nx) {k b:Nat} {o:O} (hk:σ.get k=some o) (hb:η k=some (.tip b)) (hr:ZaW o=false) {z m cap:Nat} {cs:List V} {ds ex:List D} (hv:VRs η cs ds) (hm:m≤cap) (hl:cap * z≤(ds++ex).length) {r:R3} (h:Zd6 z (σ.set none k) nx m cs=some r):Ks C η r (.d (.msl b 0 m cap z)) (s.upd b (.cells (ds++ex))):=by
 rw [← St.del_upd s b]
 simp only [Zd6,ZvD] at h
 subst h
 have f0:=hN.free nx (ZvR _)
 have f1:=hN.free (nx + 1) (by omega)
 have s1:η.Sub (η.put (nx + 1) (.tip (ds++ex).length)):=Nm.put_sub f1 _
 have f2:(η.put (nx + 1) (.tip (ds++ex).length)) nx=none:=by simp only [Nm.put]; rw [if_neg (by omega)]; exact f0
 have s2:=Nm.put_sub f2 (.tip b)
 have hx:((η.put (nx + 1) (.tip (ds++ex).length)).put nx (.tip b)) (nx + 1)=some (.tip (ds++ex).length):=by simp [Nm.put]
 refine ⟨_,s1.trans s2,⟨?_,?_,?_,?_⟩,((hS.take hk hb hr).mono s1).new f2 (by simp [St.del]) (.buf _ _ _ ((hv.mono s1).mono s2) hx),_,.gsl _ _ _ _ _ _ _ (Nm.put_same _ _ _) hx hm (by omega),rfl⟩
 ·exact s2 _ _ (s1 _ _ hN.z)
 ·exact s2 _ _ (s1 _ _ hN.o)
 ·have:=hN.two; show 2≤nx + 2; omega
 ·intro k hk
  have hk:nx + 2≤k:=hk
  simp only [Nm.put]
  rw [if_neg (by omega),if_neg (by omega)]
  exact hN.free k (by omega)
end
end Go.DL
namespace Go.DL
open Go
variable [Znt]
section
variable {C:Px} {η:Nm} {σ:S} {s:St} {L:Loc} {ρ:T W} {ρd:Env} {nx:Nat}
variable {P:Program} {F:Fr P} {kp:Option (List Nat)} {dk:List Zp} {os:List DOp} {ρ':Env} {L':Loc}
theorem Zrc (hS:Sim C η σ s) (hN:Wq η nx) {t k:Nat} {τ:Tok} {σ':S} (ht:t=0∨η t=some τ) (h:ZlO σ t k=some σ') :
  ∃ s0,s=s0.own τ k∧τ.okIn s0∧Sim C η σ' s0:=by
 unfold ZlO at h
 split at h
 ·rename_i h1
  rw [ZY] at h1
  subst h1
  simp only [ZvD] at h
  subst h
  have:=ht.resolve_left (by omega)
  rw [hN.o] at this
  simp only [ZvD] at this
  subst this
  exact ⟨s,rfl,trivial,hS⟩
 ·split at h <;> (try (simp at h; done))
  rename_i m hm
  obtain ⟨hk,hh⟩:=ZL h
  rw [ZY] at hk
  subst hk
  simp only [ZvD] at hh
  subst hh
  obtain ⟨t0,e0,e1⟩:=hS.obj t _ hm
  have hτ:τ=t0:=by
   rcases ht with rfl | ht
   ·rw [hN.z] at e0
    simp only [ZvD] at e0
    subst e0
    obtain ⟨_,_,h,_⟩ | ⟨_,_,h⟩:=e1 <;> simp at h
   ·rw [e0] at ht
    simpa using ht.symm
  subst hτ
  obtain ⟨b,d,rfl,g1,g2⟩ | ⟨n,g1,rfl⟩:=e1
  ·cases g2
   refine ⟨s.del b,?_,by simp [Tok.okIn,St.del],hS.take hm e0⟩
   simp only [St.own]
   exact (St.upd_del g1).symm
  ·exact ⟨s,rfl,trivial,hS.forget t⟩
theorem Ks.tok {s0:St} {σ':S} (hS:Sim C η σ' s0) (hN:Wq η nx) {t':Tok} (ht:t'.okIn s0) {n z:Nat} {rs:List V} {row:Nat→List D} (hr:VRr η z rs row) (hl:rs.length=n) :
  Ks C η ⟨.sl nx n z rs,σ'.set (some (.tok (n * z))) nx,nx + 1⟩ (.d (.sl t' n z row)) (s0.own t' (n * z)):=by
 have f0:=hN.free nx (ZvR _)
 have hsub:=Nm.put_sub f0 t'
 refine ⟨_,hsub,hN.put _,?_,_,.sl _ _ _ _ _ _ (hr.mono hsub) hl (.inr (Nm.put_same _ _ _)),rfl⟩
 cases t' with
 | tip b=>exact hS.new f0 ht (.tok _)
 | full=>exact hS.newFull f0 _
 | none=>exact ht.elim
theorem Zko (hS:Sim C η σ s) (hN:Wq η nx) {dst:Option Nat} {g:Option (Nat × Bool)} (hg:Zu ρ' g=some true) {e z b:Nat} {zd:List D} {x y:Opd} {p q:Prop} {dx dy:D} (hx:ZV ρ' true x=some (p,.d dx)) (hy:ZV ρ' true y=some (q,.d dy)) (hp:p) (hq:q)
  {t n m:Nat} {τ:Tok} {row row2:Nat→List D} {rs rs2:List V} (hsl:Zd5 z dx=some (τ,n,row)) (ht:t=0∨η t=some τ) (hr:VRr η z rs row) (hl:rs.length=n) (hel:JG P s z dy m row2) (hr2:VRr η z rs2 row2) (hl2:rs2.length=m)
  {r:R3} (h:Zka z b σ nx t n m rs rs2=some r)
  (hc:∀ e s2,Ks C η r e s2→DO F kp dk os (ZQ ρ' dst e) L' s2):DO F kp dk (⟨dst,g,.append e z b zd x y⟩ :: os) ρ' L' s:=by
 unfold Zka at h
 obtain ⟨hb,hh⟩:=ZL h; replace h:=hh; clear hh
 simp only [ZvN,K2] at hb
 split at h <;> simp only [ZvD,reduceCtorEq] at h
 rename_i σ' hσ
 subst h
 obtain ⟨s0,rfl,hok,hS'⟩:=Zrc hS hN ht hσ
 refine Zp5 hg rfl hx hsl hy hp hq hel hok hb.1 hb.2 fun t' ht'=>hc _ _ ?_
 have:=hr.append hr2
 rw [hl] at this
 rw [Zfx hl]
 exact Ks.tok hS' hN ht' this (by simp [hl,hl2])
theorem Zkn (hS:Sim C η σ s) (hN:Wq η nx) {dst:Option Nat} {g:Option (Nat × Bool)} (hg:Zu ρ' g=some true) {e z b:Nat} {zd:List D} {x y:Opd} {p q:Prop} {dx dy:D} (hx:ZV ρ' true x=some (p,.d dx)) (hy:ZV ρ' true y=some (q,.d dy)) (hp:p) (hq:q)
  {m:Nat} {row row2:Nat→List D} {rs2:List V} (hsl:Zd5 z dx=some (.full,0,row)) (hm:0 < m) (hel:JG P s z dy m row2) (hr2:VRr η z rs2 row2)
  {r:R3} (h:Zj9 z b σ nx m rs2=some r)
  (hc:∀ e s2,Ks C η r e s2→DO F kp dk os (ZQ ρ' dst e) L' s2):DO F kp dk (⟨dst,g,.append e z b zd x y⟩ :: os) ρ' L' s:=by
 unfold Zj9 at h
 obtain ⟨hb,hh⟩:=ZL h; replace h:=hh; clear hh
 simp only [ZvN,K2] at hb
 split at h <;> (try (simp at h; done))
 rename_i cs hcs
 obtain ⟨g1,g2⟩:=hr2.flat hcs
 refine ZsA hg rfl hx hsl hy hel hp hq hm hb.1 hb.2 fun c cap hc0 hcap=>hc _ _ (Ks.buf hS hN hc0 g1 hcap ?_ h)
 have:=g1.len
 have e1:m * z + (cap - m) * z=cap * z:=by rw [← Nat.add_mul]; congr 1; omega
 rw [ZvT,List.length_replicate,← this,g2,e1]
theorem ZqY {cs:List D} {o:Nat} {xs:List D}:ZC cs o xs=cs.take o++xs++cs.drop (o + xs.length):=rfl
theorem ZnZ (hS:Sim C η σ s) (hN:Wq η nx) {dst:Option Nat} {g:Option (Nat × Bool)} (hg:Zu ρ' g=some true) {e z bt:Nat} {zd:List D} {x y:Opd} {p q:Prop} {dx dy:D} (hx:ZV ρ' true x=some (p,.d dx)) (hy:ZV ρ' true y=some (q,.d dy)) (hp:p) (hq:q)
  {k o n m:Nat} {cap:Option Nat} {z':Nat} {row2:Nat→List D} {rs2:List V} (hv:VR η (.msl k o n cap z') dx) (hel:JG P s z dy m row2) (hr2:VRr η z rs2 row2) {mu:Bool}
  {r:R3} (h:Zll mu z bt σ nx (.msl k o n cap z') m rs2=some r)
  (hc:∀ e s2,Ks C η r e s2→DO F kp dk os (ZQ ρ' dst e) L' s2):DO F kp dk (⟨dst,g,.append e z bt zd x y⟩ :: os) ρ' L' s:=by
 simp only [Zll] at h
 obtain ⟨hb,hh⟩:=ZL h; replace h:=hh; clear hh
 simp only [ZvN,K2,ZY] at hb
 obtain ⟨⟨rfl,hb1⟩,hb2⟩:=hb
 split at h <;> (try (simp at h; done))
 rename_i cs2 hcs2
 obtain ⟨g1,g2⟩:=hr2.flat hcs2
 have hfl:((List.range m).flatMap row2).length=m * z':=by rw [← g1.len,g2]
 cases hv with
 | gsl _ b _ _ cap' _ c hb h2 hcap hlc =>
  simp only at h
  split at h <;> (try (simp at h; done))
  rename_i cs hcs
  obtain ⟨ho,hh⟩:=ZL h; replace h:=hh; clear hh
  rw [ZY] at ho
  subst ho
  split at h <;> (try (simp at h; done))
  rename_i c1 hc1
  obtain ⟨t1,rfl⟩:=Zan hc1
  obtain ⟨b',d,e0,e1,e2⟩:=hS.get hcs (fun n=>by simp)
  rw [hb] at e0
  simp only [ZvD,Tok.tip.injEq] at e0
  subst e0
  cases e2 with
  | buf _ ds ex hds hce =>
   rw [h2] at hce
   simp only [ZvD,Tok.tip.injEq] at hce
   subst hce
   have hl:=hds.len
   have htl:(cs.take (n * z')).length=n * z':=by rw [List.length_take]; omega
   rw [Zfx htl] at h
   have hnc:n * z'≤cap' * z':=Nat.mul_le_mul_right _ hcap
   have hadd:(n + m) * z'=n * z' + m * z':=Nat.add_mul _ _ _
   have hvs:VRs η (cs.take (n * z')++cs2) ((ds++ex).take (n * z')++(List.range m).flatMap row2):=by
    rw [List.take_append_of_le_length (by omega)]
    exact (hds.take _).append g1
   refine Zld hg rfl hx hy hp hq (QO e1) (by omega) hel (fun hle=>⟨rfl,?_⟩) hb1 hb2 (fun hle=>?_) (fun c cap2 _ hc0 hcap2=>?_)
   ·have:=Nat.mul_le_mul_right z' hle; omega
   ·rw [ZqY]
    refine hc _ _ (Ks.bufMove hS hN hcs hb rfl hvs hle ?_ h)
    have:=Nat.mul_le_mul_right z' hle
    simp only [ZvT,List.length_take,List.length_drop,hfl] at hlc ⊢
    omega
   ·have hp0:part (ds++ex) 0 (n * z')=(ds++ex).take (n * z'):=by simp [part]
    rw [hp0]
    refine hc _ _ (Ks.buf (hS.forget k) hN hc0 hvs hcap2 ?_ h)
    have e1:(n + m) * z' + (cap2 - (n + m)) * z'=cap2 * z':=by rw [← Nat.add_mul]; congr 1; omega
    simp only [ZvT,List.length_take,List.length_replicate,hfl] at hlc ⊢
    omega
 | msl _ b _ _ cap _ hb =>
  simp only at h
  split at h <;> (try (simp at h; done))
  rename_i cs hcs
  obtain ⟨ds,ex,e1,e2⟩:=hS.cells (vs:=cs) (by rw [hcs]; rfl) hb
  have hl:=e2.len
  have hadd:(n + m) * z'=n * z' + m * z':=Nat.add_mul _ _ _
  split at h
  ·rename_i hle
   rw [K2] at hle
   obtain ⟨ho,hh⟩:=ZL h; replace h:=hh; clear hh
   rw [ZY] at ho
   subst ho
   split at h <;> simp only [ZvD,reduceCtorEq] at h
   rename_i cs' hset
   subst h
   obtain ⟨f0,f1,f2⟩:=e2.over g1 hset
   refine Zld hg rfl hx hy hp hq (QO e1) (by simp only [ZvT]; omega) hel (fun _=>⟨rfl,by simp only [ZvT]; omega⟩) hb1 hb2 (fun _=>?_) (fun c cap2 hlt _ _=>by omega)
   rw [Zjd (by rw [hfl]; omega)]
   exact hc _ _ (Ks.turn hS hN hcs hb (.cells _ _ _ f2) (.msl _ _ _ _ _ _ hb))
  ·rename_i hle
   have hle:cap < n + m:=by
    have:¬ n + m≤cap:=fun h=>hle (K2.2 h)
    omega
   obtain ⟨ho,hh⟩:=ZL h; replace h:=hh; clear hh
   rw [K2] at ho
   split at h <;> (try (simp at h; done))
   rename_i c1 hc1
   obtain ⟨t1,rfl⟩:=Zan hc1
   rw [JQ] at h t1
   have htl:((cs.drop o).take (n * z')).length=n * z':=by rw [List.length_take]; omega
   rw [Zfx htl] at h
   have hp0:part (ds++ex) o (n * z')=(ds.drop o).take (n * z'):=by
    simp only [part]
    rw [List.drop_append_of_le_length (by omega),List.take_append_of_le_length (by rw [List.length_drop]; omega)]
   refine Zld hg rfl hx hy hp hq (QO e1) (by simp only [ZvT]; omega) hel (fun h=>by omega) hb1 hb2 (fun h=>by omega) (fun c cap2 _ hc0 hcap2=>?_)
   rw [hp0]
   refine hc _ _ (Ks.buf hS hN hc0 (((e2.drop o).take _).append g1) hcap2 ?_ h)
   have e1:(n + m) * z' + (cap2 - (n + m)) * z'=cap2 * z':=by rw [← Nat.add_mul]; congr 1; omega
   have:((ds.drop o).take (n * z')).length=n * z':=by rw [List.length_take,List.length_drop]; omega
   simp only [ZvT,this,List.length_replicate,hfl]
   omega
theorem Zqp (hS:Sim C η σ s) (hN:Wq η nx) (hρ:YI η L ρ ρd) {dst:Option Nat} {g:Option (Nat × Bool)} (hg:Zu ρ' g=some true) {e z b:Nat} {zd:List D} {x y:Opd} {mu db:Bool} {r:R3} (h:(opF mu db (.append e z b zd x y)).run ρ σ nx=some r) (hag:ZR ρd ρ' (Yw x++Yw y))
  (hc:∀ e s2,Ks C η r e s2→DO F kp dk os (ZQ ρ' dst e) L' s2):DO F kp dk (⟨dst,g,.append e z b zd x y⟩ :: os) ρ' L' s:=by
 simp only [opF] at h
 obtain ⟨xv,hx,hh⟩:=Kv h; replace h:=hh; clear hh
 obtain ⟨yv,hy,hh⟩:=Kv h; replace h:=hh; clear hh
 split at h <;> (try (simp at h; done))
 rename_i m rs2 hsrc
 obtain ⟨p,dx,a1,a2,a3⟩:=KY hρ hx (fun t ht=>hag t (by simp [ht]))
 obtain ⟨q,dy,b1,b2,b3⟩:=KY hρ hy (fun t ht=>hag t (by simp [ht]))
 obtain ⟨row2,hel,hr2,hl2⟩:=Zup (P:=P) hS b3 hsrc
 cases a3 <;> (try (simp only [Zll,reduceCtorEq] at h; done))
 case nilsl =>
  simp only [Zll] at h
  split at h
  ·rename_i hm
   simp only [ZvN,K2] at hm
   exact Zkn hS hN hg a1 b1 a2 b2 rfl (by omega) hel hr2 h hc
  ·exact Zko hS hN hg a1 b1 a2 b2 rfl (.inr hN.o) (.nil _ _) rfl hel hr2 hl2 h hc
 case sl t n z' rs τ row h1 h2 h3 =>
  simp only [Zll] at h
  obtain ⟨hz,hh⟩:=ZL h; replace h:=hh; clear hh
  rw [ZY] at hz
  subst hz
  split at h
  ·rename_i hm
   simp only [ZvN,K2,ZY] at hm
   obtain ⟨⟨⟨_,hm⟩,rfl⟩,rfl⟩:=hm
   have hτ:=h3.resolve_left (by omega)
   rw [hN.o] at hτ
   simp only [ZvD] at hτ
   subst hτ
   exact Zkn (row:=row) hS hN hg a1 b1 a2 b2 (by simp [Zd5]) (by omega) hel hr2 h hc
  ·exact Zko hS hN hg a1 b1 a2 b2 (by simp [Zd5]) h3 h1 h2 hel hr2 hl2 h hc
 case msl k b' o n cap z' hb=>exact ZnZ hS hN hg a1 b1 a2 b2 (.msl _ _ _ _ _ _ hb) hel hr2 h hc
 case gsl k b' o n cap z' c hb h2 hcap hl0=>exact ZnZ hS hN hg a1 b1 a2 b2 (.gsl _ _ _ _ _ _ _ hb h2 hcap hl0) hel hr2 h hc
theorem ZsV (hS:Sim C η σ s) (hN:Wq η nx) (hρ:YI η L ρ ρd) {dst:Option Nat} {g:Option (Nat × Bool)} (hg:Zu ρ' g=some true) {len n:Nat} {z:List D} {is:List Nat} {xs:List Opd} {mu db:Bool} {r:R3} (h:(opF mu db (.bsl len n z is xs)).run ρ σ nx=some r) (hag:ZR ρd ρ' (ZbJ xs))
  (hmu:(mu && db && Nat.ble 1 len)=true)
  (hc:∀ e s2,Ks C η r e s2→DO F kp dk os (ZQ ρ' dst e) L' s2):DO F kp dk (⟨dst,g,.bsl len n z is xs⟩ :: os) ρ' L' s:=by
 simp only [opF] at h
 cases hz:ofDs z <;> simp only [hz,reduceCtorEq] at h
 rename_i zv
 split at h <;> (try (simp at h; done))
 rename_i vs hvs
 obtain ⟨hp,hh⟩:=ZL h; replace h:=hh; clear hh
 rw [hmu,if_pos rfl] at h
 split at h <;> simp only [ZvD,reduceCtorEq] at h
 rename_i cs hcs
 subst h
 simp only [ZvN,ZY,K2] at hp hmu
 obtain ⟨p,ds,a1,a2,a3⟩:=ZaQ hρ hvs
 rw [← Qu hag] at a1
 obtain ⟨g1,g2⟩:=ZjC (is:=is) (ofDs_ok hz) hp.2 a3 hp.1 len 0
 obtain ⟨g3,g4⟩:=g1.flat hcs
 simp only [Nat.zero_add] at g3
 exact ZtH hg rfl a1 (ZaU ds) a2 (ZhC a3 hp.1) hmu.2 fun b hb=>hc _ _ (Ks.new hS hN hb (OR.cells0 (g3.mono (Nm.put_sub (hN.free nx (ZvR _)) _))) (.msl _ _ _ _ _ _ (Nm.put_same _ _ _)))
end
end Go.DL
namespace Go.DL
open Go
variable [Znt]
section
variable {C:Px} {η:Nm} {σ:S} {s:St} {L:Loc} {ρ:T W} {ρd:Env} {nx:Nat}
variable {P:Program} {F:Fr P} {kp:Option (List Nat)} {dk:List Zp} {os:List DOp} {ρ':Env} {L':Loc}
theorem ZrM (hS:Sim C η σ s) (hN:Wq η nx) (hρ:YI η L ρ ρd) {dst:Option Nat} {g:Option (Nat × Bool)} {k:K} (hg:Zu ρ' g=some true) (hgk:(gk k || g.isNone)=true) (hk:WW k=false) (hf:ZhA k=true) {mu:Bool} {r:R3} (h:(opF mu dst.isSome k).run ρ σ nx=some r) (hag:ZR ρd ρ' (ZN ⟨dst,g,k⟩))
  (hc:∀ e s2,Ks C η r e s2→DO F kp dk os (ZQ ρ' dst e) L' s2):DO F kp dk (⟨dst,g,k⟩ :: os) ρ' L' s:=by
 have hag:ZR ρd ρ' (Wn k):=fun t ht=>hag t (by simp [ZN,ht])
 have hng:gk k=false→g=none:=fun hh=>by
  rw [hh,Bool.false_or] at hgk
  cases g <;> simp_all
 cases k <;> simp only [WW,Bool.true_eq_false] at hk
 case alloc z=>obtain rfl:=hng rfl; exact ZrI hS hN h hc
 case box x=>obtain rfl:=hng rfl; exact Zt3 hS hN hρ h hag hc
 case store1 a v=>obtain rfl:=hng rfl; exact Zqt hS hN hρ h hag hc
 case storeN n a v=>obtain rfl:=hng rfl; exact Zqu hS hN hρ h hag hc
 case append e z b zd x y=>exact Zqp hS hN hρ hg h hag hc
 case mkmap=>obtain rfl:=hng rfl; exact ZrL hS hN h hc
 case mapupd kp' m k v=>obtain rfl:=hng rfl; exact Zqs hS hN hρ h hag hc
 case mapent kp' z m k=>obtain rfl:=hng rfl; exact Zqr hS hN hρ h hag hc
 case entst m st v=>obtain rfl:=hng rfl; exact ZrK hS hN hρ h hag hc
 case mkslice e n b z l c=>obtain rfl:=hng rfl; exact Zo5 hS hN hρ h hag hc
 case delete kp' m k=>obtain rfl:=hng rfl; exact Zqq hS hN hρ h hag hc
 case clear n z x=>exact ZrJ hS hN hρ hg h hag hc
 case fork k=>simp [ZhA] at hf
 all_goals simp [opF] at h
theorem Zu3 {mu db:Bool} {k:K} (hk:WW k=true) (hb:(∃ len n z is xs,k = .bsl len n z is xs∧(mu && db && Nat.ble 1 len)=true)→False) {r:R3} (h:(opF mu db k).run ρ σ nx=some r):(opF false db k).run ρ σ nx=some r:=by
 cases k <;> simp only [WW,Bool.false_eq_true] at hk
 case bsl len n z is xs =>
  have hm:(mu && db && Nat.ble 1 len)=false:=by
   cases hh:(mu && db && Nat.ble 1 len)
   ·rfl
   ·exact (hb ⟨_,_,_,_,_,rfl,hh⟩).elim
  simp only [opF] at h ⊢
  cases hz:ofDs z <;> simp only [hz,reduceCtorEq] at h ⊢
  simp only [hm,Bool.false_eq_true,if_false] at h
  simpa only [Bool.false_and,Bool.false_eq_true,if_false] using h
 all_goals exact h
theorem Zj7 (ρ:Env) (l:List Nat):ZR ρ ρ l:=fun _ _=>rfl
theorem Zvu (hS:Sim C η σ s) (hN:Wq η nx) (hρ:YI η L ρ ρd) {dst:Option Nat} {g:Option (Nat × Bool)} {k:K} (hg:Zu ρd g=some true) (hgk:(gk k || g.isNone)=true) (hf:ZhA k=true) {mu:Bool} {r:R3} (h:(opF mu dst.isSome k).run ρ σ nx=some r)
  (hc:∀ η' e s2,η.Sub η'→Wq η' r.nx→Sim C η' r.σ s2→WR η' L (.v r.v) e→DO F kp dk os (ZQ ρd dst e) L s2):DO F kp dk (⟨dst,g,k⟩ :: os) ρd L s:=by
 have hc':∀ e s2,Ks C η r e s2→DO F kp dk os (ZQ ρd dst e) L s2:=fun e s2 hr=>by
  obtain ⟨η',h1,h2,h3,d,h4,rfl⟩:=hr
  exact hc η' _ s2 h1 h2 h3 ⟨d,h4,.inl rfl⟩
 cases hk:WW k with
 | false=>exact ZrM hS hN hρ hg hgk hk hf h (Zj7 _ _) hc'
 | true =>
  by_cases hb:∃ len n z is xs,k = .bsl len n z is xs∧(mu && dst.isSome && Nat.ble 1 len)=true
  ·obtain ⟨len,n,z,is,xs,rfl,hm⟩:=hb
   exact ZsV hS hN hρ hg h (Zj7 _ _) hm hc'
  ·obtain ⟨e1,e2,side,e,e3,e4,e5⟩:=Zmo (L:=L) hS hN.o hρ hg hk (Zu3 hk hb h)
   exact JW e4 e3 (hc η e s (Nm.Sub.refl _) (by rw [e2]; exact hN) (by rw [e1]; exact hS) e5)
end
end Go.DL
namespace Go.DL
open Go
variable [Znt]
theorem T.get_lt {α:Type} {t:T α} {k:Nat} {a:α} (h:t.get k=some a):k < 32768:=by
 unfold T.get T.getF at h
 cases hb:Nat.blt k 32768 with
 | false=>rw [hb] at h; simp at h
 | true=>simpa [Nat.blt_eq] using hb
theorem JS {ρ:Env} {t:Nat} {e:E} (he:Ye ρ t=some e):∀ {ks:List Nat},t∈ks→Ye (Wy ρ ks) t=some e
 | [],h=>by simp at h
 | k :: ks,h=>by
  simp only [Wy]
  by_cases hk:k=t
  ·subst hk
   simp [he,Ye]
  ·have ht:t∈ks:=by simpa [Ne.symm hk] using h
   split
   ·simp only [Ye,hk,if_false]; exact JS he ht
   ·exact JS he ht
theorem Zef {t:Nat} {e:E} (hl:Q1 e=[]):∀ {ρ:Env},Ye ρ t=some e→Ye (Zbc ρ) t=some e
 | [],h=>by simp [Ye] at h
 | (k,x) :: r,h=>by
  simp only [Ye] at h
  simp only [Zbc]
  by_cases hk:k=t
  ·simp only [hk,if_true,ZvD] at h
   subst h
   simp [hl,Ye,hk]
  ·simp only [hk,if_false] at h
   split
   ·simp only [Ye,hk,if_false]; exact Zef hl h
   ·exact Zef hl h
section
variable {η:Nm} {L:Loc} {ρ:T W} {ρd:Env}
theorem WR.locs {w:W} {e:E} (h:WR η [] w e) (hl:Zol [] w=true):Q1 e=[]:=by
 cases w with
 | v x =>
  obtain ⟨d,_,rfl | rfl⟩:=h <;> rfl
 | loc l o=>simp [Zol] at hl
 | skip =>
  have h':e = .when false (.d (.bool false)):=h
  subst h'; rfl
theorem YI.keep (h:YI η L ρ ρd):YI η L ρ (Wy ρd Zjo):=fun t w hw hl=>by
 obtain ⟨e,h1,h2⟩:=h t w hw hl
 exact ⟨e,JS h1 (List.mem_range.2 (T.get_lt hw)),h2⟩
theorem YI.round (h:YI η [] ρ ρd):YI η [] ρ (Js Zjo ρd):=fun t w hw hl=>by
 obtain ⟨e,h1,h2⟩:=h.keep t w hw hl
 exact ⟨e,Zef (h2.locs hl) h1,h2⟩
theorem YI.nil:YI η L T.nil ρd:=fun t w hw=>by simp [T.get_nil] at hw
theorem YI.set (h:YI η L ρ ρd) {v:V} {d:D} (hv:VR η v d) (t:Nat):YI η L (ρ.set (some (.v v)) t) ((t,.d d) :: ρd):=fun t' w hw hl=>by
 rcases T.get_set hw with ⟨rfl,h1⟩ | ⟨hne,h1⟩
 ·simp only [ZvD] at h1
  subst h1
  exact ⟨.d d,by simp [Ye],d,hv,.inl rfl⟩
 ·obtain ⟨e,h2,h3⟩:=h t' w h1 hl
  exact ⟨e,by simp only [Ye]; rw [if_neg (Ne.symm hne)]; exact h2,h3⟩
theorem Zmr:∀ {ts:List Nat} {vs:List V} {ds:List D} {ρ:T W} {ρd:Env},YI η L ρ ρd→VRs η vs ds→YI η L (Zeq ts vs ρ) (QH ts ds ρd)
 | [],_,_,_,_,h,_=>by simpa only [Zeq,QH] using h
 | _ :: _,[],_,_,_,h,hv=>by cases hv; simpa only [Zeq,QH] using h
 | t :: ts,v :: vs,_,_,_,h,hv=>by
  obtain ⟨d,ds,rfl,h1,h2⟩:=hv.inv
  exact Zmr (ts:=ts) (h.set h1 t) h2
theorem Zmj:∀ {vs:List V} {i:Nat} {ρ:T W} {t:Nat} {w:W},(ZkD i vs ρ).get t=some w→(∃ j v,t=i + j∧vs[j]? = some v∧w = .v v)∨ρ.get t=some w
 | [],i,ρ,t,w,h=>.inr h
 | v :: vs,i,ρ,t,w,h=>by
  rcases Zmj (vs:=vs) (i:=i + 1) h with ⟨j,v',rfl,h1,h2⟩ | h1
  ·exact .inl ⟨j + 1,v',by omega,by simpa using h1,h2⟩
  ·rcases T.get_set h1 with ⟨rfl,h2⟩ | ⟨_,h2⟩
   ·simp only [ZvD] at h2
    exact .inl ⟨0,v,rfl,rfl,h2.symm⟩
   ·exact .inr h2
theorem Zi3:∀ {ds:List D} {i j:Nat} {d:D},ds[j]? = some d→Ye (QZ i ds) (i + j)=some (.d d)
 | [],i,j,d,h=>by simp at h
 | x :: ds,i,0,d,h=>by
  simp only [List.getElem?_cons_zero,ZvD] at h
  subst h
  simp [QZ,Ye]
 | x :: ds,i,j + 1,d,h=>by
  have:=Zi3 (ds:=ds) (i:=i + 1) (j:=j) (by simpa using h)
  simp only [QZ,Ye]
  rw [if_neg (by omega),show i + (j + 1)=i + 1 + j by omega]
  exact this
theorem ZrV {vs:List V} {ds:List D} (hv:VRs η vs ds):YI η L (ZkD 0 vs T.nil) (QZ 0 ds):=fun t w hw _=>by
 rcases Zmj hw with ⟨j,v,rfl,h1,rfl⟩ | h
 ·obtain ⟨d,h2,h3⟩:=hv.get h1
  exact ⟨.d d,Zi3 h2,d,h3,.inl rfl⟩
 ·simp [T.get_nil] at h
end
end Go.DL
namespace Go.DL
open Go
variable [Znt]
def Zu1:E→E
 | .when c e=>match c,e with
  | true,.d d=>.d d
  | c,e=>.when c e
 | e=>e
def nrm:Env→Env
 | []=>[]
 | (t,e) :: r=>(t,Zu1 e) :: nrm r
theorem Zgj:∀ (ρ:Env) (t:Nat),Ye (nrm ρ) t=(Ye ρ t).map Zu1
 | [],t=>rfl
 | (k,e) :: r,t=>by
  simp only [nrm,Ye]
  split
  ·rfl
  ·exact Zgj r t
theorem ZI.nrm {g:G} {ν:Nat→Nat} {w:World} {tmps:Array Value} {ρ:Env} {L:Loc} {s:St} (m:ZI g ν w tmps ρ L s):ZI g ν w tmps (nrm ρ) L s:={
 st:=m.st
 loc:=m.loc
 locKept:=m.locKept
 locSt:=m.locSt
 inj:=m.inj
 env t e h:=by
  rw [Zgj] at h
  simp only [ZvO] at h
  obtain ⟨e0,h1,rfl⟩:=h
  have h2:=m.env t e0 h1
  cases e0 with
  | d d=>exact h2
  | loc l o=>exact h2
  | when c e =>
   cases c with
   | false=>exact h2
   | true =>
    cases e with
    | d d=>exact h2.1 rfl
    | loc l o=>exact h2
    | when c e=>exact h2 }
theorem Znm {P:Program} {F:Fr P} {dk:List Zp} {ρ:Env} {L:Loc} {s:St} (h:ZD F dk (nrm ρ) L s):ZD F dk ρ L s :=
 fun k hk g ν w tmps hN m=>h k hk g ν w tmps hN m.nrm
theorem Zqa {P:Program} {F:Fr P} {ρ:Env} {L:Loc} {d:D} {s:St} (h:Kw F (nrm ρ) L d s):Kw F ρ L d s :=
 fun g ν w v todo tmps hN m hr=>h g ν w v todo tmps hN m.nrm hr
def Zle (η:Nm) (ρ:T W) (ρd:Env):Prop:=∀ t x,ρ.get t=some (.v x)→∃ d,Ye ρd t=some (.d d)∧VR η x d
section
variable {C:Px} {η:Nm} {σ:S} {s:St} {L:Loc} {ρ:T W} {ρd:Env} {nx:Nat}
theorem YI.nrm (h:YI η L ρ ρd):Zle η ρ (nrm ρd):=fun t x hx=>by
 obtain ⟨e,h1,d,h2,rfl | rfl⟩:=h t _ hx rfl
 ·exact ⟨d,by rw [Zgj,h1]; rfl,h2⟩
 ·exact ⟨d,by rw [Zgj,h1]; rfl,h2⟩
theorem Zle.mono {η':Nm} (h:Zle η ρ ρd) (hs:η.Sub η'):Zle η' ρ ρd:=fun t x hx=>by
 obtain ⟨d,h1,h2⟩:=h t x hx
 exact ⟨d,h1,h2.mono hs⟩
theorem Zvc (hS:Sim C η σ s) (h1:η 1=some .full) (hρ:Zle η ρ ρd) {r:RV} {v:V} (h:rvV ρ σ r=some v):∃ p d,Jx ρd [] s r=some (p,d)∧p∧VR η v d:=by
 have key:∀ {t:Nat} {a:V},(WA (.tmp t)).run ρ=some a→∃ d,Ye ρd t=some (.d d)∧VR η a d:=fun {t a} ha=>hρ t a (ZtF (x:=ρ.get t) ha)
 cases r with
 | tmp t =>
  obtain ⟨d,a1,a2⟩:=key h
  exact ⟨True,d,by simp only [Jx,a1],trivial,a2⟩
 | cell1 t =>
  simp only [rvV] at h
  split at h <;> (try (simp at h; done))
  rename_i a ha
  obtain ⟨d,a1,a2⟩:=key ha
  obtain ⟨side,e,b1,b2,b3⟩:=ZqN (L:=[]) hS h1 (.one a2) h
  simp only [List.map_cons,List.map_nil,qv,ZvO,ZvL,E.d.injEq] at b1
  obtain ⟨x,c1,c2,rfl⟩:=b1
  exact ⟨True,x,by simp only [Jx,a1,c1,Option.map_some],trivial,b3⟩
 | cellN t n =>
  simp only [rvV] at h
  split at h <;> (try (simp at h; done))
  rename_i a ha
  obtain ⟨d,a1,a2⟩:=key ha
  obtain ⟨side,e,b1,b2,b3⟩:=ZqN (L:=[]) hS h1 (.one a2) h
  simp only [List.map_cons,List.map_nil,qv,ZvO,ZvL,E.d.injEq] at b1
  obtain ⟨x,c1,rfl,rfl⟩:=b1
  exact ⟨x.1,.agg x.2,by simp only [Jx,a1,c1,Option.map_some],b2,b3⟩
theorem ZlH (hS:Sim C η σ s) (h1:η 1=some .full) (hρ:Zle η ρ ρd):∀ {rs:List RV} {vs:List V},ZlG ρ σ rs=some vs→∃ p ds,KI ρd [] s rs=some (p,ds)∧p∧VRs η vs ds
 | [],vs,h=>by
  simp only [ZlG,ZvD] at h
  subst h
  exact ⟨True,[],rfl,trivial,.nil⟩
 | r :: rs,vs,h=>by
  simp only [ZlG] at h
  split at h <;> (try (simp at h; done))
  rename_i v hv
  split at h <;> simp only [ZvD,reduceCtorEq] at h
  rename_i vs' hvs
  subst h
  obtain ⟨p,d,a1,a2,a3⟩:=Zvc hS h1 hρ hv
  obtain ⟨q,ds,b1,b2,b3⟩:=ZlH hS h1 hρ hvs
  exact ⟨p∧q,d :: ds,by simp only [KI,a1,b1],⟨a2,b2⟩,.cons _ _ _ _ a3 b3⟩
theorem Zr4 {vs:List V} {ds:List D} (h:VRs η vs ds):VR η (mkV vs) (Jw ds):=by
 cases h with
 | nil=>exact .tup _ _ .nil
 | cons v d vs ds h t =>
  cases t with
  | nil=>exact h
  | cons v' d' vs ds h' t=>exact .tup _ _ (.cons _ _ _ _ h (.cons _ _ _ _ h' t))
theorem ZpW {v:V} {d:D} (h:VR η v d) (hr:ZqW v=true):Zeu d:=by
 cases h <;> simp only [ZqW,Bool.false_eq_true] at hr <;> simp only [Zeu,Zap,Option.isSome_some]
 ·exact ZpM hr
 ·rw [K2] at hr; simpa using hr
theorem ZgB:∀ {vs:List V} {ds:List D},VRs η vs ds→ZiC vs=true→Zbw ds
 | [],_,h,_=>by cases h; trivial
 | v :: vs,_,h,hr=>by
  obtain ⟨d,ds,rfl,h1,h2⟩:=h.inv
  simp only [ZiC,ZvN] at hr
  exact ⟨ZpW h1 hr.1,ZgB h2 hr.2⟩
def Zfa (C:Px) (η:Nm) (o:Out) (r:Res) (s:St):Prop :=
 ∃ η' d,η.Sub η'∧Wq η' o.nx∧Sim C η' o.σ s∧VR η' o.v d∧r=if o.pan then .panic d else .ret d
theorem Zfa.mono {η':Nm} {o:Out} {r:Res} (h:Zfa C η' o r s) (hs:η.Sub η'):Zfa C η o r s:=by
 obtain ⟨η2,d,h1,h2⟩:=h
 exact ⟨η2,d,hs.trans h1,h2⟩
inductive DdR (η:Nm):List Dd→List DD→Prop where
 | nil:DdR η [] []
 | mark (q b:Nat) (r:List Dd) (r':List DD) (h:η q=some (.tip b)) (t:DdR η r r'):DdR η (.mark q :: r) (.mark b :: r')
 | fn (i:FuncId) (a c:List V) (da dc:List D) (r:List Dd) (r':List DD) (ha:VRs η a da) (hc:VRs η c dc) (h1:Zbw da) (h2:Zbw dc) (t:DdR η r r'):DdR η (.fn i a c :: r) (.fn i da dc :: r')
theorem DdR.mono {η':Nm} (hs:η.Sub η'):∀ {r:List Dd} {r':List DD},DdR η r r'→DdR η' r r'
 | _,_,.nil=>.nil
 | _,_,.mark q b r r' h t=>.mark q b r r' (hs _ _ h) (t.mono hs)
 | _,_,.fn i a c da dc r r' ha hc h1 h2 t=>.fn i a c da dc r r' (ha.mono hs) (hc.mono hs) h1 h2 (t.mono hs)
def FmR (C:Px) (η:Nm) (fm:Fm) (o:Out) (F:Fr C.P):Prop :=
 F.b.fn=fm.f∧F.N=fm.n∧F.an=C.an fm.f∧match fm.k with
  | .fn res=>∃ Φ dds,Kd F res Φ dds∧DdR η fm.ds dds∧∀ r s,Zfa C η o r s→Φ r s
  | .rnd l=>∃ b Φ,η l=some (.tip b)∧QX F b Φ∧∀ r s,Zfa C η o r s→Φ r s
  | .dfd pd rec=>∃ m Ψ,ZaD F m Ψ rec∧(match pd,m with
    | some v,some d=>VR η v d
    | none,none=>True
    | _,_=>False)∧∀ s b,o.pan=false→o.v = .bool b→Zfa C η o (.ret (.bool b)) s→Ψ b s
end
end Go.DL
namespace Go.DL
open Go
variable [Znt]
section
variable {P:Program}
theorem ZmF {an:Ann} {l N:Nat} {r:KM} {s:St} {da db:DC} {args:List D} {Φ:Res→St→Prop} (hs:s l=some (.loop r .ready)) (hlen:args.length=r.params.length) (ha:cc P an N r.assign=some da) (hb:cc P an N r.body=some db) (hN:r.N=N)
  (hp:∀ t∈r.params,t < N) (h:∀ F:Fr P,QX F l Φ→F.b.fn=r.fn→F.N=N→F.an=an→ZD F [.code da,.beginR,.code db] (QH r.params args r.ρ) [] s):Qw P (.fn (.yield l) [] []) args s Φ:=by
 intro g w fv vs hst hf hargs
 cases hf with
 | fn _ fs cs' _ _ hn1 hn2 h1 h2 =>
 obtain rfl:fs=[]:=by simpa using hn1
 obtain rfl:cs'=[]:=by simpa using hn2
 obtain ⟨hp0,l0,a1,a2,a3,a4,a5,a6,a7,a8,a9,a10⟩:=hst.obj l _ hs
 have hsize:vs.toArray.size=l0.params.size:=by
  have e1:=hargs.len
  have e2:l0.params.toList.length=r.params.length:=by rw [a3]
  simp at e2 ⊢; omega
 refine ⟨_,_,_,by simp [Deferred.ofValue]; rfl,by simp [invoke,Instr.yield,Instr.getLoop,JK a1,hsize]; rfl,rfl,fun c cs=>?_⟩
 have M:ZI g (fun _=>0) w l0.tmps r.ρ [] s:=⟨hst,fun l cs h=>by simp [Zl] at h,fun l cs h=>by simp [Zl] at h,fun l cs h=>by simp [Zl] at h,fun l l' cs cs' h=>by simp [Zl] at h,a8⟩
 obtain ⟨hN',M'⟩:=Zgy M hargs hlen (by rw [hN] at *; exact hp) (by rw [← hN]; exact a7)
 have:=h (J4 P an r.fn N l c cs Φ) ⟨an,r.fn,N,c,cs,rfl⟩ rfl rfl rfl [.code r.assign,.beginRound,.code r.body] (.code ha (.beginR (.code hb .nil))) g (fun _=>0) w _ hN' M'
 have hfr:(J4 P an r.fn N l c cs Φ).b.atR { tmps:=(r.params.zip vs).foldl (fun tmps (x:Nat × Value)=>tmps.setIfInBounds x.1 x.2) l0.tmps,defers:=[] } [.code r.assign,.beginRound,.code r.body] =
   Frame.round l l0.fn ((l0.params.zip vs.toArray).foldl (fun tmps (x:Nat × Value)=>tmps.setIfInBounds x.1 x.2) l0.tmps) l0.assign l0.body .normal:=by
  simp only [Frame.atR,Frame.round,J4,a2,a4,a5,← a3]
  congr 1
  rw [← Array.foldl_toList]
  simp
 have e:(J4 P an r.fn N l c cs Φ).ds=[]:=rfl
 rw [e,hfr] at this
 have e2:(l0.params.zip vs.toArray).size=l0.params.size:=by simp at hsize ⊢; omega
 rw [e2] at this
 exact this
theorem ZmD {an:Ann} {i:FuncId} {df:DF} (hf:cf P an i=some df) (hres:df.res=[]) {args:List D} {m:Option D} {s:St} {Ψ:Bool→St→Prop} (hm:∀ d,m=some d→Zev d)
  (h:∀ F:Fr P,ZaD F m Ψ false→F.b.fn=i→F.N=df.n→F.an=an→ZD F [.code df.body] (QZ 0 args) [] s):ZbN P i args m s Ψ:=by
 have hf0:=hf
 unfold cf at hf
 split at hf <;> (try (simp at hf; done))
 rename_i fn hfn
 split at hf <;> (try (simp at hf; done))
 rename_i c hc
 split at hf <;> (try (simp at hf; done))
 rename_i hname
 split at hf <;> simp at hf
 rename_i rs d hrs hd
 subst hf
 refine ⟨⟨fn,hfn,by simp [hc],by simpa using hname⟩,fun g w vs cfr cs hs ha hmode=>?_⟩
 obtain ⟨v,hv1,hv2⟩:∃ v,cfr.mode=JC m v false∧∀ d,m=some d→∀ g w,Rep g w v d:=by
  cases m with
  | none=>exact ⟨undef,hmode,fun d hd=>by simp at hd⟩
  | some d =>
   obtain ⟨v,h1,h2⟩:=hmode
   obtain ⟨v',r1,r2⟩:=Zmu (hm d rfl)
   have:=r2 g w v h2
   subst this
   exact ⟨v,h1,fun d' hd'=>by simp only [ZvD] at hd'; subst hd'; exact r1⟩
 have hcf:({ cfr with mode:=JC m v false }:Frame)=cfr:=by rw [← hv1]
 have henter:Frame.enter P i vs.toArray .deferred=(Kz P an i fn.ntmps cfr cs Ψ m v false).b.atR { tmps:=vs.toArray++Array.replicate (fn.ntmps - vs.length) undef,defers:=[] } [.code c]:=by
  simp [Frame.enter,Frame.atR,hfn,hc,Kz]
 have:=h _ ⟨an,i,_,cfr,cs,v,hf0,hres,hv1,hv2,rfl⟩ rfl rfl rfl [.code c] (.code hd .nil) g (fun _=>0) w (vs.toArray++Array.replicate (fn.ntmps - vs.length) undef) (by simp [Kz]; omega) (Zfl hs ha _)
 obtain ⟨g',w',s',b,a1,a2,a3,a4⟩:=this
 refine ⟨g',w',s',b,a1,a2,a3,?_⟩
 rw [henter]
 have hcs:(Kz P an i fn.ntmps cfr cs Ψ m v false).cs=cfr :: cs:=by simp only [Kz,hcf]
 rw [hcs] at a4
 exact a4
theorem ZoY {an:Ann} {f:FuncId} {df:DF} (hf:cf P an f=some df) {args:List D} {s:St} {Φ:Res→St→Prop}
  (h:∀ F:Fr P,Kd F df.res Φ []→F.b.fn=f→F.N=df.n→F.an=an→ZD F [.code df.body] (QZ 0 args) [] s):ZK P f args s Φ :=
 Zg1 hf fun cs=>h _ ⟨an,f,df,cs,hf,rfl,rfl⟩ rfl rfl rfl
end
def ZsC (C:Px) (ih:Ih):Prop:=∀ fm dk ρ σ nx o,ih fm dk ρ σ nx=some o→∀ (F:Fr C.P) η ρd s,FmR C η fm o F→YI η [] ρ ρd→Wq η nx→Sim C η σ s→ZD F dk ρd [] s
def JP (C:Px) (ih:Ih):Prop:=∀ t,ZsC ⟨C.toCx,t⟩ ih
theorem JP.at {C:Px} {ih:Ih} (h:JP C ih):ZsC C ih:=h C.t
def Zjj (η:Nm):Option V→Option D→Prop
 | some v,some d=>VR η v d
 | none,none=>True
 | _,_=>False
section
variable {C:Px} {ih:Ih}
theorem Ztr {η:Nm} {m:Option V} {md:Option D} (h:Zjj η m md) (hr:ZqV m=true):∀ d,md=some d→Zev d:=fun d hd=>by
 subst hd
 cases m with
 | none=>exact h.elim
 | some v =>
  have hv:VR η v d:=h
  cases hv <;> simp only [ZqV,Bool.false_eq_true] at hr
  rename_i t v d hv
  have hv':=hv
  cases hv <;> first | exact ZgB (by assumption) hr | exact ZpW hv' hr
theorem ZfX (hih:JP C ih):∀ {ds:List Dd} {m:Option V} {σ:S} {nx:Nat} {m':Option V} {σ':S} {nx':Nat},Zia C ih ds m σ nx=some (m',σ',nx')→∀ {η:Nm} {dds:List DD} {md:Option D} {s:St},DdR η ds dds→Wq η nx→Sim C η σ s→Zjj η m md →
  ∀ {Ψ:Option D→St→Prop},(∀ η' md' s',η.Sub η'→Wq η' nx'→Sim C η' σ' s'→Zjj η' m' md'→Ψ md' s')→Unw C.P dds md s Ψ
 | [],m,σ,nx,m',σ',nx',h,η,dds,md,s,hd,hN,hS,hm,Ψ,hΨ=>by
  simp only [Zia,ZvD,ZvL] at h
  obtain ⟨rfl,rfl,rfl⟩:=h
  cases hd
  exact hΨ η md s (Nm.Sub.refl _) hN hS hm
 | .mark q :: r,m,σ,nx,m',σ',nx',h,η,dds,md,s,hd,hN,hS,hm,Ψ,hΨ=>by
  simp only [Zia] at h
  split at h <;> (try (simp at h; done))
  rename_i hq
  cases hd with
  | mark _ b _ r' hb t =>
   obtain ⟨b',d,e0,e1,e2⟩:=hS.get hq (fun n=>by simp)
   rw [hb] at e0
   simp only [ZvD,Tok.tip.injEq] at e0
   subst e0
   cases e2
   exact ⟨e1,ZfX hih h t hN (hS.take hq hb) hm hΨ⟩
 | .fn i args caps :: r,m,σ,nx,m',σ',nx',h,η,dds,md,s,hd,hN,hS,hm,Ψ,hΨ=>by
  simp only [Zia] at h
  split at h <;> (try (simp at h; done))
  rename_i n body hdf
  obtain ⟨hr,hh⟩:=ZL h; replace h:=hh; clear hh
  split at h <;> (try (simp at h; done))
  rename_i b σ1 nx1 hrun
  cases hd with
  | fn _ _ _ da dc _ r' ha hc h1 h2 t =>
   refine ⟨h1,h2,ZmD (an:=C.an i) hdf rfl (Ztr hm hr) fun F hF e1 e2 e3=>?_⟩
   refine hih.at _ _ _ _ _ _ hrun F η _ s ⟨e1,e2,e3,md,_,hF,hm,?_⟩ (ZrV (ha.append hc)) hN hS
   intro s1 b1 _ hb1 hp
   obtain ⟨η1,d,g1,g2,g3,g4,g5⟩:=hp
   simp only [V.bool.injEq] at hb1
   subst hb1
   exact ZfX hih h (t.mono g1) g2 g3 (by
    cases b with
    | true=>trivial
    | false =>
     cases m <;> cases md <;> first | trivial | exact hm.elim | exact VR.mono g1 hm) fun η2 md2 s2 k1 k2 k3 k4=>hΨ η2 md2 s2 (g1.trans k1) k2 k3 k4
end
end Go.DL
namespace Go.DL
open Go
variable [Znt]
def Zvw (C:Cx) (r:KM) (st:Option DC) (busy:Bool) (lst:LSt):Prop:=match st,busy,lst with
 | none,false,.ready=>True
 | none,true,.busy=>True
 | some dj,false,.done j=>cc C.P (C.an r.fn) r.N j=some dj
 | _,_,_=>False
section
variable {C:Px} {ih:Ih} {η:Nm} {σ:S} {s:St} {ρ:T W} {ρd:Env} {nx:Nat}
theorem Zhy (hS:Sim C η σ s) {l b:Nat} (hb:η l=some (.tip b)) {st:Option DC} {now busy:Bool} {σ':S} (h:loopTo σ l st now busy=some σ') :
  ∃ r lst,s b=some (.loop r lst)∧(now=false→lst = .ready)∧(now=true→lst = .busy)∧∀ lst',Zvw C r st busy lst'→Sim C η σ' (s.upd b (.loop r lst')):=by
 unfold loopTo at h
 split at h <;> (try (simp at h; done))
 rename_i f n ps a b0 ρ0 bs hl
 obtain ⟨hbs,hh⟩:=ZL h; replace h:=hh; clear hh
 simp only [ZvD] at h
 subst h
 obtain ⟨b',d,e0,e1,e2⟩:=hS.get hl (fun n=>by simp)
 rw [hb] at e0
 simp only [ZvD,Tok.tip.injEq] at e0
 subst e0
 have hbs':bs=now:=by simpa using hbs
 subst hbs'
 cases e2 with
 | loop _ _ _ _ _ _ _ _ r lst hf hn hps hlt ha hbb hρ hst =>
  subst hf; subst hn
  refine ⟨r,lst,e1,fun hb0=>?_,fun hb0=>?_,fun lst' hst'=>hS.upd hl hb (.loop _ _ _ _ _ _ _ _ r lst' rfl rfl hps hlt ha hbb hρ ?_)⟩
  ·subst hb0; cases lst <;> first | rfl | exact hst.elim
  ·subst hb0; cases lst <;> first | rfl | exact hst.elim
  ·cases st <;> cases busy <;> cases lst' <;> exact hst'
theorem ZpV (hih:JP C ih) {fm:Fm} {fell:Bool} {o:Out} (h:ZqU C ih fm ρ σ nx fell=some o) {F:Fr C.P} (hF:FmR C η fm o F) (hρ:YI η [] ρ ρd) (hN:Wq η nx) (hS:Sim C η σ s) :
  (fell=true→ZD F [] ρd [] s)∧(fell=false→∀ dk,ZD F (.code .ret :: dk) ρd [] s):=by
 obtain ⟨_,_,_,hk⟩:=hF
 unfold ZqU at h
 split at h
 ·rename_i res hfk
  rw [hfk] at hk
  obtain ⟨Φ,dds,hI,hdd,hΦ⟩:=hk
  split at h <;> (try (simp at h; done))
  rename_i σ1 nx1 hu
  split at h <;> simp only [ZvD,reduceCtorEq] at h
  rename_i vs hvs
  subst h
  have hU:Unw C.P dds none s (Zii (nrm ρd) [] res Φ):=ZfX hih hu hdd hN hS (md:=none) trivial fun η1 md1 s1 k1 k2 k3 k4=>by
   cases md1 with
   | some d=>exact k4.elim
   | none =>
    obtain ⟨p,ds,g1,g2,g3⟩:=ZlH k3 k2.o (hρ.nrm.mono k1) hvs
    exact ⟨p,ds,_,s1,g1,g2,ZvM _,ZvK _,hΦ _ _ ⟨η1,_,k1,k2,k3,Zr4 g3,rfl⟩⟩
  exact ⟨fun _=>Znm (hI.finU hU),fun _ dk=>Znm (hI.retU hU)⟩
 ·rename_i l hfk
  rw [hfk] at hk
  obtain ⟨b,Φ,hb,hI,hΦ⟩:=hk
  split at h <;> simp only [ZvD,reduceCtorEq] at h
  rename_i σ1 hl
  subst h
  obtain ⟨r,lst,e1,_,e2,e3⟩:=Zhy hS hb hl
  obtain rfl:=e2 rfl
  refine ⟨fun hf=>?_,fun hf dk=>?_⟩
  ·subst hf
   exact hI.fin e1 (ZvK _) (hΦ _ _ ⟨η,_,Nm.Sub.refl _,hN,e3 .ready trivial,.bool true,rfl⟩)
  ·subst hf
   exact hI.ret e1 (ZvK _) (hΦ _ _ ⟨η,_,Nm.Sub.refl _,hN,e3 (.done .ret) rfl,.bool false,rfl⟩)
 ·rename_i pd rec hfk
  rw [hfk] at hk
  obtain ⟨m,Ψ,hI,hm,hΨ⟩:=hk
  split at h <;> simp only [ZvD,reduceCtorEq] at h
  subst h
  have hpm:pd.isNone=m.isNone:=by cases pd <;> cases m <;> first | rfl | exact hm.elim
  have hq:Ψ (m.isNone || rec) s:=hΨ s _ rfl (by simp only [hpm]) ⟨η,_,Nm.Sub.refl _,hN,hS,by rw [hpm]; exact .bool _,rfl⟩
  exact ⟨fun _=>hI.fin (ZvK _) hq,fun _ dk=>hI.ret (ZvK _) hq⟩
theorem ZfN (hih:JP C ih) {fm:Fm} {v:V} {d:D} {o:Out} (h:ZjG C ih fm ρ v σ nx=some o) {F:Fr C.P} (hF:FmR C η fm o F) (hρ:YI η [] ρ ρd) (hN:Wq η nx) (hS:Sim C η σ s) (hv:VR η v d):Kw F ρd [] d s:=by
 obtain ⟨hf1,_,_,hk⟩:=hF
 unfold ZjG at h
 split at h
 ·rename_i res hfk
  rw [hfk] at hk
  obtain ⟨Φ,dds,hI,hdd,hΦ⟩:=hk
  refine Zqa (hI.panU ?_)
  split at h <;> (try (simp at h; done))
  ·rename_i σ1 nx1 hu
   split at h <;> simp only [ZvD,reduceCtorEq] at h
   rename_i vs hvs
   subst h
   exact ZfX hih hu hdd hN hS (md:=some d) hv fun η1 md1 s1 k1 k2 k3 k4=>by
    cases md1 with
    | some d=>exact k4.elim
    | none =>
     obtain ⟨p,ds,g1,g2,g3⟩:=ZlH k3 k2.o (hρ.nrm.mono k1) hvs
     exact ⟨p,ds,_,s1,g1,g2,ZvM _,ZvK _,hΦ _ _ ⟨η1,_,k1,k2,k3,Zr4 g3,rfl⟩⟩
  ·rename_i v1 σ1 nx1 hu
   simp only [ZvD] at h
   subst h
   exact ZfX hih hu hdd hN hS (md:=some d) hv fun η1 md1 s1 k1 k2 k3 k4=>by
    cases md1 with
    | none=>exact k4.elim
    | some d1=>exact ⟨d1,s1,ZvM _,ZvK _,hΦ _ _ ⟨η1,d1,k1,k2,k3,k4,rfl⟩⟩
 ·rename_i l hfk
  rw [hfk] at hk
  obtain ⟨b,Φ,hb,hI,hΦ⟩:=hk
  split at h <;> simp only [ZvD,reduceCtorEq] at h
  rename_i fn0 hfn0
  subst h
  refine hI.pan (ZvK _) (hΦ _ _ ⟨η,d,Nm.Sub.refl _,hN,hS,hv,rfl⟩) fun an fn N c cs hFe=>?_
  subst hFe
  have:fn=fm.f:=hf1
  rw [this]; exact ⟨fn0,hfn0⟩
 ·simp at h
end
end Go.DL
namespace Go.DL
open Go
variable [Znt]
section
variable {P:Program}
theorem ZoZ {F:Fr P} {d:D} {Ψ:Bool→St→Prop} (hF:ZaD F (some d) Ψ false) {kp:Option (List Nat)} {dk:List Zp} {o:DOp} {os:List DOp} {ρ:Env} {L:Loc} {s:St} (hg:o.guard=none) (hk:o.k = .recover)
  (h:∀ F':Fr P,ZaD F' (some d) Ψ true→F'.b=F.b→F'.N=F.N→F'.an=F.an→DO F' kp dk os (ZQ ρ o.dst (.d d)) L s):DO F kp dk (o :: os) ρ L s:=by
 obtain ⟨an,f,df,cfr,cs,v,hf,hres,hmode,hrep,rfl⟩:=hF
 refine KL fun oo g ν w tmps ops j r k hoo hck hcg hdst hd hN m hr hkk=>?_
 have hw:=Y7 m hcg (c:=true) (by rw [hg]; rfl)
 have hnd:=Wp hck (by rw [hk]; rfl)
 rw [hk] at hck
 obtain ⟨args,ats,hop⟩:=Zf8 hck
 have hrun:(execOp (Act.mk tmps []).eval oo).run P w = .ok .recover w:=by
  simp [execOp,hop,resolve,invoke,builtin]
 have hstep:_root_.Go.step P (lone ((Kz P an f df.n cfr cs Ψ (some d) v false).b.atR ⟨tmps,[]⟩ (.inRegion ops (j :: r) :: k)) (Kz P an f df.n cfr cs Ψ (some d) v false).cs w) =
   .next (lone ((Kz P an f df.n cfr cs Ψ (some d) v true).b.atR ((Act.mk tmps []).put oo.dst v) (.inRegion ops r :: k)) (Kz P an f df.n cfr cs Ψ (some d) v true).cs w):=by
  refine step_lone_go ?_
  rw [stepGR_op hoo hw,Oper.semAt_eq _ _ _ hnd]
  have hfin:((Kz P an f df.n cfr cs Ψ (some d) v false).b.atR ⟨tmps,[]⟩ (.inRegion ops (j :: r) :: k)).finish v=(Kz P an f df.n cfr cs Ψ (some d) v true).b.atR ((Act.mk tmps []).put oo.dst v) (.inRegion ops r :: k):=by
   rw [Frame.finish_atR,hoo]; rfl
  rw [← hfin]
  simp [stepG.apply,hrun,Frame.atR,Kz,tryRecover,JC]
 refine (ZdT P cfr cs Ψ).back _ _ _ _ (.one hstep) ?_
 obtain ⟨tmps',e1,e2,m'⟩:=Zer m hN hd (v:=v) (e:=.d d) (hrep d rfl g w) []
 rw [hdst,e1]
 exact h _ ⟨an,f,df,cfr,cs,v,hf,hres,hmode,hrep,rfl⟩ rfl rfl rfl ops r k hr hkk g ν w tmps' e2 m'
end
theorem WR.val {η:Nm} {L:Loc} {v:V} {d:D} (h:VR η v d):WR η L (.v v) (.d d):=⟨d,h,.inl rfl⟩
theorem WR.skp {η:Nm} {L:Loc}:WR η L .skip (.when false (.d (.bool false))):=rfl
def Znc (η:Nm) (σ:S) (s:St):Prop:=∀ (k b:Nat) (vs:List V),Zak (σ.get k)=some vs→η k=some (.tip b)→∃ ds ex,s b=some (.cells (ds++ex))∧VRs η vs ds
def Jv (C:Px):Prop:=∀ f g σ vs v,C.lib f=some g→g σ vs=some v→∀ (η:Nm) ds s,VRs η vs ds→Znc η σ s→∃ d,VR η v d∧ZK C.P f ds s fun r s'=>r = .ret d∧s'=s
section
variable {C:Px} {ih:Ih} {η:Nm} {σ:S} {s:St} {ρ:T W} {ρd:Env} {nx:Nat}
theorem Zjj.mono {η':Nm} (hs:η.Sub η') {a:Option V} {b:Option D} (h:Zjj η a b):Zjj η' a b:=by
 cases a <;> cases b <;> first | trivial | exact h.elim | exact VR.mono hs h
theorem FmR.mono {η':Nm} (hs:η.Sub η') {fm:Fm} {o:Out} {F:Fr C.P} (h:FmR C η fm o F):FmR C η' fm o F:=by
 obtain ⟨h1,h2,h3,h4⟩:=h
 refine ⟨h1,h2,h3,?_⟩
 split at h4
 ·obtain ⟨Φ,dds,a,b,c⟩:=h4
  exact ⟨Φ,dds,a,b.mono hs,fun r s hp=>c r s (hp.mono hs)⟩
 ·obtain ⟨b,Φ,a,c,d⟩:=h4
  exact ⟨b,Φ,hs _ _ a,c,fun r s hp=>d r s (hp.mono hs)⟩
 ·obtain ⟨m,Ψ,a,c,d⟩:=h4
  exact ⟨m,Ψ,a,Zjj.mono hs c,fun s b e1 e2 hp=>d s b e1 e2 (hp.mono hs)⟩
theorem ZnD (hih:JP C ih) {f:FuncId} {args:List V} {ds:List D} {o:Out} (h:(ZmT C f).run ih args σ nx=some o) (ha:VRs η args ds) (hN:Wq η nx) (hS:Sim C η σ s):ZK C.P f ds s (Zfa C η o):=by
 unfold ZmT at h
 split at h
 ·rename_i df hdf
  exact ZoY (an:=C.an f) hdf fun F hI e1 e2 e3=>hih.at _ _ _ _ _ _ h F η _ s ⟨e1,e2,e3,_,[],hI,.nil,fun _ _ h=>h⟩ (ZrV ha) hN hS
 ·simp at h
theorem Zjs (hlib:Jv C) (hih:JP C ih) {f:FuncId} {args:List V} {ds:List D} {o:Out} (h:(Zin C f).run ih args σ nx=some o) (ha:VRs η args ds) (hN:Wq η nx) (hS:Sim C η σ s):ZK C.P f ds s (Zfa C η o):=by
 unfold Zin at h
 split at h
 ·rename_i g hg
  simp only at h
  split at h
  ·simp only [ZvD] at h
   rename_i v hv
   subst h
   obtain ⟨d,h1,h2⟩:=hlib f g σ args v hg hv η ds s ha fun _ _ _ h hb=>hS.cells h hb
   exact h2.mono fun r s' ⟨e1,e2⟩=>by subst e1; subst e2; exact ⟨η,d,Nm.Sub.refl _,hN,hS,h1,rfl⟩
  ·exact ZnD hih h ha hN hS
 ·exact ZnD hih h ha hN hS
theorem Zjt (hlib:Jv C) (hih:JP C ih) {fv:V} {args:List V} {fd:D} {ds:List D} {o:Out} (h:Zkc C ih fv args σ nx=some o) (hf:VR η fv fd) (ha:VRs η args ds) (hN:Wq η nx) (hS:Sim C η σ s):Qw C.P fd ds s (Zfa C η o):=by
 cases hf <;> simp only [Zkc,reduceCtorEq] at h
 case fn f a c da dc h1 h2 =>
  refine ZK.V (Zjs hlib hih h ?_ hN hS)
  rw [List.append_assoc]
  exact h1.append (ha.append h2)
 case yield l b hb =>
  split at h <;> (try (simp at h; done))
  rename_i f n ps a b0 ρ0 hl
  obtain ⟨hlen,hh⟩:=ZL h; replace h:=hh; clear hh
  rw [ZY] at hlen
  obtain ⟨b',d,e0,e1,e2⟩:=hS.get hl (fun n=>by simp)
  rw [hb] at e0
  simp only [ZvD,Tok.tip.injEq] at e0
  subst e0
  cases e2 with
  | loop _ _ _ _ _ _ _ _ r lst hf hn hps hlt hca hcb hρ hst =>
   subst hf; subst hn; subst hps
   have hr:lst = .ready:=by cases lst <;> first | rfl | exact hst.elim
   subst hr
   refine ZmF (an:=C.an r.fn) e1 (by rw [← ha.len]; exact hlen) hca hcb rfl hlt fun F hI e2 e3 e4=>?_
   exact hih.at _ _ _ _ _ _ h F η _ s ⟨e2,e3,e4,b,_,hb,hI,fun _ _ h=>h⟩ (Zmr hρ ha) hN hS
def Zrs (C:Px) (ih:Ih) (rest:Bx Rg) (dk:List Zp) (os:List DOp):Prop :=
 ∀ fm ρ σ nx o,rest.run ih dk fm ρ σ nx=some o→∀ (F:Fr C.P) η ρd s,FmR C η fm o F→YI η [] ρ ρd→Wq η nx→Sim C η σ s→DO F none dk os ρd [] s
theorem ZrT (hlib:Jv C) (hih:JP C ih) {rest:Bx Rg} {dk:List Zp} {os:List DOp} (hrest:Zrs C ih rest dk os) {fm:Fm} {f:FuncId} {dst:Option Nat} {g:Option (Nat × Bool)} {k:K} (hfk:ZhA k=true) {o:Out} (h:(goF C f rest dst g k).run ih dk fm ρ σ nx=some o) {F:Fr C.P} (hg:Zu ρd g=some true)
  (hF:FmR C η fm o F) (hρ:YI η [] ρ ρd) (hN:Wq η nx) (hS:Sim C η σ s):DO F none dk (⟨dst,g,k⟩ :: os) ρd [] s:=by
 have gen:∀ {k:K},ZhA k=true→(gk k || g.isNone)=true→(match (opF (C.mu f dst) dst.isSome k).run ρ σ nx with
   | some ⟨v,σ',nx'⟩=>rest.run ih dk fm ((Zct dst).run ρ (.v v)) σ' nx'
   | none=>none)=some o→DO F none dk (⟨dst,g,k⟩ :: os) ρd [] s:=by
  intro k hfk hgk h
  split at h <;> (try (simp at h; done))
  rename_i v σ' nx' hop
  exact Zvu hS hN hρ hg hgk hfk hop fun η' e s2 k1 k2 k3 k4=>hrest _ _ _ _ _ h F η' _ s2 (hF.mono k1) (J2 (hρ.mono k1) k4 dst) k2 k3
 cases k
 case call fx xs =>
  simp only [goF] at h
  split at h <;> (try (simp at h; done))
  rename_i fv hfv
  split at h <;> (try (simp at h; done))
  rename_i vs hvs
  split at h <;> (try (simp at h; done))
  rename_i pan v σ' nx' hcall
  obtain ⟨p,fd,a1,a2,a3⟩:=KZ hρ hfv
  obtain ⟨q,ds,b1,b2,b3⟩:=ZaQ hρ hvs
  have hV:=Zjt hlib hih hcall a3 b3 hN hS
  refine QF hg rfl a1 b1 (ZaU ds) b2 a2 hV (fun d s' hp=>?_) (fun d s' hp=>?_)
  ·obtain ⟨η1,d1,k1,k2,k3,k4,k5⟩:=hp
   cases pan with
   | true=>simp at k5
   | false =>
    simp only [Bool.false_eq_true,if_false,Res.ret.injEq] at k5
    subst k5
    exact hrest _ _ _ _ _ h F η1 _ s' (hF.mono k1) (J2 (hρ.mono k1) (WR.val k4) dst) k2 k3
  ·obtain ⟨η1,d1,k1,k2,k3,k4,k5⟩:=hp
   cases pan with
   | false=>simp at k5
   | true =>
    simp only [if_true,Res.panic.injEq] at k5
    subst k5
    exact ZfN hih h (hF.mono k1) (hρ.mono k1) k2 k3 k4
 case panic x =>
  simp only [goF] at h
  split at h <;> (try (simp at h; done))
  rename_i t v hv
  obtain ⟨p,d,a1,a2,a3⟩:=KZ hρ hv
  cases a3 with
  | iface _ _ d hd=>exact Znk hg rfl a1 a2 (ZfN hih h hF hρ hN hS (.iface _ _ _ hd))
 case defer fx xs =>
  simp only [goF] at h
  split at h
  ·simp only at h
   split at h <;> (try (simp at h; done))
   rename_i j first caps vs hfv hvs
   split at h <;> (try (simp at h; done))
   rename_i res hk
   obtain ⟨hr,hh⟩:=ZL h; replace h:=hh; clear hh
   simp only [ZvN] at hr
   obtain ⟨p,fd,a1,a2,a3⟩:=KZ hρ hfv
   obtain ⟨q,ds,b1,b2,b3⟩:=ZaQ hρ hvs
   cases a3 with
   | fn _ _ _ da dc h1 h2 =>
    obtain ⟨f1,f2,f3,f4⟩:=hF
    rw [hk] at f4
    obtain ⟨Φ,dds,hI,hd,hΦ⟩:=f4
    have r1:=ZgB (h1.append b3) hr.1
    have r2:=ZgB h2 hr.2
    refine Zni hI.roundOf rfl rfl rfl a1 b1 (ZaU ds) b2 a2 r1 r2 (hrest _ _ _ _ _ h _ η _ s ⟨f1,f2,f3,?_⟩ hρ hN hS)
    simp only [hk]
    exact ⟨Φ,_,hI.defer j (da++ds) dc,.fn _ _ _ _ _ _ _ (h1.append b3) h2 r1 r2 hd,hΦ⟩
  ·simp at h
 case recover =>
  simp only [goF] at h
  split at h
  ·simp only at h
   obtain ⟨f1,f2,f3,f4⟩:=hF
   split at h
   ·rename_i v hk
    rw [hk] at f4
    obtain ⟨m,Ψ,hI,hm,hΨ⟩:=f4
    cases m with
    | none=>exact hm.elim
    | some d =>
     refine ZoZ hI rfl rfl fun F' hI' e1 e2 e3=>hrest _ _ _ _ _ h F' η _ s ⟨by rw [e1]; exact f1,by rw [e2]; exact f2,by rw [e3]; exact f3,?_⟩ (J2 hρ (WR.val hm) dst) hN hS
     exact ⟨some d,Ψ,hI',hm,hΨ⟩
   ·rename_i rec hk
    have f4':=f4
    rw [hk] at f4
    obtain ⟨m,Ψ,hI,hm,hΨ⟩:=f4
    cases m with
    | some d=>exact hm.elim
    | none=>exact ZiY hI rfl rfl (hrest _ _ _ _ _ h F η _ s ⟨f1,f2,f3,f4'⟩ (J2 hρ (WR.val .niliface) dst) hN hS)
   ·simp at h
  ·simp at h
 all_goals
  simp only [goF] at h
  split at h
  ·rename_i hgk
   exact gen hfk hgk h
  ·simp at h
theorem ZpU (hlib:Jv C) (hih:JP C ih) {dk:List Zp} {f:FuncId}:∀ {os:List DOp},(os.all fun o=>ZhA o.k)=true→Zrs C ih (ZlF C f os) dk os
 | [],_=>fun fm ρ σ nx o h F η ρd s hF hρ hN hS=>Zg4 (hih.at _ _ _ _ _ _ h F η ρd s hF hρ hN hS)
 | ⟨dst,g,k⟩ :: os,hfk=>fun fm ρ σ nx o h F η ρd s hF hρ hN hS=>by
  simp only [List.all_cons,ZvN] at hfk
  have IH:=ZpU hlib hih (dk:=dk) (f:=f) hfk.2
  simp only [ZlF] at h
  split at h
  ·exact ZrT hlib hih IH hfk.1 h rfl hF hρ hN hS
  ·simp only at h
   split at h <;> (try (simp at h; done))
   rename_i b hb
   have hg:=Zmi hρ hb
   split at h
   ·exact ZrT hlib hih IH hfk.1 h hg hF hρ hN hS
   ·exact JB (e:=.d (.bool false)) hg (IH _ _ _ _ _ h F η _ s hF (J2 hρ WR.skp dst) hN hS)
end
end Go.DL
namespace Go.DL
open Go
variable [Znt]
section
variable {P:Program}
theorem Zno {F:Fr P} (hr:F.b.roundOf=none) {o:Opd} {ps:List Nat} {da db:DC} {dk:List Zp} {ρ:Env} {L:Loc} {s:St} {p:Prop} {fv:D} (hf:ZV ρ true o=some (p,.d fv)) (hp:p) (ks:List Nat) (hks:(Wy ρ ks).map (·.1) |>.Nodup)
  (h:∀ q l r,s q=none→s l=none→q≠l→r.ρ=Js ks ρ→r.params=ps→r.fn=F.b.fn→cc P F.an F.N r.assign=some da→cc P F.an F.N r.body=some db→r.N=F.N→(∀ t∈ps,t < F.N) →
   ∃ Ψ,Qw P fv [.fn (.yield l) [] []] ((s.upd q .dfr).upd l (.loop r .ready)) Ψ∧(∀ d s',Ψ (.ret d) s'→∃ r',Zg6 (F.mark q) l r' dk ρ L s')∧(∀ d s',Ψ (.panic d) s'→Kw (F.mark q) ρ L d s')) :
  ZD F (.code (.rangeF o ps da db) :: dk) ρ L s:=by
 intro k hk
 cases hk with
 | @code _ _ kt _ hc ht =>
 obtain ⟨f',ps',a',b',rfl,hf',hps,ha,hb,hlt⟩:=Zl3 hc
 intro g ν w tmps hN m
 have hfr:Rep g w _ fv:=Y2 m hf' rfl hf hp F.ds
 have hg1:=Zah (g:=g) (w:=w) (.deferred (some [])) m.st.fresh
 have he1:=hg1.ext m.st.fresh
 obtain ⟨hq,m1⟩:=m.newObj hg1 (o:=.dfr) ⟨(m.st.fresh _ (ZvR _)).1,QB w _⟩
 let w1:=w.alloc (.deferred (some []))
 let lp:Go.Loop:={ state:=.ready,pending:=none,fn:=F.b.fn,tmps:=tmps,params:=ps',assign:=a',body:=b',defers:=w.heap.size }
 let r:KM:={ fn:=F.b.fn,params:=ps,assign:=a',body:=b',defers:=w.heap.size,ρ:=Js ks ρ,N:=F.N }
 have hg2:=Zah (g:=g) (w:=w1) (.loop lp) m1.st.fresh
 have he2:=hg2.ext m1.st.fresh
 obtain ⟨hl,m2⟩:=m1.newObj hg2 (o:=.loop r .ready) ⟨(m1.st.fresh _ (ZvR _)).1,lp,QB w1 _,rfl,hps,rfl,rfl,rfl,hN,fun t e het=>by
  obtain ⟨h1,h2⟩:=ZdJ hks het
  exact ZkU (((m1.env t e (Zdi ρ ks t e h1))).mono he2) h2,rfl,rfl⟩
 have hqsz:w1.heap.size=w.heap.size + 1:=by simp [w1]
 have hl':s w1.heap.size=none:=by
  have hne:¬ w1.heap.size=w.heap.size:=by omega
  have h0:(s.upd w.heap.size .dfr) w1.heap.size=none:=hl
  simp only [St.upd,hne,if_false] at h0
  exact h0
 obtain ⟨Ψ,hV,hret,hpan⟩:=h w.heap.size w1.heap.size r hq hl' (by omega) rfl rfl rfl ha hb rfl hlt
 have hrep2:Rep g (w1.alloc (.loop lp)) _ fv:=(hfr.mono he1).mono he2
 obtain ⟨d,nx,fr,hd1,hd2,hd3,hC⟩:=hV (ZeR g ν L) (w1.alloc (.loop lp)) _ [.func (.yield w1.heap.size) #[] #[]] m2.callSt (KS hrep2 rfl) (.cons (.fn (.yield w1.heap.size) [] [] [] [] rfl rfl (by simp) (by simp)) .nil)
 have henter:(Instr.enterLoop F.b.fn tmps ps' a' b' F.b.roundOf).run P w = .ok (w1.heap.size,[{ target:=.collected w.heap.size,args:=#[] }]) (w1.alloc (.loop lp)):=by
  rw [hr]; simp [Instr.enterLoop,w1,lp]
 have hstep:=ZfV (P:=P) (b:=F.b) (a:=⟨tmps,F.ds⟩) (k:=kt) (cs:=F.cs) henter hd1 hd2 hd3
 obtain ⟨e,w',⟨g',s',res,x1,x2,x3,x4⟩,hback⟩:=hC (F.b.atR { tmps:=tmps,defers:=[{ target:=.collected w.heap.size,args:=#[] }]++F.ds } (.inRangeFunc w1.heap.size :: kt)) F.cs
 obtain ⟨hext,hm⟩:=m2.afterCall x1 x2
 have hext':=(he1.trans he2).trans hext
 cases e with
 | returned v =>
  cases res with
  | panic d=>exact x3.elim
  | ret d =>
   refine F.T.back _ _ _ _ (.head hstep hback) ?_
   rw [finish_atR_inRangeFunc]
   exact F.T.ext _ _ _ _ _ hext' ((hret d s' x4).elim fun _ hrn=>ZkT (F:=F.mark w.heap.size) ht hN hm hrn)
 | panicked ch =>
  cases res with
  | ret d=>exact x3.elim
  | panic d =>
   obtain ⟨v,rfl,hv⟩:=x3
   refine F.T.back _ _ _ _ (.head hstep hback) ?_
   rw [Frame.raise_atR]
   exact F.T.ext _ _ _ _ _ hext' (hpan d s' x4 _ _ _ v _ _ hN hm (KS hv rfl))
 | outgrown=>exact hback.elim
end
theorem Zgn {ρ:Env}:∀ {ks:List Nat} {t:Nat},t∈(Wy ρ ks).map (·.1)→t∈ks
 | [],t,h=>by simp [Wy] at h
 | k :: ks,t,h=>by
  simp only [Wy] at h
  split at h
  ·simp only [List.map_cons,List.mem_cons] at h
   rcases h with rfl | h
   ·simp
   ·exact List.mem_cons_of_mem _ (Zgn h)
  ·exact List.mem_cons_of_mem _ (Zgn h)
theorem Zff {ρ:Env}:∀ {ks:List Nat},ks.Nodup→((Wy ρ ks).map (·.1)).Nodup
 | [],_=>by simp [Wy]
 | k :: ks,h=>by
  simp only [List.nodup_cons] at h
  simp only [Wy]
  split
  ·simp only [List.map_cons,List.nodup_cons]
   exact ⟨fun hk=>h.1 (Zgn hk),Zff h.2⟩
  ·exact Zff h.2
section
variable {C:Px} {ih:Ih}
def Znd (C:Px) (ih:Ih) (f:FuncId) (c:DC):Prop :=
 ∀ fm k ρ σ nx o,(Zaf C f c).run ih fm k ρ σ nx=some o→fm.f=f→∀ (F:Fr C.P) η ρd s,FmR C η fm o F→YI η [] ρ ρd→Wq η nx→Sim C η σ s→ZD F (.code c :: k) ρd [] s
def Zj3 (C:Px) (ih:Ih):Prop:=∀ f order ops kp,Znd C ih f (.regD order ops kp)
theorem Zsd (hlib:Jv C) (hih:JP C ih) {f:FuncId} {g:Opd} {ps:List Nat} {a b:DC}:Znd C ih f (.rangeF g ps a b):=by
 intro fm k ρ σ nx o h hf F η ρd s hF hρ hN hS
 simp only [Zaf] at h
 split at h <;> (try (simp at h; done))
 rename_i res hk
 split at h <;> (try (simp at h; done))
 rename_i fv hfv
 split at h <;> (try (simp at h; done))
 rename_i pan v σ' nx' hcall
 obtain ⟨p,fd,a1,a2,a3⟩:=KZ hρ hfv
 have hF0:=hF
 obtain ⟨f1,f2,f3,f4⟩:=hF
 rw [hk] at f4
 obtain ⟨Φ,dds,hI,hdd,hΦ⟩:=f4
 refine Zno hI.roundOf a1 a2 Zjo (Zff List.nodup_range) fun q l r hq hl hql hr hps hfn hca hcb hrN hlt=>?_
 have f0:=hN.free nx (ZvR _)
 have n1:η.Sub (η.put nx (.tip q)):=Nm.put_sub f0 _
 have hN1:=hN.put (.tip q)
 have S1:Sim C (η.put nx (.tip q)) (σ.set (some .dfr) nx) (s.upd q .dfr):=hS.new f0 hq .dfr
 have f0':=hN1.free (nx + 1) (ZvR _)
 have n2:(η.put nx (.tip q)).Sub ((η.put nx (.tip q)).put (nx + 1) (.tip l)):=Nm.put_sub f0' _
 have hN2:=hN1.put (.tip l)
 have hl':(s.upd q .dfr) l=none:=by rw [ZvP s _ (Ne.symm hql)]; exact hl
 have S2:=S1.new f0' hl' (o:=.loop fm.f fm.n ps a b ρ none false) (d:=.loop r .ready)
  (.loop _ _ _ _ _ _ _ _ r .ready (by rw [hfn,f1]) (by rw [hrN,f2]) hps (by rw [← f2]; exact hlt) (by rw [← f3,← f2]; exact hca) (by rw [← f3,← f2]; exact hcb) (by rw [hr]; exact (hρ.round.mono n1).mono n2) trivial)
 have hV:=Zjt hlib hih hcall ((a3.mono n1).mono n2) (.one (.yield _ _ (Nm.put_same _ _ _))) hN2 S2
 have fm':∀ {η':Nm},((η.put nx (.tip q)).put (nx + 1) (.tip l)).Sub η'→FmR C η' { fm with ds:=.mark nx :: fm.ds } o (F.mark q):=fun {η'} hs=>by
  refine ⟨f1,f2,f3,?_⟩
  simp only [hk]
  exact ⟨Φ,_,hI.mark q,.mark _ _ _ _ (hs _ _ (n2 _ _ (Nm.put_same _ _ _))) (hdd.mono (n1.trans (n2.trans hs))),fun r s hp=>hΦ r s (hp.mono (n1.trans (n2.trans hs)))⟩
 refine ⟨_,hV,fun d s' hp=>?_,fun d s' hp=>?_⟩
 ·obtain ⟨η1,d1,k1,k2,k3,k4,k5⟩:=hp
  cases pan with
  | true=>simp at k5
  | false =>
   simp only at h
   have hlη:η1 (nx + 1)=some (.tip l):=k1 _ _ (Nm.put_same _ _ _)
   have hρ1:YI η1 [] ρ ρd:=hρ.mono (n1.trans (n2.trans k1))
   split at h <;> (try (simp at h; done))
   ·rename_i hlo
    obtain ⟨b',dd,e0,e1,e2⟩:=k3.get hlo (fun n=>by simp)
    rw [hlη] at e0
    simp only [ZvD,Tok.tip.injEq] at e0
    subst e0
    cases e2 with
    | loop _ _ _ _ _ _ _ _ r' lst hf' hn' hps' hlt' ha' hb' hρ' hst =>
     have hr':lst = .ready:=by cases lst <;> first | rfl | exact hst.elim
     subst hr'
     exact ⟨r',.inl ⟨e1,hih.at _ _ _ _ _ _ h (F.mark q) η1 ρd _ (fm' k1) hρ1 k2 (k3.take hlo hlη)⟩⟩
   ·rename_i f' n' _ _ _ _ j hlo
    obtain ⟨hc,hh⟩:=ZL h; replace h:=hh; clear hh
    simp only [ZvN,ZY] at hc
    obtain ⟨rfl,rfl⟩:=hc
    obtain ⟨b',dd,e0,e1,e2⟩:=k3.get hlo (fun n=>by simp)
    rw [hlη] at e0
    simp only [ZvD,Tok.tip.injEq] at e0
    subst e0
    cases e2 with
    | loop _ _ _ _ _ _ _ _ r' lst hf' hn' hps' hlt' ha' hb' hρ' hst =>
     cases lst with
     | done j'=>exact ⟨r',.inr ⟨j',j,e1,by show cc C.P F.an F.N j'=_; rw [f3,f2]; exact hst,hih.at _ _ _ _ _ _ h (F.mark q) η1 ρd _ (fm' k1) hρ1 k2 (k3.take hlo hlη)⟩⟩
     | _=>exact hst.elim
 ·obtain ⟨η1,d1,k1,k2,k3,k4,k5⟩:=hp
  cases pan with
  | false=>simp at k5
  | true =>
   simp only [if_true,Res.panic.injEq] at k5
   subst k5
   exact ZfN hih h (fm' k1) (hρ.mono (n1.trans (n2.trans k1))) k2 k3 k4
theorem ZaT (hlib:Jv C) (hih:JP C ih) (hD:Zj3 C ih) {f:FuncId}:∀ c,Znd C ih f c
 | .skip=>fun fm k ρ σ nx o h hf F η ρd s hF hρ hN hS=>YY (hih.at _ _ _ _ _ _ h F η ρd s hF hρ hN hS)
 | .label _=>fun fm k ρ σ nx o h hf F η ρd s hF hρ hN hS=>ZdD (hih.at _ _ _ _ _ _ h F η ρd s hF hρ hN hS)
 | .seq a b=>fun fm k ρ σ nx o h hf F η ρd s hF hρ hN hS=>Zi (ZaT hlib hih hD a _ _ _ _ _ _ h hf F η ρd s hF hρ hN hS)
 | .block id a=>fun fm k ρ σ nx o h hf F η ρd s hF hρ hN hS=>ZF (ZaT hlib hih hD a _ _ _ _ _ _ h hf F η ρd s hF hρ hN hS)
 | .loop a=>fun fm k ρ σ nx o h hf F η ρd s hF hρ hN hS=>Yh (ZaT hlib hih hD a _ _ _ _ _ _ h hf F η ρd s hF hρ hN hS)
 | .scope a=>fun fm k ρ σ nx o h hf F η ρd s hF hρ hN hS=>ZdE (ZaT hlib hih hD a _ _ _ _ _ _ h hf F η ρd s hF hρ hN hS)
 | .cond c a b=>fun fm k ρ σ nx o h hf F η ρd s hF hρ hN hS=>by
  simp only [Zaf] at h
  split at h <;> (try (simp at h; done))
  rename_i v hv
  obtain ⟨p,d,a1,a2,a3⟩:=KZ hρ hv
  cases a3 <;> simp only [reduceCtorEq] at h
  rename_i t
  cases t with
  | true=>exact Zv a1 a2 (fun _=>ZaT hlib hih hD a _ _ _ _ _ _ h hf F η ρd s hF hρ hN hS) (fun h=>by simp at h)
  | false=>exact Zv a1 a2 (fun h=>by simp at h) (fun _=>ZaT hlib hih hD b _ _ _ _ _ _ h hf F η ρd s hF hρ hN hS)
 | .goto l=>fun fm k ρ σ nx o h hf F η ρd s hF hρ hN hS=>by
  simp only [Zaf] at h
  split at h <;> (try (simp at h; done))
  rename_i k' hk'
  exact Zrq hk' (hih.at _ _ _ _ _ _ h F η ρd s hF hρ hN hS)
 | .ret=>fun fm k ρ σ nx o h hf F η ρd s hF hρ hN hS=>(ZpV hih h hF hρ hN hS).2 rfl k
 | .exit id=>fun fm k ρ σ nx o h hf F η ρd s hF hρ hN hS=>by
  simp only [Zaf] at h
  split at h
  ·rename_i k' hk'
   exact KO hk' (hih.at _ _ _ _ _ _ h F η ρd s hF hρ hN hS)
  ·rename_i hx
   split at h <;> (try (simp at h; done))
   rename_i l hk
   split at h <;> simp only [ZvD,reduceCtorEq] at h
   rename_i σ1 hl
   subst h
   obtain ⟨f1,f2,f3,f4⟩:=hF
   rw [hk] at f4
   obtain ⟨b,Φ,hb,hI,hΦ⟩:=f4
   obtain ⟨r,lst,e1,_,e2,e3⟩:=Zhy hS hb hl
   obtain rfl:=e2 rfl
   exact hI.exit hx e1 (ZvK _) (hΦ _ _ ⟨η,_,Nm.Sub.refl _,hN,e3 (.done (.exit id)) rfl,.bool false,rfl⟩)
 | .reg ops kp=>fun fm k ρ σ nx o h hf F η ρd s hF hρ hN hS=>by
  simp only [Zaf] at h
  split at h <;> (try (simp at h; done))
  split at h <;> (try (simp at h; done))
  rename_i hall
  exact Yr (ZpU hlib hih hall _ _ _ _ _ h F η ρd s hF hρ hN hS)
 | .regD order ops kp=>hD f order ops kp
 | .rangeF g ps a b=>Zsd hlib hih
theorem Zuq (hlib:Jv C) (hih:JP C ih) (hD:Zj3 C ih):ZsC C (step C ih):=by
 intro fm dk ρ σ nx o h F η ρd s hF hρ hN hS
 unfold step at h
 split at h
 ·exact (ZpV hih h hF hρ hN hS).1 rfl
 ·split at h
  ·exact Yb (hih.at _ _ _ _ _ _ h F η ρd s hF hρ hN hS)
  ·exact Zb5 (hih.at _ _ _ _ _ _ h F η ρd s hF hρ hN hS)
  ·exact ZG (ZaT hlib hih hD _ _ _ _ _ _ _ h rfl F η ρd s hF hρ hN hS)
  ·split at h <;> (try (simp at h; done))
   rename_i l hk
   split at h <;> (try (simp at h; done))
   rename_i σ1 hl
   have hF0:=hF
   obtain ⟨f1,f2,f3,f4⟩:=hF
   rw [hk] at f4
   obtain ⟨b,Φ,hb,hI,hΦ⟩:=f4
   obtain ⟨r,lst,e1,e2,_,e3⟩:=Zhy hS hb hl
   obtain rfl:=e2 rfl
   exact hI.begin e1 (hih.at _ _ _ _ _ _ h F η ρd _ hF0 hρ hN (e3 .busy trivial))
  ·exact ZaT hlib hih hD _ _ _ _ _ _ _ h rfl F η ρd s hF hρ hN hS
theorem ZkX {C:Cx} (hlib:∀ t,Jv ⟨C,t⟩) (hD:∀ (C':Px) ih,C'.toCx=C→JP C' ih→Zj3 C' ih):∀ n t,JP ⟨C,t⟩ (run C n)
 | 0,_=>fun _ fm dk ρ σ nx o h=>by simp [run] at h
 | n + 1,_=>fun t=>Zuq (hlib t) (ZkX hlib hD n t) (hD ⟨C,t⟩ _ rfl (ZkX hlib hD n t))
end
end Go.DL
namespace Go.DL
open Go
variable [Znt]
theorem Zhu {s s':St} {L L':Loc}:∀ {B:List (Nat × Rd)},(∀ n b,(n,.blk b)∈B→s' b=s b)→(∀ n l,(n,.loc l)∈B→Zl L' l=Zl L l)→QR s s' L L' B
 | [],_,_=>trivial
 | (n,.blk b) :: B,h1,h2=>⟨h1 n b (by simp),Zhu (fun m b hb=>h1 m b (by simp [hb])) (fun m l hl=>h2 m l (by simp [hl]))⟩
 | (n,.loc l) :: B,h1,h2=>⟨h2 n l (by simp),Zhu (fun m b hb=>h1 m b (by simp [hb])) (fun m l hl=>h2 m l (by simp [hl]))⟩
theorem Zel {n:Nat}:∀ {l:List Nat},ZaA n l=true↔n∈l
 | []=>by simp [ZaA]
 | a :: r=>by
  simp only [ZaA,ZvW,beq_iff_eq,List.mem_cons,Zel (l:=r)]
  constructor
  ·rintro (h | h)
   ·exact .inl h.symm
   ·exact .inr h
  ·rintro (h | h)
   ·exact .inl h.symm
   ·exact .inr h
theorem Zdj {fl:List Nat} {s s':St} {L L':Loc} {B:List (Nat × Rd)} (h1:∀ n b,n∈fl→(n,.blk b)∈B→s' b=s b) (h2:∀ n l,n∈fl→(n,.loc l)∈B→Zl L' l=Zl L l):Kl fl s s' L L' B :=
 Zhu (fun n b hb=>h1 n b (Zel.1 (QS.1 hb).1) (QS.1 hb).2) (fun n b hb=>h2 n b (Zel.1 (QS.1 hb).1) (QS.1 hb).2)
theorem ZcO {n:Nat}:∀ {l:List Nat},Zfj n l=true↔n∈l
 | []=>by simp [Zfj]
 | a :: r=>by
  simp only [Zfj,List.mem_cons]
  split
  ·rename_i h; rw [ZY] at h; simp [h]
  ·rename_i h
   have:¬ n=a:=fun e=>h (by rw [ZY,e])
   rw [ZcO]; simp [this]
theorem Znu {n m:Nat} {l:List Nat} (h:m=n∨m∈l):m∈ZsF n l:=by
 unfold ZsF
 split
 ·rename_i hm; rcases h with rfl | h
  ·exact ZcO.1 hm
  ·exact h
 ·rcases h with rfl | h <;> simp [*]
theorem Zez {fl:List Nat} {n k:Nat} (hn:n∈fl):∀ {l:List (Nat × Nat)},(n,k)∈l→k∈ZjN fl l
 | [],h=>by simp at h
 | (t,m) :: r,h=>by
  simp only [ZjN]
  rcases List.mem_cons.1 h with h | h
  ·simp only [ZvL] at h
   obtain ⟨rfl,rfl⟩:=h
   rw [if_pos (ZcO.2 hn)]
   exact Znu (.inl rfl)
  ·split
   ·exact Znu (.inr (Zez hn h))
   ·exact Zez hn h
theorem ZeW {fl:List Nat} {n k:Nat} (hn:n∈fl):∀ {l:List (Nat × Nat)},(n,k)∈l→(n,k)∈ZeV fl l
 | [],h=>by simp at h
 | (t,m) :: r,h=>by
  simp only [ZeV]
  rcases List.mem_cons.1 h with h | h
  ·simp only [ZvL] at h
   obtain ⟨rfl,rfl⟩:=h
   rw [if_pos (ZcO.2 hn)]
   simp
  ·split
   ·exact List.mem_cons_of_mem _ (ZeW hn h)
   ·exact ZeW hn h
theorem Zme {u:Nat}:∀ {r:List (Nat × Nat × Nat)},Zgi u r=none→∀ x∈r,x.1≠u
 | [],_,x,h=>by simp at h
 | (t,a) :: r,hn,x,h=>by
  simp only [Zgi] at hn
  split at hn
  ·simp at hn
  ·rename_i ht
   rcases List.mem_cons.1 h with rfl | h
   ·exact fun e=>ht (ZY.2 e)
   ·exact Zme hn x h
theorem Zjx {u:Nat} {a:Nat × Nat}:∀ {r:List (Nat × Nat × Nat)},Zgi u r=some a→(u,a)∈r
 | [],h=>by simp [Zgi] at h
 | (t,b) :: r,h=>by
  simp only [Zgi] at h
  split at h
  ·rename_i ht
   rw [ZY] at ht
   simp only [ZvD] at h
   subst h; subst ht; simp
  ·exact List.mem_cons_of_mem _ (Zjx h)
theorem Zjy {l:Nat} {vs:List V} {x:Nat}:∀ {r:List (Nat × List V)},Qk x (Zh0 l vs r)=if x=l then (match Qk l r with
  | some _=>some vs
  | none=>none) else Qk x r
 | []=>by simp [Zh0,Qk]
 | (t,c) :: r=>by
  simp only [Zh0]
  by_cases ht:t=l
  ·subst ht
   rw [if_pos (ZY.2 rfl)]
   simp only [Qk]
   by_cases hx:x=t
   ·subst hx; simp [ZY.2 rfl]
   ·rw [if_neg hx]
    have:¬ Nat.beq t x=true:=fun h=>hx (ZY.1 h).symm
    rw [if_neg this,if_neg this]
  ·rw [if_neg (fun h=>ht (ZY.1 h))]
   simp only [Qk]
   rw [Zjy (r:=r)]
   by_cases hx:x=l
   ·subst hx
    have:¬ Nat.beq t x=true:=fun h=>ht (ZY.1 h)
    rw [if_neg this,if_neg this,if_pos rfl]
   ·simp only [hx,if_false]
theorem Zmw {l:Nat} {vs:List V}:∀ {r:List (Nat × List V)},(Zh0 l vs r).map (·.1)=r.map (·.1)
 | []=>rfl
 | (t,c) :: r=>by
  simp only [Zh0]
  split
  ·simp
  ·simp [Zmw (r:=r)]
theorem Zmf {l:Nat}:∀ {r:List (Nat × List V)},Qk l r=none→l ∉ r.map (·.1)
 | [],_=>by simp
 | (t,c) :: r,h=>by
  simp only [Qk] at h
  split at h
  ·simp at h
  ·rename_i ht
   simp only [List.map_cons,List.mem_cons,not_or]
   exact ⟨fun e=>ht (ZY.2 e.symm),Zmf h⟩
theorem Za2 {o:O} (h:ZfQ o=true):ZaW o=false∧∀ n,o≠.tok n:=by
 cases o <;> simp [ZfQ] at h <;> exact ⟨rfl,fun n=>by simp⟩
theorem ZfM:∀ {ks:List Nat} {σ σ0:S} {l:List (Nat × O)},Zgx ks σ=some (σ0,l) →
  (∀ k o,σ0.get k=some o→(σ.get k=some o∧∀ o',(k,o') ∉ l)∨∃ o',o = .ro o'∧(k,o')∈l)∧(∀ k o,(k,o)∈l→σ.get k=some o∧ZfQ o=true)∧∀ k∈ks,(∃ o,(k,o)∈l)∨∃ o,σ.get k=some (.ro o)
 | [],σ,σ0,l,h=>by
  simp only [Zgx,ZvD,ZvL] at h
  obtain ⟨rfl,rfl⟩:=h
  exact ⟨fun k o h=>.inl ⟨h,fun _ h=>by simp at h⟩,fun k o h=>by simp at h,fun k h=>by simp at h⟩
 | k :: ks,σ,σ0,l,h=>by
  simp only [Zgx] at h
  split at h <;> (try (simp at h; done))
  rename_i o ho
  split at h
  ·rename_i hro
   split at h <;> simp only [ZvD,ZvL,reduceCtorEq] at h
   rename_i σ' l' hr
   obtain ⟨rfl,rfl⟩:=h
   obtain ⟨h1,h2,h3⟩:=ZfM hr
   refine ⟨fun k' o' h=>?_,fun k' o' h=>?_,fun k' h=>?_⟩
   ·rcases h1 k' o' h with ⟨h4,h5⟩ | ⟨o2,rfl,h4⟩
    ·rcases T.get_set h4 with ⟨rfl,h6⟩ | ⟨h0,h6⟩
     ·simp only [ZvD] at h6
      exact .inr ⟨o,h6.symm,by simp⟩
     ·refine .inl ⟨h6,fun o2 hm=>?_⟩
      rcases List.mem_cons.1 hm with hm | hm
      ·simp only [ZvL] at hm; exact h0 hm.1
      ·exact h5 o2 hm
    ·exact .inr ⟨o2,rfl,by simp [h4]⟩
   ·rcases List.mem_cons.1 h with h | h
    ·simp only [ZvL] at h
     obtain ⟨rfl,rfl⟩:=h
     exact ⟨ho,hro⟩
    ·obtain ⟨h4,h5⟩:=h2 k' o' h
     rcases T.get_set h4 with ⟨rfl,h6⟩ | ⟨_,h6⟩
     ·simp only [ZvD] at h6
      subst h6; simp [ZfQ] at h5
     ·exact ⟨h6,h5⟩
   ·rcases List.mem_cons.1 h with rfl | h
    ·exact .inl ⟨o,by simp⟩
    ·rcases h3 k' h with ⟨o',h⟩ | ⟨o',h⟩
     ·exact .inl ⟨o',by simp [h]⟩
     ·rcases T.get_set h with ⟨rfl,_⟩ | ⟨_,h⟩
      ·exact .inl ⟨o,by simp⟩
      ·exact .inr ⟨o',h⟩
  ·split at h <;> (try (simp at h; done))
   rename_i hro
   obtain ⟨h1,h2,h3⟩:=ZfM h
   refine ⟨h1,h2,fun k' hk=>?_⟩
   rcases List.mem_cons.1 hk with rfl | hk
   ·cases o <;> simp [ZaW] at hro
    exact .inr ⟨_,ho⟩
   ·exact h3 k' hk
theorem ZnC:∀ {l:List (Nat × O)} {σ σ2:S},ZeQ l σ=some σ2→(∀ k o,σ2.get k=some o→(k,o)∈l∨(σ.get k=some o∧∀ o',(k,o') ∉ l))∧∀ k o,(k,o)∈l→∃ o',σ.get k=some (.ro o')
 | [],σ,σ2,h=>by
  simp only [ZeQ,ZvD] at h
  subst h
  exact ⟨fun k o h=>.inr ⟨h,fun _ h=>by simp at h⟩,fun k o h=>by simp at h⟩
 | (k',o') :: l,σ,σ2,h=>by
  simp only [ZeQ] at h
  split at h <;> (try (simp at h; done))
  rename_i o1 ho
  split at h <;> simp only [ZvD,reduceCtorEq] at h
  rename_i σ' hb
  subst h
  obtain ⟨h1,h2⟩:=ZnC hb
  refine ⟨fun k o h=>?_,fun k o h=>?_⟩
  ·rcases T.get_set h with ⟨rfl,h3⟩ | ⟨h0,h3⟩
   ·simp only [ZvD] at h3
    subst h3; exact .inl (by simp)
   ·rcases h1 k o h3 with h4 | ⟨h4,h5⟩
    ·exact .inl (by simp [h4])
    ·refine .inr ⟨h4,fun o2 hm=>?_⟩
     rcases List.mem_cons.1 hm with hm | hm
     ·simp only [ZvL] at hm; exact h0 hm.1
     ·exact h5 o2 hm
  ·rcases List.mem_cons.1 h with h | h
   ·simp only [ZvL] at h
    obtain ⟨rfl,rfl⟩:=h
    exact ⟨o1,ho⟩
   ·exact h2 k o h
section
variable {C:Px} {η η':Nm} {σ σ0 σ' σ2:S} {s s':St}
def Znr (C:Px) (η:Nm) (l:List (Nat × O)) (s t:St):Prop :=
 (∀ b d,C.t b=some d→t b=some d)∧(∀ k o b,(k,o)∈l→η k=some (.tip b)→t b=s b)∧∀ b d,t b=some d→C.t b=some d∨∃ k o,(k,o)∈l∧η k=some (.tip b)
open Classical in
theorem Sim.lend (hS:Sim C η σ s) {ks:List Nat} {l:List (Nat × O)} (h:Zgx ks σ=some (σ0,l)):∃ t,Sim ⟨C.toCx,t⟩ η σ0 s∧Znr C η l s t:=by
 obtain ⟨h1,h2,_⟩:=ZfM h
 have hM:∀ b k o,(k,o)∈l→η k=some (.tip b)→∃ d,s b=some d∧OR C η k o d:=fun b k o hm hb=>by
  obtain ⟨g1,g2⟩:=h2 k o hm
  obtain ⟨b',d,e1,e2,e3⟩:=hS.get g1 (Za2 g2).2
  rw [hb] at e1
  simp only [ZvD,Tok.tip.injEq] at e1
  subst e1
  exact ⟨d,e2,e3⟩
 have hin:∀ k o,σ0.get k=some o→∃ o',σ.get k=some o':=fun k o hk=>by
  rcases h1 k o hk with ⟨g,_⟩ | ⟨o',_,g⟩
  ·exact ⟨o,g⟩
  ·exact ⟨o',(h2 k o' g).1⟩
 let t:St:=fun b=>if ∃ k o,(k,o)∈l∧η k=some (.tip b) then s b else C.t b
 have ht1:∀ b,(∃ k o,(k,o)∈l∧η k=some (.tip b))→t b=s b:=fun b hb=>by simp only [t]; rw [if_pos hb]
 have ht2:∀ b,¬ (∃ k o,(k,o)∈l∧η k=some (.tip b))→t b=C.t b:=fun b hb=>by simp only [t]; rw [if_neg hb]
 have hL:Znr C η l s t:=by
  refine ⟨fun b d hb=>?_,fun k o b hm hb=>ht1 b ⟨k,o,hm,hb⟩,fun b d hb=>?_⟩
  ·by_cases hm:∃ k o,(k,o)∈l∧η k=some (.tip b)
   ·rw [ht1 b hm]; exact (hS.kp b d hb).1
   ·rw [ht2 b hm]; exact hb
  ·by_cases hm:∃ k o,(k,o)∈l∧η k=some (.tip b)
   ·exact .inr hm
   ·rw [ht2 b hm] at hb; exact .inl hb
 refine ⟨t,⟨fun k o hk=>?_,fun k k' o o' b hk hk' e e'=>?_,fun b d hb=>?_,fun k o b hk e=>?_⟩,hL⟩
 ·rcases h1 k o hk with ⟨g,_⟩ | ⟨o',rfl,g⟩
  ·exact hS.obj k o g
  ·obtain ⟨g1,g2⟩:=h2 k o' g
   obtain ⟨b,d,e1,e2,e3⟩:=hS.get g1 (Za2 g2).2
   exact ⟨_,e1,.inl ⟨b,d,rfl,e2,.ro o' d e3 (Za2 g2).1 (Za2 g2).2⟩⟩
 ·obtain ⟨o1,g1⟩:=hin _ _ hk
  obtain ⟨o2,g2⟩:=hin _ _ hk'
  exact hS.inj k k' o1 o2 b g1 g2 e e'
 ·have hb:t b=some d:=hb
  by_cases hm:∃ k o,(k,o)∈l∧η k=some (.tip b)
  ·refine ⟨by rw [← ht1 b hm]; exact hb,fun k' o' hk hr e=>?_⟩
   obtain ⟨k,o,hm,hb⟩:=hm
   rcases h1 k' o' hk with ⟨g,g'⟩ | ⟨o2,rfl,_⟩
   ·have:=hS.inj k k' o o' b (h2 k o hm).1 g hb e
    subst this
    exact g' o hm
   ·simp [ZaW] at hr
  ·rw [ht2 b hm] at hb
   refine ⟨(hS.kp b d hb).1,fun k' o' hk hr e=>?_⟩
   rcases h1 k' o' hk with ⟨g,_⟩ | ⟨o2,rfl,_⟩
   ·exact (hS.kp b d hb).2 k' o' g hr e
   ·simp [ZaW] at hr
 ·show ∃ d,t b=some d
  rcases h1 k _ hk with ⟨g,_⟩ | ⟨o',e0,g⟩
  ·obtain ⟨d,hd⟩:=hS.ro k o b g e
   exact ⟨d,hL.1 b d hd⟩
  ·simp only [O.ro.injEq] at e0
   subst e0
   obtain ⟨d,hd,_⟩:=hM b k o g e
   exact ⟨d,by rw [hL.2.1 k o b g e]; exact hd⟩
theorem Sim.unlend (hS:Sim C η σ s) {ks:List Nat} {l:List (Nat × O)} (h:Zgx ks σ=some (σ0,l)) {t:St} (hL:Znr C η l s t) (hs:η.Sub η') (hS':Sim ⟨C.toCx,t⟩ η' σ' s') (hb:ZeQ l σ'=some σ2) :
  Sim C η' σ2 s'∧∀ k b,k∈ks→η k=some (.tip b)→s' b=s b:=by
 obtain ⟨h1,h2,h3⟩:=ZfM h
 obtain ⟨b1,b2⟩:=ZnC hb
 obtain ⟨l1,l2,l3⟩:=hL
 have hM:∀ k o b,(k,o)∈l→η k=some (.tip b)→∃ d,s b=some d∧s' b=some d∧OR C η k o d:=fun k o b hm hb=>by
  obtain ⟨g1,g2⟩:=h2 k o hm
  obtain ⟨b',d,e1,e2,e3⟩:=hS.get g1 (Za2 g2).2
  rw [hb] at e1
  simp only [ZvD,Tok.tip.injEq] at e1
  subst e1
  exact ⟨d,e2,(hS'.kp b d (by show t b=_; rw [l2 k o b hm hb]; exact e2)).1,e3⟩
 have hin:∀ k o,σ2.get k=some o→∃ o',σ'.get k=some o':=fun k o hk=>by
  rcases b1 k o hk with g | ⟨g,_⟩
  ·obtain ⟨o',g⟩:=b2 k o g; exact ⟨_,g⟩
  ·exact ⟨o,g⟩
 refine ⟨⟨fun k o hk=>?_,fun k k' o o' b hk hk' e e'=>?_,fun b d hb=>?_,fun k o b hk e=>?_⟩,fun k b hk hb=>?_⟩
 ·rcases b1 k o hk with g | ⟨g,_⟩
  ·obtain ⟨g1,g2⟩:=h2 k o g
   obtain ⟨b,d,e1,e2,e3⟩:=hS.get g1 (Za2 g2).2
   obtain ⟨d',f1,f2,f3⟩:=hM k o b g e1
   exact ⟨_,hs _ _ e1,.inl ⟨b,d',rfl,f2,f3.mono hs⟩⟩
  ·exact hS'.obj k o g
 ·obtain ⟨o1,g1⟩:=hin _ _ hk
  obtain ⟨o2,g2⟩:=hin _ _ hk'
  exact hS'.inj k k' o1 o2 b g1 g2 e e'
 ·obtain ⟨e1,e2⟩:=hS'.kp b d (l1 b d hb)
  refine ⟨e1,fun k o hk hr e=>?_⟩
  rcases b1 k o hk with g | ⟨g,_⟩
  ·exact (hS.kp b d hb).2 k o (h2 k o g).1 hr (hS.name hs (h2 k o g).1 e)
  ·exact e2 k o g hr e
 ·rcases b1 k _ hk with g | ⟨g,g'⟩
  ·have:=(h2 k _ g).2; simp [ZfQ] at this
  ·obtain ⟨d,hd⟩:=hS'.ro k o b g e
   rcases l3 b d hd with hd | ⟨k0,o0,hm,hb0⟩
   ·exact ⟨d,hd⟩
   ·obtain ⟨o1,g1⟩:=b2 k0 o0 hm
    have:=hS'.inj k k0 _ _ b g g1 e (hs _ _ hb0)
    subst this
    exact absurd hm (g' o0)
 ·rcases h3 k hk with ⟨o,hm⟩ | ⟨o,ho⟩
  ·obtain ⟨d,f1,f2,_⟩:=hM k o b hm hb
   rw [f1,f2]
  ·obtain ⟨d,hd⟩:=hS.ro k o b ho hb
   rw [(hS.kp b d hd).1,(hS'.kp b d (l1 b d hd)).1]
end
def ZcY (ρd:Env) (u l o:Nat):Prop:=Ye ρd u=some (.loc l o)∨Ye ρd u=some (.when true (.loc l o))
structure Ko (η:Nm) (r:Rl) (ρd:Env) (L:Loc) (B:List (Nat × Rd)):Prop where
 cs:∀ l vs,Qk l r.cs=some vs→∃ ds,Zl L l=some ds∧VRs η vs ds
 no:∀ l,Qk l r.cs=none→Zl L l=none
 nd:(r.cs.map (·.1)).Nodup
 ad:∀ u l o,(u,l,o)∈r.ad→ZcY ρd u l o
 lt:∀ u l o,(u,l,o)∈r.ad→u < 32768
 bn:∀ n b,(n,.blk b)∈B→∃ k,(n,k)∈r.bn∧η k=some (.tip b)
 bl:∀ n l,(n,.loc l)∈B→(n,l)∈r.bl
theorem Ko.nil {η:Nm} {ρd:Env}:Ko η Rl.nil ρd [] []:={
 cs l vs h:=by simp [Rl.nil,Qk] at h
 no l _:=rfl
 nd:=by simp [Rl.nil]
 ad u l o h:=by simp [Rl.nil] at h
 lt u l o h:=by simp [Rl.nil] at h
 bn n b h:=by simp at h
 bl n l h:=by simp at h }
section
variable {η η':Nm} {r:Rl} {ρd:Env} {L:Loc} {B:List (Nat × Rd)}
theorem Ko.mono (h:Ko η r ρd L B) (hs:η.Sub η'):Ko η' r ρd L B:={
 cs l vs hl:=by
  obtain ⟨ds,a,b⟩:=h.cs l vs hl
  exact ⟨ds,a,b.mono hs⟩
 no:=h.no
 nd:=h.nd
 ad:=h.ad
 lt:=h.lt
 bn n b hb:=by
  obtain ⟨k,a,c⟩:=h.bn n b hb
  exact ⟨k,a,hs _ _ c⟩
 bl:=h.bl }
theorem ZcY.put {u l o:Nat} (h:ZcY ρd u l o) {dst:Option Nat} (hd:dst≠some u) {e:E}:ZcY (ZQ ρd dst e) u l o:=by
 unfold ZcY
 rw [Km,if_neg hd]
 exact h
theorem ZkM {t:Nat} (h:noA t r=true):∀ u l o,(u,l,o)∈r.ad→t≠u:=fun u l o hm e=>by
 unfold noA at h
 split at h
 ·exact Zme ‹_› _ hm e.symm
 ·simp at h
theorem Zu0 {t:Nat} (h:noA t r=true):t < 32768:=by
 unfold noA at h
 split at h
 ·simpa [Nat.blt_eq] using h
 ·simp at h
theorem Zth {dst:Option Nat} (h:ZdM dst r=true):∀ u l o,(u,l,o)∈r.ad→dst≠some u:=fun u l o hm e=>by
 subst e
 exact ZkM h u l o hm rfl
theorem Ko.put (h:Ko η r ρd L B) {dst:Option Nat} (hd:ZdM dst r=true) (e:E):Ko η r (ZQ ρd dst e) L B :=
 { h with ad:=fun u l o hm=>(h.ad u l o hm).put (Zth hd u l o hm) }
theorem Ko.next (h:Ko η r ρd L B) (fl:List Nat):Ko η (JV fl r) ρd L (WP fl B):=by
 have h1:∀ {fl:List Nat} n b,(n,.blk b)∈WP fl B→∃ k,(n,k)∈ZeV fl r.bn∧η k=some (.tip b):=fun {fl} n b hb=>by
  obtain ⟨e1,e2⟩:=QS.1 hb
  obtain ⟨k,a,c⟩:=h.bn n b e2
  exact ⟨k,ZeW (Zel.1 e1) a,c⟩
 have h2:∀ {fl:List Nat} n l,(n,.loc l)∈WP fl B→(n,l)∈ZeV fl r.bl:=fun {fl} n l hb=>by
  obtain ⟨e1,e2⟩:=QS.1 hb
  exact ZeW (Zel.1 e1) (h.bl n l e2)
 cases fl with
 | nil=>rw [Zb0]; exact { cs:=h.cs,no:=h.no,nd:=h.nd,ad:=h.ad,lt:=h.lt,bn:=fun n b hb=>by simp at hb,bl:=fun n b hb=>by simp at hb }
 | cons a fl=>exact { cs:=h.cs,no:=h.no,nd:=h.nd,ad:=h.ad,lt:=h.lt,bn:=h1,bl:=h2 }
theorem Zlg (h:Ko η r ρd L B) {x:Opd} {l o:Nat} (ha:Zdu x r=some (l,o)):∃ p,ZV ρd true x=some (p,.loc l o)∧p:=by
 cases x with
 | cst d=>simp [Zdu] at ha
 | tmp t =>
  simp only [Zdu] at ha
  rcases h.ad t l o (Zjx ha) with h | h
  ·exact ⟨True,by simp only [ZV,h],trivial⟩
  ·exact ⟨True→True,by simp only [ZV,h],fun _=>trivial⟩
theorem Ko.addr (h:Ko η r ρd L B) {u l o:Nat} (hn:noA u r=true) {e:E} (he:e = .loc l o∨e = .when true (.loc l o)):Ko η ⟨r.cs,(u,l,o) :: r.ad,r.bn,r.bl⟩ (ZQ ρd (some u) e) L B :=
 { h with
  ad:=fun u' l' o' hm=>by
   rcases List.mem_cons.1 hm with hm | hm
   ·simp only [ZvL] at hm
    obtain ⟨rfl,rfl,rfl⟩:=hm
    unfold ZcY
    rw [Km,if_pos rfl]
    exact he.imp (by rintro rfl; rfl) (by rintro rfl; rfl)
   ·exact (h.ad u' l' o' hm).put (fun hu=>ZkM hn u' l' o' hm (by simpa using hu))
  lt:=fun u' l' o' hm=>by
   rcases List.mem_cons.1 hm with hm | hm
   ·simp only [ZvL] at hm
    rw [hm.1]; exact Zu0 hn
   ·exact h.lt u' l' o' hm }
theorem YI.off {ρ:T W} (h:YI η [] ρ ρd) (u:Nat) (e:E):YI η [] (ρ.set none u) (ZQ ρd (some u) e):=fun t w hw hl=>by
 rcases T.get_set hw with ⟨_,h1⟩ | ⟨hne,h1⟩
 ·simp at h1
 ·obtain ⟨e',h2,h3⟩:=h t w h1 hl
  exact ⟨e',by rw [Km,if_neg (by simpa using Ne.symm hne)]; exact h2,h3⟩
theorem Ko.reads (h:Ko η r ρd L B) {R:List (Nat × Rd)} {bn bl:List (Nat × Nat)} (h1:∀ k,k∈r.bn→k∈bn) (h2:∀ k,k∈r.bl→k∈bl) (h3:∀ n b,(n,.blk b)∈R→∃ k,(n,k)∈bn∧η k=some (.tip b)) (h4:∀ n l,(n,.loc l)∈R→(n,l)∈bl):Ko η ⟨r.cs,r.ad,bn,bl⟩ ρd L (R++B) :=
 { h with
  bn:=fun n b hb=>by
   rcases List.mem_append.1 hb with hb | hb
   ·exact h3 n b hb
   ·obtain ⟨k,a,c⟩:=h.bn n b hb
    exact ⟨k,h1 _ a,c⟩
  bl:=fun n l hb=>by
   rcases List.mem_append.1 hb with hb | hb
   ·exact h4 n l hb
   ·exact h2 _ (h.bl n l hb) }
end
end Go.DL
namespace Go.DL
open Go
variable [Znt]
section
variable {C:Px} {ih:Ih} {dk:List Zp} {os:List (DOp × List Nat)} {rest:Bx RgD}
def ZaE (C:Px) (ih:Ih) (rest:Bx RgD) (dk:List Zp) (os:List (DOp × List Nat)):Prop :=
 ∀ r fm ρ σ nx o,rest.run r ih dk fm ρ σ nx=some o→∀ (F:Fr C.P) η ρd L s B,FmR C η fm o F→YI η [] ρ ρd→Wq η nx→Sim C η σ s→Ko η r ρd L B→DOA F none dk os ρd L s B
variable {r:Rl} {fm:Fm} {ρ:T W} {σ:S} {nx:Nat} {o:Out} {F:Fr C.P} {η:Nm} {ρd:Env} {L:Loc} {s:St} {B:List (Nat × Rd)}
theorem Ztd {t:Nat} {v:V} {d:D} (hv:VR η v d) (h:Ko η r ρd L B):Ko η (ZtB t v r) ρd L ((QT (.d d)).map (fun b=>(t,b))++B):=by
 have key:∀ {k b:Nat},η k=some (.tip b)→Ko η ⟨r.cs,r.ad,(t,k) :: r.bn,r.bl⟩ ρd L ([(t,.blk b)]++B):=fun {k b} hb =>
  h.reads (fun _ hm=>List.mem_cons_of_mem _ hm) (fun _ hm=>hm) (fun n b' hb'=>⟨k,by
   simp only [List.mem_singleton,ZvL,Rd.blk.injEq] at hb'
   rw [hb'.1,hb'.2]
   exact ⟨by simp,hb⟩⟩) (fun n l hl=>by simp at hl)
 cases hv <;> first | exact h | exact key ‹_›
theorem Zru {x:Opd} {xs:List Opd} {vs:List V} (h:(ZbD (x :: xs)).run ρ=some vs):∃ v vs',(WA x).run ρ=some v∧(ZbD xs).run ρ=some vs'∧vs=v :: vs':=by
 simp only [ZbD] at h
 split at h <;> (try (simp at h; done))
 rename_i v hv
 split at h <;> simp only [ZvD,reduceCtorEq] at h
 rename_i vs' hvs
 exact ⟨v,vs',hv,hvs,h.symm⟩
theorem Zu5 (hρ:YI η [] ρ ρd) {dst:Option Nat} {g:Option (Nat × Bool)} {k:K} (hg:Zu ρd g=some true) {db:Bool} {r3:R3} (h:(opF false db k).run ρ σ nx=some r3) {ρd':Env} (hR:Ko η r ρd' L B) :
  Ko η ((rdR (dst.getD 0) k).run ρ r) ρd' L (Qq ⟨dst,g,k⟩ ρd++B):=by
 cases k
 case q q xs =>
  cases hr:Kg (.q q xs) with
  | false=>simpa only [rdR,Qq,KE,hr,Bool.false_eq_true,if_false,List.map_nil,List.nil_append] using hR
  | true =>
   simp only [rdR,Qq,KE,hr,if_true,hg]
   cases xs with
   | nil=>exact hR
   | cons x ys =>
    simp only [opF] at h
    split at h <;> (try (simp at h; done))
    rename_i vs hvs
    obtain ⟨p,ds,a1,a2,a3⟩:=ZaQ hρ hvs
    obtain ⟨v,vs',hv,_,rfl⟩:=Zru hvs
    obtain ⟨d,ds',rfl,b1,b2⟩:=a3.inv
    simp only [a1,List.map_cons,hv]
    exact Ztd b1 hR
 all_goals exact hR
theorem ZhH (hrest:ZaE C ih rest dk os) {dst:Option Nat} {g:Option (Nat × Bool)} {fl:List Nat} {k:K} (hk:WW k=true) (h:(ZhG rest dst k).run r ih dk fm ρ σ nx=some o) (hg:Zu ρd g=some true)
  (hF:FmR C η fm o F) (hρ:YI η [] ρ ρd) (hN:Wq η nx) (hS:Sim C η σ s) (hR:Ko η r ρd L B):DOA F none dk ((⟨dst,g,k⟩,fl) :: os) ρd L s B:=by
 simp only [ZhG] at h
 split at h <;> (try (simp at h; done))
 rename_i v σ1 nx1 hop
 obtain ⟨hd,hh⟩:=ZL h
 obtain ⟨e1,e2,side,e,e3,e4,e5⟩:=Zmo (L:=L) (dst:=dst) hS hN.o hρ.anyL hg hk hop
 have hpk:WB k=true:=by cases k <;> simp [WW] at hk <;> rfl
 refine Zad e4 e3 ?_
 simp only [hpk,if_true]
 exact hrest _ _ _ _ _ _ hh F η _ L s _ hF (J2 hρ (show WR η [] (.v v) e from e5) dst) hN hS (Zu5 hρ hg hop (hR.put hd e))
theorem ZlD {fl:List Nat} {σ0:S} {l:List (Nat × O)} (h:ZlC fl r σ=some (σ0,l)):∃ ks,Zgx ks σ=some (σ0,l)∧∀ n k,n∈fl→(n,k)∈r.bn→k∈ks:=by
 cases fl with
 | nil=>exact ⟨[],h,fun _ _ h=>by simp at h⟩
 | cons a fl=>exact ⟨_,h,fun n k hn hk=>Zez hn hk⟩
theorem Zlt (hrest:ZaE C ih rest dk os) {f:FuncId} {dst:Option Nat} {g:Option (Nat × Bool)} {fl:List Nat} {k:K} (hk:WW k=false) (hp:WB k=false) (hnf:ZhA k=true) (h:(Zls C f rest dst g fl k).run r ih dk fm ρ σ nx=some o) (hg:Zu ρd g=some true)
  (hF:FmR C η fm o F) (hρ:YI η [] ρ ρd) (hN:Wq η nx) (hS:Sim C η σ s) (hR:Ko η r ρd L B):DOA F none dk ((⟨dst,g,k⟩,fl) :: os) ρd L s B:=by
 unfold Zls at h
 split at h <;> (try (simp at h; done))
 rename_i hgk
 simp only at h
 split at h <;> (try (simp at h; done))
 rename_i σ0 l hout
 split at h <;> (try (simp at h; done))
 rename_i v σ1 nx1 hop
 split at h <;> (try (simp at h; done))
 rename_i σ2 hback
 obtain ⟨hd,hh⟩:=ZL h
 obtain ⟨ks,o1,o2⟩:=ZlD hout
 obtain ⟨t,hS0,hL⟩:=hS.lend o1
 refine Zas (Ks ⟨C.toCx,t⟩ η ⟨v,σ1,nx1⟩) hp (fun ρ' L' os' hag hc=>?_) (fun e s2 hr=>?_)
 ·exact ZrM hS0 hN hρ (by rw [Kb (fun t ht=>hag t (by simp [ZN,ht]))]; exact hg) hgk hk hnf hop hag hc
 ·obtain ⟨η',k1,k2,k3,d,k4,rfl⟩:=hr
  obtain ⟨u1,u2⟩:=hS.unlend o1 hL k1 k3 hback
  refine ⟨Zdj (fun n b hf hb=>?_) (fun _ _ _ _=>rfl),hrest _ _ _ _ _ _ hh F η' _ L s2 _ (hF.mono k1) (J2 (hρ.mono k1) (WR.val k4) dst) k2 u1 (((hR.put hd _).next fl).mono k1)⟩
  obtain ⟨kn,n1,n2⟩:=hR.bn n b hb
  exact u2 kn b (o2 n kn hf n1) n2
theorem ZsJ (hlib:Jv C) (hih:JP C ih) (hrest:ZaE C ih rest dk os) {f:FuncId} {dst:Option Nat} {g:Option (Nat × Bool)} {fl:List Nat} {fx:Opd} {xs:List Opd} (h:(goD C f rest dst g fl (.call fx xs)).run r ih dk fm ρ σ nx=some o) (hg:Zu ρd g=some true)
  (hF:FmR C η fm o F) (hρ:YI η [] ρ ρd) (hN:Wq η nx) (hS:Sim C η σ s) (hR:Ko η r ρd L B):DOA F none dk ((⟨dst,g,.call fx xs⟩,fl) :: os) ρd L s B:=by
 simp only [goD] at h
 split at h <;> (try (simp at h; done))
 rename_i fv hfv
 split at h <;> (try (simp at h; done))
 rename_i vs hvs
 split at h <;> (try (simp at h; done))
 rename_i σ0 l hout
 split at h <;> (try (simp at h; done))
 rename_i pan v σ' nx' hcall
 split at h <;> (try (simp at h; done))
 rename_i σ2 hback
 obtain ⟨ks,o1,o2⟩:=ZlD hout
 obtain ⟨t,hS0,hL⟩:=hS.lend o1
 obtain ⟨p,fd,a1,a2,a3⟩:=KZ hρ hfv
 obtain ⟨q,ds,b1,b2,b3⟩:=ZaQ hρ hvs
 have hV:Qw C.P fd ds s (Zfa ⟨C.toCx,t⟩ η ⟨pan,v,σ',nx'⟩):=Zjt (C:=⟨C.toCx,t⟩) hlib hih hcall a3 b3 hN hS0
 refine ZeN hg rfl a1 b1 (ZaU ds) b2 a2 hV (fun d S1 hp=>?_) (fun d S1 hp=>?_)
 ·obtain ⟨η1,d1,k1,k2,k3,k4,k5⟩:=hp
  cases pan with
  | true=>simp at k5
  | false =>
   simp only [Bool.false_eq_true,if_false,Res.ret.injEq] at k5
   subst k5
   obtain ⟨hd,hh⟩:=ZL h
   obtain ⟨u1,u2⟩:=hS.unlend o1 hL k1 k3 hback
   refine ⟨Zdj (fun n b hf hb=>?_) (fun _ _ _ _=>rfl),hrest _ _ _ _ _ _ hh F η1 _ L S1 _ (hF.mono k1) (J2 (hρ.mono k1) (WR.val k4) dst) k2 u1 (((hR.put hd _).next fl).mono k1)⟩
   obtain ⟨kn,n1,n2⟩:=hR.bn n b hb
   exact u2 kn b (o2 n kn hf n1) n2
 ·obtain ⟨η1,d1,k1,k2,k3,k4,k5⟩:=hp
  cases pan with
  | false=>simp at k5
  | true =>
   simp only [if_true,Res.panic.injEq] at k5
   subst k5
   exact ZfN hih h (hF.mono k1) YI.nil k2 (hS.unlend o1 hL k1 k3 hback).1 k4
end
end Go.DL
namespace Go.DL
open Go
variable [Znt]
section
variable {C:Px} {ih:Ih} {dk:List Zp} {os:List (DOp × List Nat)} {rest:Bx RgD}
variable {r:Rl} {fm:Fm} {ρ:T W} {σ:S} {nx:Nat} {o:Out} {F:Fr C.P} {η:Nm} {ρd:Env} {L:Loc} {s:St} {B:List (Nat × Rd)}
theorem ZhF {dst:Option Nat} {g:Option (Nat × Bool)} (hg:Zu ρd g=some true) {xs:List Opd} {es:List E} {p:Prop} (ha:Wc ρd true xs=some (p,es)) (hp:p) {q:Q} {side:Prop} {e:E} (hq:qv L s q es=some (side,e)) (hs:side) :
  ∃ side' e',side'∧ZU ⟨dst,g,.q q xs⟩ ρd L s = .ok side' (ZQ ρd dst e') L s∧(e'=e∨e' = .when true e):=by
 cases g with
 | none=>exact ⟨p∧side,e,ZvI hp hs,by unfold ZU; simp only [hg,ha,hq],.inl rfl⟩
 | some x=>exact ⟨true=true→p∧side,.when true e,fun _=>ZvI hp hs,by unfold ZU; simp only [hg,ha,hq],.inr rfl⟩
theorem Zj6 (hrest:ZaE C ih rest dk os) {dst:Option Nat} {g:Option (Nat × Bool)} {fl:List Nat} {l off:Nat} (h:(adD rest dst l off).run r ih dk fm ρ σ nx=some o) {q:Q} {xs:List Opd} (hrd:Kg (.q q xs)=false) {side:Prop} {e':E} (hside:side)
  (hst:ZU ⟨dst,g,.q q xs⟩ ρd L s = .ok side (ZQ ρd dst e') L s) (he:e' = .loc l off∨e' = .when true (.loc l off))
  (hF:FmR C η fm o F) (hρ:YI η [] ρ ρd) (hN:Wq η nx) (hS:Sim C η σ s) (hR:Ko η r ρd L B):DOA F none dk ((⟨dst,g,.q q xs⟩,fl) :: os) ρd L s B:=by
 unfold adD at h
 split at h <;> (try (simp at h; done))
 rename_i u
 obtain ⟨hn,hh⟩:=ZL h
 refine Zad hst hside ?_
 have hr0:Qq ⟨some u,g,.q q xs⟩ ρd=[]:=by simp only [Qq,KE,hrd,Bool.false_eq_true,if_false,List.map_nil]
 simp only [WB,if_true,hr0,List.nil_append]
 exact hrest _ _ _ _ _ _ hh F η _ L s _ hF (hρ.off u e') hN hS (hR.addr hn he)
theorem Zsi {dst:Option Nat} {g:Option (Nat × Bool)} {q:Q} {xs:List Opd} {es:List E} {p:Prop} {l off:Nat} (hrd:Kg (.q q xs)=true) (hg:Zu ρd g=some true) (ha:Wc ρd true xs=some (p,.loc l off :: es)):Qq ⟨dst,g,.q q xs⟩ ρd=[(dst.getD 0,.loc l)]:=by
 simp only [Qq,KE,hrd,if_true,hg,ha,QT,List.map_cons,List.map_nil,Zbl]
theorem Zua (hrest:ZaE C ih rest dk os) {dst:Option Nat} {g:Option (Nat × Bool)} {fl:List Nat} {q:Q} {x:Opd} {ys:List Opd} {l off:Nat} (hx:Zdu x r=some (l,off)) (h:(Zta rest dst q ys).run l off r ih dk fm ρ σ nx=some o) (hg:Zu ρd g=some true)
  (hF:FmR C η fm o F) (hρ:YI η [] ρ ρd) (hN:Wq η nx) (hS:Sim C η σ s) (hR:Ko η r ρd L B):DOA F none dk ((⟨dst,g,.q q (x :: ys)⟩,fl) :: os) ρd L s B:=by
 obtain ⟨p,a1,a2⟩:=Zlg hR hx
 have ha1:Wc ρd true [x]=some (p∧True,[.loc l off]):=by simp only [Wc,a1]
 have ld:∀ {q:Q} {v:V} {d:D} {side:Prop},Kg (.q q [x])=true→VR η v d→side→qv L s q [.loc l off]=some (side,.d d)→noV (ZdM dst r) (rest.run ⟨r.cs,r.ad,r.bn,(dst.getD 0,l) :: r.bl⟩ ih dk fm ((Zct dst).run ρ (.v v)) σ nx)=some o→DOA F none dk ((⟨dst,g,.q q [x]⟩,fl) :: os) ρd L s B:=by
  intro q v d side hrd hv hs hq h
  obtain ⟨hd,hh⟩:=ZL h
  obtain ⟨side',e',h1,h2,h3⟩:=ZhF (dst:=dst) hg ha1 ⟨a2,trivial⟩ hq hs
  refine Zad h2 h1 ?_
  simp only [WB,if_true,Zsi (dst:=dst) hrd hg ha1]
  refine hrest _ _ _ _ _ _ hh F η _ L s _ hF (J2 hρ (show WR η [] (.v v) e' from ⟨d,hv,h3⟩) dst) hN hS ((hR.put hd e').reads (fun _ h=>h) (fun _ hm=>List.mem_cons_of_mem _ hm) (fun n b hb=>by simp at hb) (fun n l' hl=>?_))
  simp only [List.mem_singleton,ZvL,Rd.loc.injEq] at hl
  rw [hl.1,hl.2]; simp
 unfold Zta at h
 split at h
 ·split at h <;> (try (simp at h; done))
  obtain ⟨side',e',h1,h2,h3⟩:=ZhF (L:=L) (s:=s) (dst:=dst) hg ha1 ⟨a2,trivial⟩ (q:=.mv) rfl trivial
  exact Zj6 hrest h rfl h1 h2 h3 hF hρ hN hS hR
 ·split at h <;> (try (simp at h; done))
  obtain ⟨side',e',h1,h2,h3⟩:=ZhF (L:=L) (s:=s) (dst:=dst) hg ha1 ⟨a2,trivial⟩ (q:=.nilck) rfl trivial
  exact Zj6 hrest h rfl h1 h2 h3 hF hρ hN hS hR
 ·rename_i o1
  split at h <;> (try (simp at h; done))
  obtain ⟨side',e',h1,h2,h3⟩:=ZhF (L:=L) (s:=s) (dst:=dst) hg ha1 ⟨a2,trivial⟩ (q:=.faddr o1) rfl trivial
  exact Zj6 hrest h rfl h1 h2 h3 hF hρ hN hS hR
 ·rename_i m z
  split at h <;> (try (simp at h; done))
  rename_i y
  simp only at h
  split at h <;> (try (simp at h; done))
  rename_i kk i hy
  obtain ⟨hb,hh⟩:=ZL h
  simp only [ZvN,J1,Bool.not_eq_true',← Bool.not_eq_true] at hb
  obtain ⟨p2,d,b1,b2,b3⟩:=KZ hρ hy
  cases b3
  have ha2:Wc ρd true [x,y]=some (p∧p2∧True,[.loc l off,.d (.int kk i)]):=by simp only [Wc,a1,b1]
  obtain ⟨side',e',h1,h2,h3⟩:=ZhF (L:=L) (s:=s) (dst:=dst) hg ha2 ⟨a2,b2,trivial⟩ (q:=.iaddrA m z) rfl ⟨hb.1,by omega⟩
  exact Zj6 hrest hh rfl h1 h2 h3 hF hρ hN hS hR
 ·split at h <;> (try (simp at h; done))
  simp only at h
  split at h <;> (try (simp at h; done))
  rename_i cs hcs
  split at h <;> (try (simp at h; done))
  rename_i v hv
  obtain ⟨ds,c1,c2⟩:=hR.cs l cs hcs
  rw [Ziu] at hv
  obtain ⟨d,d1,d2⟩:=c2.get hv
  exact ld rfl d2 trivial (by simp only [qv,K3,c1,d1,Option.map_some]) h
 ·rename_i n
  split at h <;> (try (simp at h; done))
  simp only at h
  split at h <;> (try (simp at h; done))
  rename_i cs hcs
  split at h <;> (try (simp at h; done))
  rename_i v hv
  obtain ⟨ds,c1,c2⟩:=hR.cs l cs hcs
  unfold Zh9 at hv
  split at hv <;> simp only [ZvD,reduceCtorEq] at hv
  rename_i rr hrr
  subst hv
  obtain ⟨d1,d2⟩:=c2.partv hrr
  exact ld rfl (.agg _ _ d2) d1 (by simp only [qv,Qe,c1,Option.map_some]) h
 ·simp at h
theorem Ko.cell (hR:Ko η r ρd L B) {l:Nat} {vs0 vs:List V} (hl:Qk l r.cs=some vs0) {ds:List D} (hv:VRs η vs ds):Ko η ⟨Zh0 l vs r.cs,r.ad,r.bn,r.bl⟩ ρd ((l,ds) :: L) B :=
 { hR with
  cs:=fun l' vs' h'=>by
   rw [Zjy] at h'
   by_cases he:l'=l
   ·subst he
    simp only [if_true,hl,ZvD] at h'
    subst h'
    exact ⟨ds,by simp [Zl],hv⟩
   ·rw [if_neg he] at h'
    obtain ⟨d,d1,d2⟩:=hR.cs l' vs' h'
    exact ⟨d,by simp only [Zl]; rw [if_neg (Ne.symm he)]; exact d1,d2⟩
  no:=fun l' h'=>by
   rw [Zjy] at h'
   by_cases he:l'=l
   ·subst he; simp [hl] at h'
   ·rw [if_neg he] at h'
    simp only [Zl]
    rw [if_neg (Ne.symm he)]
    exact hR.no l' h'
  nd:=by rw [Zmw]; exact hR.nd }
theorem ZpY (hrest:ZaE C ih rest dk os) {fl:List Nat} {l off n:Nat} {xs:List V} {k:K} (h:ZoT rest fl l off n xs r ih dk fm ρ σ nx=some o) (hpk:WB k=false) (hrk:Qq ⟨none,none,k⟩ ρd=[]) {ys:List D} (hx:VRs η xs ys) {p q ok:Prop} (hp:p) (hq:q) (hok:ok)
  (hst:ZU ⟨none,none,k⟩ ρd L s=QV ρd L s p q ok (.loc l off) n ys)
  (hF:FmR C η fm o F) (hρ:YI η [] ρ ρd) (hN:Wq η nx) (hS:Sim C η σ s) (hR:Ko η r ρd L B):DOA F none dk ((⟨none,none,k⟩,fl) :: os) ρd L s B:=by
 unfold ZoT at h
 split at h <;> (try (simp at h; done))
 rename_i cs hcs
 split at h <;> (try (simp at h; done))
 rename_i cs' hset
 obtain ⟨hb,hh⟩:=ZL h
 obtain ⟨ds,c1,c2⟩:=hR.cs l cs hcs
 obtain ⟨f0,f1,f2⟩:=c2.over hx hset
 have hst':ZU ⟨none,none,k⟩ ρd L s = .ok (p∧q∧off + n≤ds.length∧ok) ρd ((l,ZC ds off ys) :: L) s:=by rw [hst]; simp only [QV,c1]
 refine Zad hst' ⟨hp,hq,f1,hok⟩ ?_
 simp only [hpk,Bool.false_eq_true,if_false,hrk,List.nil_append]
 refine ⟨Zdj (fun _ _ _ _=>rfl) (fun n l' hf hl'=>?_),hrest _ _ _ _ _ _ hh F η ρd _ s _ hF hρ hN hS ((hR.cell hcs f2).next fl)⟩
 have hm:=hR.bl n l' hl'
 have:¬ l=l':=fun e=>by
  subst e
  simp only [Bool.not_eq_true'] at hb
  rw [ZcO.2 (Zez hf hm)] at hb
  simp at hb
 simp [Zl,this]
theorem Ko.more (hR:Ko η r ρd L B) {t:Nat} (ht:ZqJ t r=true) {vs:List V} {ds:List D} (hv:VRs η vs ds):Zl L t=none∧Ko η ⟨(t,vs) :: r.cs,(t,t,0) :: r.ad,r.bn,r.bl⟩ ((t,.loc t 0) :: ρd) ((t,ds) :: L) B:=by
 unfold ZqJ at ht
 simp only [ZvN] at ht
 obtain ⟨h1,h2⟩:=ht
 split at h1 <;> (try (simp at h1; done))
 rename_i hc
 have hA:=hR.addr (e:=.loc t 0) h2 (.inl rfl)
 refine ⟨hR.no t hc,{ hA with
  cs:=fun l vs' h'=>?_
  no:=fun l h'=>?_
  nd:=?_ }⟩
 ·simp only [Qk] at h'
  by_cases he:t=l
  ·subst he
   rw [if_pos (ZY.2 rfl)] at h'
   simp only [ZvD] at h'
   subst h'
   exact ⟨ds,by simp [Zl],hv⟩
  ·rw [if_neg (fun h=>he (ZY.1 h))] at h'
   obtain ⟨d,d1,d2⟩:=hR.cs l vs' h'
   exact ⟨d,by simp only [Zl]; rw [if_neg he]; exact d1,d2⟩
 ·simp only [Qk] at h'
  by_cases he:t=l
  ·subst he; rw [if_pos (ZY.2 rfl)] at h'; simp at h'
  ·rw [if_neg (fun h=>he (ZY.1 h))] at h'
   simp only [Zl]
   rw [if_neg he]
   exact hR.no l h'
 ·simp only [List.map_cons,List.nodup_cons]
  exact ⟨Zmf hc,hR.nd⟩
theorem Zrt (hrest:ZaE C ih rest dk os) {f:FuncId} {dst:Option Nat} {g:Option (Nat × Bool)} {fl:List Nat} {z:List D} (h:(goD C f rest dst g fl (.alloc z)).run r ih dk fm ρ σ nx=some o)
  (hF:FmR C η fm o F) (hρ:YI η [] ρ ρd) (hN:Wq η nx) (hS:Sim C η σ s) (hR:Ko η r ρd L B):DOA F none dk ((⟨dst,g,.alloc z⟩,fl) :: os) ρd L s B:=by
 simp only [goD] at h
 split at h <;> (try (simp at h; done))
 rename_i t zv hz
 obtain ⟨hn,hh⟩:=ZL h
 obtain ⟨hl,hR'⟩:=hR.more hn (ofDs_ok hz)
 refine Zad (side:=Zay L t=false) (ρ1:=(t,.loc t 0) :: ρd) (L1:=(t,z) :: L) (s1:=s) (by unfold ZU; simp only [Zu]) (by simp [Zay,hl]) ?_
 simp only [WB,if_true]
 exact hrest _ _ _ _ _ _ hh F η _ _ s _ hF (hρ.off t (.loc t 0)) hN hS hR'
theorem ZtS (hrest:ZaE C ih rest dk os) {f:FuncId} {dst:Option Nat} {g:Option (Nat × Bool)} {fl:List Nat} {x:Opd} (h:(goD C f rest dst g fl (.box x)).run r ih dk fm ρ σ nx=some o)
  (hF:FmR C η fm o F) (hρ:YI η [] ρ ρd) (hN:Wq η nx) (hS:Sim C η σ s) (hR:Ko η r ρd L B):DOA F none dk ((⟨dst,g,.box x⟩,fl) :: os) ρd L s B:=by
 simp only [goD] at h
 split at h <;> (try (simp at h; done))
 rename_i t
 simp only at h
 split at h <;> (try (simp at h; done))
 rename_i v hv
 obtain ⟨hb,hh⟩:=ZL h
 simp only [ZvN,Bool.not_eq_true'] at hb
 obtain ⟨⟨hp,hn⟩,hm⟩:=hb
 obtain ⟨p,d,a1,a2,a3⟩:=KZ hρ hv
 obtain ⟨hl,hR'⟩:=hR.more hn (Zid a3)
 refine Zad (side:=p∧Zay L t=false∧Qi d=true) (ρ1:=(t,.loc t 0) :: ρd) (L1:=(t,cellsOf d) :: L) (s1:=s) (by unfold ZU; simp only [Zu,a1]) ⟨a2,by simp [Zay,hl],ZjV a3 hp⟩ ?_
 simp only [WB,Bool.false_eq_true,if_false]
 refine ⟨Zdj (fun _ _ _ _=>rfl) (fun n l' hf hl'=>?_),hrest _ _ _ _ _ _ hh F η _ _ s _ hF (hρ.off t (.loc t 0)) hN hS (hR'.next fl)⟩
 have:¬ t=l':=fun e=>by
  subst e
  rw [ZcO.2 (Zez hf (hR.bl _ _ hl'))] at hm
  simp at hm
 simp [Zl,this]
theorem ZrS (hlib:Jv C) (hih:JP C ih) (hrest:ZaE C ih rest dk os) {f:FuncId} {dst:Option Nat} {g:Option (Nat × Bool)} {fl:List Nat} {k:K} (h:(goD C f rest dst g fl k).run r ih dk fm ρ σ nx=some o) (hg:Zu ρd g=some true)
  (hF:FmR C η fm o F) (hρ:YI η [] ρ ρd) (hN:Wq η nx) (hS:Sim C η σ s) (hR:Ko η r ρd L B):DOA F none dk ((⟨dst,g,k⟩,fl) :: os) ρd L s B:=by
 cases k
 case call fx xs=>exact ZsJ hlib hih hrest h hg hF hρ hN hS hR
 case alloc z=>exact Zrt hrest h hF hρ hN hS hR
 case box x=>exact ZtS hrest h hF hρ hN hS hR
 case panic x =>
  simp only [goD] at h
  split at h <;> (try (simp at h; done))
  rename_i t v hv
  obtain ⟨p,d,a1,a2,a3⟩:=KZ hρ hv
  cases a3 with
  | iface _ _ d hd=>exact ZlW hg rfl a1 a2 (ZfN hih h hF YI.nil hN hS (.iface _ _ _ hd))
 case defer fx xs=>simp [goD] at h
 case recover=>simp [goD] at h
 case fork k=>simp [goD] at h
 case store1 a v =>
  simp only [goD] at h
  split at h <;> (try (simp at h; done))
  simp only at h
  split at h
  ·rename_i l off ha
   split at h <;> (try (simp at h; done))
   rename_i x hx
   obtain ⟨hc,hh⟩:=ZL h
   obtain ⟨p,a1,a2⟩:=Zlg hR ha
   obtain ⟨q,d,b1,b2,b3⟩:=KZ hρ hx
   exact ZpY hrest hh rfl rfl (.one b3) a2 b2 (ZjU b3 hc) (by unfold ZU; simp only [Zu,a1,b1]) hF hρ hN hS hR
  ·exact Zlt hrest rfl rfl rfl h hg hF hρ hN hS hR
 case storeN n a v =>
  simp only [goD] at h
  split at h <;> (try (simp at h; done))
  simp only at h
  split at h
  ·rename_i l off ha
   split at h <;> (try (simp at h; done))
   rename_i xs hx
   obtain ⟨p,a1,a2⟩:=Zlg hR ha
   obtain ⟨q,d,b1,b2,b3⟩:=KZ hρ hx
   cases b3 with
   | agg _ ys hxs =>
   have hlen:ys.length=n:=by
    unfold ZoT at h
    split at h <;> (try (simp at h; done))
    split at h <;> (try (simp at h; done))
    rename_i hset
    rw [← hxs.len]; exact (ZlK hset).1
   exact ZpY hrest h rfl rfl hxs a2 b2 hlen (by unfold ZU; simp only [Zu,a1,b1]) hF hρ hN hS hR
  ·exact Zlt hrest rfl rfl rfl h hg hF hρ hN hS hR
 case q q xs =>
  simp only [goD] at h
  split at h
  ·rename_i x ys
   simp only at h
   split at h
   ·rename_i l off hx
    exact Zua hrest hx h hg hF hρ hN hS hR
   ·exact ZhH hrest rfl h hg hF hρ hN hS hR
  ·exact ZhH hrest rfl h hg hF hρ hN hS hR
 all_goals
  simp only [goD] at h
  first
   | exact ZhH hrest rfl h hg hF hρ hN hS hR
   | exact Zlt hrest rfl rfl rfl h hg hF hρ hN hS hR
end
end Go.DL
namespace Go.DL
open Go
variable [Znt]
theorem Zjz:∀ {ρ:Env} {t:Nat} {e:E},Ye ρ t=some e→(t,e)∈ρ
 | [],t,e,h=>by simp [Ye] at h
 | (k,x) :: r,t,e,h=>by
  simp only [Ye] at h
  split at h
  ·rename_i hk
   simp only [ZvD] at h
   subst h; subst hk; simp
  ·exact List.mem_cons_of_mem _ (Zjz h)
theorem Zs2:∀ {L:Loc},(∀ l,Zl L l=none)→L=[]
 | [],_=>rfl
 | (k,c) :: r,h=>by have:=h k; simp [Zl] at this
theorem ZhD {t nx:Nat}:∀ {ad:List (Nat × Nat × Nat)} {ρ:T W} {u:Nat} {w:W},(ZkR ad t nx ρ).get u=some w→(∃ o,(u,t,o)∈ad∧w = .v (.ptr nx o))∨ρ.get u=some w
 | [],ρ,u,w,h=>.inr h
 | (u',l,o) :: r,ρ,u,w,h=>by
  simp only [ZkR] at h
  split at h
  ·rename_i hl
   rw [ZY] at hl
   subst hl
   rcases T.get_set h with ⟨rfl,h3⟩ | ⟨_,h3⟩
   ·simp only [ZvD] at h3
    exact .inl ⟨o,by simp,h3.symm⟩
   ·rcases ZhD h3 with ⟨o',h1,h2⟩ | h3
    ·exact .inl ⟨o',by simp [h1],h2⟩
    ·exact .inr h3
  ·rcases ZhD h with ⟨o',h1,h2⟩ | h
   ·exact .inl ⟨o',by simp [h1],h2⟩
   ·exact .inr h
section
variable {C:Px} {ih:Ih} {dk:List Zp}
theorem ZpF (hih:JP C ih):∀ {cs:List (Nat × List V)} {ad:List (Nat × Nat × Nat)} {fm:Fm} {ρ:T W} {σ:S} {nx:Nat} {o:Out},Zn6 cs ad ih dk fm ρ σ nx=some o →
  ∀ {F:Fr C.P} {η:Nm} {ρd:Env} {L:Loc} {s:St},FmR C η fm o F→YI η [] ρ ρd→Wq η nx→Sim C η σ s→(∀ l vs,Qk l cs=some vs→(∃ u o,(u,l,o)∈ad)→∃ ds,Zl L l=some ds∧VRs η vs ds) →
   (∀ l,Qk l cs=none→Zl L l=none)→(cs.map (·.1)).Nodup→(∀ u l o,(u,l,o)∈ad→(Qk l cs).isSome=true→ZcY ρd u l o)→ZD F dk ρd L s
 | [],ad,fm,ρ,σ,nx,o,h,F,η,ρd,L,s,hF,hρ,hN,hS,hc,hn,hd,ha=>by
  obtain rfl:=Zs2 fun l=>hn l rfl
  exact hih.at _ _ _ _ _ _ h F η ρd s hF hρ hN hS
 | (t,vs) :: cs,ad,fm,ρ,σ,nx,o,h,F,η,ρd,L,s,hF,hρ,hN,hS,hc,hn,hd,ha=>by
  simp only [Zn6] at h
  split at h <;> (try (simp at h; done))
  rename_i l' o' hget
  obtain ⟨hl,hh⟩:=ZL h
  rw [ZY] at hl
  subst hl
  have hsome:Qk l' ((l',vs) :: cs)=some vs:=by simp [Qk,ZY.2 rfl]
  obtain ⟨ds,d1,d2⟩:=hc l' vs hsome ⟨_,_,Zjx hget⟩
  simp only [List.map_cons,List.nodup_cons] at hd
  have hcons:∀ {l:Nat},l≠l'→Qk l ((l',vs) :: cs)=Qk l cs:=fun {l} hne=>by
   simp only [Qk]
   rw [if_neg (fun h=>hne (ZY.1 h).symm)]
  have hkey:∀ {l:Nat} {x:List V},Qk l cs=some x→l≠l':=fun {l x} hx e=>by
   subst e
   have:∀ {r:List (Nat × List V)} {x:List V},Qk l r=some x→l∈r.map (·.1):=fun {r}=>by
    induction r with
    | nil=>intro x h; simp [Qk] at h
    | cons a r ih =>
     obtain ⟨t,c⟩:=a
     intro x h
     simp only [Qk] at h
     split at h
     ·rename_i ht; rw [ZY] at ht; simp [ht]
     ·simp only [List.map_cons,List.mem_cons]; exact .inr (ih h)
   exact hd.1 (this hx)
  refine ZX l' d1 fun b hb=>?_
  have f0:=hN.free nx (ZvR _)
  have n1:η.Sub (η.put nx (.tip b)):=Nm.put_sub f0 _
  refine ZpF hih hh (η:=η.put nx (.tip b)) (hF.mono n1) ?_ (hN.put _) (hS.new f0 hb (OR.cells0 (d2.mono n1))) ?_ ?_ hd.2 ?_
  ·intro u w hw hlv
   rw [Zc3]
   rcases ZhD hw with ⟨o2,h1,rfl⟩ | h1
   ·rcases ha u l' o2 h1 (by rw [hsome]; rfl) with h2 | h2
    ·exact ⟨.d (.ptr b o2),by rw [h2]; simp [Yq],.ptr b o2,.ptr _ _ _ (Nm.put_same _ _ _),.inl rfl⟩
    ·exact ⟨.when true (.d (.ptr b o2)),by rw [h2]; simp [Yq],.ptr b o2,.ptr _ _ _ (Nm.put_same _ _ _),.inr rfl⟩
   ·obtain ⟨e,h2,h3⟩:=hρ u w h1 hlv
    cases w with
    | v x =>
     obtain ⟨d,h4,rfl | rfl⟩:=h3
     ·exact ⟨_,by rw [h2]; rfl,d,h4.mono n1,.inl rfl⟩
     ·exact ⟨_,by rw [h2]; rfl,d,h4.mono n1,.inr rfl⟩
    | loc l o=>simp [Zol] at hlv
    | skip =>
     have h3':e = .when false (.d (.bool false)):=h3
     subst h3'
     exact ⟨_,by rw [h2]; rfl,rfl⟩
  ·intro l vs2 hl hx
   have hne:=hkey hl
   obtain ⟨ds2,g1,g2⟩:=hc l vs2 (by rw [hcons hne]; exact hl) hx
   exact ⟨ds2,by rw [ZcJ,if_neg hne]; exact g1,g2.mono n1⟩
  ·intro l hl
   rw [ZcJ]
   by_cases hne:l=l'
   ·rw [if_pos hne]
   ·rw [if_neg hne]
    exact hn l (by rw [hcons hne]; exact hl)
  ·intro u l o2 hm hs
   obtain ⟨x,hx⟩:=Option.isSome_iff_exists.1 hs
   have hne:=hkey hx
   unfold ZcY
   rw [Zc3]
   rcases ha u l o2 hm (by rw [hcons hne]; exact hs) with h2 | h2
   ·exact .inl (by rw [h2]; simp [Yq,hne])
   ·exact .inr (by rw [h2]; simp [Yq,hne])
theorem Zt4 (hih:JP C ih):ZaE C ih ⟨fun r ih dk fm ρ σ nx=>Zn6 r.cs r.ad ih dk fm ρ σ nx⟩ dk []:=by
 intro r fm ρ σ nx o h F η ρd L s B hF hρ hN hS hR
 show DOA F (some Zjo) dk [] ρd L s B
 refine Zlc (ZpF hih h hF hρ.keep hN hS (fun l vs hl hx=>?_) (fun l hl=>?_) hR.nd (fun u l o hm _=>?_))
 ·obtain ⟨u,o',hm⟩:=hx
  obtain ⟨ds,d1,d2⟩:=hR.cs l vs hl
  refine ⟨ds,?_,d2⟩
  have hat:ZcY (Wy ρd Zjo) u l o':=(hR.ad u l o' hm).imp (fun h=>JS h (List.mem_range.2 (hR.lt u l o' hm))) (fun h=>JS h (List.mem_range.2 (hR.lt u l o' hm)))
  refine Ze7 L _ l ds ?_ d1
  rw [List.mem_flatMap]
  rcases hat with h | h
  ·exact ⟨_,Zjz h,by simp [Q1]⟩
  ·exact ⟨_,Zjz h,by simp [Q1]⟩
 ·cases hg:Zl (ZbI (Wy ρd Zjo) L) l with
  | none=>rfl
  | some cs =>
   have:=Zac L _ l cs hg
   rw [hR.no l hl] at this; simp at this
 ·exact (hR.ad u l o hm).imp (fun h=>JS h (List.mem_range.2 (hR.lt u l o hm))) (fun h=>JS h (List.mem_range.2 (hR.lt u l o hm)))
end
theorem ZoL {cs xs ys:List D} {i j:Nat} (h1:i + xs.length≤cs.length) (h2:j + ys.length≤cs.length) (h:i + xs.length≤j∨j + ys.length≤i):ZC (ZC cs i xs) j ys=ZC (ZC cs j ys) i xs:=by
 have key:∀ {cs xs ys:List D} {i j:Nat},j + ys.length≤cs.length→i + xs.length≤j→ZC (ZC cs i xs) j ys=ZC (ZC cs j ys) i xs:=by
  intro cs xs ys i j h2 h
  apply List.ext_getElem?
  intro n
  simp only [ZC,List.append_assoc]
  simp only [List.getElem?_append,List.getElem?_take,List.getElem?_drop,List.length_take,ZvT,List.length_drop]
  by_cases a1:n < i
  ·simp only [show n < min j (min i cs.length + (xs.length + (cs.length - (i + xs.length)))) by omega,show n < min i cs.length by omega,show n < j by omega,a1,if_true,show n < min i (min j cs.length + (ys.length + (cs.length - (j + ys.length)))) by omega,show n < min j cs.length by omega]
  ·by_cases a2:n < i + xs.length
   ·simp only [show n < min j (min i cs.length + (xs.length + (cs.length - (i + xs.length)))) by omega,show ¬ n < min i cs.length by omega,show n < j by omega,if_true,if_false,show n - min i cs.length < xs.length by omega,show ¬ n < min i (min j cs.length + (ys.length + (cs.length - (j + ys.length)))) by omega,show n - min i (min j cs.length + (ys.length + (cs.length - (j + ys.length)))) < xs.length by omega]
    congr 1; omega
   ·by_cases a3:n < j
    ·simp only [show n < min j (min i cs.length + (xs.length + (cs.length - (i + xs.length)))) by omega,show ¬ n < min i cs.length by omega,a3,if_true,if_false,show ¬ n - min i cs.length < xs.length by omega,show ¬ n < min i (min j cs.length + (ys.length + (cs.length - (j + ys.length)))) by omega,show ¬ n - min i (min j cs.length + (ys.length + (cs.length - (j + ys.length)))) < xs.length by omega,
      show i + xs.length + (n - min i (min j cs.length + (ys.length + (cs.length - (j + ys.length)))) - xs.length) < min j cs.length by omega]
     rw [if_pos (by omega)]
     congr 1; omega
    ·by_cases a4:n < j + ys.length
     ·simp only [show ¬ n < min j (min i cs.length + (xs.length + (cs.length - (i + xs.length)))) by omega,if_false,show n - min j (min i cs.length + (xs.length + (cs.length - (i + xs.length)))) < ys.length by omega,if_true,show ¬ n < min i (min j cs.length + (ys.length + (cs.length - (j + ys.length)))) by omega,show ¬ n - min i (min j cs.length + (ys.length + (cs.length - (j + ys.length)))) < xs.length by omega,
       show ¬ i + xs.length + (n - min i (min j cs.length + (ys.length + (cs.length - (j + ys.length)))) - xs.length) < min j cs.length by omega,show i + xs.length + (n - min i (min j cs.length + (ys.length + (cs.length - (j + ys.length)))) - xs.length) - min j cs.length < ys.length by omega]
      congr 1; omega
     ·simp only [show ¬ n < min j (min i cs.length + (xs.length + (cs.length - (i + xs.length)))) by omega,if_false,show ¬ n - min j (min i cs.length + (xs.length + (cs.length - (i + xs.length)))) < ys.length by omega,show ¬ n < min i (min j cs.length + (ys.length + (cs.length - (j + ys.length)))) by omega,show ¬ n - min i (min j cs.length + (ys.length + (cs.length - (j + ys.length)))) < xs.length by omega,
       show ¬ i + xs.length + (n - min i (min j cs.length + (ys.length + (cs.length - (j + ys.length)))) - xs.length) < min j cs.length by omega,show ¬ i + xs.length + (n - min i (min j cs.length + (ys.length + (cs.length - (j + ys.length)))) - xs.length) - min j cs.length < ys.length by omega,
       show ¬ j + ys.length + (n - min j (min i cs.length + (xs.length + (cs.length - (i + xs.length)))) - ys.length) < min i cs.length by omega,show ¬ j + ys.length + (n - min j (min i cs.length + (xs.length + (cs.length - (i + xs.length)))) - ys.length) - min i cs.length < xs.length by omega]
      congr 1; omega
 rcases h with h | h
 ·exact key h2 h
 ·exact (key h1 h).symm
section
variable {C:Px} {ih:Ih} {dk:List Zp} {os:List (DOp × List Nat)} {rest:Bx RgD}
variable {r:Rl} {fm:Fm} {ρ:T W} {σ:S} {nx:Nat} {o:Out} {F:Fr C.P} {η:Nm} {ρd:Env} {L:Loc} {s:St} {B:List (Nat × Rd)}
theorem Zsu (hρ:YI η [] ρ ρd) {k:K} {a:Opd} {n:Nat} (hk:Zh8 k=some (a,n)) {mu:Bool} {r3:R3} (h:(opF mu false k).run ρ σ nx=some r3):∃ v da xs ys σ',(WA a).run ρ=some v∧VR η v da∧VRs η xs ys∧Zbz σ v n xs=some σ'∧r3=⟨.nilsl,σ',nx⟩∧WB k=false ∧
  ∀ {F:Fr C.P} {kp:Option (List Nat)} {dk:List Zp} {os':List DOp} {ρ':Env} {L':Loc} {s':St} {b off:Nat} {cs:List D},ZR ρd ρ' (Wn k)→da = .ptr b off→YS s' b=some cs→off + ys.length≤cs.length→ys.length=n→DO F kp dk os' ρ' L' (s'.upd b (.cells (ZC cs off ys)))→DO F kp dk (⟨none,none,k⟩ :: os') ρ' L' s':=by
 cases k <;> simp only [Zh8,ZvD,ZvL,reduceCtorEq] at hk
 case store1 a' v =>
  obtain ⟨rfl,rfl⟩:=hk
  simp only [opF] at h
  obtain ⟨hd,hh⟩:=ZL h; replace h:=hh; clear hh
  obtain ⟨av,ha,hh⟩:=Kv h; replace h:=hh; clear hh
  obtain ⟨xv,hx,hh⟩:=Kv h; replace h:=hh; clear hh
  obtain ⟨hcl,hh⟩:=ZL h; replace h:=hh; clear hh
  obtain ⟨σ',hst,rfl⟩:=Zic h
  obtain ⟨p,da,a1,a2,a3⟩:=KZ hρ ha
  obtain ⟨q,dx,b1,b2,b3⟩:=KZ hρ hx
  have hok:=ZjU b3 hcl
  have hcx:cellsOf dx=[dx]:=by cases dx <;> first | rfl | simp [Jb] at hok
  refine ⟨av,da,[xv],[dx],σ',ha,a3,.one b3,hst,rfl,rfl,fun {F kp dk os' ρ' L' s' b off cs} hag hda hcs hle hl hc=>?_⟩
  subst hda
  refine ZbT rfl (.inl ⟨rfl,trivial⟩) (by rw [Yi (fun t ht=>hag t (by simp [Wn,ht]))]; exact a1) (by rw [Yi (fun t ht=>hag t (by simp [Wn,ht]))]; exact b1) a2 b2 hcs (fun _=>hok) (fun n hn=>by simp at hn) (by rw [hcx]; exact hle) rfl ?_
  rw [hcx]; exact hc
 case storeN n' a' v =>
  obtain ⟨rfl,rfl⟩:=hk
  simp only [opF] at h
  obtain ⟨hd,hh⟩:=ZL h; replace h:=hh; clear hh
  obtain ⟨av,ha,hh⟩:=Kv h; replace h:=hh; clear hh
  obtain ⟨xv,hx,hh⟩:=Kv h; replace h:=hh; clear hh
  obtain ⟨p,da,a1,a2,a3⟩:=KZ hρ ha
  obtain ⟨q,dx,b1,b2,b3⟩:=KZ hρ hx
  cases b3 <;> simp only [reduceCtorEq] at h
  rename_i xs ys hxs
  obtain ⟨σ',hst,rfl⟩:=Zic h
  refine ⟨av,da,xs,ys,σ',ha,a3,hxs,hst,rfl,rfl,fun {F kp dk os' ρ' L' s' b off cs} hag hda hcs hle hl hc=>?_⟩
  subst hda
  refine ZbT rfl (.inr ⟨_,rfl⟩) (by rw [Yi (fun t ht=>hag t (by simp [Wn,ht]))]; exact a1) (by rw [Yi (fun t ht=>hag t (by simp [Wn,ht]))]; exact b1) a2 b2 hcs (fun hn=>by simp at hn) (fun m hm=>?_) hle rfl hc
  simp only [K.storeN.injEq] at hm
  exact ⟨⟨_,rfl⟩,by rw [← hm.1]; exact hl⟩
theorem ZoS {f:FuncId} {k:K} {a:Opd} {n:Nat} (hk:Zh8 k=some (a,n)) (ha:Zdu a r=none) (h:(goD C f rest none none [] k).run r ih dk fm ρ σ nx=some o) :
  ∃ r3,(opF (C.mu f none) false k).run ρ σ nx=some r3∧rest.run (JV [] r) ih dk fm ρ r3.σ r3.nx=some o:=by
 cases k <;> simp only [Zh8,ZvD,ZvL,reduceCtorEq] at hk
 all_goals
  obtain ⟨rfl,rfl⟩:=hk
  simp only [goD,ha,Zls,Option.isNone_none,Bool.or_true,ZlC,Option.isSome_none] at h
  split at h <;> (try (simp at h; done))
  rename_i v σ1 nx1 hop
  simp only [ZeQ] at h
  obtain ⟨_,hh⟩:=ZL h
  exact ⟨_,hop,hh⟩
theorem Zs0 (hrest:ZaE C ih rest dk os) {f:FuncId} {k k2:K} {a a2:Opd} {n n2:Nat} (hk:Zh8 k=some (a,n)) (hk2:Zh8 k2=some (a2,n2)) (ha:Zdu a r=none) (ha2:Zdu a2 r=none) {b o1 b2 o2:Nat} (hv:(WA a).run ρ=some (.ptr b o1)) (hv2:(WA a2).run ρ=some (.ptr b2 o2))
  (hdis:b≠b2∨o1 + n≤o2∨o2 + n2≤o1) {rest2:Bx RgD} (hr2:rest2=goD C f rest none none [] k2) (h:(goD C f rest2 none none [] k).run r ih dk fm ρ σ nx=some o)
  (hF:FmR C η fm o F) (hρ:YI η [] ρ ρd) (hN:Wq η nx) (hS:Sim C η σ s) (hR:Ko η r ρd L B):DOA F none dk ((⟨none,none,.fork k⟩,[]) :: (⟨none,none,k2⟩,[]) :: os) ρd L s B:=by
 subst hr2
 obtain ⟨r3,e1,h1⟩:=ZoS hk ha h
 obtain ⟨v,da,xs,ys,σ1,f1,f2,f3,f4,rfl,hp1,f6⟩:=Zsu hρ hk e1
 obtain ⟨r4,e2,h2⟩:=ZoS hk2 (r:=JV [] r) (by cases a2 <;> exact ha2) h1
 obtain ⟨v2,da2,xs2,ys2,σ2,g1,g2,g3,g4,rfl,hp2,g6⟩:=Zsu hρ hk2 e2
 rw [hv] at f1; rw [hv2] at g1
 simp only [ZvD] at f1 g1
 subst f1; subst g1
 obtain ⟨bd,off,cs,rfl,c1,c2,c3,c4⟩:=Zdr hS f4 f2 f3
 obtain ⟨bd2,off2,cs2,rfl,d1,d2,d3,d4⟩:=Zdr c4 g4 g2 g3
 cases f2 with
 | ptr _ _ _ hb =>
 cases g2 with
 | ptr _ _ _ hb2 =>
 have hobj:∃ ob,σ.get b=some ob:=by
  simp only [Zbz] at f4
  cases hg:σ.get b with
  | none=>simp [hg] at f4
  | some ob=>exact ⟨ob,rfl⟩
 have hobj2:∃ ob,σ.get b2=some ob:=by
  have hσ1:∃ x,σ1=σ.set (some x) b:=by
   simp only [Zbz] at f4
   split at f4 <;> (try (simp at f4; done))
   all_goals
    split at f4 <;> simp only [ZvD,reduceCtorEq] at f4
    exact ⟨_,f4.symm⟩
  obtain ⟨x,rfl⟩:=hσ1
  have:∃ ob,(σ.set (some x) b).get b2=some ob:=by
   simp only [Zbz] at g4
   cases hg:(σ.set (some x) b).get b2 with
   | none=>simp [hg] at g4
   | some ob=>exact ⟨ob,rfl⟩
  obtain ⟨ob,hob⟩:=this
  rcases T.get_set hob with ⟨rfl,_⟩ | ⟨_,h⟩
  ·exact hobj
  ·exact ⟨ob,h⟩
 obtain ⟨ob,hob⟩:=hobj
 obtain ⟨ob2,hob2⟩:=hobj2
 have hbb:bd=bd2→b=b2:=fun e=>hS.inj b b2 ob ob2 bd hob hob2 hb (by rw [e]; exact hb2)
 have hR':Ko η (JV [] (JV [] r)) ρd L []:=by
  have:=(hR.next []).next []
  rwa [Zb0] at this
 have fin:DOA F none dk os ρd L ((s.upd bd (.cells (ZC cs o1 ys))).upd bd2 (.cells (ZC cs2 o2 ys2))) []:=hrest _ _ _ _ _ _ h2 F η ρd L _ [] hF hρ hN d4 hR'
 obtain ⟨cs',q1,q2,q3,q4⟩:∃ cs',YS s bd2=some cs'∧o2 + ys2.length≤cs'.length∧(∃ cs'',YS (s.upd bd2 (.cells (ZC cs' o2 ys2))) bd=some cs''∧o1 + ys.length≤cs''.length ∧
   (s.upd bd2 (.cells (ZC cs' o2 ys2))).upd bd (.cells (ZC cs'' o1 ys))=(s.upd bd (.cells (ZC cs o1 ys))).upd bd2 (.cells (ZC cs2 o2 ys2)))∧True:=by
  by_cases he:bd=bd2
  ·subst he
   have hbe:=hbb rfl
   have hcs2:cs2=ZC cs o1 ys:=by
    have:YS (s.upd bd (.cells (ZC cs o1 ys))) bd=some (ZC cs o1 ys):=QO (ZvQ _ _ _)
    rw [this] at d1
    simpa using d1.symm
   subst hcs2
   have hl:=Zfq c2
   have hd:o1 + ys.length≤o2∨o2 + ys2.length≤o1:=by
    rw [c3,d3]
    exact hdis.resolve_left (fun h=>h hbe)
   have hl2:o2 + ys2.length≤cs.length:=by rw [hl] at d2; exact d2
   refine ⟨cs,c1,hl2,⟨ZC cs o2 ys2,QO (ZvQ _ _ _),by rw [Zfq hl2]; exact c2,?_⟩,trivial⟩
   rw [ZvV,ZvV,ZoL c2 hl2 hd]
  ·have h3:(s.upd bd (.cells (ZC cs o1 ys))) bd2=s bd2:=ZvP _ _ (Ne.symm he)
   have h4:YS s bd2=some cs2:=by
    simp only [YS,h3] at d1
    simpa only [YS] using d1
   have h5:(s.upd bd2 (.cells (ZC cs2 o2 ys2))) bd=s bd:=ZvP _ _ he
   refine ⟨cs2,h4,d2,⟨cs,by simp only [YS,h5]; simpa only [YS] using c1,c2,St.upd_comm _ _ _ he⟩,trivial⟩
 obtain ⟨cs'',q3,q5,q6⟩:=q3
 refine Znf (fun _ s2=>s2=s.upd bd (.cells (ZC cs o1 ys))) (fun _ s2=>s2=s.upd bd2 (.cells (ZC cs' o2 ys2))) (o1:=⟨none,none,k⟩) (o2:=⟨none,none,k2⟩) hp2 (fun ρ' L' os' hag hc=>?_) (fun e s2 hs2=>?_) (fun ρ' L' os' hag hc=>?_) (fun e s2 hs2=>?_)
 ·exact f6 (fun t ht=>hag t (by simp [ZN,ht])) rfl c1 c2 c3 (hc (.d .nilsl) _ rfl)
 ·subst hs2
  refine ⟨Zai,?_⟩
  refine Zas (fun _ s2=>s2=(s.upd bd (.cells (ZC cs o1 ys))).upd bd2 (.cells (ZC cs2 o2 ys2))) hp2 (fun ρ' L' os' hag hc=>?_) (fun e s2 hs2=>?_)
  ·exact g6 (fun t ht=>hag t (by simp [ZN,ht])) rfl d1 d2 d3 (hc (.d .nilsl) _ rfl)
  ·subst hs2; exact ⟨Zai,by rw [Zb0]; exact fin⟩
 ·exact g6 (fun t ht=>hag t (by simp [ZN,ht])) rfl q1 q2 d3 (hc (.d .nilsl) _ rfl)
 ·subst hs2
  refine ⟨Zai,?_⟩
  refine Zas (fun _ s2=>s2=(s.upd bd (.cells (ZC cs o1 ys))).upd bd2 (.cells (ZC cs2 o2 ys2))) hp1 (fun ρ' L' os' hag hc=>?_) (fun e s2 hs2=>?_)
  ·exact f6 (fun t ht=>hag t (by simp [ZN,ht])) rfl q3 q5 c3 (by rw [q6]; exact hc (.d .nilsl) _ rfl)
  ·subst hs2; exact ⟨Zai,by rw [Zb0]; exact fin⟩
end
end Go.DL
namespace Go.DL
open Go
variable [Znt]
section
variable {C:Px} {ih:Ih} {dk:List Zp} {os:List (DOp × List Nat)} {rest:Bx RgD}
variable {r:Rl} {fm:Fm} {ρ:T W} {σ:S} {nx:Nat} {o:Out} {F:Fr C.P} {η:Nm} {ρd:Env} {L:Loc} {s:St} {B:List (Nat × Rd)}
theorem ZrO:∀ {x y:List Nat},eqL x y=true→x=y
 | [],[],_=>rfl
 | [],_ :: _,h=>by simp [eqL] at h
 | _ :: _,[],h=>by simp [eqL] at h
 | a :: x,b :: y,h=>by
  simp only [eqL,ZvN,ZY] at h
  rw [h.1,ZrO h.2]
theorem ZsZ (hrest:ZaE C ih rest dk os) {t t2:Nat} {fl:List Nat} (hne:t≠t2) {σ0:S} {l:List (Nat × O)} (hout:ZlC fl r σ=some (σ0,l)) (hd1:noA t r=true) (hd2:noA t2 r=true)
  (h2:rest.run (JV fl (JV fl r)) ih dk fm ((ρ.set (some (.v (.map nx))) t).set (some (.v (.map (nx + 1)))) t2) ((σ.set (some (.map [])) nx).set (some (.map [])) (nx + 1)) (nx + 2)=some o)
  (hF:FmR C η fm o F) (hρ:YI η [] ρ ρd) (hN:Wq η nx) (hS:Sim C η σ s) (hR:Ko η r ρd L B):DOA F none dk ((⟨some t,none,.fork .mkmap⟩,fl) :: (⟨some t2,none,.mkmap⟩,fl) :: os) ρd L s B:=by
 obtain ⟨ks,o1,o2⟩:=ZlD hout
 have hthere:∀ n b,n∈fl→(n,.blk b)∈B→∃ d,s b=some d:=fun n b hf hb=>by
  obtain ⟨kn,n1,n2⟩:=hR.bn n b hb
  obtain ⟨e1,e2,e3⟩:=ZfM o1
  have:∃ o,σ.get kn=some o∧∀ n,o≠.tok n:=by
   rcases e3 kn (o2 n kn hf n1) with ⟨o,h⟩ | ⟨o,h⟩
   ·exact ⟨o,(e2 kn o h).1,(Za2 (e2 kn o h).2).2⟩
   ·exact ⟨_,h,fun n=>by simp⟩
  obtain ⟨o,ho,hn⟩:=this
  obtain ⟨b',d,f1,f2,_⟩:=hS.get ho hn
  rw [n2] at f1
  simp only [ZvD,Tok.tip.injEq] at f1
  subst f1
  exact ⟨d,f2⟩
 have kp1:∀ {b:Nat} {B':List (Nat × Rd)} {s1:St} {x:Y6},(∀ n c,n∈fl→(n,.blk c)∈B'→∃ d,s1 c=some d)→s1 b=none→Kl fl s1 (s1.upd b x) L L B':=fun {b B' s1 x} h hb =>
  Zdj (fun n c hf hc=>by
   obtain ⟨d,hd⟩:=h n c hf hc
   have:c≠b:=fun e=>by rw [e,hb] at hd; simp at hd
   rw [ZvP s1 _ this]) (fun _ _ _ _=>rfl)
 have there2:∀ {b:Nat},∀ n c,n∈fl→(n,.blk c)∈WP fl B→∃ d,(s.upd b (.map [])) c=some d:=fun {b} n c hf hc=>by
  obtain ⟨d,hd⟩:=hthere n c hf (QS.1 hc).2
  by_cases hcb:c=b
  ·exact ⟨_,by rw [hcb,ZvQ]⟩
  ·exact ⟨d,by rw [ZvP s _ hcb]; exact hd⟩
 have fin:∀ {b b2:Nat} {ρ2:Env} {s2:St},s b=none→s b2=none→b≠b2→(∀ u,Ye ρ2 u=if u=t then some (.d (.map b)) else if u=t2 then some (.d (.map b2)) else Ye ρd u)→s2=(s.upd b (.map [])).upd b2 (.map [])→DOA F none dk os ρ2 L s2 (WP fl (WP fl B)):=by
  intro b b2 ρ2 s2 hb hb2 hbb hE hs2
  subst hs2
  have f0:=hN.free nx (ZvR _)
  have n1:η.Sub (η.put nx (.tip b)):=Nm.put_sub f0 _
  have hN1:=hN.put (.tip b)
  have f1:=hN1.free (nx + 1) (ZvR _)
  have n2:(η.put nx (.tip b)).Sub ((η.put nx (.tip b)).put (nx + 1) (.tip b2)):=Nm.put_sub f1 _
  have S1:=hS.new f0 hb (o:=.map []) (d:=.map []) (.map [] [] .nil)
  have S2:=S1.new f1 (b:=b2) (by rw [ZvP s _ (Ne.symm hbb)]; exact hb2) (o:=.map []) (d:=.map []) (.map [] [] .nil)
  refine hrest _ _ _ _ _ _ h2 F _ ρ2 L _ _ (hF.mono (n1.trans n2)) (fun u w hw hl=>?_) (hN1.put _) S2 ?_
  ·rw [hE]
   rcases T.get_set hw with ⟨rfl,hw2⟩ | ⟨hne2,hw2⟩
   ·simp only [ZvD] at hw2
    subst hw2
    rw [if_neg (Ne.symm hne),if_pos rfl]
    exact ⟨_,rfl,.map b2,.map _ _ (Nm.put_same _ _ _),.inl rfl⟩
   ·rcases T.get_set hw2 with ⟨rfl,hw3⟩ | ⟨hne1,hw3⟩
    ·simp only [ZvD] at hw3
     subst hw3
     rw [if_pos rfl]
     exact ⟨_,rfl,.map b,.map _ _ (n2 _ _ (Nm.put_same _ _ _)),.inl rfl⟩
    ·rw [if_neg hne1,if_neg hne2]
     exact (hρ.mono (n1.trans n2)) u w hw3 hl
  ·have h0:=((hR.next fl).next fl).mono (n1.trans n2)
   have had:(JV fl (JV fl r)).ad=r.ad:=by cases fl <;> rfl
   refine { h0 with ad:=fun u l o' hm=>?_ }
   have:=h0.ad u l o' hm
   rw [had] at hm
   unfold ZcY at this ⊢
   rw [hE,if_neg (Ne.symm (ZkM hd1 u l o' hm)),if_neg (Ne.symm (ZkM hd2 u l o' hm))]
   exact this
 have one:∀ {F:Fr C.P} {u:Nat} {ρ':Env} {L':Loc} {s':St} {os':List DOp},(∀ e s2,(∃ b,s' b=none∧e = .d (.map b)∧s2=s'.upd b (.map []))→DO F none dk os' (ZQ ρ' (some u) e) L' s2)→DO F none dk (⟨some u,none,.mkmap⟩ :: os') ρ' L' s':=fun {F u ρ' L' s' os'} hc =>
  Zji rfl rfl rfl fun b hb=>hc (.d (.map b)) _ ⟨b,hb,rfl,rfl⟩
 have Z6:∀ {b b':Nat},(s.upd b (.map [])) b'=none→b≠b'∧s b'=none:=fun {b b'} h=>by
  by_cases e:b'=b
  ·subst e; rw [ZvQ] at h; simp at h
  ·rw [ZvP s _ e] at h; exact ⟨Ne.symm e,h⟩
 refine Znf (o1:=⟨some t,none,.mkmap⟩) (o2:=⟨some t2,none,.mkmap⟩) (fun e s2=>∃ b,s b=none∧e = .d (.map b)∧s2=s.upd b (.map [])) (fun e s2=>∃ b,s b=none∧e = .d (.map b)∧s2=s.upd b (.map [])) rfl (fun ρ' L' os' _ hc=>one hc) (fun e s2 hs2=>?_) (fun ρ' L' os' _ hc=>one hc) (fun e s2 hs2=>?_)
 ·obtain ⟨b,hb,rfl,rfl⟩:=hs2
  refine ⟨kp1 hthere hb,Zas (fun e s2=>∃ b2,(s.upd b (.map [])) b2=none∧e = .d (.map b2)∧s2=(s.upd b (.map [])).upd b2 (.map [])) rfl (fun ρ' L' os' _ hc=>one hc) (fun e s2 hs2=>?_)⟩
  obtain ⟨b2,hb2,rfl,rfl⟩:=hs2
  obtain ⟨e1,e2⟩:=Z6 hb2
  refine ⟨kp1 there2 hb2,fin hb e2 e1 (fun u=>?_) rfl⟩
  rw [Km,Km]
  by_cases c1:u=t
  ·subst c1; simp [Ne.symm hne]
  ·by_cases c2:u=t2
   ·subst c2; simp [c1]
   ·simp [c1,c2,Ne.symm c1,Ne.symm c2]
 ·obtain ⟨b2,hb2,rfl,rfl⟩:=hs2
  refine ⟨kp1 hthere hb2,Zas (fun e s2=>∃ b,(s.upd b2 (.map [])) b=none∧e = .d (.map b)∧s2=(s.upd b2 (.map [])).upd b (.map [])) rfl (fun ρ' L' os' _ hc=>one hc) (fun e s2 hs2=>?_)⟩
  obtain ⟨b,hb,rfl,rfl⟩:=hs2
  obtain ⟨e1,e2⟩:=Z6 hb
  refine ⟨kp1 there2 hb,fin e2 hb2 (Ne.symm e1) (fun u=>?_) (St.upd_comm _ _ _ (Ne.symm e1))⟩
  rw [Km,Km]
  by_cases c1:u=t
  ·subst c1; simp
  ·by_cases c2:u=t2
   ·subst c2; simp [c1,Ne.symm c1]
   ·simp [c1,c2,Ne.symm c1,Ne.symm c2]
theorem Zt5 (hrest:ZaE C ih rest dk os) {f:FuncId} {dst dst2:Option Nat} {g g2:Option (Nat × Bool)} {k k2:K} {fl fl2:List Nat} (h:(Zqy C f rest dst g k fl dst2 g2 k2 fl2).run r ih dk fm ρ σ nx=some o)
  (hF:FmR C η fm o F) (hρ:YI η [] ρ ρd) (hN:Wq η nx) (hS:Sim C η σ s) (hR:Ko η r ρd L B):DOA F none dk ((⟨dst,g,.fork k⟩,fl) :: (⟨dst2,g2,k2⟩,fl2) :: os) ρd L s B:=by
 unfold Zqy at h
 split at h <;> (try (simp at h; done))
 split at h <;> (try (simp at h; done))
 split at h
 ·rename_i a n hs1
  split at h <;> (try (simp at h; done))
  rename_i a2 n2 hs2
  split at h <;> (try (simp at h; done))
  obtain ⟨hk,hh⟩:=ZL h
  simp only [ZuN] at hk
  split at hk <;> (try (simp at hk; done))
  rename_i b o1 b2 o2 c1 c2 c3 c4
  refine Zs0 hrest hs1 hs2 c1 c2 c3 c4 ?_ rfl hh hF hρ hN hS hR
  simp only [ZvW,Bool.not_eq_true',K2] at hk
  rcases hk with (hk | hk) | hk
  ·exact .inl fun e=>by rw [ZY.2 e] at hk; simp at hk
  ·exact .inr (.inl hk)
  ·exact .inr (.inr hk)
 ·split at h <;> (try (simp at h; done))
  split at h <;> (try (simp at h; done))
  split at h <;> (try (simp at h; done))
  rename_i t
  split at h <;> (try (simp at h; done))
  rename_i t2
  split at h <;> (try (simp at h; done))
  rename_i hc
  simp only [ZvN,Bool.not_eq_true'] at hc
  obtain ⟨hc1,hne⟩:=hc
  obtain rfl:=ZrO hc1
  simp only [ZtA] at h
  split at h <;> (try (simp at h; done))
  rename_i x hout
  obtain ⟨σ0,l⟩:=x
  obtain ⟨hd,hh⟩:=ZL h
  simp only [ZvN] at hd
  exact ZsZ hrest (fun e=>by rw [ZY.2 e] at hne; simp at hne) hout hd.1 hd.2 hh hF hρ hN hS hR
theorem ZjI (hlib:Jv C) (hih:JP C ih) {f:FuncId}:∀ {os:List (DOp × List Nat)},ZaE C ih (Zgz C f os) dk os
 | []=>Zt4 hih
 | (⟨dst,g,k⟩,fl) :: os=>fun r fm ρ σ nx o h F η ρd L s B hF hρ hN hS hR=>by
  unfold Zgz at h
  split at h
  ·rename_i k1
   split at h
   ·rename_i dst2 g2 k2 fl2 os2
    exact Zt5 (ZjI hlib hih (f:=f) (os:=os2)) h hF hρ hN hS hR
   ·simp at h
  ·rename_i hnf
   have IH:=ZjI hlib hih (f:=f) (os:=os)
   split at h
   ·exact ZrS hlib hih IH h rfl hF hρ hN hS hR
   ·rename_i g0
    simp only at h
    split at h <;> (try (simp at h; done))
    rename_i b hb
    have hg:=Zmi hρ hb
    split at h
    ·exact ZrS hlib hih IH h hg hF hρ hN hS hR
    ·split at h <;> (try (simp at h; done))
     rename_i hna
     obtain ⟨hd,hh⟩:=ZL h
     cases hq:WW k with
     | true =>
      rw [hq,if_pos rfl] at hh
      exact Zrh hg hq (.d (.bool false)) (IH _ _ _ _ _ _ hh F η _ L s _ hF (J2 hρ WR.skp dst) hN hS (hR.put hd _))
     | false =>
      rw [hq] at hh
      simp only [Bool.false_eq_true,if_false] at hh
      have hp:WB k=false:=by
       cases k <;> simp [WW] at hq <;> first | rfl | exact absurd rfl (hna _) | exact absurd rfl (hnf _)
      exact ZdY (e:=.d (.bool false)) hg hp (IH _ _ _ _ _ _ hh F η _ L s _ hF (J2 hρ WR.skp dst) hN hS ((hR.put hd _).next fl))
theorem ZpT (hlib:Jv C) (hih:JP C ih):Zj3 C ih:=by
 intro f order ops kp fm k ρ σ nx o h hf F η ρd s hF hρ hN hS
 simp only [Zaf] at h
 exact Zdb (show DOA F none k ops ρd [] s [] from ZjI hlib hih _ _ _ _ _ _ h F η ρd [] s [] hF hρ hN hS Ko.nil)
end
end Go.DL
namespace Go.DL
open Go
variable [Znt]
section
variable {P:Program}
theorem ZK.subM {f:FuncId} {args:List D} {s:St} {Φ Φ':Res→St→Prop} (h:ZK P f args s Φ) (hp:∀ r s',Φ r s'→∃ s2,St.sub s2 s'∧Φ' r s2):ZK P f args s Φ' :=
 ⟨h.1,fun g w vs hs ha=>(h.2 g w vs hs ha).mono fun _ _ ⟨g',s',r,a,b,c,d⟩=>let ⟨s2,e1,e2⟩:=hp r s' d; ⟨g',s2,r,a,b.sub e1,c,e2⟩⟩
def St.emp:St:=fun _=>none
theorem ZrN (s:St):St.emp.or s=s:=by funext b; simp [St.or,St.emp]
theorem Zj2 {f:FuncId} {args:List D} {d:D} (h:ZK P f args St.emp fun r _=>r = .ret d):Z7 P f args d:=fun s=>by
 have h1:ZK P f args St.emp fun r s'=>r = .ret d∧s'=St.emp:=h.subM fun r s' hr=>⟨St.emp,fun b o hb=>by simp [St.emp] at hb,hr,rfl⟩
 have hdj:Kr St.emp s:=fun b o _=>rfl
 have h2:=h1.frame hdj
 rw [ZrN] at h2
 refine h2.mono fun r S ⟨s',⟨e1,e2⟩,_,e3⟩=>⟨e1,?_⟩
 rw [e3,e2,ZrN]
end
def nm0:Nm:=fun k=>if k=0 then some .none else if k=1 then some .full else none
theorem Zr6:Wq nm0 2:={
 z:=rfl
 o:=rfl
 two:=ZvR _
 free k hk:=by simp only [nm0]; rw [if_neg (by omega),if_neg (by omega)] }
theorem Ztu (C:Cx) (η:Nm) (s:St):Sim ⟨C,St.emp⟩ η T.nil s:={
 obj k o h:=by simp [T.get_nil] at h
 inj k k' o o' b h:=by simp [T.get_nil] at h
 kp b d h:=by simp [St.emp] at h
 ro k o b h:=by simp [T.get_nil] at h }
end Go.DL
namespace Go.DL
open Go
variable [Znt]
section
variable {P:Program}
theorem Zrm {F:Fr P} {kp:Option (List Nat)} {dk:List Zp} {o:DOp} {os:List DOp} {ρ:Env} {L:Loc} {s:St} (hg:Zu ρ o.guard=some true) {n:FuncId} {xs:List Opd} (hk:o.k = .call (.cst (.fn (.func n) [] [])) xs)
  {p:Prop} {es:List E} {ds:List D} (ha:Wc ρ true xs=some (p,es)) (hds:K4 es=some ds) (hp:p) {fn:Func} (h0:P.funcs[n]? = some fn) (h1:fn.body=none) (h2:(fn.name == "runtime.NumGoroutine")=false) (h3:Extern.findNext fn=none) {e:Array Value→Sem Value} (h4:Extern.find fn=some e)
  {d:D} (he:∀ g w vs,ZZ (Rep g w) vs ds→∃ v,(e vs.toArray).run P w = .ok v w∧Rep g w v d) (h:DO F kp dk os (ZQ ρ o.dst (.d d)) L s):DO F kp dk (o :: os) ρ L s:=by
 refine KL fun oo g ν w tmps ops i r k hoo hck hcg hdst hd hN m hr hkk=>?_
 have hw:=Y7 m hcg hg
 have hnd:=Wp hck (by rw [hk]; rfl)
 rw [hk] at hck
 obtain ⟨f',args,ats,hop,hf',hxs⟩:=Zpz hck
 have hfr:Rep g w _ _:=Y2 (ρ:=ρ) m hf' rfl rfl trivial F.ds
 have hargs:=QU (ZcR m rfl F.ds hxs ha hp) hds
 obtain ⟨v,hv1,hv2⟩:=he g w _ hargs
 generalize hfv:(Act.mk tmps F.ds).eval f'=fv at hfr
 have hfv':fv = .func (.func n) #[] #[]:=by
  cases hfr with
  | fn _ fs cs _ _ e1 e2 _ _ =>
   obtain rfl:fs=[]:=by simpa using e1
   obtain rfl:cs=[]:=by simpa using e2
   rfl
 subst hfv'
 have hmap:(Array.map (Act.mk tmps F.ds).eval args)=(args.toList.map (Act.mk tmps F.ds).eval).toArray:=by apply Array.ext'; simp
 refine ZkC (e:=.d d) hN m hoo hdst hd hw hnd ⟨v,?_,hv2⟩ (h ops r k hr hkk)
 have hcall:(callFunc n ((args.toList.map (Act.mk tmps F.ds).eval).toArray++#[])).run P w = .ok (.value v) w:=by
  have h2':¬ fn.name = "runtime.NumGoroutine":=by simpa using h2
  simp [callFunc,h0,h2',h1,h3,h4,hv1]
 simp [execOp,hop,resolve,hfv,hmap,Deferred.ofValue,invoke]
 simpa using hcall
def Zoc (c:Nat):List Nat→Int
 | []=>-1
 | b :: l=>if Nat.beq (b % 256) (c % 256) then 0 else match Zoc c l with
  | .ofNat n=>.ofNat (n + 1)
  | .negSucc _=>-1
theorem ZpL (c:Nat):∀ (l:List Nat),Zoc c l=Lib.indexByte (l.map UInt8.ofNat) (UInt8.ofNat c)
 | []=>rfl
 | b :: l=>by
  have ih:=ZpL c l
  simp only [Zoc,List.map_cons,Lib.indexByte]
  have hbc:Nat.beq (b % 256) (c % 256)=(UInt8.ofNat b == UInt8.ofNat c):=by
   rw [Bool.eq_iff_iff,Nat.beq_eq,beq_iff_eq]
   constructor
   ·intro h
    apply UInt8.toNat_inj.1
    simpa using h
   ·intro h
    have:=congrArg UInt8.toNat h
    simpa using this
  rw [hbc]
  split
  ·rfl
  ·have hge:=Lib.indexByte_ge (l.map UInt8.ofNat) (UInt8.ofNat c)
   rw [← ih] at hge ⊢
   cases hx:Zoc c l with
   | ofNat n =>
    have:(Int.ofNat n == -1)=false:=by rw [beq_eq_false_iff_ne]; simp only [Int.ofNat_eq_natCast,ne_eq]; omega
    rw [this]; rfl
   | negSucc n =>
    rw [hx] at hge
    have:n=0:=by have e:=Int.negSucc_eq n; omega
    subst this; rfl
theorem Zht:∀ (l:List UInt8) (c:UInt8),Lib.indexByte l c < l.length∨Lib.indexByte l c = -1
 | [],c=>.inr rfl
 | b :: l,c=>by
  simp only [Lib.indexByte]
  split
  ·left; simp
  ·split
   ·exact .inr rfl
   ·rename_i h
    rcases Zht l c with h1 | h1
    ·left; simp; omega
    ·rw [h1] at h; simp at h
def ZuW (n:FuncId):DF:=⟨8,[.tmp 4],.seq (.reg [⟨some 4,none,.q .mv [.cst (.int .i64 0)]⟩] none) (.seq (.reg [⟨some 5,none,.q .mv [.tmp 0]⟩,⟨some 6,none,.q .mv [.tmp 1]⟩,⟨some 7,none,.call (.cst (.fn (.func n) [] [])) [.tmp 5,.tmp 6]⟩,⟨some 4,none,.q .mv [.tmp 7]⟩] none) .ret)⟩
theorem Zoe {an:Ann} {f n:FuncId} (hf:cf P an f=some (ZuW n)) {fn:Func} (h0:P.funcs[n]? = some fn) (h1:fn.body=none) (h2:(fn.name == "runtime.NumGoroutine")=false) (h3:Extern.findNext fn=none) (h4:Extern.find fn=some Extern.BytealgIndexByte.indexByte) (l:List UInt8) (c:Int) :
  Z7 P f [.str l,.int .u8 c] (.int .i64 (Lib.indexByte l c.toNat.toUInt8)):=by
 refine YO hf fun F s hret=>?_
 refine Zi (Yr (JW rfl (by repeat (first | trivial | constructor)) (Zg4 (Zi (Yr (JW rfl (by repeat (first | trivial | constructor)) (JW rfl (by repeat (first | trivial | constructor)) (Zrm rfl rfl rfl rfl (by repeat (first | trivial | constructor)) h0 h1 h2 h3 h4 (d:=.int .i64 (Lib.indexByte l c.toNat.toUInt8)) (fun g w vs ha=>?_)
  (JW rfl (by repeat (first | trivial | constructor)) (Zg4 (hret rfl (by repeat (first | trivial | constructor)) (ZvM _) (ZvK _))))))))))))
 cases ha with
 | cons a1 ha =>
 cases ha with
 | cons a2 ha =>
 cases ha
 cases a1 with
 | str s _ hs hb =>
 cases a2 with
 | int _ _ hc =>
 subst hs
 refine ⟨_,Lib.run_indexByteString s c w,.int _ _ ?_⟩
 have h1:=Lib.indexByte_ge s.data.toList c.toNat.toUInt8
 have h2:=Zht s.data.toList c.toNat.toUInt8
 simp only [big] at hb
 simp only [inR,IntKind.min,IntKind.max,IntKind.signed,IntKind.bits]
 generalize Lib.indexByte s.data.toList c.toNat.toUInt8=z at h1 h2 ⊢
 rcases h2 with h2 | h2 <;> simp <;> omega
end
end Go.DL
namespace Go.DL
open Go
variable [Znt]
def Zav (f:V→V→Bool):List V→List V→Bool
 | [],[]=>true
 | a :: x,b :: y=>if f a b then Zav f x y else false
 | _,_=>false
def Ztb (ih:V→V→Bool) (k v:V):Bool:=match k with
 | .int i a=>match v with
  | .int j b=>Zgp i j && eqI a b
  | _=>false
 | .bool a=>match v with
  | .bool b=>a == b
  | _=>false
 | .str a=>match v with
  | .str b=>eqS a b
  | _=>false
 | .agg a=>match v with
  | .agg b=>Zav ih a b
  | _=>false
 | .nilsl=>match v with
  | .nilsl=>true
  | _=>false
 | .sl _ m s a=>match v with
  | .sl _ m' s' b=>Nat.beq m m' && Nat.beq s s' && Zav ih a b
  | _=>false
 | .nilptr=>match v with
  | .nilptr=>true
  | _=>false
 | .nilmap=>match v with
  | .nilmap=>true
  | _=>false
 | .niliface=>match v with
  | .niliface=>true
  | _=>false
 | _=>false
def Zgv (n:Nat):V→V→Bool:=Nat.rec (motive:=fun _=>V→V→Bool) (fun _ _=>false) (fun _ ih=>Ztb ih) n
def zV (n:Nat):V→V:=Nat.rec (motive:=fun _=>V→V) (fun k=>k) (fun _ ih k=>match k with
 | .agg a=>.agg (a.map ih)
 | .sl _ m s a=>.sl 0 m s (a.map ih)
 | k=>k) n
theorem Zr1 {η η':Nm}:∀ (n:Nat) {k v:V} {d:D},Zgv n k v=true→VR η v d→VR η' (zV n k) d
 | 0,k,v,d,h,_=>by simp [Zgv] at h
 | n + 1,k,v,d,h,hv=>by
  have ih:=fun {k v:V} {d:D}=>Zr1 (η:=η) (η':=η') n (k:=k) (v:=v) (d:=d)
  have ihs:∀ {a b:List V} {ds:List D},Zav (Zgv n) a b=true→VRs η b ds→VRs η' (a.map (zV n)) ds:=by
   intro a
   induction a with
   | nil =>
    intro b ds h hb
    cases b with
    | nil=>obtain rfl:=hb.inv0; exact .nil
    | cons _ _=>simp [Zav] at h
   | cons x a iha =>
    intro b ds h hb
    cases b with
    | nil=>simp [Zav] at h
    | cons y b =>
     simp only [Zav] at h
     split at h <;> (try (simp at h; done))
     rename_i hx
     obtain ⟨d,ds',rfl,h1,h2⟩:=hb.inv
     exact .cons _ _ _ _ (ih hx h1) (iha h h2)
  have ihr:∀ {s:Nat} {a b:List V} {row:Nat→List D},Zav (Zgv n) a b=true→VRr η s b row→VRr η' s (a.map (zV n)) row∧a.length=b.length:=by
   intro s a
   induction a with
   | nil =>
    intro b row h hb
    cases b with
    | nil=>exact ⟨.nil _ _,rfl⟩
    | cons _ _=>simp [Zav] at h
   | cons x a iha =>
    intro b row h hb
    cases b with
    | nil=>simp [Zav] at h
    | cons y b =>
     simp only [Zav] at h
     split at h <;> (try (simp at h; done))
     rename_i hx
     obtain ⟨cs,rfl,h1,h2,h3⟩:=hb.inv
     obtain ⟨g1,g2⟩:=iha h h3
     have hz:=ih hx (.agg _ _ h1)
     obtain ⟨cs',hcs,hl⟩:∃ cs',zV n x = .agg cs'∧VRs η' cs' (row 0):=by
      generalize he:zV n x=z at hz
      cases hz with
      | agg cs' _ h=>exact ⟨cs',rfl,h⟩
     refine ⟨?_,by simp [g2]⟩
     rw [List.map_cons,hcs]
     exact .cons _ _ _ _ hl (by rw [hl.len,← h1.len,h2]) g1
  have h':Ztb (Zgv n) k v=true:=h
  cases k <;> simp only [Ztb,Bool.false_eq_true] at h' <;> cases hv <;> simp only [Bool.false_eq_true] at h'
  case int =>
   simp only [ZvN,JZ] at h'
   obtain ⟨h1,rfl⟩:=h'
   obtain rfl:=Zei h1
   exact .int _ _
  case bool=>simp only [beq_iff_eq] at h'; subst h'; exact .bool _
  case str a b =>
   rw [Zkq,decide_eq_true_eq] at h'
   show VR η' (.str a) _
   rw [← h']
   exact .str _
  case agg a b ds hb=>exact .agg _ _ (ihs h' hb)
  case nilsl=>exact .nilsl
  case sl =>
   simp only [ZvN,ZY] at h'
   obtain ⟨⟨rfl,rfl⟩,h3⟩:=h'
   obtain ⟨g1,g2⟩:=ihr h3 ‹VRr η _ _ _›
   exact .sl _ _ _ _ _ _ g1 (by rw [List.length_map,g2]; assumption) (.inl rfl)
  case nilptr=>exact .nilptr
  case nilmap=>exact .nilmap
  case niliface=>exact .niliface
def ZkF:Option Out→Bool
 | some o=>match o.pan with
  | false=>match o.v with
   | .bool b=>b
   | _=>false
  | true=>false
 | none=>false
theorem ZrX {x:Option Out} (h:ZkF x=true):∃ σ nx,x=some ⟨false,.bool true,σ,nx⟩:=by
 cases x with
 | none=>simp [ZkF] at h
 | some o =>
  obtain ⟨pan,v,σ,nx⟩:=o
  cases pan <;> cases v <;> simp [ZkF] at h
  subst h
  exact ⟨σ,nx,rfl⟩
end Go.DL
namespace Go.DL
open Go
variable [Znt]
def Zfh (f0:FuncId) (f:FuncId):Option (S→List V→Option V):=match Nat.beq f f0 with
 | true=>some fun _ vs=>match vs with
  | [.str s,.int k c]=>match k with
   | .u8=>some (.int .i64 (Zoc c.toNat s))
   | _=>none
  | _=>none
 | false=>none
theorem Zt9 {P:Program} {mu:FuncId→Option Nat→Bool} {f0 n:FuncId} (hf:cf P [] f0=some (ZuW n)) {fn:Func} (h0:P.funcs[n]? = some fn) (h1:fn.body=none) (h2:(fn.name == "runtime.NumGoroutine")=false) (h3:Extern.findNext fn=none) (h4:Extern.find fn=some Extern.BytealgIndexByte.indexByte) (t:St):Jv ⟨⟨P,Zfh f0,mu⟩,t⟩:=by
 intro f g σ vs v hfg hg η ds s hv hS
 simp only [Zfh] at hfg
 split at hfg <;> simp only [ZvD,reduceCtorEq] at hfg
 rename_i hb
 rw [ZY] at hb
 subst hb; subst hfg
 simp only at hg
 split at hg <;> (try (simp at hg; done))
 split at hg <;> simp only [ZvD,reduceCtorEq] at hg
 subst hg
 obtain ⟨d,d',rfl,a1,a2⟩:=hv.inv2
 cases a1
 cases a2
 refine ⟨_,.int _ _,?_⟩
 rename_i l c
 rw [ZpL]
 exact Zoe hf h0 h1 h2 h3 h4 _ _ s
theorem Zuw {C:Cx} (hlib:∀ t,Jv ⟨C,t⟩) {f:FuncId} {m:Nat} (h:ZkF ((Zin C f).run (run C m) [] T.nil 2)=true):Z7 C.P f [] (.bool true):=by
 obtain ⟨σ,nx,h⟩:=ZrX h
 refine Zj2 ?_
 have hih:=ZkX hlib (fun C' ih he hih=>ZpT (by subst he; exact hlib _) hih) m St.emp
 refine (Zjs (C:=⟨C,St.emp⟩) (hlib _) hih h .nil Zr6 (Ztu C nm0 St.emp)).mono fun r s hp=>?_
 obtain ⟨η',d',k1,k2,k3,k4,k5⟩:=hp
 cases k4
 exact k5
end Go.DL
namespace Go.DL
open Go
variable [Znt]
theorem K1.mslo {t:St} {Ln:List Nat} {b o n cap sz:Nat} {ds:List D} {row:Nat→List D} (hb:b∈Ln) (ht:t b=some (.cells ds)) (hlen:n * sz≤ds.length - o)
  (hrow:∀ i,i < n→LdC t Ln ((ds.drop (o + i * sz)).take sz) (row i)):K1 t Ln (.msl b o n cap sz) (.sl .none n sz row):=by
 intro g w v hf hr
 obtain ⟨vs,T,hh,hsz,hc,one,hp⟩:=hf b hb ds ht
 cases hr with
 | mslx a _ _ _=>exact .sl0 _ _ _ _ (by simp)
 | msl _ _ _ _ _ hcap hbig =>
 have hin:∀ i j,i < n→j < sz→o + i * sz + j < ds.length:=fun i j hi hj=>by
  have:(i + 1) * sz≤n * sz:=Nat.mul_le_mul_right _ hi
  rw [Nat.add_mul,Nat.one_mul] at this
  omega
 have hget:∀ i j,i < n→j < sz→vs[o + i * sz + j]? = some (vs.getD (o + i * sz + j) undef):=fun i j hi hj=>by
  have h1:=hin i j hi hj
  simp only [Array.getD_eq_getD_getElem?,Array.getElem?_eq_getElem (show o + i * sz + j < vs.size by omega),Option.getD_some]
 have hmem:∀ i j,i < n→j < sz→vs.getD (o + i * sz + j) undef∈vs:=fun i j hi hj=>by
  have h1:=hin i j hi hj
  simp only [Array.getD_eq_getD_getElem?,Array.getElem?_eq_getElem (show o + i * sz + j < vs.size by omega),Option.getD_some]
  exact Array.getElem_mem _
 have hrl:∀ i,i < n→(row i).length=sz:=fun i hi=>by
  rw [← (hrow i hi).len,List.length_take,List.length_drop]
  have:(i + 1) * sz≤n * sz:=Nat.mul_le_mul_right _ hi
  rw [Nat.add_mul,Nat.one_mul] at this
  omega
 refine .sl b o n cap sz row .none (fun i j=>vs.getD (o + i * sz + j) undef) hrl (fun i j hi hj=>?_) (fun i j hi hj=>?_) (fun i j d hi hd=>?_) (fun i j hi hj=>one _ (hmem i j hi hj)) trivial hcap hbig
 ·rw [ZbV hh]; exact hget i j hi hj
 ·have:=hin i j hi hj; omega
 ·have hj:j < sz:=by rw [← hrl i hi]; exact (List.getElem?_eq_some_iff.1 hd).1
  obtain ⟨x,hx,hle⟩:=(hrow i hi).get hd
  rw [List.getElem?_take,if_pos hj,List.getElem?_drop] at hx
  exact hle g w _ hf (hc _ _ x (hget i j hi hj) hx)
theorem K1.tup {t:St} {Ln:List Nat} {l l':List D} (h:LdC t Ln l l'):K1 t Ln (.tup l) (.tup l'):=by
 intro g w v hf hr
 cases hr with
 | tup vs _ hn hc =>
  refine .tup vs _ (hn.trans h.len) (fun i v d hv hd=>?_)
  obtain ⟨x,hx,hle⟩:=h.get hd
  exact hle g w v hf (hc i v x hv hx)
theorem K1.iface {t:St} {Ln:List Nat} {T:TypeId} {d d':D} (h:K1 t Ln d d'):K1 t Ln (.iface T d) (.iface T d'):=by
 intro g w v hf hr
 cases hr with
 | iface _ v _ hv=>exact .iface T v d' (h g w v hf hv)
theorem K1.sl {t:St} {Ln:List Nat} {τ:Tok} {n sz:Nat} {row row':Nat→List D} (hrow:∀ i,i < n→LdC t Ln (row i) (row' i)):K1 t Ln (.sl τ n sz row) (.sl .none n sz row'):=by
 intro g w v hf hr
 cases hr with
 | sl0 a _ _ _ _=>exact .sl0 a _ _ _ (by simp)
 | sl b o _ cap _ _ _ f hl hc hp hrr one ht hcap hb =>
  refine .sl b o n cap sz row' .none f (fun i hi=>by rw [← (hrow i hi).len]; exact hl i hi) hc hp (fun i j d hi hd=>?_) one trivial hcap hb
  obtain ⟨x,hx,hle⟩:=(hrow i hi).get hd
  exact hle g w _ hf (hrr i j x hi hx)
theorem K1.more {t:St} {Ln Ln':List Nat} {d d':D} (h:K1 t Ln d d') (hs:∀ b∈Ln,b∈Ln'):K1 t Ln' d d':=fun g w v hf hr=>h g w v (fun b hb=>hf b (hs b hb)) hr
theorem LdC.more {t:St} {Ln Ln':List Nat} {l l':List D} (h:LdC t Ln l l') (hs:∀ b∈Ln,b∈Ln'):LdC t Ln' l l':=by
 induction h with
 | nil=>exact .nil
 | cons h _ ih=>exact .cons (h.more hs) ih
theorem Wo.frz {g:G} {s:St} {w:World} (m:Wo g s w) {Ln:List Nat} (hL:∀ b∈Ln,∃ ds,s b=some (.cells ds)):Wo (Zbk g s Ln) (s.delL Ln) w:=by
 have hx:=Zee m hL
 have hpe:∀ c,c ∉ Ln→(Zbk g s Ln).prot c=g.prot c:=fun c hc=>by simp only [Zbk,if_neg hc]
 refine ⟨fun c x hx'=>?_,fun c x hx'=>?_,fun c hc=>?_,fun n cs hc=>(m.tabs n cs hc).mono hx⟩
 ·simp only [St.delL] at hx'
  by_cases hc:c∈Ln
  ·simp [hc] at hx'
  ·simp only [hc,if_false] at hx'; exact (m.obj c x hx').mono hx rfl (hpe c hc)
 ·simp only [St.delL] at hx'
  by_cases hc:c∈Ln
  ·simp [hc] at hx'
  ·simp only [hc,if_false] at hx'; exact m.kept c x hx'
 ·have h1:=m.fresh c hc
  refine ⟨(hpe c fun h=>?_).trans h1.1,h1.2⟩
  obtain ⟨ds,hd⟩:=hL c h
  have:=(m.obj c _ hd).lt
  omega
theorem ZK.frz {P:Program} {f:FuncId} {args:List D} {s:St} {Φ:Res→St→Prop} {d0:D} (h:ZK P f args s Φ)
  (hp:∀ r s',Φ r s'→∃ d Ln,r = .ret d∧(∀ b∈Ln,∃ ds,s' b=some (.cells ds))∧K1 s' Ln d d0):ZK P f args s fun r _=>r = .ret d0:=by
 refine ⟨h.1,fun g w vs hs ha=>(h.2 g w vs hs ha).mono fun e w' ⟨g',s',r,hx,hs',hr,hΦ⟩=>?_⟩
 obtain ⟨d,Ln,rfl,hL,hle⟩:=hp r s' hΦ
 refine ⟨Zbk g' s' Ln,s'.delL Ln,.ret d0,hx.trans (Zee hs' hL),hs'.frz hL,?_,rfl⟩
 cases e with
 | returned v=>exact hle _ w' v (ZpJ hs' hL) (Rep.mono hr (Zee hs' hL))
 | _=>exact hr.elim
def rdL (f:V→Option V):List V→Option (List V)
 | []=>some []
 | v :: l=>match f v with
  | some r=>JU r (rdL f l)
  | none=>none
def Zcv (f:V→Option V) (s:Nat):List V→Option (List V)
 | []=>some []
 | .agg cs :: l=>match Nat.beq cs.length s with
  | true=>match rdL f cs with
   | some r=>JU (.agg r) (Zcv f s l)
   | none=>none
  | false=>none
 | _ :: _=>none
def Zci (s:Nat):Nat→List V→Option (List V)
 | 0,_=>some []
 | n + 1,l=>match Zbe s l with
  | some c=>JU (.agg c) (Zci s n (ZbF s l))
  | none=>none
def rd (σ:S):Nat→V→Option V
 | 0,_=>none
 | n + 1,v=>match v with
  | .int k a=>some (.int k a)
  | .bool b=>some (.bool b)
  | .str s=>some (.str s)
  | .nilsl=>some .nilsl
  | .nilptr=>some .nilptr
  | .nilmap=>some .nilmap
  | .nilfn=>some .nilfn
  | .niliface=>some .niliface
  | .agg cs=>match rdL (rd σ n) cs with
   | some r=>some (.agg r)
   | none=>none
  | .tup cs=>match rdL (rd σ n) cs with
   | some r=>some (.tup r)
   | none=>none
  | .iface t x=>match rd σ n x with
   | some r=>some (.iface t r)
   | none=>none
  | .sl _ m s rs=>match Nat.beq rs.length m with
   | true=>match Zcv (rd σ n) s rs with
    | some r=>some (.sl 0 m s r)
    | none=>none
   | false=>none
  | .msl k o m _ s=>match Zak (σ.get k) with
   | some vs=>match Zbe (m * s) (ZbF o vs) with
    | some cs=>match Zci s m cs with
     | some rs=>match Zcv (rd σ n) s rs with
      | some r=>some (.sl 0 m s r)
      | none=>none
     | none=>none
    | none=>none
   | none=>none
  | _=>none
def dV:Nat→V→D
 | 0,_=>.undef
 | n + 1,v=>match v with
  | .int k a=>.int k a
  | .bool b=>.bool b
  | .str s=>.str (s.map UInt8.ofNat)
  | .nilsl=>.nilsl
  | .nilptr=>.nilptr
  | .nilmap=>.nilmap
  | .nilfn=>.nilfn
  | .niliface=>.niliface
  | .agg cs=>.agg (cs.map (dV n))
  | .tup cs=>.tup (cs.map (dV n))
  | .iface t x=>.iface t (dV n x)
  | .sl _ m s rs=>.sl .none m s fun i=>match rs[i]? with
   | some (.agg cs)=>cs.map (dV n)
   | _=>[]
  | _=>.undef
def Zts (n:Nat) (rs:List V) (i:Nat):List D:=match rs[i]? with
 | some (.agg cs)=>cs.map (dV n)
 | _=>[]
theorem ZpR {f:V→Option V}:∀ {vs rs:List V},rdL f vs=some rs→rs.length=vs.length
 | [],rs,h=>by simp only [rdL,ZvD] at h; subst h; rfl
 | v :: vs,rs,h=>by
  simp only [rdL] at h
  split at h <;> (try (simp at h; done))
  obtain ⟨q,hq,rfl⟩:=QG h
  simp [ZpR hq]
theorem Zet {σ:S} {n:Nat} (ih:∀ v r,rd σ n v=some r→∀ η,VR η r (dV n r)):∀ {vs rs:List V},rdL (rd σ n) vs=some rs→∀ η,VRs η rs (rs.map (dV n))
 | [],rs,h,η=>by
  simp only [rdL,ZvD] at h
  subst h
  exact .nil
 | v :: vs,rs,h,η=>by
  simp only [rdL] at h
  split at h <;> (try (simp at h; done))
  rename_i r hr
  obtain ⟨q,hq,rfl⟩:=QG h
  exact .cons _ _ _ _ (ih v r hr η) (Zet ih hq η)
theorem Zfm {σ:S} {n sz:Nat} (ih:∀ v r,rd σ n v=some r→∀ η,VR η r (dV n r)):∀ {vs rs:List V},Zcv (rd σ n) sz vs=some rs→rs.length=vs.length∧∀ η,VRr η sz rs (Zts n rs)
 | [],rs,h=>by
  simp only [Zcv,ZvD] at h
  subst h
  exact ⟨rfl,fun _=>.nil _ _⟩
 | v :: vs,rs,h=>by
  cases v <;> simp only [Zcv,reduceCtorEq] at h
  rename_i cs
  split at h <;> (try (simp at h; done))
  rename_i hb
  rw [ZY] at hb
  split at h <;> (try (simp at h; done))
  rename_i r hr
  obtain ⟨q,hq,rfl⟩:=QG h
  obtain ⟨h1,h2⟩:=Zfm ih hq
  exact ⟨by simp [h1],fun η=>.cons _ _ _ _ (Zet ih hr η) (by rw [ZpR hr,hb]) (h2 η)⟩
theorem Zkg {sz:Nat}:∀ {m:Nat} {cs rs:List V},Zci sz m cs=some rs→rs.length=m
 | 0,cs,rs,h=>by simp only [Zci,ZvD] at h; subst h; rfl
 | m + 1,cs,rs,h=>by
  simp only [Zci] at h
  split at h <;> (try (simp at h; done))
  obtain ⟨q,hq,rfl⟩:=QG h
  simp [Zkg hq]
theorem Zix {σ:S}:∀ (n:Nat) (v r:V),rd σ n v=some r→∀ η,VR η r (dV n r)
 | 0,v,r,h=>by simp [rd] at h
 | n + 1,v,r,h=>fun η=>by
  have ih:=Zix (σ:=σ) n
  cases v <;> simp only [rd,ZvD,reduceCtorEq] at h
  case int=>subst h; exact .int _ _
  case bool=>subst h; exact .bool _
  case str=>subst h; exact .str _
  case nilsl=>subst h; exact .nilsl
  case nilptr=>subst h; exact .nilptr
  case nilmap=>subst h; exact .nilmap
  case nilfn=>subst h; exact .nilfn
  case niliface=>subst h; exact .niliface
  case agg cs =>
   split at h <;> simp only [ZvD,reduceCtorEq] at h
   rename_i q hq
   subst h
   exact .agg _ _ (Zet ih hq η)
  case tup cs =>
   split at h <;> simp only [ZvD,reduceCtorEq] at h
   rename_i q hq
   subst h
   exact .tup _ _ (Zet ih hq η)
  case iface t x =>
   split at h <;> simp only [ZvD,reduceCtorEq] at h
   rename_i q hq
   subst h
   exact .iface _ _ _ (ih x q hq η)
  case sl t m sz rs =>
   split at h <;> (try (simp only [reduceCtorEq] at h; done))
   rename_i hb
   rw [ZY] at hb
   split at h <;> simp only [ZvD,reduceCtorEq] at h
   rename_i q hq
   subst h
   obtain ⟨h1,h2⟩:=Zfm ih hq
   exact .sl _ _ _ _ _ _ (h2 η) (h1.trans hb) (.inl rfl)
  case msl k o m cap sz =>
   split at h <;> (try (simp only [reduceCtorEq] at h; done))
   split at h <;> (try (simp only [reduceCtorEq] at h; done))
   split at h <;> (try (simp only [reduceCtorEq] at h; done))
   rename_i rs hrs
   split at h <;> simp only [ZvD,reduceCtorEq] at h
   rename_i q hq
   subst h
   obtain ⟨h1,h2⟩:=Zfm ih hq
   exact .sl _ _ _ _ _ _ (h2 η) (h1.trans (Zkg hrs)) (.inl rfl)
def Zqc (η:Nm) (σ:S) (s:St) (n:Nat):Prop:=∀ v r d,rd σ n v=some r→VR η v d→∃ Ln,(∀ b∈Ln,∃ ds,s b=some (.cells ds))∧K1 s Ln d (dV n r)
theorem ZfO {η:Nm} {σ:S} {s:St} {n:Nat} (ih:Zqc η σ s n):∀ {vs rs:List V} {ds:List D},rdL (rd σ n) vs=some rs→VRs η vs ds →
  ∃ Ln,(∀ b∈Ln,∃ ds,s b=some (.cells ds))∧LdC s Ln ds (rs.map (dV n))
 | [],rs,ds,h,hv=>by
  obtain rfl:=hv.inv0
  simp only [rdL,ZvD] at h
  subst h
  exact ⟨[],by simp,.nil⟩
 | v :: vs,rs,ds,h,hv=>by
  obtain ⟨d,ds',rfl,h1,h2⟩:=hv.inv
  simp only [rdL] at h
  split at h <;> (try (simp at h; done))
  rename_i r hr
  obtain ⟨q,hq,rfl⟩:=QG h
  obtain ⟨L1,a1,a2⟩:=ih v r d hr h1
  obtain ⟨L2,b1,b2⟩:=ZfO ih hq h2
  refine ⟨L1++L2,fun b hb=>?_,.cons (a2.more fun b hb=>by simp [hb]) (b2.more fun b hb=>by simp [hb])⟩
  rcases List.mem_append.1 hb with hb | hb
  ·exact a1 b hb
  ·exact b1 b hb
theorem ZhI {η:Nm} {σ:S} {s:St} {n sz:Nat} (ih:Zqc η σ s n):∀ {vs rs:List V} {row:Nat→List D},Zcv (rd σ n) sz vs=some rs→VRr η sz vs row →
  ∃ Ln,(∀ b∈Ln,∃ ds,s b=some (.cells ds))∧∀ i,i < vs.length→LdC s Ln (row i) (Zts n rs i)
 | [],rs,row,h,hv=>⟨[],by simp,by simp⟩
 | v :: vs,rs,row,h,hv=>by
  obtain ⟨cs,rfl,h1,h2,h3⟩:=hv.inv
  simp only [Zcv] at h
  split at h <;> (try (simp at h; done))
  split at h <;> (try (simp at h; done))
  rename_i r hr
  obtain ⟨q,hq,rfl⟩:=QG h
  obtain ⟨L1,a1,a2⟩:=ZfO ih hr h1
  obtain ⟨L2,b1,b2⟩:=ZhI ih hq h3
  refine ⟨L1++L2,fun b hb=>?_,fun i hi=>?_⟩
  ·rcases List.mem_append.1 hb with hb | hb
   ·exact a1 b hb
   ·exact b1 b hb
  ·cases i with
   | zero=>exact a2.more fun b hb=>by simp [hb]
   | succ i =>
    have:=b2 i (by simpa using hi)
    exact LdC.more this fun b hb=>by simp [hb]
theorem Zl5 {η:Nm} {sz:Nat}:∀ {m:Nat} {cs rs:List V} {ds:List D},Zci sz m cs=some rs→VRs η cs ds→rs.length=m∧VRr η sz rs fun i=>(ds.drop (i * sz)).take sz
 | 0,cs,rs,ds,h,hv=>by
  simp only [Zci,ZvD] at h
  subst h
  exact ⟨rfl,.nil _ _⟩
 | m + 1,cs,rs,ds,h,hv=>by
  simp only [Zci] at h
  split at h <;> (try (simp at h; done))
  rename_i c hc
  obtain ⟨q,hq,rfl⟩:=QG h
  obtain ⟨c1,rfl⟩:=Zan hc
  rw [JQ] at hq
  obtain ⟨d1,d2⟩:=Zl5 hq (hv.drop sz)
  refine ⟨by simp [d1],.cons _ _ _ _ (by simpa using hv.take sz) (by simp only [List.length_take]; omega) ?_⟩
  have e:(fun i=>((ds.drop sz).drop (i * sz)).take sz)=fun i=>(ds.drop ((i + 1) * sz)).take sz:=by
   funext i
   rw [List.drop_drop,Nat.add_mul,Nat.one_mul,Nat.add_comm]
  rw [e] at d2
  exact d2
theorem Zsf {η:Nm} {σ:S} {s:St} {n:Nat} (ih:Zqc η σ s n) (hS:Znc η σ s) {k b o m cap sz:Nat} {cv cs rs q:List V} (hk:η k=some (.tip b)) (hcv:Zak (σ.get k)=some cv)
  (hcs:Zbe (m * sz) (ZbF o cv)=some cs) (hrs:Zci sz m cs=some rs) (hq:Zcv (rd σ n) sz rs=some q) :
  ∃ Ln,(∀ b∈Ln,∃ ds,s b=some (.cells ds))∧K1 s Ln (.msl b o m cap sz) (.sl .none m sz (Zts n q)):=by
 obtain ⟨ds,ex,hb,hv⟩:=hS _ _ _ hcv hk
 rw [JQ] at hcs
 obtain ⟨c1,rfl⟩:=Zan hcs
 obtain ⟨e1,e2⟩:=Zl5 hrs ((hv.drop o).take (m * sz))
 obtain ⟨L,a1,a2⟩:=ZhI ih hq e2
 have hl:=hv.len
 rw [List.length_drop,hl] at c1
 refine ⟨b :: L,fun c hc=>?_,K1.mslo (ds:=ds++ex) (by simp) hb (by rw [ZvT]; omega) (fun i hi=>?_)⟩
 ·rcases List.mem_cons.1 hc with rfl | hc
  ·exact ⟨_,hb⟩
  ·exact a1 c hc
 ·have h1:=a2 i (by omega)
  have hm:(i + 1) * sz≤m * sz:=Nat.mul_le_mul_right _ hi
  rw [Nat.add_mul,Nat.one_mul] at hm
  have e:((((ds.drop o).take (m * sz)).drop (i * sz)).take sz)=((ds++ex).drop (o + i * sz)).take sz:=by
   rw [List.drop_take,List.take_take,List.drop_drop,Nat.min_eq_left (by omega),List.drop_append,List.take_append_of_le_length (by rw [List.length_drop]; omega)]
  rw [e] at h1
  exact h1.more fun b hb=>by simp [hb]
theorem Zm9 {η:Nm} {σ:S} {s:St} (hS:Znc η σ s):∀ n,Zqc η σ s n
 | 0=>fun v r d h _=>by simp [rd] at h
 | n + 1=>fun v r d h hv=>by
  have ih:=Zm9 hS n
  have nn:∀ b∈([]:List Nat),∃ ds,s b=some (.cells ds):=by simp
  cases hv <;> simp only [rd,ZvD,reduceCtorEq] at h
  case int=>subst h; exact ⟨[],nn,K1.refl _⟩
  case bool=>subst h; exact ⟨[],nn,K1.refl _⟩
  case str=>subst h; exact ⟨[],nn,K1.refl _⟩
  case nilsl=>subst h; exact ⟨[],nn,K1.refl _⟩
  case nilptr=>subst h; exact ⟨[],nn,K1.refl _⟩
  case nilmap=>subst h; exact ⟨[],nn,K1.refl _⟩
  case nilfn=>subst h; exact ⟨[],nn,K1.refl _⟩
  case niliface=>subst h; exact ⟨[],nn,K1.refl _⟩
  case agg cs ds hc =>
   split at h <;> simp only [ZvD,reduceCtorEq] at h
   rename_i q hq
   subst h
   obtain ⟨L,a1,a2⟩:=ZfO ih hq hc
   exact ⟨L,a1,K1.agg a2⟩
  case tup cs ds hc =>
   split at h <;> simp only [ZvD,reduceCtorEq] at h
   rename_i q hq
   subst h
   obtain ⟨L,a1,a2⟩:=ZfO ih hq hc
   exact ⟨L,a1,K1.tup a2⟩
  case iface t x d hx =>
   split at h <;> simp only [ZvD,reduceCtorEq] at h
   rename_i q hq
   subst h
   obtain ⟨L,a1,a2⟩:=ih x q d hq hx
   exact ⟨L,a1,K1.iface a2⟩
  case sl t m sz rs τ row hr hn ht =>
   split at h <;> (try (simp only [reduceCtorEq] at h; done))
   split at h <;> simp only [ZvD,reduceCtorEq] at h
   rename_i q hq
   subst h
   obtain ⟨L,a1,a2⟩:=ZhI ih hq hr
   exact ⟨L,a1,K1.sl (fun i hi=>a2 i (by omega))⟩
  case msl k b o m cap sz hk =>
   split at h <;> (try (simp only [reduceCtorEq] at h; done))
   rename_i cv hcv
   split at h <;> (try (simp only [reduceCtorEq] at h; done))
   rename_i cs hcs
   split at h <;> (try (simp only [reduceCtorEq] at h; done))
   rename_i rs hrs
   split at h <;> simp only [ZvD,reduceCtorEq] at h
   rename_i q hq
   subst h
   exact Zsf ih hS hk hcv hcs hrs hq
  case gsl k b o m cap sz c hk _ _ _ =>
   split at h <;> (try (simp only [reduceCtorEq] at h; done))
   rename_i cv hcv
   split at h <;> (try (simp only [reduceCtorEq] at h; done))
   rename_i cs hcs
   split at h <;> (try (simp only [reduceCtorEq] at h; done))
   rename_i rs hrs
   split at h <;> simp only [ZvD,reduceCtorEq] at h
   rename_i q hq
   subst h
   exact Zsf ih hS hk hcv hcs hrs hq
def Ztq (n:Nat):Option Out→Option V
 | some o=>match o.pan with
  | false=>rd o.σ n o.v
  | true=>none
 | none=>none
theorem ZlA {η η':Nm} {a:Nat}:∀ {ks vs:List V} {ds:List D},Zav (Zgv a) ks vs=true→VRs η vs ds→VRs η' (ks.map (zV a)) ds
 | [],[],ds,_,hb=>by obtain rfl:=hb.inv0; exact .nil
 | [],_ :: _,ds,h,_=>by simp [Zav] at h
 | _ :: _,[],ds,h,_=>by simp [Zav] at h
 | x :: ks,y :: vs,ds,h,hb=>by
  simp only [Zav] at h
  split at h <;> (try (simp at h; done))
  rename_i hx
  obtain ⟨d,ds',rfl,h1,h2⟩:=hb.inv
  exact .cons _ _ _ _ (Zr1 a hx h1) (ZlA h h2)
structure Zbi where
 f:FuncId
 a:Nat
 n:Nat
 ks:List V
 r:V
def KK (P:Program) (k:Zbi):Prop:=∀ (vs:List V) (η:Nm) (ds:List D),Zav (Zgv k.a) k.ks vs=true→VRs η vs ds→Z7 P k.f ds (dV k.n k.r)∧VR η k.r (dV k.n k.r)
theorem J0 {C:Cx} (hlib:∀ t,Jv ⟨C,t⟩) (k:Zbi) {m:Nat} (h:Ztq k.n ((Zin C k.f).run (run C m) (k.ks.map (zV k.a)) T.nil 2)=some k.r):KK C.P k:=by
 intro vs η ds hm hv
 cases ho:(Zin C k.f).run (run C m) (k.ks.map (zV k.a)) T.nil 2 with
 | none=>rw [ho] at h; simp [Ztq] at h
 | some o =>
  rw [ho] at h
  simp only [Ztq] at h
  split at h <;> (try (simp at h; done))
  rename_i hpan
  have hih:=ZkX hlib (fun C' ih he hih=>ZpT (by subst he; exact hlib _) hih) m St.emp
  have hcall:=Zjs (C:=⟨C,St.emp⟩) (hlib _) hih ho (ZlA hm hv) Zr6 (Ztu C nm0 St.emp)
  refine ⟨Zj2 (hcall.frz fun r s hp=>?_),?_⟩
  ·obtain ⟨η',d',k1,k2,k3,k4,k5⟩:=hp
   rw [hpan] at k5
   obtain ⟨Ln,a1,a2⟩:=Zm9 (fun _ _ _ h hb=>k3.cells h hb) k.n o.v k.r d' h k4
   exact ⟨d',Ln,k5,a1,a2⟩
  ·exact Zix k.n o.v k.r h η
def ZlJ (f:FuncId):List Zbi→List Zbi
 | []=>[]
 | k :: l=>match Nat.beq f k.f with
  | true=>k :: ZlJ f l
  | false=>ZlJ f l
def Zge:List Zbi→List V→Option V
 | [],_=>none
 | k :: l,vs=>match Zav (Zgv k.a) k.ks vs with
  | true=>some k.r
  | false=>Zge l vs
def Zqw (ih:V→Bool):V→Bool
 | .int _ _=>true
 | .bool _=>true
 | .str _=>true
 | .nilsl=>true
 | .nilptr=>true
 | .nilmap=>true
 | .nilfn=>true
 | .niliface=>true
 | .agg cs=>cs.all ih
 | .tup cs=>cs.all ih
 | _=>false
def Zky (n:Nat):V→Bool:=Nat.rec (motive:=fun _=>V→Bool) (fun _=>false) (fun _ ih=>Zqw ih) n
theorem ZpI {N:Nat→Prop} {m:Nat}:∀ (n:Nat) {v:V},Zky n v=true→SC N (dV m v)
 | 0,v,h=>by simp [Zky] at h
 | n + 1,v,h=>by
  have h':Zqw (Zky n) v=true:=h
  cases m with
  | zero=>exact .undef
  | succ m =>
   have hl:∀ {cs:List V},cs.all (Zky n)=true→∀ c∈cs.map (dV m),SC N c:=fun {cs} hc c hm=>by
    obtain ⟨x,hx,rfl⟩:=List.mem_map.1 hm
    exact ZpI n (List.all_eq_true.1 hc x hx)
   cases v <;> simp only [Zqw,Bool.false_eq_true] at h' <;> simp only [dV]
   case int=>exact .int _ _
   case bool=>exact .bool _
   case str=>exact .str _
   case nilsl=>exact .nilsl
   case nilptr=>exact .nilptr
   case nilmap=>exact .nilmap
   case nilfn=>exact .nilfn
   case niliface=>exact .niliface
   case agg cs=>exact .agg _ (hl h')
   case tup cs=>exact .tup _ (hl h')
def Zgs (f0:FuncId) (K:List Zbi) (f:FuncId):Option (S→List V→Option V):=match ZlJ f K with
 | []=>Zfh f0 f
 | k :: l=>some fun σ vs=>match Zge (k :: l) vs with
  | some r=>some r
  | none=>match rdL (rd σ 40) vs with
   | some ws=>match Zge (k :: l) ws with
    | some r=>noV (Zky 40 r) (some r)
    | none=>none
   | none=>none
theorem Zey {f:FuncId}:∀ {K:List Zbi} {k:Zbi},k∈ZlJ f K→k∈K∧k.f=f
 | [],k,h=>by simp [ZlJ] at h
 | x :: K,k,h=>by
  simp only [ZlJ] at h
  split at h
  ·rename_i hb
   rw [ZY] at hb
   rcases List.mem_cons.1 h with rfl | h
   ·exact ⟨by simp,hb.symm⟩
   ·exact ⟨by simp [(Zey h).1],(Zey h).2⟩
  ·exact ⟨by simp [(Zey h).1],(Zey h).2⟩
theorem Zmb {vs:List V} {v:V}:∀ {K:List Zbi},Zge K vs=some v→∃ k∈K,Zav (Zgv k.a) k.ks vs=true∧v=k.r
 | [],h=>by simp [Zge] at h
 | x :: K,h=>by
  simp only [Zge] at h
  split at h
  ·rename_i hm
   simp only [ZvD] at h
   exact ⟨x,by simp,hm,h.symm⟩
  ·obtain ⟨k,h1,h2⟩:=Zmb h
   exact ⟨k,by simp [h1],h2⟩
theorem Zse {σ:S} {n:Nat} {vs rs:List V} (h:rdL (rd σ n) vs=some rs) (η:Nm):VRs η rs (rs.map (dV n)):=Zet (fun v r h η=>Zix n v r h η) h η
theorem ZcN {P:Program} {mu:FuncId→Option Nat→Bool} {f0:FuncId} {K:List Zbi} (h0:∀ t,Jv ⟨⟨P,Zfh f0,mu⟩,t⟩) (hK:∀ k∈K,KK P k) (t:St):Jv ⟨⟨P,Zgs f0 K,mu⟩,t⟩:=by
 intro f g σ vs v hfg hg η ds s hv hS
 simp only [Zgs] at hfg
 split at hfg
 ·exact h0 t f g σ vs v hfg hg η ds s hv hS
 ·rename_i k l hs
  simp only [ZvD] at hfg
  subst hfg
  have key:∀ {ws:List V} {v:V},Zge (k :: l) ws=some v→∃ k':Zbi,f=k'.f∧v=k'.r∧∀ (η:Nm) (ds:List D),VRs η ws ds→Z7 P k'.f ds (dV k'.n k'.r)∧VR η k'.r (dV k'.n k'.r):=fun {ws v} hk=>by
   obtain ⟨k',h1,h2,rfl⟩:=Zmb hk
   rw [← hs] at h1
   obtain ⟨h3,rfl⟩:=Zey h1
   exact ⟨k',rfl,rfl,fun η ds hv=>hK k' h3 ws η ds h2 hv⟩
  simp only at hg
  split at hg
  ·rename_i r hr
   simp only [ZvD] at hg
   subst hg
   obtain ⟨k',rfl,rfl,hk⟩:=key hr
   obtain ⟨h4,h5⟩:=hk η ds hv
   exact ⟨_,h5,h4 s⟩
  ·split at hg <;> (try (simp at hg; done))
   rename_i ws hws
   split at hg <;> (try (simp at hg; done))
   rename_i r hr
   unfold noV at hg
   split at hg <;> simp only [ZvD,reduceCtorEq] at hg
   rename_i hfl
   subst hg
   obtain ⟨k',rfl,rfl,hk⟩:=key hr
   obtain ⟨Ln,a1,a2⟩:=ZfO (Zm9 hS 40) hws hv
   obtain ⟨h4,h5⟩:=hk η _ (Zse hws η)
   refine ⟨_,h5,(ZK.lend a1 a2 (h4 _) ?_).mono ?_⟩
   ·rintro r S ⟨rfl,rfl⟩
    exact ⟨ZpI 40 hfl,fun b o hb=>by simp at hb⟩
   ·rintro r S ⟨S',⟨rfl,rfl⟩,_,rfl⟩
    exact ⟨rfl,rfl⟩
end Go.DL
namespace Go.DL
open Go
variable [Znt]
theorem LdC.le0 {Ln:List Nat} {l l':List D} (h:LdC St.emp Ln l l'):LeC l l':=by
 induction h with
 | nil=>exact .nil
 | cons h _ ih=>exact .cons (fun g w v hr=>h g w v (fun b _ ds hd=>by simp [St.emp] at hd) hr) ih
theorem ZaX {P:Program} (k:Zbi) (hc:Z7 P k.f (k.ks.map (dV 40)) (dV k.n k.r)) (h1:rdL (rd T.nil 40) (k.ks.map (zV k.a))=some k.ks) (h2:rd T.nil k.n k.r=some k.r):KK P k:=by
 intro vs η ds hm hv
 obtain ⟨Ln,_,a2⟩:=ZfO (s:=St.emp) (Zm9 (fun _ _ _ h hb=>(Ztu ⟨P,fun _=>none,fun _ _=>false⟩ nm0 St.emp).cells h hb) 40) h1 (ZlA (η':=nm0) hm hv)
 exact ⟨hc.leA a2.le0,Zix k.n k.r k.r h2 η⟩
end Go.DL
namespace Go.DL
open Go Go.Proofs
def ZcP (f:FuncId) (_:Option Nat):Bool:=Zfj f [16,61,62,92,93,95,125,126,129,130,131,132,134,154,155,156,157,158,161,162,163,165,187,202,203,206,207,208,209,210,211,212,213,215,216,217,218,219,220,221,223,224,276,281,282]
theorem Q8 (t:St):Jv ⟨⟨ZvJ,Zfh 120,ZcP⟩,t⟩ :=
 Zt9 (n:=151) (by kernel_rfl) Tryz.func151 (by kernel_rfl) (by kernel_rfl) (by kernel_rfl) (by kernel_rfl) t
def Q6:V:=.agg [.str [100],.sl 0 2 2 [.agg [.str [109],.sl 0 2 15 [.agg [.str [97],.int .i64 3,.int .i64 0,.bool false,.bool true,.int .i64 0,.int .i64 300,.int .i64 0,.nilsl,.str [],.str [],.str [],.nilsl,.int .i64 0,.int .i64 0],.agg [.str [104],.int .i64 6,.int .i64 0,.bool false,.bool true,.int .i64 0,.int .i64 8,.int .i64 0,.nilsl,.str [],.str [],.str [],.nilsl,.int .i64 0,.int .i64 0]]],.agg [.str [115],.sl 0 2 15 [.agg [.str [110],.int .i64 1,.int .i64 8,.bool false,.bool false,.int .i64 0,.int .i64 3,.int .i64 0,.nilsl,.str [],.str [],.str [],.nilsl,.int .i64 0,.int .i64 0],.agg [.str [108],.int .i64 7,.int .i64 0,.bool false,.bool false,.int .i64 0,.int .i64 0,.int .i64 0,.sl 0 1 2 [.agg [.str [110],.int .i64 1]],.str [109],.str [],.str [],.nilsl,.int .i64 0,.int .i64 0]]]],.str [115]]
def ZaV:V:=.agg [.str [100],.sl 0 2 2 [.agg [.str [109],.sl 0 2 15 [.agg [.str [97],.int .i64 3,.int .i64 0,.bool false,.bool true,.int .i64 268435456,.int .i64 268435456,.int .i64 0,.nilsl,.str [],.str [],.str [],.nilsl,.int .i64 0,.int .i64 0],.agg [.str [104],.int .i64 6,.int .i64 0,.bool false,.bool true,.int .i64 0,.int .i64 6,.int .i64 0,.nilsl,.str [],.str [],.str [],.nilsl,.int .i64 0,.int .i64 0]]],.agg [.str [115],.sl 0 2 15 [.agg [.str [110],.int .i64 1,.int .i64 8,.bool false,.bool false,.int .i64 0,.int .i64 3,.int .i64 0,.nilsl,.str [],.str [],.str [],.nilsl,.int .i64 0,.int .i64 0],.agg [.str [108],.int .i64 7,.int .i64 0,.bool false,.bool false,.int .i64 0,.int .i64 0,.int .i64 0,.sl 0 1 2 [.agg [.str [110],.int .i64 1]],.str [109],.str [],.str [],.nilsl,.int .i64 0,.int .i64 0]]]],.str [109]]
end Go.DL
namespace Go.DL
open Go Go.Proofs
theorem ZmV:KK ZvJ ⟨11,40,40,[Q6],.bool true⟩:=J0 (C:=⟨ZvJ,Zfh 120,ZcP⟩) Q8 ⟨11,40,40,[Q6],.bool true⟩ (m:=20000) (by kernel_rfl)
theorem ZmW:KK ZvJ ⟨11,40,40,[ZaV],.bool true⟩:=J0 (C:=⟨ZvJ,Zfh 120,ZcP⟩) Q8 ⟨11,40,40,[ZaV],.bool true⟩ (m:=20000) (by kernel_rfl)
end Go.DL
namespace Go.DL
open Go Go.Proofs
theorem ZqB:KK ZvJ ⟨17,40,40,[.str [115,40,110,32,108,41]],.tup [.agg [.str [115],.int .i64 0,.nilsl,.nilsl,.sl 0 2 5 [.agg [.str [110],.int .i64 0,.nilsl,.nilsl,.nilsl],.agg [.str [108],.int .i64 0,.nilsl,.nilsl,.nilsl]]],.int .i64 0]⟩:=J0 (C:=⟨ZvJ,Zfh 120,ZcP⟩) Q8 ⟨17,40,40,[.str [115,40,110,32,108,41]],.tup [.agg [.str [115],.int .i64 0,.nilsl,.nilsl,.sl 0 2 5 [.agg [.str [110],.int .i64 0,.nilsl,.nilsl,.nilsl],.agg [.str [108],.int .i64 0,.nilsl,.nilsl,.nilsl]]],.int .i64 0]⟩ (m:=20000) (by kernel_rfl)
theorem ZqC:KK ZvJ ⟨17,40,40,[.str [109,40,97,61,53,32,104,41]],.tup [.agg [.str [109],.int .i64 0,.nilsl,.nilsl,.sl 0 2 5 [.agg [.str [97],.int .i64 5,.nilsl,.nilsl,.nilsl],.agg [.str [104],.int .i64 0,.nilsl,.nilsl,.nilsl]]],.int .i64 0]⟩:=J0 (C:=⟨ZvJ,Zfh 120,ZcP⟩) Q8 ⟨17,40,40,[.str [109,40,97,61,53,32,104,41]],.tup [.agg [.str [109],.int .i64 0,.nilsl,.nilsl,.sl 0 2 5 [.agg [.str [97],.int .i64 5,.nilsl,.nilsl,.nilsl],.agg [.str [104],.int .i64 0,.nilsl,.nilsl,.nilsl]]],.int .i64 0]⟩ (m:=20000) (by kernel_rfl)
theorem ZqD:KK ZvJ ⟨17,40,40,[.str [115,40,110,61,49,32,108,40,109,40,97,61,51,48,48,32,104,41,41,41]],.tup [.agg [.str [115],.int .i64 0,.nilsl,.nilsl,.sl 0 2 5 [.agg [.str [110],.int .i64 1,.nilsl,.nilsl,.nilsl],.agg [.str [108],.int .i64 0,.nilsl,.nilsl,.sl 0 1 5 [.agg [.str [109],.int .i64 0,.nilsl,.nilsl,.sl 0 2 5 [.agg [.str [97],.int .i64 300,.nilsl,.nilsl,.nilsl],.agg [.str [104],.int .i64 0,.nilsl,.nilsl,.nilsl]]]]]]],.int .i64 0]⟩:=J0 (C:=⟨ZvJ,Zfh 120,ZcP⟩) Q8 ⟨17,40,40,[.str [115,40,110,61,49,32,108,40,109,40,97,61,51,48,48,32,104,41,41,41]],.tup [.agg [.str [115],.int .i64 0,.nilsl,.nilsl,.sl 0 2 5 [.agg [.str [110],.int .i64 1,.nilsl,.nilsl,.nilsl],.agg [.str [108],.int .i64 0,.nilsl,.nilsl,.sl 0 1 5 [.agg [.str [109],.int .i64 0,.nilsl,.nilsl,.sl 0 2 5 [.agg [.str [97],.int .i64 300,.nilsl,.nilsl,.nilsl],.agg [.str [104],.int .i64 0,.nilsl,.nilsl,.nilsl]]]]]]],.int .i64 0]⟩ (m:=20000) (by kernel_rfl)
end Go.DL
