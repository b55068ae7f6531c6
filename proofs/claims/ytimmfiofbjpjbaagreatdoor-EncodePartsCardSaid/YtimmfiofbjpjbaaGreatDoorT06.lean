/- Lemmas: EvE, EvF, EvG, EvH, EvI, EvJ, EvK, EvL, EvM, EvN, EvO, EvP, EvQ, EvS, EvT, EvU, EvV, EvW, EvR, EvY, EvZ, EvLib, EvZa, EvZb, K16a, K16b, K16d. -/
import Derived.Test.YtimmfiofbjpjbaaGreatDoorT05
set_option maxHeartbeats 16000000
set_option maxRecDepth 100000
set_option linter.all false
open List renaming length->I
open Option renaming some -> sO, none -> nO
open Inhabited renaming default -> dE
open Decidable renaming decide -> dC
open And renaming intro -> ZHy
open Array renaming getD_eq_getD_getElem? -> ZIh
open Bool renaming and_eq_true -> ZHG, false_and -> ZH8, false_eq_true -> ZH5
open Go.DL.D.Le renaming refl -> ZHx
open Go.DL.St renaming sub_refl -> ZHw, upd -> ZH7, upd_ne -> ZHD, upd_same -> ZHB
open Go.Proofs.Tryz renaming prog -> ZHv
open List renaming append_assoc -> ZHY, append_nil -> ZH3, getD -> ZHL, getElem?_append_left -> ZHW, getElem?_take -> ZIb, length_append -> ZHF, length_drop -> ZH9, length_map -> ZHS, length_take -> ZHQ, map_cons -> ZHM, map_nil -> ZH2, mem_cons -> ZIa, range -> ZHJ
open Nat renaming add_mul -> ZHU, le_refl -> ZHK, le_trans -> ZIg, mul_le_mul_right -> ZHP
open Option renaming getD_some -> ZIc, map_eq_some_iff -> ZHI, map_some -> ZH4
open Option.some renaming injEq -> ZHu
open Prod.mk renaming injEq -> ZHH
namespace Go.DL
open Go
variable [Zsc]
variable {kp:Option (List Nat)}{L:Loc}{H:Env}{s:St}{w:World}{os:List DOp}{ds:List D}{B:List (Nat × Rd)}{dst:Option Nat}{tmps:Array Value}{g:G}{Φ:Res->St->Prop}{Z:Nat->Nat}{xs:List Opd}{side:Prop}{row:Nat->List D}{vs:List V}
def WR(J:Nm)(L:Loc):W->E->Prop
 |.v x,e=>∃d,VR J x d/\(e=.d d\/e=.when true (.d d))
 |.loc l o,e=>e=.loc l o\/e=.when true (.loc l o)
 |.skip,e=>e=.when false (.d (.bool false))
def live(_:Loc):W->Bool
 |.loc _ _=>false
 |_=>true
def Z5(J:Nm)(L:Loc)(H:T W)(ρd:Env):Prop:=∀t w,H.get t=sO w->live L w=true->∃e,ZK ρd t=sO e/\WR J L w e
def Z5.anyL{J L L' H ρd}(h:Z5 J L H ρd):Z5 J L' H ρd:=λt w i u=>by
 cases w with
 |v x=>exact h t _ i rfl
 |loc l o=>cases u
 |skip=>exact h t _ i rfl
structure Px extends Cx where
 t:St
instance:Coe Px Cx:=⟨Px.toCx⟩
inductive OR(C:Cx)(J:Nm)(k0:Nat):O->QL->Prop where
 |cells (vs:List V) (ds ex:List D) (h:VRs J vs ds):OR C J k0 (.cells vs) (.cells (ds++ex))
 |buf (vs:List V) (ds ex:List D) (h:VRs J vs ds) (hc:J (k0+1)=some (.tip (ds++ex).length)):OR C J k0 (.buf vs) (.cells (ds++ex))
 |map (es:List (V×V)) (ds:List (D×D)) (h:ZH (MR J) es ds):OR C J k0 (.map es) (.map ds)
 |tok (n:Nat):OR C J k0 (.tok n) (.tip n)
 |mapE (kp:KP) (es:List (V×V)) (ds:List (D×D)) (k:V) (dk:D) (n m:Nat) (h:ZH (MR J) es ds) (hk:VR J k dk) (hn:J n=some (.tip m)):OR C J k0 (.mapE kp es k n) (.mapE kp ds dk m)
 |dfr:OR C J k0 .dfr .dfr
 |ro (o:O) (d:QL) (h:OR C J k0 o d) (hr:ZbE o=false) (hk:∀n,o≠.tok n):OR C J k0 (.ro o) d
 |loop (f:FuncId) (n:Nat) (ps:List Nat) (a b:DC) (H:T W) (st:Option DC) (busy:Bool) (r:ZbT) (lst:LSt) (hf:r.fn=f) (hn:r.N=n) (hps:r.params=ps) (hlt:∀t∈ps,t<n)
   (ha:cc C.P (C.an f) n r.assign=some a) (hb:cc C.P (C.an f) n r.body=some b) (hρ:Z5 J [] H r.H)
   (hst:match st,busy,lst with
    |none,false,.ready=>True
    |none,true,.busy=>True
    |some dj,false,.done j=>cc C.P (C.an f) n j=some dj
    |_,_,_=>False):OR C J k0 (.loop f n ps a b H st busy) (.loop r lst)
structure Sim(C:Px)(J:Nm)(U:S)(s:St):Prop where
 obj:∀k o,U.get k=some o->∃t,J k=some t/\((∃b d,t=.tip b/\s b=some d/\OR C J k o d)\/(∃n,o=.tok n/\t=.full))
 inj:∀k k' o o' b,U.get k=some o->U.get k'=some o'->J k=some (.tip b)->J k'=some (.tip b)->k=k'
 kp:∀b d,C.t b=some d->s b=some d/\∀k o,U.get k=some o->ZbE o=false->J k≠some (.tip b)
 ro:∀k o b,U.get k=some (.ro o)->J k=some (.tip b)->∃d,C.t b=some d
def WR.mono{J J' L}(h:J.Sub J'){w e}(x:WR J L w e):WR J' L w e:=by
 cases w with
 |v v=>obtain⟨d,i,t⟩:=x;exact⟨d,i.mono h,t⟩
 |_=>exact x
def Z5.mono{J J' L}(h:J.Sub J'){H ρd}(x:Z5 J L H ρd):Z5 J' L H ρd:=λt w hw hl=>by
 obtain⟨e,i,u⟩:=x t w hw hl;exact⟨e,i,u.mono h⟩
def OR.mono{C J J'}(h:J.Sub J'){k0 o d}(x:OR C J k0 o d):OR C J' k0 o d:=by
 induction x with
 |cells vs ds ex h1=>exact .cells vs ds ex (h1.mono h)
 |buf vs ds ex h1 hc=>exact .buf vs ds ex (h1.mono h) (h _ _ hc)
 |map es ds h1=>exact .map es ds (h1.imp λ_ _ m=>m.mono h)
 |tok n=>exact .tok n
 |mapE kp es ds k dk n m h1 hk hn=>exact .mapE kp es ds k dk n m (h1.imp λ_ _ m=>m.mono h) (hk.mono h) (h _ _ hn)
 |dfr=>exact .dfr
 |ro o d h1 hr hk ih=>exact .ro o d ih hr hk
 |loop f n ps a b H st busy r lst hf hn hps hlt ha hb hρ hst=>exact .loop f n ps a b H st busy r lst hf hn hps hlt ha hb (hρ.mono h) hst
def Sim.name{C J J' U s}(x:Sim C J U s)(u:J.Sub J'){k o}(h:U.get k=sO o){t}(e:J' k=sO t):J k=sO t:=by
 obtain⟨t0,i,_⟩:=x.obj k o h;rw[u _ _ i]at e;rw[i,e]
def Sim.mono{C:Px}{J J':Nm}(h:J.Sub J'){U:S}(x:Sim C J U s):Sim C J' U s:={
 obj k o hk:=by obtain⟨t,u,h2⟩:=x.obj k o hk;refine⟨t,h _ _ u,h2.imp (λ⟨b,d,a1,a2,i⟩=>⟨b,d,a1,a2,i.mono h⟩) id⟩
 inj k k' o o' b hk hk' e e':=x.inj k k' o o' b hk hk' (x.name h hk e) (x.name h hk' e')
 kp b d hb:=⟨(x.kp b d hb).1,λk o hk hr e=>(x.kp b d hb).2 k o hk hr (x.name h hk e)⟩
 ro k o b hk e:=x.ro k o b hk (x.name h hk e) }
section
variable {C:Px} {J:Nm} {U:S} {s:St}
def Sim.get(x:Sim C J U s){k o}(h:U.get k=sO o)(u:∀n,o≠.tok n):∃b d,J k=sO (.tip b)/\s b=sO d/\OR C J k o d:=by
 obtain⟨t,i,⟨b,d,rfl,a1,a2⟩|⟨n,rfl,_⟩⟩:=x.obj k o h;exact⟨b,d,i,a1,a2⟩;exact absurd rfl (u n)
def OR.cellsO{C k0 o d vs}(h:OR C J k0 o d)(t:cellsO o=sO vs):∃ds ex,d=.cells (ds++ex)/\VRs J vs ds:=by
 have i:∀{o:O} {d:QL},OR C J k0 o d->(o=.cells vs\/o=.buf vs)->∃ds ex,d=.cells (ds++ex)/\VRs J vs ds:=λ{o d} h ho=>by
  rcases ho with rfl|rfl
  .cases h with
   |cells vs ds ex h=>exact⟨ds,ex,rfl,h⟩
  cases h with
  |buf vs ds ex h=>exact⟨ds,ex,rfl,h⟩
 cases o<;>simp[Go.DL.cellsO]at t;subst t;exact i h (.inl rfl);subst t;exact i h (.inr rfl);rename_i o;cases h with
 |ro _ _ h _ _ =>cases o<;>simp at t;subst t;exact i h (.inl rfl);subst t;exact i h (.inr rfl)
def ZvT{o vs}(h:cellsO o=sO vs)(n):o≠.tok n:=λe=>by subst e;cases h
def Sim.cells(x:Sim C J U s){k b vs}(h:ZaP (U.get k)=sO vs)(hb:J k=sO (.tip b)):∃ds ex,s b=sO (.cells (ds++ex))/\VRs J vs ds:=by
 cases i:U.get k with
 |none=>rw[i]at h;cases h
 |some o =>rw[i]at h;obtain⟨b',d,t,u,h3⟩:=x.get i (ZvT h);rw[hb]at t;cases t;obtain⟨ds,ex,rfl,h4⟩:=h3.cellsO h;exact⟨ds,ex,u,h4⟩
def Sim.map(x:Sim C J U s){k b es}(h:U.get k=sO (.map es))(hb:J k=sO (.tip b)):∃ds,s b=sO (.map ds)/\ZH (MR J) es ds:=by
 obtain⟨b',d,i,t,u⟩:=x.get h (λn=>by simp);rw[hb]at i;cases i;cases u with
 |map es ds h=>exact⟨ds,t,h⟩
def Sim.mapO(x:Sim C J U s){k b es}(h:mapO (U.get k)=sO es)(hb:J k=sO (.tip b)):∃ds,s b=sO (.map ds)/\ZH (MR J) es ds:=by
 cases i:U.get k with
 |none=>rw[i]at h;cases h
 |some o =>
  rw[i]at h;cases o<;>simp[Go.DL.mapO]at h;subst h;exact x.map i hb;rename_i o;cases o<;>cases h;obtain⟨b',d,u,h2,t⟩:=x.get i (λn=>by simp);rw[hb]at u;cases u;cases t with
  |ro _ _ t _ _=>cases t with
   |map es ds h=>exact⟨ds,h2,h⟩
def Zu5{U:S}{k k' o}(h:(U.set nO k).get k'=sO o):k'≠k/\U.get k'=sO o:=by
 rcases T.get_set h with ⟨_,i⟩|⟨t,i⟩;simp at i;exact⟨t,i⟩
def Sim.subT{U':S}(x:Sim C J U s)(h:∀k o,U'.get k=sO o->U.get k=sO o):Sim C J U' s:={
 obj k o hk:=x.obj k o (h k o hk)
 inj k k' o o' b hk hk':=x.inj k k' o o' b (h _ _ hk) (h _ _ hk')
 kp b d hb:=⟨(x.kp b d hb).1,λk o hk=>(x.kp b d hb).2 k o (h _ _ hk)⟩
 ro k o b hk:=x.ro k o b (h _ _ hk) }
def Sim.forget(x:Sim C J U s)(k):Sim C J (U.set nO k) s:=x.subT λ_ _ h=>(Zu5 h).2
def Sim.upd(x:Sim C J U s){k b:Nat}{o o':O}{d:QL}(h:U.get k=sO o)(hb:J k=sO (.tip b))(ho:OR C J k o' d)(hr:ZbE o=false:=by rfl)(hr':ZbE o'=false:=by rfl):Sim C J (U.set (sO o') k) (s.upd b d) where
 obj k' o1 h':=by rcases T.get_set h' with ⟨rfl,h1⟩|⟨u,h1⟩;cases h1;exact⟨_,hb,.inl ⟨b,d,rfl,ZHB s b d,ho⟩⟩;obtain⟨t,e1,⟨b',d',rfl,e2,e3⟩|e2⟩:=x.obj k' o1 h1;refine⟨_,e1,.inl ⟨b',d',rfl,?_,e3⟩⟩;have:b'≠b:=λi=>u (x.inj k' k _ _ b h1 h (by rw[<-i];exact e1) hb);rw[ZHD s d this];exact e2;exact⟨t,e1,.inr e2⟩
 inj k1 k2 o1 o2 b' h1 h2 e1 e2:=by
  have:∀k' o1,(U.set (sO o') k).get k'=sO o1->∃o,U.get k'=sO o:=λk' o1 h'=>by rcases T.get_set h' with ⟨rfl,_⟩|⟨_,h'⟩;exact⟨_,h⟩;exact⟨_,h'⟩
  obtain⟨p1,q1⟩:=this _ _ h1;obtain⟨p2,q2⟩:=this _ _ h2;exact x.inj k1 k2 p1 p2 b' q1 q2 e1 e2
 kp c e hc:=by obtain⟨h1,h2⟩:=x.kp c e hc;have:c≠b:=λec=>h2 k o h hr (by rw[ec];exact hb);refine⟨by rw[ZHD s d this];exact h1,λk' o1 h' ab=>?_⟩;rcases T.get_set h' with ⟨rfl,_⟩|⟨_,h'⟩;exact h2 _ o h hr;exact h2 k' o1 h' ab
 ro k' o1 b' h' e:=by rcases T.get_set h' with ⟨rfl,h1⟩|⟨_,h'⟩;cases h1;simp[ZbE]at hr';exact x.ro k' o1 b' h' e
end
def Nm.put(J:Nm)(k:Nat)(t:Tok):Nm:=λk'=>if k'=k then sO t else J k'
def Nm.put_sub{J:Nm}{k}(h:J k=nO)(t):J.Sub (J.put k t):=λu t' i=>by
 have:u≠k:=λe=>by rw[e,h]at i;grind
 simp[Nm.put,this,i]
def Nm.put_same{J:Nm}{k t}:(J.put k t) k=sO t:=by simp[Nm.put]
structure Yu(J:Nm)(nx:Nat):Prop where
 z:J 0=some .none
 o:J 1=some .full
 two:2<=nx
 free:∀k,nx<=k->J k=none
def Yu.put{J:Nm}{nx:Nat}(h:Yu J nx)(t:Tok):Yu (J.put nx t) (nx+1):={
 z:=by have:=h.two;simp[Nm.put];rw[if_neg ω];exact h.z
 o:=by have:=h.two;simp[Nm.put];rw[if_neg ω];exact h.o
 two:=by have:=h.two;omega
 free k hk:=by simp[Nm.put];rw[if_neg ω];exact h.free k ω }
section
variable {C:Px} {J:Nm} {U:S} {s:St}
def Sim.fresh(x:Sim C J U s){b}(hb:s b=nO){k o}(h:U.get k=sO o):J k≠sO (.tip b):=λe=>by
 obtain⟨t,i,⟨b',d,rfl,u,_⟩|⟨n,_,rfl⟩⟩:=x.obj k o h;rw[e]at i;cases i;rw[hb]at u;grind;rw[e]at i;grind
def Sim.new(x:Sim C J U s){nx}(hn:J nx=nO){b}(hb:s b=nO){o d}(ho:OR C (J.put nx (.tip b)) nx o d)(hr:ZbE o=false:=by rfl):Sim C (J.put nx (.tip b)) (U.set (sO o) nx) (s.upd b d):=by
 have ac:=Nm.put_sub hn (.tip b);have x':=x.mono ac;refine⟨λk o1 h=>?_,λk1 k2 o1 o2 b' h1 h2 e1 e2=>?_,λc e hc=>?_,λk o1 c h e=>?_⟩;rcases T.get_set h with ⟨rfl,h1⟩|⟨u,h1⟩;cases h1;exact⟨_,Nm.put_same,.inl ⟨b,d,rfl,ZHB s b d,ho⟩⟩;obtain⟨t,e1,⟨b',d',rfl,e2,e3⟩|e2⟩:=x'.obj k o1 h1;refine⟨_,e1,.inl ⟨b',d',rfl,?_,e3⟩⟩;have:b'≠b:=λad=>by rw[ad,hb]at e2;grind
 rw[ZHD s d this];exact e2;exact⟨t,e1,.inr e2⟩;have i:∀k o1 b',(U.set (sO o) nx).get k=sO o1->(J.put nx (.tip b)) k=sO (.tip b')->k≠nx->U.get k=sO o1/\J k=sO (.tip b'):=λk o1 b' h e u=>by rcases T.get_set h with ⟨rfl,_⟩|⟨_,h⟩;exact absurd rfl u;exact⟨h,by simpa[Nm.put,u]using e⟩
 by_cases c1:k1=nx<;>by_cases c2:k2=nx;simp_all;exfalso;obtain⟨q1,q2⟩:=i k2 o2 b' h2 e2 c2;rw[c1,Nm.put_same]at e1;cases e1;exact x.fresh hb q1 q2;exfalso;obtain⟨q1,q2⟩:=i k1 o1 b' h1 e1 c1;rw[c2,Nm.put_same]at e2;cases e2;exact x.fresh hb q1 q2;obtain⟨q1,q2⟩:=i k1 o1 b' h1 e1 c1;obtain⟨q3,q4⟩:=i k2 o2 b' h2 e2 c2;exact x.inj k1 k2 o1 o2 b' q1 q3 q2 q4;obtain⟨h1,h2⟩:=x'.kp c e hc;have ab:c≠b:=λec=>by rw[ec,hb]at h1;grind
 refine⟨by rw[ZHD s d ab];exact h1,λk o1 h ae e1=>?_⟩;rcases T.get_set h with ⟨rfl,_⟩|⟨_,h⟩;rw[Nm.put_same]at e1;simp at e1;exact ab e1.symm;exact h2 k o1 h ae e1;rcases T.get_set h with ⟨rfl,h1⟩|⟨_,h⟩;cases h1;cases hr;exact x'.ro k o1 c h e
end
section
variable {J:Nm} {L:Loc} {H:T W} {ρd:Env}
def ZAI{x v}(h:wV x=sO v):x=sO (.v v):=by
 unfold wV at h;split at h;split at h<;>cases h;rfl;grind
def Kw(hρ:Z5 J L H ρd){x v}(h:(YS x).run H=sO v):∃p d,Zy ρd true x=sO (p,.d d)/\p/\VR J v d:=by
 cases x with
 |cst d =>simp[YS]at h;split at h<;>cases h;exact⟨True,d,rfl,trivial,Zhk ‹_›⟩
 |tmp t =>obtain⟨e,i,d,u,rfl|rfl⟩:=hρ t _ (ZAI h) rfl;exact⟨True,d,by simp[Zy,i],trivial,u⟩;exact⟨True->True,d,by simp[Zy,i],λ_=>trivial,u⟩
def ZaE(i:Z5 J L H ρd):∀{xs vs},(Zce xs).run H=sO vs->∃p ds,Z8 ρd true xs=sO (p,ds.map .d)/\p/\VRs J vs ds
 | [],vs,h=>by cases h;exact⟨True,[],rfl,trivial,.nil⟩
 |x::xs,vs,h=>by simp[Zce]at h;split at h<;>(try(grind;done));rename_i v h1;split at h<;>simp at h;rename_i vs' h2;subst h;obtain⟨p,d,a1,a2,t⟩:=Kw i h1;obtain⟨q,ds,u,b2,b3⟩:=ZaE i h2;exact⟨p/\q,d::ds,by simp[Z8,a1,u],⟨a2,b2⟩,.cons _ _ _ _ t b3⟩
def ZaJ:∀(ds),Ka (ds.map .d)=sO ds
 | []=>rfl
 |d::ds=>by simp[Ka,ZaJ ds]
def ZqD(hρ:Z5 J L H ρd){g b}(h:(ZjH g).run H=sO b):Zk ρd g=sO b:=by
 cases g with
 |none=>simpa[ZjH,Zk]using h
 |some x =>
  obtain⟨t,want⟩:=x;simp[ZjH]at h;split at h<;>(try(grind;done));rename_i w hw;cases w with
  |v x =>obtain⟨e,u,h2⟩:=hρ t _ hw rfl;cases x<;>cases h;obtain⟨d,h3,rfl|rfl⟩:=h2<;>cases h3;simp[Zk,u];simp[Zk,u]
  |loc l o=>grind
  |skip =>obtain⟨e,u,h2⟩:=hρ t _ hw rfl;cases h;have i:e=.when false (.d (.bool false)):=h2;subst i;simp[Zk,u]
def JM(hρ:Z5 J L H ρd){w e}(hw:WR J L w e)(dst):Z5 J L ((ZcD dst).run H w) (Zv ρd dst e):=by
 cases dst with
 |none=>exact hρ
 |some t =>intro t' w' h hl;rcases T.get_set (t:=H) (x:=sO w) (k:=t) h with ⟨rfl,u⟩|⟨i,u⟩;cases u;exact⟨e,by simp[Zv,ZK],hw⟩;obtain⟨e',h2,h3⟩:=hρ t' w' u hl;exact⟨e',by simp[Zv,ZK];rw[if_neg (Ne.symm i)];exact h2,h3⟩
def Zya(hρ:Z5 J L H ρd){x c}(h:(ZjW x).run H=true)(hc:c=false):∃p z,Zy ρd c x=sO (p,.d (.bool z))/\p:=by
 subst hc;cases x with
 |cst d =>cases d<;>cases h;exact⟨True,_,rfl,trivial⟩
 |tmp t =>
  simp[ZjW]at h;split at h<;>(try(grind;done));rename_i w hw;cases w with
  |v x =>obtain⟨e,u,h2⟩:=hρ t _ hw rfl;cases x<;>cases h;obtain⟨d,h3,rfl|rfl⟩:=h2<;>cases h3;exact⟨True,_,by simp[Zy,u];rfl,trivial⟩;exact⟨_,_,by simp only[Zy,u];rfl,λh=>by simp at h⟩
  |loc l o=>grind
  |skip =>obtain⟨e,u,h2⟩:=hρ t _ hw rfl;have i:e=.when false (.d (.bool false)):=h2;subst i;exact⟨_,_,by simp only[Zy,u];rfl,λh=>by simp at h⟩
end
def WO{vs f v}(h:a1 vs f=sO v):∃x,vs=[x]/\f x=sO v:=by
 unfold a1 at h;split at h;exact⟨_,rfl,h⟩;grind
def ZdA{vs f v}(h:a2 vs f=sO v):∃x y,vs=[x,y]/\f x y=sO v:=by
 unfold a2 at h;split at h;exact⟨_,_,rfl,h⟩;grind
def ZB{α b}{r:Option α}{v:α}(h:noV b r=sO v):b=true/\r=sO v:=by
 cases b<;>simp[noV]at h;exact⟨rfl,h⟩
def ZbW{i n r v}(h:ZfX i n r=sO v):0<=i/\i<n/\r=sO v:=by
 unfold ZfX at h;split at h<;>(try(grind;done));rename_i t;simp[Zhj]at t;exact⟨t.1,ω,h⟩
def Zag{a b}:Nat.ble a b=true↔a<=b:=by rw[Nat.ble_eq]
def Z0{a b}:Nat.beq a b=true↔a=b:=by rw[Nat.beq_eq]
def JI{a b}:leI a b=true↔a<=b:=by rw[Zhj,decide_eq_true_eq]
def Q9{a b}:eqI a b=true↔a=b:=by rw[Zjx,decide_eq_true_eq]
def isub(a b):Int.sub a b=a-b:=rfl
section
variable {C:Px} {J:Nm} {U:S} {s:St} {L:Loc}
def Zej{b f v}(h:Zje U b f=sO v):∃cs,ZaP (U.get b)=sO cs/\f cs=sO v:=by
 unfold Zje at h;split at h;rename_i i;exact⟨_,i,h⟩;grind
def ZhQ(u:Sim C J U s){k b cs}(h:ZaP (U.get k)=sO cs)(hb:J k=sO (.tip b)):∃ds ex,Z1 s b=sO (ds++ex)/\VRs J cs ds:=by
 obtain⟨ds,ex,i,t⟩:=u.cells h hb;exact⟨ds,ex,by simp[Z1,i],t⟩
def Zhg{cs ds}(ex)(h:VRs J cs ds){o v}(t:Zh9 o cs=sO v):∃d,(ds++ex)[o]?=sO d/\VR J v d:=by
 rw[Zk5]at t;obtain⟨d,i,u⟩:=h.get t;refine⟨d,?_,u⟩;rw[ZHW (List.getElem?_eq_some_iff.1 i).1];exact i
def Ztu{ds ex o n}(h:o+n<=I ds):part (ds++ex) o n=part ds o n:=by
 unfold part;rw[List.drop_append_of_le_length ω,List.take_append_of_le_length (by simp;omega)]
def Zmi{ds ex i o}(h:o+I i<=I ds):Zx (ds++ex) o i=Zx ds o i++ex:=by
 unfold Zx;rw[List.take_append_of_le_length ω,List.drop_append_of_le_length ω,ZHY,ZHY,ZHY]
def Zlp{cs ds}(ex)(h:VRs J cs ds){o n v}(i:ZkK cs o n=sO v):o+n<=(ds++ex).length/\VR J v (.agg (part (ds++ex) o n)):=by
 unfold ZkK at i;split at i<;>simp at i;rename_i r hr;subst i;obtain⟨t,u⟩:=h.partv hr;exact⟨by simp;omega,by rw[Ztu t];exact .agg _ _ u⟩
def Zbi:∀{bs vs ds r},VRs J vs ds->J5 bs vs=sO r->Wz bs (ds.map .d)=sO r
 | [],vs,ds,r,hv,h=>by
  cases vs with
  |nil=>obtain rfl:=hv.inv0;simpa[J5,Wz]using h
  |cons v vs=>cases h
 |true::bs,vs,ds,r,hv,h=>by
  cases vs with
  |nil=>cases h
  |cons v vs =>obtain⟨d,ds',rfl,t,u⟩:=hv.inv;cases t<;>simp[J5]at h;obtain⟨q,i,rfl⟩:=h;simp[Wz,Zbi u i]
 |false::bs,vs,ds,r,hv,h=>by simp[J5]at h;obtain⟨q,i,rfl⟩:=h;simp[Wz,Zbi hv i]
def ZB2{t n τ}(u:J 1=sO .full)(ht:t=0\/J t=sO τ){l h mx}:ZwW t n l h mx=0\/J (ZwW t n l h mx)=sO (Zby τ n l h mx):=by
 unfold ZwW Zby
 cases mx with
 |some m =>simp only[Q9];split;exact .inr u;exact .inl rfl
 |none =>simp only[Q9,Z0];split;split;rename_i i;subst i;rcases ht with h|h;simp at h;rw[u]at h;cases h;exact .inr u;split;rcases ht with h|h;exact .inl h;refine .inr ?_;cases τ<;>simp_all;exact .inl rfl;exact .inl rfl
def Zyy(h1:J 1=sO .full){z lo hi mx x v d}(hx:VR J x d)(h:ZtM z lo hi mx x=sO v):∃side r,ZaU z lo hi mx d=sO (side,r)/\side/\VR J v r:=by
 cases hx<;>simp only[ZtM,reduceCtorEq]at h;case nilsl =>split at h<;>simp only[ZHu,reduceCtorEq]at h;rename_i hc;subst h;simp only[ZHG,Q9]at hc;exact⟨_,_,rfl,⟨hc.1.1,hc.1.2,hc.2⟩,.nilsl⟩
 case sl t n s rs τ row hr hn ht =>split at h<;>(try(simp at h;done));rename_i hc;split at h<;>simp only[ZHu,reduceCtorEq]at h;rename_i r ab;subst h;simp only[ZHG,Z0,JI]at hc;obtain⟨⟨⟨⟨rfl,c1⟩,c2⟩,c3⟩,c4⟩:=hc;rw[Jr]at ab;obtain⟨l1,rfl⟩:=J9 ab;simp only[ZaU,if_true];refine⟨_,_,rfl,⟨c1,c2,c3,λm hm=>?_⟩,?_⟩;subst hm;simp only[ZCI,ZHG,JI]at c4;exact c4;refine .sl _ _ _ _ _ _ ((hr.drop (lo.getD 0).toNat).take _) ?_ (ZB2 h1 ht);rw[ZHQ];exact Nat.min_eq_left l1
 case msl k b o n cap s hb =>split at h<;>(try(simp at h;done));rename_i hc;split at h<;>simp only[ZHu,reduceCtorEq]at h;rename_i i;subst h;simp only[ZHG,Z0,JI]at hc i;obtain⟨⟨rfl,c1⟩,c2⟩:=hc;simp only[ZaU,if_true];refine⟨_,_,rfl,⟨c1,c2,i.1,i.2⟩,?_⟩;by_cases he:mx.getD (cap:Int)=lo.getD 0;rw[if_pos he,if_pos (Q9.2 he)];exact .msl _ _ _ _ _ _ hb;rw[if_neg he,if_neg (λh=>he (Q9.1 h))];exact .msl _ _ _ _ _ _ hb
 case gsl k b o n cap s c hb hb2 hcap hl =>
  split at h<;>(try(simp at h;done));rename_i hc;split at h<;>(try(simp at h;done));rename_i i;simp[JI,Q9,Zhj]at hc i;obtain⟨⟨rfl,c1⟩,c2⟩:=hc;obtain⟨c3,c4⟩:=i;simp only[ZaU,if_true];cases mx with
  |none =>
   cases h;refine⟨_,_,rfl,⟨c1,c2,by simp only[Option.getD_none];omega,ψ⟩,?_⟩;simp only[Option.getD_none];by_cases he:(cap:Int)=lo.getD 0;rw[if_pos he];rcases c4 with c4|c4;rw[c4]at he⊢;simp only[Int.toNat_zero,Nat.zero_mul,Nat.add_zero];exact .gsl _ _ _ _ _ _ c hb hb2 (by rw[isub];omega) (by have:=ZIg (Nat.le_add_right o (cap*s)) hl;rw[he];simpa using this);omega;rw[if_neg he];refine .gsl _ _ _ _ _ _ c hb hb2 (by rw[isub];omega) ?_;have e:(lo.getD 0).toNat+((cap:Int)-lo.getD 0).toNat=cap:=ω
   calc o+(lo.getD 0).toNat*s+((cap:Int)-lo.getD 0).toNat*s=o+((lo.getD 0).toNat+((cap:Int)-lo.getD 0).toNat)*s:=by rw[ZHU];omega
    _=o+cap*s:=by rw[e]
    _<=c:=hl
  |some m =>simp only at h;split at h<;>simp at h;rename_i u;simp only[ZHG,JI]at u;subst h;refine⟨_,_,rfl,⟨c1,c2,by simpa using u.1,by simp only[ZIc];omega⟩,?_⟩;simp only[ZIc];by_cases he:m=lo.getD 0;rw[if_pos he,if_pos (Q9.2 he)];exact .msl _ _ _ _ _ _ hb;rw[if_neg he,if_neg (λh=>he (Q9.1 h))];exact .msl _ _ _ _ _ _ hb
def ZsX:∀{cells ps vs r cds ds},VRs J cells cds->VRs J vs ds->ZrI cells ps vs=sO r->∃rd,Zbr cds ps ds=sO rd/\VRs J r rd
 |cells,[],vs,r,cds,ds,hc,hv,h=>by
  cases vs with
  |nil =>obtain rfl:=hv.inv0;cases h;exact⟨_,rfl,hc⟩
  |cons v vs=>cases h
 |cells,(o,n)::ps,vs,r,cds,ds,hc,hv,h=>by
  cases vs with
  |nil=>cases h
  |cons v vs =>
   obtain⟨d,ds',rfl,h1,h2⟩:=hv.inv;simp only[ZrI]at h;split at h<;>(try(grind;done));rename_i hp;split at h<;>(try(grind;done));rename_i cs u;have i:VRs J (ZfD v) (cellsOf d):=by cases h1<;>first|exact .one (by constructor<;>assumption)|assumption
   have t:W7 d=true:=by cases h1<;>first|rfl|cases hp
   obtain⟨e0,e1,e2⟩:=hc.over i u;obtain⟨rd,e3,e4⟩:=ZsX e2 h2 h;refine⟨rd,?_,e4⟩;simp only[Zbr];rw[if_pos ⟨t,by rw[<-i.len,e0],e1⟩];exact e3
def ZqN{b o n cap cs r ds ex l}(e0:Z1 s b=sO (ds++ex))(e1:VRs J cs ds)(u:o+n<=I cs)(hr:Za6 n (Zbq o cs)=sO r)(hl:Znw r=sO l):
  ∃side d,qv L s (.conv .b2s) ([D.msl b o n cap 1].map .d)=sO (side,.d d)/\side/\VR J (.str l) d:=by
 rw[Jr]at hr;obtain⟨l1,rfl⟩:=J9 hr;have hlen:o+n<=I ds:=by rw[<-e1.len];exact u
 obtain⟨i1,i2⟩:=((e1.drop o).take n).bytes hl;have hn:((cs.drop o).take n).length=n:=by rw[ZHQ];exact Nat.min_eq_left l1
 rw[hn]at i1 i2;have hp:∀i,i<n->part (ds++ex) (o+i) 1=part ((ds.drop o).take n) i 1:=λi t=>by
  rw[Ztu ω];unfold part;rw[List.drop_take,List.take_take,List.drop_drop]
  congr 1;omega
 refine⟨o+n<=(ds++ex).length/\∀i,i<n->ZgF (part (ds++ex) (o+i) 1),.str ((ZHJ n).map λi=>ZaV (part (ds++ex) (o+i) 1)),by simp[qv,e0],⟨by simp;omega,λi t=>by rw[hp i t];exact i1 i t⟩,?_⟩;have:((ZHJ n).map λi=>ZaV (part (ds++ex) (o+i) 1))=l.map UInt8.ofNat:=by rw[i2];exact List.map_congr_left λi t=>by simp_all
 rw[this];exact .str _
def ZDC(a b):(if leI a b=true then a else b)=Min.min a b:=by simp[JI];exact(Int.min_def a b).symm
def ZDB(a b):(if leI a b=true then b else a)=Max.max a b:=by simp[JI];exact(Int.max_def a b).symm
def Zww(hS:Sim C J U s)(h1:J 1=sO .full){q vs ds}(hv:VRs J vs ds){v}(h:qV q U vs=sO v):∃side d,qv L s q (ds.map .d)=sO (side,.d d)/\side/\VR J v d:=by
 cases q<;>(try simp only[qV]at h);case mv =>obtain⟨x,rfl,hh⟩:=WO h;replace h:=hh;clear hh;obtain⟨d,rfl,hx⟩:=hv.inv1;simp only[ZHu]at h;subst h;exact⟨True,d,rfl,trivial,hx⟩
 case nilck =>obtain⟨x,rfl,hh⟩:=WO h;replace h:=hh;clear hh;obtain⟨d,rfl,hx⟩:=hv.inv1;cases hx<;>simp only[reduceCtorEq,ZHu]at h<;>subst h;exact⟨True,_,rfl,trivial,by constructor;assumption⟩;exact⟨True,_,rfl,trivial,by constructor;assumption⟩;exact⟨True,_,rfl,trivial,by constructor<;>assumption⟩;exact⟨True,_,rfl,trivial,by constructor;assumption⟩
 case load1 =>
  obtain⟨x,rfl,hh⟩:=WO h;replace h:=hh;clear hh;obtain⟨d,rfl,hx⟩:=hv.inv1;cases hx<;>simp only[reduceCtorEq]at h;case ep cs o ds hc =>obtain⟨d,e1,e2⟩:=Zhg [] hc h;rw[ZH3]at e1;exact⟨True,d,by simp only[ZHM,ZH2,qv,Wm,e1,ZH4],trivial,e2⟩
  case ptr k b o hb =>obtain⟨cs,hg,hh⟩:=Zej h;replace h:=hh;clear hh;obtain⟨ds,ex,e0,e1⟩:=ZhQ hS hg hb;obtain⟨d,e2,e3⟩:=Zhg ex e1 h;exact⟨True,d,by simp only[ZHM,ZH2,qv,Wm,e0,e2,ZH4],trivial,e3⟩
 case loadN n =>
  obtain⟨x,rfl,hh⟩:=WO h;replace h:=hh;clear hh;obtain⟨d,rfl,hx⟩:=hv.inv1;cases hx<;>simp only[reduceCtorEq]at h;case ep cs o ds hc =>obtain⟨e1,e2⟩:=Zlp [] hc h;rw[ZH3]at e1 e2;exact⟨_,_,by simp only[ZHM,ZH2,qv,Kh,ZH4]<;>rfl,e1,e2⟩
  case ptr k b o hb =>obtain⟨cs,hg,hh⟩:=Zej h;replace h:=hh;clear hh;obtain⟨ds,ex,e0,e1⟩:=ZhQ hS hg hb;obtain⟨e2,e3⟩:=Zlp ex e1 h;exact⟨_,_,by simp only[ZHM,ZH2,qv,Kh,e0,ZH4]<;>rfl,e2,e3⟩
 case bin op p =>obtain⟨x,y,rfl,hh⟩:=ZdA h;replace h:=hh;clear hh;obtain⟨d,d',rfl,hx,hy⟩:=hv.inv2;obtain⟨side,r,e1,e2,e3⟩:=ZBG hx hy h;exact⟨side,r,by simp only[ZHM,ZH2,qv,e1,ZH4],e2,e3⟩
 case not =>obtain⟨x,rfl,hh⟩:=WO h;replace h:=hh;clear hh;obtain⟨d,rfl,hx⟩:=hv.inv1;cases hx<;>simp only[reduceCtorEq,ZHu]at h;subst h;exact⟨True,_,rfl,trivial,.bool _⟩
 case neg =>obtain⟨x,rfl,hh⟩:=WO h;replace h:=hh;clear hh;obtain⟨d,rfl,hx⟩:=hv.inv1;cases hx<;>simp only[reduceCtorEq]at h;obtain⟨rfl,hr⟩:=ZbX h;exact⟨_,_,rfl,hr,.int _ _⟩
 case xorm =>obtain⟨x,rfl,hh⟩:=WO h;replace h:=hh;clear hh;obtain⟨d,rfl,hx⟩:=hv.inv1;cases hx<;>simp only[reduceCtorEq,ZHu]at h;subst h;exact⟨True,_,rfl,trivial,.int _ _⟩
 case conv c =>
  cases c<;>simp only at h;case int k =>obtain⟨x,rfl,hh⟩:=WO h;replace h:=hh;clear hh;obtain⟨d,rfl,hx⟩:=hv.inv1;cases hx<;>simp only[reduceCtorEq,ZHu]at h;subst h;simp only[ZHM,ZH2,qv];split;exact⟨True,_,rfl,trivial,.int _ _⟩;exact⟨True,_,rfl,trivial,.int _ _⟩
  case str =>obtain⟨x,rfl,hh⟩:=WO h;replace h:=hh;clear hh;obtain⟨d,rfl,hx⟩:=hv.inv1;cases hx<;>simp only[reduceCtorEq,ZHu]at h;subst h;exact⟨True,_,rfl,trivial,.str _⟩
  case i2s =>
   obtain⟨x,rfl,hh⟩:=WO h;replace h:=hh;clear hh;obtain⟨d,rfl,hx⟩:=hv.inv1;cases hx<;>simp only[reduceCtorEq]at h;obtain⟨hb,hh⟩:=ZB h;replace h:=hh;clear hh;rw[Zag]at hb;simp only[ZHu]at h;subst h;refine⟨_,_,rfl,hb,?_⟩;have:=VR.str (J:=J) ((Utf8.encode ‹Int›).data.toList.map UInt8.toNat)
   rwa [Zl9]at this
  case b2s =>
   obtain⟨x,rfl,hh⟩:=WO h;replace h:=hh;clear hh;obtain⟨d,rfl,hx⟩:=hv.inv1;cases hx<;>simp only[reduceCtorEq]at h;case nilsl =>simp only[ZHu]at h;subst h;exact⟨True,_,rfl,trivial,.str []⟩
   case sl t n z rs τ row hr hn ht =>obtain⟨hb,hh⟩:=ZB h;replace h:=hh;clear hh;rw[Z0]at hb;subst hb;simp only[ZHI]at h;obtain⟨l,hl,rfl⟩:=h;obtain⟨e1,e2⟩:=hr.bytes hl;subst hn;refine⟨_,_,by simp only[ZHM,ZH2,qv,if_true]<;>rfl,e1,?_⟩;rw[<-e2];exact .str _
   case msl k b o n cap z hb =>obtain⟨hz,hh⟩:=ZB h;replace h:=hh;clear hh;rw[Z0]at hz;subst hz;obtain⟨cs,hg,hh⟩:=Zej h;replace h:=hh;clear hh;obtain⟨ds,ex,e0,e1⟩:=ZhQ hS hg hb;obtain⟨ab,hh⟩:=ZB h;replace h:=hh;clear hh;rw[Zag]at ab;split at h<;>simp only[reduceCtorEq,ZHI]at h;rename_i r hr;obtain⟨l,hl,rfl⟩:=h;exact ZqN e0 e1 ab hr hl
   case gsl k b o n cap z c hb hb2 hcap hl =>obtain⟨hz,hh⟩:=ZB h;replace h:=hh;clear hh;rw[Z0]at hz;subst hz;obtain⟨cs,hg,hh⟩:=Zej h;replace h:=hh;clear hh;obtain⟨ds,ex,e0,e1⟩:=ZhQ hS hg hb;obtain⟨ab,hh⟩:=ZB h;replace h:=hh;clear hh;rw[Zag]at ab;split at h<;>simp only[reduceCtorEq,ZHI]at h;rename_i r hr;obtain⟨l,hl,rfl⟩:=h;exact ZqN e0 e1 ab hr hl
 case faddr off =>obtain⟨x,rfl,hh⟩:=WO h;replace h:=hh;clear hh;obtain⟨d,rfl,hx⟩:=hv.inv1;cases hx<;>simp only[reduceCtorEq,ZHu]at h<;>subst h;exact⟨True,_,rfl,trivial,by constructor;assumption⟩;exact⟨True,_,rfl,trivial,by constructor;assumption⟩
 case fld1 off =>obtain⟨x,rfl,hh⟩:=WO h;replace h:=hh;clear hh;obtain⟨d,rfl,hx⟩:=hv.inv1;cases hx<;>simp only[reduceCtorEq]at h;rename_i cs ds hc;obtain⟨d,e1,e2⟩:=Zhg [] hc h;rw[ZH3]at e1;exact⟨True,d,by simp only[ZHM,ZH2,qv,e1,ZH4],trivial,e2⟩
 case fldN off n =>obtain⟨x,rfl,hh⟩:=WO h;replace h:=hh;clear hh;obtain⟨d,rfl,hx⟩:=hv.inv1;cases hx<;>simp only[reduceCtorEq]at h;rename_i cs ds hc;obtain⟨e1,e2⟩:=Zlp [] hc h;rw[ZH3]at e1 e2;exact⟨_,_,rfl,e1,e2⟩
 case iaddr z =>
  obtain⟨x,y,rfl,hh⟩:=ZdA h;replace h:=hh;clear hh;obtain⟨d,d',rfl,hx,hy⟩:=hv.inv2;cases hy<;>simp only[reduceCtorEq]at h;cases hx<;>simp only[reduceCtorEq]at h;case int.sl k i t n z' rs τ row hr hn ht =>obtain⟨hz,hh⟩:=ZB h;replace h:=hh;clear hh;rw[Z0]at hz;obtain⟨i0,i1,hh⟩:=ZbW h;replace h:=hh;clear hh;split at h<;>simp only[reduceCtorEq,ZHu]at h;rename_i cs ae;rw[Zk5]at ae;obtain⟨cs',e1,e2,_⟩:=hr.get ae;simp only[V.agg.injEq]at e1;subst e1;subst h;exact⟨_,_,by simp only[ZHM,ZH2,qv,hz,if_true]<;>rfl,ZHy i0 i1,.ep _ _ _ e2⟩
  case int.msl k i kb b o n cap z' hb =>obtain⟨hz,hh⟩:=ZB h;replace h:=hh;clear hh;rw[Z0]at hz;obtain⟨i0,i1,hh⟩:=ZbW h;replace h:=hh;clear hh;simp only[ZHu]at h;subst h;exact⟨_,_,by simp only[ZHM,ZH2,qv,hz,if_true]<;>rfl,ZHy i0 i1,.ptr _ _ _ hb⟩
  case int.gsl k i kb b o n cap z' c hb hb2 hcap hl =>obtain⟨hz,hh⟩:=ZB h;replace h:=hh;clear hh;rw[Z0]at hz;obtain⟨i0,i1,hh⟩:=ZbW h;replace h:=hh;clear hh;simp only[ZHu]at h;subst h;exact⟨_,_,by simp only[ZHM,ZH2,qv,hz,if_true]<;>rfl,ZHy i0 i1,.ptr _ _ _ hb⟩
 case iaddrA m z =>obtain⟨x,y,rfl,hh⟩:=ZdA h;replace h:=hh;clear hh;obtain⟨d,d',rfl,hx,hy⟩:=hv.inv2;cases hy<;>simp only[reduceCtorEq]at h;cases hx<;>simp only[reduceCtorEq]at h<;>obtain⟨i0,i1,h⟩:=ZbW h<;>simp only[ZHu]at h<;>subst h;exact⟨_,_,rfl,ZHy i0 i1,by constructor;assumption⟩;exact⟨_,_,rfl,ZHy i0 i1,by constructor;assumption⟩
 case idxA m z one =>obtain⟨x,y,rfl,hh⟩:=ZdA h;replace h:=hh;clear hh;obtain⟨d,d',rfl,hx,hy⟩:=hv.inv2;cases hy<;>simp only[reduceCtorEq]at h;cases hx<;>simp only[reduceCtorEq]at h;rename_i k i cs ds hc;obtain⟨i0,i1,hh⟩:=ZbW h;replace h:=hh;clear hh;cases one;simp only[ZH5,if_false]at h;obtain⟨e1,e2⟩:=Zlp [] hc h;rw[ZH3]at e1 e2;exact⟨_,_,rfl,⟨i0,i1,e1⟩,e2⟩;simp only[if_true]at h;obtain⟨d,e1,e2⟩:=Zhg [] hc h;rw[ZH3]at e1;exact⟨_,d,by simp only[ZHM,ZH2,qv,e1,ZH4]<;>rfl,ZHy i0 i1,e2⟩
 case sliceA m z lo hi mx =>
  cases vs with
  |nil=>simp at h
  |cons x r =>
  obtain⟨d,ad,rfl,hx,hr⟩:=hv.inv;cases hx<;>simp only[reduceCtorEq]at h;rename_i k b o hb;split at h<;>(try(simp at h;done));rename_i l hh mm u;obtain⟨hc,hh⟩:=ZB h;replace h:=hh;clear hh;simp only[ZHu]at h;subst h;simp only[ZHG,JI,Zag]at hc;have e:=Zbi hr u;simp only[ZHM,qv,e];refine⟨_,_,rfl,⟨hc.1.1.1.1,hc.1.1.1.2,hc.1.1.2,hc.1.2,hc.2⟩,?_⟩;by_cases he:mm.getD (m:Int)=l.getD 0;rw[if_pos he,if_pos (Q9.2 he)];exact .msl _ _ _ _ _ _ hb;rw[if_neg he,if_neg (λh=>he (Q9.1 h))];exact .msl _ _ _ _ _ _ hb
 case idxS =>
  obtain⟨x,y,rfl,hh⟩:=ZdA h;replace h:=hh;clear hh;obtain⟨d,d',rfl,hx,hy⟩:=hv.inv2;cases hy<;>simp only[reduceCtorEq]at h;cases hx<;>simp only[reduceCtorEq]at h;rename_i k i l;obtain⟨i0,i1,hh⟩:=ZbW h;replace h:=hh;clear hh;simp only[ZHu]at h;subst h;refine⟨_,_,rfl,⟨i0,by simpa using i1⟩,?_⟩;have:(((l.map UInt8.ofNat).getD i.toNat 0).toNat:Int)=Int.ofNat (l.getD i.toNat 0 % 256):=by simp only[ZHL,List.getElem?_map];cases l[i.toNat]?<;>simp
  rw[this];exact .int _ _
 case lenS =>obtain⟨x,rfl,hh⟩:=WO h;replace h:=hh;clear hh;obtain⟨d,rfl,hx⟩:=hv.inv1;cases hx<;>simp only[reduceCtorEq,ZHu]at h;subst h;refine⟨True,_,rfl,trivial,?_⟩;rw[ZHS];exact .int _ _
 case lenL =>obtain⟨x,rfl,hh⟩:=WO h;replace h:=hh;clear hh;obtain⟨d,rfl,hx⟩:=hv.inv1;cases hx<;>simp only[reduceCtorEq,ZHu]at h<;>subst h<;>exact⟨True,_,rfl,trivial,.int _ _⟩
 case lenA n =>obtain⟨x,rfl,hh⟩:=WO h;replace h:=hh;clear hh;obtain⟨d,rfl,hx⟩:=hv.inv1;obtain⟨hb,hh⟩:=ZB h;replace h:=hh;clear hh;rw[Zag]at hb;simp only[ZHu]at h;subst h;exact⟨_,_,rfl,KR hb,.int _ _⟩
 case ext k =>obtain⟨x,rfl,hh⟩:=WO h;replace h:=hh;clear hh;obtain⟨d,rfl,hx⟩:=hv.inv1;cases hx<;>simp only[reduceCtorEq]at h;rename_i cs ds hc;obtain⟨d,e1,e2⟩:=Zhg [] hc h;rw[ZH3]at e1;exact⟨True,d,by simp only[ZHM,ZH2,qv,e1,ZH4],trivial,e2⟩
 case build zero parts =>cases hz:ofDs zero<;>simp only[hz,reduceCtorEq,ZHI]at h;rename_i z;obtain⟨r,hr,rfl⟩:=h;obtain⟨rd,e1,e2⟩:=ZsX (ofDs_ok hz) hv hr;exact⟨True,_,by simp only[qv,ZaJ,e1,ZH4]<;>rfl,trivial,.agg _ _ e2⟩
 case mkfn f k =>cases f<;>simp only[reduceCtorEq,ZHu]at h;subst h;exact⟨True,_,by simp only[qv,ZaJ,ZH4]<;>rfl,trivial,.fn _ _ _ _ _ (hv.take k) (hv.drop k)⟩
 case mkif t =>obtain⟨x,rfl,hh⟩:=WO h;replace h:=hh;clear hh;obtain⟨d,rfl,hx⟩:=hv.inv1;simp only[ZHu]at h;subst h;exact⟨True,_,rfl,trivial,.iface _ _ _ hx⟩
 case sliceS lo hi =>
  cases vs with
  |nil=>simp at h
  |cons x r =>
  obtain⟨d,ad,rfl,hx,hr⟩:=hv.inv;cases hx<;>simp only[reduceCtorEq]at h;rename_i l;split at h<;>(try(simp at h;done));rename_i a b c u;obtain⟨hc,hh⟩:=ZB h;replace h:=hh;clear hh;simp only[ZHu]at h;subst h;simp only[ZHG,JI]at hc;have e:=Zbi hr u;simp only[ZHM,qv,e,ZHS];refine⟨_,_,rfl,⟨hc.1.1,hc.1.2,hc.2⟩,?_⟩;rw[<-List.map_drop,<-List.map_take];exact .str _
 case slice z lo hi mx =>
  cases vs with
  |nil=>simp at h
  |cons x r =>
  obtain⟨d,ad,rfl,hx,hr⟩:=hv.inv;simp only at h;split at h<;>(try(simp at h;done));rename_i l hh m u;have e:=Zbi hr u;obtain⟨side,r',e1,e2,e3⟩:=Zyy h1 hx h;exact⟨side,r',by simp only[ZHM,qv,e,e1,ZH4],e2,e3⟩
 case min =>obtain⟨x,y,rfl,hh⟩:=ZdA h;replace h:=hh;clear hh;obtain⟨d,d',rfl,hx,hy⟩:=hv.inv2;cases hx<;>simp only[reduceCtorEq]at h;cases hy<;>simp only[reduceCtorEq]at h;obtain⟨hk,hh⟩:=ZB h;replace h:=hh;clear hh;obtain rfl:=Zfa hk;simp only[ZHu]at h;subst h;refine⟨True,_,by simp only[ZHM,ZH2,qv,if_true]<;>rfl,trivial,?_⟩;rw[ZDC];exact .int _ _
 case max =>obtain⟨x,y,rfl,hh⟩:=ZdA h;replace h:=hh;clear hh;obtain⟨d,d',rfl,hx,hy⟩:=hv.inv2;cases hx<;>simp only[reduceCtorEq]at h;cases hy<;>simp only[reduceCtorEq]at h;obtain⟨hk,hh⟩:=ZB h;replace h:=hh;clear hh;obtain rfl:=Zfa hk;simp only[ZHu]at h;subst h;refine⟨True,_,by simp only[ZHM,ZH2,qv,if_true]<;>rfl,trivial,?_⟩;rw[ZDB];exact .int _ _
 case tassert t ok zero =>cases ok<;>simp only at h;obtain⟨x,rfl,hh⟩:=WO h;replace h:=hh;clear hh;obtain⟨d,rfl,hx⟩:=hv.inv1;cases hx<;>simp only[reduceCtorEq]at h;obtain⟨ht,hh⟩:=ZB h;replace h:=hh;clear hh;rw[Z0]at ht;simp only[ZHu]at h;subst h;exact⟨True,_,by simp only[ZHM,ZH2,qv,ht,if_true]<;>rfl,trivial,by assumption⟩;obtain⟨x,rfl,hh⟩:=WO h;replace h:=hh;clear hh;obtain⟨d,rfl,hx⟩:=hv.inv1;cases hx<;>simp only[reduceCtorEq]at h;obtain⟨ht,hh⟩:=ZB h;replace h:=hh;clear hh;rw[Z0]at ht;simp only[ZHu]at h;subst h;exact⟨True,_,by simp only[ZHM,ZH2,qv,ht,if_true]<;>rfl,trivial,.tup _ _ (.cons _ _ _ _ ‹_› (.one (.bool _)))⟩;simp only[ZHI]at h;obtain⟨z,hz,rfl⟩:=h;exact⟨True,_,rfl,trivial,.tup _ _ (.cons _ _ _ _ (Zhk hz) (.one (.bool _)))⟩
 case lookup kp zero ok =>cases hz:ofD zero<;>simp only[hz,reduceCtorEq]at h;rename_i z;obtain⟨x,y,rfl,hh⟩:=ZdA h;replace h:=hh;clear hh;obtain⟨d,d',rfl,hx,hy⟩:=hv.inv2;obtain⟨hk,hh⟩:=ZB h;replace h:=hh;clear hh;have af:=Zf1 hy hk;cases hx<;>simp only[reduceCtorEq]at h;rename_i k b hb;split at h<;>simp only[reduceCtorEq,ZHI]at h;rename_i es ac;obtain⟨r,hr,rfl⟩:=h;obtain⟨ag,e1,e2⟩:=hS.mapO ac hb;obtain⟨r',e3,e4⟩:=Zs0 hy e2 hr;exact⟨_,_,by simp only[ZHM,ZH2,qv,KT,e1,e3,ZH4]<;>rfl,af,Ztd (Zhk hz) e4⟩;simp only[ZHu]at h;subst h;exact⟨_,_,rfl,af,Ztd (r':=nO) (Zhk hz) trivial⟩
 case lenM =>
  obtain⟨x,rfl,hh⟩:=WO h;replace h:=hh;clear hh;obtain⟨d,rfl,hx⟩:=hv.inv1;cases hx<;>simp only[reduceCtorEq]at h;·rename_i k b hb;split at h<;>(try(simp at h;done));rename_i es ac;obtain⟨hl,hh⟩:=ZB h;replace h:=hh;clear hh;rw[Zag]at hl;simp only[ZHu]at h;subst h;obtain⟨ag,e1,e2⟩:=hS.mapO ac hb;refine⟨_,_,by simp only[ZHM,ZH2,qv,KT,e1]<;>rfl,by rw[<-e2.len];exact hl,?_⟩;rw[<-e2.len];exact .int _ _
  simp only[ZHu]at h;subst h;exact⟨True,_,rfl,trivial,.int _ _⟩
end
section
variable {C:Px} {J:Nm} {U:S} {s:St} {L:Loc} {H:T W} {ρd:Env} {nx:Nat}
def ZyL:∀(l:List Nat) (k),VRr J 1 (u8V (l.drop k)) (λi=>[D.int .u8 (((l.map UInt8.ofNat).getD (k+i) 0).toNat:Int)])
 |l,k=>by
  have key:∀(m:List Nat) (k:Nat),l.drop k=m->VRr J 1 (u8V m) (λi=>[D.int .u8 (((l.map UInt8.ofNat).getD (k+i) 0).toNat:Int)]):=by
   intro m;induction m with
   |nil=>intro k _;exact .nil _ _
   |cons a m ih =>
    intro k t;have u:l[k]?=sO a:=by have:=congrArg (λx=>x[0]?) t;simpa using this
    have h2:l.drop (k+1)=m:=by have:=congrArg List.tail t;simpa using this
    refine .cons 1 _ _ _ ?_ rfl ((ih (k+1) h2).congr λi _=>by rw[show k+1+i=k+(i+1) by omega]);have:(((l.map UInt8.ofNat).getD (k+0) 0).toNat:Int)=Int.ofNat (a % 256):=by simp[u]
    rw[this];exact .one (.int _ _)
  exact key _ k rfl
def Zvc{z u}(t:VRs J z u){i}:∀{is:List Nat} {vs ds},VRs J vs ds->VRs J (ZgK z (is.zip vs) i) (ZR u (is.zip ds) i)
 | [],vs,ds,h=>by simpa[ZgK,ZR]using t
 |k::is,vs,ds,h=>by
  cases vs with
  |nil=>obtain rfl:=h.inv0;simpa[ZgK,ZR]using t
  |cons v vs =>
   obtain⟨d,ds',rfl,h1,h2⟩:=h.inv;simp[ZgK,ZR];by_cases hk:k=i;simp_all;cases h1<;>first|exact .one (by constructor<;>assumption)|assumption
   simp_all;exact Zvc t h2
def ZkN{v}{d}(h:VR J v d):VRs J (ZfD v) (cellsOf d):=by
 cases h<;>first|exact .one (by constructor<;>assumption)|assumption
def Zng{v d}(h:VR J v d)(i:ZoX v=true):W7 d=true:=by
 cases h<;>first|rfl|cases i
def ZtX{v d}(h:VR J v d)(i:Zw0 v=true):QV d=true:=by
 cases h<;>first|rfl|cases i
def ZjZ{n}:∀{vs ds},VRs J vs ds->Zfk n vs=true->K9 n ds=true
 | [],ds,h,hp=>by obtain rfl:=h.inv0;rfl
 |v::vs,ds,h,hp=>by obtain⟨d,ds',rfl,i,t⟩:=h.inv;simp[Zfk]at hp;simp[K9];exact⟨⟨Zng i hp.1.1,by rw[<-(ZkN i).len];exact hp.1.2⟩,ZjZ t hp.2⟩
def Ztc{n z}(t:I z=n){i}:∀{is:List Nat} {vs},Zfk n vs=true->(ZgK z (is.zip vs) i).length=n
 | [],vs,_=>by simpa[ZgK]using t
 |k::is,[],_=>by simpa[ZgK]using t
 |k::is,v::vs,hp=>by simp[Zfk]at hp;simp[ZgK];split;exact hp.1.2;exact Ztc t hp.2
def ZmU{n z zd}(hz:VRs J z zd)(t:I z=n){is:List Nat}{vs ds}(hv:VRs J vs ds)(u:Zfk n vs=true):∀(len i),VRr J n (Zk8 z (is.zip vs) len i) (λj=>ZR zd (is.zip ds) (i+j))/\(Zk8 z (is.zip vs) len i).length=len
 |0,i=>⟨.nil _ _,rfl⟩
 |len+1,i=>by obtain⟨h1,h2⟩:=ZmU hz t hv u len (i+1);refine⟨.cons _ _ _ _ (Zvc hz hv) (Ztc t u) (h1.congr λj _=>by rw[show i+1+j=i+(j+1) by omega]),by simp[Zk8,h2]⟩
def ZqP(hS:Sim C J U s)(h1:J 1=sO .full)(hρ:Z5 J L H ρd){dst g}(hg:Zk ρd g=sO true){k r}(hk:YB k=true){db}(h:(opF false db k).run H U nx=sO r):
  r.U=U/\r.nx=nx/\∃side e,side/\ZC ⟨dst,g,k⟩ ρd L s=.ok side (Zv ρd dst e) L s/\WR J L (.v r.v) e:=by
 have fin:∀{side:Prop} {d:D} {v:V},side->VR J v d->ZC ⟨dst,g,k⟩ ρd L s=(match g with
   |none=>.ok side (Zv ρd dst (.d d)) L s
   |some _=>.ok (true=true->side) (Zv ρd dst (.when true (.d d))) L s)->∃side e,side/\ZC ⟨dst,g,k⟩ ρd L s=.ok side (Zv ρd dst e) L s/\WR J L (.v v) e:=by
  intro side d v hs hv u;cases g with
  |none=>exact⟨side,.d d,hs,u,d,hv,.inl rfl⟩
  |some x=>exact⟨_,.when true (.d d),λ_=>hs,u,d,hv,.inr rfl⟩
 cases k<;>simp only[YB,ZH5]at hk;case q q xs =>simp only[opF]at h;split at h<;>(try(simp at h;done));rename_i vs t;split at h<;>simp only[ZHu,reduceCtorEq]at h;rename_i v hv;subst h;obtain⟨p,ds,a1,a2,a3⟩:=ZaE hρ t;obtain⟨side,d,b1,b2,b3⟩:=Zww (L:=L) hS h1 a3 hv;refine⟨rfl,rfl,fin (side:=p/\side) ⟨a2,b2⟩ b3 ?_⟩;unfold ZC;simp only[hg,a1,b1];cases g<;>rfl
 case pick c a b =>
  simp only[opF]at h;unfold mp2 at h;split at h<;>(try(simp at h;done));rename_i cv hc;obtain⟨pc,dc,c1,c2,c3⟩:=Kw hρ hc;cases c3<;>simp only[reduceCtorEq]at h;rename_i cb;have ab:∀{x y:Opd} {yb:Bool},(ZjW x).run H=true->(YS y).run H=sO (.bool yb)->(∃p z,Zy ρd false x=sO (p,.d (.bool z))/\p)/\∃p,Zy ρd true y=sO (p,.d (.bool yb))/\p:=by intro x y yb hx hy;obtain⟨p,d,e1,e2,e3⟩:=Kw hρ hy;cases e3;exact⟨Zya hρ hx rfl,p,e1,e2⟩
  cases cb;·simp only at h;obtain⟨hb,h⟩:=ZB h;split at h<;>(try(simp at h;done));rename_i yv hy;split at h<;>cases h;obtain⟨⟨p1,z,e1,e2⟩,p2,e3,e4⟩:=ab hb hy;refine⟨rfl,rfl,fin (side:=pc/\p1/\p2) ⟨c2,e2,e4⟩ (.bool _) ?_⟩;unfold ZC Zdx;simp[hg,c1,e1,e3];cases g<;>rfl
  simp only at h;obtain⟨hb,h⟩:=ZB h;split at h<;>(try(simp at h;done));rename_i yv hy;split at h<;>cases h;obtain⟨⟨p1,z,e1,e2⟩,p2,e3,e4⟩:=ab hb hy;refine⟨rfl,rfl,fin (side:=pc/\p2/\p1) ⟨c2,e4,e2⟩ (.bool _) ?_⟩;unfold ZC Zdx;simp[hg,c1,e1,e3];cases g<;>rfl
 case bsl len n z is xs =>simp only[opF]at h;cases hz:ofDs z<;>simp only[hz,reduceCtorEq]at h;rename_i zv;split at h<;>(try(simp at h;done));rename_i vs t;obtain⟨hb,h⟩:=ZB h;cases h;simp only[ZHG,Z0]at hb;obtain⟨p,ds,a1,a2,a3⟩:=ZaE hρ t;obtain⟨l1,l2⟩:=ZmU (is:=is) (ofDs_ok hz) hb.2 a3 hb.1 len 0;refine⟨rfl,rfl,fin (side:=p/\K9 n ds=true) ⟨a2,ZjZ a3 hb.1⟩ (.sl 1 len n _ .full (ZR z (is.zip ds)) (l1.congr λi _=>by rw[Nat.zero_add]) l2 (.inr h1)) ?_⟩;unfold ZC;simp only[hg,a1,ZaJ];cases g<;>rfl
 case s2b x =>simp only[opF]at h;unfold mp2 at h;split at h<;>(try(simp at h;done));rename_i xv hx;obtain⟨p,d,a1,a2,a3⟩:=Kw hρ hx;cases a3<;>simp only[reduceCtorEq,ZHu]at h;rename_i l;subst h;refine⟨rfl,rfl,fin (side:=p) a2 (.sl 0 (I l) 1 (u8V l) .none _ (ZyL l 0) (by simp[u8V]) (.inl rfl)) ?_⟩;unfold ZC;simp only[hg,a1,ZHS,Nat.zero_add];cases g<;>rfl
end
def Y0(C:Px)(J:Nm)(r:R3)(e:E)(s2:St):Prop:=∃J',J.Sub J'/\Yu J' r.nx/\Sim C J' r.U s2/\∃d,VR J' r.v d/\e=.d d
def OR.cells0{C J k vs ds}(h:VRs J vs ds):OR C J k (.cells vs) (.cells ds):=by
 simpa using OR.cells (C:=C) (k0:=k) vs ds [] h
def Zuo{cs i o}(h:o+I i<=I cs):(Zx cs o i).length=I cs:=by
 simp[Zx];omega
def JE{s b cs}(h:s b=sO (.cells cs)):Z1 s b=sO cs:=by simp[Z1,h]
section
variable {C:Px} {J:Nm} {U:S} {s:St} {L:Loc} {H:T W} {ρd:Env} {nx:Nat}
def WA{x f r}(h:mp2 x f=sO r):∃v,x=sO v/\f v=sO r:=by
 cases x with
 |none=>cases h
 |some v=>exact⟨v,rfl,h⟩
def ZtW{x v r}(h:up x v nx=sO r):∃U',x=sO U'/\r=⟨v,U',nx⟩:=by
 cases x with
 |none=>cases h
 |some U'=>simp[up]at h;exact⟨U',rfl,h.symm⟩
def Y0.new(hS:Sim C J U s)(hN:Yu J nx){b}(hb:s b=nO){o d}(ho:OR C (J.put nx (.tip b)) nx o d){v e}(hv:VR (J.put nx (.tip b)) v e)(hr:ZbE o=false:=by rfl):Y0 C J ⟨v,U.set (sO o) nx,nx+1⟩ (.d e) (s.upd b d) :=
 ⟨_,Nm.put_sub (hN.free nx (ZHK _)) _,hN.put _,hS.new (hN.free nx (ZHK _)) hb ho hr,e,hv,rfl⟩
def Y0.turn(hS:Sim C J U s)(hN:Yu J nx){k b o o' d}(h:U.get k=sO o)(hb:J k=sO (.tip b))(ho:OR C J k o' d){v e}(hv:VR J v e)(hr:ZbE o=false:=by rfl)(hr':ZbE o'=false:=by rfl):Y0 C J ⟨v,U.set (sO o') k,nx⟩ (.d e) (s.upd b d) :=
 ⟨J,Nm.Sub.refl _,hN,hS.upd h hb ho hr hr',e,hv,rfl⟩
def ZkJ(hS:Sim C J U s){a n xs U'}(h:Zhx U a n xs=sO U'){da}(ha:VR J a da){ys}(hx:VRs J xs ys):
  ∃b off cs,da=.ptr b off/\Z1 s b=sO cs/\off+I ys<=I cs/\I ys=n/\Sim C J U' (s.upd b (.cells (Zx cs off ys))):=by
 cases ha<;>simp only[Zhx,reduceCtorEq]at h;rename_i k b o hb;split at h<;>(try(simp at h;done));all_goals
  rename_i cs i;split at h<;>simp at h;rename_i cs' ab;subst h;obtain⟨ds,ex,e1,e2⟩:=hS.cells (vs:=cs) (by rw[i];rfl) hb;obtain⟨f0,f1,f2⟩:=e2.over hx ab;have hl:I ys=n:=by rw[<-hx.len,f0]
  have t:Zx (ds++ex) o ys=Zx ds o ys++ex:=Zmi ω;refine⟨b,o,_,rfl,JE e1,by simp;omega,hl,?_⟩;rw[t]
 exact hS.upd i hb (.cells _ _ _ f2);refine hS.upd i hb (.buf _ _ _ f2 ?_);obtain⟨b',d,g1,g2,g3⟩:=hS.get i (λn=>by simp);rw[hb]at g1;cases g1;rw[e1]at g2;cases g2;generalize u:(QL.cells (ds++ex))=dd at g3;cases g3 with
 |buf _ ds2 ex2 _ hc =>
  simp only[QL.cells.injEq]at u;rw[hc];have:(Zx ds o ys++ex).length=(ds2++ex2).length:=by rw[<-u,ZHF,ZHF,Zuo ω]
  rw[this]
variable {P:Program} {F:Fr P} {kp:Option (List Nat)} {dk:List WW} {os:List DOp} {H':Env} {L':Loc}
def Wy(hρ:Z5 J L H ρd){x v}(h:(YS x).run H=sO v)(i:Zz ρd H' (ZQ x)):∃p d,Zy H' true x=sO (p,.d d)/\p/\VR J v d:=by
 obtain⟨p,d,t,u,h3⟩:=Kw hρ h;exact⟨p,d,by rw[ZO i];exact t,u,h3⟩
def Zxz(hS:Sim C J U s)(hN:Yu J nx){dst z mu r}(h:(opF mu dst.isSome (.alloc z)).run H U nx=sO r)(hc:∀e s2,Y0 C J r e s2->DO F kp dk os (Zv H' dst e) L' s2):DO F kp dk (⟨dst,nO,.alloc z⟩::os) H' L' s:=by
 simp[opF]at h;cases u:ofDs z<;>simp[u]at h;obtain⟨hd,i⟩:=ZB h;replace h:=i;clear i;cases h;cases dst with
 |none=>grind
 |some t=>exact Zw6 rfl rfl rfl λb hb=>hc (.d (.ptr b 0)) _ (Y0.new hS hN hb (OR.cells0 (ofDs_ok u)) (.ptr _ _ _ Nm.put_same))
def ZBi(hS:Sim C J U s)(hN:Yu J nx)(hρ:Z5 J L H ρd){dst x mu r}(h:(opF mu dst.isSome (.box x)).run H U nx=sO r)(u:Zz ρd H' (ZQ x))(hc:∀e s2,Y0 C J r e s2->DO F kp dk os (Zv H' dst e) L' s2):DO F kp dk (⟨dst,nO,.box x⟩::os) H' L' s:=by
 obtain⟨hd,i⟩:=ZB h;replace h:=i;clear i;obtain⟨v,hv,i⟩:=WA h;replace h:=i;clear i;obtain⟨hp,i⟩:=ZB h;replace h:=i;clear i;cases h;obtain⟨p,d,a1,a2,a3⟩:=Wy hρ hv u;cases dst with
 |none=>grind
 |some t=>exact ZAL rfl rfl rfl a1 a2 (Zng a3 hp) λb hb=>hc (.d (.ptr b 0)) _ (Y0.new hS hN hb (OR.cells0 ((ZkN a3).mono (Nm.put_sub (hN.free nx (ZHK _)) _))) (.ptr _ _ _ Nm.put_same))
def Zv5(hS:Sim C J U s)(hN:Yu J nx)(hρ:Z5 J L H ρd){dst a v mu r}(h:(opF mu dst.isSome (.store1 a v)).run H U nx=sO r)(hag:Zz ρd H' (ZQ a++ZQ v))(hc:∀e s2,Y0 C J r e s2->DO F kp dk os (Zv H' dst e) L' s2):DO F kp dk (⟨dst,nO,.store1 a v⟩::os) H' L' s:=by
 obtain⟨hd,hh⟩:=ZB h;replace h:=hh;clear hh;obtain⟨av,ha,hh⟩:=WA h;replace h:=hh;clear hh;obtain⟨xv,hx,hh⟩:=WA h;replace h:=hh;clear hh;obtain⟨ab,hh⟩:=ZB h;replace h:=hh;clear hh;obtain⟨U',ac,rfl⟩:=ZtW h;obtain⟨p,da,a1,a2,a3⟩:=Wy hρ ha (λt ht=>hag t (by simp[ht]));obtain⟨q,dx,b1,b2,b3⟩:=Wy hρ hx (λt ht=>hag t (by simp[ht]));have u:=ZtX b3 ab;have i:cellsOf dx=[dx]:=by cases dx<;>first|rfl|cases u
 obtain⟨b,off,cs,rfl,c1,c2,c3,c4⟩:=ZkJ hS ac a3 (.one b3);cases dst with
 |some t=>grind
 |none =>refine ZfO rfl (.inl ⟨rfl,trivial⟩) a1 b1 a2 b2 c1 (λ_=>u) (λn hn=>by grind) (by rw[i];exact c2) rfl ?_;rw[i];exact hc (.d .nilsl) _ ⟨J,Nm.Sub.refl _,hN,c4,.nilsl,.nilsl,rfl⟩
def Zv6(hS:Sim C J U s)(hN:Yu J nx)(hρ:Z5 J L H ρd){dst a v n mu r}(h:(opF mu dst.isSome (.storeN n a v)).run H U nx=sO r)(hag:Zz ρd H' (ZQ a++ZQ v))(hc:∀e s2,Y0 C J r e s2->DO F kp dk os (Zv H' dst e) L' s2):DO F kp dk (⟨dst,nO,.storeN n a v⟩::os) H' L' s:=by
 obtain⟨hd,hh⟩:=ZB h;replace h:=hh;clear hh;obtain⟨av,ha,hh⟩:=WA h;replace h:=hh;clear hh;obtain⟨xv,hx,hh⟩:=WA h;replace h:=hh;clear hh;obtain⟨p,da,a1,a2,a3⟩:=Wy hρ ha (λt ht=>hag t (by simp[ht]));obtain⟨q,dx,b1,b2,b3⟩:=Wy hρ hx (λt ht=>hag t (by simp[ht]));cases b3<;>simp at h;rename_i xs ys u;obtain⟨U',i,rfl⟩:=ZtW h;obtain⟨b,off,cs,rfl,c1,c2,c3,c4⟩:=ZkJ hS i a3 u;cases dst with
 |some t=>grind
 |none =>refine ZfO rfl (.inr ⟨n,rfl⟩) a1 b1 a2 b2 c1 (λhn=>by grind) (λm hm=>?_) c2 rfl ?_;simp only[K.storeN.injEq]at hm;exact⟨⟨_,rfl⟩,by rw[<-hm.1];exact c3⟩;exact hc (.d .nilsl) _ ⟨J,Nm.Sub.refl _,hN,c4,.nilsl,.nilsl,rfl⟩
def ZxC(hS:Sim C J U s)(u:Yu J nx){dst mu r}(h:(opF mu dst.isSome .mkmap).run H U nx=sO r)(hc:∀e s2,Y0 C J r e s2->DO F kp dk os (Zv H' dst e) L' s2):DO F kp dk (⟨dst,nO,.mkmap⟩::os) H' L' s:=by
 obtain⟨hd,i⟩:=ZB h;replace h:=i;clear i;cases h;cases dst with
 |none=>grind
 |some t=>exact Zr2 rfl rfl rfl λb hb=>hc (.d (.map b)) _ (Y0.new hS u hb (.map [] [] .nil) (.map _ _ Nm.put_same))
def ZkR{z}{zd}(hz:VRs J z zd):∀n,VRs J (ZhF z n) (W0 zd n)
 |0=>by simp[ZhF];exact .nil
 |n+1=>by exact hz.append (ZkR hz n)
def Zud(hS:Sim C J U s)(hN:Yu J nx)(hρ:Z5 J L H ρd){dst e n bytes z l hx mu r}(h:(opF mu dst.isSome (.mkslice e n bytes z l hx)).run H U nx=sO r)(hag:Zz ρd H' (ZQ l++ZQ hx))(hc:∀e s2,Y0 C J r e s2->DO F kp dk os (Zv H' dst e) L' s2):DO F kp dk (⟨dst,nO,.mkslice e n bytes z l hx⟩::os) H' L' s:=by
 simp[opF]at h;cases hz:ofDs z<;>simp[hz]at h;obtain⟨hd,u⟩:=ZB h;replace h:=u;clear u;obtain⟨lv,hl,u⟩:=WA h;replace h:=u;clear u;obtain⟨hv,u,u⟩:=WA h;replace h:=u;clear u;obtain⟨p,dl,a1,a2,a3⟩:=Wy hρ hl (λt ht=>hag t (by simp[ht]));obtain⟨q,dh,b1,b2,b3⟩:=Wy hρ u (λt ht=>hag t (by simp[ht]));cases a3<;>simp at h;cases b3<;>simp at h;obtain⟨hb,u⟩:=ZB h;replace h:=u;clear u;cases h;simp[JI]at hb;cases dst with
 |none=>grind
 |some t =>refine Znl rfl rfl rfl a1 b1 a2 b2 hb.1.1.1 hb.1.1.2 hb.1.2 hb.2 λb i=>hc (.d (.msl b 0 _ _ n)) _ (Y0.new hS hN i (OR.cells0 (ZkR (ofDs_ok hz) _)) (.msl _ _ _ _ _ _ Nm.put_same))
def Zv4(hS:Sim C J U s)(hN:Yu J nx)(hρ:Z5 J L H ρd){dst mk m k v mu r}(h:(opF mu dst.isSome (.mapupd mk m k v)).run H U nx=sO r)(hag:Zz ρd H' (ZQ m++ZQ k++ZQ v))(hc:∀e s2,Y0 C J r e s2->DO F kp dk os (Zv H' dst e) L' s2):DO F kp dk (⟨dst,nO,.mapupd mk m k v⟩::os) H' L' s:=by
 simp only[opF]at h;obtain⟨hd,hh⟩:=ZB h;replace h:=hh;clear hh;obtain⟨mv,hm,hh⟩:=WA h;replace h:=hh;clear hh;obtain⟨kv,hk,hh⟩:=WA h;replace h:=hh;clear hh;obtain⟨vv,hv,hh⟩:=WA h;replace h:=hh;clear hh;obtain⟨p,dm,a1,a2,a3⟩:=Wy hρ hm (λt ht=>hag t (by simp[ht]));obtain⟨q,dk',b1,b2,b3⟩:=Wy hρ hk (λt ht=>hag t (by simp[ht]));obtain⟨q',dv,c1,c2,c3⟩:=Wy hρ hv (λt ht=>hag t (by simp[ht]));cases a3<;>simp only[reduceCtorEq]at h;rename_i kb b hb;split at h<;>(try(simp at h;done));rename_i es i;obtain⟨ab,hh⟩:=ZB h;replace h:=hh;clear hh;split at h<;>simp only[ZHu,reduceCtorEq]at h;rename_i es' u;subst h;obtain⟨ds,e1,e2⟩:=hS.map i hb;obtain⟨ds',e3,e4⟩:=Zp3 b3 c3 e2 u;cases dst with
 |some t=>simp at hd
 |none=>exact Zqe rfl rfl rfl a1 b1 c1 a2 b2 c2 (by simp only[KT,e1]) e3 (Zf1 b3 ab) (hc (.d .nilsl) _ (Y0.turn hS hN i hb (.map _ _ e4) .nilsl))
def Zv2(hS:Sim C J U s)(hN:Yu J nx)(hρ:Z5 J L H ρd){dst mk m k mu r}(h:(opF mu dst.isSome (.delete mk m k)).run H U nx=sO r)(hag:Zz ρd H' (ZQ m++ZQ k))(hc:∀e s2,Y0 C J r e s2->DO F kp dk os (Zv H' dst e) L' s2):DO F kp dk (⟨dst,nO,.delete mk m k⟩::os) H' L' s:=by
 obtain⟨hd,hh⟩:=ZB h;replace h:=hh;clear hh;obtain⟨mv,hm,hh⟩:=WA h;replace h:=hh;clear hh;obtain⟨kv,hk,hh⟩:=WA h;replace h:=hh;clear hh;obtain⟨p,dm,a1,a2,a3⟩:=Wy hρ hm (λt ht=>hag t (by simp[ht]));obtain⟨q,dk',b1,b2,b3⟩:=Wy hρ hk (λt ht=>hag t (by simp[ht]));cases a3<;>simp only[reduceCtorEq]at h;rename_i kb b hb;split at h<;>(try(simp at h;done));rename_i es i;obtain⟨ab,hh⟩:=ZB h;replace h:=hh;clear hh;split at h<;>simp only[ZHu,reduceCtorEq]at h;rename_i es' u;subst h;obtain⟨ds,e1,e2⟩:=hS.map i hb;obtain⟨ds',e3,e4⟩:=ZuW b3 e2 u;cases dst with
 |some t=>simp at hd
 |none=>exact Zqc rfl rfl rfl a1 b1 a2 b2 (by simp only[KT,e1]) e3 (Zf1 b3 ab) (hc (.d .nilsl) _ (Y0.turn hS hN i hb (.map _ _ e4) .nilsl))
def Zv3(hS:Sim C J U s)(hN:Yu J nx)(hρ:Z5 J L H ρd){dst mk z m k mu r}(h:(opF mu dst.isSome (.mapent mk z m k)).run H U nx=sO r)(hag:Zz ρd H' (ZQ m++ZQ k))(hc:∀e s2,Y0 C J r e s2->DO F kp dk os (Zv H' dst e) L' s2):DO F kp dk (⟨dst,nO,.mapent mk z m k⟩::os) H' L' s:=by
 simp[opF]at h;cases hz:ofD z<;>simp[hz]at h;obtain⟨hd,hh⟩:=ZB h;replace h:=hh;clear hh;obtain⟨mv,hm,hh⟩:=WA h;replace h:=hh;clear hh;obtain⟨kv,hk,hh⟩:=WA h;replace h:=hh;clear hh;obtain⟨p,dm,a1,a2,a3⟩:=Wy hρ hm (λt ht=>hag t (by simp[ht]));obtain⟨q,dk',b1,b2,b3⟩:=Wy hρ hk (λt ht=>hag t (by simp[ht]));cases a3<;>simp at h;rename_i kb b hb;split at h<;>(try(grind;done));rename_i es u;obtain⟨ab,hh⟩:=ZB h;replace h:=hh;clear hh;split at h<;>simp at h;rename_i v hv;subst h;obtain⟨ds,e1,e2⟩:=hS.map u hb;obtain⟨d,e3,e4⟩:=Zu0 b3 (Zhk hz) e2 hv;cases dst with
 |none=>grind
 |some t =>refine Zqd rfl rfl rfl a1 b1 a2 b2 (by simp[KT,e1]) e3 (Zf1 b3 ab) λn=>hc (.d (.tup [d,.stamp n])) _ ?_;have i:=Nm.put_sub (hN.free nx (ZHK _)) (.tip n);exact⟨_,i,hN.put _,(hS.mono i).upd u (i _ _ hb) (.mapE _ _ _ _ _ _ _ (e2.imp λ_ _ m=>m.mono i) (b3.mono i) Nm.put_same),_,.tup _ _ (.cons _ _ _ _ (e4.mono i) (.one (.stamp _ _ Nm.put_same))),rfl⟩
def ZxB(hS:Sim C J U s)(hN:Yu J nx)(hρ:Z5 J L H ρd){dst m st v mu r}(h:(opF mu dst.isSome (.entst m st v)).run H U nx=sO r)(hag:Zz ρd H' (ZQ m++ZQ st++ZQ v))(hc:∀e s2,Y0 C J r e s2->DO F kp dk os (Zv H' dst e) L' s2):DO F kp dk (⟨dst,nO,.entst m st v⟩::os) H' L' s:=by
 simp only[opF]at h;obtain⟨hd,hh⟩:=ZB h;replace h:=hh;clear hh;obtain⟨mv,hm,hh⟩:=WA h;replace h:=hh;clear hh;obtain⟨kv,hk,hh⟩:=WA h;replace h:=hh;clear hh;obtain⟨vv,hv,hh⟩:=WA h;replace h:=hh;clear hh;obtain⟨p,dm,a1,a2,a3⟩:=Wy hρ hm (λt ht=>hag t (by simp[ht]));obtain⟨q,dk',b1,b2,b3⟩:=Wy hρ hk (λt ht=>hag t (by simp[ht]));obtain⟨q',dv,c1,c2,c3⟩:=Wy hρ hv (λt ht=>hag t (by simp[ht]));cases a3<;>simp only[reduceCtorEq]at h;rename_i kb b hb;cases b3<;>simp only[reduceCtorEq]at h;rename_i kn n hn;split at h<;>(try(simp at h;done));rename_i mk es key n' i;obtain⟨ab,hh⟩:=ZB h;replace h:=hh;clear hh;rw[Z0]at ab;subst ab;split at h<;>simp only[ZHu,reduceCtorEq]at h;rename_i es' u;subst h;obtain⟨b',d,e0,e1,e2⟩:=hS.get i (λn=>by simp);rw[hb]at e0;simp only[ZHu,Tok.tip.injEq]at e0;subst e0;cases e2 with
 |mapE _ _ ds _ dkey _ m' g1 g2 g3 =>
  rw[hn]at g3;simp only[ZHu,Tok.tip.injEq]at g3;subst g3;obtain⟨ds',e3,e4⟩:=Zp3 g2 c3 g1 u;cases dst with
  |some t=>simp at hd
  |none=>exact Zr1 rfl rfl rfl a1 b1 c1 a2 b2 c2 e1 e3 (hc (.d .nilsl) _ (Y0.turn hS hN i hb (.map _ _ e4) .nilsl))
end
def St.del_upd(s:St)(b d):(s.del b).upd b d=s.upd b d:=by
 funext c;simp[ZH7,St.del];split<;>rfl
def St.upd_del{b d}(h:s b=sO d):(s.del b).upd b d=s:=by
 funext c;simp[ZH7,St.del];split;rename_i i;rw[i,h];rfl
section
variable {C:Px} {J:Nm} {U:S} {s:St}
def Sim.take(x:Sim C J U s){k b:Nat}{o:O}(h:U.get k=sO o)(hb:J k=sO (.tip b))(hr:ZbE o=false:=by rfl):Sim C J (U.set nO k) (s.del b) where
 obj k' o' h':=by obtain⟨u,h1⟩:=Zu5 h';obtain⟨t,e1,⟨b',d',rfl,e2,e3⟩|e2⟩:=x.obj k' o' h1;refine⟨_,e1,.inl ⟨b',d',rfl,?_,e3⟩⟩;have:b'≠b:=λi=>u (x.inj k' k _ _ b h1 h (by rw[<-i];exact e1) hb);simp[St.del,this];exact e2;exact⟨t,e1,.inr e2⟩
 inj:=(x.forget k).inj
 kp c e hc:=by obtain⟨h1,h2⟩:=(x.forget k).kp c e hc;have:c≠b:=λec=>(x.kp c e hc).2 k o h hr (by rw[ec];exact hb);exact⟨by simp[St.del,this];exact h1,h2⟩
 ro:=(x.forget k).ro
def Sim.newFull(x:Sim C J U s){nx}(hn:J nx=nO)(m):Sim C (J.put nx .full) (U.set (sO (.tok m)) nx) s:=by
 have x':=x.mono (Nm.put_sub hn .full);have i:∀k o1 b,(U.set (sO (O.tok m)) nx).get k=sO o1->(J.put nx .full) k=sO (.tip b)->U.get k=sO o1:=λk o1 b h e=>by
  have t:k≠nx:=λhk=>by rw[hk,Nm.put_same]at e;grind
  rcases T.get_set h with ⟨rfl,_⟩|⟨_,h⟩;exact absurd rfl t;exact h
 refine⟨λk o h=>?_,λk1 k2 o1 o2 b h1 h2 u e2=>x'.inj k1 k2 o1 o2 b (i _ _ _ h1 u) (i _ _ _ h2 e2) u e2,λc e hc=>⟨(x'.kp c e hc).1,λk o1 h hr u=>(x'.kp c e hc).2 k o1 (i _ _ _ h u) hr u⟩,λk o1 c h e=>x'.ro k o1 c (i _ _ _ h e) e⟩;rcases T.get_set h with ⟨rfl,h1⟩|⟨_,h1⟩;cases h1;exact⟨_,Nm.put_same,.inr ⟨m,rfl,rfl⟩⟩;exact x'.obj k o h1
def Zwy(row:Nat->List D)(m):(ZHJ (m+1)).flatMap row=row 0++(ZHJ m).flatMap λi=>row (i+1):=by
 rw[List.range_succ_eq_map,List.flatMap_cons,List.flatMap_map]
def VRr.flat{z}:∀{m rs cs row},VRr J z rs row->ZnY z m rs=sO cs->VRs J cs ((ZHJ m).flatMap row)/\I cs=m*z
 |0,rs,cs,row,_,h=>by have:sO []=sO cs:=h;cases this;exact⟨.nil,ψ⟩
 |m+1,rs,cs,row,u,h=>by
  cases u with
  |nil=>cases h
  |cons _ c rs row h1 hl t =>
   have i:(match ZnY z m rs with
    |some r=>sO (Zpj z c r)
    |none=>nO)=sO cs:=h
   split at i<;>simp at i;rename_i r u;subst i;obtain⟨g1,g2⟩:=t.flat u;rw[Zg6 hl,Zwy];exact⟨h1.append g1,by rw[ZHF,g2,hl,ZHU];omega⟩
def Zm3{z}:∀{n vs rs ds},VRs J vs ds->ZwH z n vs=sO rs->VRr J z rs (λi=>part ds (i*z) z)/\I rs=n/\n*z<=I ds
 |0,vs,rs,ds,_,h=>by have:sO []=sO rs:=h;cases this;exact⟨.nil _ _,rfl,ω⟩
 |n+1,vs,rs,ds,hv,h=>by
  have t:(match Za6 z vs with
   |some r=>J2 (.agg r) (ZwH z n (Zbq z vs))
   |none=>nO)=sO rs:=h
  split at t<;>(try(simp at t;done));rename_i r hr;obtain⟨q,u,rfl⟩:=KG t;obtain⟨t1,rfl⟩:=J9 hr;rw[Jr]at u;obtain⟨g1,g2,g3⟩:=Zm3 (hv.drop z) u;have hlen:=hv.len;rw[ZH9]at g3;refine⟨.cons _ _ _ _ ?_ (by rw[ZHQ];omega) (g1.congr λi _=>?_),by simp[g2],by rw[ZHU];omega⟩;simpa[part]using hv.take z;simp[part]
  congr 2
  rw[ZHU];omega
def ZBV{P}(hS:Sim C J U s){z v d}(hv:VR J v d){m rs}(h:ZAr U z v=sO (m,rs)):∃row,WX P s z d m row/\VRr J z rs row/\I rs=m:=by
 cases hv<;>simp only[ZAr,reduceCtorEq]at h;case nilsl =>cases h;exact⟨λ_=>[],WX.elems rfl,.nil _ _,rfl⟩
 case sl t n z' rs' τ row h1 h2 h3 =>obtain⟨hz,hh⟩:=ZB h;rw[Z0]at hz;subst hz;cases hh;exact⟨row,WX.elems (by simp[JF]),h1,h2⟩
 case str l =>obtain⟨hz,hh⟩:=ZB h;rw[Z0]at hz;subst hz;cases hh;refine⟨λi=>[D.int .u8 (((l.map UInt8.ofNat).getD i 0).toNat:Int)],WX.elems (m:=I l) (by simp[JF]),?_,by simp[u8V]⟩;have:=ZyL (J:=J) l 0;simpa using this
 case msl k b o n cap z' hb =>
  split at h<;>(try(grind;done));rename_i cs u;obtain⟨hc,hh⟩:=ZB h;simp at hc;obtain⟨rfl,hc⟩:=hc;split at hh<;>simp at hh;rename_i r hr;obtain⟨rfl,rfl⟩:=hh;obtain⟨ds,ex,e1,e2⟩:=hS.cells u hb;rw[Jr]at hr;obtain⟨g1,g2,g3⟩:=Zm3 (e2.drop o) hr;have hl:=e2.len;refine⟨_,WX.msl (JE e1) (by rw[ZHF];omega),g1.congr λi hi=>?_,g2⟩;have h1:i*z'+z'<=n*z':=by rw[<-Nat.succ_mul];exact ZHP _ ω
  simp[part];rw[List.drop_append_of_le_length ω,List.take_append_of_le_length (by rw[ZH9];omega)]
 case gsl k b o n cap z' c hb h2 hcap hl0 =>
  split at h<;>(try(grind;done));rename_i cs u;obtain⟨hc,hh⟩:=ZB h;simp at hc;obtain⟨rfl,hc⟩:=hc;split at hh<;>simp at hh;rename_i r hr;obtain⟨rfl,rfl⟩:=hh;obtain⟨ds,ex,e1,e2⟩:=hS.cells u hb;rw[Jr]at hr;obtain⟨g1,g2,g3⟩:=Zm3 (e2.drop o) hr;have hl:=e2.len;refine⟨_,WX.msl (JE e1) (by rw[ZHF];omega),g1.congr λi hi=>?_,g2⟩;have h1:i*z'+z'<=n*z':=by rw[<-Nat.succ_mul];exact ZHP _ ω
  simp[part];rw[List.drop_append_of_le_length ω,List.take_append_of_le_length (by rw[ZH9];omega)]
end
section
variable {C:Px} {J:Nm} {U:S} {s:St} {L:Loc} {H:T W} {ρd:Env} {nx:Nat}
variable {P:Program} {F:Fr P} {kp:Option (List Nat)} {dk:List WW} {os:List DOp} {H':Env} {L':Loc}
def ZxA(hS:Sim C J U s)(hN:Yu J nx)(hρ:Z5 J L H ρd){dst g}(hg:Zk H' g=sO true){n0 z x mu r db}(h:(opF mu db (.clear n0 z x)).run H U nx=sO r)(hag:Zz ρd H' (ZQ x))(hc:∀e s2,Y0 C J r e s2->DO F kp dk os (Zv H' dst e) L' s2):DO F kp dk (⟨dst,g,.clear n0 z x⟩::os) H' L' s:=by
 simp[opF]at h;cases hz:ofDs z<;>simp[hz]at h;rename_i zv;obtain⟨v,hv,u⟩:=WA h;replace h:=u;clear u;obtain⟨p,d,a1,a2,a3⟩:=Wy hρ hv hag;have fin:∀{k b o n cap:Nat} {z':Nat} ,VR J (.ptr k o) (.ptr b o)->d=.msl b o n cap z'->noV (Nat.beq z' n0) (up (Zhx U (.ptr k o) (n*n0) (ZhF zv n)) (.tup []) nx)=sO r->DO F kp dk (⟨dst,g,.clear n0 z x⟩::os) H' L' s:=by intro k b o n cap z' hp hd h;obtain⟨i,u⟩:=ZB h;replace h:=u;clear u;rw[Z0]at i;subst i;obtain⟨U',t,rfl⟩:=ZtW h;obtain⟨b',off,cs,e1,c1,c2,c3,c4⟩:=ZkJ hS t hp (ZkR (ofDs_ok hz) n);cases e1;subst hd;exact Zmp hg rfl a1 a2 c1 ω (hc (.d (.tup [])) _ ⟨J,Nm.Sub.refl _,hN,c4,_,.tup _ _ .nil,rfl⟩)
 cases a3<;>simp at h;case msl k b o n cap z' hb=>exact fin (.ptr _ _ _ hb) rfl h
 case gsl k b o n cap z' c hb h2 hcap hl0=>exact fin (.ptr _ _ _ hb) rfl h
def Y0.buf(hS:Sim C J U s)(i:Yu J nx){b}(hb:s b=nO){z m cap cs ds ex}(hv:VRs J cs ds)(hm:m<=cap)(hl:(ds++ex).length=cap*z){r}(h:Zjc z U nx m cs=sO r):Y0 C J r (.d (.msl b 0 m cap z)) (s.upd b (.cells (ds++ex))):=by
 cases h;have f0:=i.free nx (ZHK _);have f1:=i.free (nx+1) ω;have s1:J.Sub (J.put (nx+1) (.tip (ds++ex).length)):=Nm.put_sub f1 _;have u:(J.put (nx+1) (.tip (ds++ex).length)) nx=nO:=by simp only[Nm.put];rw[if_neg ω];exact f0
 have t:=Nm.put_sub u (.tip b);have hx:((J.put (nx+1) (.tip (ds++ex).length)).put nx (.tip b)) (nx+1)=sO (.tip (ds++ex).length):=by simp[Nm.put]
 refine⟨_,s1.trans t,⟨?_,?_,?_,?_⟩,(hS.mono s1).new u hb (.buf _ _ _ ((hv.mono s1).mono t) hx),_,.gsl _ _ _ _ _ _ _ Nm.put_same hx hm ω,rfl⟩;exact t _ _ (s1 _ _ i.z);exact t _ _ (s1 _ _ i.o);have:=i.two;show 2<=nx+2;omega;intro k hk;have hk:nx+2<=k:=hk;simp[Nm.put];rw[if_neg ω,if_neg ω];exact i.free k ω
def Y0.bufMove(hS:Sim C J U s)(i:Yu J nx){k b o}(t:U.get k=sO o)(hb:J k=sO (.tip b))(hr:ZbE o=false){z m cap cs ds ex}(hv:VRs J cs ds)(hm:m<=cap)(hl:cap*z<=(ds++ex).length){r}(h:Zjc z (U.set nO k) nx m cs=sO r):Y0 C J r (.d (.msl b 0 m cap z)) (s.upd b (.cells (ds++ex))):=by
 rw[<-St.del_upd s b];cases h;have f0:=i.free nx (ZHK _);have f1:=i.free (nx+1) ω;have s1:J.Sub (J.put (nx+1) (.tip (ds++ex).length)):=Nm.put_sub f1 _;have f2:(J.put (nx+1) (.tip (ds++ex).length)) nx=nO:=by simp only[Nm.put];rw[if_neg ω];exact f0
 have u:=Nm.put_sub f2 (.tip b);have hx:((J.put (nx+1) (.tip (ds++ex).length)).put nx (.tip b)) (nx+1)=sO (.tip (ds++ex).length):=by simp[Nm.put]
 refine⟨_,s1.trans u,⟨?_,?_,?_,?_⟩,((hS.take t hb hr).mono s1).new f2 (by simp[St.del]) (.buf _ _ _ ((hv.mono s1).mono u) hx),_,.gsl _ _ _ _ _ _ _ Nm.put_same hx hm ω,rfl⟩;exact u _ _ (s1 _ _ i.z);exact u _ _ (s1 _ _ i.o);have:=i.two;show 2<=nx+2;omega;intro k t;have t:nx+2<=k:=t;simp[Nm.put];rw[if_neg ω,if_neg ω];exact i.free k ω
end
section
variable {C:Px} {J:Nm} {U:S} {s:St} {L:Loc} {H:T W} {ρd:Env} {nx:Nat}
variable {P:Program} {F:Fr P} {kp:Option (List Nat)} {dk:List WW} {os:List DOp} {H':Env} {L':Loc}
def ZwV(u:Sim C J U s)(hN:Yu J nx){t k τ U'}(ht:t=0\/J t=sO τ)(h:Zp0 U t k=sO U'):
  ∃s0,s=s0.own τ k/\τ.okIn s0/\Sim C J U' s0:=by
 unfold Zp0 at h;split at h;rename_i h1;rw[Z0]at h1;subst h1;cases h;have:=ht.resolve_left ω;rw[hN.o]at this;cases this;exact⟨s,rfl,trivial,u⟩;split at h<;>(try(grind;done));rename_i m hm;obtain⟨hk,hh⟩:=ZB h;rw[Z0]at hk;subst hk;cases hh;obtain⟨t0,i,e1⟩:=u.obj t _ hm;have hτ:τ=t0:=by rcases ht with rfl|ht;rw[hN.z]at i;cases i;obtain⟨_,_,h,_⟩|⟨_,_,h⟩:=e1<;>grind;rw[i]at ht;simpa using ht.symm
 subst hτ;obtain⟨b,d,rfl,g1,g2⟩|⟨n,g1,rfl⟩:=e1;cases g2;refine⟨s.del b,?_,by simp[Tok.okIn,St.del],u.take hm i⟩;exact(St.upd_del g1).symm;exact⟨s,rfl,trivial,u.forget t⟩
def Y0.tok{s0 U'}(hS:Sim C J U' s0)(hN:Yu J nx){t}(ht:t.okIn s0){n z rs row}(hr:VRr J z rs row)(hl:I rs=n):
  Y0 C J ⟨.sl nx n z rs,U'.set (sO (.tok (n*z))) nx,nx+1⟩ (.d (.sl t n z row)) (s0.own t (n*z)):=by
 have u:=hN.free nx (ZHK _);have i:=Nm.put_sub u t;refine⟨_,i,hN.put _,?_,_,.sl _ _ _ _ _ _ (hr.mono i) hl (.inr Nm.put_same),rfl⟩;cases t with
 |tip b=>exact hS.new u ht (.tok _)
 |full=>exact hS.newFull u _
 |none=>exact ht.elim
def ZnL(hS:Sim C J U s)(hN:Yu J nx){dst g}(hg:Zk H' g=sO true){e z b zd x y p q dx dy}(hx:Zy H' true x=sO (p,.d dx))(hy:Zy H' true y=sO (q,.d dy))(hp:p)(hq:q){t n m τ row row2 rs rs2}(hsl:Zcf z dx=sO (τ,n,row))(ht:t=0\/J t=sO τ)(hr:VRr J z rs row)(hl:I rs=n)(hel:WX P s z dy m row2)(hr2:VRr J z rs2 row2)(hl2:I rs2=m){r}(h:Zsl z b U nx t n m rs rs2=sO r)(hc:∀e s2,Y0 C J r e s2->DO F kp dk os (Zv H' dst e) L' s2):DO F kp dk (⟨dst,g,.append e z b zd x y⟩::os) H' L' s:=by
 obtain⟨hb,hh⟩:=ZB h;replace h:=hh;clear hh;simp at hb;split at h<;>simp at h;rename_i U' hσ;subst h;obtain⟨s0,rfl,u,i⟩:=ZwV hS hN ht hσ;refine ZvF hg rfl hx hsl hy hp hq hel u hb.1 hb.2 λt' ab=>hc _ _ ?_;have:=hr.append hr2;rw[hl]at this;rw[Zg6 hl];exact Y0.tok i hN ab this (by simp[hl,hl2])
def ZnK(hS:Sim C J U s)(hN:Yu J nx){dst g}(hg:Zk H' g=sO true){e z b zd x y p q dx dy}(hx:Zy H' true x=sO (p,.d dx))(hy:Zy H' true y=sO (q,.d dy))(hp:p)(hq:q){m row row2 rs2}(hsl:Zcf z dx=sO (.full,0,row))(hm:0<m)(hel:WX P s z dy m row2)(hr2:VRr J z rs2 row2){r}(h:Zsk z b U nx m rs2=sO r)(hc:∀e s2,Y0 C J r e s2->DO F kp dk os (Zv H' dst e) L' s2):DO F kp dk (⟨dst,g,.append e z b zd x y⟩::os) H' L' s:=by
 obtain⟨hb,hh⟩:=ZB h;replace h:=hh;clear hh;simp at hb;split at h<;>(try(grind;done));rename_i cs u;obtain⟨g1,g2⟩:=hr2.flat u;refine Zmo hg rfl hx hsl hy hel hp hq hm hb.1 hb.2 λc cap t i=>hc _ _ (Y0.buf hS hN t g1 i ?_ h);have:=g1.len;have e1:m*z+(cap-m)*z=cap*z:=by rw[<-ZHU];congr 1;omega
 simp_all
def ZwI{cs o xs}:Zx cs o xs=cs.take o++xs++cs.drop (o+I xs):=rfl
def ZsO(hS:Sim C J U s)(hN:Yu J nx){dst g}(hg:Zk H' g=sO true){e z bt zd x y p q dx dy}(hx:Zy H' true x=sO (p,.d dx))(hy:Zy H' true y=sO (q,.d dy))(hp:p)(hq:q){k o n m cap z' row2 rs2}(hv:VR J (.msl k o n cap z') dx)(hel:WX P s z dy m row2)(hr2:VRr J z rs2 row2){mu}{r}(h:Zy6 mu z bt U nx (.msl k o n cap z') m rs2=sO r)(hc:∀e s2,Y0 C J r e s2->DO F kp dk os (Zv H' dst e) L' s2):DO F kp dk (⟨dst,g,.append e z bt zd x y⟩::os) H' L' s:=by
 obtain⟨hb,hh⟩:=ZB h;replace h:=hh;clear hh;simp at hb;obtain⟨⟨rfl,ac⟩,ad⟩:=hb;split at h<;>(try(simp at h;done));rename_i ao aj;obtain⟨g1,g2⟩:=hr2.flat aj;have ag:((ZHJ m).flatMap row2).length=m*z':=by rw[<-g1.len,g2]
 cases hv with
 |gsl _ b _ _ cap' _ c hb h2 hcap hlc =>
  simp only at h;split at h<;>(try(simp at h;done));rename_i cs ab;obtain⟨ho,hh⟩:=ZB h;replace h:=hh;clear hh;rw[Z0]at ho;subst ho;split at h<;>(try(simp at h;done));rename_i c1 af;obtain⟨t1,rfl⟩:=J9 af;obtain⟨b',d,e0,e1,e2⟩:=hS.get ab (λn=>by simp);rw[hb]at e0;cases e0;cases e2 with
  |buf _ ds ex hds hce =>
   rw[h2]at hce;cases hce;have hl:=hds.len;have ah:(cs.take (n*z')).length=n*z':=by rw[ZHQ];omega
   rw[Zg6 ah]at h;have hnc:n*z'<=cap'*z':=ZHP _ hcap;have ai:(n+m)*z'=n*z'+m*z':=ZHU _ _ _;have am:VRs J (cs.take (n*z')++ao) ((ds++ex).take (n*z')++(ZHJ m).flatMap row2):=by rw[List.take_append_of_le_length ω];exact(hds.take _).append g1
   refine ZkV hg rfl hx hy hp hq (JE e1) ω hel (λt=>⟨rfl,?_⟩) ac ad (λt=>?_) (λc i _ ae u=>?_);have:=ZHP z' t;omega;rw[ZwI];refine hc _ _ (Y0.bufMove hS hN ab hb rfl am t ?_ h);simp at hlc⊢;omega;have ak:part (ds++ex) 0 (n*z')=(ds++ex).take (n*z'):=by simp[part]
   refine hc _ _ (Y0.buf (hS.forget k) hN ae am u ?_ h);have e1:(n+m)*z'+(i-(n+m))*z'=i*z':=by rw[<-ZHU];congr 1;omega
   simp[ag]at hlc⊢;omega
 |msl _ b _ _ cap _ hb =>
  simp only at h;split at h<;>(try(simp at h;done));rename_i cs ab;obtain⟨ds,ex,e1,e2⟩:=hS.cells (vs:=cs) (by rw[ab];rfl) hb;have hl:=e2.len;have ai:(n+m)*z'=n*z'+m*z':=ZHU _ _ _;split at h;rename_i t;rw[Zag]at t;obtain⟨ho,hh⟩:=ZB h;replace h:=hh;clear hh;rw[Z0]at ho;subst ho;split at h<;>simp at h;rename_i cs' al;subst h;obtain⟨f0,f1,f2⟩:=e2.over g1 al;refine ZkV hg rfl hx hy hp hq (JE e1) (by simp;omega) hel (λ_=>⟨rfl,by simp;omega⟩) ac ad (λ_=>?_) (λc i hlt _ _=>by omega);rw[Zmi (by rw[ag];omega)];exact hc _ _ (Y0.turn hS hN ab hb (.cells _ _ _ f2) (.msl _ _ _ _ _ _ hb));rename_i t;have t:cap<n+m:=by have:¬n+m<=cap:=λh=>t (Zag.2 h);omega
  obtain⟨ho,hh⟩:=ZB h;replace h:=hh;clear hh;rw[Zag]at ho;split at h<;>(try(simp at h;done));rename_i c1 af;obtain⟨t1,rfl⟩:=J9 af;rw[Jr]at h t1;have ah:((cs.drop o).take (n*z')).length=n*z':=by rw[ZHQ];omega
  rw[Zg6 ah]at h;have ak:part (ds++ex) o (n*z')=(ds.drop o).take (n*z'):=by simp only[part];rw[List.drop_append_of_le_length ω,List.take_append_of_le_length (by rw[ZH9];omega)]
  refine ZkV hg rfl hx hy hp hq (JE e1) (by simp;omega) hel (λh=>by omega) ac ad (λh=>by omega) (λc i _ ae u=>?_);rw[ak];refine hc _ _ (Y0.buf hS hN ae (((e2.drop o).take _).append g1) u ?_ h);have e1:(n+m)*z'+(i-(n+m))*z'=i*z':=by rw[<-ZHU];congr 1;omega
  have:((ds.drop o).take (n*z')).length=n*z':=by rw[ZHQ,ZH9];omega
  simp[ag];omega
def Zv1(hS:Sim C J U s)(hN:Yu J nx)(hρ:Z5 J L H ρd){dst g}(hg:Zk H' g=sO true){e z b zd x y mu db r}(h:(opF mu db (.append e z b zd x y)).run H U nx=sO r)(hag:Zz ρd H' (ZQ x++ZQ y))(hc:∀e s2,Y0 C J r e s2->DO F kp dk os (Zv H' dst e) L' s2):DO F kp dk (⟨dst,g,.append e z b zd x y⟩::os) H' L' s:=by
 obtain⟨xv,hx,hh⟩:=WA h;replace h:=hh;clear hh;obtain⟨yv,hy,hh⟩:=WA h;replace h:=hh;clear hh;split at h<;>(try(grind;done));rename_i m rs2 ac;obtain⟨p,dx,a1,a2,a3⟩:=Wy hρ hx (λt ht=>hag t (by simp[ht]));obtain⟨q,dy,b1,b2,b3⟩:=Wy hρ hy (λt ht=>hag t (by simp[ht]));obtain⟨row2,i,u,ab⟩:=ZBV (P:=P) hS b3 ac;cases a3<;>(try(cases h;done));case nilsl =>simp only[Zy6]at h;split at h;rename_i hm;simp at hm;exact ZnK hS hN hg a1 b1 a2 b2 rfl ω i u h hc;exact ZnL hS hN hg a1 b1 a2 b2 rfl (.inr hN.o) (.nil _ _) rfl i u ab h hc
 case sl t n z' rs τ row h1 h2 h3 =>obtain⟨hz,hh⟩:=ZB h;replace h:=hh;clear hh;rw[Z0]at hz;subst hz;split at h;rename_i hm;simp at hm;obtain⟨⟨⟨_,hm⟩,rfl⟩,rfl⟩:=hm;have hτ:=h3.resolve_left ω;rw[hN.o]at hτ;cases hτ;exact ZnK (row:=row) hS hN hg a1 b1 a2 b2 (by simp[Zcf]) ω i u h hc;exact ZnL hS hN hg a1 b1 a2 b2 (by simp[Zcf]) h3 h1 h2 i u ab h hc
 case msl k b' o n cap z' hb=>exact ZsO hS hN hg a1 b1 a2 b2 (.msl _ _ _ _ _ _ hb) i u h hc
 case gsl k b' o n cap z' c hb h2 hcap hl0=>exact ZsO hS hN hg a1 b1 a2 b2 (.gsl _ _ _ _ _ _ _ hb h2 hcap hl0) i u h hc
def Zzs(hS:Sim C J U s)(hN:Yu J nx)(hρ:Z5 J L H ρd){dst g}(hg:Zk H' g=sO true){len n z is xs mu db r}(h:(opF mu db (.bsl len n z is xs)).run H U nx=sO r)(hag:Zz ρd H' (Za2 xs))(u:(mu&&db&&Nat.ble 1 len)=true)(hc:∀e s2,Y0 C J r e s2->DO F kp dk os (Zv H' dst e) L' s2):DO F kp dk (⟨dst,g,.bsl len n z is xs⟩::os) H' L' s:=by
 simp only[opF]at h;cases hz:ofDs z<;>simp only[hz,reduceCtorEq]at h;split at h<;>(try(grind;done));rename_i vs t;obtain⟨hp,hh⟩:=ZB h;replace h:=hh;clear hh;rw[u,if_pos rfl]at h;split at h<;>simp at h;rename_i cs i;subst h;simp at hp u;obtain⟨p,ds,a1,a2,a3⟩:=ZaE hρ t;rw[<-W3 hag]at a1;obtain⟨g1,g2⟩:=ZmU (is:=is) (ofDs_ok hz) hp.2 a3 hp.1 len 0;obtain⟨g3,g4⟩:=g1.flat i;simp at g3;exact Zo7 hg rfl a1 (ZaJ ds) a2 (ZjZ a3 hp.1) u.2 λb hb=>hc _ _ (Y0.new hS hN hb (OR.cells0 (g3.mono (Nm.put_sub (hN.free nx (ZHK _)) _))) (.msl _ _ _ _ _ _ Nm.put_same))
end
section
variable {C:Px} {J:Nm} {U:S} {s:St} {L:Loc} {H:T W} {ρd:Env} {nx:Nat}
variable {P:Program} {F:Fr P} {kp:Option (List Nat)} {dk:List WW} {os:List DOp} {H':Env} {L':Loc}
def ZxD(hS:Sim C J U s)(hN:Yu J nx)(hρ:Z5 J L H ρd){dst g k}(hg:Zk H' g=sO true)(hgk:(gk k ||g.isNone)=true)(hk:YB k=false)(hf:ZjT k=true){mu r}(h:(opF mu dst.isSome k).run H U nx=sO r)(u:Zz ρd H' (ZA ⟨dst,g,k⟩))(hc:∀e s2,Y0 C J r e s2->DO F kp dk os (Zv H' dst e) L' s2):DO F kp dk (⟨dst,g,k⟩::os) H' L' s:=by
 have u:Zz ρd H' (Yh k):=λt ht=>u t (by simp[ZA,ht]);have i:gk k=false->g=nO:=λhh=>by rw[hh,Bool.false_or]at hgk;cases g<;>simp_all
 cases k<;>simp only[YB,Bool.true_eq_false]at hk;case alloc z=>obtain rfl:=i rfl;exact Zxz hS hN h hc
 case box x=>obtain rfl:=i rfl;exact ZBi hS hN hρ h u hc
 case store1 a v=>obtain rfl:=i rfl;exact Zv5 hS hN hρ h u hc
 case storeN n a v=>obtain rfl:=i rfl;exact Zv6 hS hN hρ h u hc
 case append e z b zd x y=>exact Zv1 hS hN hρ hg h u hc
 case mkmap=>obtain rfl:=i rfl;exact ZxC hS hN h hc
 case mapupd kp' m k v=>obtain rfl:=i rfl;exact Zv4 hS hN hρ h u hc
 case mapent kp' z m k=>obtain rfl:=i rfl;exact Zv3 hS hN hρ h u hc
 case entst m st v=>obtain rfl:=i rfl;exact ZxB hS hN hρ h u hc
 case mkslice e n b z l c=>obtain rfl:=i rfl;exact Zud hS hN hρ h u hc
 case delete kp' m k=>obtain rfl:=i rfl;exact Zv2 hS hN hρ h u hc
 case clear n z x=>exact ZxA hS hN hρ hg h u hc
 case fork k=>simp[ZjT]at hf
 all_goals simp[opF]at h
def ZCN{t i k}(hk:YB k=true)(u:(∃len n z is xs,k=.bsl len n z is xs/\(t&&i&&Nat.ble 1 len)=true)->False){r}(h:(opF t i k).run H U nx=sO r):(opF false i k).run H U nx=sO r:=by
 cases k<;>simp only[YB,ZH5]at hk;case bsl len n z is xs =>
  have hm:(t&&i&&Nat.ble 1 len)=false:=by cases hh:(t&&i&&Nat.ble 1 len);rfl;exact(u ⟨_,_,_,_,_,rfl,hh⟩).elim
  simp only[opF]at h⊢;cases hz:ofDs z<;>simp only[hz,reduceCtorEq]at h⊢;simp only[hm,ZH5,if_false]at h;simpa only[ZH8,ZH5,if_false]using h
 all_goals exact h
def Znu{H l}:Zz H H l:=λ_ _=>rfl
def ZDr(u:Sim C J U s)(t:Yu J nx)(hρ:Z5 J L H ρd){dst g k}(hg:Zk ρd g=sO true)(hgk:(gk k ||g.isNone)=true)(hf:ZjT k=true){mu r}(h:(opF mu dst.isSome k).run H U nx=sO r)(hc:∀J' e s2,J.Sub J'->Yu J' r.nx->Sim C J' r.U s2->WR J' L (.v r.v) e->DO F kp dk os (Zv ρd dst e) L s2):DO F kp dk (⟨dst,g,k⟩::os) ρd L s:=by
 have i:∀e s2,Y0 C J r e s2->DO F kp dk os (Zv ρd dst e) L s2:=λe s2 hr=>by obtain⟨J',h1,h2,h3,d,h4,rfl⟩:=hr;exact hc J' _ s2 h1 h2 h3 ⟨d,h4,.inl rfl⟩
 cases hk:YB k with
 |false=>exact ZxD u t hρ hg hgk hk hf h Znu i
 |true =>by_cases hb:∃len n z is xs,k=.bsl len n z is xs/\(mu&&dst.isSome&&Nat.ble 1 len)=true;obtain⟨len,n,z,is,xs,rfl,hm⟩:=hb;exact Zzs u t hρ hg h Znu hm i;obtain⟨e1,e2,side,e,e3,e4,e5⟩:=ZqP (L:=L) u t.o hρ hg hk (ZCN hk hb h);exact QI e4 e3 (hc J e s (Nm.Sub.refl _) (by rw[e2];exact t) (by rw[e1];exact u) e5)
end
def T.get_lt{α}{t:T α}{k a}(h:t.get k=sO a):k<32768:=by
 unfold T.get T.getF at h;cases i:Nat.blt k 32768 with
 |false=>rw[i]at h;grind
 |true=>simpa using i
def Jv{H t e}(i:ZK H t=sO e):∀{ks},t∈ks->ZK (Yn H ks) t=sO e
 | [],h=>by grind
 |k::ks,h=>by
  simp[Yn];by_cases u:k=t;subst u;simp[i,ZK];have ht:t∈ks:=by simpa[Ne.symm u]using h
  split;simp[ZK,u];exact Jv i ht;exact Jv i ht
def Ze9{t e}(u:Km e=[]):∀{H},ZK H t=sO e->ZK (Ji H) t=sO e
 | [],h=>by cases h
 | (k,x)::r,h=>by simp[ZK]at h;simp[Ji];by_cases i:k=t;simp[i]at h;subst h;simp[u,ZK,i];simp[i]at h;split;simp[ZK,i];exact Ze9 u h;exact Ze9 u h
section
variable {J:Nm} {L:Loc} {H:T W} {ρd:Env}
def WR.locs{w e}(h:WR J [] w e)(t:live [] w=true):Km e=[]:=by
 cases w with
 |v x =>obtain⟨d,_,rfl|rfl⟩:=h<;>rfl
 |loc l o=>cases t
 |skip =>have i:e=.when false (.d (.bool false)):=h;subst i;rfl
def Z5.keep(h:Z5 J L H ρd):Z5 J L H (Yn ρd Zpg):=λt w i hl=>by
 obtain⟨e,u,h2⟩:=h t w i hl;exact⟨e,Jv u (List.mem_range.2 (T.get_lt i)),h2⟩
def Z5.round(h:Z5 J [] H ρd):Z5 J [] H (Kd Zpg ρd):=λt w hw u=>by
 obtain⟨e,h1,i⟩:=h.keep t w hw u;exact⟨e,Ze9 (i.locs u) h1,i⟩
def Z5.nil:Z5 J L T.nil ρd:=λt w i=>by simp[T.get_nil]at i
def Z5.set(h:Z5 J L H ρd){v d}(hv:VR J v d)(t):Z5 J L (H.set (sO (.v v)) t) ((t,.d d)::ρd):=λt' w hw hl=>by
 rcases T.get_set hw with ⟨rfl,u⟩|⟨i,u⟩;cases u;exact⟨.d d,by simp[ZK],d,hv,.inl rfl⟩;obtain⟨e,h2,h3⟩:=h t' w u hl;exact⟨e,by simp[ZK];rw[if_neg (Ne.symm i)];exact h2,h3⟩
def ZqU:∀{ts} {vs} {ds} {H} {ρd},Z5 J L H ρd->VRs J vs ds->Z5 J L (Zfl ts vs H) (WL ts ds ρd)
 | [],_,_,_,_,h,_=>by simpa[Zfl,WL]using h
 |_::_,[],_,_,_,h,hv=>by cases hv;simpa[Zfl,WL]using h
 |t::ts,v::vs,_,_,_,h,hv=>by obtain⟨d,ds,rfl,i,u⟩:=hv.inv;exact ZqU (ts:=ts) (h.set i t) u
def ZqF:∀{vs i H t w},(Zn7 i vs H).get t=sO w->(∃j v,t=i+j/\vs[j]?=sO v/\w=.v v)\/H.get t=sO w
 | [],i,H,t,w,h=>.inr h
 |v::vs,i,H,t,w,h=>by rcases ZqF (vs:=vs) (i:=i+1) h with ⟨j,v',rfl,h1,u⟩|h1;exact .inl ⟨j+1,v',ω,by simpa using h1,u⟩;rcases T.get_set h1 with ⟨rfl,u⟩|⟨_,u⟩;simp at u;exact .inl ⟨0,v,rfl,rfl,u.symm⟩;exact .inr u
def Zl1:∀{ds i j d},ds[j]?=sO d->ZK (K6 i ds) (i+j)=sO (.d d)
 | [],i,j,d,h=>by grind
 |x::ds,i,0,d,h=>by cases h;simp[K6,ZK]
 |x::ds,i,j+1,d,h=>by have:=Zl1 (ds:=ds) (i:=i+1) (j:=j) (by simpa using h);simp only[K6,ZK];rw[if_neg ω,show i+(j+1)=i+1+j by omega];exact this
def ZxU{vs ds}(hv:VRs J vs ds):Z5 J L (Zn7 0 vs T.nil) (K6 0 ds):=λt w hw _=>by
 rcases ZqF hw with ⟨j,v,rfl,i,rfl⟩|h;obtain⟨d,u,h3⟩:=hv.get i;exact⟨.d d,Zl1 u,d,h3,.inl rfl⟩;simp[T.get_nil]at h
end
def ZCK:E->E
 |.when c e=>match c,e with
  |true,.d d=>.d d
  |c,e=>.when c e
 |e=>e
def nrm:Env->Env
 | []=>[]
 | (t,e)::r=>(t,ZCK e)::nrm r
def Zh8:∀(H t),ZK (nrm H) t=(ZK H t).map ZCK
 | [],t=>rfl
 | (k,e)::r,t=>by simp[nrm,ZK];split;rfl;exact Zh8 r t
def Zu.nrm(m:Zu g Z w tmps H L s):Zu g Z w tmps (nrm H) L s:={
 st:=m.st
 loc:=m.loc
 locKept:=m.locKept
 locSt:=m.locSt
 inj:=m.inj
 env t e h:=by
  rw[Zh8]at h;simp at h;obtain⟨u,h1,rfl⟩:=h;have i:=m.env t u h1;cases u with
  |d d=>exact i
  |loc l o=>exact i
  |when c e =>
   cases c with
   |false=>exact i
   |true =>
    cases e with
    |d d=>exact i.1 rfl
    |loc l o=>exact i
    |when c e=>exact i }
def Zr5{P}{F:Fr P}{dk H L s}(h:Zw F dk (nrm H) L s):Zw F dk H L s :=
 λk t g Z w tmps i m=>h k t g Z w tmps i m.nrm
def ZvL{P}{F:Fr P}{H L d s}(h:Y4 F (nrm H) L d s):Y4 F H L d s :=
 λg Z w v i tmps t m u=>h g Z w v i tmps t m.nrm u
def Zpa(J:Nm)(H:T W)(ρd:Env):Prop:=∀t x,H.get t=sO (.v x)->∃d,ZK ρd t=sO (.d d)/\VR J x d
section
variable {C:Px} {J:Nm} {U:S} {s:St} {L:Loc} {H:T W} {ρd:Env} {nx:Nat}
def Z5.nrm(h:Z5 J L H ρd):Zpa J H (nrm ρd):=λt x hx=>by
 obtain⟨e,i,d,u,rfl|rfl⟩:=h t _ hx rfl;exact⟨d,by rw[Zh8,i];rfl,u⟩;exact⟨d,by rw[Zh8,i];rfl,u⟩
def Zpa.mono{J'}(h:Zpa J H ρd)(hs:J.Sub J'):Zpa J' H ρd:=λt x hx=>by
 obtain⟨d,i,u⟩:=h t x hx;exact⟨d,i,u.mono hs⟩
def ZC0(hS:Sim C J U s)(h1:J 1=sO .full)(hρ:Zpa J H ρd){r v}(h:rvV H U r=sO v):∃p d,Kn ρd [] s r=sO (p,d)/\p/\VR J v d:=by
 have i:∀{t:Nat} {a:V},(YS (.tmp t)).run H=sO a->∃d,ZK ρd t=sO (.d d)/\VR J a d:=λ{t a} ha=>hρ t a (ZAI (x:=H.get t) ha);cases r with
 |tmp t =>obtain⟨d,a1,a2⟩:=i h;exact⟨True,d,by simp[Kn,a1],trivial,a2⟩
 |cell1 t =>simp[rvV]at h;split at h<;>(try(grind;done));rename_i a ha;obtain⟨d,a1,a2⟩:=i ha;obtain⟨side,e,u,b2,b3⟩:=Zww (L:=[]) hS h1 (.one a2) h;simp only[ZHM,ZH2,qv,ZHI,ZHH,E.d.injEq]at u;obtain⟨x,c1,c2,rfl⟩:=u;exact⟨True,x,by simp[Kn,a1,c1],trivial,b3⟩
 |cellN t n =>simp[rvV]at h;split at h<;>(try(grind;done));rename_i a ha;obtain⟨d,a1,a2⟩:=i ha;obtain⟨side,e,u,b2,b3⟩:=Zww (L:=[]) hS h1 (.one a2) h;simp only[ZHM,ZH2,qv,ZHI]at u;obtain⟨x,c1,rfl,rfl⟩:=u;exact⟨x.1,.agg x.2,by simp[Kn,a1,c1],b2,b3⟩
def ZpJ(u:Sim C J U s)(t:J 1=sO .full)(hρ:Zpa J H ρd):∀{rs vs},ZtI H U rs=sO vs->∃p ds,YC ρd [] s rs=sO (p,ds)/\p/\VRs J vs ds
 | [],vs,h=>by cases h;exact⟨True,[],rfl,trivial,.nil⟩
 |r::rs,vs,h=>by simp[ZtI]at h;split at h<;>(try(grind;done));rename_i v hv;split at h<;>simp at h;rename_i vs' i;subst h;obtain⟨p,d,a1,a2,a3⟩:=ZC0 u t hρ hv;obtain⟨q,ds,b1,b2,b3⟩:=ZpJ u t hρ i;exact⟨p/\q,d::ds,by simp[YC,a1,b1],⟨a2,b2⟩,.cons _ _ _ _ a3 b3⟩
def Zx5{vs}{ds}(h:VRs J vs ds):VR J (mkV vs) (K7 ds):=by
 cases h with
 |nil=>exact .tup _ _ .nil
 |cons v d vs ds h t =>
  cases t with
  |nil=>exact h
  |cons v' d' vs ds h' t=>exact .tup _ _ (.cons _ _ _ _ h (.cons _ _ _ _ h' t))
def Zvq{v d}(h:VR J v d)(i:ZwG v=true):Zfo d:=by
 cases h<;>simp only[ZwG,ZH5]at i<;>simp[Zfo,Zap];exact Zu8 i;rw[Zag]at i;simpa using i
def Ziu:∀{vs ds},VRs J vs ds->Zll vs=true->Zbn ds
 | [],_,h,_=>by cases h;trivial
 |v::vs,_,h,hr=>by obtain⟨d,ds,rfl,i,t⟩:=h.inv;simp[Zll]at hr;exact⟨Zvq i hr.1,Ziu t hr.2⟩
def Zgq(C:Px)(J:Nm)(o:Out)(r:Res)(s:St):Prop :=
 ∃J' d,J.Sub J'/\Yu J' o.nx/\Sim C J' o.U s/\VR J' o.v d/\r=if o.pan then .panic d else .ret d
def Zgq.mono{J' o r}(h:Zgq C J' o r s)(u:J.Sub J'):Zgq C J o r s:=by
 obtain⟨η2,d,i,t⟩:=h;exact⟨η2,d,u.trans i,t⟩
inductive DdR(J:Nm):List Dd->List DD->Prop where
 |nil:DdR J [] []
 |mark (q b:Nat) (r:List Dd) (r':List DD) (h:J q=some (.tip b)) (t:DdR J r r'):DdR J (.mark q::r) (.mark b::r')
 |fn (i:FuncId) (a c:List V) (da dc:List D) (r:List Dd) (r':List DD) (ha:VRs J a da) (hc:VRs J c dc) (h1:Zbn da) (h2:Zbn dc) (t:DdR J r r'):DdR J (.fn i a c::r) (.fn i da dc::r')
def DdR.mono{J'}(hs:J.Sub J'):∀{r r'},DdR J r r'->DdR J' r r'
 |_,_,.nil=>.nil
 |_,_,.mark q b r r' h t=>.mark q b r r' (hs _ _ h) (t.mono hs)
 |_,_,.fn i a c da dc r r' ha hc h1 h2 t=>.fn i a c da dc r r' (ha.mono hs) (hc.mono hs) h1 h2 (t.mono hs)
def FmR(C:Px)(J:Nm)(fm:Fm)(o:Out)(F:Fr C.P):Prop :=
 F.b.fn=fm.f/\F.N=fm.n/\F.an=C.an fm.f/\match fm.k with
  |.fn res=>∃Φ dds,YJ F res Φ dds/\DdR J fm.ds dds/\∀r s,Zgq C J o r s->Φ r s
  |.rnd l=>∃b Φ,J l=sO (.tip b)/\K4 F b Φ/\∀r s,Zgq C J o r s->Φ r s
  |.dfd pd rec=>∃m Ψ,Zaq F m Ψ rec/\(match pd,m with
    |some v,sO d=>VR J v d
    |none,nO=>True
    |_,_=>False)/\∀s b,o.pan=false->o.v=.bool b->Zgq C J o (.ret (.bool b)) s->Ψ b s
end
section
variable {P:Program}
def Zrb{an l N r s da db args Φ}(hs:s l=sO (.loop r .ready))(hlen:I args=I r.params)(ha:cc P an N r.assign=sO da)(hb:cc P an N r.body=sO db)(hN:r.N=N)(hp:∀t∈r.params,t<N)(h:∀F:Fr P,K4 F l Φ->F.b.fn=r.fn->F.N=N->F.an=an->Zw F [.code da,.beginR,.code db] (WL r.params args r.H) [] s):WN P (.fn (.yield l) [] []) args s Φ:=by
 intro g w fv vs ab hf i;cases hf with
 |fn _ fs ac _ _ hn1 hn2 h1 h2 =>
 obtain rfl:fs=[]:=by simpa using hn1
 obtain⟨hp0,l0,a1,a2,a3,a4,a5,a6,a7,a8,a9,a10⟩:=ab.obj l _ hs;have u:vs.toArray.size=l0.params.size:=by
  have e1:=i.len;have e2:I l0.params.toList=I r.params:=by rw[a3]
  simp at e2⊢;omega
 refine⟨_,_,_,by simp[Deferred.ofValue];rfl,by simp[invoke,Instr.yield,Instr.getLoop,Jj a1,u];rfl,rfl,λc cs=>?_⟩;have M:Zu g (λ_=>0) w l0.tmps r.H [] s:=⟨ab,λl cs h=>by simp[Zg]at h,λl cs h=>by simp[Zg]at h,λl cs h=>by simp[Zg]at h,λl l' cs ac h=>by simp[Zg]at h,a8⟩;obtain⟨ad,M'⟩:=Zio M i hlen (by rw[hN]at *;exact hp) (by rw[<-hN];exact a7);have:=h (Za3 P an r.fn N l c cs Φ) ⟨an,r.fn,N,c,cs,rfl⟩ rfl rfl rfl [.code r.assign,.beginRound,.code r.body] (.code ha (.beginR (.code hb .nil))) g (λ_=>0) w _ ad M';have ae:(Za3 P an r.fn N l c cs Φ).b.atR { tmps:=(r.params.zip vs).foldl (λtmps (x:Nat×Value)=>tmps.setIfInBounds x.1 x.2) l0.tmps,defers:=[] } [.code r.assign,.beginRound,.code r.body] =
   Frame.round l l0.fn ((l0.params.zip vs.toArray).foldl (λtmps (x:Nat×Value)=>tmps.setIfInBounds x.1 x.2) l0.tmps) l0.assign l0.body .normal:=by
  simp only[Frame.atR,a2,a4,a5,<-a3]
  congr 1
  rw[<-Array.foldl_toList];simp
 have e:(Za3 P an r.fn N l c cs Φ).ds=[]:=rfl;rw[e,ae]at this;have e2:(l0.params.zip vs.toArray).size=l0.params.size:=by simp at u⊢;omega
 rw[e2]at this;exact this
def Zq9{an i df}(hf:cf P an i=sO df)(hres:df.res=[]){args m s Ψ}(hm:∀d,m=sO d->Zka d)(h:∀F:Fr P,Zaq F m Ψ false->F.b.fn=i->F.N=df.n->F.an=an->Zw F [.code df.body] (K6 0 args) [] s):JY P i args m s Ψ:=by
 have ai:=hf;unfold cf at hf;split at hf<;>(try(grind;done));rename_i fn ae;split at hf<;>(try(grind;done));rename_i c hc;split at hf<;>(try(grind;done));rename_i ac;split at hf<;>simp at hf;rename_i rs d hrs hd;subst hf;refine⟨⟨fn,ae,by simp[hc],by simpa using ac⟩,λg w vs t cs hs ha u=>?_⟩;obtain⟨v,af,aj⟩:∃v,t.mode=Q8 m v false/\∀d,m=sO d->∀g w,Rep g w v d:=by
  cases m with
  |none=>exact⟨undef,u,λd hd=>by simp at hd⟩
  |some d =>obtain⟨v,h1,h2⟩:=u;obtain⟨v',r1,r2⟩:=ZqW (hm d rfl);have:=r2 g w v h2;subst this;exact⟨v,h1,λd' ad=>by simp at ad;subst ad;exact r1⟩
 have ag:({ t with mode:=Q8 m v false }:Frame)=t:=by rw[<-af]
 have ab:Frame.enter P i vs.toArray .deferred=(Y7 P an i fn.ntmps t cs Ψ m v false).b.atR { tmps:=vs.toArray++Array.replicate (fn.ntmps-I vs) undef,defers:=[] } [.code c]:=by simp[Frame.enter,Frame.atR,ae,hc,Y7]
 have:=h _ ⟨an,i,_,t,cs,v,ai,hres,af,aj,rfl⟩ rfl rfl rfl [.code c] (.code hd .nil) g (λ_=>0) w (vs.toArray++Array.replicate (fn.ntmps-I vs) undef) (by simp[Y7];omega) (ZgO hs ha);obtain⟨g',w',s',b,a1,a2,a3,a4⟩:=this;refine⟨g',w',s',b,a1,a2,a3,?_⟩;rw[ab];have ah:(Y7 P an i fn.ntmps t cs Ψ m v false).cs=t::cs:=by simp[Y7,ag]
 rw[ah]at a4;exact a4
def Zt4{an f df}(i:cf P an f=sO df){args s Φ}(h:∀F:Fr P,YJ F df.res Φ []->F.b.fn=f->F.N=df.n->F.an=an->Zw F [.code df.body] (K6 0 args) [] s):Za P f args s Φ :=
 ZiY i λt=>h _ ⟨an,f,df,t,i,rfl,rfl⟩ rfl rfl rfl
end
def ZyW(C:Px)(ih:Ih):Prop:=∀fm dk H U nx o,ih fm dk H U nx=sO o->∀(F:Fr C.P) J ρd s,FmR C J fm o F->Z5 J [] H ρd->Yu J nx->Sim C J U s->Zw F dk ρd [] s
def Jp(C:Px)(ih:Ih):Prop:=∀t,ZyW ⟨C.toCx,t⟩ ih
def Jp.at{C ih}(h:Jp C ih):ZyW C ih:=h C.t
def Zms(J:Nm):Option V->Option D->Prop
 |some v,sO d=>VR J v d
 |none,nO=>True
 |_,_=>False
section
variable {C:Px} {ih:Ih}
def ZAk{J m md}(h:Zms J m md)(hr:ZwF m=true):∀d,md=sO d->Zka d:=λd hd=>by
 subst hd;cases m with
 |none=>exact h.elim
 |some v =>have u:VR J v d:=h;cases u<;>simp[ZwF]at hr;rename_i t v d u;have i:=u;cases u<;>first|exact Ziu (by assumption) hr|exact Zvq i hr
def Zhz(hih:Jp C ih):∀{ds m U nx m' U' nx'},Zne C ih ds m U nx=sO (m',U',nx')->∀{J dds md s},DdR J ds dds->Yu J nx->Sim C J U s->Zms J m md ->
  ∀{Ψ},(∀J' md' s',J.Sub J'->Yu J' nx'->Sim C J' U' s'->Zms J' m' md'->Ψ md' s')->Unw C.P dds md s Ψ
 | [],m,U,nx,m',U',nx',h,J,dds,md,s,hd,hN,hS,hm,Ψ,hΨ=>by cases h;cases hd;exact hΨ J md s (Nm.Sub.refl _) hN hS hm
 |.mark q::r,m,U,nx,m',U',nx',h,J,dds,md,s,hd,hN,hS,hm,Ψ,hΨ=>by
  simp only[Zne]at h;split at h<;>(try(simp at h;done));rename_i hq;cases hd with
  |mark _ b _ r' hb t =>obtain⟨b',d,e0,e1,e2⟩:=hS.get hq (λn=>by simp);rw[hb]at e0;cases e0;cases e2;exact⟨e1,Zhz hih h t hN (hS.take hq hb) hm hΨ⟩
 |.fn i args caps::r,m,U,nx,m',U',nx',h,J,dds,md,s,hd,hN,hS,hm,Ψ,hΨ=>by
  simp only[Zne]at h;split at h<;>(try(simp at h;done));rename_i n body ac;obtain⟨hr,hh⟩:=ZB h;replace h:=hh;clear hh;split at h<;>(try(simp at h;done));rename_i b σ1 nx1 ab;cases hd with
  |fn _ _ _ da dc _ r' ha hc h1 h2 t =>
   refine⟨h1,h2,Zq9 (an:=C.an i) ac rfl (ZAk hm hr) λF hF e1 e2 e3=>?_⟩;refine hih.at _ _ _ _ _ _ ab F J _ s ⟨e1,e2,e3,md,_,hF,hm,?_⟩ (ZxU (ha.append hc)) hN hS;intro s1 b1 _ u hp;obtain⟨η1,d,g1,g2,g3,g4,g5⟩:=hp;simp only[V.bool.injEq]at u;subst u;exact Zhz hih h (t.mono g1) g2 g3 (by
    cases b with
    |true=>trivial
    |false =>
     cases m<;>cases md<;>first|trivial|exact hm.elim|exact VR.mono g1 hm) λη2 ad s2 k1 k2 k3 k4=>hΨ η2 ad s2 (g1.trans k1) k2 k3 k4
end
def ZDv(C:Cx)(r:ZbT)(st:Option DC)(busy:Bool)(lst:LSt):Prop:=match st,busy,lst with
 |none,false,.ready=>True
 |none,true,.busy=>True
 |some dj,false,.done j=>cc C.P (C.an r.fn) r.N j=sO dj
 |_,_,_=>False
section
variable {C:Px} {ih:Ih} {J:Nm} {U:S} {s:St} {H:T W} {ρd:Env} {nx:Nat}
def ZjP(hS:Sim C J U s){l b}(hb:J l=sO (.tip b)){st now busy U'}(h:loopTo U l st now busy=sO U'):
  ∃r lst,s b=sO (.loop r lst)/\(now=false->lst=.ready)/\(now=true->lst=.busy)/\∀lst',ZDv C r st busy lst'->Sim C J U' (s.upd b (.loop r lst')):=by
 unfold loopTo at h;split at h<;>(try(grind;done));rename_i f n ps a b0 ρ0 bs hl;obtain⟨ab,hh⟩:=ZB h;replace h:=hh;clear hh;cases h;obtain⟨b',d,e0,e1,e2⟩:=hS.get hl (λn=>by simp);rw[hb]at e0;cases e0;have t:bs=now:=by simpa using ab
 subst t;cases e2 with
 |loop _ _ _ _ _ _ _ _ r lst hf hn hps hlt ha hbb hρ hst =>
  subst hf;subst hn;refine⟨r,lst,e1,λi=>?_,λi=>?_,λlst' u=>hS.upd hl hb (.loop _ _ _ _ _ _ _ _ r lst' rfl rfl hps hlt ha hbb hρ ?_)⟩;subst i;cases lst<;>first|rfl|exact hst.elim
  subst i;cases lst<;>first|rfl|exact hst.elim
  cases st<;>cases busy<;>cases lst'<;>exact u
def Zvp(hih:Jp C ih){fm fell o}(h:ZwE C ih fm H U nx fell=sO o){F}(hF:FmR C J fm o F)(hρ:Z5 J [] H ρd)(hN:Yu J nx)(hS:Sim C J U s):
  (fell=true->Zw F [] ρd [] s)/\(fell=false->∀dk,Zw F (.code .ret::dk) ρd [] s):=by
 obtain⟨_,_,_,hk⟩:=hF;unfold ZwE at h;split at h
 .rename_i res i;rw[i]at hk;obtain⟨Φ,u,hI,ab,hΦ⟩:=hk;split at h<;>(try(grind;done));rename_i σ1 nx1 hu;split at h<;>simp at h;rename_i vs ac;subst h;have hU:Unw C.P u nO s (ZkW (nrm ρd) [] res Φ):=Zhz hih hu ab hN hS (md:=nO) trivial λη1 ad s1 k1 k2 k3 k4=>by
   cases ad with
   |some d=>exact k4.elim
   |none =>obtain⟨p,ds,g1,g2,g3⟩:=ZpJ k3 k2.o (hρ.nrm.mono k1) ac;exact⟨p,ds,_,s1,g1,g2,ZHx _,ZHw,hΦ _ _ ⟨η1,_,k1,k2,k3,Zx5 g3,rfl⟩⟩
  exact⟨λ_=>Zr5 (hI.finU hU),λ_ dk=>Zr5 (hI.retU hU)⟩
 rename_i l i;rw[i]at hk;obtain⟨b,Φ,hb,hI,hΦ⟩:=hk;split at h<;>simp at h;rename_i σ1 hl;subst h;obtain⟨r,lst,e1,_,e2,e3⟩:=ZjP hS hb hl;obtain rfl:=e2 rfl;refine⟨λhf=>?_,λhf dk=>?_⟩;subst hf;exact hI.fin e1 ZHw (hΦ _ _ ⟨J,_,Nm.Sub.refl _,hN,e3 .ready trivial,.bool true,rfl⟩);subst hf;exact hI.ret e1 ZHw (hΦ _ _ ⟨J,_,Nm.Sub.refl _,hN,e3 (.done .ret) rfl,.bool false,rfl⟩);rename_i pd rec i;rw[i]at hk;obtain⟨m,Ψ,hI,hm,hΨ⟩:=hk;split at h<;>cases h;have t:pd.isNone=m.isNone:=by cases pd<;>cases m<;>first|rfl|exact hm.elim
 have hq:Ψ (m.isNone ||rec) s:=hΨ s _ rfl (by simp[t]) ⟨J,_,Nm.Sub.refl _,hN,hS,by rw[t];exact .bool _,rfl⟩;exact⟨λ_=>hI.fin ZHw hq,λ_ dk=>hI.ret ZHw hq⟩
def Zhm(hih:Jp C ih){fm v d o}(h:ZmZ C ih fm H v U nx=sO o){F}(hF:FmR C J fm o F)(hρ:Z5 J [] H ρd)(hN:Yu J nx)(hS:Sim C J U s)(hv:VR J v d):Y4 F ρd [] d s:=by
 obtain⟨ae,_,_,hk⟩:=hF;unfold ZmZ at h;split at h
 .rename_i res i;rw[i]at hk;obtain⟨Φ,dds,hI,u,hΦ⟩:=hk;refine ZvL (hI.panU ?_);split at h<;>(try(grind;done))
  .rename_i σ1 ag hu;split at h<;>simp at h;rename_i vs af;subst h;exact Zhz hih hu u hN hS (md:=sO d) hv λη1 t s1 k1 k2 k3 k4=>by
    cases t with
    |some d=>exact k4.elim
    |none =>obtain⟨p,ds,g1,g2,g3⟩:=ZpJ k3 k2.o (hρ.nrm.mono k1) af;exact⟨p,ds,_,s1,g1,g2,ZHx _,ZHw,hΦ _ _ ⟨η1,_,k1,k2,k3,Zx5 g3,rfl⟩⟩
  rename_i v1 σ1 ag hu;cases h;exact Zhz hih hu u hN hS (md:=sO d) hv λη1 t s1 k1 k2 k3 k4=>by
   cases t with
   |none=>exact k4.elim
   |some d1=>exact⟨d1,s1,ZHx _,ZHw,hΦ _ _ ⟨η1,d1,k1,k2,k3,k4,rfl⟩⟩
 rename_i l i;rw[i]at hk;obtain⟨b,Φ,hb,hI,hΦ⟩:=hk;split at h<;>simp at h;rename_i ac ab;subst h;refine hI.pan ZHw (hΦ _ _ ⟨J,d,Nm.Sub.refl _,hN,hS,hv,rfl⟩) λan fn N c cs ad=>?_;subst ad;have:fn=fm.f:=ae;rw[this];exact⟨ac,ab⟩;grind
end
section
variable {P:Program}
def Zt5{F:Fr P}{d Ψ}(hF:Zaq F (sO d) Ψ false){kp dk o os H L s}(hg:o.guard=nO)(hk:o.k=.recover)(h:∀F':Fr P,Zaq F' (sO d) Ψ true->F'.b=F.b->F'.N=F.N->F'.an=F.an->DO F' kp dk os (Zv H o.dst (.d d)) L s):DO F kp dk (o::os) H L s:=by
 obtain⟨an,f,df,i,cs,v,hf,ai,ac,u,rfl⟩:=hF;refine Y1 λoo g Z w tmps t j r k ah ab ak af hd hN m hr al=>?_;have hw:=Z2 m ak (c:=true) (by rw[hg];rfl);have am:=Z9 ab (by rw[hk];rfl);rw[hk]at ab;obtain⟨args,ats,ao⟩:=ZhT ab;have aj:(execOp (Act.mk tmps []).eval oo).run P w=.ok .recover w:=by simp[execOp,ao,resolve,invoke,builtin]
 have ad:_root_.Go.step P (lone ((Y7 P an f df.n i cs Ψ (sO d) v false).b.atR ⟨tmps,[]⟩ (.inRegion t (j::r)::k)) (Y7 P an f df.n i cs Ψ (sO d) v false).cs w) =
   .next (lone ((Y7 P an f df.n i cs Ψ (sO d) v true).b.atR ((Act.mk tmps []).put oo.dst v) (.inRegion t r::k)) (Y7 P an f df.n i cs Ψ (sO d) v true).cs w):=by
  refine step_lone_go ?_;rw[stepGR_op ah hw,Oper.semAt_eq _ _ _ am];have ag:((Y7 P an f df.n i cs Ψ (sO d) v false).b.atR ⟨tmps,[]⟩ (.inRegion t (j::r)::k)).finish v=(Y7 P an f df.n i cs Ψ (sO d) v true).b.atR ((Act.mk tmps []).put oo.dst v) (.inRegion t r::k):=by rw[Frame.finish_atR,ah];rfl
  rw[<-ag];simp[stepG.apply,aj,Frame.atR,Y7,tryRecover,Q8]
 refine(ZeF P i cs Ψ).back _ _ _ _ (.one ad) ?_;obtain⟨ae,e1,e2,m'⟩:=Zfm m hN hd (v:=v) (e:=.d d) (u d rfl g w) [];rw[af,e1];exact h _ ⟨an,f,df,i,cs,v,hf,ai,ac,u,rfl⟩ rfl rfl rfl t r k hr al g Z w ae e2 m'
end
def WR.val{J L v d}(h:VR J v d):WR J L (.v v) (.d d):=⟨d,h,.inl rfl⟩
def WR.skp{J L}:WR J L .skip (.when false (.d (.bool false))):=rfl
def ZrW(J:Nm)(U:S)(s:St):Prop:=∀(k b:Nat) (vs:List V),ZaP (U.get k)=sO vs->J k=sO (.tip b)->∃ds ex,s b=sO (.cells (ds++ex))/\VRs J vs ds
def Q1(C:Px):Prop:=∀f g U vs v,C.lib f=sO g->g U vs=sO v->∀(J:Nm) ds s,VRs J vs ds->ZrW J U s->∃d,VR J v d/\Za C.P f ds s λr s'=>r=.ret d/\s'=s
section
variable {C:Px} {ih:Ih} {J:Nm} {U:S} {s:St} {H:T W} {ρd:Env} {nx:Nat}
def Zms.mono{J'}(i:J.Sub J'){a b}(h:Zms J a b):Zms J' a b:=by
 cases a<;>cases b<;>first|trivial|exact h.elim|exact VR.mono i h
def FmR.mono{J'}(t:J.Sub J'){fm o F}(h:FmR C J fm o F):FmR C J' fm o F:=by
 obtain⟨h1,h2,h3,h4⟩:=h;refine⟨h1,h2,h3,?_⟩;split at h4;obtain⟨Φ,i,a,b,c⟩:=h4;exact⟨Φ,i,a,b.mono t,λr s u=>c r s (u.mono t)⟩;obtain⟨b,Φ,a,c,d⟩:=h4;exact⟨b,Φ,t _ _ a,c,λr s u=>d r s (u.mono t)⟩;obtain⟨m,Ψ,a,c,d⟩:=h4;exact⟨m,Ψ,a,Zms.mono t c,λs b e1 e2 u=>d s b e1 e2 (u.mono t)⟩
def Zsq(t:Jp C ih){f args ds o}(h:(ZrG C f).run ih args U nx=sO o)(ha:VRs J args ds)(hN:Yu J nx)(hS:Sim C J U s):Za C.P f ds s (Zgq C J o):=by
 unfold ZrG at h;split at h;rename_i df i;exact Zt4 (an:=C.an f) i λF hI u e2 e3=>t.at _ _ _ _ _ _ h F J _ s ⟨u,e2,e3,_,[],hI,.nil,λ_ _ h=>h⟩ (ZxU ha) hN hS;grind
def ZmA(t:Q1 C)(i:Jp C ih){f args ds o}(h:(ZhP C f).run ih args U nx=sO o)(ha:VRs J args ds)(hN:Yu J nx)(u:Sim C J U s):Za C.P f ds s (Zgq C J o):=by
 unfold ZhP at h;split at h;rename_i g hg;simp only at h;split at h;simp at h;rename_i v hv;subst h;obtain⟨d,h1,h2⟩:=t f g U args v hg hv J ds s ha λ_ _ _ h hb=>u.cells h hb;exact h2.mono λr s' ⟨e1,e2⟩=>by subst e1;subst e2;exact⟨J,d,Nm.Sub.refl _,hN,u,h1,rfl⟩
 exact Zsq i h ha hN u;exact Zsq i h ha hN u
def ZmB(u:Q1 C)(t:Jp C ih){fv args fd ds o}(h:Znx C ih fv args U nx=sO o)(hf:VR J fv fd)(ha:VRs J args ds)(hN:Yu J nx)(hS:Sim C J U s):WN C.P fd ds s (Zgq C J o):=by
 cases hf<;>simp only[Znx,reduceCtorEq]at h;case fn f a c da dc h1 h2 =>refine Za.V (ZmA u t h ?_ hN hS);rw[ZHY];exact h1.append (ha.append h2)
 case yield l b hb =>
  split at h<;>(try(simp at h;done));rename_i f n ps a b0 ρ0 hl;obtain⟨i,hh⟩:=ZB h;replace h:=hh;clear hh;rw[Z0]at i;obtain⟨b',d,e0,e1,e2⟩:=hS.get hl (λn=>by simp);rw[hb]at e0;cases e0;cases e2 with
  |loop _ _ _ _ _ _ _ _ r lst hf hn hps hlt hca hcb hρ hst =>
   subst hf;subst hn;subst hps;have hr:lst=.ready:=by cases lst<;>first|rfl|exact hst.elim
   subst hr;refine Zrb (an:=C.an r.fn) e1 (by rw[<-ha.len];exact i) hca hcb rfl hlt λF hI e2 e3 e4=>?_;exact t.at _ _ _ _ _ _ h F J _ s ⟨e2,e3,e4,b,_,hb,hI,λ_ _ h=>h⟩ (ZqU hρ ha) hN hS
def Zxd(C:Px)(ih:Ih)(rest:Bx Rg)(dk:List WW)(os:List DOp):Prop :=
 ∀fm H U nx o,rest.run ih dk fm H U nx=sO o->∀(F:Fr C.P) J ρd s,FmR C J fm o F->Z5 J [] H ρd->Yu J nx->Sim C J U s->DO F nO dk os ρd [] s
def ZxS(hlib:Q1 C)(hih:Jp C ih){rest dk os}(hrest:Zxd C ih rest dk os){fm f dst g k}(hfk:ZjT k=true){o}(h:(goF C f rest dst g k).run ih dk fm H U nx=sO o){F}(hg:Zk ρd g=sO true)(hF:FmR C J fm o F)(hρ:Z5 J [] H ρd)(hN:Yu J nx)(hS:Sim C J U s):DO F nO dk (⟨dst,g,k⟩::os) ρd [] s:=by
 have af:∀{k:K},ZjT k=true->(gk k ||g.isNone)=true->(match (opF (C.mu f dst) dst.isSome k).run H U nx with
   |some ⟨v,U',ad⟩=>rest.run ih dk fm ((ZcD dst).run H (.v v)) U' ad
   |none=>nO)=sO o->DO F nO dk (⟨dst,g,k⟩::os) ρd [] s:=by
  intro k hfk ab h;split at h<;>(try(simp at h;done));rename_i v U' ad ah;exact ZDr hS hN hρ hg ab hfk ah λJ' e s2 k1 k2 k3 k4=>hrest _ _ _ _ _ h F J' _ s2 (hF.mono k1) (JM (hρ.mono k1) k4 dst) k2 k3
 cases k;case call fx xs =>
  simp only[goF]at h;split at h<;>(try(simp at h;done));rename_i fv u;split at h<;>(try(simp at h;done));rename_i vs ac;split at h<;>(try(simp at h;done));rename_i pan v U' ad i;obtain⟨p,fd,a1,a2,a3⟩:=Kw hρ u;obtain⟨q,ds,b1,b2,b3⟩:=ZaE hρ ac;have hV:=ZmB hlib hih i a3 b3 hN hS;refine Zbz hg rfl a1 b1 (ZaJ ds) b2 a2 hV (λd s' hp=>?_) (λd s' hp=>?_)
  .obtain⟨η1,d1,k1,k2,k3,k4,k5⟩:=hp;cases pan with
   |true=>simp at k5
   |false =>cases k5;exact hrest _ _ _ _ _ h F η1 _ s' (hF.mono k1) (JM (hρ.mono k1) (WR.val k4) dst) k2 k3
  obtain⟨η1,d1,k1,k2,k3,k4,k5⟩:=hp;cases pan with
  |false=>simp at k5
  |true =>cases k5;exact Zhm hih h (hF.mono k1) (hρ.mono k1) k2 k3 k4
 case panic x =>
  simp only[goF]at h;split at h<;>(try(simp at h;done));rename_i t v hv;obtain⟨p,d,a1,a2,a3⟩:=Kw hρ hv;cases a3 with
  |iface _ _ d hd=>exact Zmr hg rfl a1 a2 (Zhm hih h hF hρ hN hS (.iface _ _ _ hd))
 case defer fx xs =>
  simp only[goF]at h;split at h
  .simp only at h;split at h<;>(try(simp at h;done));rename_i j first caps vs u ac
   split at h<;>(try(simp at h;done));rename_i res hk;obtain⟨hr,hh⟩:=ZB h;replace h:=hh;clear hh;simp only[ZHG]at hr;obtain⟨p,fd,a1,a2,a3⟩:=Kw hρ u;obtain⟨q,ds,b1,b2,b3⟩:=ZaE hρ ac;cases a3 with
   |fn _ _ _ da dc h1 h2 =>obtain⟨f1,f2,f3,f4⟩:=hF;rw[hk]at f4;obtain⟨Φ,dds,hI,hd,hΦ⟩:=f4;have r1:=Ziu (h1.append b3) hr.1;have r2:=Ziu h2 hr.2;refine Zmq hI.roundOf rfl rfl rfl a1 b1 (ZaJ ds) b2 a2 r1 r2 (hrest _ _ _ _ _ h _ J _ s ⟨f1,f2,f3,?_⟩ hρ hN hS);simp only[hk];exact⟨Φ,_,hI.defer j (da++ds) dc,.fn _ _ _ _ _ _ _ (h1.append b3) h2 r1 r2 hd,hΦ⟩
  simp at h
 case recover =>
  simp only[goF]at h;split at h
  .simp only at h;obtain⟨f1,f2,f3,f4⟩:=hF;split at h
   .rename_i v hk;rw[hk]at f4;obtain⟨m,Ψ,hI,hm,hΨ⟩:=f4;cases m with
    |none=>exact hm.elim
    |some d =>refine Zt5 hI rfl rfl λF' ag e1 e2 e3=>hrest _ _ _ _ _ h F' J _ s ⟨by rw[e1];exact f1,by rw[e2];exact f2,by rw[e3];exact f3,?_⟩ (JM hρ (WR.val hm) dst) hN hS;exact⟨sO d,Ψ,ag,hm,hΨ⟩
   .rename_i rec hk;have ae:=f4;rw[hk]at f4;obtain⟨m,Ψ,hI,hm,hΨ⟩:=f4;cases m with
    |some d=>exact hm.elim
    |none=>exact Zgp hI rfl rfl (hrest _ _ _ _ _ h F J _ s ⟨f1,f2,f3,ae⟩ (JM hρ (WR.val .niliface) dst) hN hS)
   simp at h
  simp at h
 all_goals
  simp only[goF]at h;split at h;rename_i ab;exact af hfk ab h;simp at h
def Zvo(i:Q1 C)(t:Jp C ih){dk f}:∀{os},(os.all λo=>ZjT o.k)=true->Zxd C ih (ZpH C f os) dk os
 | [],_=>λfm H U nx o h F J ρd s hF u hN hS=>ZeO (t.at _ _ _ _ _ _ h F J ρd s hF u hN hS)
 |⟨dst,g,k⟩::os,hfk=>λfm H U nx o h F J ρd s hF u hN hS=>by simp only[List.all_cons,ZHG]at hfk;have IH:=Zvo i t (dk:=dk) (f:=f) hfk.2;simp[ZpH]at h;split at h;exact ZxS i t IH hfk.1 h rfl hF u hN hS;simp only at h;split at h<;>(try(grind;done));rename_i b hb;have hg:=ZqD u hb;split at h;exact ZxS i t IH hfk.1 h hg hF u hN hS;exact JB (e:=.d (.bool false)) hg (IH _ _ _ _ _ h F J _ s hF (JM u WR.skp dst) hN hS)
end
section
variable {P:Program}
def Zr7{F:Fr P}(hr:F.b.roundOf=nO){o ps da db dk H L s p fv}(hf:Zy H true o=sO (p,.d fv))(hp:p)(ks)(hks:(Yn H ks).map (·.1) |>.Nodup)(h:∀q l r,s q=nO->s l=nO->q≠l->r.H=Kd ks H->r.params=ps->r.fn=F.b.fn->cc P F.an F.N r.assign=sO da->cc P F.an F.N r.body=sO db->r.N=F.N->(∀t∈ps,t<F.N) ->
   ∃Ψ,WN P fv [.fn (.yield l) [] []] ((s.upd q .dfr).upd l (.loop r .ready)) Ψ/\(∀d s',Ψ (.ret d) s'->∃r',Zi8 (F.mark q) l r' dk H L s')/\(∀d s',Ψ (.panic d) s'->Y4 (F.mark q) H L d s')):
  Zw F (.code (.rangeF o ps da db)::dk) H L s:=by
 intro k hk;cases hk with
 | @code _ _ kt _ hc ht =>
 obtain⟨f',al,a',b',rfl,ar,ay,ha,hb,aw⟩:=Zqj hc;intro g Z w tmps hN m;have au:Rep g w _ fv:=ZX m ar rfl hf hp F.ds;have ah:=J4 (g:=g) (w:=w) (.deferred (sO [])) m.st.fresh;have af:=ah.ext m.st.fresh;obtain⟨hq,m1⟩:=m.newObj ah (o:=.dfr) ⟨(m.st.fresh _ (ZHK _)).1,Kf w⟩;let w1:=w.alloc (.deferred (sO []));let lp:Go.Loop:={ state:=.ready,pending:=nO,fn:=F.b.fn,tmps:=tmps,params:=al,assign:=a',body:=b',defers:=w.heap.size };let r:ZbT:={ fn:=F.b.fn,params:=ps,assign:=a',body:=b',defers:=w.heap.size,H:=Kd ks H,N:=F.N };have ai:=J4 (g:=g) (w:=w1) (.loop lp) m1.st.fresh;have ad:=ai.ext m1.st.fresh;obtain⟨hl,m2⟩:=m1.newObj ai (o:=.loop r .ready) ⟨(m1.st.fresh _ (ZHK _)).1,lp,Kf w1,rfl,ay,rfl,rfl,rfl,hN,λt e aq=>by
  obtain⟨h1,h2⟩:=Zem hks aq;exact Zou (((m1.env t e (ZdG H ks t e h1))).mono ad) h2,rfl,rfl⟩
 have hqsz:w1.heap.size=w.heap.size+1:=by simp[w1]
 have av:s w1.heap.size=nO:=by have ax:¬w1.heap.size=w.heap.size:=ω;have h0:(s.upd w.heap.size .dfr) w1.heap.size=nO:=hl;simp[ZH7,ax]at h0;exact h0
 obtain⟨Ψ,hV,ak,aj⟩:=h w.heap.size w1.heap.size r hq av ω rfl rfl rfl ha hb rfl aw;have ae:Rep g (w1.alloc (.loop lp)) _ fv:=(au.mono af).mono ad;obtain⟨d,nx,fr,am,ao,ap,hC⟩:=hV (ZfR g Z L) (w1.alloc (.loop lp)) _ [.func (.yield w1.heap.size) #[] #[]] m2.callSt (Wt ae rfl) (.cons (.fn (.yield w1.heap.size) [] [] [] [] rfl rfl ψ ψ) .nil);have ac:(Instr.enterLoop F.b.fn tmps al a' b' F.b.roundOf).run P w=.ok (w1.heap.size,[{ target:=.collected w.heap.size,args:=#[] }]) (w1.alloc (.loop lp)):=by rw[hr];simp[Instr.enterLoop,w1,lp]
 have ab:=Zhw (P:=P) (b:=F.b) (a:=⟨tmps,F.ds⟩) (k:=kt) (cs:=F.cs) ac am ao ap;obtain⟨e,w',⟨g',s',res,x1,x2,x3,x4⟩,i⟩:=hC (F.b.atR { tmps:=tmps,defers:=[{ target:=.collected w.heap.size,args:=#[] }]++F.ds } (.inRangeFunc w1.heap.size::kt)) F.cs;obtain⟨ag,hm⟩:=m2.afterCall x1 x2;have u:=(af.trans ad).trans ag;cases e with
 |returned v =>
  cases res with
  |panic d=>exact x3.elim
  |ret d =>refine F.T.back _ _ _ _ (.head ab i) ?_;exact F.T.ext _ _ _ _ _ u ((ak d s' x4).elim λ_ az=>Zot (F:=F.mark w.heap.size) ht hN hm az)
 |panicked ch =>
  cases res with
  |ret d=>exact x3.elim
  |panic d =>obtain⟨v,rfl,hv⟩:=x3;refine F.T.back _ _ _ _ (.head ab i) ?_;exact F.T.ext _ _ _ _ _ u (aj d s' x4 _ _ _ v _ _ hN hm (Wt hv rfl))
 |outgrown=>exact i.elim
end
def Zic{H}:∀{ks t},t∈(Yn H ks).map (·.1)->t∈ks
 | [],t,h=>by cases h
 |k::ks,t,h=>by simp only[Yn]at h;split at h;simp only[ZHM,ZIa]at h;rcases h with rfl|h;simp;exact List.mem_cons_of_mem _ (Zic h);exact List.mem_cons_of_mem _ (Zic h)
def ZgH{H}:∀{ks},ks.Nodup->((Yn H ks).map (·.1)).Nodup
 | [],_=>by simp[Yn]
 |k::ks,h=>by simp at h;simp[Yn];split;simp only[ZHM,List.nodup_cons];exact⟨λi=>h.1 (Zic i),ZgH h.2⟩;exact ZgH h.2
section
variable {C:Px} {ih:Ih}
def ZrX(C:Px)(ih:Ih)(f:FuncId)(c:DC):Prop :=
 ∀fm k H U nx o,(Zar C f c).run ih fm k H U nx=sO o->fm.f=f->∀(F:Fr C.P) J ρd s,FmR C J fm o F->Z5 J [] H ρd->Yu J nx->Sim C J U s->Zw F (.code c::k) ρd [] s
def Znq(C:Px)(ih:Ih):Prop:=∀f order ops kp,ZrX C ih f (.regD order ops kp)
def Zyi(hlib:Q1 C)(hih:Jp C ih){f g ps a b}:ZrX C ih f (.rangeF g ps a b):=by
 intro fm k H U nx o h hf F J ρd s hF hρ hN hS;simp[Zar]at h;split at h<;>(try(grind;done));rename_i res hk;split at h<;>(try(grind;done));rename_i fv aj;split at h<;>(try(grind;done));rename_i pan v U' nx' ab;obtain⟨p,fd,a1,a2,a3⟩:=Kw hρ aj;obtain⟨f1,f2,f3,f4⟩:=hF;rw[hk]at f4;obtain⟨Φ,dds,hI,ai,hΦ⟩:=f4;refine Zr7 hI.roundOf a1 a2 Zpg (ZgH List.nodup_range) λq l r hq hl ao hr am hfn ag ah hrN al=>?_;have f0:=hN.free nx (ZHK _);have n1:J.Sub (J.put nx (.tip q)):=Nm.put_sub f0 _;have ad:=hN.put (.tip q);have S1:Sim C (J.put nx (.tip q)) (U.set (sO .dfr) nx) (s.upd q .dfr):=hS.new f0 hq .dfr;have ac:=ad.free (nx+1) (ZHK _);have n2:(J.put nx (.tip q)).Sub ((J.put nx (.tip q)).put (nx+1) (.tip l)):=Nm.put_sub ac _;have af:=ad.put (.tip l);have ak:(s.upd q .dfr) l=nO:=by rw[ZHD s _ (Ne.symm ao)];exact hl
 have S2:=S1.new ac ak (o:=.loop fm.f fm.n ps a b H nO false) (d:=.loop r .ready)
  (.loop _ _ _ _ _ _ _ _ r .ready (by simp_all) (by simp_all) am (by rw[<-f2];exact al) (by rw[<-f3,<-f2];exact ag) (by rw[<-f3,<-f2];exact ah) (by rw[hr];exact(hρ.round.mono n1).mono n2) trivial)
 have hV:=ZmB hlib hih ab ((a3.mono n1).mono n2) (.one (.yield _ _ Nm.put_same)) af S2;have u:∀{J':Nm},((J.put nx (.tip q)).put (nx+1) (.tip l)).Sub J'->FmR C J' { fm with ds:=.mark nx::fm.ds } o (F.mark q):=λ{J'} hs=>by refine⟨f1,f2,f3,?_⟩;simp[hk];exact⟨Φ,_,hI.mark q,.mark _ _ _ _ (hs _ _ (n2 _ _ Nm.put_same)) (ai.mono (n1.trans (n2.trans hs))),λr s hp=>hΦ r s (hp.mono (n1.trans (n2.trans hs)))⟩
 refine⟨_,hV,λd s' hp=>?_,λd s' hp=>?_⟩
 .obtain⟨η1,d1,k1,k2,k3,k4,k5⟩:=hp;cases pan with
  |true=>grind
  |false =>
   simp only at h;have t:η1 (nx+1)=sO (.tip l):=k1 _ _ Nm.put_same;have ae:Z5 η1 [] H ρd:=hρ.mono (n1.trans (n2.trans k1));split at h<;>(try(grind;done))
   .rename_i i;obtain⟨b',dd,e0,e1,e2⟩:=k3.get i (λn=>by simp);rw[t]at e0;cases e0;cases e2 with
    |loop _ _ _ _ _ _ _ _ r' lst hf' hn' hps' hlt' ha' hb' hρ' hst =>
     have ap:lst=.ready:=by cases lst<;>first|rfl|exact hst.elim
     subst ap;exact⟨r',.inl ⟨e1,hih.at _ _ _ _ _ _ h (F.mark q) η1 ρd _ (u k1) ae k2 (k3.take i t)⟩⟩
   rename_i f' n' _ _ _ _ j i;obtain⟨hc,hh⟩:=ZB h;replace h:=hh;clear hh;simp at hc;obtain⟨rfl,rfl⟩:=hc;obtain⟨b',dd,e0,e1,e2⟩:=k3.get i (λn=>by simp);rw[t]at e0;cases e0;cases e2 with
   |loop _ _ _ _ _ _ _ _ r' lst hf' hn' hps' hlt' ha' hb' hρ' hst =>
    cases lst with
    |done j'=>exact⟨r',.inr ⟨j',j,e1,by show cc C.P F.an F.N j'=_;rw[f3,f2];exact hst,hih.at _ _ _ _ _ _ h (F.mark q) η1 ρd _ (u k1) ae k2 (k3.take i t)⟩⟩
    |_=>exact hst.elim
 obtain⟨η1,d1,k1,k2,k3,k4,k5⟩:=hp;cases pan with
 |false=>grind
 |true =>cases k5;exact Zhm hih h (u k1) (hρ.mono (n1.trans (n2.trans k1))) k2 k3 k4
def ZaH(hlib:Q1 C)(hih:Jp C ih)(hD:Znq C ih){f}:∀c,ZrX C ih f c
 |.skip=>λfm k H U nx o h hf F J ρd s hF hρ hN hS=>ZI (hih.at _ _ _ _ _ _ h F J ρd s hF hρ hN hS)
 |.label _=>λfm k H U nx o h hf F J ρd s hF hρ hN hS=>Yx (hih.at _ _ _ _ _ _ h F J ρd s hF hρ hN hS)
 |.seq a b=>λfm k H U nx o h hf F J ρd s hF hρ hN hS=>Zc (ZaH hlib hih hD a _ _ _ _ _ _ h hf F J ρd s hF hρ hN hS)
 |.block id a=>λfm k H U nx o h hf F J ρd s hF hρ hN hS=>Zd (ZaH hlib hih hD a _ _ _ _ _ _ h hf F J ρd s hF hρ hN hS)
 |.loop a=>λfm k H U nx o h hf F J ρd s hF hρ hN hS=>ZaA (ZaH hlib hih hD a _ _ _ _ _ _ h hf F J ρd s hF hρ hN hS)
 |.scope a=>λfm k H U nx o h hf F J ρd s hF hρ hN hS=>Yr (ZaH hlib hih hD a _ _ _ _ _ _ h hf F J ρd s hF hρ hN hS)
 |.cond c a b=>λfm k H U nx o h hf F J ρd s hF hρ hN hS=>by
  simp[Zar]at h;split at h<;>(try(grind;done));rename_i v hv;obtain⟨p,d,a1,a2,a3⟩:=Kw hρ hv;cases a3<;>simp at h;rename_i t;cases t with
  |true=>exact Zn a1 a2 (λ_=>ZaH hlib hih hD a _ _ _ _ _ _ h hf F J ρd s hF hρ hN hS) (λh=>by grind)
  |false=>exact Zn a1 a2 (λh=>by grind) (λ_=>ZaH hlib hih hD b _ _ _ _ _ _ h hf F J ρd s hF hρ hN hS)
 |.goto l=>λfm k H U nx o h hf F J ρd s hF hρ hN hS=>by simp[Zar]at h;split at h<;>(try(grind;done));rename_i k' i;exact Zxc i (hih.at _ _ _ _ _ _ h F J ρd s hF hρ hN hS)
 |.ret=>λfm k H U nx o h hf F J ρd s hF hρ hN hS=>(Zvp hih h hF hρ hN hS).2 rfl k
 |.exit id=>λfm k H U nx o h hf F J ρd s hF hρ hN hS=>by simp[Zar]at h;split at h;rename_i k' i;exact ZS i (hih.at _ _ _ _ _ _ h F J ρd s hF hρ hN hS);rename_i hx;split at h<;>(try(grind;done));rename_i l hk;split at h<;>simp at h;rename_i σ1 hl;subst h;obtain⟨f1,f2,f3,f4⟩:=hF;rw[hk]at f4;obtain⟨b,Φ,hb,hI,hΦ⟩:=f4;obtain⟨r,lst,e1,_,e2,e3⟩:=ZjP hS hb hl;obtain rfl:=e2 rfl;exact hI.exit hx e1 ZHw (hΦ _ _ ⟨J,_,Nm.Sub.refl _,hN,e3 (.done (.exit id)) rfl,.bool false,rfl⟩)
 |.reg ops kp=>λfm k H U nx o h hf F J ρd s hF hρ hN hS=>by simp[Zar]at h;split at h<;>(try(grind;done));split at h<;>(try(grind;done));rename_i u;exact ZhI (Zvo hlib hih u _ _ _ _ _ h F J ρd s hF hρ hN hS)
 |.regD order ops kp=>hD f order ops kp
 |.rangeF g ps a b=>Zyi hlib hih
def ZBX(u:Q1 C)(t:Jp C ih)(hD:Znq C ih):ZyW C (step C ih):=by
 intro fm dk H U nx o h F J ρd s hF hρ hN hS;unfold step at h;split at h;exact(Zvp t h hF hρ hN hS).1 rfl;split at h;exact Zs (t.at _ _ _ _ _ _ h F J ρd s hF hρ hN hS);exact Z3 (t.at _ _ _ _ _ _ h F J ρd s hF hρ hN hS);exact Ze (ZaH u t hD _ _ _ _ _ _ _ h rfl F J ρd s hF hρ hN hS);·split at h<;>(try(grind;done));rename_i l hk;split at h<;>(try(grind;done));rename_i σ1 hl;have i:=hF;obtain⟨f1,f2,f3,f4⟩:=hF;rw[hk]at f4;obtain⟨b,Φ,hb,hI,hΦ⟩:=f4;obtain⟨r,lst,e1,e2,_,e3⟩:=ZjP hS hb hl;obtain rfl:=e2 rfl;exact hI.begin e1 (t.at _ _ _ _ _ _ h F J ρd _ i hρ hN (e3 .busy trivial))
 exact ZaH u t hD _ _ _ _ _ _ _ h rfl F J ρd s hF hρ hN hS
def Zoy{C}(hlib:∀t,Q1 ⟨C,t⟩)(hD:∀(C':Px) ih,C'.toCx=C->Jp C' ih->Znq C' ih):∀n t,Jp ⟨C,t⟩ (run C n)
 |0,_=>λ_ fm dk H U nx o h=>by cases h
 |n+1,_=>λt=>ZBX (hlib t) (Zoy hlib hD n t) (hD ⟨C,t⟩ _ rfl (Zoy hlib hD n t))
end
def ZjL{s s' L L'}:∀{B},(∀n b,(n,.blk b)∈B->s' b=s b)->(∀n l,(n,.loc l)∈B->Zg L' l=Zg L l)->KY s s' L L' B
 | [],_,_=>trivial
 | (n,.blk b)::B,h1,h2=>⟨h1 n b ψ,ZjL (λm b i=>h1 m b (by simp[i])) (λm l t=>h2 m l (by simp[t]))⟩
 | (n,.loc l)::B,h1,h2=>⟨h2 n l ψ,ZjL (λm b i=>h1 m b (by simp[i])) (λm l t=>h2 m l (by simp[t]))⟩
def Zfh{n}:∀{l},Zan n l=true↔n∈l
 | []=>by simp[Zan]
 |a::r=>by simp[Zan,Zfh (l:=r)];constructor;rintro(h|h);exact .inl h.symm;exact .inr h;rintro(h|h);exact .inl h.symm;exact .inr h
def Zf0{fl s s' L L' B}(t:∀n b,n∈fl->(n,.blk b)∈B->s' b=s b)(u:∀n l,n∈fl->(n,.loc l)∈B->Zg L' l=Zg L l):Wg fl s s' L L' B :=
 ZjL (λn b i=>t n b (Zfh.1 (QG.1 i).1) (QG.1 i).2) (λn b i=>u n b (Zfh.1 (QG.1 i).1) (QG.1 i).2)
def Zc8{n}:∀{l},ZgL n l=true↔n∈l
 | []=>by simp[ZgL]
 |a::r=>by simp only[ZgL];split;rename_i h;rw[Z0]at h;simp[h];rename_i h;have:¬n=a:=λe=>h (by simp_all);rw[Zc8];simp[this]
def Zse{n m l}(h:m=n\/m∈l):m∈Zy2 n l:=by
 unfold Zy2;split;rename_i hm;rcases h with rfl|h;exact Zc8.1 hm;exact h;rcases h with rfl|h<;>simp[*]
def Zft{fl n k}(i:n∈fl):∀{l},(n,k)∈l->k∈Zm7 fl l
 | [],h=>by grind
 | (t,m)::r,h=>by simp[Zm7];rcases List.mem_cons.1 h with h|h;cases h;rw[if_pos (Zc8.2 i)];exact Zse (.inl rfl);split;exact Zse (.inr (Zft i h));exact Zft i h
def ZfZ{fl n k}(i:n∈fl):∀{l},(n,k)∈l->(n,k)∈ZfY fl l
 | [],h=>by grind
 | (t,m)::r,h=>by simp[ZfY];rcases List.mem_cons.1 h with h|h;cases h;rw[if_pos (Zc8.2 i)];simp;split;exact List.mem_cons_of_mem _ (ZfZ i h);exact ZfZ i h
def ZqA{u}:∀{r},ZjD u r=nO->∀x∈r,x.1≠u
 | [],_,x,h=>by grind
 | (t,a)::r,hn,x,h=>by simp only[ZjD]at hn;split at hn;grind;rename_i i;rcases List.mem_cons.1 h with rfl|h;exact λe=>i (Z0.2 e);exact ZqA hn x h
def ZmP{u a}:∀{r},ZjD u r=sO a->(u,a)∈r
 | [],h=>by cases h
 | (t,b)::r,h=>by simp only[ZjD]at h;split at h;rename_i i;rw[Z0]at i;cases h;subst i;simp;exact List.mem_cons_of_mem _ (ZmP h)
def ZmQ{l vs x}:∀{r},Kr x (Zkt l vs r)=if x=l then (match Kr l r with
  |some _=>sO vs
  |none=>nO) else Kr x r
 | []=>by simp[Zkt,Kr]
 | (t,c)::r=>by simp[Zkt];by_cases u:t=l;subst u;simp_all;simp[Kr];by_cases i:x=t;subst i;simp;simp_all;have:¬Nat.beq t x=true:=λh=>i (Z0.1 h).symm;simp_all;simp_all;simp[Kr];rw[ZmQ (r:=r)];by_cases i:x=l;subst i;simp_all;simp[i]
def ZqZ{l vs}:∀{r},(Zkt l vs r).map (·.1)=r.map (·.1)
 | []=>rfl
 | (t,c)::r=>by simp[Zkt];split;simp;simp[ZqZ (r:=r)]
def ZqB{l}:∀{r},Kr l r=nO->l∉r.map (·.1)
 | [],_=>by simp
 | (t,c)::r,h=>by simp only[Kr]at h;split at h;grind;rename_i i;simp only[ZHM,ZIa,not_or];exact⟨λe=>i (Z0.2 e.symm),ZqB h⟩
def Zb2{o}(h:Zkc o=true):ZbE o=false/\∀n,o≠.tok n:=by
 cases o<;>simp[Zkc]at h<;>exact⟨rfl,λn=>by simp⟩
def Zle:∀{ks U σ0 l},ZjX ks U=sO (σ0,l) ->
  (∀k o,σ0.get k=sO o->(U.get k=sO o/\∀t,(k,t)∉l)\/∃t,o=.ro t/\(k,t)∈l)/\(∀k o,(k,o)∈l->U.get k=sO o/\Zkc o=true)/\∀k∈ks,(∃o,(k,o)∈l)\/∃o,U.get k=sO (.ro o)
 | [],U,σ0,l,h=>by cases h;exact⟨λk o h=>.inl ⟨h,λ_ h=>by simp at h⟩,λk o h=>by simp at h,λk h=>by simp at h⟩
 |k::ks,U,σ0,l,h=>by simp[ZjX]at h;split at h<;>(try(grind;done));rename_i o ho;split at h;rename_i i;split at h<;>simp at h;rename_i U' l' hr;obtain⟨rfl,rfl⟩:=h;obtain⟨h1,h2,h3⟩:=Zle hr;refine⟨λk' t h=>?_,λk' t h=>?_,λk' h=>?_⟩;rcases h1 k' t h with ⟨h4,h5⟩|⟨o2,rfl,h4⟩;rcases T.get_set h4 with ⟨rfl,u⟩|⟨h0,u⟩;simp at u;exact .inr ⟨o,u.symm,ψ⟩;refine .inl ⟨u,λo2 hm=>?_⟩;rcases List.mem_cons.1 hm with hm|hm;simp at hm;exact h0 hm.1;exact h5 o2 hm;exact .inr ⟨o2,rfl,by simp[h4]⟩;rcases List.mem_cons.1 h with h|h;cases h;exact⟨ho,i⟩;obtain⟨h4,h5⟩:=h2 k' t h;rcases T.get_set h4 with ⟨rfl,u⟩|⟨_,u⟩;cases u;cases h5;exact⟨u,h5⟩;rcases List.mem_cons.1 h with rfl|h;exact .inl ⟨o,ψ⟩;rcases h3 k' h with ⟨t,h⟩|⟨t,h⟩;exact .inl ⟨t,by simp[h]⟩;rcases T.get_set h with ⟨rfl,_⟩|⟨_,h⟩;exact .inl ⟨o,ψ⟩;exact .inr ⟨t,h⟩;split at h<;>(try(grind;done));rename_i i;obtain⟨h1,h2,h3⟩:=Zle h;refine⟨h1,h2,λk' hk=>?_⟩;rcases List.mem_cons.1 hk with rfl|hk;cases o<;>cases i;exact .inr ⟨_,ho⟩;exact h3 k' hk
def Zso:∀{l U σ2},ZkZ l U=sO σ2->(∀k o,σ2.get k=sO o->(k,o)∈l\/(U.get k=sO o/\∀o',(k,o')∉l))/\∀k o,(k,o)∈l->∃o',U.get k=sO (.ro o')
 | [],U,σ2,h=>by cases h;exact⟨λk o h=>.inr ⟨h,λ_ h=>by simp at h⟩,λk o h=>by simp at h⟩
 | (k',o')::l,U,σ2,h=>by simp[ZkZ]at h;split at h<;>(try(grind;done));rename_i o1 ho;split at h<;>simp at h;rename_i U' hb;subst h;obtain⟨h1,h2⟩:=Zso hb;refine⟨λk o h=>?_,λk o h=>?_⟩;rcases T.get_set h with ⟨rfl,i⟩|⟨u,i⟩;cases i;exact .inl ψ;rcases h1 k o i with t|⟨t,h5⟩;exact .inl (by simp[t]);refine .inr ⟨t,λo2 hm=>?_⟩;rcases List.mem_cons.1 hm with hm|hm;simp at hm;exact u hm.1;exact h5 o2 hm;rcases List.mem_cons.1 h with h|h;cases h;exact⟨o1,ho⟩;exact h2 k o h
section
variable {C:Px} {J J':Nm} {U σ0 U' σ2:S} {s s':St}
def Zsa(C:Px)(J:Nm)(l:List (Nat×O))(s t:St):Prop :=
 (∀b d,C.t b=sO d->t b=sO d)/\(∀k o b,(k,o)∈l->J k=sO (.tip b)->t b=s b)/\∀b d,t b=sO d->C.t b=sO d\/∃k o,(k,o)∈l/\J k=sO (.tip b)
open Classical in
def Sim.lend(hS:Sim C J U s){ks l}(h:ZjX ks U=sO (σ0,l)):∃t,Sim ⟨C.toCx,t⟩ J σ0 s/\Zsa C J l s t:=by
 obtain⟨h1,h2,_⟩:=Zle h;have hM:∀b k o,(k,o)∈l->J k=sO (.tip b)->∃d,s b=sO d/\OR C J k o d:=λb k o hm hb=>by obtain⟨g1,g2⟩:=h2 k o hm;obtain⟨b',d,e1,e2,e3⟩:=hS.get g1 (Zb2 g2).2;rw[hb]at e1;simp only[ZHu,Tok.tip.injEq]at e1;subst e1;exact⟨d,e2,e3⟩
 have ab:∀k o,σ0.get k=sO o->∃o',U.get k=sO o':=λk o hk=>by rcases h1 k o hk with ⟨g,_⟩|⟨o',_,g⟩;exact⟨o,g⟩;exact⟨o',(h2 k o' g).1⟩
 let t:St:=λb=>if ∃k o,(k,o)∈l/\J k=sO (.tip b) then s b else C.t b
 have i:∀b,(∃k o,(k,o)∈l/\J k=sO (.tip b))->t b=s b:=λb hb=>by simp only[t];rw[if_pos hb]
 have u:∀b,¬(∃k o,(k,o)∈l/\J k=sO (.tip b))->t b=C.t b:=λb hb=>by simp only[t];rw[if_neg hb]
 have hL:Zsa C J l s t:=by refine⟨λb d hb=>?_,λk o b hm hb=>i b ⟨k,o,hm,hb⟩,λb d hb=>?_⟩;by_cases hm:∃k o,(k,o)∈l/\J k=sO (.tip b);rw[i b hm];exact(hS.kp b d hb).1;rw[u b hm];exact hb;by_cases hm:∃k o,(k,o)∈l/\J k=sO (.tip b);exact .inr hm;rw[u b hm]at hb;exact .inl hb
 refine⟨t,⟨λk o hk=>?_,λk k' o o' b hk ac e e'=>?_,λb d hb=>?_,λk o b hk e=>?_⟩,hL⟩;rcases h1 k o hk with ⟨g,_⟩|⟨o',rfl,g⟩;exact hS.obj k o g;obtain⟨g1,g2⟩:=h2 k o' g;obtain⟨b,d,e1,e2,e3⟩:=hS.get g1 (Zb2 g2).2;exact⟨_,e1,.inl ⟨b,d,rfl,e2,.ro o' d e3 (Zb2 g2).1 (Zb2 g2).2⟩⟩;obtain⟨o1,g1⟩:=ab _ _ hk;obtain⟨o2,g2⟩:=ab _ _ ac;exact hS.inj k k' o1 o2 b g1 g2 e e';have hb:t b=sO d:=hb;by_cases hm:∃k o,(k,o)∈l/\J k=sO (.tip b);refine⟨by rw[<-i b hm];exact hb,λk' o' hk hr e=>?_⟩;obtain⟨k,o,hm,hb⟩:=hm;rcases h1 k' o' hk with ⟨g,g'⟩|⟨o2,rfl,_⟩;have:=hS.inj k k' o o' b (h2 k o hm).1 g hb e;subst this;exact g' o hm;simp[ZbE]at hr;rw[u b hm]at hb;refine⟨(hS.kp b d hb).1,λk' o' hk hr e=>?_⟩;rcases h1 k' o' hk with ⟨g,_⟩|⟨o2,rfl,_⟩;exact(hS.kp b d hb).2 k' o' g hr e;simp[ZbE]at hr;show ∃d,t b=sO d;rcases h1 k _ hk with ⟨g,_⟩|⟨o',e0,g⟩;obtain⟨d,hd⟩:=hS.ro k o b g e;exact⟨d,hL.1 b d hd⟩;simp only[O.ro.injEq]at e0;subst e0;obtain⟨d,hd,_⟩:=hM b k o g e;exact⟨d,by rw[hL.2.1 k o b g e];exact hd⟩
def Sim.unlend(hS:Sim C J U s){ks l}(h:ZjX ks U=sO (σ0,l)){t}(hL:Zsa C J l s t)(hs:J.Sub J')(hS':Sim ⟨C.toCx,t⟩ J' U' s')(hb:ZkZ l U'=sO σ2):
  Sim C J' σ2 s'/\∀k b,k∈ks->J k=sO (.tip b)->s' b=s b:=by
 obtain⟨h1,h2,h3⟩:=Zle h;obtain⟨b1,b2⟩:=Zso hb;obtain⟨l1,l2,l3⟩:=hL;have hM:∀k o b,(k,o)∈l->J k=sO (.tip b)->∃d,s b=sO d/\s' b=sO d/\OR C J k o d:=λk o b hm hb=>by obtain⟨g1,g2⟩:=h2 k o hm;obtain⟨b',d,e1,e2,e3⟩:=hS.get g1 (Zb2 g2).2;rw[hb]at e1;cases e1;exact⟨d,e2,(hS'.kp b d (by show t b=_;rw[l2 k o b hm hb];exact e2)).1,e3⟩
 have i:∀k o,σ2.get k=sO o->∃o',U'.get k=sO o':=λk o hk=>by rcases b1 k o hk with g|⟨g,_⟩;obtain⟨o',g⟩:=b2 k o g;exact⟨_,g⟩;exact⟨o,g⟩
 refine⟨⟨λk o hk=>?_,λk k' o o' b hk ab e e'=>?_,λb d hb=>?_,λk o b hk e=>?_⟩,λk b hk hb=>?_⟩;rcases b1 k o hk with g|⟨g,_⟩;obtain⟨g1,g2⟩:=h2 k o g;obtain⟨b,d,e1,e2,e3⟩:=hS.get g1 (Zb2 g2).2;obtain⟨d',f1,f2,f3⟩:=hM k o b g e1;exact⟨_,hs _ _ e1,.inl ⟨b,d',rfl,f2,f3.mono hs⟩⟩;exact hS'.obj k o g;obtain⟨o1,g1⟩:=i _ _ hk;obtain⟨o2,g2⟩:=i _ _ ab;exact hS'.inj k k' o1 o2 b g1 g2 e e';obtain⟨e1,e2⟩:=hS'.kp b d (l1 b d hb);refine⟨e1,λk o hk hr e=>?_⟩;rcases b1 k o hk with g|⟨g,_⟩;exact(hS.kp b d hb).2 k o (h2 k o g).1 hr (hS.name hs (h2 k o g).1 e);exact e2 k o g hr e;rcases b1 k _ hk with g|⟨g,g'⟩;have:=(h2 k _ g).2;simp[Zkc]at this;obtain⟨d,hd⟩:=hS'.ro k o b g e;rcases l3 b d hd with hd|⟨k0,o0,hm,u⟩;exact⟨d,hd⟩;obtain⟨o1,g1⟩:=b2 k0 o0 hm;have:=hS'.inj k k0 _ _ b g g1 e (hs _ _ u);subst this;exact absurd hm (g' o0);rcases h3 k hk with ⟨o,hm⟩|⟨o,ho⟩;obtain⟨d,f1,f2,_⟩:=hM k o b hm hb;rw[f1,f2];obtain⟨d,hd⟩:=hS.ro k o b ho hb;rw[(hS.kp b d hd).1,(hS'.kp b d (l1 b d hd)).1]
end
def Zef(ρd:Env)(u l o:Nat):Prop:=ZK ρd u=sO (.loc l o)\/ZK ρd u=sO (.when true (.loc l o))
structure We(J:Nm)(r:Rl)(ρd:Env)(L:Loc)(B:List (Nat×Rd)):Prop where
 cs:∀l vs,Kr l r.cs=some vs->∃ds,Zg L l=some ds/\VRs J vs ds
 no:∀l,Kr l r.cs=none->Zg L l=none
 nd:(r.cs.map (·.1)).Nodup
 ad:∀u l o,(u,l,o)∈r.ad->Zef ρd u l o
 lt:∀u l o,(u,l,o)∈r.ad->u<32768
 bn:∀n b,(n,.blk b)∈B->∃k,(n,k)∈r.bn/\J k=some (.tip b)
 bl:∀n l,(n,.loc l)∈B->(n,l)∈r.bl
def We.nil{J:Nm}{ρd:Env}:We J Rl.nil ρd [] []:={
 cs l vs h:=by cases h
 no l _:=rfl
 nd:=by simp[Rl.nil]
 ad u l o h:=by cases h
 lt u l o h:=by cases h
 bn n b h:=by grind
 bl n l h:=by grind }
section
variable {J J':Nm} {r:Rl} {ρd:Env} {L:Loc} {B:List (Nat × Rd)}
def We.mono(h:We J r ρd L B)(i:J.Sub J'):We J' r ρd L B:={
 cs l vs hl:=by obtain⟨ds,a,b⟩:=h.cs l vs hl;exact⟨ds,a,b.mono i⟩
 no:=h.no
 nd:=h.nd
 ad:=h.ad
 lt:=h.lt
 bn n b hb:=by obtain⟨k,a,c⟩:=h.bn n b hb;exact⟨k,a,i _ _ c⟩
 bl:=h.bl }
def Zef.put{u l o}(h:Zef ρd u l o){dst}(i:dst≠sO u){e}:Zef (Zv ρd dst e) u l o:=by
 unfold Zef;rw[WD,if_neg i];exact h
def Zx9{t}(h:noA t r=true):∀u l o,(u,l,o)∈r.ad->t≠u:=λu l o hm e=>by
 unfold noA at h;split at h;exact ZqA ‹_› _ hm e.symm;grind
def ZCJ{t}(h:noA t r=true):t<32768:=by
 unfold noA at h;split at h;simpa using h;grind
def Zz2{dst}(h:Zer dst r=true):∀u l o,(u,l,o)∈r.ad->dst≠sO u:=λu l o hm e=>by
 subst e;exact Zx9 h u l o hm rfl
def We.put(h:We J r ρd L B){dst}(i:Zer dst r=true)(e):We J r (Zv ρd dst e) L B :=
 { h with ad:=λu l o hm=>(h.ad u l o hm).put (Zz2 i u l o hm) }
def We.next(h:We J r ρd L B)(fl):We J (Zlb fl r) ρd L (YZ fl B):=by
 have h1:∀{fl:List Nat} n b,(n,.blk b)∈YZ fl B->∃k,(n,k)∈ZfY fl r.bn/\J k=sO (.tip b):=λ{fl} n b i=>by obtain⟨t,u⟩:=QG.1 i;obtain⟨k,a,c⟩:=h.bn n b u;exact⟨k,ZfZ (Zfh.1 t) a,c⟩
 have h2:∀{fl:List Nat} n l,(n,.loc l)∈YZ fl B->(n,l)∈ZfY fl r.bl:=λ{fl} n l i=>by obtain⟨t,u⟩:=QG.1 i;exact ZfZ (Zfh.1 t) (h.bl n l u)
 cases fl with
 |nil=>rw[ZjS];exact{ cs:=h.cs,no:=h.no,nd:=h.nd,ad:=h.ad,lt:=h.lt,bn:=λn b i=>by simp at i,bl:=λn b i=>by simp at i }
 |cons a fl=>exact{ cs:=h.cs,no:=h.no,nd:=h.nd,ad:=h.ad,lt:=h.lt,bn:=h1,bl:=h2 }
def Zpd(h:We J r ρd L B){x l o}(i:Zsd x r=sO (l,o)):∃p,Zy ρd true x=sO (p,.loc l o)/\p:=by
 cases x with
 |cst d=>cases i
 |tmp t =>rcases h.ad t l o (ZmP i) with h|h;exact⟨True,by simp[Zy,h],trivial⟩;exact⟨True->True,by simp[Zy,h],λ_=>trivial⟩
def We.addr(h:We J r ρd L B){u l o}(hn:noA u r=true){e}(he:e=.loc l o\/e=.when true (.loc l o)):We J ⟨r.cs,(u,l,o)::r.ad,r.bn,r.bl⟩ (Zv ρd (sO u) e) L B :=
 { h with
  ad:=λu' i t hm=>by rcases List.mem_cons.1 hm with hm|hm;cases hm;unfold Zef;rw[WD,if_pos rfl];exact he.imp (by rintro rfl;rfl) (by rintro rfl;rfl);exact(h.ad u' i t hm).put (λhu=>Zx9 hn u' i t hm (by simpa using hu))
  lt:=λu' i t hm=>by
   rcases List.mem_cons.1 hm with hm|hm;simp at hm;rw[hm.1];exact ZCJ hn;exact h.lt u' i t hm }
def Z5.off{H}(h:Z5 J [] H ρd)(u e):Z5 J [] (H.set nO u) (Zv ρd (sO u) e):=λt w hw hl=>by
 rcases T.get_set hw with ⟨_,h1⟩|⟨i,h1⟩;grind;obtain⟨e',h2,h3⟩:=h t w h1 hl;exact⟨e',by rw[WD,if_neg (by simpa using Ne.symm i)];exact h2,h3⟩
def We.reads(h:We J r ρd L B){R bn bl}(i:∀k,k∈r.bn->k∈bn)(t:∀k,k∈r.bl->k∈bl)(u:∀n b,(n,.blk b)∈R->∃k,(n,k)∈bn/\J k=sO (.tip b))(h4:∀n l,(n,.loc l)∈R->(n,l)∈bl):We J ⟨r.cs,r.ad,bn,bl⟩ ρd L (R++B) :=
 { h with
  bn:=λn b hb=>by rcases List.mem_append.1 hb with hb|hb;exact u n b hb;obtain⟨k,a,c⟩:=h.bn n b hb;exact⟨k,i _ a,c⟩
  bl:=λn l hb=>by
   rcases List.mem_append.1 hb with hb|hb;exact h4 n l hb;exact t _ (h.bl n l hb) }
end
section
variable {C:Px} {ih:Ih} {dk:List WW} {os:List (DOp × List Nat)} {rest:Bx RgD}
def Zb8(C:Px)(ih:Ih)(rest:Bx RgD)(dk:List WW)(os:List (DOp×List Nat)):Prop :=
 ∀r fm H U nx o,rest.run r ih dk fm H U nx=sO o->∀(F:Fr C.P) J ρd L s B,FmR C J fm o F->Z5 J [] H ρd->Yu J nx->Sim C J U s->We J r ρd L B->DOA F nO dk os ρd L s B
variable {r:Rl} {fm:Fm} {H:T W} {U:S} {nx:Nat} {o:Out} {F:Fr C.P} {J:Nm} {ρd:Env} {L:Loc} {s:St} {B:List (Nat × Rd)}
def Zz0{t v d}(hv:VR J v d)(h:We J r ρd L B):We J (ZAD t v r) ρd L ((KZ (.d d)).map (λb=>(t,b))++B):=by
 have u:∀{k b:Nat},J k=sO (.tip b)->We J ⟨r.cs,r.ad,(t,k)::r.bn,r.bl⟩ ρd L ([(t,.blk b)]++B):=λ{k b} hb =>
  h.reads (λ_ hm=>List.mem_cons_of_mem _ hm) (λ_ hm=>hm) (λn b' i=>⟨k,by
   simp at i;rw[i.1,i.2];exact⟨ψ,hb⟩⟩) (λn l hl=>by grind)
 cases hv<;>first|exact h|exact u ‹_›
def Zxf{x xs vs}(h:(Zce (x::xs)).run H=sO vs):∃v t,(YS x).run H=sO v/\(Zce xs).run H=sO t/\vs=v::t:=by
 simp[Zce]at h;split at h<;>(try(simp at h;done));rename_i v u;split at h<;>simp at h;rename_i t i;exact⟨v,t,u,i,h.symm⟩
def ZCU(hρ:Z5 J [] H ρd){dst g k}(hg:Zk ρd g=sO true){db r3}(h:(opF false db k).run H U nx=sO r3){ρd'}(t:We J r ρd' L B):
  We J ((rdR (dst.getD 0) k).run H r) ρd' L (Ki ⟨dst,g,k⟩ ρd++B):=by
 cases k;case q q xs =>
  cases u:YU (.q q xs) with
  |false=>simpa[rdR,Ki,Y5,u]using t
  |true =>
   simp[rdR,Ki,Y5,u,hg];cases xs with
   |nil=>exact t
   |cons x ys =>simp[opF]at h;split at h<;>(try(grind;done));rename_i vs i;obtain⟨p,ds,a1,a2,a3⟩:=ZaE hρ i;obtain⟨v,vs',hv,_,rfl⟩:=Zxf i;obtain⟨d,ds',rfl,b1,b2⟩:=a3.inv;simp[a1,hv];exact Zz0 b1 t
 all_goals exact t
def Zj5(u:Zb8 C ih rest dk os){dst g fl k}(hk:YB k=true)(h:(Zj4 rest dst k).run r ih dk fm H U nx=sO o)(hg:Zk ρd g=sO true)(hF:FmR C J fm o F)(hρ:Z5 J [] H ρd)(hN:Yu J nx)(hS:Sim C J U s)(hR:We J r ρd L B):DOA F nO dk ((⟨dst,g,k⟩,fl)::os) ρd L s B:=by
 simp[Zj4]at h;split at h<;>(try(grind;done));rename_i v σ1 nx1 i;obtain⟨hd,hh⟩:=ZB h;obtain⟨e1,e2,side,e,e3,e4,e5⟩:=ZqP (L:=L) (dst:=dst) hS hN.o hρ.anyL hg hk i;have t:Y3 k=true:=by cases k<;>simp[YB]at hk<;>rfl
 refine Jn e4 e3 ?_;simp[t];exact u _ _ _ _ _ _ hh F J _ L s _ hF (JM hρ (show WR J [] (.v v) e from e5) dst) hN hS (ZCU hρ hg i (hR.put hd e))
def Zvh{fl σ0 l}(h:Zz3 fl r U=sO (σ0,l)):∃ks,ZjX ks U=sO (σ0,l)/\∀n k,n∈fl->(n,k)∈r.bn->k∈ks:=by
 cases fl with
 |nil=>exact⟨[],h,λ_ _ h=>by simp at h⟩
 |cons a fl=>exact⟨_,h,λn k t i=>Zft t i⟩
def Zps(hrest:Zb8 C ih rest dk os){f dst g fl k}(hk:YB k=false)(hp:Y3 k=false)(hnf:ZjT k=true)(h:(ZsN C f rest dst g fl k).run r ih dk fm H U nx=sO o)(hg:Zk ρd g=sO true)(hF:FmR C J fm o F)(hρ:Z5 J [] H ρd)(hN:Yu J nx)(hS:Sim C J U s)(hR:We J r ρd L B):DOA F nO dk ((⟨dst,g,k⟩,fl)::os) ρd L s B:=by
 unfold ZsN at h;split at h<;>(try(grind;done));rename_i ad;simp only at h;split at h<;>(try(grind;done));rename_i σ0 l ab;split at h<;>(try(grind;done));rename_i v σ1 af ae;split at h<;>(try(grind;done));rename_i σ2 i;obtain⟨hd,hh⟩:=ZB h;obtain⟨ks,o1,o2⟩:=Zvh ab;obtain⟨t,ac,hL⟩:=hS.lend o1;refine ZbR (Y0 ⟨C.toCx,t⟩ J ⟨v,σ1,af⟩) hp (λH' L' os' u hc=>?_) (λe s2 hr=>?_);exact ZxD ac hN hρ (by rw[YY (λt ht=>u t (by simp[ZA,ht]))];exact hg) ad hk hnf ae u hc;obtain⟨J',k1,k2,k3,d,k4,rfl⟩:=hr;obtain⟨u1,u2⟩:=hS.unlend o1 hL k1 k3 i;refine⟨Zf0 (λn b hf hb=>?_) (λ_ _ _ _=>rfl),hrest _ _ _ _ _ _ hh F J' _ L s2 _ (hF.mono k1) (JM (hρ.mono k1) (WR.val k4) dst) k2 u1 (((hR.put hd _).next fl).mono k1)⟩;obtain⟨kn,n1,n2⟩:=hR.bn n b hb;exact u2 kn b (o2 n kn hf n1) n2
def Zy9(hlib:Q1 C)(hih:Jp C ih)(hrest:Zb8 C ih rest dk os){f dst g fl fx xs}(h:(goD C f rest dst g fl (.call fx xs)).run r ih dk fm H U nx=sO o)(hg:Zk ρd g=sO true)(hF:FmR C J fm o F)(hρ:Z5 J [] H ρd)(hN:Yu J nx)(hS:Sim C J U s)(hR:We J r ρd L B):DOA F nO dk ((⟨dst,g,.call fx xs⟩,fl)::os) ρd L s B:=by
 simp[goD]at h;split at h<;>(try(grind;done));rename_i fv ad;split at h<;>(try(grind;done));rename_i vs ae;split at h<;>(try(grind;done));rename_i σ0 l ab;split at h<;>(try(grind;done));rename_i pan v U' af u;split at h<;>(try(grind;done));rename_i σ2 i;obtain⟨ks,o1,o2⟩:=Zvh ab;obtain⟨t,ac,hL⟩:=hS.lend o1;obtain⟨p,fd,a1,a2,a3⟩:=Kw hρ ad;obtain⟨q,ds,b1,b2,b3⟩:=ZaE hρ ae;have hV:WN C.P fd ds s (Zgq ⟨C.toCx,t⟩ J ⟨pan,v,U',af⟩):=ZmB (C:=⟨C.toCx,t⟩) hlib hih u a3 b3 hN ac;refine ZfN hg rfl a1 b1 (ZaJ ds) b2 a2 hV (λd S1 hp=>?_) (λd S1 hp=>?_)
 .obtain⟨η1,d1,k1,k2,k3,k4,k5⟩:=hp;cases pan with
  |true=>grind
  |false =>cases k5;obtain⟨hd,hh⟩:=ZB h;obtain⟨u1,u2⟩:=hS.unlend o1 hL k1 k3 i;refine⟨Zf0 (λn b hf hb=>?_) (λ_ _ _ _=>rfl),hrest _ _ _ _ _ _ hh F η1 _ L S1 _ (hF.mono k1) (JM (hρ.mono k1) (WR.val k4) dst) k2 u1 (((hR.put hd _).next fl).mono k1)⟩;obtain⟨kn,n1,n2⟩:=hR.bn n b hb;exact u2 kn b (o2 n kn hf n1) n2
 obtain⟨η1,d1,k1,k2,k3,k4,k5⟩:=hp;cases pan with
 |false=>grind
 |true =>cases k5;exact Zhm hih h (hF.mono k1) Z5.nil k2 (hS.unlend o1 hL k1 k3 i).1 k4
end
section
variable {C:Px} {ih:Ih} {dk:List WW} {os:List (DOp × List Nat)} {rest:Bx RgD}
variable {r:Rl} {fm:Fm} {H:T W} {U:S} {nx:Nat} {o:Out} {F:Fr C.P} {J:Nm} {ρd:Env} {L:Loc} {s:St} {B:List (Nat × Rd)}
def Zj3{dst g}(t:Zk ρd g=sO true){xs es p}(i:Z8 ρd true xs=sO (p,es))(u:p){q side e}(hq:qv L s q es=sO (side,e))(hs:side):
  ∃side' e',side'/\ZC ⟨dst,g,.q q xs⟩ ρd L s=.ok side' (Zv ρd dst e') L s/\(e'=e\/e'=.when true e):=by
 cases g with
 |none=>exact⟨p/\side,e,ZHy u hs,by unfold ZC;simp[t,i,hq],.inl rfl⟩
 |some x=>exact⟨true=true->p/\side,.when true e,λ_=>ZHy u hs,by unfold ZC;simp[t,i,hq],.inr rfl⟩
def Znt(t:Zb8 C ih rest dk os){dst g fl l off}(h:(adD rest dst l off).run r ih dk fm H U nx=sO o){q xs}(hrd:YU (.q q xs)=false){side e'}(hside:side)(hst:ZC ⟨dst,g,.q q xs⟩ ρd L s=.ok side (Zv ρd dst e') L s)(he:e'=.loc l off\/e'=.when true (.loc l off))(hF:FmR C J fm o F)(hρ:Z5 J [] H ρd)(hN:Yu J nx)(hS:Sim C J U s)(hR:We J r ρd L B):DOA F nO dk ((⟨dst,g,.q q xs⟩,fl)::os) ρd L s B:=by
 unfold adD at h;split at h<;>(try(grind;done));rename_i u;obtain⟨hn,hh⟩:=ZB h;refine Jn hst hside ?_;have i:Ki ⟨sO u,g,.q q xs⟩ ρd=[]:=by simp[Ki,Y5,hrd]
 simp[i];exact t _ _ _ _ _ _ hh F J _ L s _ hF (hρ.off u e') hN hS (hR.addr hn he)
def Zyn{dst g q xs es p l off}(i:YU (.q q xs)=true)(u:Zk ρd g=sO true)(t:Z8 ρd true xs=sO (p,.loc l off::es)):Ki ⟨dst,g,.q q xs⟩ ρd=[(dst.getD 0,.loc l)]:=by
 simp[Ki,Y5,i,u,t,KZ,ZbO]
def ZBy(hrest:Zb8 C ih rest dk os){dst g fl q x ys l off}(hx:Zsd x r=sO (l,off))(h:(ZzU rest dst q ys).run l off r ih dk fm H U nx=sO o)(hg:Zk ρd g=sO true)(hF:FmR C J fm o F)(hρ:Z5 J [] H ρd)(hN:Yu J nx)(hS:Sim C J U s)(hR:We J r ρd L B):DOA F nO dk ((⟨dst,g,.q q (x::ys)⟩,fl)::os) ρd L s B:=by
 obtain⟨p,a1,a2⟩:=Zpd hR hx;have u:Z8 ρd true [x]=sO (p/\True,[.loc l off]):=by simp[Z8,a1]
 have ld:∀{q:Q} {v:V} {d:D} {side:Prop},YU (.q q [x])=true->VR J v d->side->qv L s q [.loc l off]=sO (side,.d d)->noV (Zer dst r) (rest.run ⟨r.cs,r.ad,r.bn,(dst.getD 0,l)::r.bl⟩ ih dk fm ((ZcD dst).run H (.v v)) U nx)=sO o->DOA F nO dk ((⟨dst,g,.q q [x]⟩,fl)::os) ρd L s B:=by intro q v d side ae hv hs hq h;obtain⟨hd,hh⟩:=ZB h;obtain⟨t,e',h1,h2,h3⟩:=Zj3 (dst:=dst) hg u ⟨a2,trivial⟩ hq hs;refine Jn h2 h1 ?_;simp only[Y3,Zyn (dst:=dst) ae hg u];refine hrest _ _ _ _ _ _ hh F J _ L s _ hF (JM hρ (show WR J [] (.v v) e' from⟨d,hv,h3⟩) dst) hN hS ((hR.put hd e').reads (λ_ h=>h) (λ_ hm=>List.mem_cons_of_mem _ hm) (λn b hb=>by grind) (λn l' hl=>?_));simp at hl;rw[hl.1,hl.2];simp
 unfold ZzU at h;split at h;·split at h<;>(try(grind;done));obtain⟨t,e',h1,h2,h3⟩:=Zj3 (L:=L) (s:=s) (dst:=dst) hg u ⟨a2,trivial⟩ (q:=.mv) rfl trivial;exact Znt hrest h rfl h1 h2 h3 hF hρ hN hS hR
 .split at h<;>(try(grind;done));obtain⟨t,e',h1,h2,h3⟩:=Zj3 (L:=L) (s:=s) (dst:=dst) hg u ⟨a2,trivial⟩ (q:=.nilck) rfl trivial;exact Znt hrest h rfl h1 h2 h3 hF hρ hN hS hR
 .rename_i o1;split at h<;>(try(grind;done));obtain⟨t,e',h1,h2,h3⟩:=Zj3 (L:=L) (s:=s) (dst:=dst) hg u ⟨a2,trivial⟩ (q:=.faddr o1) rfl trivial;exact Znt hrest h rfl h1 h2 h3 hF hρ hN hS hR
 .rename_i m z;split at h<;>(try(grind;done));rename_i y;simp only at h;split at h<;>(try(grind;done));rename_i kk i hy;obtain⟨hb,hh⟩:=ZB h;simp[JI,<-Bool.not_eq_true]at hb;obtain⟨p2,d,b1,b2,b3⟩:=Kw hρ hy;cases b3;have ac:Z8 ρd true [x,y]=sO (p/\p2/\True,[.loc l off,.d (.int kk i)]):=by simp[Z8,a1,b1]
  obtain⟨t,e',h1,h2,h3⟩:=Zj3 (L:=L) (s:=s) (dst:=dst) hg ac ⟨a2,b2,trivial⟩ (q:=.iaddrA m z) rfl ⟨hb.1,ω⟩;exact Znt hrest hh rfl h1 h2 h3 hF hρ hN hS hR
 .split at h<;>(try(grind;done));simp only at h;split at h<;>(try(grind;done));rename_i cs ab;split at h<;>(try(grind;done));rename_i v hv;obtain⟨ds,c1,c2⟩:=hR.cs l cs ab;rw[Zk5]at hv;obtain⟨d,d1,d2⟩:=c2.get hv;exact ld rfl d2 trivial (by simp[qv,Wm,c1,d1]) h
 .rename_i n;split at h<;>(try(grind;done));simp only at h;split at h<;>(try(grind;done));rename_i cs ab;split at h<;>(try(grind;done));rename_i v hv;obtain⟨ds,c1,c2⟩:=hR.cs l cs ab;unfold ZkK at hv;split at hv<;>simp at hv;rename_i rr af;subst hv;obtain⟨d1,d2⟩:=c2.partv af;exact ld rfl (.agg _ _ d2) d1 (by simp[qv,Kh,c1]) h
 grind
def We.cell(hR:We J r ρd L B){l vs0 vs}(hl:Kr l r.cs=sO vs0){ds}(hv:VRs J vs ds):We J ⟨Zkt l vs r.cs,r.ad,r.bn,r.bl⟩ ρd ((l,ds)::L) B :=
 { hR with
  cs:=λl' i t=>by rw[ZmQ]at t;by_cases u:l'=l;subst u;simp[hl]at t;subst t;exact⟨ds,by simp[Zg],hv⟩;rw[if_neg u]at t;obtain⟨d,d1,d2⟩:=hR.cs l' i t;exact⟨d,by simp[Zg];rw[if_neg (Ne.symm u)];exact d1,d2⟩
  no:=λl' t=>by rw[ZmQ]at t;by_cases u:l'=l;subst u;simp[hl]at t;rw[if_neg u]at t;simp[Zg];rw[if_neg (Ne.symm u)];exact hR.no l' t
  nd:=by rw[ZqZ];exact hR.nd }
def Zvt(hrest:Zb8 C ih rest dk os){fl l off n xs k}(h:ZtS rest fl l off n xs r ih dk fm H U nx=sO o)(hpk:Y3 k=false)(hrk:Ki ⟨nO,nO,k⟩ ρd=[]){ys}(hx:VRs J xs ys){p q ok}(hp:p)(hq:q)(hok:ok)(hst:ZC ⟨nO,nO,k⟩ ρd L s=K3 ρd L s p q ok (.loc l off) n ys)(hF:FmR C J fm o F)(hρ:Z5 J [] H ρd)(hN:Yu J nx)(hS:Sim C J U s)(hR:We J r ρd L B):DOA F nO dk ((⟨nO,nO,k⟩,fl)::os) ρd L s B:=by
 unfold ZtS at h;split at h<;>(try(grind;done));rename_i cs i;split at h<;>(try(grind;done));rename_i cs' t;obtain⟨hb,hh⟩:=ZB h;obtain⟨ds,c1,c2⟩:=hR.cs l cs i;obtain⟨f0,f1,f2⟩:=c2.over hx t;have u:ZC ⟨nO,nO,k⟩ ρd L s=.ok (p/\q/\off+n<=I ds/\ok) ρd ((l,Zx ds off ys)::L) s:=by rw[hst];simp[K3,c1]
 refine Jn u ⟨hp,hq,f1,hok⟩ ?_;simp[hpk,hrk];refine⟨Zf0 (λ_ _ _ _=>rfl) (λn l' hf ab=>?_),hrest _ _ _ _ _ _ hh F J ρd _ s _ hF hρ hN hS ((hR.cell i f2).next fl)⟩;have hm:=hR.bl n l' ab;have:¬l=l':=λe=>by subst e;rw[Zc8.2 (Zft hf hm)]at hb;grind
 simp[Zg,this]
def We.more(hR:We J r ρd L B){t}(ht:Zwr t r=true){vs ds}(hv:VRs J vs ds):Zg L t=nO/\We J ⟨(t,vs)::r.cs,(t,t,0)::r.ad,r.bn,r.bl⟩ ((t,.loc t 0)::ρd) ((t,ds)::L) B:=by
 unfold Zwr at ht;simp at ht;obtain⟨h1,h2⟩:=ht;split at h1<;>(try(grind;done));rename_i hc;have hA:=hR.addr (e:=.loc t 0) h2 (.inl rfl);refine⟨hR.no t hc,{ hA with
  cs:=λl i u=>?_
  no:=λl u=>?_
  nd:=?_ }⟩
 simp only[Kr]at u;by_cases he:t=l;subst he;simp at u;subst u;exact⟨ds,by simp[Zg],hv⟩;rw[if_neg (λh=>he (Z0.1 h))]at u;obtain⟨d,d1,d2⟩:=hR.cs l i u;exact⟨d,by simp[Zg];rw[if_neg he];exact d1,d2⟩;simp only[Kr]at u;by_cases he:t=l;subst he;rw[if_pos (Z0.2 rfl)]at u;simp at u;rw[if_neg (λh=>he (Z0.1 h))]at u;simp[Zg];simp_all;exact hR.no l u;simp only[ZHM,List.nodup_cons];exact⟨ZqB hc,hR.nd⟩
def Zxe(u:Zb8 C ih rest dk os){f dst g fl z}(h:(goD C f rest dst g fl (.alloc z)).run r ih dk fm H U nx=sO o)(hF:FmR C J fm o F)(hρ:Z5 J [] H ρd)(hN:Yu J nx)(hS:Sim C J U s)(hR:We J r ρd L B):DOA F nO dk ((⟨dst,g,.alloc z⟩,fl)::os) ρd L s B:=by
 simp[goD]at h;split at h<;>(try(grind;done));rename_i t zv hz;obtain⟨hn,hh⟩:=ZB h;obtain⟨hl,i⟩:=hR.more hn (ofDs_ok hz);refine Jn (side:=Zam L t=false) (ρ1:=(t,.loc t 0)::ρd) (L1:=(t,z)::L) (s1:=s) (by unfold ZC;simp[Zk]) (by simp[Zam,hl]) ?_;exact u _ _ _ _ _ _ hh F J _ _ s _ hF (hρ.off t (.loc t 0)) hN hS i
def ZAV(hrest:Zb8 C ih rest dk os){f dst g fl x}(h:(goD C f rest dst g fl (.box x)).run r ih dk fm H U nx=sO o)(hF:FmR C J fm o F)(hρ:Z5 J [] H ρd)(hN:Yu J nx)(hS:Sim C J U s)(hR:We J r ρd L B):DOA F nO dk ((⟨dst,g,.box x⟩,fl)::os) ρd L s B:=by
 simp[goD]at h;split at h<;>(try(grind;done));rename_i t;simp only at h;split at h<;>(try(grind;done));rename_i v hv;obtain⟨hb,hh⟩:=ZB h;simp at hb;obtain⟨⟨hp,hn⟩,hm⟩:=hb;obtain⟨p,d,a1,a2,a3⟩:=Kw hρ hv;obtain⟨hl,i⟩:=hR.more hn (ZkN a3);refine Jn (side:=p/\Zam L t=false/\W7 d=true) (ρ1:=(t,.loc t 0)::ρd) (L1:=(t,cellsOf d)::L) (s1:=s) (by unfold ZC;simp[Zk,a1]) ⟨a2,by simp[Zam,hl],Zng a3 hp⟩ ?_;refine⟨Zf0 (λ_ _ _ _=>rfl) (λn l' hf u=>?_),hrest _ _ _ _ _ _ hh F J _ _ s _ hF (hρ.off t (.loc t 0)) hN hS (i.next fl)⟩;have:¬t=l':=λe=>by subst e;rw[Zc8.2 (Zft hf (hR.bl _ _ u))]at hm;grind
 simp[Zg,this]
def ZxR(hlib:Q1 C)(hih:Jp C ih)(hrest:Zb8 C ih rest dk os){f dst g fl k}(h:(goD C f rest dst g fl k).run r ih dk fm H U nx=sO o)(hg:Zk ρd g=sO true)(hF:FmR C J fm o F)(hρ:Z5 J [] H ρd)(hN:Yu J nx)(hS:Sim C J U s)(hR:We J r ρd L B):DOA F nO dk ((⟨dst,g,k⟩,fl)::os) ρd L s B:=by
 cases k;case call fx xs=>exact Zy9 hlib hih hrest h hg hF hρ hN hS hR
 case alloc z=>exact Zxe hrest h hF hρ hN hS hR
 case box x=>exact ZAV hrest h hF hρ hN hS hR
 case panic x =>
  simp[goD]at h;split at h<;>(try(grind;done));rename_i t v hv;obtain⟨p,d,a1,a2,a3⟩:=Kw hρ hv;cases a3 with
  |iface _ _ d hd=>exact Zqb hg rfl a1 a2 (Zhm hih h hF Z5.nil hN hS (.iface _ _ _ hd))
 case defer fx xs=>cases h
 case recover=>cases h
 case fork k=>cases h
 case store1 a v =>
  simp[goD]at h;split at h<;>(try(grind;done));simp only at h;split at h;·rename_i l off ha;split at h<;>(try(grind;done));rename_i x hx;obtain⟨hc,hh⟩:=ZB h;obtain⟨p,a1,a2⟩:=Zpd hR ha;obtain⟨q,d,b1,b2,b3⟩:=Kw hρ hx;exact Zvt hrest hh rfl rfl (.one b3) a2 b2 (ZtX b3 hc) (by unfold ZC;simp[Zk,a1,b1]) hF hρ hN hS hR
  exact Zps hrest rfl rfl rfl h hg hF hρ hN hS hR
 case storeN n a v =>
  simp[goD]at h;split at h<;>(try(grind;done));simp only at h;split at h
  .rename_i l off ha;split at h<;>(try(grind;done));rename_i xs hx;obtain⟨p,a1,a2⟩:=Zpd hR ha;obtain⟨q,d,b1,b2,b3⟩:=Kw hρ hx;cases b3 with
   |agg _ ys hxs =>
   have i:I ys=n:=by unfold ZtS at h;split at h<;>(try(grind;done));split at h<;>(try(grind;done));rename_i u;rw[<-hxs.len];exact(ZpN u).1
   exact Zvt hrest h rfl rfl hxs a2 b2 i (by unfold ZC;simp[Zk,a1,b1]) hF hρ hN hS hR
  exact Zps hrest rfl rfl rfl h hg hF hρ hN hS hR
 case q q xs =>simp[goD]at h;split at h;rename_i x ys;simp only at h;split at h;rename_i l off hx;exact ZBy hrest hx h hg hF hρ hN hS hR;exact Zj5 hrest rfl h hg hF hρ hN hS hR;exact Zj5 hrest rfl h hg hF hρ hN hS hR
 all_goals
  simp[goD]at h;first
   |exact Zj5 hrest rfl h hg hF hρ hN hS hR
   |exact Zps hrest rfl rfl rfl h hg hF hρ hN hS hR
end
def ZmR:∀{H t e},ZK H t=sO e->(t,e)∈H
 | [],t,e,h=>by cases h
 | (k,x)::r,t,e,h=>by simp[ZK]at h;split at h;rename_i i;cases h;subst i;simp;exact List.mem_cons_of_mem _ (ZmR h)
def ZzD:∀{L},(∀l,Zg L l=nO)->L=[]
 | [],_=>rfl
 | (k,c)::r,h=>by have:=h k;simp[Zg]at this
def Zj0{t nx}:∀{ad H u w},(Zos ad t nx H).get u=sO w->(∃o,(u,t,o)∈ad/\w=.v (.ptr nx o))\/H.get u=sO w
 | [],H,u,w,h=>.inr h
 | (u',l,o)::r,H,u,w,h=>by simp only[Zos]at h;split at h;rename_i hl;rw[Z0]at hl;subst hl;rcases T.get_set h with ⟨rfl,h3⟩|⟨_,h3⟩;simp at h3;exact .inl ⟨o,ψ,h3.symm⟩;rcases Zj0 h3 with ⟨o',i,h2⟩|h3;exact .inl ⟨o',by simp[i],h2⟩;exact .inr h3;rcases Zj0 h with ⟨o',i,h2⟩|h;exact .inl ⟨o',by simp[i],h2⟩;exact .inr h
section
variable {C:Px} {ih:Ih} {dk:List WW}
def Zu1(hih:Jp C ih):∀{cs ad fm H U nx o},ZsY cs ad ih dk fm H U nx=sO o ->
  ∀{F J ρd L s},FmR C J fm o F->Z5 J [] H ρd->Yu J nx->Sim C J U s->(∀l vs,Kr l cs=sO vs->(∃u o,(u,l,o)∈ad)->∃ds,Zg L l=sO ds/\VRs J vs ds) ->
   (∀l,Kr l cs=nO->Zg L l=nO)->(cs.map (·.1)).Nodup->(∀u l o,(u,l,o)∈ad->(Kr l cs).isSome=true->Zef ρd u l o)->Zw F dk ρd L s
 | [],ad,fm,H,U,nx,o,h,F,J,ρd,L,s,hF,hρ,hN,hS,hc,hn,hd,ha=>by obtain rfl:=ZzD λl=>hn l rfl;exact hih.at _ _ _ _ _ _ h F J ρd s hF hρ hN hS
 | (t,vs)::cs,ad,fm,H,U,nx,o,h,F,J,ρd,L,s,hF,hρ,hN,hS,hc,hn,hd,ha=>by
  simp[ZsY]at h;split at h<;>(try(grind;done));rename_i l' o' af;obtain⟨hl,hh⟩:=ZB h;rw[Z0]at hl;subst hl;have ac:Kr l' ((l',vs)::cs)=sO vs:=by simp[Kr]
  obtain⟨ds,d1,d2⟩:=hc l' vs ac ⟨_,_,ZmP af⟩;simp only[ZHM,List.nodup_cons]at hd;have ab:∀{l:Nat},l≠l'->Kr l ((l',vs)::cs)=Kr l cs:=λ{l} i=>by simp only[Kr];rw[if_neg (λh=>i (Z0.1 h).symm)]
  have ae:∀{l:Nat} {x:List V},Kr l cs=sO x->l≠l':=λ{l x} hx e=>by
   subst e;have:∀{r:List (Nat×List V)} {x:List V},Kr l r=sO x->l∈r.map (·.1):=λ{r}=>by
    induction r with
    |nil=>intro x h;cases h
    |cons a r ih =>intro x h;simp only[Kr]at h;split at h;rename_i ht;rw[Z0]at ht;simp[ht];simp only[ZHM,ZIa];exact .inr (ih h)
   exact hd.1 (this hx)
  refine Zdk l' d1 λb hb=>?_;have f0:=hN.free nx (ZHK _);have n1:J.Sub (J.put nx (.tip b)):=Nm.put_sub f0 _;refine Zu1 hih hh (J:=J.put nx (.tip b)) (hF.mono n1) ?_ (hN.put _) (hS.new f0 hb (OR.cells0 (d2.mono n1))) ?_ ?_ hd.2 ?_
  .intro u w hw ag;rw[Zdp];rcases Zj0 hw with ⟨o2,h1,rfl⟩|h1;rcases ha u l' o2 h1 (by rw[ac];rfl) with h2|h2;exact⟨.d (.ptr b o2),by rw[h2];simp[Ja],.ptr b o2,.ptr _ _ _ Nm.put_same,.inl rfl⟩;exact⟨.when true (.d (.ptr b o2)),by rw[h2];simp[Ja],.ptr b o2,.ptr _ _ _ Nm.put_same,.inr rfl⟩;obtain⟨e,h2,h3⟩:=hρ u w h1 ag;cases w with
   |v x =>obtain⟨d,h4,rfl|rfl⟩:=h3;exact⟨_,by rw[h2];rfl,d,h4.mono n1,.inl rfl⟩;exact⟨_,by rw[h2];rfl,d,h4.mono n1,.inr rfl⟩
   |loc l o=>cases ag
   |skip =>have ai:e=.when false (.d (.bool false)):=h3;subst ai;exact⟨_,by rw[h2];rfl,rfl⟩
  intro l aj hl hx;have i:=ae hl;obtain⟨ah,g1,g2⟩:=hc l aj (by rw[ab i];exact hl) hx;exact⟨ah,by rw[Zc2,if_neg i];exact g1,g2.mono n1⟩;intro l hl;rw[Zc2];by_cases i:l=l';simp_all;rw[if_neg i];exact hn l (by rw[ab i];exact hl);intro u l o2 hm hs;obtain⟨x,hx⟩:=Option.isSome_iff_exists.1 hs;have i:=ae hx;unfold Zef;rw[Zdp];rcases ha u l o2 hm (by rw[ab i];exact hs) with h2|h2;exact .inl (by rw[h2];simp[Ja,i]);exact .inr (by rw[h2];simp[Ja,i])
def ZBj(hih:Jp C ih):Zb8 C ih ⟨λr ih dk fm H U nx=>ZsY r.cs r.ad ih dk fm H U nx⟩ dk []:=by
 intro r fm H U nx o h F J ρd L s B hF hρ hN hS t;refine Zo6 (Zu1 hih h hF hρ.keep hN hS (λl vs hl hx=>?_) (λl hl=>?_) t.nd (λu l o hm _=>?_));obtain⟨u,o',hm⟩:=hx;obtain⟨ds,d1,d2⟩:=t.cs l vs hl;refine⟨ds,?_,d2⟩;have i:Zef (Yn ρd Zpg) u l o':=(t.ad u l o' hm).imp (λh=>Jv h (List.mem_range.2 (t.lt u l o' hm))) (λh=>Jv h (List.mem_range.2 (t.lt u l o' hm)));refine Zgh L _ l ds ?_ d1;rw[List.mem_flatMap];rcases i with h|h;exact⟨_,ZmR h,by simp[Km]⟩;exact⟨_,ZmR h,by simp[Km]⟩
 .cases hg:Zg (ZaZ (Yn ρd Zpg) L) l with
  |none=>rfl
  |some cs =>have:=JU L _ l cs hg;rw[t.no l hl]at this;grind
 exact(t.ad u l o hm).imp (λh=>Jv h (List.mem_range.2 (t.lt u l o hm))) (λh=>Jv h (List.mem_range.2 (t.lt u l o hm)))
end
section
variable {C:Px} {ih:Ih} {dk:List WW} {os:List (DOp × List Nat)} {rest:Bx RgD}
variable {r:Rl} {fm:Fm} {H:T W} {U:S} {nx:Nat} {o:Out} {F:Fr C.P} {J:Nm} {ρd:Env} {L:Loc} {s:St} {B:List (Nat × Rd)}
end
section
variable {C:Px} {ih:Ih} {dk:List WW} {os:List (DOp × List Nat)} {rest:Bx RgD}
variable {r:Rl} {fm:Fm} {H:T W} {U:S} {nx:Nat} {o:Out} {F:Fr C.P} {J:Nm} {ρd:Env} {L:Loc} {s:St} {B:List (Nat × Rd)}
def ZtH(u:Q1 C)(hih:Jp C ih){f}:∀{os},Zb8 C ih (Zlg C f os) dk os
 | []=>ZBj hih
 | (⟨dst,g,k⟩,fl)::os=>λr fm H U nx o h F J ρd L s B hF hρ hN hS hR=>by
  unfold Zlg at h;split at h;grind;rename_i t;have IH:=ZtH u hih (f:=f) (os:=os);split at h;exact ZxR u hih IH h rfl hF hρ hN hS hR;rename_i g0;simp only at h;split at h<;>(try(grind;done));rename_i b hb;have hg:=ZqD hρ hb;split at h;exact ZxR u hih IH h hg hF hρ hN hS hR;split at h<;>(try(grind;done));rename_i i;obtain⟨hd,hh⟩:=ZB h;cases hq:YB k with
  |true =>rw[hq,if_pos rfl]at hh;exact Zw5 hg hq (.d (.bool false)) (IH _ _ _ _ _ _ hh F J _ L s _ hF (JM hρ WR.skp dst) hN hS (hR.put hd _))
  |false =>
   rw[hq]at hh;have hp:Y3 k=false:=by cases k<;>simp[YB]at hq<;>first|rfl|exact absurd rfl (i _)|exact absurd rfl (t _)
   exact ZeN (e:=.d (.bool false)) hg hp (IH _ _ _ _ _ _ hh F J _ L s _ hF (JM hρ WR.skp dst) hN hS ((hR.put hd _).next fl))
def Zvn(t:Q1 C)(u:Jp C ih):Znq C ih:=by
 intro f order i kp fm k H U nx o h hf F J ρd s hF hρ hN hS;exact Zi4 (show DOA F nO k i ρd [] s [] from ZtH t u _ _ _ _ _ _ h F J ρd [] s [] hF hρ hN hS We.nil)
end
section
variable {P:Program}
def Za.subM{f args s Φ Φ'}(h:Za P f args s Φ)(u:∀r s',Φ r s'->∃s2,St.sub s2 s'/\Φ' r s2):Za P f args s Φ' :=
 ⟨h.1,λg w vs hs t=>(h.2 g w vs hs t).mono λ_ _ ⟨i,s',r,a,b,c,d⟩=>let ⟨s2,e1,e2⟩:=u r s' d;⟨i,s2,r,a,b.sub e1,c,e2⟩⟩
def St.emp:St:=λ_=>nO
def ZxE(s):St.emp.or s=s:=by funext b;simp[St.or,St.emp]
def Znp{f args d}(h:Za P f args St.emp λr _=>r=.ret d):Zf P f args d:=λs=>by
 have h1:Za P f args St.emp λr s'=>r=.ret d/\s'=St.emp:=h.subM λr s' hr=>⟨St.emp,λb o hb=>by simp[St.emp]at hb,hr,rfl⟩;have i:Z4 St.emp s:=λb o _=>rfl;have t:=h1.frame i;rw[ZxE]at t;refine t.mono λr S ⟨s',⟨u,e2⟩,_,e3⟩=>⟨u,?_⟩;rw[e3,e2,ZxE]
end
def nm0:Nm:=λk=>if k=0 then sO .none else if k=1 then sO .full else nO
def Zx8:Yu nm0 2:={
 z:=rfl
 o:=rfl
 two:=ZHK _
 free k hk:=by simp only[nm0];rw[if_neg ω,if_neg ω] }
def ZAp(C:Cx)(J:Nm)(s:St):Sim ⟨C,St.emp⟩ J T.nil s:={
 obj k o h:=by simp[T.get_nil]at h
 inj k k' o o' b h:=by simp[T.get_nil]at h
 kp b d h:=by simp[St.emp]at h
 ro k o b h:=by simp[T.get_nil]at h }
section
variable {P:Program}
def Zw9{F:Fr P}{kp dk o os H L s}(hg:Zk H o.guard=sO true){n xs}(hk:o.k=.call (.cst (.fn (.func n) [] [])) xs){p es ds}(ha:Z8 H true xs=sO (p,es))(hds:Ka es=sO ds)(hp:p){fn}(h0:P.funcs[n]?=sO fn)(h1:fn.body=nO)(h2:(fn.name == "runtime.NumGoroutine")=false)(h3:Extern.findNext fn=nO){e}(h4:Extern.find fn=sO e){d}(he:∀g w vs,ZH (Rep g w) vs ds->∃v,(e vs.toArray).run P w=.ok v w/\Rep g w v d)(h:DO F kp dk os (Zv H o.dst (.d d)) L s):DO F kp dk (o::os) H L s:=by
 refine Y1 λoo g Z w tmps av i r k ao ac ai ad hd hN m hr al=>?_;have hw:=Z2 m ai hg;have am:=Z9 ac (by rw[hk];rfl);rw[hk]at ac;obtain⟨f',t,ats,ap,aj,au⟩:=ZuS ac;have ae:Rep g w _ _:=ZX (H:=H) m aj rfl rfl trivial F.ds;have u:=K1 (Zb0 m rfl F.ds au ha hp) hds;obtain⟨v,aq,ar⟩:=he g w _ u;generalize ak:(Act.mk tmps F.ds).eval f'=fv at ae;have af:fv=.func (.func n) #[] #[]:=by
  cases ae with
  |fn _ fs cs _ _ e1 e2 _ _ =>
   obtain rfl:fs=[]:=by simpa using e1
   obtain rfl:cs=[]:=by simpa using e2
   rfl
 subst af;have ag:(Array.map (Act.mk tmps F.ds).eval t)=(t.toList.map (Act.mk tmps F.ds).eval).toArray:=by apply Array.ext';simp
 refine Zn6 (e:=.d d) hN m ao ad hd hw am ⟨v,?_,ar⟩ (h av r k hr al);have ab:(callFunc n ((t.toList.map (Act.mk tmps F.ds).eval).toArray++#[])).run P w=.ok (.value v) w:=by
  have ah:¬fn.name = "runtime.NumGoroutine":=by simpa using h2
  simp[callFunc,h0,ah,h1,h3,h4,aq]
 simp[execOp,ap,resolve,ak,ag,Deferred.ofValue,invoke];simpa using ab
def Zs6(c:Nat):List Nat->Int
 | []=>-1
 |b::l=>if Nat.beq (b % 256) (c % 256) then 0 else match Zs6 c l with
  |.ofNat n=>.ofNat (n+1)
  |.negSucc _=>-1
def Zu7(c):∀(l),Zs6 c l=Lib.indexByte (l.map UInt8.ofNat) (UInt8.ofNat c)
 | []=>rfl
 |b::l=>by
  have ih:=Zu7 c l;simp only[Zs6,ZHM,Lib.indexByte];have t:Nat.beq (b % 256) (c % 256)=(UInt8.ofNat b==UInt8.ofNat c):=by rw[Bool.eq_iff_iff,Nat.beq_eq,beq_iff_eq];constructor;intro h;apply UInt8.toNat_inj.1;simpa using h;intro h;have:=congrArg UInt8.toNat h;simpa using this
  rw[t];split;rfl;have i:=Lib.indexByte_ge (l.map UInt8.ofNat) (UInt8.ofNat c);rw[<-ih]at i⊢;cases u:Zs6 c l with
  |ofNat n =>
   have:(Int.ofNat n==-1)=false:=by rw[beq_eq_false_iff_ne];simp only[Int.ofNat_eq_natCast,ne_eq];omega
   rw[this];rfl
  |negSucc n =>
   rw[u]at i;have:n=0:=by have e:=Int.negSucc_eq n;omega
   subst this;rfl
def ZjI:∀(l c),Lib.indexByte l c<I l\/Lib.indexByte l c=-1
 | [],c=>.inr rfl
 |b::l,c=>by simp only[Lib.indexByte];split;left;simp;split;exact .inr rfl;rename_i h;rcases ZjI l c with h1|h1;left;simp;omega;rw[h1]at h;simp at h
def ZCG(n:FuncId):DF:=⟨8,[.tmp 4],.seq (.reg [⟨sO 4,nO,.q .mv [.cst (.i 0)]⟩] nO) (.seq (.reg [⟨sO 5,nO,.q .mv [.tmp 0]⟩,⟨sO 6,nO,.q .mv [.tmp 1]⟩,⟨sO 7,nO,.call (.cst (.fn (.func n) [] [])) [.tmp 5,.tmp 6]⟩,⟨sO 4,nO,.q .mv [.tmp 7]⟩] nO) .ret)⟩
def Zs8{an f n}(hf:cf P an f=sO (ZCG n)){t}(h0:P.funcs[n]?=sO t)(h1:t.body=nO)(h2:(t.name == "runtime.NumGoroutine")=false)(h3:Extern.findNext t=nO)(h4:Extern.find t=sO Extern.BytealgIndexByte.indexByte){l c}:
  Zf P f [.str l,.int .u8 c] (.i (Lib.indexByte l c.toNat.toUInt8)):=by
 refine Zi hf λF s i=>?_;refine Zc (ZhI (QI rfl (by repeat(first|trivial|constructor)) (ZeO (Zc (ZhI (QI rfl (by repeat(first|trivial|constructor)) (QI rfl (by repeat(first|trivial|constructor)) (Zw9 rfl rfl rfl rfl (by repeat(first|trivial|constructor)) h0 h1 h2 h3 h4 (d:=.int .i64 (Lib.indexByte l c.toNat.toUInt8)) (λg w vs u=>?_)
  (QI rfl (by repeat(first|trivial|constructor)) (ZeO (i rfl (by repeat(first|trivial|constructor)) (ZHx _) ZHw)))))))))))
 cases u with
 |cons a1 u =>
 cases u with
 |cons a2 u =>
 cases u;cases a1 with
 |str s _ hs hb =>
 cases a2 with
 |int _ _ hc =>
 subst hs;refine⟨_,Lib.run_indexByteString s c w,.int _ _ ?_⟩;have h1:=Lib.indexByte_ge s.data.toList c.toNat.toUInt8;have h2:=ZjI s.data.toList c.toNat.toUInt8;simp only[big]at hb;simp only[inR,IntKind.min,IntKind.max,IntKind.signed,IntKind.bits];generalize Lib.indexByte s.data.toList c.toNat.toUInt8=z at h1 h2⊢;rcases h2 with h2|h2<;>simp<;>omega
end
def Zak(f:V->V->Bool):List V->List V->Bool
 | [],[]=>true
 |a::x,b::y=>if f a b then Zak f x y else false
 |_,_=>false
def ZzV(ih:V->V->Bool)(k v:V):Bool:=match k with
 |.int i a=>match v with
  |.int j b=>Zf2 i j&&eqI a b
  |_=>false
 |.bool a=>match v with
  |.bool b=>a==b
  |_=>false
 |.str a=>match v with
  |.str b=>eqS a b
  |_=>false
 |.agg a=>match v with
  |.agg b=>Zak ih a b
  |_=>false
 |.nilsl=>match v with
  |.nilsl=>true
  |_=>false
 |.sl _ m s a=>match v with
  |.sl _ m' s' b=>Nat.beq m m'&&Nat.beq s s'&&Zak ih a b
  |_=>false
 |.nilptr=>match v with
  |.nilptr=>true
  |_=>false
 |.nilmap=>match v with
  |.nilmap=>true
  |_=>false
 |.niliface=>match v with
  |.niliface=>true
  |_=>false
 |_=>false
def Zfg(n:Nat):V->V->Bool:=Nat.rec (motive:=λ_=>V->V->Bool) (λ_ _=>false) (λ_ ih=>ZzV ih) n
def zV(n:Nat):V->V:=Nat.rec (motive:=λ_=>V->V) (λk=>k) (λ_ ih k=>match k with
 |.agg a=>.agg (a.map ih)
 |.sl _ m s a=>.sl 0 m s (a.map ih)
 |k=>k) n
def Zx2{J J'}:∀(n) {k v d},Zfg n k v=true->VR J v d->VR J' (zV n k) d
 |0,k,v,d,h,_=>by simp[Zfg]at h
 |n+1,k,v,d,h,hv=>by
  have ih:=λ{k v:V} {d:D}=>Zx2 (J:=J) (J':=J') n (k:=k) (v:=v) (d:=d);have ab:∀{a b:List V} {ds:List D},Zak (Zfg n) a b=true->VRs J b ds->VRs J' (a.map (zV n)) ds:=by
   intro a;induction a with
   |nil =>
    intro b ds h hb;cases b with
    |nil=>obtain rfl:=hb.inv0;exact .nil
    |cons _ _=>simp[Zak]at h
   |cons x a iha =>
    intro b ds h hb;cases b with
    |nil=>simp[Zak]at h
    |cons y b =>simp only[Zak]at h;split at h<;>(try(simp at h;done));rename_i hx;obtain⟨d,ds',rfl,h1,h2⟩:=hb.inv;exact .cons _ _ _ _ (ih hx h1) (iha h h2)
  have u:∀{s:Nat} {a b:List V} {row:Nat->List D},Zak (Zfg n) a b=true->VRr J s b row->VRr J' s (a.map (zV n)) row/\I a=I b:=by
   intro s a;induction a with
   |nil =>
    intro b row h hb;cases b with
    |nil=>exact⟨.nil _ _,rfl⟩
    |cons _ _=>simp[Zak]at h
   |cons x a iha =>
    intro b row h hb;cases b with
    |nil=>simp[Zak]at h
    |cons y b =>
     simp only[Zak]at h;split at h<;>(try(simp at h;done));rename_i hx;obtain⟨cs,rfl,h1,h2,h3⟩:=hb.inv;obtain⟨g1,g2⟩:=iha h h3;have hz:=ih hx (.agg _ _ h1);obtain⟨i,t,hl⟩:∃i,zV n x=.agg i/\VRs J' i (row 0):=by
      generalize he:zV n x=z at hz;cases hz with
      |agg i _ h=>exact⟨i,rfl,h⟩
     refine⟨?_,by simp[g2]⟩;rw[ZHM,t];exact .cons _ _ _ _ hl (by rw[hl.len,<-h1.len,h2]) g1
  have h':ZzV (Zfg n) k v=true:=h;cases k<;>simp only[ZzV,ZH5]at h'<;>cases hv<;>simp only[ZH5]at h';case int =>simp only[ZHG,Q9]at h';obtain⟨h1,rfl⟩:=h';obtain rfl:=Zfa h1;exact .int _ _
  case bool=>simp only[beq_iff_eq]at h';subst h';exact .bool _
  case str a b =>rw[ZnQ,decide_eq_true_eq]at h';show VR J' (.str a) _;rw[<-h'];exact .str _
  case agg a b ds hb=>exact .agg _ _ (ab h' hb)
  case nilsl=>exact .nilsl
  case sl =>simp only[ZHG,Z0]at h';obtain⟨⟨rfl,rfl⟩,h3⟩:=h';obtain⟨g1,g2⟩:=u h3 ‹VRr J _ _ _›;exact .sl _ _ _ _ _ _ g1 (by rw[ZHS,g2];assumption) (.inl rfl)
  case nilptr=>exact .nilptr
  case nilmap=>exact .nilmap
  case niliface=>exact .niliface
def ZjK:Option Out->Bool
 |some o=>match o.pan with
  |false=>match o.v with
   |.bool b=>b
   |_=>false
  |true=>false
 |none=>false
def ZxV{x}(h:ZjK x=true):∃U nx,x=sO ⟨false,.bool true,U,nx⟩:=by
 cases x with
 |none=>simp[ZjK]at h
 |some o =>obtain⟨pan,v,U,nx⟩:=o;cases pan<;>cases v<;>simp[ZjK]at h;subst h;exact⟨U,nx,rfl⟩
def Zfd(f0:FuncId)(f:FuncId):Option (S->List V->Option V):=match Nat.beq f f0 with
 |true=>sO λ_ vs=>match vs with
  | [.str s,.int k c]=>match k with
   |.u8=>sO (.i (Zs6 c.toNat s))
   |_=>nO
  |_=>nO
 |false=>nO
def ZBw{P:Program}{mu:FuncId->Option Nat->Bool}{f0 n:FuncId}(hf:cf P [] f0=sO (ZCG n)){fn:Func}(h0:P.funcs[n]?=sO fn)(h1:fn.body=nO)(h2:(fn.name == "runtime.NumGoroutine")=false)(h3:Extern.findNext fn=nO)(h4:Extern.find fn=sO Extern.BytealgIndexByte.indexByte)(t:St):Q1 ⟨⟨P,Zfd f0,mu⟩,t⟩:=by
 intro f g U vs v i u J ds s hv hS;simp only[Zfd]at i;split at i<;>simp only[ZHu,reduceCtorEq]at i;rename_i hb;rw[Z0]at hb;subst hb;subst i;simp only at u;split at u<;>(try(simp at u;done));split at u<;>simp only[ZHu,reduceCtorEq]at u;subst u;obtain⟨d,d',rfl,a1,a2⟩:=hv.inv2;cases a1;cases a2;refine⟨_,.int _ _,?_⟩;rename_i l c;rw[Zu7];exact Zs8 hf h0 h1 h2 h3 h4 s
def ZB4{C:Cx}(u:∀t,Q1 ⟨C,t⟩){f:FuncId}{m:Nat}(h:ZjK ((ZhP C f).run (run C m) [] T.nil 2)=true):Zf C.P f [] (.bool true):=by
 obtain⟨U,nx,h⟩:=ZxV h;refine Znp ?_;have i:=Zoy u (λC' ih he i=>Zvn (by subst he;exact u _) i) m St.emp;refine(ZmA (C:=⟨C,St.emp⟩) (u _) i h .nil Zx8 (ZAp C nm0 St.emp)).mono λr s hp=>?_;obtain⟨J',d',k1,k2,k3,k4,k5⟩:=hp;cases k4;exact k5
def ZV.mslo{t Ln b o n cap sz ds row}(hb:b∈Ln)(ht:t b=sO (.cells ds))(hlen:n*sz<=I ds-o)(hrow:∀i,i<n->LdC t Ln ((ds.drop (o+i*sz)).take sz) (row i)):ZV t Ln (.msl b o n cap sz) (.sl .none n sz row):=by
 intro g w v hf hr;obtain⟨vs,T,hh,hsz,hc,one,hp⟩:=hf b hb ds ht;cases hr with
 |mslx a _ _ _=>exact .sl0 _ _ _ _ ψ
 |msl _ _ _ _ _ hcap hbig =>
 have ab:∀i j,i<n->j<sz->o+i*sz+j<I ds:=λi j hi hj=>by have:(i+1)*sz<=n*sz:=ZHP _ hi;rw[ZHU,Nat.one_mul]at this;omega
 have u:∀i j,i<n->j<sz->vs[o+i*sz+j]?=sO (vs.getD (o+i*sz+j) undef):=λi j hi hj=>by have h1:=ab i j hi hj;simp[Array.getElem?_eq_getElem (show o+i*sz+j<vs.size by omega)]
 have ac:∀i j,i<n->j<sz->vs.getD (o+i*sz+j) undef∈vs:=λi j hi hj=>by have h1:=ab i j hi hj;simp only[ZIh,Array.getElem?_eq_getElem (show o+i*sz+j<vs.size by omega)];exact Array.getElem_mem _
 have ad:∀i,i<n->(row i).length=sz:=λi hi=>by rw[<-(hrow i hi).len,ZHQ,ZH9];have:(i+1)*sz<=n*sz:=ZHP _ hi;rw[ZHU,Nat.one_mul]at this;omega
 refine .sl b o n cap sz row .none (λi j=>vs.getD (o+i*sz+j) undef) ad (λi j hi hj=>?_) (λi j hi hj=>?_) (λi j d hi hd=>?_) (λi j hi hj=>one _ (ac i j hi hj)) trivial hcap hbig;rw[KX hh];exact u i j hi hj;have:=ab i j hi hj;omega;have hj:j<sz:=by rw[<-ad i hi];exact(List.getElem?_eq_some_iff.1 hd).1
 obtain⟨x,hx,ae⟩:=(hrow i hi).get hd;rw[ZIb,if_pos hj,List.getElem?_drop]at hx;exact ae g w _ hf (hc _ _ x (u i j hi hj) hx)
def ZV.tup{t Ln l l'}(h:LdC t Ln l l'):ZV t Ln (.tup l) (.tup l'):=by
 intro g w v hf hr;cases hr with
 |tup vs _ hn hc =>refine .tup vs _ (hn.trans h.len) (λi v d hv hd=>?_);obtain⟨x,hx,u⟩:=h.get hd;exact u g w v hf (hc i v x hv hx)
def ZV.iface{t Ln T d i}(h:ZV t Ln d i):ZV t Ln (.iface T d) (.iface T i):=by
 intro g w v u hr;cases hr with
 |iface _ v _ hv=>exact .iface T v i (h g w v u hv)
def ZV.sl{t}{Ln}{τ}{n sz}{row row'}(hrow:∀i,i<n->LdC t Ln (row i) (row' i)):ZV t Ln (.sl τ n sz row) (.sl .none n sz row'):=by
 intro g w v hf hr;cases hr with
 |sl0 a _ _ _ _=>exact .sl0 a _ _ _ ψ
 |sl b o _ cap _ _ _ f hl hc hp hrr one ht hcap hb =>refine .sl b o n cap sz row' .none f (λi hi=>by rw[<-(hrow i hi).len];exact hl i hi) hc hp (λi j d hi hd=>?_) one trivial hcap hb;obtain⟨x,hx,u⟩:=(hrow i hi).get hd;exact u g w _ hf (hrr i j x hi hx)
def ZV.more{t Ln Ln' d i}(h:ZV t Ln d i)(hs:∀b∈Ln,b∈Ln'):ZV t Ln' d i:=λg w v hf hr=>h g w v (λb u=>hf b (hs b u)) hr
def LdC.more{t Ln Ln' l l'}(h:LdC t Ln l l')(i:∀b∈Ln,b∈Ln'):LdC t Ln' l l':=by
 induction h with
 |nil=>exact .nil
 |cons h _ ih=>exact .cons (h.more i) ih
def Ya.frz{g s w}(m:Ya g s w){Ln}(hL:∀b∈Ln,∃ds,s b=sO (.cells ds)):Ya (Ky g s Ln) (s.delL Ln) w:=by
 have hx:=Ju m hL;have t:∀c,c∉Ln->(Ky g s Ln).prot c=g.prot c:=λc u=>by simp[Ky,if_neg u]
 refine⟨λc x i=>?_,λc x i=>?_,λc u=>?_,λn cs u=>(m.tabs n cs u).mono hx⟩;simp[St.delL]at i;by_cases u:c∈Ln;simp[u]at i;simp[u]at i;exact(m.obj c x i).mono hx rfl (t c u);simp[St.delL]at i;by_cases u:c∈Ln;simp[u]at i;simp[u]at i;exact m.kept c x i;have h1:=m.fresh c u;refine⟨(t c λh=>?_).trans h1.1,h1.2⟩;obtain⟨ds,hd⟩:=hL c h;have:=(m.obj c _ hd).lt;omega
def Za.frz{P f args s Φ d0}(h:Za P f args s Φ)(hp:∀r s',Φ r s'->∃d Ln,r=.ret d/\(∀b∈Ln,∃ds,s' b=sO (.cells ds))/\ZV s' Ln d d0):Za P f args s λr _=>r=.ret d0:=by
 refine⟨h.1,λg w vs hs ha=>(h.2 g w vs hs ha).mono λe w' ⟨g',s',r,hx,i,hr,hΦ⟩=>?_⟩;obtain⟨d,Ln,rfl,u,t⟩:=hp r s' hΦ;refine⟨Ky g' s' Ln,s'.delL Ln,.ret d0,hx.trans (Ju i u),i.frz u,?_,rfl⟩;cases e with
 |returned v=>exact t _ w' v (ZeG i u) (Rep.mono hr (Ju i u))
 |_=>exact hr.elim
def rdL(f:V->Option V):List V->Option (List V)
 | []=>sO []
 |v::l=>match f v with
  |some r=>J2 r (rdL f l)
  |none=>nO
def ZdM(f:V->Option V)(s:Nat):List V->Option (List V)
 | []=>sO []
 |.agg cs::l=>match Nat.beq (I cs) s with
  |true=>match rdL f cs with
   |some r=>J2 (.agg r) (ZdM f s l)
   |none=>nO
  |false=>nO
 |_::_=>nO
def Ze1(s:Nat):Nat->List V->Option (List V)
 |0,_=>sO []
 |n+1,l=>match Za6 s l with
  |some c=>J2 (.agg c) (Ze1 s n (Zbq s l))
  |none=>nO
def rd(U:S):Nat->V->Option V
 |0,_=>nO
 |n+1,v=>match v with
  |.int k a=>sO (.int k a)
  |.bool b=>sO (.bool b)
  |.str s=>sO (.str s)
  |.nilsl=>sO .nilsl
  |.nilptr=>sO .nilptr
  |.nilmap=>sO .nilmap
  |.nilfn=>sO .nilfn
  |.niliface=>sO .niliface
  |.agg cs=>match rdL (rd U n) cs with
   |some r=>sO (.agg r)
   |none=>nO
  |.tup cs=>match rdL (rd U n) cs with
   |some r=>sO (.tup r)
   |none=>nO
  |.iface t x=>match rd U n x with
   |some r=>sO (.iface t r)
   |none=>nO
  |.sl _ m s rs=>match Nat.beq (I rs) m with
   |true=>match ZdM (rd U n) s rs with
    |some r=>sO (.sl 0 m s r)
    |none=>nO
   |false=>nO
  |.msl k o m _ s=>match ZaP (U.get k) with
   |some vs=>match Za6 (m*s) (Zbq o vs) with
    |some cs=>match Ze1 s m cs with
     |some rs=>match ZdM (rd U n) s rs with
      |some r=>sO (.sl 0 m s r)
      |none=>nO
     |none=>nO
    |none=>nO
   |none=>nO
  |_=>nO
def dV:Nat->V->D
 |0,_=>.undef
 |n+1,v=>match v with
  |.int k a=>.int k a
  |.bool b=>.bool b
  |.str s=>.str (s.map UInt8.ofNat)
  |.nilsl=>.nilsl
  |.nilptr=>.nilptr
  |.nilmap=>.nilmap
  |.nilfn=>.nilfn
  |.niliface=>.niliface
  |.agg cs=>.agg (cs.map (dV n))
  |.tup cs=>.tup (cs.map (dV n))
  |.iface t x=>.iface t (dV n x)
  |.sl _ m s rs=>.sl .none m s λi=>match rs[i]? with
   |some (.agg cs)=>cs.map (dV n)
   |_=>[]
  |_=>.undef
def ZAm(n:Nat)(rs:List V)(i:Nat):List D:=match rs[i]? with
 |some (.agg cs)=>cs.map (dV n)
 |_=>[]
def Zvl{f}:∀{vs rs},rdL f vs=sO rs->I rs=I vs
 | [],rs,h=>by cases h;rfl
 |v::vs,rs,h=>by simp[rdL]at h;split at h<;>(try(grind;done));obtain⟨q,i,rfl⟩:=KG h;simp[Zvl i]
def Zfn{U n}(ih:∀v r,rd U n v=sO r->∀J,VR J r (dV n r)):∀{vs rs},rdL (rd U n) vs=sO rs->∀J,VRs J rs (rs.map (dV n))
 | [],rs,h,J=>by cases h;exact .nil
 |v::vs,rs,h,J=>by simp[rdL]at h;split at h<;>(try(grind;done));rename_i r t;obtain⟨q,i,rfl⟩:=KG h;exact .cons _ _ _ _ (ih v r t J) (Zfn ih i J)
def ZgQ{U n sz}(ih:∀v r,rd U n v=sO r->∀J,VR J r (dV n r)):∀{vs rs},ZdM (rd U n) sz vs=sO rs->I rs=I vs/\∀J,VRr J sz rs (ZAm n rs)
 | [],rs,h=>by cases h;exact⟨rfl,λ_=>.nil _ _⟩
 |v::vs,rs,h=>by cases v<;>simp[ZdM]at h;split at h<;>(try(grind;done));rename_i i;rw[Z0]at i;split at h<;>(try(grind;done));rename_i r t;obtain⟨q,hq,rfl⟩:=KG h;obtain⟨u,h2⟩:=ZgQ ih hq;exact⟨by simp[u],λJ=>.cons _ _ _ _ (Zfn ih t J) (by rw[Zvl t,i]) (h2 J)⟩
def Znz{sz}:∀{m cs rs},Ze1 sz m cs=sO rs->I rs=m
 |0,cs,rs,h=>by cases h;rfl
 |m+1,cs,rs,h=>by simp[Ze1]at h;split at h<;>(try(grind;done));obtain⟨q,hq,rfl⟩:=KG h;simp[Znz hq]
def Zlf{U}:∀(n v r),rd U n v=sO r->∀J,VR J r (dV n r)
 |0,v,r,h=>by simp[rd]at h
 |n+1,v,r,h=>λJ=>by
  have ih:=Zlf (U:=U) n;cases v<;>simp only[rd,ZHu,reduceCtorEq]at h;case int=>subst h;exact .int _ _
  case bool=>subst h;exact .bool _
  case str=>subst h;exact .str _
  case nilsl=>subst h;exact .nilsl
  case nilptr=>subst h;exact .nilptr
  case nilmap=>subst h;exact .nilmap
  case nilfn=>subst h;exact .nilfn
  case niliface=>subst h;exact .niliface
  case agg cs =>split at h<;>simp only[ZHu,reduceCtorEq]at h;rename_i q u;subst h;exact .agg _ _ (Zfn ih u J)
  case tup cs =>split at h<;>simp only[ZHu,reduceCtorEq]at h;rename_i q u;subst h;exact .tup _ _ (Zfn ih u J)
  case iface t x =>split at h<;>simp only[ZHu,reduceCtorEq]at h;rename_i q u;subst h;exact .iface _ _ _ (ih x q u J)
  case sl t m sz rs =>split at h<;>(try(simp only[reduceCtorEq]at h;done));rename_i hb;rw[Z0]at hb;split at h<;>simp only[ZHu,reduceCtorEq]at h;rename_i q u;subst h;obtain⟨h1,h2⟩:=ZgQ ih u;exact .sl _ _ _ _ _ _ (h2 J) (h1.trans hb) (.inl rfl)
  case msl k o m cap sz =>split at h<;>(try(simp only[reduceCtorEq]at h;done));split at h<;>(try(simp only[reduceCtorEq]at h;done));split at h<;>(try(simp only[reduceCtorEq]at h;done));rename_i rs i;split at h<;>simp only[ZHu,reduceCtorEq]at h;rename_i q u;subst h;obtain⟨h1,h2⟩:=ZgQ ih u;exact .sl _ _ _ _ _ _ (h2 J) (h1.trans (Znz i)) (.inl rfl)
def ZvN(J:Nm)(U:S)(s:St)(n:Nat):Prop:=∀v r d,rd U n v=sO r->VR J v d->∃Ln,(∀b∈Ln,∃ds,s b=sO (.cells ds))/\ZV s Ln d (dV n r)
def Zho{J U s n}(ih:ZvN J U s n):∀{vs rs ds},rdL (rd U n) vs=sO rs->VRs J vs ds ->
  ∃Ln,(∀b∈Ln,∃ds,s b=sO (.cells ds))/\LdC s Ln ds (rs.map (dV n))
 | [],rs,ds,h,hv=>by obtain rfl:=hv.inv0;cases h;exact⟨[],ψ,.nil⟩
 |v::vs,rs,ds,h,hv=>by obtain⟨d,ds',rfl,u,h2⟩:=hv.inv;simp[rdL]at h;split at h<;>(try(grind;done));rename_i r hr;obtain⟨q,hq,rfl⟩:=KG h;obtain⟨L1,a1,a2⟩:=ih v r d hr u;obtain⟨L2,i,t⟩:=Zho ih hq h2;refine⟨L1++L2,λb hb=>?_,.cons (a2.more λb hb=>by simp[hb]) (t.more λb hb=>by simp[hb])⟩;rcases List.mem_append.1 hb with hb|hb;exact a1 b hb;exact i b hb
def Zj7{J}{U}{s}{n sz}(ih:ZvN J U s n):∀{vs rs} {row},ZdM (rd U n) sz vs=sO rs->VRr J sz vs row ->
  ∃Ln,(∀b∈Ln,∃ds,s b=sO (.cells ds))/\∀i,i<I vs->LdC s Ln (row i) (ZAm n rs i)
 | [],rs,row,h,hv=>⟨[],ψ,ψ⟩
 |v::vs,rs,row,h,hv=>by
  obtain⟨cs,rfl,h1,h2,h3⟩:=hv.inv;simp[ZdM]at h;split at h<;>(try(grind;done));split at h<;>(try(grind;done));rename_i r hr;obtain⟨q,hq,rfl⟩:=KG h;obtain⟨L1,a1,a2⟩:=Zho ih hr h1;obtain⟨L2,t,u⟩:=Zj7 ih hq h3;refine⟨L1++L2,λb hb=>?_,λi hi=>?_⟩;rcases List.mem_append.1 hb with hb|hb;exact a1 b hb;exact t b hb;cases i with
  |zero=>exact a2.more λb hb=>by simp[hb]
  |succ i =>have:=u i (by simpa using hi);exact LdC.more this λb hb=>by simp[hb]
def Zqk{J sz}:∀{m cs rs ds},Ze1 sz m cs=sO rs->VRs J cs ds->I rs=m/\VRr J sz rs λi=>(ds.drop (i*sz)).take sz
 |0,cs,rs,ds,h,hv=>by cases h;exact⟨rfl,.nil _ _⟩
 |m+1,cs,rs,ds,h,hv=>by
  simp[Ze1]at h;split at h<;>(try(grind;done));rename_i c hc;obtain⟨q,hq,rfl⟩:=KG h;obtain⟨c1,rfl⟩:=J9 hc;rw[Jr]at hq;obtain⟨u,t⟩:=Zqk hq (hv.drop sz);refine⟨by simp[u],.cons _ _ _ _ (by simpa using hv.take sz) (by simp;omega) ?_⟩;have e:(λi=>((ds.drop sz).drop (i*sz)).take sz)=λi=>(ds.drop ((i+1)*sz)).take sz:=by funext i;rw[List.drop_drop,ZHU,Nat.one_mul,Nat.add_comm]
  rw[e]at t;exact t
def Zyk{J U s n}(ih:ZvN J U s n)(hS:ZrW J U s){k b o m cap sz cv cs rs q}(hk:J k=sO (.tip b))(hcv:ZaP (U.get k)=sO cv)(t:Za6 (m*sz) (Zbq o cv)=sO cs)(hrs:Ze1 sz m cs=sO rs)(hq:ZdM (rd U n) sz rs=sO q):
  ∃Ln,(∀b∈Ln,∃ds,s b=sO (.cells ds))/\ZV s Ln (.msl b o m cap sz) (.sl .none m sz (ZAm n q)):=by
 obtain⟨ds,ex,u,hv⟩:=hS _ _ _ hcv hk;rw[Jr]at t;obtain⟨c1,rfl⟩:=J9 t;obtain⟨e1,e2⟩:=Zqk hrs ((hv.drop o).take (m*sz));obtain⟨L,a1,a2⟩:=Zj7 ih hq e2;have hl:=hv.len;rw[ZH9,hl]at c1;refine⟨b::L,λc hc=>?_,ZV.mslo (ds:=ds++ex) ψ u (by rw[ZHF];omega) (λi hi=>?_)⟩;rcases List.mem_cons.1 hc with rfl|hc;exact⟨_,u⟩;exact a1 c hc;have h1:=a2 i ω;have hm:(i+1)*sz<=m*sz:=ZHP _ hi;rw[ZHU,Nat.one_mul]at hm;have e:((((ds.drop o).take (m*sz)).drop (i*sz)).take sz)=((ds++ex).drop (o+i*sz)).take sz:=by rw[List.drop_take,List.take_take,List.drop_drop,Nat.min_eq_left ω,List.drop_append,List.take_append_of_le_length (by rw[ZH9];omega)]
 rw[e]at h1;exact h1.more λb u=>by simp[u]
def ZrR{J U s}(hS:ZrW J U s):∀n,ZvN J U s n
 |0=>λv r d h _=>by simp[rd]at h
 |n+1=>λv r d h hv=>by
  have ih:=ZrR hS n;have nn:∀b∈([]:List Nat),∃ds,s b=sO (.cells ds):=by simp
  cases hv<;>simp only[rd,ZHu,reduceCtorEq]at h;case int=>subst h;exact⟨[],nn,ZV.refl _⟩
  case bool=>subst h;exact⟨[],nn,ZV.refl _⟩
  case str=>subst h;exact⟨[],nn,ZV.refl _⟩
  case nilsl=>subst h;exact⟨[],nn,ZV.refl _⟩
  case nilptr=>subst h;exact⟨[],nn,ZV.refl _⟩
  case nilmap=>subst h;exact⟨[],nn,ZV.refl _⟩
  case nilfn=>subst h;exact⟨[],nn,ZV.refl _⟩
  case niliface=>subst h;exact⟨[],nn,ZV.refl _⟩
  case agg cs ds hc =>split at h<;>simp only[ZHu,reduceCtorEq]at h;rename_i q hq;subst h;obtain⟨L,a1,a2⟩:=Zho ih hq hc;exact⟨L,a1,ZV.agg a2⟩
  case tup cs ds hc =>split at h<;>simp only[ZHu,reduceCtorEq]at h;rename_i q hq;subst h;obtain⟨L,a1,a2⟩:=Zho ih hq hc;exact⟨L,a1,ZV.tup a2⟩
  case iface t x d hx =>split at h<;>simp only[ZHu,reduceCtorEq]at h;rename_i q hq;subst h;obtain⟨L,a1,a2⟩:=ih x q d hq hx;exact⟨L,a1,ZV.iface a2⟩
  case sl t m sz rs τ row hr hn ht =>split at h<;>(try(simp only[reduceCtorEq]at h;done));split at h<;>simp only[ZHu,reduceCtorEq]at h;rename_i q hq;subst h;obtain⟨L,a1,a2⟩:=Zj7 ih hq hr;exact⟨L,a1,ZV.sl (λi hi=>a2 i ω)⟩
  case msl k b o m cap sz hk =>split at h<;>(try(simp only[reduceCtorEq]at h;done));rename_i cv ab;split at h<;>(try(simp only[reduceCtorEq]at h;done));rename_i cs u;split at h<;>(try(simp only[reduceCtorEq]at h;done));rename_i rs ac;split at h<;>simp only[ZHu,reduceCtorEq]at h;rename_i q hq;subst h;exact Zyk ih hS hk ab u ac hq
  case gsl k b o m cap sz c hk _ _ _ =>split at h<;>(try(simp only[reduceCtorEq]at h;done));rename_i cv ab;split at h<;>(try(simp only[reduceCtorEq]at h;done));rename_i cs u;split at h<;>(try(simp only[reduceCtorEq]at h;done));rename_i rs ac;split at h<;>simp only[ZHu,reduceCtorEq]at h;rename_i q hq;subst h;exact Zyk ih hS hk ab u ac hq
def ZAj(n:Nat):Option Out->Option V
 |some o=>match o.pan with
  |false=>rd o.U n o.v
  |true=>nO
 |none=>nO
def ZpC{J J' a}:∀{ks vs ds},Zak (Zfg a) ks vs=true->VRs J vs ds->VRs J' (ks.map (zV a)) ds
 | [],[],ds,_,hb=>by obtain rfl:=hb.inv0;exact .nil
 | [],_::_,ds,h,_=>by cases h
 |_::_,[],ds,h,_=>by cases h
 |x::ks,y::vs,ds,h,hb=>by simp only[Zak]at h;split at h<;>(try(grind;done));rename_i u;obtain⟨d,ds',rfl,i,t⟩:=hb.inv;exact .cons _ _ _ _ (Zx2 a u i) (ZpC h t)
structure ZcT where
 f:FuncId
 a:Nat
 n:Nat
 ks:List V
 r:V
def Zbf(P:Program)(k:ZcT):Prop:=∀(vs:List V) (J:Nm) (ds:List D),Zak (Zfg k.a) k.ks vs=true->VRs J vs ds->Zf P k.f ds (dV k.n k.r)/\VR J k.r (dV k.n k.r)
def Zk7{C}(hlib:∀t,Q1 ⟨C,t⟩)(k){m}(h:ZAj k.n ((ZhP C k.f).run (run C m) (k.ks.map (zV k.a)) T.nil 2)=sO k.r):Zbf C.P k:=by
 intro vs J ds hm hv;cases ho:(ZhP C k.f).run (run C m) (k.ks.map (zV k.a)) T.nil 2 with
 |none=>rw[ho]at h;cases h
 |some o =>rw[ho]at h;simp[ZAj]at h;split at h<;>(try(grind;done));rename_i ab;have u:=Zoy hlib (λC' ih he u=>Zvn (by subst he;exact hlib _) u) m St.emp;have i:=ZmA (C:=⟨C,St.emp⟩) (hlib _) u ho (ZpC hm hv) Zx8 (ZAp C nm0 St.emp);refine⟨Znp (i.frz λr s hp=>?_),?_⟩;obtain⟨J',d',k1,k2,k3,k4,k5⟩:=hp;rw[ab]at k5;obtain⟨Ln,a1,a2⟩:=ZrR (λ_ _ _ h hb=>k3.cells h hb) k.n o.v k.r d' h k4;exact⟨d',Ln,k5,a1,a2⟩;exact Zlf k.n o.v k.r h J
def ZpM(f:FuncId):List ZcT->List ZcT
 | []=>[]
 |k::l=>match Nat.beq f k.f with
  |true=>k::ZpM f l
  |false=>ZpM f l
def Zh3:List ZcT->List V->Option V
 | [],_=>nO
 |k::l,vs=>match Zak (Zfg k.a) k.ks vs with
  |true=>sO k.r
  |false=>Zh3 l vs
def Zv8(ih:V->Bool):V->Bool
 |.int _ _=>true
 |.bool _=>true
 |.str _=>true
 |.nilsl=>true
 |.nilptr=>true
 |.nilmap=>true
 |.nilfn=>true
 |.niliface=>true
 |.agg cs=>cs.all ih
 |.tup cs=>cs.all ih
 |_=>false
def ZrJ(n:Nat):V->Bool:=Nat.rec (motive:=λ_=>V->Bool) (λ_=>false) (λ_ ih=>Zv8 ih) n
def Zu3{N m}:∀(n) {v},ZrJ n v=true->SC N (dV m v)
 |0,v,h=>by cases h
 |n+1,v,h=>by
  have h':Zv8 (ZrJ n) v=true:=h;cases m with
  |zero=>exact .undef
  |succ m =>
   have i:∀{cs:List V},cs.all (ZrJ n)=true->∀c∈cs.map (dV m),SC N c:=λ{cs} hc c hm=>by obtain⟨x,t,rfl⟩:=List.mem_map.1 hm;exact Zu3 n (List.all_eq_true.1 hc x t)
   cases v<;>simp only[Zv8,ZH5]at h'<;>simp[dV];case int=>exact .int _ _
   case bool=>exact .bool _
   case str=>exact .str _
   case nilsl=>exact .nilsl
   case nilptr=>exact .nilptr
   case nilmap=>exact .nilmap
   case nilfn=>exact .nilfn
   case niliface=>exact .niliface
   case agg cs=>exact .agg _ (i h')
   case tup cs=>exact .tup _ (i h')
def ZzT(f0:FuncId)(K:List ZcT)(f:FuncId):Option (S->List V->Option V):=match ZpM f K with
 | []=>Zfd f0 f
 |k::l=>sO λU vs=>match Zh3 (k::l) vs with
  |some r=>sO r
  |none=>match rdL (rd U 40) vs with
   |some ws=>match Zh3 (k::l) ws with
    |some r=>noV (ZrJ 40 r) (sO r)
    |none=>nO
   |none=>nO
def Zfs{f}:∀{K k},k∈ZpM f K->k∈K/\k.f=f
 | [],k,h=>by simp[ZpM]at h
 |x::K,k,h=>by simp only[ZpM]at h;split at h;rename_i i;rw[Z0]at i;rcases List.mem_cons.1 h with rfl|h;exact⟨ψ,i.symm⟩;exact⟨by simp[(Zfs h).1],(Zfs h).2⟩;exact⟨by simp[(Zfs h).1],(Zfs h).2⟩
def Zqu{vs v}:∀{K},Zh3 K vs=sO v->∃k∈K,Zak (Zfg k.a) k.ks vs=true/\v=k.r
 | [],h=>by simp[Zh3]at h
 |x::K,h=>by simp only[Zh3]at h;split at h;rename_i hm;simp only[ZHu]at h;exact⟨x,ψ,hm,h.symm⟩;obtain⟨k,i,t⟩:=Zqu h;exact⟨k,by simp[i],t⟩
def Zyj{U n vs rs}(h:rdL (rd U n) vs=sO rs)(J):VRs J rs (rs.map (dV n)):=Zfn (λv r h J=>Zlf n v r h J) h J
def ZBx{P mu f0 K}(h0:∀t,Q1 ⟨⟨P,Zfd f0,mu⟩,t⟩)(hK:∀k∈K,Zbf P k)(t):Q1 ⟨⟨P,ZzT f0 K,mu⟩,t⟩:=by
 intro f g U vs v i hg J ds s hv hS;simp[ZzT]at i;split at i;exact h0 t f g U vs v i hg J ds s hv hS;rename_i k l hs;cases i;have ab:∀{ws:List V} {v:V},Zh3 (k::l) ws=sO v->∃k':ZcT,f=k'.f/\v=k'.r/\∀(J:Nm) (ds:List D),VRs J ws ds->Zf P k'.f ds (dV k'.n k'.r)/\VR J k'.r (dV k'.n k'.r):=λ{ws v} hk=>by obtain⟨k',h1,h2,rfl⟩:=Zqu hk;rw[<-hs]at h1;obtain⟨h3,rfl⟩:=Zfs h1;exact⟨k',rfl,rfl,λJ ds hv=>hK k' h3 ws J ds h2 hv⟩
 simp only at hg;split at hg;rename_i r hr;cases hg;obtain⟨k',rfl,rfl,hk⟩:=ab hr;obtain⟨h4,h5⟩:=hk J ds hv;exact⟨_,h5,h4 s⟩;split at hg<;>(try(grind;done));rename_i ws u;split at hg<;>(try(grind;done));rename_i r hr;unfold noV at hg;split at hg<;>simp at hg;rename_i ac;subst hg;obtain⟨k',rfl,rfl,hk⟩:=ab hr;obtain⟨Ln,a1,a2⟩:=Zho (ZrR hS 40) u hv;obtain⟨h4,h5⟩:=hk J _ (Zyj u J);refine⟨_,h5,(Za.lend a1 a2 (h4 _) ?_).mono ?_⟩;rintro r S ⟨rfl,rfl⟩;exact⟨Zu3 40 ac,λb o hb=>by simp at hb⟩;rintro r S ⟨S',⟨rfl,rfl⟩,_,rfl⟩;exact⟨rfl,rfl⟩
def LdC.le0{Ln l l'}(h:LdC St.emp Ln l l'):LeC l l':=by
 induction h with
 |nil=>exact .nil
 |cons h _ ih=>exact .cons (λg w v t=>h g w v (λb _ ds i=>by simp[St.emp]at i) t) ih
def ZqJ{P}{k}(hc:Zf P k.f (k.ks.map (dV 40)) (dV k.n k.r))(i:rdL (rd T.nil 40) (k.ks.map (zV k.a))=sO k.ks)(t:rd T.nil k.n k.r=sO k.r):Zbf P k:=by
 intro vs J ds hm hv;obtain⟨Ln,_,a2⟩:=Zho (s:=St.emp) (ZrR (λ_ _ _ h u=>(ZAp ⟨P,λ_=>nO,λ_ _=>false⟩ nm0 St.emp).cells h u) 40) i (ZpC (J':=nm0) hm hv);exact⟨hc.leA a2.le0,Zlf k.n k.r k.r t J⟩
end Go.DL
namespace Go.DL
open Go Go.Proofs
variable {kp:Option (List Nat)}{L:Loc}{H:Env}{s:St}{w:World}{os:List DOp}{ds:List D}{B:List (Nat × Rd)}{dst:Option Nat}{tmps:Array Value}{g:G}{Φ:Res->St->Prop}{Z:Nat->Nat}{xs:List Opd}{side:Prop}{row:Nat->List D}{vs:List V}
def ZjQ(f:FuncId)(_:Option Nat):Bool:=ZgL f [15,21,33,34,63,64,66,67,93,94,95,96,97,110,111,124,125,128,130,131,132,133,134,135,136,138,139,140,141,142,143,144,146,147,177,182,183,262]
def Zfc(t:St):Q1 ⟨⟨ZHv,Zfd 87,ZjQ⟩,t⟩ :=
 ZBw (n:=117) (by kernel_rfl) Tryz.func117 (by kernel_rfl) (by kernel_rfl) (by kernel_rfl) (by kernel_rfl) t
def ZDz:V:=.agg [.str [100],.sl 0 1 2 [.agg [.str [109],.sl 0 4 15 [.agg [.str [97],.i 1,.i 4,.bool false,.bool false,.i 0,.i 15,.i 0,.nilsl,.str [],.str [],.str [],.nilsl,.i 0,.i 0],.agg [.str [107],.i 2,.i 4,.bool false,.bool false,.i 5,.i 0,.i 0,.nilsl,.str [],.str [],.str [],.nilsl,.i 0,.i 0],.agg [.str [98],.i 5,.i 0,.bool false,.bool false,.i 0,.i 3,.i 0,.nilsl,.str [],.str [],.str [],.nilsl,.i 0,.i 0],.agg [.str [115],.i 11,.i 0,.bool false,.bool false,.i 0,.i 0,.i 0,.nilsl,.str [],.str [],.str [97],.nilsl,.i 1,.i 0]]]],.str [109]]
def kf0:ZcT:=⟨62,40,40,[ZDz],.bool true⟩
def kf1:ZcT:=⟨175,40,40,[.sl 0 1 1 [.agg [.str [97]]],.str [46]],.str [97]⟩
def kf2:ZcT:=⟨175,40,40,[.sl 0 1 1 [.agg [.str [98]]],.str [46]],.str [98]⟩
def kf3:ZcT:=⟨9,40,40,[.str [109,40,97,61,49,50,32,98,35,54,49,54,50,41]],.tup [.agg [.str [109],.i 0,.nilsl,.nilsl,.sl 0 2 5 [.agg [.str [97],.i 12,.nilsl,.nilsl,.nilsl],.agg [.str [98],.i 0,.sl 0 2 1 [.agg [.int .u8 97],.agg [.int .u8 98]],.nilsl,.nilsl]]],.i 0]⟩
def kf4:ZcT:=⟨9,40,40,[.str [109,40,97,61,49,54,32,98,41]],.tup [.agg [.str [109],.i 0,.nilsl,.nilsl,.sl 0 2 5 [.agg [.str [97],.i 16,.nilsl,.nilsl,.nilsl],.agg [.str [98],.i 0,.nilsl,.nilsl,.nilsl]]],.i 0]⟩
def Zu9(l:List Str)(hn:I l<=100)(hj:(joinL l [46]).length<=1000)(hr:∀i,i<I l->row i=[.str (l.getD i dE)]){n:Nat}(u:n=I l){r:List UInt8}(t:r=joinL l [46]):Zf ZHv 175 [.sl .none n 1 row,.str [46]] (.str r):=by
 subst u;subst t;have h:ZU ZbM row l:=hr;exact(ZcM l ω ω).leA (LeC.two (h.le rfl) (ZHx _))
def ZDj:Zbf ZHv kf1:=ZqJ (Zu9 [[97]] (by decide) (by decide) (λi t=>by match i,t with|0,_=>rfl) rfl rfl) (by kernel_rfl) (by kernel_rfl)
def ZDk:Zbf ZHv kf2:=ZqJ (Zu9 [[98]] (by decide) (by decide) (λi t=>by match i,t with|0,_=>rfl) rfl rfl) (by kernel_rfl) (by kernel_rfl)
def ZDA:Zbf ZHv kf0:=Zk7 (C:=⟨ZHv,Zfd 87,ZjQ⟩) Zfc kf0 (m:=20000) (by kernel_rfl)
def ZDl:Zbf ZHv kf3:=Zk7 (C:=⟨ZHv,Zfd 87,ZjQ⟩) Zfc kf3 (m:=20000) (by kernel_rfl)
def ZDm:Zbf ZHv kf4:=Zk7 (C:=⟨ZHv,Zfd 87,ZjQ⟩) Zfc kf4 (m:=20000) (by kernel_rfl)
def ZBr:∀k∈([kf0,kf1,kf2,kf3,kf4]:List ZcT),Zbf ZHv k:=by
 intro k i;simp only[ZIa,List.not_mem_nil,or_false]at i;rcases i with rfl|rfl|rfl|rfl|rfl;exact ZDA;exact ZDj;exact ZDk;exact ZDl;exact ZDm
def ZpA:Zf ZHv 5 [] (.bool true):=ZB4 (C:=⟨ZHv,ZzT 87 [kf0,kf1,kf2,kf3,kf4],ZjQ⟩) (ZBx Zfc ZBr) (m:=100000) (by kernel_rfl)
end Go.DL
