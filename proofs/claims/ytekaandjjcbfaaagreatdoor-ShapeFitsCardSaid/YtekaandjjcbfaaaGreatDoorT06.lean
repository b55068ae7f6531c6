/- Lemmas: EvG, EvH, EvI, EvJ, EvK, EvL, EvM, EvN, EvO, EvP, EvQ, EvS, EvT, EvU, EvV, EvW, EvR, EvY, EvZ, EvLib, EvZa, EvZb, K15a, K15i, Top1, TopV, C15t, K15b, K15d. -/
import Derived.Test.YtekaandjjcbfaaaGreatDoorT05
import Derived.Test.YtekaandjjcbfaaaGreatDoorRows
set_option maxHeartbeats 16000000
set_option maxRecDepth 100000
set_option linter.all false
open Option renaming some → sO, none → nO
open Inhabited renaming default → dE
open Decidable renaming decide → dC
open And renaming intro → ZER
open Bool renaming and_eq_true → ZEY, false_and → ZFh, false_eq_true → ZFn
open Go.DL.D.Le renaming refl → ZEW
open Go.DL.St renaming sub_refl → ZES, upd → ZFr, upd_ne → ZE0
open Go.Proofs.Tryz renaming prog → ZEQ
open List renaming append_assoc → ZFt, getElem?_take → ZFu, length_append → ZE1, length_drop → ZFw, length_take → ZE9, map_cons → ZE7, map_nil → ZFo, mem_cons → ZFv, range → ZE4
open Nat renaming add_mul → ZFk, le_refl → ZE6, mul_le_mul_right → ZFg
open Option renaming map_eq_some_iff → ZE3
open Option.some renaming injEq → ZEP
open Prod.mk renaming injEq → ZE2
namespace Go.DL
open Go
variable [Zqw]
variable {kp:Option (List Nat)}{L:Loc}{ρ:Env}{s:St}{w:World}{os:List DOp}{ds:List D}{B:List (Nat × Rd)}{dst:Option Nat}{tmps:Array Value}{g:G}{Φ:Res→St→Prop}{ν:Nat→Nat}{xs:List Opd}{side:Prop}{row:Nat→List D}{vs:List V}
section
variable {C:Px} {η:Nm} {σ:S} {s:St} {L:Loc} {ρ:T W} {ρd:Env} {nx:Nat}
theorem ZwX:∀(l:List Nat) (k:Nat),VRr η 1 (u8V (l.drop k)) (fun i=>[D.int .u8 (((l.map UInt8.ofNat).getD (k+i) 0).toNat:Int)])
 |l,k=>by
  have key:∀(m:List Nat) (k:Nat),l.drop k=m→VRr η 1 (u8V m) (fun i=>[D.int .u8 (((l.map UInt8.ofNat).getD (k+i) 0).toNat:Int)]):=by
   intro m
   induction m with
   |nil=>intro k _;exact .nil _ _
   |cons a m ih =>
    intro k hk
    have h1:l[k]?=sO a:=by
     have:=congrArg (fun x=>x[0]?) hk
     simpa using this
    have h2:l.drop (k+1)=m:=by
     have:=congrArg List.tail hk
     simpa using this
    refine .cons 1 _ _ _ ?_ rfl ((ih (k+1) h2).congr fun i _=>by rw[show k+1+i=k+(i+1) by omega])
    have:(((l.map UInt8.ofNat).getD (k+0) 0).toNat:Int)=Int.ofNat (a % 256):=by
     simp[h1]
    rw[this]
    exact .one (.int _ _)
  exact key _ k rfl
theorem Ztz{z:List V}{zd:List D}(hz:VRs η z zd){i:Nat}:∀{is:List Nat} {vs:List V} {ds:List D},VRs η vs ds→VRs η (ZfR z (is.zip vs) i) (Z4 zd (is.zip ds) i)
 | [],vs,ds,h=>by simpa[ZfR,Z4]using hz
 |k::is,vs,ds,h=>by
  cases vs with
  |nil=>obtain rfl:=h.inv0;simpa[ZfR,Z4]using hz
  |cons v vs =>
   obtain⟨d,ds',rfl,h1,h2⟩:=h.inv
   simp[ZfR,Z4]
   by_cases hk:k=i
   ·simp_all
    cases h1<;>first|exact .one (by constructor<;>assumption)|assumption
   simp_all
   exact Ztz hz h2
theorem Zju{v:V}{d:D}(h:VR η v d):VRs η (Ze4 v) (cellsOf d):=by
 cases h<;>first|exact .one (by constructor<;>assumption)|assumption
theorem ZlL{v:V}{d:D}(h:VR η v d)(hp:Znv v=true):W4 d=true:=by
 cases h<;>first|rfl|cases hp
theorem Zso{v:V}{d:D}(h:VR η v d)(hp:Zvo v=true):Jl d=true:=by
 cases h<;>first|rfl|cases hp
theorem ZiF{n:Nat}:∀{vs:List V} {ds:List D},VRs η vs ds→ZeI n vs=true→K4 n ds=true
 | [],ds,h,hp=>by obtain rfl:=h.inv0;rfl
 |v::vs,ds,h,hp=>by
  obtain⟨d,ds',rfl,h1,h2⟩:=h.inv
  simp[ZeI]at hp
  simp[K4]
  exact⟨⟨ZlL h1 hp.1.1,by rw[←(Zju h1).len];exact hp.1.2⟩,ZiF h2 hp.2⟩
theorem Zrx{n:Nat}{z:List V}(hz:z.length=n){i:Nat}:∀{is:List Nat} {vs:List V},ZeI n vs=true→(ZfR z (is.zip vs) i).length=n
 | [],vs,_=>by simpa[ZfR]using hz
 |k::is,[],_=>by simpa[ZfR]using hz
 |k::is,v::vs,hp=>by
  simp[ZeI]at hp
  simp[ZfR]
  split
  ·exact hp.1.2
  exact Zrx hz hp.2
theorem Zlu{n:Nat}{z:List V}{zd:List D}(hz:VRs η z zd)(hzl:z.length=n){is:List Nat}{vs:List V}{ds:List D}(hv:VRs η vs ds)(hp:ZeI n vs=true):∀(len i:Nat),VRr η n (ZjW z (is.zip vs) len i) (fun j=>Z4 zd (is.zip ds) (i+j))∧(ZjW z (is.zip vs) len i).length=len
 |0,i=>⟨.nil _ _,rfl⟩
 |len+1,i=>by
  obtain⟨h1,h2⟩:=Zlu hz hzl hv hp len (i+1)
  refine⟨.cons _ _ _ _ (Ztz hz hv) (Zrx hzl hp) (h1.congr fun j _=>by rw[show i+1+j=i+(j+1) by omega]),by simp[ZjW,h2]⟩
theorem Zph(hS:Sim C η σ s)(h1:η 1=sO .full)(hρ:Z8 η L ρ ρd){g:Option (Nat×Bool)}(hg:Zl ρd g=sO true){k:K}{r:R3}(hk:YH k=true){db:Bool}(h:(opF false db k).run ρ σ nx=sO r):
  r.σ=σ∧r.nx=nx∧∃side e,side∧ZB ⟨dst,g,k⟩ ρd L s=.ok side (Zt ρd dst e) L s∧WR η L (.v r.v) e:=by
 have fin:∀{side:Prop} {d:D} {v:V},side→VR η v d→ZB ⟨dst,g,k⟩ ρd L s=(match g with
   |none=>.ok side (Zt ρd dst (.d d)) L s
   |some _=>.ok (true=true→side) (Zt ρd dst (.when true (.d d))) L s)→∃side e,side∧ZB ⟨dst,g,k⟩ ρd L s=.ok side (Zt ρd dst e) L s∧WR η L (.v v) e:=by
  intro side d v hs hv t
  cases g with
  |none=>exact⟨side,.d d,hs,t,d,hv,.inl rfl⟩
  |some x=>exact⟨_,.when true (.d d),fun _=>hs,t,d,hv,.inr rfl⟩
 cases k<;>simp only[YH,ZFn]at hk
 case q q xs =>
  simp only[opF]at h
  split at h<;>(try(simp at h;done))
  rename_i vs j
  split at h<;>simp only[ZEP,reduceCtorEq]at h
  rename_i v hv
  subst h
  obtain⟨p,ds,a1,a2,a3⟩:=ZaD hρ j
  obtain⟨side,d,b1,b2,b3⟩:=ZuU (L:=L) hS h1 a3 hv
  refine⟨rfl,rfl,fin (side:=p∧side) ⟨a2,b2⟩ b3 ?_⟩
  unfold ZB
  simp only[hg,a1,b1]
  cases g<;>rfl
 case pick c a b =>
  simp only[opF]at h
  unfold mp2 at h
  split at h<;>(try(simp at h;done))
  rename_i cv hc
  obtain⟨pc,dc,c1,c2,c3⟩:=KA hρ hc
  cases c3<;>simp only[reduceCtorEq]at h
  rename_i cb
  have u:∀{x y:Opd} {yb:Bool},(ZiD x).run ρ=true→(YV y).run ρ=sO (.bool yb)→(∃p z,ZC ρd false x=sO (p,.d (.bool z))∧p)∧∃p,ZC ρd true y=sO (p,.d (.bool yb))∧p:=by
   intro x y yb hx hy
   obtain⟨p,d,e1,e2,e3⟩:=KA hρ hy
   cases e3
   exact⟨Zwq hρ hx rfl,p,e1,e2⟩
  cases cb
  ·simp only at h
   obtain⟨hb,h⟩:=Zx h
   split at h<;>(try(simp at h;done))
   rename_i yv hy
   split at h<;>cases h
   obtain⟨⟨p1,z,e1,e2⟩,p2,e3,e4⟩:=u hb hy
   refine⟨rfl,rfl,fin (side:=pc∧p1∧p2) ⟨c2,e2,e4⟩ (.bool _) ?_⟩
   unfold ZB Zdc
   simp[hg,c1,e1,e3]
   cases g<;>rfl
  simp only at h
  obtain⟨hb,h⟩:=Zx h
  split at h<;>(try(simp at h;done))
  rename_i yv hy
  split at h<;>cases h
  obtain⟨⟨p1,z,e1,e2⟩,p2,e3,e4⟩:=u hb hy
  refine⟨rfl,rfl,fin (side:=pc∧p2∧p1) ⟨c2,e4,e2⟩ (.bool _) ?_⟩
  unfold ZB Zdc
  simp[hg,c1,e1,e3]
  cases g<;>rfl
 case bsl len n z is xs =>
  simp only[opF]at h
  cases hz:ofDs z<;>simp only[hz,reduceCtorEq]at h
  rename_i zv
  split at h<;>(try(simp at h;done))
  rename_i vs j
  obtain⟨hb,h⟩:=Zx h
  cases h
  simp only[ZEY,Z6]at hb
  obtain⟨p,ds,a1,a2,a3⟩:=ZaD hρ j
  obtain⟨l1,l2⟩:=Zlu (is:=is) (ofDs_ok hz) hb.2 a3 hb.1 len 0
  refine⟨rfl,rfl,fin (side:=p∧K4 n ds=true) ⟨a2,ZiF a3 hb.1⟩ (.sl 1 len n _ .full (Z4 z (is.zip ds)) (l1.congr fun i _=>by rw[Nat.zero_add]) l2 (.inr h1)) ?_⟩
  unfold ZB
  simp only[hg,a1,ZaJ]
  cases g<;>rfl
 case s2b x =>
  simp only[opF]at h
  unfold mp2 at h
  split at h<;>(try(simp at h;done))
  rename_i xv hx
  obtain⟨p,d,a1,a2,a3⟩:=KA hρ hx
  cases a3<;>simp only[reduceCtorEq,ZEP]at h
  rename_i l
  subst h
  refine⟨rfl,rfl,fin (side:=p) a2 (.sl 0 l.length 1 (u8V l) .none _ (ZwX l 0) (by simp[u8V]) (.inl rfl)) ?_⟩
  unfold ZB
  simp only[hg,a1,List.length_map,Nat.zero_add]
  cases g<;>rfl
end
def Y4(C:Px)(η:Nm)(r:R3)(e:E)(s2:St):Prop:=∃η',η.Sub η'∧Yw η' r.nx∧Sim C η' r.σ s2∧∃d,VR η' r.v d∧e=.d d
theorem OR.cells0{C:Cx}{η:Nm}{k:Nat}(h:VRs η vs ds):OR C η k (.cells vs) (.cells ds):=by
 simpa using OR.cells (C:=C) (k0:=k) vs ds [] h
theorem ZsV{cs ys:List D}{o:Nat}(h:o+ys.length≤cs.length):(ZE cs o ys).length=cs.length:=by
 simp[ZE];omega
theorem JD{b:Nat}{cs:List D}(h:s b=sO (.cells cs)):Yj s b=sO cs:=by simp[Yj,h]
section
variable {C:Px} {η:Nm} {σ:S} {s:St} {L:Loc} {ρ:T W} {ρd:Env} {nx:Nat}
theorem WF{x:Option V}{f:V→Option R3}{r:R3}(h:mp2 x f=sO r):∃v,x=sO v∧f v=sO r:=by
 cases x with
 |none=>cases h
 |some v=>exact⟨v,rfl,h⟩
theorem Zsn{x:Option S}{v:V}{r:R3}(h:up x v nx=sO r):∃σ',x=sO σ'∧r=⟨v,σ',nx⟩:=by
 cases x with
 |none=>cases h
 |some σ'=>simp[up]at h;exact⟨σ',rfl,h.symm⟩
theorem Y4.new(hS:Sim C η σ s)(hN:Yw η nx){b:Nat}(hb:s b=nO){o:O}{d:Ya}(ho:OR C (η.put nx (.tip b)) nx o d){v:V}{e:D}(hv:VR (η.put nx (.tip b)) v e)(hr:ZbG o=false:=by rfl):Y4 C η ⟨v,σ.set (sO o) nx,nx+1⟩ (.d e) (s.upd b d) :=
 ⟨_,Nm.put_sub (hN.free nx (ZE6 _)) _,hN.put _,hS.new (hN.free nx (ZE6 _)) hb ho hr,e,hv,rfl⟩
theorem Y4.turn(hS:Sim C η σ s)(hN:Yw η nx){k b:Nat}{o o':O}{d:Ya}(h:σ.get k=sO o)(hb:η k=sO (.tip b))(ho:OR C η k o' d){v:V}{e:D}(hv:VR η v e)(hr:ZbG o=false:=by rfl)(hr':ZbG o'=false:=by rfl):Y4 C η ⟨v,σ.set (sO o') k,nx⟩ (.d e) (s.upd b d) :=
 ⟨η,Nm.Sub.refl _,hN,hS.upd h hb ho hr hr',e,hv,rfl⟩
theorem Zjq(hS:Sim C η σ s){a:V}{n:Nat}{xs:List V}{σ':S}(h:ZgH σ a n xs=sO σ'){da:D}(ha:VR η a da){ys:List D}(hx:VRs η xs ys):
  ∃b off cs,da=.ptr b off∧Yj s b=sO cs∧off+ys.length≤cs.length∧ys.length=n∧Sim C η σ' (s.upd b (.cells (ZE cs off ys))):=by
 cases ha<;>simp only[ZgH,reduceCtorEq]at h
 rename_i k b o hb
 split at h<;>(try(simp at h;done))
 all_goals
  rename_i cs c
  split at h<;>simp at h
  rename_i cs' j
  subst h
  obtain⟨ds,ex,e1,e2⟩:=hS.cells (vs:=cs) (by rw[c];rfl) hb
  obtain⟨f0,f1,f2⟩:=e2.over hx j
  have hl:ys.length=n:=by rw[←hx.len,f0]
  have i:ZE (ds++ex) o ys=ZE ds o ys++ex:=ZkV (by omega)
  refine⟨b,o,_,rfl,JD e1,by simp;omega,hl,?_⟩
  rw[i]
 ·exact hS.upd c hb (.cells _ _ _ f2)
 refine hS.upd c hb (.buf _ _ _ f2 ?_)
 obtain⟨b',d,g1,g2,g3⟩:=hS.get c (fun n=>by simp)
 rw[hb]at g1
 cases g1
 rw[e1]at g2
 cases g2
 generalize t:(Ya.cells (ds++ex))=dd at g3
 cases g3 with
 |buf _ ds2 ex2 _ hc =>
  simp only[Ya.cells.injEq]at t
  rw[hc]
  have:(ZE ds o ys++ex).length=(ds2++ex2).length:=by
   rw[←t,ZE1,ZE1,ZsV (by omega)]
  rw[this]
variable {P:Program} {F:Fr P} {kp:Option (List Nat)} {dk:List Zi} {os:List DOp} {ρ':Env} {L':Loc}
theorem WD(hρ:Z8 η L ρ ρd){x:Opd}{v:V}(h:(YV x).run ρ=sO v)(hag:Zz ρd ρ' (ZR x)):∃p d,ZC ρ' true x=sO (p,.d d)∧p∧VR η v d:=by
 obtain⟨p,d,h1,h2,h3⟩:=KA hρ h
 exact⟨p,d,by rw[ZQ hag];exact h1,h2,h3⟩
theorem ZvO(hS:Sim C η σ s)(hN:Yw η nx){z:List D}{mu:Bool}{r:R3}(h:(opF mu dst.isSome (.alloc z)).run ρ σ nx=sO r)(hc:∀e s2,Y4 C η r e s2→DO F kp dk os (Zt ρ' dst e) L' s2):DO F kp dk (⟨dst,nO,.alloc z⟩::os) ρ' L' s:=by
 simp[opF]at h
 cases hz:ofDs z<;>simp[hz]at h
 obtain⟨hd,hh⟩:=Zx h;replace h:=hh;clear hh
 cases h
 cases dst with
 |none=>grind
 |some t=>exact Zvt rfl rfl rfl fun b hb=>hc (.d (.ptr b 0)) _ (Y4.new hS hN hb (OR.cells0 (ofDs_ok hz)) (.ptr _ _ _ (Nm.put_same _ _ _)))
theorem Zy0(hS:Sim C η σ s)(hN:Yw η nx)(hρ:Z8 η L ρ ρd){x:Opd}{mu:Bool}{r:R3}(h:(opF mu dst.isSome (.box x)).run ρ σ nx=sO r)(hag:Zz ρd ρ' (ZR x))(hc:∀e s2,Y4 C η r e s2→DO F kp dk os (Zt ρ' dst e) L' s2):DO F kp dk (⟨dst,nO,.box x⟩::os) ρ' L' s:=by
 obtain⟨hd,hh⟩:=Zx h;replace h:=hh;clear hh
 obtain⟨v,hv,hh⟩:=WF h;replace h:=hh;clear hh
 obtain⟨hp,hh⟩:=Zx h;replace h:=hh;clear hh
 cases h
 obtain⟨p,d,a1,a2,a3⟩:=WD hρ hv hag
 cases dst with
 |none=>grind
 |some t=>exact Zyw rfl rfl rfl a1 a2 (ZlL a3 hp) fun b hb=>hc (.d (.ptr b 0)) _ (Y4.new hS hN hb (OR.cells0 ((Zju a3).mono (Nm.put_sub (hN.free nx (ZE6 _)) _))) (.ptr _ _ _ (Nm.put_same _ _ _)))
theorem Zur(hS:Sim C η σ s)(hN:Yw η nx)(hρ:Z8 η L ρ ρd){a v:Opd}{mu:Bool}{r:R3}(h:(opF mu dst.isSome (.store1 a v)).run ρ σ nx=sO r)(hag:Zz ρd ρ' (ZR a++ZR v))(hc:∀e s2,Y4 C η r e s2→DO F kp dk os (Zt ρ' dst e) L' s2):DO F kp dk (⟨dst,nO,.store1 a v⟩::os) ρ' L' s:=by
 obtain⟨hd,hh⟩:=Zx h;replace h:=hh;clear hh
 obtain⟨av,ha,hh⟩:=WF h;replace h:=hh;clear hh
 obtain⟨xv,hx,hh⟩:=WF h;replace h:=hh;clear hh
 obtain⟨u,hh⟩:=Zx h;replace h:=hh;clear hh
 obtain⟨σ',j,rfl⟩:=Zsn h
 obtain⟨p,da,a1,a2,a3⟩:=WD hρ ha (fun t ht=>hag t (by simp[ht]))
 obtain⟨q,dx,b1,b2,b3⟩:=WD hρ hx (fun t ht=>hag t (by simp[ht]))
 have i:=Zso b3 u
 have c:cellsOf dx=[dx]:=by cases dx<;>first|rfl|cases i
 obtain⟨b,off,cs,rfl,c1,c2,c3,c4⟩:=Zjq hS j a3 (.one b3)
 cases dst with
 |some t=>grind
 |none =>
  refine Zfb rfl (.inl ⟨rfl,trivial⟩) a1 b1 a2 b2 c1 (fun _=>i) (fun n hn=>by grind) (by rw[c];exact c2) rfl ?_
  rw[c]
  exact hc (.d .nilsl) _ ⟨η,Nm.Sub.refl _,hN,c4,.nilsl,.nilsl,rfl⟩
theorem Zus(hS:Sim C η σ s)(hN:Yw η nx)(hρ:Z8 η L ρ ρd){a v:Opd}{n:Nat}{mu:Bool}{r:R3}(h:(opF mu dst.isSome (.storeN n a v)).run ρ σ nx=sO r)(hag:Zz ρd ρ' (ZR a++ZR v))(hc:∀e s2,Y4 C η r e s2→DO F kp dk os (Zt ρ' dst e) L' s2):DO F kp dk (⟨dst,nO,.storeN n a v⟩::os) ρ' L' s:=by
 obtain⟨hd,hh⟩:=Zx h;replace h:=hh;clear hh
 obtain⟨av,ha,hh⟩:=WF h;replace h:=hh;clear hh
 obtain⟨xv,hx,hh⟩:=WF h;replace h:=hh;clear hh
 obtain⟨p,da,a1,a2,a3⟩:=WD hρ ha (fun t ht=>hag t (by simp[ht]))
 obtain⟨q,dx,b1,b2,b3⟩:=WD hρ hx (fun t ht=>hag t (by simp[ht]))
 cases b3<;>simp at h
 rename_i xs ys i
 obtain⟨σ',c,rfl⟩:=Zsn h
 obtain⟨b,off,cs,rfl,c1,c2,c3,c4⟩:=Zjq hS c a3 i
 cases dst with
 |some t=>grind
 |none =>
  refine Zfb rfl (.inr ⟨n,rfl⟩) a1 b1 a2 b2 c1 (fun hn=>by grind) (fun m hm=>?_) c2 rfl ?_
  ·simp only[K.storeN.injEq]at hm
   exact⟨⟨_,rfl⟩,by rw[←hm.1];exact c3⟩
  exact hc (.d .nilsl) _ ⟨η,Nm.Sub.refl _,hN,c4,.nilsl,.nilsl,rfl⟩
theorem ZvR(hS:Sim C η σ s)(hN:Yw η nx){mu:Bool}{r:R3}(h:(opF mu dst.isSome .mkmap).run ρ σ nx=sO r)(hc:∀e s2,Y4 C η r e s2→DO F kp dk os (Zt ρ' dst e) L' s2):DO F kp dk (⟨dst,nO,.mkmap⟩::os) ρ' L' s:=by
 obtain⟨hd,hh⟩:=Zx h;replace h:=hh;clear hh
 cases h
 cases dst with
 |none=>grind
 |some t=>exact Zqm rfl rfl rfl fun b hb=>hc (.d (.map b)) _ (Y4.new hS hN hb (.map [] [] .nil) (.map _ _ (Nm.put_same _ _ _)))
theorem ZjC{z:List V}{zd:List D}(hz:VRs η z zd):∀n,VRs η (ZgL z n) (KC zd n)
 |0=>by simp[ZgL];exact .nil
 |n+1=>by
  exact hz.append (ZjC hz n)
theorem ZsA(hS:Sim C η σ s)(hN:Yw η nx)(hρ:Z8 η L ρ ρd){e:TypeId}{n bytes:Nat}{z:List D}{l hx:Opd}{mu:Bool}{r:R3}(h:(opF mu dst.isSome (.mkslice e n bytes z l hx)).run ρ σ nx=sO r)(hag:Zz ρd ρ' (ZR l++ZR hx))(hc:∀e s2,Y4 C η r e s2→DO F kp dk os (Zt ρ' dst e) L' s2):DO F kp dk (⟨dst,nO,.mkslice e n bytes z l hx⟩::os) ρ' L' s:=by
 simp[opF]at h
 cases hz:ofDs z<;>simp[hz]at h
 obtain⟨hd,hh⟩:=Zx h;replace h:=hh;clear hh
 obtain⟨lv,hl,hh⟩:=WF h;replace h:=hh;clear hh
 obtain⟨hv,hh,hh⟩:=WF h;replace h:=hh;clear hh
 obtain⟨p,dl,a1,a2,a3⟩:=WD hρ hl (fun t ht=>hag t (by simp[ht]))
 obtain⟨q,dh,b1,b2,b3⟩:=WD hρ hh (fun t ht=>hag t (by simp[ht]))
 cases a3<;>simp at h
 cases b3<;>simp at h
 obtain⟨hb,hh⟩:=Zx h;replace h:=hh;clear hh
 cases h
 simp[JF]at hb
 cases dst with
 |none=>grind
 |some t =>
  refine ZlQ rfl rfl rfl a1 b1 a2 b2 hb.1.1.1 hb.1.1.2 hb.1.2 hb.2 fun b c=>hc (.d (.msl b 0 _ _ n)) _ (Y4.new hS hN c (OR.cells0 (ZjC (ofDs_ok hz) _)) (.msl _ _ _ _ _ _ (Nm.put_same _ _ _)))
theorem Zuq(hS:Sim C η σ s)(hN:Yw η nx)(hρ:Z8 η L ρ ρd){mk:KP}{m k v:Opd}{mu:Bool}{r:R3}(h:(opF mu dst.isSome (.mapupd mk m k v)).run ρ σ nx=sO r)(hag:Zz ρd ρ' (ZR m++ZR k++ZR v))(hc:∀e s2,Y4 C η r e s2→DO F kp dk os (Zt ρ' dst e) L' s2):DO F kp dk (⟨dst,nO,.mapupd mk m k v⟩::os) ρ' L' s:=by
 simp only[opF]at h
 obtain⟨hd,hh⟩:=Zx h;replace h:=hh;clear hh
 obtain⟨mv,hm,hh⟩:=WF h;replace h:=hh;clear hh
 obtain⟨kv,hk,hh⟩:=WF h;replace h:=hh;clear hh
 obtain⟨vv,hv,hh⟩:=WF h;replace h:=hh;clear hh
 obtain⟨p,dm,a1,a2,a3⟩:=WD hρ hm (fun t ht=>hag t (by simp[ht]))
 obtain⟨q,dk',b1,b2,b3⟩:=WD hρ hk (fun t ht=>hag t (by simp[ht]))
 obtain⟨q',dv,c1,c2,c3⟩:=WD hρ hv (fun t ht=>hag t (by simp[ht]))
 cases a3<;>simp only[reduceCtorEq]at h
 rename_i kb b hb
 split at h<;>(try(simp at h;done))
 rename_i es i
 obtain⟨j,hh⟩:=Zx h;replace h:=hh;clear hh
 split at h<;>simp only[ZEP,reduceCtorEq]at h
 rename_i es' c
 subst h
 obtain⟨ds,e1,e2⟩:=hS.map i hb
 obtain⟨ds',e3,e4⟩:=Zow b3 c3 e2 c
 cases dst with
 |some t=>simp at hd
 |none=>exact ZoJ rfl rfl rfl a1 b1 c1 a2 b2 c2 (by simp only[KM,e1]) e3 (Zfm b3 j) (hc (.d .nilsl) _ (Y4.turn hS hN i hb (.map _ _ e4) .nilsl))
theorem Zuo(hS:Sim C η σ s)(hN:Yw η nx)(hρ:Z8 η L ρ ρd){mk:KP}{m k:Opd}{mu:Bool}{r:R3}(h:(opF mu dst.isSome (.delete mk m k)).run ρ σ nx=sO r)(hag:Zz ρd ρ' (ZR m++ZR k))(hc:∀e s2,Y4 C η r e s2→DO F kp dk os (Zt ρ' dst e) L' s2):DO F kp dk (⟨dst,nO,.delete mk m k⟩::os) ρ' L' s:=by
 obtain⟨hd,hh⟩:=Zx h;replace h:=hh;clear hh
 obtain⟨mv,hm,hh⟩:=WF h;replace h:=hh;clear hh
 obtain⟨kv,hk,hh⟩:=WF h;replace h:=hh;clear hh
 obtain⟨p,dm,a1,a2,a3⟩:=WD hρ hm (fun t ht=>hag t (by simp[ht]))
 obtain⟨q,dk',b1,b2,b3⟩:=WD hρ hk (fun t ht=>hag t (by simp[ht]))
 cases a3<;>simp only[reduceCtorEq]at h
 rename_i kb b hb
 split at h<;>(try(simp at h;done))
 rename_i es i
 obtain⟨j,hh⟩:=Zx h;replace h:=hh;clear hh
 split at h<;>simp only[ZEP,reduceCtorEq]at h
 rename_i es' c
 subst h
 obtain⟨ds,e1,e2⟩:=hS.map i hb
 obtain⟨ds',e3,e4⟩:=Zto b3 e2 c
 cases dst with
 |some t=>simp at hd
 |none=>exact ZoH rfl rfl rfl a1 b1 a2 b2 (by simp only[KM,e1]) e3 (Zfm b3 j) (hc (.d .nilsl) _ (Y4.turn hS hN i hb (.map _ _ e4) .nilsl))
theorem Zup(hS:Sim C η σ s)(hN:Yw η nx)(hρ:Z8 η L ρ ρd){mk:KP}{z:D}{m k:Opd}{mu:Bool}{r:R3}(h:(opF mu dst.isSome (.mapent mk z m k)).run ρ σ nx=sO r)(hag:Zz ρd ρ' (ZR m++ZR k))(hc:∀e s2,Y4 C η r e s2→DO F kp dk os (Zt ρ' dst e) L' s2):DO F kp dk (⟨dst,nO,.mapent mk z m k⟩::os) ρ' L' s:=by
 simp[opF]at h
 cases hz:ofD z<;>simp[hz]at h
 obtain⟨hd,hh⟩:=Zx h;replace h:=hh;clear hh
 obtain⟨mv,hm,hh⟩:=WF h;replace h:=hh;clear hh
 obtain⟨kv,hk,hh⟩:=WF h;replace h:=hh;clear hh
 obtain⟨p,dm,a1,a2,a3⟩:=WD hρ hm (fun t ht=>hag t (by simp[ht]))
 obtain⟨q,dk',b1,b2,b3⟩:=WD hρ hk (fun t ht=>hag t (by simp[ht]))
 cases a3<;>simp at h
 rename_i kb b hb
 split at h<;>(try(grind;done))
 rename_i es i
 obtain⟨j,hh⟩:=Zx h;replace h:=hh;clear hh
 split at h<;>simp at h
 rename_i v hv
 subst h
 obtain⟨ds,e1,e2⟩:=hS.map i hb
 obtain⟨d,e3,e4⟩:=Ztq b3 (Zgt hz) e2 hv
 cases dst with
 |none=>grind
 |some t =>
  refine ZoI rfl rfl rfl a1 b1 a2 b2 (by simp[KM,e1]) e3 (Zfm b3 j) fun n=>hc (.d (.tup [d,.stamp n])) _ ?_
  have c:=Nm.put_sub (hN.free nx (ZE6 _)) (.tip n)
  exact⟨_,c,hN.put _,(hS.mono c).upd i (c _ _ hb) (.mapE _ _ _ _ _ _ _ (e2.imp fun _ _ m=>m.mono c) (b3.mono c) (Nm.put_same _ _ _)),_,.tup _ _ (.cons _ _ _ _ (e4.mono c) (.one (.stamp _ _ (Nm.put_same _ _ _)))),rfl⟩
theorem ZvQ(hS:Sim C η σ s)(hN:Yw η nx)(hρ:Z8 η L ρ ρd){m st v:Opd}{mu:Bool}{r:R3}(h:(opF mu dst.isSome (.entst m st v)).run ρ σ nx=sO r)(hag:Zz ρd ρ' (ZR m++ZR st++ZR v))(hc:∀e s2,Y4 C η r e s2→DO F kp dk os (Zt ρ' dst e) L' s2):DO F kp dk (⟨dst,nO,.entst m st v⟩::os) ρ' L' s:=by
 simp only[opF]at h
 obtain⟨hd,hh⟩:=Zx h;replace h:=hh;clear hh
 obtain⟨mv,hm,hh⟩:=WF h;replace h:=hh;clear hh
 obtain⟨kv,hk,hh⟩:=WF h;replace h:=hh;clear hh
 obtain⟨vv,hv,hh⟩:=WF h;replace h:=hh;clear hh
 obtain⟨p,dm,a1,a2,a3⟩:=WD hρ hm (fun t ht=>hag t (by simp[ht]))
 obtain⟨q,dk',b1,b2,b3⟩:=WD hρ hk (fun t ht=>hag t (by simp[ht]))
 obtain⟨q',dv,c1,c2,c3⟩:=WD hρ hv (fun t ht=>hag t (by simp[ht]))
 cases a3<;>simp only[reduceCtorEq]at h
 rename_i kb b hb
 cases b3<;>simp only[reduceCtorEq]at h
 rename_i kn n hn
 split at h<;>(try(simp at h;done))
 rename_i mk es key n' j
 obtain⟨i,hh⟩:=Zx h;replace h:=hh;clear hh
 rw[Z6]at i
 subst i
 split at h<;>simp only[ZEP,reduceCtorEq]at h
 rename_i es' c
 subst h
 obtain⟨b',d,e0,e1,e2⟩:=hS.get j (fun n=>by simp)
 rw[hb]at e0
 simp only[ZEP,Tok.tip.injEq]at e0
 subst e0
 cases e2 with
 |mapE _ _ ds _ dkey _ m' g1 g2 g3 =>
  rw[hn]at g3
  simp only[ZEP,Tok.tip.injEq]at g3
  subst g3
  obtain⟨ds',e3,e4⟩:=Zow g2 c3 g1 c
  cases dst with
  |some t=>simp at hd
  |none=>exact Zql rfl rfl rfl a1 b1 c1 a2 b2 c2 e1 e3 (hc (.d .nilsl) _ (Y4.turn hS hN j hb (.map _ _ e4) .nilsl))
end
theorem St.del_upd(s:St)(b:Nat)(d:Ya):(s.del b).upd b d=s.upd b d:=by
 funext c;simp[ZFr,St.del];split<;>rfl
theorem St.upd_del{b:Nat}{d:Ya}(h:s b=sO d):(s.del b).upd b d=s:=by
 funext c;simp[ZFr,St.del];split
 ·rename_i hc;rw[hc,h]
 rfl
section
variable {C:Px} {η:Nm} {σ:S} {s:St}
theorem Sim.take(x:Sim C η σ s){k b:Nat}{o:O}(h:σ.get k=sO o)(hb:η k=sO (.tip b))(hr:ZbG o=false:=by rfl):Sim C η (σ.set nO k) (s.del b) where
 obj k' o' h':=by
  obtain⟨i,h1⟩:=Ztt h'
  obtain⟨t,e1,⟨b',d',rfl,e2,e3⟩|e2⟩:=x.obj k' o' h1
  ·refine⟨_,e1,.inl ⟨b',d',rfl,?_,e3⟩⟩
   have:b'≠b:=fun j=>i (x.inj k' k _ _ b h1 h (by rw[←j];exact e1) hb)
   simp[St.del,this];exact e2
  exact⟨t,e1,.inr e2⟩
 inj:=(x.forget k).inj
 kp c e hc:=by
  obtain⟨h1,h2⟩:=(x.forget k).kp c e hc
  have:c≠b:=fun ec=>(x.kp c e hc).2 k o h hr (by rw[ec];exact hb)
  exact⟨by simp[St.del,this];exact h1,h2⟩
 ro:=(x.forget k).ro
theorem Sim.newFull(x:Sim C η σ s){nx:Nat}(hn:η nx=nO)(m:Nat):Sim C (η.put nx .full) (σ.set (sO (.tok m)) nx) s:=by
 have x':=x.mono (Nm.put_sub hn .full)
 have i:∀k o1 b,(σ.set (sO (O.tok m)) nx).get k=sO o1→(η.put nx .full) k=sO (.tip b)→σ.get k=sO o1:=fun k o1 b h e=>by
  have j:k≠nx:=fun hk=>by rw[hk,Nm.put_same]at e;grind
  rcases T.get_set h with ⟨rfl,_⟩|⟨_,h⟩
  ·exact absurd rfl j
  exact h
 refine⟨fun k o h=>?_,fun k1 k2 o1 o2 b h1 h2 e1 e2=>x'.inj k1 k2 o1 o2 b (i _ _ _ h1 e1) (i _ _ _ h2 e2) e1 e2,fun c e hc=>⟨(x'.kp c e hc).1,fun k o1 h hr e1=>(x'.kp c e hc).2 k o1 (i _ _ _ h e1) hr e1⟩,fun k o1 c h e=>x'.ro k o1 c (i _ _ _ h e) e⟩
 rcases T.get_set h with ⟨rfl,h1⟩|⟨_,h1⟩
 ·cases h1
  exact⟨_,Nm.put_same _ _ _,.inr ⟨m,rfl,rfl⟩⟩
 exact x'.obj k o h1
theorem ZuY(row:Nat→List D)(m:Nat):(ZE4 (m+1)).flatMap row=row 0++(ZE4 m).flatMap fun i=>row (i+1):=by
 rw[List.range_succ_eq_map,List.flatMap_cons,List.flatMap_map]
theorem VRr.flat{z:Nat}:∀{m:Nat} {rs cs:List V} {row:Nat→List D},VRr η z rs row→Zmo z m rs=sO cs→VRs η cs ((ZE4 m).flatMap row)∧cs.length=m*z
 |0,rs,cs,row,_,h=>by
  have:sO []=sO cs:=h
  cases this
  exact⟨.nil,by simp⟩
 |m+1,rs,cs,row,hr,h=>by
  cases hr with
  |nil=>cases h
  |cons _ c rs row h1 hl t =>
   have h':(match Zmo z m rs with
    |some r=>sO (ZnL z c r)
    |none=>nO)=sO cs:=h
   split at h'<;>simp at h'
   rename_i r hr
   subst h'
   obtain⟨g1,g2⟩:=t.flat hr
   rw[Zge hl,ZuY]
   exact⟨h1.append g1,by rw[ZE1,g2,hl,ZFk];omega⟩
theorem ZlA{z:Nat}:∀{n:Nat} {vs rs:List V} {ds:List D},VRs η vs ds→Zu6 z n vs=sO rs→VRr η z rs (fun i=>part ds (i*z) z)∧rs.length=n∧n*z≤ds.length
 |0,vs,rs,ds,_,h=>by
  have:sO []=sO rs:=h
  cases this
  exact⟨.nil _ _,rfl,by omega⟩
 |n+1,vs,rs,ds,hv,h=>by
  have h':(match Za6 z vs with
   |some r=>JV (.agg r) (Zu6 z n (Zbt z vs))
   |none=>nO)=sO rs:=h
  split at h'<;>(try(simp at h';done))
  rename_i r hr
  obtain⟨q,hq,rfl⟩:=KI h'
  obtain⟨t1,rfl⟩:=J3 hr
  rw[Ju]at hq
  obtain⟨g1,g2,g3⟩:=ZlA (hv.drop z) hq
  have hlen:=hv.len
  rw[ZFw]at g3
  refine⟨.cons _ _ _ _ ?_ (by rw[ZE9];omega) (g1.congr fun i _=>?_),by simp[g2],by rw[ZFk];omega⟩
  ·simpa[part]using hv.take z
  simp[part]
  congr 2
  rw[ZFk];omega
theorem Zzr{P:Program}(hS:Sim C η σ s){z:Nat}{v:V}{d:D}(hv:VR η v d){m:Nat}{rs:List V}(h:Zyi σ z v=sO (m,rs)):∃row,Q9 P s z d m row∧VRr η z rs row∧rs.length=m:=by
 cases hv<;>simp only[Zyi,reduceCtorEq]at h
 case nilsl =>
  cases h
  exact⟨fun _=>[],Q9.elems rfl,.nil _ _,rfl⟩
 case sl t n z' rs' τ row h1 h2 h3 =>
  obtain⟨hz,hh⟩:=Zx h
  rw[Z6]at hz
  subst hz
  cases hh
  exact⟨row,Q9.elems (by simp[Jc]),h1,h2⟩
 case str l =>
  obtain⟨hz,hh⟩:=Zx h
  rw[Z6]at hz
  subst hz
  cases hh
  refine⟨fun i=>[D.int .u8 (((l.map UInt8.ofNat).getD i 0).toNat:Int)],Q9.elems (m:=l.length) (by simp[Jc]),?_,by simp[u8V]⟩
  have:=ZwX (η:=η) l 0
  simpa using this
 case msl k b o n cap z' hb =>
  split at h<;>(try(grind;done))
  rename_i cs j
  obtain⟨hc,hh⟩:=Zx h
  simp at hc
  obtain⟨rfl,hc⟩:=hc
  split at hh<;>simp at hh
  rename_i r hr
  obtain⟨rfl,rfl⟩:=hh
  obtain⟨ds,ex,e1,e2⟩:=hS.cells j hb
  rw[Ju]at hr
  obtain⟨g1,g2,g3⟩:=ZlA (e2.drop o) hr
  have hl:=e2.len
  refine⟨_,Q9.msl (JD e1) (by rw[ZE1];omega),g1.congr fun i hi=>?_,g2⟩
  have h1:i*z'+z'≤n*z':=by
   rw[←Nat.succ_mul];exact ZFg _ (by omega)
  simp[part]
  rw[List.drop_append_of_le_length (by omega),List.take_append_of_le_length (by rw[ZFw];omega)]
 case gsl k b o n cap z' c hb h2 hcap hl0 =>
  split at h<;>(try(grind;done))
  rename_i cs j
  obtain⟨hc,hh⟩:=Zx h
  simp at hc
  obtain⟨rfl,hc⟩:=hc
  split at hh<;>simp at hh
  rename_i r hr
  obtain⟨rfl,rfl⟩:=hh
  obtain⟨ds,ex,e1,e2⟩:=hS.cells j hb
  rw[Ju]at hr
  obtain⟨g1,g2,g3⟩:=ZlA (e2.drop o) hr
  have hl:=e2.len
  refine⟨_,Q9.msl (JD e1) (by rw[ZE1];omega),g1.congr fun i hi=>?_,g2⟩
  have h1:i*z'+z'≤n*z':=by
   rw[←Nat.succ_mul];exact ZFg _ (by omega)
  simp[part]
  rw[List.drop_append_of_le_length (by omega),List.take_append_of_le_length (by rw[ZFw];omega)]
end
section
variable {C:Px} {η:Nm} {σ:S} {s:St} {L:Loc} {ρ:T W} {ρd:Env} {nx:Nat}
variable {P:Program} {F:Fr P} {kp:Option (List Nat)} {dk:List Zi} {os:List DOp} {ρ':Env} {L':Loc}
theorem ZvP(hS:Sim C η σ s)(hN:Yw η nx)(hρ:Z8 η L ρ ρd){g:Option (Nat×Bool)}(hg:Zl ρ' g=sO true){n0:Nat}{z:List D}{x:Opd}{mu:Bool}{r:R3}{db:Bool}(h:(opF mu db (.clear n0 z x)).run ρ σ nx=sO r)(hag:Zz ρd ρ' (ZR x))(hc:∀e s2,Y4 C η r e s2→DO F kp dk os (Zt ρ' dst e) L' s2):DO F kp dk (⟨dst,g,.clear n0 z x⟩::os) ρ' L' s:=by
 simp[opF]at h
 cases hz:ofDs z<;>simp[hz]at h
 rename_i zv
 obtain⟨v,hv,hh⟩:=WF h;replace h:=hh;clear hh
 obtain⟨p,d,a1,a2,a3⟩:=WD hρ hv hag
 have fin:∀{k b o n i:Nat} {z':Nat} ,VR η (.ptr k o) (.ptr b o)→d=.msl b o n i z'→noV (Nat.beq z' n0) (up (ZgH σ (.ptr k o) (n*n0) (ZgL zv n)) (.tup []) nx)=sO r→DO F kp dk (⟨dst,g,.clear n0 z x⟩::os) ρ' L' s:=by
  intro k b o n i z' hp hd h
  obtain⟨j,hh⟩:=Zx h;replace h:=hh;clear hh
  rw[Z6]at j
  subst j
  obtain⟨σ',t,rfl⟩:=Zsn h
  obtain⟨b',off,cs,e1,c1,c2,c3,c4⟩:=Zjq hS t hp (ZjC (ofDs_ok hz) n)
  cases e1
  subst hd
  exact Zk1 hg rfl a1 a2 c1 (by omega) (hc (.d (.tup [])) _ ⟨η,Nm.Sub.refl _,hN,c4,_,.tup _ _ .nil,rfl⟩)
 cases a3<;>simp at h
 case msl k b o n i z' hb=>exact fin (.ptr _ _ _ hb) rfl h
 case gsl k b o n i z' c hb h2 hcap hl0=>exact fin (.ptr _ _ _ hb) rfl h
theorem Y4.buf(hS:Sim C η σ s)(hN:Yw η nx){b:Nat}(hb:s b=nO){z m cap:Nat}{cs:List V}{ds ex:List D}(hv:VRs η cs ds)(hm:m≤cap)(hl:(ds++ex).length=cap*z){r:R3}(h:Zh4 z σ nx m cs=sO r):Y4 C η r (.d (.msl b 0 m cap z)) (s.upd b (.cells (ds++ex))):=by
 cases h
 have f0:=hN.free nx (ZE6 _)
 have f1:=hN.free (nx+1) (by omega)
 have s1:η.Sub (η.put (nx+1) (.tip (ds++ex).length)):=Nm.put_sub f1 _
 have f2:(η.put (nx+1) (.tip (ds++ex).length)) nx=nO:=by simp only[Nm.put];rw[if_neg (by omega)];exact f0
 have s2:=Nm.put_sub f2 (.tip b)
 have hx:((η.put (nx+1) (.tip (ds++ex).length)).put nx (.tip b)) (nx+1)=sO (.tip (ds++ex).length):=by simp[Nm.put]
 refine⟨_,s1.trans s2,⟨?_,?_,?_,?_⟩,(hS.mono s1).new f2 hb (.buf _ _ _ ((hv.mono s1).mono s2) hx),_,.gsl _ _ _ _ _ _ _ (Nm.put_same _ _ _) hx hm (by omega),rfl⟩
 ·exact s2 _ _ (s1 _ _ hN.z)
 ·exact s2 _ _ (s1 _ _ hN.o)
 ·have:=hN.two;show 2≤nx+2;omega
 intro k hk
 have hk:nx+2≤k:=hk
 simp[Nm.put]
 rw[if_neg (by omega),if_neg (by omega)]
 exact hN.free k (by omega)
theorem Y4.bufMove(hS:Sim C η σ s)(hN:Yw η nx){k b:Nat}{o:O}(hk:σ.get k=sO o)(hb:η k=sO (.tip b))(hr:ZbG o=false){z m cap:Nat}{cs:List V}{ds ex:List D}(hv:VRs η cs ds)(hm:m≤cap)(hl:cap*z≤(ds++ex).length){r:R3}(h:Zh4 z (σ.set nO k) nx m cs=sO r):Y4 C η r (.d (.msl b 0 m cap z)) (s.upd b (.cells (ds++ex))):=by
 rw[←St.del_upd s b]
 cases h
 have f0:=hN.free nx (ZE6 _)
 have f1:=hN.free (nx+1) (by omega)
 have s1:η.Sub (η.put (nx+1) (.tip (ds++ex).length)):=Nm.put_sub f1 _
 have f2:(η.put (nx+1) (.tip (ds++ex).length)) nx=nO:=by simp only[Nm.put];rw[if_neg (by omega)];exact f0
 have s2:=Nm.put_sub f2 (.tip b)
 have hx:((η.put (nx+1) (.tip (ds++ex).length)).put nx (.tip b)) (nx+1)=sO (.tip (ds++ex).length):=by simp[Nm.put]
 refine⟨_,s1.trans s2,⟨?_,?_,?_,?_⟩,((hS.take hk hb hr).mono s1).new f2 (by simp[St.del]) (.buf _ _ _ ((hv.mono s1).mono s2) hx),_,.gsl _ _ _ _ _ _ _ (Nm.put_same _ _ _) hx hm (by omega),rfl⟩
 ·exact s2 _ _ (s1 _ _ hN.z)
 ·exact s2 _ _ (s1 _ _ hN.o)
 ·have:=hN.two;show 2≤nx+2;omega
 intro k hk
 have hk:nx+2≤k:=hk
 simp[Nm.put]
 rw[if_neg (by omega),if_neg (by omega)]
 exact hN.free k (by omega)
end
section
variable {C:Px} {η:Nm} {σ:S} {s:St} {L:Loc} {ρ:T W} {ρd:Env} {nx:Nat}
variable {P:Program} {F:Fr P} {kp:Option (List Nat)} {dk:List Zi} {os:List DOp} {ρ':Env} {L':Loc}
theorem Zvj(hS:Sim C η σ s)(hN:Yw η nx){t k:Nat}{τ:Tok}{σ':S}(ht:t=0∨η t=sO τ)(h:Zou σ t k=sO σ'):
  ∃s0,s=s0.own τ k∧τ.okIn s0∧Sim C η σ' s0:=by
 unfold Zou at h
 split at h
 ·rename_i h1
  rw[Z6]at h1
  subst h1
  cases h
  have:=ht.resolve_left (by omega)
  rw[hN.o]at this
  cases this
  exact⟨s,rfl,trivial,hS⟩
 split at h<;>(try(grind;done))
 rename_i m hm
 obtain⟨hk,hh⟩:=Zx h
 rw[Z6]at hk
 subst hk
 cases hh
 obtain⟨t0,e0,e1⟩:=hS.obj t _ hm
 have hτ:τ=t0:=by
  rcases ht with rfl|ht
  ·rw[hN.z]at e0
   cases e0
   obtain⟨_,_,h,_⟩|⟨_,_,h⟩:=e1<;>grind
  rw[e0]at ht
  simpa using ht.symm
 subst hτ
 obtain⟨b,d,rfl,g1,g2⟩|⟨n,g1,rfl⟩:=e1
 ·cases g2
  refine⟨s.del b,?_,by simp[Tok.okIn,St.del],hS.take hm e0⟩
  exact(St.upd_del g1).symm
 exact⟨s,rfl,trivial,hS.forget t⟩
theorem Y4.tok{s0:St}{σ':S}(hS:Sim C η σ' s0)(hN:Yw η nx){t':Tok}(ht:t'.okIn s0){n z:Nat}{rs:List V}(hr:VRr η z rs row)(hl:rs.length=n):
  Y4 C η ⟨.sl nx n z rs,σ'.set (sO (.tok (n*z))) nx,nx+1⟩ (.d (.sl t' n z row)) (s0.own t' (n*z)):=by
 have f0:=hN.free nx (ZE6 _)
 have c:=Nm.put_sub f0 t'
 refine⟨_,c,hN.put _,?_,_,.sl _ _ _ _ _ _ (hr.mono c) hl (.inr (Nm.put_same _ _ _)),rfl⟩
 cases t' with
 |tip b=>exact hS.new f0 ht (.tok _)
 |full=>exact hS.newFull f0 _
 |none=>exact ht.elim
theorem Zmd(hS:Sim C η σ s)(hN:Yw η nx){g:Option (Nat×Bool)}(hg:Zl ρ' g=sO true){e z b:Nat}{zd:List D}{x y:Opd}{p q:Prop}{dx dy:D}(hx:ZC ρ' true x=sO (p,.d dx))(hy:ZC ρ' true y=sO (q,.d dy))(hp:p)(hq:q){t n m:Nat}{τ:Tok}{row row2:Nat→List D}{rs rs2:List V}(hsl:ZbD z dx=sO (τ,n,row))(ht:t=0∨η t=sO τ)(hr:VRr η z rs row)(hl:rs.length=n)(hel:Q9 P s z dy m row2)(hr2:VRr η z rs2 row2)(hl2:rs2.length=m){r:R3}(h:ZqF z b σ nx t n m rs rs2=sO r)(hc:∀e s2,Y4 C η r e s2→DO F kp dk os (Zt ρ' dst e) L' s2):DO F kp dk (⟨dst,g,.append e z b zd x y⟩::os) ρ' L' s:=by
 obtain⟨hb,hh⟩:=Zx h;replace h:=hh;clear hh
 simp at hb
 split at h<;>simp at h
 rename_i σ' hσ
 subst h
 obtain⟨s0,rfl,c,i⟩:=Zvj hS hN ht hσ
 refine ZtZ hg rfl hx hsl hy hp hq hel c hb.1 hb.2 fun t' j=>hc _ _ ?_
 have:=hr.append hr2
 rw[hl]at this
 rw[Zge hl]
 exact Y4.tok i hN j this (by simp[hl,hl2])
theorem Zmc(hS:Sim C η σ s)(hN:Yw η nx){g:Option (Nat×Bool)}(hg:Zl ρ' g=sO true){e z b:Nat}{zd:List D}{x y:Opd}{p q:Prop}{dx dy:D}(hx:ZC ρ' true x=sO (p,.d dx))(hy:ZC ρ' true y=sO (q,.d dy))(hp:p)(hq:q){m:Nat}{row row2:Nat→List D}{rs2:List V}(hsl:ZbD z dx=sO (.full,0,row))(hm:0<m)(hel:Q9 P s z dy m row2)(hr2:VRr η z rs2 row2){r:R3}(h:ZqE z b σ nx m rs2=sO r)(hc:∀e s2,Y4 C η r e s2→DO F kp dk os (Zt ρ' dst e) L' s2):DO F kp dk (⟨dst,g,.append e z b zd x y⟩::os) ρ' L' s:=by
 obtain⟨hb,hh⟩:=Zx h;replace h:=hh;clear hh
 simp at hb
 split at h<;>(try(grind;done))
 rename_i cs t
 obtain⟨g1,g2⟩:=hr2.flat t
 refine Zw5 hg rfl hx hsl hy hel hp hq hm hb.1 hb.2 fun c j n i=>hc _ _ (Y4.buf hS hN n g1 i ?_ h)
 have:=g1.len
 have e1:m*z+(j-m)*z=j*z:=by rw[←ZFk];congr 1;omega
 simp_all
theorem Zu7{cs:List D}{o:Nat}{xs:List D}:ZE cs o xs=cs.take o++xs++cs.drop (o+xs.length):=rfl
theorem Zq9(hS:Sim C η σ s)(hN:Yw η nx){g:Option (Nat×Bool)}(hg:Zl ρ' g=sO true){e z bt:Nat}{zd:List D}{x y:Opd}{p q:Prop}{dx dy:D}(hx:ZC ρ' true x=sO (p,.d dx))(hy:ZC ρ' true y=sO (q,.d dy))(hp:p)(hq:q){k o n m:Nat}{cap:Option Nat}{z':Nat}{row2:Nat→List D}{rs2:List V}(hv:VR η (.msl k o n cap z') dx)(hel:Q9 P s z dy m row2)(hr2:VRr η z rs2 row2){mu:Bool}{r:R3}(h:Zxa mu z bt σ nx (.msl k o n cap z') m rs2=sO r)(hc:∀e s2,Y4 C η r e s2→DO F kp dk os (Zt ρ' dst e) L' s2):DO F kp dk (⟨dst,g,.append e z bt zd x y⟩::os) ρ' L' s:=by
 obtain⟨hb,hh⟩:=Zx h;replace h:=hh;clear hh
 simp at hb
 obtain⟨⟨rfl,v⟩,ac⟩:=hb
 split at h<;>(try(simp at h;done))
 rename_i al ah
 obtain⟨g1,g2⟩:=hr2.flat ah
 have ae:((ZE4 m).flatMap row2).length=m*z':=by rw[←g1.len,g2]
 cases hv with
 |gsl _ b _ _ cap' _ c hb h2 hcap hlc =>
  simp only at h
  split at h<;>(try(simp at h;done))
  rename_i cs u
  obtain⟨ho,hh⟩:=Zx h;replace h:=hh;clear hh
  rw[Z6]at ho
  subst ho
  split at h<;>(try(simp at h;done))
  rename_i c1 af
  obtain⟨t1,rfl⟩:=J3 af
  obtain⟨b',d,e0,e1,e2⟩:=hS.get u (fun n=>by simp)
  rw[hb]at e0
  cases e0
  cases e2 with
  |buf _ ds ex hds hce =>
   rw[h2]at hce
   cases hce
   have hl:=hds.len
   have ad:(cs.take (n*z')).length=n*z':=by rw[ZE9];omega
   rw[Zge ad]at h
   have hnc:n*z'≤cap'*z':=ZFg _ hcap
   have ai:(n+m)*z'=n*z'+m*z':=ZFk _ _ _
   have ak:VRs η (cs.take (n*z')++al) ((ds++ex).take (n*z')++(ZE4 m).flatMap row2):=by
    rw[List.take_append_of_le_length (by omega)]
    exact(hds.take _).append g1
   refine ZnD hg rfl hx hy hp hq (JD e1) (by omega) hel (fun j=>⟨rfl,?_⟩) v ac (fun j=>?_) (fun c i _ ab t=>?_)
   ·have:=ZFg z' j;omega
   ·rw[Zu7]
    refine hc _ _ (Y4.bufMove hS hN u hb rfl ak j ?_ h)
    simp at hlc⊢
    omega
   have aj:part (ds++ex) 0 (n*z')=(ds++ex).take (n*z'):=by simp[part]
   refine hc _ _ (Y4.buf (hS.forget k) hN ab ak t ?_ h)
   have e1:(n+m)*z'+(i-(n+m))*z'=i*z':=by rw[←ZFk];congr 1;omega
   simp[ae]at hlc⊢
   omega
 |msl _ b _ _ cap _ hb =>
  simp only at h
  split at h<;>(try(simp at h;done))
  rename_i cs u
  obtain⟨ds,ex,e1,e2⟩:=hS.cells (vs:=cs) (by rw[u];rfl) hb
  have hl:=e2.len
  have ai:(n+m)*z'=n*z'+m*z':=ZFk _ _ _
  split at h
  ·rename_i j
   rw[J9]at j
   obtain⟨ho,hh⟩:=Zx h;replace h:=hh;clear hh
   rw[Z6]at ho
   subst ho
   split at h<;>simp at h
   rename_i cs' ag
   subst h
   obtain⟨f0,f1,f2⟩:=e2.over g1 ag
   refine ZnD hg rfl hx hy hp hq (JD e1) (by simp;omega) hel (fun _=>⟨rfl,by simp;omega⟩) v ac (fun _=>?_) (fun c i hlt _ _=>by omega)
   rw[ZkV (by rw[ae];omega)]
   exact hc _ _ (Y4.turn hS hN u hb (.cells _ _ _ f2) (.msl _ _ _ _ _ _ hb))
  rename_i j
  have j:cap<n+m:=by
   have:¬n+m≤cap:=fun h=>j (J9.2 h)
   omega
  obtain⟨ho,hh⟩:=Zx h;replace h:=hh;clear hh
  rw[J9]at ho
  split at h<;>(try(simp at h;done))
  rename_i c1 af
  obtain⟨t1,rfl⟩:=J3 af
  rw[Ju]at h t1
  have ad:((cs.drop o).take (n*z')).length=n*z':=by rw[ZE9];omega
  rw[Zge ad]at h
  have aj:part (ds++ex) o (n*z')=(ds.drop o).take (n*z'):=by
   simp only[part]
   rw[List.drop_append_of_le_length (by omega),List.take_append_of_le_length (by rw[ZFw];omega)]
  refine ZnD hg rfl hx hy hp hq (JD e1) (by simp;omega) hel (fun h=>by omega) v ac (fun h=>by omega) (fun c i _ ab t=>?_)
  rw[aj]
  refine hc _ _ (Y4.buf hS hN ab (((e2.drop o).take _).append g1) t ?_ h)
  have e1:(n+m)*z'+(i-(n+m))*z'=i*z':=by rw[←ZFk];congr 1;omega
  have:((ds.drop o).take (n*z')).length=n*z':=by rw[ZE9,ZFw];omega
  simp[ae]
  omega
theorem Zun(hS:Sim C η σ s)(hN:Yw η nx)(hρ:Z8 η L ρ ρd){g:Option (Nat×Bool)}(hg:Zl ρ' g=sO true){e z b:Nat}{zd:List D}{x y:Opd}{mu db:Bool}{r:R3}(h:(opF mu db (.append e z b zd x y)).run ρ σ nx=sO r)(hag:Zz ρd ρ' (ZR x++ZR y))(hc:∀e s2,Y4 C η r e s2→DO F kp dk os (Zt ρ' dst e) L' s2):DO F kp dk (⟨dst,g,.append e z b zd x y⟩::os) ρ' L' s:=by
 obtain⟨xv,hx,hh⟩:=WF h;replace h:=hh;clear hh
 obtain⟨yv,hy,hh⟩:=WF h;replace h:=hh;clear hh
 split at h<;>(try(grind;done))
 rename_i m rs2 u
 obtain⟨p,dx,a1,a2,a3⟩:=WD hρ hx (fun t ht=>hag t (by simp[ht]))
 obtain⟨q,dy,b1,b2,b3⟩:=WD hρ hy (fun t ht=>hag t (by simp[ht]))
 obtain⟨row2,i,j,v⟩:=Zzr (P:=P) hS b3 u
 cases a3<;>(try(cases h;done))
 case nilsl =>
  simp only[Zxa]at h
  split at h
  ·rename_i hm
   simp at hm
   exact Zmc hS hN hg a1 b1 a2 b2 rfl (by omega) i j h hc
  exact Zmd hS hN hg a1 b1 a2 b2 rfl (.inr hN.o) (.nil _ _) rfl i j v h hc
 case sl t n z' rs τ row h1 h2 h3 =>
  obtain⟨hz,hh⟩:=Zx h;replace h:=hh;clear hh
  rw[Z6]at hz
  subst hz
  split at h
  ·rename_i hm
   simp at hm
   obtain⟨⟨⟨_,hm⟩,rfl⟩,rfl⟩:=hm
   have hτ:=h3.resolve_left (by omega)
   rw[hN.o]at hτ
   cases hτ
   exact Zmc (row:=row) hS hN hg a1 b1 a2 b2 (by simp[ZbD]) (by omega) i j h hc
  exact Zmd hS hN hg a1 b1 a2 b2 (by simp[ZbD]) h3 h1 h2 i j v h hc
 case msl k b' o n cap z' hb=>exact Zq9 hS hN hg a1 b1 a2 b2 (.msl _ _ _ _ _ _ hb) i j h hc
 case gsl k b' o n cap z' c hb h2 hcap hl0=>exact Zq9 hS hN hg a1 b1 a2 b2 (.gsl _ _ _ _ _ _ _ hb h2 hcap hl0) i j h hc
theorem Zxq(hS:Sim C η σ s)(hN:Yw η nx)(hρ:Z8 η L ρ ρd){g:Option (Nat×Bool)}(hg:Zl ρ' g=sO true){len n:Nat}{z:List D}{is:List Nat}{mu db:Bool}{r:R3}(h:(opF mu db (.bsl len n z is xs)).run ρ σ nx=sO r)(hag:Zz ρd ρ' (Za2 xs))(hmu:(mu&&db&&Nat.ble 1 len)=true)(hc:∀e s2,Y4 C η r e s2→DO F kp dk os (Zt ρ' dst e) L' s2):DO F kp dk (⟨dst,g,.bsl len n z is xs⟩::os) ρ' L' s:=by
 simp only[opF]at h
 cases hz:ofDs z<;>simp only[hz,reduceCtorEq]at h
 split at h<;>(try(grind;done))
 rename_i vs i
 obtain⟨hp,hh⟩:=Zx h;replace h:=hh;clear hh
 rw[hmu,if_pos rfl]at h
 split at h<;>simp at h
 rename_i cs c
 subst h
 simp at hp hmu
 obtain⟨p,ds,a1,a2,a3⟩:=ZaD hρ i
 rw[←W0 hag]at a1
 obtain⟨g1,g2⟩:=Zlu (is:=is) (ofDs_ok hz) hp.2 a3 hp.1 len 0
 obtain⟨g3,g4⟩:=g1.flat c
 simp at g3
 exact Ztc hg rfl a1 (ZaJ ds) a2 (ZiF a3 hp.1) hmu.2 fun b hb=>hc _ _ (Y4.new hS hN hb (OR.cells0 (g3.mono (Nm.put_sub (hN.free nx (ZE6 _)) _))) (.msl _ _ _ _ _ _ (Nm.put_same _ _ _)))
end
section
variable {C:Px} {η:Nm} {σ:S} {s:St} {L:Loc} {ρ:T W} {ρd:Env} {nx:Nat}
variable {P:Program} {F:Fr P} {kp:Option (List Nat)} {dk:List Zi} {os:List DOp} {ρ':Env} {L':Loc}
theorem ZvS(hS:Sim C η σ s)(hN:Yw η nx)(hρ:Z8 η L ρ ρd){g:Option (Nat×Bool)}{k:K}(hg:Zl ρ' g=sO true)(hgk:(gk k ||g.isNone)=true)(hk:YH k=false)(hf:ZiB k=true){mu:Bool}{r:R3}(h:(opF mu dst.isSome k).run ρ σ nx=sO r)(hag:Zz ρd ρ' (ZA ⟨dst,g,k⟩))(hc:∀e s2,Y4 C η r e s2→DO F kp dk os (Zt ρ' dst e) L' s2):DO F kp dk (⟨dst,g,k⟩::os) ρ' L' s:=by
 have hag:Zz ρd ρ' (Yq k):=fun t ht=>hag t (by simp[ZA,ht])
 have i:gk k=false→g=nO:=fun hh=>by
  rw[hh,Bool.false_or]at hgk
  cases g<;>simp_all
 cases k<;>simp only[YH,Bool.true_eq_false]at hk
 case alloc z=>obtain rfl:=i rfl;exact ZvO hS hN h hc
 case box x=>obtain rfl:=i rfl;exact Zy0 hS hN hρ h hag hc
 case store1 a v=>obtain rfl:=i rfl;exact Zur hS hN hρ h hag hc
 case storeN n a v=>obtain rfl:=i rfl;exact Zus hS hN hρ h hag hc
 case append e z b zd x y=>exact Zun hS hN hρ hg h hag hc
 case mkmap=>obtain rfl:=i rfl;exact ZvR hS hN h hc
 case mapupd kp' m k v=>obtain rfl:=i rfl;exact Zuq hS hN hρ h hag hc
 case mapent kp' z m k=>obtain rfl:=i rfl;exact Zup hS hN hρ h hag hc
 case entst m st v=>obtain rfl:=i rfl;exact ZvQ hS hN hρ h hag hc
 case mkslice e n b z l c=>obtain rfl:=i rfl;exact ZsA hS hN hρ h hag hc
 case delete kp' m k=>obtain rfl:=i rfl;exact Zuo hS hN hρ h hag hc
 case clear n z x=>exact ZvP hS hN hρ hg h hag hc
 case fork k=>simp[ZiB]at hf
 all_goals simp[opF]at h
theorem ZAf{mu db:Bool}{k:K}(hk:YH k=true)(hb:(∃len n z is xs,k=.bsl len n z is xs∧(mu&&db&&Nat.ble 1 len)=true)→False){r:R3}(h:(opF mu db k).run ρ σ nx=sO r):(opF false db k).run ρ σ nx=sO r:=by
 cases k<;>simp only[YH,ZFn]at hk
 case bsl len n z is xs =>
  have hm:(mu&&db&&Nat.ble 1 len)=false:=by
   cases hh:(mu&&db&&Nat.ble 1 len)
   ·rfl
   exact(hb ⟨_,_,_,_,_,rfl,hh⟩).elim
  simp only[opF]at h⊢
  cases hz:ofDs z<;>simp only[hz,reduceCtorEq]at h⊢
  simp only[hm,ZFn,if_false]at h
  simpa only[ZFh,ZFn,if_false]using h
 all_goals exact h
theorem ZlY(ρ:Env)(l:List Nat):Zz ρ ρ l:=fun _ _=>rfl
theorem ZAJ(hS:Sim C η σ s)(hN:Yw η nx)(hρ:Z8 η L ρ ρd){g:Option (Nat×Bool)}{k:K}(hg:Zl ρd g=sO true)(hgk:(gk k ||g.isNone)=true)(hf:ZiB k=true){mu:Bool}{r:R3}(h:(opF mu dst.isSome k).run ρ σ nx=sO r)(hc:∀η' e s2,η.Sub η'→Yw η' r.nx→Sim C η' r.σ s2→WR η' L (.v r.v) e→DO F kp dk os (Zt ρd dst e) L s2):DO F kp dk (⟨dst,g,k⟩::os) ρd L s:=by
 have c:∀e s2,Y4 C η r e s2→DO F kp dk os (Zt ρd dst e) L s2:=fun e s2 hr=>by
  obtain⟨η',h1,h2,h3,d,h4,rfl⟩:=hr
  exact hc η' _ s2 h1 h2 h3 ⟨d,h4,.inl rfl⟩
 cases hk:YH k with
 |false=>exact ZvS hS hN hρ hg hgk hk hf h (ZlY _ _) c
 |true =>
  by_cases hb:∃len n z is xs,k=.bsl len n z is xs∧(mu&&dst.isSome&&Nat.ble 1 len)=true
  ·obtain⟨len,n,z,is,xs,rfl,hm⟩:=hb
   exact Zxq hS hN hρ hg h (ZlY _ _) hm c
  obtain⟨e1,e2,side,e,e3,e4,e5⟩:=Zph (L:=L) hS hN.o hρ hg hk (ZAf hk hb h)
  exact QB e4 e3 (hc η e s (Nm.Sub.refl _) (by rw[e2];exact hN) (by rw[e1];exact hS) e5)
end
theorem T.get_lt{α:Type}{t:T α}{k:Nat}{a:α}(h:t.get k=sO a):k<32768:=by
 unfold T.get T.getF at h
 cases hb:Nat.blt k 32768 with
 |false=>rw[hb]at h;grind
 |true=>simpa using hb
theorem Jv{ρ:Env}{t:Nat}{e:E}(he:ZL ρ t=sO e):∀{ks:List Nat},t∈ks→ZL (Yp ρ ks) t=sO e
 | [],h=>by grind
 |k::ks,h=>by
  simp[Yp]
  by_cases hk:k=t
  ·subst hk
   simp[he,ZL]
  have ht:t∈ks:=by simpa[Ne.symm hk]using h
  split
  ·simp[ZL,hk];exact Jv he ht
  exact Jv he ht
theorem Zew{t:Nat}{e:E}(hl:Ko e=[]):∀{ρ:Env},ZL ρ t=sO e→ZL (Jh ρ) t=sO e
 | [],h=>by cases h
 | (k,x)::r,h=>by
  simp[ZL]at h
  simp[Jh]
  by_cases hk:k=t
  ·simp[hk]at h
   subst h
   simp[hl,ZL,hk]
  simp[hk]at h
  split
  ·simp[ZL,hk];exact Zew hl h
  exact Zew hl h
section
variable {η:Nm} {L:Loc} {ρ:T W} {ρd:Env}
theorem WR.locs{w:W}{e:E}(h:WR η [] w e)(hl:Zz8 [] w=true):Ko e=[]:=by
 cases w with
 |v x =>
  obtain⟨d,_,rfl|rfl⟩:=h<;>rfl
 |loc l o=>cases hl
 |skip =>
  have h':e=.when false (.d (.bool false)):=h
  subst h';rfl
theorem Z8.keep(h:Z8 η L ρ ρd):Z8 η L ρ (Yp ρd ZnI):=fun t w hw hl=>by
 obtain⟨e,h1,h2⟩:=h t w hw hl
 exact⟨e,Jv h1 (List.mem_range.2 (T.get_lt hw)),h2⟩
theorem Z8.round(h:Z8 η [] ρ ρd):Z8 η [] ρ (Kb ZnI ρd):=fun t w hw hl=>by
 obtain⟨e,h1,h2⟩:=h.keep t w hw hl
 exact⟨e,Zew (h2.locs hl) h1,h2⟩
theorem Z8.nil:Z8 η L T.nil ρd:=fun t w hw=>by simp[T.get_nil]at hw
theorem Z8.set(h:Z8 η L ρ ρd){v:V}{d:D}(hv:VR η v d)(t:Nat):Z8 η L (ρ.set (sO (.v v)) t) ((t,.d d)::ρd):=fun t' w hw hl=>by
 rcases T.get_set hw with ⟨rfl,h1⟩|⟨c,h1⟩
 ·cases h1
  exact⟨.d d,by simp[ZL],d,hv,.inl rfl⟩
 obtain⟨e,h2,h3⟩:=h t' w h1 hl
 exact⟨e,by simp[ZL];rw[if_neg (Ne.symm c)];exact h2,h3⟩
theorem Zpk:∀{ts:List Nat} {vs:List V} {ds:List D} {ρ:T W} {ρd:Env},Z8 η L ρ ρd→VRs η vs ds→Z8 η L (ZeK ts vs ρ) (WP ts ds ρd)
 | [],_,_,_,_,h,_=>by simpa[ZeK,WP]using h
 |_::_,[],_,_,_,h,hv=>by cases hv;simpa[ZeK,WP]using h
 |t::ts,v::vs,_,_,_,h,hv=>by
  obtain⟨d,ds,rfl,h1,h2⟩:=hv.inv
  exact Zpk (ts:=ts) (h.set h1 t) h2
theorem Zo7:∀{vs:List V} {i:Nat} {ρ:T W} {t:Nat} {w:W},(Zmx i vs ρ).get t=sO w→(∃j v,t=i+j∧vs[j]?=sO v∧w=.v v)∨ρ.get t=sO w
 | [],i,ρ,t,w,h=>.inr h
 |v::vs,i,ρ,t,w,h=>by
  rcases Zo7 (vs:=vs) (i:=i+1) h with ⟨j,v',rfl,h1,h2⟩|h1
  ·exact .inl ⟨j+1,v',by omega,by simpa using h1,h2⟩
  rcases T.get_set h1 with ⟨rfl,h2⟩|⟨_,h2⟩
  ·simp at h2
   exact .inl ⟨0,v,rfl,rfl,h2.symm⟩
  exact .inr h2
theorem ZkF:∀{ds:List D} {i j:Nat} {d:D},ds[j]?=sO d→ZL (K2 i ds) (i+j)=sO (.d d)
 | [],i,j,d,h=>by grind
 |x::ds,i,0,d,h=>by
  cases h
  simp[K2,ZL]
 |x::ds,i,j+1,d,h=>by
  have:=ZkF (ds:=ds) (i:=i+1) (j:=j) (by simpa using h)
  simp only[K2,ZL]
  rw[if_neg (by omega),show i+(j+1)=i+1+j by omega]
  exact this
theorem Zv2(hv:VRs η vs ds):Z8 η L (Zmx 0 vs T.nil) (K2 0 ds):=fun t w hw _=>by
 rcases Zo7 hw with ⟨j,v,rfl,h1,rfl⟩|h
 ·obtain⟨d,h2,h3⟩:=hv.get h1
  exact⟨.d d,ZkF h2,d,h3,.inl rfl⟩
 simp[T.get_nil]at h
end
def ZAd:E→E
 |.when c e=>match c,e with
  |true,.d d=>.d d
  |c,e=>.when c e
 |e=>e
def nrm:Env→Env
 | []=>[]
 | (t,e)::r=>(t,ZAd e)::nrm r
theorem Zg5:∀(ρ:Env) (t:Nat),ZL (nrm ρ) t=(ZL ρ t).map ZAd
 | [],t=>rfl
 | (k,e)::r,t=>by
  simp[nrm,ZL]
  split
  ·rfl
  exact Zg5 r t
theorem Zr.nrm(m:Zr g ν w tmps ρ L s):Zr g ν w tmps (nrm ρ) L s:={
 st:=m.st
 loc:=m.loc
 locKept:=m.locKept
 locSt:=m.locSt
 inj:=m.inj
 env t e h:=by
  rw[Zg5]at h
  simp at h
  obtain⟨e0,h1,rfl⟩:=h
  have h2:=m.env t e0 h1
  cases e0 with
  |d d=>exact h2
  |loc l o=>exact h2
  |when c e =>
   cases c with
   |false=>exact h2
   |true =>
    cases e with
    |d d=>exact h2.1 rfl
    |loc l o=>exact h2
    |when c e=>exact h2 }
theorem Zqq{P:Program}{F:Fr P}{dk:List Zi}(h:Zu F dk (nrm ρ) L s):Zu F dk ρ L s :=
 fun k hk g ν w tmps hN m=>h k hk g ν w tmps hN m.nrm
theorem Zt7{P:Program}{F:Fr P}{d:D}(h:Y6 F (nrm ρ) L d s):Y6 F ρ L d s :=
 fun g ν w v c tmps hN m hr=>h g ν w v c tmps hN m.nrm hr
def ZnE(η:Nm)(ρ:T W)(ρd:Env):Prop:=∀t x,ρ.get t=sO (.v x)→∃d,ZL ρd t=sO (.d d)∧VR η x d
section
variable {C:Px} {η:Nm} {σ:S} {s:St} {L:Loc} {ρ:T W} {ρd:Env} {nx:Nat}
theorem Z8.nrm(h:Z8 η L ρ ρd):ZnE η ρ (nrm ρd):=fun t x hx=>by
 obtain⟨e,h1,d,h2,rfl|rfl⟩:=h t _ hx rfl
 ·exact⟨d,by rw[Zg5,h1];rfl,h2⟩
 exact⟨d,by rw[Zg5,h1];rfl,h2⟩
theorem ZnE.mono{η':Nm}(h:ZnE η ρ ρd)(hs:η.Sub η'):ZnE η' ρ ρd:=fun t x hx=>by
 obtain⟨d,h1,h2⟩:=h t x hx
 exact⟨d,h1,h2.mono hs⟩
theorem ZAn(hS:Sim C η σ s)(h1:η 1=sO .full)(hρ:ZnE η ρ ρd){r:RV}{v:V}(h:rvV ρ σ r=sO v):∃p d,Kp ρd [] s r=sO (p,d)∧p∧VR η v d:=by
 have c:∀{t:Nat} {a:V},(YV (.tmp t)).run ρ=sO a→∃d,ZL ρd t=sO (.d d)∧VR η a d:=fun{t a} ha=>hρ t a (Zyu (x:=ρ.get t) ha)
 cases r with
 |tmp t =>
  obtain⟨d,a1,a2⟩:=c h
  exact⟨True,d,by simp[Kp,a1],trivial,a2⟩
 |cell1 t =>
  simp[rvV]at h
  split at h<;>(try(grind;done))
  rename_i a ha
  obtain⟨d,a1,a2⟩:=c ha
  obtain⟨side,e,b1,b2,b3⟩:=ZuU (L:=[]) hS h1 (.one a2) h
  simp only[ZE7,ZFo,qv,ZE3,ZE2,E.d.injEq]at b1
  obtain⟨x,c1,c2,rfl⟩:=b1
  exact⟨True,x,by simp[Kp,a1,c1],trivial,b3⟩
 |cellN t n =>
  simp[rvV]at h
  split at h<;>(try(grind;done))
  rename_i a ha
  obtain⟨d,a1,a2⟩:=c ha
  obtain⟨side,e,b1,b2,b3⟩:=ZuU (L:=[]) hS h1 (.one a2) h
  simp only[ZE7,ZFo,qv,ZE3]at b1
  obtain⟨x,c1,rfl,rfl⟩:=b1
  exact⟨x.1,.agg x.2,by simp[Kp,a1,c1],b2,b3⟩
theorem Zof(hS:Sim C η σ s)(h1:η 1=sO .full)(hρ:ZnE η ρ ρd):∀{rs:List RV} {vs:List V},Zsb ρ σ rs=sO vs→∃p ds,YI ρd [] s rs=sO (p,ds)∧p∧VRs η vs ds
 | [],vs,h=>by
  cases h
  exact⟨True,[],rfl,trivial,.nil⟩
 |r::rs,vs,h=>by
  simp[Zsb]at h
  split at h<;>(try(grind;done))
  rename_i v hv
  split at h<;>simp at h
  rename_i vs' c
  subst h
  obtain⟨p,d,a1,a2,a3⟩:=ZAn hS h1 hρ hv
  obtain⟨q,ds,b1,b2,b3⟩:=Zof hS h1 hρ c
  exact⟨p∧q,d::ds,by simp[YI,a1,b1],⟨a2,b2⟩,.cons _ _ _ _ a3 b3⟩
theorem Zwi(h:VRs η vs ds):VR η (mkV vs) (K3 ds):=by
 cases h with
 |nil=>exact .tup _ _ .nil
 |cons v d vs ds h t =>
  cases t with
  |nil=>exact h
  |cons v' d' vs ds h' t=>exact .tup _ _ (.cons _ _ _ _ h (.cons _ _ _ _ h' t))
theorem ZtM{v:V}{d:D}(h:VR η v d)(hr:Zu4 v=true):ZeO d:=by
 cases h<;>simp only[Zu4,ZFn]at hr<;>simp[ZeO,J4]
 ·exact Ztx hr
 rw[J9]at hr;simpa using hr
theorem Zhl:∀{vs:List V} {ds:List D},VRs η vs ds→Zj7 vs=true→Zbp ds
 | [],_,h,_=>by cases h;trivial
 |v::vs,_,h,hr=>by
  obtain⟨d,ds,rfl,h1,h2⟩:=h.inv
  simp[Zj7]at hr
  exact⟨ZtM h1 hr.1,Zhl h2 hr.2⟩
def ZfE(C:Px)(η:Nm)(o:Out)(r:Res)(s:St):Prop :=
 ∃η' d,η.Sub η'∧Yw η' o.nx∧Sim C η' o.σ s∧VR η' o.v d∧r=if o.pan then .panic d else .ret d
theorem ZfE.mono{η':Nm}{o:Out}{r:Res}(h:ZfE C η' o r s)(hs:η.Sub η'):ZfE C η o r s:=by
 obtain⟨η2,d,h1,h2⟩:=h
 exact⟨η2,d,hs.trans h1,h2⟩
inductive DdR(η:Nm):List Dd→List DD→Prop where
 |nil:DdR η [] []
 |mark (q b:Nat) (r:List Dd) (r':List DD) (h:η q=some (.tip b)) (t:DdR η r r'):DdR η (.mark q::r) (.mark b::r')
 |fn (i:FuncId) (a c:List V) (da dc:List D) (r:List Dd) (r':List DD) (ha:VRs η a da) (hc:VRs η c dc) (h1:Zbp da) (h2:Zbp dc) (t:DdR η r r'):DdR η (.fn i a c::r) (.fn i da dc::r')
theorem DdR.mono{η':Nm}(hs:η.Sub η'):∀{r:List Dd} {r':List DD},DdR η r r'→DdR η' r r'
 |_,_,.nil=>.nil
 |_,_,.mark q b r r' h t=>.mark q b r r' (hs _ _ h) (t.mono hs)
 |_,_,.fn i a c da dc r r' ha hc h1 h2 t=>.fn i a c da dc r r' (ha.mono hs) (hc.mono hs) h1 h2 (t.mono hs)
def FmR(C:Px)(η:Nm)(fm:Fm)(o:Out)(F:Fr C.P):Prop :=
 F.b.fn=fm.f∧F.N=fm.n∧F.an=C.an fm.f∧match fm.k with
  |.fn res=>∃Φ dds,YQ F res Φ dds∧DdR η fm.ds dds∧∀r s,ZfE C η o r s→Φ r s
  |.rnd l=>∃b Φ,η l=sO (.tip b)∧K1 F b Φ∧∀r s,ZfE C η o r s→Φ r s
  |.dfd pd rec=>∃m Ψ,Zao F m Ψ rec∧(match pd,m with
    |some v,sO d=>VR η v d
    |none,nO=>True
    |_,_=>False)∧∀s b,o.pan=false→o.v=.bool b→ZfE C η o (.ret (.bool b)) s→Ψ b s
end
section
variable {P:Program}
theorem ZpD{an:Ann}{l N:Nat}{r:Wq}{da db:DC}{args:List D}(hs:s l=sO (.loop r .ready))(hlen:args.length=r.params.length)(ha:cc P an N r.assign=sO da)(hb:cc P an N r.body=sO db)(hN:r.N=N)(hp:∀t∈r.params,t<N)(h:∀F:Fr P,K1 F l Φ→F.b.fn=r.fn→F.N=N→F.an=an→Zu F [.code da,.beginR,.code db] (WP r.params args r.ρ) [] s):WZ P (.fn (.yield l) [] []) args s Φ:=by
 intro g w fv vs n hf i
 cases hf with
 |fn _ fs y _ _ hn1 hn2 h1 h2 =>
 obtain rfl:fs=[]:=by simpa using hn1
 obtain⟨hp0,l0,a1,a2,a3,a4,a5,a6,a7,a8,a9,a10⟩:=n.obj l _ hs
 have j:vs.toArray.size=l0.params.size:=by
  have e1:=i.len
  have e2:l0.params.toList.length=r.params.length:=by rw[a3]
  simp at e2⊢;omega
 refine⟨_,_,_,by simp[Deferred.ofValue];rfl,by simp[invoke,Instr.yield,Instr.getLoop,Jn a1,j];rfl,rfl,fun c cs=>?_⟩
 have M:Zr g (fun _=>0) w l0.tmps r.ρ [] s:=⟨n,fun l cs h=>by simp[Zg]at h,fun l cs h=>by simp[Zg]at h,fun l cs h=>by simp[Zg]at h,fun l l' cs y h=>by simp[Zg]at h,a8⟩
 obtain⟨u,M'⟩:=Zhi M i hlen (by rw[hN]at *;exact hp) (by rw[←hN];exact a7)
 have:=h (Za4 P an r.fn N l c cs Φ) ⟨an,r.fn,N,c,cs,rfl⟩ rfl rfl rfl [.code r.assign,.beginRound,.code r.body] (.code ha (.beginR (.code hb .nil))) g (fun _=>0) w _ u M'
 have v:(Za4 P an r.fn N l c cs Φ).b.atR { tmps:=(r.params.zip vs).foldl (fun tmps (x:Nat×Value)=>tmps.setIfInBounds x.1 x.2) l0.tmps,defers:=[] } [.code r.assign,.beginRound,.code r.body] =
   Frame.round l l0.fn ((l0.params.zip vs.toArray).foldl (fun tmps (x:Nat×Value)=>tmps.setIfInBounds x.1 x.2) l0.tmps) l0.assign l0.body .normal:=by
  simp only[Frame.atR,a2,a4,a5,←a3]
  congr 1
  rw[←Array.foldl_toList]
  simp
 have e:(Za4 P an r.fn N l c cs Φ).ds=[]:=rfl
 rw[e,v]at this
 have e2:(l0.params.zip vs.toArray).size=l0.params.size:=by simp at j⊢;omega
 rw[e2]at this
 exact this
theorem ZpB{an:Ann}{i:FuncId}{df:DF}(hf:cf P an i=sO df)(hres:df.res=[]){args:List D}{m:Option D}{Ψ:Bool→St→Prop}(hm:∀d,m=sO d→ZiT d)(h:∀F:Fr P,Zao F m Ψ false→F.b.fn=i→F.N=df.n→F.an=an→Zu F [.code df.body] (K2 0 args) [] s):JQ P i args m s Ψ:=by
 have af:=hf
 unfold cf at hf
 split at hf<;>(try(grind;done))
 rename_i fn z
 split at hf<;>(try(grind;done))
 rename_i c hc
 split at hf<;>(try(grind;done))
 rename_i y
 split at hf<;>simp at hf
 rename_i rs d hrs hd
 subst hf
 refine⟨⟨fn,z,by simp[hc],by simpa using y⟩,fun g w vs j cs hs ha t=>?_⟩
 obtain⟨v,ab,ae⟩:∃v,j.mode=Q3 m v false∧∀d,m=sO d→∀g w,Rep g w v d:=by
  cases m with
  |none=>exact⟨undef,t,fun d hd=>by simp at hd⟩
  |some d =>
   obtain⟨v,h1,h2⟩:=t
   obtain⟨v',r1,r2⟩:=Zpn (hm d rfl)
   have:=r2 g w v h2
   subst this
   exact⟨v,h1,fun d' ac=>by simp at ac;subst ac;exact r1⟩
 have ad:({ j with mode:=Q3 m v false }:Frame)=j:=by rw[←ab]
 have u:Frame.enter P i vs.toArray .deferred=(Y9 P an i fn.ntmps j cs Ψ m v false).b.atR { tmps:=vs.toArray++Array.replicate (fn.ntmps-vs.length) undef,defers:=[] } [.code c]:=by
  simp[Frame.enter,Frame.atR,z,hc,Y9]
 have:=h _ ⟨an,i,_,j,cs,v,af,hres,ab,ae,rfl⟩ rfl rfl rfl [.code c] (.code hd .nil) g (fun _=>0) w (vs.toArray++Array.replicate (fn.ntmps-vs.length) undef) (by simp[Y9];omega) (ZfU hs ha _)
 obtain⟨g',w',s',b,a1,a2,a3,a4⟩:=this
 refine⟨g',w',s',b,a1,a2,a3,?_⟩
 rw[u]
 have ag:(Y9 P an i fn.ntmps j cs Ψ m v false).cs=j::cs:=by simp[Y9,ad]
 rw[ag]at a4
 exact a4
theorem Zsq{an:Ann}{f:FuncId}{df:DF}(hf:cf P an f=sO df){args:List D}(h:∀F:Fr P,YQ F df.res Φ []→F.b.fn=f→F.N=df.n→F.an=an→Zu F [.code df.body] (K2 0 args) [] s):Zf P f args s Φ :=
 ZhR hf fun cs=>h _ ⟨an,f,df,cs,hf,rfl,rfl⟩ rfl rfl rfl
end
def Zw6(C:Px)(ih:Ih):Prop:=∀fm dk ρ σ nx o,ih fm dk ρ σ nx=sO o→∀(F:Fr C.P) η ρd s,FmR C η fm o F→Z8 η [] ρ ρd→Yw η nx→Sim C η σ s→Zu F dk ρd [] s
def Js(C:Px)(ih:Ih):Prop:=∀t,Zw6 ⟨C.toCx,t⟩ ih
theorem Js.at{C:Px}{ih:Ih}(h:Js C ih):Zw6 C ih:=h C.t
def Zk5(η:Nm):Option V→Option D→Prop
 |some v,sO d=>VR η v d
 |none,nO=>True
 |_,_=>False
section
variable {C:Px} {ih:Ih}
theorem Zx9{η:Nm}{m:Option V}{md:Option D}(h:Zk5 η m md)(hr:Zu3 m=true):∀d,md=sO d→ZiT d:=fun d hd=>by
 subst hd
 cases m with
 |none=>exact h.elim
 |some v =>
  have hv:VR η v d:=h
  cases hv<;>simp[Zu3]at hr
  rename_i t v d hv
  have c:=hv
  cases hv<;>first|exact Zhl (by assumption) hr|exact ZtM c hr
theorem ZgJ(hih:Js C ih):∀{ds:List Dd} {m:Option V} {σ:S} {nx:Nat} {m':Option V} {σ':S} {nx':Nat},ZlJ C ih ds m σ nx=sO (m',σ',nx')→∀{η:Nm} {dds:List DD} {md:Option D} {s:St},DdR η ds dds→Yw η nx→Sim C η σ s→Zk5 η m md →
  ∀{Ψ:Option D→St→Prop},(∀η' md' s',η.Sub η'→Yw η' nx'→Sim C η' σ' s'→Zk5 η' m' md'→Ψ md' s')→Unw C.P dds md s Ψ
 | [],m,σ,nx,m',σ',nx',h,η,dds,md,s,hd,hN,hS,hm,Ψ,hΨ=>by
  cases h
  cases hd
  exact hΨ η md s (Nm.Sub.refl _) hN hS hm
 |.mark q::r,m,σ,nx,m',σ',nx',h,η,dds,md,s,hd,hN,hS,hm,Ψ,hΨ=>by
  simp only[ZlJ]at h
  split at h<;>(try(simp at h;done))
  rename_i hq
  cases hd with
  |mark _ b _ r' hb t =>
   obtain⟨b',d,e0,e1,e2⟩:=hS.get hq (fun n=>by simp)
   rw[hb]at e0
   cases e0
   cases e2
   exact⟨e1,ZgJ hih h t hN (hS.take hq hb) hm hΨ⟩
 |.fn i args caps::r,m,σ,nx,m',σ',nx',h,η,dds,md,s,hd,hN,hS,hm,Ψ,hΨ=>by
  simp only[ZlJ]at h
  split at h<;>(try(simp at h;done))
  rename_i n body u
  obtain⟨hr,hh⟩:=Zx h;replace h:=hh;clear hh
  split at h<;>(try(simp at h;done))
  rename_i b σ1 nx1 j
  cases hd with
  |fn _ _ _ da dc _ r' ha hc h1 h2 t =>
   refine⟨h1,h2,ZpB (an:=C.an i) u rfl (Zx9 hm hr) fun F hF e1 e2 e3=>?_⟩
   refine hih.at _ _ _ _ _ _ j F η _ s ⟨e1,e2,e3,md,_,hF,hm,?_⟩ (Zv2 (ha.append hc)) hN hS
   intro s1 b1 _ c hp
   obtain⟨η1,d,g1,g2,g3,g4,g5⟩:=hp
   simp only[V.bool.injEq]at c
   subst c
   exact ZgJ hih h (t.mono g1) g2 g3 (by
    cases b with
    |true=>trivial
    |false =>
     cases m<;>cases md<;>first|trivial|exact hm.elim|exact VR.mono g1 hm) fun η2 v s2 k1 k2 k3 k4=>hΨ η2 v s2 (g1.trans k1) k2 k3 k4
end
def ZAL(C:Cx)(r:Wq)(st:Option DC)(busy:Bool)(lst:LSt):Prop:=match st,busy,lst with
 |none,false,.ready=>True
 |none,true,.busy=>True
 |some dj,false,.done j=>cc C.P (C.an r.fn) r.N j=sO dj
 |_,_,_=>False
section
variable {C:Px} {ih:Ih} {η:Nm} {σ:S} {s:St} {ρ:T W} {ρd:Env} {nx:Nat}
theorem Ziu(hS:Sim C η σ s){l b:Nat}(hb:η l=sO (.tip b)){st:Option DC}{now busy:Bool}{σ':S}(h:loopTo σ l st now busy=sO σ'):
  ∃r lst,s b=sO (.loop r lst)∧(now=false→lst=.ready)∧(now=true→lst=.busy)∧∀lst',ZAL C r st busy lst'→Sim C η σ' (s.upd b (.loop r lst')):=by
 unfold loopTo at h
 split at h<;>(try(grind;done))
 rename_i f n ps a b0 ρ0 bs hl
 obtain⟨t,hh⟩:=Zx h;replace h:=hh;clear hh
 cases h
 obtain⟨b',d,e0,e1,e2⟩:=hS.get hl (fun n=>by simp)
 rw[hb]at e0
 cases e0
 have j:bs=now:=by simpa using t
 subst j
 cases e2 with
 |loop _ _ _ _ _ _ _ _ r lst hf hn hps hlt ha hbb hρ hst =>
  subst hf;subst hn
  refine⟨r,lst,e1,fun c=>?_,fun c=>?_,fun lst' i=>hS.upd hl hb (.loop _ _ _ _ _ _ _ _ r lst' rfl rfl hps hlt ha hbb hρ ?_)⟩
  ·subst c;cases lst<;>first|rfl|exact hst.elim
  ·subst c;cases lst<;>first|rfl|exact hst.elim
  cases st<;>cases busy<;>cases lst'<;>exact i
theorem ZtL(hih:Js C ih){fm:Fm}{fell:Bool}{o:Out}(h:Zu2 C ih fm ρ σ nx fell=sO o){F:Fr C.P}(hF:FmR C η fm o F)(hρ:Z8 η [] ρ ρd)(hN:Yw η nx)(hS:Sim C η σ s):
  (fell=true→Zu F [] ρd [] s)∧(fell=false→∀dk,Zu F (.code .ret::dk) ρd [] s):=by
 obtain⟨_,_,_,hk⟩:=hF
 unfold Zu2 at h
 split at h
 ·rename_i res c
  rw[c]at hk
  obtain⟨Φ,t,hI,n,hΦ⟩:=hk
  split at h<;>(try(grind;done))
  rename_i σ1 nx1 hu
  split at h<;>simp at h
  rename_i vs u
  subst h
  have hU:Unw C.P t nO s (ZjH (nrm ρd) [] res Φ):=ZgJ hih hu n hN hS (md:=nO) trivial fun η1 j s1 k1 k2 k3 k4=>by
   cases j with
   |some d=>exact k4.elim
   |none =>
    obtain⟨p,ds,g1,g2,g3⟩:=Zof k3 k2.o (hρ.nrm.mono k1) u
    exact⟨p,ds,_,s1,g1,g2,ZEW _,ZES _,hΦ _ _ ⟨η1,_,k1,k2,k3,Zwi g3,rfl⟩⟩
  exact⟨fun _=>Zqq (hI.finU hU),fun _ dk=>Zqq (hI.retU hU)⟩
 ·rename_i l c
  rw[c]at hk
  obtain⟨b,Φ,hb,hI,hΦ⟩:=hk
  split at h<;>simp at h
  rename_i σ1 hl
  subst h
  obtain⟨r,lst,e1,_,e2,e3⟩:=Ziu hS hb hl
  obtain rfl:=e2 rfl
  refine⟨fun hf=>?_,fun hf dk=>?_⟩
  ·subst hf
   exact hI.fin e1 (ZES _) (hΦ _ _ ⟨η,_,Nm.Sub.refl _,hN,e3 .ready trivial,.bool true,rfl⟩)
  subst hf
  exact hI.ret e1 (ZES _) (hΦ _ _ ⟨η,_,Nm.Sub.refl _,hN,e3 (.done .ret) rfl,.bool false,rfl⟩)
 rename_i pd rec c
 rw[c]at hk
 obtain⟨m,Ψ,hI,hm,hΨ⟩:=hk
 split at h<;>cases h
 have i:pd.isNone=m.isNone:=by cases pd<;>cases m<;>first|rfl|exact hm.elim
 have hq:Ψ (m.isNone ||rec) s:=hΨ s _ rfl (by simp[i]) ⟨η,_,Nm.Sub.refl _,hN,hS,by rw[i];exact .bool _,rfl⟩
 exact⟨fun _=>hI.fin (ZES _) hq,fun _ dk=>hI.ret (ZES _) hq⟩
theorem Zgv(hih:Js C ih){fm:Fm}{v:V}{d:D}{o:Out}(h:Zly C ih fm ρ v σ nx=sO o){F:Fr C.P}(hF:FmR C η fm o F)(hρ:Z8 η [] ρ ρd)(hN:Yw η nx)(hS:Sim C η σ s)(hv:VR η v d):Y6 F ρd [] d s:=by
 obtain⟨y,_,_,hk⟩:=hF
 unfold Zly at h
 split at h
 ·rename_i res j
  rw[j]at hk
  obtain⟨Φ,dds,hI,n,hΦ⟩:=hk
  refine Zt7 (hI.panU ?_)
  split at h<;>(try(grind;done))
  ·rename_i σ1 z hu
   split at h<;>simp at h
   rename_i vs ab
   subst h
   exact ZgJ hih hu n hN hS (md:=sO d) hv fun η1 i s1 k1 k2 k3 k4=>by
    cases i with
    |some d=>exact k4.elim
    |none =>
     obtain⟨p,ds,g1,g2,g3⟩:=Zof k3 k2.o (hρ.nrm.mono k1) ab
     exact⟨p,ds,_,s1,g1,g2,ZEW _,ZES _,hΦ _ _ ⟨η1,_,k1,k2,k3,Zwi g3,rfl⟩⟩
  rename_i v1 σ1 z hu
  cases h
  exact ZgJ hih hu n hN hS (md:=sO d) hv fun η1 i s1 k1 k2 k3 k4=>by
   cases i with
   |none=>exact k4.elim
   |some d1=>exact⟨d1,s1,ZEW _,ZES _,hΦ _ _ ⟨η1,d1,k1,k2,k3,k4,rfl⟩⟩
 ·rename_i l j
  rw[j]at hk
  obtain⟨b,Φ,hb,hI,hΦ⟩:=hk
  split at h<;>simp at h
  rename_i u t
  subst h
  refine hI.pan (ZES _) (hΦ _ _ ⟨η,d,Nm.Sub.refl _,hN,hS,hv,rfl⟩) fun an fn N c cs ac=>?_
  subst ac
  have:fn=fm.f:=y
  rw[this];exact⟨u,t⟩
 grind
end
section
variable {P:Program}
theorem Zss{F:Fr P}{d:D}{Ψ:Bool→St→Prop}(hF:Zao F (sO d) Ψ false){dk:List Zi}{o:DOp}(hg:o.guard=nO)(hk:o.k=.recover)(h:∀F':Fr P,Zao F' (sO d) Ψ true→F'.b=F.b→F'.N=F.N→F'.an=F.an→DO F' kp dk os (Zt ρ o.dst (.d d)) L s):DO F kp dk (o::os) ρ L s:=by
 obtain⟨an,f,df,i,cs,v,hf,af,ab,u,rfl⟩:=hF
 refine Wn fun oo g ν w tmps t j r k ae z al ad hd hN m hr aj=>?_
 have hw:=Yf m al (c:=true) (by rw[hg];rfl)
 have ak:=Yi z (by rw[hk];rfl)
 rw[hk]at z
 obtain⟨args,ats,ai⟩:=ZgV z
 have ah:(execOp (Act.mk tmps []).eval oo).run P w=.ok .recover w:=by
  simp[execOp,ai,resolve,invoke,builtin]
 have ac:_root_.Go.step P (lone ((Y9 P an f df.n i cs Ψ (sO d) v false).b.atR ⟨tmps,[]⟩ (.inRegion t (j::r)::k)) (Y9 P an f df.n i cs Ψ (sO d) v false).cs w) =
   .next (lone ((Y9 P an f df.n i cs Ψ (sO d) v true).b.atR ((Act.mk tmps []).put oo.dst v) (.inRegion t r::k)) (Y9 P an f df.n i cs Ψ (sO d) v true).cs w):=by
  refine step_lone_go ?_
  rw[stepGR_op ae hw,Oper.semAt_eq _ _ _ ak]
  have ag:((Y9 P an f df.n i cs Ψ (sO d) v false).b.atR ⟨tmps,[]⟩ (.inRegion t (j::r)::k)).finish v=(Y9 P an f df.n i cs Ψ (sO d) v true).b.atR ((Act.mk tmps []).put oo.dst v) (.inRegion t r::k):=by
   rw[Frame.finish_atR,ae];rfl
  rw[←ag]
  simp[stepG.apply,ah,Frame.atR,Y9,tryRecover,Q3]
 refine(Zee P i cs Ψ).back _ _ _ _ (.one ac) ?_
 obtain⟨y,e1,e2,m'⟩:=ZeL m hN hd (v:=v) (e:=.d d) (u d rfl g w) []
 rw[ad,e1]
 exact h _ ⟨an,f,df,i,cs,v,hf,af,ab,u,rfl⟩ rfl rfl rfl t r k hr aj g ν w y e2 m'
end
theorem WR.val{η:Nm}{v:V}{d:D}(h:VR η v d):WR η L (.v v) (.d d):=⟨d,h,.inl rfl⟩
theorem WR.skp{η:Nm}:WR η L .skip (.when false (.d (.bool false))):=rfl
def Zqh(η:Nm)(σ:S)(s:St):Prop:=∀(k b:Nat) (vs:List V),ZaQ (σ.get k)=sO vs→η k=sO (.tip b)→∃ds ex,s b=sO (.cells (ds++ex))∧VRs η vs ds
def QR(C:Px):Prop:=∀f g σ vs v,C.lib f=sO g→g σ vs=sO v→∀(η:Nm) ds s,VRs η vs ds→Zqh η σ s→∃d,VR η v d∧Zf C.P f ds s fun r s'=>r=.ret d∧s'=s
section
variable {C:Px} {ih:Ih} {η:Nm} {σ:S} {s:St} {ρ:T W} {ρd:Env} {nx:Nat}
theorem Zk5.mono{η':Nm}(hs:η.Sub η'){a:Option V}{b:Option D}(h:Zk5 η a b):Zk5 η' a b:=by
 cases a<;>cases b<;>first|trivial|exact h.elim|exact VR.mono hs h
theorem FmR.mono{η':Nm}(hs:η.Sub η'){fm:Fm}{o:Out}{F:Fr C.P}(h:FmR C η fm o F):FmR C η' fm o F:=by
 obtain⟨h1,h2,h3,h4⟩:=h
 refine⟨h1,h2,h3,?_⟩
 split at h4
 ·obtain⟨Φ,i,a,b,c⟩:=h4
  exact⟨Φ,i,a,b.mono hs,fun r s hp=>c r s (hp.mono hs)⟩
 ·obtain⟨b,Φ,a,c,d⟩:=h4
  exact⟨b,Φ,hs _ _ a,c,fun r s hp=>d r s (hp.mono hs)⟩
 obtain⟨m,Ψ,a,c,d⟩:=h4
 exact⟨m,Ψ,a,Zk5.mono hs c,fun s b e1 e2 hp=>d s b e1 e2 (hp.mono hs)⟩
theorem ZqL(hih:Js C ih){f:FuncId}{args:List V}{o:Out}(h:(Zp5 C f).run ih args σ nx=sO o)(ha:VRs η args ds)(hN:Yw η nx)(hS:Sim C η σ s):Zf C.P f ds s (ZfE C η o):=by
 unfold Zp5 at h
 split at h
 ·rename_i df c
  exact Zsq (an:=C.an f) c fun F hI e1 e2 e3=>hih.at _ _ _ _ _ _ h F η _ s ⟨e1,e2,e3,_,[],hI,.nil,fun _ _ h=>h⟩ (Zv2 ha) hN hS
 grind
theorem Zlg(hlib:QR C)(hih:Js C ih){f:FuncId}{args:List V}{o:Out}(h:(ZgT C f).run ih args σ nx=sO o)(ha:VRs η args ds)(hN:Yw η nx)(hS:Sim C η σ s):Zf C.P f ds s (ZfE C η o):=by
 unfold ZgT at h
 split at h
 ·rename_i g hg
  simp only at h
  split at h
  ·simp at h
   rename_i v hv
   subst h
   obtain⟨d,h1,h2⟩:=hlib f g σ args v hg hv η ds s ha fun _ _ _ h hb=>hS.cells h hb
   exact h2.mono fun r s' ⟨e1,e2⟩=>by subst e1;subst e2;exact⟨η,d,Nm.Sub.refl _,hN,hS,h1,rfl⟩
  exact ZqL hih h ha hN hS
 exact ZqL hih h ha hN hS
theorem Zlh(hlib:QR C)(hih:Js C ih){fv:V}{args:List V}{fd:D}{o:Out}(h:Zl2 C ih fv args σ nx=sO o)(hf:VR η fv fd)(ha:VRs η args ds)(hN:Yw η nx)(hS:Sim C η σ s):WZ C.P fd ds s (ZfE C η o):=by
 cases hf<;>simp only[Zl2,reduceCtorEq]at h
 case fn f a c da dc h1 h2 =>
  refine Zf.V (Zlg hlib hih h ?_ hN hS)
  rw[ZFt]
  exact h1.append (ha.append h2)
 case yield l b hb =>
  split at h<;>(try(simp at h;done))
  rename_i f n ps a b0 ρ0 hl
  obtain⟨i,hh⟩:=Zx h;replace h:=hh;clear hh
  rw[Z6]at i
  obtain⟨b',d,e0,e1,e2⟩:=hS.get hl (fun n=>by simp)
  rw[hb]at e0
  cases e0
  cases e2 with
  |loop _ _ _ _ _ _ _ _ r lst hf hn hps hlt hca hcb hρ hst =>
   subst hf;subst hn;subst hps
   have hr:lst=.ready:=by cases lst<;>first|rfl|exact hst.elim
   subst hr
   refine ZpD (an:=C.an r.fn) e1 (by rw[←ha.len];exact i) hca hcb rfl hlt fun F hI e2 e3 e4=>?_
   exact hih.at _ _ _ _ _ _ h F η _ s ⟨e2,e3,e4,b,_,hb,hI,fun _ _ h=>h⟩ (Zpk hρ ha) hN hS
def Zvz(C:Px)(ih:Ih)(rest:Bx Rg)(dk:List Zi)(os:List DOp):Prop :=
 ∀fm ρ σ nx o,rest.run ih dk fm ρ σ nx=sO o→∀(F:Fr C.P) η ρd s,FmR C η fm o F→Z8 η [] ρ ρd→Yw η nx→Sim C η σ s→DO F nO dk os ρd [] s
theorem Zv0(hlib:QR C)(hih:Js C ih){rest:Bx Rg}{dk:List Zi}(hrest:Zvz C ih rest dk os){fm:Fm}{f:FuncId}{g:Option (Nat×Bool)}{k:K}(hfk:ZiB k=true){o:Out}(h:(goF C f rest dst g k).run ih dk fm ρ σ nx=sO o){F:Fr C.P}(hg:Zl ρd g=sO true)(hF:FmR C η fm o F)(hρ:Z8 η [] ρ ρd)(hN:Yw η nx)(hS:Sim C η σ s):DO F nO dk (⟨dst,g,k⟩::os) ρd [] s:=by
 have z:∀{k:K},ZiB k=true→(gk k ||g.isNone)=true→(match (opF (C.mu f dst) dst.isSome k).run ρ σ nx with
   |some ⟨v,σ',n⟩=>rest.run ih dk fm ((Zcn dst).run ρ (.v v)) σ' n
   |none=>nO)=sO o→DO F nO dk (⟨dst,g,k⟩::os) ρd [] s:=by
  intro k hfk i h
  split at h<;>(try(simp at h;done))
  rename_i v σ' n ab
  exact ZAJ hS hN hρ hg i hfk ab fun η' e s2 k1 k2 k3 k4=>hrest _ _ _ _ _ h F η' _ s2 (hF.mono k1) (JJ (hρ.mono k1) k4 dst) k2 k3
 cases k
 case call fx xs =>
  simp only[goF]at h
  split at h<;>(try(simp at h;done))
  rename_i fv c
  split at h<;>(try(simp at h;done))
  rename_i vs y
  split at h<;>(try(simp at h;done))
  rename_i pan v σ' n u
  obtain⟨p,fd,a1,a2,a3⟩:=KA hρ c
  obtain⟨q,ds,b1,b2,b3⟩:=ZaD hρ y
  have hV:=Zlh hlib hih u a3 b3 hN hS
  refine Zej hg rfl a1 b1 (ZaJ ds) b2 a2 hV (fun d s' hp=>?_) (fun d s' hp=>?_)
  ·obtain⟨η1,d1,k1,k2,k3,k4,k5⟩:=hp
   cases pan with
   |true=>simp at k5
   |false =>
    cases k5
    exact hrest _ _ _ _ _ h F η1 _ s' (hF.mono k1) (JJ (hρ.mono k1) (WR.val k4) dst) k2 k3
  obtain⟨η1,d1,k1,k2,k3,k4,k5⟩:=hp
  cases pan with
  |false=>simp at k5
  |true =>
   cases k5
   exact Zgv hih h (hF.mono k1) (hρ.mono k1) k2 k3 k4
 case panic x =>
  simp only[goF]at h
  split at h<;>(try(simp at h;done))
  rename_i t v hv
  obtain⟨p,d,a1,a2,a3⟩:=KA hρ hv
  cases a3 with
  |iface _ _ d hd=>exact Zk3 hg rfl a1 a2 (Zgv hih h hF hρ hN hS (.iface _ _ _ hd))
 case defer fx xs =>
  simp only[goF]at h
  split at h
  ·simp only at h
   split at h<;>(try(simp at h;done))
   rename_i j first caps vs c y
   split at h<;>(try(simp at h;done))
   rename_i res hk
   obtain⟨hr,hh⟩:=Zx h;replace h:=hh;clear hh
   simp only[ZEY]at hr
   obtain⟨p,fd,a1,a2,a3⟩:=KA hρ c
   obtain⟨q,ds,b1,b2,b3⟩:=ZaD hρ y
   cases a3 with
   |fn _ _ _ da dc h1 h2 =>
    obtain⟨f1,f2,f3,f4⟩:=hF
    rw[hk]at f4
    obtain⟨Φ,dds,hI,hd,hΦ⟩:=f4
    have r1:=Zhl (h1.append b3) hr.1
    have r2:=Zhl h2 hr.2
    refine Zk2 hI.roundOf rfl rfl rfl a1 b1 (ZaJ ds) b2 a2 r1 r2 (hrest _ _ _ _ _ h _ η _ s ⟨f1,f2,f3,?_⟩ hρ hN hS)
    simp only[hk]
    exact⟨Φ,_,hI.defer j (da++ds) dc,.fn _ _ _ _ _ _ _ (h1.append b3) h2 r1 r2 hd,hΦ⟩
  simp at h
 case recover =>
  simp only[goF]at h
  split at h
  ·simp only at h
   obtain⟨f1,f2,f3,f4⟩:=hF
   split at h
   ·rename_i v hk
    rw[hk]at f4
    obtain⟨m,Ψ,hI,hm,hΨ⟩:=f4
    cases m with
    |none=>exact hm.elim
    |some d =>
     refine Zss hI rfl rfl fun F' ad e1 e2 e3=>hrest _ _ _ _ _ h F' η _ s ⟨by rw[e1];exact f1,by rw[e2];exact f2,by rw[e3];exact f3,?_⟩ (JJ hρ (WR.val hm) dst) hN hS
     exact⟨sO d,Ψ,ad,hm,hΨ⟩
   ·rename_i rec hk
    have ac:=f4
    rw[hk]at f4
    obtain⟨m,Ψ,hI,hm,hΨ⟩:=f4
    cases m with
    |some d=>exact hm.elim
    |none=>exact ZfD hI rfl rfl (hrest _ _ _ _ _ h F η _ s ⟨f1,f2,f3,ac⟩ (JJ hρ (WR.val .niliface) dst) hN hS)
   simp at h
  simp at h
 all_goals
  simp only[goF]at h
  split at h
  ·rename_i i
   exact z hfk i h
  simp at h
theorem ZtK(hlib:QR C)(hih:Js C ih){dk:List Zi}{f:FuncId}:∀{os:List DOp},(os.all fun o=>ZiB o.k)=true→Zvz C ih (Zoe C f os) dk os
 | [],_=>fun fm ρ σ nx o h F η ρd s hF hρ hN hS=>Zei (hih.at _ _ _ _ _ _ h F η ρd s hF hρ hN hS)
 |⟨dst,g,k⟩::os,hfk=>fun fm ρ σ nx o h F η ρd s hF hρ hN hS=>by
  simp only[List.all_cons,ZEY]at hfk
  have IH:=ZtK hlib hih (dk:=dk) (f:=f) hfk.2
  simp[Zoe]at h
  split at h
  ·exact Zv0 hlib hih IH hfk.1 h rfl hF hρ hN hS
  simp only at h
  split at h<;>(try(grind;done))
  rename_i b hb
  have hg:=Zo5 hρ hb
  split at h
  ·exact Zv0 hlib hih IH hfk.1 h hg hF hρ hN hS
  exact Q1 (e:=.d (.bool false)) hg (IH _ _ _ _ _ h F η _ s hF (JJ hρ WR.skp dst) hN hS)
end
section
variable {P:Program}
theorem Zqs{F:Fr P}(hr:F.b.roundOf=nO){o:Opd}{ps:List Nat}{da db:DC}{dk:List Zi}{p:Prop}{fv:D}(hf:ZC ρ true o=sO (p,.d fv))(hp:p)(ks:List Nat)(hks:(Yp ρ ks).map (·.1) |>.Nodup)(h:∀q l r,s q=nO→s l=nO→q≠l→r.ρ=Kb ks ρ→r.params=ps→r.fn=F.b.fn→cc P F.an F.N r.assign=sO da→cc P F.an F.N r.body=sO db→r.N=F.N→(∀t∈ps,t<F.N) →
   ∃Ψ,WZ P fv [.fn (.yield l) [] []] ((s.upd q .dfr).upd l (.loop r .ready)) Ψ∧(∀d s',Ψ (.ret d) s'→∃r',Zh0 (F.mark q) l r' dk ρ L s')∧(∀d s',Ψ (.panic d) s'→Y6 (F.mark q) ρ L d s')):
  Zu F (.code (.rangeF o ps da db)::dk) ρ L s:=by
 intro k hk
 cases hk with
 | @code _ _ kt _ hc ht =>
 obtain⟨f',ae,a',b',rfl,ar,al,ha,hb,aj⟩:=ZoO hc
 intro g ν w tmps hN m
 have ak:Rep g w _ fv:=Yc m ar rfl hf hp F.ds
 have ag:=JW (g:=g) (w:=w) (.deferred (sO [])) m.st.fresh
 have z:=ag.ext m.st.fresh
 obtain⟨hq,m1⟩:=m.newObj ag (o:=.dfr) ⟨(m.st.fresh _ (ZE6 _)).1,Kc w _⟩
 let w1:=w.alloc (.deferred (sO []))
 let lp:Go.Loop:={ state:=.ready,pending:=nO,fn:=F.b.fn,tmps:=tmps,params:=ae,assign:=a',body:=b',defers:=w.heap.size }
 let r:Wq:={ fn:=F.b.fn,params:=ps,assign:=a',body:=b',defers:=w.heap.size,ρ:=Kb ks ρ,N:=F.N }
 have ab:=JW (g:=g) (w:=w1) (.loop lp) m1.st.fresh
 have y:=ab.ext m1.st.fresh
 obtain⟨hl,m2⟩:=m1.newObj ab (o:=.loop r .ready) ⟨(m1.st.fresh _ (ZE6 _)).1,lp,Kc w1 _,rfl,al,rfl,rfl,rfl,hN,fun t e ai=>by
  obtain⟨h1,h2⟩:=ZdW hks ai
  exact Zm1 (((m1.env t e (Zdo ρ ks t e h1))).mono y) h2,rfl,rfl⟩
 have hqsz:w1.heap.size=w.heap.size+1:=by simp[w1]
 have ap:s w1.heap.size=nO:=by
  have ao:¬w1.heap.size=w.heap.size:=by omega
  have h0:(s.upd w.heap.size .dfr) w1.heap.size=nO:=hl
  simp[ZFr,ao]at h0
  exact h0
 obtain⟨Ψ,hV,af,ac⟩:=h w.heap.size w1.heap.size r hq ap (by omega) rfl rfl rfl ha hb rfl aj
 have u:Rep g (w1.alloc (.loop lp)) _ fv:=(ak.mono z).mono y
 obtain⟨d,nx,fr,am,au,aq,hC⟩:=hV (Zfe g ν L) (w1.alloc (.loop lp)) _ [.func (.yield w1.heap.size) #[] #[]] m2.callSt (Wx u rfl) (.cons (.fn (.yield w1.heap.size) [] [] [] [] rfl rfl (by simp) (by simp)) .nil)
 have n:(Instr.enterLoop F.b.fn tmps ae a' b' F.b.roundOf).run P w=.ok (w1.heap.size,[{ target:=.collected w.heap.size,args:=#[] }]) (w1.alloc (.loop lp)):=by
  rw[hr];simp[Instr.enterLoop,w1,lp]
 have i:=ZgG (P:=P) (b:=F.b) (a:=⟨tmps,F.ds⟩) (k:=kt) (cs:=F.cs) n am au aq
 obtain⟨e,w',⟨g',s',res,x1,x2,x3,x4⟩,c⟩:=hC (F.b.atR { tmps:=tmps,defers:=[{ target:=.collected w.heap.size,args:=#[] }]++F.ds } (.inRangeFunc w1.heap.size::kt)) F.cs
 obtain⟨ad,hm⟩:=m2.afterCall x1 x2
 have j:=(z.trans y).trans ad
 cases e with
 |returned v =>
  cases res with
  |panic d=>exact x3.elim
  |ret d =>
   refine F.T.back _ _ _ _ (.head i c) ?_
   exact F.T.ext _ _ _ _ _ j ((af d s' x4).elim fun _ ah=>ZmZ (F:=F.mark w.heap.size) ht hN hm ah)
 |panicked ch =>
  cases res with
  |ret d=>exact x3.elim
  |panic d =>
   obtain⟨v,rfl,hv⟩:=x3
   refine F.T.back _ _ _ _ (.head i c) ?_
   exact F.T.ext _ _ _ _ _ j (ac d s' x4 _ _ _ v _ _ hN hm (Wx hv rfl))
 |outgrown=>exact c.elim
end
theorem Zg9{ρ:Env}:∀{ks:List Nat} {t:Nat},t∈(Yp ρ ks).map (·.1)→t∈ks
 | [],t,h=>by cases h
 |k::ks,t,h=>by
  simp only[Yp]at h
  split at h
  ·simp only[ZE7,ZFv]at h
   rcases h with rfl|h
   ·simp
   exact List.mem_cons_of_mem _ (Zg9 h)
  exact List.mem_cons_of_mem _ (Zg9 h)
theorem ZfP{ρ:Env}:∀{ks:List Nat},ks.Nodup→((Yp ρ ks).map (·.1)).Nodup
 | [],_=>by simp[Yp]
 |k::ks,h=>by
  simp at h
  simp[Yp]
  split
  ·simp only[ZE7,List.nodup_cons]
   exact⟨fun hk=>h.1 (Zg9 hk),ZfP h.2⟩
  exact ZfP h.2
section
variable {C:Px} {ih:Ih}
def Zqi(C:Px)(ih:Ih)(f:FuncId)(c:DC):Prop :=
 ∀fm k ρ σ nx o,(Zaq C f c).run ih fm k ρ σ nx=sO o→fm.f=f→∀(F:Fr C.P) η ρd s,FmR C η fm o F→Z8 η [] ρ ρd→Yw η nx→Sim C η σ s→Zu F (.code c::k) ρd [] s
def ZlU(C:Px)(ih:Ih):Prop:=∀f order ops kp,Zqi C ih f (.regD order ops kp)
theorem Zww(hlib:QR C)(hih:Js C ih){f:FuncId}{g:Opd}{ps:List Nat}{a b:DC}:Zqi C ih f (.rangeF g ps a b):=by
 intro fm k ρ σ nx o h hf F η ρd s hF hρ hN hS
 simp[Zaq]at h
 split at h<;>(try(grind;done))
 rename_i res hk
 split at h<;>(try(grind;done))
 rename_i fv aj
 split at h<;>(try(grind;done))
 rename_i pan v σ' nx' u
 obtain⟨p,fd,a1,a2,a3⟩:=KA hρ aj
 obtain⟨f1,f2,f3,f4⟩:=hF
 rw[hk]at f4
 obtain⟨Φ,dds,hI,ai,hΦ⟩:=f4
 refine Zqs hI.roundOf a1 a2 ZnI (ZfP List.nodup_range) fun q l r hq hl ah hr ak hfn ad ag hrN ae=>?_
 have f0:=hN.free nx (ZE6 _)
 have n1:η.Sub (η.put nx (.tip q)):=Nm.put_sub f0 _
 have ab:=hN.put (.tip q)
 have S1:Sim C (η.put nx (.tip q)) (σ.set (sO .dfr) nx) (s.upd q .dfr):=hS.new f0 hq .dfr
 have y:=ab.free (nx+1) (ZE6 _)
 have n2:(η.put nx (.tip q)).Sub ((η.put nx (.tip q)).put (nx+1) (.tip l)):=Nm.put_sub y _
 have af:=ab.put (.tip l)
 have al:(s.upd q .dfr) l=nO:=by rw[ZE0 s _ (Ne.symm ah)];exact hl
 have S2:=S1.new y al (o:=.loop fm.f fm.n ps a b ρ nO false) (d:=.loop r .ready)
  (.loop _ _ _ _ _ _ _ _ r .ready (by simp_all) (by simp_all) ak (by rw[←f2];exact ae) (by rw[←f3,←f2];exact ad) (by rw[←f3,←f2];exact ag) (by rw[hr];exact(hρ.round.mono n1).mono n2) trivial)
 have hV:=Zlh hlib hih u ((a3.mono n1).mono n2) (.one (.yield _ _ (Nm.put_same _ _ _))) af S2
 have t:∀{η':Nm},((η.put nx (.tip q)).put (nx+1) (.tip l)).Sub η'→FmR C η' { fm with ds:=.mark nx::fm.ds } o (F.mark q):=fun{η'} hs=>by
  refine⟨f1,f2,f3,?_⟩
  simp[hk]
  exact⟨Φ,_,hI.mark q,.mark _ _ _ _ (hs _ _ (n2 _ _ (Nm.put_same _ _ _))) (ai.mono (n1.trans (n2.trans hs))),fun r s hp=>hΦ r s (hp.mono (n1.trans (n2.trans hs)))⟩
 refine⟨_,hV,fun d s' hp=>?_,fun d s' hp=>?_⟩
 ·obtain⟨η1,d1,k1,k2,k3,k4,k5⟩:=hp
  cases pan with
  |true=>grind
  |false =>
   simp only at h
   have i:η1 (nx+1)=sO (.tip l):=k1 _ _ (Nm.put_same _ _ _)
   have z:Z8 η1 [] ρ ρd:=hρ.mono (n1.trans (n2.trans k1))
   split at h<;>(try(grind;done))
   ·rename_i c
    obtain⟨b',dd,e0,e1,e2⟩:=k3.get c (fun n=>by simp)
    rw[i]at e0
    cases e0
    cases e2 with
    |loop _ _ _ _ _ _ _ _ r' lst hf' hn' hps' hlt' ha' hb' hρ' hst =>
     have ac:lst=.ready:=by cases lst<;>first|rfl|exact hst.elim
     subst ac
     exact⟨r',.inl ⟨e1,hih.at _ _ _ _ _ _ h (F.mark q) η1 ρd _ (t k1) z k2 (k3.take c i)⟩⟩
   rename_i f' n' _ _ _ _ j c
   obtain⟨hc,hh⟩:=Zx h;replace h:=hh;clear hh
   simp at hc
   obtain⟨rfl,rfl⟩:=hc
   obtain⟨b',dd,e0,e1,e2⟩:=k3.get c (fun n=>by simp)
   rw[i]at e0
   cases e0
   cases e2 with
   |loop _ _ _ _ _ _ _ _ r' lst hf' hn' hps' hlt' ha' hb' hρ' hst =>
    cases lst with
    |done j'=>exact⟨r',.inr ⟨j',j,e1,by show cc C.P F.an F.N j'=_;rw[f3,f2];exact hst,hih.at _ _ _ _ _ _ h (F.mark q) η1 ρd _ (t k1) z k2 (k3.take c i)⟩⟩
    |_=>exact hst.elim
 obtain⟨η1,d1,k1,k2,k3,k4,k5⟩:=hp
 cases pan with
 |false=>grind
 |true =>
  cases k5
  exact Zgv hih h (t k1) (hρ.mono (n1.trans (n2.trans k1))) k2 k3 k4
theorem ZaH(hlib:QR C)(hih:Js C ih)(hD:ZlU C ih){f:FuncId}:∀c,Zqi C ih f c
 |.skip=>fun fm k ρ σ nx o h hf F η ρd s hF hρ hN hS=>Zv (hih.at _ _ _ _ _ _ h F η ρd s hF hρ hN hS)
 |.label _=>fun fm k ρ σ nx o h hf F η ρd s hF hρ hN hS=>Yx (hih.at _ _ _ _ _ _ h F η ρd s hF hρ hN hS)
 |.seq a b=>fun fm k ρ σ nx o h hf F η ρd s hF hρ hN hS=>Zd (ZaH hlib hih hD a _ _ _ _ _ _ h hf F η ρd s hF hρ hN hS)
 |.block id a=>fun fm k ρ σ nx o h hf F η ρd s hF hρ hN hS=>Zb (ZaH hlib hih hD a _ _ _ _ _ _ h hf F η ρd s hF hρ hN hS)
 |.loop a=>fun fm k ρ σ nx o h hf F η ρd s hF hρ hN hS=>Zfc (ZaH hlib hih hD a _ _ _ _ _ _ h hf F η ρd s hF hρ hN hS)
 |.scope a=>fun fm k ρ σ nx o h hf F η ρd s hF hρ hN hS=>Yr (ZaH hlib hih hD a _ _ _ _ _ _ h hf F η ρd s hF hρ hN hS)
 |.cond c a b=>fun fm k ρ σ nx o h hf F η ρd s hF hρ hN hS=>by
  simp[Zaq]at h
  split at h<;>(try(grind;done))
  rename_i v hv
  obtain⟨p,d,a1,a2,a3⟩:=KA hρ hv
  cases a3<;>simp at h
  rename_i t
  cases t with
  |true=>exact Zs a1 a2 (fun _=>ZaH hlib hih hD a _ _ _ _ _ _ h hf F η ρd s hF hρ hN hS) (fun h=>by grind)
  |false=>exact Zs a1 a2 (fun h=>by grind) (fun _=>ZaH hlib hih hD b _ _ _ _ _ _ h hf F η ρd s hF hρ hN hS)
 |.goto l=>fun fm k ρ σ nx o h hf F η ρd s hF hρ hN hS=>by
  simp[Zaq]at h
  split at h<;>(try(grind;done))
  rename_i k' i
  exact Zvy i (hih.at _ _ _ _ _ _ h F η ρd s hF hρ hN hS)
 |.ret=>fun fm k ρ σ nx o h hf F η ρd s hF hρ hN hS=>(ZtL hih h hF hρ hN hS).2 rfl k
 |.exit id=>fun fm k ρ σ nx o h hf F η ρd s hF hρ hN hS=>by
  simp[Zaq]at h
  split at h
  ·rename_i k' i
   exact ZP i (hih.at _ _ _ _ _ _ h F η ρd s hF hρ hN hS)
  rename_i hx
  split at h<;>(try(grind;done))
  rename_i l hk
  split at h<;>simp at h
  rename_i σ1 hl
  subst h
  obtain⟨f1,f2,f3,f4⟩:=hF
  rw[hk]at f4
  obtain⟨b,Φ,hb,hI,hΦ⟩:=f4
  obtain⟨r,lst,e1,_,e2,e3⟩:=Ziu hS hb hl
  obtain rfl:=e2 rfl
  exact hI.exit hx e1 (ZES _) (hΦ _ _ ⟨η,_,Nm.Sub.refl _,hN,e3 (.done (.exit id)) rfl,.bool false,rfl⟩)
 |.reg ops kp=>fun fm k ρ σ nx o h hf F η ρd s hF hρ hN hS=>by
  simp[Zaq]at h
  split at h<;>(try(grind;done))
  split at h<;>(try(grind;done))
  rename_i j
  exact ZgO (ZtK hlib hih j _ _ _ _ _ h F η ρd s hF hρ hN hS)
 |.regD order ops kp=>hD f order ops kp
 |.rangeF g ps a b=>Zww hlib hih
theorem Zzt(hlib:QR C)(hih:Js C ih)(hD:ZlU C ih):Zw6 C (step C ih):=by
 intro fm dk ρ σ nx o h F η ρd s hF hρ hN hS
 unfold step at h
 split at h
 ·exact(ZtL hih h hF hρ hN hS).1 rfl
 split at h
 ·exact Zj (hih.at _ _ _ _ _ _ h F η ρd s hF hρ hN hS)
 ·exact Z7 (hih.at _ _ _ _ _ _ h F η ρd s hF hρ hN hS)
 ·exact Za (ZaH hlib hih hD _ _ _ _ _ _ _ h rfl F η ρd s hF hρ hN hS)
 ·split at h<;>(try(grind;done))
  rename_i l hk
  split at h<;>(try(grind;done))
  rename_i σ1 hl
  have c:=hF
  obtain⟨f1,f2,f3,f4⟩:=hF
  rw[hk]at f4
  obtain⟨b,Φ,hb,hI,hΦ⟩:=f4
  obtain⟨r,lst,e1,e2,_,e3⟩:=Ziu hS hb hl
  obtain rfl:=e2 rfl
  exact hI.begin e1 (hih.at _ _ _ _ _ _ h F η ρd _ c hρ hN (e3 .busy trivial))
 exact ZaH hlib hih hD _ _ _ _ _ _ _ h rfl F η ρd s hF hρ hN hS
theorem Zm4{C:Cx}(hlib:∀t,QR ⟨C,t⟩)(hD:∀(C':Px) ih,C'.toCx=C→Js C' ih→ZlU C' ih):∀n t,Js ⟨C,t⟩ (run C n)
 |0,_=>fun _ fm dk ρ σ nx o h=>by cases h
 |n+1,_=>fun t=>Zzt (hlib t) (Zm4 hlib hD n t) (hD ⟨C,t⟩ _ rfl (Zm4 hlib hD n t))
end
theorem Zip{s s':St}{L L':Loc}:∀{B:List (Nat×Rd)},(∀n b,(n,.blk b)∈B→s' b=s b)→(∀n l,(n,.loc l)∈B→Zg L' l=Zg L l)→KS s s' L L' B
 | [],_,_=>trivial
 | (n,.blk b)::B,h1,h2=>⟨h1 n b (by simp),Zip (fun m b hb=>h1 m b (by simp[hb])) (fun m l hl=>h2 m l (by simp[hl]))⟩
 | (n,.loc l)::B,h1,h2=>⟨h2 n l (by simp),Zip (fun m b hb=>h1 m b (by simp[hb])) (fun m l hl=>h2 m l (by simp[hl]))⟩
theorem ZeB{n:Nat}:∀{l:List Nat},Zal n l=true↔n∈l
 | []=>by simp[Zal]
 |a::r=>by
  simp[Zal,ZeB (l:=r)]
  constructor
  ·rintro(h|h)
   ·exact .inl h.symm
   exact .inr h
  rintro(h|h)
  ·exact .inl h.symm
  exact .inr h
theorem Zfl{fl:List Nat}{s s':St}{L L':Loc}{B:List (Nat×Rd)}(h1:∀n b,n∈fl→(n,.blk b)∈B→s' b=s b)(h2:∀n l,n∈fl→(n,.loc l)∈B→Zg L' l=Zg L l):Wg fl s s' L L' B :=
 Zip (fun n b hb=>h1 n b (ZeB.1 (Qz.1 hb).1) (Qz.1 hb).2) (fun n b hb=>h2 n b (ZeB.1 (Qz.1 hb).1) (Qz.1 hb).2)
theorem ZcP{n:Nat}:∀{l:List Nat},ZfS n l=true↔n∈l
 | []=>by simp[ZfS]
 |a::r=>by
  simp only[ZfS]
  split
  ·rename_i h;rw[Z6]at h;simp[h]
  rename_i h
  have:¬n=a:=fun e=>h (by simp_all)
  rw[ZcP];simp[this]
theorem Zqy{n m:Nat}{l:List Nat}(h:m=n∨m∈l):m∈Zw8 n l:=by
 unfold Zw8
 split
 ·rename_i hm;rcases h with rfl|h
  ·exact ZcP.1 hm
  exact h
 rcases h with rfl|h<;>simp[*]
theorem ZeT{fl:List Nat}{n k:Nat}(hn:n∈fl):∀{l:List (Nat×Nat)},(n,k)∈l→k∈ZlE fl l
 | [],h=>by grind
 | (t,m)::r,h=>by
  simp[ZlE]
  rcases List.mem_cons.1 h with h|h
  ·cases h
   rw[if_pos (ZcP.2 hn)]
   exact Zqy (.inl rfl)
  split
  ·exact Zqy (.inr (ZeT hn h))
  exact ZeT hn h
theorem Zfk{fl:List Nat}{n k:Nat}(hn:n∈fl):∀{l:List (Nat×Nat)},(n,k)∈l→(n,k)∈Zfj fl l
 | [],h=>by grind
 | (t,m)::r,h=>by
  simp[Zfj]
  rcases List.mem_cons.1 h with h|h
  ·cases h
   rw[if_pos (ZcP.2 hn)]
   simp
  split
  ·exact List.mem_cons_of_mem _ (Zfk hn h)
  exact Zfk hn h
theorem Zo2{u:Nat}:∀{r:List (Nat×Nat×Nat)},Zij u r=nO→∀x∈r,x.1≠u
 | [],_,x,h=>by grind
 | (t,a)::r,hn,x,h=>by
  simp only[Zij]at hn
  split at hn
  ·grind
  rename_i ht
  rcases List.mem_cons.1 h with rfl|h
  ·exact fun e=>ht (Z6.2 e)
  exact Zo2 hn x h
theorem Zlq{u:Nat}{a:Nat×Nat}:∀{r:List (Nat×Nat×Nat)},Zij u r=sO a→(u,a)∈r
 | [],h=>by cases h
 | (t,b)::r,h=>by
  simp only[Zij]at h
  split at h
  ·rename_i ht
   rw[Z6]at ht
   cases h;subst ht;simp
  exact List.mem_cons_of_mem _ (Zlq h)
theorem Zlr{l:Nat}{vs:List V}{x:Nat}:∀{r:List (Nat×List V)},Kv x (Zjb l vs r)=if x=l then (match Kv l r with
  |some _=>sO vs
  |none=>nO) else Kv x r
 | []=>by simp[Zjb,Kv]
 | (t,c)::r=>by
  simp[Zjb]
  by_cases ht:t=l
  ·subst ht
   simp_all
   simp[Kv]
   by_cases hx:x=t
   ·subst hx;simp
   simp_all
   have:¬Nat.beq t x=true:=fun h=>hx (Z6.1 h).symm
   simp_all
  simp_all
  simp[Kv]
  rw[Zlr (r:=r)]
  by_cases hx:x=l
  ·subst hx
   simp_all
  simp[hx]
theorem Zpr{l:Nat}{vs:List V}:∀{r:List (Nat×List V)},(Zjb l vs r).map (·.1)=r.map (·.1)
 | []=>rfl
 | (t,c)::r=>by
  simp[Zjb]
  split
  ·simp
  simp[Zpr (r:=r)]
theorem Zo3{l:Nat}:∀{r:List (Nat×List V)},Kv l r=nO→l∉r.map (·.1)
 | [],_=>by simp
 | (t,c)::r,h=>by
  simp only[Kv]at h
  split at h
  ·grind
  rename_i ht
  simp only[ZE7,ZFv,not_or]
  exact⟨fun e=>ht (Z6.2 e.symm),Zo3 h⟩
theorem ZbX{o:O}(h:ZiU o=true):ZbG o=false∧∀n,o≠.tok n:=by
 cases o<;>simp[ZiU]at h<;>exact⟨rfl,fun n=>by simp⟩
theorem Zj0:∀{ks:List Nat} {σ σ0:S} {l:List (Nat×O)},ZiE ks σ=sO (σ0,l) →
  (∀k o,σ0.get k=sO o→(σ.get k=sO o∧∀o',(k,o')∉l)∨∃o',o=.ro o'∧(k,o')∈l)∧(∀k o,(k,o)∈l→σ.get k=sO o∧ZiU o=true)∧∀k∈ks,(∃o,(k,o)∈l)∨∃o,σ.get k=sO (.ro o)
 | [],σ,σ0,l,h=>by
  cases h
  exact⟨fun k o h=>.inl ⟨h,fun _ h=>by simp at h⟩,fun k o h=>by simp at h,fun k h=>by simp at h⟩
 |k::ks,σ,σ0,l,h=>by
  simp[ZiE]at h
  split at h<;>(try(grind;done))
  rename_i o ho
  split at h
  ·rename_i c
   split at h<;>simp at h
   rename_i σ' l' hr
   obtain⟨rfl,rfl⟩:=h
   obtain⟨h1,h2,h3⟩:=Zj0 hr
   refine⟨fun k' o' h=>?_,fun k' o' h=>?_,fun k' h=>?_⟩
   ·rcases h1 k' o' h with ⟨h4,h5⟩|⟨o2,rfl,h4⟩
    ·rcases T.get_set h4 with ⟨rfl,h6⟩|⟨h0,h6⟩
     ·simp at h6
      exact .inr ⟨o,h6.symm,by simp⟩
     refine .inl ⟨h6,fun o2 hm=>?_⟩
     rcases List.mem_cons.1 hm with hm|hm
     ·simp at hm;exact h0 hm.1
     exact h5 o2 hm
    exact .inr ⟨o2,rfl,by simp[h4]⟩
   ·rcases List.mem_cons.1 h with h|h
    ·cases h
     exact⟨ho,c⟩
    obtain⟨h4,h5⟩:=h2 k' o' h
    rcases T.get_set h4 with ⟨rfl,h6⟩|⟨_,h6⟩
    ·cases h6;cases h5
    exact⟨h6,h5⟩
   rcases List.mem_cons.1 h with rfl|h
   ·exact .inl ⟨o,by simp⟩
   rcases h3 k' h with ⟨o',h⟩|⟨o',h⟩
   ·exact .inl ⟨o',by simp[h]⟩
   rcases T.get_set h with ⟨rfl,_⟩|⟨_,h⟩
   ·exact .inl ⟨o,by simp⟩
   exact .inr ⟨o',h⟩
  split at h<;>(try(grind;done))
  rename_i c
  obtain⟨h1,h2,h3⟩:=Zj0 h
  refine⟨h1,h2,fun k' hk=>?_⟩
  rcases List.mem_cons.1 hk with rfl|hk
  ·cases o<;>cases c
   exact .inr ⟨_,ho⟩
  exact h3 k' hk
theorem ZqJ:∀{l:List (Nat×O)} {σ σ2:S},ZjN l σ=sO σ2→(∀k o,σ2.get k=sO o→(k,o)∈l∨(σ.get k=sO o∧∀o',(k,o')∉l))∧∀k o,(k,o)∈l→∃o',σ.get k=sO (.ro o')
 | [],σ,σ2,h=>by
  cases h
  exact⟨fun k o h=>.inr ⟨h,fun _ h=>by simp at h⟩,fun k o h=>by simp at h⟩
 | (k',o')::l,σ,σ2,h=>by
  simp[ZjN]at h
  split at h<;>(try(grind;done))
  rename_i o1 ho
  split at h<;>simp at h
  rename_i σ' hb
  subst h
  obtain⟨h1,h2⟩:=ZqJ hb
  refine⟨fun k o h=>?_,fun k o h=>?_⟩
  ·rcases T.get_set h with ⟨rfl,h3⟩|⟨h0,h3⟩
   ·cases h3;exact .inl (by simp)
   rcases h1 k o h3 with h4|⟨h4,h5⟩
   ·exact .inl (by simp[h4])
   refine .inr ⟨h4,fun o2 hm=>?_⟩
   rcases List.mem_cons.1 hm with hm|hm
   ·simp at hm;exact h0 hm.1
   exact h5 o2 hm
  rcases List.mem_cons.1 h with h|h
  ·cases h
   exact⟨o1,ho⟩
  exact h2 k o h
section
variable {C:Px} {η η':Nm} {σ σ0 σ' σ2:S} {s s':St}
def Zqu(C:Px)(η:Nm)(l:List (Nat×O))(s t:St):Prop :=
 (∀b d,C.t b=sO d→t b=sO d)∧(∀k o b,(k,o)∈l→η k=sO (.tip b)→t b=s b)∧∀b d,t b=sO d→C.t b=sO d∨∃k o,(k,o)∈l∧η k=sO (.tip b)
open Classical in
theorem Sim.lend(hS:Sim C η σ s){ks:List Nat}{l:List (Nat×O)}(h:ZiE ks σ=sO (σ0,l)):∃t,Sim ⟨C.toCx,t⟩ η σ0 s∧Zqu C η l s t:=by
 obtain⟨h1,h2,_⟩:=Zj0 h
 have hM:∀b k o,(k,o)∈l→η k=sO (.tip b)→∃d,s b=sO d∧OR C η k o d:=fun b k o hm hb=>by
  obtain⟨g1,g2⟩:=h2 k o hm
  obtain⟨b',d,e1,e2,e3⟩:=hS.get g1 (ZbX g2).2
  rw[hb]at e1
  simp only[ZEP,Tok.tip.injEq]at e1
  subst e1
  exact⟨d,e2,e3⟩
 have j:∀k o,σ0.get k=sO o→∃o',σ.get k=sO o':=fun k o hk=>by
  rcases h1 k o hk with ⟨g,_⟩|⟨o',_,g⟩
  ·exact⟨o,g⟩
  exact⟨o',(h2 k o' g).1⟩
 let t:St:=fun b=>if ∃k o,(k,o)∈l∧η k=sO (.tip b) then s b else C.t b
 have i:∀b,(∃k o,(k,o)∈l∧η k=sO (.tip b))→t b=s b:=fun b hb=>by simp only[t];rw[if_pos hb]
 have c:∀b,¬(∃k o,(k,o)∈l∧η k=sO (.tip b))→t b=C.t b:=fun b hb=>by simp only[t];rw[if_neg hb]
 have hL:Zqu C η l s t:=by
  refine⟨fun b d hb=>?_,fun k o b hm hb=>i b ⟨k,o,hm,hb⟩,fun b d hb=>?_⟩
  ·by_cases hm:∃k o,(k,o)∈l∧η k=sO (.tip b)
   ·rw[i b hm];exact(hS.kp b d hb).1
   rw[c b hm];exact hb
  by_cases hm:∃k o,(k,o)∈l∧η k=sO (.tip b)
  ·exact .inr hm
  rw[c b hm]at hb;exact .inl hb
 refine⟨t,⟨fun k o hk=>?_,fun k k' o o' b hk n e e'=>?_,fun b d hb=>?_,fun k o b hk e=>?_⟩,hL⟩
 ·rcases h1 k o hk with ⟨g,_⟩|⟨o',rfl,g⟩
  ·exact hS.obj k o g
  obtain⟨g1,g2⟩:=h2 k o' g
  obtain⟨b,d,e1,e2,e3⟩:=hS.get g1 (ZbX g2).2
  exact⟨_,e1,.inl ⟨b,d,rfl,e2,.ro o' d e3 (ZbX g2).1 (ZbX g2).2⟩⟩
 ·obtain⟨o1,g1⟩:=j _ _ hk
  obtain⟨o2,g2⟩:=j _ _ n
  exact hS.inj k k' o1 o2 b g1 g2 e e'
 ·have hb:t b=sO d:=hb
  by_cases hm:∃k o,(k,o)∈l∧η k=sO (.tip b)
  ·refine⟨by rw[←i b hm];exact hb,fun k' o' hk hr e=>?_⟩
   obtain⟨k,o,hm,hb⟩:=hm
   rcases h1 k' o' hk with ⟨g,g'⟩|⟨o2,rfl,_⟩
   ·have:=hS.inj k k' o o' b (h2 k o hm).1 g hb e
    subst this
    exact g' o hm
   simp[ZbG]at hr
  rw[c b hm]at hb
  refine⟨(hS.kp b d hb).1,fun k' o' hk hr e=>?_⟩
  rcases h1 k' o' hk with ⟨g,_⟩|⟨o2,rfl,_⟩
  ·exact(hS.kp b d hb).2 k' o' g hr e
  simp[ZbG]at hr
 show ∃d,t b=sO d
 rcases h1 k _ hk with ⟨g,_⟩|⟨o',e0,g⟩
 ·obtain⟨d,hd⟩:=hS.ro k o b g e
  exact⟨d,hL.1 b d hd⟩
 simp only[O.ro.injEq]at e0
 subst e0
 obtain⟨d,hd,_⟩:=hM b k o g e
 exact⟨d,by rw[hL.2.1 k o b g e];exact hd⟩
theorem Sim.unlend(hS:Sim C η σ s){ks:List Nat}{l:List (Nat×O)}(h:ZiE ks σ=sO (σ0,l)){t:St}(hL:Zqu C η l s t)(hs:η.Sub η')(hS':Sim ⟨C.toCx,t⟩ η' σ' s')(hb:ZjN l σ'=sO σ2):
  Sim C η' σ2 s'∧∀k b,k∈ks→η k=sO (.tip b)→s' b=s b:=by
 obtain⟨h1,h2,h3⟩:=Zj0 h
 obtain⟨b1,b2⟩:=ZqJ hb
 obtain⟨l1,l2,l3⟩:=hL
 have hM:∀k o b,(k,o)∈l→η k=sO (.tip b)→∃d,s b=sO d∧s' b=sO d∧OR C η k o d:=fun k o b hm hb=>by
  obtain⟨g1,g2⟩:=h2 k o hm
  obtain⟨b',d,e1,e2,e3⟩:=hS.get g1 (ZbX g2).2
  rw[hb]at e1
  cases e1
  exact⟨d,e2,(hS'.kp b d (by show t b=_;rw[l2 k o b hm hb];exact e2)).1,e3⟩
 have c:∀k o,σ2.get k=sO o→∃o',σ'.get k=sO o':=fun k o hk=>by
  rcases b1 k o hk with g|⟨g,_⟩
  ·obtain⟨o',g⟩:=b2 k o g;exact⟨_,g⟩
  exact⟨o,g⟩
 refine⟨⟨fun k o hk=>?_,fun k k' o o' b hk i e e'=>?_,fun b d hb=>?_,fun k o b hk e=>?_⟩,fun k b hk hb=>?_⟩
 ·rcases b1 k o hk with g|⟨g,_⟩
  ·obtain⟨g1,g2⟩:=h2 k o g
   obtain⟨b,d,e1,e2,e3⟩:=hS.get g1 (ZbX g2).2
   obtain⟨d',f1,f2,f3⟩:=hM k o b g e1
   exact⟨_,hs _ _ e1,.inl ⟨b,d',rfl,f2,f3.mono hs⟩⟩
  exact hS'.obj k o g
 ·obtain⟨o1,g1⟩:=c _ _ hk
  obtain⟨o2,g2⟩:=c _ _ i
  exact hS'.inj k k' o1 o2 b g1 g2 e e'
 ·obtain⟨e1,e2⟩:=hS'.kp b d (l1 b d hb)
  refine⟨e1,fun k o hk hr e=>?_⟩
  rcases b1 k o hk with g|⟨g,_⟩
  ·exact(hS.kp b d hb).2 k o (h2 k o g).1 hr (hS.name hs (h2 k o g).1 e)
  exact e2 k o g hr e
 ·rcases b1 k _ hk with g|⟨g,g'⟩
  ·have:=(h2 k _ g).2;simp[ZiU]at this
  obtain⟨d,hd⟩:=hS'.ro k o b g e
  rcases l3 b d hd with hd|⟨k0,o0,hm,j⟩
  ·exact⟨d,hd⟩
  obtain⟨o1,g1⟩:=b2 k0 o0 hm
  have:=hS'.inj k k0 _ _ b g g1 e (hs _ _ j)
  subst this
  exact absurd hm (g' o0)
 rcases h3 k hk with ⟨o,hm⟩|⟨o,ho⟩
 ·obtain⟨d,f1,f2,_⟩:=hM k o b hm hb
  rw[f1,f2]
 obtain⟨d,hd⟩:=hS.ro k o b ho hb
 rw[(hS.kp b d hd).1,(hS'.kp b d (l1 b d hd)).1]
end
def ZdQ(ρd:Env)(u l o:Nat):Prop:=ZL ρd u=sO (.loc l o)∨ZL ρd u=sO (.when true (.loc l o))
structure Wj(η:Nm)(r:Rl)(ρd:Env)(L:Loc)(B:List (Nat×Rd)):Prop where
 cs:∀l vs,Kv l r.cs=some vs→∃ds,Zg L l=some ds∧VRs η vs ds
 no:∀l,Kv l r.cs=none→Zg L l=none
 nd:(r.cs.map (·.1)).Nodup
 ad:∀u l o,(u,l,o)∈r.ad→ZdQ ρd u l o
 lt:∀u l o,(u,l,o)∈r.ad→u<32768
 bn:∀n b,(n,.blk b)∈B→∃k,(n,k)∈r.bn∧η k=some (.tip b)
 bl:∀n l,(n,.loc l)∈B→(n,l)∈r.bl
theorem Wj.nil{η:Nm}{ρd:Env}:Wj η Rl.nil ρd [] []:={
 cs l vs h:=by cases h
 no l _:=rfl
 nd:=by simp[Rl.nil]
 ad u l o h:=by cases h
 lt u l o h:=by cases h
 bn n b h:=by grind
 bl n l h:=by grind }
section
variable {η η':Nm} {r:Rl} {ρd:Env} {L:Loc} {B:List (Nat × Rd)}
theorem Wj.mono(h:Wj η r ρd L B)(hs:η.Sub η'):Wj η' r ρd L B:={
 cs l vs hl:=by
  obtain⟨ds,a,b⟩:=h.cs l vs hl
  exact⟨ds,a,b.mono hs⟩
 no:=h.no
 nd:=h.nd
 ad:=h.ad
 lt:=h.lt
 bn n b hb:=by
  obtain⟨k,a,c⟩:=h.bn n b hb
  exact⟨k,a,hs _ _ c⟩
 bl:=h.bl }
theorem ZdQ.put{u l o:Nat}(h:ZdQ ρd u l o)(hd:dst≠sO u){e:E}:ZdQ (Zt ρd dst e) u l o:=by
 unfold ZdQ
 rw[WJ,if_neg hd]
 exact h
theorem Zwn{t:Nat}(h:noA t r=true):∀u l o,(u,l,o)∈r.ad→t≠u:=fun u l o hm e=>by
 unfold noA at h
 split at h
 ·exact Zo2 ‹_› _ hm e.symm
 grind
theorem ZAc{t:Nat}(h:noA t r=true):t<32768:=by
 unfold noA at h
 split at h
 ·simpa using h
 grind
theorem ZxT(h:Zd3 dst r=true):∀u l o,(u,l,o)∈r.ad→dst≠sO u:=fun u l o hm e=>by
 subst e
 exact Zwn h u l o hm rfl
theorem Wj.put(h:Wj η r ρd L B)(hd:Zd3 dst r=true)(e:E):Wj η r (Zt ρd dst e) L B :=
 { h with ad:=fun u l o hm=>(h.ad u l o hm).put (ZxT hd u l o hm) }
theorem Wj.next(h:Wj η r ρd L B)(fl:List Nat):Wj η (ZjY fl r) ρd L (YX fl B):=by
 have h1:∀{fl:List Nat} n b,(n,.blk b)∈YX fl B→∃k,(n,k)∈Zfj fl r.bn∧η k=sO (.tip b):=fun{fl} n b hb=>by
  obtain⟨e1,e2⟩:=Qz.1 hb
  obtain⟨k,a,c⟩:=h.bn n b e2
  exact⟨k,Zfk (ZeB.1 e1) a,c⟩
 have h2:∀{fl:List Nat} n l,(n,.loc l)∈YX fl B→(n,l)∈Zfj fl r.bl:=fun{fl} n l hb=>by
  obtain⟨e1,e2⟩:=Qz.1 hb
  exact Zfk (ZeB.1 e1) (h.bl n l e2)
 cases fl with
 |nil=>rw[ZiA];exact{ cs:=h.cs,no:=h.no,nd:=h.nd,ad:=h.ad,lt:=h.lt,bn:=fun n b hb=>by simp at hb,bl:=fun n b hb=>by simp at hb }
 |cons a fl=>exact{ cs:=h.cs,no:=h.no,nd:=h.nd,ad:=h.ad,lt:=h.lt,bn:=h1,bl:=h2 }
theorem ZnF(h:Wj η r ρd L B){x:Opd}{l o:Nat}(ha:Zqx x r=sO (l,o)):∃p,ZC ρd true x=sO (p,.loc l o)∧p:=by
 cases x with
 |cst d=>cases ha
 |tmp t =>
  rcases h.ad t l o (Zlq ha) with h|h
  ·exact⟨True,by simp[ZC,h],trivial⟩
  exact⟨True→True,by simp[ZC,h],fun _=>trivial⟩
theorem Wj.addr(h:Wj η r ρd L B){u l o:Nat}(hn:noA u r=true){e:E}(he:e=.loc l o∨e=.when true (.loc l o)):Wj η ⟨r.cs,(u,l,o)::r.ad,r.bn,r.bl⟩ (Zt ρd (sO u) e) L B :=
 { h with
  ad:=fun u' l' o' hm=>by
   rcases List.mem_cons.1 hm with hm|hm
   ·cases hm
    unfold ZdQ
    rw[WJ,if_pos rfl]
    exact he.imp (by rintro rfl;rfl) (by rintro rfl;rfl)
   exact(h.ad u' l' o' hm).put (fun hu=>Zwn hn u' l' o' hm (by simpa using hu))
  lt:=fun u' l' o' hm=>by
   rcases List.mem_cons.1 hm with hm|hm
   ·simp at hm
    rw[hm.1];exact ZAc hn
   exact h.lt u' l' o' hm }
theorem Z8.off{ρ:T W}(h:Z8 η [] ρ ρd)(u:Nat)(e:E):Z8 η [] (ρ.set nO u) (Zt ρd (sO u) e):=fun t w hw hl=>by
 rcases T.get_set hw with ⟨_,h1⟩|⟨c,h1⟩
 ·grind
 obtain⟨e',h2,h3⟩:=h t w h1 hl
 exact⟨e',by rw[WJ,if_neg (by simpa using Ne.symm c)];exact h2,h3⟩
theorem Wj.reads(h:Wj η r ρd L B){R:List (Nat×Rd)}{bn bl:List (Nat×Nat)}(h1:∀k,k∈r.bn→k∈bn)(h2:∀k,k∈r.bl→k∈bl)(h3:∀n b,(n,.blk b)∈R→∃k,(n,k)∈bn∧η k=sO (.tip b))(h4:∀n l,(n,.loc l)∈R→(n,l)∈bl):Wj η ⟨r.cs,r.ad,bn,bl⟩ ρd L (R++B) :=
 { h with
  bn:=fun n b hb=>by
   rcases List.mem_append.1 hb with hb|hb
   ·exact h3 n b hb
   obtain⟨k,a,c⟩:=h.bn n b hb
   exact⟨k,h1 _ a,c⟩
  bl:=fun n l hb=>by
   rcases List.mem_append.1 hb with hb|hb
   ·exact h4 n l hb
   exact h2 _ (h.bl n l hb) }
end
section
variable {C:Px} {ih:Ih} {dk:List Zi} {os:List (DOp × List Nat)} {rest:Bx RgD}
def Zb4(C:Px)(ih:Ih)(rest:Bx RgD)(dk:List Zi)(os:List (DOp×List Nat)):Prop :=
 ∀r fm ρ σ nx o,rest.run r ih dk fm ρ σ nx=sO o→∀(F:Fr C.P) η ρd L s B,FmR C η fm o F→Z8 η [] ρ ρd→Yw η nx→Sim C η σ s→Wj η r ρd L B→DOA F nO dk os ρd L s B
variable {r:Rl} {fm:Fm} {ρ:T W} {σ:S} {nx:Nat} {o:Out} {F:Fr C.P} {η:Nm} {ρd:Env} {L:Loc} {s:St} {B:List (Nat × Rd)}
theorem ZxP{t:Nat}{v:V}{d:D}(hv:VR η v d)(h:Wj η r ρd L B):Wj η (Zyq t v r) ρd L ((KT (.d d)).map (fun b=>(t,b))++B):=by
 have i:∀{k b:Nat},η k=sO (.tip b)→Wj η ⟨r.cs,r.ad,(t,k)::r.bn,r.bl⟩ ρd L ([(t,.blk b)]++B):=fun{k b} hb =>
  h.reads (fun _ hm=>List.mem_cons_of_mem _ hm) (fun _ hm=>hm) (fun n b' c=>⟨k,by
   simp at c
   rw[c.1,c.2]
   exact⟨by simp,hb⟩⟩) (fun n l hl=>by grind)
 cases hv<;>first|exact h|exact i ‹_›
theorem ZvB{x:Opd}(h:(Zb9 (x::xs)).run ρ=sO vs):∃v vs',(YV x).run ρ=sO v∧(Zb9 xs).run ρ=sO vs'∧vs=v::vs':=by
 simp[Zb9]at h
 split at h<;>(try(simp at h;done))
 rename_i v hv
 split at h<;>simp at h
 rename_i vs' c
 exact⟨v,vs',hv,c,h.symm⟩
theorem ZAi(hρ:Z8 η [] ρ ρd){g:Option (Nat×Bool)}{k:K}(hg:Zl ρd g=sO true){db:Bool}{r3:R3}(h:(opF false db k).run ρ σ nx=sO r3){ρd':Env}(hR:Wj η r ρd' L B):
  Wj η ((rdR (dst.getD 0) k).run ρ r) ρd' L (Kj ⟨dst,g,k⟩ ρd++B):=by
 cases k
 case q q xs =>
  cases hr:YY (.q q xs) with
  |false=>simpa[rdR,Kj,Y7,hr]using hR
  |true =>
   simp[rdR,Kj,Y7,hr,hg]
   cases xs with
   |nil=>exact hR
   |cons x ys =>
    simp[opF]at h
    split at h<;>(try(grind;done))
    rename_i vs c
    obtain⟨p,ds,a1,a2,a3⟩:=ZaD hρ c
    obtain⟨v,vs',hv,_,rfl⟩:=ZvB c
    obtain⟨d,ds',rfl,b1,b2⟩:=a3.inv
    simp[a1,hv]
    exact ZxP b1 hR
 all_goals exact hR
theorem ZiK(hrest:Zb4 C ih rest dk os){g:Option (Nat×Bool)}{fl:List Nat}{k:K}(hk:YH k=true)(h:(ZiJ rest dst k).run r ih dk fm ρ σ nx=sO o)(hg:Zl ρd g=sO true)(hF:FmR C η fm o F)(hρ:Z8 η [] ρ ρd)(hN:Yw η nx)(hS:Sim C η σ s)(hR:Wj η r ρd L B):DOA F nO dk ((⟨dst,g,k⟩,fl)::os) ρd L s B:=by
 simp[ZiJ]at h
 split at h<;>(try(grind;done))
 rename_i v σ1 nx1 c
 obtain⟨hd,hh⟩:=Zx h
 obtain⟨e1,e2,side,e,e3,e4,e5⟩:=Zph (L:=L) (dst:=dst) hS hN.o hρ.anyL hg hk c
 have i:Y5 k=true:=by cases k<;>simp[YH]at hk<;>rfl
 refine Jq e4 e3 ?_
 simp[i]
 exact hrest _ _ _ _ _ _ hh F η _ L s _ hF (JJ hρ (show WR η [] (.v v) e from e5) dst) hN hS (ZAi hρ hg c (hR.put hd e))
theorem ZtD{fl:List Nat}{σ0:S}{l:List (Nat×O)}(h:ZxU fl r σ=sO (σ0,l)):∃ks,ZiE ks σ=sO (σ0,l)∧∀n k,n∈fl→(n,k)∈r.bn→k∈ks:=by
 cases fl with
 |nil=>exact⟨[],h,fun _ _ h=>by simp at h⟩
 |cons a fl=>exact⟨_,h,fun n k hn hk=>ZeT hn hk⟩
theorem ZnS(hrest:Zb4 C ih rest dk os){f:FuncId}{g:Option (Nat×Bool)}{fl:List Nat}{k:K}(hk:YH k=false)(hp:Y5 k=false)(hnf:ZiB k=true)(h:(Zq8 C f rest dst g fl k).run r ih dk fm ρ σ nx=sO o)(hg:Zl ρd g=sO true)(hF:FmR C η fm o F)(hρ:Z8 η [] ρ ρd)(hN:Yw η nx)(hS:Sim C η σ s)(hR:Wj η r ρd L B):DOA F nO dk ((⟨dst,g,k⟩,fl)::os) ρd L s B:=by
 unfold Zq8 at h
 split at h<;>(try(grind;done))
 rename_i y
 simp only at h
 split at h<;>(try(grind;done))
 rename_i σ0 l j
 split at h<;>(try(grind;done))
 rename_i v σ1 ab u
 split at h<;>(try(grind;done))
 rename_i σ2 c
 obtain⟨hd,hh⟩:=Zx h
 obtain⟨ks,o1,o2⟩:=ZtD j
 obtain⟨t,z,hL⟩:=hS.lend o1
 refine ZcB (Y4 ⟨C.toCx,t⟩ η ⟨v,σ1,ab⟩) hp (fun ρ' L' os' i hc=>?_) (fun e s2 hr=>?_)
 ·exact ZvS z hN hρ (by rw[We (fun t ht=>i t (by simp[ZA,ht]))];exact hg) y hk hnf u i hc
 obtain⟨η',k1,k2,k3,d,k4,rfl⟩:=hr
 obtain⟨u1,u2⟩:=hS.unlend o1 hL k1 k3 c
 refine⟨Zfl (fun n b hf hb=>?_) (fun _ _ _ _=>rfl),hrest _ _ _ _ _ _ hh F η' _ L s2 _ (hF.mono k1) (JJ (hρ.mono k1) (WR.val k4) dst) k2 u1 (((hR.put hd _).next fl).mono k1)⟩
 obtain⟨kn,n1,n2⟩:=hR.bn n b hb
 exact u2 kn b (o2 n kn hf n1) n2
theorem Zxd(hlib:QR C)(hih:Js C ih)(hrest:Zb4 C ih rest dk os){f:FuncId}{g:Option (Nat×Bool)}{fl:List Nat}{fx:Opd}(h:(goD C f rest dst g fl (.call fx xs)).run r ih dk fm ρ σ nx=sO o)(hg:Zl ρd g=sO true)(hF:FmR C η fm o F)(hρ:Z8 η [] ρ ρd)(hN:Yw η nx)(hS:Sim C η σ s)(hR:Wj η r ρd L B):DOA F nO dk ((⟨dst,g,.call fx xs⟩,fl)::os) ρd L s B:=by
 simp[goD]at h
 split at h<;>(try(grind;done))
 rename_i fv u
 split at h<;>(try(grind;done))
 rename_i vs ab
 split at h<;>(try(grind;done))
 rename_i σ0 l j
 split at h<;>(try(grind;done))
 rename_i pan v σ' y i
 split at h<;>(try(grind;done))
 rename_i σ2 c
 obtain⟨ks,o1,o2⟩:=ZtD j
 obtain⟨t,z,hL⟩:=hS.lend o1
 obtain⟨p,fd,a1,a2,a3⟩:=KA hρ u
 obtain⟨q,ds,b1,b2,b3⟩:=ZaD hρ ab
 have hV:WZ C.P fd ds s (ZfE ⟨C.toCx,t⟩ η ⟨pan,v,σ',y⟩):=Zlh (C:=⟨C.toCx,t⟩) hlib hih i a3 b3 hN z
 refine Zfa hg rfl a1 b1 (ZaJ ds) b2 a2 hV (fun d S1 hp=>?_) (fun d S1 hp=>?_)
 ·obtain⟨η1,d1,k1,k2,k3,k4,k5⟩:=hp
  cases pan with
  |true=>grind
  |false =>
   cases k5
   obtain⟨hd,hh⟩:=Zx h
   obtain⟨u1,u2⟩:=hS.unlend o1 hL k1 k3 c
   refine⟨Zfl (fun n b hf hb=>?_) (fun _ _ _ _=>rfl),hrest _ _ _ _ _ _ hh F η1 _ L S1 _ (hF.mono k1) (JJ (hρ.mono k1) (WR.val k4) dst) k2 u1 (((hR.put hd _).next fl).mono k1)⟩
   obtain⟨kn,n1,n2⟩:=hR.bn n b hb
   exact u2 kn b (o2 n kn hf n1) n2
 obtain⟨η1,d1,k1,k2,k3,k4,k5⟩:=hp
 cases pan with
 |false=>grind
 |true =>
  cases k5
  exact Zgv hih h (hF.mono k1) Z8.nil k2 (hS.unlend o1 hL k1 k3 c).1 k4
end
section
variable {C:Px} {ih:Ih} {dk:List Zi} {os:List (DOp × List Nat)} {rest:Bx RgD}
variable {r:Rl} {fm:Fm} {ρ:T W} {σ:S} {nx:Nat} {o:Out} {F:Fr C.P} {η:Nm} {ρd:Env} {L:Loc} {s:St} {B:List (Nat × Rd)}
theorem ZiI{g:Option (Nat×Bool)}(hg:Zl ρd g=sO true){es:List E}{p:Prop}(ha:Yd ρd true xs=sO (p,es))(hp:p){q:Q}{e:E}(hq:qv L s q es=sO (side,e))(hs:side):
  ∃side' e',side'∧ZB ⟨dst,g,.q q xs⟩ ρd L s=.ok side' (Zt ρd dst e') L s∧(e'=e∨e'=.when true e):=by
 cases g with
 |none=>exact⟨p∧side,e,ZER hp hs,by unfold ZB;simp[hg,ha,hq],.inl rfl⟩
 |some x=>exact⟨true=true→p∧side,.when true e,fun _=>ZER hp hs,by unfold ZB;simp[hg,ha,hq],.inr rfl⟩
theorem ZlX(hrest:Zb4 C ih rest dk os){g:Option (Nat×Bool)}{fl:List Nat}{l off:Nat}(h:(adD rest dst l off).run r ih dk fm ρ σ nx=sO o){q:Q}(hrd:YY (.q q xs)=false){e':E}(hside:side)(hst:ZB ⟨dst,g,.q q xs⟩ ρd L s=.ok side (Zt ρd dst e') L s)(he:e'=.loc l off∨e'=.when true (.loc l off))(hF:FmR C η fm o F)(hρ:Z8 η [] ρ ρd)(hN:Yw η nx)(hS:Sim C η σ s)(hR:Wj η r ρd L B):DOA F nO dk ((⟨dst,g,.q q xs⟩,fl)::os) ρd L s B:=by
 unfold adD at h
 split at h<;>(try(grind;done))
 rename_i u
 obtain⟨hn,hh⟩:=Zx h
 refine Jq hst hside ?_
 have c:Kj ⟨sO u,g,.q q xs⟩ ρd=[]:=by simp[Kj,Y7,hrd]
 simp[c]
 exact hrest _ _ _ _ _ _ hh F η _ L s _ hF (hρ.off u e') hN hS (hR.addr hn he)
theorem ZwD{g:Option (Nat×Bool)}{q:Q}{es:List E}{p:Prop}{l off:Nat}(hrd:YY (.q q xs)=true)(hg:Zl ρd g=sO true)(ha:Yd ρd true xs=sO (p,.loc l off::es)):Kj ⟨dst,g,.q q xs⟩ ρd=[(dst.getD 0,.loc l)]:=by
 simp[Kj,Y7,hrd,hg,ha,KT,ZbM]
theorem Zza(hrest:Zb4 C ih rest dk os){g:Option (Nat×Bool)}{fl:List Nat}{q:Q}{x:Opd}{ys:List Opd}{l off:Nat}(hx:Zqx x r=sO (l,off))(h:(ZxK rest dst q ys).run l off r ih dk fm ρ σ nx=sO o)(hg:Zl ρd g=sO true)(hF:FmR C η fm o F)(hρ:Z8 η [] ρ ρd)(hN:Yw η nx)(hS:Sim C η σ s)(hR:Wj η r ρd L B):DOA F nO dk ((⟨dst,g,.q q (x::ys)⟩,fl)::os) ρd L s B:=by
 obtain⟨p,a1,a2⟩:=ZnF hR hx
 have j:Yd ρd true [x]=sO (p∧True,[.loc l off]):=by simp[Yd,a1]
 have ld:∀{q:Q} {v:V} {d:D} {side:Prop},YY (.q q [x])=true→VR η v d→side→qv L s q [.loc l off]=sO (side,.d d)→noV (Zd3 dst r) (rest.run ⟨r.cs,r.ad,r.bn,(dst.getD 0,l)::r.bl⟩ ih dk fm ((Zcn dst).run ρ (.v v)) σ nx)=sO o→DOA F nO dk ((⟨dst,g,.q q [x]⟩,fl)::os) ρd L s B:=by
  intro q v d side ac hv hs hq h
  obtain⟨hd,hh⟩:=Zx h
  obtain⟨c,e',h1,h2,h3⟩:=ZiI (dst:=dst) hg j ⟨a2,trivial⟩ hq hs
  refine Jq h2 h1 ?_
  simp only[Y5,ZwD (dst:=dst) ac hg j]
  refine hrest _ _ _ _ _ _ hh F η _ L s _ hF (JJ hρ (show WR η [] (.v v) e' from⟨d,hv,h3⟩) dst) hN hS ((hR.put hd e').reads (fun _ h=>h) (fun _ hm=>List.mem_cons_of_mem _ hm) (fun n b hb=>by grind) (fun n l' hl=>?_))
  simp at hl
  rw[hl.1,hl.2];simp
 unfold ZxK at h
 split at h
 ·split at h<;>(try(grind;done))
  obtain⟨c,e',h1,h2,h3⟩:=ZiI (L:=L) (s:=s) (dst:=dst) hg j ⟨a2,trivial⟩ (q:=.mv) rfl trivial
  exact ZlX hrest h rfl h1 h2 h3 hF hρ hN hS hR
 ·split at h<;>(try(grind;done))
  obtain⟨c,e',h1,h2,h3⟩:=ZiI (L:=L) (s:=s) (dst:=dst) hg j ⟨a2,trivial⟩ (q:=.nilck) rfl trivial
  exact ZlX hrest h rfl h1 h2 h3 hF hρ hN hS hR
 ·rename_i o1
  split at h<;>(try(grind;done))
  obtain⟨c,e',h1,h2,h3⟩:=ZiI (L:=L) (s:=s) (dst:=dst) hg j ⟨a2,trivial⟩ (q:=.faddr o1) rfl trivial
  exact ZlX hrest h rfl h1 h2 h3 hF hρ hN hS hR
 ·rename_i m z
  split at h<;>(try(grind;done))
  rename_i y
  simp only at h
  split at h<;>(try(grind;done))
  rename_i kk i hy
  obtain⟨hb,hh⟩:=Zx h
  simp[JF,←Bool.not_eq_true]at hb
  obtain⟨p2,d,b1,b2,b3⟩:=KA hρ hy
  cases b3
  have ab:Yd ρd true [x,y]=sO (p∧p2∧True,[.loc l off,.d (.int kk i)]):=by simp[Yd,a1,b1]
  obtain⟨c,e',h1,h2,h3⟩:=ZiI (L:=L) (s:=s) (dst:=dst) hg ab ⟨a2,b2,trivial⟩ (q:=.iaddrA m z) rfl ⟨hb.1,by omega⟩
  exact ZlX hrest hh rfl h1 h2 h3 hF hρ hN hS hR
 ·split at h<;>(try(grind;done))
  simp only at h
  split at h<;>(try(grind;done))
  rename_i cs t
  split at h<;>(try(grind;done))
  rename_i v hv
  obtain⟨ds,c1,c2⟩:=hR.cs l cs t
  rw[ZjU]at hv
  obtain⟨d,d1,d2⟩:=c2.get hv
  exact ld rfl d2 trivial (by simp[qv,Wr,c1,d1]) h
 ·rename_i n
  split at h<;>(try(grind;done))
  simp only at h
  split at h<;>(try(grind;done))
  rename_i cs t
  split at h<;>(try(grind;done))
  rename_i v hv
  obtain⟨ds,c1,c2⟩:=hR.cs l cs t
  unfold Zjr at hv
  split at hv<;>simp at hv
  rename_i rr u
  subst hv
  obtain⟨d1,d2⟩:=c2.partv u
  exact ld rfl (.agg _ _ d2) d1 (by simp[qv,Ki,c1]) h
 grind
theorem Wj.cell(hR:Wj η r ρd L B){l:Nat}{vs0 vs:List V}(hl:Kv l r.cs=sO vs0)(hv:VRs η vs ds):Wj η ⟨Zjb l vs r.cs,r.ad,r.bn,r.bl⟩ ρd ((l,ds)::L) B :=
 { hR with
  cs:=fun l' c h'=>by
   rw[Zlr]at h'
   by_cases he:l'=l
   ·subst he
    simp[hl]at h'
    subst h'
    exact⟨ds,by simp[Zg],hv⟩
   rw[if_neg he]at h'
   obtain⟨d,d1,d2⟩:=hR.cs l' c h'
   exact⟨d,by simp[Zg];rw[if_neg (Ne.symm he)];exact d1,d2⟩
  no:=fun l' h'=>by
   rw[Zlr]at h'
   by_cases he:l'=l
   ·subst he;simp[hl]at h'
   rw[if_neg he]at h'
   simp[Zg]
   rw[if_neg (Ne.symm he)]
   exact hR.no l' h'
  nd:=by rw[Zpr];exact hR.nd }
theorem ZtP(hrest:Zb4 C ih rest dk os){fl:List Nat}{l off n:Nat}{xs:List V}{k:K}(h:Zsk rest fl l off n xs r ih dk fm ρ σ nx=sO o)(hpk:Y5 k=false)(hrk:Kj ⟨nO,nO,k⟩ ρd=[]){ys:List D}(hx:VRs η xs ys){p q ok:Prop}(hp:p)(hq:q)(hok:ok)(hst:ZB ⟨nO,nO,k⟩ ρd L s=KZ ρd L s p q ok (.loc l off) n ys)(hF:FmR C η fm o F)(hρ:Z8 η [] ρ ρd)(hN:Yw η nx)(hS:Sim C η σ s)(hR:Wj η r ρd L B):DOA F nO dk ((⟨nO,nO,k⟩,fl)::os) ρd L s B:=by
 unfold Zsk at h
 split at h<;>(try(grind;done))
 rename_i cs j
 split at h<;>(try(grind;done))
 rename_i cs' c
 obtain⟨hb,hh⟩:=Zx h
 obtain⟨ds,c1,c2⟩:=hR.cs l cs j
 obtain⟨f0,f1,f2⟩:=c2.over hx c
 have i:ZB ⟨nO,nO,k⟩ ρd L s=.ok (p∧q∧off+n≤ds.length∧ok) ρd ((l,ZE ds off ys)::L) s:=by rw[hst];simp[KZ,c1]
 refine Jq i ⟨hp,hq,f1,hok⟩ ?_
 simp[hpk,hrk]
 refine⟨Zfl (fun _ _ _ _=>rfl) (fun n l' hf t=>?_),hrest _ _ _ _ _ _ hh F η ρd _ s _ hF hρ hN hS ((hR.cell j f2).next fl)⟩
 have hm:=hR.bl n l' t
 have:¬l=l':=fun e=>by
  subst e
  rw[ZcP.2 (ZeT hf hm)]at hb
  grind
 simp[Zg,this]
theorem Wj.more(hR:Wj η r ρd L B){t:Nat}(ht:ZuO t r=true)(hv:VRs η vs ds):Zg L t=nO∧Wj η ⟨(t,vs)::r.cs,(t,t,0)::r.ad,r.bn,r.bl⟩ ((t,.loc t 0)::ρd) ((t,ds)::L) B:=by
 unfold ZuO at ht
 simp at ht
 obtain⟨h1,h2⟩:=ht
 split at h1<;>(try(grind;done))
 rename_i hc
 have hA:=hR.addr (e:=.loc t 0) h2 (.inl rfl)
 refine⟨hR.no t hc,{ hA with
  cs:=fun l c h'=>?_
  no:=fun l h'=>?_
  nd:=?_ }⟩
 ·simp only[Kv]at h'
  by_cases he:t=l
  ·subst he
   simp at h'
   subst h'
   exact⟨ds,by simp[Zg],hv⟩
  rw[if_neg (fun h=>he (Z6.1 h))]at h'
  obtain⟨d,d1,d2⟩:=hR.cs l c h'
  exact⟨d,by simp[Zg];rw[if_neg he];exact d1,d2⟩
 ·simp only[Kv]at h'
  by_cases he:t=l
  ·subst he;rw[if_pos (Z6.2 rfl)]at h';simp at h'
  rw[if_neg (fun h=>he (Z6.1 h))]at h'
  simp[Zg]
  simp_all
  exact hR.no l h'
 simp only[ZE7,List.nodup_cons]
 exact⟨Zo3 hc,hR.nd⟩
theorem ZvA(hrest:Zb4 C ih rest dk os){f:FuncId}{g:Option (Nat×Bool)}{fl:List Nat}{z:List D}(h:(goD C f rest dst g fl (.alloc z)).run r ih dk fm ρ σ nx=sO o)(hF:FmR C η fm o F)(hρ:Z8 η [] ρ ρd)(hN:Yw η nx)(hS:Sim C η σ s)(hR:Wj η r ρd L B):DOA F nO dk ((⟨dst,g,.alloc z⟩,fl)::os) ρd L s B:=by
 simp[goD]at h
 split at h<;>(try(grind;done))
 rename_i t zv hz
 obtain⟨hn,hh⟩:=Zx h
 obtain⟨hl,c⟩:=hR.more hn (ofDs_ok hz)
 refine Jq (side:=Zak L t=false) (ρ1:=(t,.loc t 0)::ρd) (L1:=(t,z)::L) (s1:=s) (by unfold ZB;simp[Zl]) (by simp[Zak,hl]) ?_
 exact hrest _ _ _ _ _ _ hh F η _ _ s _ hF (hρ.off t (.loc t 0)) hN hS c
theorem ZyJ(hrest:Zb4 C ih rest dk os){f:FuncId}{g:Option (Nat×Bool)}{fl:List Nat}{x:Opd}(h:(goD C f rest dst g fl (.box x)).run r ih dk fm ρ σ nx=sO o)(hF:FmR C η fm o F)(hρ:Z8 η [] ρ ρd)(hN:Yw η nx)(hS:Sim C η σ s)(hR:Wj η r ρd L B):DOA F nO dk ((⟨dst,g,.box x⟩,fl)::os) ρd L s B:=by
 simp[goD]at h
 split at h<;>(try(grind;done))
 rename_i t
 simp only at h
 split at h<;>(try(grind;done))
 rename_i v hv
 obtain⟨hb,hh⟩:=Zx h
 simp at hb
 obtain⟨⟨hp,hn⟩,hm⟩:=hb
 obtain⟨p,d,a1,a2,a3⟩:=KA hρ hv
 obtain⟨hl,i⟩:=hR.more hn (Zju a3)
 refine Jq (side:=p∧Zak L t=false∧W4 d=true) (ρ1:=(t,.loc t 0)::ρd) (L1:=(t,cellsOf d)::L) (s1:=s) (by unfold ZB;simp[Zl,a1]) ⟨a2,by simp[Zak,hl],ZlL a3 hp⟩ ?_
 refine⟨Zfl (fun _ _ _ _=>rfl) (fun n l' hf c=>?_),hrest _ _ _ _ _ _ hh F η _ _ s _ hF (hρ.off t (.loc t 0)) hN hS (i.next fl)⟩
 have:¬t=l':=fun e=>by
  subst e
  rw[ZcP.2 (ZeT hf (hR.bl _ _ c))]at hm
  grind
 simp[Zg,this]
theorem ZvZ(hlib:QR C)(hih:Js C ih)(hrest:Zb4 C ih rest dk os){f:FuncId}{g:Option (Nat×Bool)}{fl:List Nat}{k:K}(h:(goD C f rest dst g fl k).run r ih dk fm ρ σ nx=sO o)(hg:Zl ρd g=sO true)(hF:FmR C η fm o F)(hρ:Z8 η [] ρ ρd)(hN:Yw η nx)(hS:Sim C η σ s)(hR:Wj η r ρd L B):DOA F nO dk ((⟨dst,g,k⟩,fl)::os) ρd L s B:=by
 cases k
 case call fx xs=>exact Zxd hlib hih hrest h hg hF hρ hN hS hR
 case alloc z=>exact ZvA hrest h hF hρ hN hS hR
 case box x=>exact ZyJ hrest h hF hρ hN hS hR
 case panic x =>
  simp[goD]at h
  split at h<;>(try(grind;done))
  rename_i t v hv
  obtain⟨p,d,a1,a2,a3⟩:=KA hρ hv
  cases a3 with
  |iface _ _ d hd=>exact ZoF hg rfl a1 a2 (Zgv hih h hF Z8.nil hN hS (.iface _ _ _ hd))
 case defer fx xs=>cases h
 case recover=>cases h
 case fork k=>cases h
 case store1 a v =>
  simp[goD]at h
  split at h<;>(try(grind;done))
  simp only at h
  split at h
  ·rename_i l off ha
   split at h<;>(try(grind;done))
   rename_i x hx
   obtain⟨hc,hh⟩:=Zx h
   obtain⟨p,a1,a2⟩:=ZnF hR ha
   obtain⟨q,d,b1,b2,b3⟩:=KA hρ hx
   exact ZtP hrest hh rfl rfl (.one b3) a2 b2 (Zso b3 hc) (by unfold ZB;simp[Zl,a1,b1]) hF hρ hN hS hR
  exact ZnS hrest rfl rfl rfl h hg hF hρ hN hS hR
 case storeN n a v =>
  simp[goD]at h
  split at h<;>(try(grind;done))
  simp only at h
  split at h
  ·rename_i l off ha
   split at h<;>(try(grind;done))
   rename_i xs hx
   obtain⟨p,a1,a2⟩:=ZnF hR ha
   obtain⟨q,d,b1,b2,b3⟩:=KA hρ hx
   cases b3 with
   |agg _ ys hxs =>
   have c:ys.length=n:=by
    unfold Zsk at h
    split at h<;>(try(grind;done))
    split at h<;>(try(grind;done))
    rename_i i
    rw[←hxs.len];exact(Zoj i).1
   exact ZtP hrest h rfl rfl hxs a2 b2 c (by unfold ZB;simp[Zl,a1,b1]) hF hρ hN hS hR
  exact ZnS hrest rfl rfl rfl h hg hF hρ hN hS hR
 case q q xs =>
  simp[goD]at h
  split at h
  ·rename_i x ys
   simp only at h
   split at h
   ·rename_i l off hx
    exact Zza hrest hx h hg hF hρ hN hS hR
   exact ZiK hrest rfl h hg hF hρ hN hS hR
  exact ZiK hrest rfl h hg hF hρ hN hS hR
 all_goals
  simp[goD]at h
  first
   |exact ZiK hrest rfl h hg hF hρ hN hS hR
   |exact ZnS hrest rfl rfl rfl h hg hF hρ hN hS hR
end
theorem Zls:∀{ρ:Env} {t:Nat} {e:E},ZL ρ t=sO e→(t,e)∈ρ
 | [],t,e,h=>by cases h
 | (k,x)::r,t,e,h=>by
  simp[ZL]at h
  split at h
  ·rename_i hk
   cases h;subst hk;simp
  exact List.mem_cons_of_mem _ (Zls h)
theorem Zxw:∀{L:Loc},(∀l,Zg L l=nO)→L=[]
 | [],_=>rfl
 | (k,c)::r,h=>by have:=h k;simp[Zg]at this
theorem ZiG{t nx:Nat}:∀{ad:List (Nat×Nat×Nat)} {ρ:T W} {u:Nat} {w:W},(ZmS ad t nx ρ).get u=sO w→(∃o,(u,t,o)∈ad∧w=.v (.ptr nx o))∨ρ.get u=sO w
 | [],ρ,u,w,h=>.inr h
 | (u',l,o)::r,ρ,u,w,h=>by
  simp only[ZmS]at h
  split at h
  ·rename_i hl
   rw[Z6]at hl
   subst hl
   rcases T.get_set h with ⟨rfl,h3⟩|⟨_,h3⟩
   ·simp at h3
    exact .inl ⟨o,by simp,h3.symm⟩
   rcases ZiG h3 with ⟨o',h1,h2⟩|h3
   ·exact .inl ⟨o',by simp[h1],h2⟩
   exact .inr h3
  rcases ZiG h with ⟨o',h1,h2⟩|h
  ·exact .inl ⟨o',by simp[h1],h2⟩
  exact .inr h
section
variable {C:Px} {ih:Ih} {dk:List Zi}
theorem Ztr(hih:Js C ih):∀{cs:List (Nat×List V)} {ad:List (Nat×Nat×Nat)} {fm:Fm} {ρ:T W} {σ:S} {nx:Nat} {o:Out},Zrf cs ad ih dk fm ρ σ nx=sO o →
  ∀{F:Fr C.P} {η:Nm} {ρd:Env} {L:Loc} {s:St},FmR C η fm o F→Z8 η [] ρ ρd→Yw η nx→Sim C η σ s→(∀l vs,Kv l cs=sO vs→(∃u o,(u,l,o)∈ad)→∃ds,Zg L l=sO ds∧VRs η vs ds) →
   (∀l,Kv l cs=nO→Zg L l=nO)→(cs.map (·.1)).Nodup→(∀u l o,(u,l,o)∈ad→(Kv l cs).isSome=true→ZdQ ρd u l o)→Zu F dk ρd L s
 | [],ad,fm,ρ,σ,nx,o,h,F,η,ρd,L,s,hF,hρ,hN,hS,hc,hn,hd,ha=>by
  obtain rfl:=Zxw fun l=>hn l rfl
  exact hih.at _ _ _ _ _ _ h F η ρd s hF hρ hN hS
 | (t,vs)::cs,ad,fm,ρ,σ,nx,o,h,F,η,ρd,L,s,hF,hρ,hN,hS,hc,hn,hd,ha=>by
  simp[Zrf]at h
  split at h<;>(try(grind;done))
  rename_i l' o' y
  obtain⟨hl,hh⟩:=Zx h
  rw[Z6]at hl
  subst hl
  have j:Kv l' ((l',vs)::cs)=sO vs:=by simp[Kv]
  obtain⟨ds,d1,d2⟩:=hc l' vs j ⟨_,_,Zlq y⟩
  simp only[ZE7,List.nodup_cons]at hd
  have i:∀{l:Nat},l≠l'→Kv l ((l',vs)::cs)=Kv l cs:=fun{l} c=>by
   simp only[Kv]
   rw[if_neg (fun h=>c (Z6.1 h).symm)]
  have n:∀{l:Nat} {x:List V},Kv l cs=sO x→l≠l':=fun{l x} hx e=>by
   subst e
   have:∀{r:List (Nat×List V)} {x:List V},Kv l r=sO x→l∈r.map (·.1):=fun{r}=>by
    induction r with
    |nil=>intro x h;cases h
    |cons a r ih =>
     intro x h
     simp only[Kv]at h
     split at h
     ·rename_i ht;rw[Z6]at ht;simp[ht]
     simp only[ZE7,ZFv];exact .inr (ih h)
   exact hd.1 (this hx)
  refine Zc0 l' d1 fun b hb=>?_
  have f0:=hN.free nx (ZE6 _)
  have n1:η.Sub (η.put nx (.tip b)):=Nm.put_sub f0 _
  refine Ztr hih hh (η:=η.put nx (.tip b)) (hF.mono n1) ?_ (hN.put _) (hS.new f0 hb (OR.cells0 (d2.mono n1))) ?_ ?_ hd.2 ?_
  ·intro u w hw z
   rw[Zc6]
   rcases ZiG hw with ⟨o2,h1,rfl⟩|h1
   ·rcases ha u l' o2 h1 (by rw[j];rfl) with h2|h2
    ·exact⟨.d (.ptr b o2),by rw[h2];simp[Q5],.ptr b o2,.ptr _ _ _ (Nm.put_same _ _ _),.inl rfl⟩
    exact⟨.when true (.d (.ptr b o2)),by rw[h2];simp[Q5],.ptr b o2,.ptr _ _ _ (Nm.put_same _ _ _),.inr rfl⟩
   obtain⟨e,h2,h3⟩:=hρ u w h1 z
   cases w with
   |v x =>
    obtain⟨d,h4,rfl|rfl⟩:=h3
    ·exact⟨_,by rw[h2];rfl,d,h4.mono n1,.inl rfl⟩
    exact⟨_,by rw[h2];rfl,d,h4.mono n1,.inr rfl⟩
   |loc l o=>cases z
   |skip =>
    have ab:e=.when false (.d (.bool false)):=h3
    subst ab
    exact⟨_,by rw[h2];rfl,rfl⟩
  ·intro l ac hl hx
   have c:=n hl
   obtain⟨ae,g1,g2⟩:=hc l ac (by rw[i c];exact hl) hx
   exact⟨ae,by rw[ZcL,if_neg c];exact g1,g2.mono n1⟩
  ·intro l hl
   rw[ZcL]
   by_cases c:l=l'
   ·simp_all
   rw[if_neg c]
   exact hn l (by rw[i c];exact hl)
  intro u l o2 hm hs
  obtain⟨x,hx⟩:=Option.isSome_iff_exists.1 hs
  have c:=n hx
  unfold ZdQ
  rw[Zc6]
  rcases ha u l o2 hm (by rw[i c];exact hs) with h2|h2
  ·exact .inl (by rw[h2];simp[Q5,c])
  exact .inr (by rw[h2];simp[Q5,c])
theorem Zy1(hih:Js C ih):Zb4 C ih ⟨fun r ih dk fm ρ σ nx=>Zrf r.cs r.ad ih dk fm ρ σ nx⟩ dk []:=by
 intro r fm ρ σ nx o h F η ρd L s B hF hρ hN hS hR
 refine ZnC (Ztr hih h hF hρ.keep hN hS (fun l vs hl hx=>?_) (fun l hl=>?_) hR.nd (fun u l o hm _=>?_))
 ·obtain⟨u,o',hm⟩:=hx
  obtain⟨ds,d1,d2⟩:=hR.cs l vs hl
  refine⟨ds,?_,d2⟩
  have c:ZdQ (Yp ρd ZnI) u l o':=(hR.ad u l o' hm).imp (fun h=>Jv h (List.mem_range.2 (hR.lt u l o' hm))) (fun h=>Jv h (List.mem_range.2 (hR.lt u l o' hm)))
  refine Zfz L _ l ds ?_ d1
  rw[List.mem_flatMap]
  rcases c with h|h
  ·exact⟨_,Zls h,by simp[Ko]⟩
  exact⟨_,Zls h,by simp[Ko]⟩
 ·cases hg:Zg (ZaY (Yp ρd ZnI) L) l with
  |none=>rfl
  |some cs =>
   have:=JO L _ l cs hg
   rw[hR.no l hl]at this;grind
 exact(hR.ad u l o hm).imp (fun h=>Jv h (List.mem_range.2 (hR.lt u l o hm))) (fun h=>Jv h (List.mem_range.2 (hR.lt u l o hm)))
end
section
variable {C:Px} {ih:Ih} {dk:List Zi} {os:List (DOp × List Nat)} {rest:Bx RgD}
variable {r:Rl} {fm:Fm} {ρ:T W} {σ:S} {nx:Nat} {o:Out} {F:Fr C.P} {η:Nm} {ρd:Env} {L:Loc} {s:St} {B:List (Nat × Rd)}
end
section
variable {C:Px} {ih:Ih} {dk:List Zi} {os:List (DOp × List Nat)} {rest:Bx RgD}
variable {r:Rl} {fm:Fm} {ρ:T W} {σ:S} {nx:Nat} {o:Out} {F:Fr C.P} {η:Nm} {ρd:Env} {L:Loc} {s:St} {B:List (Nat × Rd)}
theorem Zsa(hlib:QR C)(hih:Js C ih){f:FuncId}:∀{os:List (DOp×List Nat)},Zb4 C ih (Zj2 C f os) dk os
 | []=>Zy1 hih
 | (⟨dst,g,k⟩,fl)::os=>fun r fm ρ σ nx o h F η ρd L s B hF hρ hN hS hR=>by
  unfold Zj2 at h
  split at h
  ·grind
  rename_i c
  have IH:=Zsa hlib hih (f:=f) (os:=os)
  split at h
  ·exact ZvZ hlib hih IH h rfl hF hρ hN hS hR
  rename_i g0
  simp only at h
  split at h<;>(try(grind;done))
  rename_i b hb
  have hg:=Zo5 hρ hb
  split at h
  ·exact ZvZ hlib hih IH h hg hF hρ hN hS hR
  split at h<;>(try(grind;done))
  rename_i i
  obtain⟨hd,hh⟩:=Zx h
  cases hq:YH k with
  |true =>
   rw[hq,if_pos rfl]at hh
   exact Zvs hg hq (.d (.bool false)) (IH _ _ _ _ _ _ hh F η _ L s _ hF (JJ hρ WR.skp dst) hN hS (hR.put hd _))
  |false =>
   rw[hq]at hh
   have hp:Y5 k=false:=by
    cases k<;>simp[YH]at hq<;>first|rfl|exact absurd rfl (i _)|exact absurd rfl (c _)
   exact Zeh (e:=.d (.bool false)) hg hp (IH _ _ _ _ _ _ hh F η _ L s _ hF (JJ hρ WR.skp dst) hN hS ((hR.put hd _).next fl))
theorem ZtJ(hlib:QR C)(hih:Js C ih):ZlU C ih:=by
 intro f order c kp fm k ρ σ nx o h hf F η ρd s hF hρ hN hS
 exact ZhV (show DOA F nO k c ρd [] s [] from Zsa hlib hih _ _ _ _ _ _ h F η ρd [] s [] hF hρ hN hS Wj.nil)
end
section
variable {P:Program}
theorem Zf.subM{f:FuncId}{args:List D}{Φ Φ':Res→St→Prop}(h:Zf P f args s Φ)(hp:∀r s',Φ r s'→∃s2,St.sub s2 s'∧Φ' r s2):Zf P f args s Φ' :=
 ⟨h.1,fun g w vs hs ha=>(h.2 g w vs hs ha).mono fun _ _ ⟨g',s',r,a,b,c,d⟩=>let ⟨s2,e1,e2⟩:=hp r s' d;⟨g',s2,r,a,b.sub e1,c,e2⟩⟩
def St.emp:St:=fun _=>nO
theorem ZvT(s:St):St.emp.or s=s:=by funext b;simp[St.or,St.emp]
theorem ZlT{f:FuncId}{args:List D}{d:D}(h:Zf P f args St.emp fun r _=>r=.ret d):Zc P f args d:=fun s=>by
 have h1:Zf P f args St.emp fun r s'=>r=.ret d∧s'=St.emp:=h.subM fun r s' hr=>⟨St.emp,fun b o hb=>by simp[St.emp]at hb,hr,rfl⟩
 have c:Yb St.emp s:=fun b o _=>rfl
 have h2:=h1.frame c
 rw[ZvT]at h2
 refine h2.mono fun r S ⟨s',⟨e1,e2⟩,_,e3⟩=>⟨e1,?_⟩
 rw[e3,e2,ZvT]
end
def nm0:Nm:=fun k=>if k=0 then sO .none else if k=1 then sO .full else nO
theorem Zwm:Yw nm0 2:={
 z:=rfl
 o:=rfl
 two:=ZE6 _
 free k hk:=by simp only[nm0];rw[if_neg (by omega),if_neg (by omega)] }
theorem Zyg(C:Cx)(η:Nm)(s:St):Sim ⟨C,St.emp⟩ η T.nil s:={
 obj k o h:=by simp[T.get_nil]at h
 inj k k' o o' b h:=by simp[T.get_nil]at h
 kp b d h:=by simp[St.emp]at h
 ro k o b h:=by simp[T.get_nil]at h }
section
variable {P:Program}
theorem Zvv{F:Fr P}{dk:List Zi}{o:DOp}(hg:Zl ρ o.guard=sO true){n:FuncId}(hk:o.k=.call (.cst (.fn (.func n) [] [])) xs){p:Prop}{es:List E}(ha:Yd ρ true xs=sO (p,es))(hds:W2 es=sO ds)(hp:p){fn:Func}(h0:P.funcs[n]?=sO fn)(h1:fn.body=nO)(h2:(fn.name == "runtime.NumGoroutine")=false)(h3:Extern.findNext fn=nO){e:Array Value→Sem Value}(h4:Extern.find fn=sO e){d:D}(he:∀g w vs,ZH (Rep g w) vs ds→∃v,(e vs.toArray).run P w=.ok v w∧Rep g w v d)(h:DO F kp dk os (Zt ρ o.dst (.d d)) L s):DO F kp dk (o::os) ρ L s:=by
 refine Wn fun oo g ν w tmps aj i r k ai u ap y hd hN m hr ah=>?_
 have hw:=Yf m ap hg
 have ak:=Yi u (by rw[hk];rfl)
 rw[hk]at u
 obtain⟨f',c,ats,ae,ao,ag⟩:=Ztk u
 have z:Rep g w _ _:=Yc (ρ:=ρ) m ao rfl rfl trivial F.ds
 have j:=KW (ZbV m rfl F.ds ag ha hp) hds
 obtain⟨v,al,am⟩:=he g w _ j
 generalize ad:(Act.mk tmps F.ds).eval f'=fv at z
 have ab:fv=.func (.func n) #[] #[]:=by
  cases z with
  |fn _ fs cs _ _ e1 e2 _ _ =>
   obtain rfl:fs=[]:=by simpa using e1
   obtain rfl:cs=[]:=by simpa using e2
   rfl
 subst ab
 have ac:(Array.map (Act.mk tmps F.ds).eval c)=(c.toList.map (Act.mk tmps F.ds).eval).toArray:=by apply Array.ext';simp
 refine Zmv (e:=.d d) hN m ai y hd hw ak ⟨v,?_,am⟩ (h aj r k hr ah)
 have t:(callFunc n ((c.toList.map (Act.mk tmps F.ds).eval).toArray++#[])).run P w=.ok (.value v) w:=by
  have af:¬fn.name = "runtime.NumGoroutine":=by simpa using h2
  simp[callFunc,h0,af,h1,h3,h4,al]
 simp[execOp,ae,resolve,ad,ac,Deferred.ofValue,invoke]
 simpa using t
def Zrq(c:Nat):List Nat→Int
 | []=>-1
 |b::l=>if Nat.beq (b % 256) (c % 256) then 0 else match Zrq c l with
  |.ofNat n=>.ofNat (n+1)
  |.negSucc _=>-1
theorem Ztw(c:Nat):∀(l:List Nat),Zrq c l=Lib.indexByte (l.map UInt8.ofNat) (UInt8.ofNat c)
 | []=>rfl
 |b::l=>by
  have ih:=Ztw c l
  simp only[Zrq,ZE7,Lib.indexByte]
  have j:Nat.beq (b % 256) (c % 256)=(UInt8.ofNat b==UInt8.ofNat c):=by
   rw[Bool.eq_iff_iff,Nat.beq_eq,beq_iff_eq]
   constructor
   ·intro h
    apply UInt8.toNat_inj.1
    simpa using h
   intro h
   have:=congrArg UInt8.toNat h
   simpa using this
  rw[j]
  split
  ·rfl
  have i:=Lib.indexByte_ge (l.map UInt8.ofNat) (UInt8.ofNat c)
  rw[←ih]at i⊢
  cases hx:Zrq c l with
  |ofNat n =>
   have:(Int.ofNat n==-1)=false:=by rw[beq_eq_false_iff_ne];simp only[Int.ofNat_eq_natCast,ne_eq];omega
   rw[this];rfl
  |negSucc n =>
   rw[hx]at i
   have:n=0:=by have e:=Int.negSucc_eq n;omega
   subst this;rfl
theorem Zio:∀(l:List UInt8) (c:UInt8),Lib.indexByte l c<l.length∨Lib.indexByte l c=-1
 | [],c=>.inr rfl
 |b::l,c=>by
  simp only[Lib.indexByte]
  split
  ·left;simp
  split
  ·exact .inr rfl
  rename_i h
  rcases Zio l c with h1|h1
  ·left;simp;omega
  rw[h1]at h;simp at h
def Zz1(n:FuncId):DF:=⟨8,[.tmp 4],.seq (.reg [⟨sO 4,nO,.q .mv [.cst (.int .i64 0)]⟩] nO) (.seq (.reg [⟨sO 5,nO,.q .mv [.tmp 0]⟩,⟨sO 6,nO,.q .mv [.tmp 1]⟩,⟨sO 7,nO,.call (.cst (.fn (.func n) [] [])) [.tmp 5,.tmp 6]⟩,⟨sO 4,nO,.q .mv [.tmp 7]⟩] nO) .ret)⟩
theorem Zrs{an:Ann}{f n:FuncId}(hf:cf P an f=sO (Zz1 n)){fn:Func}(h0:P.funcs[n]?=sO fn)(h1:fn.body=nO)(h2:(fn.name == "runtime.NumGoroutine")=false)(h3:Extern.findNext fn=nO)(h4:Extern.find fn=sO Extern.BytealgIndexByte.indexByte)(l:List UInt8)(c:Int):
  Zc P f [.str l,.int .u8 c] (.int .i64 (Lib.indexByte l c.toNat.toUInt8)):=by
 refine Ze hf fun F s i=>?_
 refine Zd (ZgO (QB rfl (by repeat(first|trivial|constructor)) (Zei (Zd (ZgO (QB rfl (by repeat(first|trivial|constructor)) (QB rfl (by repeat(first|trivial|constructor)) (Zvv rfl rfl rfl rfl (by repeat(first|trivial|constructor)) h0 h1 h2 h3 h4 (d:=.int .i64 (Lib.indexByte l c.toNat.toUInt8)) (fun g w vs ha=>?_)
  (QB rfl (by repeat(first|trivial|constructor)) (Zei (i rfl (by repeat(first|trivial|constructor)) (ZEW _) (ZES _))))))))))))
 cases ha with
 |cons a1 ha =>
 cases ha with
 |cons a2 ha =>
 cases ha
 cases a1 with
 |str s _ hs hb =>
 cases a2 with
 |int _ _ hc =>
 subst hs
 refine⟨_,Lib.run_indexByteString s c w,.int _ _ ?_⟩
 have h1:=Lib.indexByte_ge s.data.toList c.toNat.toUInt8
 have h2:=Zio s.data.toList c.toNat.toUInt8
 simp only[big]at hb
 simp only[inR,IntKind.min,IntKind.max,IntKind.signed,IntKind.bits]
 generalize Lib.indexByte s.data.toList c.toNat.toUInt8=z at h1 h2⊢
 rcases h2 with h2|h2<;>simp<;>omega
end
def Zag(f:V→V→Bool):List V→List V→Bool
 | [],[]=>true
 |a::x,b::y=>if f a b then Zag f x y else false
 |_,_=>false
def ZxL(ih:V→V→Bool)(k v:V):Bool:=match k with
 |.int i a=>match v with
  |.int j b=>Zfn i j&&eqI a b
  |_=>false
 |.bool a=>match v with
  |.bool b=>a==b
  |_=>false
 |.str a=>match v with
  |.str b=>eqS a b
  |_=>false
 |.agg a=>match v with
  |.agg b=>Zag ih a b
  |_=>false
 |.nilsl=>match v with
  |.nilsl=>true
  |_=>false
 |.sl _ m s a=>match v with
  |.sl _ m' s' b=>Nat.beq m m'&&Nat.beq s s'&&Zag ih a b
  |_=>false
 |.nilptr=>match v with
  |.nilptr=>true
  |_=>false
 |.nilmap=>match v with
  |.nilmap=>true
  |_=>false
 |.niliface=>match v with
  |.niliface=>true
  |_=>false
 |_=>false
def ZeA(n:Nat):V→V→Bool:=Nat.rec (motive:=fun _=>V→V→Bool) (fun _ _=>false) (fun _ ih=>ZxL ih) n
def zV(n:Nat):V→V:=Nat.rec (motive:=fun _=>V→V) (fun k=>k) (fun _ ih k=>match k with
 |.agg a=>.agg (a.map ih)
 |.sl _ m s a=>.sl 0 m s (a.map ih)
 |k=>k) n
theorem Zwe{η η':Nm}:∀(n:Nat) {k v:V} {d:D},ZeA n k v=true→VR η v d→VR η' (zV n k) d
 |0,k,v,d,h,_=>by simp[ZeA]at h
 |n+1,k,v,d,h,hv=>by
  have ih:=fun{k v:V} {d:D}=>Zwe (η:=η) (η':=η') n (k:=k) (v:=v) (d:=d)
  have i:∀{a b:List V} {ds:List D},Zag (ZeA n) a b=true→VRs η b ds→VRs η' (a.map (zV n)) ds:=by
   intro a
   induction a with
   |nil =>
    intro b ds h hb
    cases b with
    |nil=>obtain rfl:=hb.inv0;exact .nil
    |cons _ _=>simp[Zag]at h
   |cons x a iha =>
    intro b ds h hb
    cases b with
    |nil=>simp[Zag]at h
    |cons y b =>
     simp only[Zag]at h
     split at h<;>(try(simp at h;done))
     rename_i hx
     obtain⟨d,ds',rfl,h1,h2⟩:=hb.inv
     exact .cons _ _ _ _ (ih hx h1) (iha h h2)
  have j:∀{s:Nat} {a b:List V} {row:Nat→List D},Zag (ZeA n) a b=true→VRr η s b row→VRr η' s (a.map (zV n)) row∧a.length=b.length:=by
   intro s a
   induction a with
   |nil =>
    intro b row h hb
    cases b with
    |nil=>exact⟨.nil _ _,rfl⟩
    |cons _ _=>simp[Zag]at h
   |cons x a iha =>
    intro b row h hb
    cases b with
    |nil=>simp[Zag]at h
    |cons y b =>
     simp only[Zag]at h
     split at h<;>(try(simp at h;done))
     rename_i hx
     obtain⟨cs,rfl,h1,h2,h3⟩:=hb.inv
     obtain⟨g1,g2⟩:=iha h h3
     have hz:=ih hx (.agg _ _ h1)
     obtain⟨c,t,hl⟩:∃c,zV n x=.agg c∧VRs η' c (row 0):=by
      generalize he:zV n x=z at hz
      cases hz with
      |agg c _ h=>exact⟨c,rfl,h⟩
     refine⟨?_,by simp[g2]⟩
     rw[ZE7,t]
     exact .cons _ _ _ _ hl (by rw[hl.len,←h1.len,h2]) g1
  have h':ZxL (ZeA n) k v=true:=h
  cases k<;>simp only[ZxL,ZFn]at h'<;>cases hv<;>simp only[ZFn]at h'
  case int =>
   simp only[ZEY,Q4]at h'
   obtain⟨h1,rfl⟩:=h'
   obtain rfl:=Zex h1
   exact .int _ _
  case bool=>simp only[beq_iff_eq]at h';subst h';exact .bool _
  case str a b =>
   rw[Zmf,decide_eq_true_eq]at h'
   show VR η' (.str a) _
   rw[←h']
   exact .str _
  case agg a b ds hb=>exact .agg _ _ (i h' hb)
  case nilsl=>exact .nilsl
  case sl =>
   simp only[ZEY,Z6]at h'
   obtain⟨⟨rfl,rfl⟩,h3⟩:=h'
   obtain⟨g1,g2⟩:=j h3 ‹VRr η _ _ _›
   exact .sl _ _ _ _ _ _ g1 (by rw[List.length_map,g2];assumption) (.inl rfl)
  case nilptr=>exact .nilptr
  case nilmap=>exact .nilmap
  case niliface=>exact .niliface
def ZmB:Option Out→Bool
 |some o=>match o.pan with
  |false=>match o.v with
   |.bool b=>b
   |_=>false
  |true=>false
 |none=>false
theorem Zv4{x:Option Out}(h:ZmB x=true):∃σ nx,x=sO ⟨false,.bool true,σ,nx⟩:=by
 cases x with
 |none=>simp[ZmB]at h
 |some o =>
  obtain⟨pan,v,σ,nx⟩:=o
  cases pan<;>cases v<;>simp[ZmB]at h
  subst h
  exact⟨σ,nx,rfl⟩
def ZaN(f0:FuncId)(f:FuncId):Option (S→List V→Option V):=match Nat.beq f f0 with
 |true=>sO fun _ vs=>match vs with
  | [.str s,.int k c]=>match k with
   |.u8=>sO (.int .i64 (Zrq c.toNat s))
   |_=>nO
  |_=>nO
 |false=>nO
theorem Zy8{P:Program}{mu:FuncId→Option Nat→Bool}{f0 n:FuncId}(hf:cf P [] f0=sO (Zz1 n)){fn:Func}(h0:P.funcs[n]?=sO fn)(h1:fn.body=nO)(h2:(fn.name == "runtime.NumGoroutine")=false)(h3:Extern.findNext fn=nO)(h4:Extern.find fn=sO Extern.BytealgIndexByte.indexByte)(t:St):QR ⟨⟨P,ZaN f0,mu⟩,t⟩:=by
 intro f g σ vs v i hg η ds s hv hS
 simp only[ZaN]at i
 split at i<;>simp only[ZEP,reduceCtorEq]at i
 rename_i hb
 rw[Z6]at hb
 subst hb;subst i
 simp only at hg
 split at hg<;>(try(simp at hg;done))
 split at hg<;>simp only[ZEP,reduceCtorEq]at hg
 subst hg
 obtain⟨d,d',rfl,a1,a2⟩:=hv.inv2
 cases a1
 cases a2
 refine⟨_,.int _ _,?_⟩
 rename_i l c
 rw[Ztw]
 exact Zrs hf h0 h1 h2 h3 h4 _ _ s
theorem Zzz{C:Cx}(hlib:∀t,QR ⟨C,t⟩){f:FuncId}{m:Nat}(h:ZmB ((ZgT C f).run (run C m) [] T.nil 2)=true):Zc C.P f [] (.bool true):=by
 obtain⟨σ,nx,h⟩:=Zv4 h
 refine ZlT ?_
 have c:=Zm4 hlib (fun C' ih he c=>ZtJ (by subst he;exact hlib _) c) m St.emp
 refine(Zlg (C:=⟨C,St.emp⟩) (hlib _) c h .nil Zwm (Zyg C nm0 St.emp)).mono fun r s hp=>?_
 obtain⟨η',d',k1,k2,k3,k4,k5⟩:=hp
 cases k4
 exact k5
theorem Y8.mslo{t:St}{Ln:List Nat}{b o n cap sz:Nat}(hb:b∈Ln)(ht:t b=sO (.cells ds))(hlen:n*sz≤ds.length-o)(hrow:∀i,i<n→LdC t Ln ((ds.drop (o+i*sz)).take sz) (row i)):Y8 t Ln (.msl b o n cap sz) (.sl .none n sz row):=by
 intro g w v hf hr
 obtain⟨vs,T,hh,hsz,hc,one,hp⟩:=hf b hb ds ht
 cases hr with
 |mslx a _ _ _=>exact .sl0 _ _ _ _ (by simp)
 |msl _ _ _ _ _ hcap hbig =>
 have u:∀i j,i<n→j<sz→o+i*sz+j<ds.length:=fun i j hi hj=>by
  have:(i+1)*sz≤n*sz:=ZFg _ hi
  rw[ZFk,Nat.one_mul]at this
  omega
 have c:∀i j,i<n→j<sz→vs[o+i*sz+j]?=sO (vs.getD (o+i*sz+j) undef):=fun i j hi hj=>by
  have h1:=u i j hi hj
  simp[Array.getElem?_eq_getElem (show o+i*sz+j<vs.size by omega)]
 have z:∀i j,i<n→j<sz→vs.getD (o+i*sz+j) undef∈vs:=fun i j hi hj=>by
  have h1:=u i j hi hj
  simp only[Array.getD_eq_getD_getElem?,Array.getElem?_eq_getElem (show o+i*sz+j<vs.size by omega)]
  exact Array.getElem_mem _
 have y:∀i,i<n→(row i).length=sz:=fun i hi=>by
  rw[←(hrow i hi).len,ZE9,ZFw]
  have:(i+1)*sz≤n*sz:=ZFg _ hi
  rw[ZFk,Nat.one_mul]at this
  omega
 refine .sl b o n cap sz row .none (fun i j=>vs.getD (o+i*sz+j) undef) y (fun i j hi hj=>?_) (fun i j hi hj=>?_) (fun i j d hi hd=>?_) (fun i j hi hj=>one _ (z i j hi hj)) trivial hcap hbig
 ·rw[ZaG hh];exact c i j hi hj
 ·have:=u i j hi hj;omega
 have hj:j<sz:=by rw[←y i hi];exact(List.getElem?_eq_some_iff.1 hd).1
 obtain⟨x,hx,ab⟩:=(hrow i hi).get hd
 rw[ZFu,if_pos hj,List.getElem?_drop]at hx
 exact ab g w _ hf (hc _ _ x (c i j hi hj) hx)
theorem Y8.tup{t:St}{Ln:List Nat}{l l':List D}(h:LdC t Ln l l'):Y8 t Ln (.tup l) (.tup l'):=by
 intro g w v hf hr
 cases hr with
 |tup vs _ hn hc =>
  refine .tup vs _ (hn.trans h.len) (fun i v d hv hd=>?_)
  obtain⟨x,hx,c⟩:=h.get hd
  exact c g w v hf (hc i v x hv hx)
theorem Y8.iface{t:St}{Ln:List Nat}{T:TypeId}{d d':D}(h:Y8 t Ln d d'):Y8 t Ln (.iface T d) (.iface T d'):=by
 intro g w v hf hr
 cases hr with
 |iface _ v _ hv=>exact .iface T v d' (h g w v hf hv)
theorem Y8.sl{t:St}{Ln:List Nat}{τ:Tok}{n sz:Nat}{row row':Nat→List D}(hrow:∀i,i<n→LdC t Ln (row i) (row' i)):Y8 t Ln (.sl τ n sz row) (.sl .none n sz row'):=by
 intro g w v hf hr
 cases hr with
 |sl0 a _ _ _ _=>exact .sl0 a _ _ _ (by simp)
 |sl b o _ cap _ _ _ f hl hc hp hrr one ht hcap hb =>
  refine .sl b o n cap sz row' .none f (fun i hi=>by rw[←(hrow i hi).len];exact hl i hi) hc hp (fun i j d hi hd=>?_) one trivial hcap hb
  obtain⟨x,hx,c⟩:=(hrow i hi).get hd
  exact c g w _ hf (hrr i j x hi hx)
theorem Y8.more{t:St}{Ln Ln':List Nat}{d d':D}(h:Y8 t Ln d d')(hs:∀b∈Ln,b∈Ln'):Y8 t Ln' d d':=fun g w v hf hr=>h g w v (fun b hb=>hf b (hs b hb)) hr
theorem LdC.more{t:St}{Ln Ln':List Nat}{l l':List D}(h:LdC t Ln l l')(hs:∀b∈Ln,b∈Ln'):LdC t Ln' l l':=by
 induction h with
 |nil=>exact .nil
 |cons h _ ih=>exact .cons (h.more hs) ih
theorem Ym.frz(m:Ym g s w){Ln:List Nat}(hL:∀b∈Ln,∃ds,s b=sO (.cells ds)):Ym (Zaj g s Ln) (s.delL Ln) w:=by
 have hx:=ZcK m hL
 have j:∀c,c∉Ln→(Zaj g s Ln).prot c=g.prot c:=fun c hc=>by simp[Zaj,if_neg hc]
 refine⟨fun c x i=>?_,fun c x i=>?_,fun c hc=>?_,fun n cs hc=>(m.tabs n cs hc).mono hx⟩
 ·simp[St.delL]at i
  by_cases hc:c∈Ln
  ·simp[hc]at i
  simp[hc]at i;exact(m.obj c x i).mono hx rfl (j c hc)
 ·simp[St.delL]at i
  by_cases hc:c∈Ln
  ·simp[hc]at i
  simp[hc]at i;exact m.kept c x i
 have h1:=m.fresh c hc
 refine⟨(j c fun h=>?_).trans h1.1,h1.2⟩
 obtain⟨ds,hd⟩:=hL c h
 have:=(m.obj c _ hd).lt
 omega
theorem Zf.frz{P:Program}{f:FuncId}{args:List D}{d0:D}(h:Zf P f args s Φ)(hp:∀r s',Φ r s'→∃d Ln,r=.ret d∧(∀b∈Ln,∃ds,s' b=sO (.cells ds))∧Y8 s' Ln d d0):Zf P f args s fun r _=>r=.ret d0:=by
 refine⟨h.1,fun g w vs hs ha=>(h.2 g w vs hs ha).mono fun e w' ⟨g',s',r,hx,c,hr,hΦ⟩=>?_⟩
 obtain⟨d,Ln,rfl,hL,i⟩:=hp r s' hΦ
 refine⟨Zaj g' s' Ln,s'.delL Ln,.ret d0,hx.trans (ZcK c hL),c.frz hL,?_,rfl⟩
 cases e with
 |returned v=>exact i _ w' v (ZnW c hL) (Rep.mono hr (ZcK c hL))
 |_=>exact hr.elim
def rdL(f:V→Option V):List V→Option (List V)
 | []=>sO []
 |v::l=>match f v with
  |some r=>JV r (rdL f l)
  |none=>nO
def Zdu(f:V→Option V)(s:Nat):List V→Option (List V)
 | []=>sO []
 |.agg cs::l=>match Nat.beq cs.length s with
  |true=>match rdL f cs with
   |some r=>JV (.agg r) (Zdu f s l)
   |none=>nO
  |false=>nO
 |_::_=>nO
def Zer(s:Nat):Nat→List V→Option (List V)
 |0,_=>sO []
 |n+1,l=>match Za6 s l with
  |some c=>JV (.agg c) (Zer s n (Zbt s l))
  |none=>nO
def rd(σ:S):Nat→V→Option V
 |0,_=>nO
 |n+1,v=>match v with
  |.int k a=>sO (.int k a)
  |.bool b=>sO (.bool b)
  |.str s=>sO (.str s)
  |.nilsl=>sO .nilsl
  |.nilptr=>sO .nilptr
  |.nilmap=>sO .nilmap
  |.nilfn=>sO .nilfn
  |.niliface=>sO .niliface
  |.agg cs=>match rdL (rd σ n) cs with
   |some r=>sO (.agg r)
   |none=>nO
  |.tup cs=>match rdL (rd σ n) cs with
   |some r=>sO (.tup r)
   |none=>nO
  |.iface t x=>match rd σ n x with
   |some r=>sO (.iface t r)
   |none=>nO
  |.sl _ m s rs=>match Nat.beq rs.length m with
   |true=>match Zdu (rd σ n) s rs with
    |some r=>sO (.sl 0 m s r)
    |none=>nO
   |false=>nO
  |.msl k o m _ s=>match ZaQ (σ.get k) with
   |some vs=>match Za6 (m*s) (Zbt o vs) with
    |some cs=>match Zer s m cs with
     |some rs=>match Zdu (rd σ n) s rs with
      |some r=>sO (.sl 0 m s r)
      |none=>nO
     |none=>nO
    |none=>nO
   |none=>nO
  |_=>nO
def dV:Nat→V→D
 |0,_=>.undef
 |n+1,v=>match v with
  |.int k a=>.int k a
  |.bool b=>.bool b
  |.str s=>.str (s.map UInt8.ofNat)
  |.nilsl=>.nilsl
  |.nilptr=>.nilptr
  |.nilmap=>.nilmap
  |.nilfn=>.nilfn
  |.niliface=>.niliface
  |.agg cs=>.agg (cs.map (dV n))
  |.tup cs=>.tup (cs.map (dV n))
  |.iface t x=>.iface t (dV n x)
  |.sl _ m s rs=>.sl .none m s fun i=>match rs[i]? with
   |some (.agg cs)=>cs.map (dV n)
   |_=>[]
  |_=>.undef
def Zyc(n:Nat)(rs:List V)(i:Nat):List D:=match rs[i]? with
 |some (.agg cs)=>cs.map (dV n)
 |_=>[]
theorem ZtG{f:V→Option V}:∀{vs rs:List V},rdL f vs=sO rs→rs.length=vs.length
 | [],rs,h=>by cases h;rfl
 |v::vs,rs,h=>by
  simp[rdL]at h
  split at h<;>(try(grind;done))
  obtain⟨q,hq,rfl⟩:=KI h
  simp[ZtG hq]
theorem ZeN{σ:S}{n:Nat}(ih:∀v r,rd σ n v=sO r→∀η,VR η r (dV n r)):∀{vs rs:List V},rdL (rd σ n) vs=sO rs→∀η,VRs η rs (rs.map (dV n))
 | [],rs,h,η=>by
  cases h
  exact .nil
 |v::vs,rs,h,η=>by
  simp[rdL]at h
  split at h<;>(try(grind;done))
  rename_i r hr
  obtain⟨q,hq,rfl⟩:=KI h
  exact .cons _ _ _ _ (ih v r hr η) (ZeN ih hq η)
theorem ZfZ{σ:S}{n sz:Nat}(ih:∀v r,rd σ n v=sO r→∀η,VR η r (dV n r)):∀{vs rs:List V},Zdu (rd σ n) sz vs=sO rs→rs.length=vs.length∧∀η,VRr η sz rs (Zyc n rs)
 | [],rs,h=>by
  cases h
  exact⟨rfl,fun _=>.nil _ _⟩
 |v::vs,rs,h=>by
  cases v<;>simp[Zdu]at h
  split at h<;>(try(grind;done))
  rename_i hb
  rw[Z6]at hb
  split at h<;>(try(grind;done))
  rename_i r hr
  obtain⟨q,hq,rfl⟩:=KI h
  obtain⟨h1,h2⟩:=ZfZ ih hq
  exact⟨by simp[h1],fun η=>.cons _ _ _ _ (ZeN ih hr η) (by rw[ZtG hr,hb]) (h2 η)⟩
theorem Zl4{sz:Nat}:∀{m:Nat} {cs rs:List V},Zer sz m cs=sO rs→rs.length=m
 |0,cs,rs,h=>by cases h;rfl
 |m+1,cs,rs,h=>by
  simp[Zer]at h
  split at h<;>(try(grind;done))
  obtain⟨q,hq,rfl⟩:=KI h
  simp[Zl4 hq]
theorem Zj1{σ:S}:∀(n:Nat) (v r:V),rd σ n v=sO r→∀η,VR η r (dV n r)
 |0,v,r,h=>by simp[rd]at h
 |n+1,v,r,h=>fun η=>by
  have ih:=Zj1 (σ:=σ) n
  cases v<;>simp only[rd,ZEP,reduceCtorEq]at h
  case int=>subst h;exact .int _ _
  case bool=>subst h;exact .bool _
  case str=>subst h;exact .str _
  case nilsl=>subst h;exact .nilsl
  case nilptr=>subst h;exact .nilptr
  case nilmap=>subst h;exact .nilmap
  case nilfn=>subst h;exact .nilfn
  case niliface=>subst h;exact .niliface
  case agg cs =>
   split at h<;>simp only[ZEP,reduceCtorEq]at h
   rename_i q hq
   subst h
   exact .agg _ _ (ZeN ih hq η)
  case tup cs =>
   split at h<;>simp only[ZEP,reduceCtorEq]at h
   rename_i q hq
   subst h
   exact .tup _ _ (ZeN ih hq η)
  case iface t x =>
   split at h<;>simp only[ZEP,reduceCtorEq]at h
   rename_i q hq
   subst h
   exact .iface _ _ _ (ih x q hq η)
  case sl t m sz rs =>
   split at h<;>(try(simp only[reduceCtorEq]at h;done))
   rename_i hb
   rw[Z6]at hb
   split at h<;>simp only[ZEP,reduceCtorEq]at h
   rename_i q hq
   subst h
   obtain⟨h1,h2⟩:=ZfZ ih hq
   exact .sl _ _ _ _ _ _ (h2 η) (h1.trans hb) (.inl rfl)
  case msl k o m cap sz =>
   split at h<;>(try(simp only[reduceCtorEq]at h;done))
   split at h<;>(try(simp only[reduceCtorEq]at h;done))
   split at h<;>(try(simp only[reduceCtorEq]at h;done))
   rename_i rs c
   split at h<;>simp only[ZEP,reduceCtorEq]at h
   rename_i q hq
   subst h
   obtain⟨h1,h2⟩:=ZfZ ih hq
   exact .sl _ _ _ _ _ _ (h2 η) (h1.trans (Zl4 c)) (.inl rfl)
def Zt9(η:Nm)(σ:S)(s:St)(n:Nat):Prop:=∀v r d,rd σ n v=sO r→VR η v d→∃Ln,(∀b∈Ln,∃ds,s b=sO (.cells ds))∧Y8 s Ln d (dV n r)
theorem Zgx{η:Nm}{σ:S}{s:St}{n:Nat}(ih:Zt9 η σ s n):∀{vs rs:List V} {ds:List D},rdL (rd σ n) vs=sO rs→VRs η vs ds →
  ∃Ln,(∀b∈Ln,∃ds,s b=sO (.cells ds))∧LdC s Ln ds (rs.map (dV n))
 | [],rs,ds,h,hv=>by
  obtain rfl:=hv.inv0
  cases h
  exact⟨[],by simp,.nil⟩
 |v::vs,rs,ds,h,hv=>by
  obtain⟨d,ds',rfl,h1,h2⟩:=hv.inv
  simp[rdL]at h
  split at h<;>(try(grind;done))
  rename_i r hr
  obtain⟨q,hq,rfl⟩:=KI h
  obtain⟨L1,a1,a2⟩:=ih v r d hr h1
  obtain⟨L2,b1,b2⟩:=Zgx ih hq h2
  refine⟨L1++L2,fun b hb=>?_,.cons (a2.more fun b hb=>by simp[hb]) (b2.more fun b hb=>by simp[hb])⟩
  rcases List.mem_append.1 hb with hb|hb
  ·exact a1 b hb
  exact b1 b hb
theorem ZiQ{η:Nm}{σ:S}{s:St}{n sz:Nat}(ih:Zt9 η σ s n):∀{vs rs:List V} {row:Nat→List D},Zdu (rd σ n) sz vs=sO rs→VRr η sz vs row →
  ∃Ln,(∀b∈Ln,∃ds,s b=sO (.cells ds))∧∀i,i<vs.length→LdC s Ln (row i) (Zyc n rs i)
 | [],rs,row,h,hv=>⟨[],by simp,by simp⟩
 |v::vs,rs,row,h,hv=>by
  obtain⟨cs,rfl,h1,h2,h3⟩:=hv.inv
  simp[Zdu]at h
  split at h<;>(try(grind;done))
  split at h<;>(try(grind;done))
  rename_i r hr
  obtain⟨q,hq,rfl⟩:=KI h
  obtain⟨L1,a1,a2⟩:=Zgx ih hr h1
  obtain⟨L2,b1,b2⟩:=ZiQ ih hq h3
  refine⟨L1++L2,fun b hb=>?_,fun i hi=>?_⟩
  ·rcases List.mem_append.1 hb with hb|hb
   ·exact a1 b hb
   exact b1 b hb
  cases i with
  |zero=>exact a2.more fun b hb=>by simp[hb]
  |succ i =>
   have:=b2 i (by simpa using hi)
   exact LdC.more this fun b hb=>by simp[hb]
theorem ZoP{η:Nm}{sz:Nat}:∀{m:Nat} {cs rs:List V} {ds:List D},Zer sz m cs=sO rs→VRs η cs ds→rs.length=m∧VRr η sz rs fun i=>(ds.drop (i*sz)).take sz
 |0,cs,rs,ds,h,hv=>by
  cases h
  exact⟨rfl,.nil _ _⟩
 |m+1,cs,rs,ds,h,hv=>by
  simp[Zer]at h
  split at h<;>(try(grind;done))
  rename_i c hc
  obtain⟨q,hq,rfl⟩:=KI h
  obtain⟨c1,rfl⟩:=J3 hc
  rw[Ju]at hq
  obtain⟨d1,d2⟩:=ZoP hq (hv.drop sz)
  refine⟨by simp[d1],.cons _ _ _ _ (by simpa using hv.take sz) (by simp;omega) ?_⟩
  have e:(fun i=>((ds.drop sz).drop (i*sz)).take sz)=fun i=>(ds.drop ((i+1)*sz)).take sz:=by
   funext i
   rw[List.drop_drop,ZFk,Nat.one_mul,Nat.add_comm]
  rw[e]at d2
  exact d2
theorem Zwy{η:Nm}{σ:S}{n:Nat}(ih:Zt9 η σ s n)(hS:Zqh η σ s){k b o m cap sz:Nat}{cv cs rs q:List V}(hk:η k=sO (.tip b))(hcv:ZaQ (σ.get k)=sO cv)(hcs:Za6 (m*sz) (Zbt o cv)=sO cs)(hrs:Zer sz m cs=sO rs)(hq:Zdu (rd σ n) sz rs=sO q):
  ∃Ln,(∀b∈Ln,∃ds,s b=sO (.cells ds))∧Y8 s Ln (.msl b o m cap sz) (.sl .none m sz (Zyc n q)):=by
 obtain⟨ds,ex,hb,hv⟩:=hS _ _ _ hcv hk
 rw[Ju]at hcs
 obtain⟨c1,rfl⟩:=J3 hcs
 obtain⟨e1,e2⟩:=ZoP hrs ((hv.drop o).take (m*sz))
 obtain⟨L,a1,a2⟩:=ZiQ ih hq e2
 have hl:=hv.len
 rw[ZFw,hl]at c1
 refine⟨b::L,fun c hc=>?_,Y8.mslo (ds:=ds++ex) (by simp) hb (by rw[ZE1];omega) (fun i hi=>?_)⟩
 ·rcases List.mem_cons.1 hc with rfl|hc
  ·exact⟨_,hb⟩
  exact a1 c hc
 have h1:=a2 i (by omega)
 have hm:(i+1)*sz≤m*sz:=ZFg _ hi
 rw[ZFk,Nat.one_mul]at hm
 have e:((((ds.drop o).take (m*sz)).drop (i*sz)).take sz)=((ds++ex).drop (o+i*sz)).take sz:=by
  rw[List.drop_take,List.take_take,List.drop_drop,Nat.min_eq_left (by omega),List.drop_append,List.take_append_of_le_length (by rw[ZFw];omega)]
 rw[e]at h1
 exact h1.more fun b hb=>by simp[hb]
theorem Zqf{η:Nm}{σ:S}{s:St}(hS:Zqh η σ s):∀n,Zt9 η σ s n
 |0=>fun v r d h _=>by simp[rd]at h
 |n+1=>fun v r d h hv=>by
  have ih:=Zqf hS n
  have nn:∀b∈([]:List Nat),∃ds,s b=sO (.cells ds):=by simp
  cases hv<;>simp only[rd,ZEP,reduceCtorEq]at h
  case int=>subst h;exact⟨[],nn,Y8.refl _⟩
  case bool=>subst h;exact⟨[],nn,Y8.refl _⟩
  case str=>subst h;exact⟨[],nn,Y8.refl _⟩
  case nilsl=>subst h;exact⟨[],nn,Y8.refl _⟩
  case nilptr=>subst h;exact⟨[],nn,Y8.refl _⟩
  case nilmap=>subst h;exact⟨[],nn,Y8.refl _⟩
  case nilfn=>subst h;exact⟨[],nn,Y8.refl _⟩
  case niliface=>subst h;exact⟨[],nn,Y8.refl _⟩
  case agg cs ds hc =>
   split at h<;>simp only[ZEP,reduceCtorEq]at h
   rename_i q hq
   subst h
   obtain⟨L,a1,a2⟩:=Zgx ih hq hc
   exact⟨L,a1,Y8.agg a2⟩
  case tup cs ds hc =>
   split at h<;>simp only[ZEP,reduceCtorEq]at h
   rename_i q hq
   subst h
   obtain⟨L,a1,a2⟩:=Zgx ih hq hc
   exact⟨L,a1,Y8.tup a2⟩
  case iface t x d hx =>
   split at h<;>simp only[ZEP,reduceCtorEq]at h
   rename_i q hq
   subst h
   obtain⟨L,a1,a2⟩:=ih x q d hq hx
   exact⟨L,a1,Y8.iface a2⟩
  case sl t m sz rs τ row hr hn ht =>
   split at h<;>(try(simp only[reduceCtorEq]at h;done))
   split at h<;>simp only[ZEP,reduceCtorEq]at h
   rename_i q hq
   subst h
   obtain⟨L,a1,a2⟩:=ZiQ ih hq hr
   exact⟨L,a1,Y8.sl (fun i hi=>a2 i (by omega))⟩
  case msl k b o m cap sz hk =>
   split at h<;>(try(simp only[reduceCtorEq]at h;done))
   rename_i cv u
   split at h<;>(try(simp only[reduceCtorEq]at h;done))
   rename_i cs y
   split at h<;>(try(simp only[reduceCtorEq]at h;done))
   rename_i rs j
   split at h<;>simp only[ZEP,reduceCtorEq]at h
   rename_i q hq
   subst h
   exact Zwy ih hS hk u y j hq
  case gsl k b o m cap sz c hk _ _ _ =>
   split at h<;>(try(simp only[reduceCtorEq]at h;done))
   rename_i cv u
   split at h<;>(try(simp only[reduceCtorEq]at h;done))
   rename_i cs y
   split at h<;>(try(simp only[reduceCtorEq]at h;done))
   rename_i rs j
   split at h<;>simp only[ZEP,reduceCtorEq]at h
   rename_i q hq
   subst h
   exact Zwy ih hS hk u y j hq
def Zx8(n:Nat):Option Out→Option V
 |some o=>match o.pan with
  |false=>rd o.σ n o.v
  |true=>nO
 |none=>nO
theorem Zn1{η η':Nm}{a:Nat}:∀{ks vs:List V} {ds:List D},Zag (ZeA a) ks vs=true→VRs η vs ds→VRs η' (ks.map (zV a)) ds
 | [],[],ds,_,hb=>by obtain rfl:=hb.inv0;exact .nil
 | [],_::_,ds,h,_=>by cases h
 |_::_,[],ds,h,_=>by cases h
 |x::ks,y::vs,ds,h,hb=>by
  simp only[Zag]at h
  split at h<;>(try(grind;done))
  rename_i hx
  obtain⟨d,ds',rfl,h1,h2⟩:=hb.inv
  exact .cons _ _ _ _ (Zwe a hx h1) (Zn1 h h2)
structure Kq where
 f:FuncId
 a:Nat
 n:Nat
 ks:List V
 r:V
def WX(P:Program)(k:Kq):Prop:=∀(vs:List V) (η:Nm) (ds:List D),Zag (ZeA k.a) k.ks vs=true→VRs η vs ds→Zc P k.f ds (dV k.n k.r)∧VR η k.r (dV k.n k.r)
theorem Zac{C:Cx}(hlib:∀t,QR ⟨C,t⟩)(k:Kq){m:Nat}(h:Zx8 k.n ((ZgT C k.f).run (run C m) (k.ks.map (zV k.a)) T.nil 2)=sO k.r):WX C.P k:=by
 intro vs η ds hm hv
 cases ho:(ZgT C k.f).run (run C m) (k.ks.map (zV k.a)) T.nil 2 with
 |none=>rw[ho]at h;cases h
 |some o =>
  rw[ho]at h
  simp[Zx8]at h
  split at h<;>(try(grind;done))
  rename_i j
  have i:=Zm4 hlib (fun C' ih he i=>ZtJ (by subst he;exact hlib _) i) m St.emp
  have c:=Zlg (C:=⟨C,St.emp⟩) (hlib _) i ho (Zn1 hm hv) Zwm (Zyg C nm0 St.emp)
  refine⟨ZlT (c.frz fun r s hp=>?_),?_⟩
  ·obtain⟨η',d',k1,k2,k3,k4,k5⟩:=hp
   rw[j]at k5
   obtain⟨Ln,a1,a2⟩:=Zqf (fun _ _ _ h hb=>k3.cells h hb) k.n o.v k.r d' h k4
   exact⟨d',Ln,k5,a1,a2⟩
  exact Zj1 k.n o.v k.r h η
def Zoi(f:FuncId):List Kq→List Kq
 | []=>[]
 |k::l=>match Nat.beq f k.f with
  |true=>k::Zoi f l
  |false=>Zoi f l
def Zg1:List Kq→List V→Option V
 | [],_=>nO
 |k::l,vs=>match Zag (ZeA k.a) k.ks vs with
  |true=>sO k.r
  |false=>Zg1 l vs
def Zuu(ih:V→Bool):V→Bool
 |.int _ _=>true
 |.bool _=>true
 |.str _=>true
 |.nilsl=>true
 |.nilptr=>true
 |.nilmap=>true
 |.nilfn=>true
 |.niliface=>true
 |.agg cs=>cs.all ih
 |.tup cs=>cs.all ih
 |_=>false
def Zp8(n:Nat):V→Bool:=Nat.rec (motive:=fun _=>V→Bool) (fun _=>false) (fun _ ih=>Zuu ih) n
theorem Zts{N:Nat→Prop}{m:Nat}:∀(n:Nat) {v:V},Zp8 n v=true→SC N (dV m v)
 |0,v,h=>by cases h
 |n+1,v,h=>by
  have h':Zuu (Zp8 n) v=true:=h
  cases m with
  |zero=>exact .undef
  |succ m =>
   have hl:∀{cs:List V},cs.all (Zp8 n)=true→∀c∈cs.map (dV m),SC N c:=fun{cs} hc c hm=>by
    obtain⟨x,hx,rfl⟩:=List.mem_map.1 hm
    exact Zts n (List.all_eq_true.1 hc x hx)
   cases v<;>simp only[Zuu,ZFn]at h'<;>simp[dV]
   case int=>exact .int _ _
   case bool=>exact .bool _
   case str=>exact .str _
   case nilsl=>exact .nilsl
   case nilptr=>exact .nilptr
   case nilmap=>exact .nilmap
   case nilfn=>exact .nilfn
   case niliface=>exact .niliface
   case agg cs=>exact .agg _ (hl h')
   case tup cs=>exact .tup _ (hl h')
def ZxJ(f0:FuncId)(K:List Kq)(f:FuncId):Option (S→List V→Option V):=match Zoi f K with
 | []=>ZaN f0 f
 |k::l=>sO fun σ vs=>match Zg1 (k::l) vs with
  |some r=>sO r
  |none=>match rdL (rd σ 40) vs with
   |some ws=>match Zg1 (k::l) ws with
    |some r=>noV (Zp8 40 r) (sO r)
    |none=>nO
   |none=>nO
theorem ZeS{f:FuncId}:∀{K:List Kq} {k:Kq},k∈Zoi f K→k∈K∧k.f=f
 | [],k,h=>by simp[Zoi]at h
 |x::K,k,h=>by
  simp only[Zoi]at h
  split at h
  ·rename_i hb
   rw[Z6]at hb
   rcases List.mem_cons.1 h with rfl|h
   ·exact⟨by simp,hb.symm⟩
   exact⟨by simp[(ZeS h).1],(ZeS h).2⟩
  exact⟨by simp[(ZeS h).1],(ZeS h).2⟩
theorem ZoY{vs:List V}{v:V}:∀{K:List Kq},Zg1 K vs=sO v→∃k∈K,Zag (ZeA k.a) k.ks vs=true∧v=k.r
 | [],h=>by simp[Zg1]at h
 |x::K,h=>by
  simp only[Zg1]at h
  split at h
  ·rename_i hm
   simp only[ZEP]at h
   exact⟨x,by simp,hm,h.symm⟩
  obtain⟨k,h1,h2⟩:=ZoY h
  exact⟨k,by simp[h1],h2⟩
theorem Zwx{σ:S}{n:Nat}{vs rs:List V}(h:rdL (rd σ n) vs=sO rs)(η:Nm):VRs η rs (rs.map (dV n)):=ZeN (fun v r h η=>Zj1 n v r h η) h η
theorem Zy9{P:Program}{mu:FuncId→Option Nat→Bool}{f0:FuncId}{K:List Kq}(h0:∀t,QR ⟨⟨P,ZaN f0,mu⟩,t⟩)(hK:∀k∈K,WX P k)(t:St):QR ⟨⟨P,ZxJ f0 K,mu⟩,t⟩:=by
 intro f g σ vs v c hg η ds s hv hS
 simp[ZxJ]at c
 split at c
 ·exact h0 t f g σ vs v c hg η ds s hv hS
 rename_i k l hs
 cases c
 have i:∀{ws:List V} {v:V},Zg1 (k::l) ws=sO v→∃k':Kq,f=k'.f∧v=k'.r∧∀(η:Nm) (ds:List D),VRs η ws ds→Zc P k'.f ds (dV k'.n k'.r)∧VR η k'.r (dV k'.n k'.r):=fun{ws v} hk=>by
  obtain⟨k',h1,h2,rfl⟩:=ZoY hk
  rw[←hs]at h1
  obtain⟨h3,rfl⟩:=ZeS h1
  exact⟨k',rfl,rfl,fun η ds hv=>hK k' h3 ws η ds h2 hv⟩
 simp only at hg
 split at hg
 ·rename_i r hr
  cases hg
  obtain⟨k',rfl,rfl,hk⟩:=i hr
  obtain⟨h4,h5⟩:=hk η ds hv
  exact⟨_,h5,h4 s⟩
 split at hg<;>(try(grind;done))
 rename_i ws j
 split at hg<;>(try(grind;done))
 rename_i r hr
 unfold noV at hg
 split at hg<;>simp at hg
 rename_i u
 subst hg
 obtain⟨k',rfl,rfl,hk⟩:=i hr
 obtain⟨Ln,a1,a2⟩:=Zgx (Zqf hS 40) j hv
 obtain⟨h4,h5⟩:=hk η _ (Zwx j η)
 refine⟨_,h5,(Zf.lend a1 a2 (h4 _) ?_).mono ?_⟩
 ·rintro r S ⟨rfl,rfl⟩
  exact⟨Zts 40 u,fun b o hb=>by simp at hb⟩
 rintro r S ⟨S',⟨rfl,rfl⟩,_,rfl⟩
 exact⟨rfl,rfl⟩
theorem LdC.le0{Ln:List Nat}{l l':List D}(h:LdC St.emp Ln l l'):LeC l l':=by
 induction h with
 |nil=>exact .nil
 |cons h _ ih=>exact .cons (fun g w v hr=>h g w v (fun b _ ds hd=>by simp[St.emp]at hd) hr) ih
theorem ZaM{P:Program}(k:Kq)(hc:Zc P k.f (k.ks.map (dV 40)) (dV k.n k.r))(h1:rdL (rd T.nil 40) (k.ks.map (zV k.a))=sO k.ks)(h2:rd T.nil k.n k.r=sO k.r):WX P k:=by
 intro vs η ds hm hv
 obtain⟨Ln,_,a2⟩:=Zgx (s:=St.emp) (Zqf (fun _ _ _ h hb=>(Zyg ⟨P,fun _=>nO,fun _ _=>false⟩ nm0 St.emp).cells h hb) 40) h1 (Zn1 (η':=nm0) hm hv)
 exact⟨hc.leA a2.le0,Zj1 k.n k.r k.r h2 η⟩
end Go.DL
namespace Go.DL
open Go Go.Proofs
variable {kp:Option (List Nat)}{L:Loc}{ρ:Env}{s:St}{w:World}{os:List DOp}{ds:List D}{B:List (Nat × Rd)}{dst:Option Nat}{tmps:Array Value}{g:G}{Φ:Res→St→Prop}{ν:Nat→Nat}{xs:List Opd}{side:Prop}{row:Nat→List D}{vs:List V}
def Zcj(f:FuncId)(_:Option Nat):Bool:=ZfS f [7,11,17,19,20,30,31,37,42,43,57,58,70,71,72,73,74,75,77,80,82,91,92,113,114,116,133,137,143,183,212]
theorem QJ(t:St):QR ⟨⟨ZEQ,ZaN 165,Zcj⟩,t⟩ :=
 Zy8 (n:=208) (by kernel_rfl) Tryz.func208 (by kernel_rfl) (by kernel_rfl) (by kernel_rfl) (by kernel_rfl) t
def ZAO:V:=.agg [.str [100],.sl 0 3 2 [.agg [.str [109],.sl 0 2 15 [.agg [.str [110],.int .i64 1,.int .i64 8,.bool false,.bool false,.int .i64 0,.int .i64 9,.int .i64 0,.nilsl,.str [],.str [],.str [],.nilsl,.int .i64 0,.int .i64 0],.agg [.str [98],.int .i64 4,.int .i64 0,.bool false,.bool false,.int .i64 0,.int .i64 0,.int .i64 0,.sl 0 1 2 [.agg [.str [110],.int .i64 1]],.str [],.str [],.str [],.nilsl,.int .i64 0,.int .i64 0]]],.agg [.str [115,48],.sl 0 1 15 [.agg [.str [122],.int .i64 2,.int .i64 8,.bool false,.bool false,.int .i64 7,.int .i64 0,.int .i64 0,.nilsl,.str [],.str [],.str [],.nilsl,.int .i64 0,.int .i64 0]]],.agg [.str [115],.sl 0 2 15 [.agg [.str [116],.int .i64 1,.int .i64 8,.bool false,.bool false,.int .i64 1,.int .i64 2,.int .i64 0,.nilsl,.str [],.str [],.str [],.nilsl,.int .i64 0,.int .i64 0],.agg [.str [99],.int .i64 9,.int .i64 0,.bool false,.bool false,.int .i64 0,.int .i64 0,.int .i64 0,.nilsl,.str [],.str [116],.str [],.sl 0 2 3 [.agg [.int .i64 1,.int .i64 1,.str [109]],.agg [.int .i64 2,.int .i64 2,.str [115,48]]],.int .i64 0,.int .i64 0]]]],.str [115]]
def kf0:Kq:=⟨40,40,40,[ZAO],.bool true⟩
def kf1:Kq:=⟨181,40,40,[.sl 0 1 1 [.agg [.str [110]]],.str [46]],.str [110]⟩
def kf2:Kq:=⟨181,40,40,[.sl 0 1 1 [.agg [.str [98]]],.str [46]],.str [98]⟩
def kf3:Kq:=⟨181,40,40,[.sl 0 1 1 [.agg [.str [116]]],.str [46]],.str [116]⟩
def kf4:Kq:=⟨181,40,40,[.sl 0 1 1 [.agg [.str [99]]],.str [46]],.str [99]⟩
def kf5:Kq:=⟨181,40,40,[.sl 0 2 1 [.agg [.str [99]],.agg [.str [109]]],.str [46]],.str [99,46,109]⟩
def kf6:Kq:=⟨181,40,40,[.sl 0 2 1 [.agg [.str [99,46,109]],.agg [.str [110]]],.str [46]],.str [99,46,109,46,110]⟩
def kf7:Kq:=⟨181,40,40,[.sl 0 2 1 [.agg [.str [99,46,109]],.agg [.str [98]]],.str [46]],.str [99,46,109,46,98]⟩
def kf8:Kq:=⟨15,40,40,[.str [109,40,110,61,50,32,98,35,48,49,48,50,41]],.tup [.agg [.str [109],.int .i64 0,.nilsl,.nilsl,.sl 0 2 5 [.agg [.str [110],.int .i64 2,.nilsl,.nilsl,.nilsl],.agg [.str [98],.int .i64 0,.sl 0 2 1 [.agg [.int .u8 1],.agg [.int .u8 2]],.nilsl,.nilsl]]],.int .i64 0]⟩
def kf9:Kq:=⟨15,40,40,[.str [109,40,110,61,50,32,98,35,48,49,41]],.tup [.agg [.str [109],.int .i64 0,.nilsl,.nilsl,.sl 0 2 5 [.agg [.str [110],.int .i64 2,.nilsl,.nilsl,.nilsl],.agg [.str [98],.int .i64 0,.sl 0 1 1 [.agg [.int .u8 1]],.nilsl,.nilsl]]],.int .i64 0]⟩
def ZuB:Kq:=⟨15,40,40,[.str [109,40,110,61,49,50,32,98,35,48,49,41]],.tup [.agg [.str [109],.int .i64 0,.nilsl,.nilsl,.sl 0 2 5 [.agg [.str [110],.int .i64 12,.nilsl,.nilsl,.nilsl],.agg [.str [98],.int .i64 0,.sl 0 1 1 [.agg [.int .u8 1]],.nilsl,.nilsl]]],.int .i64 0]⟩
def ZuC:Kq:=⟨15,40,40,[.str [109,40,110,61,49,32,98,61,49,41]],.tup [.agg [.str [109],.int .i64 0,.nilsl,.nilsl,.sl 0 2 5 [.agg [.str [110],.int .i64 1,.nilsl,.nilsl,.nilsl],.agg [.str [98],.int .i64 1,.nilsl,.nilsl,.nilsl]]],.int .i64 0]⟩
def ZuD:Kq:=⟨15,40,40,[.str [115,40,116,61,49,32,99,40,109,40,110,32,98,41,41,41]],.tup [.agg [.str [115],.int .i64 0,.nilsl,.nilsl,.sl 0 2 5 [.agg [.str [116],.int .i64 1,.nilsl,.nilsl,.nilsl],.agg [.str [99],.int .i64 0,.nilsl,.nilsl,.sl 0 1 5 [.agg [.str [109],.int .i64 0,.nilsl,.nilsl,.sl 0 2 5 [.agg [.str [110],.int .i64 0,.nilsl,.nilsl,.nilsl],.agg [.str [98],.int .i64 0,.nilsl,.nilsl,.nilsl]]]]]]],.int .i64 0]⟩
def ZuE:Kq:=⟨15,40,40,[.str [115,40,116,61,50,32,99,40,109,40,110,32,98,41,41,41]],.tup [.agg [.str [115],.int .i64 0,.nilsl,.nilsl,.sl 0 2 5 [.agg [.str [116],.int .i64 2,.nilsl,.nilsl,.nilsl],.agg [.str [99],.int .i64 0,.nilsl,.nilsl,.sl 0 1 5 [.agg [.str [109],.int .i64 0,.nilsl,.nilsl,.sl 0 2 5 [.agg [.str [110],.int .i64 0,.nilsl,.nilsl,.nilsl],.agg [.str [98],.int .i64 0,.nilsl,.nilsl,.nilsl]]]]]]],.int .i64 0]⟩
def ZuF:Kq:=⟨15,40,40,[.str [115,40,116,61,50,32,99,40,109,40,110,32,98,35,48,51,48,51,41,41,41]],.tup [.agg [.str [115],.int .i64 0,.nilsl,.nilsl,.sl 0 2 5 [.agg [.str [116],.int .i64 2,.nilsl,.nilsl,.nilsl],.agg [.str [99],.int .i64 0,.nilsl,.nilsl,.sl 0 1 5 [.agg [.str [109],.int .i64 0,.nilsl,.nilsl,.sl 0 2 5 [.agg [.str [110],.int .i64 0,.nilsl,.nilsl,.nilsl],.agg [.str [98],.int .i64 0,.sl 0 2 1 [.agg [.int .u8 3],.agg [.int .u8 3]],.nilsl,.nilsl]]]]]]],.int .i64 0]⟩
def ZuG:Kq:=⟨15,40,40,[.str [109,40,110,61,51,32,98,35,48,49,41]],.tup [.agg [.str [109],.int .i64 0,.nilsl,.nilsl,.sl 0 2 5 [.agg [.str [110],.int .i64 3,.nilsl,.nilsl,.nilsl],.agg [.str [98],.int .i64 0,.sl 0 1 1 [.agg [.int .u8 1]],.nilsl,.nilsl]]],.int .i64 0]⟩
theorem ZcO(l:List Str)(hn:l.length≤100)(hj:(joinL l [46]).length≤1000)(hr:∀i,i<l.length→row i=[.str (l.getD i dE)]){n:Nat}(he:n=l.length){r:List UInt8}(hr2:r=joinL l [46]):Zc ZEQ 181 [.sl .none n 1 row,.str [46]] (.str r):=by
 subst he;subst hr2
 have h:ZV ZbL row l:=hr
 exact(Zcu l (by omega) (by omega)).leA (LeC.two (h.le rfl) (ZEW _))
theorem ZAz:WX ZEQ kf1:=ZaM _ (ZcO [[110]] (by decide) (by decide) (fun i hi=>by match i,hi with|0,_=>rfl) rfl rfl) (by kernel_rfl) (by kernel_rfl)
theorem ZAA:WX ZEQ kf2:=ZaM _ (ZcO [[98]] (by decide) (by decide) (fun i hi=>by match i,hi with|0,_=>rfl) rfl rfl) (by kernel_rfl) (by kernel_rfl)
theorem ZAB:WX ZEQ kf3:=ZaM _ (ZcO [[116]] (by decide) (by decide) (fun i hi=>by match i,hi with|0,_=>rfl) rfl rfl) (by kernel_rfl) (by kernel_rfl)
theorem ZAC:WX ZEQ kf4:=ZaM _ (ZcO [[99]] (by decide) (by decide) (fun i hi=>by match i,hi with|0,_=>rfl) rfl rfl) (by kernel_rfl) (by kernel_rfl)
theorem ZAD:WX ZEQ kf5:=ZaM _ (ZcO [[99],[109]] (by decide) (by decide) (fun i hi=>by match i,hi with|0,_=>rfl|1,_=>rfl) rfl rfl) (by kernel_rfl) (by kernel_rfl)
theorem ZAE:WX ZEQ kf6:=ZaM _ (ZcO [[99,46,109],[110]] (by decide) (by decide) (fun i hi=>by match i,hi with|0,_=>rfl|1,_=>rfl) rfl rfl) (by kernel_rfl) (by kernel_rfl)
theorem ZAF:WX ZEQ kf7:=ZaM _ (ZcO [[99,46,109],[98]] (by decide) (by decide) (fun i hi=>by match i,hi with|0,_=>rfl|1,_=>rfl) rfl rfl) (by kernel_rfl) (by kernel_rfl)
def ZnR(n:Nat):List Nat:=if n<10 then [48+n] else if n<100 then [48+n / 10,48+n % 10] else [48+n / 100,48+n / 10 % 10,48+n % 10]
theorem ZyV{n:Nat}(h:n<500):(ZnR n).map UInt8.ofNat=ZcG n:=by
 unfold ZnR
 split
 ·rename_i h1;rw[Ql h1];rfl
 rename_i h1
 rw[ZgW h1,Ql (n:=n % 10) (by omega)]
 split
 ·rw[Ql (n:=n / 10) (by omega)];rfl
 rw[ZgW (n:=n / 10) (by omega),Ql (n:=n / 10 / 10) (by omega),Ql (n:=n / 10 % 10) (by omega),Nat.div_div_eq_div_mul];rfl
def eqN:List Nat→List Nat→Bool
 | [],[]=>true
 |a::r,b::t=>Nat.beq a b&&eqN r t
 |_,_=>false
theorem ZvU:∀{a b:List Nat},eqN a b=true→a=b
 | [],[],_=>rfl
 | [],_::_,h=>by simp[eqN]at h
 |_::_,[],h=>by simp[eqN]at h
 |a::r,b::t,h=>by
  simp only[eqN,ZEY]at h
  rw[Nat.eq_of_beq_eq_true h.1,ZvU h.2]
def isT(n:Nat):Option V→Bool
 |some (.str s)=>eqN s (ZnR n)
 |_=>false
theorem ZzZ{n:Nat}:∀{o:Option V},isT n o=true→o=sO (.str (ZnR n))
 |some (.str s),h=>by rw[ZvU h]
def Zub(f:Nat→Option V):Nat→Bool
 |0=>true
 |n+1=>isT n (f n)&&Zub f n
theorem Ztf{f:Nat→Option V}:∀{n i:Nat},Zub f n=true→i<n→f i=sO (.str (ZnR i))
 |n+1,i,h,hi=>by
  simp only[Zub,ZEY]at h
  by_cases e:i=n
  ·rw[e];exact ZzZ h.1
  exact Ztf h.2 (by omega)
def kI(n:Nat):Kq:=⟨186,40,40,[.int .i64 (Int.ofNat n)],.str (ZnR n)⟩
theorem Zv5{n:Nat}(h:WX ZEQ (kI n))(hn:n<500):Zc ZEQ 186 [.int .i64 n] (.str (ZcG n)):=by
 have h1:=(h [.int .i64 n] nm0 [.int .i64 n] (by
  have h0:ZeA 40 (.int .i64 n) (.int .i64 n)=true:=by show(Zfn .i64 .i64&&eqI n n)=true;rw[Q4.2 rfl];rfl
  show Zag (ZeA 40) [.int .i64 n] [.int .i64 n]=true
  simp only[Zag,h0,if_true]) (.cons _ _ _ _ (.int _ _) .nil)).1
 rw[←ZyV hn]
 exact h1
theorem ZxE:Zub (fun n=>Zx8 (kI n).n ((ZgT ⟨ZEQ,ZaN 165,Zcj⟩ (kI n).f).run (run ⟨ZEQ,ZaN 165,Zcj⟩ 1000) ((kI n).ks.map (zV (kI n).a)) T.nil 2)) 500=true:=by kernel_rfl
theorem Zty:ZaB:=fun n hn=>by
 have h:=Ztf ZxE hn
 have h2:=Zac (C:=⟨ZEQ,ZaN 165,Zcj⟩) QJ (kI n) (m:=1000) h
 exact Zv5 h2 hn
section
variable {H:Type} {enc:TypeId × Value→H} {w:World}
theorem Zzn:ZaW enc ZEQ w 90 fun ds=>∃x:ZT,ds=x.cells:=by
 refine(KU (P:=ZEQ) (q:=fun _=>True) Tryz.underlying90 (Rs:=[_,_]) (.cons (QA Tryz.underlying9) (.cons (ZaS Tryz.underlying3) .nil)) (by kernel_rfl)).imp ?_
 rintro ds ⟨_,_,rfl,⟨a,rfl⟩,_,_,rfl,⟨b,rfl⟩,rfl⟩
 exact⟨⟨a,b⟩,rfl⟩
theorem Zx5:ZaW enc ZEQ w 50 fun ds=>∃l:List ZT,ds=[YD l] :=
 Zad (q:=fun _=>True) (f:=ZT.cells) Tryz.underlying50 (by kernel_rfl) (by decide) (fun _=>rfl) Zzn
theorem Zzm:ZaW enc ZEQ w 52 fun ds=>∃x:Wk,ds=x.cells:=by
 refine(KU (P:=ZEQ) (q:=fun _=>True) Tryz.underlying52 (Rs:=[_,_]) (.cons (ZaS Tryz.underlying3) (.cons Zx5 .nil)) (by kernel_rfl)).imp ?_
 rintro ds ⟨_,_,rfl,⟨a,rfl⟩,_,_,rfl,⟨b,rfl⟩,rfl⟩
 exact⟨⟨a,b⟩,rfl⟩
theorem Zzi:ZaW enc ZEQ w 92 fun ds=>∃x:Yg,ds=x.cells:=by
 refine(KU (P:=ZEQ) (q:=fun _=>True) Tryz.underlying92 (Rs:=[_,_,_]) (.cons (ZaS Tryz.underlying3) (.cons (ZaS Tryz.underlying3) (.cons (QA Tryz.underlying9) .nil))) (by kernel_rfl)).imp ?_
 rintro ds ⟨_,_,rfl,⟨a,rfl⟩,_,_,rfl,⟨b,rfl⟩,_,_,rfl,⟨c,rfl⟩,rfl⟩
 exact⟨⟨a,b,c⟩,rfl⟩
theorem Zx4:ZaW enc ZEQ w 53 fun ds=>∃l:List Yg,ds=[Yy l] :=
 Zad (q:=fun _=>True) (f:=Yg.cells) Tryz.underlying53 (by kernel_rfl) (by decide) (fun _=>rfl) Zzi
theorem ZAj:ZaW enc ZEQ w 55 fun ds=>∃x:Fld,ds=x.cells:=by
 have hs:=QA (p:=fun _=>True) (enc:=enc) (P:=ZEQ) (w:=w) Tryz.underlying9
 have hi:=ZaS (p:=fun _=>True) (enc:=enc) (P:=ZEQ) (w:=w) Tryz.underlying3
 have hb:=Zu1 (p:=fun _=>True) (enc:=enc) (P:=ZEQ) (w:=w) Tryz.underlying4
 have hk:=ZaS (p:=fun _=>True) (enc:=enc) (P:=ZEQ) (w:=w) Tryz.underlying49
 refine(KU (P:=ZEQ) (q:=fun _=>True) Tryz.underlying55 (Rs:=[_,_,_,_,_,_,_,_,_,_,_,_,_,_]) (.cons hs (.cons hk (.cons hi (.cons hb (.cons hb (.cons hi (.cons hi (.cons Zzm (.cons hs (.cons hs (.cons hs (.cons Zx4 (.cons hi (.cons hi .nil)))))))))))))) (by kernel_rfl)).imp ?_
 rintro ds ⟨_,_,rfl,⟨a,rfl⟩,_,_,rfl,⟨b,rfl⟩,_,_,rfl,⟨c,rfl⟩,_,_,rfl,⟨d,rfl⟩,_,_,rfl,⟨e,rfl⟩,_,_,rfl,⟨f,rfl⟩,_,_,rfl,⟨g,rfl⟩,_,_,rfl,⟨h,rfl⟩,_,_,rfl,⟨i,rfl⟩,_,_,rfl,⟨j,rfl⟩,_,_,rfl,⟨k,rfl⟩,_,_,rfl,⟨l,rfl⟩,_,_,rfl,⟨m,rfl⟩,_,_,rfl,⟨n,rfl⟩,rfl⟩
 exact⟨⟨a,b,c,d,e,f,g,h,i,j,k,l,m,n⟩,rfl⟩
theorem Zzj:ZaW enc ZEQ w 46 fun ds=>∃l:List Fld,ds=[Zo l] :=
 Zad (q:=fun _=>True) (f:=Fld.cells) Tryz.underlying46 (by kernel_rfl) (by decide) (fun _=>rfl) ZAj
theorem ZAk:ZaW enc ZEQ w 48 fun ds=>∃x:Msg,ds=x.cells:=by
 refine(KU (P:=ZEQ) (q:=fun _=>True) Tryz.underlying48 (Rs:=[_,_]) (.cons (QA Tryz.underlying9) (.cons Zzj .nil)) (by kernel_rfl)).imp ?_
 rintro ds ⟨_,_,rfl,⟨a,rfl⟩,_,_,rfl,⟨b,rfl⟩,rfl⟩
 exact⟨⟨a,b⟩,rfl⟩
theorem Zzl:ZaW enc ZEQ w 22 fun ds=>∃l:List Msg,ds=[YR l] :=
 Zad (q:=fun _=>True) (f:=Msg.cells) Tryz.underlying22 (by kernel_rfl) (by decide) (fun _=>rfl) ZAk
theorem Zwz:ZaW enc ZEQ w 24 fun ds=>∃x:Dfn,ds=x.cells:=by
 refine(KU (P:=ZEQ) (q:=fun _=>True) Tryz.underlying24 (Rs:=[_,_,_]) (.cons (QA Tryz.underlying9) (.cons Zzl (.cons (QA Tryz.underlying9) .nil))) (by kernel_rfl)).imp ?_
 rintro ds ⟨_,_,rfl,⟨a,rfl⟩,_,_,rfl,⟨b,rfl⟩,_,_,rfl,⟨c,rfl⟩,rfl⟩
 exact⟨⟨a,b,c⟩,rfl⟩
end
section
variable {H:Type} {enc:TypeId × Value→H} {w:World} {p:Nat→Prop}
theorem Zx6:Q8 p enc ZEQ w 25 fun ds=>∃b:Str,ds=[ZM b] :=
 Zad (q:=fun _=>True) (f:=u8C) Tryz.underlying25 (by kernel_rfl) (by decide) (fun _=>rfl) ((Zm0 Tryz.underlying5).imp fun ds ⟨n,hn,h⟩=>⟨UInt8.ofNat n.toNat,by
  subst h
  unfold inR IntKind.min IntKind.max at hn
  simp[IntKind.signed,IntKind.bits]at hn
  simp only[u8C,UInt8.toNat_ofNat',List.cons.injEq,D.int.injEq,true_and,and_true]
  omega⟩)
theorem Zzk:Q8 p enc ZEQ w 26 fun ds=>∃l:List Hdr,ds=[Z2 l]:=by
 refine Zad (q:=fun _=>True) (f:=Hdr.cells) Tryz.underlying26 (by kernel_rfl) (by decide) (fun _=>rfl) ((KU (P:=ZEQ) (q:=fun _=>True) Tryz.underlying81 (Rs:=[_,_]) (.cons (QA Tryz.underlying9) (.cons (QA Tryz.underlying9) .nil)) (by kernel_rfl)).imp ?_)
 rintro ds ⟨_,_,rfl,⟨a,rfl⟩,_,_,rfl,⟨b,rfl⟩,rfl⟩
 exact⟨⟨a,b⟩,rfl⟩
theorem ZtH:∀N:Nat,Q8 (fun n=>n<N) enc ZEQ w 29 fun ds=>∃x:Val,ds=x.cells
 |0=>fun fuel cs x h=>absurd h (Nat.not_lt_zero _)
 |N+1=>by
  refine(KU (P:=ZEQ) (q:=fun n=>n<N) Tryz.underlying29 (Rs:=[_,_,_,_,_]) (.cons (QA Tryz.underlying9) (.cons (ZaS Tryz.underlying3) (.cons Zx6 (.cons Zzk
   (.cons (ZiS (q:=fun n=>n<N) (f:=Val.cells) (row:=Zd6) (fun l i h=>Zpo h) Tryz.underlying27 (by kernel_rfl) (by decide) Val.len (ZtH N) (fun n h=>by omega)) .nil))))) (by kernel_rfl) (fun n h=>by omega)).imp ?_
  rintro ds ⟨_,_,rfl,⟨a,rfl⟩,_,_,rfl,⟨b,rfl⟩,_,_,rfl,⟨c,rfl⟩,_,_,rfl,⟨d,rfl⟩,_,_,rfl,⟨e,rfl⟩,rfl⟩
  exact⟨.mk a b c d e,rfl⟩
theorem ZwA:ZaW enc ZEQ w 29 fun ds=>∃x:Val,ds=x.cells:=fun c cs x _ h=>ZtH (c+1) c cs x (Nat.lt_succ_self _) h
end
end Go.DL
namespace Go.Proofs.YtekaandjjcbfaaaGreatDoor
open Go Go.DL Go.ChangeShapes Go.WideShapes Go.ChangeAt Go.RowKit Go.Lib
set_option linter.unusedVariables false
theorem own:ownKnob Tryz.prog.godebug=nO:=by kernel_rfl
theorem laidOut:laidOutB ZEQ=true:=by kernel_rfl
theorem tabsOk{W:World}(h:laidMet ZEQ Rows.shapeLengthsRow.laid W):ZlV W:=by
 intro n cs hn
 have c:(match Nat.beq n 3 with
  |true=>sO (ZrP.map fun z=>D.int .u64 z)
  |false=>nO)=sO cs:=hn
 split at c
 ·rename_i hb
  obtain rfl:n=3:=Nat.eq_of_beq_eq_true hb
  simp only[ZEP]at c
  subst c
  have ht:TabIs ZEQ W "internal/strconv.uint64pow10" .u64 ZrP :=
   tabIs_of_head (g:=3) (t:=293) (e:=222) (n:=20) (by kernel_rfl) (by kernel_rfl) Tryz.underlying293 Tryz.underlying222 (by kernel_rfl) (by kernel_rfl) h.tail.tail
  exact Zzw ht (by kernel_rfl) (by unfold inR;decide)
 simp at c
end Go.Proofs.YtekaandjjcbfaaaGreatDoor
namespace Go.DL
open Go Go.Proofs
variable {kp:Option (List Nat)}{L:Loc}{ρ:Env}{s:St}{w:World}{os:List DOp}{ds:List D}{B:List (Nat × Rd)}{dst:Option Nat}{tmps:Array Value}{g:G}{Φ:Res→St→Prop}{ν:Nat→Nat}{xs:List Opd}{side:Prop}{row:Nat→List D}{vs:List V}
theorem ZAP:WX ZEQ kf0:=Zac (C:=⟨ZEQ,ZaN 165,Zcj⟩) QJ kf0 (m:=20000) (by kernel_rfl)
theorem ZAG:WX ZEQ kf8:=Zac (C:=⟨ZEQ,ZaN 165,Zcj⟩) QJ kf8 (m:=20000) (by kernel_rfl)
theorem ZAH:WX ZEQ kf9:=Zac (C:=⟨ZEQ,ZaN 165,Zcj⟩) QJ kf9 (m:=20000) (by kernel_rfl)
theorem Zz2:WX ZEQ ZuB:=Zac (C:=⟨ZEQ,ZaN 165,Zcj⟩) QJ ZuB (m:=20000) (by kernel_rfl)
theorem Zz3:WX ZEQ ZuC:=Zac (C:=⟨ZEQ,ZaN 165,Zcj⟩) QJ ZuC (m:=20000) (by kernel_rfl)
theorem Zz4:WX ZEQ ZuD:=Zac (C:=⟨ZEQ,ZaN 165,Zcj⟩) QJ ZuD (m:=20000) (by kernel_rfl)
theorem Zz5:WX ZEQ ZuE:=Zac (C:=⟨ZEQ,ZaN 165,Zcj⟩) QJ ZuE (m:=20000) (by kernel_rfl)
theorem Zz6:WX ZEQ ZuF:=Zac (C:=⟨ZEQ,ZaN 165,Zcj⟩) QJ ZuF (m:=20000) (by kernel_rfl)
theorem Zz7:WX ZEQ ZuG:=Zac (C:=⟨ZEQ,ZaN 165,Zcj⟩) QJ ZuG (m:=20000) (by kernel_rfl)
theorem Zy5:∀k∈([kf0,kf1,kf2,kf3,kf4,kf5,kf6,kf7,kf8,kf9,ZuB,ZuC,ZuD,ZuE,ZuF,ZuG]:List Kq),WX ZEQ k:=by
 intro k hk
 simp only[ZFv,List.not_mem_nil,or_false]at hk
 rcases hk with rfl|rfl|rfl|rfl|rfl|rfl|rfl|rfl|rfl|rfl|rfl|rfl|rfl|rfl|rfl|rfl
 ·exact ZAP
 ·exact ZAz
 ·exact ZAA
 ·exact ZAB
 ·exact ZAC
 ·exact ZAD
 ·exact ZAE
 ·exact ZAF
 ·exact ZAG
 ·exact ZAH
 ·exact Zz2
 ·exact Zz3
 ·exact Zz4
 ·exact Zz5
 ·exact Zz6
 exact Zz7
theorem Zgq:Zc ZEQ 6 [] (.bool true):=Zzz (C:=⟨ZEQ,ZxJ 165 [kf0,kf1,kf2,kf3,kf4,kf5,kf6,kf7,kf8,kf9,ZuB,ZuC,ZuD,ZuE,ZuF,ZuG],Zcj⟩) (Zy9 QJ Zy5) (m:=100000) (by kernel_rfl)
end Go.DL
