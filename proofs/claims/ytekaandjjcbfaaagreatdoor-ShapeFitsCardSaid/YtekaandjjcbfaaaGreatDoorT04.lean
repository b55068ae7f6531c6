/- Lemmas: S12, S13, S14, S15, S16, S17, S18, S19, S20, S21, S22, S23, A04, A05, U03, U04, U05, W04, W05, W06, W07, W08, W09, W10, W11, W12, W13, SLay3, W14, W15, W16, W17, W18, W19, W20, W21, W22, W23. -/
import Derived.Test.YtekaandjjcbfaaaGreatDoorT03
set_option maxHeartbeats 16000000
set_option maxRecDepth 100000
set_option linter.all false
open Option renaming some → sO, none → nO
open Inhabited renaming default → dE
open Decidable renaming decide → dC
open Go.Proofs.Tryz
open And renaming intro → ZER
open Bool renaming and_eq_true → ZEY, false_and → ZFh, false_eq_true → ZFn, or_eq_true → ZFb, true_and → ZFe
open Go.DL.D.Le renaming refl → ZEW
open Go.DL.St renaming single → ZFj, sub_refl → ZES, sub_trans → ZFx, sub_upd → ZFi, upd → ZFr, upd_ne → ZE0, upd_same → ZEZ, upd_upd → ZFd
open Go.DL.Val renaming cells_eq → ZFf
open Go.Proofs.Tryz renaming prog → ZEQ
open Int renaming reduceEq → ZFy, reduceToNat → ZEV
open List renaming append_assoc → ZFt, append_nil → ZFm, getD → ZE8, getElem?_append_left → ZFp, getElem?_append_right → ZFz, getElem?_eq_getElem → ZFq, getElem_of_mem → ZFa, length_append → ZE1, length_cons → ZE5, length_drop → ZFw, length_take → ZE9, map_cons → ZE7, map_nil → ZFo, mem_cons → ZFv, range → ZE4, take_length → ZFc
open Nat renaming le_refl → ZE6, reduceAdd → ZEX, reduceEqDiff → ZET, reduceLeDiff → ZEU
open Option renaming getD_some → ZFs
namespace Go.DL
open Go Go.Proofs
variable {kp:Option (List Nat)}{L:Loc}{ρ:Env}{s:St}{w:World}{os:List DOp}{ds:List D}{B:List (Nat × Rd)}{dst:Option Nat}{tmps:Array Value}{g:G}{Φ:Res→St→Prop}{ν:Nat→Nat}{xs:List Opd}{side:Prop}{row:Nat→List D}
structure Ck where
 d:Dfn
 at_:Int
 field:Int
 m:Msg
def Ck.cells(k:Ck)(bd bs:Nat):List D:=[.str k.d.name,YR k.d.msgs,.str k.d.start,.map bd,.map bs,.int .i64 k.at_,.int .i64 k.field,.str k.m.name,Zo k.m.fields]
structure K9(st:St)(x bd bs:Nat)(k:Ck)(dl:List (Str×Int))(sl:List (Str×Bool)):Prop where
 x:st x=some (.cells (k.cells bd bs))
 bd:st bd=some (.map (JZ dl))
 bs:st bs=some (.map (ZdS sl))
theorem K9.mono{st A:St}{x bd bs:Nat}{k:Ck}{dl:List (Str×Int)}{sl:List (Str×Bool)}(h:K9 st x bd bs k dl sl)(hs:st.sub A):K9 A x bd bs k dl sl:=⟨hs _ _ h.x,hs _ _ h.bd,hs _ _ h.bs⟩
def Zdg(d:D):Prop:=∃a f c,d=.iface 102 (.agg [.int .i64 a,.int .i64 f,.int .i64 c])
def Wz(ok:Bool)(st:St)(r:Res)(S:St):Prop:=S=st∧if ok then r=.ret (.tup []) else ∃d,Zdg d∧r=.panic d
theorem YF{ok:Bool}{st S:St}{d:D}(h:Wz ok st (.ret d) S):ok=true∧d=.tup []∧S=st:=by
 obtain⟨h1,h2⟩:=h
 cases ok with
 |true=>simp at h2;exact⟨rfl,h2,h1⟩
 |false=>simp at h2
theorem YE{ok:Bool}{st S:St}{d:D}(h:Wz ok st (.panic d) S):ok=false∧Zdg d∧S=st:=by
 obtain⟨h1,h2⟩:=h
 cases ok with
 |true=>simp at h2
 |false=>simp at h2;exact⟨rfl,h2,h1⟩
theorem Zba{ok:Bool}{st:St}(h:ok=true):Wz ok st (.ret (.tup [])) st:=by subst h;exact⟨rfl,rfl⟩
theorem Wi{ok:Bool}{st:St}{d:D}(h:ok=false)(hd:Zdg d):Wz ok st (.panic d) st:=by subst h;exact⟨rfl,d,hd,rfl⟩
def Zg2(a f c:Int):D:=.iface 102 (.agg [.int .i64 a,.int .i64 f,.int .i64 c])
theorem Zri(a f c:Int):Zdg (Zg2 a f c):=⟨a,f,c,rfl⟩
theorem Zfs{x bd bs:Nat}{k:Ck}{st:St}(hx:st x=sO (.cells (k.cells bd bs)))(fine:Bool)(code:Int):Zf ZEQ 219 [.ptr x 0,.bool fine,.int .i64 code] st (fun r S=>S=st∧r=if fine then .ret (.tup []) else .panic (Zg2 k.at_ k.field code)):=by
 refine Zh (cR 219 f219) fun F hF=>?_
 refine rg ?_
 refine cd (fun h=>?_) (fun h=>?_)
 ·have hf:fine=false:=by simpa using h
  refine rx (nd2 @hx @Ck.cells.eq_1) ?_
  refine ZtU rfl rfl rfl trivial ?_
  exact hF.pan st (ZES _) ⟨rfl,by rw[hf];rfl⟩
 have hf:fine=true:=by simpa using h
 refine Zv ?_
 exact hF.fin (.tup []) st rfl trivial (ZEW _) (ZES _) ⟨rfl,by rw[hf];rfl⟩
theorem ZU{x bd bs:Nat}{k:Ck}{st:St}(hx:st x=sO (.cells (k.cells bd bs)))(fine:Bool)(code:Int):Zf ZEQ 219 [.ptr x 0,.bool fine,.int .i64 code] st (Wz fine st) :=
 (Zfs hx fine code).mono fun r S ⟨h1,h2⟩=>by
  subst h1
  cases fine with
  |true=>exact⟨rfl,h2⟩
  |false=>exact⟨rfl,_,Zri _ _ _,h2⟩
theorem Zlw(o:Option Int):Wl (.int .i64 0) true (o.map Kx)=.tup [.int .i64 (o.getD 0),.bool o.isSome]:=by cases o<;>rfl
theorem ZmH(o:Option (Int×Int)):Wl (.agg [.int .i64 0,.int .i64 0]) true (o.map Qi)=.tup [.agg [.int .i64 (o.getD (0,0)).1,.int .i64 (o.getD (0,0)).2],.bool o.isSome]:=by cases o<;>rfl
theorem Zcr{x bd bs:Nat}{k:Ck}{dl:List (Str×Int)}{sl:List (Str×Bool)}{st:St}(hst:K9 st x bd bs k dl sl)(name:Str):Zf ZEQ 299 [.ptr x 0,.str name] st (Wz (Zp name dl).isSome st):=by
 refine Zh (cR 299 f299) fun F hF=>?_
 have e1:=Wa (vD:=Kx) ZY name dl
 have e3:=Ww ZY name
 simp only[show Qe name=D.str name from rfl]at e1 e3
 refine rh ?_
 refine Zm ?_
 simp only[Eqs,reduceCtorEq,ZEV,reduceIte,ZET,ZEX,ZEU,hst.x,hst.bd,Ck.cells,e1,e3,Zlw]
 refine rg ?_
 refine cV (ZU hst.x (Zp name dl).isSome 8) ?_ ?_
 ·rintro d S h
  obtain⟨c,rfl,rfl⟩:=YF h
  refine gR0 ?_
  exact hF.fin (.tup []) S rfl trivial (ZEW _) (ZES _) (Zba c)
 rintro d S h
 obtain⟨c,i,rfl⟩:=YE h
 exact hF.pan S (ZES _) (Wi c i)
theorem QO{x bd bs:Nat}{k:Ck}{st:St}(hx:st x=sO (.cells (k.cells bd bs))){n:Nat}(hn:k.field=n)(hl:n≤k.m.fields.length):ZS ZEQ 271 [.ptr x 0] st (Zo (k.m.fields.take n)) st:=by
 refine ZK (cR 271 f271) fun t F c=>?_
 clear t
 refine rg ?_
 refine rx (nd2 @hx (nd2 @Ck.cells.eq_1 (nd2 @eQ4 (nd2 @eQ1 @hn)))) ?_
 refine⟨by omega,by omega,by omega,?_⟩
 rw[ite_self]
 have j:ZV Fld.cells (fun i=>(k.m.fields.getD i dE).cells) (k.m.fields.take n):=ZV.self.take n
 exact c rfl (by trivial) (Zed (j.le (by rw[ZE9];omega))) (ZES _)
def Yv:Int→Int→List Int→Bool
 |_,_,[]=>true
 |low,high,n::r=>dC (low≤n)&&dC (n≤high)&&Yv n high r
theorem ZeR{x bd bs:Nat}{k:Ck}{st:St}(hx:st x=sO (.cells (k.cells bd bs)))(low high:Int)(l:List Int):Zf ZEQ 286 [.ptr x 0,.int .i64 low,.int .i64 high,slD 1 inC l] st (Wz (Yv low high l) st):=by
 refine Zbe (cR 286 f286) fun t F hF=>?_
 have hw:=(Y3 (t (slD 1 inC l) (by simp))).1
 unfold big at hw
 clear t
 refine rx @eQ1 ?_
 refine Zb (fr (l.length) (fun i Q=>∀lo,Yv low high l=Yv lo high (l.drop i)→i≤l.length→Q [(0,.d (.ptr x 0)),(1,.d (.int .i64 lo)),(2,.d (.int .i64 high)),(10,.d (slD 1 inC l)),(11,.d (.int .i64 l.length)),(12,.d (.int .i64 i))] [] st) (fun n c=>?_) fun u=>?_)
 ·intro i hn lo hS hi
  refine rg ?_
  refine Zd (Zs rfl trivial (fun h1=>?_) (fun h1=>?_))
  ·simp at h1
   rw[Wt h1,Yv]at hS
   generalize hv:l.getD i dE=v at *
   refine xA (nd2 @eQ1 (nd2 @inC.eq_1 @hv)) ?_
   refine rg ?_
   refine cV (ZU hx (dC (lo≤v)&&dC (v≤high)) 7) ?_ ?_
   ·rintro d S h
    obtain⟨j,rfl,rfl⟩:=YF h
    rw[j,ZFe]at hS
    refine gR0 ?_
    refine rg ?_
    refine gA ?_
    refine Za ?_
    exact c ((l.length)-(i+1)) (by omega) (i+1) rfl v hS (by omega)
   rintro d S h
   obtain⟨j,y,rfl⟩:=YE h
   rw[j,ZFh]at hS
   exact hF.pan S (ZES _) (Wi hS y)
  simp at h1
  obtain rfl:i=l.length:=by omega
  rw[List.drop_length,Yv]at hS
  refine ZP rfl ?_
  exact hF.fin (.tup []) st rfl trivial (ZEW _) (ZES _) (Zba hS)
 exact u _ 0 rfl low rfl (by omega)
def Zc2(f:Fld):Bool:=dC (1≤f.bits)&&dC (f.bits≤32)&&(!f.little ||(dC (8<f.bits)&&dC (f.bits.tmod 8=0)))
theorem ZgA{x bd bs:Nat}{k:Ck}{st:St}(hx:st x=sO (.cells (k.cells bd bs)))(f:Fld):Zf ZEQ 285 [.ptr x 0,.agg f.cells] st (Wz (Zc2 f) st):=by
 refine Zh (cR 285 f285) fun F hF=>?_
 refine rx @eQ0 ?_
 refine rx @eQ0 ?_
 have ht1:=Int.tmod_lt_of_pos f.bits (by decide:(0:Int)<8)
 have ht2:=Int.lt_tmod_of_pos f.bits (by decide:(0:Int)<8)
 refine⟨fun _=>⟨by decide,by omega,by omega⟩,?_⟩
 refine cV (ZU hx (Zc2 f) 6) ?_ ?_
 ·rintro d S h
  obtain⟨c,rfl,rfl⟩:=YF h
  refine gR0 ?_
  exact hF.fin (.tup []) S rfl trivial (ZEW _) (ZES _) (Zba c)
 rintro d S h
 obtain⟨c,i,rfl⟩:=YE h
 exact hF.pan S (ZES _) (Wi c i)
abbrev Qu(fs:List Fld):Zk6:=JK fs fs.length
abbrev ivP(fs:List Fld)(s:Wk):Int×Int×Int:=YL s fun k=>Zp k (Qu fs)
def Zcg(fs:List Fld)(t:ZT):Bool:=(Zp t.field (Qu fs)).isSome
def ZeU(fs:List Fld)(s:Wk):Bool:=ZN s&&(s.terms.all (Zcg fs)&&(dC ((ivP fs s).2.2=0)&&dC (0≤(ivP fs s).1)&&dC ((ivP fs s).2.1≤1048576)))
theorem Zcs{x bd bs:Nat}{k:Ck}{st:St}(hx:st x=sO (.cells (k.cells bd bs))){n:Nat}(hn:k.field=n)(hl:n≤k.m.fields.length)(f:Fld):
  Zf ZEQ 292 [.ptr x 0,.agg f.cells] st (Wz (ZeU (k.m.fields.take n) f.size) st):=by
 refine Zh (cR 292 f292) fun F hF=>?_
 have hS:=ZeU.eq_1 (k.m.fields.take n) f.size
 generalize ao:k.m.fields.take n=fs at *
 refine rx @eQ0 ?_
 refine rx @eQ0 ?_
 have ae:D.agg [D.int IntKind.i64 f.size.base,YD f.size.terms]=.agg f.size.cells:=rfl
 simp only[ae]
 refine clD (ZbA f.size) ?_
 refine cVD (ZU hx (ZN f.size) 9) ?_ ?_
 ·rintro d S h
  obtain⟨hv,rfl,rfl⟩:=YF h
  rw[hv,ZFe]at hS
  first|refine⟨by first|trivial|exact⟨rfl,rfl,trivial⟩|exact⟨rfl,trivial⟩,?_⟩|skip
  refine gR0 ?_
  refine rg ?_
  refine tX @ao (QO hx hn hl) ?_
  refine cV (ZeQ fs S) ?_ ?_
  ·rintro d S' ⟨b,hb,hd,rfl⟩
   cases hd
   refine gR0 ?_
   refine Zd (Zd ?_)
   refine xP 2 fun z2 h2=>?_
   refine xP 4 fun z4 h4=>?_
   have k2:=Zw h2
   have k4:=Zw h4
   have ad:=Zw k4.2
   have am:x≠b:=fun e=>by rw[e,hb]at hx;simp at hx
   have ap:x≠z2:=fun e=>by rw[e,k2.2]at hx;simp at hx
   have al:x≠z4:=fun e=>by rw[e,ad.2]at hx;simp at hx
   obtain⟨A,hA⟩:∃A,A=((S.upd b (.map (Zbo (JK fs fs.length)))).upd z2 (.cells [.ptr x 0])).upd z4 (.cells [.map b]):=⟨_,rfl⟩
   have gx:A x=sO (.cells (k.cells bd bs)):=by rw[hA,ZE0 _ _ al,ZE0 _ _ ap,ZE0 _ _ am];exact hx
   have gb:A b=sO (.map (Zbo (Qu fs))):=by rw[hA,ZE0 _ _ ad.1.symm,ZE0 _ _ k2.1.symm];exact ZEZ _ _ _
   have g2:A z2=sO (.cells [.ptr x 0]):=by rw[hA,ZE0 _ _ k4.1.symm];exact ZEZ _ _ _
   have g4:A z4=sO (.cells [.map b]):=by rw[hA];exact ZEZ _ _ _
   have ag:S.sub A:=by rw[hA];exact ZFx (ZFi _ hb) (ZFx (ZFi _ h2) (ZFi _ h4))
   rw[←hA]
   clear hA h2 h4 k2 k4 ad
   refine rx @eQ0 ?_
   simp only[ae]
   have hfew:=J7 hv
   refine cV (ZdM f.size hv _) ?_ ?_
   ·rintro d S' ⟨y,hy,hd,rfl⟩
    cases hd
    refine gR0 ?_
    refine Zb ?_
    refine KK hF rfl trivial [2,4] (by show([2,4]:List Nat).Nodup;decide) (W1 hy) (Zct f.size.terms (by unfold big;omega) y).Y (fun j hj=>rfl)
     (fun j=>if Zcg fs (f.size.terms.getD j dE) then .next else .pan (Zg2 k.at_ k.field 8)) (fun j a=>a=A) rfl ?_ ?_ ?_ ?_ ?_ ?_
    ·intro j a hj z hB F' ready ak hdr ah ab
     subst hB
     simp only[Eqs,reduceCtorEq,ZEV,reduceIte,ZET,ZEX,ZEU,WP,Kb,Jh,Ko,List.isEmpty_nil,List.isEmpty_cons]
     refine rg ?_
     refine ah fun aj=>?_
     generalize htm:f.size.terms.getD j dE=tm at *
     have e1:=Wa (vD:=Qi) ZY tm.field (Qu fs)
     have e3:=Ww ZY tm.field
     simp only[show Qe tm.field=D.str tm.field from rfl]at e1 e3
     refine rh ?_
     refine Zm ?_
     simp only[Eqs,reduceCtorEq,ZEV,reduceIte,ZET,ZEX,ZEU,Zq g4,Zq gb,e1,e3,ZmH]
     refine rh ?_
     refine Zm ?_
     simp only[Eqs,reduceCtorEq,ZEV,reduceIte,ZET,ZEX,ZEU,Zq g2]
     refine cV (Zfs (st:=a.or ak) (Zq gx) (Zp tm.field (Qu fs)).isSome 8) ?_ ?_
     ·rintro d S' ⟨rfl,h⟩
      cases hk:(Zp tm.field (Qu fs)).isSome with
      |false=>rw[hk]at h;simp at h
      |true =>
       rw[hk]at h
       simp at h
       subst h
       refine gR0 ?_
       refine Zj ?_
       exact ab.fin ⟨by rw[if_pos (show Zcg fs tm=true from hk)],rfl⟩ aj (ZES _)
     rintro d S' ⟨rfl,h⟩
     cases hk:(Zp tm.field (Qu fs)).isSome with
     |true=>rw[hk]at h;simp at h
     |false =>
      rw[hk]at h
      simp at h
      subst h
      exact ab.pan ⟨by rw[if_neg (by rw[show Zcg fs tm=false from hk];simp)],rfl⟩ aj (ZES _)
    ·intro q a z hB hq
     subst hB
     have v:f.size.terms.all (Zcg fs)=true:=by
      apply List.all_eq_true.2
      intro t ht
      obtain⟨i,hi,rfl⟩:=ZFa ht
      have:=z i hi
      split at this
      ·rename_i h;simpa[ZE8,hi]using h
      simp at this
     rw[v,ZFe]at hS
     rw[Qj hq]
     refine rh ?_
     refine Zm ?_
     simp only[Eqs,reduceCtorEq,ZEV,reduceIte,ZET,ZEX,ZEU,Zq g4,Fld.cells]
     simp only[ae]
     refine cV (ZlG f.size b (Qu fs) _ (Zq gb)) ?_ ?_
     ·rintro d S' ⟨hd,rfl⟩
      cases hd
      refine gQ @Qi.eq_1 ?_
      refine rh ?_
      refine Zm ?_
      simp only[Eqs,reduceCtorEq,ZEV,reduceIte,ZET,ZEX,ZEU,Zq g2]
      refine cV (ZU (st:=a.or (ZFj q .dfr)) (Zq gx) (dC ((ivP fs f.size).2.2=0)&&dC (0≤(ivP fs f.size).1)&&dC ((ivP fs f.size).2.1≤1048576)) 9) ?_ ?_
      ·rintro d S' h
       obtain⟨ac,rfl,rfl⟩:=YF h
       rw[ac]at hS
       refine gR0 ?_
       exact hF.fin1 hq (.tup []) S rfl trivial (ZEW _) ag (Zba hS)
      rintro d S' h
      obtain⟨ac,af,rfl⟩:=YE h
      rw[ac]at hS
      exact hF.pan1 hq S ag (Wi hS af)
     rintro d S' ⟨hd,_⟩
     cases hd
    ·intro q a m hm z u
     split at u<;>simp at u
    ·intro q a m id hm z u
     split at u<;>simp at u
    ·intro q a m d hm z u hB hq
     subst hB
     rw[Qj hq]
     have ai:Zcg fs (f.size.terms.getD m dE)=false:=by
      split at u
      ·simp at u
      rename_i h;simpa using h
     have v:f.size.terms.all (Zcg fs)=false:=by
      apply List.all_eq_false.2
      exact⟨_,Zy hm,by rw[ai];simp⟩
     rw[v,ZFh]at hS
     split at u
     ·simp at u
     simp at u
     subst u
     exact hF.pan1 hq S ag (Wi hS (Zri _ _ _))
    intro m c u
    split at u<;>simp at u
   rintro d S' ⟨y,hy,hd,_⟩
   cases hd
  rintro d S' ⟨b,hb,hd,_⟩
  cases hd
 rintro d S h
 obtain⟨hv,af,rfl⟩:=YE h
 rw[hv,ZFh]at hS
 exact hF.pan S (ZES _) (Wi hS af)
def Zcb(dl:List (Str×Int))(high:Int):Int→List Yg→Bool
 |_,[]=>true
 |low,c::r=>Yv low high [c.low,c.high]&&((Zp c.of dl).isSome&&Zcb dl high (c.high+1) r)
def Ze1(fs:List Fld)(f:Fld):Bool:=fs.any fun o=>dC (o.kind=9)&&dC (o.tag=f.tag)
def Zh5(fs:List Fld)(dl:List (Str×Int))(f:Fld):Bool :=
 ((Zp f.tag (Qu fs)).isSome&&!Ze1 fs f)&&((dC (1≤(f.cases.length:Int))&&dC ((f.cases.length:Int)≤40))&&Zcb dl ((Zp f.tag (Qu fs)).getD (0,0)).2 ((Zp f.tag (Qu fs)).getD (0,0)).1 f.cases)
theorem Zki(o:Fld)(f:Fld)(y:Nat)(st:St)(hy:st y=sO (.cells f.cells)):ZS ZEQ 320 [.agg o.cells,.ptr y 0] st (.bool (dC (o.kind=9)&&dC (o.tag=f.tag))) st:=by
 refine ZK (cR 320 f320) fun i F c=>?_
 clear i
 refine rx @eQ0 ?_
 refine rx (nd2 @hy @eQ0) ?_
 exact c rfl (by trivial) (ZEW _) (ZES _)
theorem Zw0(a b:Int):ZV inC (Z4 [.int .i64 0] ([0,1].zip [.int .i64 a,.int .i64 b])) [a,b]:=fun i hi=>by
 match i,hi with
 |0,_=>rfl
 |1,_=>rfl
theorem ZcU{x bd bs:Nat}{k:Ck}{st:St}(hx:st x=sO (.cells (k.cells bd bs)))(low high a b:Int):Zf ZEQ 286 [.ptr x 0,.int .i64 low,.int .i64 high,.sl .full 2 1 (Z4 [.int .i64 0] ([0,1].zip [.int .i64 a,.int .i64 b]))] st (Wz (Yv low high [a,b]) st) :=
 Zf.leA (.cons (ZEW _) (.cons (ZEW _) (.cons (ZEW _) (LeC.one ((Zw0 a b).le rfl))))) (ZeR hx low high [a,b])
theorem QD{x bd bs:Nat}{k:Ck}{st:St}(hx:st x=sO (.cells (k.cells bd bs)))(low high a:Int):Zf ZEQ 286 [.ptr x 0,.int .i64 low,.int .i64 high,.sl .full 1 1 (Z4 [.int .i64 0] ([0].zip [.int .i64 a]))] st (Wz (Yv low high [a]) st) :=
 Zf.leA (.cons (ZEW _) (.cons (ZEW _) (.cons (ZEW _) (LeC.one ((ZV.one (f:=inC) (x:=a) rfl).le rfl))))) (ZeR hx low high [a])
theorem Zm9{x bd bs:Nat}{k:Ck}{dl:List (Str×Int)}{sl:List (Str×Bool)}{st:St}(hst:K9 st x bd bs k dl sl){n:Nat}(hn:k.field=n)(hl:n≤k.m.fields.length)(f:Fld)(hR:((Zp f.tag (Qu (k.m.fields.take n))).getD (0,0)).2<4611686018427387904):
  Zf ZEQ 303 [.ptr x 0,.agg f.cells] st (Wz (Zh5 (k.m.fields.take n) dl f) st):=by
 refine Zbe (cR 303 f303) fun ae F hF=>?_
 have af:=(ZzT (s:=f) (ae _ (by simp))).cases
 clear ae
 have hx:=hst.x
 have hS:=Zh5.eq_1 (k.m.fields.take n) dl f
 generalize ad:k.m.fields.take n=fs at *
 have e1:=Wa (vD:=Qi) ZY f.tag (Qu fs)
 have e3:=Ww ZY f.tag
 simp only[show Qe f.tag=D.str f.tag from rfl]at e1 e3
 refine rx @eQ0 ?_
 refine rx @eQ0 ?_
 refine tXD @ad (QO hx hn hl) ?_
 refine cVD (ZeQ fs st) ?_ ?_
 ·rintro d S ⟨b,hb,hd,rfl⟩
  cases hd
  first|refine⟨by first|trivial|exact⟨rfl,rfl,trivial⟩|exact⟨rfl,trivial⟩,?_⟩|skip
  have hxb:x≠b:=fun e=>by rw[e,hb]at hx;simp at hx
  generalize hr:(Zp f.tag (Qu fs)).getD (0,0)=r at *
  refine YJ ?_
  simp only[Eqs,reduceCtorEq,ZEV,reduceIte,ZET,ZEX,ZEU,e1,e3,ZmH,hr,ZEZ,ZFd,Yt,Yu]
  refine Zd ?_
  refine xP 3 fun y hy=>?_
  obtain⟨A,hA⟩:∃A,A=((st.upd b (.map (Zbo (JK fs fs.length)))).upd y (.cells f.cells)):=⟨_,rfl⟩
  have v:st.sub A:=by rw[hA];exact ZFx (ZFi _ hb) (ZFi _ hy)
  have gy:A y=sO (.cells f.cells):=by rw[hA];exact ZEZ _ _ _
  have ab:=hst.mono v
  have ah:[D.str f.name,D.int IntKind.i64 f.kind,D.int IntKind.i64 f.bits,D.bool f.little,D.bool f.loose,D.int IntKind.i64 f.low,D.int IntKind.i64 f.high,D.int IntKind.i64 f.size.base,YD f.size.terms,D.str f.of,D.str f.tag,D.str f.from_,Yy f.cases,D.int IntKind.i64 f.check,D.int IntKind.i64 f.key]=f.cells:=rfl
  rw[ah,←hA]
  clear hA hy
  refine rg ?_
  refine tX @ad (QO ab.x hn hl) ?_
  refine ct (ZcW fs (.fn (.func 320) [] [.ptr y 0]) (fun o=>dC (o.kind=9)&&dC (o.tag=f.tag)) (fun _=>A) (fun i hi=>(Zki _ f y A gy).VT (first:=[]) (args:=[_]) (caps:=[_]))) ?_
  rw[show(fs.any fun o=>dC (o.kind=9)&&dC (o.tag=f.tag))=Ze1 fs f from rfl]
  refine rg ?_
  refine cV (ZU ab.x ((Zp f.tag (Qu fs)).isSome&&!Ze1 fs f) 8) ?_ ?_
  ·rintro d S h
   obtain⟨j,rfl,rfl⟩:=YF h
   rw[j,ZFe]at hS
   refine gR0 ?_
   refine rx (nd2 @gy (nd2 @eQ0 (nd2 @Yy.eq_1 @eQ1))) ?_
   refine cV (ZU ab.x (dC (1≤(f.cases.length:Int))&&dC ((f.cases.length:Int)≤40)) 3) ?_ ?_
   ·rintro d S2 h
    obtain⟨j,rfl,rfl⟩:=YF h
    rw[j,ZFe]at hS
    simp only[ZEY,decide_eq_true_eq]at j
    refine gR0 ?_
    refine rg ?_
    refine rx (nd2 @gy (nd2 @eQ0 (nd2 @Yy.eq_1 @eQ1))) ?_
    refine Zb (fr (f.cases.length) (fun i Q=>∀lo,Zcb dl r.2 r.1 f.cases=Zcb dl r.2 lo (f.cases.drop i)→i≤f.cases.length→Q [(0,.d (.ptr x 0)),(4,.loc 4 0),(7,.d (.int .i64 lo)),(45,.d (Yy f.cases)),(46,.d (.int .i64 f.cases.length)),(47,.d (.int .i64 i))] [(4,[.int .i64 r.1,.int .i64 r.2])] S2) (fun n ac=>?_) fun ag=>?_)
    ·intro i hni lo hL hi
     refine rg ?_
     refine Zd (Zs rfl trivial (fun h1=>?_) (fun h1=>?_))
     ·simp at h1
      rw[Wt h1,Zcb]at hL
      have hcb:-9223372036854775808≤(f.cases.getD i dE).high∧(f.cases.getD i dE).high≤9223372036854775807:=(af _ (Zy h1)).high
      generalize hc:f.cases.getD i dE=c at *
      refine xA (nd2 @Yy.eq_1 (nd2 @eQ1 (nd2 @Yg.cells.eq_1 @hc))) ?_
      refine rx @Yg.cells.eq_1 ?_
      refine cV (ZcU ab.x lo r.2 c.low c.high) ?_ ?_
      ·rintro d S3 h
       obtain⟨u,rfl,rfl⟩:=YF h
       rw[u,ZFe]at hL
       simp only[Yv,Bool.and_true,ZEY,decide_eq_true_eq]at u
       refine gR0 ?_
       refine rx @Yg.cells.eq_1 ?_
       refine cV (Zcr ab c.of) ?_ ?_
       ·rintro d S4 h
        obtain⟨z,rfl,rfl⟩:=YF h
        rw[z,ZFe]at hL
        refine gR0 ?_
        refine xA @Yg.cells.eq_1 ?_
        refine gA ?_
        refine Za ?_
        exact ac ((f.cases.length)-(i+1)) (by omega) (i+1) rfl (c.high+1) hL (by omega)
       rintro d S4 h
       obtain⟨z,t,rfl⟩:=YE h
       rw[z,ZFh]at hL
       exact hF.pan st v (Wi (hS.trans hL) t)
      rintro d S3 h
      obtain⟨u,t,rfl⟩:=YE h
      rw[u,ZFh]at hL
      exact hF.pan st v (Wi (hS.trans hL) t)
     simp at h1
     obtain rfl:i=f.cases.length:=by omega
     rw[List.drop_length,Zcb]at hL
     refine ZP rfl ?_
     exact hF.fin (.tup []) st rfl trivial (ZEW _) v (Zba (hS.trans hL))
    exact ag _ 0 rfl r.1 rfl (by omega)
   rintro d S2 h
   obtain⟨j,t,rfl⟩:=YE h
   rw[j,ZFh]at hS
   exact hF.pan st v (Wi hS t)
  rintro d S h
  obtain⟨j,t,rfl⟩:=YE h
  rw[j,ZFh]at hS
  exact hF.pan st v (Wi hS t)
 rintro d S ⟨b,hb,hd,_⟩
 cases hd
def ZqT(f:Fld):Fld:={ f with bits:=0,little:=false,low:=0,high:=0 }
theorem Zkk(f:Fld)(y:Nat)(s:St)(hy:s y=sO (.cells f.cells)):ZS ZEQ 283 [.ptr y 0] s (.tup []) (s.upd y (.cells (ZqT f).cells)):=by
 refine Zh (cR 283 f283) fun F hF=>?_
 refine rx (nd2 @hy (nd2 @eQ0 (nd2 @ZEZ (nd2 @ZFd (nd2 @Yt @Yu))))) ?_
 exact hF.fin (.tup []) _ rfl trivial (ZEW _) (ZES _) ⟨rfl,rfl⟩
def ZqU(f:Fld):Fld:={ f with bits:=0,little:=false,low:=0 }
theorem Zkm(f:Fld)(y:Nat)(s:St)(hy:s y=sO (.cells f.cells)):ZS ZEQ 287 [.ptr y 0] s (.tup []) (s.upd y (.cells (ZqU f).cells)):=by
 refine Zh (cR 287 f287) fun F hF=>?_
 refine rx (nd2 @hy (nd2 @eQ0 (nd2 @ZEZ (nd2 @ZFd (nd2 @Yt @Yu))))) ?_
 exact hF.fin (.tup []) _ rfl trivial (ZEW _) (ZES _) ⟨rfl,rfl⟩
def ZqV(f:Fld):Fld:={ f with loose:=false,low:=0,high:=0 }
theorem Zko(f:Fld)(y:Nat)(s:St)(hy:s y=sO (.cells f.cells)):ZS ZEQ 289 [.ptr y 0] s (.tup []) (s.upd y (.cells (ZqV f).cells)):=by
 refine Zh (cR 289 f289) fun F hF=>?_
 refine rx (nd2 @hy (nd2 @eQ0 (nd2 @ZEZ (nd2 @ZFd (nd2 @Yt @Yu))))) ?_
 exact hF.fin (.tup []) _ rfl trivial (ZEW _) (ZES _) ⟨rfl,rfl⟩
def Zl5(f:Fld):Fld:={ f with size:=⟨0,[]⟩ }
theorem Zkq(f:Fld)(y:Nat)(s:St)(hy:s y=sO (.cells f.cells)):ZS ZEQ 291 [.ptr y 0] s (.tup []) (s.upd y (.cells (Zl5 f).cells)):=by
 refine Zh (cR 291 f291) fun F hF=>?_
 refine rx (nd2 @hy (nd2 @eQ0 (nd2 @ZEZ (nd2 @ZFd (nd2 @Yt @Yu))))) ?_
 refine J8 (ds':=(Zl5 f).cells) (ZEZ _ _ _) (.cons (ZEW _) (.cons (ZEW _) (.cons (ZEW _) (.cons (ZEW _) (.cons (ZEW _) (.cons (ZEW _) (.cons (ZEW _) (.cons (ZEW _) (.cons (WH (by simp)) (.cons (ZEW _) (.cons (ZEW _) (.cons (ZEW _) (.cons (ZEW _) (.cons (ZEW _) (.cons (ZEW _) (.nil)))))))))))))))) ?_
 rw[ZFd]
 exact hF.fin (.tup []) _ rfl trivial (ZEW _) (ZES _) ⟨rfl,rfl⟩
def ZqW(f:Fld):Fld:={ f with low:=0,high:=0 }
theorem Zkr(f:Fld)(y:Nat)(s:St)(hy:s y=sO (.cells f.cells)):ZS ZEQ 293 [.ptr y 0] s (.tup []) (s.upd y (.cells (ZqW f).cells)):=by
 refine Zh (cR 293 f293) fun F hF=>?_
 refine rx (nd2 @hy (nd2 @eQ0 (nd2 @ZEZ (nd2 @ZFd (nd2 @Yt @Yu))))) ?_
 exact hF.fin (.tup []) _ rfl trivial (ZEW _) (ZES _) ⟨rfl,rfl⟩
def ZqX(f:Fld):Fld:={ f with loose:=false,high:=0 }
theorem ZiY(f:Fld)(y:Nat)(s:St)(hy:s y=sO (.cells f.cells)):ZS ZEQ 295 [.ptr y 0] s (.tup []) (s.upd y (.cells (ZqX f).cells)):=by
 refine Zh (cR 295 f295) fun F hF=>?_
 refine rx (nd2 @hy (nd2 @eQ0 (nd2 @ZEZ (nd2 @ZFd (nd2 @Yt @Yu))))) ?_
 exact hF.fin (.tup []) _ rfl trivial (ZEW _) (ZES _) ⟨rfl,rfl⟩
def Zl6(f:Fld):Fld:={ f with of:=[],size:=⟨0,[]⟩ }
theorem Zi0(f:Fld)(y:Nat)(s:St)(hy:s y=sO (.cells f.cells)):ZS ZEQ 297 [.ptr y 0] s (.tup []) (s.upd y (.cells (Zl6 f).cells)):=by
 refine Zh (cR 297 f297) fun F hF=>?_
 refine rx (nd2 @hy (nd2 @eQ0 (nd2 @ZEZ (nd2 @ZFd (nd2 @Yt @Yu))))) ?_
 refine J8 (ds':=(Zl6 f).cells) (ZEZ _ _ _) (.cons (ZEW _) (.cons (ZEW _) (.cons (ZEW _) (.cons (ZEW _) (.cons (ZEW _) (.cons (ZEW _) (.cons (ZEW _) (.cons (ZEW _) (.cons (WH (by simp)) (.cons (ZEW _) (.cons (ZEW _) (.cons (ZEW _) (.cons (ZEW _) (.cons (ZEW _) (.cons (ZEW _) (.nil)))))))))))))))) ?_
 rw[ZFd]
 exact hF.fin (.tup []) _ rfl trivial (ZEW _) (ZES _) ⟨rfl,rfl⟩
def ZqY(f:Fld):Fld:={ f with of:=[] }
theorem Zi2(f:Fld)(y:Nat)(s:St)(hy:s y=sO (.cells f.cells)):ZS ZEQ 300 [.ptr y 0] s (.tup []) (s.upd y (.cells (ZqY f).cells)):=by
 refine Zh (cR 300 f300) fun F hF=>?_
 refine rx (nd2 @hy (nd2 @eQ0 (nd2 @ZEZ (nd2 @ZFd (nd2 @Yt @Yu))))) ?_
 exact hF.fin (.tup []) _ rfl trivial (ZEW _) (ZES _) ⟨rfl,rfl⟩
def Zl7(f:Fld):Fld:={ f with tag:=[],cases:=[] }
theorem Zi4(f:Fld)(y:Nat)(s:St)(hy:s y=sO (.cells f.cells)):ZS ZEQ 302 [.ptr y 0] s (.tup []) (s.upd y (.cells (Zl7 f).cells)):=by
 refine Zh (cR 302 f302) fun F hF=>?_
 refine rx (nd2 @hy (nd2 @eQ0 (nd2 @ZEZ (nd2 @ZFd (nd2 @Yt @Yu))))) ?_
 refine J8 (ds':=(Zl7 f).cells) (ZEZ _ _ _) (.cons (ZEW _) (.cons (ZEW _) (.cons (ZEW _) (.cons (ZEW _) (.cons (ZEW _) (.cons (ZEW _) (.cons (ZEW _) (.cons (ZEW _) (.cons (ZEW _) (.cons (ZEW _) (.cons (ZEW _) (.cons (ZEW _) (.cons (WH (by simp)) (.cons (ZEW _) (.cons (ZEW _) (.nil)))))))))))))))) ?_
 rw[ZFd]
 exact hF.fin (.tup []) _ rfl trivial (ZEW _) (ZES _) ⟨rfl,rfl⟩
def ZnP(f:Fld):Fld:={ f with bits:=0 }
theorem Zi5(f:Fld)(y:Nat)(s:St)(hy:s y=sO (.cells f.cells)):ZS ZEQ 304 [.ptr y 0] s (.tup []) (s.upd y (.cells (ZnP f).cells)):=by
 refine Zh (cR 304 f304) fun F hF=>?_
 refine rx (nd2 @hy (nd2 @eQ0 (nd2 @ZEZ (nd2 @ZFd (nd2 @Yt @Yu))))) ?_
 exact hF.fin (.tup []) _ rfl trivial (ZEW _) (ZES _) ⟨rfl,rfl⟩
def ZnQ(f:Fld):Fld:={ f with from_:=[],check:=0 }
theorem Zi7(f:Fld)(y:Nat)(s:St)(hy:s y=sO (.cells f.cells)):ZS ZEQ 306 [.ptr y 0] s (.tup []) (s.upd y (.cells (ZnQ f).cells)):=by
 refine Zh (cR 306 f306) fun F hF=>?_
 refine rx (nd2 @hy (nd2 @eQ0 (nd2 @ZEZ (nd2 @ZFd (nd2 @Yt @Yu))))) ?_
 exact hF.fin (.tup []) _ rfl trivial (ZEW _) (ZES _) ⟨rfl,rfl⟩
def ZjP(f:Fld):Fld:={ f with of:=[],size:=⟨0,[]⟩,key:=0 }
theorem Zi9(f:Fld)(y:Nat)(s:St)(hy:s y=sO (.cells f.cells)):ZS ZEQ 308 [.ptr y 0] s (.tup []) (s.upd y (.cells (ZjP f).cells)):=by
 refine Zh (cR 308 f308) fun F hF=>?_
 refine rx (nd2 @hy (nd2 @eQ0 (nd2 @ZEZ (nd2 @ZFd (nd2 @Yt @Yu))))) ?_
 refine J8 (ds':=(ZjP f).cells) (ZEZ _ _ _) (.cons (ZEW _) (.cons (ZEW _) (.cons (ZEW _) (.cons (ZEW _) (.cons (ZEW _) (.cons (ZEW _) (.cons (ZEW _) (.cons (ZEW _) (.cons (WH (by simp)) (.cons (ZEW _) (.cons (ZEW _) (.cons (ZEW _) (.cons (ZEW _) (.cons (ZEW _) (.cons (ZEW _) (.nil)))))))))))))))) ?_
 rw[ZFd]
 exact hF.fin (.tup []) _ rfl trivial (ZEW _) (ZES _) ⟨rfl,rfl⟩
def ck1(f:Fld):Bool:=Zc2 f&&Yv 0 (2 ^ f.bits.toNat-1) [f.low,f.high]
def ck2(f:Fld):Bool:=Zc2 f&&Yv 0 (2 ^ f.bits.toNat-1) [f.low]
def ck3(f:Fld):Bool:=Yv 0 34359738367 [f.low,f.high]
def ck5(f:Fld):Bool:=Yv 0 255 [f.low]&&Yv 0 1048576 [f.high]
def ck6(f:Fld):Bool:=Yv 2 1048576 [f.high]
def ck7(fs:List Fld)(dl:List (Str×Int))(f:Fld):Bool:=(Zp f.of dl).isSome&&ZeU fs f.size
def ck8(dl:List (Str×Int))(f:Fld):Bool:=(Zp f.of dl).isSome
def Zug(f:Fld):Bool:=dC (f.bits=2) ||decide (f.bits=4) ||(dC (8≤f.bits)&&dC (f.bits≤512)&&dC (f.bits.tmod 8=0))
def Zuh(fs:List Fld)(f:Fld):Bool:=Yv 1 3 [f.check]&&dC (0≤Zk (fun x=>dC (x.name=f.from_)) fs)
def Zui(fs:List Fld)(sl:List (Str×Bool))(f:Fld):Bool:=Yv 0 4294967295 [f.key]&&((Zp f.of sl).getD false&&ZeU fs f.size)
theorem Zdn(f:Fld):D.agg [D.str f.name,D.int IntKind.i64 f.kind,D.int IntKind.i64 f.bits,D.bool f.little,D.bool f.loose,D.int IntKind.i64 f.low,D.int IntKind.i64 f.high,D.int IntKind.i64 f.size.base,YD f.size.terms,D.str f.of,D.str f.tag,D.str f.from_,Yy f.cases,D.int IntKind.i64 f.check,D.int IntKind.i64 f.key]=.agg f.cells:=rfl
theorem Zkl{x bd bs:Nat}{k:Ck}{dl:List (Str×Int)}{sl:List (Str×Bool)}{st:St}(hst:K9 st x bd bs k dl sl){n:Nat}(hn:k.field=n)(hl:n≤k.m.fields.length)(f:Fld):
  Zf ZEQ 284 [.ptr x 0,.agg f.cells] st (Wz (ck1 f) st):=by
 refine Zh (cR 284 f284) fun F hF=>?_
 have hS:=ck1.eq_1 f
 refine rx @eQ0 ?_
 refine rx @eQ0 ?_
 simp only[Zdn]
 refine cV (ZgA hst.x f) ?_ ?_
 ·rintro d S h
  obtain⟨c,rfl,rfl⟩:=YF h
  rw[c,ZFe]at hS
  first|refine⟨by first|trivial|exact⟨rfl,trivial⟩,?_⟩|skip
  refine gR0 ?_
  have hb1:1≤f.bits∧f.bits≤32:=by
   unfold Zc2 at c
   simp only[ZEY,decide_eq_true_eq]at c
   exact c.1
  have j:=Zyf (b:=f.bits) (by omega) (by omega)
  have h2p:=ZdD (b:=f.bits) (by omega) (by omega)
  refine rx @eQ0 ?_
  rw[j]
  generalize hpw:(2:Int) ^ f.bits.toNat=pw at *
  refine⟨by omega,by omega,by omega,by omega,by omega,?_⟩
  refine cV0 (ZcU hst.x 0 (pw-1) f.low f.high) ?_ ?_
  ·rintro d S h
   obtain⟨c,rfl,rfl⟩:=YF h
   rw[c]at hS
   refine gR0 ?_
   exact hF.fin (.tup []) _ rfl trivial (ZEW _) (ZES _) (Zba hS)
  rintro d S h
  obtain⟨c,i,rfl⟩:=YE h
  rw[c]at hS
  exact hF.pan _ (ZES _) (Wi hS i)
 rintro d S h
 obtain⟨c,i,rfl⟩:=YE h
 rw[c,ZFh]at hS
 exact hF.pan _ (ZES _) (Wi hS i)
theorem Zkn{x bd bs:Nat}{k:Ck}{dl:List (Str×Int)}{sl:List (Str×Bool)}{st:St}(hst:K9 st x bd bs k dl sl){n:Nat}(hn:k.field=n)(hl:n≤k.m.fields.length)(f:Fld):
  Zf ZEQ 288 [.ptr x 0,.agg f.cells] st (Wz (ck2 f) st):=by
 refine Zh (cR 288 f288) fun F hF=>?_
 have hS:=ck2.eq_1 f
 refine rx @eQ0 ?_
 refine rx @eQ0 ?_
 simp only[Zdn]
 refine cV (ZgA hst.x f) ?_ ?_
 ·rintro d S h
  obtain⟨c,rfl,rfl⟩:=YF h
  rw[c,ZFe]at hS
  first|refine⟨by first|trivial|exact⟨rfl,trivial⟩,?_⟩|skip
  refine gR0 ?_
  have hb1:1≤f.bits∧f.bits≤32:=by
   unfold Zc2 at c
   simp only[ZEY,decide_eq_true_eq]at c
   exact c.1
  have j:=Zyf (b:=f.bits) (by omega) (by omega)
  have h2p:=ZdD (b:=f.bits) (by omega) (by omega)
  refine rx @eQ0 ?_
  rw[j]
  generalize hpw:(2:Int) ^ f.bits.toNat=pw at *
  refine⟨by omega,by omega,by omega,by omega,by omega,?_⟩
  refine cV0 (QD hst.x 0 (pw-1) f.low) ?_ ?_
  ·rintro d S h
   obtain⟨c,rfl,rfl⟩:=YF h
   rw[c]at hS
   refine gR0 ?_
   exact hF.fin (.tup []) _ rfl trivial (ZEW _) (ZES _) (Zba hS)
  rintro d S h
  obtain⟨c,i,rfl⟩:=YE h
  rw[c]at hS
  exact hF.pan _ (ZES _) (Wi hS i)
 rintro d S h
 obtain⟨c,i,rfl⟩:=YE h
 rw[c,ZFh]at hS
 exact hF.pan _ (ZES _) (Wi hS i)
theorem Zkp{x bd bs:Nat}{k:Ck}{dl:List (Str×Int)}{sl:List (Str×Bool)}{st:St}(hst:K9 st x bd bs k dl sl){n:Nat}(hn:k.field=n)(hl:n≤k.m.fields.length)(f:Fld):
  Zf ZEQ 290 [.ptr x 0,.agg f.cells] st (Wz (ck3 f) st):=by
 refine Zh (cR 290 f290) fun F hF=>?_
 have hS:=ck3.eq_1 f
 refine rx @eQ0 ?_
 refine rx @eQ0 ?_
 refine cV (ZcU hst.x 0 34359738367 f.low f.high) ?_ ?_
 ·rintro d S h
  obtain⟨c,rfl,rfl⟩:=YF h
  rw[c]at hS
  refine gR0 ?_
  exact hF.fin (.tup []) _ rfl trivial (ZEW _) (ZES _) (Zba hS)
 rintro d S h
 obtain⟨c,i,rfl⟩:=YE h
 rw[c]at hS
 exact hF.pan _ (ZES _) (Wi hS i)
theorem Zks{x bd bs:Nat}{k:Ck}{dl:List (Str×Int)}{sl:List (Str×Bool)}{st:St}(hst:K9 st x bd bs k dl sl){n:Nat}(hn:k.field=n)(hl:n≤k.m.fields.length)(f:Fld):
  Zf ZEQ 294 [.ptr x 0,.agg f.cells] st (Wz (ck5 f) st):=by
 refine Zh (cR 294 f294) fun F hF=>?_
 have hS:=ck5.eq_1 f
 refine rx @eQ0 ?_
 refine rx @eQ0 ?_
 refine cV (QD hst.x 0 255 f.low) ?_ ?_
 ·rintro d S h
  obtain⟨c,rfl,rfl⟩:=YF h
  rw[c,ZFe]at hS
  first|refine⟨by first|trivial|exact⟨rfl,trivial⟩,?_⟩|skip
  refine gR0 ?_
  refine rx @eQ0 ?_
  refine cV (QD hst.x 0 1048576 f.high) ?_ ?_
  ·rintro d S h
   obtain⟨c,rfl,rfl⟩:=YF h
   rw[c]at hS
   refine gR0 ?_
   exact hF.fin (.tup []) _ rfl trivial (ZEW _) (ZES _) (Zba hS)
  rintro d S h
  obtain⟨c,i,rfl⟩:=YE h
  rw[c]at hS
  exact hF.pan _ (ZES _) (Wi hS i)
 rintro d S h
 obtain⟨c,i,rfl⟩:=YE h
 rw[c,ZFh]at hS
 exact hF.pan _ (ZES _) (Wi hS i)
theorem ZiZ{x bd bs:Nat}{k:Ck}{dl:List (Str×Int)}{sl:List (Str×Bool)}{st:St}(hst:K9 st x bd bs k dl sl){n:Nat}(hn:k.field=n)(hl:n≤k.m.fields.length)(f:Fld):
  Zf ZEQ 296 [.ptr x 0,.agg f.cells] st (Wz (ck6 f) st):=by
 refine Zh (cR 296 f296) fun F hF=>?_
 have hS:=ck6.eq_1 f
 refine rx @eQ0 ?_
 refine rx @eQ0 ?_
 refine cV (QD hst.x 2 1048576 f.high) ?_ ?_
 ·rintro d S h
  obtain⟨c,rfl,rfl⟩:=YF h
  rw[c]at hS
  refine gR0 ?_
  exact hF.fin (.tup []) _ rfl trivial (ZEW _) (ZES _) (Zba hS)
 rintro d S h
 obtain⟨c,i,rfl⟩:=YE h
 rw[c]at hS
 exact hF.pan _ (ZES _) (Wi hS i)
theorem Zi1{x bd bs:Nat}{k:Ck}{dl:List (Str×Int)}{sl:List (Str×Bool)}{st:St}(hst:K9 st x bd bs k dl sl){n:Nat}(hn:k.field=n)(hl:n≤k.m.fields.length)(f:Fld):
  Zf ZEQ 298 [.ptr x 0,.agg f.cells] st (Wz (ck7 (k.m.fields.take n) dl f) st):=by
 refine Zh (cR 298 f298) fun F hF=>?_
 have hS:=ck7.eq_1 (k.m.fields.take n) dl f
 refine rx @eQ0 ?_
 refine rx @eQ0 ?_
 refine cV (Zcr hst f.of) ?_ ?_
 ·rintro d S h
  obtain⟨c,rfl,rfl⟩:=YF h
  rw[c,ZFe]at hS
  first|refine⟨by first|trivial|exact⟨rfl,trivial⟩,?_⟩|skip
  refine gR0 ?_
  refine rx @eQ0 ?_
  simp only[Zdn]
  refine cV (Zcs hst.x hn hl f) ?_ ?_
  ·rintro d S h
   obtain⟨c,rfl,rfl⟩:=YF h
   rw[c]at hS
   refine gR0 ?_
   exact hF.fin (.tup []) _ rfl trivial (ZEW _) (ZES _) (Zba hS)
  rintro d S h
  obtain⟨c,i,rfl⟩:=YE h
  rw[c]at hS
  exact hF.pan _ (ZES _) (Wi hS i)
 rintro d S h
 obtain⟨c,i,rfl⟩:=YE h
 rw[c,ZFh]at hS
 exact hF.pan _ (ZES _) (Wi hS i)
theorem Zi3{x bd bs:Nat}{k:Ck}{dl:List (Str×Int)}{sl:List (Str×Bool)}{st:St}(hst:K9 st x bd bs k dl sl){n:Nat}(hn:k.field=n)(hl:n≤k.m.fields.length)(f:Fld):
  Zf ZEQ 301 [.ptr x 0,.agg f.cells] st (Wz (ck8 dl f) st):=by
 refine Zh (cR 301 f301) fun F hF=>?_
 have hS:=ck8.eq_1 dl f
 refine rx @eQ0 ?_
 refine rx @eQ0 ?_
 refine cV (Zcr hst f.of) ?_ ?_
 ·rintro d S h
  obtain⟨c,rfl,rfl⟩:=YF h
  rw[c]at hS
  refine gR0 ?_
  exact hF.fin (.tup []) _ rfl trivial (ZEW _) (ZES _) (Zba hS)
 rintro d S h
 obtain⟨c,i,rfl⟩:=YE h
 rw[c]at hS
 exact hF.pan _ (ZES _) (Wi hS i)
theorem Zi6{x bd bs:Nat}{k:Ck}{dl:List (Str×Int)}{sl:List (Str×Bool)}{st:St}(hst:K9 st x bd bs k dl sl){n:Nat}(hn:k.field=n)(hl:n≤k.m.fields.length)(f:Fld):
  Zf ZEQ 305 [.ptr x 0,.agg f.cells] st (Wz (Zug f) st):=by
 refine Zh (cR 305 f305) fun F hF=>?_
 have hS:=Zug.eq_1 f
 refine rx @eQ0 ?_
 refine rx @eQ0 ?_
 have ht1:=Int.tmod_lt_of_pos f.bits (by decide:(0:Int)<8)
 have ht2:=Int.lt_tmod_of_pos f.bits (by decide:(0:Int)<8)
 refine⟨fun _=>⟨by decide,by omega,by omega⟩,?_⟩
 refine cV (ZU hst.x (dC (f.bits=2) ||decide (f.bits=4) ||decide (8≤f.bits)&&dC (f.bits≤512)&&dC (f.bits.tmod 8=0)) 6) ?_ ?_
 ·rintro d S h
  obtain⟨c,rfl,rfl⟩:=YF h
  rw[c]at hS
  refine gR0 ?_
  exact hF.fin (.tup []) _ rfl trivial (ZEW _) (ZES _) (Zba hS)
 rintro d S h
 obtain⟨c,i,rfl⟩:=YE h
 rw[c]at hS
 exact hF.pan _ (ZES _) (Wi hS i)
theorem Zi8{x bd bs:Nat}{k:Ck}{dl:List (Str×Int)}{sl:List (Str×Bool)}{st:St}(hst:K9 st x bd bs k dl sl){n:Nat}(hn:k.field=n)(hl:n≤k.m.fields.length)(f:Fld):
  Zf ZEQ 307 [.ptr x 0,.agg f.cells] st (Wz (Zuh (k.m.fields.take n) f) st):=by
 refine Zh (cR 307 f307) fun F hF=>?_
 have hS:=Zuh.eq_1 (k.m.fields.take n) f
 refine rx @eQ0 ?_
 refine rx @eQ0 ?_
 refine cV (QD hst.x 1 3 f.check) ?_ ?_
 ·rintro d S h
  obtain⟨c,rfl,rfl⟩:=YF h
  rw[c,ZFe]at hS
  first|refine⟨by first|trivial|exact⟨rfl,trivial⟩,?_⟩|skip
  refine gR0 ?_
  refine rx @eQ0 ?_
  refine tXD (nd2 @eQ4 @eQ1) (QO hst.x hn hl) ?_
  refine clD ((Zcq ⟨[],k.m.fields.take n⟩ f.from_)) ?_
  refine rg ?_
  refine cV (ZU hst.x (dC (0≤Zk (fun x=>dC (x.name=f.from_)) (k.m.fields.take n))) 8) ?_ ?_
  ·rintro d S h
   obtain⟨c,rfl,rfl⟩:=YF h
   rw[c]at hS
   refine gR0 ?_
   exact hF.fin (.tup []) _ rfl trivial (ZEW _) (ZES _) (Zba hS)
  rintro d S h
  obtain⟨c,i,rfl⟩:=YE h
  rw[c]at hS
  exact hF.pan _ (ZES _) (Wi hS i)
 rintro d S h
 obtain⟨c,i,rfl⟩:=YE h
 rw[c,ZFh]at hS
 exact hF.pan _ (ZES _) (Wi hS i)
theorem Zja{x bd bs:Nat}{k:Ck}{dl:List (Str×Int)}{sl:List (Str×Bool)}{st:St}(hst:K9 st x bd bs k dl sl){n:Nat}(hn:k.field=n)(hl:n≤k.m.fields.length)(f:Fld):
  Zf ZEQ 309 [.ptr x 0,.agg f.cells] st (Wz (Zui (k.m.fields.take n) sl f) st):=by
 refine Zh (cR 309 f309) fun F hF=>?_
 have hS:=Zui.eq_1 (k.m.fields.take n) sl f
 refine rx @eQ0 ?_
 refine rx @eQ0 ?_
 refine cV (QD hst.x 0 4294967295 f.key) ?_ ?_
 ·rintro d S h
  obtain⟨c,rfl,rfl⟩:=YF h
  rw[c,ZFe]at hS
  first|refine⟨by first|trivial|exact⟨rfl,trivial⟩,?_⟩|skip
  refine gR0 ?_
  have e1:=Wa (vD:=D.bool) ZY f.of sl
  have e3:=Ww ZY f.of
  simp only[show Qe f.of=D.str f.of from rfl]at e1 e3
  refine rh ?_
  refine YZ ?_
  simp only[Eqs,reduceCtorEq,ZEV,reduceIte,ZET,ZEX,ZEU,Fld.cells,hst.x,hst.bs,Ck.cells,e1,e3,Zlv]
  refine cV0 (ZU hst.x ((Zp f.of sl).getD false) 8) ?_ ?_
  ·rintro d S h
   obtain⟨c,rfl,rfl⟩:=YF h
   rw[c,ZFe]at hS
   first|refine⟨by first|trivial|exact⟨rfl,trivial⟩,?_⟩|skip
   refine gR0 ?_
   refine rx @eQ0 ?_
   simp only[Zdn]
   refine cV (Zcs hst.x hn hl f) ?_ ?_
   ·rintro d S h
    obtain⟨c,rfl,rfl⟩:=YF h
    rw[c]at hS
    refine gR0 ?_
    exact hF.fin (.tup []) _ rfl trivial (ZEW _) (ZES _) (Zba hS)
   rintro d S h
   obtain⟨c,i,rfl⟩:=YE h
   rw[c]at hS
   exact hF.pan _ (ZES _) (Wi hS i)
  rintro d S h
  obtain⟨c,i,rfl⟩:=YE h
  rw[c,ZFh]at hS
  exact hF.pan _ (ZES _) (Wi hS i)
 rintro d S h
 obtain⟨c,i,rfl⟩:=YE h
 rw[c,ZFh]at hS
 exact hF.pan _ (ZES _) (Wi hS i)
def Zwt(f:Fld):List D:=[.str f.name,.str f.of,.str f.tag,.str f.from_,.int .i64 f.kind,.int .i64 f.bits,.int .i64 f.low,.int .i64 f.high,.int .i64 f.size.base,.int .i64 f.check,.int .i64 f.key,.bool f.little,.bool f.loose]
theorem Zft(f:Fld):Zc ZEQ 310 [.agg f.cells] (.agg (Zwt f)):=by
 refine Ze (cR 310 f310) fun F st c=>?_
 refine rx @eQ0 ?_
 refine rx @eQ0 ?_
 exact c rfl (by first|trivial|simp) (ZEW _) (ZES _)
theorem ZhP(a b:Fld):Zc ZEQ 273 [.agg a.cells,.agg b.cells] (.bool (dC (a=b))):=by
 refine Ze (cR 273 f273) fun F st u=>?_
 refine rx @eQ0 ?_
 refine rx @eQ0 ?_
 simp only[Zdn]
 refine clD (Zft a) ?_
 refine cXD @Zwt.eq_1 (Zft b) ?_
 refine cGD (Zhr a.size.terms b.size.terms) ?_
 refine cGD (Zhq a.cases b.cases) ?_
 refine u rfl (by trivial) (Zec ?_) (ZES _)
 rw[Bool.eq_iff_iff]
 simp only[ZEY,decide_eq_true_eq]
 constructor
 ·rintro⟨⟨⟨h1,h2,h3,h4,h5,h6,h7,h8,h9,i,c,j,v⟩,n⟩,t⟩
  obtain⟨n1,k1,b1,l1,o1,lo1,hi1,⟨sb1,st1⟩,of1,t1,f1,c1,ch1,ke1⟩:=a
  obtain⟨n2,k2,b2,l2,o2,lo2,hi2,⟨sb2,st2⟩,of2,t2,f2,c2,ch2,ke2⟩:=b
  simp only at h1 h2 h3 h4 h5 h6 h7 h8 h9 i c j v n t
  subst h1;subst h2;subst h3;subst h4;subst h5;subst h6;subst h7;subst h8;subst h9;subst i;subst c;subst j;subst v;subst n;subst t
  rfl
 rintro rfl
 simp
abbrev Zp9(x:Nat×Nat):D:=.agg [.fn (.func x.1) [] [],.fn (.func x.2) [] []]
def Zhd:List (Int×(Nat×Nat)):=[(1,(283,284)),(2,(287,288)),(3,(289,290)),(4,(291,292)),(5,(293,294)),(6,(295,296)),(7,(297,298)),(8,(300,301)),(9,(302,303)),(10,(304,305)),(11,(306,307)),(12,(308,309))]
theorem Zna(st:St):Zf ZEQ 272 [] st fun r S=>∃b,st b=nO∧r=.ret (.map b)∧S=st.upd b (.map (Qn Kx Zp9 Zhd)):=by
 refine Zh (cR 272 f272) fun F hF=>?_
 refine rg ?_
 refine rh ?_
 refine Zm ?_
 simp only[Eqs,reduceCtorEq,ZEV,reduceIte,ZET,ZEX,ZEU,J5,ZFy,decide_false,ZEZ,ZFd,Yt,Yu]
 intro b hb
 exact hF.ret _ _ rfl (by trivial) (ZEW _) (ZES _) ⟨b,hb,rfl,rfl⟩
def Zeg(n:Str)(k:Int):Fld:=⟨n,k,0,false,false,0,0,⟨0,[]⟩,[],[],[],[],0,0⟩
def Zes(f:Fld):Fld :=
 if f.kind=1 then ZqT f else if f.kind=2 then ZqU f else if f.kind=3 then ZqV f else if f.kind=4 then Zl5 f else if f.kind=5 then ZqW f else if f.kind=6 then ZqX f
 else if f.kind=7 then Zl6 f else if f.kind=8 then ZqY f else if f.kind=9 then Zl7 f else if f.kind=10 then ZnP f else if f.kind=11 then ZnQ f else ZjP f
def Zeo(fs:List Fld)(dl:List (Str×Int))(sl:List (Str×Bool))(f:Fld):Bool :=
 if f.kind=1 then ck1 f else if f.kind=2 then ck2 f else if f.kind=3 then ck3 f else if f.kind=4 then ZeU fs f.size else if f.kind=5 then ck5 f else if f.kind=6 then ck6 f
 else if f.kind=7 then ck7 fs dl f else if f.kind=8 then ck8 dl f else if f.kind=9 then Zh5 fs dl f else if f.kind=10 then Zug f else if f.kind=11 then Zuh fs f else Zui fs sl f
def Jf(f:Fld):Bool:=dC (1≤f.kind)&&dC (f.kind≤12)
theorem Zy7{x bd bs:Nat}{k:Ck}{dl:List (Str×Int)}{sl:List (Str×Bool)}{st:St}(hst:K9 st x bd bs k dl sl){n:Nat}(hn:k.field=n)(hl:n≤k.m.fields.length)(f:Fld)(hR:((Zp f.tag (Qu (k.m.fields.take n))).getD (0,0)).2<4611686018427387904)(hk:Jf f=true):
  ∃c q,Zp f.kind Zhd=sO (c,q)∧(∀y s,s y=sO (.cells f.cells)→ZS ZEQ c [.ptr y 0] s (.tup []) (s.upd y (.cells (Zes f).cells))) ∧
   ∀A,st.sub A→Zf ZEQ q [.ptr x 0,.agg f.cells] A (Wz (Zeo (k.m.fields.take n) dl sl f) A):=by
 unfold Jf at hk
 simp only[ZEY,decide_eq_true_eq]at hk
 have i:f.kind=1∨f.kind=2∨f.kind=3∨f.kind=4∨f.kind=5∨f.kind=6∨f.kind=7∨f.kind=8∨f.kind=9∨f.kind=10∨f.kind=11∨f.kind=12:=by omega
 unfold Zes Zeo
 rcases i with h|h|h|h|h|h|h|h|h|h|h|h<;>simp only[h,ZFy,if_true,if_false]
 ·exact⟨_,_,rfl,fun y s hy=>Zkk f y s hy,fun A hA=>Zkl (hst.mono hA) hn hl f⟩
 ·exact⟨_,_,rfl,fun y s hy=>Zkm f y s hy,fun A hA=>Zkn (hst.mono hA) hn hl f⟩
 ·exact⟨_,_,rfl,fun y s hy=>Zko f y s hy,fun A hA=>Zkp (hst.mono hA) hn hl f⟩
 ·exact⟨_,_,rfl,fun y s hy=>Zkq f y s hy,fun A hA=>Zcs (hst.mono hA).x hn hl f⟩
 ·exact⟨_,_,rfl,fun y s hy=>Zkr f y s hy,fun A hA=>Zks (hst.mono hA) hn hl f⟩
 ·exact⟨_,_,rfl,fun y s hy=>ZiY f y s hy,fun A hA=>ZiZ (hst.mono hA) hn hl f⟩
 ·exact⟨_,_,rfl,fun y s hy=>Zi0 f y s hy,fun A hA=>Zi1 (hst.mono hA) hn hl f⟩
 ·exact⟨_,_,rfl,fun y s hy=>Zi2 f y s hy,fun A hA=>Zi3 (hst.mono hA) hn hl f⟩
 ·exact⟨_,_,rfl,fun y s hy=>Zi4 f y s hy,fun A hA=>Zm9 (hst.mono hA) hn hl f hR⟩
 ·exact⟨_,_,rfl,fun y s hy=>Zi5 f y s hy,fun A hA=>Zi6 (hst.mono hA) hn hl f⟩
 ·exact⟨_,_,rfl,fun y s hy=>Zi7 f y s hy,fun A hA=>Zi8 (hst.mono hA) hn hl f⟩
 exact⟨_,_,rfl,fun y s hy=>Zi9 f y s hy,fun A hA=>Zja (hst.mono hA) hn hl f⟩
theorem Zv9{f:Fld}(hk:Jf f=false):Zp f.kind Zhd=nO:=by
 rw[ZvY]
 unfold Jf at hk
 simp only[Bool.and_eq_false_iff,decide_eq_false_iff_not]at hk
 simp only[Zhd,ZE7,ZFo,ZFv,List.not_mem_nil,or_false]
 omega
def QG(fs:List Fld)(dl:List (Str×Int))(sl:List (Str×Bool))(f:Fld):Bool :=
 Yl f.name&&(!dC (0≤Zk (fun x=>dC (x.name=f.name)) fs)&&(Jf f&&(dC (Zes f=Zeg f.name f.kind)&&Zeo fs dl sl f)))
theorem Zkj{x bd bs:Nat}{k:Ck}{dl:List (Str×Int)}{sl:List (Str×Bool)}{st:St}(hst:K9 st x bd bs k dl sl){n:Nat}(hn:k.field=n)(hl:n≤k.m.fields.length)(f:Fld)(hR:((Zp f.tag (Qu (k.m.fields.take n))).getD (0,0)).2<4611686018427387904):
  Zf ZEQ 258 [.ptr x 0,.agg f.cells] st (Wz (QG (k.m.fields.take n) dl sl f) st):=by
 refine Zh (cR 258 f258) fun F hF=>?_
 have hS:=QG.eq_1 (k.m.fields.take n) dl sl f
 refine rx @eQ0 ?_
 refine rx @eQ0 ?_
 refine cl (ZaT f.name) ?_
 refine cV (ZU hst.x (Yl f.name) 1) ?_ ?_
 ·rintro d S h
  obtain⟨ae,rfl,rfl⟩:=YF h
  rw[ae,ZFe]at hS
  refine gR0 ?_
  refine rx @eQ0 ?_
  refine tXD (nd2 @eQ4 @eQ1) (QO hst.x hn hl) ?_
  refine clD ((Zcq ⟨[],k.m.fields.take n⟩ f.name)) ?_
  refine rg ?_
  refine cV (ZU hst.x (!dC (0≤Zk (fun x=>dC (x.name=f.name)) (k.m.fields.take n))) 2) ?_ ?_
  ·rintro d S2 h
   obtain⟨v,rfl,rfl⟩:=YF h
   rw[v,ZFe]at hS
   refine gR0 ?_
   refine rx @eQ0 ?_
   refine cVD (Zna S2) ?_ ?_
   ·rintro d S3 ⟨b,hb,hd,rfl⟩
    cases hd
    refine⟨by first|trivial|exact⟨rfl,trivial⟩,?_⟩
    have e1:=Wa (vD:=Zp9) Zg7 f.kind Zhd
    have e3:=Ww Zg7 f.kind
    simp only[show Kx f.kind=D.int .i64 f.kind from rfl]at e1 e3
    have ab:=ZFi (.map (Qn Kx Zp9 Zhd)) hb
    cases z:Jf f with
    |false =>
     rw[z,ZFh]at hS
     rw[Zv9 z]at e1
     refine gQ (nd2 @e1 (nd2 @e3 (nd2 @ZEZ (nd2 @ZFd (nd2 @Yt @Yu))))) ?_
     refine rg ?_
     refine cV (ZU (hst.mono ab).x false 4) ?_ ?_
     ·rintro d S4 h
      exact absurd (YF h).1 (by simp)
     rintro d S4 h
     obtain⟨_,i,rfl⟩:=YE h
     exact hF.pan S2 ab (Wi hS i)
    |true =>
     rw[z,ZFe]at hS
     obtain⟨c,q,hg,ac,ad⟩:=Zy7 hst hn hl f hR z
     rw[hg]at e1
     refine gQ (nd2 @e1 (nd2 @e3 (nd2 @ZEZ (nd2 @ZFd (nd2 @Yt @Yu))))) ?_
     refine rg ?_
     refine cV (ZU (hst.mono ab).x true 4) ?_ ?_
     ·rintro d S4 h
      obtain⟨_,rfl,rfl⟩:=YF h
      refine gR0 ?_
      refine rx @eQ0 ?_
      refine Zd ?_
      refine xP 7 fun y hy=>?_
      have af:[D.str f.name,D.int IntKind.i64 f.kind,D.int IntKind.i64 f.bits,D.bool f.little,D.bool f.loose,D.int IntKind.i64 f.low,D.int IntKind.i64 f.high,D.int IntKind.i64 f.size.base,YD f.size.terms,D.str f.of,D.str f.tag,D.str f.from_,Yy f.cases,D.int IntKind.i64 f.check,D.int IntKind.i64 f.key]=f.cells:=rfl
      simp only[af]
      have u:∀o,S2.sub (((S2.upd b (.map (Qn Kx Zp9 Zhd)))).upd y o):=fun o=>ZFx ab (ZFi _ hy)
      refine rg ?_
      refine ct (ac y _ (ZEZ _ _ _)) ?_
      simp only[ZFd]
      refine rx (nd2 @eQ0 (nd2 @ZEZ (nd2 @ZFd (nd2 @Yt @Yu)))) ?_
      simp only[Zdn]
      refine JP rfl rfl rfl rfl rfl (by trivial) (by trivial) (by exact(ZhP (Zes f) (Zeg f.name f.kind)).leA (LeC.two (ZEW _) (ZzH (cs':=(Zeg f.name f.kind).cells) (.cons (ZEW _) (.cons (ZEW _) (.cons (ZEW _) (.cons (ZEW _) (.cons (ZEW _) (.cons (ZEW _) (.cons (ZEW _) (.cons (ZEW _) (.cons (WH (by simp)) (.cons (ZEW _) (.cons (ZEW _) (.cons (ZEW _) (.cons (WH (by simp)) (.cons (ZEW _) (.cons (ZEW _) .nil)))))))))))))))))) (Zm ?_)
      simp only[Eqs,reduceCtorEq,ZEV,reduceIte,ZET,ZEX,ZEU]
      refine cV (ZU (hst.mono (u _)).x (dC (Zes f=Zeg f.name f.kind)) 5) ?_ ?_
      ·rintro d S5 h
       obtain⟨t,rfl,rfl⟩:=YF h
       rw[t,ZFe]at hS
       refine gR0 ?_
       refine rx @eQ0 ?_
       simp only[Zdn]
       refine cV (ad _ (u _)) ?_ ?_
       ·rintro d S6 h
        obtain⟨j,rfl,rfl⟩:=YF h
        rw[j]at hS
        refine gR0 ?_
        exact hF.fin (.tup []) S2 rfl trivial (ZEW _) (u _) (Zba hS)
       rintro d S6 h
       obtain⟨j,i,rfl⟩:=YE h
       rw[j]at hS
       exact hF.pan S2 (u _) (Wi hS i)
      rintro d S5 h
      obtain⟨t,i,rfl⟩:=YE h
      rw[t,ZFh]at hS
      exact hF.pan S2 (u _) (Wi hS i)
     rintro d S4 h
     exact absurd (YE h).1 (by simp)
   rintro d S3 ⟨b,hb,hd,_⟩
   cases hd
  rintro d S2 h
  obtain⟨v,i,rfl⟩:=YE h
  rw[v,ZFh]at hS
  exact hF.pan _ (ZES _) (Wi hS i)
 rintro d S h
 obtain⟨ae,i,rfl⟩:=YE h
 rw[ae,ZFh]at hS
 exact hF.pan _ (ZES _) (Wi hS i)
def ddS(l:List Str):List Str:=l.foldl QW []
theorem Zsu(l out:List Str):∃r,l.foldl QW out=out++r:=by
 induction l generalizing out with
 |nil=>exact⟨[],by simp⟩
 |cons x r ih =>
  obtain⟨q,hq⟩:=ih (QW out x)
  rw[List.foldl_cons,hq]
  unfold QW
  split
  ·exact⟨q,rfl⟩
  exact⟨[x]++q,by simp⟩
theorem Zq2{l:List Str}{i:Nat}(h:i<l.length):ddS (l.take (i+1))=QW (ddS (l.take i)) (l.getD i dE):=by
 unfold ddS;rw[Z0 h,List.foldl_append];rfl
theorem Ztn{l:List Str}{s:Str}:s∈ddS l↔s∈l:=by unfold ddS;rw[Zgn];simp
theorem ZyU(l:List Str)(i:Nat):∃r,ddS l=ddS (l.take i)++r:=by
 conv=>enter [1,r];lhs;rw[←List.take_append_drop i l]
 unfold ddS
 rw[List.foldl_append]
 exact Zsu _ _
theorem ZzR{l:List Str}{i:Nat}(h:i<l.length)(hn:l.getD i dE∉l.take i):(ddS (l.take i)).length<(ddS l).length∧(ddS l).getD (ddS (l.take i)).length dE=l.getD i dE∧(ddS (l.take (i+1))).length=(ddS (l.take i)).length+1:=by
 have h1:=Zq2 h
 have hm:l.getD i dE∉ddS (l.take i):=fun hm=>hn (Ztn.1 hm)
 rw[QW,if_neg hm]at h1
 obtain⟨r,hr⟩:=ZyU l (i+1)
 rw[h1]at hr
 refine⟨by rw[hr];simp,by rw[hr];simp[ZE8],by rw[h1];simp⟩
theorem Zxn{l:List Str}{i:Nat}(h:i<l.length)(hn:l.getD i dE∈l.take i):ddS (l.take (i+1))=ddS (l.take i):=by
 rw[Zq2 h,QW,if_pos (Ztn.2 hn)]
theorem Zib(l:List Str)(i:Nat)(h:i≤l.length)(tk:Tok)(s:Str):Zc ZEQ 275 [.sl tk i 1 (fun i=>[.str (l.getD i dE)]),.str s] (.bool (dC (s∈l.take i))):=by
 have c:ZV ZbL (fun i=>[.str (l.getD i dE)]) (l.take i):=(ZV.self (f:=ZbL) (l:=l)).take i
 exact(Zd8 (l.take i) s).leA (LeC.two (c.le (by rw[ZE9];omega)) (ZEW _))
theorem ZiW(l:List Str)(hl:l.length≤big)(x:Nat):ZcC ZEQ (.fn (.func 274) [] [.ptr x 0]) (ddS l).length (fun j=>[.str ((ddS l).getD j dE)]) (ZFj x (.cells [WB l])):=by
 intro y go A a0 ad hA hd
 have hw:=hl
 unfold big at hw
 refine Zf.V (first:=[]) (args:=[y]) (caps:=[.ptr x 0]) (Zh (cR 274 f274) fun F hF=>?_)
 have hx:∀a,Yb a (ZFj x (.cells [WB l]))→(a.or (ZFj x (.cells [WB l]))) x=sO (.cells [WB l]):=fun a ah=>by
  rw[ZG (ah x _ (YC _ _)),YC]
 generalize hT:ZFj x (.cells [WB l])=T at *
 refine rh ?_
 refine Zm ?_
 simp only[Eqs,reduceCtorEq,ZEV,reduceIte,ZET,ZEX,ZEU,hx a0 hd,WB,slD]
 refine Zb (fr (l.length) (fun i Q=>∀a,A (ddS (l.take i)).length a→Yb a T→(∀j,j<(ddS (l.take i)).length→go j=.next)→i≤l.length→Q [(0,.d y),(1,.d (.ptr x 0)),(5,.d (WB l)),(6,.d (.int .i64 l.length)),(7,.d (.int .i64 i))] [] (a.or T)) (fun n v=>?_) fun ag=>?_)
 ·clear hA hd
  intro i hn a hA hd u hi
  refine rg ?_
  refine Zd (Zs rfl trivial (fun h1=>?_) (fun h1=>?_))
  ·simp at h1
   by_cases hm:l.getD i dE∈l.take i
   ·have ae:=Zxn h1 hm
    refine xA (nd2 @WB.eq_1 @eQ1) ?_
    refine rh ?_
    refine Zm ?_
    simp only[Eqs,reduceCtorEq,ZEV,reduceIte,ZET,ZEX,ZEU,hx a hd,WB,slD]
    refine aa ?_
    refine JP rfl rfl rfl rfl rfl (by trivial) (by trivial) (by exact Zib l i (by omega) _ _) (Zm ?_)
    simp only[Eqs,reduceCtorEq,ZEV,reduceIte,ZET,ZEX,ZEU,decide_eq_true hm]
    refine Q1 rfl (e:=.d (.bool false)) (Zm ?_)
    simp only[Eqs,reduceCtorEq,ZEV,reduceIte,ZET,ZEX,ZEU]
    refine i0 ?_
    refine gA ?_
    refine Za ?_
    exact v ((l.length)-(i+1)) (by omega) (i+1) rfl a (by rw[ae];exact hA) hd (by rw[ae];exact u) (by omega)
   have z:=ZzR h1 hm
   refine xA (nd2 @WB.eq_1 @eQ1) ?_
   refine rh ?_
   refine Zm ?_
   simp only[Eqs,reduceCtorEq,ZEV,reduceIte,ZET,ZEX,ZEU,hx a hd,WB,slD]
   refine aa ?_
   refine JP rfl rfl rfl rfl rfl (by trivial) (by trivial) (by exact Zib l i (by omega) _ _) (Zm ?_)
   simp only[Eqs,reduceCtorEq,ZEV,reduceIte,ZET,ZEX,ZEU,decide_eq_false hm]
   have ab:=(ad _ z.1 u a hA).frame hd
   simp only[z.2.1]at ab
   refine vV (ab) ?_ ?_
   ·rintro d S ⟨s',⟨hr,ac⟩,af,rfl⟩
    cases t:go (ddS (l.take i)).length with
    |next =>
     rw[t]at hr
     cases hr
     refine gR0 ?_
     refine i0 ?_
     refine gA ?_
     refine Za ?_
     exact v ((l.length)-(i+1)) (by omega) (i+1) rfl s' (by rw[z.2.2];exact ac) af (by rw[z.2.2];exact ZX (q:=fun i=>go i=.next) u t) (by omega)
    |stop c =>
     rw[t]at hr
     cases hr
     refine gR0 ?_
     refine i1 ?_
     exact hF.ret (.tup []) _ rfl trivial (ZEW _) (ZES _) ⟨s',.stop _ c z.1 u t ac,Ky _ _⟩
    |pan d=>rw[t]at hr;cases hr
   rintro d S ⟨s',⟨hr,ac⟩,af,rfl⟩
   cases t:go (ddS (l.take i)).length with
   |pan d' =>
    rw[t]at hr
    cases hr
    exact hF.pan _ (ZES _) ⟨s',.pan _ d z.1 u t ac,Ky _ _⟩
   |next=>rw[t]at hr;cases hr
   |stop c=>rw[t]at hr;cases hr
  simp at h1
  obtain rfl:i=l.length:=by omega
  rw[ZFc]at hA u
  refine ZP rfl ?_
  exact hF.fin (.tup []) _ rfl trivial (ZEW _) (ZES _) ⟨a,.all u hA,Ky _ _⟩
 exact ag _ 0 rfl a0 hA hd (by intro i hi;simp[ddS]at hi) (by omega)
theorem ZlD(m:Msg)(hb:(m.fields.flatMap Z5).length≤1000000)(st:St):Zf ZEQ 259 [.agg m.cells] st fun r S=>∃x,st x=nO∧r=.ret (.fn (.func 274) [] [.ptr x 0])∧S=st.or (ZFj x (.cells [WB (m.fields.flatMap Z5)])):=by
 refine Zbe (cR 259 f259) fun ah F hF=>?_
 have hw:=(ZeD (s:=m) (ah _ (by simp))).nfields
 have am:=(ZeD (s:=m) (ah _ (by simp))).fields
 unfold big at hw
 clear ah
 refine rx @eQ3 ?_
 refine rg ?_
 refine rx (nd2 @eQ3 (nd2 @eQ4 @eQ1)) ?_
 refine Zb ?_
 refine kl (st) [(3,.loc 3 0),(9,.d (Zo m.fields)),(10,.d (.int .i64 m.fields.length)),(11,.d (.int .i64 (0:Nat)))] [(3,[.sl .full 0 1 fun _=>[]])] (KH _) (.cons (.cons (WH (by simp)) .nil) .nil) ?_
 refine fr (m.fields.length) (fun i Q=>∀tk row j,tk.okIn st→ZV (fun s=>[.str s]) row j→j=(m.fields.take i).flatMap Z5→i≤m.fields.length→Q [(3,.loc 3 0),(9,.d (Zo m.fields)),(10,.d (.int .i64 m.fields.length)),(11,.d (.int .i64 i))] [(3,[.sl tk j.length 1 row])] (st.own tk (j.length*1))) (fun n z=>?_) fun al=>?_
 ·intro i hn tk row j ac t y hi
  refine rg ?_
  refine Zd (Zs rfl trivial (fun h1=>?_) (fun h1=>?_))
  ·simp at h1
   have ab:=ZdP m.fields i h1
   have v:=Zai m.fields (i+1)
   rw[ab,ZE1,←y]at v
   have ak:=(am _ (Zy h1)).ncases
   unfold big at ak
   generalize hf:m.fields.getD i dE=f at *
   refine xA (nd2 @eQ4 (nd2 @eQ1 (nd2 @eQ0 @hf))) ?_
   refine rx @eQ0 ?_
   refine rg ?_
   refine jU [0] (fun Q=>∀bb:Bool,bb=(dC (f.kind=7) ||(dC (f.kind=8) ||decide (f.kind=12)))→Q F [(3,.loc 3 0),(5,.loc 5 0),(9,.d (Zo m.fields)),(10,.d (.int .i64 m.fields.length)),(11,.d (.int .i64 i)),(16,.d (.int .i64 f.kind)),(17,.d (.bool bb))] [(3,[.sl tk j.length 1 row]),(5,f.cells)] (st.own tk (j.length*1))) ?_ fun jn=>?_
   ·intro bb ae
    refine cd (fun h3=>?_) (fun h3=>?_)
    ·have af:Z5 f=[f.of]:=by
      subst h3
      have h9:¬f.kind=9:=by
       intro e;rw[e]at ae;simp at ae
      unfold Z5 KV
      rw[←ae,if_pos rfl,if_neg h9,ZFm]
     rw[af]at ab v
     simp only[ZE5,List.length_nil]at v
     refine rx @eQ0 ?_
     refine QE (st) (tk) rfl rfl rfl rfl rfl rfl (by trivial) (by trivial) rfl (by first|trivial|assumption) (by omega) (by (unfold big;omega)) fun t1 ag=>Zm ?_
     simp only[Eqs,reduceCtorEq,ZEV,reduceIte,ZET,ZEX,ZEU]
     refine gA ?_
     refine Za ?_
     have u:=z ((m.fields.length)-(i+1)) (by omega) (i+1) rfl t1 _ (j++[f.of]) ag (t.snoc (x:=f.of) (row2:=Z4 [.str []] ([0].zip [.str f.of])) rfl rfl) (by rw[ab,y]) (by omega)
     rw[ZE1]at u
     exact u
    have af:Z5 f=if f.kind=9 then f.cases.map (·.of) else []:=by
     subst h3
     unfold Z5 KV
     rw[←ae,if_neg (by simp),List.nil_append]
    rw[af]at ab v
    refine rg ?_
    refine cd (fun h4=>?_) (fun h4=>?_)
    ·have h9:f.kind=9:=by simpa using h4
     rw[if_pos h9]at ab v
     simp only[List.length_map]at v
     refine rx (nd2 @eQ0 (nd2 @Yy.eq_1 @eQ1)) ?_
     refine Zb (fr (f.cases.length) (fun q Q=>∀tk row o,tk.okIn st→ZV (fun s=>[.str s]) row o→o=j++(f.cases.take q).map (·.of)→q≤f.cases.length→Q [(3,.loc 3 0),(9,.d (Zo m.fields)),(10,.d (.int .i64 m.fields.length)),(11,.d (.int .i64 i)),(29,.d (Yy f.cases)),(30,.d (.int .i64 f.cases.length)),(31,.d (.int .i64 q))] [(3,[.sl tk o.length 1 row])] (st.own tk (o.length*1))) (fun n ad=>?_) fun ai=>?_)
     ·clear t ac
      intro q hnq tk row o ac t ho hq
      have hol:o.length=j.length+q:=by rw[ho];simp;omega
      refine rg ?_
      refine Zd (Zs rfl trivial (fun h5=>?_) (fun h5=>?_))
      ·simp at h5
       have aj:(f.cases.take (q+1)).map (·.of)=(f.cases.take q).map (·.of)++[(f.cases.getD q dE).of]:=by rw[Z0 h5,List.map_append];rfl
       generalize hc:f.cases.getD q dE=c at *
       refine xA (nd2 @Yy.eq_1 (nd2 @eQ1 (nd2 @Yg.cells.eq_1 @hc))) ?_
       refine rx @Yg.cells.eq_1 ?_
       refine QE (st) (tk) rfl rfl rfl rfl rfl rfl (by trivial) (by trivial) rfl (by first|trivial|assumption) (by omega) (by (unfold big;omega)) fun t1 ag=>Zm ?_
       simp only[Eqs,reduceCtorEq,ZEV,reduceIte,ZET,ZEX,ZEU]
       refine gA ?_
       refine Za ?_
       have u:=ad ((f.cases.length)-(q+1)) (by omega) (q+1) rfl t1 _ (o++[c.of]) ag (t.snoc (x:=c.of) (row2:=Z4 [.str []] ([0].zip [.str c.of])) rfl rfl) (by rw[aj,ho,ZFt]) (by omega)
       rw[ZE1]at u
       exact u
      simp at h5
      obtain rfl:q=f.cases.length:=by omega
      rw[ZFc]at ho
      refine gA ?_
      refine Za ?_
      exact z ((m.fields.length)-(i+1)) (by omega) (i+1) rfl tk row o ac t (by rw[ab,ho,y]) (by omega)
     exact ai _ 0 rfl tk row j ac t (by simp) (by omega)
    have h9:¬f.kind=9:=by simpa using h4
    rw[if_neg h9,ZFm]at ab
    refine Zv ?_
    refine gA ?_
    refine Za ?_
    exact z ((m.fields.length)-(i+1)) (by omega) (i+1) rfl tk row j ac t (by rw[ab,y]) (by omega)
   refine cd (fun h2=>?_) (fun h2=>?_)
   ·refine Zv ?_
    refine jn _ ?_
    rw[h2,Bool.true_or]
   refine rg ?_
   refine cd (fun h3=>?_) (fun h3=>?_)
   ·refine Zv ?_
    refine jn _ ?_
    rw[h2,h3];rfl
   refine rg ?_
   refine jn _ ?_
   rw[h2,h3];rfl
  simp at h1
  obtain rfl:i=m.fields.length:=by omega
  rw[ZFc]at y
  refine ZP rfl (Zd ?_)
  refine kl (st) [(3,.loc 3 0),(9,.d (Zo m.fields)),(10,.d (.int .i64 m.fields.length)),(11,.d (.int .i64 m.fields.length)),(12,.d (.bool (dC ((m.fields.length:Int)<m.fields.length))))] [(3,[WB j])] (KH _) (.cons (.cons (t.le rfl) .nil) .nil) ?_
  refine xP 3 fun x hx=>?_
  refine rg ?_
  exact hF.ret _ _ rfl (by trivial) (ZEW _) (ZES _) ⟨x,hx,rfl,by rw[←y];exact Qj hx⟩
 exact al _ 0 rfl .full _ [] trivial ZV.nil rfl (by omega)
def Kd(dl:List (Str×Int))(m:Msg):Int:=(Y1 m).foldl (fun a s=>max a ((Zp s dl).getD 0)) 0
def Jx(sl:List (Str×Bool))(m:Msg):Bool:=(m.fields.all fun f=>!f.loose)&&(Y1 m).all fun s=>(Zp s sl).getD false
def QC(dl:List (Str×Int))(sl:List (Str×Bool))(m:Msg)(n:Nat):Bool:=(ZE4 n).all fun i=>QG (m.fields.take i) dl sl (m.fields.getD i dE)
def ZdJ(dl:List (Str×Int))(sl:List (Str×Bool))(m:Msg):Bool :=
 Yl m.name&&(!(Zp m.name dl).isSome&&((dC (1≤(m.fields.length:Int))&&dC ((m.fields.length:Int)≤40))&&(QC dl sl m m.fields.length&&dC (Kd dl m<16))))
def Znz:Int:=4611686018427387904
theorem ZnT{fs:List Fld}{dl:List (Str×Int)}{sl:List (Str×Bool)}{f:Fld}(h:QG fs dl sl f=true)(hn:YA f=true):(Wh f).2<Znz:=by
 unfold QG at h
 simp only[ZEY]at h
 have hc:=h.2.2.2.2
 unfold YA at hn
 simp only[ZEY,decide_eq_true_eq]at hn
 have hk:f.kind=1∨f.kind=2∨f.kind=3:=by omega
 unfold Zeo at hc
 unfold Wh Znz
 rcases hk with hk|hk|hk<;>simp only[hk,ZFy,if_true,if_false]at hc⊢
 ·unfold ck1 Zc2 at hc
  simp only[Yv,ZEY,decide_eq_true_eq,Bool.and_true]at hc
  have:=ZdD (b:=f.bits) (by omega) (by omega)
  generalize (2:Int) ^ f.bits.toNat=pw at *
  omega
 ·unfold ck2 Zc2 at hc
  simp only[Yv,ZEY,decide_eq_true_eq,Bool.and_true]at hc
  have:=ZdD (b:=f.bits) (by omega) (by omega)
  generalize (2:Int) ^ f.bits.toNat=pw at *
  omega
 unfold ck3 at hc
 simp only[Yv,ZEY,decide_eq_true_eq,Bool.and_true]at hc
 omega
theorem ZuX{fs:List Fld}{i:Nat}(h:∀j,j<i→YA (fs.getD j dE)=true→(Wh (fs.getD j dE)).2<Znz)(k:Str):((Zp k (JK fs i)).getD (0,0)).2<Znz:=by
 induction i with
 |zero=>simp[JK,Zp,Znz]
 |succ i ih =>
  have h1:=ih fun j hj=>h j (by omega)
  simp only[JK]
  split
  ·rename_i hn
   rw[Qb]
   split
   ·exact h i (by omega) hn
   exact h1
  exact h1
theorem ZpL{dl:List (Str×Int)}{sl:List (Str×Bool)}{m:Msg}{i:Nat}(h:QC dl sl m i=true)(hi:i≤m.fields.length)(k:Str):((Zp k (Qu (m.fields.take i))).getD (0,0)).2<4611686018427387904:=by
 refine ZuX (fun j hj hn=>?_) k
 rw[ZE9]at hj
 rw[KJ (by omega)]at hn⊢
 exact ZnT (List.all_eq_true.1 h j (by simp;omega)) hn
theorem ZpJ{fs:List Fld}{dl:List (Str×Int)}{sl:List (Str×Bool)}{f:Fld}(h:QG fs dl sl f=true):(Z5 f).length≤41:=by
 unfold QG at h
 simp only[ZEY]at h
 have hc:=h.2.2.2.2
 unfold Z5
 rw[ZE1]
 have h1:(KV f).length≤1:=by unfold KV;split<;>simp
 split
 ·rename_i h9
  unfold Zeo at hc
  simp only[h9,ZFy,if_true,if_false]at hc
  unfold Zh5 at hc
  simp only[ZEY,decide_eq_true_eq]at hc
  simp only[List.length_map]
  omega
 simp;omega
theorem Zrd{dl:List (Str×Int)}{sl:List (Str×Bool)}{m:Msg}(h:QC dl sl m m.fields.length=true)(hm:m.fields.length≤40):(m.fields.flatMap Z5).length≤1000000:=by
 have c:∀l:List Fld,(∀f∈l,(Z5 f).length≤41)→(l.flatMap Z5).length≤41*l.length:=by
  intro l
  induction l with
  |nil=>simp
  |cons x r ih =>
   intro hx
   have:=ih fun f hf=>hx f (by simp[hf])
   have:=hx x (by simp)
   simp only[List.flatMap_cons,ZE1,ZE5];omega
 have:=c m.fields fun f hf=>by
  obtain⟨i,hi,rfl⟩:=ZFa hf
  have:=ZpJ (List.all_eq_true.1 h i (by simpa using hi))
  simpa[ZE8,hi]using this
 omega
theorem Zig{dl:List (Str×Int)}{sl:List (Str×Bool)}{m:Msg}{i:Nat}:QC dl sl m (i+1)=(QC dl sl m i&&QG (m.fields.take i) dl sl (m.fields.getD i dE)):=by
 unfold QC;rw[List.range_succ,List.all_append];simp
theorem ZpK{dl:List (Str×Int)}{sl:List (Str×Bool)}{m:Msg}{i n:Nat}(hi:i<n)(h:QG (m.fields.take i) dl sl (m.fields.getD i dE)=false):QC dl sl m n=false :=
 List.all_eq_false.2 ⟨i,by simpa using hi,by rw[h];simp⟩
theorem K9.ne{st:St}{x bd bs:Nat}{k:Ck}{dl:List (Str×Int)}{sl:List (Str×Bool)}(h:K9 st x bd bs k dl sl):x≠bd∧x≠bs :=
 ⟨fun e=>by have:=h.x;rw[e,h.bd]at this;simp at this,fun e=>by have:=h.x;rw[e,h.bs]at this;simp at this⟩
theorem K9.updX{st:St}{x bd bs:Nat}{k:Ck}{dl:List (Str×Int)}{sl:List (Str×Bool)}(h:K9 st x bd bs k dl sl)(k':Ck):K9 (st.upd x (.cells (k'.cells bd bs))) x bd bs k' dl sl :=
 ⟨ZEZ _ _ _,by rw[ZE0 _ _ h.ne.1.symm];exact h.bd,by rw[ZE0 _ _ h.ne.2.symm];exact h.bs⟩
def Zek(ok:Bool)(st:St)(x bd bs:Nat)(k:Ck)(dl:List (Str×Int))(sl:List (Str×Bool))(r:Res)(S:St):Prop :=
 if ok then r=.ret (.tup [])∧S=((st.upd x (.cells (k.cells bd bs))).upd bd (.map (JZ dl))).upd bs (.map (ZdS sl)) else (∃d,Zdg d∧r=.panic d)∧∀b,b≠x→b≠bd→b≠bs→S b=st b
theorem ZtB{ok:Bool}{st:St}{x bd bs:Nat}{k:Ck}{dl:List (Str×Int)}{sl:List (Str×Bool)}{d:D}{c:List D}(h:ok=false)(hd:Zdg d):Zek ok st x bd bs k dl sl (.panic d) (st.upd x (.cells c)):=by
 subst h;exact⟨⟨d,hd,rfl⟩,fun b h1 _ _=>ZE0 _ _ h1⟩
theorem ZoU{K V:Type}[DecidableEq K]{kp:KP}{kD:K→D}{vD:V→D}(h:ZjI kp kD)(k:K)(z:D)(l:List (K×V)):ZdH kp (kD k) z (Qn kD vD l)=sO ((Zp k l).elim z vD):=by
 induction l with
 |nil=>rfl
 |cons e r ih =>
  simp only[Qn,ZE7,ZdH,h k e.1,Zp]
  by_cases hk:k=e.1
  ·simp[hk]
  simp only[hk,decide_false,if_false];exact ih
def nxS(s1:St)(x z2 z6 z9:Nat)(sb:Bool)(dp:Int):St:=((s1.upd z2 (.cells [.ptr x 0])).upd z6 (.cells [.bool sb])).upd z9 (.cells [.int .i64 dp])
structure Qk(s1:St)(z2 z6 z9:Nat):Prop where
 n2:s1 z2=none
 n6:z6≠z2∧s1 z6=none
 n9:z9≠z6∧z9≠z2∧s1 z9=none
section
variable {s1:St} {x z2 z6 z9:Nat} {sb:Bool} {dp:Int}
theorem Qk.g2(h:Qk s1 z2 z6 z9):(nxS s1 x z2 z6 z9 sb dp) z2=sO (.cells [.ptr x 0]):=by
 simp[nxS,ZFr,h.n6.1.symm,h.n9.2.1.symm]
theorem Qk.g6(h:Qk s1 z2 z6 z9):(nxS s1 x z2 z6 z9 sb dp) z6=sO (.cells [.bool sb]):=by
 simp[nxS,ZFr,h.n9.1.symm]
theorem Qk.g9:(nxS s1 x z2 z6 z9 sb dp) z9=sO (.cells [.int .i64 dp]):=by
 simp[nxS,ZFr]
theorem Qk.gs(h:Qk s1 z2 z6 z9){b:Nat}{o:Ya}(hb:s1 b=sO o):(nxS s1 x z2 z6 z9 sb dp) b=sO o:=by
 have h2:b≠z2:=fun e=>by rw[e,h.n2]at hb;simp at hb
 have h6:b≠z6:=fun e=>by rw[e,h.n6.2]at hb;simp at hb
 have h9:b≠z9:=fun e=>by rw[e,h.n9.2.2]at hb;simp at hb
 simp[nxS,ZFr,h2,h6,h9,hb]
theorem Qk.sub(h:Qk s1 z2 z6 z9):s1.sub (nxS s1 x z2 z6 z9 sb dp):=fun b o hb=>h.gs hb
theorem Qk.u9(dp':Int):(nxS s1 x z2 z6 z9 sb dp).upd z9 (.cells [.int .i64 dp'])=nxS s1 x z2 z6 z9 sb dp':=by
 unfold nxS;rw[ZFd]
theorem Qk.u6(h:Qk s1 z2 z6 z9)(sb':Bool):(nxS s1 x z2 z6 z9 sb dp).upd z6 (.cells [.bool sb'])=nxS s1 x z2 z6 z9 sb' dp:=by
 unfold nxS;rw[St.upd_comm _ _ _ h.n9.1.symm,ZFd]
theorem Qk.disj{sb':Bool}{dp':Int}{t:St}(h:Yb (nxS s1 x z2 z6 z9 sb dp) t):Yb (nxS s1 x z2 z6 z9 sb' dp') t:=fun c o hc=>by
 have:=h c o hc
 unfold nxS at this⊢
 have k9:=Zw this
 have k6:=Zw k9.2
 rw[ZE0 _ _ k9.1,ZE0 _ _ k6.1];exact k6.2
theorem Qk.ub(h:Qk s1 z2 z6 z9){b:Nat}{o o':Ya}(hb:s1 b=sO o):(nxS s1 x z2 z6 z9 sb dp).upd b o'=nxS (s1.upd b o') x z2 z6 z9 sb dp:=by
 have h2:b≠z2:=fun e=>by rw[e,h.n2]at hb;simp at hb
 have h6:b≠z6:=fun e=>by rw[e,h.n6.2]at hb;simp at hb
 have h9:b≠z9:=fun e=>by rw[e,h.n9.2.2]at hb;simp at hb
 unfold nxS;rw[St.upd_comm _ _ _ h9,St.upd_comm _ _ _ h6,St.upd_comm _ _ _ h2]
theorem Qk.of(h:Qk s1 z2 z6 z9){b:Nat}{o o':Ya}(hb:s1 b=sO o):Qk (s1.upd b o') z2 z6 z9:=by
 have h2:z2≠b:=fun e=>by rw[←e,h.n2]at hb;simp at hb
 have h6:z6≠b:=fun e=>by rw[←e,h.n6.2]at hb;simp at hb
 have h9:z9≠b:=fun e=>by rw[←e,h.n9.2.2]at hb;simp at hb
 exact⟨by rw[ZE0 _ _ h2];exact h.n2,⟨h.n6.1,by rw[ZE0 _ _ h6];exact h.n6.2⟩,⟨h.n9.1,h.n9.2.1,by rw[ZE0 _ _ h9];exact h.n9.2.2⟩⟩
end
theorem ZhD{dl:List (Str×Int)}{m:Msg}(h:∀s,0≤(Zp s dl).getD 0∧(Zp s dl).getD 0≤16):0≤Kd dl m∧Kd dl m≤16:=by
 unfold Kd
 have:∀(l:List Str) (b:Int),0≤b→b≤16→0≤l.foldl (fun a s=>max a ((Zp s dl).getD 0)) b∧l.foldl (fun a s=>max a ((Zp s dl).getD 0)) b≤16:=by
  intro l
  induction l with
  |nil=>intro b h1 h2;exact⟨h1,h2⟩
  |cons s r ih =>
   intro b h1 h2
   have:=h s
   exact ih (max b ((Zp s dl).getD 0)) (by omega) (by omega)
 exact this _ 0 (by omega) (by omega)
theorem Zoh{x bd bs:Nat}{k:Ck}{dl:List (Str×Int)}{sl:List (Str×Bool)}{st:St}(hst:K9 st x bd bs k dl sl)(hdd:bd≠bs)(hdl:∀s,0≤(Zp s dl).getD 0∧(Zp s dl).getD 0≤16)(m:Msg):
  Zf ZEQ 220 [.ptr x 0,.agg m.cells] st (Zek (ZdJ dl sl m) st x bd bs { k with field:=-1,m:=m } (Wy m.name (Kd dl m+1) dl) (Wy m.name (Jx sl m) sl)):=by
 refine Zh (cR 220 f220) fun F hF=>?_
 have hS:=ZdJ.eq_1 dl sl m
 have hx:=hst.x
 have ax:=hst.ne
 refine rx @eQ3 ?_
 refine rx (nd2 @eQ3 (nd2 @hx (nd2 @Ck.cells.eq_1 (nd2 @ZEZ (nd2 @ZFd (nd2 @Yt @Yu)))))) ?_
 obtain⟨k1,au⟩:∃k1:Ck,k1={ k with field:=-1,m:=m }:=⟨_,rfl⟩
 have u:=hst.updX k1
 have az:(st.upd x (.cells [.str k.d.name,YR k.d.msgs,.str k.d.start,.map bd,.map bs,.int .i64 k.at_,.int .i64 (-1),.str m.name,Zo m.fields]))=st.upd x (.cells (k1.cells bd bs)):=by rw[au];rfl
 rw[az]
 rw[←au]at hF
 generalize ac:st.upd x (.cells (k1.cells bd bs))=S1 at *
 have e1:=Wa (vD:=Kx) ZY m.name dl
 have e3:=Ww ZY m.name
 simp only[show Qe m.name=D.str m.name from rfl]at e1 e3
 have ai:∀d,ZdJ dl sl m=false→Zdg d→Zek (ZdJ dl sl m) st x bd bs k1 (Wy m.name (Kd dl m+1) dl) (Wy m.name (Jx sl m) sl) (.panic d) S1:=fun d h hd=>by rw[←ac];exact ZtB h hd
 clear az
 refine rx @eQ3 ?_
 refine clD (ZaT m.name) ?_
 refine cVD (ZU u.x (Yl m.name) 1) ?_ ?_
 ·rintro d S h
  obtain⟨z,rfl,rfl⟩:=YF h
  rw[z,ZFe]at hS
  first|refine⟨by first|trivial|exact⟨rfl,trivial⟩,?_⟩|skip
  refine gR0 ?_
  refine rh ?_
  refine YZ ?_
  simp only[Eqs,reduceCtorEq,ZEV,reduceIte,ZET,ZEX,ZEU,Msg.cells,u.x,u.bd,Ck.cells,e1,e3,Zlw]
  refine rg ?_
  refine cV (ZU u.x (!(Zp m.name dl).isSome) 2) ?_ ?_
  ·rintro d S h
   obtain⟨z,rfl,rfl⟩:=YF h
   rw[z,ZFe]at hS
   refine gR0 ?_
   refine rx (nd2 @eQ3 (nd2 @eQ4 @eQ1)) ?_
   refine cV (ZU u.x (dC (1≤(m.fields.length:Int))&&dC ((m.fields.length:Int)≤40)) 3) ?_ ?_
   ·rintro d S h
    obtain⟨z,rfl,rfl⟩:=YF h
    rw[z,ZFe]at hS
    simp only[ZEY,decide_eq_true_eq]at z
    refine gR0 ?_
    refine rg ?_
    refine rx (nd2 @eQ3 (nd2 @eQ4 @eQ1)) ?_
    subst au
    refine Zb (fr (m.fields.length) (fun i Q=>∀fl:Int,QC dl sl m i=true→i≤m.fields.length→Q [(2,.loc 2 0),(3,.loc 3 0),(6,.loc 6 0),(50,.d (Zo m.fields)),(51,.d (.int .i64 m.fields.length)),(52,.d (.int .i64 i))] [(2,[.ptr x 0]),(3,m.cells),(6,[.bool ((m.fields.take i).all fun f=>!f.loose)])] (st.upd x (.cells (({ k with field:=fl,m:=m }:Ck).cells bd bs)))) (fun n aj=>?_) fun a9=>?_)
    ·intro i hn fl ak hi
     refine rg ?_
     refine Zd (Zs rfl trivial (fun h1=>?_) (fun h1=>?_))
     ·simp at h1
      have hR:=ZpL ak hi
      have aq:=Zig (dl:=dl) (sl:=sl) (m:=m) (i:=i)
      have ah:=ZgQ (p:=fun f:Fld=>!f.loose) h1
      generalize hf:m.fields.getD i dE=f at *
      refine xA (nd2 @eQ4 (nd2 @eQ1 (nd2 @eQ0 @hf))) ?_
      refine rx (nd2 @eQ0 (nd2 @Ck.cells.eq_1 (nd2 @ZEZ (nd2 @ZFd (nd2 @Yt @Yu))))) ?_
      have bc:=hst.updX ({ k with field:=(i:Int),m:=m }:Ck)
      refine rx @eQ0 ?_
      simp only[Zdn]
      refine cV (Zkj bc (n:=i) rfl hi f (hR _)) ?_ ?_
      ·rintro d S2 h
       obtain⟨af,rfl,rfl⟩:=YF h
       refine gR0 ?_
       refine rx @eQ0 ?_
       refine gA ?_
       rw[show(m.fields.take i)=({ k with field:=(i:Int),m:=m }:Ck).m.fields.take i from rfl]at aq
       rw[af,Bool.and_true]at aq
       refine Za ?_
       have ag:=aj ((m.fields.length)-(i+1)) (by omega) (i+1) rfl i (aq.trans ak) (by omega)
       rw[ah]at ag
       exact ag
      rintro d S2 h
      obtain⟨af,ab,rfl⟩:=YE h
      rw[ZpK h1 (by rw[hf];exact af),ZFh]at hS
      exact hF.pan _ (ZES _) (ZtB hS ab)
     simp at h1
     obtain rfl:i=m.fields.length:=by omega
     rw[ZFc]
     rw[ak,ZFe]at hS
     have ar:=Zrd ak (by omega)
     refine rx (nd2 @Ck.cells.eq_1 (nd2 @ZEZ (nd2 @ZFd (nd2 @Yt @Yu)))) ?_
     refine rg ?_
     refine Zd (Zd ?_)
     refine xP 2 fun z2 h2=>?_
     refine xP 6 fun z6 h6=>?_
     refine xP 9 fun z9 h9=>?_
     have k6:=Zw h6
     have k9:=Zw h9
     have ap:=Zw k9.2
     have a8:(st.upd x (.cells [.str k.d.name,YR k.d.msgs,.str k.d.start,.map bd,.map bs,.int .i64 k.at_,.int .i64 (-1),.str m.name,Zo m.fields]))=S:=ac
     rw[a8]at h2 k6 k9 ap⊢
     have v:Qk S z2 z6 z9:=⟨h2,k6,⟨k9.1,ap⟩⟩
     clear h6 h9 k6 k9 ap h2
     have hlen:(Y1 m).length≤1000000:=by
      have:=Qg (m.fields.flatMap Z5) []
      unfold Y1
      simp only[List.length_nil,Nat.zero_add]at this
      omega
     have hmst:S.sub (nxS S x z2 z6 z9 (m.fields.all fun f=>!f.loose) 0):=v.sub
     rw[show((S.upd z2 (.cells [.ptr x 0])).upd z6 (.cells [.bool (m.fields.all fun f=>!f.loose)])).upd z9 (.cells [.int .i64 0])=nxS S x z2 z6 z9 (m.fields.all fun f=>!f.loose) 0 from rfl]
     refine rx @eQ3 ?_
     refine cV (ZlD m ar _) ?_ ?_
     ·rintro d S2 ⟨y,hy,hd,rfl⟩
      cases hd
      refine gR0 ?_
      refine Zb ?_
      have be:ddS (m.fields.flatMap Z5)=Y1 m:=rfl
      have a3:=ZiW (m.fields.flatMap Z5) (by unfold big;omega) y
      rw[be]at a3
      refine KK hF rfl trivial [2,6,9] (by show([2,6,9]:List Nat).Nodup;decide) (W1 hy) a3.Y (fun j hj=>rfl) (fun _=>.next)
       (fun j a=>a=nxS S x z2 z6 z9 ((m.fields.all fun f=>!f.loose)&&((Y1 m).take j).all fun s=>(Zp s sl).getD false) (((Y1 m).take j).foldl (fun a s=>max a ((Zp s dl).getD 0)) 0)) (by simp) ?_ ?_ ?_ ?_ ?_ ?_
      ·intro j a hj al hB F' ready busy hdr a6 ao
       subst hB
       simp only[Eqs,reduceCtorEq,ZEV,reduceIte,ZET,ZEX,ZEU,WP,Kb,Jh,Ko,List.isEmpty_nil,List.isEmpty_cons]
       refine rg ?_
       refine a6 fun bh=>?_
       have ah:=ZgQ (p:=fun s:Str=>(Zp s sl).getD false) hj
       have av:=Zuw (f:=fun a s=>max a ((Zp s dl).getD 0)) (b:=(0:Int)) hj
       generalize hnm:(Y1 m).getD j dE=nm at *
       have e1:=Wa (vD:=Kx) ZY nm dl
       have e2:=Wa (vD:=D.bool) ZY nm sl
       have e3:=Ww ZY nm
       simp only[show Qe nm=D.str nm from rfl]at e1 e2 e3
       rw[ah,av]at ao
       generalize ((Y1 m).take j).foldl (fun a s=>max a ((Zp s dl).getD 0)) 0=dp at *
       generalize ((Y1 m).take j).all (fun s=>(Zp s sl).getD false)=sb at *
       generalize (m.fields.all fun f=>!f.loose)=lo at *
       refine rh ?_
       refine YZ ?_
       simp only[Eqs,reduceCtorEq,ZEV,reduceIte,ZET,ZEX,ZEU,Zq (v.g2 ),Zq (Qk.g9 ),Zq (v.gs u.x),Zq (v.gs u.bd),Ck.cells,e1,e3,ZnZ,W5,Qk.u9]
       refine rh ?_
       refine Zm ?_
       simp only[Eqs,reduceCtorEq,ZEV,reduceIte,ZET,ZEX,ZEU,Zq (v.g2 ),Zq (v.g6 ),Zq (v.gs u.x),Zq (v.gs u.bs),Ck.cells,e2,e3,Zlv,W5,v.u6]
       refine Zj ?_
       exact ao.fin ⟨rfl,by rw[←Bool.and_assoc]⟩ (Qk.disj bh) (ZES _)
      ·intro q a al hB hq
       subst hB
       rw[ZFc]at hq⊢
       rw[Qj hq]
       rw[show((m.fields.all fun f=>!f.loose)&&(Y1 m).all fun s=>(Zp s sl).getD false)=Jx sl m from rfl,show(Y1 m).foldl (fun a s=>max a ((Zp s dl).getD 0)) 0=Kd dl m from rfl]at hq⊢
       have hdp:=ZhD (m:=m) hdl
       generalize Jx sl m=sb at *
       generalize Kd dl m=dp at *
       have aw:=Zq (t:=ZFj q .dfr) (v.g2 (x:=x) (sb:=sb) (dp:=dp))
       have ba:=Zq (t:=ZFj q .dfr) (v.g6 (x:=x) (sb:=sb) (dp:=dp))
       have a4:=Zq (t:=ZFj q .dfr) (Qk.g9 (s1:=S) (x:=x) (z2:=z2) (z6:=z6) (z9:=z9) (sb:=sb) (dp:=dp))
       have a0:=Zq (t:=ZFj q .dfr) (v.gs (x:=x) (sb:=sb) (dp:=dp) u.x)
       have bg:=Zq (t:=ZFj q .dfr) (v.gs (x:=x) (sb:=sb) (dp:=dp) u.bd)
       have bj:=Zq (t:=ZFj q .dfr) (v.gs (x:=x) (sb:=sb) (dp:=dp) u.bs)
       generalize hX:(nxS S x z2 z6 z9 sb dp).or (ZFj q .dfr)=X at *
       have n2:∀b o,S b=sO o→z2≠b:=fun b o h e=>by rw[←e,v.n2]at h;simp at h
       have n6:∀b o,S b=sO o→z6≠b:=fun b o h e=>by rw[←e,v.n6.2]at h;simp at h
       have n9:∀b o,S b=sO o→z9≠b:=fun b o h e=>by rw[←e,v.n9.2.2]at h;simp at h
       have u2:∀(Y:St) o,(Y.upd bd o) z2=Y z2:=fun Y o=>ZE0 _ _ (n2 _ _ u.bd)
       have u6:∀(Y:St) o,(Y.upd bd o) z6=Y z6:=fun Y o=>ZE0 _ _ (n6 _ _ u.bd)
       have u9:∀(Y:St) o,(Y.upd bd o) z9=Y z9:=fun Y o=>ZE0 _ _ (n9 _ _ u.bd)
       have ux:∀(Y:St) o,(Y.upd bd o) x=Y x:=fun Y o=>ZE0 _ _ ax.1
       have us:∀(Y:St) o,(Y.upd bd o) bs=Y bs:=fun Y o=>ZE0 _ _ hdd.symm
       have v2:∀(Y:St) o,(Y.upd bs o) z2=Y z2:=fun Y o=>ZE0 _ _ (n2 _ _ u.bs)
       have v6:∀(Y:St) o,(Y.upd bs o) z6=Y z6:=fun Y o=>ZE0 _ _ (n6 _ _ u.bs)
       have v9:∀(Y:St) o,(Y.upd bs o) z9=Y z9:=fun Y o=>ZE0 _ _ (n9 _ _ u.bs)
       have vx:∀(Y:St) o,(Y.upd bs o) x=Y x:=fun Y o=>ZE0 _ _ ax.2
       have d1:=ZoU (vD:=Kx) ZY m.name (D.int .i64 0) dl
       have d2:=ZbY (vD:=Kx) ZY m.name (dp+1) dl
       have s1:=ZoU (vD:=D.bool) ZY m.name (D.bool false) sl
       have s2:=ZbY (vD:=D.bool) ZY m.name sb sl
       simp only[show Qe m.name=D.str m.name from rfl,show Kx (dp+1)=D.int .i64 (dp+1) from rfl]at d1 d2 s1 s2
       refine xA (nd2 @eQ3 (nd2 @aw (nd2 @ba (nd2 @a4 (nd2 @a0 (nd2 @bg (nd2 @bj (nd2 @u2 (nd2 @u6 (nd2 @u9 (nd2 @ux (nd2 @us (nd2 @v2 (nd2 @v6 (nd2 @v9 (nd2 @vx (nd2 @d1 (nd2 @d2 (nd2 @s1 (nd2 @s2 (nd2 @e3 (nd2 @Ck.cells.eq_1 (nd2 @ZEZ (nd2 @ZFd (nd2 @Yt @Yu))))))))))))))))))))))))) ?_
       refine rx (nd2 @u2 (nd2 @v2 (nd2 @aw (nd2 @u9 (nd2 @v9 @a4))))) ?_
       have ay:(X.upd bd (.map (Qn Qe Kx (Wy m.name (dp+1) dl)))).upd bs (.map (Qn Qe D.bool (Wy m.name sb sl)))=(nxS ((S.upd bd (.map (JZ (Wy m.name (dp+1) dl)))).upd bs (.map (ZdS (Wy m.name sb sl)))) x z2 z6 z9 sb dp).or (ZFj q .dfr):=by
        rw[←hX,W5,W5,v.ub u.bd,(v.of u.bd).ub (by rw[us];exact u.bs)]
       have am:Qk ((S.upd bd (.map (JZ (Wy m.name (dp+1) dl)))).upd bs (.map (ZdS (Wy m.name sb sl)))) z2 z6 z9:=(v.of u.bd).of (by rw[us];exact u.bs)
       have a7:(nxS ((S.upd bd (.map (JZ (Wy m.name (dp+1) dl)))).upd bs (.map (ZdS (Wy m.name sb sl)))) x z2 z6 z9 sb dp) q=nO:=by
        have bb:q≠bs:=fun e=>by have:=v.gs (x:=x) (sb:=sb) (dp:=dp) u.bs;rw[←e,hq]at this;simp at this
        have bf:q≠bd:=fun e=>by have:=v.gs (x:=x) (sb:=sb) (dp:=dp) u.bd;rw[←e,hq]at this;simp at this
        rw[←(v.of u.bd).ub (by rw[us];exact u.bs),←v.ub u.bd,ZE0 _ _ bb,ZE0 _ _ bf];exact hq
       have bi:((X.upd bd (.map (Qn Qe Kx (Wy m.name (dp+1) dl)))).upd bs (.map (Qn Qe D.bool (Wy m.name sb sl)))) x=sO (.cells (({ k with field:=-1,m:=m }:Ck).cells bd bs)):=by rw[vx,ux];exact a0
       refine cV (ZU bi (dC (dp<16)) 10) ?_ ?_
       ·rintro d S3 h
        obtain⟨ae,rfl,rfl⟩:=YF h
        rw[ae]at hS
        refine gR0 ?_
        rw[ay]
        exact hF.fin1 a7 (.tup []) _ rfl trivial (ZEW _) am.sub (by rw[hS];exact⟨rfl,by rw[←ac]⟩)
       rintro d S3 h
       obtain⟨ae,ab,rfl⟩:=YE h
       rw[ae]at hS
       rw[ay]
       exact hF.pan1 a7 _ am.sub (by rw[hS];exact⟨⟨d,ab,rfl⟩,fun b h1 h2 h3=>by rw[ZE0 _ _ h3,ZE0 _ _ h2,←ac,ZE0 _ _ h1]⟩)
      ·intro q a m hm al ad;simp at ad
      ·intro q a m id hm al ad;simp at ad
      ·intro q a m d hm al ad;simp at ad
      intro m c ad;simp at ad
     rintro d S2 ⟨y,hy,hd,_⟩
     cases hd
    have a5:=a9 _ 0 rfl (-1) (by simp[QC]) (by omega)
    rw[ac]at a5
    exact a5
   rintro d S h
   obtain⟨z,ab,rfl⟩:=YE h
   rw[z,ZFh]at hS
   exact hF.pan _ (ZES _) (ai _ hS ab)
  rintro d S h
  obtain⟨z,ab,rfl⟩:=YE h
  rw[z,ZFh]at hS
  exact hF.pan _ (ZES _) (ai _ hS ab)
 rintro d S h
 obtain⟨z,ab,rfl⟩:=YE h
 rw[z,ZFh]at hS
 exact hF.pan _ (ZES _) (ai _ hS ab)
theorem ZoL{P:Program}{F:Fr P}{d:D}(h:DWf d→Y6 F ρ L d s):Y6 F ρ L d s :=
 fun g ν w v c tmps hN m hr=>h hr.wf g ν w v c tmps hN m hr
theorem DWf.iface_inv{t:TypeId}{d:D}(h:DWf (.iface t d)):DWf d:=by
 cases h with
 |iface _ _ h=>exact h
 |other _ h=>exact absurd h (by simp)
theorem Zbs{P:Program}{i:FuncId}{args:List D}{m:Option D}{Ψ Ψ':Bool→St→Prop}(h:JQ P i args m s Ψ)(hi:∀b S,Ψ b S→Ψ' b S):JQ P i args m s Ψ' :=
 ⟨h.1,fun g w vs cf cs h1 h2 h3=>by
  obtain⟨g',w',s',b,a1,a2,a3,a4⟩:=h.2 g w vs cf cs h1 h2 h3
  exact⟨g',w',s',b,a1,a2,hi _ _ a3,a4⟩⟩
theorem Zf1{z3 z4:Nat}{c:Ya}{b:Bool}{st:St}(h3:st z3=sO c)(h4:st z4=sO (.cells [.bool b])):
  JQ ZEQ 218 [.ptr z3 0,.ptr z4 0] nO st fun _ S=>S=st:=by
 refine Zb1 (cR 218 f218) rfl (by simp) fun F hF=>?_
 refine rg ?_
 refine ZfD hF rfl rfl ?_
 refine gR0 ?_
 refine rg ?_
 refine cd (fun h=>?_) (fun h=>?_)
 ·simp at h
 refine Zv ?_
 exact hF.fin (ZES _) rfl
theorem Zf2{z3 z4:Nat}{b:Bool}{st:St}(hz:z3≠z4)(x y z:Int)(hx:inR .i64 x)(hy:inR .i64 y)(hw:inR .i64 z)(h3:st z3=sO (.cells [.int .i64 0,.int .i64 0,.int .i64 0]))(h4:st z4=sO (.cells [.bool b])):
  JQ ZEQ 218 [.ptr z3 0,.ptr z4 0] (sO (Zg2 x y z)) st fun b S=>b=true∧S=(st.upd z3 (.cells [.int .i64 x,.int .i64 y,.int .i64 z])).upd z4 (.cells [.bool true]):=by
 refine Zb1 (cR 218 f218) rfl (by rintro d ⟨⟩;exact⟨hx,hy,hw,trivial⟩) fun F hF=>?_
 have c:∀o,(st.upd z3 o) z4=sO (.cells [.bool b]):=fun o=>by rw[ZE0 _ _ (Ne.symm hz)];exact h4
 refine rg ?_
 refine ZlR hF rfl rfl fun F2 i=>?_
 refine gR0 ?_
 refine rx @Zg2.eq_1 ?_
 refine cd (fun h=>?_) (fun h=>?_)
 ·refine rx (nd2 @Zg2.eq_1 (nd2 @h3 (nd2 @h4 (nd2 @c (nd2 @ZEZ (nd2 @ZFd (nd2 @Yt @Yu))))))) ?_
  refine rx (nd2 @h4 (nd2 @c (nd2 @ZEZ (nd2 @ZFd (nd2 @Yt @Yu))))) ?_
  refine cd (fun h5=>?_) (fun h5=>?_)
  ·simp at h5
  refine Zv ?_
  exact i.fin (ZES _) ⟨rfl,rfl⟩
 simp[Zg2]at h
def Zco(dl:List (Str×Int))(sl:List (Str×Bool)):List Msg→Option (List (Str×Int)×List (Str×Bool))
 | []=>sO (dl,sl)
 |m::r=>if ZdJ dl sl m then Zco (Wy m.name (Kd dl m+1) dl) (Wy m.name (Jx sl m) sl) r else nO
def Zdt(d:Dfn):Bool :=
 Yl d.name&&((dC (1≤(d.msgs.length:Int))&&dC ((d.msgs.length:Int)≤60))&&(Zco [] [] d.msgs).elim false fun p=>(Zp d.start p.1).isSome)
theorem ZkS(dl:List (Str×Int))(sl:List (Str×Bool))(l l':List Msg):Zco dl sl (l++l')=(Zco dl sl l).elim nO fun p=>Zco p.1 p.2 l':=by
 induction l generalizing dl sl with
 |nil=>rfl
 |cons m r ih =>
  simp only[List.cons_append,Zco]
  split
  ·exact ih _ _
  rfl
theorem Zpp{l:List Msg}{i:Nat}{dl:List (Str×Int)}{sl:List (Str×Bool)}(h:Zco [] [] (l.take i)=sO (dl,sl))(hi:i<l.length):Zco [] [] (l.take (i+1))=if ZdJ dl sl (l.getD i dE) then sO (Wy (l.getD i dE).name (Kd dl (l.getD i dE)+1) dl,Wy (l.getD i dE).name (Jx sl (l.getD i dE)) sl) else nO:=by
 rw[Z0 hi,ZkS,h];rfl
theorem Zyd{l:List Msg}{i:Nat}{dl:List (Str×Int)}{sl:List (Str×Bool)}(h:Zco [] [] (l.take i)=sO (dl,sl))(hi:i<l.length)(hb:ZdJ dl sl (l.getD i dE)=false):Zco [] [] l=nO:=by
 have h1:=Zpp h hi
 rw[hb]at h1
 rw[←List.take_append_drop (i+1) l,ZkS,h1]
 rfl
structure Za9(S st:St)(x bd bs z3 z4:Nat)(k:Ck)(dl:List (Str×Int))(sl:List (Str×Bool)):Prop where
 ck:K9 S x bd bs k dl sl
 c3:S z3=some (.cells [.int .i64 0,.int .i64 0,.int .i64 0])
 c4:S z4=some (.cells [.bool false])
 sub:st.sub S
 fx:st x=none
 fd:st bd=none
 fs:st bs=none
 f3:st z3=none
 f4:st z4=none
 nd:bd≠bs
 n34:z3≠z4
section
variable {S st:St} {x bd bs z3 z4:Nat} {k:Ck} {dl:List (Str × Int)} {sl:List (Str × Bool)}
theorem Za9.n3(h:Za9 S st x bd bs z3 z4 k dl sl):z3≠x∧z3≠bd∧z3≠bs:=by
 refine⟨fun e=>?_,fun e=>?_,fun e=>?_⟩
 ·have h3:=h.c3;rw[e,h.ck.x]at h3;simp[Ck.cells]at h3
 ·have h3:=h.c3;rw[e,h.ck.bd]at h3;simp at h3
 have h3:=h.c3;rw[e,h.ck.bs]at h3;simp at h3
theorem Za9.n4(h:Za9 S st x bd bs z3 z4 k dl sl):z4≠x∧z4≠bd∧z4≠bs:=by
 refine⟨fun e=>?_,fun e=>?_,fun e=>?_⟩
 ·have h3:=h.c4;rw[e,h.ck.x]at h3;simp[Ck.cells]at h3
 ·have h3:=h.c4;rw[e,h.ck.bd]at h3;simp at h3
 have h3:=h.c4;rw[e,h.ck.bs]at h3;simp at h3
theorem Za9.move(h:Za9 S st x bd bs z3 z4 k dl sl){S':St}{k':Ck}{dl':List (Str×Int)}{sl':List (Str×Bool)}(hc:K9 S' x bd bs k' dl' sl')(ho:∀b,b≠x→b≠bd→b≠bs→S' b=S b):Za9 S' st x bd bs z3 z4 k' dl' sl':={
 ck:=hc
 c3:=by rw[ho _ h.n3.1 h.n3.2.1 h.n3.2.2];exact h.c3
 c4:=by rw[ho _ h.n4.1 h.n4.2.1 h.n4.2.2];exact h.c4
 sub b o hb:=by
  rw[ho b (fun e=>by rw[e,h.fx]at hb;simp at hb) (fun e=>by rw[e,h.fd]at hb;simp at hb) (fun e=>by rw[e,h.fs]at hb;simp at hb)];exact h.sub b o hb
 fx:=h.fx
 fd:=h.fd
 fs:=h.fs
 f3:=h.f3
 f4:=h.f4
 nd:=h.nd
 n34:=h.n34 }
theorem Za9.updX(h:Za9 S st x bd bs z3 z4 k dl sl)(k':Ck):Za9 (S.upd x (.cells (k'.cells bd bs))) st x bd bs z3 z4 k' dl sl :=
 h.move (h.ck.updX k') fun b h1 _ _=>ZE0 _ _ h1
theorem Za9.bad(h:Za9 S st x bd bs z3 z4 k dl sl){S':St}(ho:∀b,b≠x→b≠bd→b≠bs→S' b=S b){F:Fr ZEQ}(hF:YQ F [.tmp 2,.cellN 3 3,.cell1 4] (fun r S=>S=st∧∃a f c,r=Res.ret (.tup [.any,.agg [.int .i64 a,.int .i64 f,.int .i64 c],.bool true])) [.fn 218 [] [.ptr z3 0,.ptr z4 0]]){d:D}(hd:Zdg d)(hr:∀s' c3,s' z3=sO (.cells c3)→c3.length=3→s' z4=sO (.cells [.bool true])→∃p,YI ρ L s' [.tmp 2,.cellN 3 3,.cell1 4]=sO (p,[.ptr x 0,.agg c3,.bool true])∧p):Y6 F ρ L d S':=by
 obtain⟨a,f,c,rfl⟩:=hd
 refine ZoL fun hw=>?_
 have i:=DWf.agg_inv (DWf.iface_inv hw)
 have h1:inR .i64 a:=(i _ (by simp)).int_inv
 have h2:inR .i64 f:=(i _ (by simp)).int_inv
 have h3:inR .i64 c:=(i _ (by simp)).int_inv
 have u:S' z3=sO (.cells [.int .i64 0,.int .i64 0,.int .i64 0]):=by rw[ho _ h.n3.1 h.n3.2.1 h.n3.2.2];exact h.c3
 have j:S' z4=sO (.cells [.bool false]):=by rw[ho _ h.n4.1 h.n4.2.1 h.n4.2.2];exact h.c4
 refine hF.panU ⟨trivial,⟨rfl,rfl,trivial⟩,Zbs (Zf2 h.n34 a f c h1 h2 h3 u j) ?_⟩
 rintro b S2 ⟨rfl,rfl⟩
 obtain⟨p,t,n⟩:=hr ((S'.upd z3 (.cells [.int .i64 a,.int .i64 f,.int .i64 c])).upd z4 (.cells [.bool true])) [.int .i64 a,.int .i64 f,.int .i64 c] (by rw[ZE0 _ _ h.n34,ZEZ]) rfl (ZEZ _ _ _)
 refine⟨p,_,_,st,t,n,?_,?_,rfl,a,f,c,rfl⟩
 ·exact ZjJ rfl (.cons (fun _ _ v _=>.any v) (LeC.refl _))
 intro b o hb
 have e1:b≠z3:=fun e=>by rw[e,h.f3]at hb;simp at hb
 have e2:b≠z4:=fun e=>by rw[e,h.f4]at hb;simp at hb
 rw[ZE0 _ _ e2,ZE0 _ _ e1]
 rw[ho b (fun e=>by rw[e,h.fx]at hb;simp at hb) (fun e=>by rw[e,h.fd]at hb;simp at hb) (fun e=>by rw[e,h.fs]at hb;simp at hb)];exact h.sub b o hb
end
theorem Za9.mk0{st:St}{bd bs x z3 z4:Nat}{c:List D}(hbd:st bd=nO)(hbs:st.upd bd (.map []) bs=nO)(hx:(st.upd bd (.map [])).upd bs (.map []) x=nO)(h3:((st.upd bd (.map [])).upd bs (.map [])).upd x (.cells c) z3=nO)(h4:(((st.upd bd (.map [])).upd bs (.map [])).upd x (.cells c)).upd z3 (.cells [.int .i64 0,.int .i64 0,.int .i64 0]) z4=nO)(k:Ck):
  ((((st.upd bd (.map [])).upd bs (.map [])).upd x (.cells c)).upd z3 (.cells [.int .i64 0,.int .i64 0,.int .i64 0])).upd z4 (.cells [.bool false]) x=sO (.cells c) ∧
  Za9 ((((((st.upd bd (.map [])).upd bs (.map [])).upd x (.cells c)).upd z3 (.cells [.int .i64 0,.int .i64 0,.int .i64 0])).upd z4 (.cells [.bool false])).upd x (.cells (k.cells bd bs))) st x bd bs z3 z4 k [] []:=by
 have a4:=Zw h4
 have b4:=Zw a4.2
 have c4:=Zw b4.2
 have d4:=Zw c4.2
 have a3:=Zw h3
 have b3:=Zw a3.2
 have c3:=Zw b3.2
 have ax:=Zw hx
 have bx:=Zw ax.2
 have i:=Zw hbs
 refine⟨?_,⟨⟨?_,?_,?_⟩,?_,?_,?_,?_,?_,?_,?_,?_,?_,?_⟩⟩
 ·rw[ZE0 _ _ b4.1.symm,ZE0 _ _ a3.1.symm,ZEZ]
 ·exact ZEZ _ _ _
 ·rw[ZE0 _ _ bx.1.symm,ZE0 _ _ d4.1.symm,ZE0 _ _ c3.1.symm,ZE0 _ _ bx.1.symm,ZE0 _ _ i.1.symm,ZEZ];rfl
 ·rw[ZE0 _ _ ax.1.symm,ZE0 _ _ c4.1.symm,ZE0 _ _ b3.1.symm,ZE0 _ _ ax.1.symm,ZEZ];rfl
 ·rw[ZE0 _ _ a3.1,ZE0 _ _ a4.1.symm,ZEZ]
 ·rw[ZE0 _ _ b4.1,ZEZ]
 ·intro b o hb
  have e:∀y,st y=nO→b≠y:=fun y hy e=>by rw[e,hy]at hb;simp at hb
  rw[ZE0 _ _ (e _ bx.2),ZE0 _ _ (e _ d4.2),ZE0 _ _ (e _ c3.2),ZE0 _ _ (e _ bx.2),ZE0 _ _ (e _ i.2),ZE0 _ _ (e _ hbd)];exact hb
 ·exact bx.2
 ·exact hbd
 ·exact i.2
 ·exact c3.2
 ·exact d4.2
 ·exact i.1.symm
 exact a4.1.symm
theorem ZuI{c:List D}(h:c.length=3):∃a b d,c=[a,b,d]:=by
 match c,h with
 | [a,b,d],_=>exact⟨a,b,d,rfl⟩
theorem ZiX(d:Dfn)(st:St):
  Zf ZEQ 171 [.agg d.cells] st fun r S=>S=st∧∃a f c,r=.ret (.tup [.any,.agg [.int .i64 a,.int .i64 f,.int .i64 c],.bool (!Zdt d)]):=by
 refine Zh (cR 171 f171) fun F hF=>?_
 have hS:=Zdt.eq_1 d
 refine rx @eQ2 ?_
 refine rx @eQ2 ?_
 intro bd am bs ap
 refine Zd ?_
 refine xP 13 fun x hx=>?_
 refine xP 3 fun z3 h3=>?_
 refine xP 4 fun z4 h4=>?_
 refine rg ?_
 refine Zk2 (by obtain⟨_,_,_,_,_,_,rfl⟩:=hF;rfl) rfl rfl rfl rfl rfl rfl trivial trivial ?_ ?_ ?_
 ·trivial
 ·exact⟨rfl,rfl,trivial⟩
 have y:=hF.defer 218 [] [.ptr z3 0,.ptr z4 0]
 clear hF
 refine gR0 ?_
 generalize F.defer 218 [] [.ptr z3 0,.ptr z4 0]=F at y⊢
 obtain⟨al,u⟩:=Za9.mk0 am ap hx h3 h4 ⟨d,-1,-1,⟨[],[]⟩⟩
 refine J8 al (ds':=Ck.cells ⟨d,-1,-1,⟨[],[]⟩⟩ bd bs) (.cons (ZEW _) (.cons (ZEW _) (.cons (ZEW _) (.cons (ZEW _) (.cons (ZEW _) (.cons (ZEW _) (.cons (ZEW _) (.cons (ZEW _) (.cons (WH fun b h=>by cases h) .nil))))))))) ?_
 generalize (ZFr (ZFr (ZFr (ZFr (ZFr (ZFr st _ _) _ _) _ _) _ _) _ _) _ _)=S at *
 clear am ap hx h3 h4 al
 refine rx @eQ2 ?_
 refine cl (ZaT d.name) ?_
 refine cV (ZU u.ck.x (Yl d.name) 1) ?_ ?_
 ·rintro dd S2 h
  obtain⟨t,rfl,rfl⟩:=YF h
  rw[t,ZFe]at hS
  refine gR0 ?_
  refine rx (nd2 @eQ2 (nd2 @eQ6 @eQ1)) ?_
  refine cV (ZU u.ck.x (dC (1≤(d.msgs.length:Int))&&dC ((d.msgs.length:Int)≤60)) 3) ?_ ?_
  ·rintro dd S2 h
   obtain⟨t,rfl,rfl⟩:=YF h
   rw[t,ZFe]at hS
   simp only[ZEY,decide_eq_true_eq]at t
   have hlen:=t.2
   refine gR0 ?_
   refine rx (nd2 @eQ2 (nd2 @eQ6 @eQ1)) ?_
   generalize ah:(⟨d,-1,-1,⟨[],[]⟩⟩:Ck)=k0 at *
   have aw:k0.d=d:=by rw[←ah]
   clear ah
   refine Zb (fr (d.msgs.length) (fun i Q=>∀(S:St) (k:Ck) dl sl,Za9 S st x bd bs z3 z4 k dl sl→k.d=d→Zco [] [] (d.msgs.take i)=sO (dl,sl)→(∀s,0≤(Zp s dl).getD 0∧(Zp s dl).getD 0≤16)→i≤d.msgs.length→Q [(1,.loc 1 0),(2,.d (.ptr x 0)),(3,.d (.ptr z3 0)),(4,.d (.ptr z4 0)),(33,.d (YR d.msgs)),(34,.d (.int .i64 d.msgs.length)),(35,.d (.int .i64 i))] [(1,d.cells)] S) (fun n ad=>?_) fun aq=>?_)
   ·intro i hni S k dl sl u ar ab ae hi
    refine rg ?_
    refine Zd (Zs rfl trivial (fun h1=>?_) (fun h1=>?_))
    ·simp at h1
     refine xA (nd2 @eQ6 (nd2 @eQ1 @eQ3)) ?_
     refine rx (nd2 @u.ck.x (nd2 @Ck.cells.eq_1 (nd2 @ZEZ (nd2 @ZFd (nd2 @Yt @Yu))))) ?_
     have ac:(S.upd x (.cells [.str k.d.name,YR k.d.msgs,.str k.d.start,.map bd,.map bs,.int .i64 i,.int .i64 k.field,.str k.m.name,Zo k.m.fields]))=S.upd x (.cells (({ k with at_:=i }:Ck).cells bd bs)):=rfl
     rw[ac]
     have j:=u.updX { k with at_:=i }
     generalize S.upd x (.cells (({ k with at_:=i }:Ck).cells bd bs))=S1 at *
     have ao:({ k with at_:=(i:Int) }:Ck).d=d:=ar
     clear ac u
     generalize ({ k with at_:=i }:Ck)=k1 at *
     have ag:=Zpp ab h1
     have au:=Zyd ab h1
     generalize hm:d.msgs.getD i dE=m at *
     refine rx @hm ?_
     rw[show(D.agg [.str m.name,Zo m.fields])=.agg m.cells from rfl]
     refine cV (Zoh j.ck j.nd ae m) ?_ ?_
     ·rintro dd S2 h
      unfold Zek at h
      split at h
      ·rename_i t
       rw[if_pos t]at ag
       obtain⟨h4,h5⟩:=h
       cases h4
       have af:=j.move (S':=S2) (k':={ k1 with field:=-1,m:=m }) (dl':=Wy m.name (Kd dl m+1) dl) (sl':=Wy m.name (Jx sl m) sl) (by
         subst h5
         have ak:=j.ck.ne
         exact⟨by rw[ZE0 _ _ ak.2,ZE0 _ _ ak.1,ZEZ],by rw[ZE0 _ _ j.nd,ZEZ],ZEZ _ _ _⟩) (fun b h1 h2 h3=>by rw[h5,ZE0 _ _ h3,ZE0 _ _ h2,ZE0 _ _ h1])
       have aj:∀s,0≤(Zp s (Wy m.name (Kd dl m+1) dl)).getD 0∧(Zp s (Wy m.name (Kd dl m+1) dl)).getD 0≤16:=fun s=>by
        rw[Qb]
        split
        ·have hd16:=ZhD (m:=m) ae
         have:Kd dl m<16:=by
          unfold ZdJ at t
          simp only[ZEY,decide_eq_true_eq]at t
          exact t.2.2.2.2
         simp only[ZFs];omega
        exact ae s
       clear h5
       refine gR0 ?_
       refine gA ?_
       refine Za ?_
       exact ad ((d.msgs.length)-(i+1)) (by omega) (i+1) rfl _ _ _ _ af ao ag aj (by omega)
      exact absurd h.1 (by simp)
     rintro dd S2 h
     unfold Zek at h
     split at h
     ·exact absurd h.1 (by simp)
     rename_i ai
     obtain⟨⟨d2,z,h4⟩,h5⟩:=h
     cases h4
     have hb:ZdJ dl sl m=false:=by simpa using ai
     rw[au hb]at hS
     exact j.bad h5 (by rw[hS]at y;exact y) z (fun s' c3 h1 h2 h3=>by obtain⟨u1,u2,u3,rfl⟩:=ZuI h2;refine⟨_,by simp only[Eqs,reduceCtorEq,ZEV,reduceIte,ZET,ZEX,ZEU,YI,Kp,h1,h3];rfl,?_⟩;trivial)
    simp at h1
    obtain rfl:i=d.msgs.length:=by omega
    rw[ZFc]at ab
    rw[ab]at hS
    simp only[Option.elim]at hS
    refine rx (nd2 @u.ck.x (nd2 @Ck.cells.eq_1 (nd2 @ZEZ (nd2 @ZFd (nd2 @Yt @Yu))))) ?_
    have ac:(S.upd x (.cells [.str k.d.name,YR k.d.msgs,.str k.d.start,.map bd,.map bs,.int .i64 (-1),.int .i64 k.field,.str k.m.name,Zo k.m.fields]))=S.upd x (.cells (({ k with at_:=-1 }:Ck).cells bd bs)):=rfl
    rw[ac]
    have j:=u.updX { k with at_:=-1 }
    generalize S.upd x (.cells (({ k with at_:=-1 }:Ck).cells bd bs))=S1 at *
    clear ac u
    generalize ({ k with at_:=-1 }:Ck)=k1 at *
    have e1:=Wa (vD:=Kx) ZY d.start dl
    have e3:=Ww ZY d.start
    simp only[show Qe d.start=D.str d.start from rfl]at e1 e3
    refine rh ?_
    refine YZ ?_
    simp only[Eqs,reduceCtorEq,ZEV,reduceIte,ZET,ZEX,ZEU,Dfn.cells,j.ck.x,j.ck.bd,Ck.cells,e1,e3,Zlw]
    refine rg ?_
    refine cV (ZU j.ck.x (Zp d.start dl).isSome 11) ?_ ?_
    ·rintro dd S2 h
     obtain⟨t,rfl,rfl⟩:=YF h
     rw[t]at hS
     refine gR0 ?_
     have av:∀o,(S2.upd z3 o) z4=sO (.cells [.bool false]):=fun o=>by rw[ZE0 _ _ j.n34.symm];exact j.c4
     refine rx (nd2 @j.c3 (nd2 @j.c4 (nd2 @av (nd2 @ZEZ (nd2 @ZFd (nd2 @Yt @Yu)))))) ?_
     refine y.retU ⟨trivial,⟨rfl,rfl,trivial⟩,Zbs (Zf1 (by rw[ZE0 _ _ j.n34,ZEZ]) (ZEZ _ _ _)) ?_⟩
     rintro b S3 rfl
     rw[ite_self]
     have g3:((S2.upd z3 (.cells [.int .i64 0,.int .i64 0,.int .i64 0])).upd z4 (.cells [.bool false])) z3=sO (.cells [.int .i64 0,.int .i64 0,.int .i64 0]):=by rw[ZE0 _ _ j.n34,ZEZ]
     have g4:((S2.upd z3 (.cells [.int .i64 0,.int .i64 0,.int .i64 0])).upd z4 (.cells [.bool false])) z4=sO (.cells [.bool false]):=ZEZ _ _ _
     refine⟨_,[.ptr x 0,.agg [.int .i64 0,.int .i64 0,.int .i64 0],.bool false],.tup [.any,.agg [.int .i64 0,.int .i64 0,.int .i64 0],.bool false],st,by simp only[Eqs,reduceCtorEq,ZEV,reduceIte,ZET,ZEX,ZEU,YI,Kp,g3,g4];rfl,by trivial,?_,?_,rfl,0,0,0,by rw[hS];rfl⟩
     ·exact ZjJ rfl (.cons (fun _ _ v _=>.any v) (LeC.refl _))
     intro b o hb
     have e1:b≠z3:=fun e=>by rw[e,j.f3]at hb;simp at hb
     have e2:b≠z4:=fun e=>by rw[e,j.f4]at hb;simp at hb
     rw[ZE0 _ _ e2,ZE0 _ _ e1]
     exact j.sub b o hb
    rintro dd S2 h
    obtain⟨t,z,rfl⟩:=YE h
    rw[t]at hS
    exact j.bad (fun _ _ _ _=>rfl) (by rw[hS]at y;exact y) z (fun s' c3 h1 h2 h3=>by obtain⟨u1,u2,u3,rfl⟩:=ZuI h2;refine⟨_,by simp only[Eqs,reduceCtorEq,ZEV,reduceIte,ZET,ZEX,ZEU,YI,Kp,h1,h3];rfl,?_⟩;trivial)
   exact aq _ 0 rfl _ k0 [] [] u aw rfl (by simp[Zp]) (by omega)
  rintro dd S2 h
  obtain⟨t,z,rfl⟩:=YE h
  rw[t,ZFh]at hS
  exact u.bad (fun _ _ _ _=>rfl) (by rw[hS]at y;exact y) z (fun s' c3 h1 h2 h3=>by obtain⟨u1,u2,u3,rfl⟩:=ZuI h2;refine⟨_,by simp only[Eqs,reduceCtorEq,ZEV,reduceIte,ZET,ZEX,ZEU,YI,Kp,h1,h3];rfl,?_⟩;trivial)
 rintro dd S2 h
 obtain⟨t,z,rfl⟩:=YE h
 rw[t,ZFh]at hS
 exact u.bad (fun _ _ _ _=>rfl) (by rw[hS]at y;exact y) z (fun s' c3 h1 h2 h3=>by obtain⟨u1,u2,u3,rfl⟩:=ZuI h2;refine⟨_,by simp only[Eqs,reduceCtorEq,ZEV,reduceIte,ZET,ZEX,ZEU,YI,Kp,h1,h3];rfl,?_⟩;trivial)
theorem Zm7(d:Dfn)(st:St):
  Zf ZEQ 129 [.agg d.cells] st fun r S=>S=st∧∃a f c,r=.ret (.tup [.agg [.int .i64 a,.int .i64 f,.int .i64 c],.bool (!Zdt d)]):=by
 refine Zh (cR 129 f129) fun F hF=>?_
 refine rx @eQ2 ?_
 refine rx @eQ2 ?_
 rw[show(D.agg [.str d.name,YR d.msgs,.str d.start])=.agg d.cells from rfl]
 refine cV (ZiX d st) ?_ ?_
 ·rintro dd S2 ⟨rfl,a,f,c,h⟩
  cases h
  refine gR0 ?_
  refine rg ?_
  exact hF.ret _ S2 rfl (by simp) (ZEW _) (ZES _) ⟨rfl,a,f,c,rfl⟩
 rintro dd S2 ⟨_,a,f,c,h⟩
 cases h
theorem Zul{f:Fld}(hk:Jf f=true):dC (Zes f=Zeg f.name f.kind)=Zde f:=by
 unfold Jf at hk
 simp only[ZEY,decide_eq_true_eq]at hk
 have c:f.kind=1∨f.kind=2∨f.kind=3∨f.kind=4∨f.kind=5∨f.kind=6∨f.kind=7∨f.kind=8∨f.kind=9∨f.kind=10∨f.kind=11∨f.kind=12:=by omega
 obtain⟨name,kind,bits,little,loose,low,high,size,of,tag,from_,cases_,check,key⟩:=f
 obtain⟨base,terms⟩:=size
 simp only at c
 clear hk
 rw[Bool.eq_iff_iff]
 rcases c with h|h|h|h|h|h|h|h|h|h|h|h<;>subst h<;>simp[Zes,ZqT,ZqU,ZqV,Zl5,ZqW,ZqX,Zl6,ZqY,Zl7,ZnP,ZnQ,ZjP,Zeg,Zde,zrA,zrB,zrC,Zeb,Zvn,KR]<;>(try(constructor<;>(intro h;simp_all)))<;>(try(intro _;simp only[and_assoc]))
theorem ZoC(lo hi a b:Int):Yv lo hi [a,b]=!(dC (a<lo) ||(dC (b<a) ||decide (hi<b))):=by
 rw[Bool.eq_iff_iff]
 simp[Yv]
 omega
theorem ZyI(f:Fld):Zc2 f=!Q2 f:=by
 rw[Bool.eq_iff_iff]
 unfold Zc2 Q2
 cases f.little<;>simp
 by_cases h0:0≤f.bits
 ·rw[Int.tmod_eq_emod_of_nonneg h0];omega
 omega
theorem ZkB{α:Type}{p:α→Bool}{l:List α}{x:α}:Zk p (l++[x])=if 0≤Zk p l then Zk p l else if p x then l.length else -1:=by
 induction l with
 |nil=>simp[Zk]
 |cons y r ih =>
  have h1:=Qy p r
  simp only[List.cons_append,Zk,ih,ZE5]
  split
  ·simp
  by_cases h:0≤Zk p r
  ·simp[h,show ¬Zk p r<0 by omega,show 0≤Zk p r+1 by omega]
  simp only[h,if_false,show Zk p r<0 by omega,if_true]
  by_cases hx:p x=true
  ·simp[hx,show ¬((r.length:Int)<0) by omega]
  simp[hx]
def ZhW(fs:List Fld)(n:Nat):Prop:=∀i,i<n→Zk (fun x=>dC (x.name=(fs.getD i dE).name)) (fs.take i)<0
theorem Zas{α:Type}(p:α→Bool)(l:List α)(h:0≤Zk p l):(Zk p l).toNat<l.length:=by
 have:=Y2 p l;omega
theorem Zr8{fs:List Fld}{n:Nat}(hn:n≤fs.length)(hd:ZhW fs n)(k:Str):Zp k (JK fs n)=ZZ (fs.take n) k:=by
 induction n with
 |zero=>simp[JK,Zp,ZZ,Zk]
 |succ n ih =>
  have ih:=ih (by omega) fun i hi=>hd i (by omega)
  have j:=hd n (by omega)
  rw[Z0 (show n<fs.length by omega)]
  have c:(fs.take n).length=n:=by simp;omega
  simp only[JK]
  generalize fs.getD n dE=f at *
  unfold ZZ
  rw[ZkB]
  by_cases hk:f.name=k
  ·rw[hk]at j
   rw[if_neg (show ¬0≤Zk (fun f=>dC (f.name=k)) (fs.take n) by omega)]
   simp only[hk,decide_true,if_true,c,show ¬((n:Int)<0) by omega,if_false]
   have hg:(fs.take n++[f]).getD ((n:Int)).toNat dE=f:=by simp[ZE8,List.getElem?_append,c]
   rw[hg]
   split
   ·rw[Qb,if_pos rfl]
   rw[ih];unfold ZZ;rw[if_pos j]
  have t:¬k=f.name:=fun h=>hk h.symm
  have h0:Zp k (if YA f=true then Wy f.name (Wh f) (JK fs n) else JK fs n)=Zp k (JK fs n):=by
   split
   ·rw[Qb,if_neg t]
   rfl
  rw[h0,ih]
  unfold ZZ
  simp only[hk,decide_false,ZFn,if_false]
  by_cases hp:0≤Zk (fun f=>dC (f.name=k)) (fs.take n)
  ·have hl:=Zas _ _ hp
   rw[if_pos hp]
   have hg:(fs.take n++[f]).getD (Zk (fun f=>dC (f.name=k)) (fs.take n)).toNat dE=(fs.take n).getD (Zk (fun f=>dC (f.name=k)) (fs.take n)).toNat dE:=by
    simp[ZE8,ZFp hl]
   rw[hg]
  rw[if_neg hp,if_pos (by omega),if_pos (by omega)]
structure Zb5(d:Dfn)(a:Nat)(deps:List Int)(dl:List (Str×Int))(sl:List (Str×Bool)):Prop where
 len:deps.length=a
 dep:∀s,Zp s dl=if Zn d s a<0 then none else some (deps.getD (Zn d s a).toNat default)
 str:∀s,Zp s sl=if Zn d s a<0 then none else some ((WL d a).getD (Zn d s a).toNat default)
theorem Zb5.has{d:Dfn}{a:Nat}{deps:List Int}{dl:List (Str×Int)}{sl:List (Str×Bool)}(h:Zb5 d a deps dl sl)(s:Str):(Zp s dl).isSome=!dC (Zn d s a<0):=by
 rw[h.dep];split<;>simp_all
theorem Zb5.strict{d:Dfn}{a:Nat}{deps:List Int}{dl:List (Str×Int)}{sl:List (Str×Bool)}(h:Zb5 d a deps dl sl)(s:Str):(Zp s sl).getD false=(!dC (Zn d s a<0)&&(WL d a).getD (Zn d s a).toNat dE):=by
 rw[h.str];split<;>simp_all
theorem ZAe{f:Fld}(hk:f.kind=1∨f.kind=2):(if f.kind=1 then ck1 f else ck2 f)=dC (Kh f=0):=by
 unfold ck1 ck2 Kh ZaP Ze2
 rw[ZyI,ZoC]
 cases hb:Q2 f
 ·have hp:(0:Int)<2 ^ f.bits.toNat:=by
   have:=Nat.two_pow_pos f.bits.toNat
   rw[show(2:Int) ^ f.bits.toNat=((2 ^ f.bits.toNat:Nat):Int) from(Int.natCast_pow 2 f.bits.toNat).symm]
   omega
  generalize (2:Int) ^ f.bits.toNat=pw at *
  rcases hk with hk|hk<;>rw[Bool.eq_iff_iff]<;>simp[hk,Yv]<;>(try split)<;>(try omega)
  all_goals (try simp_all)<;>omega
 simp
theorem ZlI{fs:List Fld}(hd:ZhW fs fs.length)(s:Wk):ZeU fs s=dC (JM fs s=0):=by
 have hL:(fun k=>Zp k (Qu fs))=ZZ fs:=by
  funext k
  have:=Zr8 (ZE6 _) hd k
  rw[ZFc]at this;exact this
 unfold ZeU JM ivP
 rw[hL]
 have hk:s.terms.all (Zcg fs)=!s.terms.any (YG (ZZ fs)):=by
  rw[List.not_any_eq_all_not]
  congr 1;funext t
  have:Zp t.field (Qu fs)=ZZ fs t.field:=congrFun hL _
  unfold Zcg YG;rw[this];simp
 rw[hk]
 cases ZN s
 ·simp
 cases s.terms.any (YG (ZZ fs))
 ·simp only[ZFe,Bool.not_false,ZFn,if_false,Bool.true_eq_false]
  rw[Bool.eq_iff_iff]
  simp
  omega
 simp
theorem Zxe{d:Dfn}{a:Nat}{deps:List Int}{dl:List (Str×Int)}{sl:List (Str×Bool)}(h:Zb5 d a deps dl sl)(hi lo:Int)(l:List Yg):Zcb dl hi lo l=dC (ZaF d a hi lo l=0):=by
 induction l generalizing lo with
 |nil=>simp[Zcb,ZaF]
 |cons c r ih =>
  simp only[Zcb,ZaF,ZoC,h.has,ih]
  rcases Bool.eq_false_or_eq_true (dC (c.low<lo) ||(dC (c.high<c.low) ||decide (hi<c.high))) with hb|hb<;>simp only[hb]
  ·simp
  simp only[Bool.not_false,ZFe,ZFn,if_false]
  by_cases h2:Zn d c.of a<0<;>simp[h2]
theorem Zxp{fs:List Fld}(hd:ZhW fs fs.length)(k:Str):(Zp k (Qu fs)).isSome=(!dC (Zk (fun f=>dC (f.name=k)) fs<0)&&YA (fs.getD (Zk (fun f=>dC (f.name=k)) fs).toNat dE)) ∧
  ((Zp k (Qu fs)).isSome=true→(Zp k (Qu fs)).getD (0,0)=Wh (fs.getD (Zk (fun f=>dC (f.name=k)) fs).toNat dE)):=by
 have:=Zr8 (ZE6 _) hd k
 rw[ZFc]at this
 rw[this]
 unfold ZZ
 split
 ·rename_i h;simp[h]
 rename_i h
 split
 ·rename_i h2;simp only[h,h2];simp
 rename_i h2;simp only[h,h2];simp
theorem ZxH{d:Dfn}{a:Nat}{deps:List Int}{dl:List (Str×Int)}{sl:List (Str×Bool)}(h:Zb5 d a deps dl sl){m:Msg}{i:Nat}(hi:i<m.fields.length)(hd:ZhW m.fields i){f:Fld}(hk:Jf f=true):
  Zeo (m.fields.take i) dl sl f=dC (Qh d a m i f=0):=by
 have ae:(m.fields.take i).length=i:=by simp;omega
 have n:ZhW (m.fields.take i) (m.fields.take i).length:=fun j hj=>by
  rw[ae]at hj
  rw[KJ (by omega),List.take_take,Nat.min_eq_left (by omega)];exact hd j hj
 unfold Jf at hk
 simp only[ZEY,decide_eq_true_eq]at hk
 have ag:f.kind=1∨f.kind=2∨f.kind=3∨f.kind=4∨f.kind=5∨f.kind=6∨f.kind=7∨f.kind=8∨f.kind=9∨f.kind=10∨f.kind=11∨f.kind=12:=by omega
 have hn:=ZAe (f:=f)
 unfold Zeo Qh
 rcases ag with h1|h1|h1|h1|h1|h1|h1|h1|h1|h1|h1|h1<;>simp only[h1,ZFy,if_true,if_false,true_or,or_true,or_self,forall_const,false_implies]at hn⊢
 ·exact hn
 ·exact hn
 ·unfold ck3;rw[ZoC,ZfC]
  by_cases hA:0≤f.low∧f.low≤f.high∧f.high<34359738368
  ·simp[hA];omega
  rw[Bool.eq_iff_iff];simp;omega
 ·exact ZlI n _
 ·unfold ck5;rw[Bool.eq_iff_iff];simp[Yv]<;>omega
 ·unfold ck6;rw[Bool.eq_iff_iff];simp[Yv]<;>omega
 ·unfold ck7;rw[h.has,ZlI n]
  by_cases h2:Zn d f.of a<0<;>simp[h2]
 ·unfold ck8;rw[h.has]
  by_cases h2:Zn d f.of a<0<;>simp[h2]
 ·have ht:=Zxp n f.tag
  unfold Zh5 Zff Zdj
  rw[Zxe h]
  have y:Yz m f.tag i=Zk (fun f'=>dC (f'.name=f.tag)) (m.fields.take i):=rfl
  rw[y]
  have af:Zot m f.tag i=Ze1 (m.fields.take i) f:=rfl
  rw[af]
  generalize hz:Zk (fun f'=>dC (f'.name=f.tag)) (m.fields.take i)=z at *
  by_cases t:z<0
  ·simp[ht.1,t]
  have ad:=Zas (fun f':Fld=>dC (f'.name=f.tag)) (m.fields.take i) (by omega)
  rw[hz,ae]at ad
  have hg:(m.fields.take i).getD z.toNat dE=m.fields.getD z.toNat dE:=KJ ad
  rw[hg]at ht
  by_cases c:YA (m.fields.getD z.toNat dE)=true
  ·have hs:(Zp f.tag (Qu (m.fields.take i))).isSome=true:=by rw[ht.1,c];simp[t]
   rw[ht.2 hs,hs,c]
   cases Ze1 (m.fields.take i) f
   ·simp only[t,decide_false,Bool.not_true,Bool.or_self,Bool.not_false,ZFe,ZFn,if_false,Bool.false_or]
    by_cases hl:1≤f.cases.length∧f.cases.length≤40
    ·have ab:(dC (1≤(f.cases.length:Int))&&dC ((f.cases.length:Int)≤40))=true:=by simp only[ZEY,decide_eq_true_eq];omega
     have u:(dC (f.cases.length<1) ||decide (40<f.cases.length))=false:=by simp only[Bool.or_eq_false_iff,decide_eq_false_iff_not];omega
     rw[ab,u];simp
    have ab:(dC (1≤(f.cases.length:Int))&&dC ((f.cases.length:Int)≤40))=false:=by simp only[Bool.and_eq_false_iff,decide_eq_false_iff_not];omega
    have u:(dC (f.cases.length<1) ||decide (40<f.cases.length))=true:=by simp only[ZFb,decide_eq_true_eq];omega
    rw[ab,u];simp
   simp
  have v:YA (m.fields.getD z.toNat dE)=false:=by simpa using c
  rw[ht.1,v];simp
 ·unfold Zug ZeG
  rw[Bool.eq_iff_iff]
  generalize f.bits=b
  by_cases h0:0≤b
  ·rw[Int.tmod_eq_emod_of_nonneg h0];simp;omega
  simp;omega
 ·unfold Zuh
  have y:Yz m f.from_ i=Zk (fun f'=>dC (f'.name=f.from_)) (m.fields.take i):=rfl
  rw[y]
  rw[Bool.eq_iff_iff];simp[Yv]
  generalize Zk (fun f'=>dC (f'.name=f.from_)) (m.fields.take i)=z
  split
  ·simp;omega
  split<;>simp<;>omega
 unfold Zui Zke
 rw[h.strict,ZlI n]
 by_cases ac:f.key<0∨4294967295<f.key
 ·rw[if_pos (by simpa using ac)];simp[Yv];omega
 rw[if_neg (by simpa using ac)]
 have:Yv 0 4294967295 [f.key]=true:=by simp[Yv];omega
 rw[this]
 by_cases h2:Zn d f.of a<0
 ·simp[h2]
 simp only[h2,decide_false,Bool.not_false,ZFe,Bool.false_or]
 cases(WL d a).getD (Zn d f.of a).toNat dE<;>simp
theorem Zxr{d:Dfn}{a:Nat}{deps:List Int}{dl:List (Str×Int)}{sl:List (Str×Bool)}(h:Zb5 d a deps dl sl){m:Msg}{i:Nat}(hi:i<m.fields.length)(hd:ZhW m.fields i)(f:Fld):
  QG (m.fields.take i) dl sl f=dC (WI d a m i f=0):=by
 unfold QG WI
 rw[show Zk (fun x=>dC (x.name=f.name)) (m.fields.take i)=Yz m f.name i from rfl]
 cases Yl f.name
 ·simp
 by_cases h1:0≤Yz m f.name i
 ·simp[h1]
 by_cases hk:Jf f=true
 ·have c:(dC (f.kind<1) ||decide (12<f.kind))=false:=by
   unfold Jf at hk
   simp only[ZEY,decide_eq_true_eq]at hk
   simp only[Bool.or_eq_false_iff,decide_eq_false_iff_not];omega
  rw[Zul hk,ZxH h hi hd hk,hk,c]
  cases Zde f<;>simp[h1]
 have j:Jf f=false:=by simpa using hk
 have c:(dC (f.kind<1) ||decide (12<f.kind))=true:=by
  unfold Jf at hk
  simp only[ZEY,decide_eq_true_eq]at hk
  simp only[ZFb,decide_eq_true_eq];omega
 rw[j,c]
 simp[h1]
theorem ZnU(d:Dfn)(a:Nat)(m:Msg)(j:Nat)(l l':List Fld)(h:Ys d a m j l=nO):Ys d a m j (l++l')=Ys d a m (j+l.length) l':=by
 induction l generalizing j with
 |nil=>rfl
 |cons f r ih =>
  simp only[Ys]at h
  split at h
  ·rename_i hf
   simp only[List.cons_append,Ys,hf,if_true,ZE5]
   rw[ih _ h]
   congr 1;omega
  simp at h
theorem ZvW{d:Dfn}{a:Nat}{deps:List Int}{dl:List (Str×Int)}{sl:List (Str×Bool)}(h:Zb5 d a deps dl sl){m:Msg}(n:Nat)(hn:n≤m.fields.length):
  (QC dl sl m n=true↔Ys d a m 0 (m.fields.take n)=nO)∧(QC dl sl m n=true→ZhW m.fields n):=by
 induction n with
 |zero=>simp[QC,Ys,ZhW]
 |succ n ih =>
  have ih:=ih (by omega)
  rw[Zig,Z0 (show n<m.fields.length by omega),ZEY]
  have c:(m.fields.take n).length=n:=by simp;omega
  by_cases hp:QC dl sl m n=true
  ·have hf:=ih.1.1 hp
   have hd:=ih.2 hp
   rw[ZnU _ _ _ _ _ _ hf,Zxr h (show n<m.fields.length by omega) hd,c,Nat.zero_add]
   simp only[Ys]
   refine⟨?_,fun hh=>?_⟩
   ·simp only[hp,true_and,decide_eq_true_eq]
    split<;>simp_all
   have hz:WI d a m n (m.fields.getD n dE)=0:=by simpa using hh.2
   intro j hj
   by_cases i:j<n
   ·exact hd j i
   obtain rfl:j=n:=by omega
   unfold WI at hz
   split at hz;· omega
   split at hz;· omega
   rename_i h2
   unfold Yz at h2;omega
  refine⟨?_,fun hh=>absurd hh.1 hp⟩
  constructor
  ·intro hh;exact absurd hh.1 hp
  intro hh
  exfalso
  apply hp
  refine ih.1.2 ?_
  have t:∀(j:Nat) (l l':List Fld),Ys d a m j (l++l')=nO→Ys d a m j l=nO:=by
   intro j l l'
   induction l generalizing j with
   |nil=>intro _;rfl
   |cons f r ih2 =>
    simp only[List.cons_append,Ys]
    split
    ·exact ih2 _
    simp
  exact t _ _ _ hh
theorem Zmt{α:Type}(l:List α)(p q:α→Int)(h:∀s∈l,p s=q s)(b:Int):l.foldl (fun a s=>max a (p s)) b=l.foldl (fun a s=>max a (q s)) b:=by
 induction l generalizing b with
 |nil=>rfl
 |cons x r ih =>
  simp only[List.foldl_cons,h x (by simp)]
  exact ih (fun s hs=>h s (by simp[hs])) _
theorem Zuc{α:Type}{p q:α→Bool}{l:List α}(h:∀x∈l,p x=q x):l.all p=l.all q:=by
 induction l with
 |nil=>rfl
 |cons x r ih=>simp only[List.all_cons,h x (by simp),ih fun y hy=>h y (by simp[hy])]
theorem Zz9{d:Dfn}{a:Nat}{deps:List Int}{dl:List (Str×Int)}{sl:List (Str×Bool)}(h:Zb5 d a deps dl sl){m:Msg}(hm:d.msgs.getD a dE=m):
  (ZdJ dl sl m=true↔WG d a m=nO∧Zdm d a deps m≤16)∧(WG d a m=nO→Kd dl m+1=Zdm d a deps m∧Jx sl m=QQ d m (WL d a)):=by
 have hf:=ZvW h (m:=m) m.fields.length (ZE6 _)
 rw[ZFc]at hf
 have h2:WG d a m=nO→Kd dl m+1=Zdm d a deps m∧Jx sl m=QQ d m (WL d a):=fun hh=>by
  have c:=(Zr9 hm hh).ref
  rw[hm]at c
  constructor
  ·unfold Kd Zdm ZaI
   congr 1
   refine Zmt _ _ _ (fun s hs=>?_) _
   have:=c s hs
   rw[h.dep,if_neg (by omega)];rfl
  unfold Jx QQ
  congr 1
  refine Zuc fun s hs=>?_
  have:=c s hs
  rw[h.strict,Jo]
  simp[show ¬Zn d s a<0 by omega]
 refine⟨?_,h2⟩
 unfold ZdJ
 rw[h.has]
 by_cases hn:Yl m.name=true
 ·by_cases hd:Zn d m.name a<0
  ·by_cases hl:1≤m.fields.length∧m.fields.length≤40
   ·have j:(dC (1≤(m.fields.length:Int))&&dC ((m.fields.length:Int)≤40))=true:=by simp only[ZEY,decide_eq_true_eq];omega
    have i:(dC (m.fields.length<1) ||decide (40<m.fields.length))=false:=by simp only[Bool.or_eq_false_iff,decide_eq_false_iff_not];omega
    have n:WG d a m=Ys d a m 0 m.fields:=by
     unfold WG
     rw[if_neg (by simp[hn]),if_neg (by omega),i];rfl
    rw[n]at h2⊢
    rw[j,hn]
    simp only[hd,decide_true,Bool.not_true,Bool.not_false,ZFe,ZEY,decide_eq_true_eq,hf.1]
    constructor
    ·rintro⟨h3,h4⟩
     have:=(h2 h3).1
     exact⟨h3,by omega⟩
    rintro⟨h3,h4⟩
    have:=(h2 h3).1
    exact⟨h3,by omega⟩
   have j:(dC (1≤(m.fields.length:Int))&&dC ((m.fields.length:Int)≤40))=false:=by simp only[Bool.and_eq_false_iff,decide_eq_false_iff_not];omega
   have i:(dC (m.fields.length<1) ||decide (40<m.fields.length))=true:=by simp only[ZFb,decide_eq_true_eq];omega
   unfold WG
   rw[j,i,if_neg (by simp[hn]),if_neg (by omega)]
   simp
  unfold WG
  rw[if_neg (by simp[hn]),if_pos (by omega)]
  simp[hd]
 have t:Yl m.name=false:=by simpa using hn
 unfold WG
 rw[t]
 simp
theorem Zmk{d:Dfn}{a:Nat}{m:Msg}(ha:a<d.msgs.length)(hm:d.msgs.getD a dE=m)(s:Str):Zn d s (a+1)=if 0≤Zn d s a then Zn d s a else if m.name=s then (a:Int) else -1:=by
 unfold Zn
 rw[Z0 ha,hm,ZkB]
 have:(d.msgs.take a).length=a:=by simp;omega
 rw[this];simp
theorem Zik{α:Type}[Inhabited α]{l:List α}{a:Nat}{v:α}(h:l.length=a):(l++[v]).getD a dE=v:=by subst h;simp[ZE8]
theorem Zil{α:Type}[Inhabited α]{l:List α}{a:Nat}{v:α}(h:a<l.length):(l++[v]).getD a dE=l.getD a dE:=by simp[ZE8,ZFp h]
theorem Zb5.step{d:Dfn}{a:Nat}{deps:List Int}{dl:List (Str×Int)}{sl:List (Str×Bool)}(h:Zb5 d a deps dl sl){m:Msg}(ha:a<d.msgs.length)(hm:d.msgs.getD a dE=m)(hnew:Zn d m.name a<0)(v:Int):
  Zb5 d (a+1) (deps++[v]) (Wy m.name v dl) (Wy m.name (QQ d m (WL d a)) sl):={
 len:=by simp[h.len]
 dep s:=by
  rw[Qb,Zmk ha hm,h.dep]
  by_cases hs:s=m.name
  ·subst hs
   rw[if_pos rfl,if_neg (show ¬0≤Zn d m.name a by omega),if_pos rfl,if_neg (by omega)]
   rw[show((a:Int)).toNat=a from rfl,Zik h.len]
  rw[if_neg hs]
  by_cases hp:0≤Zn d s a
  ·have c:(Zn d s a).toNat<deps.length:=by
    have:=Zas _ _ hp
    rw[h.len]
    have h3:(d.msgs.take a).length≤a:=by simp;omega
    unfold Zn;omega
   rw[if_pos hp,if_neg (by omega),if_neg (by omega),Zil c]
  rw[if_neg hp,if_neg (show ¬m.name=s from fun e=>hs e.symm),if_pos (by omega),if_pos (by omega)]
 str s:=by
  rw[Qb,Zmk ha hm,h.str]
  simp only[WL,hm]
  by_cases hs:s=m.name
  ·subst hs
   rw[if_pos rfl,if_neg (show ¬0≤Zn d m.name a by omega),if_pos rfl,if_neg (by omega)]
   rw[show((a:Int)).toNat=a from rfl,Zik (Jo d a)]
  rw[if_neg hs]
  by_cases hp:0≤Zn d s a
  ·have c:(Zn d s a).toNat<(WL d a).length:=by
    have:=Zas _ _ hp
    rw[Jo]
    have h3:(d.msgs.take a).length≤a:=by simp;omega
    unfold Zn;omega
   rw[if_pos hp,if_neg (by omega),if_neg (by omega),Zil c]
  rw[if_neg hp,if_neg (show ¬m.name=s from fun e=>hs e.symm),if_pos (by omega),if_pos (by omega)] }
theorem ZAm{d:Dfn}(n:Nat):∀{a:Nat} {deps:List Int} {dl:List (Str×Int)} {sl:List (Str×Bool)},Zb5 d a deps dl sl→a+n=d.msgs.length →
  ((Zco dl sl (d.msgs.drop a)).elim false fun p=>(Zp d.start p.1).isSome)=(KQ d a (d.msgs.drop a) deps).isNone:=by
 induction n with
 |zero =>
  intro a deps dl sl h ha
  obtain rfl:a=d.msgs.length:=by omega
  rw[List.drop_length]
  simp only[Zco,KQ,Option.elim,h.has]
  by_cases hs:Zn d d.start d.msgs.length<0<;>simp[hs]
 |succ n ih =>
  intro a deps dl sl h ha
  have j:a<d.msgs.length:=by omega
  rw[Wt j]
  generalize hm:d.msgs.getD a dE=m
  have he:=Zz9 h hm
  simp only[Zco,KQ]
  by_cases hp:ZdJ dl sl m=true
  ·obtain⟨h1,h2⟩:=he.1.1 hp
   obtain⟨h3,h4⟩:=he.2 h1
   rw[if_pos hp,h1]
   simp only
   rw[if_neg (by omega),h3,h4]
   refine ih (h.step j hm ?_ _) (by omega)
   unfold WG at h1
   split at h1;· simp at h1
   split at h1;· simp at h1
   omega
  rw[if_neg hp]
  cases h1:WG d a m with
  |some x=>obtain⟨i,c⟩:=x;rfl
  |none =>
   have:¬Zdm d a deps m≤16:=fun h2=>hp (he.1.2 ⟨h1,h2⟩)
   simp only
   rw[if_pos (by omega)];rfl
theorem ZrR(d:Dfn):Zdt d=Zbr d:=by
 unfold Zdt Zbr Zbh
 cases hn:Yl d.name
 ·rfl
 by_cases hl:1≤d.msgs.length∧d.msgs.length≤60
 ·have i:(dC (1≤(d.msgs.length:Int))&&dC ((d.msgs.length:Int)≤60))=true:=by simp only[ZEY,decide_eq_true_eq];omega
  have c:(dC (d.msgs.length<1) ||decide (60<d.msgs.length))=false:=by simp only[Bool.or_eq_false_iff,decide_eq_false_iff_not];omega
  rw[i,c]
  simp only[ZFe,Bool.true_eq_false,ZFn,if_false]
  have h0:Zb5 d 0 [] [] []:=⟨rfl,fun s=>by simp[Zp,Zn,Zk],fun s=>by simp[Zp,Zn,Zk]⟩
  have:=ZAm d.msgs.length h0 (by omega)
  rw[List.drop_zero]at this
  exact this
 have i:(dC (1≤(d.msgs.length:Int))&&dC ((d.msgs.length:Int)≤60))=false:=by simp only[Bool.and_eq_false_iff,decide_eq_false_iff_not];omega
 have c:(dC (d.msgs.length<1) ||decide (60<d.msgs.length))=true:=by simp only[ZFb,decide_eq_true_eq];omega
 rw[i,c];rfl
theorem ZqA{st:St}{b:Nat}{c0 c1:D}{v0 v1:Bool}(hb:st b=sO (.cells [c0,c1]))(h0:VT ZEQ c0 [] st (.bool v0) st)(h1:VT ZEQ c1 [] st (.bool v1) st):
  ZS ZEQ 225 [.msl b 0 2 2 1,.fn (.func 180) [] []] st (.int .i64 (if v0 then (if v1 then -1 else 1) else 0)) st:=by
 refine ZK (cR 225 f225) fun j F c=>?_
 clear j
 have g0:=(Zem h0).VT (first:=[]) (args:=[c0]) (caps:=[])
 have g1:=(Zem h1).VT (first:=[]) (args:=[c1]) (caps:=[])
 refine gG ?_
 refine Zb (Zfc ?_)
 refine rg ?_
 refine i1 ?_
 refine rg ?_
 refine xA @hb ?_
 refine cW (g0) ?_
 refine cd (fun hc=>?_) (fun hc=>?_)
 ·have hv:v0=false:=by cases v0<;>simp_all
  rw[hv]at c
  refine rg ?_
  exact c rfl (by trivial) (ZEW _) (ZES _)
 have hv:v0=true:=by cases v0<;>simp_all
 rw[hv]at c
 refine gA ?_
 rw[show(0:Int)+1=1 from rfl]
 refine Za ?_
 refine rg ?_
 refine i1 ?_
 refine rg ?_
 refine xA @hb ?_
 refine cW (g1) ?_
 refine cd (fun hd=>?_) (fun hd=>?_)
 ·have i:v1=false:=by cases v1<;>simp_all
  rw[i]at c
  refine rg ?_
  exact c rfl (by trivial) (ZEW _) (ZES _)
 have i:v1=true:=by cases v1<;>simp_all
 rw[i]at c
 refine gA ?_
 rw[show(1:Int)+1=2 from rfl]
 refine Za ?_
 refine rg ?_
 refine iG ?_
 exact c rfl (by trivial) (ZEW _) (ZES _)
theorem ZpE{st:St}{b:Nat}{c0 c1:D}{v0 v1:Bool}(hb:st b=sO (.cells [c0,c1]))(h0:VT ZEQ c0 [] st (.bool v0) st)(h1:VT ZEQ c1 [] st (.bool v1) st):
  ZS ZEQ 179 [.msl b 0 2 2 1,.fn (.func 180) [] []] st (.bool (!v0||!v1)) st:=by
 refine ZK (cR 179 f179) fun i F c=>?_
 clear i
 refine gG ?_
 refine ct (ZqA hb h0 h1) ?_
 exact c rfl (by trivial) (by cases v0<;>cases v1<;>exact ZEW _) (ZES _)
theorem Zbc{L:DL.Loc}(l:List Fld):qv L s .lenL [.d (Zo l)]=sO (True,.d (.int .i64 l.length)):=rfl
theorem atF{L:DL.Loc}(l:List Fld)(i:Int):qv L s (.iaddr 15) [.d (Zo l),.d (.int .i64 i)]=sO (0≤i∧i<l.length,.d (.ep (l.getD i.toNat dE).cells 0)):=rfl
theorem Qp(f:Fld):f.cells.length=15:=rfl
theorem J2(f:Fld):List.take 15 f.cells=f.cells:=rfl
theorem Zgc(l:List Fld)(hl:l.length≤1000)(hb:∀f∈l,Zf6 f)(i:Nat)(hi:i≤l.length)(st:St):ZS ZEQ 131 [Zo l,.int .i64 i,.int .i64 (YP l i)] st (.bool (Kl l i)) st:=by
 refine ZK (cR 131 f131) fun ab F c=>?_
 clear ab
 have hW:=Kl.eq_1 l i
 refine rx (nd2 @okF @ceF) ?_
 refine rx @Zbc ?_
 refine cd (fun hc=>?_) (fun hc=>?_)
 ·have n:i=l.length:=by simp at hc;omega
  rw[if_pos n]at hW
  refine rg ?_
  exact c rfl (by trivial) (by rw[hW];exact ZEW _) (ZES _)
 have n:i<l.length:=by simp at hc;omega
 rw[if_neg (by omega)]at hW
 generalize hg:l.getD i dE=g at *
 refine xA (nd2 @atF (nd2 @hg (nd2 @Qp @J2))) ?_
 refine Zd ?_
 refine xP 3 fun z3 h3=>?_
 refine xP 5 fun z5 h5=>?_
 refine xP 7 fun z7 h7=>?_
 refine rg ?_
 refine Zd ?_
 refine xP 8 fun z8 h8=>?_
 have k5:=Zw h5
 have k7:=Zw h7
 have v:=Zw k7.2
 have k8:=Zw h8
 have t:=Zw k8.2
 have z:=Zw t.2
 obtain⟨A,hA⟩:∃A,A=((((st.upd z3 (.cells [Zo l])).upd z5 (.cells [.int .i64 (YP l i)])).upd z7 (.cells g.cells)).upd z8 (.cells [.fn (.func 174) [] [.ptr z5 0,.ptr z7 0],.fn (.func 176) [] [.ptr z3 0,.ptr z7 0]])):=⟨_,rfl⟩
 have g3:A z3=sO (.cells [Zo l]):=by rw[hA,ZE0 _ _ z.1.symm,ZE0 _ _ v.1.symm,ZE0 _ _ k5.1.symm];exact ZEZ _ _ _
 have g5:A z5=sO (.cells [.int .i64 (YP l i)]):=by rw[hA,ZE0 _ _ t.1.symm,ZE0 _ _ k7.1.symm];exact ZEZ _ _ _
 have g7:A z7=sO (.cells g.cells):=by rw[hA,ZE0 _ _ k8.1.symm];exact ZEZ _ _ _
 have g8:A z8=sO (.cells [.fn (.func 174) [] [.ptr z5 0,.ptr z7 0],.fn (.func 176) [] [.ptr z3 0,.ptr z7 0]]):=by rw[hA];exact ZEZ _ _ _
 have j:st.sub A:=by rw[hA];exact ZFx (ZFi _ h3) (ZFx (ZFi _ h5) (ZFx (ZFi _ h7) (ZFi _ h8)))
 have y:=(Zlb g5 g7).VT (first:=[]) (args:=[]) (caps:=[_,_])
 have ac:=(Zlc hl hb g3 g7 (by omega)).VT (first:=[]) (args:=[]) (caps:=[_,_])
 have u:=ZpE g8 y ac
 rw[←hA]
 clear hA
 refine rg ?_
 refine⟨by decide,by decide,by decide,by decide,by unfold big;decide,?_⟩
 rw[show(if ((2:Nat):Int)=0 then 0 else 0*1)=(0:Nat) from rfl]
 refine ct (u) ?_
 exact c rfl (by trivial) (by rw[hW];exact ZEW _) j
theorem Zwr{x z:Nat}{o:Ya}(hx:s x=nO)(h:(s.or (ZFj x o)) z=nO):z≠x∧s z=nO:=by
 refine⟨fun e=>by subst e;rw[ZG hx,YC]at h;simp at h,?_⟩
 cases hs:s z with
 |none=>rfl
 |some o=>rw[Zq hs]at h;simp at h
def Mk(A:St):List Nat→St→Prop
 | [],S=>S=A
 |q::qs,S=>∃S',Mk A qs S'∧S' q=nO∧S=S'.upd q .dfr
theorem Mk.get{A:St}{z:Nat}{o:Ya}(h:A z=sO o):∀{qs:List Nat} {S:St},Mk A qs S→S z=sO o
 | [],S,hm=>by rw[show S=A from hm];exact h
 |q::qs,S,hm=>by
  obtain⟨S',h1,h2,rfl⟩:=hm
  have:=Mk.get h h1
  rw[ZE0 _ _ (fun e=>by rw[e,h2]at this;simp at this)];exact this
theorem upd_comm{a b:Nat}{x y:Ya}(h:a≠b):(s.upd a x).upd b y=(s.upd b y).upd a x:=by
 funext c
 by_cases hb:c=b
 ·subst hb;rw[ZEZ,ZE0 _ _ (Ne.symm h),ZEZ]
 rw[ZE0 _ _ hb]
 by_cases ha:c=a
 ·subst ha;rw[ZEZ,ZEZ]
 rw[ZE0 _ _ ha,ZE0 _ _ ha,ZE0 _ _ hb]
theorem Mk.upd{A:St}{z:Nat}{o o':Ya}(h:A z=sO o):∀{qs:List Nat} {S:St},Mk A qs S→Mk (A.upd z o') qs (S.upd z o')
 | [],S,hm=>by rw[show S=A from hm];rfl
 |q::qs,S,hm=>by
  obtain⟨S',h1,h2,rfl⟩:=hm
  have:=Mk.get h h1
  have c:q≠z:=fun e=>by rw[←e,h2]at this;simp at this
  exact⟨S'.upd z o',h1.upd h,by rw[ZE0 _ _ c];exact h2,upd_comm c⟩
theorem Mk.unw{P:Program}{A:St}{Ψ:Option D→St→Prop}(h:Ψ nO A):∀{qs:List Nat} {S:St},Mk A qs S→Unw P (qs.map .mark) nO S Ψ
 | [],S,hm=>by rw[show S=A from hm];exact h
 |q::qs,S,hm=>by
  obtain⟨S',h1,h2,rfl⟩:=hm
  refine⟨ZEZ _ _ _,?_⟩
  have e:(S'.upd q .dfr).del q=S':=by
   funext c
   by_cases hc:c=q
   ·subst hc;simp[St.del,h2]
   simp[St.del,ZFr,hc]
  rw[e];exact Mk.unw h h1
theorem Zhy{s t:St}{q:Nat}{o:Ya}(h:s.sub t):(s.upd q o).sub (t.upd q o):=fun b x hb=>by
 by_cases hc:b=q
 ·subst hc;rw[ZEZ]at hb⊢;exact hb
 rw[ZE0 _ _ hc]at hb⊢;exact h b x hb
theorem ZwR{s t:St}{q:Nat}(h:s.sub t)(ht:t q=nO):s q=nO:=by
 cases hs:s q with
 |none=>rfl
 |some o=>rw[h q o hs]at ht;simp at ht
theorem Zlj{a t:St}{z:Nat}{o o':Ya}(h:Yb a t)(hz:a z=sO o):Yb (a.upd z o') t:=fun b x hb=>by
 rw[ZE0 _ _ (fun e=>by subst e;rw[h b x hb]at hz;simp at hz)];exact h b x hb
theorem St.upd_self{b:Nat}{o:Ya}(h:s b=sO o):s.upd b o=s:=by
 funext c
 by_cases hc:c=b
 ·subst hc;rw[ZEZ,h]
 rw[ZE0 _ _ hc]
theorem ZvC{d:Dfn}{j i:Nat}{m:Msg}{f:Fld}(h:WI d j m i f=0):Zf6 f:=by
 unfold WI at h
 split at h;· omega
 split at h;· omega
 split at h;· omega
 split at h;· omega
 unfold Qh at h
 refine⟨fun hk=>?_,fun hk=>?_⟩
 ·have hn:Kh f=0:=by
   rcases hk with hk|hk<;>simp only[hk,ZFy,if_true,if_false]at h<;>exact h
  unfold Kh at hn
  split at hn;· omega
  rename_i hb
  simp only[Q2,ZFb,ZEY,Bool.not_eq_true',decide_eq_true_eq,decide_eq_false_iff_not,not_or]at hb
  omega
 simp only[hk,ZFy,if_true,if_false]at h
 split at h;· omega
 rename_i hb
 simp only[ZeG,ZEY,ZFb,Bool.not_eq_true',decide_eq_true_eq,decide_eq_false_iff_not,not_and,not_or]at hb
 omega
theorem Zc1.bits{d:Dfn}{j:Nat}{m:Msg}(h:Zc1 d j m):∀f∈m.fields,Zf6 f:=by
 intro f hf
 obtain⟨i,hi,rfl⟩:=ZFa hf
 have:=ZvC (h.field i hi)
 simpa[ZE8,hi]using this
def Zau(m:Msg):Bool:=(ZE4 (m.fields.length+1)).all fun i=>!Kl m.fields i
def Wd(d:Dfn):Bool:=Zbr d&&d.msgs.all Zau
theorem ZmK{m:Msg}(h:∀i,i<m.fields.length+1→Kl m.fields i=false):Zau m=true:=by
 unfold Zau
 rw[List.all_eq_true]
 intro i hi
 rw[h i (List.mem_range.1 hi)];rfl
theorem ZfV{m:Msg}{i:Nat}(hi:i<m.fields.length+1)(h:Kl m.fields i=true):Zau m=false:=by
 unfold Zau
 rw[List.all_eq_false]
 exact⟨i,List.mem_range.2 hi,by rw[h];simp⟩
theorem atM{L:DL.Loc}(l:List Msg)(i:Int):qv L s (.iaddr 2) [.d (YR l),.d (.int .i64 i)]=sO (0≤i∧i<l.length,.d (.ep (l.getD i.toNat dE).cells 0)):=rfl
theorem Zfo{L:DL.Loc}(l:List Msg):qv L s .lenL [.d (YR l)]=sO (True,.d (.int .i64 l.length)):=rfl
theorem ZnG(d:Dfn)(st:St):Zf ZEQ 88 [.agg d.cells] st fun r S=>S=st∧∃a f c,r=.ret (.tup [.agg [.int .i64 a,.int .i64 f,.int .i64 c],.bool (!Wd d)]):=by
 refine Zh (cR 88 f88) fun F hF=>?_
 have z:=Wd.eq_1 d
 refine rx @eQ2 ?_
 refine rx @eQ2 ?_
 rw[show(D.agg [.str d.name,YR d.msgs,.str d.start])=.agg d.cells from rfl]
 refine cV (Zm7 d st) ?_ ?_
 ·rintro dd S ⟨rfl,fa,ff,fc,h⟩
  cases h
  refine gR0 ?_
  rw[ZrR]
  refine rg ?_
  refine cd (fun hc=>?_) (fun hc=>?_)
  ·have hv:Zbr d=false:=by simpa using hc
   rw[hv,ZFh]at z
   refine rg ?_
   refine hF.ret _ S rfl (by simp) (ZEW _) (ZES _) ⟨rfl,fa,ff,fc,?_⟩
   rw[z];simp[hv];rfl
  have hv:Zbr d=true:=by simpa using hc
  rw[hv,ZFe]at z
  have hV:=Zjv hv
  have hmany:=hV.many
  refine rx (nd2 @Zfo @eQ2) ?_
  refine Zb ?_
  refine xP 2 fun z2 h2=>?_
  refine xP 3 fun z3 h3=>?_
  have k3:=Zw h3
  have a9:=h2
  have a7:=k3.2
  simp only[hv,Bool.not_true]at h3⊢
  obtain⟨A,hA⟩:∃A,A=(S.upd z2 (.cells [.int .i64 fa,.int .i64 ff,.int .i64 fc])).upd z3 (.cells [.bool false]):=⟨_,rfl⟩
  have g2:A z2=sO (.cells [.int .i64 fa,.int .i64 ff,.int .i64 fc]):=by rw[hA,ZE0 _ _ k3.1.symm];exact ZEZ _ _ _
  have g3:A z3=sO (.cells [.bool false]):=by rw[hA];exact ZEZ _ _ _
  have ad:S.sub A:=by rw[hA];exact ZFx (ZFi _ h2) (ZFi _ h3)
  rw[←hA]
  clear hA
  obtain⟨A0,e0⟩:∃A0,A0=A:=⟨_,rfl⟩
  rw[←e0]at g2 g3 ad⊢
  clear e0
  refine lpU (fun Q=>∀(n k:Nat),(d.msgs.length)-k=n→∀(F:Fr ZEQ) (qs:List Nat) (A:St),YQ F [.cellN 2 3,.cell1 3] (fun r S'=>S'=S∧∃a f c,r=.ret (.tup [.agg [.int .i64 a,.int .i64 f,.int .i64 c],.bool (!Wd d)])) (qs.map .mark)→Mk A0 qs A→k≤d.msgs.length→(∀q,q<k→Zau (d.msgs.getD q dE)=true)→Q F [(2,.d (.ptr z2 0)),(3,.d (.ptr z3 0)),(17,.d (YR d.msgs)),(18,.d (.int .i64 d.msgs.length)),(19,.d (.int .i64 k))] [] A) ?_ fun a5=>?_
  ·intro n
   induction n using Nat.strongRecOn with
   |ind n ih_key =>
   intro k hn F qs A hF ac hk ag
   have au:=g2
   have av:=g3
   have g2:=Mk.get g2 ac
   have g3:=Mk.get g3 ac
   refine rg ?_
   refine Zd (Zs rfl trivial (fun h1=>?_) (fun h1=>?_))
   ·simp at h1
    have hM:=hV.msg h1
    have y:=hM.bits
    have hmf:=hM.many
    have ai:=fun h=>ZX (q:=fun j=>Zau (d.msgs.getD j dE)=true) ag h
    have aw:Zau (d.msgs.getD k dE)=false→d.msgs.all Zau=false:=fun h=>by
     rw[List.all_eq_false]
     exact⟨_,Zy h1,by rw[h];simp⟩
    generalize hm:d.msgs.getD k dE=m at *
    refine xA (nd2 @atM (nd2 @hm @eQ3)) ?_
    refine rg ?_
    refine cV (Zel m.fields A) ?_ ?_
    ·rintro dd S2 ⟨x,hx,hd,rfl⟩
     cases hd
     refine gR0 ?_
     refine Zb ?_
     refine xP 4 fun z4 h4=>?_
     refine xP 5 fun z5 h5=>?_
     have k5:=Zw h5
     have o4:=Zwr hx h4
     have o5:=Zwr hx k5.2
     rw[W5,W5]
     obtain⟨B,hB⟩:∃B,B=(A.upd z4 (.cells [.int .i64 k])).upd z5 (.cells [.str m.name,Zo m.fields]):=⟨_,rfl⟩
     have b5:B z5=sO (.cells [.str m.name,Zo m.fields]):=by rw[hB];exact ZEZ _ _ _
     have b4:B z4=sO (.cells [.int .i64 k]):=by rw[hB,ZE0 _ _ k5.1.symm];exact ZEZ _ _ _
     have bb:z2≠z4:=fun e=>by rw[e,o4.2]at g2;simp at g2
     have am:z2≠z5:=fun e=>by rw[e,o5.2]at g2;simp at g2
     have ay:z3≠z4:=fun e=>by rw[e,o4.2]at g3;simp at g3
     have aq:z3≠z5:=fun e=>by rw[e,o5.2]at g3;simp at g3
     have al:z2≠z3:=fun e=>by rw[e,g3]at g2;simp at g2
     have b2:B z2=sO (.cells [.int .i64 fa,.int .i64 ff,.int .i64 fc]):=by rw[hB,ZE0 _ _ am,ZE0 _ _ bb];exact g2
     have b3:B z3=sO (.cells [.bool false]):=by rw[hB,ZE0 _ _ aq,ZE0 _ _ ay];exact g3
     have bx:B x=nO:=by rw[hB,ZE0 _ _ o5.1.symm,ZE0 _ _ o4.1.symm];exact hx
     have af:A.sub B:=by rw[hB];exact ZFx (ZFi _ o4.2) (ZFi _ (by rw[ZE0 _ _ k5.1];exact o5.2))
     rw[←hB]
     clear hB
     refine KK hF rfl trivial [2,3,4,5,17,18,19] (by show([2,3,4,5,17,18,19]:List Nat).Nodup;decide) (W1 bx) (Zdi m.fields (by omega) y x).Y (fun j hj=>rfl)
      (fun j=>if Kl m.fields j then .stop (.exit 0) else .next) (fun j a=>((∀i,i<j→Kl m.fields i=false)∧a=B)∨((∃i,i<j∧Kl m.fields i=true)∧∃a1 a2 a3,a=(B.upd z3 (.cells [.bool true])).upd z2 (.cells [.int .i64 a1,.int .i64 a2,.int .i64 a3])))
      (.inl ⟨fun i hi=>by omega,rfl⟩) ?_ ?_ ?_ ?_ ?_ ?_
     ·intro j a hj ab hB F' ready ah hdr a0 v
      have u:∀i,i<j→Kl m.fields i=false:=fun i hi=>by
       have:=ab i hi;split at this
       ·simp at this
       rename_i h;simpa using h
      rcases hB with ⟨_,rfl⟩|⟨⟨i,hi,ae⟩,_⟩
      ·skip
       simp only[Eqs,reduceCtorEq,ZEV,reduceIte,ZET,ZEX,ZEU,WP,Kb,Jh,Ko,List.isEmpty_nil,List.isEmpty_cons,ZuQ]
       refine gG ?_
       refine a0 fun ax=>?_
       refine rh ?_
       refine Zm ?_
       simp only[Eqs,reduceCtorEq,ZEV,reduceIte,ZET,ZEX,ZEU,Zq b5]
       cases hw:Kl m.fields j with
       |false =>
        rw[if_neg (by rw[hw];simp)]at v
        refine ZaA rfl rfl rfl rfl rfl (by trivial) (by trivial) (by exact Zgc m.fields (by omega) y j (by omega) _) (Zm ?_)
        simp only[Eqs,reduceCtorEq,ZEV,reduceIte,ZET,ZEX,ZEU,hw,Zq b3,W5,St.upd_self b3]
        refine rh ?_
        refine Zm ?_
        simp only[Eqs,reduceCtorEq,ZEV,reduceIte,ZET,ZEX,ZEU,Zq b3]
        refine i0 ?_
        refine Zv (Zj ?_)
        exact v.fin ⟨rfl,.inl ⟨ZX (q:=fun i=>Kl m.fields i=false) u hw,rfl⟩⟩ ax (ZES _)
       |true =>
        rw[if_pos hw]at v
        refine ZaA rfl rfl rfl rfl rfl (by trivial) (by trivial) (by exact Zgc m.fields (by omega) y j (by omega) _) (Zm ?_)
        simp only[Eqs,reduceCtorEq,ZEV,reduceIte,ZET,ZEX,ZEU,hw,Zq b3,W5]
        obtain⟨C,hC⟩:∃C,C=a.upd z3 (.cells [.bool true]):=⟨_,rfl⟩
        have c3:C z3=sO (.cells [.bool true]):=by rw[hC];exact ZEZ _ _ _
        have c2:C z2=sO (.cells [.int .i64 fa,.int .i64 ff,.int .i64 fc]):=by rw[hC,ZE0 _ _ al];exact b2
        have c4:C z4=sO (.cells [.int .i64 k]):=by rw[hC,ZE0 _ _ ay.symm];exact b4
        have c5:C z5=sO (.cells [.str m.name,Zo m.fields]):=by rw[hC,ZE0 _ _ aq.symm];exact b5
        have ar:Yb C ah:=by rw[hC];exact Zlj ax b3
        rw[←hC]
        refine rh ?_
        refine Zm ?_
        simp only[Eqs,reduceCtorEq,ZEV,reduceIte,ZET,ZEX,ZEU,Zq c3]
        refine i1 ?_
        refine rh ?_
        refine Zm ?_
        simp only[Eqs,reduceCtorEq,ZEV,reduceIte,ZET,ZEX,ZEU,Zq c4,Zq c2,W5]
        have be:(C.upd z2 (.cells [.int .i64 k,.int .i64 j,.int .i64 12])) z5=sO (.cells [.str m.name,Zo m.fields]):=by rw[ZE0 _ _ am.symm];exact c5
        have ba:=ZEZ C z2 (.cells [.int .i64 k,.int .i64 j,.int .i64 12])
        have az:Yb (C.upd z2 (.cells [.int .i64 k,.int .i64 j,.int .i64 12])) ah:=Zlj ar c2
        refine rh ?_
        refine Zm ?_
        simp only[Eqs,reduceCtorEq,ZEV,reduceIte,ZET,ZEX,ZEU,Zq be,Zbc]
        refine cd (fun he=>?_) (fun he=>?_)
        ·refine rh ?_
         refine Zm ?_
         simp only[Eqs,reduceCtorEq,ZEV,reduceIte,ZET,ZEX,ZEU,Zq ba,W5,ZFd]
         exact v.exit rfl ⟨rfl,.inr ⟨⟨j,by omega,hw⟩,k,-1,12,by rw[hC]⟩⟩ (Zlj ar c2) (ZES _)
        refine Zv ?_
        exact v.exit rfl ⟨rfl,.inr ⟨⟨j,by omega,hw⟩,k,j,12,by rw[hC]⟩⟩ az (ZES _)
      rw[u i hi]at ae;simp at ae
     ·intro q a ab hB hq
      have u:∀i,i<m.fields.length+1→Kl m.fields i=false:=fun i hi=>by
       have:=ab i hi;split at this
       ·simp at this
       rename_i h;simpa using h
      rcases hB with ⟨_,rfl⟩|⟨⟨i,hi,ae⟩,_⟩
      ·refine QF (Zhy af) ?_
       refine gA ?_
       refine Za ?_
       exact ih_key ((d.msgs.length)-(k+1)) (by omega) (k+1) rfl _ (q::qs) _ (hF.mark q) ⟨A,ac,ZwR af hq,rfl⟩ (by omega) (ai (ZmK u))
      rw[u i hi]at ae;simp at ae
     ·intro q a i hi ab t
      split at t<;>simp at t
     ·intro q a i id hi ab t hB hq
      have a6:id=0:=by
       split at t
       ·simp at t;exact t.symm
       simp at t
      subst a6
      have ak:Kl m.fields i=true:=by
       split at t
       ·assumption
       simp at t
      rcases hB with ⟨h,_⟩|⟨_,a1,a2,a3,rfl⟩
      ·rw[h i (by omega)]at ak;simp at ak
      have a8:=aw (ZfV hi ak)
      rw[a8]at z
      have q2:q≠z2:=fun e=>by rw[e,ZEZ]at hq;simp at hq
      have q3:q≠z3:=fun e=>by rw[ZE0 _ _ q2,e,ZEZ]at hq;simp at hq
      have bc:B q=nO:=by rw[ZE0 _ _ q2,ZE0 _ _ q3]at hq;exact hq
      refine QF (Zhy (Zhy (Zhy af))) ?_
      obtain⟨X,hX⟩:∃X,X=((A.upd z3 (.cells [.bool true])).upd z2 (.cells [.int .i64 a1,.int .i64 a2,.int .i64 a3])).upd q .dfr:=⟨_,rfl⟩
      have aj:Mk ((A0.upd z3 (.cells [.bool true])).upd z2 (.cells [.int .i64 a1,.int .i64 a2,.int .i64 a3])) (q::qs) X:=⟨_,Mk.upd (o:=.cells [.int .i64 fa,.int .i64 ff,.int .i64 fc]) (by rw[ZE0 _ _ al];exact au) (Mk.upd av ac),by rw[ZE0 _ _ q2,ZE0 _ _ q3];exact ZwR af bc,hX⟩
      have ao:=ZEZ (A0.upd z3 (.cells [.bool true])) z2 (.cells [.int .i64 a1,.int .i64 a2,.int .i64 a3])
      have ap:((A0.upd z3 (.cells [.bool true])).upd z2 (.cells [.int .i64 a1,.int .i64 a2,.int .i64 a3])) z3=sO (.cells [.bool true]):=by rw[ZE0 _ _ al.symm];exact ZEZ _ _ _
      have x2:=Mk.get ao aj
      have x3:=Mk.get ap aj
      rw[←hX]
      refine ZP rfl ?_
      refine rh ?_
      refine YJ ?_
      simp only[Eqs,reduceCtorEq,ZEV,reduceIte,ZET,ZEX,ZEU,x2,x3,St.upd_self x2,St.upd_self x3]
      refine(hF.mark q).retU (aj.unw ⟨_,_,.tup [.agg [.int .i64 a1,.int .i64 a2,.int .i64 a3],.bool true],S,by simp only[Eqs,reduceCtorEq,ZEV,reduceIte,ZET,ZEX,ZEU,YI,Kp,ao,ap];rfl,by simp,ZEW _,?_,rfl,a1,a2,a3,by rw[z];rfl⟩)
      intro c o hc
      have e2:c≠z2:=fun e=>by rw[e,a9]at hc;simp at hc
      have e3:c≠z3:=fun e=>by rw[e,a7]at hc;simp at hc
      rw[ZE0 _ _ e2,ZE0 _ _ e3]
      exact ad c o hc
     ·intro q a i d hi ab t
      split at t<;>simp at t
     intro i c t
     split at t<;>simp at t
     exact .inr ⟨0,t.symm⟩
    rintro dd S2 ⟨x,hx,hd,_⟩
    cases hd
   simp at h1
   obtain rfl:k=d.msgs.length:=by omega
   have a4:d.msgs.all Zau=true:=by
    rw[List.all_eq_true]
    intro x hx
    obtain⟨q,hq,rfl⟩:=ZFa hx
    have:=ag q hq
    simpa[ZE8,hq]using this
   rw[a4]at z
   refine ZP rfl (Zd ?_)
   refine rh ?_
   refine YJ ?_
   simp only[Eqs,reduceCtorEq,ZEV,reduceIte,ZET,ZEX,ZEU,g2,g3,St.upd_self g2,St.upd_self g3]
   exact hF.retU (ac.unw ⟨_,_,.tup [.agg [.int .i64 fa,.int .i64 ff,.int .i64 fc],.bool false],S,by simp only[Eqs,reduceCtorEq,ZEV,reduceIte,ZET,ZEX,ZEU,YI,Kp,au,av];rfl,by simp,ZEW _,ad,rfl,fa,ff,fc,by rw[z];rfl⟩)
  exact a5 _ 0 rfl F [] A0 hF rfl (by omega) (by intro q hq;omega)
 rintro dd S ⟨_,a,f,c,h⟩
 cases h
theorem Zk7(d:Dfn):Zc ZEQ 40 [.agg d.cells] (.bool (Wd d)):=by
 refine Ze (cR 40 f40) fun F st i=>?_
 refine rx @eQ2 ?_
 refine rx @eQ2 ?_
 rw[show(D.agg [.str d.name,YR d.msgs,.str d.start])=.agg d.cells from rfl]
 refine cV (ZnG d st) ?_ ?_
 ·rintro dd S ⟨rfl,a,f,c,h⟩
  cases h
  refine gR0 ?_
  refine rg ?_
  exact i rfl (by trivial) (by cases Wd d<;>exact ZEW _) (ZES _)
 rintro dd S ⟨_,a,f,c,h⟩
 cases h
theorem ZnN{L:DL.Loc}(l:List Yg)(i:Int):qv L s (.iaddr 3) [.d (Yy l),.d (.int .i64 i)]=sO (0≤i∧i<l.length,.d (.ep (l.getD i.toNat dE).cells 0)):=rfl
theorem ZqM{L:DL.Loc}(l:List Yg):qv L s .lenL [.d (Yy l)]=sO (True,.d (.int .i64 l.length)):=rfl
theorem ZtQ{L:DL.Loc}(l:List ZT)(i:Int):qv L s (.iaddr 2) [.d (YD l),.d (.int .i64 i)]=sO (0≤i∧i<l.length,.d (.ep (l.getD i.toNat dE).cells 0)):=rfl
theorem Zsm{L:DL.Loc}(l:List ZT):qv L s .lenL [.d (YD l)]=sO (True,.d (.int .i64 l.length)):=rfl
theorem ZcS(cs:List D)(o:Nat):KT (.d (.ep cs o))=[]:=rfl
theorem Zcf{d:Dfn}{s:Str}(h:0≤Zn d s d.msgs.length):Zn d s d.msgs.length=ixS d s∧ixS d s<d.msgs.length:=by
 have:=Y2 (fun m=>dC (m.name=s)) (d.msgs.take d.msgs.length)
 rw[ZE9]at this
 unfold ixS
 unfold Zn at *
 omega
theorem ZxI{d:Dfn}{a i:Nat}{m:Msg}{f:Fld}(h:WI d a m i f=0):Qh d a m i f=0∧Yz m f.name i<0∧1≤f.kind∧f.kind≤12:=by
 unfold WI at h
 split at h;· omega
 split at h;· omega
 rename_i hnf
 split at h;· omega
 rename_i c
 split at h;· omega
 simp only[ZFb,decide_eq_true_eq,not_or]at c
 exact⟨h,by omega,by omega,by omega⟩
theorem Zmj{m:Msg}{s:Str}{n:Nat}(h:0≤Yz m s n):Yz m s m.fields.length=Yz m s n∧(Yz m s n).toNat<n∧(Yz m s n).toNat<m.fields.length:=by
 unfold Yz at *
 have h2:=Y2 (fun f:Fld=>dC (f.name=s)) (m.fields.take n)
 rw[ZE9]at h2
 refine⟨?_,by omega,by omega⟩
 rw[ZFc];exact ZkC h
theorem ZeC{α:Type}[Inhabited α]{l:List α}{x:α}(h:x∈l):∃i,i<l.length∧l.getD i dE=x:=by
 obtain⟨i,hi,rfl⟩:=ZFa h
 exact⟨i,hi,by simp[ZE8,hi]⟩
theorem ZdE{d:Dfn}(h:Wd d=true):KD d:=by
 unfold Wd at h
 rw[ZEY]at h
 exact Zjv h.1
def WK(f:Fld):Bool:=(!dC (f.kind=2)&&!dC (f.kind=10))&&!dC (f.kind=11)
def vfs(l:List Fld):List Fld:=l.filter WK
theorem Ze5{l:List Fld}{i:Nat}(h:i<l.length):vfs (l.take (i+1))=vfs (l.take i)++if WK (l.getD i dE) then [l.getD i dE] else []:=by
 rw[Z0 h];unfold vfs;rw[List.filter_append];congr 1;simp only[List.filter_cons,List.filter_nil]
theorem ZpA{l:List Fld}{i:Nat}(h:i<l.length):vfs l=vfs (l.take i)++((if WK (l.getD i dE) then [l.getD i dE] else [])++vfs (l.drop (i+1))):=by
 have h1:l=l.take (i+1)++l.drop (i+1):=(List.take_append_drop _ _).symm
 conv=>lhs;rw[h1];unfold vfs;rw[List.filter_append]
 rw[show List.filter WK (l.take (i+1))=vfs (l.take (i+1)) from rfl,Ze5 h,ZFt];rfl
def KE(m:Msg)(ps:List Val):Bool:=dC ((vfs m.fields).map (·.name)=ps.map Val.name)
theorem Qq{L:DL.Loc}(l:List Val):qv L s .lenL [.d (ZO l)]=sO (True,.d (.int .i64 l.length)):=rfl
theorem atV{L:DL.Loc}(l:List Val)(i:Int):qv L s (.iaddr 5) [.d (ZO l),.d (.int .i64 i)]=sO (0≤i∧i<l.length,.d (.ep (Zd6 l i.toNat) 0)):=rfl
theorem W8{L:DL.Loc}(l:Str):qv L s .lenL [.d (ZM l)]=sO (True,.d (.int .i64 l.length)):=rfl
theorem ZhC{l:List Val}(h:DWf (ZO l)):l.length≤big:=h.sl_inv.1
theorem Zaw(f:Fld):Zc ZEQ 26 [.agg f.cells] (.bool (WK f)):=by
 refine Ze (cR 26 f26) fun F st c=>?_
 refine rx @eQ0 ?_
 refine rg ?_
 refine rb c ?_
 rfl
theorem Zdw(f:Fld):Zc ZEQ 56 [.agg f.cells] (.bool (WK f)):=by
 refine Ze (cR 56 f56) fun F st c=>?_
 refine rx @eQ0 ?_
 refine rg ?_
 refine rb c ?_
 rfl
theorem ZsK(f:Fld)(tag:Int):Zc ZEQ 54 [.agg f.cells,.int .i64 tag] (.int .i64 (QT f tag)):=by
 refine ZJ (cR 54 f54) fun z F st u=>?_
 have hw:=(Y3 ((z (.agg f.cells) (by simp)).agg_inv (Yy f.cases) (by simp[Fld.cells]))).1
 unfold big at hw
 clear z
 have hS:=QT.eq_1 f tag
 refine rx @eQ0 ?_
 refine rg ?_
 refine Zb (fr (f.cases.length) (fun i Q=>i≤f.cases.length→(∀j,j<i→(fun c:Yg=>dC (c.low≤tag)&&dC (tag≤c.high)) (f.cases.getD j dE)=false)→Q [(1,.d (.int .i64 tag)),(2,.loc 2 0),(5,.d (.int .i64 i))] [(2,f.cells)] st) (fun n t=>?_) fun ab=>?_)
 ·intro i hn hi v
  refine rx (nd2 @eQ0 @ZqM) ?_
  refine cd (fun h1=>?_) (fun h1=>?_)
  ·simp at h1
   generalize hg:f.cases.getD i dE=c at *
   refine xA (nd2 @eQ0 (nd2 @ZnN (nd2 @hg @Yg.cells.eq_1))) ?_
   refine cd (fun h2=>?_) (fun h2=>?_)
   ·rw[Ke (p:=fun c:Yg=>dC (c.low≤tag)&&dC (tag≤c.high)) h1 (by rw[hg];exact h2) v]at hS
    refine rg ?_
    refine ri u ?_
    exact hS.symm
   refine gA ?_
   refine Za ?_
   exact t ((f.cases.length)-(i+1)) (by omega) (i+1) rfl (by omega) (ZX (q:=fun j=>(fun c:Yg=>dC (c.low≤tag)&&dC (tag≤c.high)) (f.cases.getD j dE)=false) v (by show(dC ((f.cases.getD i dE).low≤tag)&&dC (tag≤(f.cases.getD i dE).high))=false;rw[hg];exact h2))
  simp at h1
  obtain rfl:i=f.cases.length:=by omega
  have y:∀x∈f.cases,(fun c:Yg=>dC (c.low≤tag)&&dC (tag≤c.high)) x=false:=fun x hx=>by
   obtain⟨j,hj,rfl⟩:=ZFa hx
   have:=v j hj
   simpa[ZE8,hj]using this
  rw[WM y]at hS
  refine rg ?_
  refine ri u ?_
  exact hS.symm
 exact ab _ 0 rfl (by omega) (by intro j hj;omega)
theorem ZsE{l:List Fld}{i k:Nat}{ps:List Val}(hk:k=(vfs (l.take i)).length)(hi:i<l.length)(hv:WK (l.getD i dE)=true)(h:(vfs l).map (·.name)=ps.map Val.name):k<ps.length∧(ps.getD k dE).name=(l.getD i dE).name:=by
 have h1:=ZpA hi
 rw[if_pos hv]at h1
 have h2:(vfs l).length=ps.length:=by have:=congrArg List.length h;simpa using this
 have h3:k<ps.length:=by
  rw[←h2,h1];simp;omega
 refine⟨h3,?_⟩
 have h4:((vfs l).map (·.name))[k]?=(ps.map Val.name)[k]?:=by rw[h]
 rw[h1]at h4
 simp only[List.map_append,ZE7,ZFo,List.getElem?_map]at h4
 rw[ZFz (by simp;omega)]at h4
 simp[hk▸Nat.sub_self k,hk.symm]at h4
 have h5:ps[k]?=sO (ps.getD k dE):=by simp[ZE8,h3]
 rw[h5]at h4
 simpa using h4.symm
theorem Zr7(m:Msg)(ps:List Val):Zc ZEQ 24 [.agg m.cells,ZO ps] (.bool (KE m ps)):=by
 refine ZJ (cR 24 f24) fun v F st u=>?_
 have hw:=(Y3 ((v (.agg m.cells) (by simp)).agg_inv (Zo m.fields) (by simp[Msg.cells]))).1
 have ah:=ZhC (v (ZO ps) (by simp))
 unfold big at hw ah
 clear v
 have hS:=KE.eq_1 m ps
 have j:∀i k,k=(vfs (m.fields.take i)).length→i<m.fields.length→WK (m.fields.getD i dE)=true→(vfs m.fields).map (·.name)=ps.map Val.name→k<ps.length∧(ps.getD k dE).name=(m.fields.getD i dE).name:=fun i k hk hi hv h=>ZsE hk hi hv h
 refine rx @eQ3 ?_
 refine gG ?_
 refine Zb (fr (m.fields.length) (fun i Q=>∀k,k=(vfs (m.fields.take i)).length→k≤ps.length→(vfs (m.fields.take i)).map (·.name)=(ps.take k).map Val.name→i≤m.fields.length→Q [(1,.d (ZO ps)),(2,.loc 2 0),(5,.d (.int .i64 k)),(6,.d (.int .i64 i))] [(2,[.str m.name,Zo m.fields])] st) (fun n c=>?_) fun af=>?_)
 ·intro i hn k hk ag t hi
  refine rx @Zbc ?_
  refine cd (fun h1=>?_) (fun h1=>?_)
  ·simp at h1
   have hT:=Ze5 h1
   have j:=j i k hk h1
   generalize hg:m.fields.getD i dE=f at *
   refine xA (nd2 @atF (nd2 @hg @eQ0)) ?_
   rw[show D.agg [.str f.name,.int .i64 f.kind,.int .i64 f.bits,.bool f.little,.bool f.loose,.int .i64 f.low,.int .i64 f.high,.int .i64 f.size.base,YD f.size.terms,.str f.of,.str f.tag,.str f.from_,Yy f.cases,.int .i64 f.check,.int .i64 f.key]=.agg f.cells from rfl]
   refine cl (Zaw f) ?_
   refine cd (fun h2=>?_) (fun h2=>?_)
   ·rw[Bool.not_eq_true']at h2
    rw[h2,if_neg (by simp),ZFm]at hT
    refine gA ?_
    refine Za ?_
    exact c ((m.fields.length)-(i+1)) (by omega) (i+1) rfl k (by rw[hT];exact hk) ag (by rw[hT];exact t) (by omega)
   rw[Bool.not_eq_false']at h2
   rw[h2,if_pos rfl]at hT
   have j:=j h2
   obtain⟨x,y,b,hh,p,hr,ac⟩:=Zzo ps k
   refine xA (nd2 @Qq (nd2 @atV (nd2 @hr (nd2 @atF (nd2 @hg @eQ0))))) ?_
   refine cd (fun h3=>?_) (fun h3=>?_)
   ·have ad:¬(vfs m.fields).map (·.name)=ps.map Val.name:=fun h=>by
     have h4:=j h
     rw[←(ac h4.1).1]at h4
     simp[h4.2]at h3
     omega
    rw[decide_eq_false ad]at hS
    refine rg ?_
    refine rb u ?_
    exact hS.symm
   simp at h3
   have z:k<ps.length:=by omega
   have ae:(ps.getD k dE).name=f.name:=by rw[←(ac z).1];exact h3.2
   refine gA ?_
   refine gA ?_
   refine Za ?_
   exact c ((m.fields.length)-(i+1)) (by omega) (i+1) rfl (k+1) (by rw[hT];simp;omega) (by omega) (by rw[hT,Z0 z];simp only[List.map_append,ZE7,ZFo,t,ae]) (by omega)
  simp at h1
  obtain rfl:i=m.fields.length:=by omega
  rw[ZFc]at hk t
  have ab:dC ((k:Int)=ps.length)=KE m ps:=by
   rw[hS]
   refine decide_eq_decide.2 ⟨fun h=>?_,fun h=>?_⟩
   ·have:k=ps.length:=by omega
    rw[t,this,ZFc]
   have:=congrArg List.length h
   simp at this
   omega
  refine rx @Qq ?_
  refine rb u ?_
  exact ab
 exact af _ 0 rfl 0 rfl (by omega) rfl (by omega)
def ZrE(k:Int):Bool:=dC (k=1) ||decide (k=3)
def ZnM(k:Int):Bool:=dC (k=4) ||decide (k=5)
def WQ(k:Int)(x:Val):Bool:=(((!ZrE k&&!dC (x.int=0)) ||(!ZnM k&&dC (0<(x.bytes.length:Int)))) ||(!dC (k=6)&&dC (0<(x.hdrs.length:Int)))) ||(!dC (7≤k)&&dC (0<(x.parts.length:Int)))
theorem ZpV(k:Int)(x:Val):Zc ZEQ 28 [.int .i64 k,.agg x.cells] (.bool (WQ k x)):=by
 refine Ze (cR 28 f28) fun F st c=>?_
 rw[x.cells_eq]
 refine gG ?_
 refine gG ?_
 refine rx (nd2 @Qq (nd2 @W8 @ZbH)) ?_
 refine rb c ?_
 rfl
def KB(have_ want:Int):Int:=if dC (have_<want) then 4 else if dC (want<have_) then 5 else 0
theorem ZfY(a b:Int):Zc ZEQ 50 [.int .i64 a,.int .i64 b] (.int .i64 (KB a b)):=by
 refine Ze (cR 50 f50) fun F st c=>?_
 have hS:=KB.eq_1 a b
 refine gG ?_
 refine cd (fun h1=>?_) (fun h1=>?_)
 ·rw[if_pos h1]at hS
  refine rg ?_
  refine ri c ?_
  exact hS.symm
 rw[if_neg (by simp[h1])]at hS
 refine rg ?_
 refine cd (fun h2=>?_) (fun h2=>?_)
 ·rw[if_pos h2]at hS
  refine rg ?_
  refine ri c ?_
  exact hS.symm
 rw[if_neg (by simp[h2])]at hS
 refine rg ?_
 refine ri c ?_
 exact hS.symm
abbrev nvC(x:Str×Int):List D:=[.str x.1,.int .i64 x.2]
def ZeE(l:List (Str×Int)):D:=slD 2 nvC l
theorem ZAQ{L:DL.Loc}(l:List (Str×Int)):qv L s .lenL [.d (ZeE l)]=sO (True,.d (.int .i64 l.length)):=rfl
theorem atN{L:DL.Loc}(l:List (Str×Int))(i:Int):qv L s (.iaddr 2) [.d (ZeE l),.d (.int .i64 i)]=sO (0≤i∧i<l.length,.d (.ep (nvC (l.getD i.toNat dE)) 0)):=rfl
def YU(s:Str):List (Str×Int)→Int
 | []=>-1
 |x::r=>if x.1=s then x.2 else YU s r
theorem ZwS{s:Str}{l:List (Str×Int)}{i:Nat}(h:i<l.length):YU s (l.drop i)=if (l.getD i dE).1=s then (l.getD i dE).2 else YU s (l.drop (i+1)):=by
 rw[Wt h];rfl
theorem ZmY(s:Str)(l:List (Str×Int)):Zc ZEQ 55 [.str s,ZeE l] (.int .i64 (YU s l)):=by
 refine ZJ (cR 55 f55) fun t F st j=>?_
 have hw:=(Y3 (t (ZeE l) (by simp))).1
 unfold big at hw
 clear t
 refine gG ?_
 refine Zb (fr (l.length) (fun i Q=>YU s (l.drop i)=YU s l→i≤l.length→Q [(0,.d (.str s)),(1,.d (ZeE l)),(5,.d (.int .i64 i))] [] st) (fun n c=>?_) fun u=>?_)
 ·intro i hn ht hi
  refine rx @ZAQ ?_
  refine cd (fun h1=>?_) (fun h1=>?_)
  ·simp at h1
   have hd:=ZwS (s:=s) h1
   rw[ht]at hd
   generalize hg:l.getD i dE=g at *
   refine xA (nd2 @atN @hg) ?_
   refine cd (fun h2=>?_) (fun h2=>?_)
   ·rw[if_pos (by simpa using h2)]at hd
    refine xA (nd2 @atN @hg) ?_
    refine ri j ?_
    exact hd.symm
   rw[if_neg (by simpa using h2)]at hd
   refine gA ?_
   refine Za ?_
   exact c ((l.length)-(i+1)) (by omega) (i+1) rfl hd.symm (by omega)
  simp at h1
  obtain rfl:i=l.length:=by omega
  rw[List.drop_length]at ht
  refine rg ?_
  refine ri j ?_
  rw[←ht];rfl
 exact u _ 0 rfl rfl (by omega)
def Jz:List Fld→List Val→List (Str×Int)
 | [],_=>[]
 |f::r,ps=>(if f.kind=2 then [(f.name,f.low)] else [])++(if WK f then (if (dC (0<(ps.length:Int))&&YA f) then [(f.name,(ps.getD 0 dE).int)] else [])++Jz r (ps.drop 1) else Jz r ps)
def Zcm(m:Msg)(ps:List Val):List (Str×Int):=Jz m.fields ps
theorem ZxS{l:List Fld}{i:Nat}{ps:List Val}(h:i<l.length):Jz (l.drop i) ps=(if (l.getD i dE).kind=2 then [((l.getD i dE).name,(l.getD i dE).low)] else [])++(if WK (l.getD i dE) then (if (dC (0<(ps.length:Int))&&YA (l.getD i dE)) then [((l.getD i dE).name,(ps.getD 0 dE).int)] else [])++Jz (l.drop (i+1)) (ps.drop 1) else Jz (l.drop (i+1)) ps):=by
 rw[Wt h,Jz.eq_2]
theorem Zn4{l:List Fld}{i:Nat}:(vfs (l.take i)).length≤i:=by
 unfold vfs
 exact Nat.le_trans (List.length_filter_le _ _) (by simp;omega)
theorem Zod(m:Msg)(hm:m.fields.length≤1000)(ps:List Val):Zc ZEQ 25 [.agg m.cells,ZO ps] (ZeE (Zcm m ps)):=by
 refine ZJ (cR 25 f25) fun ad F st z=>?_
 have ai:=ZhC (ad (ZO ps) (by simp))
 unfold big at ai
 clear ad
 have hS:=Zcm.eq_1 m ps
 refine rx @eQ3 ?_
 refine gG ?_
 refine rg ?_
 refine kl (st) [(1,.d (ZO ps)),(2,.loc 2 0),(5,.d (.sl .full 0 2 fun _=>[])),(6,.d (.int .i64 (0:Nat))),(7,.d (.int .i64 (0:Nat)))] [(2,[.str m.name,Zo m.fields])] (.skip (.skip (.cons (.d (WH fun b h=>by cases h)) (KH _)))) (WU _) ?_
 refine Zb (fr (m.fields.length) (fun i Q=>∀k tk row t,tk.okIn st→ZV nvC row t→k≤i→t.length≤2*i→t++Jz (m.fields.drop i) (ps.drop k)=Zcm m ps→i≤m.fields.length→Q [(1,.d (ZO ps)),(2,.loc 2 0),(5,.d (.sl tk t.length 2 row)),(6,.d (.int .i64 k)),(7,.d (.int .i64 i))] [(2,[.str m.name,Zo m.fields])] (st.own tk (t.length*2))) (fun n u=>?_) fun af=>?_)
 ·intro i hn k tk row t v j hk hol c hi
  refine rx @Zbc ?_
  refine cd (fun h1=>?_) (fun h1=>?_)
  ·simp at h1
   have ac:=ZxS (ps:=ps.drop k) h1
   rw[ac]at c
   clear ac
   generalize hg:m.fields.getD i dE=f at *
   refine xA (nd2 @atF (nd2 @hg @eQ0)) ?_
   refine rx @eQ0 ?_
   refine jU [0] (fun Q=>∀tk row o,tk.okIn st→ZV nvC row o→o=t++(if f.kind=2 then [(f.name,f.low)] else [])→Q F [(1,.d (ZO ps)),(2,.loc 2 0),(5,.d (.sl tk o.length 2 row)),(6,.d (.int .i64 k)),(7,.d (.int .i64 i)),(8,.loc 8 0)] [(2,[.str m.name,Zo m.fields]),(8,f.cells)] (st.own tk (o.length*2))) ?_ fun jn=>?_
   ·clear v j tk row
    intro tk row o v j ho
    have hol2:o.length≤2*i+1:=by
     rw[ho,ZE1]
     split<;>simp<;>omega
    rw[←ZFt,←ho]at c
    refine rx @eQ0 ?_
    rw[show D.agg [.str f.name,.int .i64 f.kind,.int .i64 f.bits,.bool f.little,.bool f.loose,.int .i64 f.low,.int .i64 f.high,.int .i64 f.size.base,YD f.size.terms,.str f.of,.str f.tag,.str f.from_,Yy f.cases,.int .i64 f.check,.int .i64 f.key]=.agg f.cells from rfl]
    refine cl (Zaw f) ?_
    refine cd (fun h3=>?_) (fun h3=>?_)
    ·rw[Bool.not_eq_true']at h3
     rw[h3,if_neg (by simp)]at c
     refine gA ?_
     refine Za ?_
     exact u (m.fields.length-(i+1)) (by omega) (i+1) rfl k tk row o v j (by omega) (by omega) c (by omega)
    rw[Bool.not_eq_false']at h3
    rw[h3,if_pos rfl,List.drop_drop,←ZFt]at c
    have aj:dC (0<((ps.drop k).length:Int))=dC ((k:Int)<ps.length):=decide_eq_decide.2 (by rw[ZFw];omega)
    rw[aj]at c
    refine rx (nd2 @Qq @eQ0) ?_
    rw[show D.agg [.str f.name,.int .i64 f.kind,.int .i64 f.bits,.bool f.little,.bool f.loose,.int .i64 f.low,.int .i64 f.high,.int .i64 f.size.base,YD f.size.terms,.str f.of,.str f.tag,.str f.from_,Yy f.cases,.int .i64 f.check,.int .i64 f.key]=.agg f.cells from rfl]
    refine cG (ZdK f) ?_
    refine cd (fun h4=>?_) (fun h4=>?_)
    ·rw[h4,if_pos rfl]at c
     rw[ZEY,decide_eq_true_eq]at h4
     have ah:k<ps.length:=by omega
     have hr:=Wp ah
     have ag:(ps.drop k).getD 0 dE=ps.getD k dE:=by simp[ZE8]
     rw[ag]at c
     generalize hx:ps.getD k dE=x at *
     refine xA (nd2 @atV (nd2 @hr @eQ0)) ?_
     refine Zw3 (st) (tk) rfl rfl rfl rfl rfl rfl (by trivial) (by trivial) rfl (by first|trivial|assumption) (by omega) (by (unfold big;omega)) fun t1 ab=>YZ ?_
     simp only[Eqs,reduceCtorEq,ZEV,reduceIte,ZET,ZEX,ZEU]
     refine gA ?_
     refine gA ?_
     have y:=u (m.fields.length-(i+1)) (by omega) (i+1) rfl (k+1) t1 _ (o++[(f.name,x.int)]) ab (j.snoc (x:=(f.name,x.int)) (row2:=Z4 [.str [],.int .i64 0] ([0].zip [.agg [.str f.name,.int .i64 x.int]])) rfl rfl) (by omega) (by simp;omega) c (by omega)
     rw[ZE1]at y
     refine Za ?_
     exact y
    rw[h4,if_neg (by simp),ZFm]at c
    refine gA ?_
    refine gA ?_
    refine Za ?_
    exact u (m.fields.length-(i+1)) (by omega) (i+1) rfl (k+1) tk row o v j (by omega) (by omega) c (by omega)
   refine cd (fun h2=>?_) (fun h2=>?_)
   ·rw[decide_eq_true_eq]at h2
    rw[if_pos h2]at jn
    refine rx @eQ0 ?_
    refine QE (st) (tk) rfl rfl rfl rfl rfl rfl (by trivial) (by trivial) rfl (by first|trivial|assumption) (by omega) (by (unfold big;omega)) fun t1 ab=>Zm ?_
    simp only[Eqs,reduceCtorEq,ZEV,reduceIte,ZET,ZEX,ZEU]
    have hj:=jn t1 _ (t++[(f.name,f.low)]) ab (j.snoc (x:=(f.name,f.low)) (row2:=Z4 [.str [],.int .i64 0] ([0].zip [.agg [.str f.name,.int .i64 f.low]])) rfl rfl) rfl
    rw[ZE1]at hj
    exact hj
   rw[decide_eq_false_iff_not]at h2
   rw[if_neg h2]at jn
   refine Zv ?_
   refine kE [1,2,5,6,7,8] ?_
   exact jn tk row t v j (ZFm _).symm
  simp at h1
  obtain rfl:i=m.fields.length:=by omega
  rw[List.drop_length]at c
  have ae:t=Zcm m ps:=by rw[←c];simp[Jz]
  rw[←ae]at z
  refine rg ?_
  exact z rfl (by trivial) (j.le rfl) (Wm v)
 exact af _ 0 rfl 0 .full _ [] trivial ZV.nil (by omega) (by simp) rfl (by omega)
def Zd7(s:Wk)(l:List (Str×Int)):Int:=s.base+Qf (fun t=>YU t.field l) s.terms
theorem ZfW(s:Wk)(hv:ZN s=true)(l:List (Str×Int))(hb:∀t∈s.terms,0≤YU t.field l∧YU t.field l<34359738368):Zc ZEQ 51 [.agg s.cells,ZeE l] (.int .i64 (Zd7 s l)):=by
 refine Ze (cR 51 f51) fun F st ac=>?_
 obtain⟨hbase,c⟩:=ZfB hv
 have hlen:s.terms.length≤4:=by
  unfold ZN at hv
  simp only[ZEY,decide_eq_true_eq]at hv
  exact hv.1.2
 have hS:=Zd7.eq_1 s l
 refine rx @eQ7 ?_
 refine gG ?_
 refine Zb (fr (s.terms.length) (fun i Q=>∀n,n=s.base+Qf (fun t=>YU t.field l) (s.terms.take i)→i≤s.terms.length→Q [(1,.d (ZeE l)),(2,.loc 2 0),(5,.d (.int .i64 n)),(6,.d (.int .i64 i))] [(2,[.int .i64 s.base,YD s.terms])] st) (fun n u=>?_) fun ad=>?_)
 ·intro i hnn n y hi
  refine rx @Zsm ?_
  refine cd (fun h1=>?_) (fun h1=>?_)
  ·simp at h1
   have j:=Zpw (v:=fun t=>YU t.field l) h1
   have hm:s.terms.getD i dE∈s.terms:=Zy h1
   have ab:=Zhz (v:=fun t=>YU t.field l) (l:=s.terms.take (i+1)) fun t ht=>⟨c t (List.mem_of_mem_take ht),hb t (List.mem_of_mem_take ht)⟩
   rw[ZE9]at ab
   have z:=Zhz (v:=fun t=>YU t.field l) (l:=s.terms.take i) fun t ht=>⟨c t (List.mem_of_mem_take ht),hb t (List.mem_of_mem_take ht)⟩
   rw[ZE9]at z
   rw[j]at ab
   have h3:=Ziy (c _ hm) (hb _ hm)
   generalize hg:s.terms.getD i dE=t at *
   generalize hp:Qf (fun t=>YU t.field l) (s.terms.take i)=pre at *
   have j:=j
   refine xA (nd2 @ZtQ (nd2 @hg (nd2 @eQ8 @ZcS))) ?_
   refine cXD (nd2 @ZtQ (nd2 @hg (nd2 @eQ8 @ZcS))) (ZmY t.field l) ?_
   generalize hmv:t.factor*YU t.field l=mv at *
   refine aa ?_
   refine gA ?_
   refine Za ?_
   exact u ((s.terms.length)-(i+1)) (by omega) (i+1) rfl (n+mv) (by rw[j,y,Int.add_assoc]) (by omega)
  simp at h1
  obtain rfl:i=s.terms.length:=by omega
  rw[ZFc]at y
  refine rg ?_
  refine ri ac ?_
  rw[hS,y]
 exact ad _ 0 rfl _ (by simp[Qf]) (by omega)
def ZcG(n:Nat):Str:=if n<10 then [UInt8.ofNat (48+n)] else ZcG (n / 10)++[UInt8.ofNat (48+n % 10)]
termination_by n
decreasing_by omega
theorem Ql{n:Nat}(h:n<10):ZcG n=[UInt8.ofNat (48+n)]:=by rw[ZcG,if_pos h]
theorem ZgW{n:Nat}(h:¬n<10):ZcG n=ZcG (n / 10)++ZcG (n % 10):=by
 rw[ZcG,if_neg h,Ql (n:=n % 10) (by omega)]
theorem Zet(n:Nat):(ZcG n).length≤n+1:=by
 induction n using Nat.strongRecOn with
 |ind n ih =>
  by_cases h:n<10
  ·rw[Ql h];simp
  rw[ZgW h,ZE1,Ql (n:=n % 10) (by omega)]
  have:=ih (n / 10) (by omega)
  simp;omega
theorem Zoc(n:Nat)(hn:n<1000000):Zc ZEQ 49 [.int .i64 n] (.str (ZcG n)):=by
 induction n using Nat.strongRecOn with
 |ind n ih =>
 refine Ze (cR 49 f49) fun F st c=>?_
 refine gG ?_
 refine cd (fun h1=>?_) (fun h1=>?_)
 ·have j:n<10:=by simp at h1;omega
  rw[Ql j]at c
  refine rg ?_
  rw[Zae .u8 (48+(n:Int)) (by have h1:IntKind.u8.min=0:=rfl;have h2:IntKind.u8.max=255:=rfl;unfold inR;omega)]
  refine⟨by omega,by omega,fun i hi=>?_,?_⟩
  ·obtain rfl:i=0:=by omega
   exact⟨_,rfl⟩
  skip
  refine rs c ?_
  show[UInt8.ofNat (48+(n:Int)).toNat]=_;rw[show(48+(n:Int)).toNat=48+n by omega]
 have j:¬n<10:=by simp at h1;omega
 have i1:=ih (n / 10) (by omega) (by omega)
 have i2:=ih (n % 10) (by omega) (by omega)
 have hl:=Zet (n / 10)
 have hl2:=Zet (n % 10)
 rw[ZgW j]at c
 have e1:(n:Int).tdiv 10=((n / 10:Nat):Int):=by rw[Int.tdiv_eq_ediv_of_nonneg (by omega)];omega
 have e2:(n:Int).tmod 10=((n % 10:Nat):Int):=by rw[Int.tmod_eq_emod_of_nonneg (by omega)];omega
 refine rx @e1 ?_
 refine⟨by decide,by omega,by omega,?_⟩
 refine cX @e2 (i1) ?_
 refine⟨by decide,by omega,by omega,?_⟩
 refine cl (i2) ?_
 refine⟨by unfold big;omega,?_⟩
 refine rs c ?_
 rfl
def ZcH(ps:List Val)(k:Nat):Nat:=((ps.take k).filter (fun x=>dC (x.name=(ps.getD k dE).name))).length
def Ye(ps:List Val)(k:Nat):Str:=if ZcH ps k=0 then (ps.getD k dE).name else (ps.getD k dE).name++[58]++ZcG (ZcH ps k)
def Z1(path s:Str):Str:=if path=[] then s else path++[46]++s
theorem Zmb(ps:List Val)(k:Nat):ZcH ps k≤k:=by
 unfold ZcH
 exact Nat.le_trans (List.length_filter_le _ _) (by simp;omega)
def ZaK(ps:List Val)(k i:Nat):Nat:=((ps.take i).filter (fun x=>dC (x.name=(ps.getD k dE).name))).length
theorem ZoT{ps:List Val}{k i:Nat}(h:i<ps.length):ZaK ps k (i+1)=ZaK ps k i+if (ps.getD i dE).name=(ps.getD k dE).name then 1 else 0:=by
 unfold ZaK
 rw[Z0 h,List.filter_append,ZE1]
 congr 1
 simp only[List.filter_cons,List.filter_nil]
 split<;>rename_i h1<;>simp at h1<;>simp[h1]
theorem Ztp(ps:List Val)(k i:Nat):ZaK ps k i≤i:=by
 unfold ZaK
 exact Nat.le_trans (List.length_filter_le _ _) (by simp;omega)
theorem ZfX(path:Str)(ps:List Val)(k:Nat)(hk:k<ps.length)(hps:ps.length≤100000)(hn:∀x∈ps,x.name.length≤1000)(hp:path.length≤1000000):Zc ZEQ 27 [.str path,ZO ps,.int .i64 k] (.str (Z1 path (Ye ps k))):=by
 refine Ze (cR 27 f27) fun F st j=>?_
 have u:=Wp hk
 have hnk:=hn _ (Zy hk)
 have t:=fun i=>ZoT (ps:=ps) (k:=k) (i:=i)
 have hO:=Ye.eq_1 ps k
 have hJ:=Z1.eq_1 path (Ye ps k)
 have v:ZcH ps k=ZaK ps k k:=rfl
 have hdl:=Zmb ps k
 have hdec:=Zet (ZcH ps k)
 have hD:=Zoc (ZcH ps k) (by omega)
 generalize hx:ps.getD k dE=x at *
 refine gG ?_
 refine rg ?_
 refine Zb (fr (k) (fun i Q=>i≤k→Q [(0,.d (.str path)),(1,.d (ZO ps)),(2,.d (.int .i64 k)),(7,.d (.int .i64 (ZaK ps k i))),(8,.d (.int .i64 i))] [] st) (fun n c=>?_) fun z=>?_)
 ·intro i hn2 hi
  refine rg ?_
  refine cd (fun h1=>?_) (fun h1=>?_)
  ·simp at h1
   have ab:=Wp (show i<ps.length by omega)
   have hs:=t i (by omega)
   have hdi:=Ztp ps k i
   generalize hy:ps.getD i dE=y at *
   refine xA (nd2 @atV (nd2 @ab @u)) ?_
   refine cd (fun h2=>?_) (fun h2=>?_)
   ·rw[if_pos (by simpa using h2)]at hs
    refine gA ?_
    refine gA ?_
    rw[show((ZaK ps k i:Nat):Int)+1=((ZaK ps k (i+1):Nat):Int) by rw[hs];rfl]
    refine Za ?_
    exact c ((k)-(i+1)) (by omega) (i+1) rfl (by omega)
   rw[if_neg (by simpa using h2)]at hs
   refine gA ?_
   rw[show((ZaK ps k i:Nat):Int)=((ZaK ps k (i+1):Nat):Int) by rw[hs];rfl]
   refine Za ?_
   exact c ((k)-(i+1)) (by omega) (i+1) rfl (by omega)
  simp at h1
  obtain rfl:i=k:=by omega
  rw[←v]
  refine xA (nd2 @atV @u) ?_
  refine rg ?_
  refine jU [0] (fun Q=>∀s,s=Ye ps i→s.length≤200000→Q F [(0,.d (.str path)),(9,.d (.str s))] [] st) ?_ fun jn=>?_
  ·intro s hs hsl
   rw[←hs]at hJ
   refine rg ?_
   refine cd (fun h3=>?_) (fun h3=>?_)
   ·rw[if_pos (by simpa using h3)]at hJ
    refine rg ?_
    refine rs j ?_
    rw[←hs];exact hJ.symm
   rw[if_neg (by simpa using h3)]at hJ
   refine rg ?_
   repeat(refine ZER (by first|omega|trivial|(intro h0;simp at h0;omega)|(((try simp only[ZE1,ZE5,List.length_nil]);unfold big;omega))) ?_)
   refine rs j ?_
   rw[←hs];exact hJ.symm
  refine cd (fun h2=>?_) (fun h2=>?_)
  ·simp at h2
   rw[if_neg (by omega)]at hO
   refine rg ?_
   refine⟨by unfold big;omega,?_⟩
   refine cl (hD) ?_
   repeat(refine ZER (by first|omega|trivial|(intro h0;simp at h0;omega)|(((try simp only[ZE1,ZE5,List.length_nil]);unfold big;omega))) ?_)
   exact jn _ hO.symm (by simp only[ZE1,ZE5,List.length_nil];omega)
  simp at h2
  rw[if_pos h2]at hO
  refine Zv ?_
  refine kE [0,9] ?_
  exact jn _ hO.symm (by omega)
 exact z _ 0 rfl (by omega)
mutual
def Kg:Val→Nat
 |.mk _ _ _ _ p=>1+nodesL p
def nodesL:List Val→Nat
 | []=>0
 |v::r=>Kg v+nodesL r
end
mutual
def Yk:Val→Nat
 |.mk _ _ _ _ p=>heightL p+1
def heightL:List Val→Nat
 | []=>0
 |v::r=>max (Yk v) (heightL r)
end
def JE(h:Hdr):Bool:=dC ((1048576:Int)<h.name.length) ||decide ((1048576:Int)<h.text.length)
def Ji(v:Val):Bool:=(((((Yl v.name&&dC (0≤v.int))&&dC (v.int<34359738368))&&dC ((v.bytes.length:Int)≤1048576))&&dC ((v.hdrs.length:Int)≤100))&&!v.hdrs.any JE)
mutual
def Wb:Val→Bool
 |.mk n i b h p=>okAllL p&&Ji (.mk n i b h p)
def okAllL:List Val→Bool
 | []=>true
 |v::r=>Wb v&&okAllL r
end
theorem Jk(v:Val):Kg v=1+nodesL v.parts:=by cases v;rfl
theorem Kw(v:Val):Yk v=heightL v.parts+1:=by cases v;rfl
theorem ZeF(v:Val):Wb v=(okAllL v.parts&&Ji v):=by cases v;rfl
theorem Zd2{l:List Val}:okAllL l=l.all Wb:=by
 induction l with
 |nil=>rfl
 |cons v r ih=>rw[okAllL,ih,List.all_cons]
theorem ZsI{l:List Val}{i:Nat}(h:i<l.length):nodesL (l.take (i+1))=nodesL (l.take i)+Kg (l.getD i dE):=by
 rw[Z0 h]
 generalize l.getD i dE=x
 induction l.take i with
 |nil=>simp[nodesL]
 |cons y r ih=>simp only[List.cons_append,nodesL,ih];omega
theorem Zro{l:List Val}{i:Nat}(h:i<l.length):heightL (l.take (i+1))=max (heightL (l.take i)) (Yk (l.getD i dE)):=by
 rw[Z0 h]
 generalize l.getD i dE=x
 induction l.take i with
 |nil=>simp[heightL]
 |cons y r ih=>simp only[List.cons_append,heightL,ih];omega
theorem ZsH{l:List Val}(i:Nat):nodesL (l.take i)≤nodesL l:=by
 induction l generalizing i with
 |nil=>simp[nodesL]
 |cons v r ih =>
  cases i with
  |zero=>simp[nodesL]
  |succ i=>simp only[List.take_succ_cons,nodesL];have:=ih i;omega
theorem ZuP{l:List Val}{x:Val}(h:x∈l):Kg x≤nodesL l:=by
 induction l with
 |nil=>simp at h
 |cons v r ih =>
  rcases List.mem_cons.1 h with rfl|h
  ·simp only[nodesL];omega
  have:=ih h;simp only[nodesL];omega
theorem Zab{l:List Val}{x:Val}(h:x∈l):Yk x≤heightL l:=by
 induction l with
 |nil=>simp at h
 |cons v r ih =>
  rcases List.mem_cons.1 h with rfl|h
  ·simp only[heightL];omega
  have:=ih h;simp only[heightL];omega
theorem Zrp(v:Val):Yk v≤Kg v:=by
 induction v using Val.ind with
 |h v ih =>
  rw[Kw,Jk]
  have:∀l:List Val,(∀x∈l,Yk x≤Kg x)→heightL l≤nodesL l:=fun l hl=>by
   induction l with
   |nil=>simp[heightL]
   |cons a r ih2 =>
    have h1:=hl a (by simp)
    have h2:=ih2 fun x hx=>hl x (by simp[hx])
    simp only[heightL,nodesL];omega
  have:=this v.parts ih
  omega
theorem Zjy{v:Val}(h:∀a∈[D.agg v.cells],DWf a):v.parts.length≤big:=by
 have h1:=h (D.agg v.cells) (by simp)
 have h2:=h1.agg_inv (ZO v.parts) (by rw[ZFf];simp)
 exact h2.sl_inv.1
def Zjs(f:Val→Int)(l:List Val):Int:=l.foldl (fun a x=>IntKind.i64.wrap (a+f x)) 1
theorem Zpx{f:Val→Int}{l:List Val}{i:Nat}(h:i<l.length):IntKind.i64.wrap (Zjs f (l.take i)+f (l.getD i dE))=Zjs f (l.take (i+1)):=by
 rw[Z0 h];simp[Zjs]
theorem QI{n:Int}(h:-9223372036854775808≤n∧n≤9223372036854775807):IntKind.i64.wrap n=n :=
 Zae _ _ (by have h1:IntKind.i64.min=-9223372036854775808:=rfl;have h2:IntKind.i64.max=9223372036854775807:=rfl;unfold inR;omega)
theorem Zvi{f:Val→Int}{l:List Val}(hl:nodesL l≤1099511627776)(hf:∀x∈l,f x=Kg x):Zjs f l=1+nodesL l:=by
 have c:∀k,k≤l.length→Zjs f (l.take k)=1+nodesL (l.take k):=by
  intro k
  induction k with
  |zero=>intro _;simp[Zjs,nodesL]
  |succ k ih =>
   intro hk
   have h1:=ZsI (l:=l) (i:=k) (by omega)
   have h2:=ZsH (l:=l) (k+1)
   rw[←Zpx (by omega),ih (by omega),hf _ (Zy (by omega)),QI (by omega),h1]
   omega
 have:=c l.length (ZE6 _)
 rwa [ZFc]at this
theorem ZmV(v:Val)(f:Val→Int)(hf:∀x∈v.parts,Zc ZEQ 45 [.agg x.cells] (.int .i64 (f x))):Zc ZEQ 45 [.agg v.cells] (.int .i64 (Zjs f v.parts)):=by
 refine ZJ (cR 45 f45) fun t F st u=>?_
 have hw:=Zjy t
 unfold big at hw
 clear t
 rw[v.cells_eq]
 refine gG ?_
 refine rg ?_
 refine Zb (fr (v.parts.length) (fun i Q=>i≤v.parts.length→Q [(1,.loc 1 0),(3,.d (.int .i64 (Zjs f (v.parts.take i)))),(4,.d (.int .i64 i))] [(1,[.str v.name,.int .i64 v.int,ZM v.bytes,Z2 v.hdrs,ZO v.parts])] st) (fun n c=>?_) fun z=>?_)
 ·intro i hn hi
  refine rx @Qq ?_
  refine cd (fun h=>?_) (fun h=>?_)
  ·simp at h
   have hr:=Wp h
   have j:=Zpx (f:=f) h
   have y:=hf _ (Zy h)
   rw[ZFf]at y
   generalize v.parts.getD i dE=x at *
   refine rh ?_
   refine Kz ?_
   simp only[Eqs,reduceCtorEq,ZEV,reduceIte,ZET,ZEX,ZEU,Kt,K8,Qq,atV,hr]
   refine aa ?_
   refine JP rfl rfl rfl rfl rfl (by trivial) (by trivial) (by exact y) (Kz ?_)
   simp only[Eqs,reduceCtorEq,ZEV,reduceIte,ZET,ZEX,ZEU,Kt,K8]
   refine ZbP rfl rfl rfl (by trivial) (Kz ?_)
   simp only[Eqs,reduceCtorEq,ZEV,reduceIte,ZET,ZEX,ZEU,Kt,K8]
   rw[j]
   refine gA ?_
   refine Za ?_
   exact c ((v.parts.length)-(i+1)) (by omega) (i+1) rfl (by omega)
  simp at h
  obtain rfl:i=v.parts.length:=by omega
  rw[ZFc]
  refine rg ?_
  refine ri u ?_
  rfl
 exact z _ 0 rfl (by omega)
theorem ZpU(v:Val):∃n,Zc ZEQ 45 [.agg v.cells] (.int .i64 n)∧(Kg v≤1099511627776→n=Kg v):=by
 induction v using Val.ind with
 |h v ih =>
  have hc:∀x:Val,∃n,x∈v.parts→Zc ZEQ 45 [.agg x.cells] (.int .i64 n)∧(Kg x≤1099511627776→n=Kg x):=fun x=>by
   by_cases hx:x∈v.parts
   ·obtain⟨n,hn⟩:=ih x hx
    exact⟨n,fun _=>hn⟩
   exact⟨0,fun h=>absurd h hx⟩
  refine⟨_,ZmV v (fun x=>(hc x).choose) fun x hx=>((hc x).choose_spec hx).1,fun hn=>?_⟩
  rw[Jk]at hn⊢
  rw[Zvi (by omega) fun x hx=>((hc x).choose_spec hx).2 (by have:=ZuP hx;omega)]
  omega
def Ziv(f:Val→Int)(l:List Val):Int:=l.foldl (fun a x=>max a (f x)) 0
theorem Zpe{f:Val→Int}{l:List Val}{i:Nat}(h:i<l.length):max (Ziv f (l.take i)) (f (l.getD i dE))=Ziv f (l.take (i+1)):=by
 rw[Z0 h];simp[Ziv]
theorem ZuJ{f:Val→Int}{l:List Val}(hf:∀x∈l,f x=Yk x):Ziv f l=heightL l:=by
 have c:∀k,k≤l.length→Ziv f (l.take k)=heightL (l.take k):=by
  intro k
  induction k with
  |zero=>intro _;simp[Ziv,heightL]
  |succ k ih =>
   intro hk
   rw[←Zpe (by omega),ih (by omega),hf _ (Zy (by omega)),Zro (by omega)]
   omega
 have:=c l.length (ZE6 _)
 rwa [ZFc]at this
theorem ZmU(v:Val)(f:Val→Int)(hf:∀x∈v.parts,Zc ZEQ 46 [.agg x.cells] (.int .i64 (f x))):Zc ZEQ 46 [.agg v.cells] (.int .i64 (IntKind.i64.wrap (Ziv f v.parts+1))):=by
 refine ZJ (cR 46 f46) fun t F st u=>?_
 have hw:=Zjy t
 unfold big at hw
 clear t
 rw[v.cells_eq]
 refine gG ?_
 refine rg ?_
 refine Zb (fr (v.parts.length) (fun i Q=>i≤v.parts.length→Q [(1,.loc 1 0),(3,.d (.int .i64 (Ziv f (v.parts.take i)))),(4,.d (.int .i64 i))] [(1,[.str v.name,.int .i64 v.int,ZM v.bytes,Z2 v.hdrs,ZO v.parts])] st) (fun n c=>?_) fun z=>?_)
 ·intro i hn hi
  refine rx @Qq ?_
  refine cd (fun h=>?_) (fun h=>?_)
  ·simp at h
   have hr:=Wp h
   have j:=Zpe (f:=f) h
   have y:=hf _ (Zy h)
   rw[ZFf]at y
   generalize v.parts.getD i dE=x at *
   refine xA (nd2 @Qq (nd2 @atV @hr)) ?_
   refine cl (y) ?_
   rw[j]
   refine gA ?_
   refine Za ?_
   exact c ((v.parts.length)-(i+1)) (by omega) (i+1) rfl (by omega)
  simp at h
  obtain rfl:i=v.parts.length:=by omega
  rw[ZFc]
  refine rh ?_
  refine Kz ?_
  simp only[Eqs,reduceCtorEq,ZEV,reduceIte,ZET,ZEX,ZEU,Kt,K8]
  refine ZbP rfl rfl rfl (by trivial) (Kz ?_)
  simp only[Eqs,reduceCtorEq,ZEV,reduceIte,ZET,ZEX,ZEU,Kt,K8]
  refine ri u ?_
  rfl
 exact z _ 0 rfl (by omega)
theorem ZpT(v:Val):∃n,Zc ZEQ 46 [.agg v.cells] (.int .i64 n)∧(Yk v≤1099511627776→n=Yk v):=by
 induction v using Val.ind with
 |h v ih =>
  have hc:∀x:Val,∃n,x∈v.parts→Zc ZEQ 46 [.agg x.cells] (.int .i64 n)∧(Yk x≤1099511627776→n=Yk x):=fun x=>by
   by_cases hx:x∈v.parts
   ·obtain⟨n,hn⟩:=ih x hx
    exact⟨n,fun _=>hn⟩
   exact⟨0,fun h=>absurd h hx⟩
  refine⟨_,ZmU v (fun x=>(hc x).choose) fun x hx=>((hc x).choose_spec hx).1,fun hn=>?_⟩
  rw[Kw]at hn⊢
  rw[ZuJ fun x hx=>((hc x).choose_spec hx).2 (by have:=Zab hx;omega),QI (by omega)]
  omega
theorem ZsQ(v:Val):Zc ZEQ 97 [.agg v.cells] (.bool (Ji v)):=by
 refine ZJ (cR 97 f97) fun z F st c=>?_
 have hw:=(Y3 ((z (.agg v.cells) (by simp)).agg_inv (slD 2 Hdr.cells v.hdrs) (by rw[v.cells_eq];simp[Z2]))).1
 unfold big at hw
 clear z
 have hS:=Ji.eq_1 v
 rw[v.cells_eq]
 refine rg ?_
 refine rx (nd2 @W8 @ZbH) ?_
 refine cX (nd2 @W8 @ZbH) (Zbn _) ?_
 have u:(((((!Yl v.name ||decide (v.int<0)) ||decide ((34359738368:Int)≤v.int)) ||decide ((1048576:Int)<v.bytes.length)) ||decide ((100:Int)<v.hdrs.length)))=!((((Yl v.name&&dC (0≤v.int))&&dC (v.int<34359738368))&&dC ((v.bytes.length:Int)≤1048576))&&dC ((v.hdrs.length:Int)≤100)):=by
  simp only[Bool.not_and]
  rw[show dC (v.int<0)=!dC (0≤v.int) by rw[←decide_not];exact decide_eq_decide.2 (by omega),show dC ((34359738368:Int)≤v.int)=!dC (v.int<34359738368) by rw[←decide_not];exact decide_eq_decide.2 (by omega),show dC ((1048576:Int)<v.bytes.length)=!dC ((v.bytes.length:Int)≤1048576) by rw[←decide_not];exact decide_eq_decide.2 (by omega),show dC ((100:Int)<v.hdrs.length)=!dC ((v.hdrs.length:Int)≤100) by rw[←decide_not];exact decide_eq_decide.2 (by omega)]
 rw[u]
 generalize ((((Yl v.name&&dC (0≤v.int))&&dC (v.int<34359738368))&&dC ((v.bytes.length:Int)≤1048576))&&dC ((v.hdrs.length:Int)≤100))=q at *
 refine cd (fun h1=>?_) (fun h1=>?_)
 ·rw[Bool.not_eq_true']at h1
  rw[h1,ZFh]at hS
  refine rg ?_
  refine rb c ?_
  exact hS.symm
 rw[Bool.not_eq_false']at h1
 rw[h1,ZFe]at hS
 refine rg ?_
 refine Zb (fr (v.hdrs.length) (fun i Q=>i≤v.hdrs.length→(∀j,j<i→JE (v.hdrs.getD j dE)=false)→Q [(1,.loc 1 0),(3,.d (.int .i64 i))] [(1,[.str v.name,.int .i64 v.int,ZM v.bytes,Z2 v.hdrs,ZO v.parts])] st) (fun n t=>?_) fun ac=>?_)
 ·intro i hn hi y
  refine rx @ZbH ?_
  refine cd (fun h2=>?_) (fun h2=>?_)
  ·simp at h2
   have hB:=JE.eq_1 (v.hdrs.getD i dE)
   have ab:=Zy h2
   generalize hg:v.hdrs.getD i dE=g at *
   refine xA (nd2 @atH (nd2 @hg @Hdr.cells.eq_1)) ?_
   refine cd (fun h3=>?_) (fun h3=>?_)
   ·rw[h3]at hB
    rw[show v.hdrs.any JE=true from List.any_eq_true.2 ⟨_,ab,hB⟩]at hS
    refine rg ?_
    refine rb c ?_
    exact hS.symm
   rw[h3]at hB
   refine gA ?_
   refine Za ?_
   exact t ((v.hdrs.length)-(i+1)) (by omega) (i+1) rfl (by omega) (ZX (q:=fun j=>JE (v.hdrs.getD j dE)=false) y (by rw[hg];exact hB))
  simp at h2
  obtain rfl:i=v.hdrs.length:=by omega
  have ha:v.hdrs.any JE=false:=by
   rw[List.any_eq_false]
   intro x hx
   obtain⟨j,hj,rfl⟩:=ZFa hx
   have:=y j hj
   simpa[ZE8,hj]using this
  rw[ha]at hS
  refine rg ?_
  refine rb c ?_
  exact hS.symm
 exact ac _ 0 rfl (by omega) (by intro j hj;omega)
theorem Zr4(v:Val):Zc ZEQ 47 [.agg v.cells] (.bool (Wb v)):=by
 induction v using Val.ind with
 |h v ih =>
 refine ZJ (cR 47 f47) fun z F st t=>?_
 have hw:=Zjy z
 unfold big at hw
 clear z
 have hS:=ZeF v
 rw[Zd2]at hS
 have hN:=ZsQ v
 rw[v.cells_eq]at hN⊢
 refine gG ?_
 refine Zb (fr (v.parts.length) (fun i Q=>i≤v.parts.length→(∀j,j<i→Wb (v.parts.getD j dE)=true)→Q [(1,.loc 1 0),(3,.d (.int .i64 i))] [(1,[.str v.name,.int .i64 v.int,ZM v.bytes,Z2 v.hdrs,ZO v.parts])] st) (fun n c=>?_) fun ac=>?_)
 ·intro i hn hi y
  refine rx @Qq ?_
  refine cd (fun h=>?_) (fun h=>?_)
  ·simp at h
   have hr:=Wp h
   have u:=Zy h
   have ab:=ih _ u
   rw[ZFf]at ab
   generalize hg:v.parts.getD i dE=x at *
   refine xA (nd2 @Qq (nd2 @atV @hr)) ?_
   refine cl (ab) ?_
   refine cd (fun h2=>?_) (fun h2=>?_)
   ·rw[Bool.not_eq_true']at h2
    rw[show v.parts.all Wb=false from List.all_eq_false.2 ⟨_,u,by rw[h2];simp⟩,ZFh]at hS
    refine rg ?_
    refine rb t ?_
    exact hS.symm
   rw[Bool.not_eq_false']at h2
   refine gA ?_
   refine Za ?_
   exact c ((v.parts.length)-(i+1)) (by omega) (i+1) rfl (by omega) (ZX (q:=fun j=>Wb (v.parts.getD j dE)=true) y (by rw[hg];exact h2))
  simp at h
  obtain rfl:i=v.parts.length:=by omega
  rw[ZlZ (p:=Wb) y,ZFe]at hS
  refine rg ?_
  refine cl (hN) ?_
  refine rb t ?_
  exact hS.symm
 exact ac _ 0 rfl (by omega) (by intro j hj;omega)
def K0(v:Val):Bool:=(dC ((Kg v:Int)≤65536)&&dC ((Yk v:Int)≤40))&&Wb v
theorem Zr3(v:Val)(hb:Wb v=true→Kg v≤1099511627776):Zc ZEQ 22 [.agg v.cells] (.bool (K0 v)):=by
 refine Ze (cR 22 f22) fun F st i=>?_
 obtain⟨n,hn,j⟩:=ZpU v
 obtain⟨k,hk,t⟩:=ZpT v
 have ho:=Zr4 v
 have hS:=K0.eq_1 v
 have hh:=Zrp v
 rw[v.cells_eq]at hn hk ho⊢
 refine gG ?_
 refine cl (hn) ?_
 refine cG (hk) ?_
 refine cG (ho) ?_
 refine rb i ?_
 (rw[hS];cases c:Wb v with|false=>rw[Bool.and_false,Bool.and_false]|true=>rw[j (hb c),t (Nat.le_trans hh (hb c))])
def QU:List Hdr→Nat
 | []=>0
 |h::r=>h.name.length+h.text.length+QU r
mutual
def wtN:Val→Nat
 |.mk n _ b h p=>10+n.length+b.length+QU h+wtL p
def wtL:List Val→Nat
 | []=>0
 |v::r=>wtN v+wtL r
end
theorem ZcA(v:Val):wtN v=10+v.name.length+v.bytes.length+QU v.hdrs+wtL v.parts:=by cases v;rfl
theorem Zn3(v:Val):10*Kg v≤wtN v:=by
 induction v using Val.ind with
 |h v ih =>
  rw[ZcA,Jk]
  have:∀l:List Val,(∀x∈l,10*Kg x≤wtN x)→10*nodesL l≤wtL l:=fun l hl=>by
   induction l with
   |nil=>simp[nodesL]
   |cons a r ih2 =>
    have h1:=hl a (by simp)
    have h2:=ih2 fun x hx=>hl x (by simp[hx])
    simp only[nodesL,wtL];omega
  have:=this v.parts ih
  omega
theorem ZoD{l:List Val}{x:Val}(h:x∈l):wtN x≤wtL l:=by
 induction l with
 |nil=>simp at h
 |cons v r ih =>
  rcases List.mem_cons.1 h with rfl|h
  ·simp only[wtL];omega
  have:=ih h;simp only[wtL];omega
def hsW(n:Int)(l:List Hdr):Int:=l.foldl (fun a h=>IntKind.i64.wrap (IntKind.i64.wrap (a+h.name.length)+h.text.length)) n
theorem ZxB{n:Int}{l:List Hdr}{i:Nat}(h:i<l.length):IntKind.i64.wrap (IntKind.i64.wrap (hsW n (l.take i)+(l.getD i dE).name.length)+(l.getD i dE).text.length)=hsW n (l.take (i+1)):=by
 rw[Z0 h];simp[hsW]
def ZcT(f:Val→Int):Int→List Val→Int
 |n,[]=>n
 |n,x::r=>if n≤5000 then ZcT f (IntKind.i64.wrap (n+f x)) r else n
theorem Zpq{f:Val→Int}{n:Int}{l:List Val}{i:Nat}(h:i<l.length):ZcT f n (l.drop i)=if n≤5000 then ZcT f (IntKind.i64.wrap (n+f (l.getD i dE))) (l.drop (i+1)) else n:=by
 rw[Wt h];rfl
def ZoB(f:Val→Int)(v:Val)(depth:Int):Int :=
 if (dC (50<depth) ||decide ((500:Int)<v.parts.length)) ||decide ((50:Int)<v.hdrs.length) then 5001
 else ZcT f (hsW (IntKind.i64.wrap (IntKind.i64.wrap (10+v.name.length)+v.bytes.length)) v.hdrs) v.parts
theorem Zkg(v:Val)(depth:Int)(hd:0≤depth∧depth≤51)(f:Val→Int)(hf:depth≤50→∀x∈v.parts,Zc ZEQ 13 [.agg x.cells,.int .i64 (depth+1)] (.int .i64 (f x))):Zc ZEQ 13 [.agg v.cells,.int .i64 depth] (.int .i64 (ZoB f v depth)):=by
 refine ZJ (cR 13 f13) fun y F st u=>?_
 have hw:=((y (D.agg v.cells) (by simp)).agg_inv (ZO v.parts) (by rw[ZFf];simp)).sl_inv.1
 have af:=(Y3 ((y (.agg v.cells) (by simp)).agg_inv (slD 2 Hdr.cells v.hdrs) (by rw[v.cells_eq];simp[Z2]))).1
 unfold big at hw af
 clear y
 have hS:=ZoB.eq_1 f v depth
 rw[v.cells_eq]
 refine rg ?_
 refine rh ?_
 refine Kz ?_
 simp only[Eqs,reduceCtorEq,ZEV,reduceIte,ZET,ZEX,ZEU,Kt,K8,W8]
 refine ZbP rfl rfl rfl (by trivial) (Kz ?_)
 simp only[Eqs,reduceCtorEq,ZEV,reduceIte,ZET,ZEX,ZEU,Kt,K8,W8]
 refine ZbP rfl rfl rfl (by trivial) (Kz ?_)
 simp only[Eqs,reduceCtorEq,ZEV,reduceIte,ZET,ZEX,ZEU,Kt,K8]
 generalize IntKind.i64.wrap (IntKind.i64.wrap (10+v.name.length)+v.bytes.length)=n1 at *
 refine rx (nd2 @Qq @ZbH) ?_
 refine cd (fun h1=>?_) (fun h1=>?_)
 ·rw[if_pos h1]at hS
  refine rg ?_
  refine ri u ?_
  exact hS.symm
 rw[if_neg (by simp[h1])]at hS
 have ag:depth≤50:=by simp at h1;omega
 refine rg ?_
 refine Zb (fr (v.hdrs.length) (fun i Q=>i≤v.hdrs.length→Q [(1,.d (.int .i64 depth)),(2,.loc 2 0),(5,.d (.int .i64 (hsW n1 (v.hdrs.take i)))),(6,.d (.int .i64 i))] [(2,[.str v.name,.int .i64 v.int,ZM v.bytes,Z2 v.hdrs,ZO v.parts])] st) (fun n t=>?_) fun ae=>?_)
 ·intro i hn hi
  refine rx @ZbH ?_
  refine cd (fun h2=>?_) (fun h2=>?_)
  ·simp at h2
   have j:=ZxB (n:=n1) h2
   generalize hg:v.hdrs.getD i dE=g at *
   generalize hsW n1 (v.hdrs.take i)=a at *
   refine rh ?_
   refine ZbN ?_
   simp only[Eqs,reduceCtorEq,ZEV,reduceIte,ZET,ZEX,ZEU,Kt,K8,atH,hg,Hdr.cells]
   refine aa ?_
   refine ZoE rfl rfl rfl (by trivial) (ZbN ?_)
   simp only[Eqs,reduceCtorEq,ZEV,reduceIte,ZET,ZEX,ZEU,Kt,K8,atH,hg,Hdr.cells]
   refine aa ?_
   refine ZoE rfl rfl rfl (by trivial) (ZbN ?_)
   simp only[Eqs,reduceCtorEq,ZEV,reduceIte,ZET,ZEX,ZEU,Kt,K8]
   rw[j]
   refine gA ?_
   refine Za ?_
   exact t ((v.hdrs.length)-(i+1)) (by omega) (i+1) rfl (by omega)
  simp at h2
  obtain rfl:i=v.hdrs.length:=by omega
  rw[ZFc]
  generalize hsW n1 v.hdrs=n2 at *
  refine rg ?_
  refine Zb (fr (v.parts.length) (fun i Q=>∀n,ZcT f n (v.parts.drop i)=ZcT f n2 v.parts→i≤v.parts.length→Q [(1,.d (.int .i64 depth)),(2,.loc 2 0),(5,.d (.int .i64 n)),(7,.d (.int .i64 i))] [(2,[.str v.name,.int .i64 v.int,ZM v.bytes,Z2 v.hdrs,ZO v.parts])] st) (fun n c=>?_) fun z=>?_)
  ·intro i hn n hr hi
   refine rx @Qq ?_
   refine cd (fun h3=>?_) (fun h3=>?_)
   ·simp only[ZEY,decide_eq_true_eq]at h3
    have h4:i<v.parts.length:=by omega
    have ad:=Wp h4
    have j:=Zpq (f:=f) (n:=n) h4
    rw[if_pos h3.2,hr]at j
    have ac:=hf ag _ (Zy h4)
    rw[ZFf]at ac
    generalize v.parts.getD i dE=x at *
    refine rh ?_
    refine Kz ?_
    simp only[Eqs,reduceCtorEq,ZEV,reduceIte,ZET,ZEX,ZEU,Kt,K8,atV,ad]
    refine aa ?_
    refine ZbP rfl rfl rfl (by trivial) (Kz ?_)
    simp only[Eqs,reduceCtorEq,ZEV,reduceIte,ZET,ZEX,ZEU,Kt,K8]
    rw[QI (n:=depth+1) (by omega)]
    refine JP rfl rfl rfl rfl rfl (by trivial) (by trivial) (by exact ac) (Kz ?_)
    simp only[Eqs,reduceCtorEq,ZEV,reduceIte,ZET,ZEX,ZEU,Kt,K8]
    refine ZbP rfl rfl rfl (by trivial) (Kz ?_)
    simp only[Eqs,reduceCtorEq,ZEV,reduceIte,ZET,ZEX,ZEU,Kt,K8]
    refine gA ?_
    refine Za ?_
    exact c ((v.parts.length)-(i+1)) (by omega) (i+1) rfl _ j.symm (by omega)
   have ab:n=ZcT f n2 v.parts:=by
    rw[←hr]
    rcases Nat.lt_or_eq_of_le hi with h4|h4
    ·rw[Zpq h4,if_neg]
     intro h5
     simp[h4,h5]at h3
    rw[h4,List.drop_length];rfl
   refine rg ?_
   refine ri u ?_
   rw[hS,ab]
  exact z _ 0 rfl n2 rfl (by omega)
 exact ae _ 0 rfl (by omega)
theorem Zo6:∀(l:List Hdr) (n:Int),0≤n→n+QU l≤1000000000000→hsW n l=n+QU l
 | [],n,_,_=>by simp[hsW,QU]
 |h::r,n,h0,h1=>by
  simp only[QU]at h1⊢
  have e:hsW n (h::r)=hsW (IntKind.i64.wrap (IntKind.i64.wrap (n+h.name.length)+h.text.length)) r:=rfl
  rw[e,QI (n:=n+h.name.length) (by omega),QI (by omega),Zo6 r _ (by omega) (by omega)]
  omega
def Zos(f:Val→Int):List Val→Int
 | []=>0
 |x::r=>f x+Zos f r
theorem ZtN{f:Val→Int}{M:Int}(hM:0≤M∧M≤900000000000):∀(l:List Val) (n:Int),0≤n→n≤1000000000000→(∀x∈l,0≤f x∧f x≤M)→n≤ZcT f n l∧ZcT f n l≤max n (5000+M)∧(ZcT f n l≤5000→ZcT f n l=n+Zos f l∧∀x∈l,f x≤5000)
 | [],n,h0,h1,_=>by simp only[ZcT,Zos];exact⟨by omega,by omega,fun _=>⟨by omega,fun x hx=>by simp at hx⟩⟩
 |x::r,n,h0,h1,hf=>by
  have hx:=hf x (by simp)
  simp only[ZcT,Zos]
  by_cases h5:n≤5000
  ·rw[if_pos h5,QI (by omega)]
   obtain⟨a,b,c⟩:=ZtN hM r (n+f x) (by omega) (by omega) fun y hy=>hf y (by simp[hy])
   refine⟨by omega,by omega,fun hr=>?_⟩
   obtain⟨c1,c2⟩:=c hr
   refine⟨by omega,fun y hy=>?_⟩
   rcases List.mem_cons.1 hy with rfl|hy
   ·omega
   exact c2 y hy
  rw[if_neg h5]
  exact⟨by omega,by omega,fun h=>by omega⟩
theorem Zuz{l:List Val}{k:Nat}(h:∀x∈l,Yk x≤k):heightL l≤k:=by
 induction l with
 |nil=>simp[heightL]
 |cons v r ih =>
  have h1:=h v (by simp)
  have h2:=ih fun x hx=>h x (by simp[hx])
  simp only[heightL];omega
theorem ZAr{f:Val→Int}{l:List Val}(h:∀x∈l,f x=wtN x):Zos f l=wtL l:=by
 induction l with
 |nil=>rfl
 |cons v r ih =>
  have h1:=h v (by simp)
  have h2:=ih fun x hx=>h x (by simp[hx])
  simp only[Zos,wtL];omega
theorem ZkH{s:Str}(h:Yl s=true):1≤s.length∧s.length≤32:=by
 cases s with
 |nil=>simp[Yl]at h
 |cons c r =>
  simp only[Yl,ZEY,decide_eq_true_eq]at h
  exact⟨by simp,h.1.1⟩
theorem ZxA{l:List Hdr}(h:l.any JE=false):QU l≤2097152*l.length:=by
 induction l with
 |nil=>simp[QU]
 |cons a r ih =>
  rw[List.any_cons,Bool.or_eq_false_iff]at h
  have h2:=ih h.2
  have h1:=h.1
  unfold JE at h1
  simp only[Bool.or_eq_false_iff,decide_eq_false_iff_not]at h1
  simp only[QU,ZE5];omega
theorem Jj{v:Val}(h:Ji v=true):(1≤v.name.length∧v.name.length≤32)∧(0≤v.int∧v.int<34359738368)∧v.bytes.length≤1048576∧v.hdrs.length≤100∧QU v.hdrs≤2097152*v.hdrs.length∧Yl v.name=true:=by
 unfold Ji at h
 simp only[ZEY,decide_eq_true_eq,Bool.not_eq_true']at h
 obtain⟨⟨⟨⟨⟨h1,h2⟩,h3⟩,h4⟩,h5⟩,h6⟩:=h
 exact⟨ZkH h1,⟨h2,h3⟩,by omega,by omega,ZxA h6,h1⟩
theorem ZmF(v:Val):∀depth:Int,0≤depth→depth≤51→∃n,Zc ZEQ 13 [.agg v.cells,.int .i64 depth] (.int .i64 n)∧(Wb v=true→0≤n∧n≤110000000*(52-depth)+6000∧(n≤5000→n=wtN v∧(Yk v:Int)+depth≤51)):=by
 induction v using Val.ind with
 |h v ih =>
  intro depth h0 t
  have hc:∀x:Val,∃n,depth≤50→x∈v.parts→Zc ZEQ 13 [.agg x.cells,.int .i64 (depth+1)] (.int .i64 n)∧(Wb x=true→0≤n∧n≤110000000*(52-(depth+1))+6000∧(n≤5000→n=wtN x∧(Yk x:Int)+(depth+1)≤51)):=fun x=>by
   by_cases hx:x∈v.parts∧depth≤50
   ·obtain⟨n,hn⟩:=ih x hx.1 (depth+1) (by omega) (by omega)
    exact⟨n,fun _ _=>hn⟩
   exact⟨0,fun h1 h2=>absurd ⟨h2,h1⟩ hx⟩
  refine⟨_,Zkg v depth ⟨h0,t⟩ (fun x=>(hc x).choose) fun j x hx=>((hc x).choose_spec j hx).1,fun i=>?_⟩
  rw[ZeF,ZEY,Zd2,List.all_eq_true]at i
  obtain⟨hn,hi,hb,hh,hw,_⟩:=Jj i.2
  unfold ZoB
  split
  ·exact⟨by omega,by omega,fun h=>by omega⟩
  rename_i h1
  simp only[ZFb,decide_eq_true_eq,not_or]at h1
  rw[QI (n:=10+v.name.length) (by omega),QI (by omega),Zo6 _ _ (by omega) (by omega)]
  have hf:∀x∈v.parts,0≤(hc x).choose∧(hc x).choose≤110000000*(52-(depth+1))+6000:=fun x hx=>by
   have:=((hc x).choose_spec (by omega) hx).2 (i.1 x hx)
   exact⟨this.1,this.2.1⟩
  obtain⟨a,b,c⟩:=ZtN (f:=fun x=>(hc x).choose) (M:=110000000*(52-(depth+1))+6000) ⟨by omega,by omega⟩ v.parts (10+v.name.length+v.bytes.length+QU v.hdrs) (by omega) (by omega) hf
  refine⟨by omega,by omega,fun h5=>?_⟩
  obtain⟨c1,c2⟩:=c h5
  have hx:∀x∈v.parts,(hc x).choose=wtN x∧(Yk x:Int)+(depth+1)≤51:=fun x hx=>(((hc x).choose_spec (by omega) hx).2 (i.1 x hx)).2.2 (c2 x hx)
  refine⟨?_,?_⟩
  ·rw[c1,ZAr fun x h=>(hx x h).1,ZcA];omega
  have:=Zuz (l:=v.parts) (k:=(50-depth).toNat) fun x h=>by have:=(hx x h).2;omega
  rw[Kw];omega
theorem Zgr(d:Dfn)(v:Val)(st:St):Zf ZEQ 5 [.agg d.cells,.agg v.cells] st fun r S=>S=st∧∃b,r=.ret (.bool b)∧(b=true→Wb v=true→wtN v≤5000∧Yk v≤51):=by
 obtain⟨wt,y,t⟩:=ZmF v 0 (by omega) (by omega)
 refine Zbe (cR 5 f5) fun z F hF=>?_
 have hw:=Zgh (s:=d) (z _ (by simp))
 have ag:=hw.nmsgs
 unfold big at ag
 clear z
 rw[v.cells_eq]at y⊢
 refine rx @eQ2 ?_
 refine rx @Zfo ?_
 refine cd (fun h0=>?_) (fun h0=>?_)
 ·refine rg ?_
  exact hF.ret _ _ rfl (by trivial) (ZEW _) (ZES _) ⟨rfl,false,rfl,fun h=>by simp at h⟩
 refine rg ?_
 refine Zb (fr (d.msgs.length) (fun i Q=>i≤d.msgs.length→Q [(2,.loc 2 0),(3,.loc 3 0),(5,.d (.int .i64 i))] [(2,[.str d.name,YR d.msgs,.str d.start]),(3,[.str v.name,.int .i64 v.int,ZM v.bytes,Z2 v.hdrs,ZO v.parts])] st) (fun n j=>?_) fun ac=>?_)
 ·intro i hn hi
  refine rx @Zfo ?_
  refine cd (fun h1=>?_) (fun h1=>?_)
  ·have af:i<d.msgs.length:=by simp at h1;omega
   have ah:=hw.msgs _ (Zy af)
   have ae:=ah.nfields
   unfold big at ae
   generalize hm:d.msgs.getD i dE=m at *
   refine xA (nd2 @atM (nd2 @hm @eQ3)) ?_
   refine rx @Zbc ?_
   refine cd (fun h2=>?_) (fun h2=>?_)
   ·refine rg ?_
    exact hF.ret _ _ rfl (by trivial) (ZEW _) (ZES _) ⟨rfl,false,rfl,fun h=>by simp at h⟩
   refine rg ?_
   refine Zb (fr (m.fields.length) (fun k Q=>k≤m.fields.length→Q [(2,.loc 2 0),(3,.loc 3 0),(5,.d (.int .i64 i)),(6,.loc 6 0),(7,.d (.int .i64 k))] [(2,[.str d.name,YR d.msgs,.str d.start]),(3,[.str v.name,.int .i64 v.int,ZM v.bytes,Z2 v.hdrs,ZO v.parts]),(6,[.str m.name,Zo m.fields])] st) (fun n c=>?_) fun ab=>?_)
   ·intro k t hk
    refine rx @Zbc ?_
    refine cd (fun h3=>?_) (fun h3=>?_)
    ·have u:k<m.fields.length:=by simp at h3;omega
     generalize hf:m.fields.getD k dE=f at *
     refine xA (nd2 @atF (nd2 @hf (nd2 @eQ0 (nd2 @ZqM @Zsm)))) ?_
     refine cd (fun h4=>?_) (fun h4=>?_)
     ·refine rg ?_
      exact hF.ret _ _ rfl (by trivial) (ZEW _) (ZES _) ⟨rfl,false,rfl,fun h=>by simp at h⟩
     refine gA ?_
     refine Za ?_
     exact c ((m.fields.length)-(k+1)) (by omega) (k+1) rfl (by omega)
    have u:k=m.fields.length:=by simp at h3;omega
    subst u
    refine gA ?_
    refine Za ?_
    exact j ((d.msgs.length)-(i+1)) (by omega) (i+1) rfl (by omega)
   exact ab _ 0 rfl (by omega)
  refine rg ?_
  refine cl (y) ?_
  exact hF.ret _ _ rfl (by trivial) (ZEW _) (ZES _) ⟨rfl,dC (wt≤5000),rfl,fun h ad=>by
   have h1:=(t ad).2.2 (of_decide_eq_true h)
   have h2:wt≤5000:=of_decide_eq_true h
   exact⟨by omega,by omega⟩⟩
 exact ac _ 0 rfl (by omega)
theorem Znx(h:Hdr):Zc ZEQ 126 [.agg h.cells] (.bool (JE h)):=by
 refine Ze (cR 126 f126) fun F st c=>?_
 have hB:dC ((1048576:Int)<max (h.name.length:Int) (h.text.length:Int))=JE h:=by
  unfold JE
  rw[←Bool.decide_or]
  exact decide_eq_decide.2 (by omega)
 refine rx @Hdr.cells.eq_1 ?_
 refine rg ?_
 refine rb c ?_
 exact hB
theorem Zoz(l:List Hdr):Zc ZEQ 127 [slD 2 Hdr.cells l,.fn (.func 126) [] []] (.bool (l.any JE)) :=
 fun st=>Jy l _ _ (fun _=>st) fun i _=>(Znx _).VT (first:=[]) (caps:=[]) st
theorem Zp3(v:Val):Zc ZEQ 84 [.agg v.cells] (.bool (Ji v)):=by
 refine Ze (cR 84 f84) fun F st c=>?_
 rw[v.cells_eq]
 refine gG ?_
 refine rx (nd2 @W8 @ZbH) ?_
 refine cX (nd2 @W8 @ZbH) (ZaT _) ?_
 refine cG (Zoz v.hdrs) ?_
 refine rb c ?_
 unfold Ji;rfl
mutual
def Qc:Val→Int→List (Int×Val)
 |.mk n i b hd p,h=>(h,.mk n i b hd p)::preWL p (IntKind.i64.wrap (h+1))
def preWL:List Val→Int→List (Int×Val)
 | [],_=>[]
 |v::r,h=>Qc v h++preWL r h
end
theorem Zgw(v:Val)(h:Int):Qc v h=(h,v)::preWL v.parts (IntKind.i64.wrap (h+1)):=by cases v;rfl
theorem ZmR{l:List Val}{i:Nat}(h:i<l.length)(k:Int):preWL (l.take (i+1)) k=preWL (l.take i) k++Qc (l.getD i dE) k:=by
 rw[Z0 h]
 generalize l.getD i dE=x
 induction l.take i with
 |nil=>simp[preWL]
 |cons y r ih=>simp only[List.cons_append,preWL,ih,ZFt]
theorem ZsJ{l:List Val}{i:Nat}(h:i<l.length)(k:Int):preWL l k=preWL (l.take i) k++(Qc (l.getD i dE) k++preWL (l.drop (i+1)) k):=by
 have c:∀a b:List Val,preWL (a++b) k=preWL a k++preWL b k:=fun a b=>by
  induction a with
  |nil=>rfl
  |cons x r ih=>simp only[List.cons_append,preWL,ih,ZFt]
 conv=>lhs;rw[←List.take_append_drop (i+1) l]
 rw[c,ZmR h,ZFt]
def hvA(L:List (Int×Val))(j:Nat):List D:=[.int .i64 (L.getD j dE).1,.agg (L.getD j dE).2.cells]
def Zc3(v:Val)(h:Int)(za zv:Nat):St:=(ZFj za (.cells [.int .i64 h])).or (ZFj zv (.cells v.cells))
theorem ZyY{v:Val}{h:Int}{za zv:Nat}:(Zc3 v h za zv) za=sO (.cells [.int .i64 h]):=Zq (YC _ _)
theorem ZyZ{v:Val}{h:Int}{za zv:Nat}(hn:zv≠za):(Zc3 v h za zv) zv=sO (.cells v.cells):=by
 unfold Zc3;rw[ZG (Zdx _ hn)];exact YC _ _
theorem ZoS{st:St}{v:Val}{h:Int}{za zv:Nat}(h2:st za=nO)(h3:st zv=nO):Yb st (Zc3 v h za zv):=fun b o hb=>by
 unfold Zc3 at hb
 cases hc:(ZFj za (.cells [.int .i64 h])) b with
 |some x=>exact W1 h2 _ _ hc
 |none=>rw[ZG hc]at hb;exact W1 h3 _ _ hb
theorem ZhO(v:Val)(h:Int)(st:St):Zf ZEQ 83 [.agg v.cells,.int .i64 h] st fun r S=>∃za zv,st za=nO∧st zv=nO∧zv≠za∧r=.ret (.fn (.func 125) [] [.ptr za 0,.ptr zv 0])∧S=st.or (Zc3 v h za zv):=by
 refine Zh (cR 83 f83) fun F hF=>?_
 have hE:∀za zv,Zc3 v h za zv=(ZFj za (.cells [.int .i64 h])).or (ZFj zv (.cells v.cells)):=fun _ _=>rfl
 rw[v.cells_eq]at hE⊢
 refine rg ?_
 refine Zd ?_
 refine xP 3 fun za ha=>?_
 refine xP 2 fun zv hv=>?_
 have c:=Zw hv
 refine rg ?_
 refine hF.ret _ _ rfl (by trivial) (ZEW _) (ZES _) ⟨za,zv,ha,c.2,c.1,rfl,?_⟩
 rw[Qj hv,Qj ha,or_assoc,hE]
theorem Mk.or{T a:St}:∀{qs:List Nat} {S:St},Mk T qs S→Yb a S→Mk (a.or T) qs (a.or S)
 | [],S,hm,_=>by rw[show S=T from hm];rfl
 |q::qs,S,hm,hd=>by
  obtain⟨S',h1,h2,rfl⟩:=hm
  have hq:a q=nO:=hd q _ (ZEZ _ _ _)
  have i:Yb a S':=fun b o hb=>hd b o (by rw[ZE0 _ _ (fun e=>by rw[e,h2]at hb;simp at hb)];exact hb)
  refine⟨a.or S',h1.or i,by rw[ZG hq];exact h2,?_⟩
  funext c
  by_cases hc:c=q
  ·subst hc;rw[ZEZ,ZG hq,ZEZ]
  rw[ZE0 _ _ hc]
  cases ha:a c with
  |some x=>rw[Zq ha,Zq ha]
  |none=>rw[ZG ha,ZG ha,ZE0 _ _ hc]
theorem Mk.unwS{P:Program}{A:St}{m:Option D}{Ψ:Option D→St→Prop}(h:Ψ m A):∀{qs:List Nat} {S:St},Mk A qs S→Unw P (qs.map .mark) m S Ψ
 | [],S,hm=>by rw[show S=A from hm];exact h
 |q::qs,S,hm=>by
  obtain⟨S',h1,h2,rfl⟩:=hm
  refine⟨ZEZ _ _ _,?_⟩
  have e:(S'.upd q .dfr).del q=S':=by
   funext c
   by_cases hc:c=q
   ·subst hc;simp[St.del,h2]
   simp[St.del,ZFr,hc]
  rw[e];exact Mk.unwS h h1
theorem Q6{s t:St}{b:Nat}(h:(s.or t) b=nO):s b=nO∧t b=nO:=by
 cases hs:s b with
 |none=>rw[ZG hs]at h;exact⟨rfl,h⟩
 |some o=>rw[Zq hs]at h;simp at h
theorem ZyX{a s t:St}(h1:Yb a s)(h2:Yb (a.or s) t):Yb a (s.or t):=fun b o hb=>by
 cases hs:s b with
 |some x=>exact h1 b x hs
 |none =>
  rw[ZG hs]at hb
  exact(Q6 (h2 b o hb)).1
theorem Zgu{s t:St}{b:Nat}{o:Ya}(h:s b=nO):(s.or t).upd b o=s.or (t.upd b o):=by
 funext c
 by_cases hc:c=b
 ·subst hc;rw[ZEZ,ZG h,ZEZ]
 rw[ZE0 _ _ hc]
 cases hs:s c with
 |some x=>rw[Zq hs,Zq hs]
 |none=>rw[ZG hs,ZG hs,ZE0 _ _ hc]
theorem Zfg{s t:St}{b:Nat}{o:Ya}(hd:Yb s t)(h:s b=nO):Yb s (t.upd b o):=fun c x hc=>by
 by_cases i:c=b
 ·subst i;exact h
 rw[ZE0 _ _ i]at hc;exact hd c x hc
theorem Zq7{s a t u:St}(h1:Yb s (t.or u))(h2:Yb (a.or t) u):Yb s t∧Yb (s.or t) u:=by
 refine⟨fun b o hb=>h1 b o (Zq hb),fun b o hb=>?_⟩
 have h3:=(Q6 (h2 b o hb)).2
 have h4:=h1 b o (by rw[ZG h3];exact hb)
 rw[ZG h4];exact h3
def goE(go:Nat→Oc)(k j:Nat):Oc:=match go (k+j) with
 |.next=>.next
 |.stop _=>.stop (.exit 0)
 |.pan d=>.pan d
theorem Zxx{go:Nat→Oc}{k j:Nat}(h:goE go k j=.next):go (k+j)=.next:=by
 unfold goE at h
 split at h<;>first|assumption|simp at h
theorem ZjZ{go:Nat→Oc}{k n:Nat}(h1:∀j,j<k→go j=.next)(h2:∀j,j<n→goE go k j=.next):∀j,j<k+n→go j=.next:=fun j hj=>by
 by_cases h:j<k
 ·exact h1 j h
 have:=Zxx (h2 (j-k) (by omega))
 rwa [show k+(j-k)=j by omega]at this
theorem Zxu{α:Type}[Inhabited α]{a b c:List α}{k j:Nat}(hk:k=a.length)(hj:j<b.length):(a++(b++c)).getD (k+j) dE=b.getD j dE:=by
 subst hk
 simp[ZE8,ZFz,ZFp hj]
theorem Znw(v:Val):∀(h:Int) (za zv:Nat),zv≠za→ZhY ZEQ (.fn (.func 125) [] [.ptr za 0,.ptr zv 0]) (Qc v h).length (hvA (Qc v h)) (Zc3 v h za zv):=by
 induction v using Val.ind with
 |h v ih =>
 intro h za zv ba l go A a0 aj hA hd
 have hL:=Zgw v h
 obtain⟨h1,a7⟩:∃h1,h1=IntKind.i64.wrap (h+1):=⟨_,rfl⟩
 rw[←a7]at hL
 generalize Qc v h=LL at *
 have ak:0<LL.length:=by rw[hL];simp
 have bc:hvA LL 0=[.int .i64 h,.agg [.str v.name,.int .i64 v.int,ZM v.bytes,Z2 v.hdrs,ZO v.parts]]:=by unfold hvA;rw[hL,←ZFf];rfl
 refine Zf.V (first:=[]) (args:=[.fn (.yield l) [] []]) (caps:=[.ptr za 0,.ptr zv 0]) (Zh (cR 125 f125) fun F hF=>?_)
 have ga:=ZyY (v:=v) (h:=h) (za:=za) (zv:=zv)
 have gv:=ZyZ (v:=v) (h:=h) ba
 rw[ZFf]at gv
 generalize Zc3 v h za zv=T at *
 refine rg ?_
 refine Yr (Zd (Zd ?_))
 refine xP 3 fun z3 h3=>?_
 obtain⟨ar,ao⟩:=Q6 h3
 have a4:((a0.or T).upd z3 (.cells [.fn (.yield l) [] []]))=a0.or (T.upd z3 (.cells [.fn (.yield l) [] []])):=Zgu ar
 rw[a4]
 clear a4
 have ai:=Zfg (o:=.cells [.fn (.yield l) [] []]) hd ar
 have g3:(T.upd z3 (.cells [.fn (.yield l) [] []])) z3=sO (.cells [.fn (.yield l) [] []]):=ZEZ _ _ _
 have az:(T.upd z3 (.cells [.fn (.yield l) [] []])) za=sO (.cells [.int .i64 h]):=by rw[ZE0 _ _ (fun e=>by rw[←e,ga]at ao;simp at ao)];exact ga
 have aw:(T.upd z3 (.cells [.fn (.yield l) [] []])) zv=sO (.cells [.str v.name,.int .i64 v.int,ZM v.bytes,Z2 v.hdrs,ZO v.parts]):=by rw[ZE0 _ _ (fun e=>by rw[←e,gv]at ao;simp at ao)];exact gv
 clear h3 ar ao ga gv hd
 generalize (T.upd z3 (.cells [.fn (.yield l) [] []]))=T3 at *
 have rd:∀{a Tq:St} {b:Nat} {o:Ya},Yb a Tq→Tq b=sO o→(a.or Tq) b=sO o:=fun ap hb=>by rw[ZG (ap _ _ hb)];exact hb
 have u:=(aj 0 ak (fun i hi=>absurd hi (Nat.not_lt_zero _)) a0 hA).frame ai
 rw[bc]at u
 refine rh ?_
 refine Zm ?_
 simp only[Eqs,reduceCtorEq,ZEV,reduceIte,ZET,ZEX,ZEU,rd ai g3,rd ai az,rd ai aw]
 refine vV (u) ?_ ?_
 ·rintro d S ⟨s',⟨hr,z⟩,ac,rfl⟩
  cases t:go 0 with
  |next =>
   rw[t]at hr
   cases hr
   refine gR0 ?_
   refine i0 ?_
   refine rh ?_
   refine Zm ?_
   simp only[Eqs,reduceCtorEq,ZEV,reduceIte,ZET,ZEX,ZEU,rd ac aw,Qq]
   refine Zyy 14 rfl fun a6=>?_
   have hw:=ZhC a6
   unfold big at hw
   clear a6 u ai hA
   refine Zb ?_
   refine lpU (fun Q=>∀(n i:Nat),(v.parts.length)-i=n→∀(F:Fr ZEQ) (qs:List Nat) (Tq a:St),YQ F [] (fun r S=>∃a,Zf7 LL.length go A a r∧a.sub S) (qs.map .mark)→Mk T3 qs Tq→Yb a Tq→A (1+(preWL (v.parts.take i) h1).length) a→(∀j,j<1+(preWL (v.parts.take i) h1).length→go j=.next)→i≤v.parts.length→Q F [(1,.d (.ptr za 0)),(3,.d (.ptr z3 0)),(14,.d (ZO v.parts)),(15,.d (.int .i64 v.parts.length)),(16,.d (.int .i64 i))] [] (a.or Tq)) ?_ fun a9=>?_
   ·intro n
    induction n using Nat.strongRecOn with
    |ind n ih_key =>
    clear ac z t hF s'
    intro i hn F qs Tq a hF ah ap hA af hi
    refine rg ?_
    refine Zd (Zs rfl trivial (fun hc=>?_) (fun hc=>?_))
    ·simp at hc
     have bb:=Wp hc
     have a3:=Zy hc
     have hT:=ZmR hc h1
     have hS:=ZsJ hc h1
     have be:=ih _ a3
     generalize hk:1+(preWL (v.parts.take i) h1).length=k at *
     generalize hx:v.parts.getD i dE=x at *
     refine xA (nd2 @atV @bb) ?_
     refine rh ?_
     refine Kz ?_
     simp only[Eqs,reduceCtorEq,ZEV,reduceIte,ZET,ZEX,ZEU,Kt,K8,rd ap (ah.get az)]
     refine ZbP rfl rfl rfl (by trivial) (Kz ?_)
     simp only[Eqs,reduceCtorEq,ZEV,reduceIte,ZET,ZEX,ZEU,Kt,K8]
     rw[←a7]
     have a8:=ZhO x h1 (a.or Tq)
     rw[ZFf]at a8
     refine cV (a8) ?_ ?_
     ·rintro dd S ⟨zx,zy,n1,n2,ne,hr,rfl⟩
      cases hr
      refine gR0 ?_
      refine Zb ?_
      refine KK hF rfl trivial [1,3,14,15,16] (by show([1,3,14,15,16]:List Nat).Nodup;decide) (ZoS n1 n2) (be h1 zx zy ne) (fun j hj=>rfl) (goE go k) (fun j s=>∃a,s=a.or Tq∧A (k+j) a∧Yb a Tq) ⟨a,rfl,hA,ap⟩ ?_ ?_ ?_ ?_ ?_ ?_
      ·rintro j _ hj y ⟨a1,rfl,ad,ab⟩ F' ready busy hdr a5 am
       have ax:LL.getD (k+j) dE=(Qc x h1).getD j dE:=by
        rw[hL,hS,←hk,←List.cons_append]
        exact Zxu (by simp;omega) hj
       have al:k+j<LL.length:=by
        rw[hL,hS]
        simp only[ZE5,ZE1]
        omega
       have u:=aj (k+j) al (fun i hi=>ZjZ af y i hi) a1 ad
       unfold hvA at u
       rw[ax]at u
       simp only[Eqs,reduceCtorEq,ZEV,reduceIte,ZET,ZEX,ZEU,WP,Kb,Jh,Ko,List.isEmpty_nil,List.isEmpty_cons,hvA]
       generalize (Qc x h1).getD j dE=g at *
       obtain⟨gh,gx⟩:=g
       simp only[ZFf]at u⊢
       refine gG ?_
       refine a5 fun au=>?_
       have ag:=u.frame (ZyX ab au)
       rw[←or_assoc]at ag
       refine rh ?_
       refine Zm ?_
       simp only[Eqs,reduceCtorEq,ZEV,reduceIte,ZET,ZEX,ZEU,Zq (rd ab (ah.get g3))]
       refine vV (ag) ?_ ?_
       ·rintro d S ⟨s',⟨hr,z⟩,ac,rfl⟩
        have ae:=Zq7 ac au
        rw[←or_assoc]
        cases t:go (k+j) with
        |next =>
         rw[t]at hr
         cases hr
         refine gR0 ?_
         refine i0 ?_
         refine Zv (Zj ?_)
         exact am.fin ⟨by unfold goE;rw[t],s',rfl,z,ae.1⟩ ae.2 (ZES _)
        |stop c =>
         rw[t]at hr
         cases hr
         refine gR0 ?_
         refine i1 ?_
         exact am.exit rfl ⟨by unfold goE;rw[t],s',rfl,z,ae.1⟩ ae.2 (ZES _)
        |pan d=>rw[t]at hr;cases hr
       rintro d S ⟨s',⟨hr,z⟩,ac,rfl⟩
       have ae:=Zq7 ac au
       cases t:go (k+j) with
       |pan d' =>
        rw[t]at hr
        cases hr
        rw[←or_assoc]
        exact am.pan ⟨by unfold goE;rw[t],s',rfl,z,ae.1⟩ ae.2 (ZES _)
       |next=>rw[t]at hr;cases hr
       |stop c=>rw[t]at hr;cases hr
      ·rintro q _ y ⟨a1,rfl,ad,ab⟩ hq
       obtain⟨q1,q2⟩:=Q6 hq
       rw[Zgu q1]
       have aq:1+(preWL (v.parts.take (i+1)) h1).length=k+(Qc x h1).length:=by rw[hT,ZE1];omega
       refine gA ?_
       refine Za ?_
       exact ih_key (v.parts.length-(i+1)) (by omega) (i+1) rfl (F.mark q) (q::qs) (Tq.upd q .dfr) a1 (hF.mark q) ⟨Tq,ah,q2,rfl⟩ (Zfg ab q1) (by rw[aq];exact ad) (by rw[aq];exact ZjZ af y) (by omega)
      ·rintro q _ m hm y t
       unfold goE at t
       split at t<;>simp at t
      ·rintro q _ m id hm y t ⟨a1,rfl,ad,ab⟩ hq
       obtain⟨q1,q2⟩:=Q6 hq
       rw[Zgu q1]
       have al:k+m<LL.length:=by
        rw[hL,hS]
        simp only[ZE5,ZE1]
        omega
       unfold goE at t
       split at t
       ·simp at t
       ·rename_i c av
        simp only[Oc.stop.injEq,Code.exit.injEq]at t
        subst t
        refine ZP rfl ?_
        refine Z7 ?_
        exact(hF.mark q).finU (Mk.unwS (m:=nO) (qs:=q::qs) (A:=a1.or T3) ⟨_,_,.tup [],_,rfl,trivial,ZEW _,ZES _,a1,.stop (k+m) c al (ZjZ af y) av ad,Ky _ _⟩ (Mk.or (qs:=q::qs) (S:=Tq.upd q .dfr) ⟨Tq,ah,q2,rfl⟩ (Zfg ab q1)))
       simp at t
      ·rintro q _ m d hm y t ⟨a1,rfl,ad,ab⟩ hq
       obtain⟨q1,q2⟩:=Q6 hq
       rw[Zgu q1]
       have al:k+m<LL.length:=by
        rw[hL,hS]
        simp only[ZE5,ZE1]
        omega
       unfold goE at t
       split at t
       ·simp at t
       ·simp at t
       rename_i d' av
       simp only[Oc.pan.injEq]at t
       subst t
       exact(hF.mark q).panU (Mk.unwS (m:=sO _) (qs:=q::qs) (A:=a1.or T3) ⟨_,_,ZEW _,ZES _,a1,.pan (k+m) _ al (ZjZ af y) av ad,Ky _ _⟩ (Mk.or (qs:=q::qs) (S:=Tq.upd q .dfr) ⟨Tq,ah,q2,rfl⟩ (Zfg ab q1)))
      intro m c t
      unfold goE at t
      split at t<;>simp at t
      exact .inr ⟨0,t.symm⟩
     rintro dd S ⟨zx,zy,n1,n2,ne,hr,_⟩
     cases hr
    simp at hc
    obtain rfl:i=v.parts.length:=by omega
    rw[ZFc]at hA af
    have ay:LL.length=1+(preWL v.parts h1).length:=by rw[hL,ZE5];omega
    rw[←ay]at hA af
    refine ZP rfl (Z7 ?_)
    exact hF.finU (Mk.unwS (m:=nO) (A:=a.or T3) ⟨_,_,.tup [],_,rfl,trivial,ZEW _,ZES _,a,.all af hA,Ky _ _⟩ (Mk.or ah ap))
   exact a9 _ 0 rfl F [] T3 s' hF rfl ac (by simpa[preWL]using z) (fun j hj=>by
    obtain rfl:j=0:=by simp[preWL]at hj;omega
    exact t) (by omega)
  |stop c =>
   rw[t]at hr
   cases hr
   refine gR0 ?_
   refine i1 ?_
   exact hF.ret (.tup []) _ rfl trivial (ZEW _) (ZES _) ⟨s',.stop 0 c ak (fun i hi=>absurd hi (Nat.not_lt_zero _)) t z,Ky _ _⟩
  |pan d=>rw[t]at hr;cases hr
 rintro d S ⟨s',⟨hr,z⟩,ac,rfl⟩
 cases t:go 0 with
 |pan d' =>
  rw[t]at hr
  cases hr
  exact hF.pan _ (ZES _) ⟨s',.pan 0 d ak (fun i hi=>absurd hi (Nat.not_lt_zero _)) t z,Ky _ _⟩
 |next=>rw[t]at hr;cases hr
 |stop c=>rw[t]at hr;cases hr
theorem Zfq{l:List Val}{h:Int}{p:Int×Val}:p∈preWL l h↔∃x∈l,p∈Qc x h:=by
 induction l with
 |nil=>simp[preWL]
 |cons v r ih=>simp only[preWL,List.mem_append,ih,ZFv,exists_eq_or_imp]
theorem ZrQ(v:Val):∀h,(Qc v h).length=Kg v:=by
 induction v using Val.ind with
 |h v ih =>
  intro h
  rw[Zgw,Jk,ZE5]
  have:∀(l:List Val) (k:Int),(∀x∈l,∀k,(Qc x k).length=Kg x)→(preWL l k).length=nodesL l:=fun l k hl=>by
   induction l with
   |nil=>simp[preWL,nodesL]
   |cons a r ih2=>rw[preWL,ZE1,hl a (by simp),ih2 fun x hx=>hl x (by simp[hx]),nodesL]
  rw[this v.parts _ ih];omega
theorem ZtE(v:Val):∀h,Wb v=true↔∀p∈Qc v h,Ji p.2=true:=by
 induction v using Val.ind with
 |h v ih =>
  intro h
  rw[Zgw,ZeF,ZEY,Zd2,List.all_eq_true]
  constructor
  ·rintro⟨h1,h2⟩ p hp
   rcases List.mem_cons.1 hp with rfl|hp
   ·exact h2
   obtain⟨x,hx,hp⟩:=Zfq.1 hp
   exact(ih x hx _).1 (h1 x hx) p hp
  intro c
  refine⟨fun x hx=>(ih x hx _).2 fun p hp=>c p (List.mem_cons_of_mem _ (Zfq.2 ⟨x,hx,hp⟩)),c (h,v) (by simp)⟩
theorem Zx0(v:Val):∀h:Int,0≤h→h+Yk v≤4611686018427387904→∀p∈Qc v h,p.1<h+Yk v:=by
 induction v using Val.ind with
 |h v ih =>
  intro h h0 hb p hp
  rw[Zgw]at hp
  rw[Kw]at hb⊢
  rcases List.mem_cons.1 hp with rfl|hp
  ·show h<_;omega
  obtain⟨x,hx,hp⟩:=Zfq.1 hp
  have h1:=Zab hx
  rw[QI (by omega)]at hp
  have:=ih x hx (h+1) (by omega) (by omega) p hp
  omega
theorem Zuy{l:List Val}{k:Nat}(h:k<heightL l):∃x∈l,k<Yk x:=by
 induction l with
 |nil=>simp[heightL]at h
 |cons v r ih =>
  simp only[heightL]at h
  by_cases h1:k<Yk v
  ·exact⟨v,by simp,h1⟩
  obtain⟨x,hx,hk⟩:=ih (by omega)
  exact⟨x,by simp[hx],hk⟩
theorem ZuT(v:Val):∀(k:Nat) (h:Int),0≤h→h+k≤4611686018427387904→k<Yk v→∃p∈Qc v h,p.1=h+k:=by
 induction v using Val.ind with
 |h v ih =>
  intro k h h0 hb hk
  rw[Zgw]
  cases k with
  |zero=>exact⟨(h,v),by simp,by simp⟩
  |succ k =>
   rw[Kw]at hk
   obtain⟨x,hx,c⟩:=Zuy (show k<heightL v.parts by omega)
   rw[QI (by omega)]
   obtain⟨p,hp,he⟩:=ih x hx k (h+1) (by omega) (by omega) c
   exact⟨p,List.mem_cons_of_mem _ (Zfq.2 ⟨x,hx,hp⟩),by rw[he];omega⟩
def ZfG(L:List (Int×Val))(j:Nat):Bool:=(dC ((65536:Int)<(j:Int)+1) ||decide ((40:Int)<(L.getD j dE).1))||!Ji (L.getD j dE).2
theorem ZwZ{v:Val}(h:∀j,j<(Qc v 1).length→ZfG (Qc v 1) j=false):K0 v=true:=by
 have hl:=ZrQ v 1
 have hp:∀p∈Qc v 1,p.1≤40∧Ji p.2=true:=fun p hp=>by
  obtain⟨j,hj,rfl⟩:=ZFa hp
  have:=h j hj
  unfold ZfG at this
  simp only[Bool.or_eq_false_iff,decide_eq_false_iff_not,Bool.not_eq_false',List.getD_eq_getElem?_getD,ZFq hj,ZFs]at this
  exact⟨by omega,this.2⟩
 have h0:0<Kg v:=by rw[Jk];omega
 have h1:=h ((Qc v 1).length-1) (by omega)
 unfold ZfG at h1
 simp only[Bool.or_eq_false_iff,decide_eq_false_iff_not]at h1
 unfold K0
 rw[(ZtE v 1).2 fun p c=>(hp p c).2,Bool.and_true,ZEY,decide_eq_true_eq,decide_eq_true_eq]
 refine⟨by omega,?_⟩
 by_cases hh:Yk v≤40
 ·omega
 obtain⟨p,c,he⟩:=ZuT v 40 1 (by omega) (by omega) (by omega)
 have:=(hp p c).1
 omega
theorem ZwY{v:Val}{j:Nat}(hj:j<(Qc v 1).length)(h:ZfG (Qc v 1) j=true):K0 v=false:=by
 cases hv:K0 v with
 |false=>rfl
 |true =>
  exfalso
  unfold K0 at hv
  simp only[ZEY,decide_eq_true_eq]at hv
  obtain⟨⟨h1,h2⟩,h3⟩:=hv
  have hl:=ZrQ v 1
  have hm:(Qc v 1).getD j dE∈Qc v 1:=Zy hj
  have h4:=Zx0 v 1 (by omega) (by omega) _ hm
  have h5:=(ZtE v 1).1 h3 _ hm
  unfold ZfG at h
  rw[h5]at h
  simp only[Bool.not_true,Bool.or_false,ZFb,decide_eq_true_eq]at h
  omega
theorem Zoy(v:Val):Zc ZEQ 38 [.agg v.cells] (.bool (K0 v)):=by
 refine fun st=>Zh (cR 38 f38) fun F hF=>?_
 have ae:=ZhO v 1 st
 have ap:=Znw v 1
 have z:=ZwZ (v:=v)
 have ac:=fun j=>ZwY (v:=v) (j:=j)
 rw[ZFf]at ae⊢
 generalize Qc v 1=L at *
 refine gG ?_
 refine rg ?_
 refine cV (ae) ?_ ?_
 ·rintro dd S ⟨za,zv,n1,n2,ne,hr,rfl⟩
  cases hr
  refine gR0 ?_
  refine Zb ?_
  refine xP 2 fun z2 h2=>?_
  obtain⟨ak,ah⟩:=Q6 h2
  rw[W5]
  refine xP 3 fun z3 h3=>?_
  obtain⟨ao,am⟩:=Q6 h3
  rw[W5]
  have k3:=Zw ao
  have g2:∀c,((st.upd z2 (.cells [.bool false])).upd z3 c) z2=sO (.cells [.bool false]):=fun c=>by rw[ZE0 _ _ (Ne.symm k3.1)];exact ZEZ _ _ _
  have g3:∀c,((st.upd z2 (.cells [.bool false])).upd z3 c) z3=sO c:=fun c=>ZEZ _ _ _
  have u:∀c o,st.sub (((st.upd z2 (.cells [.bool false])).upd z3 c).upd z2 o):=fun c o b x hb=>by
   have e2:b≠z2:=fun e=>by rw[e,ak]at hb;simp at hb
   have e3:b≠z3:=fun e=>by rw[e,k3.2]at hb;simp at hb
   rw[ZE0 _ _ e2,ZE0 _ _ e3,ZE0 _ _ e2];exact hb
  have ai:∀c,Yb ((st.upd z2 (.cells [.bool false])).upd z3 c) (Zc3 v 1 za zv):=fun c b o hb=>by
   have e2:b≠z2:=fun e=>by rw[e,ah]at hb;simp at hb
   have e3:b≠z3:=fun e=>by rw[e,am]at hb;simp at hb
   rw[ZE0 _ _ e3,ZE0 _ _ e2]
   exact ZoS n1 n2 b o hb
  refine KK hF rfl trivial [2,3] (by show([2,3]:List Nat).Nodup;decide) (ai _) (ap za zv ne) (fun j hj=>rfl) (fun j=>if ZfG L j then .stop .ret else .next) (fun j a=>a=(st.upd z2 (.cells [.bool false])).upd z3 (.cells [.int .i64 j])) rfl ?_ ?_ ?_ ?_ ?_ ?_
  ·intro j a hj t hB F' ready af hdr ab n
   subst hB
   have hj2:j≤65536:=by
    refine Nat.le_of_not_lt fun ag=>?_
    have:=t 65536 ag
    rw[if_pos (by unfold ZfG;simp)]at this
    simp at this
   have hN:=Zp3 (L.getD j dE).2
   have ad:=ZfG.eq_1 L j
   simp only[Eqs,reduceCtorEq,ZEV,reduceIte,ZET,ZEX,ZEU,WP,Kb,Jh,Ko,List.isEmpty_nil,List.isEmpty_cons,hvA]
   generalize L.getD j dE=g at *
   obtain⟨gh,gx⟩:=g
   simp only[ZFf]at hN ad⊢
   refine gG ?_
   refine ab fun al=>?_
   have y:Yb ((st.upd z2 (.cells [.bool false])).upd z3 (.cells [.int .i64 ((j+1:Nat):Int)])) af:=fun b o hb=>by
    have h1:=Zw (al b o hb)
    rw[ZE0 _ _ h1.1];exact h1.2
   refine rh ?_
   refine Zm ?_
   simp only[Eqs,reduceCtorEq,ZEV,reduceIte,ZET,ZEX,ZEU,Zq (g3 _),W5]
   refine aa ?_
   rw[ZFd,show(j:Int)+1=((j+1:Nat):Int) by omega]
   refine rh ?_
   refine Zm ?_
   simp only[Eqs,reduceCtorEq,ZEV,reduceIte,ZET,ZEX,ZEU,Zq (g3 _)]
   refine cG (hN) ?_
   rw[show((j+1:Nat):Int)=(j:Int)+1 by omega,←ad]
   cases hb:ZfG L j with
   |true =>
    rw[hb]at n
    refine i1 ?_
    refine rh ?_
    refine Zm ?_
    simp only[Eqs,reduceCtorEq,ZEV,reduceIte,ZET,ZEX,ZEU,Zq (g2 _),W5]
    rw[show(j:Int)+1=((j+1:Nat):Int) by omega,St.upd_self (g2 _)]
    exact n.ret ⟨rfl,rfl⟩ y (ZES _)
   |false =>
    rw[hb]at n
    refine i0 ?_
    refine Zv (Zj ?_)
    rw[show(j:Int)+1=((j+1:Nat):Int) by omega]
    exact n.fin ⟨rfl,rfl⟩ y (ZES _)
  ·intro q a t hB hq
   subst hB
   have hv:K0 v=true:=z fun j hj=>by
    have:=t j hj
    split at this
    ·simp at this
    rename_i h;simpa using h
   rw[Qj hq]
   have aj:(((st.upd z2 (.cells [.bool false])).upd z3 (.cells [.int .i64 L.length])).upd z2 (.cells [.bool true])) q=nO:=by rw[ZE0 _ _ (fun e=>by rw[e,g2]at hq;simp at hq)];exact hq
   have gg:(((st.upd z2 (.cells [.bool false])).upd z3 (.cells [.int .i64 L.length])).upd z2 (.cells [.bool true])) z2=sO (.cells [.bool true]):=ZEZ _ _ _
   refine rh ?_
   refine Zm ?_
   simp only[Eqs,reduceCtorEq,ZEV,reduceIte,ZET,ZEX,ZEU,Zq (g2 _),W5]
   exact hF.ret1 aj (.bool true) st (by simp only[Eqs,reduceCtorEq,ZEV,reduceIte,ZET,ZEX,ZEU,YI,Kp,gg];rfl) (by trivial) (ZEW _) (u _ _) ⟨by rw[hv],rfl⟩
  ·intro q a m hm t i hB hq
   subst hB
   have hb:ZfG L m=true:=by
    split at i
    ·assumption
    simp at i
   rw[Qj hq]
   have hs:st.sub ((st.upd z2 (.cells [.bool false])).upd z3 (.cells [.int .i64 ((m+1:Nat):Int)])):=by
    have:=u (.cells [.int .i64 ((m+1:Nat):Int)]) (.cells [.bool false])
    rwa [St.upd_self (g2 _)]at this
   exact hF.ret1 hq (.bool false) st (by simp only[Eqs,reduceCtorEq,ZEV,reduceIte,ZET,ZEX,ZEU,YI,Kp,g2];rfl) (by trivial) (ZEW _) hs ⟨by rw[ac m hm hb],rfl⟩
  ·intro q a m id hm t i
   split at i<;>simp at i
  ·intro q a m d hm t i
   split at i<;>simp at i
  intro m c i
  split at i<;>simp at i
  exact .inl i.symm
 rintro dd S ⟨za,zv,n1,n2,ne,hr,_⟩
 cases hr
theorem Zsl{E:List Str}{i:Nat}(h:i<E.length):(E.map D.str)[i]?=sO (.str (E.getD i [])):=by simp[ZE8,h]
theorem Zyj{E:List Str}{i:Nat}{s:Str}(h:i<E.length):List.take (i*1) (E.map D.str)++[.str s]++List.drop (i*1+1) (E.map D.str)=(E.set i s).map D.str:=by
 rw[Nat.mul_one,List.map_set,List.set_eq_take_append_cons_drop,if_pos (by simpa using h)]
 simp
theorem Zvq(n:Nat):KC [.str []] n=(List.replicate n []).map D.str:=by
 induction n with
 |zero=>rfl
 |succ n ih=>simp_all[KC,List.replicate_succ]
theorem ZgF{b c:Nat}{l:List Str}{S:St}(hb:S b=sO (.cells (l.map .str)))(hl:l.length≤1000000)(f:D)(p:Str→Bool)(hf:∀x,VT ZEQ f [.str x] S (.bool (p x)) S):
  ZS ZEQ 229 [.msl b 0 l.length c 1,f] S (.int .i64 (Zk p l)) S:=by
 refine ZK (cR 229 f229) fun hwf F t=>?_
 refine gG ?_
 refine Zb (fr (l.length) (fun i Q=>i≤l.length→(∀j,j<i→p (l.getD j dE)=false)→Q [(0,.d (.msl b 0 l.length c 1)),(1,.d f),(7,.d (.int .i64 l.length)),(8,.d (.int .i64 i))] [] S) (fun n u=>?_) fun z=>?_)
 ·intro i hn hi v
  refine rg ?_
  refine Zd (Zs rfl trivial (fun h1=>?_) (fun h1=>?_))
  ·simp at h1
   have hg:=Zsl h1
   have ab:(l.map D.str)[i*1]?=sO (.str (l.getD i [])):=by rw[Nat.mul_one];exact hg
   refine rg ?_
   refine xA (nd2 @hb (nd2 @hg @ab)) ?_
   refine cW (hf _) ?_
   refine cd (fun h2=>?_) (fun h2=>?_)
   ·have e1:=Ke h1 h2 v
    rw[e1]at t
    refine rg ?_
    exact t rfl (by trivial) (ZEW _) (ZES _)
   refine gA ?_
   refine Za ?_
   exact u ((l.length)-(i+1)) (by omega) (i+1) rfl (by omega) (ZX (q:=fun j=>p (l.getD j dE)=false) v h2)
  simp at h1
  obtain rfl:i=l.length:=by omega
  have y:∀x∈l,p x=false:=fun x hx=>by
   obtain⟨j,hj,rfl⟩:=ZFa hx
   have:=v j hj
   simpa[ZE8,hj]using this
  rw[WM y]at t
  refine rg ?_
  exact t rfl (by trivial) (ZEW _) (ZES _)
 exact z _ 0 rfl (by omega) (by intro j hj;omega)
def Je(p:Str→Bool)(l:List Str):List Str:=l.filter fun x=>!p x
theorem Zv7(p:Str→Bool)(l:List Str):(Je p l).length≤l.length:=List.length_filter_le ..
theorem Zhc{p:Str→Bool}{l:List Str}{j:Nat}(h:j<l.length):Je p (l.take (j+1))=Je p (l.take j)++if p (l.getD j []) then [] else [l.getD j []]:=by
 rw[show l.getD j []=l.getD j dE from rfl,Z0 h];unfold Je;rw[List.filter_append];congr 1
 simp only[List.filter_cons,List.filter_nil];cases p (l.getD j dE)<;>rfl
theorem ZkK{p:Str→Bool}{l:List Str}{i:Nat}(h:∀j,j<i→p (l.getD j dE)=false)(hi:i≤l.length):Je p (l.take i)=l.take i:=by
 unfold Je
 rw[List.filter_eq_self]
 intro x hx
 obtain⟨j,hj,rfl⟩:=ZFa hx
 have h1:=h j (by rw[ZE9]at hj;omega)
 rw[ZE9]at hj
 simpa[ZE8,show j<l.length by omega]using h1
theorem Zpa{p:Str→Bool}{l:List Str}(h:∀x∈l,p x=false):Je p l=l:=by
 unfold Je;rw[List.filter_eq_self];intro x hx;rw[h x hx];rfl
theorem Zp2{E:List Str}{k:Nat}{x:Str}(h:k<E.length):(E.set k x).take (k+1)=E.take k++[x]:=by
 rw[List.set_eq_take_append_cons_drop,if_pos h,show E.take k++x::E.drop (k+1)=(E.take k++[x])++E.drop (k+1) by simp,List.take_left' (by simp;omega)]
theorem Zuk{E:List Str}{k:Nat}(h:k≤E.length):ZE (E.map D.str) (k*1) (KC [.str []] (E.length-k))=((E.take k++List.replicate (E.length-k) []).map .str):=by
 unfold ZE
 rw[Nat.mul_one,Zvq,List.drop_eq_nil_of_le (by simp;omega)]
 simp
theorem Zf4{b c:Nat}{l:List Str}{S:St}(hb:S b=sO (.cells (l.map .str)))(hl:l.length≤1000000)(hc:l.length≤c)(f:D)(p:Str→Bool)(hf:∀x T,VT ZEQ f [.str x] T (.bool (p x)) T):
  Zf ZEQ 182 [.msl b 0 l.length c 1,f] S fun r T=>r=.ret (.msl b 0 (Je p l).length c 1)∧T=S.upd b (.cells ((Je p l++List.replicate (l.length-(Je p l).length) []).map .str)):=by
 refine Zh (cR 182 f182) fun F hF=>?_
 have am:=ZgF (c:=c) hb hl f p (fun x=>hf x S)
 refine gG ?_
 refine ct (am) ?_
 refine aa ?_
 refine rg ?_
 by_cases z:Zk p l<0
 ·have ao:Zk p l=-1:=by have:=Qy p l;omega
  rw[ao]
  refine i1 ?_
  refine rg ?_
  exact hF.ret _ _ rfl (by trivial) (ZEW _) (ZES _) ⟨by rw[Zpa (Zce z)];rfl,by rw[Zpa (Zce z),Nat.sub_self,List.replicate_zero,ZFm];exact(St.upd_self hb).symm⟩
 obtain⟨q0,ap⟩:∃q0:Nat,Zk p l=q0:=⟨(Zk p l).toNat,by omega⟩
 have ak:=Y2 p l
 have ac:=Zaa (p:=p) (l:=l) (by omega)
 rw[ap]at ak ac⊢
 have v:=fun j hj=>ac.2 j hj
 have ad:=ac.1
 simp only[Int.toNat_natCast]at v ad
 have ab:q0<l.length:=by omega
 refine i0 ?_
 refine gA ?_
 refine Zb (fr (l.length) (fun j Q=>j≤l.length→∀(k:Nat) (E:List Str),E.length=l.length→k<j→k=(Je p (l.take j)).length→E.take k=Je p (l.take j)→E.drop j=l.drop j→Q [(0,.d (.msl b 0 l.length c 1)),(1,.d f),(5,.d (.int .i64 k)),(6,.d (.int .i64 j))] [] (S.upd b (.cells (E.map .str)))) (fun n t=>?_) fun al=>?_)
 ·intro j hn hj k E hE hkj hk y hdr
  refine rg ?_
  refine cd (fun h1=>?_) (fun h1=>?_)
  ·have ae:j<l.length:=by simp at h1;omega
   have hx:E.getD j []=l.getD j []:=by
    have h2:(E.drop j)[0]?=(l.drop j)[0]?:=by rw[hdr]
    simpa[ZE8]using congrArg (fun o=>o.getD []) h2
   have hg:(E.map D.str)[j*1]?=sO (.str (l.getD j [])):=by rw[Nat.mul_one,Zsl (by omega),hx]
   have u:=Zhc (p:=p) ae
   have aj:E.drop (j+1)=l.drop (j+1):=by rw[←List.drop_drop,hdr,List.drop_drop]
   generalize l.getD j []=x at *
   refine xA (nd2 @ZEZ @hg) ?_
   refine rg ?_
   refine cW (hf x _) ?_
   cases ai:p x with
   |true =>
    rw[ai,if_pos rfl,ZFm]at u
    refine i0 ?_
    refine gA ?_
    refine Za ?_
    exact t ((l.length)-(j+1)) (by omega) (j+1) rfl (by omega) k E hE (by omega) (by rw[u];exact hk) (by rw[u];exact y) aj
   |false =>
    rw[ai,if_neg (by simp)]at u
    have ag:=Zyj (E:=E) (i:=k) (s:=x) (by omega)
    refine i1 ?_
    have af:(E.map D.str).length=l.length:=by rw[List.length_map];exact hE
    refine xA (nd2 @ZEZ (nd2 @ZFd (nd2 @ag @af))) ?_
    refine gA ?_
    refine gA ?_
    rw[show(k:Int)+1=((k+1:Nat):Int) by omega]
    refine Za ?_
    exact t ((l.length)-(j+1)) (by omega) (j+1) rfl (by omega) (k+1) (E.set k x) (by rw[List.length_set];exact hE) (by omega) (by rw[u,ZE1,←hk];rfl) (by rw[u,←y,Zp2 (by omega)]) (by rw[List.drop_set_of_lt (by omega)];exact aj)
  have ae:j=l.length:=by simp at h1;omega
  subst ae
  rw[ZFc]at hk y
  have ah:=Zuk (E:=E) (k:=k) (by omega)
  have af:(E.map D.str).length=l.length:=by rw[List.length_map];exact hE
  rw[hE,y]at ah
  have hck:¬c=k:=by omega
  refine rg ?_
  refine⟨by omega,by omega,by omega,by omega,?_⟩
  rw[if_neg (by omega),show((l.length:Int)-k).toNat=l.length-k by omega,show((c:Int)-k).toNat=c-k by omega]
  refine Zk1 rfl rfl rfl trivial (cs:=E.map .str) (by simp[Yj,ZEZ]) (by rw[af];omega) ?_
  rw[ah,ZFd]
  refine gR0 ?_
  refine rg ?_
  refine⟨by omega,by omega,by omega,by omega,?_⟩
  simp only[ite_self,if_pos]
  exact hF.ret _ _ rfl (by trivial) (ZEW _) (ZES _) ⟨by rw[←hk];rfl,by rw[←hk]⟩
 have h0:=al _ (q0+1) rfl (by omega) q0 l rfl (by omega) (by rw[Zhc ab,show l.getD q0 []=l.getD q0 dE from rfl,ad,if_pos rfl,ZFm,ZkK v (by omega),ZE9];omega) (by rw[Zhc ab,show l.getD q0 []=l.getD q0 dE from rfl,ad,if_pos rfl,ZFm,ZkK v (by omega)]) rfl
 rw[St.upd_self hb]at h0
 exact h0
end Go.DL
namespace Go.Proofs
open Go.Shelf Go.RowKit
def Tryz.joinL_ren:Go.Shelf.Ren:=⟨fun|156=>181|165=>226|166=>227|169=>228|240=>260|241=>261|276=>276|277=>277|n=>n,fun|31=>200|9=>9|3=>3|4=>4|0=>0|20=>20|72=>268|76=>125|70=>266|37=>25|75=>124|127=>287|164=>320|5=>5|80=>270|n=>n,fun|n=>n⟩
theorem Tryz.joinL:Go.Proofs.Lays.n156 ZEQ Tryz.joinL_ren:={
 mixed:=by kernel_rfl
 f156:=Tryz.func181.trans (congrArg sO (by kernel_rfl))
 f165:=Tryz.func226.trans (congrArg sO (by kernel_rfl))
 f166:=Tryz.func227.trans (congrArg sO (by kernel_rfl))
 f169:=Tryz.func228.trans (congrArg sO (by kernel_rfl))
 f240:=Tryz.func260.trans (congrArg sO (by kernel_rfl))
 f241:=Tryz.func261.trans (congrArg sO (by kernel_rfl))
 f276:=Tryz.func276.trans (congrArg sO (by kernel_rfl))
 f277:=Tryz.func277.trans (congrArg sO (by kernel_rfl))
 t0:=Tryz.underlying0
 a0:=Tryz.isAgg0
 z0:=Tryz.sizeOf0
 v0:=Tryz.zeroValue0
 t3:=Tryz.underlying3
 a3:=Tryz.isAgg3
 z3:=Tryz.sizeOf3
 v3:=Tryz.zeroValue3
 t4:=Tryz.underlying4
 a4:=Tryz.isAgg4
 z4:=Tryz.sizeOf4
 v4:=Tryz.zeroValue4
 t9:=Tryz.underlying9
 a9:=Tryz.isAgg9
 z9:=Tryz.sizeOf9
 v9:=Tryz.zeroValue9
 t20:=Tryz.underlying20
 a20:=Tryz.isAgg20
 z20:=Tryz.sizeOf20
 v20:=Tryz.zeroValue20
 t31:=Tryz.underlying200
 a31:=Tryz.isAgg200
 z31:=Tryz.sizeOf200
 v31:=Tryz.zeroValue200
 t37:=Tryz.underlying25
 a37:=Tryz.isAgg25
 z37:=Tryz.sizeOf25
 v37:=Tryz.zeroValue25
 t70:=Tryz.underlying266
 a70:=Tryz.isAgg266
 z70:=Tryz.sizeOf266
 v70:=Tryz.zeroValue266
 t72:=Tryz.underlying268
 a72:=Tryz.isAgg268
 z72:=Tryz.sizeOf268
 v72:=Tryz.zeroValue268
 t75:=Tryz.underlying124
 a75:=Tryz.isAgg124
 z75:=Tryz.sizeOf124
 v75:=Tryz.zeroValue124
 t76:=Tryz.underlying125
 a76:=Tryz.isAgg125
 z76:=Tryz.sizeOf125
 v76:=Tryz.zeroValue125
 t127:=Tryz.underlying287
 a127:=Tryz.isAgg287
 z127:=Tryz.sizeOf287
 v127:=Tryz.zeroValue287
 t164:=Tryz.underlying320
 a164:=Tryz.isAgg320
 z164:=Tryz.sizeOf320
 v164:=Tryz.zeroValue320 }
theorem Tryz.joinX:Builder.Extra ZEQ Tryz.joinL_ren:={
 sizeBuilder:=by kernel_rfl
 liesBuilder:=by kernel_rfl
 t5:=Tryz.underlying5
 a5:=Tryz.isAgg5
 z5:=Tryz.sizeOf5
 v5:=Tryz.zeroValue5
 infoByte:=by kernel_rfl
 cellsByte:=by kernel_rfl
 sizeByte:=by kernel_rfl
 neB5:=by decide }
end Go.Proofs
namespace Go.DL
open Go Go.Proofs Go.Lib Go.RowKit
theorem ZyQ{w:World}{b o:Nat}{v:Value}(h:w.cell? ⟨b,o,nO⟩=sO v):b<w.heap.size:=by
 refine Nat.lt_of_not_le fun c=>?_
 have hn:w.heap[b]?=nO:=Array.getElem?_eq_none c
 simp[World.cell?,hn]at h
def joinL(l:List Str)(sep:Str):Str:=sep.intercalate l
theorem Zcu(l:List Str)(hn:l.length≤100000)(hj:(joinL l [46]).length≤100000000):Zc ZEQ 181 [slD 1 ZbL l,.str [46]] (.str (joinL l [46])):=fun st=>by
 refine⟨⟨_,Tryz.func181,by kernel_rfl,by kernel_rfl⟩,fun g w vs hs ha=>?_⟩
 cases ha with
 |cons h1 ha =>
 cases ha with
 |cons h2 ha =>
 cases ha
 cases h2 with
 |str sep _ hsep hsb =>
 have z:sep=⟨#[46]⟩:=by
  obtain⟨a⟩:=sep
  have:a.toList=[46]:=hsep
  have h2:a = #[46]:=by apply Array.ext';simpa using this
  rw[h2]
 subst z
 unfold slD at h1
 have u:∀w':World,Below w.heap.size w w'→JR g w g w':=fun w' t=>⟨t.size,fun c hc=>t.block c hc,fun _ _=>rfl,fun c hc=>(hs.fresh c (Nat.le_trans t.size hc)).1,rfl,t.os,t.output,t.tape⟩
 generalize ag:(fun i=>ZbL (l.getD i dE))=row at h1
 generalize ad:l.length=n at h1
 cases h1 with
 |sl0 av _ _ _ ht =>
  obtain rfl:l=[]:=List.eq_nil_of_length_eq_zero ad
  refine(Any.strings_Join_none Tryz.joinL Tryz.joinX av 0 ⟨#[46]⟩ w).mono ?_
  rintro e w' ⟨rfl,rfl⟩
  exact⟨g,st,.ret (.str []),Ext.refl g _,hs,.str _ _ rfl (by simp[big]),rfl,rfl⟩
 |sl b o _ cap _ _ _ f hl hc hp hr one ht hcap hb =>
  subst ad
  subst ag
  have hx:∀i (hi:i<l.length),∃x:ByteArray,f i 0=.string x∧x.data.toList=l[i]:=fun i hi=>by
   have:=hr i 0 (.str (l.getD i dE)) hi rfl
   generalize f i 0=v at this
   cases this with
   |str x _ h1 h2=>exact⟨x,rfl,by rw[h1];simp[ZE8,hi]⟩
  have ah:∃xs:List ByteArray,xs.length=l.length∧xs.map (·.data.toList)=l∧∀(j:Nat) x,xs[j]?=sO x→f j 0=.string x:=by
   refine⟨List.ofFn fun i:Fin l.length=>Classical.choose (hx i.1 i.2),by simp,?_,fun j x hj=>?_⟩
   ·apply List.ext_getElem
    ·simp
    intro i h1 h2
    simp at h1
    simp only[List.getElem_map,List.getElem_ofFn]
    exact(Classical.choose_spec (hx i h1)).2
   obtain⟨ac,ae⟩:=List.getElem?_eq_some_iff.1 hj
   simp only[List.length_ofFn]at ac
   simp only[List.getElem_ofFn]at ae
   rw[←ae]
   exact(Classical.choose_spec (hx j ac)).1
  obtain⟨xs,ab,al,ak⟩:=ah
  have ai:0<l.length→b<w.heap.size:=fun h0=>by
   have:=hc 0 0 h0 (by omega)
   exact ZyQ this
  have hJ:(Lib.join (xs.map (·.data.toList)) (⟨#[46]⟩:ByteArray).data.toList)=joinL l [46]:=by rw[al];rfl
  have af:∀w',Below w.heap.size w w'→∃g' s' res,Ext g w g' w'∧Ym g' s' w'∧Rep g' w' (.string ⟨(joinL l [46]).toArray⟩) (.str (joinL l [46]))∧res=Res.ret (.str (joinL l [46]))∧s'=st:=fun w' t =>
   ⟨g,st,.ret (.str (joinL l [46])),(u w' t).ext hs.fresh,hs.grow (u w' t),.str _ _ (by simp) (by unfold big;omega),rfl,rfl⟩
  by_cases h0:l.length=0
  ·obtain rfl:l=[]:=List.eq_nil_of_length_eq_zero h0
   refine(Any.strings_Join_none Tryz.joinL Tryz.joinX (sO ⟨b,o,nO⟩) cap ⟨#[46]⟩ w).mono ?_
   rintro e w' ⟨rfl,rfl⟩
   exact⟨g,st,.ret (.str []),Ext.refl g _,hs,.str _ _ rfl (by simp[big]),rfl,rfl⟩
  have y:=Any.strings_Join Tryz.joinL Tryz.joinX b o cap xs ⟨#[46]⟩ w (fun j x hj=>by
    have aj:j<l.length:=by rw[←ab];exact(List.getElem?_eq_some_iff.1 hj).1
    have:=hc j 0 aj (by omega)
    rw[ak j x hj]at this
    simpa using this) (ai (by omega)) (by omega) (by omega) (by rw[hJ];omega)
  rw[hJ,ab]at y
  refine y.mono ?_
  rintro e w' ⟨rfl,t⟩
  obtain⟨g',s',res,a1,a2,a3,a4,a5⟩:=af w' t
  exact⟨g',s',res,a1,a2,by rw[a4];exact a3,a4,a5⟩
end Go.DL
namespace Go.DL
open Go Go.Proofs
variable {kp:Option (List Nat)}{L:Loc}{ρ:Env}{s:St}{w:World}{os:List DOp}{ds:List D}{B:List (Nat × Rd)}{dst:Option Nat}{tmps:Array Value}{g:G}{Φ:Res→St→Prop}{ν:Nat→Nat}{xs:List Opd}{side:Prop}{row:Nat→List D}
theorem Zfu(s:Str):Zc ZEQ 183 [.str s] (.bool (dC (s=[]))):=by
 refine Ze (cR 183 f183) fun F st c=>?_
 refine gG ?_
 refine rb c ?_
 rfl
theorem Zv8(a s:Str)(hs:s≠[]):joinL (Je (fun x=>dC (x=[])) [a,s]) [46]=Z1 a s:=by
 unfold Je joinL Z1
 by_cases ha:a=[]
 ·simp[ha,hs,List.intercalate]
 simp[ha,hs,List.intercalate]
theorem ZkP(T:St):St.or (fun _=>nO) T=T:=by funext b;exact ZG rfl
theorem Zv6{b c:Nat}{C:List Str}{T:St}(hb:T b=sO (.cells (C.map .str)))(K:List Str)(hl:K.length≤2)(hC:K.length≤C.length)(hK:∀i,i<K.length→C.getD i []=K.getD i [])(hj:(joinL K [46]).length≤100000000):
  Zf ZEQ 181 [.msl b 0 K.length c 1,.str [46]] T fun r S=>r=.ret (.str (joinL K [46]))∧S=T:=by
 have h:=Zf.lend (P:=ZEQ) (Ln:=[b]) (t:=T) (fun x hx=>⟨C.map .str,by rw[List.mem_singleton.1 hx];exact hb⟩) (.cons (Y8.msl (row:=fun i=>ZbL (K.getD i dE)) (cap:=c) (sz:=1) (n:=K.length) (List.mem_singleton.2 rfl) hb (by simp;omega) ?_) (.cons (.refl (.str [46])) .nil)) (Zcu K (by omega) hj (fun _=>nO)) (fun r S hr=>?_)
 ·refine h.mono fun r S hS=>?_
  obtain⟨S',⟨hr,rfl⟩,_,rfl⟩:=hS
  exact⟨hr,ZkP T⟩
 ·intro i hi
  have h1:((C.map D.str).drop (i*1)).take 1=ZbL (K.getD i dE):=by
   rw[Nat.mul_one,show K.getD i dE=C.getD i [] from(hK i hi).symm]
   rw[List.drop_eq_getElem_cons (by simp;omega)]
   simp[ZbL,ZE8,show i<C.length by omega]
  rw[h1];exact .refl _
 obtain⟨rfl,rfl⟩:=hr
 exact⟨.str _,fun b o h=>by simp at h⟩
theorem ZpW{b:Nat}{a s:Str}{S:St}(hb:S b=sO (.cells [.str a,.str s]))(hs:s≠[])(hl:a.length≤10000000)(hl2:s.length≤10000000):
  Zf ZEQ 133 [.msl b 0 2 2 1] S fun r T=>r=.ret (.str (Z1 a s))∧∃o,T=S.upd b o:=by
 refine Zh (cR 133 f133) fun F hF=>?_
 have hd:=Zf4 (c:=2) (l:=[a,s]) hb (by simp) (by simp) (.fn (.func 183) [] []) (fun x=>dC (x=[])) (fun x T=>(Zfu x).VT (first:=[]) (caps:=[]) T)
 have j:=Zv8 a s hs
 have t:(Je (fun x=>dC (x=[])) [a,s]).length≤2:=Zv7 _ _
 generalize Je (fun x=>dC (x=[])) [a,s]=K at *
 have u:(joinL K [46]).length≤100000000:=by
  rw[j];unfold Z1
  split
  ·omega
  simp only[ZE1,ZE5,List.length_nil];omega
 refine gG ?_
 refine cV (hd) ?_ ?_
 ·rintro dd T ⟨hr,rfl⟩
  cases hr
  refine gR0 ?_
  generalize hC:(K++List.replicate (2-K.length) [])=C at *
  have n:∀i,i<K.length→C.getD i []=K.getD i []:=fun i hi=>by rw[←hC];simp[ZE8,ZFp hi]
  have y:K.length≤C.length:=by rw[←hC];simp
  refine cV ((Zv6 (S.upd_same b _) K t y n u)) ?_ ?_
  ·rintro dv T hT
   obtain⟨hr,rfl⟩:=hT
   cases hr
   refine gR0 ?_
   rw[j]
   exact hF.ret _ _ rfl (by trivial) (ZEW _) (ZES _) ⟨rfl,_,rfl⟩
  rintro v T ⟨hr,_⟩
  cases hr
 rintro v T ⟨hr,_⟩
 cases hr
def YW(l:List Fld):List D:=l.flatMap Fld.cells
theorem ZaL(l:List Fld):(YW l).length=l.length*15:=by
 unfold YW
 induction l with
 |nil=>rfl
 |cons f r ih=>rw[List.flatMap_cons,ZE1,ih,Qp,ZE5];omega
theorem Zg3{l:List Fld}{i:Nat}(h:i<l.length)(X:List D):part (YW l++X) (i*15) 15=(l.getD i dE).cells:=by
 have h1:l=l.take i++(l.getD i dE::l.drop (i+1)):=by
  conv=>lhs;rw[←List.take_append_drop i l]
  rw[List.drop_eq_getElem_cons h];simp[ZE8,h]
 have h2:YW l++X=YW (l.take i)++((l.getD i dE).cells++(YW (l.drop (i+1))++X)):=by
  conv=>lhs;rw[h1]
  unfold YW;simp
 unfold part
 rw[h2,List.drop_left' (by rw[ZaL,ZE9,Nat.min_eq_left (by omega)]),List.take_left' (Qp _)]
theorem ZvX{l:List Fld}{i:Nat}(h:i<l.length)(f:Fld)(X:List D):ZE (YW l++X) (i*15) f.cells=YW (l.set i f)++X:=by
 have h1:l=l.take i++(l.getD i dE::l.drop (i+1)):=by
  conv=>lhs;rw[←List.take_append_drop i l]
  rw[List.drop_eq_getElem_cons h];simp[ZE8,h]
 have h2:YW l++X=YW (l.take i)++((l.getD i dE).cells++(YW (l.drop (i+1))++X)):=by
  conv=>lhs;rw[h1]
  unfold YW;simp
 have hl:(YW (l.take i)).length=i*15:=by rw[ZaL,ZE9,Nat.min_eq_left (by omega)]
 unfold ZE
 rw[h2,List.take_left' hl,←List.drop_drop,List.drop_left' hl,Qp,List.drop_left' (Qp _),List.set_eq_take_append_cons_drop,if_pos h]
 unfold YW;simp
theorem ZsB{l:List Fld}{k m:Nat}(h:k≤l.length)(z:List D)(X:List D):∃Y,ZE (YW l++X) (k*15) (KC z m)=YW (l.take k)++Y:=by
 have h2:YW l++X=YW (l.take k)++(YW (l.drop k)++X):=by
  unfold YW;rw[←ZFt,←List.flatMap_append,List.take_append_drop]
 have hl:(YW (l.take k)).length=k*15:=by rw[ZaL,ZE9,Nat.min_eq_left (by omega)]
 unfold ZE
 rw[h2,List.take_left' hl,ZFt]
 exact⟨_,rfl⟩
theorem Zuv(l:List Fld):(ZE4 l.length).flatMap (fun k=>(l.getD k dE).cells)=YW l:=by
 unfold YW
 have h:l.flatMap Fld.cells=((ZE4 l.length).map fun k=>l.getD k dE).flatMap Fld.cells:=by
  congr 1
  refine List.ext_getElem (by simp) fun i h1 h2=>?_
  simp[ZE8,h1]
 rw[h,List.flatMap_map]
theorem ZhQ(l:List Fld)(hl:l.length≤1000000)(hp:0<l.length)(st:St):Zf ZEQ 113 [Zo l] st fun r S=>∃b c X,st b=nO∧l.length≤c∧r=.ret (.msl b 0 l.length c 15)∧S=st.upd b (.cells (YW l++X)):=by
 refine Zh (cR 113 f113) fun F hF=>?_
 have i:=Zuv l
 refine rx (nd2 @eQ4 @eQ1) ?_
 refine gA ?_
 refine iG ?_
 refine Zyv rfl rfl rfl rfl rfl rfl (by trivial) (by trivial) (by exact hp) (by omega) (by unfold big;omega) fun b bc hb j=>Zm ?_
 simp only[Eqs,reduceCtorEq,ZEV,reduceIte,ZET,ZEX,ZEU]
 rw[i]
 exact hF.ret _ _ rfl (by trivial) (ZEW _) (ZES _) ⟨b,bc,_,hb,j,rfl,rfl⟩
def Za0(p:Fld→Bool)(l:List Fld):List Fld:=l.filter fun x=>!p x
theorem Zhb{p:Fld→Bool}{l:List Fld}{j:Nat}(h:j<l.length):Za0 p (l.take (j+1))=Za0 p (l.take j)++if p (l.getD j dE) then [] else [l.getD j dE]:=by
 rw[Z0 h];unfold Za0;rw[List.filter_append];congr 1
 simp only[List.filter_cons,List.filter_nil];cases p (l.getD j dE)<;>rfl
theorem ZkJ{p:Fld→Bool}{l:List Fld}{i:Nat}(h:∀j,j<i→p (l.getD j dE)=false)(hi:i≤l.length):Za0 p (l.take i)=l.take i:=by
 unfold Za0
 rw[List.filter_eq_self]
 intro x hx
 obtain⟨j,hj,rfl⟩:=ZFa hx
 have h1:=h j (by rw[ZE9]at hj;omega)
 rw[ZE9]at hj
 simpa[ZE8,show j<l.length by omega]using h1
theorem Zo9{p:Fld→Bool}{l:List Fld}(h:∀x∈l,p x=false):Za0 p l=l:=by
 unfold Za0;rw[List.filter_eq_self];intro x hx;rw[h x hx];rfl
theorem ZwT{E:List Fld}{k:Nat}{x:Fld}(h:k<E.length):(E.set k x).take (k+1)=E.take k++[x]:=by
 rw[List.set_eq_take_append_cons_drop,if_pos h,show E.take k++x::E.drop (k+1)=(E.take k++[x])++E.drop (k+1) by simp,List.take_left' (by simp;omega)]
theorem ZxC{b c:Nat}{l:List Fld}{X:List D}{T:St}(hb:T b=sO (.cells (YW l++X)))(hc:l.length≤c)(fid:Nat)(p:Fld→Bool)(hf:∀x,Zc ZEQ fid [.agg x.cells] (.bool (p x))):
  Zf ZEQ 166 [.msl b 0 l.length c 15,.fn (.func fid) [] []] T fun r S=>r=.ret (.int .i64 (Zk p l))∧S=T:=by
 have h:=Zf.lend (P:=ZEQ) (Ln:=[b]) (t:=T) (fun x hx=>⟨YW l++X,by rw[List.mem_singleton.1 hx];exact hb⟩) (.cons (Y8.msl (row:=fun i=>(l.getD i dE).cells) (cap:=c) (sz:=15) (n:=l.length) (List.mem_singleton.2 rfl) hb (by rw[ZE1,ZaL];omega) ?_) (.cons (.refl (.fn (.func fid) [] [])) .nil))
  (Qw l (.fn (.func fid) [] []) p (fun _ _=>nO) (fun i _=>(hf _).VT (first:=[]) (caps:=[]) _)) (fun r S hr=>?_)
 ·refine h.mono fun r S hS=>?_
  obtain⟨S',⟨hr,rfl⟩,_,rfl⟩:=hS
  exact⟨hr,ZkP T⟩
 ·intro i hi
  rw[show((YW l++X).drop (i*15)).take 15=(l.getD i dE).cells from Zg3 hi X];exact .refl _
 obtain⟨rfl,rfl⟩:=hr
 exact⟨.int _ _,fun b o h=>by simp at h⟩
theorem ZeV{b c:Nat}{l:List Fld}{X:List D}{S:St}(hb:S b=sO (.cells (YW l++X)))(hl:l.length≤1000000)(hc:l.length≤c)(fid:Nat)(p:Fld→Bool)(hf:∀x,Zc ZEQ fid [.agg x.cells] (.bool (p x))):
  Zf ZEQ 112 [.msl b 0 l.length c 15,.fn (.func fid) [] []] S fun r T=>r=.ret (.msl b 0 (Za0 p l).length c 15)∧∃Y,T=S.upd b (.cells (YW (Za0 p l)++Y)):=by
 refine Zh (cR 112 f112) fun F hF=>?_
 have am:=ZxC hb hc fid p hf
 refine gG ?_
 refine cV (am) ?_ ?_
 ·rintro dd T ⟨hr,hT⟩
  obtain rfl:=hT.symm
  cases hr
  refine gR0 ?_
  refine rg ?_
  by_cases ad:Zk p l<0
  ·have ao:Zk p l=-1:=by have:=Qy p l;omega
   rw[ao]
   refine i1 ?_
   refine rg ?_
   exact hF.ret _ _ rfl (by trivial) (ZEW _) (ZES _) ⟨by rw[Zo9 (Zce ad)];rfl,X,by rw[Zo9 (Zce ad)];exact(St.upd_self hb).symm⟩
  obtain⟨q0,ap⟩:∃q0:Nat,Zk p l=q0:=⟨(Zk p l).toNat,by omega⟩
  have ak:=Y2 p l
  have af:=Zaa (p:=p) (l:=l) (by omega)
  rw[ap]at ak af⊢
  have y:=fun j hj=>af.2 j hj
  have ag:=af.1
  simp only[Int.toNat_natCast]at y ag
  have ae:q0<l.length:=by omega
  refine i0 ?_
  refine gA ?_
  refine Zb (fr (l.length) (fun j Q=>j≤l.length→∀(k:Nat) (E:List Fld),E.length=l.length→k<j→k=(Za0 p (l.take j)).length→E.take k=Za0 p (l.take j)→E.drop j=l.drop j→Q [(0,.d (.msl b 0 l.length c 15)),(1,.d (.fn (.func fid) [] [])),(5,.d (.int .i64 k)),(6,.d (.int .i64 j))] [] (S.upd b (.cells (YW E++X)))) (fun n t=>?_) fun al=>?_)
  ·intro j hn hj k E hE hkj hk ab hdr
   refine rg ?_
   refine cd (fun h1=>?_) (fun h1=>?_)
   ·have ah:j<l.length:=by simp at h1;omega
    have hx:E.getD j dE=l.getD j dE:=by
     have h2:(E.drop j)[0]?=(l.drop j)[0]?:=by rw[hdr]
     simpa[ZE8]using congrArg (fun o=>o.getD dE) h2
    have ac:(YW E++X).length=l.length*15+X.length:=by rw[ZE1,ZaL,hE]
    have hg:=Zg3 (l:=E) (i:=j) (by omega) X
    rw[hx]at hg
    unfold part at hg
    have u:=Zhb (p:=p) ah
    have aj:E.drop (j+1)=l.drop (j+1):=by rw[←List.drop_drop,hdr,List.drop_drop]
    generalize l.getD j dE=x at *
    refine xA (nd2 @ZEZ (nd2 @hg (nd2 @ac (nd2 @Qp @J2)))) ?_
    refine xA (nd2 @Qp @J2) ?_
    refine cl (hf x) ?_
    cases ai:p x with
    |true =>
     rw[ai,if_pos rfl,ZFm]at u
     refine i0 ?_
     refine gA ?_
     refine Za ?_
     exact t ((l.length)-(j+1)) (by omega) (j+1) rfl (by omega) k E hE (by omega) (by rw[u];exact hk) (by rw[u];exact ab) aj
    |false =>
     rw[ai,if_neg (by simp)]at u
     have z:=ZvX (l:=E) (i:=k) (by omega) x X
     unfold ZE at z
     rw[Qp]at z
     refine i1 ?_
     refine xA (nd2 @ZEZ (nd2 @ZFd (nd2 @ac (nd2 @Qp @J2)))) ?_
     rw[z]
     refine gA ?_
     refine gA ?_
     rw[show(k:Int)+1=((k+1:Nat):Int) by omega]
     refine Za ?_
     exact t ((l.length)-(j+1)) (by omega) (j+1) rfl (by omega) (k+1) (E.set k x) (by rw[List.length_set];exact hE) (by omega) (by rw[u,ZE1,←hk];rfl) (by rw[u,←ab,ZwT (by omega)]) (by rw[List.drop_set_of_lt (by omega)];exact aj)
   have ah:j=l.length:=by simp at h1;omega
   subst ah
   rw[ZFc]at hk ab
   have ac:(YW E++X).length=l.length*15+X.length:=by rw[ZE1,ZaL,hE]
   refine rg ?_
   refine⟨by omega,by omega,by omega,by omega,?_⟩
   rw[if_neg (by omega),show((l.length:Int)-k).toNat=l.length-k by omega,show((c:Int)-k).toNat=c-k by omega]
   refine Zk1 rfl rfl rfl trivial (cs:=YW E++X) (by simp[Yj,ZEZ]) (by rw[ac];omega) ?_
   obtain⟨Y,hY⟩:=ZsB (l:=E) (k:=k) (m:=l.length-k) (by omega) [.str [],.int .i64 0,.int .i64 0,.bool false,.bool false,.int .i64 0,.int .i64 0,.int .i64 0,.nilsl,.str [],.str [],.str [],.nilsl,.int .i64 0,.int .i64 0] X
   rw[ab]at hY
   rw[hY,ZFd]
   refine gR0 ?_
   refine rg ?_
   refine⟨by omega,by omega,by omega,by omega,?_⟩
   simp only[ite_self,if_pos]
   exact hF.ret _ _ rfl (by trivial) (ZEW _) (ZES _) ⟨by rw[←hk];rfl,Y,rfl⟩
  have h0:=al _ (q0+1) rfl (by omega) q0 l rfl (by omega) (by rw[Zhb ae,ag,if_pos rfl,ZFm,ZkJ y (by omega),ZE9];omega) (by rw[Zhb ae,ag,if_pos rfl,ZFm,ZkJ y (by omega)]) rfl
  rw[St.upd_self hb]at h0
  exact h0
 rintro v T ⟨hr,_⟩
 cases hr
theorem Zkv(f:Fld):Zc ZEQ 114 [.agg f.cells] (.bool (!WK f)):=by
 refine Ze (cR 114 f114) fun F st c=>?_
 refine rx @eQ0 ?_
 refine rg ?_
 refine cl (Zdw f) ?_
 refine rb c ?_
 rfl
theorem ZxG(l:List Fld):Za0 (fun f=>!WK f) l=vfs l:=by unfold Za0 vfs;simp
theorem Zfx(m:Msg)(hp:0<m.fields.length)(hl:m.fields.length≤1000000):Zc ZEQ 73 [.agg m.cells] (Zo (vfs m.fields)):=by
 refine Ze (cR 73 f73) fun F st n=>?_
 refine rx @eQ3 ?_
 refine rg ?_
 refine cV ((ZhQ m.fields hl hp st)) ?_ ?_
 ·rintro dd T ⟨b,c,X,hb,hc,hr,rfl⟩
  cases hr
  refine gR0 ?_
  refine cV ((ZeV (ZEZ _ _ _) hl hc 114 (fun f=>!WK f) Zkv)) ?_ ?_
  ·rintro dd2 T2 ⟨hr,Y,rfl⟩
   cases hr
   refine gR0 ?_
   rw[ZxG,ZFd]
   refine Zqp [b] (fun x hx=>⟨YW (vfs m.fields)++Y,by rw[List.mem_singleton.1 hx];exact ZEZ _ _ _⟩) (ρ':=[(2,.d (Zo (vfs m.fields)))]) (L':=[]) (.cons (Y8.msl (row:=fun i=>((vfs m.fields).getD i dE).cells) (List.mem_singleton.2 rfl) (ZEZ _ _ _) (by rw[ZE1,ZaL];omega) fun i hi=>?_) .nil) .nil ?_
   ·rw[show((YW (vfs m.fields)++Y).drop (i*15)).take 15=((vfs m.fields).getD i dE).cells from Zg3 hi Y];exact .refl _
   refine n rfl (by trivial) (ZEW _) (fun x o hx=>?_)
   have j:x≠b:=fun e=>by rw[e,hb]at hx;simp at hx
   simp only[St.delL,List.mem_singleton,j,if_false]
   rw[ZE0 _ _ j];exact hx
  rintro v T2 ⟨hr,_⟩
  cases hr
 rintro v T ⟨b,c,X,_,_,hr,_⟩
 cases hr
theorem ZlF(f:Fld)(x:Val):Zc ZEQ 116 [.agg f.cells,.agg x.cells] (.bool (dC (f.name=x.name))):=by
 refine Ze (cR 116 f116) fun F st c=>?_
 rw[ZFf]
 refine rx @eQ0 ?_
 refine rg ?_
 refine rb c ?_
 rfl
def QK(l:List Fld)(ps:List Val):Bool:=dC (l.map (·.name)=ps.map Val.name)
theorem Zwj{l:List Fld}{ps:List Val}(h:l.length≠ps.length):QK l ps=false:=by
 unfold QK
 rw[decide_eq_false_iff_not]
 intro he
 exact h (by simpa using congrArg List.length he)
theorem ZuM{l:List Fld}{ps:List Val}(h:l.length=ps.length)(hn:∀j,j<l.length→(l.getD j dE).name=(ps.getD j dE).name):QK l ps=true:=by
 unfold QK
 rw[decide_eq_true_eq]
 refine List.ext_getElem (by simpa using h) fun i h1 h2=>?_
 have h3:=hn i (by simpa using h1)
 simp at h1 h2
 simpa[ZE8,h1,h2]using h3
theorem ZuN{l:List Fld}{ps:List Val}{j:Nat}(h:l.length=ps.length)(hj:j<l.length)(hn:dC ((l.getD j dE).name=(ps.getD j dE).name)=false):QK l ps=false:=by
 unfold QK
 rw[decide_eq_false_iff_not]at hn⊢
 intro he
 have h1:(l.map (·.name))[j]?=(ps.map Val.name)[j]?:=by rw[he]
 refine hn ?_
 simpa[ZE8,hj,show j<ps.length by omega]using h1
theorem Zd9(l:List Fld)(ps:List Val):Zc ZEQ 115 [Zo l,ZO ps,.fn (.func 116) [] []] (.bool (QK l ps)):=by
 refine ZJ (cR 115 f115) fun v F st c=>?_
 have ac:=(Y3 (v (Zo l) (by simp))).1
 have ad:=ZhC (v (ZO ps) (by simp))
 unfold big at ac ad
 clear v
 refine rg ?_
 refine rx (nd2 @Zbc @Qq) ?_
 refine cd (fun hc=>?_) (fun hc=>?_)
 ·refine rg ?_
  refine rb c ?_
  exact(Zwj (l:=l) (ps:=ps) (by simp at hc;omega)).symm
 have u:l.length=ps.length:=by simp at hc;omega
 refine rx (nd2 @Zbc @Qq) ?_
 refine Zb (fr (l.length) (fun i Q=>i≤l.length→(∀j,j<i→dC ((l.getD j dE).name=(ps.getD j dE).name)=true)→Q [(1,.d (ZO ps)),(2,.d (.fn (.func 116) [] [])),(15,.d (Zo l)),(16,.d (.int .i64 l.length)),(17,.d (.int .i64 i))] [] st) (fun n t=>?_) fun ab=>?_)
 ·intro i hn hi z
  refine rg ?_
  refine Zd (Zs rfl trivial (fun h1=>?_) (fun h1=>?_))
  ·simp at h1
   have y:=ZlF (l.getD i dE) (ps.getD i dE)
   have hr:=Wp (l:=ps) (i:=i) (by omega)
   rw[ZFf]at y
   refine xA (nd2 @atF (nd2 @Qp @J2)) ?_
   refine xA (nd2 @atV @hr) ?_
   refine rx (nd2 @Qp @J2) ?_
   refine cl (y) ?_
   cases hb:dC ((l.getD i dE).name=(ps.getD i dE).name) with
   |true =>
    refine i0 ?_
    refine gA ?_
    refine Za ?_
    exact t ((l.length)-(i+1)) (by omega) (i+1) rfl (by omega) (ZX (q:=fun j=>dC ((l.getD j dE).name=(ps.getD j dE).name)=true) z hb)
   |false =>
    refine i1 ?_
    refine rg ?_
    refine rb c ?_
    exact(ZuN u h1 hb).symm
  simp at h1
  obtain rfl:i=l.length:=by omega
  refine rg ?_
  refine rb c ?_
  exact(ZuM u fun j hj=>by simpa using z j hj).symm
 exact ab _ 0 rfl (by omega) (by intro j hj;omega)
theorem Zoo(l:List Fld)(ps:List Val):Zc ZEQ 74 [Zo l,ZO ps] (.bool (QK l ps)):=by
 refine Ze (cR 74 f74) fun F st c=>?_
 refine gG ?_
 refine cl (Zd9 l ps) ?_
 refine rb c ?_
 rfl
theorem KX(d:Dfn)(s:Str)(h:0≤Zn d s d.msgs.length):Zc ZEQ 31 [.agg d.cells,.str s] (.agg (d.msgs.getD (ixS d s) dE).cells):=by
 refine Ze (cR 31 f31) fun F st c=>?_
 have i:=Zcf h
 generalize hm:d.msgs.getD (ixS d s) dE=m at *
 have n:Zk (fun x:Msg=>dC (x.name=s)) d.msgs=(ixS d s:Int):=by rw[←i.1];unfold Zn;rw[ZFc]
 have j:max (ixS d s:Int) 0=ixS d s:=by omega
 refine rx @eQ2 ?_
 refine rg ?_
 refine cX (nd2 @n @j) (Zgz d s) ?_
 refine xA (nd2 @atM (nd2 @hm @eQ3)) ?_
 refine ro c ?_
 rfl
def Zcl(l:List Fld):Nat→List (Str×Int)
 |0=>[]
 |i+1=>if (l.getD i dE).kind=2 then Wy (l.getD i dE).name (l.getD i dE).low (Zcl l i) else Zcl l i
def Zdb(l:List Fld)(ps:List Val)(E:List (Str×Int)):Nat→List (Str×Int)
 |0=>E
 |i+1=>if YA (l.getD i dE) then Wy (l.getD i dE).name (ps.getD i dE).int (Zdb l ps E i) else Zdb l ps E i
def Zda(m:Msg)(ps:List Val):List (Str×Int):=Zdb (vfs m.fields) ps (Zcl m.fields m.fields.length) (vfs m.fields).length
theorem Zjh(m:Msg)(hp:0<m.fields.length)(hl:m.fields.length≤1000)(ps:List Val)(hn:(vfs m.fields).length=ps.length)(st:St):
  Zf ZEQ 82 [.agg m.cells,ZO ps] st fun r S=>∃b,st b=nO∧r=.ret (.map b)∧S=st.upd b (.map (JZ (Zda m ps))):=by
 refine Zh (cR 82 f82) fun F hF=>?_
 have hvl:(vfs m.fields).length≤m.fields.length:=List.length_filter_le ..
 have z:=Zfx m hp (by omega)
 have hM:=Zda.eq_1 m ps
 generalize vfs m.fields=vl at *
 refine rx @eQ3 ?_
 refine rg ?_
 intro b hb
 rw[show([]:List (D×D))=JZ (Zcl m.fields 0) from rfl]
 refine rx @Zbc ?_
 refine Zb (fr (m.fields.length) (fun i Q=>i≤m.fields.length→Q [(1,.d (ZO ps)),(2,.loc 2 0),(5,.d (.map b)),(12,.d (Zo m.fields)),(13,.d (.int .i64 m.fields.length)),(14,.d (.int .i64 i))] [(2,[.str m.name,Zo m.fields])] (st.upd b (.map (JZ (Zcl m.fields i))))) (fun n t=>?_) fun y=>?_)
 ·intro i hn2 hi
  refine rg ?_
  refine Zd (Zs rfl trivial (fun h1=>?_) (fun h1=>?_))
  ·simp at h1
   have c:=Zcl.eq_2 m.fields i
   generalize hf:m.fields.getD i dE=f at *
   refine xA (nd2 @atF (nd2 @hf @eQ0)) ?_
   refine rg ?_
   refine cd (fun h2=>?_) (fun h2=>?_)
   ·rw[if_pos (by simpa using h2)]at c
    have e2:=ZbY (vD:=Kx) ZY f.name f.low (Zcl m.fields i)
    have e3:=Ww ZY f.name
    simp only[show Qe f.name=D.str f.name from rfl,show Kx f.low=.int .i64 f.low from rfl]at e2 e3
    refine xA (nd2 @ZEZ (nd2 @ZFd (nd2 @e2 @e3))) ?_
    refine gA ?_
    rw[←c]
    refine Za ?_
    exact t ((m.fields.length)-(i+1)) (by omega) (i+1) rfl (by omega)
   rw[if_neg (by simpa using h2)]at c
   refine gA ?_
   rw[←c]
   refine Za ?_
   exact t ((m.fields.length)-(i+1)) (by omega) (i+1) rfl (by omega)
  simp at h1
  obtain rfl:i=m.fields.length:=by omega
  generalize Zcl m.fields m.fields.length=E0 at *
  refine rg ?_
  refine cX @Zbc (z) ?_
  refine Zb (fr (vl.length) (fun k Q=>k≤vl.length→Q [(1,.d (ZO ps)),(5,.d (.map b)),(28,.d (Zo vl)),(29,.d (.int .i64 vl.length)),(30,.d (.int .i64 k))] [] (st.upd b (.map (JZ (Zdb vl ps E0 k))))) (fun n j=>?_) fun u=>?_)
  ·intro k hn3 hk
   refine rg ?_
   refine Zd (Zs rfl trivial (fun h3=>?_) (fun h3=>?_))
   ·simp at h3
    have c:=Zdb.eq_2 vl ps E0 k
    have v:=Wp (l:=ps) (i:=k) (by omega)
    generalize hf:vl.getD k dE=f at *
    generalize hg:ps.getD k dE=g at *
    refine xA (nd2 @atF (nd2 @hf (nd2 @Qp @J2))) ?_
    refine rx (nd2 @Qp @J2) ?_
    refine cl (ZeP f) ?_
    refine cd (fun h4=>?_) (fun h4=>?_)
    ·rw[if_pos h4]at c
     have e2:=ZbY (vD:=Kx) ZY f.name g.int (Zdb vl ps E0 k)
     have e3:=Ww ZY f.name
     simp only[show Qe f.name=D.str f.name from rfl,show Kx g.int=.int .i64 g.int from rfl]at e2 e3
     refine xA (nd2 @eQ0 (nd2 @atV (nd2 @v (nd2 @ZEZ (nd2 @ZFd (nd2 @e2 @e3)))))) ?_
     refine gA ?_
     rw[←c]
     refine Za ?_
     exact j ((vl.length)-(k+1)) (by omega) (k+1) rfl (by omega)
    rw[if_neg (by simpa using h4)]at c
    refine gA ?_
    rw[←c]
    refine Za ?_
    exact j ((vl.length)-(k+1)) (by omega) (k+1) rfl (by omega)
   simp at h3
   obtain rfl:k=vl.length:=by omega
   rw[←hM]
   refine rg ?_
   exact hF.ret _ _ rfl (by trivial) (ZEW _) (ZES _) ⟨b,hb,rfl,rfl⟩
  exact u _ 0 rfl (by omega)
 exact y _ 0 rfl (by omega)
theorem Znl(n:Int):Zc ZEQ 118 [.int .i64 n] (.bool (dC (0≤n)&&dC (n<34359738368))):=by
 refine Ze (cR 118 f118) fun F st c=>?_
 refine gG ?_
 refine rb c ?_
 rfl
def ckI(st:St)(b5 b6 b7 b8 b9 b:Nat):St :=
 ((((st.upd b5 (.cells [.str []])).upd b6 (.cells [.map b])).upd b7 (.cells [.fn (.func 118) [] []])).upd b8 (.cells [.int .i64 0])).upd b9 (.cells [.bool false])
section
variable {st:St} {b5 b6 b7 b8 b9 b:Nat}
theorem Wu.i5(h:Wu st b5 b6 b7 b8 b9):(ckI st b5 b6 b7 b8 b9 b) b5=sO (.cells [.str []]):=by
 simp[ckI,ZFr,h.n6.1.symm,h.n7.2.1.symm,h.n8.2.2.1.symm,h.n9.2.2.2.1.symm]
theorem Wu.i6(h:Wu st b5 b6 b7 b8 b9):(ckI st b5 b6 b7 b8 b9 b) b6=sO (.cells [.map b]):=by
 simp[ckI,ZFr,h.n7.1.symm,h.n8.2.1.symm,h.n9.2.2.1.symm]
theorem Wu.i7(h:Wu st b5 b6 b7 b8 b9):(ckI st b5 b6 b7 b8 b9 b) b7=sO (.cells [.fn (.func 118) [] []]):=by
 simp[ckI,ZFr,h.n8.1.symm,h.n9.2.1.symm]
theorem Wu.i8(h:Wu st b5 b6 b7 b8 b9):(ckI st b5 b6 b7 b8 b9 b) b8=sO (.cells [.int .i64 0]):=by
 simp[ckI,ZFr,h.n9.1.symm]
theorem Wu.i9:(ckI st b5 b6 b7 b8 b9 b) b9=sO (.cells [.bool false]):=by
 simp[ckI,ZFr]
theorem Wu.im(h:Wu st b5 b6 b7 b8 b9){o:Ya}(hb:st b=sO o):(ckI st b5 b6 b7 b8 b9 b) b=sO o:=by
 have h5:b≠b5:=fun e=>by rw[e,h.n5]at hb;simp at hb
 have h6:b≠b6:=fun e=>by rw[e,h.n6.2]at hb;simp at hb
 have h7:b≠b7:=fun e=>by rw[e,h.n7.2.2]at hb;simp at hb
 have h8:b≠b8:=fun e=>by rw[e,h.n8.2.2.2]at hb;simp at hb
 have h9:b≠b9:=fun e=>by rw[e,h.n9.2.2.2.2]at hb;simp at hb
 simp[ckI,ZFr,h5,h6,h7,h8,h9,hb]
theorem Wu.isub(h:Wu st b5 b6 b7 b8 b9):st.sub (ckI st b5 b6 b7 b8 b9 b):=fun c o hc=>by
 have h5:c≠b5:=fun e=>by rw[e,h.n5]at hc;simp at hc
 have h6:c≠b6:=fun e=>by rw[e,h.n6.2]at hc;simp at hc
 have h7:c≠b7:=fun e=>by rw[e,h.n7.2.2]at hc;simp at hc
 have h8:c≠b8:=fun e=>by rw[e,h.n8.2.2.2]at hc;simp at hc
 have h9:c≠b9:=fun e=>by rw[e,h.n9.2.2.2.2]at hc;simp at hc
 simp[ckI,ZFr,h5,h6,h7,h8,h9,hc]
theorem ZyT(h:Wu st b5 b6 b7 b8 b9)(hρ:ZL ρ 8=sO (.d (.ptr b8 0)):=by rfl):
  YI ρ L (ckI st b5 b6 b7 b8 b9 b) [.cell1 8]=sO (True∧True,[.int .i64 0]):=by
 simp[YI,Kp,hρ,Wr,Yj,h.i8]
end
theorem ZlH(s:Wk)(hv:ZN s=true)(b:Nat)(l:List (Str×Int))(st:St)(hb:st b=sO (.map (JZ l)))(hk:∀t∈s.terms,∃v,Zp t.field l=sO v∧0≤v∧v<34359738368):
  Zf ZEQ 117 [.agg s.cells,.str [],.map b,.fn (.func 118) [] []] st (fun r S=>r=.ret (.int .i64 0)∧S=st):=by
 refine Zh (cR 117 f117) fun F hF=>?_
 refine rx @eQ7 ?_
 refine rx @eQ7 ?_
 refine cl (ZbA s) ?_
 rw[hv]
 refine iG ?_
 refine Zd (Zd ?_)
 refine xP 5 fun b5 h5=>?_
 refine xP 6 fun b6 h6=>?_
 refine xP 7 fun b7 h7=>?_
 refine xP 8 fun b8 h8=>?_
 refine xP 9 fun b9 h9=>?_
 refine rx @eQ7 ?_
 refine cV (ZdM s hv _) ?_ ?_
 ·rintro d S ⟨x,hx,hd,rfl⟩
  cases hd
  refine gR0 ?_
  refine Zb ?_
  have i:Wu st b5 b6 b7 b8 b9:=by
   have k6:=Zw h6
   have k7:=Zw h7
   have af:=Zw k7.2
   have k8:=Zw h8
   have ad:=Zw k8.2
   have ag:=Zw ad.2
   have k9:=Zw h9
   have y:=Zw k9.2
   have ac:=Zw y.2
   have ak:=Zw ac.2
   exact⟨h5,k6,⟨k7.1,af⟩,⟨k8.1,ad.1,ag⟩,⟨k9.1,y.1,ac.1,ak⟩⟩
  have hfew:=J7 hv
  rw[show(((((st.upd b5 (.cells [.str []])).upd b6 (.cells [.map b])).upd b7 (.cells [.fn (.func 118) [] []])).upd b8 (.cells [.int .i64 0])).upd b9 (.cells [.bool false]))=ckI st b5 b6 b7 b8 b9 b from rfl]at hx⊢
  refine KK hF rfl trivial [5,6,7,8,9] (by show([5,6,7,8,9]:List Nat).Nodup;decide) (W1 hx) (Zct s.terms (by unfold big;omega) x).Y (fun j hj=>rfl)
   (fun j=>.next) (fun j a=>a=ckI st b5 b6 b7 b8 b9 b) rfl ?_ ?_ ?_ ?_ ?_ ?_
  ·intro j a hj u hB F' ready busy hdr z ae
   subst hB
   simp only[Eqs,reduceCtorEq,ZEV,reduceIte,ZET,ZEX,ZEU,WP,Kb,Jh,Ko,List.isEmpty_nil,List.isEmpty_cons]
   refine rg ?_
   refine z fun ai=>?_
   have aj:(s.terms.getD j dE).field≠[]:=Zjw hv hj
   obtain⟨v,hg,h0,h1⟩:=hk _ (Zy hj)
   generalize htm:s.terms.getD j dE=tm at *
   have e1:=Wa (vD:=Kx) ZY tm.field l
   have e3:=Ww ZY tm.field
   simp only[show Qe tm.field=D.str tm.field from rfl]at e1 e3
   rw[hg]at e1
   have ab:(ckI st b5 b6 b7 b8 b9 b).upd b8 (.cells [.int .i64 0])=ckI st b5 b6 b7 b8 b9 b:=St.upd_self i.i8
   refine rh ?_
   refine Zm ?_
   simp only[Eqs,reduceCtorEq,ZEV,reduceIte,ZET,ZEX,ZEU,Zq (i.i6 ),Zq (i.im hb),e1,e3]
   refine rh ?_
   refine Zm ?_
   simp only[Eqs,reduceCtorEq,ZEV,reduceIte,ZET,ZEX,ZEU,Zq (i.i5 )]
   refine Zs rfl trivial (fun h=>by simp at h;exact absurd h aj) (fun _=>?_)
   refine gI ?_
   rw[show Kx v=.int .i64 v from rfl]
   refine rh ?_
   refine Zm ?_
   simp only[Eqs,reduceCtorEq,ZEV,reduceIte,ZET,ZEX,ZEU,Zq (i.i7 )]
   refine cl (Znl v) ?_
   refine Zs rfl trivial (fun h=>by simp at h;omega) (fun _=>?_)
   refine Zv (Zj (Zj ?_))
   exact ae.fin ⟨rfl,rfl⟩ ai (ZES _)
  ·intro q a u hB hq
   subst hB
   rw[Qj hq]
   have ah:=W1 (o:=Ya.dfr) hq
   have ab:(ckI st b5 b6 b7 b8 b9 b).upd b8 (.cells [.int .i64 0])=ckI st b5 b6 b7 b8 b9 b:=St.upd_self i.i8
   refine rh ?_
   refine Zm ?_
   simp only[Eqs,reduceCtorEq,ZEV,reduceIte,ZET,ZEX,ZEU,Zq (Wu.i9 )]
   refine i0 ?_
   refine rh ?_
   refine Zm ?_
   simp only[Eqs,reduceCtorEq,ZEV,reduceIte,ZET,ZEX,ZEU,Zq (i.i8 ),W5,ab]
   exact hF.ret1 (Zid ah (YC _ _)) (.int .i64 0) st (ZyT i) ⟨trivial,trivial⟩ (ZEW _) i.isub ⟨rfl,rfl⟩
  ·intro q a m hm u n
   simp at n
  ·intro q a m id hm u n
   simp at n
  ·intro q a m d hm u n
   simp at n
  intro m c n
  simp at n
 rintro d S ⟨x,hx,hd,rfl⟩
 cases hd
theorem Zoq(t:ZT){b z:Nat}{l:List (Str×Int)}{st:St}(hb:st b=sO (.map (JZ l)))(hz:st z=sO (.cells [.map b])):
  ZS ZEQ 230 [.agg t.cells,.ptr z 0] st (.int .i64 ((Zp t.field l).getD 0)) st:=by
 refine ZK (cR 230 f230) fun i F c=>?_
 clear i
 have e1:=Wa (vD:=Kx) ZY t.field l
 have e3:=Ww ZY t.field
 simp only[show Qe t.field=D.str t.field from rfl]at e1 e3
 refine rx @eQ8 ?_
 refine rx (nd2 @hb (nd2 @hz (nd2 @e1 (nd2 @e3 @ZnZ)))) ?_
 exact c rfl (by trivial) (ZEW _) (ZES _)
def Zar(s:Wk)(l:List (Str×Int)):Int:=s.base+Qf (fun t=>(Zp t.field l).getD 0) s.terms
theorem Zse(s:Wk)(hv:ZN s=true)(b:Nat)(l:List (Str×Int))(st:St)(hb:st b=sO (.map (JZ l)))(hk:∀t∈s.terms,∃v,Zp t.field l=sO v∧0≤v∧v<34359738368):
  Zf ZEQ 184 [.agg s.cells,.map b] st (fun r S=>r=.ret (.tup [.int .i64 (Zar s l),.int .i64 0])∧S=st):=by
 refine Zh (cR 184 f184) fun F hF=>?_
 have hE:=Zar.eq_1 s l
 have i:∀t∈s.terms,0≤(Zp t.field l).getD 0∧(Zp t.field l).getD 0<34359738368:=fun t ht=>by
  obtain⟨v,h1,h2,h3⟩:=hk t ht
  rw[h1];exact⟨h2,h3⟩
 refine rx @eQ7 ?_
 refine rx @eQ7 ?_
 refine cV (ZlH s hv b l st hb hk) ?_ ?_
 ·rintro d S ⟨hd,hS⟩
  obtain rfl:=hS.symm
  cases hd
  refine gR0 ?_
  refine gI ?_
  refine Zv (Zd ?_)
  refine xP 3 fun z hz=>?_
  have c:b≠z:=fun e=>by rw[e,hz]at hb;simp at hb
  refine rx @eQ7 ?_
  refine ZaA rfl rfl rfl rfl rfl (by trivial) (by trivial) (by exact ZgD s hv _ (fun t=>(Zp t.field l).getD 0) _ i (fun t ht=>(Zoq t (by rw[ZE0 _ _ c];exact hb) (ZEZ _ _ _)).VT (first:=[]) (args:=[_]) (caps:=[_]))) (Zm ?_)
  simp only[Eqs,reduceCtorEq,ZEV,reduceIte,ZET,ZEX,ZEU]
  exact hF.ret _ _ rfl (by trivial) (JA (by rw[hE]) rfl) (ZFi _ hz) ⟨rfl,rfl⟩
 rintro d S ⟨hd,_⟩
 cases hd
def WT(m:Msg)(d:Dfn)(path:Str)(b:Nat):List D:=[.str m.name,Zo m.fields,.str d.name,YR d.msgs,.str d.start,.str path,.map b]
theorem Zan(m:Msg)(d:Dfn)(path:Str)(f:Fld)(hv:ZN f.size=true)(b:Nat)(l:List (Str×Int))(st:St)(hb:st b=sO (.map (JZ l)))(hk:∀t∈f.size.terms,∃v,Zp t.field l=sO v∧0≤v∧v<34359738368):
  Zf ZEQ 138 [.agg (WT m d path b),.agg f.cells] st (fun r S=>r=.ret (.int .i64 (Zar f.size l))∧S=st):=by
 refine Zh (cR 138 f138) fun F hF=>?_
 have hE:=Zse f.size hv b l st hb hk
 refine rx (nd2 @eQ0 @WT.eq_1) ?_
 refine rg ?_
 refine cV (hE) ?_ ?_
 ·rintro dd S ⟨hd,hS⟩
  obtain rfl:=hS.symm
  cases hd
  refine gR0 ?_
  refine rg ?_
  exact hF.ret _ _ rfl (by trivial) (ZEW _) (ZES _) ⟨rfl,rfl⟩
 rintro dd S ⟨hd,_⟩
 cases hd
theorem ZcY{v of:Int}(hv:0≤v)(ho:1≤of):(v≤upS v of∧upS v of<v+of)∧upS v of % of=0∧((v+of)-1).tdiv of≤upS v of∧0≤((v+of)-1).tdiv of:=by
 unfold upS
 have e:((v+of)-1).tdiv of=(v+of-1) / of:=Int.tdiv_eq_ediv_of_nonneg (by omega)
 rw[e]
 have h1:=Int.emod_add_mul_ediv (v+of-1) of
 have h2:=Int.emod_nonneg (v+of-1) (show of≠0 by omega)
 have h3:=Int.emod_lt_of_pos (v+of-1) (show 0<of by omega)
 have h5:0≤(v+of-1) / of:=Int.ediv_nonneg (by omega) (by omega)
 have h4:(v+of-1) / of≤(v+of-1) / of*of:=by have:=Int.mul_le_mul_of_nonneg_left ho h5;rwa [Int.mul_one]at this
 have h6:(v+of-1) / of*of % of=0:=Int.mul_emod_left _ _
 rw[Int.mul_comm]at h1
 generalize (v+of-1) / of*of=x at *
 exact⟨by omega,h6,h4,h5⟩
theorem ZqB{v of:Int}(hv:0≤v∧v≤400000000)(ho:1≤of∧of≤1000):Zc ZEQ 99 [.int .i64 v,.int .i64 of] (.int .i64 (upS v of)):=by
 obtain⟨hb,_,hb2,hb3⟩:=ZcY hv.1 ho.1
 have he:((v+of)-1).tdiv of*of=upS v of:=rfl
 refine Ze (cR 99 f99) fun F st c=>?_
 refine gG ?_
 generalize ((v+of)-1).tdiv of=q at *
 rw[he]
 generalize upS v of=u at *
 refine aa ?_
 refine ri c ?_
 rfl
def Zhh(n:Int):Bool:=(dC (n=2) ||decide (n=4)) ||(dC (8≤n)&&dC (n≤512)&&dC (n.tmod 8=0))
theorem Zk8{n v:Int}(hn:Zhh n=true)(hv:0≤v∧v≤335544320):Zc ZEQ 59 [.int .i64 n,.int .i64 v] (.tup [.int .i64 (upS v n-v),.int .i64 0]):=by
 have hb:1≤n∧n≤1000:=by
  unfold Zhh at hn
  simp only[ZFb,ZEY,decide_eq_true_eq]at hn
  omega
 have hU:=ZcY hv.1 hb.1
 have i:=ZqB (v:=v) (of:=n) ⟨by omega,by omega⟩ hb
 have hP:=Zhh.eq_1 n
 have ht:n.tmod 8=n % 8:=Int.tmod_eq_emod_of_nonneg (by omega)
 rw[hn]at hP
 refine Ze (cR 59 f59) fun F st c=>?_
 refine gG ?_
 refine⟨fun _=>⟨by decide,by rw[ht];omega,by rw[ht];omega⟩,?_⟩
 rw[←hP]
 refine rg ?_
 have hd:(dC (v<0) ||decide (335544320<v))=false:=by simp;omega
 refine Zs rfl trivial (fun h=>by simp at h;omega) (fun _=>?_)
 refine rg ?_
 refine cl (i) ?_
 generalize upS v n=u at *
 refine aa ?_
 refine rt c ?_
 rfl
def Zqc:List D:=[.int .i64 16,.int .i64 0,.int .i64 0,.int .i64 0,.fn (.func 192) [] [],.fn (.func 193) [] [],.int .i64 16,.int .i64 65535,.int .i64 0,.int .i64 0,.fn (.func 194) [] [],.fn (.func 195) [] [],.int .i64 32,.int .i64 1,.int .i64 0,.int .i64 0,.fn (.func 196) [] [],.fn (.func 197) [] []]
theorem Zep:Zc ZEQ 154 [] (.agg Zqc):=by
 refine Ze (cR 154 f154) fun F st c=>?_
 refine gG ?_
 exact c rfl (by trivial) (ZEW _) (ZES _)
def Jb(n:Int):Int:=if n=3 then 32 else 16
theorem ZxN{n:Int}(h:n=1∨n=2∨n=3):∃a b c f g,part Zqc ((n-1).toNat*6) 6=[.int .i64 (Jb n),a,b,c,f,g]:=by
 rcases h with rfl|rfl|rfl<;>exact⟨_,_,_,_,_,rfl⟩
theorem Zsy{n:Int}(h:n=1∨n=2∨n=3){a b c f g:D}(hp:part Zqc ((n-1).toNat*6) 6=[.int .i64 (Jb n),a,b,c,f,g]):Zc ZEQ 100 [.int .i64 n] (.tup [.agg [.int .i64 (Jb n),a,b,c,f,g],.bool true]):=by
 refine Ze (cR 100 f100) fun F st i=>?_
 unfold part at hp
 have hl:Zqc.length=18:=rfl
 refine gG ?_
 refine cG (Zep) ?_
 refine Zs rfl trivial (fun h=>by simp at h;omega) (fun _=>?_)
 refine rg ?_
 refine cX (nd2 @hp @hl) (Zep) ?_
 refine aa ?_
 refine rt i ?_
 rfl
theorem ZpH{n:Int}(h:n=1∨n=2∨n=3):Zc ZEQ 60 [.int .i64 n] (.tup [.int .i64 (Jb n),.int .i64 0]):=by
 obtain⟨a,b,c,f,g,hp⟩:=ZxN h
 have hc:=Zsy h hp
 refine Ze (cR 60 f60) fun F st i=>?_
 refine gG ?_
 refine cl (hc) ?_
 refine rg ?_
 refine iG ?_
 refine rt i ?_
 rfl
def YS(v i:Nat):Nat:=v / 128 ^ i
theorem Jm(v i:Nat):YS v (i+1)=YS v i / 128:=by unfold YS;rw[Nat.pow_succ,Nat.div_div_eq_div_mul]
def ZjX(v k:Nat):UInt8:=UInt8.ofNat (YS v k % 128+128)
def ZmD(v k:Nat):UInt8:=UInt8.ofNat (YS v k % 128)
def Zlz(v i:Nat):Str:=(ZE4 i).map (ZjX v)
theorem Zwv(v i:Nat):Zlz v (i+1)=Zlz v i++[ZjX v i]:=by unfold Zlz;rw[List.range_succ,List.map_append];rfl
theorem ZeJ(v i:Nat):(Zlz v i).length=i:=by simp[Zlz]
def QH(v i:Nat):Str:=Zlz v i++[ZmD v i]
def Yn(v:Nat):Nat:=if YS v 0<128 then 0 else if YS v 1<128 then 1 else if YS v 2<128 then 2 else if YS v 3<128 then 3 else 4
theorem ZnX{v:Nat}(hv:v<34359738368):Yn v≤4∧(YS v 0<128↔Yn v≤0)∧(YS v 1<128↔Yn v≤1)∧(YS v 2<128↔Yn v≤2)∧(YS v 3<128↔Yn v≤3)∧YS v 4<128:=by
 have e0:YS v 0=v:=by simp[YS]
 have e1:=Jm v 0
 have e2:=Jm v 1
 have e3:=Jm v 2
 have e4:=Jm v 3
 have hg:=Yn.eq_1 v
 generalize Yn v=g at *
 generalize YS v 0=r0 at *
 generalize YS v 1=r1 at *
 generalize YS v 2=r2 at *
 generalize YS v 3=r3 at *
 generalize hr4:YS v 4=r4 at *
 have c:g≤4∧(r0<128↔g≤0)∧(r1<128↔g≤1)∧(r2<128↔g≤2)∧(r3<128↔g≤3)∧r4<128:=by
  repeat' (split at hg)
  all_goals omega
 exact c
theorem Zrm{v:Nat}(hv:v<34359738368){i:Nat}(hi:i<5):YS v i<128↔Yn v≤i:=by
 obtain⟨h,h0,h1,h2,h3,h4⟩:=ZnX hv
 have h5:i=0∨i=1∨i=2∨i=3∨i=4:=by omega
 rcases h5 with rfl|rfl|rfl|rfl|rfl
 ·exact h0
 ·exact h1
 ·exact h2
 ·exact h3
 exact⟨fun _=>h,fun _=>h4⟩
theorem Zkx(n:Int):Zc ZEQ 199 [.int .i64 n] (.bool (dC (0≤n)&&dC (n<34359738368))):=by
 refine Ze (cR 199 f199) fun F st c=>?_
 refine gG ?_
 refine rb c ?_
 rfl
theorem Zn8{a T:St}{tk:Tok}{k:Nat}(h:∀b,tk=.tip b→a b=nO):(a.or T).own tk k=a.or (T.own tk k):=by
 cases tk with
 |tip b=>exact Zgu (h b rfl)
 |_=>rfl
theorem Zny{v:Int}(st:St):Zf ZEQ 155 [.int .i64 v] st fun r S=>∃x,st x=nO∧r=.ret (.fn (.func 198) [] [.ptr x 0])∧S=st.or (ZFj x (.cells [.int .i64 v])):=by
 refine Zh (cR 155 f155) fun F hF=>?_
 refine rg ?_
 refine Zd ?_
 refine xP 1 fun x hx=>?_
 refine rg ?_
 exact hF.ret _ _ rfl (by trivial) (ZEW _) (ZES _) ⟨x,hx,rfl,Qj hx⟩
theorem u8n{n:Nat}(h:n<256):(UInt8.ofNat n).toNat=n:=by rw[UInt8.toNat_ofNat'];omega
theorem ZtS{n:Int}(h:0≤n∧n≤255):IntKind.u8.wrap n=n:=by
 unfold IntKind.wrap
 simp[IntKind.bits,IntKind.signed]
 omega
theorem Zkw{v:Nat}(hv:v<34359738368)(x:Nat):ZcC ZEQ (.fn (.func 198) [] [.ptr x 0]) (5-Yn v) (fun j=>[ZM (QH v (Yn v+j))]) (ZFj x (.cells [.int .i64 v])):=by
 intro y go A a0 ak hA hd
 obtain⟨hg4,-⟩:=ZnX hv
 refine Zf.V (first:=[]) (args:=[y]) (caps:=[.ptr x 0]) (Zh (cR 198 f198) fun F hF=>?_)
 have hx:∀a T,Yb a T→T x=sO (.cells [.int .i64 (v:Int)])→(a.or T) x=sO (.cells [.int .i64 (v:Int)]):=fun a T bc hT=>by rw[ZG (bc x _ hT)];exact hT
 have ae:(ZFj x (.cells [.int .i64 (v:Int)])) x=sO (.cells [.int .i64 (v:Int)]):=YC _ _
 generalize hT:ZFj x (.cells [.int .i64 (v:Int)])=T at *
 refine rg ?_
 refine rh ?_
 refine Zm ?_
 simp only[Eqs,reduceCtorEq,ZEV,reduceIte,ZET,ZEX,ZEU,hx a0 T hd ae]
 rw[show(v:Int)=((YS v 0:Nat):Int) by simp[YS]]
 refine kl ((a0.or T)) [(0,.d y),(1,.d (.ptr x 0)),(3,.d (.sl .full 0 1 fun _=>[])),(4,.d (.int .i64 ((YS v 0:Nat):Int)))] [] (.skip (.skip (.cons (.d (WH fun b h=>by cases h)) (KH _)))) (WU _) ?_
 refine Zb (fr (5) (fun i Q=>∀a tk row,Yb a (T.own tk i)→tk.okIn (a.or T)→A (i-Yn v) a→(∀j,j<i-Yn v→go j=.next)→ZV byC row (Zlz v i)→i≤5→Q [(0,.d y),(1,.d (.ptr x 0)),(3,.d (.sl tk i 1 row)),(4,.d (.int .i64 ((YS v i:Nat):Int)))] [] (a.or (T.own tk i))) (fun n ah=>?_) fun ay=>?_)
 ·clear hA hd
  intro i hn a tk row hd z hA ac ai hi
  have ar:=Zn8 (a:=a) (T:=T) (tk:=tk) (k:=i) (fun b hb=>by subst hb;exact hd b (.tip i) (ZEZ _ _ _))
  have a6:(T.own tk i) x=sO (.cells [.int .i64 (v:Int)]):=by
   cases tk with
   |tip b =>
    have hb:x≠b:=fun e=>by have:=(Q6 z).2;rw[←e,ae]at this;simp at this
    show(T.upd b _) x=_
    rw[ZE0 _ _ hb];exact ae
   |full=>exact ae
   |none=>exact ae
  refine rh ?_
  refine Zm ?_
  simp only[Eqs,reduceCtorEq,ZEV,reduceIte,ZET,ZEX,ZEU,hx a _ hd a6]
  refine cl (Zkx (v:Int)) ?_
  refine cd (fun h1=>?_) (fun h1=>?_)
  ·have az:i<5:=by simp at h1;omega
   have hlt:i=5∨i<5:=by omega
   obtain⟨r,hr⟩:∃r:Nat,r=YS v i:=⟨_,rfl⟩
   have ab:((r:Nat):Int).tmod 128=((r % 128:Nat):Int):=by rw[Int.tmod_eq_emod_of_nonneg (by omega)];omega
   have a7:IntKind.u8.wrap (((r:Nat):Int).tmod 128)=((ZmD v i).toNat:Int):=by
    rw[ab,ZtS (by omega)];unfold ZmD;rw[←hr,u8n (by omega)]
   have a9:IntKind.u8.wrap (((r:Nat):Int).tmod 128+128)=((ZjX v i).toNat:Int):=by
    rw[ab,show((r % 128:Nat):Int)+128=((r % 128+128:Nat):Int) by omega,ZtS (by omega)];unfold ZjX;rw[←hr,u8n (by omega)]
   rw[←hr]
   refine rx @a7 ?_
   refine⟨by omega,by omega,by omega,by decide,by rw[ab];omega,by rw[ab];omega,?_⟩
   refine QE ((a.or (T.own tk i))) (.full) rfl rfl rfl rfl rfl rfl (by trivial) (by trivial) rfl (by first|trivial|assumption) (by omega) (by (unfold big;omega)) fun t1 aw=>Zm ?_
   simp only[Eqs,reduceCtorEq,ZEV,reduceIte,ZET,ZEX,ZEU]
   have am:ZV byC (YT i (fun i=>row i) (Z4 [D.int IntKind.u8 0] ([0].zip [D.int IntKind.u8 ((ZmD v i).toNat:Int)]))) (QH v i):=ai.snoc (x:=ZmD v i) rfl (ZeJ v i).symm
   have a3:i+1=(QH v i).length:=by unfold QH;rw[ZE1,ZeJ];rfl
   refine QF (s':=a.or (T.own tk i)) (Wm aw) ?_
   refine kl ((a.or (T.own tk i))) [(0,.d y),(1,.d (.ptr x 0)),(3,.d (.sl tk i 1 row)),(4,.d (.int .i64 (r:Int))),(5,.d (ZM (QH v i)))] [] (.skip (.skip (.skip (.skip (.cons (.d (am.le a3)) (KH _)))))) (WU _) ?_
   clear aw
   refine jU [1,0] (fun Q=>∀a,Yb a (T.own tk i)→tk.okIn (a.or T)→A (i+1-Yn v) a→(∀j,j<i+1-Yn v→go j=.next)→Q F [(0,.d y),(1,.d (.ptr x 0)),(3,.d (.sl tk i 1 row)),(4,.d (.int .i64 (r:Int))),(34,.d (.bool false))] [] (a.or (T.own tk i))) ?_ fun fin=>?_
   ·intro a hd z hA ac
    have a8:tk.okIn T:=by
     cases tk with
     |tip b=>exact(Q6 z).2
     |full=>trivial
     |none=>exact z.elim
    have al:Yb a T:=fun c o hc=>hd c o (Wm a8 c o hc)
    have ar:=Zn8 (a:=a) (T:=T) (tk:=tk) (k:=i) (fun b hb=>by subst hb;exact hd b (.tip i) (ZEZ _ _ _))
    rw[←ar,show(a.or T).own tk i=(a.or T).own tk (i*1) by rw[Nat.mul_one]]
    refine rx @a9 ?_
    refine⟨by decide,by rw[ab];omega,by rw[ab];omega,by rw[ab];omega,by rw[ab];omega,?_⟩
    refine QE ((a.or T)) (tk) rfl rfl rfl rfl rfl rfl (by trivial) (by trivial) (by rw[Nat.mul_one]) z (by omega) (by (unfold big;omega)) fun t2 ap=>Zm ?_
    simp only[Eqs,reduceCtorEq,ZEV,reduceIte,ZET,ZEX,ZEU]
    have ad:=ai.snoc (x:=ZjX v i) (row2:=Z4 [D.int IntKind.u8 0] ([0].zip [D.int IntKind.u8 ((ZjX v i).toNat:Int)])) rfl (ZeJ v i).symm
    rw[←Zwv]at ad
    have aq:Yb a (T.own t2 (i+1)):=by
     cases t2 with
     |tip b =>
      intro c o hc
      by_cases ax:c=b
      ·rw[ax];exact(Q6 ap).1
      rw[show(T.own (.tip b) (i+1)) c=T c from ZE0 _ _ ax]at hc;exact al c o hc
     |full=>exact al
     |none=>exact al
    have av:=Zn8 (a:=a) (T:=T) (tk:=t2) (k:=i+1) (fun b hb=>by subst hb;exact aq b (.tip (i+1)) (ZEZ _ _ _))
    rw[Nat.mul_one,av]
    have bb:Zjj .i64 (r:Int) 7=((YS v (i+1):Nat):Int):=by
     rw[Jm,←hr]
     unfold Zjj
     rw[show((2:Int) ^ (Nat.min (7:Int).toNat IntKind.i64.bits))=128 from rfl,Int.fdiv_eq_ediv_of_nonneg _ (by decide)]
     omega
    have hvb:YS v (i+1)≤v:=by unfold YS;exact Nat.div_le_self _ _
    refine rx @bb ?_
    refine⟨by decide,by omega,by omega,?_⟩
    refine Za ?_
    exact ah ((5)-(i+1)) (by omega) (i+1) rfl a t2 _ aq ap hA ac ad (by omega)
   have a4:=Zrm hv az
   rw[←hr]at a4
   by_cases hq:r<128
   ·have aj:dC ((r:Int)<128)=true:=by simpa using(show(r:Int)<128 by omega)
    have ba:i=Yn v+(i-Yn v):=by omega
    have af:=(ak (i-Yn v) (by omega) ac a hA).frame hd
    simp only[show Yn v+(i-Yn v)=i from ba.symm]at af
    refine rx @aj ?_
    refine vV (af) ?_ ?_
    ·rintro d S ⟨s',⟨t,ag⟩,ao,rfl⟩
     have au:tk.okIn (s'.or T):=by
      cases tk with
      |tip b=>show(s'.or T) b=nO;rw[ZG (ao b (.tip i) (ZEZ _ _ _))];exact(Q6 z).2
      |full=>trivial
      |none=>exact z.elim
     rw[show i-Yn v+1=i+1-Yn v by omega]at ag
     cases u:go (i-Yn v) with
     |next =>
      rw[u]at t
      cases t
      refine gR0 ?_
      refine i0 ?_
      refine Zv ?_
      refine fin s' ao au ag fun j hj=>?_
      by_cases a5:j=i-Yn v
      ·rw[a5];exact u
      exact ac j (by omega)
     |stop c =>
      rw[u]at t
      cases t
      refine gR0 ?_
      refine i1 ?_
      exact hF.ret (.tup []) _ rfl trivial (ZEW _) (ZES _) ⟨s',.stop (i-Yn v) c (by omega) ac u (by rw[show i-Yn v+1=i+1-Yn v by omega];exact ag),Ky _ _⟩
     |pan d=>rw[u]at t;cases t
    rintro d S ⟨s',⟨t,ag⟩,ao,rfl⟩
    cases u:go (i-Yn v) with
    |pan d' =>
     rw[u]at t
     cases t
     exact hF.pan _ (ZES _) ⟨s',.pan (i-Yn v) d (by omega) ac u ag,Ky _ _⟩
    |next=>rw[u]at t;cases t
    |stop c=>rw[u]at t;cases t
   have aj:dC ((r:Int)<128)=false:=by simpa using(show ¬(r:Int)<128 by omega)
   refine rx @aj ?_
   refine Q1 rfl (e:=.d (.bool false)) (Zm ?_)
   simp only[Eqs,reduceCtorEq,ZEV,reduceIte,ZET,ZEX,ZEU]
   refine i0 ?_
   refine Zv ?_
   exact fin a hd z (by rw[show i+1-Yn v=i-Yn v by omega];exact hA) (fun j hj=>ac j (by omega))
  have h5:i=5:=by simp at h1;omega
  subst h5
  refine ZP rfl ?_
  exact hF.fin (.tup []) _ rfl trivial (ZEW _) (ZES _) ⟨a,.all ac hA,Ky _ _⟩
 exact ay _ 0 rfl a0 .full _ hd trivial (by rw[Nat.zero_sub];exact hA) (by intro j hj;omega) ZV.nil (by omega)
def apV(st:St)(b2 b4 b5:Nat)(d:D):St:=((st.upd b2 (.cells [.nilsl])).upd b4 (.cells [d])).upd b5 (.cells [.int .i64 0])
theorem ZlM{v:Nat}(hv:v<34359738368)(st:St):Zf ZEQ 101 [.nilsl,.int .i64 v] st fun r S=>r=.ret (.tup [ZM (QH v (Yn v)),.int .i64 0])∧S=st:=by
 refine Zh (cR 101 f101) fun F hF=>?_
 obtain⟨hg4,-⟩:=ZnX hv
 have ac:(QH v (Yn v)).length=Yn v+1:=by unfold QH;rw[ZE1,ZeJ];rfl
 refine rg ?_
 refine Zd (Zd ?_)
 refine xP 2 fun b2 h2=>?_
 refine xP 4 fun b4 h4=>?_
 refine xP 5 fun b5 h5=>?_
 refine rg ?_
 refine cV (Zny (v:=(v:Int)) _) ?_ ?_
 ·rintro d S ⟨x,hx,hd,rfl⟩
  cases hd
  refine gR0 ?_
  refine Zb ?_
  have k4:=Zw h4
  have k5:=Zw h5
  have ag:=Zw k5.2
  rw[show((st.upd b2 (.cells [.nilsl])).upd b4 (.cells [.nilsl])).upd b5 (.cells [.int .i64 0])=apV st b2 b4 b5 .nilsl from rfl]at hx⊢
  have g2:∀d,(apV st b2 b4 b5 d) b2=sO (.cells [.nilsl]):=fun d=>by unfold apV;rw[ZE0 _ _ ag.1.symm,ZE0 _ _ k4.1.symm,ZEZ]
  have g4:∀d,(apV st b2 b4 b5 d) b4=sO (.cells [d]):=fun d=>by unfold apV;rw[ZE0 _ _ k5.1.symm,ZEZ]
  have g5:∀d,(apV st b2 b4 b5 d) b5=sO (.cells [.int .i64 0]):=fun d=>by unfold apV;rw[ZEZ]
  have u4:∀d d',(apV st b2 b4 b5 d).upd b4 (.cells [d'])=apV st b2 b4 b5 d':=fun d d'=>by unfold apV;rw[St.upd_comm _ _ _ k5.1.symm,ZFd]
  have u5:∀d,(apV st b2 b4 b5 d).upd b5 (.cells [.int .i64 0])=apV st b2 b4 b5 d:=fun d=>by unfold apV;rw[ZFd]
  have sb:∀d,st.sub (apV st b2 b4 b5 d):=fun d=>by unfold apV;exact ZFx (ZFx (ZFi _ h2) (ZFi _ h4)) (ZFi _ (by rw[ZE0 _ _ k5.1];exact k5.2))
  refine KK hF rfl trivial [2,4,5] (by show([2,4,5]:List Nat).Nodup;decide) (W1 hx) (Zkw hv x).Y (fun j hj=>rfl)
   (fun j=>.stop .ret) (fun j a=>(j=0∧a=apV st b2 b4 b5 .nilsl)∨(0<j∧a=apV st b2 b4 b5 (ZM (QH v (Yn v))))) (.inl ⟨rfl,rfl⟩) ?_ ?_ ?_ ?_ ?_ ?_
  ·intro j a hj u hB F' ready n hdr z af
   have ai:j=0:=by
    refine Nat.eq_zero_of_not_pos fun h=>?_
    have:=u 0 h
    simp at this
   subst ai
   rcases hB with ⟨_,rfl⟩|⟨h,_⟩
   ·skip
    simp only[Eqs,reduceCtorEq,ZEV,reduceIte,ZET,ZEX,ZEU,WP,Kb,Jh,Ko,List.isEmpty_nil,List.isEmpty_cons]
    refine rg ?_
    refine z fun ah=>?_
    have ad:Yb (apV st b2 b4 b5 (ZM (QH v (Yn v)))) n:=fun c o hc=>by
     have h1:=ah c o hc
     unfold apV at h1⊢
     have a1:=Zw h1
     have a2:=Zw a1.2
     rw[ZE0 _ _ a1.1,ZE0 _ _ a2.1];exact a2.2
    refine rh ?_
    refine Zm ?_
    simp only[Eqs,reduceCtorEq,ZEV,reduceIte,ZET,ZEX,ZEU,Zq (g2 _)]
    refine QE (((apV st b2 b4 b5 .nilsl).or n)) (.full) rfl rfl rfl rfl rfl rfl (by trivial) (by trivial) rfl (by first|trivial|assumption) (by (rw[ac];omega)) (by (rw[ac];unfold big;omega)) fun t1 y=>Zm ?_
    simp only[Eqs,reduceCtorEq,ZEV,reduceIte,ZET,ZEX,ZEU,Zn7 y (Zq (g4 _)),Zn7 y (Zq (g5 _)),ZE0 _ _ k5.1]
    have ae:ZV u8C (YT 0 (fun _=>[]) fun i=>u8C (ZE8 (QH v (Yn v)) i dE)) ([]++QH v (Yn v)):=ZV.nil.app ZV.self rfl
    have ab:((apV st b2 b4 b5 (ZM (QH v (Yn v)))).or n).sub (((((((apV st b2 b4 b5 .nilsl).or n).own t1 (List.length (QH v (Yn v))*1)).upd b4 (.cells [.sl t1 (List.length (QH v (Yn v))) 1 (YT 0 (fun _=>[]) fun i=>u8C (ZE8 (QH v (Yn v)) i dE))])).upd b5 (.cells [.int .i64 0])).upd b4 (.cells [ZM (QH v (Yn v))]))):=fun c o hc=>by
     by_cases c4:c=b4
     ·subst c4;rw[ZEZ];rw[Zq (g4 _)]at hc;exact hc
     rw[ZE0 _ _ c4]
     by_cases c5:c=b5
     ·subst c5;rw[ZEZ];rw[Zq (g5 _)]at hc;exact hc
     rw[ZE0 _ _ c5,ZE0 _ _ c4]
     refine Zn7 y ?_
     have he:(apV st b2 b4 b5 (ZM (QH v (Yn v)))) c=(apV st b2 b4 b5 .nilsl) c:=by unfold apV;rw[ZE0 _ _ c5,ZE0 _ _ c4,ZE0 _ _ c5,ZE0 _ _ c4]
     unfold St.or at hc⊢
     rw[he]at hc;exact hc
    refine J8 (b:=b4) (by rw[ZE0 _ _ k5.1.symm,ZEZ]) (.cons (ae.le (by simp)) .nil) ?_
    refine QF (s':=(apV st b2 b4 b5 (ZM (QH v (Yn v)))).or n) ab ?_
    exact af.ret ⟨rfl,.inr ⟨by omega,rfl⟩⟩ ad (ZES _)
   omega
  ·intro q a u hB hq
   have:=u 0 (by omega)
   simp at this
  ·intro q a m hm u t hB hq
   rcases hB with ⟨h,_⟩|⟨_,rfl⟩
   ·omega
   rw[Qj hq]
   exact hF.ret1 hq (.tup [ZM (QH v (Yn v)),.int .i64 0]) st (ds:=[ZM (QH v (Yn v)),.int .i64 0]) (p:=True∧True∧True) (by simp[YI,Kp,ZL,Wr,Yj,g4,g5]) ⟨trivial,trivial,trivial⟩ (ZEW _) (sb _) ⟨rfl,rfl⟩
  ·intro q a m id hm u t
   simp at t
  ·intro q a m d hm u t
   simp at t
  intro m c t
  simp at t
  exact .inl t.symm
 rintro d S ⟨x,hx,hd,rfl⟩
 cases hd
theorem Zp4{v:Nat}(hv:v<34359738368):Zc ZEQ 61 [.int .i64 v] (.tup [.int .i64 ((Yn v:Int)+1),.int .i64 0]):=by
 refine Ze (cR 61 f61) fun F st c=>?_
 have i:(QH v (Yn v)).length=Yn v+1:=by unfold QH;rw[ZE1,ZeJ];rfl
 refine gG ?_
 refine cV (ZlM hv _) ?_ ?_
 ·rintro d S ⟨hd,hS⟩
  obtain rfl:=hS.symm
  cases hd
  refine gR0 ?_
  refine rx @W8 ?_
  refine rt c ?_
  rw[i];rfl
 rintro d S ⟨hd,_⟩
 cases hd
end Go.DL
