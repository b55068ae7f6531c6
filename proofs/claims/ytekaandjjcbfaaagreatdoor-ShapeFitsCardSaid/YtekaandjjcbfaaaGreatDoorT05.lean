/- Lemmas: W24, W25, W26, W27, V01, V02, W28, W29, W30, W31, W32, W33, W34, W35, W36, W37, W38, W39, W40, W41, W42, W43, W44, W45, W46, W47, W48, W49, W50, EvA, EvB, EvC, EvD, EvE, EvF. -/
import Derived.Test.YtekaandjjcbfaaaGreatDoorT04
set_option maxHeartbeats 16000000
set_option maxRecDepth 100000
set_option linter.all false
open Option renaming some → sO, none → nO
open Inhabited renaming default → dE
open Decidable renaming decide → dC
open Go.Proofs.Tryz
open And renaming intro → ZER
open Bool renaming and_eq_true → ZEY, false_and → ZFh, false_eq_true → ZFn, or_eq_true → ZFb, true_and → ZFe
open Go.DL.D.Le renaming refl → ZEW
open Go.DL.St renaming sub_refl → ZES, sub_trans → ZFx, sub_upd → ZFi, upd_ne → ZE0, upd_same → ZEZ, upd_upd → ZFd
open Go.DL.Val renaming cells_eq → ZFf
open Go.Proofs.Tryz renaming prog → ZEQ
open Int renaming reduceEq → ZFy, reduceToNat → ZEV
open List renaming append_assoc → ZFt, append_nil → ZFm, getD → ZE8, getElem?_append_left → ZFp, getElem?_eq_none → ZFA, getElem_of_mem → ZFa, length_append → ZE1, length_cons → ZE5, length_drop → ZFw, length_take → ZE9, map_cons → ZE7, map_nil → ZFo, range → ZE4, take_length → ZFc
open Nat renaming add_mul → ZFk, le_refl → ZE6, reduceAdd → ZEX, reduceEqDiff → ZET, reduceLeDiff → ZEU
open Option renaming getD_some → ZFs, map_eq_some_iff → ZE3, map_some → ZFl
open Option.some renaming injEq → ZEP
open Prod.mk renaming injEq → ZE2
namespace Go.DL
open Go Go.Proofs
variable {kp:Option (List Nat)}{L:Loc}{ρ:Env}{s:St}{w:World}{os:List DOp}{ds:List D}{B:List (Nat × Rd)}{dst:Option Nat}{tmps:Array Value}{g:G}{Φ:Res→St→Prop}{ν:Nat→Nat}{xs:List Opd}{side:Prop}{row:Nat→List D}
def ZD(d:Dfn)(s:Str):Msg:=d.msgs.getD (ixS d s) dE
def Qa(f:Fld)(x:Val)(b:Int):Int :=
 if f.kind=1∨f.kind=2 then b+f.bits
 else if f.kind=3 then b+8*(Yn x.int.toNat+1:Nat)
 else if f.kind=4 then b+8*x.bytes.length
 else if f.kind=5 then b+8*x.bytes.length+8
 else if f.kind=6 then b+8*(ZaV x.hdrs).length
 else if f.kind=10 then upS b f.bits
 else if f.kind=11 then b+Jb f.check
 else b
def W6(rec:Val→Int):List Val→Int→Int
 | [],b=>b
 |y::r,b=>W6 rec r (b+8*rec y)
def Km(rec:Val→Int):List Fld→List Val→Int→Int
 | [],_,b=>b
 |f::r,ps,b=>if WK f then Km rec r (ps.drop 1) (W6 rec (ps.getD 0 dE).parts (Qa f (ps.getD 0 dE) b)) else Km rec r ps (Qa f dE b)
def lenS(d:Dfn):Nat→Msg→Val→Int
 |0,_,_=>0
 |n+1,m,v=>(Km (fun y=>lenS d n (ZD d y.name) y) m.fields v.parts 0).tdiv 8
structure FOk(f:Fld):Prop where
 num:f.kind=1∨f.kind=2→0≤f.bits∧f.bits≤600
 pad:f.kind=10→Zhh f.bits=true
 chk:f.kind=11→f.check=1∨f.check=2∨f.check=3
structure MOk(m:Msg):Prop where
 few:m.fields.length≤40
 fld:∀f∈m.fields,FOk f
theorem Zlx{n:Int}(h:Zhh n=true):2≤n∧n≤512:=by
 unfold Zhh at h
 simp only[ZFb,ZEY,decide_eq_true_eq]at h
 omega
theorem Zvp(l:List Hdr):(ZaV l).length=QU l+4*l.length+2:=by
 unfold ZaV
 rw[ZE1]
 have:(l.flatMap ZfN).length=QU l+4*l.length:=by
  induction l with
  |nil=>rfl
  |cons h r ih=>rw[List.flatMap_cons,ZE1,ih];simp only[ZfN,QU,ZE1,ZE5,List.length_nil];omega
 rw[this];rfl
theorem Ztu(v:Nat):Yn v≤4:=by
 unfold Yn
 repeat' split
 all_goals omega
theorem Zb6{f:Fld}{x:Val}{b:Int}(hf:FOk f)(hb:0≤b)(hh:x.hdrs.length≤100):b≤Qa f x b∧Qa f x b≤b+600+8*(x.bytes.length+QU x.hdrs:Nat)+3300:=by
 have h3:=Ztu x.int.toNat
 have h6:=Zvp x.hdrs
 have hck:Jb f.check=32∨Jb f.check=16:=by unfold Jb;split<;>simp
 unfold Qa
 by_cases c1:f.kind=1∨f.kind=2
 ·have:=hf.num c1;rw[if_pos c1];omega
 rw[if_neg c1]
 by_cases c3:f.kind=3
 ·rw[if_pos c3];omega
 rw[if_neg c3]
 by_cases c4:f.kind=4
 ·rw[if_pos c4];omega
 rw[if_neg c4]
 by_cases c5:f.kind=5
 ·rw[if_pos c5];omega
 rw[if_neg c5]
 by_cases c6:f.kind=6
 ·rw[if_pos c6];omega
 rw[if_neg c6]
 by_cases c:f.kind=10
 ·rw[if_pos c]
  have h1:=Zlx (hf.pad c)
  have h2:=(ZcY hb (show 1≤f.bits by omega)).1
  omega
 rw[if_neg c]
 by_cases i:f.kind=11
 ·rw[if_pos i];omega
 rw[if_neg i];omega
theorem QM{rec:Val→Int}:∀{l:List Val} {b:Int},(∀y∈l,0≤rec y∧8*rec y≤20000*(wtN y:Int))→b≤W6 rec l b∧W6 rec l b≤b+20000*(wtL l:Int)
 | [],b,_=>by simp[W6,wtL]
 |y::r,b,h=>by
  have h1:=h y (by simp)
  have h2:=QM (rec:=rec) (l:=r) (b:=b+8*rec y) fun z hz=>h z (by simp[hz])
  simp only[W6,wtL]
  omega
theorem Qx{rec:Val→Int}:∀{l:List Fld} {ps:List Val} {b:Int},(∀f∈l,FOk f)→0≤b→(∀x∈ps,x.hdrs.length≤100∧∀y∈x.parts,0≤rec y∧8*rec y≤20000*(wtN y:Int)) →
  b≤Km rec l ps b∧Km rec l ps b≤b+600*(l.length:Int)+3300*(l.length:Int)+20000*(wtL ps:Int)
 | [],ps,b,_,hb,_=>by simp only[Km,List.length_nil];omega
 |f::r,ps,b,hf,hb,hp=>by
  have c:=hf f (by simp)
  have i:∀g∈r,FOk g:=fun g hg=>hf g (by simp[hg])
  simp only[Km,ZE5]
  split
  ·cases ps with
   |nil =>
    have h1:=Zb6 (x:=dE) c hb (by simp[show(dE:Val).hdrs=[] from rfl])
    have e1:(dE:Val).bytes.length=0:=rfl
    have e2:QU (dE:Val).hdrs=0:=rfl
    have h2:=Qx (rec:=rec) (l:=r) (ps:=[]) (b:=Qa f dE b) i (by omega) (fun x hx=>by simp at hx)
    rw[show Km rec r (List.drop 1 []) (W6 rec (([]:List Val).getD 0 dE).parts (Qa f (([]:List Val).getD 0 dE) b))=Km rec r [] (Qa f dE b) from rfl]
    rw[e1,e2]at h1
    simp only[wtL]at h2⊢
    omega
   |cons x q =>
    have hx:=hp x (by simp)
    have h1:=Zb6 c hb hx.1
    have h3:=QM (b:=Qa f x b) hx.2
    have h2:=Qx (rec:=rec) (l:=r) (ps:=q) (b:=W6 rec x.parts (Qa f x b)) i (by omega) (fun z hz=>hp z (by simp[hz]))
    have hw:=ZcA x
    rw[show Km rec r ((x::q).drop 1) (W6 rec ((x::q).getD 0 dE).parts (Qa f ((x::q).getD 0 dE) b))=Km rec r q (W6 rec x.parts (Qa f x b)) from rfl]
    simp only[wtL]
    omega
  have h1:=Zb6 (x:=dE) c hb (by simp[show(dE:Val).hdrs=[] from rfl])
  have e1:(dE:Val).bytes.length=0:=rfl
  have e2:QU (dE:Val).hdrs=0:=rfl
  rw[e1,e2]at h1
  have h2:=Qx (rec:=rec) (l:=r) (ps:=ps) (b:=Qa f dE b) i (by omega) hp
  omega
def DOk(d:Dfn):Prop:=∀m∈d.msgs,MOk m
theorem DOk.of{d:Dfn}(h:DOk d)(s:Str):MOk (ZD d s):=by
 unfold ZD
 by_cases hi:ixS d s<d.msgs.length
 ·exact h _ (Zy hi)
 rw[show d.msgs.getD (ixS d s) dE=dE by simp[ZE8,ZFA (Nat.le_of_not_lt hi)]]
 exact⟨by decide,fun f hf=>by simp[show(dE:Msg).fields=[] from rfl]at hf⟩
theorem YM{v x:Val}(h:Wb v=true)(hx:x∈v.parts):Wb x=true:=by
 rw[ZeF,ZEY,Zd2]at h
 exact List.all_eq_true.1 h.1 x hx
theorem Qt{v:Val}(h:Wb v=true):Ji v=true:=by
 rw[ZeF,ZEY]at h;exact h.2
theorem Zhe{d:Dfn}(hd:DOk d):∀(n:Nat) (m:Msg) (v:Val),MOk m→Wb v=true→0≤lenS d n m v∧8*lenS d n m v≤20000*(wtN v:Int)
 |0,m,v,_,_=>by simp only[lenS];omega
 |n+1,m,v,hm,hv=>by
  have h1:=Qx (rec:=fun y=>lenS d n (ZD d y.name) y) (l:=m.fields) (ps:=v.parts) (b:=0) hm.fld (by omega) fun x hx=>by
   have c:=YM hv hx
   exact⟨(Jj (Qt c)).2.2.2.1,fun y hy=>Zhe hd n (ZD d y.name) y (hd.of _) (YM c hy)⟩
  have h2:=ZcA v
  have h3:=hm.few
  simp only[lenS]
  generalize Km (fun y=>lenS d n (ZD d y.name) y) m.fields v.parts 0=t at *
  rw[Int.tdiv_eq_ediv_of_nonneg (by omega)]
  omega
structure XOk(f:Fld)(x:Val):Prop where
 unused:WQ f.kind x=false
 vint:f.kind=3→0≤x.int∧x.int<34359738368
 hdrs:f.kind=6→W3 x.hdrs=true∧ZbC x.hdrs
def ZjK(d:Dfn):Nat→Msg→Val→Prop
 |0,_,_=>False
 |n+1,m,v=>(vfs m.fields).length=v.parts.length∧∀k,k<v.parts.length→XOk ((vfs m.fields).getD k dE) (v.parts.getD k dE)∧∀y∈(v.parts.getD k dE).parts,0≤Zn d y.name d.msgs.length∧ZjK d n (ZD d y.name) y
theorem ZgK{l:List Fld}{i k:Nat}(hk:k=(vfs (l.take i)).length)(hi:i<l.length)(hv:WK (l.getD i dE)=true):k<(vfs l).length∧(vfs l).getD k dE=l.getD i dE:=by
 have h1:=ZpA hi
 rw[if_pos hv]at h1
 refine⟨by rw[h1];simp;omega,?_⟩
 rw[h1,hk]
 simp[ZE8]
theorem ZxV{b c n:Int}(hn:1≤n)(hb:0≤b)(h1:b≤c)(h2:c≤upS b n)(h3:c.tmod n=0):c=upS b n:=by
 obtain⟨⟨_,hlt⟩,hm,_⟩:=ZcY hb hn
 rw[Int.tmod_eq_emod_of_nonneg (by omega)]at h3
 have h4:(upS b n-c) % n=0:=by rw[Int.sub_emod,hm,h3];simp
 rw[Int.emod_eq_of_lt (by omega) (by omega)]at h4
 omega
theorem ZxW{b c n:Int}(hn:1≤n)(hb:0≤b)(h1:b≤c)(h2:c≤upS b n)(h3:¬c.tmod n=0):c+1≤upS b n:=by
 obtain⟨_,hm,_⟩:=ZcY hb hn
 have hne:c≠upS b n:=fun e=>h3 (by rw[e,Int.tmod_eq_emod_of_nonneg (by omega)];exact hm)
 omega
theorem ZmW(d:Dfn)(hd:DOk d)(hmsg:d.msgs.length≤1000)(n:Nat)(i0:Nat)(hi0:i0<d.msgs.length)(v:Val)(hv:Wb v=true)(hw:wtN v≤5000)(hL:ZjK d (n+1) (d.msgs.getD i0 dE) v)(ih:∀x∈v.parts,∀y∈x.parts,Zc ZEQ 12 [.agg d.cells,.int .i64 (Zn d y.name d.msgs.length),.agg y.cells] (.int .i64 (lenS d n (ZD d y.name) y))):
  Zc ZEQ 12 [.agg d.cells,.int .i64 i0,.agg v.cells] (.int .i64 (lenS d (n+1) (d.msgs.getD i0 dE) v)):=by
 refine Ze (cR 12 f12) fun F st bb=>?_
 have hm:MOk (d.msgs.getD i0 dE):=hd _ (Zy hi0)
 generalize bn:d.msgs.getD i0 dE=m at *
 obtain⟨a8,hX⟩:=hL
 have ar:∀x∈v.parts,x.hdrs.length≤100∧∀y∈x.parts,0≤lenS d n (ZD d y.name) y∧8*lenS d n (ZD d y.name) y≤20000*(wtN y:Int):=fun x hx =>
  ⟨(Jj (Qt (YM hv hx))).2.2.2.1,fun y hy=>Zhe hd n _ y (hd.of _) (YM (YM hv hx) hy)⟩
 obtain⟨rec,am⟩:∃rec:Val→Int,rec=fun y=>lenS d n (ZD d y.name) y:=⟨_,rfl⟩
 have hS:lenS d (n+1) m v=(Km rec m.fields v.parts 0).tdiv 8:=by rw[am];rfl
 have ab:∀x∈v.parts,x.hdrs.length≤100∧∀y∈x.parts,0≤rec y∧8*rec y≤20000*(wtN y:Int):=by rw[am];exact ar
 have bv:∀x∈v.parts,∀y∈x.parts,Zc ZEQ 12 [.agg d.cells,.int .i64 (Zn d y.name d.msgs.length),.agg y.cells] (.int .i64 (rec y)):=by rw[am];exact ih
 have hT:=Qx (rec:=rec) (l:=m.fields) (ps:=v.parts) (b:=0) hm.fld (by omega) ab
 have hwn:=ZcA v
 have hfew:=hm.few
 generalize bx:Km rec m.fields v.parts 0=T at *
 clear ar ih am
 generalize lenS d (n+1) m v=LV at *
 rw[ZFf]
 refine rx @eQ2 ?_
 refine xA (nd2 @atM (nd2 @bn @eQ3)) ?_
 refine gG ?_
 refine Zb (fr (m.fields.length) (fun i Q=>∀(b:Int) (k:Nat),i≤m.fields.length→k=(vfs (m.fields.take i)).length→0≤b→b≤T→Km rec (m.fields.drop i) (v.parts.drop k) b=T→Q [(3,.loc 3 0),(5,.loc 5 0),(7,.loc 7 0),(8,.d (.int .i64 b)),(9,.d (.int .i64 k)),(10,.d (.int .i64 i))] [(3,[.str d.name,YR d.msgs,.str d.start]),(5,[.str v.name,.int .i64 v.int,ZM v.bytes,Z2 v.hdrs,ZO v.parts]),(7,[.str m.name,Zo m.fields])] st) (fun n ao=>?_) fun bj=>?_)
 ·intro i hn b k hi hk ak hbT u
  refine rx @Zbc ?_
  refine cd (fun h1=>?_) (fun h1=>?_)
  ·simp at h1
   have bk:m.fields.getD i dE∈m.fields:=Zy h1
   have be:=hm.fld _ bk
   have bg:=fun hh=>ZgK hk h1 hh
   have ac:=Ze5 h1
   rw[Wt h1]at u
   simp only[Km]at u
   generalize hf:m.fields.getD i dE=f at *
   refine xA (nd2 @atF (nd2 @hf (nd2 @Qp @J2))) ?_
   refine rg ?_
   refine rx (nd2 @Qp @J2) ?_
   refine cl (Zaw f) ?_
   refine jU [0,1,1] (fun Q=>∀(x:Val) (k:Nat),k=(vfs (m.fields.take (i+1))).length→Km rec (m.fields.drop (i+1)) (v.parts.drop k) (W6 rec x.parts (Qa f x b))=T→(f.kind=3→0≤x.int∧x.int<34359738368)→(f.kind=6→W3 x.hdrs=true∧ZbC x.hdrs)→x.hdrs.length≤100→x.bytes.length≤1048576→x.parts.length≤5000→(∀y∈x.parts,0≤rec y∧8*rec y≤20000*(wtN y:Int))→(∀y∈x.parts,Zc ZEQ 12 [.agg d.cells,.int .i64 (Zn d y.name d.msgs.length),.agg y.cells] (.int .i64 (rec y)))→Q F [(3,.loc 3 0),(5,.loc 5 0),(7,.loc 7 0),(8,.d (.int .i64 b)),(9,.d (.int .i64 k)),(10,.d (.int .i64 i)),(11,.loc 11 0),(12,.loc 12 0)] [(3,[.str d.name,YR d.msgs,.str d.start]),(5,[.str v.name,.int .i64 v.int,ZM v.bytes,Z2 v.hdrs,ZO v.parts]),(7,[.str m.name,Zo m.fields]),(11,f.cells),(12,[.str x.name,.int .i64 x.int,ZM x.bytes,Z2 x.hdrs,ZO x.parts])] st) ?_ fun au=>?_
   ·clear u hk bg ac
    intro x k hk u aq aj bl hxb bt ae aw
    have hA:=Zb6 (x:=x) be ak bl
    have hP:=QM (rec:=rec) (l:=x.parts) (b:=Qa f x b) ae
    have hB:=Qx (rec:=rec) (l:=m.fields.drop (i+1)) (ps:=v.parts.drop k) (b:=W6 rec x.parts (Qa f x b)) (fun g hg=>hm.fld g (List.mem_of_mem_drop hg)) (by omega) (fun z hz=>ab z (List.mem_of_mem_drop hz))
    have t:=Qa.eq_1 f x b
    refine jU [0,0,1] (fun Q=>∀c:Int,c=Qa f x b→Q F [(3,.loc 3 0),(5,.loc 5 0),(7,.loc 7 0),(8,.d (.int .i64 c)),(9,.d (.int .i64 k)),(10,.d (.int .i64 i)),(12,.loc 12 0)] [(3,[.str d.name,YR d.msgs,.str d.start]),(5,[.str v.name,.int .i64 v.int,ZM v.bytes,Z2 v.hdrs,ZO v.parts]),(7,[.str m.name,Zo m.fields]),(12,[.str x.name,.int .i64 x.int,ZM x.bytes,Z2 x.hdrs,ZO x.parts])] st) ?_ fun fin=>?_
    ·clear t
     intro c hc
     rw[←hc]at hA hP hB u
     refine rg ?_
     refine Zb (fr (x.parts.length) (fun j Q=>∀e:Int,0≤e→e≤T→W6 rec (x.parts.drop j) e=W6 rec x.parts c→j≤x.parts.length→Q [(3,.loc 3 0),(5,.loc 5 0),(7,.loc 7 0),(8,.d (.int .i64 e)),(9,.d (.int .i64 k)),(10,.d (.int .i64 i)),(12,.loc 12 0),(14,.d (.int .i64 j))] [(3,[.str d.name,YR d.msgs,.str d.start]),(5,[.str v.name,.int .i64 v.int,ZM v.bytes,Z2 v.hdrs,ZO v.parts]),(7,[.str m.name,Zo m.fields]),(12,[.str x.name,.int .i64 x.int,ZM x.bytes,Z2 x.hdrs,ZO x.parts])] st) (fun n ai=>?_) fun a7=>?_)
     ·intro j hnj e he0 heT ad hj
      refine rx @Qq ?_
      refine cd (fun g1=>?_) (fun g1=>?_)
      ·simp at g1
       have a6:x.parts.getD j dE∈x.parts:=Zy g1
       have hyr:=ae _ a6
       have ba:=aw _ a6
       have b0:=Wp (l:=x.parts) (i:=j) g1
       rw[Wt g1]at ad
       simp only[W6]at ad
       have hPj:=QM (rec:=rec) (l:=x.parts.drop (j+1)) (b:=e+8*rec (x.parts.getD j dE)) fun z hz=>ae z (List.mem_of_mem_drop hz)
       rw[ZFf]at ba
       generalize x.parts.getD j dE=y at *
       generalize rec y=ry at *
       refine xA (nd2 @atV (nd2 @b0 @Zfo)) ?_
       refine clD (WN d y.name d.msgs.length (ZE6 _)) ?_
       refine clD (ba) ?_
       refine aa ?_
       refine gA ?_
       refine Za ?_
       exact ai ((x.parts.length)-(j+1)) (by omega) (j+1) rfl (e+8*ry) (by omega) (by omega) ad (by omega)
      simp at g1
      obtain rfl:j=x.parts.length:=by omega
      rw[List.drop_eq_nil_of_le (ZE6 _)]at ad
      simp only[W6]at ad
      rw[←ad]at u
      refine gA ?_
      refine Za ?_
      exact ao ((m.fields.length)-(i+1)) (by omega) (i+1) rfl e k (by omega) hk (by omega) (by omega) u
     exact a7 _ 0 rfl c (by omega) (by omega) rfl (by omega)
    refine rx @eQ0 ?_
    refine rg ?_
    refine cd (fun c1=>?_) (fun c1=>?_)
    ·rw[if_pos (by simp at c1;omega)]at t
     refine Zv (Zs rfl trivial (fun _=>?_) (fun h=>by rw[c1]at h;simp at h))
     refine xA @eQ0 ?_
     refine Zj (Zd ?_)
     exact fin _ t.symm
    refine rg ?_
    refine cd (fun c2=>?_) (fun c2=>?_)
    ·rw[if_pos (by simp at c2;omega)]at t
     refine xA @eQ0 ?_
     refine Zj (Zd ?_)
     exact fin _ t.symm
    rw[if_neg (by simp at c1 c2;omega)]at t
    refine rg ?_
    refine cd (fun c3=>?_) (fun c3=>?_)
    ·rw[if_pos (by simpa using c3)]at t
     obtain⟨hv0,hv1⟩:=aq (by simpa using c3)
     obtain⟨vn,bi⟩:∃vn:Nat,x.int=vn:=⟨x.int.toNat,by omega⟩
     rw[bi,Int.toNat_natCast]at t
     have bu:vn<34359738368:=by omega
     have hg4:=Ztu vn
     have bz:YS vn 0=vn:=by simp[YS]
     have hq:x.int.tdiv 128=((YS vn 1:Nat):Int):=by rw[bi,Int.tdiv_eq_ediv_of_nonneg (by omega),Jm,bz];omega
     have ag:∀c,YS vn c≤vn:=fun c=>by unfold YS;exact Nat.div_le_self _ _
     refine gA ?_
     refine rg ?_
     refine⟨by decide,by rw[hq];have:=ag 1;omega,by rw[hq];have:=ag 1;omega,?_⟩
     rw[hq,show b+8=b+8+8*((0:Nat):Int) by omega]
     refine Zb (fr ((Yn vn)) (fun c Q=>c≤Yn vn→Q [(3,.loc 3 0),(5,.loc 5 0),(7,.loc 7 0),(8,.d (.int .i64 (b+8+8*(c:Int)))),(9,.d (.int .i64 k)),(10,.d (.int .i64 i)),(12,.loc 12 0),(13,.d (.int .i64 ((YS vn (c+1):Nat):Int)))] [(3,[.str d.name,YR d.msgs,.str d.start]),(5,[.str v.name,.int .i64 v.int,ZM v.bytes,Z2 v.hdrs,ZO v.parts]),(7,[.str m.name,Zo m.fields]),(12,[.str x.name,.int .i64 x.int,ZM x.bytes,Z2 x.hdrs,ZO x.parts])] st) (fun n ah=>?_) fun a3=>?_)
     ·intro c bw hc
      have hi1:=Zrm bu (i:=c) (by omega)
      have hs1:=Jm vn c
      have br:=Jm vn (c+1)
      have hb1:=ag (c+1)
      refine rg ?_
      refine cd (fun g3=>?_) (fun g3=>?_)
      ·have hlt:c<Yn vn:=by simp at g3;omega
       have a0:(((YS vn (c+1):Nat):Int)).tdiv 128=((YS vn (c+1+1):Nat):Int):=by rw[Int.tdiv_eq_ediv_of_nonneg (by omega),br];omega
       refine gA ?_
       refine rg ?_
       refine⟨by decide,by rw[a0];have:=ag (c+1+1);omega,by rw[a0];have:=ag (c+1+1);omega,?_⟩
       rw[a0,show b+8+8*(c:Int)+8=b+8+8*((c+1:Nat):Int) by omega]
       refine Za ?_
       exact ah (((Yn vn))-(c+1)) (by omega) (c+1) rfl (by omega)
      have bp:c=Yn vn:=by simp at g3;omega
      refine ZP rfl (Zj (Zd ?_))
      refine kE [3,5,7,8,9,10,12] ?_
      exact fin (b+8+8*(c:Int)) (by rw[t,bp];omega)
     exact a3 _ 0 rfl (by omega)
    rw[if_neg (by simpa using c3)]at t
    refine rg ?_
    refine cd (fun c4=>?_) (fun c4=>?_)
    ·rw[if_pos (by simpa using c4)]at t
     refine xA @W8 ?_
     refine Zj (Zd ?_)
     exact fin _ t.symm
    rw[if_neg (by simpa using c4)]at t
    refine rg ?_
    refine cd (fun c5=>?_) (fun c5=>?_)
    ·rw[if_pos (by simpa using c5)]at t
     refine xA @W8 ?_
     refine Zj (Zd ?_)
     exact fin _ t.symm
    rw[if_neg (by simpa using c5)]at t
    refine rg ?_
    refine cd (fun c6=>?_) (fun c6=>?_)
    ·rw[if_pos (by simpa using c6)]at t
     obtain⟨cb,bq⟩:=aj (by simpa using c6)
     refine rg ?_
     refine cX @W8 (ZiO cb bq) ?_
     refine aa ?_
     refine Zj (Zd ?_)
     exact fin _ t.symm
    rw[if_neg (by simpa using c6)]at t
    refine rg ?_
    refine cd (fun ay=>?_) (fun ay=>?_)
    ·have av:f.kind=10:=by simpa using ay
     rw[if_pos av]at t
     have hpd:=Zlx (be.pad av)
     have hup:=ZcY ak (show 1≤f.bits by omega)
     refine Zb ?_
     refine kE [3,5,7,8,9,10,11,12] ?_
     rw[show b=b+((0:Nat):Int) by omega]
     refine fr (((upS b f.bits-b).toNat)) (fun c Q=>b+c≤upS b f.bits→Q [(3,.loc 3 0),(5,.loc 5 0),(7,.loc 7 0),(8,.d (.int .i64 (b+(c:Int)))),(9,.d (.int .i64 k)),(10,.d (.int .i64 i)),(11,.loc 11 0),(12,.loc 12 0)] [(3,[.str d.name,YR d.msgs,.str d.start]),(5,[.str v.name,.int .i64 v.int,ZM v.bytes,Z2 v.hdrs,ZO v.parts]),(7,[.str m.name,Zo m.fields]),(11,[.str f.name,.int .i64 f.kind,.int .i64 f.bits,.bool f.little,.bool f.loose,.int .i64 f.low,.int .i64 f.high,.int .i64 f.size.base,YD f.size.terms,.str f.of,.str f.tag,.str f.from_,Yy f.cases,.int .i64 f.check,.int .i64 f.key]),(12,[.str x.name,.int .i64 x.int,ZM x.bytes,Z2 x.hdrs,ZO x.parts])] st) (fun n af=>?_) fun a5=>?_
     ·intro c bw hc
      have bh:(b+(c:Int)).tmod f.bits=(b+c) % f.bits:=Int.tmod_eq_emod_of_nonneg (by omega)
      have hm1:=Int.emod_nonneg (b+(c:Int)) (show f.bits≠0 by omega)
      have hm2:=Int.emod_lt_of_pos (b+(c:Int)) (show 0<f.bits by omega)
      refine rg ?_
      refine⟨by omega,by rw[bh];omega,by rw[bh];omega,?_⟩
      refine cd (fun g4=>?_) (fun g4=>?_)
      ·have bf:=ZxW (b:=b) (c:=b+c) (n:=f.bits) (by omega) ak (by omega) hc (by simpa using g4)
       refine gA ?_
       rw[show b+(c:Int)+1=b+((c+1:Nat):Int) by omega]
       refine Zj (Za ?_)
       exact af ((((upS b f.bits-b).toNat))-(c+1)) (by omega) (c+1) rfl (by omega)
      have bf:=ZxV (b:=b) (c:=b+c) (n:=f.bits) (by omega) ak (by omega) hc (by simpa using g4)
      refine ZP rfl (Zj (Zd ?_))
      refine kE [3,5,7,8,9,10,12] ?_
      exact fin (b+(c:Int)) (by rw[t,bf])
     exact a5 _ 0 rfl (by omega)
    rw[if_neg (by simpa using ay)]at t
    refine rg ?_
    refine cd (fun ax=>?_) (fun ax=>?_)
    ·rw[if_pos (by simpa using ax)]at t
     refine gA ?_
     refine rx @eQ0 ?_
     refine cd (fun az=>?_) (fun az=>?_)
     ·refine gA ?_
      refine Zj (Zd ?_)
      exact fin (b+16+16) (by rw[t];unfold Jb;rw[if_pos (by simpa using az)];omega)
     refine Zv (Zj (Zd ?_))
     refine kE [3,5,7,8,9,10,12] ?_
     exact fin (b+16) (by rw[t];unfold Jb;rw[if_neg (by simpa using az)])
    rw[if_neg (by simpa using ax)]at t
    refine Zv (Zj (Zd ?_))
    refine kE [3,5,7,8,9,10,12] ?_
    exact fin _ t.symm
   refine cd (fun hh=>?_) (fun hh=>?_)
   ·rw[if_pos hh]at u
    obtain⟨ap,ca⟩:=bg hh
    rw[a8]at ap
    have al:v.parts.getD k dE∈v.parts:=Zy ap
    obtain⟨⟨hun,aq,aj⟩,bt⟩:=hX k ap
    have a4:=Wp (l:=v.parts) (i:=k) ap
    have ae:=ab _ al
    have aw:=bv _ al
    have b2:=YM hv al
    have b1:=Jj (Qt b2)
    have hxw:=ZoD al
    have hk40:k≤i:=by rw[hk];exact Zn4
    rw[show(v.parts.drop k).getD 0 dE=v.parts.getD k dE by simp[ZE8],List.drop_drop]at u
    rw[ca]at aq aj
    rw[if_pos hh]at ac
    generalize v.parts.getD k dE=x at *
    have bo:x.parts.length≤5000:=by
     have h1:=ZcA x
     have h2:10*x.parts.length≤wtL x.parts:=by
      have h3:∀l:List Val,10*l.length≤wtL l:=fun l=>by
       induction l with
       |nil=>simp
       |cons a r ih3=>have:=ZcA a;simp only[wtL,ZE5];omega
      exact h3 _
     omega
    refine xA (nd2 @atV (nd2 @a4 (nd2 @Qp @J2))) ?_
    refine gA ?_
    refine Zd (Zd ?_)
    rw[show(k:Int)+1=((k+1:Nat):Int) by omega]
    exact au x (k+1) (by rw[ac,ZE1,←hk];rfl) u aq aj ae.1 b1.2.2.1 bo ae.2 aw
   rw[if_neg (by rw[hh];simp)]at u ac
   rw[ZFm]at ac
   refine Zv (Zd (Zd ?_))
   refine kE [3,5,7,8,9,10,11,12] ?_
   refine kl (st) [(3,.loc 3 0),(5,.loc 5 0),(7,.loc 7 0),(8,.d (.int .i64 b)),(9,.d (.int .i64 k)),(10,.d (.int .i64 i)),(11,.loc 11 0),(12,.loc 12 0)] [(3,[.str d.name,YR d.msgs,.str d.start]),(5,[.str v.name,.int .i64 v.int,ZM v.bytes,Z2 v.hdrs,ZO v.parts]),(7,[.str m.name,Zo m.fields]),(11,[.str f.name,.int .i64 f.kind,.int .i64 f.bits,.bool f.little,.bool f.loose,.int .i64 f.low,.int .i64 f.high,.int .i64 f.size.base,YD f.size.terms,.str f.of,.str f.tag,.str f.from_,Yy f.cases,.int .i64 f.check,.int .i64 f.key]),(12,[.str (dE:Val).name,.int .i64 (dE:Val).int,ZM (dE:Val).bytes,Z2 (dE:Val).hdrs,ZO (dE:Val).parts])] (KH _) (.skip (.skip (.skip (.skip (.cons (.cons (ZEW _) (.cons (ZEW _) (.cons (WH fun b h=>by cases h) (.cons (WH fun b h=>by cases h) (.cons (WH fun b h=>by cases h) .nil))))) .nil))))) ?_
   have a9:¬f.kind=3∧¬f.kind=6:=by unfold WK at hh;simp at hh;omega
   exact au dE k (by rw[ac];exact hk) u (fun h=>absurd h a9.1) (fun h=>absurd h a9.2) (by simp[show(dE:Val).hdrs=[] from rfl]) (by simp[show(dE:Val).bytes=[] from rfl]) (by simp[show(dE:Val).parts=[] from rfl]) (fun y hy=>by simp[show(dE:Val).parts=[] from rfl]at hy) (fun y hy=>by simp[show(dE:Val).parts=[] from rfl]at hy)
  simp at h1
  obtain rfl:i=m.fields.length:=by omega
  rw[List.drop_eq_nil_of_le (ZE6 _)]at u
  simp only[Km]at u
  have bc:b.tdiv 8=b / 8:=Int.tdiv_eq_ediv_of_nonneg (by omega)
  subst u
  refine rg ?_
  refine⟨by decide,by rw[bc];omega,by rw[bc];omega,?_⟩
  refine ri bb ?_
  rw[hS]
 exact bj _ 0 rfl 0 0 (by omega) rfl (by omega) (by omega) bx
theorem ZjA{v x:Val}(h:x∈v.parts):wtN x≤wtN v:=by
 have h1:=ZoD h
 have h2:=ZcA v
 omega
theorem ZhJ(d:Dfn)(hd:DOk d)(hmsg:d.msgs.length≤1000):∀(n i0:Nat) (v:Val),i0<d.msgs.length→Wb v=true→wtN v≤5000→ZjK d n (d.msgs.getD i0 dE) v →
  Zc ZEQ 12 [.agg d.cells,.int .i64 i0,.agg v.cells] (.int .i64 (lenS d n (d.msgs.getD i0 dE) v))
 |0,_,_,_,_,_,hL=>hL.elim
 |n+1,i0,v,hi,hv,hw,hL=>by
  refine ZmW d hd hmsg n i0 hi v hv hw hL fun x hx y hy=>?_
  obtain⟨k,hk,rfl⟩:=ZFa hx
  have h1:=(hL.2 k hk).2 y (by simpa[ZE8,hk]using hy)
  have h2:=Zcf h1.1
  rw[h2.1]
  exact ZhJ d hd hmsg n (ixS d y.name) y h2.2 (YM (YM hv hx) hy) (Nat.le_trans (Nat.le_trans (ZjA hy) (ZjA hx)) hw) h1.2
def Ze3(rec:Val→Int):List Val→Int
 | []=>0
 |y::r=>rec y+Ze3 rec r
theorem Zd4{rec:Val→Int}:∀(l:List Val) (b:Int),W6 rec l b=b+8*Ze3 rec l
 | [],b=>by simp[W6,Ze3]
 |y::r,b=>by simp only[W6,Ze3];rw[Zd4 r];omega
theorem Zop(l:List Val)(f:D)(rec:Val→Int)(st:St)(hl:l.length≤5000)(hr:∀y∈l,0≤rec y∧8*rec y≤20000*(wtN y:Int))(hw:wtL l≤5000)(hf:∀y∈l,VT ZEQ f [.agg y.cells] st (.int .i64 (rec y)) st):
  ZS ZEQ 57 [ZO l,f] st (.int .i64 (Ze3 rec l)) st:=by
 refine ZK (cR 57 f57) fun ad F v=>?_
 clear ad
 have hT:=QM (b:=0) hr
 have hTe:=Zd4 (rec:=rec) l 0
 generalize ac:Ze3 rec l=T at *
 refine rg ?_
 refine rx @Qq ?_
 refine Zb (fr (l.length) (fun i Q=>∀b:Int,0≤b→b≤T→b+Ze3 rec (l.drop i)=T→i≤l.length→Q [(1,.d f),(4,.d (.int .i64 b)),(7,.d (ZO l)),(8,.d (.int .i64 l.length)),(9,.d (.int .i64 i))] [] st) (fun n j=>?_) fun ab=>?_)
 ·intro i hn b hb0 hbT c hi
  refine rg ?_
  refine Zd (Zs rfl trivial (fun h1=>?_) (fun h1=>?_))
  ·simp at h1
   have u:l.getD i dE∈l:=Zy h1
   have hyr:=hr _ u
   have t:=hf _ u
   have ae:=Wp (l:=l) (i:=i) h1
   rw[Wt h1]at c
   simp only[Ze3]at c
   have hP:=QM (rec:=rec) (l:=l.drop (i+1)) (b:=0) fun z hz=>hr z (List.mem_of_mem_drop hz)
   rw[Zd4]at hP
   rw[ZFf]at t
   generalize l.getD i dE=y at *
   generalize rec y=ry at *
   refine xA (nd2 @atV @ae) ?_
   refine rg ?_
   refine cW (t) ?_
   refine aa ?_
   refine gA ?_
   refine Za ?_
   exact j ((l.length)-(i+1)) (by omega) (i+1) rfl (b+ry) (by omega) (by omega) (by omega) (by omega)
  simp at h1
  obtain rfl:i=l.length:=by omega
  rw[List.drop_eq_nil_of_le (ZE6 _)]at c
  simp only[Ze3]at c
  refine rg ?_
  exact v rfl (by trivial) (Zf8 (by omega)) (ZES _)
 exact ab _ 0 rfl 0 (by omega) (by omega) (by rw[List.drop_zero,ac];omega) (by omega)
theorem Zkt(d:Dfn)(y:Val)(ry:Int)(zd:Nat)(st:St)(hz:st zd=sO (.cells [.str d.name,YR d.msgs,.str d.start]))(h0:0≤Zn d y.name d.msgs.length)(hl:Zc ZEQ 30 [.agg d.cells,.agg (ZD d y.name).cells,.agg y.cells] (.int .i64 ry)):ZS ZEQ 58 [.agg y.cells,.ptr zd 0] st (.int .i64 ry) st:=by
 refine ZK (cR 58 f58) fun i F c=>?_
 clear i
 have hm:=KX d y.name h0
 rw[show d.msgs.getD (ixS d y.name) dE=ZD d y.name from rfl]at hm
 rw[ZFf]at hl⊢
 refine rg ?_
 refine xA @hz ?_
 refine clD (hm) ?_
 refine clD (hl) ?_
 exact c rfl (by trivial) (ZEW _) (ZES _)
theorem Zku(d:Dfn)(hd:DOk d)(n:Nat)(m:Msg)(hm:MOk m)(v:Val)(hv:Wb v=true)(hw:wtN v≤5000)(hL:ZjK d (n+1) m v)(ih:∀x∈v.parts,∀y∈x.parts,0≤Zn d y.name d.msgs.length∧Zc ZEQ 30 [.agg d.cells,.agg (ZD d y.name).cells,.agg y.cells] (.int .i64 (lenS d n (ZD d y.name) y))):
  Zc ZEQ 30 [.agg d.cells,.agg m.cells,.agg v.cells] (.int .i64 (lenS d (n+1) m v)):=by
 refine Ze (cR 30 f30) fun F st bh=>?_
 obtain⟨bf,hX⟩:=hL
 have ay:∀x∈v.parts,x.hdrs.length≤100∧∀y∈x.parts,0≤lenS d n (ZD d y.name) y∧8*lenS d n (ZD d y.name) y≤20000*(wtN y:Int):=fun x hx =>
  ⟨(Jj (Qt (YM hv hx))).2.2.2.1,fun y hy=>Zhe hd n _ y (hd.of _) (YM (YM hv hx) hy)⟩
 obtain⟨rec,ap⟩:∃rec:Val→Int,rec=fun y=>lenS d n (ZD d y.name) y:=⟨_,rfl⟩
 have hS:lenS d (n+1) m v=(Km rec m.fields v.parts 0).tdiv 8:=by rw[ap];rfl
 have ad:∀x∈v.parts,x.hdrs.length≤100∧∀y∈x.parts,0≤rec y∧8*rec y≤20000*(wtN y:Int):=by rw[ap];exact ay
 have bt:∀x∈v.parts,∀y∈x.parts,0≤Zn d y.name d.msgs.length∧Zc ZEQ 30 [.agg d.cells,.agg (ZD d y.name).cells,.agg y.cells] (.int .i64 (rec y)):=by rw[ap];exact ih
 have hT:=Qx (rec:=rec) (l:=m.fields) (ps:=v.parts) (b:=0) hm.fld (by omega) ad
 have hwn:=ZcA v
 have hfew:=hm.few
 generalize bu:Km rec m.fields v.parts 0=T at *
 clear ay ih ap
 generalize lenS d (n+1) m v=LV at *
 rw[ZFf]
 refine rx (nd2 @eQ2 @eQ3) ?_
 refine rg ?_
 refine Zd (Zd ?_)
 refine xP 3 fun zd hz=>?_
 have bw:(st.upd zd (.cells [.str d.name,YR d.msgs,.str d.start])) zd=sO (.cells [.str d.name,YR d.msgs,.str d.start]):=ZEZ _ _ _
 have bb:=ZFi (s:=st) (.cells [.str d.name,YR d.msgs,.str d.start]) hz
 generalize st.upd zd (.cells [.str d.name,YR d.msgs,.str d.start])=S at *
 refine rx @Zbc ?_
 refine Zb (fr (m.fields.length) (fun i Q=>∀(b:Int) (k:Nat),i≤m.fields.length→k=(vfs (m.fields.take i)).length→0≤b→b≤T→Km rec (m.fields.drop i) (v.parts.drop k) b=T→Q [(3,.d (.ptr zd 0)),(5,.loc 5 0),(7,.d (.int .i64 b)),(8,.d (.int .i64 k)),(20,.d (Zo m.fields)),(21,.d (.int .i64 m.fields.length)),(22,.d (.int .i64 i))] [(5,[.str v.name,.int .i64 v.int,ZM v.bytes,Z2 v.hdrs,ZO v.parts])] S) (fun n ar=>?_) fun bl=>?_)
 ·intro i hn b k hi hk a9 hbT j
  refine rg ?_
  refine Zd (Zs rfl trivial (fun h1=>?_) (fun h1=>?_))
  ·simp at h1
   have bn:m.fields.getD i dE∈m.fields:=Zy h1
   have aw:=hm.fld _ bn
   have bj:=fun hh=>ZgK hk h1 hh
   have ag:=Ze5 h1
   rw[Wt h1]at j
   simp only[Km]at j
   generalize hf:m.fields.getD i dE=f at *
   refine xA (nd2 @atF (nd2 @hf @eQ0)) ?_
   refine gG ?_
   refine cl (Zdw f) ?_
   refine jU [0,1] (fun Q=>∀(x:Val) (k:Nat),k=(vfs (m.fields.take (i+1))).length→Km rec (m.fields.drop (i+1)) (v.parts.drop k) (W6 rec x.parts (Qa f x b))=T→(f.kind=3→0≤x.int∧x.int<34359738368)→(f.kind=6→W3 x.hdrs=true∧ZbC x.hdrs)→x.hdrs.length≤100→x.bytes.length≤1048576→x.parts.length≤5000→wtL x.parts≤5000→(∀y∈x.parts,0≤rec y∧8*rec y≤20000*(wtN y:Int))→(∀y∈x.parts,0≤Zn d y.name d.msgs.length∧Zc ZEQ 30 [.agg d.cells,.agg (ZD d y.name).cells,.agg y.cells] (.int .i64 (rec y)))→(¬f.kind=4→¬f.kind=5→x.bytes.length=0)→(f.kind<7∨f.kind=10∨f.kind=11→x.parts=[])→Q F [(3,.d (.ptr zd 0)),(5,.loc 5 0),(7,.d (.int .i64 b)),(8,.d (.int .i64 k)),(10,.loc 10 0),(11,.loc 11 0),(20,.d (Zo m.fields)),(21,.d (.int .i64 m.fields.length)),(22,.d (.int .i64 i))] [(5,[.str v.name,.int .i64 v.int,ZM v.bytes,Z2 v.hdrs,ZO v.parts]),(10,[.str f.name,.int .i64 f.kind,.int .i64 f.bits,.bool f.little,.bool f.loose,.int .i64 f.low,.int .i64 f.high,.int .i64 f.size.base,YD f.size.terms,.str f.of,.str f.tag,.str f.from_,Yy f.cases,.int .i64 f.check,.int .i64 f.key]),(11,[.str x.name,.int .i64 x.int,ZM x.bytes,Z2 x.hdrs,ZO x.parts])] S) ?_ fun az=>?_
   ·clear j hk bj ag
    intro x k hk j ax al bo hxb bc be ak am aj ae
    have hA:=Zb6 (x:=x) aw a9 bo
    have hP:=QM (rec:=rec) (l:=x.parts) (b:=Qa f x b) ak
    have bv:=Zd4 (rec:=rec) x.parts (Qa f x b)
    have hB:=Qx (rec:=rec) (l:=m.fields.drop (i+1)) (ps:=v.parts.drop k) (b:=W6 rec x.parts (Qa f x b)) (fun g hg=>hm.fld g (List.mem_of_mem_drop hg)) (by omega) (fun z hz=>ad z (List.mem_of_mem_drop hz))
    have t:=Qa.eq_1 f x b
    have ht:=Zop x.parts (.fn (.func 58) [] [.ptr zd 0]) rec S bc ak be fun y hy=>(Zkt d y (rec y) zd S bw (am y hy).1 (am y hy).2).VT (first:=[]) (args:=[_]) (caps:=[_])
    have ac:x.parts=[]→Ze3 rec x.parts=0:=fun h=>by rw[h];rfl
    generalize Ze3 rec x.parts=b0 at *
    refine rx @W8 ?_
    refine ctD (ht) ?_
    refine aa ?_
    refine jU [1,0] (fun Q=>∀(c n':Int),c+8*n'=Qa f x b+8*b0→0≤c→0≤n'→Q F [(3,.d (.ptr zd 0)),(5,.loc 5 0),(7,.d (.int .i64 c)),(8,.d (.int .i64 k)),(12,.d (.int .i64 n')),(20,.d (Zo m.fields)),(21,.d (.int .i64 m.fields.length)),(22,.d (.int .i64 i))] [(5,[.str v.name,.int .i64 v.int,ZM v.bytes,Z2 v.hdrs,ZO v.parts])] S) ?_ fun fin=>?_
    ·clear t
     intro c n' hc hc0 hn0
     refine gA ?_
     refine gA ?_
     refine Za ?_
     exact ar ((m.fields.length)-(i+1)) (by omega) (i+1) rfl (c+8*n') k (by omega) hk (by omega) (by omega) (by rw[hc,←bv];exact j)
    refine rx @eQ0 ?_
    refine rg ?_
    refine cd (fun c1=>?_) (fun c1=>?_)
    ·have ah:f.kind=1:=by simpa using c1
     rw[if_pos (by omega)]at t
     have:=aj (by omega) (by omega)
     have:=ac (ae (by omega))
     refine Zv (Zs rfl trivial (fun _=>?_) (fun h=>by rw[c1]at h;simp at h))
     refine xA @eQ0 ?_
     refine Zj ?_
     exact fin _ _ (by rw[t];omega) (by omega) (by omega)
    refine rg ?_
    refine cd (fun c2=>?_) (fun c2=>?_)
    ·have a7:f.kind=2:=by simpa using c2
     rw[if_pos (by omega)]at t
     have:=aj (by omega) (by omega)
     have:=ac (ae (by omega))
     refine xA @eQ0 ?_
     refine Zj ?_
     exact fin _ _ (by rw[t];omega) (by omega) (by omega)
    have ah:¬f.kind=1:=by simpa using c1
    have a7:¬f.kind=2:=by simpa using c2
    rw[if_neg (by omega)]at t
    refine rg ?_
    refine cd (fun a5=>?_) (fun a5=>?_)
    ·have ab:f.kind=10:=by simpa using a5
     rw[if_neg (by omega),if_neg (by omega),if_neg (by omega),if_neg (by omega),if_pos ab]at t
     have:=aj (by omega) (by omega)
     have:=ac (ae (by omega))
     have hpd:=Zlx (aw.pad ab)
     have hup:=ZcY a9 (show 1≤f.bits by omega)
     have a6:=Zk8 (v:=b) (aw.pad ab) ⟨by omega,by omega⟩
     generalize upS b f.bits=u at *
     refine rx @eQ0 ?_
     refine cl (a6) ?_
     refine gA ?_
     refine Zj ?_
     exact fin _ _ (by rw[t];omega) (by omega) (by omega)
    have ab:¬f.kind=10:=by simpa using a5
    refine rg ?_
    refine cd (fun a3=>?_) (fun a3=>?_)
    ·have af:f.kind=11:=by simpa using a3
     rw[if_neg (by omega),if_neg (by omega),if_neg (by omega),if_neg (by omega),if_neg (by omega),if_pos af]at t
     have:=aj (by omega) (by omega)
     have:=ac (ae (by omega))
     have hcb:Jb f.check=32∨Jb f.check=16:=by unfold Jb;split<;>simp
     have a6:=ZpH (aw.chk af)
     generalize Jb f.check=u at *
     refine rx @eQ0 ?_
     refine cl (a6) ?_
     refine gA ?_
     refine Zj ?_
     exact fin _ _ (by rw[t];omega) (by omega) (by omega)
    have af:¬f.kind=11:=by simpa using a3
    refine rg ?_
    refine cd (fun c3=>?_) (fun c3=>?_)
    ·have au:f.kind=3:=by simpa using c3
     rw[if_pos au]at t
     have:=ac (ae (by omega))
     obtain⟨hv0,hv1⟩:=ax au
     obtain⟨vn,bk⟩:∃vn:Nat,x.int=vn:=⟨x.int.toNat,by omega⟩
     rw[bk,Int.toNat_natCast]at t
     have a8:=Zp4 (v:=vn) (by omega)
     rw[←bk]at a8
     refine rg ?_
     refine cl (a8) ?_
     refine Zj ?_
     refine kE [3,5,7,8,12,20,21,22] ?_
     exact fin _ _ (by rw[t];omega) (by omega) (by omega)
    have au:¬f.kind=3:=by simpa using c3
    rw[if_neg au]at t
    refine rg ?_
    refine cd (fun c5=>?_) (fun c5=>?_)
    ·have ai:f.kind=5:=by simpa using c5
     rw[if_neg (by omega),if_pos ai]at t
     have:=ac (ae (by omega))
     refine gA ?_
     refine Zj ?_
     refine kE [3,5,7,8,12,20,21,22] ?_
     exact fin _ _ (by rw[t];omega) (by omega) (by omega)
    have ai:¬f.kind=5:=by simpa using c5
    refine rg ?_
    refine cd (fun c6=>?_) (fun c6=>?_)
    ·have av:f.kind=6:=by simpa using c6
     rw[if_neg (by omega),if_neg ai,if_pos av]at t
     have:=ac (ae (by omega))
     obtain⟨b1,bq⟩:=al av
     have a0:=ZhE bq
     unfold Zjz at a0
     rw[if_pos b1]at a0
     refine rg ?_
     refine cl (a0) ?_
     refine rx @W8 ?_
     refine Zj ?_
     exact fin _ _ (by rw[t];omega) (by omega) (by omega)
    have av:¬f.kind=6:=by simpa using c6
    have br:Qa f x b=b+8*(x.bytes.length:Int):=by
     by_cases a4:f.kind=4
     ·rw[t,if_pos a4]
     have:=aj a4 ai
     rw[t,if_neg a4,if_neg ai,if_neg av,if_neg ab,if_neg af];omega
    refine Zv (Zj ?_)
    refine kE [3,5,7,8,12,20,21,22] ?_
    exact fin _ _ (by rw[br];omega) (by omega) (by omega)
   refine cd (fun hh=>?_) (fun hh=>?_)
   ·rw[if_pos hh]at j
    obtain⟨ah,a7⟩:=bj hh
    rw[bf]at ah
    have ao:v.parts.getD k dE∈v.parts:=Zy ah
    obtain⟨⟨aq,ax,al⟩,bc⟩:=hX k ah
    have ba:=Wp (l:=v.parts) (i:=k) ah
    have ak:=ad _ ao
    have am:=bt _ ao
    have bz:=YM hv ao
    have bx:=Jj (Qt bz)
    have be:=ZoD ao
    have hk40:k≤i:=by rw[hk];exact Zn4
    rw[show(v.parts.drop k).getD 0 dE=v.parts.getD k dE by simp[ZE8],List.drop_drop]at j
    rw[a7]at ax al aq
    rw[if_pos hh]at ag
    generalize v.parts.getD k dE=x at *
    have hwx:=ZcA x
    have bp:x.parts.length≤5000:=by
     have h2:10*x.parts.length≤wtL x.parts:=by
      have h3:∀l:List Val,10*l.length≤wtL l:=fun l=>by
       induction l with
       |nil=>simp
       |cons a r ih3=>have:=ZcA a;simp only[wtL,ZE5];omega
      exact h3 _
     omega
    unfold WQ ZnM at aq
    simp only[Bool.or_eq_false_iff,Bool.and_eq_false_iff,Bool.not_eq_false',ZFb,decide_eq_true_eq,decide_eq_false_iff_not]at aq
    obtain⟨⟨⟨_,hu1⟩,_⟩,hu2⟩:=aq
    have hno:¬f.kind=10∧¬f.kind=11:=by unfold WK at hh;simp at hh;omega
    refine xA (nd2 @atV (nd2 @ba (nd2 @Qp @J2))) ?_
    refine gA ?_
    refine Zd ?_
    rw[show(k:Int)+1=((k+1:Nat):Int) by omega]
    exact az x (k+1) (by rw[ag,ZE1,←hk];rfl) j ax al ak.1 bx.2.2.1 bp (by omega) ak.2 am (fun h4 h5=>by omega) (fun h=>List.eq_nil_of_length_eq_zero (by omega))
   rw[if_neg (by rw[hh];simp)]at j ag
   rw[ZFm]at ag
   refine Zv (Zd ?_)
   refine kE [3,5,7,8,10,11,20,21,22] ?_
   refine kl (S) [(3,.d (.ptr zd 0)),(5,.loc 5 0),(7,.d (.int .i64 b)),(8,.d (.int .i64 k)),(10,.loc 10 0),(11,.loc 11 0),(20,.d (Zo m.fields)),(21,.d (.int .i64 m.fields.length)),(22,.d (.int .i64 i))] [(5,[.str v.name,.int .i64 v.int,ZM v.bytes,Z2 v.hdrs,ZO v.parts]),(10,[.str f.name,.int .i64 f.kind,.int .i64 f.bits,.bool f.little,.bool f.loose,.int .i64 f.low,.int .i64 f.high,.int .i64 f.size.base,YD f.size.terms,.str f.of,.str f.tag,.str f.from_,Yy f.cases,.int .i64 f.check,.int .i64 f.key]),(11,[.str (dE:Val).name,.int .i64 (dE:Val).int,ZM (dE:Val).bytes,Z2 (dE:Val).hdrs,ZO (dE:Val).parts])] (KH _) (.skip (.skip (.cons (.cons (ZEW _) (.cons (ZEW _) (.cons (WH fun b h=>by cases h) (.cons (WH fun b h=>by cases h) (.cons (WH fun b h=>by cases h) .nil))))) .nil))) ?_
   have bg:¬f.kind=3∧¬f.kind=6:=by unfold WK at hh;simp at hh;omega
   exact az dE k (by rw[ag];exact hk) j (fun h=>absurd h bg.1) (fun h=>absurd h bg.2) (by simp[show(dE:Val).hdrs=[] from rfl]) (by simp[show(dE:Val).bytes=[] from rfl]) (by simp[show(dE:Val).parts=[] from rfl]) (by simp[show(dE:Val).parts=[] from rfl,wtL]) (fun y hy=>by simp[show(dE:Val).parts=[] from rfl]at hy) (fun y hy=>by simp[show(dE:Val).parts=[] from rfl]at hy) (fun _ _=>rfl) (fun _=>rfl)
  simp at h1
  obtain rfl:i=m.fields.length:=by omega
  rw[List.drop_eq_nil_of_le (ZE6 _)]at j
  simp only[Km]at j
  have bi:b.tdiv 8=b / 8:=Int.tdiv_eq_ediv_of_nonneg (by omega)
  subst j
  refine rg ?_
  refine⟨by decide,by rw[bi];omega,by rw[bi];omega,?_⟩
  exact bh rfl (by trivial) (Zf8 hS.symm) bb
 exact bl _ 0 rfl 0 0 (by omega) rfl (by omega) (by omega) bu
theorem Zr6(f:Fld):Zc ZEQ 95 [.agg f.cells] (.bool (ZaO f)):=by
 refine Ze (cR 95 f95) fun F st c=>?_
 have hN:=ZaO.eq_1 f
 refine rx @eQ0 ?_
 refine rx @eQ0 ?_
 refine rb c ?_
 rw[hN];unfold Zc5;cases f.little<;>cases dC (f.kind=1)<;>cases dC (f.kind=2)<;>cases dC (f.kind=10)<;>rfl
structure Zf9(f:Fld):Prop where
 num:f.kind=1∨f.kind=2→1≤f.bits∧f.bits≤32
 pad:f.kind=10→f.bits=2∨f.bits=4∨(8≤f.bits∧f.bits≤512∧f.bits.tmod 8=0)
theorem Zwl{d:Dfn}{j i:Nat}{m:Msg}{f:Fld}(h:WI d j m i f=0):Zf9 f:=by
 unfold WI at h
 split at h;· omega
 split at h;· omega
 split at h;· omega
 split at h;· omega
 unfold Qh at h
 refine⟨fun hk=>?_,fun hk=>?_⟩
 ·have hn:Kh f=0:=by
   rcases hk with hk|hk<;>simp only[hk,ZFy,if_true,if_false]at h<;>exact h
  unfold Kh at hn
  split at hn;· omega
  rename_i hb
  simp only[Q2,ZFb,ZEY,Bool.not_eq_true',decide_eq_true_eq,decide_eq_false_iff_not,not_or]at hb
  omega
 simp only[hk,ZFy,if_true,if_false]at h
 split at h;· omega
 rename_i hb
 simp only[ZeG,ZEY,ZFb,Bool.not_eq_true',decide_eq_true_eq,decide_eq_false_iff_not,not_and,not_or]at hb
 omega
theorem ZtT{o b:Int}(h0:0≤o)(hb:0<b):upS o b=(o+b-1) / b*b:=by
 unfold upS
 rw[Int.tdiv_eq_ediv_of_nonneg (by omega)]
theorem ZxR{f:Fld}(hf:Zf9 f){o:Int}(h0:0≤o):0≤J1 f o:=by
 unfold J1
 split
 ·rename_i h
  have:=hf.num h
  exact Int.tmod_nonneg 8 (by omega)
 split
 ·rename_i h
  have hb:0<f.bits:=by have:=hf.pad h;omega
  rw[ZtT h0 hb]
  exact Int.tmod_nonneg 8 (Int.mul_nonneg (Int.ediv_nonneg (by omega) (by omega)) (by omega))
 omega
theorem ZtC{l:List Fld}(hl:∀f∈l,Zf9 f):∀i,i≤l.length→0≤YP l i
 |0,_=>by simp[YP]
 |i+1,h=>ZxR (hl _ (Zy (by omega))) (ZtC hl i (by omega))
theorem Zvk(x:Int):-8<x.tmod 8∧x.tmod 8<8:=⟨Int.lt_tmod_of_pos x (by decide),Int.tmod_lt_of_pos x (by decide)⟩
theorem ZAW{f:Fld}(h10:f.kind=10)(h8:f.bits.tmod 8=0)(o:Int):J1 f o=0:=by
 unfold J1
 rw[if_neg (by omega),if_pos h10]
 unfold upS
 generalize ((o+f.bits)-1).tdiv f.bits=q
 have h1:=Int.mul_tdiv_add_tmod f.bits 8
 rw[h8,Int.add_zero]at h1
 rw[←h1,←Int.mul_assoc,Int.mul_comm q 8,Int.mul_assoc]
 exact Int.mul_tmod_right 8 _
theorem ZsR{f:Fld}(hf:Zf9 f){o:Int}(h0:0≤o)(h8:o<8):Zc ZEQ 151 [.agg f.cells,.int .i64 o] (.int .i64 (J1 f o)):=by
 refine Ze (cR 151 f151) fun F st c=>?_
 have hN:=J1.eq_1 f o
 have v:=hf.num
 have ad:=hf.pad
 refine rx @eQ0 ?_
 refine rx @eQ0 ?_
 by_cases h1:f.kind=1
 ·have e1:=decide_eq_true h1
  rw[if_pos (.inl h1)]at hN
  have hb:=v (.inl h1)
  refine rx @e1 ?_
  refine i1 ?_
  refine i1 ?_
  have hr:=Zvk (o+f.bits)
  refine rx @eQ0 ?_
  generalize (o+f.bits).tmod 8=r at *
  refine aa ?_
  refine ri c ?_
  exact hN.symm
 have e1:=decide_eq_false h1
 refine rx @e1 ?_
 refine i0 ?_
 by_cases h2:f.kind=2
 ·have e2:=decide_eq_true h2
  rw[if_pos (.inr h2)]at hN
  have hb:=v (.inr h2)
  refine rx @e2 ?_
  refine i1 ?_
  have hr:=Zvk (o+f.bits)
  refine rx @eQ0 ?_
  generalize (o+f.bits).tmod 8=r at *
  refine aa ?_
  refine ri c ?_
  exact hN.symm
 have e2:=decide_eq_false h2
 rw[if_neg (by omega)]at hN
 refine rx @e2 ?_
 refine i0 ?_
 by_cases j:f.kind=10
 ·have y:=decide_eq_true j
  have hp:=ad j
  rw[if_pos j]at hN
  refine rx @y ?_
  refine i1 ?_
  by_cases hs:f.bits=2∨f.bits=4
  ·have hu:upS o f.bits=(o+f.bits-1) / f.bits*f.bits:=ZtT h0 (by omega)
   have ak:∃u:Nat,upS o f.bits=u∧o≤u∧u<o+f.bits∧u≤16∧((u:Int) % f.bits=0):=by
    rw[hu]
    rcases hs with hs|hs<;>rw[hs]
    ·exact⟨((o+2-1) / 2*2).toNat,by omega,by omega,by omega,by omega,by omega⟩
    exact⟨((o+4-1) / 4*4).toNat,by omega,by omega,by omega,by omega,by omega⟩
   obtain⟨u,al,hu3,af,hu5,ai⟩:=ak
   obtain⟨i0,ah⟩:∃i0:Nat,(i0:Int)=o:=⟨o.toNat,by omega⟩
   have ae:∀i:Nat,i0≤i→i≤u→(dC ((i:Int).tmod f.bits=0)=dC (i=u)):=fun i ac z=>by
    rw[Int.tmod_eq_emod_of_nonneg (by omega),Bool.eq_iff_iff,decide_eq_true_eq,decide_eq_true_eq]
    rcases hs with hs|hs<;>rw[hs]at af ai⊢<;>omega
   rw[←ah]
   refine rx @eQ0 ?_
   refine Zs rfl trivial (fun _=>?_) (fun h=>by rcases hs with hs|hs<;>simp[hs]at h)
   refine Zd (Zb (Zdf [1,2] ?_))
   simp only[Eqs,reduceCtorEq,ZEV,reduceIte,ZET,ZEX,ZEU]
   refine fr (u) (fun i Q=>i0≤i→i≤u→Q [(1,.d (.int .i64 i)),(2,.loc 2 0)] [(2,f.cells)] st) (fun n t=>?_) fun ag=>?_
   ·intro i hn ac z
    have hm:=ae i ac z
    have hb0:f.bits≠0:=by omega
    have hq:0≤(i:Int).tmod f.bits∧(i:Int).tmod f.bits<5:=by
     rw[Int.tmod_eq_emod_of_nonneg (by omega)]
     rcases hs with hs|hs<;>rw[hs]<;>omega
    refine rx (nd2 @eQ0 @hm) ?_
    generalize (i:Int).tmod f.bits=tm at *
    refine aa ?_
    refine cd (fun hc=>?_) (fun hc=>?_)
    ·have ab:i≠u:=by simpa using hc
     refine gA ?_
     refine Zj (Za ?_)
     exact t ((u)-(i+1)) (by omega) (i+1) rfl (by omega) (by omega)
    have ab:i=u:=by simpa using hc
    subst ab
    have hr:=Zvk (i:Int)
    rw[al]at hN
    refine rg ?_
    generalize (i:Int).tmod 8=r at *
    refine aa ?_
    refine ri c ?_
    exact hN.symm
   exact ag _ i0 rfl (ZE6 _) (by omega)
  have aj:f.bits.tmod 8=0:=by omega
  have hz:=ZAW j aj o
  refine rx @eQ0 ?_
  refine Zs rfl trivial (fun h=>by simp at h;omega) (fun _=>?_)
  refine rg ?_
  refine ri c ?_
  exact hz.symm
 have y:=decide_eq_false j
 rw[if_neg j]at hN
 refine rx @y ?_
 refine iG ?_
 refine ri c ?_
 exact hN.symm
def Zmz(l:List Int):D:=slD 1 (fun x:Int=>[.int .i64 x]) l
def Zd1(l:List Fld):List Int:=(ZE4 l.length).map (YP l)
theorem Zob{m:Msg}(hm:m.fields.length≤1000)(hb:∀f∈m.fields,Zf9 f):Zc ZEQ 94 [.agg m.cells] (.tup [Zmz (Zd1 m.fields),.int .i64 (YP m.fields m.fields.length)]):=by
 refine Ze (cR 94 f94) fun F st v=>?_
 refine rx @eQ3 ?_
 refine gG ?_
 refine rg ?_
 refine kl (st) [(1,.loc 1 0),(4,.d (.sl .full 0 1 fun _=>[])),(5,.d (.int .i64 (YP m.fields 0))),(6,.d (.int .i64 (0:Nat)))] [(1,[.str m.name,Zo m.fields])] (.skip (.cons (.d (WH fun b h=>by cases h)) (.skip (.skip .nil)))) (WU _) ?_
 refine Zb (fr (m.fields.length) (fun i Q=>∀tk row c,tk.okIn st→ZV (fun x:Int=>[.int .i64 x]) row c→c=(ZE4 i).map (YP m.fields)→i≤m.fields.length→Q [(1,.loc 1 0),(4,.d (.sl tk c.length 1 row)),(5,.d (.int .i64 (YP m.fields i))),(6,.d (.int .i64 i))] [(1,[.str m.name,Zo m.fields])] (st.own tk (c.length*1))) (fun n u=>?_) fun af=>?_)
 ·intro i hn tk row c ad y j hi
  have hol:c.length=i:=by rw[j];simp
  refine rx @Zbc ?_
  refine cd (fun hd=>?_) (fun hd=>?_)
  ·have z:i<m.fields.length:=by simp at hd;omega
   have ae:=hb _ (Zy z)
   have ai:=ZtC hb i (by omega)
   have ab:=(Zn5 m.fields i).2
   have ac:YP m.fields (i+1)=J1 (m.fields.getD i dE) (YP m.fields i):=rfl
   generalize hf:m.fields.getD i dE=f at *
   refine rg ?_
   refine QE (st) (tk) rfl rfl rfl rfl rfl rfl (by trivial) (by trivial) rfl (by first|trivial|assumption) (by omega) (by (unfold big;omega)) fun t1 ah=>Zm ?_
   simp only[Eqs,reduceCtorEq,ZEV,reduceIte,ZET,ZEX,ZEU]
   refine xA (nd2 @atF (nd2 @hf (nd2 @Qp @J2))) ?_
   refine cl (ZsR ae ai ab) ?_
   rw[←ac]
   refine gA ?_
   have t:=u (m.fields.length-(i+1)) (by omega) (i+1) rfl t1 _ (c++[YP m.fields i]) ah (y.snoc (x:=YP m.fields i) (row2:=Z4 [.int .i64 0] ([0].zip [.int .i64 (YP m.fields i)])) rfl rfl) (by rw[j,List.range_succ];simp) (by omega)
   rw[ZE1]at t
   refine Za ?_
   exact t
  have z:i=m.fields.length:=by simp at hd;omega
  subst z
  refine rg ?_
  have ag:Zd1 m.fields=c:=j.symm
  rw[ag]at v
  exact v rfl (by simp) (ZjJ rfl (LeC.two (y.le rfl) (ZEW _))) (Wm ad)
 exact af _ 0 rfl .full _ [] trivial ZV.nil rfl (by omega)
theorem Zwp(l:List Fld):(Zd1 l).length=l.length:=by simp[Zd1]
theorem Zpg{l:List Fld}{i:Nat}(h:i<l.length):(Zd1 l).getD i 0=YP l i:=by simp[Zd1,ZE8,h]
theorem atI{L:DL.Loc}(l:List Int)(i:Int):qv L s (.iaddr 1) [.d (Zmz l),.d (.int .i64 i)]=sO (0≤i∧i<l.length,.d (.ep [.int .i64 (l.getD i.toNat 0)] 0)):=rfl
theorem Zym{d:Dfn}{a:Nat}{m:Msg}(hm:Zc1 d a m){i:Nat}(hi:i<m.fields.length):
  Kl m.fields i=(ZaO (m.fields.getD i dE)&&!dC (YP m.fields i=0) ||(dC ((m.fields.getD i dE).kind=11)&&!dC (YP m.fields (Yz m (m.fields.getD i dE).from_ i).toNat=0))) ∧
   ((m.fields.getD i dE).kind=11→0≤Yz m (m.fields.getD i dE).from_ i):=by
 have hk:=(ZxI (hm.field i hi)).1
 generalize hf:m.fields.getD i dE=f at *
 have c:f.kind=11→0≤Yz m f.from_ i:=fun h=>by
  unfold Qh at hk
  simp only[h,ZFy,if_true,if_false]at hk
  split at hk;· omega
  split at hk;· omega
  omega
 refine⟨?_,c⟩
 unfold Kl
 rw[if_neg (by omega),hf]
 by_cases h:f.kind=11
 ·have h1:=Zmj (c h)
  have h2:max (Zk (fun x=>dC (x.name=f.from_)) m.fields) 0=Yz m f.from_ i:=by
   have e:Zk (fun x=>dC (x.name=f.from_)) m.fields=Yz m f.from_ m.fields.length:=by unfold Yz;rw[ZFc]
   rw[e,h1.1]
   have:=c h
   omega
  rw[h2]
  simp only[h,decide_true,Bool.not_true,Bool.false_or,ZFe]
  generalize dC (YP m.fields (Yz m f.from_ i).toNat=0)=x
  generalize dC (YP m.fields i=0)=y
  generalize ZaO f=z
  cases x<;>cases y<;>cases z<;>rfl
 simp only[h,decide_false,Bool.not_false,Bool.true_or,Bool.not_true,Bool.or_false,ZFh]
 generalize dC (YP m.fields i=0)=y
 generalize ZaO f=z
 cases y<;>cases z<;>rfl
theorem Zr5(d:Dfn)(st:St):Zf ZEQ 44 [.agg d.cells] st fun r S=>S=st∧∃a f c,r=.ret (.tup [.agg [.int .i64 a,.int .i64 f,.int .i64 c],.bool (!Wd d)]):=by
 refine Zh (cR 44 f44) fun F hF=>?_
 have v:=Wd.eq_1 d
 obtain⟨fa,ff,fc,av⟩:∃a f c,Zyo (Zbh d)=[.int .i64 a,.int .i64 f,.int .i64 c]:=by
  cases Zbh d with
  |none=>exact⟨_,_,_,rfl⟩
  |some x=>exact⟨_,_,_,rfl⟩
 have al:Zbr d=!(Zbh d).isSome:=by unfold Zbr;cases Zbh d<;>rfl
 refine rx @eQ2 ?_
 refine rx @eQ2 ?_
 refine cX (nd2 @Zyp.eq_1 @av) (ZrX d) ?_
 refine rg ?_
 refine cd (fun h=>?_) (fun h=>?_)
 ·have hA:Wd d=false:=by rw[v,al,h];rfl
  refine rg ?_
  exact hF.ret _ st rfl (by simp) (ZEW _) (ZES _) ⟨rfl,_,_,_,by rw[hA];rfl⟩
 have hv:Zbr d=true:=by rw[al,h];rfl
 have hV:=Zjv hv
 have hmany:=hV.many
 rw[hv,ZFe]at v
 refine rg ?_
 refine Zb (fr (d.msgs.length) (fun k Q=>k≤d.msgs.length→(∀q,q<k→Zau (d.msgs.getD q dE)=true)→Q [(1,.loc 1 0),(2,.loc 2 0),(6,.d (.int .i64 k))] [(1,[.str d.name,YR d.msgs,.str d.start]),(2,[.int .i64 0,.int .i64 0,.int .i64 0])] st) (fun n z=>?_) fun aq=>?_)
 ·intro k hn hk ab
  refine rx @Zfo ?_
  refine cd (fun h1=>?_) (fun h1=>?_)
  ·have y:k<d.msgs.length:=by simp at h1;omega
   have ad:=hV.msg y
   have hmf:=ad.many
   have am:d.msgs.getD k dE∈d.msgs:=Zy y
   have az:∀f∈(d.msgs.getD k dE).fields,Zf9 f:=fun f hf=>by
    obtain⟨i,hi,rfl⟩:=ZeC hf
    exact Zwl (ad.field i hi)
   have ac:Zau (d.msgs.getD k dE)=false→Wd d=false:=fun h=>by
    rw[v,List.all_eq_false]
    exact⟨_,am,by rw[h];simp⟩
   generalize hm:d.msgs.getD k dE=m at *
   refine xA (nd2 @atM (nd2 @hm @eQ3)) ?_
   refine rx @eQ3 ?_
   have c9:=Zob (m:=m) (by omega) az
   refine cl (c9) ?_
   refine rg ?_
   refine Zb (fr (m.fields.length) (fun i Q=>i≤m.fields.length→(∀q,q<i→Kl m.fields q=false)→Q [(1,.loc 1 0),(2,.loc 2 0),(6,.d (.int .i64 k)),(7,.loc 7 0),(8,.d (Zmz (Zd1 m.fields))),(9,.d (.int .i64 (YP m.fields m.fields.length))),(10,.d (.int .i64 i))] [(1,[.str d.name,YR d.msgs,.str d.start]),(2,[.int .i64 0,.int .i64 0,.int .i64 0]),(7,[.str m.name,Zo m.fields])] st) (fun n j=>?_) fun ak=>?_)
   ·intro i hn2 hi ag
    refine rx @Zbc ?_
    refine cd (fun h2=>?_) (fun h2=>?_)
    ·have u:i<m.fields.length:=by simp at h2;omega
     obtain⟨hw,ae⟩:=Zym ad u
     have ai:=Zwp m.fields
     have ax:=Zpg u
     generalize hf:m.fields.getD i dE=f at *
     refine jU [0,1,2,1,0,1,0,1] (fun Q=>∀w:Bool,Kl m.fields i=w→Q F [(1,.loc 1 0),(2,.loc 2 0),(6,.d (.int .i64 k)),(7,.loc 7 0),(8,.d (Zmz (Zd1 m.fields))),(9,.d (.int .i64 (YP m.fields m.fields.length))),(10,.d (.int .i64 i)),(11,.d (.bool w))] [(1,[.str d.name,YR d.msgs,.str d.start]),(2,[.int .i64 0,.int .i64 0,.int .i64 0]),(7,[.str m.name,Zo m.fields])] st) ?_ fun fin=>?_
     ·intro w aj
      refine rg ?_
      refine cd (fun h5=>?_) (fun h5=>?_)
      ·have hA:=ac (ZfV (i:=i) (by omega) (by rw[aj];exact h5))
       refine rg ?_
       exact hF.ret _ st rfl (by simp) (ZEW _) (ZES _) ⟨rfl,_,_,_,by rw[hA];rfl⟩
      refine gA ?_
      refine Za ?_
      exact j ((m.fields.length)-(i+1)) (by omega) (i+1) rfl (by omega) (ZX (q:=fun q=>Kl m.fields q=false) ag (by rw[aj];exact h5))
     refine jU [0,1,2,1,0,1,1] (fun Q=>∀w1:Bool,w1=(ZaO f&&!dC (YP m.fields i=0))→Q F [(1,.loc 1 0),(2,.loc 2 0),(6,.d (.int .i64 k)),(7,.loc 7 0),(8,.d (Zmz (Zd1 m.fields))),(9,.d (.int .i64 (YP m.fields m.fields.length))),(10,.d (.int .i64 i)),(11,.d (.bool w1))] [(1,[.str d.name,YR d.msgs,.str d.start]),(2,[.int .i64 0,.int .i64 0,.int .i64 0]),(7,[.str m.name,Zo m.fields])] st) ?_ fun ar=>?_
     ·intro w1 au
      rw[←au]at hw
      refine xA (nd2 @atF (nd2 @hf @eQ0)) ?_
      by_cases t:f.kind=11
      ·have ae:=ae t
       have aw:=Zmj ae
       obtain⟨p,hp⟩:∃p:Nat,Yz m f.from_ i=p:=⟨(Yz m f.from_ i).toNat,by omega⟩
       rw[hp,Int.toNat_natCast,t]at hw
       rw[hp]at aw
       have ao:=Zpg (l:=m.fields) (i:=p) (by omega)
       refine Zs rfl trivial (fun _=>?_) (fun h=>by simp[t]at h)
       refine xA (nd2 @atF (nd2 @hf (nd2 @eQ0 @ZcS))) ?_
       have c9:=ZaR m f.from_ i (by omega)
       refine Zky rfl rfl rfl rfl rfl (fun ay=>⟨by first|trivial|(simpa[Za8]using ay),trivial,c9⟩) (YZ ?_)
       simp only[Eqs,reduceCtorEq,ZEV,reduceIte,ZET,ZEX,ZEU,hp,atI,ai,ao,ZcS]
       refine aa ?_
       refine Zd ?_
       exact fin _ (by rw[hw];rfl)
      rw[decide_eq_false t,ZFh,Bool.or_false]at hw
      refine Zs rfl trivial (fun h=>by simp at h;exact absurd h t) (fun _=>?_)
      refine Zv (Zd (Zdf [1,2,6,7,8,9,10,11] ?_))
      simp only[Eqs,reduceCtorEq,ZEV,reduceIte,ZET,ZEX,ZEU]
      exact fin w1 hw
     refine xA (nd2 @atF (nd2 @hf (nd2 @Qp @J2))) ?_
     refine cX (nd2 @atI (nd2 @ai (nd2 @ax @ZcS))) (Zr6 f) ?_
     refine aa ?_
     refine Zd (Zd ?_)
     exact ar _ rfl
    have u:i=m.fields.length:=by simp at h2;omega
    subst u
    have ah:Kl m.fields m.fields.length=!dC (YP m.fields m.fields.length=0):=by unfold Kl;rw[if_pos rfl]
    refine rg ?_
    refine cd (fun h6=>?_) (fun h6=>?_)
    ·have hA:=ac (ZfV (Nat.lt_succ_self _) (by rw[ah];exact h6))
     refine rg ?_
     exact hF.ret _ st rfl (by simp) (ZEW _) (ZES _) ⟨rfl,_,_,_,by rw[hA];rfl⟩
    have af:Zau m=true:=ZmK fun q hq=>by
     by_cases ap:q=m.fields.length
     ·subst ap;rw[ah];exact h6
     exact ag q (by omega)
    refine gA ?_
    refine Za ?_
    exact z ((d.msgs.length)-(k+1)) (by omega) (k+1) rfl (by omega) (ZX (q:=fun q=>Zau (d.msgs.getD q dE)=true) ab (by rw[hm];exact af))
   exact ak _ 0 rfl (by omega) (by intro q hq;omega)
  have y:k=d.msgs.length:=by simp at h1;omega
  subst y
  have hA:Wd d=true:=by
   rw[v,List.all_eq_true]
   intro x hx
   obtain⟨q,hq,rfl⟩:=ZeC hx
   exact ab q hq
  refine rg ?_
  exact hF.ret _ st rfl (by simp) (ZEW _) (ZES _) ⟨rfl,_,_,_,by rw[hA];rfl⟩
 exact aq _ 0 rfl (by omega) (by intro q hq;omega)
theorem Zoa(d:Dfn):Zc ZEQ 21 [.agg d.cells] (.bool (Wd d)):=by
 refine Ze (cR 21 f21) fun F st i=>?_
 refine rx @eQ2 ?_
 refine rg ?_
 rw[show(D.agg [.str d.name,YR d.msgs,.str d.start])=.agg d.cells from rfl]
 refine cV (Zr5 d st) ?_ ?_
 ·rintro dd S ⟨rfl,a,f,c,h⟩
  cases h
  refine gR0 ?_
  refine rg ?_
  exact i rfl (by trivial) (by cases Wd d<;>exact ZEW _) (ZES _)
 rintro dd S ⟨_,a,f,c,h⟩
 cases h
theorem Zfv(d:Dfn)(hd:DOk d):∀(n:Nat) (m:Msg) (v:Val),MOk m→Wb v=true→wtN v≤5000→ZjK d n m v →
  Zc ZEQ 30 [.agg d.cells,.agg m.cells,.agg v.cells] (.int .i64 (lenS d n m v))
 |0,_,_,_,_,_,hL=>hL.elim
 |n+1,m,v,hm,hv,hw,hL=>by
  refine Zku d hd n m hm v hv hw hL fun x hx y hy=>?_
  obtain⟨k,hk,rfl⟩:=ZFa hx
  have h1:=(hL.2 k hk).2 y (by simpa[ZE8,hk]using hy)
  exact⟨h1.1,Zfv d hd n (ZD d y.name) y (hd.of _) (YM (YM hv hx) hy) (Nat.le_trans (Nat.le_trans (ZjA hy) (ZjA hx)) hw) h1.2⟩
def atS(d:Dfn)(s:Str)(v:Val):Int×Int:=if Wd d&&K0 v then (if Zn d s d.msgs.length<0 then (-1,9) else (Zn d s d.msgs.length,0)) else (-1,2)
theorem Zpl(d:Dfn)(s:Str)(v:Val)(hb:Wb v=true→Kg v≤1099511627776):Zc ZEQ 8 [.agg d.cells,.str s,.agg v.cells] (.tup [.int .i64 (atS d s v).1,.int .i64 (atS d s v).2]):=by
 refine Ze (cR 8 f8) fun F st c=>?_
 have hV:=Zr3 v hb
 have hA:=Zoa d
 have hS:=atS.eq_1 d s v
 rw[ZFf]at hV⊢
 cases ha:Wd d with
 |false =>
  rw[ha]at hA hS
  simp only[ZFh]at hS
  rw[if_neg (by simp)]at hS
  rw[hS]at c
  refine rx @eQ2 ?_
  refine rg ?_
  refine cl (hA) ?_
  refine Q1 rfl (e:=.d (.bool false)) (Zm ?_)
  simp only[Eqs,reduceCtorEq,ZEV,reduceIte,ZET,ZEX,ZEU]
  refine i1 ?_
  refine rg ?_
  refine rt c ?_
  rfl
 |true =>
  rw[ha]at hA hS
  simp only[ZFe]at hS
  refine rx @eQ2 ?_
  refine rg ?_
  refine cl (hA) ?_
  refine cG (hV) ?_
  refine cd (fun hv=>?_) (fun hv=>?_)
  ·rw[if_neg (by simpa using hv)]at hS
   rw[hS]at c
   refine rg ?_
   refine rt c ?_
   rfl
  rw[if_pos (by simpa using hv)]at hS
  refine rx @Zfo ?_
  refine cl (WN d s d.msgs.length (ZE6 _)) ?_
  refine rg ?_
  refine cd (fun hf=>?_) (fun hf=>?_)
  ·rw[if_pos (by simpa using hf)]at hS
   rw[hS]at c
   refine rg ?_
   refine rt c ?_
   rfl
  rw[if_neg (by simpa using hf)]at hS
  rw[hS]at c
  refine rg ?_
  refine rt c ?_
  rfl
def atR(d:Dfn)(s:Str)(v:Val):D:=if Wd d&&K0 v then (if Zn d s d.msgs.length<0 then .tup [.agg [.str [],.nilsl],.int .i64 9] else .tup [.agg (ZD d s).cells,.int .i64 0]) else .tup [.agg [.str [],.nilsl],.int .i64 2]
theorem ZsX(d:Dfn)(s:Str)(v:Val):Zc ZEQ 19 [.agg d.cells,.str s,.agg v.cells] (atR d s v):=by
 refine Ze (cR 19 f19) fun F st c=>?_
 have hV:=Zoy v
 have hA:=Zk7 d
 have hS:=atR.eq_1 d s v
 have n:Zk (fun x:Msg=>dC (x.name=s)) d.msgs=Zn d s d.msgs.length:=by unfold Zn;rw[ZFc]
 rw[ZFf]at hV⊢
 cases ha:Wd d with
 |false =>
  rw[ha]at hA hS
  simp only[ZFh]at hS
  rw[if_neg (by simp)]at hS
  rw[hS]at c
  refine rx @eQ2 ?_
  refine rg ?_
  refine cl (hA) ?_
  refine Q1 rfl (e:=.d (.bool false)) (Zm ?_)
  simp only[Eqs,reduceCtorEq,ZEV,reduceIte,ZET,ZEX,ZEU]
  refine i1 ?_
  refine rg ?_
  refine rt c ?_
  rfl
 |true =>
  rw[ha]at hA hS
  simp only[ZFe]at hS
  refine rx @eQ2 ?_
  refine rg ?_
  refine cl (hA) ?_
  refine cG (hV) ?_
  refine cd (fun hv=>?_) (fun hv=>?_)
  ·rw[if_neg (by simpa using hv)]at hS
   rw[hS]at c
   refine rg ?_
   refine rt c ?_
   rfl
  rw[if_pos (by simpa using hv)]at hS
  refine rg ?_
  refine cX @n (Zgz d s) ?_
  refine rg ?_
  refine cd (fun hf=>?_) (fun hf=>?_)
  ·rw[if_pos (by simpa using hf)]at hS
   rw[hS]at c
   refine rg ?_
   refine rt c ?_
   rfl
  have j:0≤Zn d s d.msgs.length:=by simpa using hf
  rw[if_neg (by omega)]at hS
  rw[hS]at c
  have hix:=Zcf j
  have i:max (Zn d s d.msgs.length) 0=ixS d s:=by omega
  unfold ZD at c
  generalize hm:d.msgs.getD (ixS d s) dE=m at *
  rw[i]
  refine xA (nd2 @atM (nd2 @hm @eQ3)) ?_
  refine rt c ?_
  rfl
def mfD(q:Str)(no:Int):D:=.iface 34 (.agg [.str q,.int .i64 no])
def mfR(q:Str)(no:Int):Res:=if no=0 then .ret (.tup []) else .panic (mfD q no)
theorem ZdL(fine:Bool)(q:Str)(no:Int)(st:St):Zf ZEQ 91 [.bool fine,.str q,.int .i64 no] st fun r S=>S=st∧r=if fine then .ret (.tup []) else .panic (mfD q no):=by
 refine Zh (cR 91 f91) fun F hF=>?_
 refine rg ?_
 refine cd (fun h=>?_) (fun h=>?_)
 ·have hf:fine=false:=by simpa using h
  refine rg ?_
  refine Zk3 rfl rfl rfl trivial ?_
  exact hF.pan st (ZES _) ⟨rfl,by rw[hf];rfl⟩
 have hf:fine=true:=by simpa using h
 refine Zv ?_
 exact hF.fin (.tup []) st rfl trivial (ZEW _) (ZES _) ⟨rfl,by rw[hf];rfl⟩
theorem ZsW(a b:Int)(q:Str)(st:St):Zf ZEQ 137 [.int .i64 a,.int .i64 b,.str q] st fun r S=>S=st∧r=mfR q (KB a b):=by
 refine Zh (cR 137 f137) fun F hF=>?_
 have hE:=KB.eq_1 a b
 refine rg ?_
 refine cV (ZdL (dC (b≤a)) q 4 st) ?_ ?_
 ·rintro d S ⟨hS,hr⟩
  obtain rfl:=hS.symm
  by_cases h1:b≤a
  ·rw[decide_eq_true h1,if_pos rfl]at hr
   cases hr
   rw[if_neg (by simp;omega)]at hE
   refine gR0 ?_
   refine rg ?_
   refine cV (ZdL (dC (a≤b)) q 5 st) ?_ ?_
   ·rintro d S ⟨hS,hr⟩
    obtain rfl:=hS.symm
    by_cases h2:a≤b
    ·rw[decide_eq_true h2,if_pos rfl]at hr
     cases hr
     rw[if_neg (by simp;omega)]at hE
     refine gR0 ?_
     exact hF.fin (.tup []) st rfl trivial (ZEW _) (ZES _) ⟨rfl,by rw[hE];rfl⟩
    rw[decide_eq_false h2,if_neg (by simp)]at hr
    cases hr
   rintro d S ⟨hS,hr⟩
   obtain rfl:=hS.symm
   by_cases h2:a≤b
   ·rw[decide_eq_true h2,if_pos rfl]at hr
    cases hr
   rw[decide_eq_false h2,if_neg (by simp)]at hr
   cases hr
   rw[if_pos (by simp;omega)]at hE
   exact hF.pan st (ZES _) ⟨rfl,by rw[hE];rfl⟩
  rw[decide_eq_false h1,if_neg (by simp)]at hr
  cases hr
 rintro d S ⟨hS,hr⟩
 obtain rfl:=hS.symm
 by_cases h1:b≤a
 ·rw[decide_eq_true h1,if_pos rfl]at hr
  cases hr
 rw[decide_eq_false h1,if_neg (by simp)]at hr
 cases hr
 rw[if_pos (by simp;omega)]at hE
 exact hF.pan st (ZES _) ⟨rfl,by rw[hE];rfl⟩
def Kf(g:Nat→Str×Int):List Nat→Option (Str×Int)
 | []=>nO
 |i::r=>if (g i).2=0 then Kf g r else sO (g i)
theorem ZkD{g:Nat→Str×Int}:∀{l:List Nat},Kf g l=nO→∀i∈l,(g i).2=0
 | [],_,i,hi=>by simp at hi
 |a::r,h,i,hi=>by
  simp only[Kf]at h
  split at h
  ·rename_i h0
   rcases List.mem_cons.1 hi with rfl|hi
   ·exact h0
   exact ZkD h i hi
  simp at h
def Jw(mis:Msg→Val→Str→Str×Int)(d:Dfn)(of:Str)(x:Val)(q:Str):Str×Int :=
 if x.parts.length=1 then mis (ZD d of) (x.parts.getD 0 dE) (Z1 q (Ye x.parts 0)) else (q,6)
def Zav(mis:Msg→Val→Str→Str×Int)(len:Msg→Val→Int)(d:Dfn)(f:Fld)(x:Val)(q:Str)(l:List (Str×Int)):Str×Int :=
 if f.kind=1∨f.kind=3 then (if x.int<f.low∨f.high<x.int then (q,3) else (q,0))
 else if f.kind=4 then (q,KB x.bytes.length (Zd7 f.size l))
 else if f.kind=5 then (if f.high<x.bytes.length then (q,5) else if x.bytes.any (fun c=>dC ((c.toNat:Int)=f.low)) then (q,6) else (q,0))
 else if f.kind=6 then (if W3 x.hdrs=false then (q,6) else if f.high<(ZaV x.hdrs).length then (q,5) else (q,0))
 else if f.kind=7 then (if KB x.parts.length (Zd7 f.size l)=0 then (Kf (fun i=>mis (ZD d f.of) (x.parts.getD i dE) (Z1 q (Ye x.parts i))) (ZE4 x.parts.length)).getD (q,0) else (q,KB x.parts.length (Zd7 f.size l)))
 else if f.kind=8 then Jw mis d f.of x q
 else if f.kind=9 then (if QT f (YU f.tag l)<0 then (q,9) else Jw mis d (f.cases.getD (QT f (YU f.tag l)).toNat dE).of x q)
 else if f.kind=12 then (if (Jw mis d f.of x q).2=0 then (q,KB (len (ZD d f.of) (x.parts.getD 0 dE)) (Zd7 f.size l)) else Jw mis d f.of x q)
 else (q,0)
def Z9(d:Dfn):Nat→Msg→Val→Str→Str×Int
 |0,_,_,p=>(p,6)
 |n+1,m,v,p =>
  if dC (v.name=m.name)&&(dC (v.int=0)&&(dC (v.bytes.length=0)&&(dC (v.hdrs.length=0)&&KE m v.parts))) then
   (Kf (fun k=>if WQ ((vfs m.fields).getD k dE).kind (v.parts.getD k dE) then (Z1 p (Ye v.parts k),6)
    else Zav (Z9 d n) (lenS d n) d ((vfs m.fields).getD k dE) (v.parts.getD k dE) (Z1 p (Ye v.parts k)) (Zcm m v.parts)) (ZE4 v.parts.length)).getD ([],0)
  else (p,6)
theorem ZuL{d:Dfn}{s:Str}(h:0≤Zn d s d.msgs.length):(ZD d s).name=s:=by
 have h1:=Zcf h
 unfold Zn at h h1
 have h2:=(Zaa h).1
 rw[h1.1]at h2
 rw[ZFc]at h2
 simpa[ZD]using h2
theorem ZsG{d:Dfn}:∀{n:Nat} {m:Msg} {v:Val} {p:Str},(Z9 d n m v p).2=0→v.name=m.name
 |0,_,_,_,h=>by simp[Z9]at h
 |n+1,m,v,p,h=>by
  simp only[Z9]at h
  split at h
  ·rename_i hc
   simp only[ZEY,decide_eq_true_eq]at hc
   exact hc.1
  simp at h
structure ZhX(d:Dfn)(f:Fld):Prop where
 kind:1≤f.kind∧f.kind≤12
 ref:f.kind=7∨f.kind=8∨f.kind=12→0≤Zn d f.of d.msgs.length
 cas:f.kind=9→∀c∈f.cases,0≤Zn d c.of d.msgs.length
def Zt1(d:Dfn):Prop:=∀m∈d.msgs,∀f∈m.fields,ZhX d f
theorem Zt1.of{d:Dfn}(h:Zt1 d)(s:Str):∀f∈(ZD d s).fields,ZhX d f:=by
 unfold ZD
 by_cases hi:ixS d s<d.msgs.length
 ·exact h _ (Zy hi)
 rw[show d.msgs.getD (ixS d s) dE=dE by simp[ZE8,ZFA (Nat.le_of_not_lt hi)]]
 intro f hf;simp[show(dE:Msg).fields=[] from rfl]at hf
theorem ZkE{g:Nat→Str×Int}{r:Str×Int}:∀{l:List Nat},Kf g l=sO r→¬r.2=0
 | [],h=>by simp[Kf]at h
 |a::t,h=>by
  simp only[Kf]at h
  split at h
  ·exact ZkE h
  rename_i h0
  simp only[ZEP]at h
  rw[←h];exact h0
theorem ZoZ{g:Nat→Str×Int}{n:Nat}{q:Str×Int}(h:((Kf g (ZE4 n)).getD q).2=0):∀i,i<n→(g i).2=0:=by
 cases hf:Kf g (ZE4 n) with
 |none=>exact fun i hi=>ZkD hf i (List.mem_range.2 hi)
 |some r=>rw[hf]at h;exact absurd h (ZkE hf)
theorem ZwW{v:Val}(h:Ji v=true):ZbC v.hdrs:=by
 unfold Ji at h
 simp only[ZEY,Bool.not_eq_true']at h
 intro x hx
 have h1:=h.2
 have h2:=List.any_eq_false.1 h1 x hx
 unfold JE at h2
 simp only[ZFb,decide_eq_true_eq,not_or]at h2
 omega
theorem Zn6{mis:Msg→Val→Str→Str×Int}{d:Dfn}{of:Str}{x:Val}{q:Str}(h:(Jw mis d of x q).2=0):x.parts.length=1∧(mis (ZD d of) (x.parts.getD 0 dE) (Z1 q (Ye x.parts 0))).2=0:=by
 unfold Jw at h
 split at h
 ·rename_i h1;exact⟨h1,h⟩
 simp at h
theorem Zws{mis:Msg→Val→Str→Str×Int}{len:Msg→Val→Int}{d:Dfn}{f:Fld}{x:Val}{q:Str}{l:List (Str×Int)}(hf:ZhX d f)(hv:WK f=true)(hu:WQ f.kind x=false)(h:(Zav mis len d f x q l).2=0):
  ∀y∈x.parts,∃of q',0≤Zn d of d.msgs.length∧(mis (ZD d of) y q').2=0:=by
 intro y hy
 have hpos:0<x.parts.length:=List.length_pos_iff.2 fun e=>by rw[e]at hy;simp at hy
 have h7:7≤f.kind:=by
  unfold WQ at hu
  simp only[Bool.or_eq_false_iff,Bool.and_eq_false_iff,Bool.not_eq_false',decide_eq_true_eq,decide_eq_false_iff_not]at hu
  have:=hu.2
  omega
 have hk:f.kind=7∨f.kind=8∨f.kind=9∨f.kind=12:=by
  have:=hf.kind
  unfold WK at hv
  simp only[ZEY,Bool.not_eq_true',decide_eq_false_iff_not]at hv
  omega
 have one:∀of,0≤Zn d of d.msgs.length→(Jw mis d of x q).2=0→∃of q',0≤Zn d of d.msgs.length∧(mis (ZD d of) y q').2=0:=fun of h0 h1=>by
  obtain⟨hl,h2⟩:=Zn6 h1
  refine⟨of,Z1 q (Ye x.parts 0),h0,?_⟩
  rw[show y=x.parts.getD 0 dE by
   obtain⟨i,hi,rfl⟩:=ZFa hy
   have:i=0:=by omega
   subst this;simp[ZE8,hi]]
  exact h2
 unfold Zav at h
 rw[if_neg (by omega),if_neg (by omega),if_neg (by omega),if_neg (by omega)]at h
 rcases hk with hk|hk|hk|hk
 ·rw[if_pos hk]at h
  split at h
  ·obtain⟨i,hi,rfl⟩:=ZFa hy
   have h1:=ZoZ h i hi
   exact⟨f.of,_,hf.ref (by omega),by simpa[ZE8,hi]using h1⟩
  rename_i j;exact absurd h j
 ·rw[if_neg (by omega),if_pos hk]at h
  exact one _ (hf.ref (by omega)) h
 ·rw[if_neg (by omega),if_neg (by omega),if_pos hk]at h
  split at h
  ·simp at h
  rename_i hc
  have hlt:=Y2 (fun c:Yg=>dC (c.low≤YU f.tag l)&&dC (YU f.tag l≤c.high)) f.cases
  exact one _ (hf.cas hk _ (Zy (by unfold QT at hc⊢;omega))) h
 rw[if_neg (by omega),if_neg (by omega),if_neg (by omega),if_pos hk]at h
 split at h
 ·rename_i h1;exact one _ (hf.ref (by omega)) h1
 rename_i h1;exact absurd h h1
theorem Zlm{d:Dfn}(hd:Zt1 d):∀(n:Nat) (m:Msg) (v:Val) (p:Str),(∀f∈m.fields,ZhX d f)→Wb v=true→(Z9 d n m v p).2=0→ZjK d n m v
 |0,_,_,_,_,_,h=>by simp[Z9]at h
 |n+1,m,v,p,hm,hv,h=>by
  simp only[Z9]at h
  split at h
  ·rename_i hc
   simp only[ZEY,decide_eq_true_eq]at hc
   have hr:=hc.2.2.2.2
   unfold KE at hr
   rw[decide_eq_true_eq]at hr
   have j:(vfs m.fields).length=v.parts.length:=by simpa using congrArg List.length hr
   refine⟨j,fun k hk=>?_⟩
   have hg:=ZoZ h k hk
   have z:v.parts.getD k dE∈v.parts:=Zy hk
   have t:(vfs m.fields).getD k dE∈vfs m.fields:=Zy (by omega)
   have c:=List.mem_filter.1 t
   have i:=YM hv z
   have u:=Jj (Qt i)
   have ab:=ZwW (Qt i)
   generalize v.parts.getD k dE=x at *
   generalize (vfs m.fields).getD k dE=f at *
   cases hu:WQ f.kind x with
   |true=>rw[hu,if_pos rfl]at hg;simp at hg
   |false =>
    rw[hu,if_neg (by simp)]at hg
    refine⟨⟨hu,fun _=>u.2.1,fun h6=>⟨?_,ab⟩⟩,fun y hy=>?_⟩
    ·unfold Zav at hg
     rw[if_neg (by omega),if_neg (by omega),if_neg (by omega),if_pos h6]at hg
     cases hh:W3 x.hdrs with
     |true=>rfl
     |false=>rw[hh,if_pos rfl]at hg;simp at hg
    obtain⟨of,q',h0,h1⟩:=Zws (hm f c.1) c.2 hu hg y hy
    have hn:y.name=of:=by rw[ZsG h1,ZuL h0]
    rw[hn]
    exact⟨h0,Zlm hd n _ y q' (hd.of _) (YM i hy) h1⟩
  simp at h
def mfT(r:Str×Int):D:=.tup [.str r.1,.int .i64 r.2]
theorem ZuW(d:Dfn)(of:Str)(x:Val)(q:Str)(mis:Msg→Val→Str→Str×Int)(hps:x.parts.length≤100000)(hn:∀y∈x.parts,y.name.length≤1000)(hq:q.length≤1000000)(hmis:x.parts.length=1→Zc ZEQ 9 [.agg d.cells,.int .i64 (Zn d of d.msgs.length),.agg (x.parts.getD 0 dE).cells,.str (Z1 q (Ye x.parts 0))] (mfT (mis (ZD d of) (x.parts.getD 0 dE) (Z1 q (Ye x.parts 0))))):
  Zc ZEQ 53 [.agg d.cells,.int .i64 (Zn d of d.msgs.length),.agg x.cells,.str q] (mfT (Jw mis d of x q)):=by
 refine Ze (cR 53 f53) fun F st c=>?_
 have hS:=Jw.eq_1 mis d of x q
 generalize Zn d of d.msgs.length=ix at *
 rw[ZFf]
 refine rx @eQ2 ?_
 refine rx @Qq ?_
 refine cd (fun h1=>?_) (fun h1=>?_)
 ·rw[if_neg (by simp at h1;omega)]at hS
  rw[hS]at c
  refine rg ?_
  refine rt c ?_
  rfl
 have hl:x.parts.length=1:=by simp at h1;omega
 rw[if_pos hl]at hS
 rw[hS]at c
 have hm:=hmis hl
 have j:Zc ZEQ 27 [.str q,ZO x.parts,.int .i64 0] (.str (Z1 q (Ye x.parts 0))):=ZfX q x.parts 0 (by omega) hps hn hq
 generalize Z1 q (Ye x.parts 0)=q2 at *
 have hr:=Wp (l:=x.parts) (i:=0) (by omega)
 rw[ZFf]at hm
 generalize mis (ZD d of) (x.parts.getD 0 dE) (Z1 q (Ye x.parts 0))=res at *
 obtain⟨p,no⟩:=res
 simp only[mfT]at hm c
 refine xA (nd2 @atV @hr) ?_
 refine clD (j) ?_
 refine clD (hm) ?_
 refine rt c ?_
 rfl
theorem ZfK{g:Nat→Str×Int}:∀{a b:List Nat},(∀i∈a,(g i).2=0)→Kf g (a++b)=Kf g b
 | [],_,_=>rfl
 |i::a,b,h=>by rw[List.cons_append,Kf,if_pos (h i (by simp))];exact ZfK fun k hk=>h k (by simp[hk])
theorem ZdU{g:Nat→Str×Int}{n:Nat}(h:∀i,i<n→(g i).2=0):Kf g (ZE4 n)=nO:=by
 rw[←ZFm (ZE4 n),ZfK fun i hi=>h i (List.mem_range.1 hi)];rfl
theorem Zfh{g:Nat→Str×Int}{n j:Nat}(hj:j<n)(h:∀i,i<j→(g i).2=0)(h2:¬(g j).2=0):Kf g (ZE4 n)=sO (g j):=by
 rw[show ZE4 n=ZE4 j++(j::(List.range' (j+1) (n-(j+1)))) by rw[List.range_eq_range',List.range_eq_range',show n=j+(n-(j+1)+1) by omega,←List.range'_append_1,List.range'_succ];simp;omega,ZfK fun i hi=>h i (List.mem_range.1 hi),Kf,if_neg h2]
theorem ZzL{L:DL.Loc}(l:Str)(i:Int):qv L s (.iaddr 1) [.d (ZM l),.d (.int .i64 i)]=sO (0≤i∧i<l.length,.d (.ep (u8C (l.getD i.toNat dE)) 0)):=rfl
theorem ZsS(d:Dfn)(f:Fld)(x:Val)(q:Str)(l:List (Str×Int))(mis:Msg→Val→Str→Str×Int)(len:Msg→Val→Int)(hsz:f.kind=4∨f.kind=7∨f.kind=12→ZN f.size=true∧∀t∈f.size.terms,0≤YU t.field l∧YU t.field l<34359738368)(hx6:ZbC x.hdrs)(hxb:x.bytes.length≤1048576)(hlen:f.kind=12→(Jw mis d f.of x q).2=0→x.parts.length=1∧Zc ZEQ 12 [.agg d.cells,.int .i64 (Zn d f.of d.msgs.length),.agg (x.parts.getD 0 dE).cells] (.int .i64 (len (ZD d f.of) (x.parts.getD 0 dE))))(hps:x.parts.length≤100000)(hnm:∀y∈x.parts,y.name.length≤1000)(hq:q.length≤1000000)(hmis:f.kind=7→∀i,i<x.parts.length→Zc ZEQ 9 [.agg d.cells,.int .i64 (Zn d f.of d.msgs.length),.agg (x.parts.getD i dE).cells,.str (Z1 q (Ye x.parts i))] (mfT (mis (ZD d f.of) (x.parts.getD i dE) (Z1 q (Ye x.parts i)))))(hfr:ZhX d f)(hone:∀of,0≤Zn d of d.msgs.length→Zc ZEQ 53 [.agg d.cells,.int .i64 (Zn d of d.msgs.length),.agg x.cells,.str q] (mfT (Jw mis d of x q))):
  Zc ZEQ 29 [.agg d.cells,.agg f.cells,.agg x.cells,.str q,ZeE l] (mfT (Zav mis len d f x q l)):=by
 refine Ze (cR 29 f29) fun F st u=>?_
 have hS:=Zav.eq_1 mis len d f x q l
 generalize Zav mis len d f x q l=res at *
 rw[ZFf]at hone⊢
 refine rx (nd2 @eQ2 @eQ0) ?_
 refine rx @Zfo ?_
 refine cl (WN d f.of d.msgs.length (ZE6 _)) ?_
 refine gG ?_
 refine jU [0,0,0,1] (fun Q=>res=(q,0)→Q F [(3,.d (.str q))] [] st) ?_ fun fin=>?_
 ·intro he
  rw[he]at u
  refine rg ?_
  refine rt u ?_
  rfl
 refine cd (fun c1=>?_) (fun c1=>?_)
 ·refine Zv (Zs rfl trivial (fun _=>?_) (fun h=>by rw[c1]at h;simp at h))
  have ab:f.kind=1∨f.kind=3:=by simp at c1;omega
  rw[if_pos ab]at hS
  refine rx @eQ0 ?_
  refine cd (fun h2=>?_) (fun h2=>?_)
  ·rw[if_pos (by simpa using h2)]at hS
   rw[hS]at u
   refine rg ?_
   refine rt u ?_
   rfl
  rw[if_neg (by simpa using h2)]at hS
  refine Zv (Zj (Zd ?_))
  refine kE [3] ?_
  exact fin hS
 refine rg ?_
 refine cd (fun c3=>?_) (fun c3=>?_)
 ·have ab:f.kind=1∨f.kind=3:=by simp at c3;omega
  rw[if_pos ab]at hS
  refine rx @eQ0 ?_
  refine cd (fun h2=>?_) (fun h2=>?_)
  ·rw[if_pos (by simpa using h2)]at hS
   rw[hS]at u
   refine rg ?_
   refine rt u ?_
   rfl
  rw[if_neg (by simpa using h2)]at hS
  refine Zv (Zj (Zd ?_))
  refine kE [3] ?_
  exact fin hS
 rw[if_neg (by simp at c1 c3;omega)]at hS
 refine rg ?_
 refine cd (fun c4=>?_) (fun c4=>?_)
 ·have ax:f.kind=4:=by simpa using c4
  rw[if_pos ax]at hS
  rw[hS]at u
  obtain⟨v,ae⟩:=hsz (by omega)
  refine rx (nd2 @W8 @eQ0) ?_
  refine clD (ZfW f.size v l ae) ?_
  refine clD (ZfY _ _) ?_
  refine rt u ?_
  rfl
 rw[if_neg (by simpa using c4)]at hS
 refine rg ?_
 refine cd (fun c5=>?_) (fun c5=>?_)
 ·rw[if_pos (by simpa using c5)]at hS
  refine rx (nd2 @W8 @eQ0) ?_
  refine cd (fun h5=>?_) (fun h5=>?_)
  ·rw[if_pos (by simpa using h5)]at hS
   rw[hS]at u
   refine rg ?_
   refine rt u ?_
   rfl
  rw[if_neg (by simpa using h5)]at hS
  refine rg ?_
  refine Zb (fr (x.bytes.length) (fun j Q=>j≤x.bytes.length→(∀i,i<j→(fun c:UInt8=>dC ((c.toNat:Int)=f.low)) (x.bytes.getD i dE)=false)→Q [(3,.d (.str q)),(6,.loc 6 0),(7,.loc 7 0),(13,.d (.int .i64 j))] [(6,[.str f.name,.int .i64 f.kind,.int .i64 f.bits,.bool f.little,.bool f.loose,.int .i64 f.low,.int .i64 f.high,.int .i64 f.size.base,YD f.size.terms,.str f.of,.str f.tag,.str f.from_,Yy f.cases,.int .i64 f.check,.int .i64 f.key]),(7,[.str x.name,.int .i64 x.int,ZM x.bytes,Z2 x.hdrs,ZO x.parts])] st) (fun n ag=>?_) fun aq=>?_)
  ·intro j a8 hj ah
   refine rx @W8 ?_
   refine cd (fun g1=>?_) (fun g1=>?_)
   ·simp at g1
    generalize hc:x.bytes.getD j dE=c at *
    have ay:IntKind.i64.wrap (c.toNat:Int)=c.toNat:=QI ⟨by omega,by have:=c.toNat_lt;omega⟩
    refine xA (nd2 @ZzL (nd2 @hc (nd2 @u8C.eq_1 @ay))) ?_
    refine cd (fun g2=>?_) (fun g2=>?_)
    ·have af:x.bytes.any (fun c=>dC ((c.toNat:Int)=f.low))=true:=List.any_eq_true.2 ⟨c,by rw[←hc];exact Zy g1,g2⟩
     rw[af,if_pos rfl]at hS
     rw[hS]at u
     refine rg ?_
     refine rt u ?_
     rfl
    refine gA ?_
    refine Za ?_
    exact ag ((x.bytes.length)-(j+1)) (by omega) (j+1) rfl (by omega) (ZX (q:=fun i=>(fun c:UInt8=>dC ((c.toNat:Int)=f.low)) (x.bytes.getD i dE)=false) ah (by rw[hc];exact g2))
   simp at g1
   obtain rfl:j=x.bytes.length:=by omega
   have af:x.bytes.any (fun c=>dC ((c.toNat:Int)=f.low))=false:=Zgd ah
   rw[af,if_neg (by simp)]at hS
   refine ZP rfl (Zj (Zd ?_))
   refine kE [3] ?_
   exact fin hS
  exact aq _ 0 rfl (by omega) (by intro i hi;omega)
 rw[if_neg (by simpa using c5)]at hS
 refine rg ?_
 refine cd (fun c6=>?_) (fun c6=>?_)
 ·rw[if_pos (by simpa using c6)]at hS
  refine rg ?_
  refine cl (Zr2 x.hdrs) ?_
  refine cd (fun h6=>?_) (fun h6=>?_)
  ·rw[if_pos (by simpa using h6)]at hS
   rw[hS]at u
   refine rg ?_
   refine rt u ?_
   rfl
  have hh:W3 x.hdrs=true:=by simpa using h6
  rw[if_neg (by rw[hh];simp)]at hS
  refine rx @eQ0 ?_
  refine cXD @W8 (ZiO hh hx6) ?_
  refine cd (fun h7=>?_) (fun h7=>?_)
  ·rw[if_pos (by simpa using h7)]at hS
   rw[hS]at u
   refine rg ?_
   refine rt u ?_
   rfl
  rw[if_neg (by simpa using h7)]at hS
  refine Zv (Zj (Zd ?_))
  refine kE [3] ?_
  exact fin hS
 rw[if_neg (by simpa using c6)]at hS
 refine rg ?_
 refine cd (fun c7=>?_) (fun c7=>?_)
 ·have ar:f.kind=7:=by simpa using c7
  rw[if_pos ar]at hS
  have a0:=hmis ar
  obtain⟨v,ae⟩:=hsz (by omega)
  refine rx (nd2 @Qq @eQ0) ?_
  refine clD (ZfW f.size v l ae) ?_
  refine clD (ZfY _ _) ?_
  generalize KB x.parts.length (Zd7 f.size l)=no at *
  refine rg ?_
  refine cd (fun h0=>?_) (fun h0=>?_)
  ·rw[if_neg (by simpa using h0)]at hS
   rw[hS]at u
   refine rg ?_
   refine rt u ?_
   rfl
  rw[if_pos (by simpa using h0)]at hS
  refine rg ?_
  refine Zb (fr (x.parts.length) (fun j Q=>j≤x.parts.length→(∀i,i<j→(mis (ZD d f.of) (x.parts.getD i dE) (Z1 q (Ye x.parts i))).2=0)→Q [(3,.d (.str q)),(5,.loc 5 0),(7,.loc 7 0),(12,.d (.int .i64 (Zn d f.of d.msgs.length))),(15,.d (.int .i64 j))] [(5,[.str d.name,YR d.msgs,.str d.start]),(7,[.str x.name,.int .i64 x.int,ZM x.bytes,Z2 x.hdrs,ZO x.parts])] st) (fun n ac=>?_) fun ap=>?_)
  ·intro j a8 hj ad
   refine rx @Qq ?_
   refine cd (fun g1=>?_) (fun g1=>?_)
   ·simp at g1
    have a6:=ZfX q x.parts j g1 hps hnm hq
    have ak:=a0 j g1
    have hr:=Wp (l:=x.parts) (i:=j) g1
    have a3:=Zfh (g:=fun i=>mis (ZD d f.of) (x.parts.getD i dE) (Z1 q (Ye x.parts i))) g1 ad
    rw[ZFf]at ak
    generalize hy:mis (ZD d f.of) (x.parts.getD j dE) (Z1 q (Ye x.parts j))=r7 at *
    obtain⟨p,a4⟩:=r7
    simp only[mfT]at ak
    generalize aw:Z1 q (Ye x.parts j)=q2 at *
    generalize a5:x.parts.getD j dE=y at *
    refine xA (nd2 @atV @hr) ?_
    refine clD (a6) ?_
    refine clD (ak) ?_
    refine rg ?_
    refine cd (fun g2=>?_) (fun g2=>?_)
    ·rw[a3 (by simpa using g2)]at hS
     rw[hS]at u
     simp only[mfT,ZFs]at u
     refine rg ?_
     refine rt u ?_
     rfl
    have am:a4=0:=by simpa using g2
    refine gA ?_
    refine Za ?_
    exact ac ((x.parts.length)-(j+1)) (by omega) (j+1) rfl (by omega) (fun i hi=>by
     by_cases a9:i=j
     ·rw[a9,a5,aw,hy];exact am
     exact ad i (by omega))
   simp at g1
   obtain rfl:j=x.parts.length:=by omega
   rw[ZdU ad]at hS
   refine ZP rfl (Zj (Zd ?_))
   refine kE [3] ?_
   exact fin hS
  exact ap _ 0 rfl (by omega) (by intro i hi;omega)
 rw[if_neg (by simpa using c7)]at hS
 refine rg ?_
 refine cd (fun c8=>?_) (fun c8=>?_)
 ·rw[if_pos (by simpa using c8)]at hS
  have h8:=hone f.of (hfr.ref (.inr (.inl (by simpa using c8))))
  generalize Jw mis d f.of x q=r8 at *
  obtain⟨p,no⟩:=r8
  rw[hS]at u
  simp only[mfT]at h8 u
  refine rg ?_
  refine cl (h8) ?_
  refine rt u ?_
  rfl
 rw[if_neg (by simpa using c8)]at hS
 refine rg ?_
 refine cd (fun c9=>?_) (fun c9=>?_)
 ·rw[if_pos (by simpa using c9)]at hS
  refine rx @eQ0 ?_
  refine clD (ZmY f.tag l) ?_
  refine clD (ZsK f (YU f.tag l)) ?_
  refine rg ?_
  have az:=Y2 (fun c:Yg=>dC (c.low≤YU f.tag l)&&dC (YU f.tag l≤c.high)) f.cases
  rw[show Zk (fun c:Yg=>dC (c.low≤YU f.tag l)&&dC (YU f.tag l≤c.high)) f.cases=QT f (YU f.tag l) from rfl]at az
  generalize QT f (YU f.tag l)=ci at *
  refine cd (fun ai=>?_) (fun ai=>?_)
  ·rw[if_pos (by simpa using ai)]at hS
   rw[hS]at u
   refine rg ?_
   refine rt u ?_
   rfl
  rw[if_neg (by simpa using ai)]at hS
  have hci0:0≤ci:=by simpa using ai
  have h9:=hone (f.cases.getD ci.toNat dE).of (hfr.cas (by simpa using c9) _ (Zy (by omega)))
  generalize av:f.cases.getD ci.toNat dE=cc at *
  generalize Jw mis d cc.of x q=r9 at *
  obtain⟨p,no⟩:=r9
  rw[hS]at u
  simp only[mfT]at h9 u
  refine xA (nd2 @Zfo (nd2 @eQ0 (nd2 @ZnN (nd2 @av @Yg.cells.eq_1)))) ?_
  refine clD (WN d cc.of d.msgs.length (ZE6 _)) ?_
  refine clD (h9) ?_
  refine rt u ?_
  rfl
 rw[if_neg (by simpa using c9)]at hS
 refine rg ?_
 refine cd (fun al=>?_) (fun al=>?_)
 ·have z:f.kind=12:=by simpa using al
  rw[if_pos z]at hS
  have ao:=hone f.of (hfr.ref (.inr (.inr z)))
  have aj:=hlen z
  obtain⟨v,ae⟩:=hsz (by omega)
  generalize Jw mis d f.of x q=a7 at *
  obtain⟨p,no⟩:=a7
  simp only[mfT]at ao aj hS
  refine rg ?_
  refine cl (ao) ?_
  refine rg ?_
  refine cd (fun h0=>?_) (fun h0=>?_)
  ·rw[if_neg (by simpa using h0)]at hS
   rw[hS]at u
   refine rg ?_
   refine rt u ?_
   rfl
  have ah:no=0:=by simpa using h0
  rw[if_pos ah]at hS
  rw[hS]at u
  obtain⟨hl1,au⟩:=aj ah
  have hr:=Wp (l:=x.parts) (i:=0) (by omega)
  rw[ZFf]at au
  generalize x.parts.getD 0 dE=y at *
  refine xA (nd2 @atV (nd2 @hr @eQ0)) ?_
  refine clD (au) ?_
  refine clD (ZfW f.size v l ae) ?_
  refine clD (ZfY _ _) ?_
  refine rt u ?_
  rfl
 rw[if_neg (by simpa using al)]at hS
 refine Zv (Zj (Zd ?_))
 refine kE [3] ?_
 exact fin hS
def Zam(d:Dfn)(n:Nat)(m:Msg)(v:Val)(p:Str)(k:Nat):Str×Int :=
 if WQ ((vfs m.fields).getD k dE).kind (v.parts.getD k dE) then (Z1 p (Ye v.parts k),6)
 else Zav (Z9 d n) (lenS d n) d ((vfs m.fields).getD k dE) (v.parts.getD k dE) (Z1 p (Ye v.parts k)) (Zcm m v.parts)
theorem Zix(d:Dfn)(n:Nat)(m:Msg)(v:Val)(p:Str):Z9 d (n+1) m v p =
  if dC (v.name=m.name)&&(dC (v.int=0)&&(dC (v.bytes.length=0)&&(dC (v.hdrs.length=0)&&KE m v.parts))) then (Kf (Zam d n m v p) (ZE4 v.parts.length)).getD ([],0) else (p,6):=rfl
theorem ZmX(d:Dfn)(fu im:Nat)(him:im<d.msgs.length)(hm:(d.msgs.getD im dE).fields.length≤1000)(v:Val)(p:Str)(hps:v.parts.length≤100000)(hnm:∀y∈v.parts,y.name.length≤1000)(hq:p.length≤1000000)(hpart:KE (d.msgs.getD im dE) v.parts=true→∀k,k<v.parts.length→(∀j,j<k→(Zam d fu (d.msgs.getD im dE) v p j).2=0)→WQ ((vfs (d.msgs.getD im dE).fields).getD k dE).kind (v.parts.getD k dE)=false →
   Zc ZEQ 29 [.agg d.cells,.agg ((vfs (d.msgs.getD im dE).fields).getD k dE).cells,.agg (v.parts.getD k dE).cells,.str (Z1 p (Ye v.parts k)),ZeE (Zcm (d.msgs.getD im dE) v.parts)] (mfT (Zam d fu (d.msgs.getD im dE) v p k))):
  Zc ZEQ 9 [.agg d.cells,.int .i64 im,.agg v.cells,.str p] (mfT (Z9 d (fu+1) (d.msgs.getD im dE) v p)):=by
 refine Ze (cR 9 f9) fun F st c=>?_
 generalize ai:d.msgs.getD im dE=m at *
 have hS:=Zix d fu m v p
 generalize Z9 d (fu+1) m v p=res at *
 have hR:=Zr7 m v.parts
 have hN:=Zod m hm v.parts
 rw[ZFf]
 have e1:dC (v.bytes.length=0)=!dC (0<(v.bytes.length:Int)):=by by_cases h:v.bytes.length=0<;>simp[h];omega
 have e2:dC (v.hdrs.length=0)=!dC (0<(v.hdrs.length:Int)):=by by_cases h:v.hdrs.length=0<;>simp[h];omega
 rw[e1,e2]at hS
 cases hX:(((!dC (v.name=m.name)||!dC (v.int=0)) ||decide (0<(v.bytes.length:Int))) ||decide (0<(v.hdrs.length:Int))) with
 |true =>
  rw[if_neg (by
   clear hS
   generalize dC (v.name=m.name)=b1 at *
   generalize dC (v.int=0)=b2 at *
   generalize dC (0<(v.bytes.length:Int))=b3 at *
   generalize dC (0<(v.hdrs.length:Int))=b4 at *
   cases b1<;>cases b2<;>cases b3<;>cases b4<;>simp_all)]at hS
  rw[hS]at c
  simp only[mfT]at c
  refine rx @eQ2 ?_
  refine xA (nd2 @atM (nd2 @ai @eQ3)) ?_
  refine rx (nd2 @W8 (nd2 @ZbH @hX)) ?_
  refine Q1 rfl (e:=.d (.bool false)) (Zm ?_)
  simp only[Eqs,reduceCtorEq,ZEV,reduceIte,ZET,ZEX,ZEU]
  refine i1 ?_
  refine rg ?_
  refine rt c ?_
  rfl
 |false =>
  refine rx @eQ2 ?_
  refine xA (nd2 @atM (nd2 @ai @eQ3)) ?_
  refine rx (nd2 @W8 (nd2 @ZbH @hX)) ?_
  refine cG (hR) ?_
  have hA:(dC (v.name=m.name)&&(dC (v.int=0)&&((!dC (0<(v.bytes.length:Int)))&&((!dC (0<(v.hdrs.length:Int)))&&KE m v.parts))))=KE m v.parts:=by
   clear hS
   generalize dC (v.name=m.name)=b1 at *
   generalize dC (v.int=0)=b2 at *
   generalize dC (0<(v.bytes.length:Int))=b3 at *
   generalize dC (0<(v.hdrs.length:Int))=b4 at *
   cases b1<;>cases b2<;>cases b3<;>cases b4<;>simp_all
  rw[hA]at hS
  refine cd (fun hr=>?_) (fun hr=>?_)
  ·rw[if_neg (by simpa using hr)]at hS
   rw[hS]at c
   simp only[mfT]at c
   refine rg ?_
   refine rt c ?_
   rfl
  have ah:KE m v.parts=true:=by simpa using hr
  rw[if_pos ah]at hS
  have am:=hpart ah
  have af:=ah
  unfold KE at af
  rw[decide_eq_true_eq]at af
  have ad:(vfs m.fields).length=v.parts.length:=by simpa using congrArg List.length af
  refine rg ?_
  refine cl (hN) ?_
  refine gG ?_
  refine Zb (fr (m.fields.length) (fun i Q=>∀k:Nat,i≤m.fields.length→k=(vfs (m.fields.take i)).length→(∀j,j<k→(Zam d fu m v p j).2=0)→Q [(3,.d (.str p)),(4,.loc 4 0),(6,.loc 6 0),(10,.loc 10 0),(11,.d (ZeE (Zcm m v.parts))),(12,.d (.int .i64 k)),(13,.d (.int .i64 i))] [(4,[.str d.name,YR d.msgs,.str d.start]),(6,[.str v.name,.int .i64 v.int,ZM v.bytes,Z2 v.hdrs,ZO v.parts]),(10,[.str m.name,Zo m.fields])] st) (fun n u=>?_) fun ap=>?_)
  ·intro i hn k hi hk t
   refine rx @Zbc ?_
   refine cd (fun h1=>?_) (fun h1=>?_)
   ·simp at h1
    have ar:=fun hh=>ZgK hk h1 hh
    have ab:=Ze5 h1
    generalize hf:m.fields.getD i dE=f at *
    refine xA (nd2 @atF (nd2 @hf (nd2 @Qp @J2))) ?_
    refine rx (nd2 @Qp @J2) ?_
    refine cl (Zaw f) ?_
    refine cd (fun hh=>?_) (fun hh=>?_)
    ·have ac:WK f=false:=by simpa using hh
     rw[if_neg (by rw[ac];simp),ZFm]at ab
     refine gA ?_
     refine Za ?_
     exact u ((m.fields.length)-(i+1)) (by omega) (i+1) rfl k (by omega) (by rw[ab];exact hk) t
    have ac:WK f=true:=by simpa using hh
    rw[if_pos ac]at ab
    obtain⟨z,au⟩:=ar ac
    rw[ad]at z
    have ae:=am k z t
    have ao:=ZfX p v.parts k z hps hnm hq
    have al:=Wp (l:=v.parts) (i:=k) z
    have hG:=Zam.eq_1 d fu m v p k
    have ak:=Zfh (g:=Zam d fu m v p) z t
    have hk40:k≤i:=by rw[hk];exact Zn4
    rw[au]at ae hG
    have ag:=ZpV f.kind (v.parts.getD k dE)
    rw[ZFf]at ae ag
    generalize v.parts.getD k dE=x at *
    generalize Z1 p (Ye v.parts k)=q at *
    refine xA (nd2 @atV (nd2 @al (nd2 @Qp @J2))) ?_
    refine cXD @ZcS (ao) ?_
    refine aa ?_
    refine gA ?_
    refine rx @eQ0 ?_
    refine cl (ag) ?_
    cases hu:WQ f.kind x with
    |true =>
     rw[hu,if_pos rfl]at hG
     rw[ak (by rw[hG];simp),hG]at hS
     rw[hS]at c
     simp only[mfT,ZFs]at c
     refine i1 ?_
     refine rg ?_
     refine rt c ?_
     rfl
    |false =>
     have aj:=ae hu
     clear hG ag
     generalize aw:Zam d fu m v p k=gk at *
     obtain⟨pp,no⟩:=gk
     simp only[mfT]at aj
     refine i0 ?_
     refine rx @eQ0 ?_
     refine cl (aj) ?_
     refine rg ?_
     refine cd (fun h0=>?_) (fun h0=>?_)
     ·rw[ak (by simpa using h0)]at hS
      rw[hS]at c
      simp only[mfT,ZFs]at c
      refine rg ?_
      refine rt c ?_
      rfl
     have aq:no=0:=by simpa using h0
     rw[show(k:Int)+1=((k+1:Nat):Int) by omega]
     refine gA ?_
     refine Za ?_
     exact u ((m.fields.length)-(i+1)) (by omega) (i+1) rfl (k+1) (by omega) (by rw[ab,ZE1,←hk];rfl) (fun j hj=>by
      by_cases av:j=k
      ·rw[av,aw];exact aq
      exact t j (by omega))
   simp at h1
   obtain rfl:i=m.fields.length:=by omega
   rw[ZFc,ad]at hk
   subst hk
   rw[ZdU t]at hS
   rw[hS]at c
   simp only[mfT,Option.getD_none]at c
   refine rg ?_
   refine rt c ?_
   rfl
  exact ap _ 0 rfl 0 (by omega) rfl (by intro j hj;omega)
structure Zb0(d:Dfn)(j i:Nat)(m:Msg)(f:Fld):Prop where
 nm:Yl f.name=true
 fresh:Yz m f.name i<0
 kind:1≤f.kind∧f.kind≤12
 ks:Qh d j m i f=0
theorem ZyB{d:Dfn}{j i:Nat}{m:Msg}{f:Fld}(h:WI d j m i f=0):Zb0 d j i m f:=by
 unfold WI at h
 split at h;· omega
 rename_i h1
 split at h;· omega
 rename_i h2
 split at h;· omega
 rename_i hk
 split at h;· omega
 simp only[ZFb,decide_eq_true_eq,not_or,Int.not_lt]at hk
 exact⟨by simpa using h1,by omega,by omega,h⟩
theorem Zc1.at_{d:Dfn}{j:Nat}{m:Msg}(h:Zc1 d j m){i:Nat}(hi:i<m.fields.length):Zb0 d j i m (m.fields.getD i dE):=ZyB (h.field i hi)
def NmU(l:List Fld):Prop:=∀a b,a<b→b<l.length→(l.getD a dE).name≠(l.getD b dE).name
theorem Zc1.nmU{d:Dfn}{j:Nat}{m:Msg}(h:Zc1 d j m):NmU m.fields:=fun a b ha hb=>by
 have h1:=Zce (h.at_ hb).fresh ((m.fields.take b).getD a dE) (Zy (by simp;omega))
 rw[KJ ha]at h1
 simpa using h1
theorem ZsY{fs:List Fld}{s:Wk}(h:JM fs s=0):ZN s=true∧∀t∈s.terms,∃j,j<fs.length∧(fs.getD j dE).name=t.field∧YA (fs.getD j dE)=true:=by
 unfold JM at h
 split at h;· omega
 rename_i hv
 split at h;· omega
 rename_i ha
 refine⟨by simpa using hv,fun t ht=>?_⟩
 have h1:=List.any_eq_false.1 (Bool.eq_false_iff.2 ha) t ht
 unfold YG ZZ at h1
 split at h1
 ·simp at h1
 rename_i h2
 split at h1
 ·rename_i h3
  have h4:=Zaa (show 0≤Zk (fun f=>dC (f.name=t.field)) fs by omega)
  have h5:=Y2 (fun f:Fld=>dC (f.name=t.field)) fs
  exact⟨_,by omega,by simpa using h4.1,h3⟩
 simp at h1
theorem ZxZ{n:Int}(h:n≤32):(2:Int) ^ n.toNat≤4294967296:=by
 have h1:2 ^ n.toNat≤2 ^ 32:=Nat.pow_le_pow_right (by omega) (by omega)
 have h2:(2:Int) ^ n.toNat=((2 ^ n.toNat:Nat):Int):=(Int.natCast_pow 2 n.toNat).symm
 generalize 2 ^ n.toNat=p at *
 omega
theorem ZiC{f:Fld}(h:Kh f=0):(1≤f.bits∧f.bits≤32)∧0≤f.low∧f.low≤Ze2 f∧Ze2 f<4294967296:=by
 unfold Kh Q2 ZaP at h
 split at h;· omega
 rename_i h1
 split at h;· omega
 rename_i h2
 simp only[ZFb,decide_eq_true_eq,not_or]at h1 h2
 have:=ZxZ (n:=f.bits) (by omega)
 omega
theorem Zb0.num{d:Dfn}{j i:Nat}{m:Msg}{f:Fld}(h:Zb0 d j i m f)(hn:YA f=true):0≤f.low∧(f.kind=2→f.low<34359738368)∧(f.kind≠2→f.high<34359738368):=by
 have hk:=h.ks
 unfold YA at hn
 simp only[ZEY,decide_eq_true_eq]at hn
 unfold Qh at hk
 rcases(by omega:f.kind=1∨f.kind=2∨f.kind=3) with h1|h1|h1<;>simp only[h1,ZFy,if_true,if_false]at hk
 ·have:=ZiC hk
  unfold Ze2 at this
  rw[if_neg (by omega)]at this
  omega
 ·have:=ZiC hk
  unfold Ze2 at this
  rw[if_pos h1]at this
  omega
 by_cases hw:ZfC f.low f.high=true
 ·unfold ZfC at hw
  simp only[ZEY,decide_eq_true_eq]at hw
  omega
 rw[if_neg hw]at hk;omega
theorem Zb0.size{d:Dfn}{j i:Nat}{m:Msg}{f:Fld}(h:Zb0 d j i m f)(hi:i<m.fields.length)(hz:f.kind=4∨f.kind=7∨f.kind=12):ZN f.size=true∧∀t∈f.size.terms,∃k,k<i∧(m.fields.getD k dE).name=t.field∧YA (m.fields.getD k dE)=true:=by
 have hs:JM (m.fields.take i) f.size=0:=by
  have hk:=h.ks
  unfold Qh at hk
  rcases hz with hz|hz|hz<;>simp only[hz,ZFy,if_true,if_false]at hk
  ·exact hk
  ·split at hk
   ·omega
   exact hk
  split at hk
  ·omega
  split at hk
  ·omega
  exact hk
 obtain⟨hv,ht⟩:=ZsY hs
 refine⟨hv,fun t h1=>?_⟩
 obtain⟨k,h2,h3,h4⟩:=ht t h1
 have hk:k<i:=by rw[ZE9]at h2;omega
 rw[KJ hk]at h3 h4
 exact⟨k,hk,h3,h4⟩
theorem Zb0.tag{d:Dfn}{j i:Nat}{m:Msg}{f:Fld}(h:Zb0 d j i m f)(hi:i<m.fields.length)(h9:f.kind=9):∃k,k<i∧(m.fields.getD k dE).name=f.tag∧YA (m.fields.getD k dE)=true:=by
 have hk:=h.ks
 unfold Qh at hk
 simp only[h9,ZFy,if_true,if_false]at hk
 split at hk
 ·omega
 rename_i hb
 unfold Zff at hb
 simp only[ZFb,decide_eq_true_eq,Bool.not_eq_true',not_or]at hb
 have h4:=Zaa (show 0≤Yz m f.tag i by omega)
 have h5:=Y2 (fun g:Fld=>dC (g.name=f.tag)) (m.fields.take i)
 rw[ZE9,show Zk (fun g:Fld=>dC (g.name=f.tag)) (m.fields.take i)=Yz m f.tag i from rfl]at h5
 have h6:=h4.1
 rw[show(Zk (fun g=>dC (g.name=f.tag)) (m.fields.take i))=Yz m f.tag i from rfl,KJ (by omega)]at h6
 exact⟨(Yz m f.tag i).toNat,by omega,by simpa using h6,by simpa using hb.2.1⟩
theorem Zb0.fok{d:Dfn}{j i:Nat}{m:Msg}{f:Fld}(h:Zb0 d j i m f):FOk f:=by
 have hk:=h.ks
 unfold Qh at hk
 refine⟨fun h1=>?_,fun h1=>?_,fun h1=>?_⟩
 ·have:Kh f=0:=by rcases h1 with h1|h1<;>simp only[h1,ZFy,if_true,if_false]at hk<;>exact hk
  have:=(ZiC this).1
  omega
 ·simp only[h1,ZFy,if_true,if_false]at hk
  split at hk
  ·omega
  rename_i hp
  unfold ZeG at hp
  unfold Zhh
  simp only[ZEY,ZFb,decide_eq_true_eq,Bool.not_eq_true',decide_eq_false_iff_not]at hp⊢
  omega
 simp only[h1,ZFy,if_true,if_false]at hk
 split at hk
 ·omega
 rename_i hp
 simp only[ZFb,decide_eq_true_eq]at hp
 omega
theorem Zb0.fref{d:Dfn}{j i:Nat}{m:Msg}{f:Fld}(h:Zb0 d j i m f)(hf:Zt4 d j f):ZhX d f:=by
 refine⟨h.kind,fun h1=>(hf.ref f.of ?_).1,fun h1 c hc=>(hf.ref c.of ?_).1⟩
 ·unfold Z5 KV
  rw[if_pos (by simp;omega)]
  simp
 unfold Z5
 rw[if_pos h1,List.mem_append]
 exact .inr (List.mem_map_of_mem hc)
theorem KD.dok{d:Dfn}(h:KD d):DOk d:=fun m hm=>by
 obtain⟨j,hj,rfl⟩:=ZeC hm
 refine⟨(h.msg hj).many,fun f hf=>?_⟩
 obtain⟨i,hi,rfl⟩:=ZeC hf
 exact((h.msg hj).at_ hi).fok
theorem KD.dref{d:Dfn}(h:KD d):Zt1 d:=fun m hm f hf=>by
 obtain⟨j,hj,rfl⟩:=ZeC hm
 obtain⟨i,hi,rfl⟩:=ZeC hf
 exact((h.msg hj).at_ hi).fref (h.fld hj hi)
theorem ZbZ:∀{l:List Fld} {k:Nat},k<(vfs l).length→∃a,a<l.length∧WK (l.getD a dE)=true∧k=(vfs (l.take a)).length∧(vfs l).getD k dE=l.getD a dE
 | [],k,h=>by simp[vfs]at h
 |f::r,k,h=>by
  by_cases hv:WK f=true
  ·have e:vfs (f::r)=f::vfs r:=by unfold vfs;rw[List.filter_cons,if_pos hv]
   cases k with
   |zero=>exact⟨0,by simp,by simpa using hv,rfl,by rw[e];rfl⟩
   |succ k =>
    rw[e]at h
    obtain⟨a,h1,h2,h3,h4⟩:=ZbZ (l:=r) (k:=k) (by simpa using h)
    refine⟨a+1,by simpa using h1,by simpa using h2,?_,by rw[e];simpa using h4⟩
    rw[List.take_succ_cons,show vfs (f::r.take a)=f::vfs (r.take a) by unfold vfs;rw[List.filter_cons,if_pos hv],ZE5,h3]
  have e:∀t,vfs (f::t)=vfs t:=fun t=>by unfold vfs;rw[List.filter_cons,if_neg hv]
  rw[e]at h
  obtain⟨a,h1,h2,h3,h4⟩:=ZbZ (l:=r) (k:=k) h
  exact⟨a+1,by simpa using h1,by simpa using h2,by rw[List.take_succ_cons,e];exact h3,by rw[e];simpa using h4⟩
theorem ZoA{l:List Fld}{a b:Nat}(h:a<b)(hb:b<l.length)(hv:WK (l.getD a dE)=true):(vfs (l.take a)).length<(vfs (l.take b)).length:=by
 have h1:=(ZgK (l:=l.take b) (i:=a) (k:=(vfs (l.take a)).length) (by rw[List.take_take,Nat.min_eq_left (by omega)]) (by simp;omega) (by rw[KJ h];exact hv)).1
 exact h1
def Zby(l:List Fld)(ps:List Val)(i:Nat):Int:=if (l.getD i dE).kind=2 then (l.getD i dE).low else (ps.getD (vfs (l.take i)).length dE).int
theorem Zg8{f:Fld}(h:YA f=true)(h2:¬f.kind=2):WK f=true:=by
 unfold YA at h
 unfold WK
 simp only[ZEY,decide_eq_true_eq,Bool.not_eq_true',decide_eq_false_iff_not]at h⊢
 omega
theorem NmU.tail{f:Fld}{r:List Fld}(h:NmU (f::r)):NmU r:=fun a b ha hb=>by
 have:=h (a+1) (b+1) (by omega) (by simpa using hb)
 simpa using this
theorem Zkc:∀{l:List Fld} {ps:List Val} {i:Nat},i<l.length→NmU l→YA (l.getD i dE)=true→(WK (l.getD i dE)=true→(vfs (l.take i)).length<ps.length)→YU (l.getD i dE).name (Jz l ps)=Zby l ps i
 | [],_,_,h,_,_,_=>by simp at h
 |f::r,ps,0,_,_,hn,hp=>by
  simp only[List.getD_cons_zero]at hn hp⊢
  unfold Zby Jz
  simp only[List.getD_cons_zero]
  by_cases h2:f.kind=2
  ·rw[if_pos h2,if_pos h2]
   simp[YU]
  have hv:=Zg8 hn h2
  have h0:0<ps.length:=by simpa[vfs]using hp hv
  rw[if_neg h2,if_neg h2,if_pos hv,hn,if_pos (by simp;omega)]
  simp[YU,vfs]
 |f::r,ps,i+1,hi,hu,hn,hp=>by
  have n:=hu 0 (i+1) (by omega) hi
  simp only[List.getD_cons_zero,List.getD_cons_succ]at hn hp n⊢
  have j:=hu.tail
  unfold Jz
  have e1:YU (r.getD i dE).name ((if f.kind=2 then [(f.name,f.low)] else [])++(if WK f then (if (dC (0<(ps.length:Int))&&YA f) then [(f.name,(ps.getD 0 dE).int)] else [])++Jz r (ps.drop 1) else Jz r ps))=YU (r.getD i dE).name (if WK f then Jz r (ps.drop 1) else Jz r ps):=by
   have sk:∀{c:Prop} [Decidable c] (x:Int) (t:List (Str×Int)),YU (r.getD i dE).name ((if c then [(f.name,x)] else [])++t)=YU (r.getD i dE).name t:=fun x t=>by
    split
    ·exact if_neg n
    rfl
   rw[sk]
   split
   ·rw[sk]
   rfl
  rw[e1]
  by_cases hv:WK f=true
  ·have e:vfs (f::r.take i)=f::vfs (r.take i):=by unfold vfs;rw[List.filter_cons,if_pos hv]
   rw[List.take_succ_cons,e,ZE5]at hp
   rw[if_pos hv,Zkc (by simpa using hi) j hn (fun h=>by have:=hp h;rw[ZFw];omega)]
   unfold Zby
   simp only[List.getD_cons_succ]
   rw[List.take_succ_cons,e,ZE5]
   simp[ZE8,List.getElem?_drop,Nat.add_comm]
  have e:vfs (f::r.take i)=vfs (r.take i):=by unfold vfs;rw[List.filter_cons,if_neg hv]
  rw[List.take_succ_cons,e]at hp
  rw[if_neg hv,Zkc (by simpa using hi) j hn hp]
  unfold Zby
  simp only[List.getD_cons_succ]
  rw[List.take_succ_cons,e]
theorem Zhg{l:List Fld}{ps:List Val}{E:List (Str×Int)}{s:Str}:∀{n:Nat},(∀k,k<n→YA (l.getD k dE)=true→(l.getD k dE).name≠s)→Zp s (Zdb l ps E n)=Zp s E
 |0,_=>rfl
 |n+1,h=>by
  rw[Zdb]
  split
  ·rename_i hn
   rw[Qb,if_neg (fun e=>h n (by omega) hn e.symm)]
   exact Zhg fun k hk=>h k (by omega)
  exact Zhg fun k hk=>h k (by omega)
theorem ZrG{l:List Fld}{ps:List Val}{E:List (Str×Int)}{k:Nat}:∀{n:Nat},k<n→YA (l.getD k dE)=true→(∀j,k<j→j<n→(l.getD j dE).name≠(l.getD k dE).name)→Zp (l.getD k dE).name (Zdb l ps E n)=sO (ps.getD k dE).int
 |0,h,_,_=>by omega
 |n+1,h,hn,hu=>by
  rw[Zdb]
  by_cases hk:k=n
  ·subst hk
   rw[if_pos hn,Qb,if_pos rfl]
  have ih:=ZrG (E:=E) (ps:=ps) (show k<n by omega) hn (fun j h1 h2=>hu j h1 (by omega))
  split
  ·rw[Qb,if_neg (fun e=>hu n (by omega) (by omega) e.symm)];exact ih
  exact ih
theorem ZrF{l:List Fld}{k:Nat}:∀{n:Nat},k<n→(l.getD k dE).kind=2→(∀j,k<j→j<n→(l.getD j dE).name≠(l.getD k dE).name)→Zp (l.getD k dE).name (Zcl l n)=sO (l.getD k dE).low
 |0,h,_,_=>by omega
 |n+1,h,hn,hu=>by
  rw[Zcl]
  by_cases hk:k=n
  ·subst hk
   rw[if_pos hn,Qb,if_pos rfl]
  have ih:=ZrF (show k<n by omega) hn (fun j h1 h2=>hu j h1 (by omega))
  split
  ·rw[Qb,if_neg (fun e=>hu n (by omega) (by omega) e.symm)];exact ih
  exact ih
theorem NmU.ne{l:List Fld}(h:NmU l){a b:Nat}(hab:a≠b)(ha:a<l.length)(hb:b<l.length):(l.getD a dE).name≠(l.getD b dE).name:=by
 rcases Nat.lt_or_gt_of_ne hab with h1|h1
 ·exact h a b h1 hb
 exact(h b a h1 ha).symm
theorem Zy3{m:Msg}(hu:NmU m.fields)(ps:List Val){i:Nat}(hi:i<m.fields.length)(hn:YA (m.fields.getD i dE)=true):Zp (m.fields.getD i dE).name (Zda m ps)=sO (Zby m.fields ps i):=by
 unfold Zda Zby
 by_cases h2:(m.fields.getD i dE).kind=2
 ·rw[if_pos h2,Zhg fun k hk _=>?_]
  ·exact ZrF hi h2 fun j h1 h3=>hu.ne (by omega) h3 hi
  obtain⟨a,h3,h4,_,h6⟩:=ZbZ hk
  rw[h6]
  refine hu.ne (fun e=>?_) h3 hi
  rw[e]at h4
  unfold WK at h4
  rw[h2]at h4;simp at h4
 have hv:=Zg8 hn h2
 obtain⟨h3,h4⟩:=ZgK rfl hi hv
 rw[if_neg h2]
 have h5:=ZrG (l:=vfs m.fields) (ps:=ps) (E:=Zcl m.fields m.fields.length) h3 (by rw[h4];exact hn) (fun j h6 h7=>by
  obtain⟨a,h8,h9,n,c⟩:=ZbZ h7
  rw[c,h4]
  exact hu.ne (fun e=>by rw[e]at n;omega) h8 hi)
 rw[h4]at h5
 exact h5
theorem Zwo{d:Dfn}{j:Nat}{m:Msg}(hm:Zc1 d j m){n:Nat}{v:Val}{p:Str}{k a i:Nat}(hi:i<m.fields.length)(hk:k=(vfs (m.fields.take i)).length)(hall:∀j,j<k→(Zam d n m v p j).2=0)(ha:a<i)(hn:YA (m.fields.getD a dE)=true):
  0≤Zby m.fields v.parts a∧Zby m.fields v.parts a<34359738368:=by
 have h1:=(hm.at_ (show a<m.fields.length by omega)).num hn
 unfold Zby
 split
 ·rename_i h2
  exact⟨h1.1,h1.2.1 h2⟩
 rename_i h2
 have hv:=Zg8 hn h2
 obtain⟨h3,h4⟩:=ZgK rfl (show a<m.fields.length by omega) hv
 have h5:=hall _ (by rw[hk];exact ZoA ha hi hv)
 unfold Zam at h5
 rw[h4]at h5
 generalize v.parts.getD (vfs (m.fields.take a)).length dE=x at *
 generalize m.fields.getD a dE=f at *
 split at h5
 ·simp at h5
 unfold YA at hn
 simp only[ZEY,decide_eq_true_eq]at hn
 unfold Zav at h5
 rw[if_pos (by omega)]at h5
 split at h5
 ·simp at h5
 have:=h1.2.2 h2
 omega
theorem Zu5{m:Msg}(hu:NmU m.fields){ps:List Val}(hr:KE m ps=true){k:Nat}(hk:k<ps.length):Ye ps k=(ps.getD k dE).name∧(ps.getD k dE).name=((vfs m.fields).getD k dE).name:=by
 unfold KE at hr
 rw[decide_eq_true_eq]at hr
 have c:(vfs m.fields).length=ps.length:=by simpa using congrArg List.length hr
 have j:∀i,i<ps.length→(ps.getD i dE).name=((vfs m.fields).getD i dE).name:=fun i hi=>by
  have h1:((vfs m.fields).map (·.name))[i]?=(ps.map Val.name)[i]?:=by rw[hr]
  simp[hi,c]at h1
  simp[ZE8,hi,c,h1]
 refine⟨?_,j k hk⟩
 have h0:ZcH ps k=0:=by
  unfold ZcH
  rw[List.length_eq_zero_iff,List.filter_eq_nil_iff]
  intro x hx
  obtain⟨i,hi,rfl⟩:=ZeC hx
  rw[ZE9]at hi
  rw[KJ (by omega),j i (by omega),j k hk]
  obtain⟨a,h1,_,h3,h4⟩:=ZbZ (l:=m.fields) (k:=i) (by omega)
  obtain⟨b,h5,_,h7,h8⟩:=ZbZ (l:=m.fields) (k:=k) (by omega)
  rw[h4,h8,decide_eq_true_eq]
  exact hu.ne (fun e=>by rw[e]at h3;omega) h1 h5
 unfold Ye
 rw[if_pos h0]
theorem ZbU(a s:Str):(Z1 a s).length≤a.length+1+s.length:=by
 unfold Z1;split
 ·omega
 simp;omega
theorem ZdB{ps:List Val}(hp:ps.length≤5000)(hn:∀y∈ps,y.name.length≤32){k:Nat}(hk:k<ps.length):(Ye ps k).length≤5040:=by
 have h1:=hn _ (Zy hk)
 have h2:=Zmb ps k
 have h3:=Zet (ZcH ps k)
 unfold Ye;split
 ·omega
 simp only[ZE1,ZE5,List.length_nil];omega
structure VOk(v:Val):Prop where
 ok:Wb v=true
 wt:wtN v≤5000
theorem VOk.part{v x:Val}(h:VOk v)(hx:x∈v.parts):VOk x:=⟨YM h.ok hx,Nat.le_trans (ZjA hx) h.wt⟩
theorem VOk.few{v:Val}(h:VOk v):v.parts.length≤5000:=by
 have h1:=Zn3 v
 have h2:=h.wt
 have h3:v.parts.length≤nodesL v.parts:=by
  induction v.parts with
  |nil=>simp
  |cons x r ih=>have:=Jk x;simp only[ZE5,nodesL];omega
 have h4:=Jk v
 omega
theorem VOk.node{v:Val}(h:VOk v):(1≤v.name.length∧v.name.length≤32)∧(0≤v.int∧v.int<34359738368)∧v.bytes.length≤1048576∧ZbC v.hdrs:=by
 have h1:=Jj (Qt h.ok)
 exact⟨h1.1,h1.2.1,h1.2.2.1,ZwW (Qt h.ok)⟩
theorem VOk.name{v:Val}(h:VOk v):∀y∈v.parts,y.name.length≤32:=fun y hy=>(h.part hy).node.1.2
theorem ZtI{d:Dfn}(hd:KD d){n:Nat}{s:Str}{y:Val}{q:Str}(hs:0≤Zn d s d.msgs.length)(hy:VOk y)(h:(Z9 d n (ZD d s) y q).2=0):
  Zc ZEQ 12 [.agg d.cells,.int .i64 (Zn d s d.msgs.length),.agg y.cells] (.int .i64 (lenS d n (ZD d s) y)):=by
 have c:=Zcf hs
 have h1:=Zlm hd.dref n _ y q (hd.dref.of s) hy.ok h
 rw[c.1]
 exact ZhJ d hd.dok (by have:=hd.many;omega) n (ixS d s) y c.2 hy.ok hy.wt h1
theorem ZhK{d:Dfn}(hd:KD d):∀(n im:Nat) (v:Val) (p:Str),im<d.msgs.length→VOk v→Yk v≤n→p.length+10200*n≤1000000 →
  Zc ZEQ 9 [.agg d.cells,.int .i64 im,.agg v.cells,.str p] (mfT (Z9 d n (d.msgs.getD im dE) v p))
 |0,_,v,_,_,_,hh,_=>by have:=Kw v;omega
 |n+1,im,v,p,him,hv,hh,hp=>by
  have u:=hd.msg him
  have hm40:=u.many
  refine ZmX d n im him (by omega) v p (by have:=hv.few;omega) (fun y hy=>by have:=hv.name y hy;omega) (by omega) fun hr k hk ac hu=>?_
  have hlen:(vfs (d.msgs.getD im dE).fields).length=v.parts.length:=by
   unfold KE at hr
   rw[decide_eq_true_eq]at hr
   simpa using congrArg List.length hr
  obtain⟨i,hi,hvv,am,al⟩:=ZbZ (l:=(d.msgs.getD im dE).fields) (k:=k) (by omega)
  have ag:=u.at_ hi
  have ab:=ag.fref (hd.fld him hi)
  have ai:v.parts.getD k dE∈v.parts:=Zy hk
  have c:=hv.part ai
  have hql:(Z1 p (Ye v.parts k)).length≤p.length+5041:=by
   have h1:=ZbU p (Ye v.parts k)
   have h2:=ZdB hv.few hv.name hk
   omega
  have hxh:Yk (v.parts.getD k dE)≤n:=by
   have h1:=Zab ai
   have h2:=Kw v
   omega
  have hG:=Zam.eq_1 d n (d.msgs.getD im dE) v p k
  rw[hu,if_neg (by simp)]at hG
  have ad:=fun a ha hn=>Zwo u (n:=n) (v:=v) (p:=p) hi am ac (a:=a) ha hn
  have ae:∀a,a<i→YA ((d.msgs.getD im dE).fields.getD a dE)=true→YU ((d.msgs.getD im dE).fields.getD a dE).name (Zcm (d.msgs.getD im dE) v.parts)=Zby (d.msgs.getD im dE).fields v.parts a:=fun a ha hn =>
   Zkc (by omega) u.nmU hn fun aj=>by have:=ZoA ha hi aj;omega
  rw[hG,al]
  generalize Z1 p (Ye v.parts k)=q at *
  generalize v.parts.getD k dE=x at *
  have z:∀s,0≤Zn d s d.msgs.length→∀j,j<x.parts.length→Zc ZEQ 9 [.agg d.cells,.int .i64 (Zn d s d.msgs.length),.agg (x.parts.getD j dE).cells,.str (Z1 q (Ye x.parts j))] (mfT (Z9 d n (ZD d s) (x.parts.getD j dE) (Z1 q (Ye x.parts j)))):=fun s hs j hj=>by
   have af:=Zcf hs
   have ah:x.parts.getD j dE∈x.parts:=Zy hj
   have h1:=ZbU q (Ye x.parts j)
   have h2:=ZdB c.few c.name hj
   have h3:=Zab ah
   have h4:=Kw x
   rw[af.1]
   exact ZhK hd n (ixS d s) _ _ af.2 (c.part ah) (by omega) (by omega)
  refine ZsS d _ x q _ (Z9 d n) (lenS d n) (fun hz=>?_) c.node.2.2.2 c.node.2.2.1 (fun h12 h0=>?_) (by have:=c.few;omega) (fun y hy=>by have:=c.name y hy;omega) (by omega) (fun h7 j hj=>?_) ab (fun s hs=>?_)
  ·obtain⟨h1,h2⟩:=ag.size hi hz
   refine⟨h1,fun t ht=>?_⟩
   obtain⟨a,ha,ak,hn⟩:=h2 t ht
   rw[←ak,ae a ha hn]
   exact ad a ha hn
  ·obtain⟨h1,h2⟩:=Zn6 h0
   exact⟨h1,ZtI hd (ab.ref (by omega)) (c.part (Zy (by omega))) h2⟩
  ·exact z _ (ab.ref (by omega)) j hj
  exact ZuW d s x q (Z9 d n) (by have:=c.few;omega) (fun y hy=>by have:=c.name y hy;omega) (by omega) fun hl=>z s hs 0 (by omega)
abbrev Znq(l:List Str):D:=slD 1 ZbL l
theorem ZgE(l:List Str)(hl:l.length≤1000000)(f:D)(st:St)(hf:∀x∈l,VT ZEQ f [.str x] st (.bool false) st):ZS ZEQ 229 [Znq l,f] st (.int .i64 (-1)) st:=by
 refine ZK (cR 229 f229) fun _ F j=>?_
 refine rg ?_
 refine rx @eQ1 ?_
 refine Zb (fr (l.length) (fun i Q=>i≤l.length→Q [(0,.d (Znq l)),(1,.d f),(7,.d (.int .i64 l.length)),(8,.d (.int .i64 i))] [] st) (fun n c=>?_) fun t=>?_)
 ·intro i hn hi
  refine rg ?_
  refine Zd (Zs rfl trivial (fun h1=>?_) (fun h1=>?_))
  ·simp at h1
   have u:=hf _ (Zy h1)
   refine rg ?_
   refine xA (nd2 @eQ1 @ZbL.eq_1) ?_
   refine cW (u) ?_
   refine i0 ?_
   refine gA ?_
   refine Za ?_
   exact c ((l.length)-(i+1)) (by omega) (i+1) rfl (by omega)
  refine rg ?_
  exact j rfl (by trivial) (ZEW _) (ZES _)
 exact t _ 0 rfl (by omega)
theorem Zf3(l:List Str)(hl:l.length≤1000000)(f:D)(st:St)(hf:∀x∈l,VT ZEQ f [.str x] st (.bool false) st):ZS ZEQ 182 [Znq l,f] st (Znq l) st:=by
 refine ZK (cR 182 f182) fun _ F c=>?_
 have i:=ZgE l hl f st hf
 refine gG ?_
 refine ct (i) ?_
 refine aa ?_
 refine rg ?_
 refine i1 ?_
 refine rg ?_
 exact c rfl (by trivial) (ZEW _) (ZES _)
theorem Zon{a s:Str}(ha:a≠[])(hs:s≠[])(hl:a.length≤10000000)(hl2:s.length≤10000000):Zc ZEQ 133 [Znq [a,s]] (.str (Z1 a s)):=by
 refine Ze (cR 133 f133) fun F st c=>?_
 have hd:=Zf3 [a,s] (by simp) (.fn (.func 183) [] []) st (fun x hx=>by
  have h:=(Zfu x).VT (first:=[]) (args:=[_]) (caps:=[]) st
  rw[decide_eq_false (fun e=>by rw[e]at hx;simp at hx;rcases hx with hx|hx<;>simp_all)]at h
  exact h)
 have i:joinL [a,s] [46]=Z1 a s:=by simp[joinL,Z1,ha,List.intercalate]
 have hJ:=Zcu [a,s] (by simp) (by rw[i];have:=ZbU a s;omega)
 rw[i]at hJ
 refine gG ?_
 refine ct (hd) ?_
 refine cl (hJ) ?_
 refine rs c ?_
 rfl
theorem Zo8{a s:Str}(ha:a≠[])(hs:s≠[])(hl:a.length≤10000000)(hl2:s.length≤10000000):Zc ZEQ 133 [.sl .full 2 1 (Z4 [.str []] ([0,1].zip [.str a,.str s]))] (.str (Z1 a s)) :=
 Zc.leA (LeC.one (Zyn rfl fun i hi=>by rcases(by omega:i=0∨i=1) with rfl|rfl<;>rfl)) (Zon ha hs hl hl2)
def ZF(r:Str×Int)(st:St)(x:Res)(S:St):Prop:=S=st∧x=mfR r.1 r.2
def Wo(a b:Str×Int):Str×Int:=if a.2=0 then b else a
theorem mfK{r:Str×Int}{st:St}{A:D→St→Prop}(h:r.2=0→A (.tup []) st):∀d S,ZF r st (.ret d) S→A d S:=fun d S ⟨h1,h2⟩=>by
 subst h1
 unfold mfR at h2
 split at h2
 ·rename_i h0;cases h2;exact h h0
 cases h2
theorem mfP{r:Str×Int}{st:St}{A:D→St→Prop}(h:¬r.2=0→A (mfD r.1 r.2) st):∀d S,ZF r st (.panic d) S→A d S:=fun d S ⟨h1,h2⟩=>by
 subst h1
 unfold mfR at h2
 split at h2
 ·cases h2
 rename_i h0;cases h2;exact h h0
theorem ZF.ok{r:Str×Int}{st:St}(h:r.2=0):ZF r st (.ret (.tup [])) st:=⟨rfl,by unfold mfR;rw[if_pos h]⟩
theorem ZF.bad{r R:Str×Int}{st:St}(h:¬r.2=0)(he:R=r):ZF R st (.panic (mfD r.1 r.2)) st:=by
 subst he
 exact⟨rfl,by unfold mfR;rw[if_neg h]⟩
theorem KF{a b:Str×Int}(h:a.2=0):Wo a b=b:=if_pos h
theorem Kk{a b:Str×Int}(h:¬a.2=0):Wo a b=a:=if_neg h
theorem Ks(fine:Bool)(q:Str)(no:Int)(hno:¬no=0)(st:St):Zf ZEQ 91 [.bool fine,.str q,.int .i64 no] st (ZF (q,if fine then 0 else no) st) :=
 (ZdL fine q no st).mono fun r S ⟨h1,h2⟩=>⟨h1,by rw[h2];cases fine<;>simp[mfR,hno]⟩
theorem Zjd(a b:Int)(q:Str)(st:St):Zf ZEQ 137 [.int .i64 a,.int .i64 b,.str q] st (ZF (q,KB a b) st) :=
 (ZsW a b q st).mono fun r S ⟨h1,h2⟩=>⟨h1,h2⟩
def Znu(n b h p:Bool)(x:Val):Bool:=(((n ||decide (x.int=0))&&(b ||decide ((x.bytes.length:Int)=0)))&&(h ||decide ((x.hdrs.length:Int)=0)))&&(p ||decide ((x.parts.length:Int)=0))
def Zcz(n b h p:Bool)(x:Val)(q:Str):Str×Int:=(q,if Znu n b h p x then 0 else 6)
structure Zb3(st:St)(b3 b4 b5 b6 b7 b:Nat)(d:Dfn)(m:Msg)(pth:Str)(l:List (Str×Int))(f:Fld)(x:Val)(q:Str):Prop where
 p:st b3=some (.cells (WT m d pth b))
 f:st b4=some (.cells f.cells)
 x:st b5=some (.cells [.str x.name,.int .i64 x.int,ZM x.bytes,Z2 x.hdrs,ZO x.parts])
 q:st b6=some (.cells [.str q])
 u:st b7=some (.cells [.fn (.func 134) [] [.ptr b5 0,.ptr b6 0]])
 m:st b=some (.map (JZ l))
section
variable {st:St} {b3 b4 b5 b6 b7 bm:Nat} {d:Dfn} {m:Msg} {pth:Str} {l:List (Str × Int)} {f:Fld} {x:Val} {q:Str}
theorem Qd(hs:Zb3 st b3 b4 b5 b6 b7 bm d m pth l f x q)(n b h p:Bool):WZ ZEQ (.fn (.func 134) [] [.ptr b5 0,.ptr b6 0]) [.bool n,.bool b,.bool h,.bool p] st (ZF (Zcz n b h p x q) st):=by
 refine Zf.V (first:=[]) (args:=[_,_,_,_]) (caps:=[_,_]) ?_
 refine Zh (cR 134 f134) fun F hF=>?_
 have h5:=hs.x
 have h6:=hs.q
 have hU:=Znu.eq_1 n b h p x
 refine rx (nd2 @h5 (nd2 @h6 (nd2 @W8 (nd2 @ZbH @Qq)))) ?_
 rw[←hU]
 have c9:=Ks (Znu n b h p x) q 6 (by decide) st
 refine cV (c9) ?_ ?_
 ·refine mfK fun h0=>?_
  refine gR0 ?_
  exact hF.fin (.tup []) st rfl trivial (ZEW _) (ZES _) (ZF.ok h0)
 exact mfP fun h0=>hF.pan st (ZES _) (ZF.bad h0 rfl)
theorem Zfw(hs:Zb3 st b3 b4 b5 b6 b7 bm d m pth l f x q):
  Zf ZEQ 135 [.ptr b7 0,.ptr b5 0,.ptr b4 0,.ptr b6 0] st (ZF (Wo (Zcz true false false false x q) (q,if dC (f.low≤x.int)&&dC (x.int≤f.high) then 0 else 3)) st):=by
 refine Zh (cR 135 f135) fun F hF=>?_
 have hu:=Qd hs true false false false
 refine rx @hs.u ?_
 refine vV (hu) ?_ ?_
 ·refine mfK fun h0=>?_
  rw[KF h0]at hF
  refine gR0 ?_
  refine rx (nd2 @hs.x (nd2 @hs.f (nd2 @hs.q @eQ0))) ?_
  have c9:=Ks (dC (f.low≤x.int)&&dC (x.int≤f.high)) q 3 (by decide) st
  refine cV (c9) ?_ ?_
  ·refine mfK fun h1=>?_
   refine gR0 ?_
   exact hF.fin (.tup []) st rfl trivial (ZEW _) (ZES _) (ZF.ok h1)
  exact mfP fun h1=>hF.pan st (ZES _) (ZF.bad h1 rfl)
 exact mfP fun h0=>hF.pan st (ZES _) (ZF.bad h0 (Kk h0))
theorem Znd(hs:Zb3 st b3 b4 b5 b6 b7 bm d m pth l f x q)(hv:ZN f.size=true)(hk:∀t∈f.size.terms,∃v,Zp t.field l=sO v∧0≤v∧v<34359738368):
  Zf ZEQ 136 [.ptr b7 0,.ptr b5 0,.ptr b3 0,.ptr b4 0,.ptr b6 0] st (ZF (Wo (Zcz false true false false x q) (q,KB x.bytes.length (Zar f.size l))) st):=by
 refine Zh (cR 136 f136) fun F hF=>?_
 have hu:=Qd hs false true false false
 have hz:=Zan m d pth f hv bm l st hs.m hk
 refine rx @hs.u ?_
 refine vV (hu) ?_ ?_
 ·refine mfK fun h0=>?_
  rw[KF h0]at hF
  refine gR0 ?_
  have hp:=hs.p
  have hf:=hs.f
  refine rx (nd2 @hs.x (nd2 @hp (nd2 @hf (nd2 @hs.q (nd2 @W8 (nd2 @WT.eq_1 @eQ0)))))) ?_
  refine cVD (hz) ?_ ?_
  ·rintro dd S ⟨hd,rfl⟩
   cases hd
   refine kF ?_
   refine gR0 ?_
   refine cVD (Zjd x.bytes.length (Zar f.size l) q S) ?_ ?_
   ·refine mfK fun h1=>?_
    refine kF ?_
    refine gR0 ?_
    exact hF.fin (.tup []) S rfl trivial (ZEW _) (ZES _) (ZF.ok h1)
   exact mfP fun h1=>hF.pan S (ZES _) (ZF.bad h1 rfl)
  rintro dd S ⟨hd,_⟩
  cases hd
 exact mfP fun h0=>hF.pan st (ZES _) (ZF.bad h0 (Kk h0))
end
theorem Zht(l:Str)(v:Int):Zc ZEQ 185 [ZM l,.int .u8 v] (.int .i64 (Zk (fun x=>dC (v=x.toNat)) l)):=by
 refine ZJ (cR 185 f185) fun z F st t=>?_
 have hw:=(Y3 (z (ZM l) (by simp))).1
 unfold big at hw
 clear z
 refine rg ?_
 refine rx @W8 ?_
 refine Zb (fr (l.length) (fun i Q=>i≤l.length→(∀j,j<i→dC (v=(l.getD j dE).toNat)=false)→Q [(0,.d (ZM l)),(1,.d (.int .u8 v)),(7,.d (.int .i64 l.length)),(8,.d (.int .i64 i))] [] st) (fun n c=>?_) fun ab=>?_)
 ·intro i hn hi u
  refine rg ?_
  refine Zd (Zs rfl trivial (fun h1=>?_) (fun h1=>?_))
  ·simp at h1
   refine rg ?_
   refine xA (nd2 @ZzL @u8C.eq_1) ?_
   refine cd (fun h2=>?_) (fun h2=>?_)
   ·have e1:=Ke (p:=fun x:UInt8=>dC (v=x.toNat)) h1 h2 u
    refine rg ?_
    refine ri t ?_
    exact e1.symm
   refine gA ?_
   refine Za ?_
   exact c ((l.length)-(i+1)) (by omega) (i+1) rfl (by omega) (ZX (q:=fun j=>dC (v=(l.getD j dE).toNat)=false) u h2)
  simp at h1
  obtain rfl:i=l.length:=by omega
  have y:∀x∈l,(fun x:UInt8=>dC (v=x.toNat)) x=false:=fun x hx=>by
   obtain⟨j,hj,rfl⟩:=ZFa hx
   have:=u j hj
   simpa[ZE8,hj]using this
  refine rg ?_
  refine ri t ?_
  exact(WM y).symm
 exact ab _ 0 rfl (by omega) (by intro j hj;omega)
theorem Ze8(l:Str)(v:Int):Zc ZEQ 140 [ZM l,.int .u8 v] (.bool (l.any fun x=>dC (v=x.toNat))):=by
 refine Ze (cR 140 f140) fun F st c=>?_
 refine gG ?_
 refine cl (Zht l v) ?_
 refine rb c ?_
 rw[←JU]
section
variable {st:St} {b3 b4 b5 b6 b7 bm:Nat} {d:Dfn} {m:Msg} {pth:Str} {l:List (Str × Int)} {f:Fld} {x:Val} {q:Str}
theorem Zne(hs:Zb3 st b3 b4 b5 b6 b7 bm d m pth l f x q)(hl:0≤f.low∧f.low≤255):
  Zf ZEQ 139 [.ptr b7 0,.ptr b5 0,.ptr b4 0,.ptr b6 0] st (ZF (Wo (Zcz false true false false x q) (Wo (q,if dC ((x.bytes.length:Int)≤f.high) then 0 else 5) (q,if !x.bytes.any (fun c=>dC (f.low=c.toNat)) then 0 else 6))) st):=by
 refine Zh (cR 139 f139) fun F hF=>?_
 have hu:=Qd hs false true false false
 have hw:IntKind.u8.wrap f.low=f.low:=Zae .u8 f.low (by have h1:IntKind.u8.min=0:=rfl;have h2:IntKind.u8.max=255:=rfl;unfold inR;omega)
 refine rx @hs.u ?_
 refine vV (hu) ?_ ?_
 ·refine mfK fun h0=>?_
  rw[KF h0]at hF
  refine gR0 ?_
  refine rx (nd2 @hs.x (nd2 @hs.f (nd2 @hs.q (nd2 @W8 @eQ0)))) ?_
  have c9:=Ks (dC ((x.bytes.length:Int)≤f.high)) q 5 (by decide) st
  refine cV (c9) ?_ ?_
  ·refine mfK fun h1=>?_
   rw[KF h1]at hF
   refine gR0 ?_
   refine rx (nd2 @hs.x (nd2 @hs.f (nd2 @hs.q (nd2 @eQ0 @hw)))) ?_
   refine clD (Ze8 x.bytes f.low) ?_
   refine ZgN rfl rfl rfl rfl rfl (by trivial) (by trivial) (by exact Ks (!x.bytes.any fun c=>dC (f.low=c.toNat)) q 6 (by decide) st) ?_ ?_
   ·refine mfK fun h2=>?_
    refine kF ?_
    refine gR0 ?_
    exact hF.fin (.tup []) st rfl trivial (ZEW _) (ZES _) (ZF.ok h2)
   exact mfP fun h2=>hF.pan st (ZES _) (ZF.bad h2 rfl)
  exact mfP fun h1=>hF.pan st (ZES _) (ZF.bad h1 (Kk h1))
 exact mfP fun h0=>hF.pan st (ZES _) (ZF.bad h0 (Kk h0))
theorem Znf(hs:Zb3 st b3 b4 b5 b6 b7 bm d m pth l f x q)(ht:ZbC x.hdrs):
  Zf ZEQ 141 [.ptr b7 0,.ptr b5 0,.ptr b6 0,.ptr b4 0] st (ZF (Wo (Zcz false false true false x q) (Wo (q,if W3 x.hdrs then 0 else 6) (q,if dC (((ZaV x.hdrs).length:Int)≤f.high) then 0 else 5))) st):=by
 refine Zh (cR 141 f141) fun F hF=>?_
 have hu:=Qd hs false false true false
 have hW:=ZhE ht
 have hR:=Zjz.eq_1 x.hdrs
 generalize Zjz x.hdrs=w at *
 refine rx @hs.u ?_
 refine vV (hu) ?_ ?_
 ·refine mfK fun h0=>?_
  rw[KF h0]at hF
  refine gR0 ?_
  refine rx @hs.x ?_
  cases hk:W3 x.hdrs with
  |false =>
   rw[hk,if_neg (by simp)]at hR
   subst hR
   refine cl (hW) ?_
   refine rx @hs.q ?_
   have c9:=Ks false q 6 (by decide) st
   refine cV (c9) ?_ ?_
   ·exact mfK fun h1=>absurd h1 (by simp)
   exact mfP fun h1=>hF.pan st (ZES _) (ZF.bad h1 (by rw[hk,Kk (by simp)]))
  |true =>
   rw[hk,if_pos rfl]at hR
   rw[hk,KF (by simp)]at hF
   subst hR
   refine cl (hW) ?_
   refine rx @hs.q ?_
   have c9:=Ks true q 6 (by decide) st
   refine cV (c9) ?_ ?_
   ·refine mfK fun h1=>?_
    refine gR0 ?_
    refine rx (nd2 @hs.f (nd2 @hs.q (nd2 @W8 @eQ0))) ?_
    have c9:=Ks (dC (((ZaV x.hdrs).length:Int)≤f.high)) q 5 (by decide) st
    refine cV (c9) ?_ ?_
    ·refine mfK fun h2=>?_
     refine gR0 ?_
     exact hF.fin (.tup []) st rfl trivial (ZEW _) (ZES _) (ZF.ok h2)
    exact mfP fun h2=>hF.pan st (ZES _) (ZF.bad h2 rfl)
   exact mfP fun h1=>absurd rfl h1
 exact mfP fun h0=>hF.pan st (ZES _) (ZF.bad h0 (Kk h0))
end
def ZaB:Prop:=∀n:Nat,n<500→Zc ZEQ 186 [.int .i64 n] (.str (ZcG n))
theorem ZhM(hI:ZaB)(ps:List Val)(k:Nat)(hk:k<ps.length)(hps:ps.length≤500)(hn:∀x∈ps,x.name.length≤32):Zc ZEQ 143 [ZO ps,.int .i64 k] (.str (Ye ps k)):=by
 refine Ze (cR 143 f143) fun F st j=>?_
 have t:=Wp hk
 have hnk:=hn _ (Zy hk)
 have u:=fun i=>ZoT (ps:=ps) (k:=k) (i:=i)
 have hO:=Ye.eq_1 ps k
 have v:ZcH ps k=ZaK ps k k:=rfl
 have hdl:=Zmb ps k
 have hdec:=Zet (ZcH ps k)
 have hD:=hI (ZcH ps k) (by omega)
 generalize hx:ps.getD k dE=x at *
 refine gG ?_
 refine rx @ZO.eq_1 ?_
 simp only[ite_self]
 refine⟨by omega,by omega,by omega,?_⟩
 refine kl (st) [(0,.d (ZO ps)),(1,.d (.int .i64 k)),(5,.d (.int .i64 (0:Nat))),(10,.d (.sl .none k 5 (Zd6 ps))),(11,.d (.int .i64 k)),(12,.d (.int .i64 (0:Nat)))] [] (KH _) (WU _) ?_
 refine Zb (fr (k) (fun i Q=>i≤k→Q [(0,.d (ZO ps)),(1,.d (.int .i64 k)),(5,.d (.int .i64 (ZaK ps k i))),(10,.d (.sl .none k 5 (Zd6 ps))),(11,.d (.int .i64 k)),(12,.d (.int .i64 i))] [] st) (fun n c=>?_) fun z=>?_)
 ·intro i hn2 hi
  refine rg ?_
  refine Zd (Zs rfl trivial (fun h1=>?_) (fun h1=>?_))
  ·simp at h1
   have ab:=Wp (show i<ps.length by omega)
   have hs:=u i (by omega)
   have hdi:=Ztp ps k i
   generalize hy:ps.getD i dE=y at *
   refine xA @ab ?_
   refine xA (nd2 @atV @t) ?_
   refine cd (fun h2=>?_) (fun h2=>?_)
   ·rw[if_pos (by simpa using h2)]at hs
    refine gA ?_
    refine gA ?_
    rw[show((ZaK ps k i:Nat):Int)+1=((ZaK ps k (i+1):Nat):Int) by rw[hs];rfl]
    refine Za ?_
    exact c ((k)-(i+1)) (by omega) (i+1) rfl (by omega)
   rw[if_neg (by simpa using h2)]at hs
   refine gA ?_
   rw[show((ZaK ps k i:Nat):Int)=((ZaK ps k (i+1):Nat):Int) by rw[hs];rfl]
   refine Za ?_
   exact c ((k)-(i+1)) (by omega) (i+1) rfl (by omega)
  simp at h1
  obtain rfl:i=k:=by omega
  rw[←v]
  refine rg ?_
  refine cd (fun h3=>?_) (fun h3=>?_)
  ·simp at h3
   rw[if_pos h3]at hO
   refine xA (nd2 @atV @t) ?_
   refine rs j ?_
   exact hO.symm
  simp at h3
  rw[if_neg h3]at hO
  refine xA (nd2 @atV @t) ?_
  refine⟨by unfold big;omega,?_⟩
  refine cXD @ZcS (hD) ?_
  repeat(refine ZER (by first|omega|trivial|(intro h0;simp at h0;omega)|(((try simp only[ZE1,ZE5,List.length_nil]);unfold big;omega))) ?_)
  refine rs j ?_
  exact hO.symm
 exact z _ 0 rfl (by omega)
section
variable {d:Dfn} {m:Msg} {pth:Str} {bm:Nat} {x:Val} {q:Str} {st:St}
def ZrI(mis:Msg→Val→Str→Str×Int)(d:Dfn)(of:Str)(x:Val)(q:Str):Str×Int :=
 Wo (Zcz false false false true x q) (Wo (q,if dC ((x.parts.length:Int)=1) then 0 else 6) (mis (ZD d of) (x.parts.getD 0 dE) (Z1 q (Ye x.parts 0))))
theorem Zsc(hI:ZaB)(of:Str)(hof:0≤Zn d of d.msgs.length)(hx:VOk x)(hq:q≠[]∧q.length≤1000000)(fu:D)(hu:WZ ZEQ fu [.bool false,.bool false,.bool false,.bool true] st (ZF (Zcz false false false true x q) st))(mis:Msg→Val→Str→Str×Int)(hmis:x.parts.length=1→Zf ZEQ 43 [.agg d.cells,.agg (ZD d of).cells,.agg (x.parts.getD 0 dE).cells,.str (Z1 q (Ye x.parts 0))] st (ZF (mis (ZD d of) (x.parts.getD 0 dE) (Z1 q (Ye x.parts 0))) st)):
  Zf ZEQ 145 [.agg (WT m d pth bm),.str of,.agg x.cells,.str q,fu] st (ZF (ZrI mis d of x q) st):=by
 refine Zh (cR 145 f145) fun F hF=>?_
 have c:=KX d of hof
 rw[show d.msgs.getD (ixS d of) dE=ZD d of from rfl]at c
 unfold ZrI at hF
 rw[ZFf]
 refine rx @WT.eq_1 ?_
 refine rg ?_
 refine vV (hu) ?_ ?_
 ·refine mfK fun h0=>?_
  rw[KF h0]at hF
  refine gR0 ?_
  refine rx @Qq ?_
  have c9:=Ks (dC ((x.parts.length:Int)=1)) q 6 (by decide) st
  refine cV (c9) ?_ ?_
  ·refine mfK fun h1=>?_
   rw[KF h1]at hF
   have hl:x.parts.length=1:=by simp at h1;omega
   have n:=ZhM hI x.parts 0 (by omega) (by omega) hx.name
   have hsn:=ZdB hx.few hx.name (k:=0) (by omega)
   have j:Ye x.parts 0≠[]:=by
    have h2:=(hx.part (Zy (show 0<x.parts.length by omega))).node.1.1
    unfold Ye
    rw[if_pos (by have:=Zmb x.parts 0;omega)]
    exact fun e=>by rw[e]at h2;simp at h2
   have hj:=Zo8 hq.1 j (by omega) (by omega)
   have hr:=Wp (l:=x.parts) (i:=0) (by omega)
   have hm:=hmis hl
   generalize Z1 q (Ye x.parts 0)=q2 at *
   rw[ZFf]at hm
   generalize mis (ZD d of) (x.parts.getD 0 dE) q2=R at *
   generalize x.parts.getD 0 dE=y at *
   refine gR0 ?_
   refine xA (nd2 @atV @hr) ?_
   refine clD (c) ?_
   refine clD (n) ?_
   refine clD (hj) ?_
   refine cVD (hm) ?_ ?_
   ·refine mfK fun h2=>?_
    refine kF ?_
    refine gR0 ?_
    exact hF.fin (.tup []) st rfl trivial (ZEW _) (ZES _) (ZF.ok h2)
   exact mfP fun h2=>hF.pan st (ZES _) (ZF.bad h2 rfl)
  exact mfP fun h1=>hF.pan st (ZES _) (ZF.bad h1 (Kk h1))
 exact mfP fun h0=>hF.pan st (ZES _) (ZF.bad h0 (Kk h0))
end
theorem VOk.few2{v:Val}(h:VOk v):v.parts.length≤500:=by
 have h1:=Zn3 v
 have h2:=h.wt
 have h3:v.parts.length≤nodesL v.parts:=by
  induction v.parts with
  |nil=>simp
  |cons x r ih=>have:=Jk x;simp only[ZE5,nodesL];omega
 have h4:=Jk v
 omega
theorem Zzs{ps:List Val}{k:Nat}(h:1≤(ps.getD k dE).name.length):Ye ps k≠[]:=by
 unfold Ye
 split
 ·exact fun e=>by rw[e]at h;simp at h
 simp
abbrev ZdZ(mis:Msg→Val→Str→Str×Int)(d:Dfn)(of:Str)(x:Val)(q:Str)(i:Nat):Str×Int:=mis (ZD d of) (x.parts.getD i dE) (Z1 q (Ye x.parts i))
section
variable {st:St} {b3 b4 b5 b6 b7 bm:Nat} {d:Dfn} {m:Msg} {pth:Str} {l:List (Str × Int)} {f:Fld} {x:Val} {q:Str}
theorem Zng(hI:ZaB)(hs:Zb3 st b3 b4 b5 b6 b7 bm d m pth l f x q)(hx:VOk x)(hq:q≠[]∧q.length≤1000000)(hv:ZN f.size=true)(hk:∀t∈f.size.terms,∃v,Zp t.field l=sO v∧0≤v∧v<34359738368)(hof:0≤Zn d f.of d.msgs.length)(mis:Msg→Val→Str→Str×Int)(hmis:∀i,i<x.parts.length→Zf ZEQ 43 [.agg d.cells,.agg (ZD d f.of).cells,.agg (x.parts.getD i dE).cells,.str (Z1 q (Ye x.parts i))] st (ZF (ZdZ mis d f.of x q i) st)):
  Zf ZEQ 142 [.ptr b7 0,.ptr b5 0,.ptr b3 0,.ptr b4 0,.ptr b6 0] st (ZF (Wo (Zcz false false false true x q) (Wo (q,KB x.parts.length (Zar f.size l)) ((Kf (ZdZ mis d f.of x q) (ZE4 x.parts.length)).getD (q,0)))) st):=by
 refine Zh (cR 142 f142) fun F hF=>?_
 have hu:=Qd hs false false false true
 have hz:=Zan m d pth f hv bm l st hs.m hk
 have ad:=KX d f.of hof
 rw[show d.msgs.getD (ixS d f.of) dE=ZD d f.of from rfl]at ad
 have ab:=hs.x
 have ae:=hs.p
 have ag:=hs.f
 have ac:=hs.q
 have af:=hx.few2
 refine rx @hs.u ?_
 refine vV (hu) ?_ ?_
 ·refine mfK fun h0=>?_
  rw[KF h0]at hF
  refine gR0 ?_
  refine rx (nd2 @ab (nd2 @ae (nd2 @ag (nd2 @ac (nd2 @Qq (nd2 @WT.eq_1 @eQ0)))))) ?_
  refine cVD (hz) ?_ ?_
  ·rintro dd S ⟨hd,hS⟩
   obtain rfl:=hS.symm
   cases hd
   refine kF ?_
   refine gR0 ?_
   refine cVD (Zjd x.parts.length (Zar f.size l) q st) ?_ ?_
   ·refine mfK fun h1=>?_
    rw[KF h1]at hF
    refine kF ?_
    refine gR0 ?_
    refine rx (nd2 @ab @Qq) ?_
    refine Zb (fr (x.parts.length) (fun i Q=>i≤x.parts.length→(∀j,j<i→(ZdZ mis d f.of x q j).2=0)→Q [(1,.d (.ptr b5 0)),(2,.d (.ptr b3 0)),(3,.d (.ptr b4 0)),(4,.d (.ptr b6 0)),(18,.d (ZO x.parts)),(19,.d (.int .i64 x.parts.length)),(20,.d (.int .i64 i))] [] st) (fun n z=>?_) fun ai=>?_)
    ·intro i hn hi c
     refine rg ?_
     refine Zd (Zs rfl trivial (fun g1=>?_) (fun g1=>?_))
     ·simp at g1
      have ak:x.parts.getD i dE∈x.parts:=Zy g1
      have ah:=ZhM hI x.parts i g1 af hx.name
      have hsl:=ZdB hx.few hx.name g1
      have hj:=Zo8 hq.1 (Zzs (hx.part ak).node.1.1) (by omega) (by omega)
      have hr:=Wp (l:=x.parts) (i:=i) g1
      have hm:=hmis i g1
      have al:=Zfh (g:=ZdZ mis d f.of x q) g1 c
      have aj:=fun h=>ZX (q:=fun j=>(ZdZ mis d f.of x q j).2=0) c h
      generalize hR:ZdZ mis d f.of x q i=R at *
      generalize Z1 q (Ye x.parts i)=q2 at *
      rw[ZFf]at hm
      generalize x.parts.getD i dE=y at *
      refine xA (nd2 @atV @hr) ?_
      refine rx (nd2 @ab (nd2 @ae (nd2 @ag (nd2 @ac (nd2 @WT.eq_1 @eQ0))))) ?_
      refine clD (ad) ?_
      refine clD (ah) ?_
      refine clD (hj) ?_
      refine cVD (hm) ?_ ?_
      ·refine mfK fun h2=>?_
       refine kF ?_
       refine gR0 ?_
       refine gA ?_
       refine Za ?_
       exact z ((x.parts.length)-(i+1)) (by omega) (i+1) rfl (by omega) (aj h2)
      exact mfP fun h2=>hF.pan st (ZES _) (ZF.bad h2 (by rw[al h2];rfl))
     simp at g1
     obtain rfl:i=x.parts.length:=by omega
     rw[ZdU c]at hF
     refine ZP rfl ?_
     exact hF.fin (.tup []) st rfl trivial (ZEW _) (ZES _) (ZF.ok rfl)
    exact ai _ 0 rfl (by omega) (by intro j hj;omega)
   exact mfP fun h1=>hF.pan st (ZES _) (ZF.bad h1 (Kk h1))
  rintro dd S ⟨hd,_⟩
  cases hd
 exact mfP fun h0=>hF.pan st (ZES _) (ZF.bad h0 (Kk h0))
theorem Znh(hs:Zb3 st b3 b4 b5 b6 b7 bm d m pth l f x q)(R:Str×Int)(hone:Zf ZEQ 145 [.agg (WT m d pth bm),.str f.of,.agg x.cells,.str q,.fn (.func 134) [] [.ptr b5 0,.ptr b6 0]] st (ZF R st)):
  Zf ZEQ 144 [.ptr b3 0,.ptr b4 0,.ptr b5 0,.ptr b6 0,.ptr b7 0] st (ZF R st):=by
 refine Zh (cR 144 f144) fun F hF=>?_
 rw[ZFf]at hone
 refine rx (nd2 @hs.p (nd2 @hs.f (nd2 @hs.x (nd2 @hs.q (nd2 @hs.u (nd2 @WT.eq_1 @eQ0)))))) ?_
 refine cV (hone) ?_ ?_
 ·refine mfK fun h0=>?_
  refine gR0 ?_
  exact hF.fin (.tup []) st rfl trivial (ZEW _) (ZES _) (ZF.ok h0)
 exact mfP fun h0=>hF.pan st (ZES _) (ZF.bad h0 rfl)
theorem Zni(hs:Zb3 st b3 b4 b5 b6 b7 bm d m pth l f x q)(tag:Int)(ht:(Zp f.tag l).getD 0=tag)(R:Str×Int)(hone:0≤QT f tag→Zf ZEQ 145 [.agg (WT m d pth bm),.str (f.cases.getD (QT f tag).toNat dE).of,.agg x.cells,.str q,.fn (.func 134) [] [.ptr b5 0,.ptr b6 0]] st (ZF R st)):
  Zf ZEQ 146 [.ptr b7 0,.ptr b4 0,.ptr b3 0,.ptr b6 0,.ptr b5 0] st (ZF (Wo (Zcz false false false true x q) (Wo (q,if dC (0≤QT f tag) then 0 else 9) R)) st):=by
 refine Zh (cR 146 f146) fun F hF=>?_
 have hu:=Qd hs false false false true
 have e1:=Wa (vD:=Kx) ZY f.tag l
 have e3:=Ww ZY f.tag
 simp only[show Qe f.tag=D.str f.tag from rfl]at e1 e3
 have hC:=Zog f tag
 have j:=Y2 (fun c:Yg=>dC (c.low≤tag)&&dC (tag≤c.high)) f.cases
 rw[show Zk (fun c:Yg=>dC (c.low≤tag)&&dC (tag≤c.high)) f.cases=QT f tag from rfl]at j
 rw[ZFf]at hone
 generalize QT f tag=ci at *
 refine rx @hs.u ?_
 refine vV (hu) ?_ ?_
 ·refine mfK fun h0=>?_
  rw[KF h0]at hF
  refine gR0 ?_
  refine rx (nd2 @hs.f (nd2 @hs.p (nd2 @hs.m (nd2 @WT.eq_1 (nd2 @eQ0 (nd2 @e1 (nd2 @e3 (nd2 @ZnZ @ht)))))))) ?_
  refine cl (hC) ?_
  refine rx @hs.q ?_
  have c9:=Ks (dC (0≤ci)) q 9 (by decide) st
  refine cV (c9) ?_ ?_
  ·refine mfK fun h1=>?_
   rw[KF h1]at hF
   have t:0≤ci:=by
    by_cases h:0≤ci
    ·exact h
    rw[decide_eq_false h]at h1;simp at h1
   have ho:=hone t
   have n:max ci 0=ci:=by omega
   generalize i:f.cases.getD ci.toNat dE=cc at *
   rw[n]
   refine gR0 ?_
   refine xA (nd2 @hs.p (nd2 @hs.f (nd2 @hs.x (nd2 @hs.q (nd2 @hs.u (nd2 @WT.eq_1 (nd2 @eQ0 (nd2 @ZnN (nd2 @i @Yg.cells.eq_1))))))))) ?_
   refine cV0 (ho) ?_ ?_
   ·refine mfK fun h2=>?_
    refine gR0 ?_
    exact hF.fin (.tup []) st rfl trivial (ZEW _) (ZES _) (ZF.ok h2)
   exact mfP fun h2=>hF.pan st (ZES _) (ZF.bad h2 rfl)
  exact mfP fun h1=>hF.pan st (ZES _) (ZF.bad h1 (Kk h1))
 exact mfP fun h0=>hF.pan st (ZES _) (ZF.bad h0 (Kk h0))
theorem Znj(hs:Zb3 st b3 b4 b5 b6 b7 bm d m pth l f x q)(hv:ZN f.size=true)(hk:∀t∈f.size.terms,∃v,Zp t.field l=sO v∧0≤v∧v<34359738368)(hof:0≤Zn d f.of d.msgs.length)(R:Str×Int)(len:Int)(hone:Zf ZEQ 145 [.agg (WT m d pth bm),.str f.of,.agg x.cells,.str q,.fn (.func 134) [] [.ptr b5 0,.ptr b6 0]] st (ZF R st))(hlen:R.2=0→x.parts.length=1∧Zc ZEQ 30 [.agg d.cells,.agg (ZD d f.of).cells,.agg (x.parts.getD 0 dE).cells] (.int .i64 len)):
  Zf ZEQ 147 [.ptr b3 0,.ptr b4 0,.ptr b5 0,.ptr b6 0,.ptr b7 0] st (ZF (Wo R (q,KB len (Zar f.size l))) st):=by
 refine Zh (cR 147 f147) fun F hF=>?_
 have hz:=Zan m d pth f hv bm l st hs.m hk
 have n:=KX d f.of hof
 rw[show d.msgs.getD (ixS d f.of) dE=ZD d f.of from rfl]at n
 rw[ZFf]at hone
 have j:=hs.p
 have z:=hs.f
 have c:=hs.q
 refine rx (nd2 @j (nd2 @z (nd2 @hs.x (nd2 @c (nd2 @hs.u (nd2 @WT.eq_1 @eQ0)))))) ?_
 refine cV (hone) ?_ ?_
 ·refine mfK fun h0=>?_
  rw[KF h0]at hF
  obtain⟨hl,hL⟩:=hlen h0
  have hr:=Wp (l:=x.parts) (i:=0) (by omega)
  rw[ZFf]at hL
  generalize x.parts.getD 0 dE=y at *
  refine gR0 ?_
  refine xA (nd2 @j (nd2 @z (nd2 @hs.x (nd2 @c (nd2 @WT.eq_1 (nd2 @eQ0 (nd2 @atV @hr))))))) ?_
  refine clD (n) ?_
  refine clD (hL) ?_
  refine cVD (hz) ?_ ?_
  ·rintro dd S ⟨hd,hS⟩
   obtain rfl:=hS.symm
   cases hd
   refine kF ?_
   refine gR0 ?_
   refine cVD (Zjd len (Zar f.size l) q st) ?_ ?_
   ·refine mfK fun h1=>?_
    refine kF ?_
    refine gR0 ?_
    exact hF.fin (.tup []) st rfl trivial (ZEW _) (ZES _) (ZF.ok h1)
   exact mfP fun h1=>hF.pan st (ZES _) (ZF.bad h1 rfl)
  rintro dd S ⟨hd,_⟩
  cases hd
 exact mfP fun h0=>hF.pan st (ZES _) (ZF.bad h0 (Kk h0))
end
theorem Znr{v w:ZT→Int}:∀{l:List ZT},(∀t∈l,v t=w t)→Qf v l=Qf w l
 | [],_=>rfl
 |t::r,h=>by simp only[Qf];rw[h t (by simp),Znr fun s hs=>h s (by simp[hs])]
theorem ZAt(k:Int)(x:Val):Znu (ZrE k) (ZnM k) (dC (k=6)) (dC (7≤k)) x=!WQ k x:=by
 have e:∀n:Nat,dC ((n:Int)=0)=!dC (0<(n:Int)):=fun n=>by by_cases h:n=0<;>simp[h];omega
 unfold Znu WQ
 rw[e,e,e]
 generalize dC (x.int=0)=a1;generalize dC (0<(x.bytes.length:Int))=a2;generalize dC (0<(x.hdrs.length:Int))=a3;generalize dC (0<(x.parts.length:Int))=a4
 generalize ZrE k=c1;generalize ZnM k=c2;generalize dC (k=6)=c3;generalize dC (7≤k)=c4
 revert a1 a2 a3 a4 c1 c2 c3 c4
 decide
theorem Zzq{k:Int}{x:Val}{q:Str}{n b h p:Bool}(R:Str×Int)(h1:ZrE k=n)(h2:ZnM k=b)(h3:dC (k=6)=h)(h4:dC (7≤k)=p):Wo (Zcz n b h p x q) R=if WQ k x then (q,6) else R:=by
 subst h1;subst h2;subst h3;subst h4
 unfold Wo Zcz
 rw[ZAt]
 cases WQ k x<;>rfl
theorem ZwK(a b c:Str×Int):Wo (Wo a b) c=Wo a (Wo b c):=by
 unfold Wo
 by_cases h:a.2=0<;>simp[h]
theorem Zzp(a b c:Str×Int):Wo a (Wo b (Wo a c))=Wo a (Wo b c):=by
 unfold Wo
 by_cases h:a.2=0<;>simp[h]
theorem ZmO(mis:Msg→Val→Str→Str×Int)(d:Dfn)(of:Str)(x:Val)(q:Str):ZrI mis d of x q=Wo (Zcz false false false true x q) (Jw mis d of x q):=by
 unfold ZrI Jw
 congr 1
 by_cases h:x.parts.length=1
 ·rw[if_pos h,KF (by simp[h])]
 rw[if_neg h,Kk (by simp;omega),if_neg (by simp;omega)]
def Zqa(b3 b4 b5 b6 b7:Nat):List (Int×D):=[
 (1,.fn (.func 135) [] [.ptr b7 0,.ptr b5 0,.ptr b4 0,.ptr b6 0]),
 (3,.fn (.func 135) [] [.ptr b7 0,.ptr b5 0,.ptr b4 0,.ptr b6 0]),
 (4,.fn (.func 136) [] [.ptr b7 0,.ptr b5 0,.ptr b3 0,.ptr b4 0,.ptr b6 0]),
 (5,.fn (.func 139) [] [.ptr b7 0,.ptr b5 0,.ptr b4 0,.ptr b6 0]),
 (6,.fn (.func 141) [] [.ptr b7 0,.ptr b5 0,.ptr b6 0,.ptr b4 0]),
 (7,.fn (.func 142) [] [.ptr b7 0,.ptr b5 0,.ptr b3 0,.ptr b4 0,.ptr b6 0]),
 (8,.fn (.func 144) [] [.ptr b3 0,.ptr b4 0,.ptr b5 0,.ptr b6 0,.ptr b7 0]),
 (9,.fn (.func 146) [] [.ptr b7 0,.ptr b4 0,.ptr b3 0,.ptr b6 0,.ptr b5 0]),
 (12,.fn (.func 147) [] [.ptr b3 0,.ptr b4 0,.ptr b5 0,.ptr b6 0,.ptr b7 0])]
structure ZgP(f:Fld)(l nv:List (Str×Int)):Prop where
 size:f.kind=4∨f.kind=7∨f.kind=12→ZN f.size=true∧∀t∈f.size.terms,∃v,Zp t.field l=some v∧0≤v∧v<34359738368∧YU t.field nv=v
 tag:f.kind=9→(Zp f.tag l).getD 0=YU f.tag nv
 low:f.kind=5→0≤f.low∧f.low≤255
theorem ZgP.eval{f:Fld}{l nv:List (Str×Int)}(h:ZgP f l nv)(hk:f.kind=4∨f.kind=7∨f.kind=12):Zar f.size l=Zd7 f.size nv:=by
 unfold Zar Zd7
 congr 1
 refine Znr fun t ht=>?_
 obtain⟨v,h1,_,_,h2⟩:=(h.size hk).2 t ht
 rw[h1,h2];rfl
theorem ZgP.sz{f:Fld}{l nv:List (Str×Int)}(h:ZgP f l nv)(hk:f.kind=4∨f.kind=7∨f.kind=12):ZN f.size=true∧∀t∈f.size.terms,∃v,Zp t.field l=sO v∧0≤v∧v<34359738368 :=
 ⟨(h.size hk).1,fun t ht=>by obtain⟨v,h1,h2,h3,_⟩:=(h.size hk).2 t ht;exact⟨v,h1,h2,h3⟩⟩
section
variable {st:St} {b3 b4 b5 b6 b7 bm:Nat} {d:Dfn} {m:Msg} {pth:Str} {l nv:List (Str × Int)} {f:Fld} {x:Val} {q:Str}
theorem Zy6(hI:ZaB)(hs:Zb3 st b3 b4 b5 b6 b7 bm d m pth l f x q)(hfr:ZhX d f)(hv:WK f=true)(hx:VOk x)(hq:q≠[]∧q.length≤1000000)(hn:ZgP f l nv)(mis:Msg→Val→Str→Str×Int)(len:Msg→Val→Int)(hmis:∀s,0≤Zn d s d.msgs.length→∀i,i<x.parts.length→Zf ZEQ 43 [.agg d.cells,.agg (ZD d s).cells,.agg (x.parts.getD i dE).cells,.str (Z1 q (Ye x.parts i))] st (ZF (ZdZ mis d s x q i) st))(hlen:f.kind=12→(Jw mis d f.of x q).2=0→x.parts.length=1∧Zc ZEQ 30 [.agg d.cells,.agg (ZD d f.of).cells,.agg (x.parts.getD 0 dE).cells] (.int .i64 (len (ZD d f.of) (x.parts.getD 0 dE)))):
  ∃fn,Zp f.kind (Zqa b3 b4 b5 b6 b7)=sO fn∧WZ ZEQ fn [] st (ZF (if WQ f.kind x then (q,6) else Zav mis len d f x q nv) st):=by
 have hk:f.kind=1∨f.kind=3∨f.kind=4∨f.kind=5∨f.kind=6∨f.kind=7∨f.kind=8∨f.kind=9∨f.kind=12:=by
  have:=hfr.kind
  unfold WK at hv
  simp only[ZEY,Bool.not_eq_true',decide_eq_false_iff_not]at hv
  omega
 have t:∀of,0≤Zn d of d.msgs.length→Zf ZEQ 145 [.agg (WT m d pth bm),.str of,.agg x.cells,.str q,.fn (.func 134) [] [.ptr b5 0,.ptr b6 0]] st (ZF (ZrI mis d of x q) st):=fun of ho =>
  Zsc hI of ho hx hq _ (Qd hs false false false true) mis fun h1=>hmis of ho 0 (by omega)
 have hP:=Zav.eq_1 mis len d f x q nv
 generalize Zav mis len d f x q nv=R at *
 have j:∀{Q:Str×Int} {n b h p:Bool},ZrE f.kind=n→ZnM f.kind=b→dC (f.kind=6)=h→dC (7≤f.kind)=p→R=Q→(if WQ f.kind x then (q,6) else R)=Wo (Zcz n b h p x q) Q:=fun h1 h2 h3 h4 h5=>by rw[Zzq _ h1 h2 h3 h4,h5]
 have num:f.kind=1∨f.kind=3→(if WQ f.kind x then (q,6) else R)=Wo (Zcz true false false false x q) (q,if dC (f.low≤x.int)&&dC (x.int≤f.high) then 0 else 3):=fun h=>by
  refine j (by rcases h with h|h<;>rw[h]<;>rfl) (by rcases h with h|h<;>rw[h]<;>rfl) (by rcases h with h|h<;>rw[h]<;>rfl) (by rcases h with h|h<;>rw[h]<;>rfl) ?_
  rw[hP,if_pos h]
  by_cases h1:x.int<f.low∨f.high<x.int
  ·rw[if_pos h1,if_neg (by simp;omega)]
  rw[if_neg h1,if_pos (by simp;omega)]
 rcases hk with h|h|h|h|h|h|h|h|h
 ·refine⟨_,by rw[h];rfl,?_⟩
  rw[num (by omega)]
  exact Zf.V (first:=[]) (args:=[]) (caps:=[_,_,_,_]) (Zfw hs)
 ·refine⟨_,by rw[h];rfl,?_⟩
  rw[num (by omega)]
  exact Zf.V (first:=[]) (args:=[]) (caps:=[_,_,_,_]) (Zfw hs)
 ·refine⟨_,by rw[h];rfl,?_⟩
  obtain⟨h1,h2⟩:=hn.sz (by omega)
  rw[j (Q:=(q,KB x.bytes.length (Zar f.size l))) (by rw[h]<;>rfl) (by rw[h]<;>rfl) (by rw[h]<;>rfl) (by rw[h]<;>rfl) (by rw[hP,if_neg (by omega),if_pos h,hn.eval (by omega)])]
  exact Zf.V (first:=[]) (args:=[]) (caps:=[_,_,_,_,_]) (Znd hs h1 h2)
 ·refine⟨_,by rw[h];rfl,?_⟩
  rw[j (by rw[h]<;>rfl) (by rw[h]<;>rfl) (by rw[h]<;>rfl) (by rw[h]<;>rfl) (Q:=Wo (q,if dC ((x.bytes.length:Int)≤f.high) then 0 else 5) (q,if !x.bytes.any (fun c=>dC (f.low=c.toNat)) then 0 else 6)) (by
   rw[hP,if_neg (by omega),if_neg (by omega),if_pos h]
   rw[show(fun c:UInt8=>dC ((c.toNat:Int)=f.low))=fun c=>dC (f.low=c.toNat) from funext fun c=>by rw[decide_eq_decide];exact eq_comm]
   by_cases h1:f.high<x.bytes.length
   ·rw[if_pos h1,Kk (by simp;omega),if_neg (by simp;omega)]
   rw[if_neg h1,KF (by simp;omega)]
   cases x.bytes.any fun c=>dC (f.low=c.toNat)<;>rfl)]
  exact Zf.V (first:=[]) (args:=[]) (caps:=[_,_,_,_]) (Zne hs (hn.low h))
 ·refine⟨_,by rw[h];rfl,?_⟩
  rw[j (by rw[h]<;>rfl) (by rw[h]<;>rfl) (by rw[h]<;>rfl) (by rw[h]<;>rfl) (Q:=Wo (q,if W3 x.hdrs then 0 else 6) (q,if dC (((ZaV x.hdrs).length:Int)≤f.high) then 0 else 5)) (by
   rw[hP,if_neg (by omega),if_neg (by omega),if_neg (by omega),if_pos h]
   cases W3 x.hdrs with
   |false=>rfl
   |true =>
    rw[if_neg (by simp),KF (by simp)]
    by_cases h1:f.high<(ZaV x.hdrs).length
    ·rw[if_pos h1,if_neg (by simp;omega)]
    rw[if_neg h1,if_pos (by simp;omega)])]
  exact Zf.V (first:=[]) (args:=[]) (caps:=[_,_,_,_]) (Znf hs hx.node.2.2.2)
 ·refine⟨_,by rw[h];rfl,?_⟩
  obtain⟨h1,h2⟩:=hn.sz (by omega)
  have ho:=hfr.ref (by omega)
  rw[j (by rw[h]<;>rfl) (by rw[h]<;>rfl) (by rw[h]<;>rfl) (by rw[h]<;>rfl) (Q:=Wo (q,KB x.parts.length (Zar f.size l)) ((Kf (ZdZ mis d f.of x q) (ZE4 x.parts.length)).getD (q,0))) (by
   rw[hP,if_neg (by omega),if_neg (by omega),if_neg (by omega),if_neg (by omega),if_pos h,hn.eval (by omega)];rfl)]
  exact Zf.V (first:=[]) (args:=[]) (caps:=[_,_,_,_,_]) (Zng hI hs hx hq h1 h2 ho mis fun i hi=>hmis _ ho i hi)
 ·refine⟨_,by rw[h];rfl,?_⟩
  rw[j (n:=false) (b:=false) (h:=false) (p:=true) (by rw[h]<;>rfl) (by rw[h]<;>rfl) (by rw[h]<;>rfl) (by rw[h]<;>rfl) (Q:=Jw mis d f.of x q) (by
   rw[hP,if_neg (by omega),if_neg (by omega),if_neg (by omega),if_neg (by omega),if_neg (by omega),if_pos h]),←ZmO]
  exact Zf.V (first:=[]) (args:=[]) (caps:=[_,_,_,_,_]) (Znh hs _ (t _ (hfr.ref (by omega))))
 ·refine⟨_,by rw[h];rfl,?_⟩
  have u:=Y2 (fun c:Yg=>dC (c.low≤YU f.tag nv)&&dC (YU f.tag nv≤c.high)) f.cases
  rw[show Zk (fun c:Yg=>dC (c.low≤YU f.tag nv)&&dC (YU f.tag nv≤c.high)) f.cases=QT f (YU f.tag nv) from rfl]at u
  rw[j (n:=false) (b:=false) (h:=false) (p:=true) (by rw[h]<;>rfl) (by rw[h]<;>rfl) (by rw[h]<;>rfl) (by rw[h]<;>rfl) (Q:=Wo (q,if dC (0≤QT f (YU f.tag nv)) then 0 else 9) (Jw mis d (f.cases.getD (QT f (YU f.tag nv)).toNat dE).of x q)) (by
   rw[hP,if_neg (by omega),if_neg (by omega),if_neg (by omega),if_neg (by omega),if_neg (by omega),if_neg (by omega),if_pos h]
   by_cases h1:QT f (YU f.tag nv)<0
   ·rw[if_pos h1,Kk (by simp;omega),if_neg (by simp;omega)]
   rw[if_neg h1,KF (by simp;omega)]),←Zzp,←ZmO]
  exact Zf.V (first:=[]) (args:=[]) (caps:=[_,_,_,_,_]) (Zni hs _ (hn.tag h) _ fun h0=>t _ (hfr.cas h _ (Zy (by omega))))
 refine⟨_,by rw[h];rfl,?_⟩
 obtain⟨h1,h2⟩:=hn.sz (by omega)
 have ho:=hfr.ref (by omega)
 rw[j (n:=false) (b:=false) (h:=false) (p:=true) (by rw[h]<;>rfl) (by rw[h]<;>rfl) (by rw[h]<;>rfl) (by rw[h]<;>rfl) (Q:=Wo (Jw mis d f.of x q) (q,KB (len (ZD d f.of) (x.parts.getD 0 dE)) (Zar f.size l))) (by
  rw[hP,if_neg (by omega),if_neg (by omega),if_neg (by omega),if_neg (by omega),if_neg (by omega),if_neg (by omega),if_neg (by omega),if_pos h,hn.eval (by omega)];rfl),←ZwK,←ZmO]
 refine Zf.V (first:=[]) (args:=[]) (caps:=[_,_,_,_,_]) (Znj hs h1 h2 ho _ _ (t _ ho) fun h0=>hlen h ?_)
 rw[ZmO]at h0
 unfold Wo at h0
 split at h0
 ·exact h0
 rename_i v;exact absurd h0 v
end
theorem ex3{st:St}{a b c:Nat}{p q r:Ya}(ha:st a=nO)(hb:(st.upd a p) b=nO)(hc:((st.upd a p).upd b q) c=nO):
  (((st.upd a p).upd b q).upd c r) a=sO p∧(((st.upd a p).upd b q).upd c r) b=sO q∧(((st.upd a p).upd b q).upd c r) c=sO r∧st.sub (((st.upd a p).upd b q).upd c r):=by
 have k1:=Zw hb
 have k2:=Zw hc
 have k3:=Zw k2.2
 refine⟨by rw[ZE0 _ _ (Ne.symm k3.1),ZE0 _ _ (Ne.symm k1.1),ZEZ],by rw[ZE0 _ _ (Ne.symm k2.1),ZEZ],ZEZ _ _ _,ZFx (ZFx (ZFi _ ha) (ZFi _ hb)) (ZFi _ hc)⟩
theorem Zb3.mono{st A:St}{b3 b4 b5 b6 b7 bm:Nat}{d:Dfn}{m:Msg}{pth:Str}{l:List (Str×Int)}{f:Fld}{x:Val}{q:Str}(h:Zb3 st b3 b4 b5 b6 b7 bm d m pth l f x q)(hs:st.sub A):Zb3 A b3 b4 b5 b6 b7 bm d m pth l f x q :=
 ⟨hs _ _ h.p,hs _ _ h.f,hs _ _ h.x,hs _ _ h.q,hs _ _ h.u,hs _ _ h.m⟩
section
variable {st:St} {bm:Nat} {d:Dfn} {m:Msg} {pth:Str} {l nv:List (Str × Int)} {f:Fld} {x:Val}
theorem ZpX(hI:ZaB)(hm:st bm=sO (.map (JZ l)))(hnm:f.name≠[]∧f.name.length≤1000)(hp:pth.length≤900000)(hfr:ZhX d f)(hv:WK f=true)(hx:VOk x)(hn:ZgP f l nv)(mis:Msg→Val→Str→Str×Int)(len:Msg→Val→Int)(hmis:∀S s,0≤Zn d s d.msgs.length→∀i,i<x.parts.length→Zf ZEQ 43 [.agg d.cells,.agg (ZD d s).cells,.agg (x.parts.getD i dE).cells,.str (Z1 (Z1 pth f.name) (Ye x.parts i))] S (ZF (ZdZ mis d s x (Z1 pth f.name) i) S))(hlen:f.kind=12→(Jw mis d f.of x (Z1 pth f.name)).2=0→x.parts.length=1∧Zc ZEQ 30 [.agg d.cells,.agg (ZD d f.of).cells,.agg (x.parts.getD 0 dE).cells] (.int .i64 (len (ZD d f.of) (x.parts.getD 0 dE)))):
  Zf ZEQ 92 [.agg (WT m d pth bm),.agg f.cells,.agg x.cells] st (ZF (if WQ f.kind x then (Z1 pth f.name,6) else Zav mis len d f x (Z1 pth f.name) nv) st):=by
 refine Zh (cR 92 f92) fun F hF=>?_
 have hjl:=ZbU pth f.name
 have ac:Z1 pth f.name≠[]:=by
  unfold Z1
  split
  ·exact hnm.1
  simp
 generalize hR:(if WQ f.kind x then (Z1 pth f.name,6) else Zav mis len d f x (Z1 pth f.name) nv)=R at *
 rw[ZFf]
 refine rx (nd2 @WT.eq_1 @eQ0) ?_
 refine Zd ?_
 refine xP 3 fun b3 h3=>?_
 refine xP 4 fun b4 h4=>?_
 refine xP 5 fun b5 h5=>?_
 obtain⟨g3,g4,g5,t⟩:=ex3 (r:=.cells [.str x.name,.int .i64 x.int,ZM x.bytes,Z2 x.hdrs,ZO x.parts]) h3 h4 h5
 generalize ((st.upd b3 _).upd b4 _).upd b5 _=S at *
 have gm:=t _ _ hm
 refine rh ?_
 refine ZjG ?_
 simp only[Eqs,reduceCtorEq,ZEV,reduceIte,ZET,ZEX,ZEU,ZjS,Zno,g3,g4]
 refine Ztc rfl rfl rfl rfl (by trivial) (by rfl) (by decide) fun bj ab=>ZjG ?_
 simp only[Eqs,reduceCtorEq,ZEV,reduceIte,ZET,ZEX,ZEU,ZjS,Zno]
 refine ZjF rfl rfl rfl rfl rfl (by trivial) (by trivial) (by exact(ZpW (ZEZ _ _ _) hnm.1 (by omega) (by omega))) ?_ ?_
 ·rintro dd T ⟨hr,o,rfl⟩
  cases hr
  rw[ZFd]
  have hsj:=ZFi o ab
  refine gR0 ?_
  refine kl (S) [(3,.d (.ptr b3 0)),(4,.d (.ptr b4 0)),(5,.d (.ptr b5 0)),(6,.loc 6 0)] [(6,[.str (Z1 pth f.name)])] (KH _) (WU _) ?_
  refine Zd ?_
  refine xP 6 fun b6 h6=>?_
  refine rg ?_
  refine Zd ?_
  refine xP 7 fun b7 h7=>?_
  have j:=ZFi (.cells [.str (Z1 pth f.name)]) h6
  have c:=ZFi (.cells [.fn (.func 134) [] [.ptr b5 0,.ptr b6 0]]) h7
  have k7:=Zw h7
  have hs:Zb3 ((S.upd b6 (.cells [.str (Z1 pth f.name)])).upd b7 (.cells [.fn (.func 134) [] [.ptr b5 0,.ptr b6 0]])) b3 b4 b5 b6 b7 bm d m pth l f x (Z1 pth f.name) :=
   ⟨c _ _ (j _ _ g3),c _ _ (j _ _ g4),c _ _ (j _ _ g5),c _ _ (ZEZ _ _ _),ZEZ _ _ _,c _ _ (j _ _ gm)⟩
  have v:=ZFx t (ZFx j c)
  refine rg ?_
  generalize ((S.upd b6 _).upd b7 _)=T at *
  refine rh ?_
  refine Zm ?_
  simp only[Eqs,reduceCtorEq,ZEV,reduceIte,ZET,ZEX,ZEU,J5,ZFy,decide_false,ZEZ,ZFd,Yt,Yu]
  intro b hb
  have u:=ZFi (.map (Qn Kx id (Zqa b3 b4 b5 b6 b7))) hb
  have y:=hs.mono u
  obtain⟨fn,z,n⟩:=Zy6 hI y hfr hv hx ⟨ac,by omega⟩ hn mis len (hmis _) hlen
  rw[hR]at n
  have e1:=Wa (vD:=id) Zg7 f.kind (Zqa b3 b4 b5 b6 b7)
  have e3:=Ww Zg7 f.kind
  simp only[show Kx f.kind=D.int .i64 f.kind from rfl]at e1 e3
  rw[z]at e1
  refine kl ((T.upd b (.map (Qn Kx id (Zqa b3 b4 b5 b6 b7))))) [(4,.d (.ptr b4 0)),(9,.d (.map b))] [] (KH _) (WU _) ?_
  refine rx (nd2 @y.f (nd2 @eQ0 (nd2 @ZEZ (nd2 @e1 (nd2 @e3 (nd2 @ZEZ (nd2 @ZFd (nd2 @Yt @Yu)))))))) ?_
  rw[show id fn=fn from rfl]
  refine vV (n) ?_ ?_
  ·refine mfK fun h0=>?_
   refine gR0 ?_
   exact hF.fin (.tup []) st rfl trivial (ZEW _) (ZFx v u) (ZF.ok h0)
  exact mfP fun h0=>hF.pan st (ZFx v u) (ZF.bad h0 rfl)
 rintro dd T ⟨hr,_⟩
 cases hr
end
theorem ZuK(d:Dfn)(n:Nat)(m:Msg)(v:Val)(p:Str):Z9 d (n+1) m v p =
  Wo (p,if (((dC (v.name=m.name)&&dC (v.int=0))&&dC ((v.bytes.length:Int)=0))&&dC ((v.hdrs.length:Int)=0))&&QK (vfs m.fields) v.parts then 0 else 6) ((Kf (Zam d n m v p) (ZE4 v.parts.length)).getD ([],0)):=by
 rw[Zix,show KE m v.parts=QK (vfs m.fields) v.parts from rfl]
 have e:∀n:Nat,dC ((n:Int)=0)=dC (n=0):=fun n=>by simp
 rw[e,e]
 unfold Wo
 generalize dC (v.name=m.name)=a1;generalize dC (v.int=0)=a2;generalize dC (v.bytes.length=0)=a3;generalize dC (v.hdrs.length=0)=a4;generalize QK (vfs m.fields) v.parts=a5
 cases a1<;>cases a2<;>cases a3<;>cases a4<;>cases a5<;>rfl
theorem Zom(d:Dfn)(fu:Nat)(m:Msg)(hm0:0<m.fields.length)(hm:m.fields.length≤1000)(v:Val)(p:Str)(st:St)(hpart:KE m v.parts=true→∀S b,S b=sO (.map (JZ (Zda m v.parts)))→∀k,k<v.parts.length→(∀j,j<k→(Zam d fu m v p j).2=0) →
   Zf ZEQ 92 [.agg (WT m d p b),.agg ((vfs m.fields).getD k dE).cells,.agg (v.parts.getD k dE).cells] S (ZF (Zam d fu m v p k) S)):
  Zf ZEQ 43 [.agg d.cells,.agg m.cells,.agg v.cells,.str p] st (ZF (Z9 d (fu+1) m v p) st):=by
 refine Zh (cR 43 f43) fun F hF=>?_
 have ah:=Zfx m hm0 (by omega)
 have aj:=Zoo (vfs m.fields) v.parts
 have af:=fun hr=>Zjh m hm0 hm v.parts hr st
 have hvl:(vfs m.fields).length≤m.fields.length:=List.length_filter_le ..
 rw[ZuK,show KE m v.parts=QK (vfs m.fields) v.parts from rfl]at *
 rw[ZFf]
 refine rx (nd2 @eQ2 @eQ3) ?_
 refine rg ?_
 refine clD (ah) ?_
 refine rx (nd2 @W8 @ZbH) ?_
 refine cG (aj) ?_
 generalize hc:((((dC (v.name=m.name)&&dC (v.int=0))&&dC ((v.bytes.length:Int)=0))&&dC ((v.hdrs.length:Int)=0))&&QK (vfs m.fields) v.parts)=ab at *
 have c9:=Ks ab p 6 (by decide) st
 refine cV (c9) ?_ ?_
 ·refine mfK fun h0=>?_
  rw[KF h0]at hF
  have hr:QK (vfs m.fields) v.parts=true:=by
   cases ab with
   |false=>simp at h0
   |true=>simp only[ZEY]at hc;exact hc.2
  have ac:=hpart hr
  have u:(vfs m.fields).length=v.parts.length:=by
   unfold QK at hr
   rw[decide_eq_true_eq]at hr
   simpa using congrArg List.length hr
  refine gR0 ?_
  refine rg ?_
  refine cV (af u) ?_ ?_
  ·rintro dd S ⟨b,hb,hd,rfl⟩
   cases hd
   refine gR0 ?_
   refine rx @Zbc ?_
   have z:=ZFi (.map (JZ (Zda m v.parts))) hb
   have ak:=ZEZ st b (.map (JZ (Zda m v.parts)))
   generalize st.upd b (.map (JZ (Zda m v.parts)))=S at *
   refine Zb (fr ((vfs m.fields).length) (fun i Q=>i≤(vfs m.fields).length→(∀j,j<i→(Zam d fu m v p j).2=0)→Q [(6,.loc 6 0),(8,.loc 8 0),(54,.d (Zo (vfs m.fields))),(55,.d (.int .i64 (vfs m.fields).length)),(56,.d (.int .i64 i))] [(6,[.str v.name,.int .i64 v.int,ZM v.bytes,Z2 v.hdrs,ZO v.parts]),(8,WT m d p b)] S) (fun n t=>?_) fun ad=>?_)
   ·intro i hn hi c
    refine rg ?_
    refine Zd (Zs rfl trivial (fun g1=>?_) (fun g1=>?_))
    ·simp at g1
     have hp:=ac S b ak i (by omega) c
     have ai:=Zfh (g:=Zam d fu m v p) (show i<v.parts.length by omega) c
     have ag:=fun h=>ZX (q:=fun j=>(Zam d fu m v p j).2=0) c h
     have ae:=Wp (l:=v.parts) (i:=i) (by omega)
     generalize Zam d fu m v p i=R at *
     rw[ZFf]at hp
     generalize v.parts.getD i dE=y at *
     generalize hf:(vfs m.fields).getD i dE=f at *
     refine xA (nd2 @atF (nd2 @hf (nd2 @Qp @J2))) ?_
     refine xA (nd2 @WT.eq_1 (nd2 @Qp (nd2 @J2 (nd2 @atV @ae)))) ?_
     refine cV0 (hp) ?_ ?_
     ·refine mfK fun h2=>?_
      refine gR0 ?_
      refine gA ?_
      refine Za ?_
      exact t (((vfs m.fields).length)-(i+1)) (by omega) (i+1) rfl (by omega) (ag h2)
     exact mfP fun h2=>hF.pan st z (ZF.bad h2 (by rw[ai h2];rfl))
    simp at g1
    obtain rfl:i=(vfs m.fields).length:=by omega
    rw[u]at c
    rw[ZdU c]at hF
    refine ZP rfl ?_
    exact hF.fin (.tup []) st rfl trivial (ZEW _) z (ZF.ok rfl)
   exact ad _ 0 rfl (by omega) (by intro j hj;omega)
  rintro dd S ⟨b,_,hd,_⟩
  cases hd
 exact mfP fun h0=>hF.pan st (ZES _) (ZF.bad h0 (Kk h0))
theorem KD.pos{d:Dfn}(h:KD d){j:Nat}(hj:j<d.msgs.length):0<(d.msgs.getD j dE).fields.length:=by
 have h1:=h.flaw j hj
 unfold WG at h1
 split at h1;· simp at h1
 split at h1;· simp at h1
 split at h1;· simp at h1
 rename_i hc
 simp only[ZFb,decide_eq_true_eq,not_or,Nat.not_lt]at hc
 omega
theorem Zb0.low{d:Dfn}{j i:Nat}{m:Msg}{f:Fld}(h:Zb0 d j i m f)(h5:f.kind=5):0≤f.low∧f.low≤255:=by
 have hk:=h.ks
 unfold Qh at hk
 simp only[h5,ZFy,if_true,if_false]at hk
 split at hk
 ·omega
 rename_i hp
 simp only[ZFb,decide_eq_true_eq]at hp
 omega
theorem ZrS{d:Dfn}(hd:KD d){n:Nat}{s:Str}{y:Val}{q:Str}(hy:VOk y)(h:(Z9 d n (ZD d s) y q).2=0):
  Zc ZEQ 30 [.agg d.cells,.agg (ZD d s).cells,.agg y.cells] (.int .i64 (lenS d n (ZD d s) y)) :=
 Zfv d hd.dok n _ y (hd.dok.of s) hy.ok hy.wt (Zlm hd.dref n _ y q (hd.dref.of s) hy.ok h)
theorem Zjg(hI:ZaB){d:Dfn}(hd:KD d):∀(n im:Nat) (v:Val) (p:Str) (st:St),im<d.msgs.length→VOk v→Yk v≤n→p.length+10200*n≤900000 →
  Zf ZEQ 43 [.agg d.cells,.agg (d.msgs.getD im dE).cells,.agg v.cells,.str p] st (ZF (Z9 d n (d.msgs.getD im dE) v p) st)
 |0,_,v,_,_,_,_,hh,_=>by have:=Kw v;omega
 |n+1,im,v,p,st,him,hv,hh,hp=>by
  have c:=hd.msg him
  have hm40:=c.many
  refine Zom d n _ (hd.pos him) (by omega) v p st fun hr S b hb k hk af=>?_
  have hlen:(vfs (d.msgs.getD im dE).fields).length=v.parts.length:=by
   unfold KE at hr
   rw[decide_eq_true_eq]at hr
   simpa using congrArg List.length hr
  obtain⟨i,hi,ak,aq,ae⟩:=ZbZ (l:=(d.msgs.getD im dE).fields) (k:=k) (by omega)
  have y:=c.at_ hi
  have am:=y.fref (hd.fld him hi)
  have ai:v.parts.getD k dE∈v.parts:=Zy hk
  have u:=hv.part ai
  have ah:=ZkH y.nm
  obtain⟨aj,ar⟩:=Zu5 c.nmU hr hk
  rw[ar,ae]at aj
  have hxh:Yk (v.parts.getD k dE)≤n:=by
   have h1:=Zab ai
   have h2:=Kw v
   omega
  have hG:=Zam.eq_1 d n (d.msgs.getD im dE) v p k
  rw[aj,ae]at hG
  have ab:=fun a ha hn=>Zwo c (n:=n) (v:=v) (p:=p) hi aq af (a:=a) ha hn
  have ac:∀a,a<i→YA ((d.msgs.getD im dE).fields.getD a dE)=true→YU ((d.msgs.getD im dE).fields.getD a dE).name (Zcm (d.msgs.getD im dE) v.parts)=Zby (d.msgs.getD im dE).fields v.parts a:=fun a ha hn =>
   Zkc (by omega) c.nmU hn fun ap=>by have:=ZoA ha hi ap;omega
  have ad:∀a,a<i→YA ((d.msgs.getD im dE).fields.getD a dE)=true→Zp ((d.msgs.getD im dE).fields.getD a dE).name (Zda (d.msgs.getD im dE) v.parts)=sO (Zby (d.msgs.getD im dE).fields v.parts a):=fun a ha hn =>
   Zy3 c.nmU v.parts (by omega) hn
  have al:ZgP ((d.msgs.getD im dE).fields.getD i dE) (Zda (d.msgs.getD im dE) v.parts) (Zcm (d.msgs.getD im dE) v.parts):=by
   refine⟨fun hz=>?_,fun h9=>?_,y.low⟩
   ·obtain⟨h1,h2⟩:=y.size hi hz
    refine⟨h1,fun t ht=>?_⟩
    obtain⟨a,ha,z,hn⟩:=h2 t ht
    exact⟨_,by rw[←z];exact ad a ha hn,(ab a ha hn).1,(ab a ha hn).2,by rw[←z];exact ac a ha hn⟩
   obtain⟨a,ha,z,hn⟩:=y.tag hi h9
   rw[←z,ad a ha hn,ac a ha hn];rfl
  have hq:=ZbU p ((d.msgs.getD im dE).fields.getD i dE).name
  rw[ae,hG]
  generalize v.parts.getD k dE=x at *
  refine ZpX hI hb ⟨fun e=>by rw[e]at ah;simp at ah,by omega⟩ (by omega) am ak u al (Z9 d n) (lenS d n) (fun T s hs j hj=>?_) (fun h12 h0=>?_)
  ·have ao:=Zcf hs
   have ag:x.parts.getD j dE∈x.parts:=Zy hj
   have h1:=ZbU (Z1 p ((d.msgs.getD im dE).fields.getD i dE).name) (Ye x.parts j)
   have h2:=ZdB u.few u.name hj
   have h3:=Zab ag
   have h4:=Kw x
   exact Zjg hI hd n (ixS d s) _ _ T ao.2 (u.part ag) (by omega) (by omega)
  obtain⟨h1,h2⟩:=Zn6 h0
  exact⟨h1,ZrS hd (u.part (Zy (by omega))) h2⟩
theorem Zje{z:Nat}{st:St}:JQ ZEQ 42 [.ptr z 0] nO st fun _ S=>S=st:=by
 refine Zb1 (cR 42 f42) rfl (by simp) fun F hF=>?_
 refine rg ?_
 refine ZfD hF rfl rfl ?_
 refine gR0 ?_
 refine rg ?_
 refine cd (fun h=>?_) (fun h=>?_)
 ·simp at h
 refine Zv ?_
 exact hF.fin (ZES _) rfl
theorem Zjf{z:Nat}{st:St}{c:List D}(hc:c.length=2)(q:Str)(no:Int)(hn:inR .i64 no)(hq:q.length≤big)(hz:st z=sO (.cells c)):
  JQ ZEQ 42 [.ptr z 0] (sO (mfD q no)) st fun b S=>b=true∧S=st.upd z (.cells [.str q,.int .i64 no]):=by
 obtain⟨c1,c2,rfl⟩:∃c1 c2,c=[c1,c2]:=by
  match c,hc with
  | [c1,c2],_=>exact⟨c1,c2,rfl⟩
 refine Zb1 (cR 42 f42) rfl (by rintro d ⟨⟩;exact⟨hq,hn,trivial⟩) fun F hF=>?_
 refine rg ?_
 refine ZlR hF rfl rfl fun F2 i=>?_
 refine gR0 ?_
 refine rx @mfD.eq_1 ?_
 refine cd (fun h=>?_) (fun h=>?_)
 ·refine rx @mfD.eq_1 ?_
  refine rg ?_
  refine cd (fun h5=>?_) (fun h5=>?_)
  ·simp at h5
  refine rx @hz ?_
  exact i.fin (ZES _) ⟨rfl,rfl⟩
 simp[mfD]at h
def Zrl(r:Str×Int):D:=.agg [.str (if r.2=0 then [] else r.1),.int .i64 r.2]
theorem Zol(d:Dfn)(m:Msg)(v:Val)(R:Str×Int)(st:St)(hfit:∀S,Zf ZEQ 43 [.agg d.cells,.agg m.cells,.agg v.cells,.str []] S (ZF R S)):
  Zf ZEQ 20 [.agg d.cells,.agg m.cells,.agg v.cells] st fun r S=>S=st∧r=.ret (Zrl R):=by
 refine Zh (cR 20 f20) fun F hF=>?_
 rw[ZFf]at hfit⊢
 have c:=Zrl.eq_1 R
 generalize Zrl R=W at *
 refine rx (nd2 @eQ2 @eQ3) ?_
 refine Zd ?_
 refine xP 6 fun z hz=>?_
 refine rg ?_
 refine Zk2 (by obtain⟨_,_,_,_,_,_,rfl⟩:=hF;rfl) rfl rfl rfl rfl rfl rfl trivial trivial ?_ ?_ ?_
 ·trivial
 ·exact⟨rfl,trivial⟩
 have i:=hF.defer 42 [] [.ptr z 0]
 clear hF
 refine gR0 ?_
 generalize F.defer 42 [] [.ptr z 0]=F at i⊢
 refine rg ?_
 refine cV (hfit _) ?_ ?_
 ·refine mfK fun h0=>?_
  rw[if_pos h0,h0]at c
  refine gR0 ?_
  refine rx (nd2 @ZEZ @ZFd) ?_
  refine i.retU ⟨trivial,⟨rfl,trivial⟩,Zbs Zje ?_⟩
  rintro b S3 rfl
  rw[ite_self]
  have g3:=ZEZ st z (.cells [.str [],.int .i64 0])
  refine⟨_,[.agg [.str [],.int .i64 0]],_,st,by simp only[Eqs,reduceCtorEq,ZEV,reduceIte,ZET,ZEX,ZEU,YI,Kp,g3];rfl,by trivial,ZEW _,ZFi _ hz,rfl,by rw[c];rfl⟩
 refine mfP fun h0=>?_
 rw[if_neg h0]at c
 refine ZoL fun hw=>?_
 have j:=DWf.agg_inv (DWf.iface_inv hw)
 have h1:inR .i64 R.2:=(j _ (by simp)).int_inv
 have h2:=(j (.str R.1) (by simp)).str_inv
 refine i.panU ⟨trivial,⟨rfl,trivial⟩,Zbs (Zjf rfl R.1 R.2 h1 h2 (ZEZ _ _ _)) ?_⟩
 rintro b S2 ⟨rfl,rfl⟩
 have g3:=ZEZ (st.upd z (.cells [.str [],.int .i64 0])) z (.cells [.str R.1,.int .i64 R.2])
 refine⟨_,[.agg [.str R.1,.int .i64 R.2]],_,st,by simp only[Eqs,reduceCtorEq,ZEV,reduceIte,ZET,ZEX,ZEU,YI,Kp,g3];rfl,by trivial,ZEW _,?_,rfl,by rw[c];rfl⟩
 rw[ZFd]
 exact ZFi _ hz
def Zbb(d:Dfn)(s:Str)(v:Val):(Str×Int)×Int:=if Wd d&&K0 v then (if Zn d s d.msgs.length<0 then (([],0),9) else ((if (Z9 d 51 (ZD d s) v []).2=0 then [] else (Z9 d 51 (ZD d s) v []).1,(Z9 d 51 (ZD d s) v []).2),(Z9 d 51 (ZD d s) v []).2)) else (([],0),2)
theorem Zjx{v:Val}(h:K0 v=true)(hs:Wb v=true→wtN v≤5000∧Yk v≤51):VOk v∧Yk v≤51:=by
 have h1:Wb v=true:=by
  unfold K0 at h
  simp only[ZEY]at h
  simp_all
 exact⟨⟨h1,(hs h1).1⟩,(hs h1).2⟩
theorem ZhL(hI:ZaB)(d:Dfn)(s:Str)(v:Val)(hs:Wb v=true→wtN v≤5000∧Yk v≤51):
  Zc ZEQ 7 [.agg d.cells,.str s,.agg v.cells] (.tup [.agg [.str (Zbb d s v).1.1,.int .i64 (Zbb d s v).1.2],.int .i64 (Zbb d s v).2]):=by
 refine Ze (cR 7 f7) fun F st c=>?_
 have hA:=ZsX d s v
 have hS:=Zbb.eq_1 d s v
 have hT:=atR.eq_1 d s v
 generalize Zbb d s v=W at *
 generalize atR d s v=X at *
 cases ha:Wd d&&K0 v with
 |false =>
  rw[ha,if_neg (by simp)]at hS hT
  subst hS;subst hT
  rw[ZFf]at *
  refine rx @eQ2 ?_
  refine rg ?_
  refine cl (hA) ?_
  refine rg ?_
  refine i1 ?_
  refine rg ?_
  refine rt c ?_
  rfl
 |true =>
  rw[ha,if_pos rfl]at hS hT
  by_cases hf:Zn d s d.msgs.length<0
  ·rw[if_pos hf]at hS hT
   subst hS;subst hT
   rw[ZFf]at *
   refine rx @eQ2 ?_
   refine rg ?_
   refine cl (hA) ?_
   refine rg ?_
   refine i1 ?_
   refine rg ?_
   refine rt c ?_
   rfl
  rw[if_neg hf]at hS hT
  subst hT
  simp only[ZEY]at ha
  have i:=Zcf (d:=d) (s:=s) (by omega)
  obtain⟨hv,hh⟩:=Zjx ha.2 hs
  have hF:Zc ZEQ 20 [.agg d.cells,.agg (ZD d s).cells,.agg v.cells] (Zrl (Z9 d 51 (ZD d s) v [])):=fun st =>
   (Zol d (ZD d s) v (Z9 d 51 (ZD d s) v []) st fun S=>Zjg hI (ZdE ha.1) 51 (ixS d s) v [] S i.2 hv hh (by simp)).mono fun r S ⟨h1,h2⟩=>⟨h2,h1⟩
  generalize Z9 d 51 (ZD d s) v []=R at *
  unfold Zrl at hF
  generalize (if R.2=0 then [] else R.1)=q at *
  subst hS
  generalize ZD d s=m at *
  rw[ZFf]at *
  refine rx @eQ2 ?_
  refine rg ?_
  refine cX @eQ3 (hA) ?_
  refine rg ?_
  refine iG ?_
  refine cl (hF) ?_
  refine rg ?_
  refine rt c ?_
  rfl
theorem Zy2{d:Dfn}{s:Str}{v:Val}(h:(Zbb d s v).2=0):KD d∧K0 v=true∧0≤Zn d s d.msgs.length∧(Z9 d 51 (ZD d s) v []).2=0:=by
 unfold Zbb at h
 split at h
 ·rename_i ha
  rw[ZEY]at ha
  split at h
  ·simp at h
  exact⟨ZdE ha.1,ha.2,by omega,h⟩
 simp at h
def Zrv(d:Dfn)(s:Str)(v:Val):Int:=if (Zbb d s v).2=0 then lenS d 51 (ZD d s) v else 0
theorem Znc(hI:ZaB)(d:Dfn)(s:Str)(v:Val)(hs:Wb v=true→wtN v≤5000∧Yk v≤51):
  Zc ZEQ 11 [.agg d.cells,.str s,.agg v.cells] (.tup [.int .i64 (Zrv d s v),.int .i64 (Zbb d s v).2]):=by
 refine Ze (cR 11 f11) fun F st i=>?_
 have hf:=ZhL hI d s v hs
 have hO:=Zy2 (d:=d) (s:=s) (v:=v)
 have hL:=Zrv.eq_1 d s v
 generalize Zbb d s v=W at *
 generalize Zrv d s v=N at *
 obtain⟨⟨q,c⟩,e⟩:=W
 simp only at hf hO hL i
 have u:=KX d s
 have z:=fun h1 h2 h3=>ZrS (d:=d) (n:=51) (s:=s) (y:=v) (q:=[]) h1 h2 h3
 by_cases he:e=0
 ·obtain⟨hd,hv,ab,hm⟩:=hO he
  have j:=z hd (Zjx hv hs).1 hm
  have t:=u ab
  rw[show d.msgs.getD (ixS d s) dE=ZD d s from rfl]at t
  rw[if_pos he]at hL
  rw[←hL]at j
  subst he
  rw[ZFf]at *
  refine rx @eQ2 ?_
  refine rg ?_
  refine cl (hf) ?_
  refine rg ?_
  refine iG ?_
  refine clD (t) ?_
  refine clD (j) ?_
  refine rt i ?_
  rfl
 rw[if_neg he]at hL
 subst hL
 rw[ZFf]at *
 refine rx @eQ2 ?_
 refine rg ?_
 refine cl (hf) ?_
 refine rg ?_
 refine Zs rfl trivial (fun _=>?_) (fun h=>by simp at h;exact absurd h he)
 refine rg ?_
 refine rt i ?_
 rfl
theorem Zis(e:Int):Zc ZEQ 10 [.int .i64 e] (.int .i64 e):=by
 refine Ze (cR 10 f10) fun F st c=>?_
 refine gG ?_
 refine ro c ?_
 rfl
def Zx7(d:Dfn)(s:Str)(v:Val):Int:=if (atS d s v).2=0 then (Z9 d 51 (ZD d s) v []).2 else (atS d s v).2
theorem ZAl(d:Dfn)(s:Str)(v:Val):Zx7 d s v=(Zbb d s v).2:=by
 unfold Zx7 Zbb atS
 split
 ·split
  ·simp
  simp
 simp
theorem ZAv{d:Dfn}{s:Str}{v:Val}(h:(atS d s v).2=0):KD d∧K0 v=true∧0≤Zn d s d.msgs.length∧(atS d s v).1=Zn d s d.msgs.length:=by
 unfold atS at h⊢
 split at h
 ·rename_i ha
  rw[if_pos ha]
  rw[ZEY]at ha
  split at h
  ·simp at h
  rename_i hf
  rw[if_neg hf]
  exact⟨ZdE ha.1,ha.2,by omega,rfl⟩
 simp at h
theorem ZkN{v:Val}(hs:Wb v=true→wtN v≤5000∧Yk v≤51):Wb v=true→Kg v≤1099511627776:=fun h=>by
 have h1:=Zn3 v
 have h2:=(hs h).1
 omega
theorem ZtF{d:Dfn}{s:Str}{v:Val}(hs:Wb v=true→wtN v≤5000∧Yk v≤51)(h:(atS d s v).2=0):
  Zc ZEQ 9 [.agg d.cells,.int .i64 (atS d s v).1,.agg v.cells,.str []] (mfT (Z9 d 51 (ZD d s) v [])) ∧
  ((Z9 d 51 (ZD d s) v []).2=0→Zc ZEQ 12 [.agg d.cells,.int .i64 (atS d s v).1,.agg v.cells] (.int .i64 (lenS d 51 (ZD d s) v))):=by
 obtain⟨hd,hv,hf,h1⟩:=ZAv h
 have c:=Zcf hf
 obtain⟨i,j⟩:=Zjx hv hs
 refine⟨?_,fun hm=>?_⟩
 ·rw[h1,c.1]
  exact ZhK hd 51 (ixS d s) v [] c.2 i j (by simp)
 rw[h1]
 exact ZtI hd hf i hm
theorem Zgp(hI:ZaB)(hk:Zc ZEQ 6 [] (.bool true))(d:Dfn)(s:Str)(v:Val):Zc ZEQ 4 [.agg d.cells,.str s,.agg v.cells] (.bool true):=by
 refine Ze (cR 4 f4) fun F st c=>?_
 have ae:=Zgr d v st
 have i:=fun e=>Zis e
 have ac:=Znc hI d s v
 have z:=Zpl d s v
 have n:=ZtF (d:=d) (s:=s) (v:=v)
 have hE:=ZAl d s v
 have hR:=Zx7.eq_1 d s v
 have hN:=Zrv.eq_1 d s v
 generalize Zbb d s v=W at *
 generalize Zrv d s v=N at *
 generalize hM:Z9 d 51 (ZD d s) v []=M at *
 generalize lenS d 51 (ZD d s) v=L at *
 generalize atS d s v=A at *
 obtain⟨ix,no⟩:=A
 simp only at z n hR
 rw[ZFf]at *
 refine rx @eQ2 ?_
 refine rg ?_
 refine cV (ae) ?_ ?_
 ·rintro dd S ⟨rfl,b,hr,hs⟩
  cases hr
  refine gR0 ?_
  refine cd (fun h1=>?_) (fun h1=>?_)
  ·refine rg ?_
   refine cl (hk) ?_
   refine rb c ?_
   rfl
  have hb:b=true:=by simp at h1;exact h1.1
  have y:=hs hb
  have u:=ac y
  have ab:=z (ZkN y)
  refine rg ?_
  refine cl (u) ?_
  refine rg ?_
  refine cl (ab) ?_
  refine rg ?_
  refine cd (fun c0=>?_) (fun c0=>?_)
  ·have j:no=0:=by simpa using c0
   obtain⟨hm,hl⟩:=n y j
   rw[if_pos j]at hR
   obtain⟨p,ad⟩:=M
   simp only[mfT]at hm
   simp only at hl hR
   refine rg ?_
   refine cl (hm) ?_
   refine rg ?_
   refine cd (fun c2=>?_) (fun c2=>?_)
   ·have t:¬ad=0:=by simpa using c2
    rw[if_neg (by omega)]at hN
    refine rg ?_
    refine cG (i W.2) ?_
    refine cG (hk) ?_
    refine rb c ?_
    simp[hN,←hE,hR]
   have t:ad=0:=by simpa using c2
   rw[if_pos (by omega)]at hN
   have af:=hl t
   refine rg ?_
   refine cl (af) ?_
   refine cG (i W.2) ?_
   refine cG (hk) ?_
   refine rb c ?_
   simp[hN,←hE,hR,t]
  have j:¬no=0:=by simpa using c0
  rw[if_neg j]at hR
  rw[if_neg (by omega)]at hN
  refine rg ?_
  refine Zs rfl trivial (fun _=>?_) (fun h=>by simp at h;exact absurd h j)
  refine rg ?_
  refine cG (i W.2) ?_
  refine cG (hk) ?_
  refine rb c ?_
  simp[hN,←hE,hR]
 rintro dd S ⟨_,b,hr,_⟩
 cases hr
theorem ZzS(d:Dfn)(s:Str)(v:Val):Zbb d s v=if (atS d s v).2=0 then ((if (Z9 d 51 (ZD d s) v []).2=0 then [] else (Z9 d 51 (ZD d s) v []).1,(Z9 d 51 (ZD d s) v []).2),(Z9 d 51 (ZD d s) v []).2) else (([],0),(atS d s v).2):=by
 unfold Zbb atS
 split
 ·split
  ·simp
  simp
 simp
theorem Zir(hI:ZaB)(hk:Zc ZEQ 6 [] (.bool true))(d:Dfn)(s:Str)(v:Val):Zc ZEQ 3 [.agg d.cells,.str s,.agg v.cells] (.bool true):=by
 refine Ze (cR 3 f3) fun F st i=>?_
 have ad:=Zgr d v st
 have c:=fun e=>Zis e
 have n:=ZhL hI d s v
 have ab:=Zpl d s v
 have t:=ZtF (d:=d) (s:=s) (v:=v)
 have hE:=ZzS d s v
 generalize Zbb d s v=W at *
 generalize hM:Z9 d 51 (ZD d s) v []=M at *
 generalize atS d s v=A at *
 obtain⟨ix,no⟩:=A
 obtain⟨⟨wp,wc⟩,we⟩:=W
 simp only at ab t hE n
 rw[ZFf]at *
 refine rx @eQ2 ?_
 refine rg ?_
 refine cV (ad) ?_ ?_
 ·rintro dd S ⟨rfl,b,hr,hs⟩
  cases hr
  refine gR0 ?_
  refine cd (fun h1=>?_) (fun h1=>?_)
  ·refine rg ?_
   refine cl (hk) ?_
   refine rb i ?_
   rfl
  have hb:b=true:=by simp at h1;exact h1.1
  have z:=hs hb
  have y:=n z
  have ac:=ab (ZkN z)
  refine rg ?_
  refine cl (y) ?_
  refine rg ?_
  refine cl (ac) ?_
  refine gG ?_
  refine cd (fun c0=>?_) (fun c0=>?_)
  ·have j:no=0:=by simpa using c0
   obtain⟨hm,hl⟩:=t z j
   rw[if_pos j]at hE
   obtain⟨p,we⟩:=M
   simp only[mfT]at hm
   simp only[ZE2]at hE
   obtain⟨⟨rfl,rfl⟩,rfl⟩:=hE
   refine rg ?_
   refine cl (hm) ?_
   refine rg ?_
   refine cd (fun c2=>?_) (fun c2=>?_)
   ·have u:we=0:=by simpa using c2
    refine gG ?_
    refine cG (c we) ?_
    refine cG (c we) ?_
    refine cG (hk) ?_
    refine rb i ?_
    simp[u]
   have u:¬we=0:=by simpa using c2
   refine rg ?_
   refine cG (c we) ?_
   refine cG (c we) ?_
   refine cG (hk) ?_
   refine rb i ?_
   simp[u]
  have j:¬no=0:=by simpa using c0
  rw[if_neg j]at hE
  simp only[ZE2]at hE
  obtain⟨⟨rfl,rfl⟩,rfl⟩:=hE
  refine rg ?_
  refine cG (c we) ?_
  refine cG (hk) ?_
  refine rb i ?_
  simp
 rintro dd S ⟨_,b,hr,_⟩
 cases hr
end Go.DL
namespace Go.DL
open Go
variable [Zqw]
variable {kp:Option (List Nat)}{L:Loc}{ρ:Env}{s:St}{w:World}{os:List DOp}{ds:List D}{B:List (Nat × Rd)}{dst:Option Nat}{tmps:Array Value}{g:G}{Φ:Res→St→Prop}{ν:Nat→Nat}{xs:List Opd}{side:Prop}{row:Nat→List D}
inductive V where
 |int (k:IntKind) (n:Int)
 |bool (b:Bool)
 |str (s:List Nat)
 |agg (cs:List V)
 |tup (vs:List V)
 |nilsl
 |sl (t n s:Nat) (rows:List V)
 |ep (cs:List V) (off:Nat)
 |nilptr
 |ptr (b off:Nat)
 |msl (b off n:Nat) (cap:Option Nat) (s:Nat)
 |map (b:Nat)
 |nilmap
 |fn (f:FuncId) (first caps:List V)
 |yield (l:Nat)
 |nilfn
 |iface (t:TypeId) (v:V)
 |niliface
 |stamp (n:Nat)
def JV{α:Type}(a:α):Option (List α)→Option (List α)
 |some l=>sO (a::l)
 |none=>nO
theorem KI{α:Type}{a:α}{x:Option (List α)}{r:List α}(h:JV a x=sO r):∃q,x=sO q∧r=a::q:=by
 cases x with
 |none=>cases h
 |some q=>simp[JV]at h;exact⟨q,rfl,h.symm⟩
def ZnL{α:Type}(n:Nat)(x y:List α):List α :=
 Nat.rec (motive:=fun _=>List α→List α) (fun _=>y) (fun _ ih l=>match l with
  | []=>y
  |a::t=>a::ih t) n x
theorem Zge{α:Type}:∀{n:Nat} {x y:List α},x.length=n→ZnL n x y=x++y
 |0,[],y,_=>rfl
 |0,a::x,y,h=>by grind
 |n+1,[],y,h=>by grind
 |n+1,a::x,y,h=>congrArg (a::·) (Zge (n:=n) (x:=x) (y:=y) (by grind))
def Zg6{α:Type}(n:Nat):List α→Option α :=
 Nat.rec (motive:=fun _=>List α→Option α) (fun l=>match l with
  | []=>nO
  |a::_=>sO a) (fun _ ih l=>match l with
  | []=>nO
  |_::t=>ih t) n
theorem ZjU{α:Type}:∀(n:Nat) (l:List α),Zg6 n l=l[n]?
 |0,[]=>rfl
 |0,a::l=>rfl
 |n+1,[]=>rfl
 |n+1,a::l=>(ZjU n l).trans (by simp)
def Zbt{α:Type}(n:Nat):List α→List α :=
 Nat.rec (motive:=fun _=>List α→List α) (fun l=>l) (fun _ ih l=>match l with
  | []=>[]
  |_::t=>ih t) n
theorem Ju{α:Type}:∀(n:Nat) (l:List α),Zbt n l=l.drop n
 |0,l=>rfl
 |n+1,[]=>rfl
 |n+1,a::l=>(Ju n l).trans (by simp)
def Za6{α:Type}(n:Nat):List α→Option (List α) :=
 Nat.rec (motive:=fun _=>List α→Option (List α)) (fun _=>sO []) (fun _ ih l=>match l with
  | []=>nO
  |a::t=>JV a (ih t)) n
theorem J3{α:Type}:∀{n:Nat} {l r:List α},Za6 n l=sO r→n≤l.length∧r=l.take n
 |0,l,r,h=>by
  have h':sO []=sO r:=h
  grind
 |n+1,[],r,h=>by
  have h':(nO:Option (List α))=sO r:=h
  simp at h'
 |n+1,a::l,r,h=>by
  obtain⟨q,hx,rfl⟩:=KI (show JV a (Za6 n l)=sO r from h)
  obtain⟨h1,h2⟩:=J3 hx
  grind
def Zqd{α:Type}(o n:Nat)(l:List α):Option (List α):=match Nat.ble 1 n with
 |true=>Za6 n (Zbt o l)
 |false=>nO
theorem ZxX{α:Type}{o n:Nat}{l r:List α}(h:Zqd o n l=sO r):o+n≤l.length∧r=(l.drop o).take n:=by
 unfold Zqd at h
 split at h
 ·rename_i hn
  rw[Nat.ble_eq]at hn
  rw[Ju]at h
  obtain⟨h1,h2⟩:=J3 h
  grind
 grind
def ZuS{α:Type}(n:Nat):List α→List α→Option (List α) :=
 Nat.rec (motive:=fun _=>List α→List α→Option (List α)) (fun xs l=>match xs with
  | []=>sO l
  |_::_=>nO) (fun _ ih xs l=>match xs with
  | []=>nO
  |x::xs=>match l with
   | []=>nO
   |_::t=>JV x (ih xs t)) n
def Zjc{α:Type}(o n:Nat)(xs:List α):List α→Option (List α) :=
 Nat.rec (motive:=fun _=>List α→Option (List α)) (fun l=>ZuS n xs l) (fun _ ih l=>match l with
  | []=>nO
  |a::t=>JV a (ih t)) o
theorem ZrL{α:Type}:∀{n:Nat} {xs l r:List α},ZuS n xs l=sO r→xs.length=n∧n≤l.length∧r=xs++l.drop n
 |0,[],l,r,h=>by
  have h':sO l=sO r:=h
  simp_all
 |0,x::xs,l,r,h=>by
  have h':(nO:Option (List α))=sO r:=h
  simp at h'
 |n+1,[],l,r,h=>by
  have h':(nO:Option (List α))=sO r:=h
  simp at h'
 |n+1,x::xs,[],r,h=>by
  have h':(nO:Option (List α))=sO r:=h
  simp at h'
 |n+1,x::xs,a::l,r,h=>by
  obtain⟨q,hx,rfl⟩:=KI (show JV x (ZuS n xs l)=sO r from h)
  obtain⟨h1,h2,h3⟩:=ZrL hx
  subst h3
  simp[h1,h2]
theorem Zoj{α:Type}:∀{o n:Nat} {xs l r:List α},Zjc o n xs l=sO r→xs.length=n∧o+n≤l.length∧r=l.take o++xs++l.drop (o+n)
 |0,n,xs,l,r,h=>by
  obtain⟨h1,h2,h3⟩:=ZrL (n:=n) (xs:=xs) (l:=l) (r:=r) h
  grind
 |o+1,n,xs,[],r,h=>by
  have h':(nO:Option (List α))=sO r:=h
  simp at h'
 |o+1,n,xs,a::l,r,h=>by
  obtain⟨q,hx,rfl⟩:=KI (show JV a (Zjc o n xs l)=sO r from h)
  obtain⟨h1,h2,h3⟩:=Zoj hx
  grind
structure Bx(α:Type) where
 run:α
structure N8(α:Type) where
 a:α
 b:α
 c:α
 d:α
 e:α
 f:α
 g:α
 h:α
def N8.all{α:Type}(x:α):N8 α:=⟨x,x,x,x,x,x,x,x⟩
def ZbE{α:Type}:Nat→Bx (N8 α→α)
 |0=>⟨fun t=>t.a⟩
 |1=>⟨fun t=>t.b⟩
 |2=>⟨fun t=>t.c⟩
 |3=>⟨fun t=>t.d⟩
 |4=>⟨fun t=>t.e⟩
 |5=>⟨fun t=>t.f⟩
 |6=>⟨fun t=>t.g⟩
 |_=>⟨fun t=>t.h⟩
def ZiH{α:Type}:Nat→Bx ((α→α)→N8 α→N8 α)
 |0=>⟨fun u t=>N8.casesOn t fun a b c d e f g h=>⟨u a,b,c,d,e,f,g,h⟩⟩
 |1=>⟨fun u t=>N8.casesOn t fun a b c d e f g h=>⟨a,u b,c,d,e,f,g,h⟩⟩
 |2=>⟨fun u t=>N8.casesOn t fun a b c d e f g h=>⟨a,b,u c,d,e,f,g,h⟩⟩
 |3=>⟨fun u t=>N8.casesOn t fun a b c d e f g h=>⟨a,b,c,u d,e,f,g,h⟩⟩
 |4=>⟨fun u t=>N8.casesOn t fun a b c d e f g h=>⟨a,b,c,d,u e,f,g,h⟩⟩
 |5=>⟨fun u t=>N8.casesOn t fun a b c d e f g h=>⟨a,b,c,d,e,u f,g,h⟩⟩
 |6=>⟨fun u t=>N8.casesOn t fun a b c d e f g h=>⟨a,b,c,d,e,f,u g,h⟩⟩
 |_=>⟨fun u t=>N8.casesOn t fun a b c d e f g h=>⟨a,b,c,d,e,f,g,u h⟩⟩
abbrev T(α:Type):=N8 (N8 (N8 (N8 (N8 (Option α)))))
def T.nil{α:Type}:T α:=N8.all (N8.all (N8.all (N8.all (N8.all nO))))
def T.getF{α:Type}(k:Nat):Bx (T α→Option α) :=
 match Nat.blt k 32768 with
 |true=>⟨fun t=>(ZbE (Nat.mod k 8)).run ((ZbE (Nat.mod (Nat.div k 8) 8)).run ((ZbE (Nat.mod (Nat.div k 64) 8)).run ((ZbE (Nat.mod (Nat.div k 512) 8)).run ((ZbE (Nat.mod (Nat.div k 4096) 8)).run t))))⟩
 |false=>⟨fun _=>nO⟩
def T.setF{α:Type}(k:Nat):Bx (Option α→T α→T α) :=
 match Nat.blt k 32768 with
 |true=>⟨fun x=>(ZiH (Nat.mod (Nat.div k 4096) 8)).run ((ZiH (Nat.mod (Nat.div k 512) 8)).run ((ZiH (Nat.mod (Nat.div k 64) 8)).run ((ZiH (Nat.mod (Nat.div k 8) 8)).run ((ZiH (Nat.mod k 8)).run fun _=>x))))⟩
 |false=>⟨fun _ t=>t⟩
def T.get{α:Type}(t:T α)(k:Nat):Option α:=(T.getF k).run t
def T.set{α:Type}(x:Option α)(t:T α)(k:Nat):T α:=(T.setF k).run x t
theorem ZyW{α:Type}{u:α→α}{t:N8 α}:∀{i j:Nat},i<8→j<8→(ZbE i).run ((ZiH j).run u t)=if i=j then u ((ZbE i).run t) else (ZbE i).run t:=by
 intro i j hi hj
 have c:∀i:Fin 8,∀j:Fin 8,(ZbE i.val).run ((ZiH j.val).run u t)=if i.val=j.val then u ((ZbE i.val).run t) else (ZbE i.val).run t:=by
  intro i j
  rcases i with _|_|_|_|_|_|_|_|i<;>(try omega)<;>rcases j with _|_|_|_|_|_|_|_|j<;>(try omega)<;>rfl
 exact c ⟨i,hi⟩ ⟨j,hj⟩
theorem T.get_set{α:Type}{x:Option α}{a:α}{t:T α}{k k':Nat}(h:(t.set x k).get k'=sO a):(k'=k∧x=sO a)∨(k'≠k∧t.get k'=sO a):=by
 unfold T.get at h⊢
 cases hb:Nat.blt k' 32768 with
 |false=>simp[T.getF,hb]at h
 |true =>
 have c:=hb
 simp at c
 unfold T.set T.setF at h
 split at h
 ·rename_i hk
  simp at hk
  have m (n:Nat):Nat.mod n 8<8:=Nat.mod_lt _ (by omega)
  have dp:∀{β:Type} {u:β→β} {t:N8 β} (n n':Nat),(ZbE (Nat.mod n 8)).run ((ZiH (Nat.mod n' 8)).run u t)=if Nat.mod n 8=Nat.mod n' 8 then u ((ZbE (Nat.mod n 8)).run t) else (ZbE (Nat.mod n 8)).run t:=fun n n'=>ZyW (m n) (m n')
  simp[T.getF,hb]at h⊢
  rw[dp]at h
  by_cases h5:Nat.mod (Nat.div k' 4096) 8=Nat.mod (Nat.div k 4096) 8
  ·rw[if_pos h5,dp]at h
   by_cases h4:Nat.mod (Nat.div k' 512) 8=Nat.mod (Nat.div k 512) 8
   ·rw[if_pos h4,dp]at h
    by_cases h3:Nat.mod (Nat.div k' 64) 8=Nat.mod (Nat.div k 64) 8
    ·rw[if_pos h3,dp]at h
     by_cases h2:Nat.mod (Nat.div k' 8) 8=Nat.mod (Nat.div k 8) 8
     ·rw[if_pos h2,dp]at h
      by_cases h1:Nat.mod k' 8=Nat.mod k 8
      ·rw[if_pos h1]at h
       refine .inl ⟨?_,h⟩
       have e1 (a b:Nat):Nat.mod a b=a % b:=rfl
       have e2 (a b:Nat):Nat.div a b=a / b:=rfl
       simp[e1,e2]at h1 h2 h3 h4 h5
       omega
      rw[if_neg h1]at h;exact .inr ⟨fun e=>h1 (by rw[e]),h⟩
     rw[if_neg h2]at h;exact .inr ⟨fun e=>h2 (by rw[e]),h⟩
    rw[if_neg h3]at h;exact .inr ⟨fun e=>h3 (by rw[e]),h⟩
   rw[if_neg h4]at h;exact .inr ⟨fun e=>h4 (by rw[e]),h⟩
  rw[if_neg h5]at h;exact .inr ⟨fun e=>h5 (by rw[e]),h⟩
 by_cases e:k'=k
 ·simp_all
 exact .inr ⟨e,h⟩
theorem T.get_nil{α:Type}{k:Nat}:(T.nil:T α).get k=nO:=by
 have this:∀{β:Type} (x:β) (n:Nat),(ZbE n).run (N8.all x)=x:=fun x n=>by
  rcases n with _|_|_|_|_|_|_|n<;>rfl
 unfold T.get T.getF
 split
 ·simp[T.nil,this]
 rfl
mutual
def ofD:D→Option V
 |.int k n=>sO (.int k n)
 |.bool b=>sO (.bool b)
 |.str s=>sO (.str (s.map UInt8.toNat))
 |.agg cs=>(ofDs cs).map .agg
 |.nilsl=>sO .nilsl
 |.nilptr=>sO .nilptr
 |.nilmap=>sO .nilmap
 |.fn (.func f) [] []=>sO (.fn f [] [])
 |.nilfn=>sO .nilfn
 |.niliface=>sO .niliface
 |.ep cs o=>(ofDs cs).map (.ep · o)
 |_=>nO
def ofDs:List D→Option (List V)
 | []=>sO []
 |d::r=>match ofD d,ofDs r with
  |some v,sO vs=>sO (v::vs)
  |_,_=>nO
end
def leI:Int→Int→Bool
 |.ofNat a,b=>match b with
  |.ofNat b=>Nat.ble a b
  |.negSucc _=>false
 |.negSucc a,b=>match b with
  |.ofNat _=>true
  |.negSucc b=>Nat.ble b a
def eqI:Int→Int→Bool
 |.ofNat a,b=>match b with
  |.ofNat b=>Nat.beq a b
  |.negSucc _=>false
 |.negSucc a,b=>match b with
  |.ofNat _=>false
  |.negSucc b=>Nat.beq a b
theorem Zgs(a b:Int):leI a b=dC (a≤b):=by
 rw[Bool.eq_iff_iff,decide_eq_true_eq]
 cases a<;>cases b<;>simp[leI]<;>omega
theorem Zif(a b:Int):eqI a b=dC (a=b):=by
 rw[Bool.eq_iff_iff,decide_eq_true_eq]
 cases a<;>cases b<;>simp[eqI]<;>omega
def Zyk:IntKind→Nat
 |.i8=>127|.i16=>32767|.i32=>2147483647|.i64=>9223372036854775807
 |.u8=>255|.u16=>65535|.u32=>4294967295|.u64=>18446744073709551615
def ZuA(k:IntKind):Int→Bool
 |.ofNat n=>Nat.ble n (Zyk k)
 |.negSucc n=>k.signed&&Nat.ble n (Zyk k)
theorem Ztx{k:IntKind}{n:Int}(h:ZuA k n=true):inR k n:=by
 cases n<;>cases k<;>simp only[ZuA,Zyk,Nat.ble_eq,IntKind.signed,ZFh,ZFe,ZFn]at h <;>
  simp[inR,IntKind.min,IntKind.max,IntKind.signed,IntKind.bits]<;>omega
def ZfO(k:IntKind)(n:Int):Option V:=match ZuA k n with
 |true=>sO (.int k n)
 |false=>nO
def ZuH:IntKind→Nat
 |.i8=>0|.i16=>1|.i32=>2|.i64=>3|.u8=>4|.u16=>5|.u32=>6|.u64=>7
def Zfn(k k':IntKind):Bool:=Nat.beq (ZuH k) (ZuH k')
theorem Zex{k k':IntKind}(h:Zfn k k'=true):k=k':=by
 cases k<;>cases k'<;>first|rfl|(simp[Zfn,ZuH]at h)
def Zx1(op:BinOp):IntKind→Int→Int→Option V :=
 match op with
 |.add=>fun k a b=>ZfO k (Int.add a b)
 |.sub=>fun k a b=>ZfO k (Int.sub a b)
 |.mul=>fun k a b=>ZfO k (Int.mul a b)
 |.quo=>fun k a b=>match eqI b 0 with
  |true=>nO
  |false=>ZfO k (a.tdiv b)
 |.rem=>fun k a b=>match eqI b 0 with
  |true=>nO
  |false=>ZfO k (a.tmod b)
 |.and=>fun k a b=>sO (.int k (Zlf .and k a b))
 |.or=>fun k a b=>sO (.int k (Zlf .or k a b))
 |.xor=>fun k a b=>sO (.int k (Zlf .xor k a b))
 |.andNot=>fun k a b=>sO (.int k (Zlf .andNot k a b))
 |.eql=>fun _ a b=>sO (.bool (eqI a b))
 |.neq=>fun _ a b=>sO (.bool (!eqI a b))
 |.lss=>fun _ a b=>sO (.bool (!leI b a))
 |.leq=>fun _ a b=>sO (.bool (leI a b))
 |.gtr=>fun _ a b=>sO (.bool (!leI a b))
 |.geq=>fun _ a b=>sO (.bool (leI b a))
 |.shl=>fun k a b=>match leI 0 b with
  |true=>ZfO k (Zji k a b)
  |false=>nO
 |.shr=>fun k a b=>match leI 0 b with
  |true=>ZfO k (Zjj k a b)
  |false=>nO
def eqS:List Nat→List Nat→Bool
 | [],[]=>true
 |a::x,b::y=>if Nat.beq (a % 256) (b % 256) then eqS x y else false
 |_,_=>false
def Zc9:List Nat→List Nat→Bool
 |_,[]=>false
 | [],_::_=>true
 |a::x,b::y=>if Nat.blt (a % 256) (b % 256) then true else if Nat.beq (a % 256) (b % 256) then Zc9 x y else false
def Zx2(op:BinOp):List Nat→List Nat→Option V :=
 match op with
 |.add=>fun a b=>match Nat.ble (a.length+b.length) big with
  |true=>sO (.str (a++b))
  |false=>nO
 |.eql=>fun a b=>sO (.bool (eqS a b))
 |.neq=>fun a b=>sO (.bool (!eqS a b))
 |.lss=>fun a b=>sO (.bool (Zc9 a b))
 |.leq=>fun a b=>sO (.bool (Zc9 a b ||eqS a b))
 |.gtr=>fun a b=>sO (.bool (!(Zc9 a b ||eqS a b)))
 |.geq=>fun a b=>sO (.bool (!Zc9 a b))
 |_=>fun _ _=>nO
def Zj8:SK→V→V→Option Bool
 |.int,.int k a,.int k' b=>if Zfn k k' then sO (eqI a b) else nO
 |.str,.str a,.str b=>sO (eqS a b)
 |.bool,.bool a,.bool b=>sO (dC (a=b))
 |_,_,_=>nO
def Zgg(xs ys:List V):List (Nat×SK)→Option Bool
 | []=>sO true
 | (o,k)::r=>match xs[o]?,ys[o]? with
  |some x,sO y=>match Zj8 k x y,Zgg xs ys r with
   |some b,sO c=>sO (b&&c)
   |_,_=>nO
  |_,_=>nO
def ZdI:KP→V→V→Option Bool
 |.sc k,x,y=>Zj8 k x y
 |.st l,.agg xs,.agg ys=>if xs.length=l.length∧ys.length=l.length then Zgg xs ys l else nO
 |_,_,_=>nO
def Zqe:Zaf→V→V→Option Bool
 |.bool,.bool a,.bool b=>sO (dC (a=b))
 |.sl,.nilsl,.nilsl=>sO true
 |.sl,.sl _ n _ _,.nilsl=>if 0<n then sO false else nO
 |.sl,.msl _ _ _ _ _,.nilsl=>sO false
 |.map,.nilmap,.nilmap=>sO true
 |.map,.map _,.nilmap=>sO false
 |.fn,.nilfn,.nilfn=>sO true
 |.fn,.fn _ _ _,.nilfn=>sO false
 |.fn,.yield _,.nilfn=>sO false
 |.ifc,.niliface,.niliface=>sO true
 |.ifc,.iface _ _,.niliface=>sO false
 |.ptr,.nilptr,.nilptr=>sO true
 |.ptr,.ptr _ _,.nilptr=>sO false
 |.ptr,.ep _ _,.nilptr=>sO false
 |.cells l,.agg xs,.agg ys=>Zgg xs ys l
 |_,_,_=>nO
def Zsd:BinOp→Bool
 |.shl|.shr=>true
 |_=>false
def ZrU(op:BinOp)(p:Option Zaf):V→V→Option V :=
 match p with
 |none=>fun _ _=>nO
 |some p=>match op with
  |.eql=>fun x y=>match Zqe p x y with
   |some b=>sO (.bool b)
   |none=>nO
  |.neq=>fun x y=>match Zqe p x y with
   |some b=>sO (.bool (!b))
   |none=>nO
  |_=>fun _ _=>nO
def ZrT(op:BinOp)(p:Option Zaf)(x y:V):Option V :=
 match x with
 |.int k a=>match y with
  |.int k' b=>match Zsd op ||Zfn k k' with
   |true=>Zx1 op k a b
   |false=>nO
  |_=>nO
 |.str a=>match y with
  |.str b=>Zx2 op a b
  |_=>nO
 |x=>ZrU op p x y
inductive W where
 |v (x:V)
 |loc (l off:Nat)
 |skip
inductive O where
 |cells (vs:List V)
 |buf (vs:List V)
 |map (es:List (V×V))
 |tok (k:Nat)
 |mapE (kp:KP) (es:List (V×V)) (k:V) (n:Nat)
 |loop (f:FuncId) (n:Nat) (ps:List Nat) (a b:DC) (ρ:T W) (st:Option DC) (busy:Bool)
 |dfr
 |ro (o:O)
abbrev S:=T O
def cellsO:O→Option (List V)
 |.cells vs=>sO vs
 |.buf vs=>sO vs
 |.ro o=>match o with
  |.cells vs=>sO vs
  |.buf vs=>sO vs
  |_=>nO
 |_=>nO
def ZaQ:Option O→Option (List V)
 |some o=>cellsO o
 |none=>nO
def mapO:Option O→Option (List (V×V))
 |some o=>match o with
  |.map es=>sO es
  |.ro o=>match o with
   |.map es=>sO es
   |_=>nO
  |_=>nO
 |none=>nO
def ZbG:O→Bool
 |.ro _=>true
 |_=>false
def Zmm(kp:KP)(k:V):List (V×V)→Option (Option V)
 | []=>sO nO
 |e::r=>match ZdI kp k e.1 with
  |some true=>sO (sO e.2)
  |some false=>Zmm kp k r
  |none=>nO
def Zov(kp:KP)(k v:V):List (V×V)→Option (List (V×V))
 | []=>sO [(k,v)]
 |e::r=>match ZdI kp k e.1 with
  |some true=>sO ((k,v)::r)
  |some false=>(Zov kp k v r).map (e::·)
  |none=>nO
def Zq4(kp:KP)(k:V):List (V×V)→Option (List (V×V))
 | []=>sO []
 |e::r=>match ZdI kp k e.1 with
  |some true=>sO r
  |some false=>(Zq4 kp k r).map (e::·)
  |none=>nO
def Zrc(kp:KP)(k z:V):List (V×V)→Option V
 | []=>sO z
 |e::r=>match ZdI kp k e.1 with
  |some true=>sO e.2
  |some false=>Zrc kp k z r
  |none=>nO
def Zqb(z:V)(ok:Bool):Option V→V
 |some v=>if ok then .tup [v,.bool true] else v
 |none=>if ok then .tup [z,.bool false] else z
def Ze4:V→List V
 |.agg cs=>cs
 |v=>[v]
def Znv:V→Bool
 |.tup _=>false
 |_=>true
def Zvo:V→Bool
 |.tup _|.agg _=>false
 |_=>true
def Zp7(cells:List V):List (Nat×Nat)→List V→Option (List V)
 | [],[]=>sO cells
 | (o,n)::ps,d::ds=>if Znv d then match Zjc o n (Ze4 d) cells with
  |some cs=>Zp7 cs ps ds
  |none=>nO
  else nO
 |_,_=>nO
def Zu6(s n:Nat):List V→Option (List V) :=
 Nat.rec (motive:=fun _=>List V→Option (List V)) (fun _=>sO []) (fun _ ih l=>match Za6 s l with
  |some r=>JV (.agg r) (ih (Zbt s l))
  |none=>nO) n
def Zmo(s:Nat)(n:Nat):List V→Option (List V) :=
 Nat.rec (motive:=fun _=>List V→Option (List V)) (fun _=>sO []) (fun _ ih l=>match l with
  |.agg cs::t=>match ih t with
   |some r=>sO (ZnL s cs r)
   |none=>nO
  |_=>nO) n
def Zl1:List V→Option (List Nat)
 | []=>sO []
 |.int .u8 n::r=>JV n.toNat (Zl1 r)
 |_::_=>nO
def ZqK:List V→Option (List Nat)
 | []=>sO []
 |.agg [.int .u8 n]::r=>JV n.toNat (ZqK r)
 |_::_=>nO
def JY:List Bool→List V→Option (List (Option Int))
 | [],[]=>sO []
 |true::bs,.int _ n::r=>(JY bs r).map (sO n::·)
 |false::bs,r=>(JY bs r).map (nO::·)
 |_,_=>nO
def Zvl(t n:Nat)(l h:Int):Option Int→Nat
 |some m=>if eqI m h then 1 else 0
 |none=>if eqI h n then (if Nat.beq t 1 then 1 else if eqI l 0 then t else 0) else 0
def ZAb(h:Int)(n:Nat):Option Int→Bool
 |some m=>leI h m&&leI m n
 |none=>true
def Zsf(s:Nat)(lo hi mx:Option Int):V→Option V
 |.sl t n s' rs =>
  if Nat.beq s' s&&leI 0 (lo.getD 0)&&leI (lo.getD 0) (hi.getD n)&&leI (hi.getD n) n&&ZAb (hi.getD n) n mx then
   match Za6 (Int.sub (hi.getD n) (lo.getD 0)).toNat (Zbt (lo.getD 0).toNat rs) with
   |some r=>sO (.sl (Zvl t n (lo.getD 0) (hi.getD n) mx) (Int.sub (hi.getD n) (lo.getD 0)).toNat s r)
   |none=>nO
  else nO
 |.nilsl=>if eqI (lo.getD 0) 0&&eqI (hi.getD 0) 0&&eqI (mx.getD 0) 0 then sO .nilsl else nO
 |.msl b o n cap s' =>
  if Nat.beq s' s&&leI 0 (lo.getD 0)&&leI (lo.getD 0) (hi.getD n) then match cap with
   |some cap=>if leI (hi.getD n) (mx.getD cap)&&leI (mx.getD cap) cap then
     sO (.msl b (if eqI (mx.getD cap) (lo.getD 0) then o else o+(lo.getD 0).toNat*s) (Int.sub (hi.getD n) (lo.getD 0)).toNat (sO (Int.sub (mx.getD cap) (lo.getD 0)).toNat) s) else nO
   |none=>if leI (hi.getD n) n&&(eqI (lo.getD 0) 0||!leI n (lo.getD 0)) then match mx with
    |none=>sO (.msl b (o+(lo.getD 0).toNat*s) (Int.sub (hi.getD n) (lo.getD 0)).toNat nO s)
    |some m=>if leI (hi.getD n) m&&leI m n then sO (.msl b (if eqI m (lo.getD 0) then o else o+(lo.getD 0).toNat*s) (Int.sub (hi.getD n) (lo.getD 0)).toNat (sO (Int.sub m (lo.getD 0)).toNat) s) else nO
    else nO
  else nO
 |_=>nO
def a1(vs:List V)(f:V→Option V):Option V:=match vs with
 | [x]=>f x
 |_=>nO
def a2(vs:List V)(f:V→V→Option V):Option V:=match vs with
 | [x,y]=>f x y
 |_=>nO
def Zjr(cs:List V)(o n:Nat):Option V:=match Zqd o n cs with
 |some r=>sO (.agg r)
 |none=>nO
def Zh6(σ:S)(b:Nat)(f:List V→Option V):Option V:=match ZaQ (σ.get b) with
 |some cs=>f cs
 |none=>nO
def Zfi(i:Int)(n:Nat)(r:Option V):Option V:=if leI 0 i&&!leI n i then r else nO
def noV{α:Type}(b:Bool)(r:Option α):Option α:=if b then r else nO
def qV:Q→S→List V→Option V
 |.mv=>fun _ vs=>a1 vs sO
 |.nilck=>fun _ vs=>a1 vs fun x=>match x with
  |.ep _ _=>sO x
  |.ptr _ _=>sO x
  |.fn _ _ _=>sO x
  |.yield _=>sO x
  |_=>nO
 |.load1=>fun σ vs=>a1 vs fun a=>match a with
  |.ep cs o=>Zg6 o cs
  |.ptr b o=>Zh6 σ b fun cs=>Zg6 o cs
  |_=>nO
 |.loadN n=>fun σ vs=>a1 vs fun a=>match a with
  |.ep cs o=>Zjr cs o n
  |.ptr b o=>Zh6 σ b fun cs=>Zjr cs o n
  |_=>nO
 |.bin op p=>fun _ vs=>a2 vs (ZrT op p)
 |.not=>fun _ vs=>a1 vs fun x=>match x with
  |.bool b=>sO (.bool !b)
  |_=>nO
 |.neg=>fun _ vs=>a1 vs fun x=>match x with
  |.int k n=>ZfO k (Int.neg n)
  |_=>nO
 |.xorm=>fun _ vs=>a1 vs fun x=>match x with
  |.int k n=>sO (.int k (Zlf .xor k (if k.signed then -1 else k.max) n))
  |_=>nO
 |.conv c=>match c with
  |.int k=>fun _ vs=>a1 vs fun x=>match x with
   |.int k' n=>sO (if k=k' then .int k n else .int k (k.wrap n))
   |_=>nO
  |.str=>fun _ vs=>a1 vs fun x=>match x with
   |.str s=>sO (.str s)
   |_=>nO
  |.i2s=>fun _ vs=>a1 vs fun x=>match x with
   |.int _ n=>noV (Nat.ble (Utf8.encode n).data.toList.length big) (sO (.str ((Utf8.encode n).data.toList.map UInt8.toNat)))
   |_=>nO
  |.b2s=>fun σ vs=>a1 vs fun x=>match x with
   |.nilsl=>sO (.str [])
   |.sl _ _ s rs=>noV (Nat.beq s 1) ((ZqK rs).map .str)
   |.msl b o n _ s=>noV (Nat.beq s 1) (Zh6 σ b fun cs=>noV (Nat.ble (o+n) cs.length) (match Za6 n (Zbt o cs) with
    |some r=>(Zl1 r).map .str
    |none=>nO))
   |_=>nO
 |.faddr off=>fun _ vs=>a1 vs fun x=>match x with
  |.ep cs o=>sO (.ep cs (o+off))
  |.ptr b o=>sO (.ptr b (o+off))
  |_=>nO
 |.fld1 off=>fun _ vs=>a1 vs fun x=>match x with
  |.agg cs=>Zg6 off cs
  |_=>nO
 |.fldN off n=>fun _ vs=>a1 vs fun x=>match x with
  |.agg cs=>Zjr cs off n
  |_=>nO
 |.iaddr z=>fun _ vs=>a2 vs fun x y=>match y with
  |.int _ i=>match x with
   |.sl _ n z' rs=>noV (Nat.beq z' z) (Zfi i n (match Zg6 i.toNat rs with
    |some (.agg cs)=>sO (.ep cs 0)
    |_=>nO))
   |.msl b o n _ z'=>noV (Nat.beq z' z) (Zfi i n (sO (.ptr b (o+i.toNat*z))))
   |_=>nO
  |_=>nO
 |.iaddrA m z=>fun _ vs=>a2 vs fun x y=>match y with
  |.int _ i=>match x with
   |.ptr b o=>Zfi i m (sO (.ptr b (o+i.toNat*z)))
   |.ep cs o=>Zfi i m (sO (.ep cs (o+i.toNat*z)))
   |_=>nO
  |_=>nO
 |.idxA m z one=>fun _ vs=>a2 vs fun x y=>match y with
  |.int _ i=>match x with
   |.agg cs=>Zfi i m (if one then Zg6 (i.toNat*z) cs else Zjr cs (i.toNat*z) z)
   |_=>nO
  |_=>nO
 |.sliceA m z lo hi mx=>fun _ vs=>match vs with
  |.ptr b o::r=>match JY [lo,hi,mx] r with
   |some [l,h,x]=>noV (leI 0 (l.getD 0)&&leI (l.getD 0) (h.getD m)&&leI (h.getD m) (x.getD m)&&leI (x.getD m) m&&Nat.ble m big)
     (sO (.msl b (if eqI (x.getD m) (l.getD 0) then o else o+(l.getD 0).toNat*z) (Int.sub (h.getD m) (l.getD 0)).toNat (sO (Int.sub (x.getD m) (l.getD 0)).toNat) z))
   |_=>nO
  |_=>nO
 |.idxS=>fun _ vs=>a2 vs fun x y=>match y with
  |.int _ i=>match x with
   |.str s=>Zfi i s.length (sO (.int .u8 (Int.ofNat (s.getD i.toNat 0 % 256))))
   |_=>nO
  |_=>nO
 |.lenS=>fun _ vs=>a1 vs fun x=>match x with
  |.str s=>sO (.int .i64 (Int.ofNat s.length))
  |_=>nO
 |.lenL=>fun _ vs=>a1 vs fun x=>match x with
  |.sl _ n _ _=>sO (.int .i64 (Int.ofNat n))
  |.msl _ _ n _ _=>sO (.int .i64 (Int.ofNat n))
  |.nilsl=>sO (.int .i64 (Int.ofNat 0))
  |_=>nO
 |.lenA n=>fun _ vs=>a1 vs fun _=>noV (Nat.ble n big) (sO (.int .i64 (Int.ofNat n)))
 |.ext k=>fun _ vs=>a1 vs fun x=>match x with
  |.tup vs=>Zg6 k vs
  |_=>nO
 |.build zero parts=>match ofDs zero with
  |some z=>fun _ es=>(Zp7 z parts es).map .agg
  |none=>fun _ _=>nO
 |.mkfn f k=>match f with
  |.func f=>fun _ es=>sO (.fn f (es.take k) (es.drop k))
  |_=>fun _ _=>nO
 |.mkif t=>fun _ vs=>a1 vs fun x=>sO (.iface t x)
 |.sliceS lo hi=>fun _ vs=>match vs with
  |.str s::r=>match JY [lo,hi,false] r with
   |some [l,h,_]=>noV (leI 0 (l.getD 0)&&leI (l.getD 0) (h.getD s.length)&&leI (h.getD s.length) s.length)
     (sO (.str ((s.drop (l.getD 0).toNat).take ((h.getD s.length).toNat-(l.getD 0).toNat))))
   |_=>nO
  |_=>nO
 |.slice s lo hi mx=>fun _ vs=>match vs with
  |x::r=>match JY [lo,hi,mx] r with
   |some [l,h,m]=>Zsf s l h m x
   |_=>nO
  |_=>nO
 |.min=>fun _ vs=>a2 vs fun x y=>match x with
  |.int k a=>match y with
   |.int k' b=>noV (Zfn k k') (sO (.int k (if leI a b then a else b)))
   |_=>nO
  |_=>nO
 |.max=>fun _ vs=>a2 vs fun x y=>match x with
  |.int k a=>match y with
   |.int k' b=>noV (Zfn k k') (sO (.int k (if leI a b then b else a)))
   |_=>nO
  |_=>nO
 |.tassert t ok zero=>match ok with
  |true=>fun _ vs=>a1 vs fun x=>match x with
   |.iface t' v=>noV (Nat.beq t' t) (sO (.tup [v,.bool true]))
   |.niliface=>(ofD zero).map fun z=>.tup [z,.bool false]
   |_=>nO
  |false=>fun _ vs=>a1 vs fun x=>match x with
   |.iface t' v=>noV (Nat.beq t' t) (sO v)
   |_=>nO
 |.lookup kp z ok=>match ofD z with
  |some z=>fun σ vs=>a2 vs fun m k=>noV (ZdI kp k k).isSome (match m with
   |.map b=>match mapO (σ.get b) with
    |some es=>(Zmm kp k es).map (Zqb z ok)
    |none=>nO
   |.nilmap=>sO (Zqb z ok nO)
   |_=>nO)
  |none=>fun _ _=>nO
 |.lenM=>fun σ vs=>a1 vs fun x=>match x with
  |.map b=>match mapO (σ.get b) with
   |some es=>noV (Nat.ble es.length big) (sO (.int .i64 (Int.ofNat es.length)))
   |_=>nO
  |.nilmap=>sO (.int .i64 (Int.ofNat 0))
  |_=>nO
abbrev Nm:=Nat→Option Tok
def Nm.Sub(η η':Nm):Prop:=∀k t,η k=sO t→η' k=sO t
theorem Nm.Sub.refl(η:Nm):η.Sub η:=fun _ _ h=>h
theorem Nm.Sub.trans{a b c:Nm}(h:a.Sub b)(h':b.Sub c):a.Sub c:=fun k t x=>h' k t (h k t x)
mutual
inductive VR(η:Nm):V→D→Prop where
 |int (k:IntKind) (n:Int):VR η (.int k n) (.int k n)
 |bool (b:Bool):VR η (.bool b) (.bool b)
 |str (s:List Nat):VR η (.str s) (.str (s.map UInt8.ofNat))
 |agg (cs:List V) (ds:List D) (h:VRs η cs ds):VR η (.agg cs) (.agg ds)
 |tup (cs:List V) (ds:List D) (h:VRs η cs ds):VR η (.tup cs) (.tup ds)
 |nilsl:VR η .nilsl .nilsl
 |sl (t n s:Nat) (rs:List V) (τ:Tok) (row:Nat→List D) (h:VRr η s rs row) (hn:rs.length=n) (ht:t=0∨η t=sO τ):VR η (.sl t n s rs) (.sl τ n s row)
 |ep (cs:List V) (o:Nat) (ds:List D) (h:VRs η cs ds):VR η (.ep cs o) (.ep ds o)
 |nilptr:VR η .nilptr .nilptr
 |ptr (k b o:Nat) (h:η k=sO (.tip b)):VR η (.ptr k o) (.ptr b o)
 |msl (k b o n cap s:Nat) (h:η k=sO (.tip b)):VR η (.msl k o n (sO cap) s) (.msl b o n cap s)
 |gsl (k b o n cap s c:Nat) (h:η k=sO (.tip b)) (h2:η (k+1)=sO (.tip c)) (hc:n≤cap) (hl:o+cap*s≤c):VR η (.msl k o n nO s) (.msl b o n cap s)
 |map (k b:Nat) (h:η k=sO (.tip b)):VR η (.map k) (.map b)
 |nilmap:VR η .nilmap .nilmap
 |fn (f:FuncId) (a c:List V) (da dc:List D) (ha:VRs η a da) (hc:VRs η c dc):VR η (.fn f a c) (.fn (.func f) da dc)
 |yield (k b:Nat) (h:η k=sO (.tip b)):VR η (.yield k) (.fn (.yield b) [] [])
 |nilfn:VR η .nilfn .nilfn
 |iface (t:TypeId) (v:V) (d:D) (h:VR η v d):VR η (.iface t v) (.iface t d)
 |niliface:VR η .niliface .niliface
 |stamp (k b:Nat) (h:η k=sO (.tip b)):VR η (.stamp k) (.stamp b)
inductive VRs(η:Nm):List V→List D→Prop where
 |nil:VRs η [] []
 |cons (v:V) (d:D) (vs:List V) (ds:List D) (h:VR η v d) (t:VRs η vs ds):VRs η (v::vs) (d::ds)
inductive VRr(η:Nm):Nat→List V→(Nat→List D)→Prop where
 |nil (s:Nat) (row:Nat→List D):VRr η s [] row
 |cons (s:Nat) (cs:List V) (rs:List V) (row:Nat→List D) (h:VRs η cs (row 0)) (hl:cs.length=s) (t:VRr η s rs (fun i=>row (i+1))):VRr η s (.agg cs::rs) row
end
mutual
theorem VR.mono{η η':Nm}(e:η.Sub η'):∀{v:V} {d:D},VR η v d→VR η' v d
 |_,_,.int k n=>.int k n
 |_,_,.bool b=>.bool b
 |_,_,.str s=>.str s
 |_,_,.agg cs ds h=>.agg cs ds (h.mono e)
 |_,_,.tup cs ds h=>.tup cs ds (h.mono e)
 |_,_,.nilsl=>.nilsl
 |_,_,.sl t n s rs τ row h hn ht=>.sl t n s rs τ row (h.mono e) hn (ht.imp id (e _ _))
 |_,_,.ep cs o ds h=>.ep cs o ds (h.mono e)
 |_,_,.nilptr=>.nilptr
 |_,_,.ptr k b o h=>.ptr k b o (e _ _ h)
 |_,_,.msl k b o n cap s h=>.msl k b o n cap s (e _ _ h)
 |_,_,.gsl k b o n cap s c h h2 hc hl=>.gsl k b o n cap s c (e _ _ h) (e _ _ h2) hc hl
 |_,_,.map k b h=>.map k b (e _ _ h)
 |_,_,.nilmap=>.nilmap
 |_,_,.fn f a c da dc ha hc=>.fn f a c da dc (ha.mono e) (hc.mono e)
 |_,_,.yield k b h=>.yield k b (e _ _ h)
 |_,_,.nilfn=>.nilfn
 |_,_,.iface t v d h=>.iface t v d (h.mono e)
 |_,_,.niliface=>.niliface
 |_,_,.stamp k b h=>.stamp k b (e _ _ h)
theorem VRs.mono{η η':Nm}(e:η.Sub η'):∀{v:List V} {d:List D},VRs η v d→VRs η' v d
 |_,_,.nil=>.nil
 |_,_,.cons v d vs ds h t=>.cons v d vs ds (h.mono e) (t.mono e)
theorem VRr.mono{η η':Nm}(e:η.Sub η'):∀{s:Nat} {v:List V} {r:Nat→List D},VRr η s v r→VRr η' s v r
 |_,_,_,.nil s row=>.nil s row
 |_,_,_,.cons s cs rs row h hl t=>.cons s cs rs row (h.mono e) hl (t.mono e)
end
section
variable {η:Nm}
theorem VRs.len:∀{vs:List V} {ds:List D},VRs η vs ds→vs.length=ds.length
 |_,_,.nil=>rfl
 |_,_,.cons _ _ _ _ _ t=>by simp[t.len]
theorem VRs.get:∀{vs:List V} {ds:List D},VRs η vs ds→∀{i:Nat} {v:V},vs[i]?=sO v→∃d,ds[i]?=sO d∧VR η v d
 |_,_,.nil,i,v,h=>by grind
 |_,_,.cons v d vs ds h t,0,v',h'=>by grind
 |_,_,.cons v d vs ds h t,i+1,v',h'=>by simp at h';simpa using t.get h'
theorem VRs.take:∀{vs:List V} {ds:List D},VRs η vs ds→∀n,VRs η (vs.take n) (ds.take n)
 |_,_,.nil,n=>by simp;exact .nil
 |_,_,.cons v d vs ds h t,0=>.nil
 |_,_,.cons v d vs ds h t,n+1=>.cons _ _ _ _ h (t.take n)
theorem VRs.drop:∀{vs:List V} {ds:List D},VRs η vs ds→∀n,VRs η (vs.drop n) (ds.drop n)
 |_,_,.nil,n=>by simp;exact .nil
 |_,_,.cons v d vs ds h t,0=>.cons _ _ _ _ h t
 |_,_,.cons v d vs ds h t,n+1=>t.drop n
theorem VRs.append:∀{vs vs':List V} {ds ds':List D},VRs η vs ds→VRs η vs' ds'→VRs η (vs++vs') (ds++ds')
 |_,_,_,_,.nil,h=>h
 |_,_,_,_,.cons v d vs ds h t,h'=>.cons _ _ _ _ h (t.append h')
theorem VRs.one{v:V}{d:D}(h:VR η v d):VRs η [v] [d]:=.cons _ _ _ _ h .nil
theorem VRs.inv{v:V}{vs:List V}(h:VRs η (v::vs) ds):∃d ds',ds=d::ds'∧VR η v d∧VRs η vs ds':=by
 cases h with
 |cons _ d _ ds h t=>exact⟨d,ds,rfl,h,t⟩
theorem VRs.inv0(h:VRs η [] ds):ds=[]:=by cases h;rfl
theorem VRs.inv1{v:V}(h:VRs η [v] ds):∃d,ds=[d]∧VR η v d:=by
 obtain⟨d,ds',rfl,h1,h2⟩:=h.inv
 obtain rfl:=h2.inv0
 grind
theorem VRs.inv2{v v':V}(h:VRs η [v,v'] ds):∃d d',ds=[d,d']∧VR η v d∧VR η v' d':=by
 obtain⟨d,ds',rfl,h1,h2⟩:=h.inv
 obtain⟨d',rfl,h'⟩:=h2.inv1
 grind
theorem VRs.partv{vs r:List V}(h:VRs η vs ds){o n:Nat}(hp:Zqd o n vs=sO r):o+n≤ds.length∧VRs η r (part ds o n):=by
 obtain⟨h1,rfl⟩:=ZxX hp
 exact⟨by rw[←h.len];exact h1,(h.drop o).take n⟩
theorem VRs.over{vs xs r:List V}{ds ys:List D}(h:VRs η vs ds)(hx:VRs η xs ys){o n:Nat}(hs:Zjc o n xs vs=sO r):xs.length=n∧o+n≤ds.length∧VRs η r (ZE ds o ys):=by
 obtain⟨h0,h1,rfl⟩:=Zoj hs
 refine⟨h0,by rw[←h.len];exact h1,?_⟩
 unfold ZE
 have e:ys.length=n:=by rw[←hx.len,h0]
 rw[e]
 exact((h.take o).append hx).append (h.drop _)
theorem VRr.inv{s:Nat}{v:V}{rs:List V}(h:VRr η s (v::rs) row):∃cs,v=.agg cs∧VRs η cs (row 0)∧cs.length=s∧VRr η s rs (fun i=>row (i+1)):=by
 cases h with
 |cons s cs rs row h hl t=>exact⟨cs,rfl,h,hl,t⟩
theorem VRr.get{s:Nat}:∀{rs:List V} {row:Nat→List D},VRr η s rs row→∀{i:Nat} {v:V},rs[i]?=sO v→∃cs,v=.agg cs∧VRs η cs (row i)∧cs.length=s
 | [],row,h,i,v,hv=>by grind
 |r::rs,row,h,0,v,hv=>by
  obtain⟨cs,rfl,h1,h2,_⟩:=h.inv
  grind
 |r::rs,row,h,i+1,v,hv=>by
  obtain⟨cs,rfl,h1,h2,h3⟩:=h.inv
  exact h3.get (by grind)
theorem VRr.congr{s:Nat}:∀{rs:List V} {row row':Nat→List D},VRr η s rs row→(∀i,i<rs.length→row' i=row i)→VRr η s rs row'
 | [],row,row',h,e=>.nil s row'
 |r::rs,row,row',h,e=>by
  obtain⟨cs,rfl,h1,h2,h3⟩:=h.inv
  exact .cons s cs rs row' (by grind) h2 (h3.congr fun i hi=>e (i+1) (by grind))
theorem VRr.drop{s:Nat}:∀{rs:List V} {row:Nat→List D},VRr η s rs row→∀k,VRr η s (rs.drop k) (fun i=>row (k+i))
 |rs,row,h,0=>by grind
 | [],row,h,k+1=>by simp;exact .nil s _
 |r::rs,row,h,k+1=>by
  obtain⟨cs,rfl,h1,h2,h3⟩:=h.inv
  have:=h3.drop k
  grind
theorem VRr.take{s:Nat}:∀{rs:List V} {row:Nat→List D},VRr η s rs row→∀k,VRr η s (rs.take k) row
 |rs,row,h,0=>by simp;exact .nil s _
 | [],row,h,k+1=>by grind
 |r::rs,row,h,k+1=>by
  obtain⟨cs,rfl,h1,h2,h3⟩:=h.inv
  exact .cons s cs _ row h1 h2 (h3.take k)
theorem VRr.append{s:Nat}:∀{rs rs':List V} {row row':Nat→List D},VRr η s rs row→VRr η s rs' row'→VRr η s (rs++rs') (YT rs.length row row')
 | [],rs',row,row',h,h'=>h'.congr fun i _=>by simp[YT]
 |r::rs,rs',row,row',h,h'=>by
  obtain⟨cs,rfl,h1,h2,h3⟩:=h.inv
  refine .cons s cs _ _ (by simpa[YT]using h1) h2 ((h3.append h').congr fun i _=>?_)
  grind [YT]
theorem VRr.bytes:∀{rs:List V} {row:Nat→List D} {l:List Nat},VRr η 1 rs row→ZqK rs=sO l→(∀i,i<rs.length→ZnY (row i))∧l.map UInt8.ofNat=(ZE4 rs.length).map fun i=>Zcy (row i)
 | [],row,l,h,hb=>by cases hb;simp
 |r::rs,row,l,h,hb=>by
  obtain⟨cs,rfl,h1,h2,h3⟩:=h.inv
  match cs,h1,h2,hb with
  | [.int .u8 n],h1,h2,hb =>
   obtain⟨q,hq,rfl⟩:=KI hb
   obtain⟨i1,i2⟩:=h3.bytes hq
   obtain⟨d,hd,hv⟩:=h1.inv1
   cases hv
   refine⟨fun i hi=>?_,?_⟩
   ·cases i with
    |zero=>exact⟨n,hd⟩
    |succ i=>exact i1 i (by grind)
   simp only[ZE7,ZE5,List.range_succ_eq_map,List.map_map,i2]
   refine _root_.congr (congrArg _ ?_) rfl
   rw[hd];rfl
theorem VRs.bytes:∀{vs:List V} {ds:List D} {l:List Nat},VRs η vs ds→Zl1 vs=sO l→(∀i,i<vs.length→ZnY (part ds i 1))∧l.map UInt8.ofNat=(ZE4 vs.length).map fun i=>Zcy (part ds i 1)
 | [],ds,l,h,hb=>by cases hb;simp
 |v::vs,ds,l,h,hb=>by
  obtain⟨d,ds',rfl,h1,h2⟩:=h.inv
  match v,h1,hb with
  |.int .u8 n,h1,hb =>
   obtain⟨q,hq,rfl⟩:=KI hb
   obtain⟨i1,i2⟩:=h2.bytes hq
   cases h1
   refine⟨fun i hi=>?_,?_⟩
   ·cases i with
    |zero=>exact⟨n,by simp[part]⟩
    |succ i=>simpa[part]using i1 i (by grind)
   simp only[ZE7,ZE5,List.range_succ_eq_map,List.map_map,i2]
   refine _root_.congr (congrArg _ ?_) ?_
   ·simp[part,Zcy]
   apply List.map_congr_left;intro i _;simp[part]
theorem ZkO(s:List UInt8):(s.map UInt8.toNat).map UInt8.ofNat=s:=by
 rw[List.map_map]
 conv=>rhs;rw[←List.map_id s]
 congr 1
 funext x;simp
mutual
theorem Zgt:∀{d:D} {v:V},ofD d=sO v→VR η v d
 |.int k n,v,h=>by cases h;exact .int k n
 |.bool b,v,h=>by cases h;exact .bool b
 |.str s,v,h=>by
  cases h
  have:=VR.str (η:=η) (s.map UInt8.toNat)
  rwa [ZkO]at this
 |.agg cs,v,h=>by
  simp[ofD]at h
  obtain⟨vs,h1,rfl⟩:=h
  exact .agg _ _ (ofDs_ok h1)
 |.nilsl,v,h=>by cases h;exact .nilsl
 |.nilptr,v,h=>by cases h;exact .nilptr
 |.nilmap,v,h=>by cases h;exact .nilmap
 |.fn (.func f) [] [],v,h=>by cases h;exact .fn f [] [] [] [] .nil .nil
 |.nilfn,v,h=>by cases h;exact .nilfn
 |.niliface,v,h=>by cases h;exact .niliface
 |.ep cs o,v,h=>by
  simp[ofD]at h
  obtain⟨vs,h1,rfl⟩:=h
  exact .ep _ _ _ (ofDs_ok h1)
 |.fn (.func f) (_::_) _,v,h=>by cases h
 |.fn (.func f) [] (_::_),v,h=>by cases h
 |.tup _,v,h|.sl _ _ _ _,v,h|.ptr _ _,v,h|.msl _ _ _ _ _,v,h|.map _,v,h|.fn (.yield _) _ _,v,h|.iface _ _,v,h|.stamp _,v,h|.undef,v,h|.any,v,h=>by cases h
 |.fn (.method ..) _ _,v,h|.fn (.methodOf ..) _ _,v,h|.fn (.via ..) _ _,v,h=>by cases h
theorem ofDs_ok:∀{ds:List D} {vs:List V},ofDs ds=sO vs→VRs η vs ds
 | [],vs,h=>by cases h;exact .nil
 |d::r,vs,h=>by
  simp[ofDs]at h
  split at h<;>simp at h
  rename_i v vs' h1 h2
  subst h
  exact .cons _ _ _ _ (Zgt h1) (ofDs_ok h2)
end
end
def ZnI:List Nat:=ZE4 32768
def ZAN(P:Program)(N id:Nat)(ops:Array Oper):Ann :=
 match Jt P N ops (ZE4 ops.size) with
 |some l =>
  let ds:=ops.toList.map JI
  match ZrK (l.zip ds) (Zfp ds []) ops.size (ZE4 ops.size) []with
  | (od,fl,fk)=>(id+1000000,od)::(id,ZnI)::(fl.map (fun x=>(id+1000000*(x.1+4),x.2))++(match fk with
   | []=>[]
   |_::_=>[(id+3000000,fk)]))
 |none=>[]
def ZfF(P:Program)(N:Nat):Code→Ann
 |.region id ops true=>ZAN P N id ops
 |.seq a b=>ZfF P N a++ZfF P N b
 |.cond _ a b=>ZfF P N a++ZfF P N b
 |.block _ a=>ZfF P N a
 |.loop a=>ZfF P N a
 |.scope a=>ZfF P N a
 |.rangeFunc _ _ a b=>ZfF P N a++ZfF P N b
 |_=>[]
def ZAM(P:Program)(f:FuncId):Ann :=
 match P.funcs[f]? with
 |some fn=>match fn.body with
  |some c=>ZfF P fn.ntmps c
  |none=>[]
 |none=>[]
structure Cx where
 P:Program
 lib:FuncId→Option (S→List V→Option V)
 mu:FuncId→Option Nat→Bool
def Cx.an(C:Cx)(f:FuncId):Ann:=ZAM C.P f
def Cx.df(C:Cx)(f:FuncId):Option DF:=cf C.P (C.an f) f
inductive Dd where
 |mark (q:Nat)
 |fn (i:FuncId) (args caps:List V)
inductive Fk where
 |fn (res:List RV)
 |rnd (l:Nat)
 |dfd (pd:Option V) (rec:Bool)
structure Fm where
 f:FuncId
 n:Nat
 k:Fk
 ds:List Dd
structure Out where
 pan:Bool
 v:V
 σ:S
 nx:Nat
abbrev Ih:=Fm→List Zi→T W→S→Nat→Option Out
def wV:Option W→Option V
 |some w=>match w with
  |.v x=>sO x
  |_=>nO
 |none=>nO
def YV:Opd→Bx (T W→Option V)
 |.cst d=>match ofD d with
  |some v=>⟨fun _=>sO v⟩
  |none=>⟨fun _=>nO⟩
 |.tmp t=>⟨fun ρ=>wV ((T.getF t).run ρ)⟩
def Zb9:List Opd→Bx (T W→Option (List V))
 | []=>⟨fun _=>sO []⟩
 |x::xs=>⟨fun ρ=>match (YV x).run ρ with
  |some v=>match (Zb9 xs).run ρ with
   |some vs=>sO (v::vs)
   |none=>nO
  |none=>nO⟩
def Zin:Option (Nat×Bool)→Bx (T W→Option Bool)
 |none=>⟨fun _=>sO true⟩
 |some (t,want)=>⟨fun ρ=>match (T.getF t).run ρ with
  |some w=>match w with
   |.v x=>match x with
    |.bool b=>sO (Za8 b want)
    |_=>nO
   |.skip=>sO false
   |_=>nO
  |none=>nO⟩
def Zcn:Option Nat→Bx (T W→W→T W)
 |some t=>⟨fun ρ w=>(T.setF t).run (sO w) ρ⟩
 |none=>⟨fun ρ _=>ρ⟩
def ZiD:Opd→Bx (T W→Bool)
 |.cst d=>match d with
  |.bool _=>⟨fun _=>true⟩
  |_=>⟨fun _=>false⟩
 |.tmp t=>⟨fun ρ=>match (T.getF t).run ρ with
  |some w=>match w with
   |.v x=>match x with
    |.bool _=>true
    |_=>false
   |.skip=>true
   |_=>false
  |none=>false⟩
def Zmx:Nat→List V→T W→T W
 |_,[],ρ=>ρ
 |i,v::vs,ρ=>Zmx (i+1) vs (ρ.set (sO (.v v)) i)
def ZeK:List Nat→List V→T W→T W
 |t::ts,a::as9,ρ=>ZeK ts as9 (ρ.set (sO (.v a)) t)
 |_,_,ρ=>ρ
def ZfR(zero:List V)(ps:List (Nat×V))(i:Nat):List V :=
 match ps with
 | []=>zero
 | (k,d)::r=>if Nat.beq k i then Ze4 d else ZfR zero r i
def ZjW(zero:List V)(ps:List (Nat×V)):Nat→Nat→List V
 |0,_=>[]
 |n+1,i=>.agg (ZfR zero ps i)::ZjW zero ps n (i+1)
def ZeI(s:Nat):List V→Bool
 | []=>true
 |d::r=>Znv d&&Nat.beq (Ze4 d).length s&&ZeI s r
def ZgL(z:List V):Nat→List V
 |0=>[]
 |n+1=>z++ZgL z n
def u8V(l:List Nat):List V:=l.map fun m=>.agg [.int .u8 (Int.ofNat (m % 256))]
def Zyi(σ:S)(s:Nat):V→Option (Nat×List V)
 |.nilsl=>sO (0,[])
 |.sl _ m s' rs=>noV (Nat.beq s' s) (sO (m,rs))
 |.str l=>noV (Nat.beq s 1) (sO (l.length,u8V l))
 |.msl b o n _ s'=>match ZaQ (σ.get b) with
  |some cs=>noV (Nat.beq s' s&&Nat.ble (o+n*s) cs.length) (match Zu6 s n (Zbt o cs) with
   |some rs=>sO (n,rs)
   |none=>nO)
  |none=>nO
 |_=>nO
def Zou(σ:S)(t k:Nat):Option S :=
 if Nat.beq t 1 then sO σ else match σ.get t with
  |some (.tok m)=>noV (Nat.beq m k) (sO (σ.set nO t))
  |_=>nO
def ZgH(σ:S)(a:V)(n:Nat)(xs:List V):Option S :=
 match a with
 |.ptr b o=>match σ.get b with
  |some (.cells cs)=>match Zjc o n xs cs with
   |some cs'=>sO (σ.set (sO (.cells cs')) b)
   |none=>nO
  |some (.buf cs)=>match Zjc o n xs cs with
   |some cs'=>sO (σ.set (sO (.buf cs')) b)
   |none=>nO
  |_=>nO
 |_=>nO
structure R3 where
 v:V
 σ:S
 nx:Nat
def Zh4(s:Nat)(σ:S)(nx m:Nat)(cs:List V):Option R3:=sO ⟨.msl nx 0 m nO s,σ.set (sO (.buf cs)) nx,nx+2⟩
def ZqE(s bytes:Nat)(σ:S)(nx m:Nat)(rs:List V):Option R3 :=
 noV (Nat.ble (m*bytes) 140737488355328&&Nat.ble m big) <|match Zmo s m rs with
  |some cs=>Zh4 s σ nx m cs
  |none=>nO
def ZqF(s bytes:Nat)(σ:S)(nx t n m:Nat)(rs rs2:List V):Option R3 :=
 noV (Nat.ble ((n+m)*bytes) 140737488355328&&Nat.ble (n+m) big) <|match Zou σ t (n*s) with
  |some σ'=>sO ⟨.sl nx (n+m) s (ZnL n rs rs2),σ'.set (sO (.tok ((n+m)*s))) nx,nx+1⟩
  |none=>nO
def Zxa(mu:Bool)(s bytes:Nat)(σ:S)(nx:Nat)(x:V)(m:Nat)(rs2:List V):Option R3 :=
 match x with
 |.nilsl=>if mu&&Nat.ble 1 m then ZqE s bytes σ nx m rs2 else ZqF s bytes σ nx 1 0 m [] rs2
 |.sl t n s' rs=>noV (Nat.beq s' s) <|if mu&&Nat.ble 1 m&&Nat.beq t 1&&Nat.beq n 0 then ZqE s bytes σ nx m rs2 else ZqF s bytes σ nx t n m rs rs2
 |.msl b o n cap s'=>noV (Nat.beq s' s&&Nat.ble ((n+m)*bytes) 140737488355328&&Nat.ble (n+m) big) <|match Zmo s m rs2 with
  |some cs2=>match cap with
   |none=>match σ.get b with
    |some (.buf cs)=>noV (Nat.beq o 0) <|match Za6 (n*s) cs with
     |some c1=>Zh4 s (σ.set nO b) nx (n+m) (ZnL (n*s) c1 cs2)
     |none=>nO
    |_=>nO
   |some cap=>match σ.get b with
    |some (.cells cs)=>if Nat.ble (n+m) cap then noV (Nat.beq o 0) <|match Zjc (n*s) (m*s) cs2 cs with
      |some cs'=>sO ⟨.msl b 0 (n+m) (sO cap) s,σ.set (sO (.cells cs')) b,nx⟩
      |none=>nO
     else noV (Nat.ble (o+n*s) cs.length) <|match Za6 (n*s) (Zbt o cs) with
      |some c1=>Zh4 s σ nx (n+m) (ZnL (n*s) c1 cs2)
      |none=>nO
    |_=>nO
  |none=>nO
 |_=>nO
def gk:K→Bool
 |.q _ _=>true
 |.pick _ _ _=>true
 |.bsl _ _ _ _ _=>true
 |.s2b _=>true
 |.append ..=>true
 |.clear ..=>true
 |_=>false
def mp2(x:Option V)(f:V→Option R3):Option R3:=match x with
 |some v=>f v
 |none=>nO
def up(x:Option S)(v:V)(nx:Nat):Option R3:=match x with
 |some σ=>sO ⟨v,σ,nx⟩
 |none=>nO
def ZAw:K→Bool
 |.store1 _ _=>true
 |.storeN _ _ _=>true
 |.mkmap=>true
 |_=>false
def opF(mu dst:Bool):K→Bx (T W→S→Nat→Option R3)
 |.q q xs=>⟨fun ρ σ nx=>match (Zb9 xs).run ρ with
  |some vs=>match (Bx.mk (qV q)).run σ vs with
   |some v=>sO ⟨v,σ,nx⟩
   |none=>nO
  |none=>nO⟩
 |.pick c a b=>⟨fun ρ σ nx=>mp2 ((YV c).run ρ) fun x=>match x with
  |.bool v=>match v with
   |true=>noV ((ZiD b).run ρ) (mp2 ((YV a).run ρ) fun y=>match y with
    |.bool y=>sO ⟨.bool y,σ,nx⟩
    |_=>nO)
   |false=>noV ((ZiD a).run ρ) (mp2 ((YV b).run ρ) fun y=>match y with
    |.bool y=>sO ⟨.bool y,σ,nx⟩
    |_=>nO)
  |_=>nO⟩
 |.alloc z=>match ofDs z with
  |some z=>⟨fun _ σ nx=>noV dst (sO ⟨.ptr nx 0,σ.set (sO (.cells z)) nx,nx+1⟩)⟩
  |none=>⟨fun _ _ _=>nO⟩
 |.box x=>⟨fun ρ σ nx=>noV dst (mp2 ((YV x).run ρ) fun v=>noV (Znv v) (sO ⟨.ptr nx 0,σ.set (sO (.cells (Ze4 v))) nx,nx+1⟩))⟩
 |.bsl len n z is xs=>match ofDs z with
  |some z=>⟨fun ρ σ nx=>match (Zb9 xs).run ρ with
   |some vs=>noV (ZeI n vs&&Nat.beq z.length n) (if mu&&dst&&Nat.ble 1 len then match Zmo n len (ZjW z (is.zip vs) len 0) with
     |some cs=>sO ⟨.msl nx 0 len (sO len) n,σ.set (sO (.cells cs)) nx,nx+1⟩
     |none=>nO
    else sO ⟨.sl 1 len n (ZjW z (is.zip vs) len 0),σ,nx⟩)
   |none=>nO⟩
  |none=>⟨fun _ _ _=>nO⟩
 |.s2b x=>⟨fun ρ σ nx=>mp2 ((YV x).run ρ) fun v=>match v with
  |.str l=>sO ⟨.sl 0 l.length 1 (u8V l),σ,nx⟩
  |_=>nO⟩
 |.store1 a v=>⟨fun ρ σ nx=>noV (!dst) (mp2 ((YV a).run ρ) fun a=>mp2 ((YV v).run ρ) fun x=>noV (Zvo x) (up (ZgH σ a 1 [x]) .nilsl nx))⟩
 |.storeN n a v=>⟨fun ρ σ nx=>noV (!dst) (mp2 ((YV a).run ρ) fun a=>mp2 ((YV v).run ρ) fun x=>match x with
  |.agg xs=>up (ZgH σ a n xs) .nilsl nx
  |_=>nO)⟩
 |.mkmap=>⟨fun _ σ nx=>noV dst (sO ⟨.map nx,σ.set (sO (.map [])) nx,nx+1⟩)⟩
 |.mkslice _ n bytes z l h=>match ofDs z with
  |some z=>⟨fun ρ σ nx=>noV dst (mp2 ((YV l).run ρ) fun l=>mp2 ((YV h).run ρ) fun h=>match l with
   |.int _ l=>match h with
    |.int _ h=>noV (leI 0 l&&leI l h&&leI (Int.mul bytes h) 140737488355328&&leI h big) (sO ⟨.msl nx 0 l.toNat (sO h.toNat) n,σ.set (sO (.cells (ZgL z h.toNat))) nx,nx+1⟩)
    |_=>nO
   |_=>nO)⟩
  |none=>⟨fun _ _ _=>nO⟩
 |.mapupd kp m k v=>⟨fun ρ σ nx=>noV (!dst) (mp2 ((YV m).run ρ) fun m=>mp2 ((YV k).run ρ) fun k=>mp2 ((YV v).run ρ) fun v=>match m with
  |.map b=>match σ.get b with
   |some (.map es)=>noV (ZdI kp k k).isSome (match Zov kp k v es with
    |some es'=>sO ⟨.nilsl,σ.set (sO (.map es')) b,nx⟩
    |none=>nO)
   |_=>nO
  |_=>nO)⟩
 |.delete kp m k=>⟨fun ρ σ nx=>noV (!dst) (mp2 ((YV m).run ρ) fun m=>mp2 ((YV k).run ρ) fun k=>match m with
  |.map b=>match σ.get b with
   |some (.map es)=>noV (ZdI kp k k).isSome (match Zq4 kp k es with
    |some es'=>sO ⟨.nilsl,σ.set (sO (.map es')) b,nx⟩
    |none=>nO)
   |_=>nO
  |_=>nO)⟩
 |.mapent kp z m k=>match ofD z with
  |some z=>⟨fun ρ σ nx=>noV dst (mp2 ((YV m).run ρ) fun m=>mp2 ((YV k).run ρ) fun k=>match m with
   |.map b=>match σ.get b with
    |some (.map es)=>noV (ZdI kp k k).isSome (match Zrc kp k z es with
     |some v=>sO ⟨.tup [v,.stamp nx],σ.set (sO (.mapE kp es k nx)) b,nx+1⟩
     |none=>nO)
    |_=>nO
   |_=>nO)⟩
  |none=>⟨fun _ _ _=>nO⟩
 |.entst m st v=>⟨fun ρ σ nx=>noV (!dst) (mp2 ((YV m).run ρ) fun m=>mp2 ((YV st).run ρ) fun st=>mp2 ((YV v).run ρ) fun v=>match m with
  |.map b=>match st with
   |.stamp n=>match σ.get b with
    |some (.mapE kp es k n')=>noV (Nat.beq n n') (match Zov kp k v es with
     |some es'=>sO ⟨.nilsl,σ.set (sO (.map es')) b,nx⟩
     |none=>nO)
    |_=>nO
   |_=>nO
  |_=>nO)⟩
 |.clear s z x=>match ofDs z with
  |some z=>⟨fun ρ σ nx=>mp2 ((YV x).run ρ) fun x=>match x with
   |.msl b o n _ s'=>noV (Nat.beq s' s) (up (ZgH σ (.ptr b o) (n*s) (ZgL z n)) (.tup []) nx)
   |_=>nO⟩
  |none=>⟨fun _ _ _=>nO⟩
 |.fork k=>match ZAw k with
  |true=>opF mu dst k
  |false=>⟨fun _ _ _=>nO⟩
 |.append _ s bytes _ x y=>⟨fun ρ σ nx=>mp2 ((YV x).run ρ) fun x=>mp2 ((YV y).run ρ) fun y=>match Zyi σ s y with
  |some (m,rs2)=>Zxa mu s bytes σ nx x m rs2
  |none=>nO⟩
 |_=>⟨fun _ _ _=>nO⟩
def rvV(ρ:T W)(σ:S):RV→Option V
 |.tmp t=>(YV (.tmp t)).run ρ
 |.cell1 t=>match (YV (.tmp t)).run ρ with
  |some a=>qV .load1 σ [a]
  |none=>nO
 |.cellN t n=>match (YV (.tmp t)).run ρ with
  |some a=>qV (.loadN n) σ [a]
  |none=>nO
def Zsb(ρ:T W)(σ:S):List RV→Option (List V)
 | []=>sO []
 |r::rs=>match rvV ρ σ r with
  |some v=>match Zsb ρ σ rs with
   |some vs=>sO (v::vs)
   |none=>nO
  |none=>nO
def mkV:List V→V
 | [v]=>v
 |vs=>.tup vs
def Zp5(C:Cx)(f:FuncId):Bx (Ih→List V→S→Nat→Option Out) :=
 match C.df f with
 |some df=>⟨fun ih args σ nx=>ih ⟨f,df.n,.fn df.res,[]⟩ [.code df.body] (Zmx 0 args T.nil) σ nx⟩
 |none=>⟨fun _ _ _ _=>nO⟩
def ZgT(C:Cx)(f:FuncId):Bx (Ih→List V→S→Nat→Option Out) :=
 match C.lib f with
 |some g=>⟨fun ih args σ nx=>match g σ args with
  |some v=>sO ⟨false,v,σ,nx⟩
  |none=>(Zp5 C f).run ih args σ nx⟩
 |none=>Zp5 C f
def Zl2(C:Cx)(ih:Ih)(f:V)(args:List V)(σ:S)(nx:Nat):Option Out :=
 match f with
 |.fn f first caps=>(ZgT C f).run ih (first++(args++caps)) σ nx
 |.yield l=>match σ.get l with
  |some (.loop f n ps a b ρ nO false)=>noV (Nat.beq args.length ps.length) (ih ⟨f,n,.rnd l,[]⟩ [.code a,.beginR,.code b] (ZeK ps args ρ) σ nx)
  |_=>nO
 |_=>nO
def Zu4:V→Bool
 |.int k n=>ZuA k n
 |.bool _=>true
 |.str l=>Nat.ble l.length big
 |.nilsl=>true
 |.nilptr=>true
 |.ptr _ _=>true
 |.map _=>true
 |.nilmap=>true
 |.nilfn=>true
 |.niliface=>true
 |_=>false
def Zj7:List V→Bool
 | []=>true
 |v::r=>Zu4 v&&Zj7 r
def Zu3:Option V→Bool
 |some x=>match x with
  |.iface _ v=>match v with
   |.agg cs=>Zj7 cs
   |v=>Zu4 v
  |_=>false
 |none=>true
def ZlJ(C:Cx)(ih:Ih):List Dd→Option V→S→Nat→Option (Option V×S×Nat)
 | [],m,σ,nx=>sO (m,σ,nx)
 |.mark q::r,m,σ,nx=>match σ.get q with
  |some .dfr=>ZlJ C ih r m (σ.set nO q) nx
  |_=>nO
 |.fn i args caps::r,m,σ,nx=>match C.df i with
  |some ⟨n,[],body⟩=>noV (Zu3 m) <|match ih ⟨i,n,.dfd m false,[]⟩ [.code body] (Zmx 0 (args++caps) T.nil) σ nx with
   |some ⟨false,.bool b,σ',nx'⟩=>ZlJ C ih r (if b then nO else m) σ' nx'
   |_=>nO
  |_=>nO
def loopTo(σ:S)(l:Nat)(st:Option DC)(now busy:Bool):Option S :=
 match σ.get l with
 |some (.loop f n ps a b ρ nO bs)=>noV (bs==now) (sO (σ.set (sO (.loop f n ps a b ρ st busy)) l))
 |_=>nO
def Zu2(C:Cx)(ih:Ih)(fm:Fm)(ρ:T W)(σ:S)(nx:Nat)(fell:Bool):Option Out :=
 match fm.k with
 |.fn res=>match ZlJ C ih fm.ds nO σ nx with
  |some (nO,σ',nx')=>match Zsb ρ σ' res with
   |some vs=>sO ⟨false,mkV vs,σ',nx'⟩
   |none=>nO
  |_=>nO
 |.rnd l=>match loopTo σ l (if fell then nO else sO .ret) true false with
  |some σ'=>sO ⟨false,.bool fell,σ',nx⟩
  |none=>nO
 |.dfd pd rec=>match fm.ds with
  | []=>sO ⟨false,.bool (pd.isNone ||rec),σ,nx⟩
  |_=>nO
def Zly(C:Cx)(ih:Ih)(fm:Fm)(ρ:T W)(v:V)(σ:S)(nx:Nat):Option Out :=
 match fm.k with
 |.fn res=>match ZlJ C ih fm.ds (sO v) σ nx with
  |some (nO,σ',nx')=>match Zsb ρ σ' res with
   |some vs=>sO ⟨false,mkV vs,σ',nx'⟩
   |none=>nO
  |some (sO v,σ',nx')=>sO ⟨true,v,σ',nx'⟩
  |none=>nO
 |.rnd _=>match C.P.funcs[fm.f]? with
  |some _=>sO ⟨true,v,σ,nx⟩
  |none=>nO
 |.dfd _ _=>nO
abbrev Rg:=Ih→List Zi→Fm→T W→S→Nat→Option Out
def goF(C:Cx)(f:FuncId)(rest:Bx Rg)(dst:Option Nat)(g:Option (Nat×Bool))(k:K):Bx Rg :=
 match k with
 |.call fx xs=>⟨fun ih dk fm ρ σ nx=>match (YV fx).run ρ with
  |some fv=>match (Zb9 xs).run ρ with
   |some vs=>match Zl2 C ih fv vs σ nx with
    |some ⟨pan,v,σ',nx'⟩=>match pan with
     |false=>rest.run ih dk fm ((Zcn dst).run ρ (.v v)) σ' nx'
     |true=>Zly C ih fm ρ v σ' nx'
    |none=>nO
   |none=>nO
  |none=>nO⟩
 |.panic x=>⟨fun ih _ fm ρ σ nx=>match (YV x).run ρ with
  |some (.iface t v)=>Zly C ih fm ρ (.iface t v) σ nx
  |_=>nO⟩
 |.defer fx xs=>match g,dst with
  |none,nO=>⟨fun ih dk fm ρ σ nx=>match (YV fx).run ρ,(Zb9 xs).run ρ with
   |some (.fn j first caps),sO vs=>match fm.k with
    |.fn _=>noV (Zj7 (first++vs)&&Zj7 caps) (rest.run ih dk { fm with ds:=.fn j (first++vs) caps::fm.ds } ρ σ nx)
    |_=>nO
   |_,_=>nO⟩
  |_,_=>⟨fun _ _ _ _ _ _=>nO⟩
 |.recover=>match g with
  |none=>⟨fun ih dk fm ρ σ nx=>match fm.k with
   |.dfd (sO v) false=>rest.run ih dk { fm with k:=.dfd (sO v) true } ((Zcn dst).run ρ (.v v)) σ nx
   |.dfd nO _=>rest.run ih dk fm ((Zcn dst).run ρ (.v .niliface)) σ nx
   |_=>nO⟩
  |_=>⟨fun _ _ _ _ _ _=>nO⟩
 |k=>match gk k ||g.isNone with
  |true=>⟨fun ih dk fm ρ σ nx=>match (opF (C.mu f dst) dst.isSome k).run ρ σ nx with
   |some ⟨v,σ',nx'⟩=>rest.run ih dk fm ((Zcn dst).run ρ (.v v)) σ' nx'
   |none=>nO⟩
  |false=>⟨fun _ _ _ _ _ _=>nO⟩
def Zoe(C:Cx)(f:FuncId):List DOp→Bx Rg
 | []=>⟨fun ih dk fm ρ σ nx=>ih fm dk ρ σ nx⟩
 |⟨dst,g,k⟩::os=>match g with
  |none=>goF C f (Zoe C f os) dst g k
  |some _=>⟨fun ih dk fm ρ σ nx=>match (Zin g).run ρ with
   |some b=>match b with
    |true=>(goF C f (Zoe C f os) dst g k).run ih dk fm ρ σ nx
    |false=>(Zoe C f os).run ih dk fm ((Zcn dst).run ρ .skip) σ nx
   |none=>nO⟩
def ZiB:K→Bool
 |.fork _=>false
 |_=>true
structure Rl where
 cs:List (Nat×List V)
 ad:List (Nat×Nat×Nat)
 bn:List (Nat×Nat)
 bl:List (Nat×Nat)
def Rl.nil:Rl:=⟨[],[],[],[]⟩
def Zij(u:Nat):List (Nat×Nat×Nat)→Option (Nat×Nat)
 | []=>nO
 | (t,a)::r=>if Nat.beq t u then sO a else Zij u r
def Kv(l:Nat):List (Nat×List V)→Option (List V)
 | []=>nO
 | (t,c)::r=>if Nat.beq t l then sO c else Kv l r
def Zjb(l:Nat)(vs:List V):List (Nat×List V)→List (Nat×List V)
 | []=>[]
 | (t,c)::r=>if Nat.beq t l then (t,vs)::r else (t,c)::Zjb l vs r
def ZfS(n:Nat):List Nat→Bool
 | []=>false
 |a::r=>if Nat.beq a n then true else ZfS n r
def Zw8(n:Nat)(l:List Nat):List Nat:=if ZfS n l then l else n::l
def ZlE(fl:List Nat):List (Nat×Nat)→List Nat
 | []=>[]
 | (t,n)::r=>if ZfS t fl then Zw8 n (ZlE fl r) else ZlE fl r
def Zfj(fl:List Nat):List (Nat×Nat)→List (Nat×Nat)
 | []=>[]
 | (t,n)::r=>if ZfS t fl then (t,n)::Zfj fl r else Zfj fl r
def noA(u:Nat)(r:Rl):Bool:=match Zij u r.ad with
 |none=>Nat.blt u 32768
 |some _=>false
def Zd3(dst:Option Nat)(r:Rl):Bool:=match dst with
 |none=>true
 |some t=>noA t r
def ZuO(t:Nat)(r:Rl):Bool:=(match Kv t r.cs with
 |none=>true
 |some _=>false)&&noA t r
def ZjY(fl:List Nat)(r:Rl):Rl:=match fl with
 | []=>⟨r.cs,r.ad,[],[]⟩
 |fl=>⟨r.cs,r.ad,Zfj fl r.bn,Zfj fl r.bl⟩
def ZiU:O→Bool
 |.cells _=>true
 |.buf _=>true
 |.map _=>true
 |_=>false
def ZiE:List Nat→S→Option (S×List (Nat×O))
 | [],σ=>sO (σ,[])
 |k::r,σ=>match σ.get k with
  |some o=>match ZiU o with
   |true=>match ZiE r (σ.set (sO (.ro o)) k) with
    |some (σ',l)=>sO (σ',(k,o)::l)
    |none=>nO
   |false=>match ZbG o with
    |true=>ZiE r σ
    |false=>nO
  |none=>nO
def ZjN:List (Nat×O)→S→Option S
 | [],σ=>sO σ
 | (k,o)::r,σ=>match σ.get k with
  |some (.ro _)=>match ZjN r σ with
   |some σ'=>sO (σ'.set (sO o) k)
   |none=>nO
  |_=>nO
def ZxU(fl:List Nat)(r:Rl)(σ:S):Option (S×List (Nat×O)):=match fl with
 | []=>sO (σ,[])
 |fl=>ZiE (ZlE fl r.bn) σ
def Zqx:Opd→Rl→Option (Nat×Nat)
 |.tmp t,r=>Zij t r.ad
 |.cst _,_=>nO
def Zyq(t:Nat)(v:V)(r:Rl):Rl:=match v with
 |.ptr k _=>⟨r.cs,r.ad,(t,k)::r.bn,r.bl⟩
 |.msl k _ _ _ _=>⟨r.cs,r.ad,(t,k)::r.bn,r.bl⟩
 |.map k=>⟨r.cs,r.ad,(t,k)::r.bn,r.bl⟩
 |_=>r
def rdR(t:Nat)(k:K):Bx (T W→Rl→Rl):=match k with
 |.q q xs=>match YY (.q q xs) with
  |true=>match xs with
   |x::_=>⟨fun ρ r=>match (YV x).run ρ with
    |some v=>Zyq t v r
    |none=>r⟩
   | []=>⟨fun _ r=>r⟩
  |false=>⟨fun _ r=>r⟩
 |_=>⟨fun _ r=>r⟩
abbrev RgD:=Rl→Rg
def ZiJ(rest:Bx RgD)(dst:Option Nat)(k:K):Bx RgD :=
 ⟨fun r ih dk fm ρ σ nx=>match (opF false dst.isSome k).run ρ σ nx with
  |some ⟨v,_,_⟩=>noV (Zd3 dst r) (rest.run ((rdR (dst.getD 0) k).run ρ r) ih dk fm ((Zcn dst).run ρ (.v v)) σ nx)
  |none=>nO⟩
def Zq8(C:Cx)(f:FuncId)(rest:Bx RgD)(dst:Option Nat)(g:Option (Nat×Bool))(fl:List Nat)(k:K):Bx RgD :=
 match gk k ||g.isNone with
 |true=>⟨fun r ih dk fm ρ σ nx=>match ZxU fl r σ with
  |some (σ0,l)=>match (opF (C.mu f dst) dst.isSome k).run ρ σ0 nx with
   |some ⟨v,σ',nx'⟩=>match ZjN l σ' with
    |some σ2=>noV (Zd3 dst r) (rest.run (ZjY fl r) ih dk fm ((Zcn dst).run ρ (.v v)) σ2 nx')
    |none=>nO
   |none=>nO
  |none=>nO⟩
 |false=>⟨fun _ _ _ _ _ _ _=>nO⟩
def adD(rest:Bx RgD)(dst:Option Nat)(l o:Nat):Bx RgD :=
 match dst with
 |some u=>⟨fun r ih dk fm ρ σ nx=>noV (noA u r) (rest.run ⟨r.cs,(u,l,o)::r.ad,r.bn,r.bl⟩ ih dk fm ((T.setF u).run nO ρ) σ nx)⟩
 |none=>⟨fun _ _ _ _ _ _ _=>nO⟩
def ZxK(rest:Bx RgD)(dst:Option Nat)(q:Q)(xs:List Opd):Bx (Nat→Nat→RgD) :=
 match q with
 |.mv=>match xs with
  | []=>⟨fun l o=>(adD rest dst l o).run⟩
  |_=>⟨fun _ _ _ _ _ _ _ _ _=>nO⟩
 |.nilck=>match xs with
  | []=>⟨fun l o=>(adD rest dst l o).run⟩
  |_=>⟨fun _ _ _ _ _ _ _ _ _=>nO⟩
 |.faddr off=>match xs with
  | []=>⟨fun l o=>(adD rest dst l (o+off)).run⟩
  |_=>⟨fun _ _ _ _ _ _ _ _ _=>nO⟩
 |.iaddrA m z=>match xs with
  | [x]=>⟨fun l o r ih dk fm ρ σ nx=>match (YV x).run ρ with
   |some (.int _ i)=>noV (leI 0 i&&!leI m i) ((adD rest dst l (o+i.toNat*z)).run r ih dk fm ρ σ nx)
   |_=>nO⟩
  |_=>⟨fun _ _ _ _ _ _ _ _ _=>nO⟩
 |.load1=>match xs with
  | []=>⟨fun l o r ih dk fm ρ σ nx=>match Kv l r.cs with
   |some cs=>match Zg6 o cs with
    |some v=>noV (Zd3 dst r) (rest.run ⟨r.cs,r.ad,r.bn,(dst.getD 0,l)::r.bl⟩ ih dk fm ((Zcn dst).run ρ (.v v)) σ nx)
    |none=>nO
   |none=>nO⟩
  |_=>⟨fun _ _ _ _ _ _ _ _ _=>nO⟩
 |.loadN n=>match xs with
  | []=>⟨fun l o r ih dk fm ρ σ nx=>match Kv l r.cs with
   |some cs=>match Zjr cs o n with
    |some v=>noV (Zd3 dst r) (rest.run ⟨r.cs,r.ad,r.bn,(dst.getD 0,l)::r.bl⟩ ih dk fm ((Zcn dst).run ρ (.v v)) σ nx)
    |none=>nO
   |none=>nO⟩
  |_=>⟨fun _ _ _ _ _ _ _ _ _=>nO⟩
 |_=>⟨fun _ _ _ _ _ _ _ _ _=>nO⟩
def Zsk(rest:Bx RgD)(fl:List Nat)(l o n:Nat)(xs:List V):RgD:=fun r ih dk fm ρ σ nx=>match Kv l r.cs with
 |some cs=>match Zjc o n xs cs with
  |some cs'=>noV (!ZfS l (ZlE fl r.bl)) (rest.run (ZjY fl ⟨Zjb l cs' r.cs,r.ad,r.bn,r.bl⟩) ih dk fm ρ σ nx)
  |none=>nO
 |none=>nO
def goD(C:Cx)(f:FuncId)(rest:Bx RgD)(dst:Option Nat)(g:Option (Nat×Bool))(fl:List Nat)(k:K):Bx RgD :=
 match k with
 |.call fx xs=>⟨fun r ih dk fm ρ σ nx=>match (YV fx).run ρ with
  |some fv=>match (Zb9 xs).run ρ with
   |some vs=>match ZxU fl r σ with
    |some (σ0,l)=>match Zl2 C ih fv vs σ0 nx with
     |some ⟨pan,v,σ',nx'⟩=>match ZjN l σ' with
      |some σ2=>match pan with
       |false=>noV (Zd3 dst r) (rest.run (ZjY fl r) ih dk fm ((Zcn dst).run ρ (.v v)) σ2 nx')
       |true=>Zly C ih fm T.nil v σ2 nx'
      |none=>nO
     |none=>nO
    |none=>nO
   |none=>nO
  |none=>nO⟩
 |.panic x=>⟨fun _ ih _ fm ρ σ nx=>match (YV x).run ρ with
  |some (.iface t v)=>Zly C ih fm T.nil (.iface t v) σ nx
  |_=>nO⟩
 |.defer _ _=>⟨fun _ _ _ _ _ _ _=>nO⟩
 |.recover=>⟨fun _ _ _ _ _ _ _=>nO⟩
 |.fork _=>⟨fun _ _ _ _ _ _ _=>nO⟩
 |.alloc z=>match g,dst,ofDs z with
  |none,sO t,sO z=>⟨fun r ih dk fm ρ σ nx=>noV (ZuO t r) (rest.run ⟨(t,z)::r.cs,(t,t,0)::r.ad,r.bn,r.bl⟩ ih dk fm ((T.setF t).run nO ρ) σ nx)⟩
  |_,_,_=>⟨fun _ _ _ _ _ _ _=>nO⟩
 |.box x=>match g,dst with
  |none,sO t=>⟨fun r ih dk fm ρ σ nx=>match (YV x).run ρ with
   |some v=>noV (Znv v&&ZuO t r&&!ZfS t (ZlE fl r.bl)) (rest.run (ZjY fl ⟨(t,Ze4 v)::r.cs,(t,t,0)::r.ad,r.bn,r.bl⟩) ih dk fm ((T.setF t).run nO ρ) σ nx)
   |none=>nO⟩
  |_,_=>⟨fun _ _ _ _ _ _ _=>nO⟩
 |.store1 a v=>match g,dst with
  |none,nO=>⟨fun r ih dk fm ρ σ nx=>match Zqx a r with
   |some (l,o)=>match (YV v).run ρ with
    |some x=>noV (Zvo x) (Zsk rest fl l o 1 [x] r ih dk fm ρ σ nx)
    |none=>nO
   |none=>(Zq8 C f rest dst g fl (.store1 a v)).run r ih dk fm ρ σ nx⟩
  |_,_=>⟨fun _ _ _ _ _ _ _=>nO⟩
 |.storeN n a v=>match g,dst with
  |none,nO=>⟨fun r ih dk fm ρ σ nx=>match Zqx a r with
   |some (l,o)=>match (YV v).run ρ with
    |some (.agg xs)=>Zsk rest fl l o n xs r ih dk fm ρ σ nx
    |_=>nO
   |none=>(Zq8 C f rest dst g fl (.storeN n a v)).run r ih dk fm ρ σ nx⟩
  |_,_=>⟨fun _ _ _ _ _ _ _=>nO⟩
 |.q q xs=>match xs with
  |x::ys=>⟨fun r ih dk fm ρ σ nx=>match Zqx x r with
   |some (l,o)=>(ZxK rest dst q ys).run l o r ih dk fm ρ σ nx
   |none=>(ZiJ rest dst (.q q xs)).run r ih dk fm ρ σ nx⟩
  | []=>ZiJ rest dst (.q q xs)
 |k=>match YH k with
  |true=>ZiJ rest dst k
  |false=>Zq8 C f rest dst g fl k
def ZmS:List (Nat×Nat×Nat)→Nat→Nat→T W→T W
 | [],_,_,ρ=>ρ
 | (u,l,o)::r,t,nx,ρ=>if Nat.beq l t then (ZmS r t nx ρ).set (sO (.v (.ptr nx o))) u else ZmS r t nx ρ
def Zrf:List (Nat×List V)→List (Nat×Nat×Nat)→Rg
 | [],_=>fun ih dk fm ρ σ nx=>ih fm dk ρ σ nx
 | (t,vs)::r,ad=>fun ih dk fm ρ σ nx=>match Zij t ad with
  |some (l,_)=>noV (Nat.beq l t) (Zrf r ad ih dk fm (ZmS ad t nx ρ) (σ.set (sO (.cells vs)) nx) (nx+1))
  |none=>nO
def Zj2(C:Cx)(f:FuncId):List (DOp×List Nat)→Bx RgD
 | []=>⟨fun r ih dk fm ρ σ nx=>Zrf r.cs r.ad ih dk fm ρ σ nx⟩
 | (⟨dst,g,k⟩,fl)::os=>match k with
  |.fork _=>⟨fun _ _ _ _ _ _ _=>nO⟩
  |k=>match g with
   |none=>goD C f (Zj2 C f os) dst g fl k
   |some _=>⟨fun r ih dk fm ρ σ nx=>match (Zin g).run ρ with
    |some b=>match b with
     |true=>(goD C f (Zj2 C f os) dst g fl k).run r ih dk fm ρ σ nx
     |false=>match k with
      |.alloc _=>nO
      |k=>noV (Zd3 dst r) ((Zj2 C f os).run (if YH k then r else ZjY fl r) ih dk fm ((Zcn dst).run ρ .skip) σ nx)
    |none=>nO⟩
abbrev Cd:=Ih→Fm→List Zi→T W→S→Nat→Option Out
def Zaq(C:Cx)(f:FuncId):DC→Bx Cd
 |.skip=>⟨fun ih fm k ρ σ nx=>ih fm k ρ σ nx⟩
 |.label _=>⟨fun ih fm k ρ σ nx=>ih fm k ρ σ nx⟩
 |.seq a b=>⟨fun ih fm k ρ σ nx=>(Zaq C f a).run ih fm (.code b::k) ρ σ nx⟩
 |.cond c a b=>⟨fun ih fm k ρ σ nx=>match (YV c).run ρ with
  |some v=>match v with
   |.bool t=>match t with
    |true=>(Zaq C f a).run ih fm k ρ σ nx
    |false=>(Zaq C f b).run ih fm k ρ σ nx
   |_=>nO
  |none=>nO⟩
 |.block id a=>⟨fun ih fm k ρ σ nx=>(Zaq C f a).run ih fm (.inBlock id::k) ρ σ nx⟩
 |.loop a=>⟨fun ih fm k ρ σ nx=>(Zaq C f a).run ih fm (.inLoop a::k) ρ σ nx⟩
 |.scope a=>⟨fun ih fm k ρ σ nx=>(Zaq C f a).run ih fm (.inScope a::k) ρ σ nx⟩
 |.exit id=>⟨fun ih fm k ρ σ nx=>match QS id k with
  |some k'=>ih fm k' ρ σ nx
  |none=>match fm.k with
   |.rnd l=>match loopTo σ l (sO (.exit id)) true false with
    |some σ'=>sO ⟨false,.bool false,σ',nx⟩
    |none=>nO
   |_=>nO⟩
 |.goto l=>⟨fun ih fm k ρ σ nx=>match Zc7 l k with
  |some k'=>ih fm k' ρ σ nx
  |none=>nO⟩
 |.ret=>⟨fun ih fm _ ρ σ nx=>Zu2 C ih fm ρ σ nx false⟩
 |.reg ops kp=>match kp with
  |none=>match ops.all fun o=>ZiB o.k with
   |true=>⟨fun ih fm k ρ σ nx=>(Zoe C f ops).run ih k fm ρ σ nx⟩
   |false=>⟨fun _ _ _ _ _ _=>nO⟩
  |some _=>⟨fun _ _ _ _ _ _=>nO⟩
 |.regD _ ops _=>⟨fun ih fm k ρ σ nx=>(Zj2 C f ops).run Rl.nil ih k fm ρ σ nx⟩
 |.rangeF g ps a b=>⟨fun ih fm k ρ σ nx=>match fm.k with
  |.fn _=>match (YV g).run ρ with
   |some fv=>match Zl2 C ih fv [.yield (nx+1)] ((σ.set (sO .dfr) nx).set (sO (.loop fm.f fm.n ps a b ρ nO false)) (nx+1)) (nx+2) with
    |some ⟨pan,v,σ',nx'⟩=>match pan with
     |false=>match σ'.get (nx+1) with
      |some (.loop _ _ _ _ _ _ nO false)=>ih { fm with ds:=.mark nx::fm.ds } k ρ (σ'.set nO (nx+1)) nx'
      |some (.loop f' n' _ _ _ _ (sO j) false)=>noV (Nat.beq f' fm.f&&Nat.beq n' fm.n) (ih { fm with ds:=.mark nx::fm.ds } (.code j::k) ρ (σ'.set nO (nx+1)) nx')
      |_=>nO
     |true=>Zly C ih { fm with ds:=.mark nx::fm.ds } ρ v σ' nx'
    |none=>nO
   |none=>nO
  |_=>nO⟩
def step(C:Cx)(ih:Ih)(fm:Fm)(dk:List Zi)(ρ:T W)(σ:S)(nx:Nat):Option Out :=
 match dk with
 | []=>Zu2 C ih fm ρ σ nx true
 |it::k=>match it with
  |.inBlock _=>ih fm k ρ σ nx
  |.inScope _=>ih fm k ρ σ nx
  |.inLoop c=>(Zaq C fm.f c).run ih fm (.inLoop c::k) ρ σ nx
  |.beginR=>match fm.k with
   |.rnd l=>match loopTo σ l nO false true with
    |some σ'=>ih fm k ρ σ' nx
    |none=>nO
   |_=>nO
  |.code c=>(Zaq C fm.f c).run ih fm k ρ σ nx
def run(C:Cx)(n:Nat):Ih:=Nat.rec (motive:=fun _=>Ih) (fun _ _ _ _ _=>nO) (fun _ ih=>step C ih) n
theorem Zyr(a b:Nat):UInt8.ofNat a=UInt8.ofNat b↔a % 256=b % 256:=by
 rw[←UInt8.toNat_inj];simp
theorem Zmf:∀(a b:List Nat),eqS a b=dC (a.map UInt8.ofNat=b.map UInt8.ofNat)
 | [],[]=>by simp[eqS]
 | [],b::y=>by simp[eqS]
 |a::x,[]=>by simp[eqS]
 |a::x,b::y=>by
  simp only[eqS,ZE7,List.cons.injEq,Zyr,Zmf x y]
  by_cases h:a % 256=b % 256<;>simp
theorem Zrw:∀(a b:List Nat),Zc9 a b=Op.bytesLess (a.map UInt8.ofNat) (b.map UInt8.ofNat)
 | [],[]=>by simp[Zc9,Op.bytesLess]
 | [],b::y=>by simp[Zc9,Op.bytesLess]
 |a::x,[]=>by simp[Zc9,Op.bytesLess]
 |a::x,b::y=>by
  have e1:(UInt8.ofNat a<UInt8.ofNat b)↔a % 256<b % 256:=by
   rw[UInt8.lt_iff_toNat_lt];simp
  have e2:=Zyr a b
  simp[Zc9,Op.bytesLess,Zrw x y]
  by_cases h1:a % 256<b % 256
  ·simp[h1,e1]
  by_cases h2:a % 256=b % 256
  ·simp[h2,e1,e2]
  simp[h2,e1,e2]
section
variable {η:Nm}
theorem Zm6{k:SK}{x y:V}{dx dy:D}(hx:VR η x dx)(hy:VR η y dy){b:Bool}(h:Zj8 k x y=sO b):Yo k dx dy=sO b:=by
 cases k<;>cases hx<;>cases hy<;>simp only[Zj8,reduceCtorEq]at h
 ·split at h<;>simp only[ZEP,reduceCtorEq]at h
  rename_i hk
  obtain rfl:=Zex hk
  simp only[Yo,if_true,ZEP]
  rw[←Zif];exact h
 ·simp only[ZEP]at h
  simp only[Yo,ZEP]
  rw[←Zmf];exact h
 simpa only[Yo]using h
theorem Zh7{xs ys:List V}{ds es:List D}(hx:VRs η xs ds)(hy:VRs η ys es):∀{l:List (Nat×SK)} {b:Bool},Zgg xs ys l=sO b→Ws ds es l=sO b
 | [],b,h=>by simpa only[Zgg,Ws]using h
 | (o,k)::r,b,h=>by
  simp only[Zgg]at h
  split at h<;>(try(simp at h;done))
  rename_i x y h1 h2
  split at h<;>simp only[ZEP,reduceCtorEq]at h
  rename_i b1 b2 h3 h4
  obtain⟨dx,i,c⟩:=hx.get h1
  obtain⟨dy,j,n⟩:=hy.get h2
  simp only[Ws,i,j,Zm6 c n h3,Zh7 hx hy h4,h]
theorem Za1{kp:KP}{x y:V}{dx dy:D}(hx:VR η x dx)(hy:VR η y dy){b:Bool}(h:ZdI kp x y=sO b):Kn kp dx dy=sO b:=by
 cases kp with
 |sc k=>exact Zm6 hx hy h
 |st l =>
  cases hx<;>cases hy<;>simp only[ZdI,reduceCtorEq]at h
  rename_i cs ds h1 cs' ds' h2
  split at h<;>(try(simp at h;done))
  rename_i hl
  simp only[Kn]
  rw[if_pos ⟨by rw[←h1.len];exact hl.1,by rw[←h2.len];exact hl.2⟩]
  exact Zh7 h1 h2 h
theorem Zfm{kp:KP}{x:V}{dx:D}(hx:VR η x dx)(h:(ZdI kp x x).isSome=true):Qo kp dx=true:=by
 cases hk:ZdI kp x x with
 |none=>rw[hk]at h;grind
 |some b=>simp[Qo,Za1 hx hx hk]
theorem ZrO{p:Zaf}{x y:V}{dx dy:D}(hx:VR η x dx)(hy:VR η y dy){b:Bool}(h:Zqe p x y=sO b):∃side,YN p dx dy=sO (side,b)∧side:=by
 cases p<;>cases hx<;>cases hy<;>simp only[Zqe,reduceCtorEq,ZEP]at h
 case cells.agg.agg l cs ds h1 cs' ds' h2=>exact⟨True,by simp[YN,Zh7 h1 h2 h],trivial⟩
 case sl.sl.nilsl t n s rs τ row h1 h2 h3 =>
  split at h<;>simp only[ZEP,reduceCtorEq]at h
  subst h
  exact⟨_,rfl,‹_›⟩
 all_goals (subst h;exact⟨True,rfl,trivial⟩)
theorem ZbT{k:IntKind}{n:Int}{v:V}(h:ZfO k n=sO v):v=.int k n∧inR k n:=by
 unfold ZfO at h
 split at h<;>simp at h
 exact⟨h.symm,Ztx ‹_›⟩
theorem Zze{op:BinOp}{k k':IntKind}{a b:Int}{v:V}(hk:Zsd op=true∨k=k')(h:Zx1 op k a b=sO v):∃side d,Zah op nO (.int k a) (.int k' b)=sO (side,d)∧side∧VR η v d:=by
 have c:Zsd op=false→k=k':=fun h=>hk.resolve_left (by rw[h];simp)
 cases op<;>simp only[Zx1]at h
 case shl =>
  split at h<;>(try(simp at h;done))
  rename_i h0
  obtain⟨rfl,hr⟩:=ZbT h
  rw[Zgs,decide_eq_true_eq]at h0
  exact⟨_,_,rfl,⟨h0,hr⟩,.int _ _⟩
 case shr =>
  split at h<;>(try(simp at h;done))
  rename_i h0
  obtain⟨rfl,hr⟩:=ZbT h
  rw[Zgs,decide_eq_true_eq]at h0
  exact⟨_,_,rfl,⟨h0,hr⟩,.int _ _⟩
 all_goals
  obtain rfl:=c rfl
  simp only[Zah,if_true,QX]
 case add=>obtain⟨rfl,hr⟩:=ZbT h;exact⟨_,_,rfl,hr,.int _ _⟩
 case sub=>obtain⟨rfl,hr⟩:=ZbT h;exact⟨_,_,rfl,hr,.int _ _⟩
 case mul=>obtain⟨rfl,hr⟩:=ZbT h;exact⟨_,_,rfl,hr,.int _ _⟩
 case quo =>
  split at h<;>(try(simp at h;done))
  rename_i h0
  obtain⟨rfl,hr⟩:=ZbT h
  rw[Zif,decide_eq_false_iff_not]at h0
  exact⟨_,_,rfl,⟨h0,hr⟩,.int _ _⟩
 case rem =>
  split at h<;>(try(simp at h;done))
  rename_i h0
  obtain⟨rfl,hr⟩:=ZbT h
  rw[Zif,decide_eq_false_iff_not]at h0
  exact⟨_,_,rfl,⟨h0,hr⟩,.int _ _⟩
 all_goals
  simp only[ZEP]at h
  subst h
  refine⟨_,_,rfl,trivial,?_⟩
  try simp only[Zif,Zgs]
 case lss=>rw[show(!dC (b≤a))=dC (a<b) by by_cases hh:a<b<;>simp[hh]<;>omega];exact .bool _
 case gtr=>rw[show(!dC (a≤b))=dC (b<a) by by_cases hh:b<a<;>simp[hh]<;>omega];exact .bool _
 case geq=>exact .bool _
 all_goals first|exact .bool _|exact .int _ _
theorem Zzg{op:BinOp}{a b:List Nat}{v:V}(h:Zx2 op a b=sO v):∃side d,ZdF op (a.map UInt8.ofNat) (b.map UInt8.ofNat)=sO (side,d)∧side∧VR η v d:=by
 cases op<;>simp only[Zx2,reduceCtorEq]at h
 case add =>
  split at h<;>simp at h
  rename_i hb
  subst h
  refine⟨_,_,rfl,by simpa using hb,?_⟩
  rw[←List.map_append];exact .str _
 all_goals
  cases h
  refine⟨_,_,rfl,trivial,?_⟩
  simp[Zmf,Zrw]
  exact .bool _
theorem Zzf{op:BinOp}{p:Option Zaf}{x y:V}{dx dy:D}(hx:VR η x dx)(hy:VR η y dy){v:V}(h:ZrU op p x y=sO v):∃side d,eqO op p dx dy=sO (side,d)∧side∧VR η v d:=by
 cases p with
 |none=>simp[ZrU]at h
 |some p =>
  cases op<;>simp only[ZrU,reduceCtorEq]at h
  case eql =>
   split at h<;>simp only[ZEP,reduceCtorEq]at h
   subst h
   obtain⟨side,h1,h2⟩:=ZrO hx hy ‹_›
   exact⟨side,_,by simp only[eqO,h1,ZFl],h2,.bool _⟩
  case neq =>
   split at h<;>simp only[ZEP,reduceCtorEq]at h
   subst h
   obtain⟨side,h1,h2⟩:=ZrO hx hy ‹_›
   exact⟨side,_,by simp only[eqO,h1,ZFl],h2,.bool _⟩
theorem Zzd{op:BinOp}{p:Option Zaf}{x y:V}{dx dy:D}(hx:VR η x dx)(hy:VR η y dy){v:V}(h:ZrT op p x y=sO v):∃side d,Zah op p dx dy=sO (side,d)∧side∧VR η v d:=by
 have c:(∀k a,dx≠.int k a)→(∀l,dx≠.str l)→ZrU op p x y=sO v→∃side d,Zah op p dx dy=sO (side,d)∧side∧VR η v d:=fun h1 h2 h3=>by
  obtain⟨side,d,e1,e2,e3⟩:=Zzf hx hy h3
  refine⟨side,d,?_,e2,e3⟩
  rw[←e1]
  cases dx<;>first|rfl|exact absurd rfl (h1 _ _)|exact absurd rfl (h2 _)
 cases hx
 case int k a =>
  cases hy<;>simp only[ZrT,reduceCtorEq]at h
  rename_i k' b
  split at h<;>(try(simp at h;done))
  rename_i hb
  rw[ZFb]at hb
  obtain⟨side,d,e1,e2,e3⟩:=Zze (η:=η) (k':=k') (hb.imp id Zex) h
  refine⟨side,d,?_,e2,e3⟩
  rw[←e1]
  rfl
 case str s =>
  cases hy<;>simp only[ZrT,reduceCtorEq]at h
  exact Zzg h
 all_goals exact c (fun _ _=>by simp) (fun _=>by simp) (by simpa only[ZrT]using h)
def MR(η:Nm)(e:V×V)(d:D×D):Prop:=VR η e.1 d.1∧VR η e.2 d.2
theorem MR.mono{η':Nm}(h:η.Sub η'){e:V×V}{d:D×D}(m:MR η e d):MR η' e d:=⟨m.1.mono h,m.2.mono h⟩
theorem Zrh{kp:KP}{k:V}{dk:D}(hk:VR η k dk):∀{es:List (V×V)} {ds:List (D×D)} {r:Option V},ZH (MR η) es ds→Zmm kp k es=sO r →
  ∃r',Zbv kp dk ds=sO r'∧(match r,r' with|some v,sO d=>VR η v d|none,nO=>True|_,_=>False)
 | [],ds,r,h,hf=>by
  cases h
  simp only[Zmm,ZEP]at hf
  subst hf
  exact⟨nO,rfl,trivial⟩
 |e::es,ds,r,h,hf=>by
  cases h with
  |cons h1 h2 =>
  simp only[Zmm]at hf
  split at hf<;>(try(simp at hf;done))
  ·rename_i hb
   simp only[ZEP]at hf
   subst hf
   exact⟨sO _,by simp only[Zbv,Za1 hk h1.1 hb],h1.2⟩
  rename_i hb
  obtain⟨r',e1,e2⟩:=Zrh hk h2 hf
  exact⟨r',by simp only[Zbv,Za1 hk h1.1 hb,e1],e2⟩
theorem Zow{kp:KP}{k v:V}{dk dv:D}(hk:VR η k dk)(hv:VR η v dv):∀{es r:List (V×V)} {ds:List (D×D)},ZH (MR η) es ds→Zov kp k v es=sO r →
  ∃r',J5 kp dk dv ds=sO r'∧ZH (MR η) r r'
 | [],r,ds,h,hf=>by
  cases h
  simp only[Zov,ZEP]at hf
  subst hf
  exact⟨_,rfl,.cons ⟨hk,hv⟩ .nil⟩
 |e::es,r,ds,h,hf=>by
  cases h with
  |cons h1 h2 =>
  simp only[Zov]at hf
  split at hf<;>(try(simp at hf;done))
  ·rename_i hb
   simp only[ZEP]at hf
   subst hf
   exact⟨(dk,dv)::_,by simp only[J5,Za1 hk h1.1 hb],.cons ⟨hk,hv⟩ h2⟩
  rename_i hb
  simp only[ZE3]at hf
  obtain⟨r0,hr,rfl⟩:=hf
  obtain⟨r',e1,e2⟩:=Zow hk hv h2 hr
  exact⟨_,by simp only[J5,Za1 hk h1.1 hb,e1,ZFl],.cons h1 e2⟩
theorem Zto{kp:KP}{k:V}{dk:D}(hk:VR η k dk):∀{es r:List (V×V)} {ds:List (D×D)},ZH (MR η) es ds→Zq4 kp k es=sO r →
  ∃r',ZfI kp dk ds=sO r'∧ZH (MR η) r r'
 | [],r,ds,h,hf=>by
  cases h
  simp only[Zq4,ZEP]at hf
  subst hf
  exact⟨_,rfl,.nil⟩
 |e::es,r,ds,h,hf=>by
  cases h with
  |cons h1 h2 =>
  simp only[Zq4]at hf
  split at hf<;>(try(simp at hf;done))
  ·rename_i hb
   simp only[ZEP]at hf
   subst hf
   exact⟨_,by simp only[ZfI,Za1 hk h1.1 hb],h2⟩
  rename_i hb
  simp only[ZE3]at hf
  obtain⟨r0,hr,rfl⟩:=hf
  obtain⟨r',e1,e2⟩:=Zto hk h2 hr
  exact⟨_,by simp only[ZfI,Za1 hk h1.1 hb,e1,ZFl],.cons h1 e2⟩
theorem Ztq{kp:KP}{k z:V}{dk dz:D}(hk:VR η k dk)(hz:VR η z dz):∀{es:List (V×V)} {ds:List (D×D)} {v:V},ZH (MR η) es ds→Zrc kp k z es=sO v →
  ∃d,ZdH kp dk dz ds=sO d∧VR η v d
 | [],ds,v,h,hf=>by
  cases h
  simp only[Zrc,ZEP]at hf
  subst hf
  exact⟨_,rfl,hz⟩
 |e::es,ds,v,h,hf=>by
  cases h with
  |cons h1 h2 =>
  simp only[Zrc]at hf
  split at hf<;>(try(simp at hf;done))
  ·rename_i hb
   simp only[ZEP]at hf
   subst hf
   exact⟨_,by simp only[ZdH,Za1 hk h1.1 hb],h1.2⟩
  rename_i hb
  obtain⟨d,e1,e2⟩:=Ztq hk hz h2 hf
  exact⟨d,by simp only[ZdH,Za1 hk h1.1 hb,e1],e2⟩
theorem Zry{z:V}{dz:D}(hz:VR η z dz){ok:Bool}{r:Option V}{r':Option D}(h:match r,r' with|some v,sO d=>VR η v d|none,nO=>True|_,_=>False):VR η (Zqb z ok r) (Wl dz ok r'):=by
 cases r<;>cases r'<;>simp only at h<;>cases ok<;>simp only[Zqb,Wl,if_true,if_false,ZFn]
 ·exact hz
 ·exact .tup _ _ (.cons _ _ _ _ hz (.one (.bool _)))
 ·exact h
 exact .tup _ _ (.cons _ _ _ _ h (.one (.bool _)))
end
def WR(η:Nm)(L:Loc):W→E→Prop
 |.v x,e=>∃d,VR η x d∧(e=.d d∨e=.when true (.d d))
 |.loc l o,e=>e=.loc l o∨e=.when true (.loc l o)
 |.skip,e=>e=.when false (.d (.bool false))
def Zz8(_:Loc):W→Bool
 |.loc _ _=>false
 |_=>true
def Z8(η:Nm)(L:Loc)(ρ:T W)(ρd:Env):Prop:=∀t w,ρ.get t=sO w→Zz8 L w=true→∃e,ZL ρd t=sO e∧WR η L w e
theorem Z8.anyL{η:Nm}{L L':Loc}{ρ:T W}{ρd:Env}(h:Z8 η L ρ ρd):Z8 η L' ρ ρd:=fun t w hw hl=>by
 cases w with
 |v x=>exact h t _ hw rfl
 |loc l o=>cases hl
 |skip=>exact h t _ hw rfl
structure Px extends Cx where
 t:St
instance:Coe Px Cx:=⟨Px.toCx⟩
inductive OR(C:Cx)(η:Nm)(k0:Nat):O→Ya→Prop where
 |cells (vs:List V) (ds ex:List D) (h:VRs η vs ds):OR C η k0 (.cells vs) (.cells (ds++ex))
 |buf (vs:List V) (ds ex:List D) (h:VRs η vs ds) (hc:η (k0+1)=some (.tip (ds++ex).length)):OR C η k0 (.buf vs) (.cells (ds++ex))
 |map (es:List (V×V)) (ds:List (D×D)) (h:ZH (MR η) es ds):OR C η k0 (.map es) (.map ds)
 |tok (n:Nat):OR C η k0 (.tok n) (.tip n)
 |mapE (kp:KP) (es:List (V×V)) (ds:List (D×D)) (k:V) (dk:D) (n m:Nat) (h:ZH (MR η) es ds) (hk:VR η k dk) (hn:η n=some (.tip m)):OR C η k0 (.mapE kp es k n) (.mapE kp ds dk m)
 |dfr:OR C η k0 .dfr .dfr
 |ro (o:O) (d:Ya) (h:OR C η k0 o d) (hr:ZbG o=false) (hk:∀n,o≠.tok n):OR C η k0 (.ro o) d
 |loop (f:FuncId) (n:Nat) (ps:List Nat) (a b:DC) (ρ:T W) (st:Option DC) (busy:Bool) (r:Wq) (lst:LSt) (hf:r.fn=f) (hn:r.N=n) (hps:r.params=ps) (hlt:∀t∈ps,t<n)
   (ha:cc C.P (C.an f) n r.assign=some a) (hb:cc C.P (C.an f) n r.body=some b) (hρ:Z8 η [] ρ r.ρ)
   (hst:match st,busy,lst with
    |none,false,.ready=>True
    |none,true,.busy=>True
    |some dj,false,.done j=>cc C.P (C.an f) n j=some dj
    |_,_,_=>False):OR C η k0 (.loop f n ps a b ρ st busy) (.loop r lst)
structure Sim(C:Px)(η:Nm)(σ:S)(s:St):Prop where
 obj:∀k o,σ.get k=some o→∃t,η k=some t∧((∃b d,t=.tip b∧s b=some d∧OR C η k o d)∨(∃n,o=.tok n∧t=.full))
 inj:∀k k' o o' b,σ.get k=some o→σ.get k'=some o'→η k=some (.tip b)→η k'=some (.tip b)→k=k'
 kp:∀b d,C.t b=some d→s b=some d∧∀k o,σ.get k=some o→ZbG o=false→η k≠some (.tip b)
 ro:∀k o b,σ.get k=some (.ro o)→η k=some (.tip b)→∃d,C.t b=some d
theorem WR.mono{η η':Nm}(h:η.Sub η'){w:W}{e:E}(x:WR η L w e):WR η' L w e:=by
 cases w with
 |v v=>obtain⟨d,h1,h2⟩:=x;exact⟨d,h1.mono h,h2⟩
 |_=>exact x
theorem Z8.mono{η η':Nm}(h:η.Sub η'){ρ:T W}{ρd:Env}(x:Z8 η L ρ ρd):Z8 η' L ρ ρd:=fun t w hw hl=>by
 obtain⟨e,h1,h2⟩:=x t w hw hl
 exact⟨e,h1,h2.mono h⟩
theorem OR.mono{C:Cx}{η η':Nm}(h:η.Sub η'){k0:Nat}{o:O}{d:Ya}(x:OR C η k0 o d):OR C η' k0 o d:=by
 induction x with
 |cells vs ds ex h1=>exact .cells vs ds ex (h1.mono h)
 |buf vs ds ex h1 hc=>exact .buf vs ds ex (h1.mono h) (h _ _ hc)
 |map es ds h1=>exact .map es ds (h1.imp fun _ _ m=>m.mono h)
 |tok n=>exact .tok n
 |mapE kp es ds k dk n m h1 hk hn=>exact .mapE kp es ds k dk n m (h1.imp fun _ _ m=>m.mono h) (hk.mono h) (h _ _ hn)
 |dfr=>exact .dfr
 |ro o d h1 hr hk ih=>exact .ro o d ih hr hk
 |loop f n ps a b ρ st busy r lst hf hn hps hlt ha hb hρ hst=>exact .loop f n ps a b ρ st busy r lst hf hn hps hlt ha hb (hρ.mono h) hst
theorem Sim.name{C:Px}{η η':Nm}{σ:S}(x:Sim C η σ s)(hs:η.Sub η'){k:Nat}{o:O}(h:σ.get k=sO o){t:Tok}(e:η' k=sO t):η k=sO t:=by
 obtain⟨t0,h0,_⟩:=x.obj k o h
 rw[hs _ _ h0]at e
 rw[h0,e]
theorem Sim.mono{C:Px}{η η':Nm}(h:η.Sub η'){σ:S}(x:Sim C η σ s):Sim C η' σ s:={
 obj k o hk:=by
  obtain⟨t,h1,h2⟩:=x.obj k o hk
  refine⟨t,h _ _ h1,h2.imp (fun⟨b,d,a1,a2,a3⟩=>⟨b,d,a1,a2,a3.mono h⟩) id⟩
 inj k k' o o' b hk hk' e e':=x.inj k k' o o' b hk hk' (x.name h hk e) (x.name h hk' e')
 kp b d hb:=⟨(x.kp b d hb).1,fun k o hk hr e=>(x.kp b d hb).2 k o hk hr (x.name h hk e)⟩
 ro k o b hk e:=x.ro k o b hk (x.name h hk e) }
section
variable {C:Px} {η:Nm} {σ:S} {s:St}
theorem Sim.get(x:Sim C η σ s){k:Nat}{o:O}(h:σ.get k=sO o)(ho:∀n,o≠.tok n):∃b d,η k=sO (.tip b)∧s b=sO d∧OR C η k o d:=by
 obtain⟨t,h1,⟨b,d,rfl,a1,a2⟩|⟨n,rfl,_⟩⟩:=x.obj k o h
 ·exact⟨b,d,h1,a1,a2⟩
 exact absurd rfl (ho n)
theorem OR.cellsO{C:Cx}{k0:Nat}{o:O}{d:Ya}{vs:List V}(h:OR C η k0 o d)(hc:cellsO o=sO vs):∃ds ex,d=.cells (ds++ex)∧VRs η vs ds:=by
 have c:∀{o:O} {d:Ya},OR C η k0 o d→(o=.cells vs∨o=.buf vs)→∃ds ex,d=.cells (ds++ex)∧VRs η vs ds:=fun{o d} h ho=>by
  rcases ho with rfl|rfl
  ·cases h with
   |cells vs ds ex h=>exact⟨ds,ex,rfl,h⟩
  cases h with
  |buf vs ds ex h=>exact⟨ds,ex,rfl,h⟩
 cases o<;>simp[Go.DL.cellsO]at hc
 ·subst hc;exact c h (.inl rfl)
 ·subst hc;exact c h (.inr rfl)
 rename_i o
 cases h with
 |ro _ _ h _ _ =>
  cases o<;>simp at hc
  ·subst hc;exact c h (.inl rfl)
  subst hc;exact c h (.inr rfl)
theorem Zuf{o:O}{vs:List V}(h:cellsO o=sO vs)(n:Nat):o≠.tok n:=fun e=>by subst e;cases h
theorem Sim.cells(x:Sim C η σ s){k b:Nat}{vs:List V}(h:ZaQ (σ.get k)=sO vs)(hb:η k=sO (.tip b)):∃ds ex,s b=sO (.cells (ds++ex))∧VRs η vs ds:=by
 cases hk:σ.get k with
 |none=>rw[hk]at h;cases h
 |some o =>
  rw[hk]at h
  obtain⟨b',d,h1,h2,h3⟩:=x.get hk (Zuf h)
  rw[hb]at h1
  cases h1
  obtain⟨ds,ex,rfl,h4⟩:=h3.cellsO h
  exact⟨ds,ex,h2,h4⟩
theorem Sim.map(x:Sim C η σ s){k b:Nat}{es:List (V×V)}(h:σ.get k=sO (.map es))(hb:η k=sO (.tip b)):∃ds,s b=sO (.map ds)∧ZH (MR η) es ds:=by
 obtain⟨b',d,h1,h2,h3⟩:=x.get h (fun n=>by simp)
 rw[hb]at h1
 cases h1
 cases h3 with
 |map es ds h=>exact⟨ds,h2,h⟩
theorem Sim.mapO(x:Sim C η σ s){k b:Nat}{es:List (V×V)}(h:mapO (σ.get k)=sO es)(hb:η k=sO (.tip b)):∃ds,s b=sO (.map ds)∧ZH (MR η) es ds:=by
 cases hk:σ.get k with
 |none=>rw[hk]at h;cases h
 |some o =>
  rw[hk]at h
  cases o<;>simp[Go.DL.mapO]at h
  ·subst h;exact x.map hk hb
  rename_i o
  cases o<;>cases h
  obtain⟨b',d,h1,h2,h3⟩:=x.get hk (fun n=>by simp)
  rw[hb]at h1
  cases h1
  cases h3 with
  |ro _ _ h3 _ _=>cases h3 with
   |map es ds h=>exact⟨ds,h2,h⟩
theorem Ztt{σ:S}{k k':Nat}{o:O}(h:(σ.set nO k).get k'=sO o):k'≠k∧σ.get k'=sO o:=by
 rcases T.get_set h with ⟨_,h'⟩|⟨h0,h'⟩
 ·simp at h'
 exact⟨h0,h'⟩
theorem Sim.subT{σ':S}(x:Sim C η σ s)(h:∀k o,σ'.get k=sO o→σ.get k=sO o):Sim C η σ' s:={
 obj k o hk:=x.obj k o (h k o hk)
 inj k k' o o' b hk hk':=x.inj k k' o o' b (h _ _ hk) (h _ _ hk')
 kp b d hb:=⟨(x.kp b d hb).1,fun k o hk=>(x.kp b d hb).2 k o (h _ _ hk)⟩
 ro k o b hk:=x.ro k o b (h _ _ hk) }
theorem Sim.forget(x:Sim C η σ s)(k:Nat):Sim C η (σ.set nO k) s:=x.subT fun _ _ h=>(Ztt h).2
theorem Sim.upd(x:Sim C η σ s){k b:Nat}{o o':O}{d:Ya}(h:σ.get k=sO o)(hb:η k=sO (.tip b))(ho:OR C η k o' d)(hr:ZbG o=false:=by rfl)(hr':ZbG o'=false:=by rfl):Sim C η (σ.set (sO o') k) (s.upd b d) where
 obj k' o1 h':=by
  rcases T.get_set h' with ⟨rfl,h1⟩|⟨j,h1⟩
  ·cases h1
   exact⟨_,hb,.inl ⟨b,d,rfl,ZEZ s b d,ho⟩⟩
  obtain⟨t,e1,⟨b',d',rfl,e2,e3⟩|e2⟩:=x.obj k' o1 h1
  ·refine⟨_,e1,.inl ⟨b',d',rfl,?_,e3⟩⟩
   have:b'≠b:=fun n=>j (x.inj k' k _ _ b h1 h (by rw[←n];exact e1) hb)
   rw[ZE0 s d this];exact e2
  exact⟨t,e1,.inr e2⟩
 inj k1 k2 o1 o2 b' h1 h2 e1 e2:=by
  have:∀k' o1,(σ.set (sO o') k).get k'=sO o1→∃o,σ.get k'=sO o:=fun k' o1 h'=>by
   rcases T.get_set h' with ⟨rfl,_⟩|⟨_,h'⟩
   ·exact⟨_,h⟩
   exact⟨_,h'⟩
  obtain⟨p1,q1⟩:=this _ _ h1
  obtain⟨p2,q2⟩:=this _ _ h2
  exact x.inj k1 k2 p1 p2 b' q1 q2 e1 e2
 kp c e hc:=by
  obtain⟨h1,h2⟩:=x.kp c e hc
  have:c≠b:=fun ec=>h2 k o h hr (by rw[ec];exact hb)
  refine⟨by rw[ZE0 s d this];exact h1,fun k' o1 h' i=>?_⟩
  rcases T.get_set h' with ⟨rfl,_⟩|⟨_,h'⟩
  ·exact h2 _ o h hr
  exact h2 k' o1 h' i
 ro k' o1 b' h' e:=by
  rcases T.get_set h' with ⟨rfl,h1⟩|⟨_,h'⟩
  ·cases h1;simp[ZbG]at hr'
  exact x.ro k' o1 b' h' e
end
def Nm.put(η:Nm)(k:Nat)(t:Tok):Nm:=fun k'=>if k'=k then sO t else η k'
theorem Nm.put_sub{η:Nm}{k:Nat}(h:η k=nO)(t:Tok):η.Sub (η.put k t):=fun k' t' hk=>by
 have:k'≠k:=fun e=>by rw[e,h]at hk;grind
 simp[Nm.put,this,hk]
theorem Nm.put_same(η:Nm)(k:Nat)(t:Tok):(η.put k t) k=sO t:=by simp[Nm.put]
structure Yw(η:Nm)(nx:Nat):Prop where
 z:η 0=some .none
 o:η 1=some .full
 two:2≤nx
 free:∀k,nx≤k→η k=none
theorem Yw.put{η:Nm}{nx:Nat}(h:Yw η nx)(t:Tok):Yw (η.put nx t) (nx+1):={
 z:=by have:=h.two;simp[Nm.put];rw[if_neg (by omega)];exact h.z
 o:=by have:=h.two;simp[Nm.put];rw[if_neg (by omega)];exact h.o
 two:=by have:=h.two;omega
 free k hk:=by simp[Nm.put];rw[if_neg (by omega)];exact h.free k (by omega) }
section
variable {C:Px} {η:Nm} {σ:S} {s:St}
theorem Sim.fresh(x:Sim C η σ s){b:Nat}(hb:s b=nO){k:Nat}{o:O}(h:σ.get k=sO o):η k≠sO (.tip b):=fun e=>by
 obtain⟨t,h1,⟨b',d,rfl,h2,_⟩|⟨n,_,rfl⟩⟩:=x.obj k o h
 ·rw[e]at h1
  cases h1
  rw[hb]at h2;grind
 rw[e]at h1;grind
theorem Sim.new(x:Sim C η σ s){nx:Nat}(hn:η nx=nO){b:Nat}(hb:s b=nO){o:O}{d:Ya}(ho:OR C (η.put nx (.tip b)) nx o d)(hr:ZbG o=false:=by rfl):Sim C (η.put nx (.tip b)) (σ.set (sO o) nx) (s.upd b d):=by
 have n:=Nm.put_sub hn (.tip b)
 have x':=x.mono n
 refine⟨fun k o1 h=>?_,fun k1 k2 o1 o2 b' h1 h2 e1 e2=>?_,fun c e hc=>?_,fun k o1 c h e=>?_⟩
 ·rcases T.get_set h with ⟨rfl,h1⟩|⟨j,h1⟩
  ·cases h1
   exact⟨_,Nm.put_same _ _ _,.inl ⟨b,d,rfl,ZEZ s b d,ho⟩⟩
  obtain⟨t,e1,⟨b',d',rfl,e2,e3⟩|e2⟩:=x'.obj k o1 h1
  ·refine⟨_,e1,.inl ⟨b',d',rfl,?_,e3⟩⟩
   have:b'≠b:=fun y=>by rw[y,hb]at e2;grind
   rw[ZE0 s d this];exact e2
  exact⟨t,e1,.inr e2⟩
 ·have i:∀k o1 b',(σ.set (sO o) nx).get k=sO o1→(η.put nx (.tip b)) k=sO (.tip b')→k≠nx→σ.get k=sO o1∧η k=sO (.tip b'):=fun k o1 b' h e j=>by
   rcases T.get_set h with ⟨rfl,_⟩|⟨_,h⟩
   ·exact absurd rfl j
   exact⟨h,by simpa[Nm.put,j]using e⟩
  by_cases c1:k1=nx<;>by_cases c2:k2=nx
  ·simp_all
  ·exfalso
   obtain⟨q1,q2⟩:=i k2 o2 b' h2 e2 c2
   rw[c1,Nm.put_same]at e1
   cases e1
   exact x.fresh hb q1 q2
  ·exfalso
   obtain⟨q1,q2⟩:=i k1 o1 b' h1 e1 c1
   rw[c2,Nm.put_same]at e2
   cases e2
   exact x.fresh hb q1 q2
  obtain⟨q1,q2⟩:=i k1 o1 b' h1 e1 c1
  obtain⟨q3,q4⟩:=i k2 o2 b' h2 e2 c2
  exact x.inj k1 k2 o1 o2 b' q1 q3 q2 q4
 ·obtain⟨h1,h2⟩:=x'.kp c e hc
  have u:c≠b:=fun ec=>by rw[ec,hb]at h1;grind
  refine⟨by rw[ZE0 s d u];exact h1,fun k o1 h v e1=>?_⟩
  rcases T.get_set h with ⟨rfl,_⟩|⟨_,h⟩
  ·rw[Nm.put_same]at e1
   simp at e1
   exact u e1.symm
  exact h2 k o1 h v e1
 rcases T.get_set h with ⟨rfl,h1⟩|⟨_,h⟩
 ·cases h1;cases hr
 exact x'.ro k o1 c h e
end
section
variable {η:Nm} {L:Loc} {ρ:T W} {ρd:Env}
theorem Zyu{x:Option W}{v:V}(h:wV x=sO v):x=sO (.v v):=by
 unfold wV at h
 split at h
 ·split at h<;>cases h;rfl
 grind
theorem KA(hρ:Z8 η L ρ ρd){x:Opd}{v:V}(h:(YV x).run ρ=sO v):∃p d,ZC ρd true x=sO (p,.d d)∧p∧VR η v d:=by
 cases x with
 |cst d =>
  simp[YV]at h
  split at h<;>cases h
  exact⟨True,d,rfl,trivial,Zgt ‹_›⟩
 |tmp t =>
  obtain⟨e,h1,d,h2,rfl|rfl⟩:=hρ t _ (Zyu h) rfl
  ·exact⟨True,d,by simp[ZC,h1],trivial,h2⟩
  exact⟨True→True,d,by simp[ZC,h1],fun _=>trivial,h2⟩
theorem ZaD(hρ:Z8 η L ρ ρd):∀{xs:List Opd} {vs:List V},(Zb9 xs).run ρ=sO vs→∃p ds,Yd ρd true xs=sO (p,ds.map .d)∧p∧VRs η vs ds
 | [],vs,h=>by
  cases h
  exact⟨True,[],rfl,trivial,.nil⟩
 |x::xs,vs,h=>by
  simp[Zb9]at h
  split at h<;>(try(grind;done))
  rename_i v h1
  split at h<;>simp at h
  rename_i vs' h2
  subst h
  obtain⟨p,d,a1,a2,a3⟩:=KA hρ h1
  obtain⟨q,ds,b1,b2,b3⟩:=ZaD hρ h2
  exact⟨p∧q,d::ds,by simp[Yd,a1,b1],⟨a2,b2⟩,.cons _ _ _ _ a3 b3⟩
theorem ZaJ:∀(ds:List D),W2 (ds.map .d)=sO ds
 | []=>rfl
 |d::ds=>by simp[W2,ZaJ ds]
theorem Zo5(hρ:Z8 η L ρ ρd){g:Option (Nat×Bool)}{b:Bool}(h:(Zin g).run ρ=sO b):Zl ρd g=sO b:=by
 cases g with
 |none=>simpa[Zin,Zl]using h
 |some x =>
  obtain⟨t,want⟩:=x
  simp[Zin]at h
  split at h<;>(try(grind;done))
  rename_i w hw
  cases w with
  |v x =>
   obtain⟨e,h1,h2⟩:=hρ t _ hw rfl
   cases x<;>cases h
   obtain⟨d,h3,rfl|rfl⟩:=h2<;>cases h3
   ·simp[Zl,h1]
   simp[Zl,h1]
  |loc l o=>grind
  |skip =>
   obtain⟨e,h1,h2⟩:=hρ t _ hw rfl
   cases h
   have c:e=.when false (.d (.bool false)):=h2
   subst c
   simp[Zl,h1]
theorem JJ(hρ:Z8 η L ρ ρd){w:W}{e:E}(hw:WR η L w e)(dst:Option Nat):Z8 η L ((Zcn dst).run ρ w) (Zt ρd dst e):=by
 cases dst with
 |none=>exact hρ
 |some t =>
  intro t' w' h hl
  rcases T.get_set (t:=ρ) (x:=sO w) (k:=t) h with ⟨rfl,h1⟩|⟨c,h1⟩
  ·cases h1
   exact⟨e,by simp[Zt,ZL],hw⟩
  obtain⟨e',h2,h3⟩:=hρ t' w' h1 hl
  exact⟨e',by simp[Zt,ZL];rw[if_neg (Ne.symm c)];exact h2,h3⟩
theorem Zwq(hρ:Z8 η L ρ ρd){x:Opd}{c:Bool}(h:(ZiD x).run ρ=true)(hc:c=false):∃p z,ZC ρd c x=sO (p,.d (.bool z))∧p:=by
 subst hc
 cases x with
 |cst d =>
  cases d<;>cases h
  exact⟨True,_,rfl,trivial⟩
 |tmp t =>
  simp[ZiD]at h
  split at h<;>(try(grind;done))
  rename_i w hw
  cases w with
  |v x =>
   obtain⟨e,h1,h2⟩:=hρ t _ hw rfl
   cases x<;>cases h
   obtain⟨d,h3,rfl|rfl⟩:=h2<;>cases h3
   ·exact⟨True,_,by simp[ZC,h1];rfl,trivial⟩
   exact⟨_,_,by simp only[ZC,h1];rfl,fun h=>by simp at h⟩
  |loc l o=>grind
  |skip =>
   obtain⟨e,h1,h2⟩:=hρ t _ hw rfl
   have i:e=.when false (.d (.bool false)):=h2
   subst i
   exact⟨_,_,by simp only[ZC,h1];rfl,fun h=>by simp at h⟩
end
theorem WS{vs:List V}{f:V→Option V}{v:V}(h:a1 vs f=sO v):∃x,vs=[x]∧f x=sO v:=by
 unfold a1 at h
 split at h
 ·exact⟨_,rfl,h⟩
 grind
theorem Zdh{vs:List V}{f:V→V→Option V}{v:V}(h:a2 vs f=sO v):∃x y,vs=[x,y]∧f x y=sO v:=by
 unfold a2 at h
 split at h
 ·exact⟨_,_,rfl,h⟩
 grind
theorem Zx{α:Type}{b:Bool}{r:Option α}{v:α}(h:noV b r=sO v):b=true∧r=sO v:=by
 cases b<;>simp[noV]at h
 exact⟨rfl,h⟩
theorem ZbS{i:Int}{n:Nat}{r:Option V}{v:V}(h:Zfi i n r=sO v):0≤i∧i<n∧r=sO v:=by
 unfold Zfi at h
 split at h<;>(try(grind;done))
 rename_i hb
 simp[Zgs]at hb
 exact⟨hb.1,by omega,h⟩
theorem J9{a b:Nat}:Nat.ble a b=true↔a≤b:=by rw[Nat.ble_eq]
theorem Z6{a b:Nat}:Nat.beq a b=true↔a=b:=by rw[Nat.beq_eq]
theorem JF{a b:Int}:leI a b=true↔a≤b:=by rw[Zgs,decide_eq_true_eq]
theorem Q4{a b:Int}:eqI a b=true↔a=b:=by rw[Zif,decide_eq_true_eq]
theorem isub(a b:Int):Int.sub a b=a-b:=rfl
section
variable {C:Px} {η:Nm} {σ:S} {s:St} {L:Loc}
theorem ZdT{b:Nat}{f:List V→Option V}{v:V}(h:Zh6 σ b f=sO v):∃cs,ZaQ (σ.get b)=sO cs∧f cs=sO v:=by
 unfold Zh6 at h
 split at h
 ·rename_i hg;exact⟨_,hg,h⟩
 grind
theorem ZgU(hS:Sim C η σ s){k b:Nat}{cs:List V}(h:ZaQ (σ.get k)=sO cs)(hb:η k=sO (.tip b)):∃ds ex,Yj s b=sO (ds++ex)∧VRs η cs ds:=by
 obtain⟨ds,ex,h1,h2⟩:=hS.cells h hb
 exact⟨ds,ex,by simp[Yj,h1],h2⟩
theorem Zgo{cs:List V}(ex:List D)(h:VRs η cs ds){o:Nat}{v:V}(hv:Zg6 o cs=sO v):∃d,(ds++ex)[o]?=sO d∧VR η v d:=by
 rw[ZjU]at hv
 obtain⟨d,h1,h2⟩:=h.get hv
 refine⟨d,?_,h2⟩
 rw[ZFp (List.getElem?_eq_some_iff.1 h1).1];exact h1
theorem ZrM{ds ex:List D}{o n:Nat}(h:o+n≤ds.length):part (ds++ex) o n=part ds o n:=by
 unfold part
 rw[List.drop_append_of_le_length (by omega),List.take_append_of_le_length (by simp;omega)]
theorem ZkV{ds ex ys:List D}{o:Nat}(h:o+ys.length≤ds.length):ZE (ds++ex) o ys=ZE ds o ys++ex:=by
 unfold ZE
 rw[List.take_append_of_le_length (by omega),List.drop_append_of_le_length (by omega),ZFt,ZFt,ZFt]
theorem Zkb{cs:List V}(ex:List D)(h:VRs η cs ds){o n:Nat}{v:V}(hv:Zjr cs o n=sO v):o+n≤(ds++ex).length∧VR η v (.agg (part (ds++ex) o n)):=by
 unfold Zjr at hv
 split at hv<;>simp at hv
 rename_i r hr
 subst hv
 obtain⟨h1,h2⟩:=h.partv hr
 exact⟨by simp;omega,by rw[ZrM h1];exact .agg _ _ h2⟩
theorem Zbk:∀{bs:List Bool} {vs:List V} {ds:List D} {r:List (Option Int)},VRs η vs ds→JY bs vs=sO r→WE bs (ds.map .d)=sO r
 | [],vs,ds,r,hv,h=>by
  cases vs with
  |nil=>obtain rfl:=hv.inv0;simpa[JY,WE]using h
  |cons v vs=>cases h
 |true::bs,vs,ds,r,hv,h=>by
  cases vs with
  |nil=>cases h
  |cons v vs =>
   obtain⟨d,ds',rfl,h1,h2⟩:=hv.inv
   cases h1<;>simp[JY]at h
   obtain⟨q,hq,rfl⟩:=h
   simp[WE,Zbk h2 hq]
 |false::bs,vs,ds,r,hv,h=>by
  simp[JY]at h
  obtain⟨q,hq,rfl⟩:=h
  simp[WE,Zbk hv hq]
theorem Zzx{t n:Nat}{τ:Tok}(h1:η 1=sO .full)(ht:t=0∨η t=sO τ){l h:Int}{mx:Option Int}:Zvl t n l h mx=0∨η (Zvl t n l h mx)=sO (ZbB τ n l h mx):=by
 unfold Zvl ZbB
 cases mx with
 |some m =>
  simp only[Q4]
  split
  ·exact .inr h1
  exact .inl rfl
 |none =>
  simp only[Q4,Z6]
  split
  ·split
   ·rename_i c
    subst c
    rcases ht with h|h
    ·simp at h
    rw[h1]at h
    cases h;exact .inr h1
   split
   ·rcases ht with h|h
    ·exact .inl h
    refine .inr ?_
    cases τ<;>simp_all
   exact .inl rfl
  exact .inl rfl
theorem ZwL(h1:η 1=sO .full){z:Nat}{lo hi mx:Option Int}{x v:V}{d:D}(hx:VR η x d)(h:Zsf z lo hi mx x=sO v):∃side r,ZaU z lo hi mx d=sO (side,r)∧side∧VR η v r:=by
 cases hx<;>simp only[Zsf,reduceCtorEq]at h
 case nilsl =>
  split at h<;>simp only[ZEP,reduceCtorEq]at h
  rename_i hc
  subst h
  simp only[ZEY,Q4]at hc
  exact⟨_,_,rfl,⟨hc.1.1,hc.1.2,hc.2⟩,.nilsl⟩
 case sl t n s rs τ row hr hn ht =>
  split at h<;>(try(simp at h;done))
  rename_i hc
  split at h<;>simp only[ZEP,reduceCtorEq]at h
  rename_i r u
  subst h
  simp only[ZEY,Z6,JF]at hc
  obtain⟨⟨⟨⟨rfl,c1⟩,c2⟩,c3⟩,c4⟩:=hc
  rw[Ju]at u
  obtain⟨l1,rfl⟩:=J3 u
  simp only[ZaU,if_true]
  refine⟨_,_,rfl,⟨c1,c2,c3,fun m hm=>?_⟩,?_⟩
  ·subst hm
   simp only[ZAb,ZEY,JF]at c4
   exact c4
  refine .sl _ _ _ _ _ _ ((hr.drop (lo.getD 0).toNat).take _) ?_ (Zzx h1 ht)
  rw[ZE9]
  exact Nat.min_eq_left l1
 case msl k b o n cap s hb =>
  split at h<;>(try(simp at h;done))
  rename_i hc
  split at h<;>simp only[ZEP,reduceCtorEq]at h
  rename_i i
  subst h
  simp only[ZEY,Z6,JF]at hc i
  obtain⟨⟨rfl,c1⟩,c2⟩:=hc
  simp only[ZaU,if_true]
  refine⟨_,_,rfl,⟨c1,c2,i.1,i.2⟩,?_⟩
  by_cases he:mx.getD (cap:Int)=lo.getD 0
  ·rw[if_pos he,if_pos (Q4.2 he)];exact .msl _ _ _ _ _ _ hb
  rw[if_neg he,if_neg (fun h=>he (Q4.1 h))];exact .msl _ _ _ _ _ _ hb
 case gsl k b o n cap s c hb hb2 hcap hl =>
  split at h<;>(try(simp at h;done))
  rename_i hc
  split at h<;>(try(simp at h;done))
  rename_i i
  simp[JF,Q4,Zgs]at hc i
  obtain⟨⟨rfl,c1⟩,c2⟩:=hc
  obtain⟨c3,c4⟩:=i
  simp only[ZaU,if_true]
  cases mx with
  |none =>
   cases h
   refine⟨_,_,rfl,⟨c1,c2,by simp only[Option.getD_none];omega,by simp⟩,?_⟩
   simp only[Option.getD_none]
   by_cases he:(cap:Int)=lo.getD 0
   ·rw[if_pos he]
    rcases c4 with c4|c4
    ·rw[c4]at he⊢
     simp only[Int.toNat_zero,Nat.zero_mul,Nat.add_zero]
     exact .gsl _ _ _ _ _ _ c hb hb2 (by rw[isub];omega) (by have:=Nat.le_trans (Nat.le_add_right o (cap*s)) hl;rw[he];simpa using this)
    omega
   rw[if_neg he]
   refine .gsl _ _ _ _ _ _ c hb hb2 (by rw[isub];omega) ?_
   have e:(lo.getD 0).toNat+((cap:Int)-lo.getD 0).toNat=cap:=by omega
   calc o+(lo.getD 0).toNat*s+((cap:Int)-lo.getD 0).toNat*s=o+((lo.getD 0).toNat+((cap:Int)-lo.getD 0).toNat)*s:=by rw[ZFk];omega
    _=o+cap*s:=by rw[e]
    _≤c:=hl
  |some m =>
   simp only at h
   split at h<;>simp at h
   rename_i j
   simp only[ZEY,JF]at j
   subst h
   refine⟨_,_,rfl,⟨c1,c2,by simpa using j.1,by simp only[ZFs];omega⟩,?_⟩
   simp only[ZFs]
   by_cases he:m=lo.getD 0
   ·rw[if_pos he,if_pos (Q4.2 he)];exact .msl _ _ _ _ _ _ hb
   rw[if_neg he,if_neg (fun h=>he (Q4.1 h))];exact .msl _ _ _ _ _ _ hb
theorem Zre:∀{cells:List V} {ps:List (Nat×Nat)} {vs r:List V} {cds ds:List D},VRs η cells cds→VRs η vs ds→Zp7 cells ps vs=sO r→∃rd,Zbu cds ps ds=sO rd∧VRs η r rd
 |cells,[],vs,r,cds,ds,hc,hv,h=>by
  cases vs with
  |nil =>
   obtain rfl:=hv.inv0
   cases h
   exact⟨_,rfl,hc⟩
  |cons v vs=>cases h
 |cells,(o,n)::ps,vs,r,cds,ds,hc,hv,h=>by
  cases vs with
  |nil=>cases h
  |cons v vs =>
   obtain⟨d,ds',rfl,h1,h2⟩:=hv.inv
   simp only[Zp7]at h
   split at h<;>(try(grind;done))
   rename_i hp
   split at h<;>(try(grind;done))
   rename_i cs j
   have c:VRs η (Ze4 v) (cellsOf d):=by
    cases h1<;>first|exact .one (by constructor<;>assumption)|assumption
   have i:W4 d=true:=by
    cases h1<;>first|rfl|cases hp
   obtain⟨e0,e1,e2⟩:=hc.over c j
   obtain⟨rd,e3,e4⟩:=Zre e2 h2 h
   refine⟨rd,?_,e4⟩
   simp only[Zbu]
   rw[if_pos ⟨i,by rw[←c.len,e0],e1⟩]
   exact e3
theorem Zpf{b o n cap:Nat}{cs r:List V}{ds ex:List D}{l:List Nat}(e0:Yj s b=sO (ds++ex))(e1:VRs η cs ds)(hle:o+n≤cs.length)(hr:Za6 n (Zbt o cs)=sO r)(hl:Zl1 r=sO l):
  ∃side d,qv L s (.conv .b2s) ([D.msl b o n cap 1].map .d)=sO (side,.d d)∧side∧VR η (.str l) d:=by
 rw[Ju]at hr
 obtain⟨l1,rfl⟩:=J3 hr
 have hlen:o+n≤ds.length:=by rw[←e1.len];exact hle
 obtain⟨i1,i2⟩:=((e1.drop o).take n).bytes hl
 have hn:((cs.drop o).take n).length=n:=by rw[ZE9];exact Nat.min_eq_left l1
 rw[hn]at i1 i2
 have hp:∀i,i<n→part (ds++ex) (o+i) 1=part ((ds.drop o).take n) i 1:=fun i hi=>by
  rw[ZrM (by omega)]
  unfold part
  rw[List.drop_take,List.take_take,List.drop_drop]
  congr 1;omega
 refine⟨o+n≤(ds++ex).length∧∀i,i<n→ZnY (part (ds++ex) (o+i) 1),.str ((ZE4 n).map fun i=>Zcy (part (ds++ex) (o+i) 1)),by simp[qv,e0],⟨by simp;omega,fun i hi=>by rw[hp i hi];exact i1 i hi⟩,?_⟩
 have:((ZE4 n).map fun i=>Zcy (part (ds++ex) (o+i) 1))=l.map UInt8.ofNat:=by
  rw[i2]
  exact List.map_congr_left fun i hi=>by simp_all
 rw[this]
 exact .str _
theorem ZAS(a b:Int):(if leI a b=true then a else b)=Min.min a b:=by simp[JF];exact(Int.min_def a b).symm
theorem ZAR(a b:Int):(if leI a b=true then b else a)=Max.max a b:=by simp[JF];exact(Int.max_def a b).symm
theorem ZuU(hS:Sim C η σ s)(h1:η 1=sO .full){q:Q}{vs:List V}(hv:VRs η vs ds){v:V}(h:qV q σ vs=sO v):∃side d,qv L s q (ds.map .d)=sO (side,.d d)∧side∧VR η v d:=by
 cases q<;>(try simp only[qV]at h)
 case mv =>
  obtain⟨x,rfl,hh⟩:=WS h;replace h:=hh;clear hh
  obtain⟨d,rfl,hx⟩:=hv.inv1
  simp only[ZEP]at h
  subst h
  exact⟨True,d,rfl,trivial,hx⟩
 case nilck =>
  obtain⟨x,rfl,hh⟩:=WS h;replace h:=hh;clear hh
  obtain⟨d,rfl,hx⟩:=hv.inv1
  cases hx<;>simp only[reduceCtorEq,ZEP]at h<;>subst h
  ·exact⟨True,_,rfl,trivial,by constructor;assumption⟩
  ·exact⟨True,_,rfl,trivial,by constructor;assumption⟩
  ·exact⟨True,_,rfl,trivial,by constructor<;>assumption⟩
  exact⟨True,_,rfl,trivial,by constructor;assumption⟩
 case load1 =>
  obtain⟨x,rfl,hh⟩:=WS h;replace h:=hh;clear hh
  obtain⟨d,rfl,hx⟩:=hv.inv1
  cases hx<;>simp only[reduceCtorEq]at h
  case ep cs o ds hc =>
   obtain⟨d,e1,e2⟩:=Zgo [] hc h
   rw[ZFm]at e1
   exact⟨True,d,by simp only[ZE7,ZFo,qv,Wr,e1,ZFl],trivial,e2⟩
  case ptr k b o hb =>
   obtain⟨cs,hg,hh⟩:=ZdT h;replace h:=hh;clear hh
   obtain⟨ds,ex,e0,e1⟩:=ZgU hS hg hb
   obtain⟨d,e2,e3⟩:=Zgo ex e1 h
   exact⟨True,d,by simp only[ZE7,ZFo,qv,Wr,e0,e2,ZFl],trivial,e3⟩
 case loadN n =>
  obtain⟨x,rfl,hh⟩:=WS h;replace h:=hh;clear hh
  obtain⟨d,rfl,hx⟩:=hv.inv1
  cases hx<;>simp only[reduceCtorEq]at h
  case ep cs o ds hc =>
   obtain⟨e1,e2⟩:=Zkb [] hc h
   rw[ZFm]at e1 e2
   exact⟨_,_,by simp only[ZE7,ZFo,qv,Ki,ZFl]<;>rfl,e1,e2⟩
  case ptr k b o hb =>
   obtain⟨cs,hg,hh⟩:=ZdT h;replace h:=hh;clear hh
   obtain⟨ds,ex,e0,e1⟩:=ZgU hS hg hb
   obtain⟨e2,e3⟩:=Zkb ex e1 h
   exact⟨_,_,by simp only[ZE7,ZFo,qv,Ki,e0,ZFl]<;>rfl,e2,e3⟩
 case bin op p =>
  obtain⟨x,y,rfl,hh⟩:=Zdh h;replace h:=hh;clear hh
  obtain⟨d,d',rfl,hx,hy⟩:=hv.inv2
  obtain⟨side,r,e1,e2,e3⟩:=Zzd hx hy h
  exact⟨side,r,by simp only[ZE7,ZFo,qv,e1,ZFl],e2,e3⟩
 case not =>
  obtain⟨x,rfl,hh⟩:=WS h;replace h:=hh;clear hh
  obtain⟨d,rfl,hx⟩:=hv.inv1
  cases hx<;>simp only[reduceCtorEq,ZEP]at h
  subst h
  exact⟨True,_,rfl,trivial,.bool _⟩
 case neg =>
  obtain⟨x,rfl,hh⟩:=WS h;replace h:=hh;clear hh
  obtain⟨d,rfl,hx⟩:=hv.inv1
  cases hx<;>simp only[reduceCtorEq]at h
  obtain⟨rfl,hr⟩:=ZbT h
  exact⟨_,_,rfl,hr,.int _ _⟩
 case xorm =>
  obtain⟨x,rfl,hh⟩:=WS h;replace h:=hh;clear hh
  obtain⟨d,rfl,hx⟩:=hv.inv1
  cases hx<;>simp only[reduceCtorEq,ZEP]at h
  subst h
  exact⟨True,_,rfl,trivial,.int _ _⟩
 case conv c =>
  cases c<;>simp only at h
  case int k =>
   obtain⟨x,rfl,hh⟩:=WS h;replace h:=hh;clear hh
   obtain⟨d,rfl,hx⟩:=hv.inv1
   cases hx<;>simp only[reduceCtorEq,ZEP]at h
   subst h
   simp only[ZE7,ZFo,qv]
   split
   ·exact⟨True,_,rfl,trivial,.int _ _⟩
   exact⟨True,_,rfl,trivial,.int _ _⟩
  case str =>
   obtain⟨x,rfl,hh⟩:=WS h;replace h:=hh;clear hh
   obtain⟨d,rfl,hx⟩:=hv.inv1
   cases hx<;>simp only[reduceCtorEq,ZEP]at h
   subst h
   exact⟨True,_,rfl,trivial,.str _⟩
  case i2s =>
   obtain⟨x,rfl,hh⟩:=WS h;replace h:=hh;clear hh
   obtain⟨d,rfl,hx⟩:=hv.inv1
   cases hx<;>simp only[reduceCtorEq]at h
   obtain⟨hb,hh⟩:=Zx h;replace h:=hh;clear hh
   rw[J9]at hb
   simp only[ZEP]at h
   subst h
   refine⟨_,_,rfl,hb,?_⟩
   have:=VR.str (η:=η) ((Utf8.encode ‹Int›).data.toList.map UInt8.toNat)
   rwa [ZkO]at this
  case b2s =>
   obtain⟨x,rfl,hh⟩:=WS h;replace h:=hh;clear hh
   obtain⟨d,rfl,hx⟩:=hv.inv1
   cases hx<;>simp only[reduceCtorEq]at h
   case nilsl =>
    simp only[ZEP]at h
    subst h
    exact⟨True,_,rfl,trivial,.str []⟩
   case sl t n z rs τ row hr hn ht =>
    obtain⟨hb,hh⟩:=Zx h;replace h:=hh;clear hh
    rw[Z6]at hb
    subst hb
    simp only[ZE3]at h
    obtain⟨l,hl,rfl⟩:=h
    obtain⟨e1,e2⟩:=hr.bytes hl
    subst hn
    refine⟨_,_,by simp only[ZE7,ZFo,qv,if_true]<;>rfl,e1,?_⟩
    rw[←e2];exact .str _
   case msl k b o n cap z hb =>
    obtain⟨hz,hh⟩:=Zx h;replace h:=hh;clear hh
    rw[Z6]at hz
    subst hz
    obtain⟨cs,hg,hh⟩:=ZdT h;replace h:=hh;clear hh
    obtain⟨ds,ex,e0,e1⟩:=ZgU hS hg hb
    obtain⟨j,hh⟩:=Zx h;replace h:=hh;clear hh
    rw[J9]at j
    split at h<;>simp only[reduceCtorEq,ZE3]at h
    rename_i r hr
    obtain⟨l,hl,rfl⟩:=h
    exact Zpf e0 e1 j hr hl
   case gsl k b o n cap z c hb hb2 hcap hl =>
    obtain⟨hz,hh⟩:=Zx h;replace h:=hh;clear hh
    rw[Z6]at hz
    subst hz
    obtain⟨cs,hg,hh⟩:=ZdT h;replace h:=hh;clear hh
    obtain⟨ds,ex,e0,e1⟩:=ZgU hS hg hb
    obtain⟨j,hh⟩:=Zx h;replace h:=hh;clear hh
    rw[J9]at j
    split at h<;>simp only[reduceCtorEq,ZE3]at h
    rename_i r hr
    obtain⟨l,hl,rfl⟩:=h
    exact Zpf e0 e1 j hr hl
 case faddr off =>
  obtain⟨x,rfl,hh⟩:=WS h;replace h:=hh;clear hh
  obtain⟨d,rfl,hx⟩:=hv.inv1
  cases hx<;>simp only[reduceCtorEq,ZEP]at h<;>subst h
  ·exact⟨True,_,rfl,trivial,by constructor;assumption⟩
  exact⟨True,_,rfl,trivial,by constructor;assumption⟩
 case fld1 off =>
  obtain⟨x,rfl,hh⟩:=WS h;replace h:=hh;clear hh
  obtain⟨d,rfl,hx⟩:=hv.inv1
  cases hx<;>simp only[reduceCtorEq]at h
  rename_i cs ds hc
  obtain⟨d,e1,e2⟩:=Zgo [] hc h
  rw[ZFm]at e1
  exact⟨True,d,by simp only[ZE7,ZFo,qv,e1,ZFl],trivial,e2⟩
 case fldN off n =>
  obtain⟨x,rfl,hh⟩:=WS h;replace h:=hh;clear hh
  obtain⟨d,rfl,hx⟩:=hv.inv1
  cases hx<;>simp only[reduceCtorEq]at h
  rename_i cs ds hc
  obtain⟨e1,e2⟩:=Zkb [] hc h
  rw[ZFm]at e1 e2
  exact⟨_,_,rfl,e1,e2⟩
 case iaddr z =>
  obtain⟨x,y,rfl,hh⟩:=Zdh h;replace h:=hh;clear hh
  obtain⟨d,d',rfl,hx,hy⟩:=hv.inv2
  cases hy<;>simp only[reduceCtorEq]at h
  cases hx<;>simp only[reduceCtorEq]at h
  case int.sl k i t n z' rs τ row hr hn ht =>
   obtain⟨hz,hh⟩:=Zx h;replace h:=hh;clear hh
   rw[Z6]at hz
   obtain⟨i0,i1,hh⟩:=ZbS h;replace h:=hh;clear hh
   split at h<;>simp only[reduceCtorEq,ZEP]at h
   rename_i cs ae
   rw[ZjU]at ae
   obtain⟨cs',e1,e2,_⟩:=hr.get ae
   simp only[V.agg.injEq]at e1
   subst e1;subst h
   exact⟨_,_,by simp only[ZE7,ZFo,qv,hz,if_true]<;>rfl,ZER i0 i1,.ep _ _ _ e2⟩
  case int.msl k i kb b o n cap z' hb =>
   obtain⟨hz,hh⟩:=Zx h;replace h:=hh;clear hh
   rw[Z6]at hz
   obtain⟨i0,i1,hh⟩:=ZbS h;replace h:=hh;clear hh
   simp only[ZEP]at h
   subst h
   exact⟨_,_,by simp only[ZE7,ZFo,qv,hz,if_true]<;>rfl,ZER i0 i1,.ptr _ _ _ hb⟩
  case int.gsl k i kb b o n cap z' c hb hb2 hcap hl =>
   obtain⟨hz,hh⟩:=Zx h;replace h:=hh;clear hh
   rw[Z6]at hz
   obtain⟨i0,i1,hh⟩:=ZbS h;replace h:=hh;clear hh
   simp only[ZEP]at h
   subst h
   exact⟨_,_,by simp only[ZE7,ZFo,qv,hz,if_true]<;>rfl,ZER i0 i1,.ptr _ _ _ hb⟩
 case iaddrA m z =>
  obtain⟨x,y,rfl,hh⟩:=Zdh h;replace h:=hh;clear hh
  obtain⟨d,d',rfl,hx,hy⟩:=hv.inv2
  cases hy<;>simp only[reduceCtorEq]at h
  cases hx<;>simp only[reduceCtorEq]at h<;>obtain⟨i0,i1,h⟩:=ZbS h<;>simp only[ZEP]at h<;>subst h
  ·exact⟨_,_,rfl,ZER i0 i1,by constructor;assumption⟩
  exact⟨_,_,rfl,ZER i0 i1,by constructor;assumption⟩
 case idxA m z one =>
  obtain⟨x,y,rfl,hh⟩:=Zdh h;replace h:=hh;clear hh
  obtain⟨d,d',rfl,hx,hy⟩:=hv.inv2
  cases hy<;>simp only[reduceCtorEq]at h
  cases hx<;>simp only[reduceCtorEq]at h
  rename_i k i cs ds hc
  obtain⟨i0,i1,hh⟩:=ZbS h;replace h:=hh;clear hh
  cases one
  ·simp only[ZFn,if_false]at h
   obtain⟨e1,e2⟩:=Zkb [] hc h
   rw[ZFm]at e1 e2
   exact⟨_,_,rfl,⟨i0,i1,e1⟩,e2⟩
  simp only[if_true]at h
  obtain⟨d,e1,e2⟩:=Zgo [] hc h
  rw[ZFm]at e1
  exact⟨_,d,by simp only[ZE7,ZFo,qv,e1,ZFl]<;>rfl,ZER i0 i1,e2⟩
 case sliceA m z lo hi mx =>
  cases vs with
  |nil=>simp at h
  |cons x r =>
  obtain⟨d,ad,rfl,hx,hr⟩:=hv.inv
  cases hx<;>simp only[reduceCtorEq]at h
  rename_i k b o hb
  split at h<;>(try(simp at h;done))
  rename_i l hh mm u
  obtain⟨hc,hh⟩:=Zx h;replace h:=hh;clear hh
  simp only[ZEP]at h
  subst h
  simp only[ZEY,JF,J9]at hc
  have e:=Zbk hr u
  simp only[ZE7,qv,e]
  refine⟨_,_,rfl,⟨hc.1.1.1.1,hc.1.1.1.2,hc.1.1.2,hc.1.2,hc.2⟩,?_⟩
  by_cases he:mm.getD (m:Int)=l.getD 0
  ·rw[if_pos he,if_pos (Q4.2 he)];exact .msl _ _ _ _ _ _ hb
  rw[if_neg he,if_neg (fun h=>he (Q4.1 h))];exact .msl _ _ _ _ _ _ hb
 case idxS =>
  obtain⟨x,y,rfl,hh⟩:=Zdh h;replace h:=hh;clear hh
  obtain⟨d,d',rfl,hx,hy⟩:=hv.inv2
  cases hy<;>simp only[reduceCtorEq]at h
  cases hx<;>simp only[reduceCtorEq]at h
  rename_i k i l
  obtain⟨i0,i1,hh⟩:=ZbS h;replace h:=hh;clear hh
  simp only[ZEP]at h
  subst h
  refine⟨_,_,rfl,⟨i0,by simpa using i1⟩,?_⟩
  have:(((l.map UInt8.ofNat).getD i.toNat 0).toNat:Int)=Int.ofNat (l.getD i.toNat 0 % 256):=by
   simp only[ZE8,List.getElem?_map]
   cases l[i.toNat]?<;>simp
  rw[this]
  exact .int _ _
 case lenS =>
  obtain⟨x,rfl,hh⟩:=WS h;replace h:=hh;clear hh
  obtain⟨d,rfl,hx⟩:=hv.inv1
  cases hx<;>simp only[reduceCtorEq,ZEP]at h
  subst h
  refine⟨True,_,rfl,trivial,?_⟩
  rw[List.length_map];exact .int _ _
 case lenL =>
  obtain⟨x,rfl,hh⟩:=WS h;replace h:=hh;clear hh
  obtain⟨d,rfl,hx⟩:=hv.inv1
  cases hx<;>simp only[reduceCtorEq,ZEP]at h<;>subst h<;>exact⟨True,_,rfl,trivial,.int _ _⟩
 case lenA n =>
  obtain⟨x,rfl,hh⟩:=WS h;replace h:=hh;clear hh
  obtain⟨d,rfl,hx⟩:=hv.inv1
  obtain⟨hb,hh⟩:=Zx h;replace h:=hh;clear hh
  rw[J9]at hb
  simp only[ZEP]at h
  subst h
  exact⟨_,_,rfl,KL hb,.int _ _⟩
 case ext k =>
  obtain⟨x,rfl,hh⟩:=WS h;replace h:=hh;clear hh
  obtain⟨d,rfl,hx⟩:=hv.inv1
  cases hx<;>simp only[reduceCtorEq]at h
  rename_i cs ds hc
  obtain⟨d,e1,e2⟩:=Zgo [] hc h
  rw[ZFm]at e1
  exact⟨True,d,by simp only[ZE7,ZFo,qv,e1,ZFl],trivial,e2⟩
 case build zero parts =>
  cases hz:ofDs zero<;>simp only[hz,reduceCtorEq,ZE3]at h
  rename_i z
  obtain⟨r,hr,rfl⟩:=h
  obtain⟨rd,e1,e2⟩:=Zre (ofDs_ok hz) hv hr
  exact⟨True,_,by simp only[qv,ZaJ,e1,ZFl]<;>rfl,trivial,.agg _ _ e2⟩
 case mkfn f k =>
  cases f<;>simp only[reduceCtorEq,ZEP]at h
  subst h
  exact⟨True,_,by simp only[qv,ZaJ,ZFl]<;>rfl,trivial,.fn _ _ _ _ _ (hv.take k) (hv.drop k)⟩
 case mkif t =>
  obtain⟨x,rfl,hh⟩:=WS h;replace h:=hh;clear hh
  obtain⟨d,rfl,hx⟩:=hv.inv1
  simp only[ZEP]at h
  subst h
  exact⟨True,_,rfl,trivial,.iface _ _ _ hx⟩
 case sliceS lo hi =>
  cases vs with
  |nil=>simp at h
  |cons x r =>
  obtain⟨d,ad,rfl,hx,hr⟩:=hv.inv
  cases hx<;>simp only[reduceCtorEq]at h
  rename_i l
  split at h<;>(try(simp at h;done))
  rename_i a b c u
  obtain⟨hc,hh⟩:=Zx h;replace h:=hh;clear hh
  simp only[ZEP]at h
  subst h
  simp only[ZEY,JF]at hc
  have e:=Zbk hr u
  simp only[ZE7,qv,e,List.length_map]
  refine⟨_,_,rfl,⟨hc.1.1,hc.1.2,hc.2⟩,?_⟩
  rw[←List.map_drop,←List.map_take]
  exact .str _
 case slice z lo hi mx =>
  cases vs with
  |nil=>simp at h
  |cons x r =>
  obtain⟨d,ad,rfl,hx,hr⟩:=hv.inv
  simp only at h
  split at h<;>(try(simp at h;done))
  rename_i l hh m u
  have e:=Zbk hr u
  obtain⟨side,r',e1,e2,e3⟩:=ZwL h1 hx h
  exact⟨side,r',by simp only[ZE7,qv,e,e1,ZFl],e2,e3⟩
 case min =>
  obtain⟨x,y,rfl,hh⟩:=Zdh h;replace h:=hh;clear hh
  obtain⟨d,d',rfl,hx,hy⟩:=hv.inv2
  cases hx<;>simp only[reduceCtorEq]at h
  cases hy<;>simp only[reduceCtorEq]at h
  obtain⟨hk,hh⟩:=Zx h;replace h:=hh;clear hh
  obtain rfl:=Zex hk
  simp only[ZEP]at h
  subst h
  refine⟨True,_,by simp only[ZE7,ZFo,qv,if_true]<;>rfl,trivial,?_⟩
  rw[ZAS];exact .int _ _
 case max =>
  obtain⟨x,y,rfl,hh⟩:=Zdh h;replace h:=hh;clear hh
  obtain⟨d,d',rfl,hx,hy⟩:=hv.inv2
  cases hx<;>simp only[reduceCtorEq]at h
  cases hy<;>simp only[reduceCtorEq]at h
  obtain⟨hk,hh⟩:=Zx h;replace h:=hh;clear hh
  obtain rfl:=Zex hk
  simp only[ZEP]at h
  subst h
  refine⟨True,_,by simp only[ZE7,ZFo,qv,if_true]<;>rfl,trivial,?_⟩
  rw[ZAR];exact .int _ _
 case tassert t ok zero =>
  cases ok<;>simp only at h
  ·obtain⟨x,rfl,hh⟩:=WS h;replace h:=hh;clear hh
   obtain⟨d,rfl,hx⟩:=hv.inv1
   cases hx<;>simp only[reduceCtorEq]at h
   obtain⟨ht,hh⟩:=Zx h;replace h:=hh;clear hh
   rw[Z6]at ht
   simp only[ZEP]at h
   subst h
   exact⟨True,_,by simp only[ZE7,ZFo,qv,ht,if_true]<;>rfl,trivial,by assumption⟩
  obtain⟨x,rfl,hh⟩:=WS h;replace h:=hh;clear hh
  obtain⟨d,rfl,hx⟩:=hv.inv1
  cases hx<;>simp only[reduceCtorEq]at h
  ·obtain⟨ht,hh⟩:=Zx h;replace h:=hh;clear hh
   rw[Z6]at ht
   simp only[ZEP]at h
   subst h
   exact⟨True,_,by simp only[ZE7,ZFo,qv,ht,if_true]<;>rfl,trivial,.tup _ _ (.cons _ _ _ _ ‹_› (.one (.bool _)))⟩
  simp only[ZE3]at h
  obtain⟨z,hz,rfl⟩:=h
  exact⟨True,_,rfl,trivial,.tup _ _ (.cons _ _ _ _ (Zgt hz) (.one (.bool _)))⟩
 case lookup kp zero ok =>
  cases hz:ofD zero<;>simp only[hz,reduceCtorEq]at h
  rename_i z
  obtain⟨x,y,rfl,hh⟩:=Zdh h;replace h:=hh;clear hh
  obtain⟨d,d',rfl,hx,hy⟩:=hv.inv2
  obtain⟨hk,hh⟩:=Zx h;replace h:=hh;clear hh
  have ac:=Zfm hy hk
  cases hx<;>simp only[reduceCtorEq]at h
  ·rename_i k b hb
   split at h<;>simp only[reduceCtorEq,ZE3]at h
   rename_i es ab
   obtain⟨r,hr,rfl⟩:=h
   obtain⟨af,e1,e2⟩:=hS.mapO ab hb
   obtain⟨r',e3,e4⟩:=Zrh hy e2 hr
   exact⟨_,_,by simp only[ZE7,ZFo,qv,KM,e1,e3,ZFl]<;>rfl,ac,Zry (Zgt hz) e4⟩
  simp only[ZEP]at h
  subst h
  exact⟨_,_,rfl,ac,Zry (r':=nO) (Zgt hz) trivial⟩
 case lenM =>
  obtain⟨x,rfl,hh⟩:=WS h;replace h:=hh;clear hh
  obtain⟨d,rfl,hx⟩:=hv.inv1
  cases hx<;>simp only[reduceCtorEq]at h
  ·rename_i k b hb
   split at h<;>(try(simp at h;done))
   rename_i es ab
   obtain⟨hl,hh⟩:=Zx h;replace h:=hh;clear hh
   rw[J9]at hl
   simp only[ZEP]at h
   subst h
   obtain⟨af,e1,e2⟩:=hS.mapO ab hb
   refine⟨_,_,by simp only[ZE7,ZFo,qv,KM,e1]<;>rfl,by rw[←e2.len];exact hl,?_⟩
   rw[←e2.len];exact .int _ _
  simp only[ZEP]at h
  subst h
  exact⟨True,_,rfl,trivial,.int _ _⟩
end
end Go.DL
