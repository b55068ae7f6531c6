/- Lemmas: DlZX, DlAc, DlAd, EvA, EvB, EvC, EvD, EvE, EvF, EvG, EvH, EvI, EvJ, EvK, EvL, EvM, EvN, EvO, EvP, EvQ, EvS, EvT, EvU. -/
import Derived.Test.YtaaaefcmpgpkgaaGreatDoorT02
set_option maxHeartbeats 16000000
set_option linter.all false
open Option renaming some → sO, none → nO
open Inhabited renaming default → dE
open Decidable renaming decide → dC
open And renaming intro → Zyf
open Bool renaming and_eq_true → Zyk, false_and → ZyH, false_eq_true → Zyt, or_eq_true → Zyu, true_and → Zyy
open Go.DL.D.Le renaming refl → Zyj
open Go.DL.St renaming sub_refl → Zyi, sub_trans → ZyT, sub_upd → ZyJ, upd_ne → Zyn, upd_same → Zyo
open List renaming append_nil → ZyR, getD → Zyx, getElem?_append_left → ZyM, getElem?_eq_getElem → ZyK, getElem?_eq_none → ZyV, getElem?_take → ZyO, getElem_of_mem → ZyC, length_append → Zyr, length_cons → ZyE, length_drop → ZyU, length_take → Zyw, map_cons → Zyp, map_nil → ZyF, mem_cons → ZyP, range → Zyl
open Nat renaming add_mul → ZyI, le_refl → Zys, mul_le_mul_right → ZyD
open Option renaming getD_some → ZyL, map_eq_some_iff → Zym, map_some → Zyv
open Option.some renaming injEq → Zyd
open Prod.mk renaming injEq → Zyh
namespace Go.DL
open Go
variable [Zpk]
variable {kp:Option (List Nat)}{L:Loc}{ρ:Env}{s:St}{w:World}{os:List DOp}{ds:List D}{B:List (Nat × Rd)}{dst:Option Nat}{tmps:Array Value}{g:G}{Φ:Res→St→Prop}{ν:Nat→Nat}{xs:List Opd}{side:Prop}{row:Nat→List D}
section
variable {P:Program}
theorem Zv9{F:Fr P}{dk:List Zu}{o:DOp}(hg:o.guard=nO){x:Opd}(hk:o.k=.box x){t:Nat}(hdt:o.dst=sO t){p:Prop}{v:D}(ha:Z9 ρ true x=sO (p,.d v))(hp:p)(hok:Q3 v=true)(h:∀b,s b=nO→DO F kp dk os ((t,.d (.ptr b 0))::ρ) L (s.upd b (.cells (cellsOf v)))):DO F kp dk (o::os) ρ L s:=by
 refine Qu fun oo g ν w tmps ops i r k hoo hck hcg hdst hd hN m hr hkk=>?_
 have hw:=WC m hcg (c:=true) (by rw[hg];rfl)
 have hnd:=WS hck (by rw[hk];rfl)
 rw[hk]at hck
 obtain⟨e,x',hop,hx'⟩:=ZtM hck
 have hrep:Rep g w _ v:=Wx m hx' rfl ha hp F.ds
 generalize hvv:(Act.mk tmps F.ds).eval x'=vv at hrep
 obtain⟨hc1,hc2⟩:=ZeC hrep hok
 have hone:=Zhe hrep hok
 have hgr:=Zbo (g:=g) (w:=w) (.cells vv.cells e) m.st.fresh
 have he:=hgr.ext m.st.fresh
 obtain⟨hn,m'⟩:=m.newObj hgr (o:=.cells (cellsOf v)) ⟨(m.st.fresh _ (Zys _)).1,_,e,JJ w _,by rw[hc1],fun i v d hv hd=>(hc2 i v d (by simpa using hv) hd).mono he,hone⟩
 refine KQ (L':=L) hN hoo hdst hd hw hnd (v:=.pointer (sO ⟨w.heap.size,0,nO⟩)) (e:=.d (.ptr w.heap.size 0)) ?_ he m' (Rep.ptr _ _) ?_
 ·simp[execOp,hop,hvv,Instr.box,newVar,newRow]
 ·rw[hdt];exact h _ hn ops r k hr hkk
theorem Ztx{F:Fr P}{dk:List Zu}{o:DOp}(hg:o.guard=nO){t:Nat}(hdt:o.dst=sO t){z:List D}(hk:o.k=.alloc z)(h:∀b,s b=nO→DO F kp dk os ((t,.d (.ptr b 0))::ρ) L (s.upd b (.cells z))):DO F kp dk (o::os) ρ L s:=by
 refine Qu fun oo g ν w tmps ops i r k hoo hck hcg hdst hd hN m hr hkk=>?_
 have hw:=WC m hcg (c:=true) (by rw[hg];rfl)
 have hnd:=WS hck (by rw[hk];rfl)
 rw[hk]at hck
 obtain⟨T,hop,hz⟩:=ZpB hck
 obtain⟨v,hv1,hv2,hv3,_⟩:=Zbh (g:=g) (w:=w) hz
 have hgr:=Zbo (g:=g) (w:=w) (.cells v.cells T) m.st.fresh
 have he:=hgr.ext m.st.fresh
 obtain⟨hn,m'⟩:=m.newObj hgr (o:=.cells z) ⟨(m.st.fresh _ (Zys _)).1,_,T,JJ w _,by simpa using hv2.len,fun i v d hv hd=>(hv2.get i v d (by simpa using hv) hd).mono he,hv3⟩
 refine KQ (L':=L) hN hoo hdst hd hw hnd (v:=.pointer (sO ⟨w.heap.size,0,nO⟩)) (e:=.d (.ptr w.heap.size 0)) ?_ he m' (Rep.ptr _ _) ?_
 ·simp[execOp,hop,Instr.alloc,hv1,newVar,newRow]
 ·rw[hdt];exact h _ hn ops r k hr hkk
theorem Zf0{b off:Nat}{cs xs:List D}{vs:List Value}(h:KX g w b cs)(hx:Yh (Rep g w) vs xs)(ho:∀v∈vs,v.one1=true)(hlen:off+xs.length≤cs.length)(hkp:¬g.kept b):
  ∃w',(storeCells ⟨b,off,nO⟩ vs 0).run P w=.ok () w'∧Ext g w g w'∧w'.heap.size=w.heap.size∧(∀c,c≠b→w'.heap[c]?=w.heap[c]?)∧KX g w' b (ZF cs off xs):=by
 obtain⟨hpr,cur,T,hb,hcl,hcr,hco⟩:=h
 have hvl:vs.length=xs.length:=hx.len
 have hst:=run_storeCells_at (P:=P) b off T vs 0 cur w hb (by simp;omega) (fun x hx=>by rw[Zd2];exact ho x hx)
 simp only[Nat.add_zero]at hst
 have hrepNew:Yh (Rep g w) (cur.toList.take off++vs++cur.toList.drop (off+vs.length)) (ZF cs off xs):=by
  have hcur:Yh (Rep g w) cur.toList cs:=WG (by simpa using hcl) (fun i v d hv hd=>hcr i v d (by simpa using hv) hd)
  unfold ZF
  rw[←hvl]
  exact((hcur.take off).append hx).append (hcur.drop _)
 have hsize:((cur.toList.take off++vs++cur.toList.drop (off+vs.length)).toArray).size=cur.size:=by
  have:=hrepNew.len;simp[ZF]at this⊢;omega
 have he:=ZhE (g:=g) b hb hsize hpr hkp
 refine⟨_,hst,he,by simp[World.setRow],fun c hc=>setRow_other w b c _ hc,hpr,_,T,setRow_heap w b cur _ T (0,0) hb,by rw[hsize,hcl];simp[ZF];omega,
  fun i v d hv hd=>(hrepNew.get i v d (by simpa using hv) hd).mono he,fun x hx=>?_⟩
 simp only[List.mem_toArray,List.mem_append]at hx
 rcases hx with (hx|hx)|hx
 ·exact hco x (Array.mem_toList_iff.1 (List.mem_of_mem_take hx))
 ·exact ho x hx
 ·exact hco x (Array.mem_toList_iff.1 (List.mem_of_mem_drop hx))
theorem Zu9{op:Op}{n:Nat}{z:List D}{x:Opd}(h:ck P op=sO (.clear n z x)):
  ∃ats t e x',op=.call ⟨.builtin .clear,#[x'],ats⟩∧ats[0]?=sO t∧P.underlying t=sO (.slice e)∧YY P e=sO n∧ZbV P e=sO z∧Y7 x'=sO x∧0<n∧z.length=n:=by
 unfold ck at h
 split at h
 ·simp at h
 ·split at h<;>(try(simp at h;done))
  all_goals (try(repeat' (split at h<;>(try(simp at h;done)))))
  rename_i c _ _ hcal _ _ e x' hu hargs _ _ _ s z' x2 h1 h2 h3 hc
  simp only[Zyd,K.clear.injEq]at h
  obtain⟨rfl,rfl,rfl⟩:=h
  obtain⟨callee,args,ats⟩:=c
  simp only at hcal hu hargs
  obtain⟨args⟩:=args
  simp only at hargs
  subst hargs;subst hcal
  simp only[Option.bind_eq_some_iff]at hu
  obtain⟨t,ht,hu⟩:=hu
  simp only[Zyk,decide_eq_true_eq]at hc
  exact⟨ats,t,e,x',rfl,ht,hu,h1,h2,h3,hc.1,hc.2⟩
theorem ZuV{F:Fr P}{dk:List Zu}{o:DOp}(hg:Zy ρ o.guard=sO true){z:List D}{x:Opd}{sz b off n cap:Nat}(hk:o.k=.clear sz z x){p:Prop}(ha:Z9 ρ true x=sO (p,.d (.msl b off n cap sz)))(hp:p){cs:List D}(hcs:Wk s b=sO cs)(hlen:off+n*sz≤cs.length)(h:DO F kp dk os (ZX ρ o.dst (.d (.tup []))) L (s.upd b (.cells (ZF cs off (Ju z n))))):DO F kp dk (o::os) ρ L s:=by
 refine Qu fun oo g ν w tmps ops i r k hoo hck hcg hdst hd hN m hr hkk=>?_
 have hw:=WC m hcg hg
 have hnd:=WS hck (by rw[hk];rfl)
 rw[hk]at hck
 obtain⟨ats,t,e,x',hop,hat,hu,hsz,hz,hx',h0,hzl⟩:=Zu9 hck
 obtain⟨zv,hz1,hz2,hz3,ie,hie,hzz⟩:=Zbh (g:=g) (w:=w) hz
 have hzlen:zv.cells.size=sz:=by have:=hz2.len;simp at this;omega
 have hrep:Rep g w _ _:=Wx m hx' rfl ha hp F.ds
 generalize hvv:(Act.mk tmps F.ds).eval x'=vv at hrep
 have hsb:s b=sO (.cells cs):=by
  unfold Wk at hcs
  split at hcs<;>simp only[Zyd,reduceCtorEq]at hcs
  subst hcs;assumption
 obtain⟨zl1,zl2⟩:=ZjR (z:=z) (n:=sz) (c:=n) hzl
 have hzs:Yh (Rep g w) (Builtin.zeroCells zv.cells n).toList (Ju z n):=by
  refine WG (by rw[Array.length_toList,size_zeroCells,zl1,hzlen]) fun i v d hv hd=>?_
  have hi:i<n*sz:=by rw[←zl1];exact(List.getElem?_eq_some_iff.1 hd).1
  rw[zl2 i hi]at hd
  have hm:i % sz<sz:=Nat.mod_lt _ h0
  simp only[Builtin.zeroCells,Array.toList_map,Array.toList_range,List.getElem?_map,Zym,hzlen]at hv
  obtain⟨a,ha,rfl⟩:=hv
  rw[List.getElem?_range hi]at ha
  simp only[Zyd]at ha
  subst ha
  refine hz2.get (i % sz) _ d ?_ hd
  rw[getElem!_pos zv.cells (i % sz) (by omega)]
  simp[hzlen,hm]
 have hone:∀v∈(Builtin.zeroCells zv.cells n).toList,v.one1=true:=fun v hv=>by
  simp only[Builtin.zeroCells,Array.mem_toList_iff,Array.mem_map]at hv
  obtain⟨a,_,rfl⟩:=hv
  by_cases hs0:zv.cells.size=0
  ·omega
  ·exact hz3 _ (by rw[getElem!_pos zv.cells _ (Nat.mod_lt _ (by omega))];exact Array.getElem_mem _)
 have hset0:n=0→ZF cs off (Ju z n)=cs:=fun hn=>by subst hn;simp[ZF,Ju]
 have main:∃w',(Builtin.clear_ ats oo.type #[vv]).run P w=.ok (.tuple #[]) w'∧Ext g w g w'∧w'.heap.size=w.heap.size∧(∀c,c≠b→w'.heap[c]?=w.heap[c]?)∧KX g w' b (ZF cs off (Ju z n)):=by
  have hc0:=ZaJ m.st hcs
  cases hrep with
  |mslx a =>
   refine⟨w,?_,Ext.refl g w,rfl,fun _ _=>rfl,by rw[hset0 rfl];exact hc0⟩
   simp[Builtin.clear_,hat,run_underlying hu]
  |msl _ _ _ _ _ h1 h2 =>
   cases n with
   |zero =>
    refine⟨w,?_,Ext.refl g w,rfl,fun _ _=>rfl,by rw[hset0 rfl];exact hc0⟩
    simp[Builtin.clear_,hat,run_underlying hu]
   |succ n =>
    obtain⟨w',a1,a2,a3,a4,a5⟩:=Zf0 (P:=P) hc0 hzs hone (by rw[zl1];exact hlen) (m.st.kept b _ hsb)
    refine⟨w',?_,a2,a3,a4,a5⟩
    simp only[Builtin.clear_,hat,List.getElem?_toArray,List.getElem?_cons_zero,Sem.run_bind,run_underlying hu,Result.andThen_ok,hz1,a1,Sem.run_pure]
 obtain⟨w',a1,a2,a3,a4,a5⟩:=main
 have m':=m.named (o':=.cells (ZF cs off (Ju z n))) hsb a2 a3 a4 a5
 refine KQ (L':=L) hN hoo hdst hd hw hnd (v:=.tuple #[]) (e:=.d (.tup [])) ?_ a2 m' (Rep.tup [] [] rfl (by simp)) (h ops r k hr hkk)
 simp only[execOp,hop,resolve,invoke,builtin,Sem.run_bind,Sem.run_pure,Result.andThen_ok,List.map_toArray,Zyp,ZyF,hvv,a1]
def ZaI(P:Program)(s:St)(sz:Nat)(dy:D)(m:Nat)(row:Nat→List D):Prop :=
 ∀g w v,WQ g s w→Rep g w v dy→0<sz→∃news,Q8 g w sz m news row∧Zcx P w sz m v news
theorem ZaI.elems{sz:Nat}{dy:D}{m:Nat}(h:ZcB sz dy=sO (m,row)):ZaI P s sz dy m row:=fun g w v _ hr h0=>ZpT (P:=P) hr h h0
theorem ZaI.msl{sz b off n cap:Nat}{cs:List D}(hcs:Wk s b=sO cs)(hlen:off+n*sz≤cs.length):ZaI P s sz (.msl b off n cap sz) n (fun i=>part cs (off+i*sz) sz):=fun g w v hs hr h0=>by
 obtain⟨hp,cur,T,hb,hcl,hcr,hco⟩:=ZaJ hs hcs
 let vals:=(cur.toList.drop off).take (n*sz)
 have hvl:vals.length=n*sz:=by simp[vals];omega
 have hval:∀k,k<n*sz→vals[k]?=cur[off+k]?:=fun k hk=>by
  simp only[vals,ZyO,hk,if_true,List.getElem?_drop,Array.getElem?_toList]
 have hk:∀i j,i<n→j<sz→i*sz+j<n*sz:=fun i j hi hj=>by
  have:(i+1)*sz≤n*sz:=ZyD _ hi
  rw[ZyI,Nat.one_mul]at this;omega
 refine⟨vals,⟨hvl,fun i hi=>?_,fun i j v d hi hj hv hd=>?_,fun v hv=>?_⟩,?_⟩
 ·have:=hk i (sz-1) hi (by omega)
  simp only[part,Zyw,ZyU];omega
 ·rw[hval _ (hk i j hi hj)]at hv
  refine hcr _ v d hv ?_
  simp only[part,ZyO,hj,if_true,List.getElem?_drop]at hd
  rw[←hd];congr 1;omega
 ·obtain⟨k,hk',rfl⟩:=ZyC hv
  have h1:=hval k (by omega)
  rw[ZyK hk']at h1
  exact hco _ (Array.mem_of_getElem? h1.symm)
 ·cases hr with
  |mslx a =>
   have:vals=[]:=List.eq_nil_of_length_eq_zero (by simpa using hvl)
   rw[this]
   exact⟨fun w2=>by simp[Builtin.lenOf],fun w2 _=>by simp[Builtin.firstCells,loadCells,loadCellsFrom]⟩
  |msl _ _ _ _ _ h1 h2 =>
   refine⟨fun w2=>by simp[Builtin.lenOf],fun w2 hw2=>?_⟩
   refine run_firstCells_some (P:=P) w2 sz n ⟨b,off,nO⟩ n cap vals hvl fun k v hv=>?_
   have hkl:k<n*sz:=by rw[←hvl];exact(List.getElem?_eq_some_iff.1 hv).1
   rw[hval k hkl]at hv
   rw[Ji,Za6 (hw2▸rfl:w2.heap[b]?=w.heap[b]?),Zc7 hb]
   exact hv
theorem Zsf{F:Fr P}{dk:List Zu}{o:DOp}(hg:Zy ρ o.guard=sO true){e sz b:Nat}{z:List D}{x y:Opd}(hk:o.k=.append e sz b z x y){p q:Prop}{t:Tok}{n m:Nat}{row row2:Nat→List D}{dy:D}{dx:D}(hx:Z9 ρ true x=sO (p,.d dx))(hsl:Zfr sz dx=sO (t,n,row))(hy:Z9 ρ true y=sO (q,.d dy))(hp:p)(hq:q)(hel:ZaI P (s.own t (n*sz)) sz dy m row2)(hok:t.okIn s)(hb:(n+m)*b≤140737488355328)(hbig:n+m≤big)(h:∀t':Tok,t'.okIn s→DO F kp dk os (ZX ρ o.dst (.d (.sl t' (n+m) sz (Q2 n row row2)))) L (s.own t' ((n+m)*sz))):
  DO F kp dk (o::os) ρ L (s.own t (n*sz)):=by
 refine Qu fun oo g ν w tmps ops i r k hoo hck hcg hdst hd hN M hr hkk=>?_
 have hw:=WC M hcg hg
 have hnd:=WS hck (by rw[hk];rfl)
 rw[hk]at hck
 obtain⟨x',y',args,ats,t1,t2,tu,hop,hargs,ha1,ha2,hu1,hu2,hnu,hsz,hz,hbb,hx',hy',h0,hzl⟩:=Zet hck
 subst hbb
 have hr1:Rep g w _ (.sl t n sz row):=ZjW (Wx M hx' rfl hx hp F.ds) hsl
 have hr2:Rep g w _ _:=Wx M hy' rfl hy hq F.ds
 obtain⟨zv,hz1,hz2,hz3,ie,hie,hzz⟩:=Zbh (g:=g) (w:=w) hz
 have hsize:ie.size=sz:=by simpa[YY,hie]using hsz
 have hzlen:zv.cells.size=sz:=by have:=hz2.len;simp at this;omega
 have hby:P.bytesOf e=ie.bytes:=by simp[Program.bytesOf,hie]
 rw[hby]at hb
 obtain⟨news,hn1,hn2⟩:=hel _ _ _ M.st hr2 h0
 obtain⟨v',w',g',t',a1,a2,a3,a4,a5,a6,a7⟩:=Zpq (ty:=oo.type) hu1 hu2 hnu hie hzz hsize hzlen h0 M.st hok hr1 hn1 hn2 hb hbig
 have hne:∀l cs,Zo L l=sO cs→t≠.tip (ν l):=fun l cs hl ht=>by
  have:=M.locSt l cs hl
  rw[ht]at this
  simp[St.own,St.upd]at this
 have hsn:∀l cs,Zo L l=sO cs→s (ν l)=nO:=fun l cs hl=>by
  cases hx:s (ν l) with
  |none=>rfl
  |some o=>have:=Qz (k:=n*sz) hok _ _ hx;rw[M.locSt l cs hl]at this;simp at this
 have mm:ZO g' ν w' tmps ρ L (s.own t' ((n+m)*sz)):=by
  refine⟨a3,fun l cs hl=>(M.loc l cs hl).mono a2 (a6 (ν l) (M.loc l cs hl).lt (hne l cs hl)).1 (a6 (ν l) (M.loc l cs hl).lt (hne l cs hl)).2,fun l cs hl=>by rw[a2.keptEq];exact M.locKept l cs hl,fun l cs hl=>?_,M.inj,fun t e he=>(M.env t e he).mono a2⟩
  cases t' with
  |tip b =>
   have:¬ν l=b:=fun hb=>by
    rcases a7 b rfl with h1|h1
    ·exact hne l cs hl (by rw[hb];exact h1)
    ·have:=(M.loc l cs hl).lt;omega
   simp only[St.own,St.upd,this,if_false];exact hsn l cs hl
  |_=>exact hsn l cs hl
 refine KQ hN hoo hdst hd hw hnd (v:=v') (w':=w') (e:=.d (.sl t' (n+m) sz (Q2 n row row2))) ?_ a2 mm a5 (h t' a4 ops r k hr hkk)
 have hae:args = #[x',y']:=by apply Array.ext';simpa using hargs
 have hats:∀vs,Builtin.append_ ats oo.type vs=Builtin.append_ #[t1,t2] oo.type vs:=fun vs=>by
  unfold Builtin.append_;simp[ha1,ha2]
 unfold execOp
 simp only[hop,hae,resolve,invoke,builtin,Sem.run_bind,Sem.run_pure,Result.andThen_ok,List.map_toArray,Zyp,ZyF,hats,a1]
theorem ZdU{sz m:Nat}{row:Nat→List D}(h:∀i,i<m→(row i).length=sz):∀k,k≤m→((Zyl k).flatMap row).length=k*sz
 |0,_=>by simp
 |k+1,hk=>by
  rw[List.range_succ,List.flatMap_append,Zyr,ZdU h k (by omega)]
  simp[h k hk,ZyI]
theorem Zla{sz m:Nat}{row:Nat→List D}(h:∀i,i<m→(row i).length=sz):∀(k i j:Nat),k≤m→i<k→j<sz→((Zyl k).flatMap row)[i*sz+j]?=(row i)[j]?
 |0,i,j,_,hi,_=>by omega
 |k+1,i,j,hk,hi,hj=>by
  rw[List.range_succ,List.flatMap_append]
  have hl:=ZdU h k (by omega)
  by_cases hik:i<k
  ·have:i*sz+j<k*sz:=by
    have:(i+1)*sz≤k*sz:=ZyD _ hik
    rw[ZyI,Nat.one_mul]at this;omega
   rw[ZyM (by omega)]
   exact Zla h k i j (by omega) hik hj
  ·obtain rfl:i=k:=by omega
   rw[List.getElem?_append_right (by omega),hl]
   simp[List.flatMap_cons]
theorem Q8.flat{sz m:Nat}{vs:List Value}(h:Q8 g w sz m vs row):Yh (Rep g w) vs ((Zyl m).flatMap row):=by
 have hl:=ZdU h.rlen m (Zys _)
 refine WG (by rw[h.len,hl]) fun k v d hv hd=>?_
 have hk:k<m*sz:=by rw[←hl];exact(List.getElem?_eq_some_iff.1 hd).1
 have hs:0<sz:=by
  rcases Nat.eq_zero_or_pos sz with h|h
  ·subst h;simp at hk
  ·exact h
 have h1:k / sz<m:=(Nat.div_lt_iff_lt_mul hs).2 hk
 have h2:k % sz<sz:=Nat.mod_lt _ hs
 have e:k / sz*sz+k % sz=k:=by rw[Nat.mul_comm];exact Nat.div_add_mod k sz
 rw[←e]at hv hd
 rw[Zla h.rlen m _ _ (Zys _) h1 h2]at hd
 exact h.rep _ _ v d h1 h2 hv hd
theorem ZuU{F:Fr P}{dk:List Zu}{o:DOp}(hg:Zy ρ o.guard=sO true){e sz b:Nat}{z:List D}{x y:Opd}(hk:o.k=.append e sz b z x y){p q:Prop}{m:Nat}{row row2:Nat→List D}{dy:D}{dx:D}(hx:Z9 ρ true x=sO (p,.d dx))(hsl:Zfr sz dx=sO (.full,0,row))(hy:Z9 ρ true y=sO (q,.d dy))(hel:ZaI P s sz dy m row2)(hp:p)(hq:q)(hm:0<m)(hb:m*b≤140737488355328)(hbig:m≤big)(h:∀c cap,s c=nO→m≤cap→DO F kp dk os (ZX ρ o.dst (.d (.msl c 0 m cap sz))) L (s.upd c (.cells ((Zyl m).flatMap row2++List.replicate ((cap-m)*sz) .any)))):
  DO F kp dk (o::os) ρ L s:=by
 refine Qu fun oo g ν w tmps ops i r k hoo hck hcg hdst hd hN M hr hkk=>?_
 have hw:=WC M hcg hg
 have hnd:=WS hck (by rw[hk];rfl)
 rw[hk]at hck
 obtain⟨x',y',args,ats,t1,t2,tu,hop,hargs,ha1,ha2,hu1,hu2,hnu,hsz,hz,hbb,hx',hy',h0,hzl⟩:=Zet hck
 subst hbb
 have hr1:Rep g w _ (.sl .full 0 sz row):=ZjW (Wx M hx' rfl hx hp F.ds) hsl
 have hr2:Rep g w _ _:=Wx M hy' rfl hy hq F.ds
 obtain⟨zv,hz1,hz2,hz3,ie,hie,hzz⟩:=Zbh (g:=g) (w:=w) hz
 have hsize:ie.size=sz:=by simpa[YY,hie]using hsz
 have hzlen:zv.cells.size=sz:=by have:=hz2.len;simp at this;omega
 have hby:P.bytesOf e=ie.bytes:=by simp[Program.bytesOf,hie]
 rw[hby]at hb
 obtain⟨news,hn1,hn2⟩:=hel _ _ _ M.st hr2 h0
 obtain⟨cap,cv,a1,a2,a3,a4,a5,a6⟩:=Zwf (ty:=oo.type) hu1 hu2 hnu hie hzz hsize hzlen hz3 h0 M.st hr1 hm hn1 hn2 hb hbig
 have hgr:ZbD g w g (w.drew.alloc (.cells cv e)):=Zoc (g:=g) (w:=w) cv e M.st.fresh
 have he:=hgr.ext M.st.fresh
 have hfl:=ZdU hn1.rlen m (Zys _)
 have hob:Q6 g (w.drew.alloc (.cells cv e)) w.heap.size (.cells ((Zyl m).flatMap row2++List.replicate ((cap-m)*sz) .any)) :=
  ⟨(M.st.fresh _ (Zys _)).1,_,e,JJ w.drew _,by rw[Zyr,hfl,List.length_replicate,a4,←ZyI];congr 1;omega,fun i v d hv hd=>(a6 i v d hv hd).mono he,a5⟩
 obtain⟨hn,m'⟩:=M.newObj hgr hob
 refine KQ (L':=L) hN hoo hdst hd hw hnd (e:=.d (.msl w.heap.size 0 m cap sz)) ?_ he m' (Rep.msl _ _ _ _ _ a2 a3) (h _ cap hn a2 ops r k hr hkk)
 have hae:args = #[x',y']:=by apply Array.ext';simpa using hargs
 have hats:∀vs,Builtin.append_ ats oo.type vs=Builtin.append_ #[t1,t2] oo.type vs:=fun vs=>by
  unfold Builtin.append_;simp[ha1,ha2]
 unfold execOp
 simp only[hop,hae,resolve,invoke,builtin,Sem.run_bind,Sem.run_pure,Result.andThen_ok,List.map_toArray,Zyp,ZyF,hats,a1]
theorem ZmV{F:Fr P}{dk:List Zu}{o:DOp}(hg:Zy ρ o.guard=sO true){e sz bt:Nat}{z:List D}{x y:Opd}(hk:o.k=.append e sz bt z x y){p q:Prop}{b off n cap m:Nat}{row2:Nat→List D}{dy:D}{cs:List D}(hx:Z9 ρ true x=sO (p,.d (.msl b off n cap sz)))(hy:Z9 ρ true y=sO (q,.d dy))(hp:p)(hq:q)(hcs:Wk s b=sO cs)(hlen:off+n*sz≤cs.length)(hel:ZaI P s sz dy m row2)(hroom:n+m≤cap→off=0∧(n+m)*sz≤cs.length)(hb:(n+m)*bt≤140737488355328)(hbig:n+m≤big)(h1:n+m≤cap→DO F kp dk os (ZX ρ o.dst (.d (.msl b off (n+m) cap sz))) L (s.upd b (.cells (ZF cs (n*sz) ((Zyl m).flatMap row2)))))(h2:∀c cap',cap<n+m→s c=nO→n+m≤cap'→DO F kp dk os (ZX ρ o.dst (.d (.msl c 0 (n+m) cap' sz))) L (s.upd c (.cells (part cs off (n*sz)++(Zyl m).flatMap row2++List.replicate ((cap'-(n+m))*sz) .any)))):
  DO F kp dk (o::os) ρ L s:=by
 refine Qu fun oo g ν w tmps ops i r k hoo hck hcg hdst hd hN M hr hkk=>?_
 have hw:=WC M hcg hg
 have hnd:=WS hck (by rw[hk];rfl)
 rw[hk]at hck
 obtain⟨x',y',args,ats,t1,t2,tu,hop,hargs,ha1,ha2,hu1,hu2,hnu,hsz,hz,hbb,hx',hy',h0,hzl⟩:=Zet hck
 subst hbb
 have hr1:Rep g w _ (.msl b off n cap sz):=Wx M hx' rfl hx hp F.ds
 have hr2:Rep g w _ _:=Wx M hy' rfl hy hq F.ds
 obtain⟨zv,hz1,hz2,hz3,ie,hie,hzz⟩:=Zbh (g:=g) (w:=w) hz
 have hsize:ie.size=sz:=by simpa[YY,hie]using hsz
 have hzlen:zv.cells.size=sz:=by have:=hz2.len;simp at this;omega
 have hby:P.bytesOf e=ie.bytes:=by simp[Program.bytesOf,hie]
 rw[hby]at hb
 have hsb:s b=sO (.cells cs):=by
  unfold Wk at hcs
  split at hcs<;>simp only[Zyd,reduceCtorEq]at hcs
  subst hcs;assumption
 obtain⟨news,hn1,hn2⟩:=hel _ _ _ M.st hr2 h0
 obtain⟨olds,ho1,ho2⟩:=ZaI.msl (P:=P) (s:=s) (cap:=cap) hcs hlen g w _ M.st hr1 h0
 have hae:args = #[x',y']:=by apply Array.ext';simpa using hargs
 have hats:∀vs,Builtin.append_ ats oo.type vs=Builtin.append_ #[t1,t2] oo.type vs:=fun vs=>by
  unfold Builtin.append_;simp[ha1,ha2]
 generalize hvx:(Act.mk tmps F.ds).eval x'=vx at hr1 ho2
 generalize hvy:(Act.mk tmps F.ds).eval y'=vy at hr2 hn2
 have hexec:∀v' w',(Builtin.append_ #[t1,t2] oo.type #[vx,vy]).run P w=.ok v' w'→(execOp (Act.mk tmps F.ds).eval oo).run P w=.ok (.value v') w':=fun v' w' hrun=>by
  unfold execOp
  simp only[hop,hae,resolve,invoke,builtin,Sem.run_bind,Sem.run_pure,Result.andThen_ok,List.map_toArray,Zyp,ZyF,hats,hvx,hvy,hrun]
 subst hsize
 have hfl:=ZdU hn1.rlen m (Zys _)
 have hpl:(part cs off (n*ie.size)).length=n*ie.size:=by simp only[part,Zyw,ZyU];omega
 have hflo:(Zyl n).flatMap (fun i=>part cs (off+i*ie.size) ie.size)=part cs off (n*ie.size):=by
  have hlo:=ZdU ho1.rlen n (Zys _)
  apply List.ext_getElem?
  intro k'
  by_cases hk':k'<n*ie.size
  ·have e1:k' / ie.size*ie.size+k' % ie.size=k':=by rw[Nat.mul_comm];exact Nat.div_add_mod k' ie.size
   have e2:k' / ie.size<n:=(Nat.div_lt_iff_lt_mul h0).2 hk'
   have e3:k' % ie.size<ie.size:=Nat.mod_lt _ h0
   have:=Zla ho1.rlen n _ _ (Zys _) e2 e3
   rw[e1]at this
   rw[this]
   simp only[part,ZyO,e3,if_true,List.getElem?_drop,hk']
   congr 1;omega
  ·rw[ZyV (by omega),ZyV (by omega)]
 have hgrow:∀base,vx=.slice base n cap→cap<n+m→F.T.T g w (lone (F.b.atR ⟨tmps,F.ds⟩ (.inRegion ops (i::r)::k)) F.cs w):=by
  intro base hv hlt
  subst hv
  have hrun:=Zk3 (ty:=oo.type) hu1 hu2 hnu hie hzz hn2 ho2.2 hlt (by simp only[big]at hbig;omega) hb
  have hge:=grownCap_ge w (n+m) cap e
  have hle:=grownCap_le_maxLen w (n+m) cap e (by simp only[big]at hbig;simp only[maxLen];omega)
  generalize grownCap w (n+m) cap e=cap' at hrun hge hle
  generalize hcv:(olds++news++(Builtin.zeroCells zv.cells (cap'-(n+m))).toList).toArray=cv at hrun
  have hzs:(Builtin.zeroCells zv.cells (cap'-(n+m))).toList.length=(cap'-(n+m))*ie.size:=by rw[Array.length_toList,size_zeroCells,hzlen]
  have hgr:ZbD g w g (w.drew.alloc (.cells cv e)):=Zoc (g:=g) (w:=w) cv e M.st.fresh
  have he:=hgr.ext M.st.fresh
  have hall:Yh (Rep g w) cv.toList (part cs off (n*ie.size)++(Zyl m).flatMap row2++List.replicate ((cap'-(n+m))*ie.size) .any):=by
   rw[←hcv,←hflo]
   refine(ho1.flat.append hn1.flat).append (WG (by rw[hzs,List.length_replicate]) fun k' v d hv hd=>?_)
   rw[List.getElem?_replicate]at hd
   split at hd<;>simp only[Zyd,reduceCtorEq]at hd
   subst hd;exact .any v
  have hone:∀v∈cv,v.one1=true:=fun v hv=>by
   rw[←hcv]at hv
   simp only[List.mem_toArray,List.mem_append]at hv
   rcases hv with (hv|hv)|hv
   ·exact ho1.one v hv
   ·exact hn1.one v hv
   ·simp only[Builtin.zeroCells,Array.mem_toList_iff,Array.mem_map]at hv
    obtain⟨a,_,rfl⟩:=hv
    exact hz3 _ (by rw[getElem!_pos zv.cells _ (Nat.mod_lt _ (by omega))];exact Array.getElem_mem _)
  have hob:Q6 g (w.drew.alloc (.cells cv e)) w.heap.size (.cells (part cs off (n*ie.size)++(Zyl m).flatMap row2++List.replicate ((cap'-(n+m))*ie.size) .any)) :=
   ⟨(M.st.fresh _ (Zys _)).1,_,e,JJ w.drew _,by simpa using hall.len,fun i v d hv hd=>(hall.get i v d (by simpa using hv) hd).mono he,hone⟩
  obtain⟨hn,m'⟩:=M.newObj hgr hob
  exact KQ (L':=L) hN hoo hdst hd hw hnd (e:=.d (.msl w.heap.size 0 (n+m) cap' ie.size)) (hexec _ _ hrun) he m' (Rep.msl _ _ _ _ _ hge (by simp only[maxLen]at hle;simp only[big];omega)) (h2 _ cap' hlt hn hge ops r k hr hkk)
 have hstay:∀base,vx=.slice base n cap→base=sO ⟨b,off,nO⟩∨(n+m=0∧cap=0)→n+m≤cap→F.T.T g w (lone (F.b.atR ⟨tmps,F.ds⟩ (.inRegion ops (i::r)::k)) F.cs w):=by
  intro base hv hbase hle
  subst hv
  obtain⟨ho0,hfit0⟩:=hroom hle
  subst ho0
  obtain⟨hpr,cur,T,hb1,hcl,hcr,hco⟩:=ZaJ M.st hcs
  by_cases hm0:m=0
  ·subst hm0
   have hne:news=[]:=List.eq_nil_of_length_eq_zero (by simpa using hn1.len)
   subst hne
   have hrun:=ZnW (ty:=oo.type) (n:=n) (cap:=cap) (base:=base) hu1 hu2 hnu hie hn2 (by omega)
   have hset:ZF cs (n*ie.size) ((Zyl 0).flatMap row2)=cs:=by simp[ZF]
   have hup:s.upd b (.cells cs)=s:=by funext c;simp only[St.upd];split<;>simp_all
   have hgo:=h1 hle
   rw[hset,hup]at hgo
   exact KQ (L':=L) (s':=s) hN hoo hdst hd hw hnd (e:=.d (.msl b 0 (n+0) cap ie.size)) (hexec _ _ hrun) (Ext.refl g w) M (by rw[Nat.add_zero];exact hr1) (hgo ops r k hr hkk)
  ·have hbase':base=sO ⟨b,0,nO⟩:=hbase.resolve_right (fun h=>hm0 (by omega))
   subst hbase'
   have hfit:n*ie.size+news.length≤cur.size:=by rw[hn1.len,←ZyI,hcl];exact hfit0
   have hrun:=Zpr (ty:=oo.type) hu1 hu2 hnu hie hn2 hb1 (fun v hv=>by rw[Zd2];exact hn1.one v hv) hle hfit
   obtain⟨w',a1,a2,a3,a4,a5⟩:=Zf0 (P:=P) (off:=n*ie.size) (ZaJ M.st hcs) hn1.flat hn1.one (by rw[hfl,←ZyI];exact hfit0) (M.st.kept b _ hsb)
   have hst:=run_storeCells_at (P:=P) b (n*ie.size) T news 0 cur w hb1 (by simpa using hfit) (fun v hv=>by rw[Zd2];exact hn1.one v hv)
   simp only[Nat.add_zero]at hst
   rw[a1]at hst
   simp only[Result.ok.injEq,true_and]at hst
   rw[←hst]at hrun
   have m':=M.named (o':=.cells (ZF cs (n*ie.size) ((Zyl m).flatMap row2))) hsb a2 a3 a4 a5
   exact KQ (L':=L) hN hoo hdst hd hw hnd (e:=.d (.msl b 0 (n+m) cap ie.size)) (hexec _ _ hrun) a2 m' (by
    cases hr1 with
    |msl _ _ _ _ _ _ hcb=>exact Rep.msl _ _ _ _ _ hle hcb
    |mslx a=>exact absurd hle (by omega)) (h1 hle ops r k hr hkk)
 cases hr1 with
 |msl _ _ _ _ _ hc1 hc2 =>
  by_cases hle:n+m≤cap
  ·exact hstay _ rfl (.inl rfl) hle
  ·exact hgrow _ rfl (by omega)
 |mslx a =>
  by_cases hle:0+m≤0
  ·exact hstay _ rfl (.inr ⟨by omega,rfl⟩) hle
  ·exact hgrow _ rfl (by omega)
end
section
variable {P:Program} {F:Fr P} {ks:Option (List Nat)} {dk:List Zu} {ρ:Env} {L:Loc} {s:St}
theorem rgR{r os:List DOp}(e:r=os)(h:DO F ks dk os ρ L s):ZS F (.code (.reg r ks)::dk) ρ L s:=by subst e;exact Ys h
theorem ZxJ{o:List Nat}{r os:List DOp}(e:r=os)(h:ZdO F ks dk os ρ L s):ZS F (.code (.regD o (Jo r) ks)::dk) ρ L s:=by subst e;exact Zdj h
theorem rgD{o:List Nat}{r os:List (DOp×List Nat)}(e:r=os)(h:DOA F ks dk os ρ L s []):ZS F (.code (.regD o r ks)::dk) ρ L s:=by subst e;exact Zep h
end
structure Hid(p:Prop):Prop where
 out:p
theorem nd2{a b:Prop}(x:a)(y:b):a∧b:=⟨x,y⟩
theorem mv{A B:Prop}(k:B)(h:Hid B→A:=by
 intro hk
 repeat(first|refine Zi ?_|refine ZW ?_|refine Qf ?_|refine Yw ?_|refine Jx ?_|refine Zh ?_|refine Jy ?_|refine Wr rfl ?_)
 exact hk.out):A:=h ⟨k⟩
theorem rg{A B:Prop}(k:B)(h:Hid B→A:=by
 intro hk
 repeat(first|refine Zi ?_|refine ZW ?_|refine Qf ?_|refine Yw ?_|refine Jx ?_|refine Zh ?_|refine Jy ?_|refine Wr rfl ?_)
 first|refine rgR (by conv=>lhs;whnf) (Za ?_)|refine ZxJ (by conv=>lhs;whnf) (Ql ?_)|refine rgD (by conv=>lhs;whnf) (Y6 ?_)
 simp only[Eqs,reduceCtorEq,Int.reduceToNat,reduceIte,Nat.reduceEqDiff,Nat.reduceAdd,Nat.reduceLeDiff]
 exact hk.out):A:=h ⟨k⟩
theorem rx{p:Prop}(e:p){A B:Prop}(k:B)(h:p→Hid B→A:=by
 intro e1 hk
 repeat(first|refine Zi ?_|refine ZW ?_|refine Qf ?_|refine Yw ?_|refine Jx ?_|refine Zh ?_|refine Jy ?_|refine Wr rfl ?_)
 first|refine rgR (by conv=>lhs;whnf) (Za ?_)|refine ZxJ (by conv=>lhs;whnf) (Ql ?_)|refine rgD (by conv=>lhs;whnf) (Y6 ?_)
 simp only[Eqs,reduceCtorEq,Int.reduceToNat,reduceIte,Nat.reduceEqDiff,Nat.reduceAdd,Nat.reduceLeDiff,e1]
 exact hk.out):A:=h e ⟨k⟩
theorem aa{A B:Prop}(k:B)(h:Hid B→A:=by
 intro hk
 repeat(refine And.intro (by first|omega|trivial|(intro h0;simp at h0;omega)) ?_)
 exact hk.out):A:=h ⟨k⟩
theorem cl{q:Prop}(c:q){A B:Prop}(k:B)(h:q→Hid B→A:=by
 intro hc hk
 refine YF rfl rfl rfl rfl rfl (by trivial) (by trivial) hc (Za ?_)
 simp only[Eqs,reduceCtorEq,Int.reduceToNat,reduceIte,Nat.reduceEqDiff,Nat.reduceAdd,Nat.reduceLeDiff]
 exact hk.out):A:=h c ⟨k⟩
theorem ct{q:Prop}(c:q){A B:Prop}(k:B)(h:q→Hid B→A:=by
 intro hc hk
 refine JN rfl rfl rfl rfl rfl (by trivial) (by trivial) hc (Za ?_)
 simp only[Eqs,reduceCtorEq,Int.reduceToNat,reduceIte,Nat.reduceEqDiff,Nat.reduceAdd,Nat.reduceLeDiff]
 exact hk.out):A:=h c ⟨k⟩
theorem cl0{q:Prop}(c:q){A B:Prop}(k:B)(h:q→Hid B→A:=by
 intro hc hk
 refine Zdh rfl rfl rfl rfl rfl (by trivial) (by trivial) hc (Ql ?_)
 simp only[Eqs,reduceCtorEq,Int.reduceToNat,reduceIte,Nat.reduceEqDiff,Nat.reduceAdd,Nat.reduceLeDiff]
 exact hk.out):A:=h c ⟨k⟩
theorem clD{q:Prop}(c:q){A B:Prop}(k:B)(h:q→Hid B→A:=by
 intro hc hk
 refine ZaF rfl rfl rfl rfl rfl (by trivial) (by trivial) hc (Y6 ?_)
 simp only[Eqs,reduceCtorEq,Int.reduceToNat,reduceIte,Nat.reduceEqDiff,Nat.reduceAdd,Nat.reduceLeDiff]
 exact hk.out):A:=h c ⟨k⟩
theorem ctD{q:Prop}(c:q){A B:Prop}(k:B)(h:q→Hid B→A:=by
 intro hc hk
 refine Zc5 rfl rfl rfl rfl rfl (by trivial) (by trivial) hc (by first|trivial|exact⟨rfl,trivial⟩|simp[KB,JA]) (Y6 ?_)
 simp only[Eqs,reduceCtorEq,Int.reduceToNat,reduceIte,Nat.reduceEqDiff,Nat.reduceAdd,Nat.reduceLeDiff]
 exact hk.out):A:=h c ⟨k⟩
section
variable {P:Program} {F:Fr P} {dk:List Zu} {ρ:Env} {L:Loc} {s:St}
theorem cd{o:Opd}{x y:DC}{b:Bool}{p:Prop}(ht:b=true→ZS F (.code x::dk) ρ L s)(hf:b=false→ZS F (.code y::dk) ρ L s)(ho:Z9 ρ true o=sO (p,.d (.bool b)):=by rfl)(hp:p:=by trivial):ZS F (.code (.cond o x y)::dk) ρ L s:=YC ho hp ht hf
end
theorem rb{p:Prop}(c:p){A B:Prop}(k:B)(h:p→Hid B→A:=by
 intro hret hk
 repeat(first|refine Zi ?_|refine ZW ?_|refine Qf ?_|refine Yw ?_|refine Jx ?_|refine Zh ?_|refine Jy ?_|refine Wr rfl ?_)
 exact hret rfl (by first|trivial|simp) (Zfe hk.out) (by first|exact Zyi _|exact Qz (by first|trivial|assumption)|assumption|exact ZyJ _ (by assumption))):A:=h c ⟨k⟩
theorem ri{p:Prop}(c:p){A B:Prop}(k:B)(h:p→Hid B→A:=by
 intro hret hk
 repeat(first|refine Zi ?_|refine ZW ?_|refine Qf ?_|refine Yw ?_|refine Jx ?_|refine Zh ?_|refine Jy ?_|refine Wr rfl ?_)
 exact hret rfl (by first|trivial|simp) (ZlC hk.out) (by first|exact Zyi _|exact Qz (by first|trivial|assumption)|assumption|exact ZyJ _ (by assumption))):A:=h c ⟨k⟩
theorem rs{p:Prop}(c:p){A B:Prop}(k:B)(h:p→Hid B→A:=by
 intro hret hk
 repeat(first|refine Zi ?_|refine ZW ?_|refine Qf ?_|refine Yw ?_|refine Jx ?_|refine Zh ?_|refine Jy ?_|refine Wr rfl ?_)
 exact hret rfl (by first|trivial|simp) (Zxe hk.out) (by first|exact Zyi _|exact Qz (by first|trivial|assumption)|assumption|exact ZyJ _ (by assumption))):A:=h c ⟨k⟩
theorem ro{p:Prop}(c:p){A B:Prop}(k:B)(h:p→Hid B→A:=by
 intro hret hk
 repeat(first|refine Zi ?_|refine ZW ?_|refine Qf ?_|refine Yw ?_|refine Jx ?_|refine Zh ?_|refine Jy ?_|refine Wr rfl ?_)
 exact hret rfl (by first|trivial|simp) (Zxc hk.out) (by first|exact Zyi _|exact Qz (by first|trivial|assumption)|assumption|exact ZyJ _ (by assumption))):A:=h c ⟨k⟩
theorem rt{p:Prop}(c:p){A B:Prop}(k:B)(h:p→Hid B→A:=by
 intro hret hk
 repeat(first|refine Zi ?_|refine ZW ?_|refine Qf ?_|refine Yw ?_|refine Jx ?_|refine Zh ?_|refine Jy ?_|refine Wr rfl ?_)
 exact hret rfl (by first|trivial|simp) (Za4 hk.out rfl) (by first|exact Zyi _|exact Qz (by first|trivial|assumption)|assumption|exact ZyJ _ (by assumption))):A:=h c ⟨k⟩
theorem fr{P:Program}{F:Fr P}{x:DC}{dk:List Zu}(N:Nat)(M:Nat→(Env→Loc→St→Prop)→Prop)(h:∀n,(∀m,m<n→∀i,N-i=m→M i fun ρ L s=>ZS F (.code x::.inLoop x::dk) ρ L s)→∀i,N-i=n→M i fun ρ L s=>ZS F (.code x::.inLoop x::dk) ρ L s)(g:(∀n i,N-i=n→M i fun ρ L s=>ZS F (.code x::.inLoop x::dk) ρ L s)→ZS F (.code x::.inLoop x::dk) ρ L s):ZS F (.code (.loop x)::dk) ρ L s :=
 ZaG (g fun n=>Nat.strongRecOn n h)
theorem i0{A B:Prop}(k:B)(h:Hid B→A:=by
 intro hq
 repeat(first|refine Zi ?_|refine ZW ?_|refine Qf ?_|refine Yw ?_|refine Jx ?_|refine Zh ?_|refine Jy ?_|refine Wr rfl ?_)
 exact YC rfl trivial (fun h=>by first|(simp at h;done)|(rw[hk]at h;simp at h;done)) (fun _=>hq.out)):A:=h ⟨k⟩
theorem i1{A B:Prop}(k:B)(h:Hid B→A:=by
 intro hq
 repeat(first|refine Zi ?_|refine ZW ?_|refine Qf ?_|refine Yw ?_|refine Jx ?_|refine Zh ?_|refine Jy ?_|refine Wr rfl ?_)
 exact YC rfl trivial (fun _=>hq.out) (fun h=>by first|(simp at h;done)|(rw[hk]at h;simp at h;done))):A:=h ⟨k⟩
theorem kl{P:Program}{F:Fr P}{dk:List Zu}(s':St)(ρ':Env)(L':Loc)(h1:LeE ρ ρ')(h2:LeL L L')(h:ZS F dk ρ' L' s')(hs:s'.sub s:=by first|exact Zyi _|exact Qz (by first|trivial|assumption)|exact ZyT (Qz (by first|trivial|assumption)) (Qz (by first|trivial|assumption))|assumption):ZS F dk ρ L s :=
 J9 hs (Zwb h1 h2 h)
inductive V where
 |int (k:IntKind) (n:Int)
 |bool (b:Bool)
 |str (s:List Nat)
 |agg (cs:List V)
 |tup (vs:List V)
 |nilsl
 |sl (t n s:Nat) (rows:List V)
 |ep (cs:List V) (off:Nat)
 |nilptr
 |ptr (b off:Nat)
 |msl (b off n:Nat) (cap:Option Nat) (s:Nat)
 |map (b:Nat)
 |nilmap
 |fn (f:FuncId) (first caps:List V)
 |yield (l:Nat)
 |nilfn
 |iface (t:TypeId) (v:V)
 |niliface
 |stamp (n:Nat)
def Za1{α:Type}(a:α):Option (List α)→Option (List α)
 |some l=>sO (a::l)
 |none=>nO
theorem JO{α:Type}{a:α}{x:Option (List α)}{r:List α}(h:Za1 a x=sO r):∃q,x=sO q∧r=a::q:=by
 cases x with
 |none=>simp[Za1]at h
 |some q=>simp only[Za1,Zyd]at h;exact⟨q,rfl,h.symm⟩
def Zm4{α:Type}(n:Nat)(x y:List α):List α :=
 Nat.rec (motive:=fun _=>List α→List α) (fun _=>y) (fun _ ih l=>match l with
  | []=>y
  |a::t=>a::ih t) n x
theorem ZgS{α:Type}:∀{n:Nat} {x y:List α},x.length=n→Zm4 n x y=x++y
 |0,[],y,_=>rfl
 |0,a::x,y,h=>by simp at h
 |n+1,[],y,h=>by simp at h
 |n+1,a::x,y,h=>congrArg (a::·) (ZgS (n:=n) (x:=x) (y:=y) (by simpa using h))
def ZhN{α:Type}(n:Nat):List α→Option α :=
 Nat.rec (motive:=fun _=>List α→Option α) (fun l=>match l with
  | []=>nO
  |a::_=>sO a) (fun _ ih l=>match l with
  | []=>nO
  |_::t=>ih t) n
theorem Zj5{α:Type}:∀(n:Nat) (l:List α),ZhN n l=l[n]?
 |0,[]=>rfl
 |0,a::l=>rfl
 |n+1,[]=>rfl
 |n+1,a::l=>(Zj5 n l).trans (by simp)
def ZcP{α:Type}(n:Nat):List α→List α :=
 Nat.rec (motive:=fun _=>List α→List α) (fun l=>l) (fun _ ih l=>match l with
  | []=>[]
  |_::t=>ih t) n
theorem ZaW{α:Type}:∀(n:Nat) (l:List α),ZcP n l=l.drop n
 |0,l=>rfl
 |n+1,[]=>rfl
 |n+1,a::l=>(ZaW n l).trans (by simp)
def Zcq{α:Type}(n:Nat):List α→Option (List α) :=
 Nat.rec (motive:=fun _=>List α→Option (List α)) (fun _=>sO []) (fun _ ih l=>match l with
  | []=>nO
  |a::t=>Za1 a (ih t)) n
theorem Zbv{α:Type}:∀{n:Nat} {l r:List α},Zcq n l=sO r→n≤l.length∧r=l.take n
 |0,l,r,h=>by
  have h':sO []=sO r:=h
  simp only[Zyd]at h'
  subst h';simp
 |n+1,[],r,h=>by
  have h':(nO:Option (List α))=sO r:=h
  simp at h'
 |n+1,a::l,r,h=>by
  obtain⟨q,hx,rfl⟩:=JO (show Za1 a (Zcq n l)=sO r from h)
  obtain⟨h1,h2⟩:=Zbv hx
  subst h2
  simp[h1]
def Zo3{α:Type}(o n:Nat)(l:List α):Option (List α):=match Nat.ble 1 n with
 |true=>Zcq n (ZcP o l)
 |false=>nO
theorem ZvH{α:Type}{o n:Nat}{l r:List α}(h:Zo3 o n l=sO r):o+n≤l.length∧r=(l.drop o).take n:=by
 unfold Zo3 at h
 split at h
 ·rename_i hn
  rw[Nat.ble_eq]at hn
  rw[ZaW]at h
  obtain⟨h1,h2⟩:=Zbv h
  simp only[ZyU]at h1
  exact⟨by omega,h2⟩
 ·simp at h
def Zs3{α:Type}(n:Nat):List α→List α→Option (List α) :=
 Nat.rec (motive:=fun _=>List α→List α→Option (List α)) (fun xs l=>match xs with
  | []=>sO l
  |_::_=>nO) (fun _ ih xs l=>match xs with
  | []=>nO
  |x::xs=>match l with
   | []=>nO
   |_::t=>Za1 x (ih xs t)) n
def Zjz{α:Type}(o n:Nat)(xs:List α):List α→Option (List α) :=
 Nat.rec (motive:=fun _=>List α→Option (List α)) (fun l=>Zs3 n xs l) (fun _ ih l=>match l with
  | []=>nO
  |a::t=>Za1 a (ih t)) o
theorem Zqp{α:Type}:∀{n:Nat} {xs l r:List α},Zs3 n xs l=sO r→xs.length=n∧n≤l.length∧r=xs++l.drop n
 |0,[],l,r,h=>by
  have h':sO l=sO r:=h
  simp only[Zyd]at h'
  subst h';simp
 |0,x::xs,l,r,h=>by
  have h':(nO:Option (List α))=sO r:=h
  simp at h'
 |n+1,[],l,r,h=>by
  have h':(nO:Option (List α))=sO r:=h
  simp at h'
 |n+1,x::xs,[],r,h=>by
  have h':(nO:Option (List α))=sO r:=h
  simp at h'
 |n+1,x::xs,a::l,r,h=>by
  obtain⟨q,hx,rfl⟩:=JO (show Za1 x (Zs3 n xs l)=sO r from h)
  obtain⟨h1,h2,h3⟩:=Zqp hx
  subst h3
  simp[h1,h2]
theorem ZnA{α:Type}:∀{o n:Nat} {xs l r:List α},Zjz o n xs l=sO r→xs.length=n∧o+n≤l.length∧r=l.take o++xs++l.drop (o+n)
 |0,n,xs,l,r,h=>by
  obtain⟨h1,h2,h3⟩:=Zqp (n:=n) (xs:=xs) (l:=l) (r:=r) h
  subst h3;simp[h1,h2]
 |o+1,n,xs,[],r,h=>by
  have h':(nO:Option (List α))=sO r:=h
  simp at h'
 |o+1,n,xs,a::l,r,h=>by
  obtain⟨q,hx,rfl⟩:=JO (show Za1 a (Zjz o n xs l)=sO r from h)
  obtain⟨h1,h2,h3⟩:=ZnA hx
  subst h3
  have e:o+1+n=(o+n)+1:=by omega
  simp[e,h1]
  omega
structure Bx(α:Type) where
 run:α
structure N8(α:Type) where
 a:α
 b:α
 c:α
 d:α
 e:α
 f:α
 g:α
 h:α
def N8.all{α:Type}(x:α):N8 α:=⟨x,x,x,x,x,x,x,x⟩
def Zc0{α:Type}:Nat→Bx (N8 α→α)
 |0=>⟨fun t=>t.a⟩
 |1=>⟨fun t=>t.b⟩
 |2=>⟨fun t=>t.c⟩
 |3=>⟨fun t=>t.d⟩
 |4=>⟨fun t=>t.e⟩
 |5=>⟨fun t=>t.f⟩
 |6=>⟨fun t=>t.g⟩
 |_=>⟨fun t=>t.h⟩
def Zja{α:Type}:Nat→Bx ((α→α)→N8 α→N8 α)
 |0=>⟨fun u t=>N8.casesOn t fun a b c d e f g h=>⟨u a,b,c,d,e,f,g,h⟩⟩
 |1=>⟨fun u t=>N8.casesOn t fun a b c d e f g h=>⟨a,u b,c,d,e,f,g,h⟩⟩
 |2=>⟨fun u t=>N8.casesOn t fun a b c d e f g h=>⟨a,b,u c,d,e,f,g,h⟩⟩
 |3=>⟨fun u t=>N8.casesOn t fun a b c d e f g h=>⟨a,b,c,u d,e,f,g,h⟩⟩
 |4=>⟨fun u t=>N8.casesOn t fun a b c d e f g h=>⟨a,b,c,d,u e,f,g,h⟩⟩
 |5=>⟨fun u t=>N8.casesOn t fun a b c d e f g h=>⟨a,b,c,d,e,u f,g,h⟩⟩
 |6=>⟨fun u t=>N8.casesOn t fun a b c d e f g h=>⟨a,b,c,d,e,f,u g,h⟩⟩
 |_=>⟨fun u t=>N8.casesOn t fun a b c d e f g h=>⟨a,b,c,d,e,f,g,u h⟩⟩
abbrev T(α:Type):=N8 (N8 (N8 (N8 (N8 (Option α)))))
def T.nil{α:Type}:T α:=N8.all (N8.all (N8.all (N8.all (N8.all nO))))
def T.getF{α:Type}(k:Nat):Bx (T α→Option α) :=
 match Nat.blt k 32768 with
 |true=>⟨fun t=>(Zc0 (Nat.mod k 8)).run ((Zc0 (Nat.mod (Nat.div k 8) 8)).run ((Zc0 (Nat.mod (Nat.div k 64) 8)).run ((Zc0 (Nat.mod (Nat.div k 512) 8)).run ((Zc0 (Nat.mod (Nat.div k 4096) 8)).run t))))⟩
 |false=>⟨fun _=>nO⟩
def T.setF{α:Type}(k:Nat):Bx (Option α→T α→T α) :=
 match Nat.blt k 32768 with
 |true=>⟨fun x=>(Zja (Nat.mod (Nat.div k 4096) 8)).run ((Zja (Nat.mod (Nat.div k 512) 8)).run ((Zja (Nat.mod (Nat.div k 64) 8)).run ((Zja (Nat.mod (Nat.div k 8) 8)).run ((Zja (Nat.mod k 8)).run fun _=>x))))⟩
 |false=>⟨fun _ t=>t⟩
def T.get{α:Type}(t:T α)(k:Nat):Option α:=(T.getF k).run t
def T.set{α:Type}(x:Option α)(t:T α)(k:Nat):T α:=(T.setF k).run x t
theorem Zwx{α:Type}{u:α→α}{t:N8 α}:∀{i j:Nat},i<8→j<8→(Zc0 i).run ((Zja j).run u t)=if i=j then u ((Zc0 i).run t) else (Zc0 i).run t:=by
 intro i j hi hj
 have key:∀i:Fin 8,∀j:Fin 8,(Zc0 i.val).run ((Zja j.val).run u t)=if i.val=j.val then u ((Zc0 i.val).run t) else (Zc0 i.val).run t:=by
  intro i j
  obtain⟨i,hi⟩:=i
  obtain⟨j,hj⟩:=j
  rcases i with _|_|_|_|_|_|_|_|i<;>(try omega)<;>rcases j with _|_|_|_|_|_|_|_|j<;>(try omega)<;>rfl
 exact key ⟨i,hi⟩ ⟨j,hj⟩
theorem T.get_set{α:Type}{x:Option α}{a:α}{t:T α}{k k':Nat}(h:(t.set x k).get k'=sO a):(k'=k∧x=sO a)∨(k'≠k∧t.get k'=sO a):=by
 unfold T.get at h⊢
 cases hb:Nat.blt k' 32768 with
 |false=>simp only[T.getF,hb,reduceCtorEq]at h
 |true =>
 have hk':=hb
 simp only[Nat.blt_eq]at hk'
 unfold T.set T.setF at h
 split at h
 ·rename_i hk
  simp only[Nat.blt_eq]at hk
  have m (n:Nat):Nat.mod n 8<8:=Nat.mod_lt _ (by omega)
  have dp:∀{β:Type} {u:β→β} {t:N8 β} (n n':Nat),(Zc0 (Nat.mod n 8)).run ((Zja (Nat.mod n' 8)).run u t)=if Nat.mod n 8=Nat.mod n' 8 then u ((Zc0 (Nat.mod n 8)).run t) else (Zc0 (Nat.mod n 8)).run t:=fun n n'=>Zwx (m n) (m n')
  simp only[T.getF,hb]at h⊢
  rw[dp]at h
  by_cases h5:Nat.mod (Nat.div k' 4096) 8=Nat.mod (Nat.div k 4096) 8
  ·rw[if_pos h5,dp]at h
   by_cases h4:Nat.mod (Nat.div k' 512) 8=Nat.mod (Nat.div k 512) 8
   ·rw[if_pos h4,dp]at h
    by_cases h3:Nat.mod (Nat.div k' 64) 8=Nat.mod (Nat.div k 64) 8
    ·rw[if_pos h3,dp]at h
     by_cases h2:Nat.mod (Nat.div k' 8) 8=Nat.mod (Nat.div k 8) 8
     ·rw[if_pos h2,dp]at h
      by_cases h1:Nat.mod k' 8=Nat.mod k 8
      ·rw[if_pos h1]at h
       refine .inl ⟨?_,h⟩
       have e1 (a b:Nat):Nat.mod a b=a % b:=rfl
       have e2 (a b:Nat):Nat.div a b=a / b:=rfl
       simp only[e1,e2]at h1 h2 h3 h4 h5
       omega
      ·rw[if_neg h1]at h;exact .inr ⟨fun e=>h1 (by rw[e]),h⟩
     ·rw[if_neg h2]at h;exact .inr ⟨fun e=>h2 (by rw[e]),h⟩
    ·rw[if_neg h3]at h;exact .inr ⟨fun e=>h3 (by rw[e]),h⟩
   ·rw[if_neg h4]at h;exact .inr ⟨fun e=>h4 (by rw[e]),h⟩
  ·rw[if_neg h5]at h;exact .inr ⟨fun e=>h5 (by rw[e]),h⟩
 ·by_cases e:k'=k
  ·rename_i hk
   subst e
   exfalso
   have:Nat.blt k' 32768=true:=by simpa using hk'
   rw[this]at hk;simp at hk
  ·exact .inr ⟨e,h⟩
theorem T.get_nil{α:Type}{k:Nat}:(T.nil:T α).get k=nO:=by
 have this:∀{β:Type} (x:β) (n:Nat),(Zc0 n).run (N8.all x)=x:=fun x n=>by
  rcases n with _|_|_|_|_|_|_|n<;>rfl
 unfold T.get T.getF
 split
 ·simp only[T.nil,this]
 ·rfl
mutual
def ofD:D→Option V
 |.int k n=>sO (.int k n)
 |.bool b=>sO (.bool b)
 |.str s=>sO (.str (s.map UInt8.toNat))
 |.agg cs=>(ofDs cs).map .agg
 |.nilsl=>sO .nilsl
 |.nilptr=>sO .nilptr
 |.nilmap=>sO .nilmap
 |.fn (.func f) [] []=>sO (.fn f [] [])
 |.nilfn=>sO .nilfn
 |.niliface=>sO .niliface
 |.ep cs o=>(ofDs cs).map (.ep · o)
 |_=>nO
def ofDs:List D→Option (List V)
 | []=>sO []
 |d::r=>match ofD d,ofDs r with
  |some v,sO vs=>sO (v::vs)
  |_,_=>nO
end
def leI:Int→Int→Bool
 |.ofNat a,b=>match b with
  |.ofNat b=>Nat.ble a b
  |.negSucc _=>false
 |.negSucc a,b=>match b with
  |.ofNat _=>true
  |.negSucc b=>Nat.ble b a
def eqI:Int→Int→Bool
 |.ofNat a,b=>match b with
  |.ofNat b=>Nat.beq a b
  |.negSucc _=>false
 |.negSucc a,b=>match b with
  |.ofNat _=>false
  |.negSucc b=>Nat.beq a b
theorem Zg5(a b:Int):leI a b=dC (a≤b):=by
 rw[Bool.eq_iff_iff,decide_eq_true_eq]
 cases a<;>cases b<;>simp only[leI,Nat.ble_eq,Zyt,true_iff,false_iff,Int.ofNat_eq_natCast]<;>omega
theorem ZiT(a b:Int):eqI a b=dC (a=b):=by
 rw[Bool.eq_iff_iff,decide_eq_true_eq]
 cases a<;>cases b<;>simp only[eqI,Nat.beq_eq,Zyt,false_iff,Int.ofNat_eq_natCast]<;>omega
def ZvX:IntKind→Nat
 |.i8=>127|.i16=>32767|.i32=>2147483647|.i64=>9223372036854775807
 |.u8=>255|.u16=>65535|.u32=>4294967295|.u64=>18446744073709551615
def ZsL(k:IntKind):Int→Bool
 |.ofNat n=>Nat.ble n (ZvX k)
 |.negSucc n=>k.signed&&Nat.ble n (ZvX k)
theorem ZrW{k:IntKind}{n:Int}(h:ZsL k n=true):inR k n:=by
 cases n<;>cases k<;>simp only[ZsL,ZvX,Nat.ble_eq,IntKind.signed,ZyH,Zyy,Zyt]at h <;>
  simp[inR,IntKind.min,IntKind.max,IntKind.signed,IntKind.bits]<;>omega
def Zgw(k:IntKind)(n:Int):Option V:=match ZsL k n with
 |true=>sO (.int k n)
 |false=>nO
def ZsP:IntKind→Nat
 |.i8=>0|.i16=>1|.i32=>2|.i64=>3|.u8=>4|.u16=>5|.u32=>6|.u64=>7
def ZhR(k k':IntKind):Bool:=Nat.beq (ZsP k) (ZsP k')
theorem ZfC{k k':IntKind}(h:ZhR k k'=true):k=k':=by
 cases k<;>cases k'<;>first|rfl|(simp[ZhR,ZsP]at h)
def ZvJ(op:BinOp):IntKind→Int→Int→Option V :=
 match op with
 |.add=>fun k a b=>Zgw k (Int.add a b)
 |.sub=>fun k a b=>Zgw k (Int.sub a b)
 |.mul=>fun k a b=>Zgw k (Int.mul a b)
 |.quo=>fun k a b=>match eqI b 0 with
  |true=>nO
  |false=>Zgw k (a.tdiv b)
 |.rem=>fun k a b=>match eqI b 0 with
  |true=>nO
  |false=>Zgw k (a.tmod b)
 |.and=>fun k a b=>sO (.int k (Zk5 .and k a b))
 |.or=>fun k a b=>sO (.int k (Zk5 .or k a b))
 |.xor=>fun k a b=>sO (.int k (Zk5 .xor k a b))
 |.andNot=>fun k a b=>sO (.int k (Zk5 .andNot k a b))
 |.eql=>fun _ a b=>sO (.bool (eqI a b))
 |.neq=>fun _ a b=>sO (.bool (!eqI a b))
 |.lss=>fun _ a b=>sO (.bool (!leI b a))
 |.leq=>fun _ a b=>sO (.bool (leI a b))
 |.gtr=>fun _ a b=>sO (.bool (!leI a b))
 |.geq=>fun _ a b=>sO (.bool (leI b a))
 |.shl=>fun k a b=>match leI 0 b with
  |true=>Zgw k (ZjA k a b)
  |false=>nO
 |.shr=>fun k a b=>match leI 0 b with
  |true=>Zgw k (ZnC k a b)
  |false=>nO
def eqS:List Nat→List Nat→Bool
 | [],[]=>true
 |a::x,b::y=>if Nat.beq (a % 256) (b % 256) then eqS x y else false
 |_,_=>false
def Zej:List Nat→List Nat→Bool
 |_,[]=>false
 | [],_::_=>true
 |a::x,b::y=>if Nat.blt (a % 256) (b % 256) then true else if Nat.beq (a % 256) (b % 256) then Zej x y else false
def ZvK(op:BinOp):List Nat→List Nat→Option V :=
 match op with
 |.add=>fun a b=>match Nat.ble (a.length+b.length) big with
  |true=>sO (.str (a++b))
  |false=>nO
 |.eql=>fun a b=>sO (.bool (eqS a b))
 |.neq=>fun a b=>sO (.bool (!eqS a b))
 |.lss=>fun a b=>sO (.bool (Zej a b))
 |.leq=>fun a b=>sO (.bool (Zej a b ||eqS a b))
 |.gtr=>fun a b=>sO (.bool (!(Zej a b ||eqS a b)))
 |.geq=>fun a b=>sO (.bool (!Zej a b))
 |_=>fun _ _=>nO
def Zke:SK→V→V→Option Bool
 |.int,.int k a,.int k' b=>if ZhR k k' then sO (eqI a b) else nO
 |.str,.str a,.str b=>sO (eqS a b)
 |.bool,.bool a,.bool b=>sO (dC (a=b))
 |_,_,_=>nO
def ZgU(xs ys:List V):List (Nat×SK)→Option Bool
 | []=>sO true
 | (o,k)::r=>match xs[o]?,ys[o]? with
  |some x,sO y=>match Zke k x y,ZgU xs ys r with
   |some b,sO c=>sO (b&&c)
   |_,_=>nO
  |_,_=>nO
def ZeQ:KP→V→V→Option Bool
 |.sc k,x,y=>Zke k x y
 |.st l,.agg xs,.agg ys=>if xs.length=l.length∧ys.length=l.length then ZgU xs ys l else nO
 |_,_,_=>nO
def Zo4:ZeJ→V→V→Option Bool
 |.bool,.bool a,.bool b=>sO (dC (a=b))
 |.sl,.nilsl,.nilsl=>sO true
 |.sl,.sl _ n _ _,.nilsl=>if 0<n then sO false else nO
 |.sl,.msl _ _ _ _ _,.nilsl=>sO false
 |.map,.nilmap,.nilmap=>sO true
 |.map,.map _,.nilmap=>sO false
 |.fn,.nilfn,.nilfn=>sO true
 |.fn,.fn _ _ _,.nilfn=>sO false
 |.fn,.yield _,.nilfn=>sO false
 |.ifc,.niliface,.niliface=>sO true
 |.ifc,.iface _ _,.niliface=>sO false
 |.ptr,.nilptr,.nilptr=>sO true
 |.ptr,.ptr _ _,.nilptr=>sO false
 |.ptr,.ep _ _,.nilptr=>sO false
 |.cells l,.agg xs,.agg ys=>ZgU xs ys l
 |_,_,_=>nO
def ZqM:BinOp→Bool
 |.shl|.shr=>true
 |_=>false
def Zqw(op:BinOp)(p:Option ZeJ):V→V→Option V :=
 match p with
 |none=>fun _ _=>nO
 |some p=>match op with
  |.eql=>fun x y=>match Zo4 p x y with
   |some b=>sO (.bool b)
   |none=>nO
  |.neq=>fun x y=>match Zo4 p x y with
   |some b=>sO (.bool (!b))
   |none=>nO
  |_=>fun _ _=>nO
def Zqv(op:BinOp)(p:Option ZeJ)(x y:V):Option V :=
 match x with
 |.int k a=>match y with
  |.int k' b=>match ZqM op ||ZhR k k' with
   |true=>ZvJ op k a b
   |false=>nO
  |_=>nO
 |.str a=>match y with
  |.str b=>ZvK op a b
  |_=>nO
 |x=>Zqw op p x y
inductive W where
 |v (x:V)
 |loc (l off:Nat)
 |skip
inductive O where
 |cells (vs:List V)
 |buf (vs:List V)
 |map (es:List (V×V))
 |tok (k:Nat)
 |mapE (kp:KP) (es:List (V×V)) (k:V) (n:Nat)
 |loop (f:FuncId) (n:Nat) (ps:List Nat) (a b:DC) (ρ:T W) (st:Option DC) (busy:Bool)
 |dfr
 |ro (o:O)
abbrev S:=T O
def cellsO:O→Option (List V)
 |.cells vs=>sO vs
 |.buf vs=>sO vs
 |.ro o=>match o with
  |.cells vs=>sO vs
  |.buf vs=>sO vs
  |_=>nO
 |_=>nO
def Zbt:Option O→Option (List V)
 |some o=>cellsO o
 |none=>nO
def mapO:Option O→Option (List (V×V))
 |some o=>match o with
  |.map es=>sO es
  |.ro o=>match o with
   |.map es=>sO es
   |_=>nO
  |_=>nO
 |none=>nO
def Zb6:O→Bool
 |.ro _=>true
 |_=>false
def Zl8(kp:KP)(k:V):List (V×V)→Option (Option V)
 | []=>sO nO
 |e::r=>match ZeQ kp k e.1 with
  |some true=>sO (sO e.2)
  |some false=>Zl8 kp k r
  |none=>nO
def ZnK(kp:KP)(k v:V):List (V×V)→Option (List (V×V))
 | []=>sO [(k,v)]
 |e::r=>match ZeQ kp k e.1 with
  |some true=>sO ((k,v)::r)
  |some false=>(ZnK kp k v r).map (e::·)
  |none=>nO
def ZpO(kp:KP)(k:V):List (V×V)→Option (List (V×V))
 | []=>sO []
 |e::r=>match ZeQ kp k e.1 with
  |some true=>sO r
  |some false=>(ZpO kp k r).map (e::·)
  |none=>nO
def ZpW(kp:KP)(k z:V):List (V×V)→Option V
 | []=>sO z
 |e::r=>match ZeQ kp k e.1 with
  |some true=>sO e.2
  |some false=>ZpW kp k z r
  |none=>nO
def Zo2(z:V)(ok:Bool):Option V→V
 |some v=>if ok then .tup [v,.bool true] else v
 |none=>if ok then .tup [z,.bool false] else z
def Zf3:V→List V
 |.agg cs=>cs
 |v=>[v]
def Zii:V→Bool
 |.tup _=>false
 |_=>true
def Zo6:V→Bool
 |.tup _|.agg _=>false
 |_=>true
def ZhF(cells:List V):List (Nat×Nat)→List V→Option (List V)
 | [],[]=>sO cells
 | (o,n)::ps,d::ds=>if Zii d then match Zjz o n (Zf3 d) cells with
  |some cs=>ZhF cs ps ds
  |none=>nO
  else nO
 |_,_=>nO
def Zte(s n:Nat):List V→Option (List V) :=
 Nat.rec (motive:=fun _=>List V→Option (List V)) (fun _=>sO []) (fun _ ih l=>match Zcq s l with
  |some r=>Za1 (.agg r) (ih (ZcP s l))
  |none=>nO) n
def Zj2(s:Nat)(n:Nat):List V→Option (List V) :=
 Nat.rec (motive:=fun _=>List V→Option (List V)) (fun _=>sO []) (fun _ ih l=>match l with
  |.agg cs::t=>match ih t with
   |some r=>sO (Zm4 s cs r)
   |none=>nO
  |_=>nO) n
def ZgT:List V→Option (List Nat)
 | []=>sO []
 |.int .u8 n::r=>Za1 n.toNat (ZgT r)
 |_::_=>nO
def ZiK:List V→Option (List Nat)
 | []=>sO []
 |.agg [.int .u8 n]::r=>Za1 n.toNat (ZiK r)
 |_::_=>nO
def Zao:List Bool→List V→Option (List (Option Int))
 | [],[]=>sO []
 |true::bs,.int _ n::r=>(Zao bs r).map (sO n::·)
 |false::bs,r=>(Zao bs r).map (nO::·)
 |_,_=>nO
def Ztt(t n:Nat)(l h:Int):Option Int→Nat
 |some m=>if eqI m h then 1 else 0
 |none=>if eqI h n then (if Nat.beq t 1 then 1 else if eqI l 0 then t else 0) else 0
def Zxx(h:Int)(n:Nat):Option Int→Bool
 |some m=>leI h m&&leI m n
 |none=>true
def ZqN(s:Nat)(lo hi mx:Option Int):V→Option V
 |.sl t n s' rs =>
  if Nat.beq s' s&&leI 0 (lo.getD 0)&&leI (lo.getD 0) (hi.getD n)&&leI (hi.getD n) n&&Zxx (hi.getD n) n mx then
   match Zcq (Int.sub (hi.getD n) (lo.getD 0)).toNat (ZcP (lo.getD 0).toNat rs) with
   |some r=>sO (.sl (Ztt t n (lo.getD 0) (hi.getD n) mx) (Int.sub (hi.getD n) (lo.getD 0)).toNat s r)
   |none=>nO
  else nO
 |.nilsl=>if eqI (lo.getD 0) 0&&eqI (hi.getD 0) 0&&eqI (mx.getD 0) 0 then sO .nilsl else nO
 |.msl b o n cap s' =>
  if Nat.beq s' s&&leI 0 (lo.getD 0)&&leI (lo.getD 0) (hi.getD n) then match cap with
   |some cap=>if leI (hi.getD n) (mx.getD cap)&&leI (mx.getD cap) cap then
     sO (.msl b (if eqI (mx.getD cap) (lo.getD 0) then o else o+(lo.getD 0).toNat*s) (Int.sub (hi.getD n) (lo.getD 0)).toNat (sO (Int.sub (mx.getD cap) (lo.getD 0)).toNat) s) else nO
   |none=>if leI (hi.getD n) n&&(eqI (lo.getD 0) 0||!leI n (lo.getD 0)) then match mx with
    |none=>sO (.msl b (o+(lo.getD 0).toNat*s) (Int.sub (hi.getD n) (lo.getD 0)).toNat nO s)
    |some m=>if leI (hi.getD n) m&&leI m n then sO (.msl b (if eqI m (lo.getD 0) then o else o+(lo.getD 0).toNat*s) (Int.sub (hi.getD n) (lo.getD 0)).toNat (sO (Int.sub m (lo.getD 0)).toNat) s) else nO
    else nO
  else nO
 |_=>nO
def a1(vs:List V)(f:V→Option V):Option V:=match vs with
 | [x]=>f x
 |_=>nO
def a2(vs:List V)(f:V→V→Option V):Option V:=match vs with
 | [x,y]=>f x y
 |_=>nO
def ZjI(cs:List V)(o n:Nat):Option V:=match Zo3 o n cs with
 |some r=>sO (.agg r)
 |none=>nO
def ZiM(σ:S)(b:Nat)(f:List V→Option V):Option V:=match Zbt (σ.get b) with
 |some cs=>f cs
 |none=>nO
def Zgb(i:Int)(n:Nat)(r:Option V):Option V:=if leI 0 i&&!leI n i then r else nO
def noV{α:Type}(b:Bool)(r:Option α):Option α:=if b then r else nO
def qV:Q→S→List V→Option V
 |.mv=>fun _ vs=>a1 vs sO
 |.nilck=>fun _ vs=>a1 vs fun x=>match x with
  |.ep _ _=>sO x
  |.ptr _ _=>sO x
  |.fn _ _ _=>sO x
  |.yield _=>sO x
  |_=>nO
 |.load1=>fun σ vs=>a1 vs fun a=>match a with
  |.ep cs o=>ZhN o cs
  |.ptr b o=>ZiM σ b fun cs=>ZhN o cs
  |_=>nO
 |.loadN n=>fun σ vs=>a1 vs fun a=>match a with
  |.ep cs o=>ZjI cs o n
  |.ptr b o=>ZiM σ b fun cs=>ZjI cs o n
  |_=>nO
 |.bin op p=>fun _ vs=>a2 vs (Zqv op p)
 |.not=>fun _ vs=>a1 vs fun x=>match x with
  |.bool b=>sO (.bool !b)
  |_=>nO
 |.neg=>fun _ vs=>a1 vs fun x=>match x with
  |.int k n=>Zgw k (Int.neg n)
  |_=>nO
 |.xorm=>fun _ vs=>a1 vs fun x=>match x with
  |.int k n=>sO (.int k (Zk5 .xor k (if k.signed then -1 else k.max) n))
  |_=>nO
 |.conv c=>match c with
  |.int k=>fun _ vs=>a1 vs fun x=>match x with
   |.int k' n=>sO (if k=k' then .int k n else .int k (k.wrap n))
   |_=>nO
  |.str=>fun _ vs=>a1 vs fun x=>match x with
   |.str s=>sO (.str s)
   |_=>nO
  |.i2s=>fun _ vs=>a1 vs fun x=>match x with
   |.int _ n=>noV (Nat.ble (Utf8.encode n).data.toList.length big) (sO (.str ((Utf8.encode n).data.toList.map UInt8.toNat)))
   |_=>nO
  |.b2s=>fun σ vs=>a1 vs fun x=>match x with
   |.nilsl=>sO (.str [])
   |.sl _ _ s rs=>noV (Nat.beq s 1) ((ZiK rs).map .str)
   |.msl b o n _ s=>noV (Nat.beq s 1) (ZiM σ b fun cs=>noV (Nat.ble (o+n) cs.length) (match Zcq n (ZcP o cs) with
    |some r=>(ZgT r).map .str
    |none=>nO))
   |_=>nO
 |.faddr off=>fun _ vs=>a1 vs fun x=>match x with
  |.ep cs o=>sO (.ep cs (o+off))
  |.ptr b o=>sO (.ptr b (o+off))
  |_=>nO
 |.fld1 off=>fun _ vs=>a1 vs fun x=>match x with
  |.agg cs=>ZhN off cs
  |_=>nO
 |.fldN off n=>fun _ vs=>a1 vs fun x=>match x with
  |.agg cs=>ZjI cs off n
  |_=>nO
 |.iaddr z=>fun _ vs=>a2 vs fun x y=>match y with
  |.int _ i=>match x with
   |.sl _ n z' rs=>noV (Nat.beq z' z) (Zgb i n (match ZhN i.toNat rs with
    |some (.agg cs)=>sO (.ep cs 0)
    |_=>nO))
   |.msl b o n _ z'=>noV (Nat.beq z' z) (Zgb i n (sO (.ptr b (o+i.toNat*z))))
   |_=>nO
  |_=>nO
 |.iaddrA m z=>fun _ vs=>a2 vs fun x y=>match y with
  |.int _ i=>match x with
   |.ptr b o=>Zgb i m (sO (.ptr b (o+i.toNat*z)))
   |.ep cs o=>Zgb i m (sO (.ep cs (o+i.toNat*z)))
   |_=>nO
  |_=>nO
 |.idxA m z one=>fun _ vs=>a2 vs fun x y=>match y with
  |.int _ i=>match x with
   |.agg cs=>Zgb i m (if one then ZhN (i.toNat*z) cs else ZjI cs (i.toNat*z) z)
   |_=>nO
  |_=>nO
 |.sliceA m z lo hi mx=>fun _ vs=>match vs with
  |.ptr b o::r=>match Zao [lo,hi,mx] r with
   |some [l,h,x]=>noV (leI 0 (l.getD 0)&&leI (l.getD 0) (h.getD m)&&leI (h.getD m) (x.getD m)&&leI (x.getD m) m&&Nat.ble m big)
     (sO (.msl b (if eqI (x.getD m) (l.getD 0) then o else o+(l.getD 0).toNat*z) (Int.sub (h.getD m) (l.getD 0)).toNat (sO (Int.sub (x.getD m) (l.getD 0)).toNat) z))
   |_=>nO
  |_=>nO
 |.idxS=>fun _ vs=>a2 vs fun x y=>match y with
  |.int _ i=>match x with
   |.str s=>Zgb i s.length (sO (.int .u8 (Int.ofNat (s.getD i.toNat 0 % 256))))
   |_=>nO
  |_=>nO
 |.lenS=>fun _ vs=>a1 vs fun x=>match x with
  |.str s=>sO (.int .i64 (Int.ofNat s.length))
  |_=>nO
 |.lenL=>fun _ vs=>a1 vs fun x=>match x with
  |.sl _ n _ _=>sO (.int .i64 (Int.ofNat n))
  |.msl _ _ n _ _=>sO (.int .i64 (Int.ofNat n))
  |.nilsl=>sO (.int .i64 (Int.ofNat 0))
  |_=>nO
 |.lenA n=>fun _ vs=>a1 vs fun _=>noV (Nat.ble n big) (sO (.int .i64 (Int.ofNat n)))
 |.ext k=>fun _ vs=>a1 vs fun x=>match x with
  |.tup vs=>ZhN k vs
  |_=>nO
 |.build zero parts=>match ofDs zero with
  |some z=>fun _ es=>(ZhF z parts es).map .agg
  |none=>fun _ _=>nO
 |.mkfn f k=>match f with
  |.func f=>fun _ es=>sO (.fn f (es.take k) (es.drop k))
  |_=>fun _ _=>nO
 |.mkif t=>fun _ vs=>a1 vs fun x=>sO (.iface t x)
 |.sliceS lo hi=>fun _ vs=>match vs with
  |.str s::r=>match Zao [lo,hi,false] r with
   |some [l,h,_]=>noV (leI 0 (l.getD 0)&&leI (l.getD 0) (h.getD s.length)&&leI (h.getD s.length) s.length)
     (sO (.str ((s.drop (l.getD 0).toNat).take ((h.getD s.length).toNat-(l.getD 0).toNat))))
   |_=>nO
  |_=>nO
 |.slice s lo hi mx=>fun _ vs=>match vs with
  |x::r=>match Zao [lo,hi,mx] r with
   |some [l,h,m]=>ZqN s l h m x
   |_=>nO
  |_=>nO
 |.min=>fun _ vs=>a2 vs fun x y=>match x with
  |.int k a=>match y with
   |.int k' b=>noV (ZhR k k') (sO (.int k (if leI a b then a else b)))
   |_=>nO
  |_=>nO
 |.max=>fun _ vs=>a2 vs fun x y=>match x with
  |.int k a=>match y with
   |.int k' b=>noV (ZhR k k') (sO (.int k (if leI a b then b else a)))
   |_=>nO
  |_=>nO
 |.tassert t ok zero=>match ok with
  |true=>fun _ vs=>a1 vs fun x=>match x with
   |.iface t' v=>noV (Nat.beq t' t) (sO (.tup [v,.bool true]))
   |.niliface=>(ofD zero).map fun z=>.tup [z,.bool false]
   |_=>nO
  |false=>fun _ vs=>a1 vs fun x=>match x with
   |.iface t' v=>noV (Nat.beq t' t) (sO v)
   |_=>nO
 |.lookup kp z ok=>match ofD z with
  |some z=>fun σ vs=>a2 vs fun m k=>noV (ZeQ kp k k).isSome (match m with
   |.map b=>match mapO (σ.get b) with
    |some es=>(Zl8 kp k es).map (Zo2 z ok)
    |none=>nO
   |.nilmap=>sO (Zo2 z ok nO)
   |_=>nO)
  |none=>fun _ _=>nO
 |.lenM=>fun σ vs=>a1 vs fun x=>match x with
  |.map b=>match mapO (σ.get b) with
   |some es=>noV (Nat.ble es.length big) (sO (.int .i64 (Int.ofNat es.length)))
   |_=>nO
  |.nilmap=>sO (.int .i64 (Int.ofNat 0))
  |_=>nO
abbrev Nm:=Nat→Option Tok
def Nm.Sub(η η':Nm):Prop:=∀k t,η k=sO t→η' k=sO t
theorem Nm.Sub.refl(η:Nm):η.Sub η:=fun _ _ h=>h
theorem Nm.Sub.trans{a b c:Nm}(h:a.Sub b)(h':b.Sub c):a.Sub c:=fun k t x=>h' k t (h k t x)
mutual
inductive VR(η:Nm):V→D→Prop where
 |int (k:IntKind) (n:Int):VR η (.int k n) (.int k n)
 |bool (b:Bool):VR η (.bool b) (.bool b)
 |str (s:List Nat):VR η (.str s) (.str (s.map UInt8.ofNat))
 |agg (cs:List V) (ds:List D) (h:VRs η cs ds):VR η (.agg cs) (.agg ds)
 |tup (cs:List V) (ds:List D) (h:VRs η cs ds):VR η (.tup cs) (.tup ds)
 |nilsl:VR η .nilsl .nilsl
 |sl (t n s:Nat) (rs:List V) (τ:Tok) (row:Nat→List D) (h:VRr η s rs row) (hn:rs.length=n) (ht:t=0∨η t=sO τ):VR η (.sl t n s rs) (.sl τ n s row)
 |ep (cs:List V) (o:Nat) (ds:List D) (h:VRs η cs ds):VR η (.ep cs o) (.ep ds o)
 |nilptr:VR η .nilptr .nilptr
 |ptr (k b o:Nat) (h:η k=sO (.tip b)):VR η (.ptr k o) (.ptr b o)
 |msl (k b o n cap s:Nat) (h:η k=sO (.tip b)):VR η (.msl k o n (sO cap) s) (.msl b o n cap s)
 |gsl (k b o n cap s c:Nat) (h:η k=sO (.tip b)) (h2:η (k+1)=sO (.tip c)) (hc:n≤cap) (hl:o+cap*s≤c):VR η (.msl k o n nO s) (.msl b o n cap s)
 |map (k b:Nat) (h:η k=sO (.tip b)):VR η (.map k) (.map b)
 |nilmap:VR η .nilmap .nilmap
 |fn (f:FuncId) (a c:List V) (da dc:List D) (ha:VRs η a da) (hc:VRs η c dc):VR η (.fn f a c) (.fn (.func f) da dc)
 |yield (k b:Nat) (h:η k=sO (.tip b)):VR η (.yield k) (.fn (.yield b) [] [])
 |nilfn:VR η .nilfn .nilfn
 |iface (t:TypeId) (v:V) (d:D) (h:VR η v d):VR η (.iface t v) (.iface t d)
 |niliface:VR η .niliface .niliface
 |stamp (k b:Nat) (h:η k=sO (.tip b)):VR η (.stamp k) (.stamp b)
inductive VRs(η:Nm):List V→List D→Prop where
 |nil:VRs η [] []
 |cons (v:V) (d:D) (vs:List V) (ds:List D) (h:VR η v d) (t:VRs η vs ds):VRs η (v::vs) (d::ds)
inductive VRr(η:Nm):Nat→List V→(Nat→List D)→Prop where
 |nil (s:Nat) (row:Nat→List D):VRr η s [] row
 |cons (s:Nat) (cs:List V) (rs:List V) (row:Nat→List D) (h:VRs η cs (row 0)) (hl:cs.length=s) (t:VRr η s rs (fun i=>row (i+1))):VRr η s (.agg cs::rs) row
end
mutual
theorem VR.mono{η η':Nm}(e:η.Sub η'):∀{v:V} {d:D},VR η v d→VR η' v d
 |_,_,.int k n=>.int k n
 |_,_,.bool b=>.bool b
 |_,_,.str s=>.str s
 |_,_,.agg cs ds h=>.agg cs ds (h.mono e)
 |_,_,.tup cs ds h=>.tup cs ds (h.mono e)
 |_,_,.nilsl=>.nilsl
 |_,_,.sl t n s rs τ row h hn ht=>.sl t n s rs τ row (h.mono e) hn (ht.imp id (e _ _))
 |_,_,.ep cs o ds h=>.ep cs o ds (h.mono e)
 |_,_,.nilptr=>.nilptr
 |_,_,.ptr k b o h=>.ptr k b o (e _ _ h)
 |_,_,.msl k b o n cap s h=>.msl k b o n cap s (e _ _ h)
 |_,_,.gsl k b o n cap s c h h2 hc hl=>.gsl k b o n cap s c (e _ _ h) (e _ _ h2) hc hl
 |_,_,.map k b h=>.map k b (e _ _ h)
 |_,_,.nilmap=>.nilmap
 |_,_,.fn f a c da dc ha hc=>.fn f a c da dc (ha.mono e) (hc.mono e)
 |_,_,.yield k b h=>.yield k b (e _ _ h)
 |_,_,.nilfn=>.nilfn
 |_,_,.iface t v d h=>.iface t v d (h.mono e)
 |_,_,.niliface=>.niliface
 |_,_,.stamp k b h=>.stamp k b (e _ _ h)
theorem VRs.mono{η η':Nm}(e:η.Sub η'):∀{v:List V} {d:List D},VRs η v d→VRs η' v d
 |_,_,.nil=>.nil
 |_,_,.cons v d vs ds h t=>.cons v d vs ds (h.mono e) (t.mono e)
theorem VRr.mono{η η':Nm}(e:η.Sub η'):∀{s:Nat} {v:List V} {r:Nat→List D},VRr η s v r→VRr η' s v r
 |_,_,_,.nil s row=>.nil s row
 |_,_,_,.cons s cs rs row h hl t=>.cons s cs rs row (h.mono e) hl (t.mono e)
end
section
variable {η:Nm}
theorem VRs.len:∀{vs:List V} {ds:List D},VRs η vs ds→vs.length=ds.length
 |_,_,.nil=>rfl
 |_,_,.cons _ _ _ _ _ t=>by simp[t.len]
theorem VRs.get:∀{vs:List V} {ds:List D},VRs η vs ds→∀{i:Nat} {v:V},vs[i]?=sO v→∃d,ds[i]?=sO d∧VR η v d
 |_,_,.nil,i,v,h=>by simp at h
 |_,_,.cons v d vs ds h t,0,v',h'=>by simp at h';subst h';exact⟨d,rfl,h⟩
 |_,_,.cons v d vs ds h t,i+1,v',h'=>by simp at h';simpa using t.get h'
theorem VRs.take:∀{vs:List V} {ds:List D},VRs η vs ds→∀n,VRs η (vs.take n) (ds.take n)
 |_,_,.nil,n=>by simp;exact .nil
 |_,_,.cons v d vs ds h t,0=>.nil
 |_,_,.cons v d vs ds h t,n+1=>.cons _ _ _ _ h (t.take n)
theorem VRs.drop:∀{vs:List V} {ds:List D},VRs η vs ds→∀n,VRs η (vs.drop n) (ds.drop n)
 |_,_,.nil,n=>by simp;exact .nil
 |_,_,.cons v d vs ds h t,0=>.cons _ _ _ _ h t
 |_,_,.cons v d vs ds h t,n+1=>t.drop n
theorem VRs.append:∀{vs vs':List V} {ds ds':List D},VRs η vs ds→VRs η vs' ds'→VRs η (vs++vs') (ds++ds')
 |_,_,_,_,.nil,h=>h
 |_,_,_,_,.cons v d vs ds h t,h'=>.cons _ _ _ _ h (t.append h')
theorem VRs.one{v:V}{d:D}(h:VR η v d):VRs η [v] [d]:=.cons _ _ _ _ h .nil
theorem VRs.inv{v:V}{vs:List V}(h:VRs η (v::vs) ds):∃d ds',ds=d::ds'∧VR η v d∧VRs η vs ds':=by
 cases h with
 |cons _ d _ ds h t=>exact⟨d,ds,rfl,h,t⟩
theorem VRs.inv0(h:VRs η [] ds):ds=[]:=by cases h;rfl
theorem VRs.inv1{v:V}(h:VRs η [v] ds):∃d,ds=[d]∧VR η v d:=by
 obtain⟨d,ds',rfl,h1,h2⟩:=h.inv
 obtain rfl:=h2.inv0
 exact⟨d,rfl,h1⟩
theorem VRs.inv2{v v':V}(h:VRs η [v,v'] ds):∃d d',ds=[d,d']∧VR η v d∧VR η v' d':=by
 obtain⟨d,ds',rfl,h1,h2⟩:=h.inv
 obtain⟨d',rfl,h'⟩:=h2.inv1
 exact⟨d,d',rfl,h1,h'⟩
theorem VRs.partv{vs r:List V}(h:VRs η vs ds){o n:Nat}(hp:Zo3 o n vs=sO r):o+n≤ds.length∧VRs η r (part ds o n):=by
 obtain⟨h1,rfl⟩:=ZvH hp
 exact⟨by rw[←h.len];exact h1,(h.drop o).take n⟩
theorem VRs.over{vs xs r:List V}{ds ys:List D}(h:VRs η vs ds)(hx:VRs η xs ys){o n:Nat}(hs:Zjz o n xs vs=sO r):xs.length=n∧o+n≤ds.length∧VRs η r (ZF ds o ys):=by
 obtain⟨h0,h1,rfl⟩:=ZnA hs
 refine⟨h0,by rw[←h.len];exact h1,?_⟩
 unfold ZF
 have e:ys.length=n:=by rw[←hx.len,h0]
 rw[e]
 exact((h.take o).append hx).append (h.drop _)
theorem VRr.inv{s:Nat}{v:V}{rs:List V}(h:VRr η s (v::rs) row):∃cs,v=.agg cs∧VRs η cs (row 0)∧cs.length=s∧VRr η s rs (fun i=>row (i+1)):=by
 cases h with
 |cons s cs rs row h hl t=>exact⟨cs,rfl,h,hl,t⟩
theorem VRr.get{s:Nat}:∀{rs:List V} {row:Nat→List D},VRr η s rs row→∀{i:Nat} {v:V},rs[i]?=sO v→∃cs,v=.agg cs∧VRs η cs (row i)∧cs.length=s
 | [],row,h,i,v,hv=>by simp at hv
 |r::rs,row,h,0,v,hv=>by
  obtain⟨cs,rfl,h1,h2,_⟩:=h.inv
  simp only[List.getElem?_cons_zero,Zyd]at hv
  exact⟨cs,hv.symm,h1,h2⟩
 |r::rs,row,h,i+1,v,hv=>by
  obtain⟨cs,rfl,h1,h2,h3⟩:=h.inv
  exact h3.get (by simpa using hv)
theorem VRr.congr{s:Nat}:∀{rs:List V} {row row':Nat→List D},VRr η s rs row→(∀i,i<rs.length→row' i=row i)→VRr η s rs row'
 | [],row,row',h,e=>.nil s row'
 |r::rs,row,row',h,e=>by
  obtain⟨cs,rfl,h1,h2,h3⟩:=h.inv
  exact .cons s cs rs row' (by rw[e 0 (by simp)];exact h1) h2 (h3.congr fun i hi=>e (i+1) (by simp;omega))
theorem VRr.drop{s:Nat}:∀{rs:List V} {row:Nat→List D},VRr η s rs row→∀k,VRr η s (rs.drop k) (fun i=>row (k+i))
 |rs,row,h,0=>by simpa using h
 | [],row,h,k+1=>by simp;exact .nil s _
 |r::rs,row,h,k+1=>by
  obtain⟨cs,rfl,h1,h2,h3⟩:=h.inv
  have:=h3.drop k
  simp only[List.drop_succ_cons]
  exact this.congr fun i _=>by congr 1;omega
theorem VRr.take{s:Nat}:∀{rs:List V} {row:Nat→List D},VRr η s rs row→∀k,VRr η s (rs.take k) row
 |rs,row,h,0=>by simp;exact .nil s _
 | [],row,h,k+1=>by simp;exact .nil s _
 |r::rs,row,h,k+1=>by
  obtain⟨cs,rfl,h1,h2,h3⟩:=h.inv
  exact .cons s cs _ row h1 h2 (h3.take k)
theorem VRr.append{s:Nat}:∀{rs rs':List V} {row row':Nat→List D},VRr η s rs row→VRr η s rs' row'→VRr η s (rs++rs') (Q2 rs.length row row')
 | [],rs',row,row',h,h'=>h'.congr fun i _=>by simp[Q2]
 |r::rs,rs',row,row',h,h'=>by
  obtain⟨cs,rfl,h1,h2,h3⟩:=h.inv
  refine .cons s cs _ _ (by simpa[Q2]using h1) h2 ((h3.append h').congr fun i _=>?_)
  simp only[Q2,ZyE]
  by_cases hi:i<rs.length
  ·rw[if_pos hi,if_pos (by omega)]
  ·rw[if_neg hi,if_neg (by omega)];congr 1;omega
theorem VRr.bytes:∀{rs:List V} {row:Nat→List D} {l:List Nat},VRr η 1 rs row→ZiK rs=sO l→(∀i,i<rs.length→Zng (row i))∧l.map UInt8.ofNat=(Zyl rs.length).map fun i=>ZdM (row i)
 | [],row,l,h,hb=>by simp only[ZiK,Zyd]at hb;subst hb;simp
 |r::rs,row,l,h,hb=>by
  obtain⟨cs,rfl,h1,h2,h3⟩:=h.inv
  match cs,h1,h2,hb with
  | [.int .u8 n],h1,h2,hb =>
   simp only[ZiK]at hb
   obtain⟨q,hq,rfl⟩:=JO hb
   obtain⟨i1,i2⟩:=h3.bytes hq
   obtain⟨d,hd,hv⟩:=h1.inv1
   cases hv
   refine⟨fun i hi=>?_,?_⟩
   ·cases i with
    |zero=>exact⟨n,hd⟩
    |succ i=>exact i1 i (by simpa using hi)
   ·simp only[Zyp,ZyE,List.range_succ_eq_map,List.map_map,i2]
    refine _root_.congr (congrArg _ ?_) rfl
    rw[hd];rfl
theorem VRs.bytes:∀{vs:List V} {ds:List D} {l:List Nat},VRs η vs ds→ZgT vs=sO l→(∀i,i<vs.length→Zng (part ds i 1))∧l.map UInt8.ofNat=(Zyl vs.length).map fun i=>ZdM (part ds i 1)
 | [],ds,l,h,hb=>by simp only[ZgT,Zyd]at hb;subst hb;simp
 |v::vs,ds,l,h,hb=>by
  obtain⟨d,ds',rfl,h1,h2⟩:=h.inv
  match v,h1,hb with
  |.int .u8 n,h1,hb =>
   simp only[ZgT]at hb
   obtain⟨q,hq,rfl⟩:=JO hb
   obtain⟨i1,i2⟩:=h2.bytes hq
   cases h1
   refine⟨fun i hi=>?_,?_⟩
   ·cases i with
    |zero=>exact⟨n,by simp[part]⟩
    |succ i=>simpa[part]using i1 i (by simpa using hi)
   ·simp only[Zyp,ZyE,List.range_succ_eq_map,List.map_map,i2]
    refine _root_.congr (congrArg _ ?_) ?_
    ·simp[part,ZdM]
    ·apply List.map_congr_left;intro i _;simp[part]
theorem ZkI(s:List UInt8):(s.map UInt8.toNat).map UInt8.ofNat=s:=by
 rw[List.map_map]
 conv=>rhs;rw[←List.map_id s]
 congr 1
 funext x;simp
mutual
theorem Zg7:∀{d:D} {v:V},ofD d=sO v→VR η v d
 |.int k n,v,h=>by simp only[ofD,Zyd]at h;subst h;exact .int k n
 |.bool b,v,h=>by simp only[ofD,Zyd]at h;subst h;exact .bool b
 |.str s,v,h=>by
  simp only[ofD,Zyd]at h;subst h
  have:=VR.str (η:=η) (s.map UInt8.toNat)
  rwa [ZkI]at this
 |.agg cs,v,h=>by
  simp only[ofD,Zym]at h
  obtain⟨vs,h1,rfl⟩:=h
  exact .agg _ _ (ofDs_ok h1)
 |.nilsl,v,h=>by simp only[ofD,Zyd]at h;subst h;exact .nilsl
 |.nilptr,v,h=>by simp only[ofD,Zyd]at h;subst h;exact .nilptr
 |.nilmap,v,h=>by simp only[ofD,Zyd]at h;subst h;exact .nilmap
 |.fn (.func f) [] [],v,h=>by simp only[ofD,Zyd]at h;subst h;exact .fn f [] [] [] [] .nil .nil
 |.nilfn,v,h=>by simp only[ofD,Zyd]at h;subst h;exact .nilfn
 |.niliface,v,h=>by simp only[ofD,Zyd]at h;subst h;exact .niliface
 |.ep cs o,v,h=>by
  simp only[ofD,Zym]at h
  obtain⟨vs,h1,rfl⟩:=h
  exact .ep _ _ _ (ofDs_ok h1)
 |.fn (.func f) (_::_) _,v,h=>by simp[ofD]at h
 |.fn (.func f) [] (_::_),v,h=>by simp[ofD]at h
 |.tup _,v,h|.sl _ _ _ _,v,h|.ptr _ _,v,h|.msl _ _ _ _ _,v,h|.map _,v,h|.fn (.yield _) _ _,v,h|.iface _ _,v,h|.stamp _,v,h|.undef,v,h|.any,v,h=>by simp[ofD]at h
 |.fn (.method ..) _ _,v,h|.fn (.methodOf ..) _ _,v,h|.fn (.via ..) _ _,v,h=>by simp[ofD]at h
theorem ofDs_ok:∀{ds:List D} {vs:List V},ofDs ds=sO vs→VRs η vs ds
 | [],vs,h=>by simp only[ofDs,Zyd]at h;subst h;exact .nil
 |d::r,vs,h=>by
  simp only[ofDs]at h
  split at h<;>simp only[Zyd,reduceCtorEq]at h
  rename_i v vs' h1 h2
  subst h
  exact .cons _ _ _ _ (Zg7 h1) (ofDs_ok h2)
end
end
def Zs2(T:Tab)(ms:List Nat):Nat→List Nat→List Nat→List Nat×List (Nat×List Nat)×List Nat
 |0,rest,_=>(rest,[],[])
 |n+1,rest,A =>
  let rdy:=rest.filter fun i=>(T.deps i).all fun d=>!rest.contains d
  let free:=fun(i:Nat) (A:List Nat)=>A.filter fun a=>!(ms.getD i 0).testBit a
  let fl:=fun(i:Nat) (A:List Nat) (l:List (Nat×List Nat))=>match (free i A).filter fun a=>KR (T.op a).k with
   | []=>l
   |as9=>(i,as9.map fun a=>Zcv (T.op a))::l
  match rdy.find? fun i=>Zc9 T A i&&A.all fun a=>(ms.getD i 0).testBit a ||nd (T.op a).dst (ZT (T.op i)) with
  |some i=>match Zs2 T ms n (rest.erase i) (i::A) with
   | (od,f,k)=>(i::od,f,k)
  |none=>match rdy with
   | []=>(rest,[],[])
   | [i]=>match Zs2 T ms n (rest.erase i) (free i A) with
    | (od,f,k)=>(i::od,fl i A f,k)
   |i::j::_=>match Zs2 T ms n ((rest.erase i).erase j) (free j (free i A)) with
    | (od,f,k)=>(i::j::od,fl i A (fl j A f),i::k)
def Zk0:List Nat:=Zyl 32768
def Zx6(P:Program)(N id:Nat)(ops:Array Oper):Ann :=
 match ZbG P N ops (Zyl ops.size) with
 |some l =>
  let ds:=ops.toList.map Zcd
  match Zs2 (l.zip ds) (ZhW ds []) ops.size (Zyl ops.size) []with
  | (od,fl,fk)=>(id+1000000,od)::(id,Zk0)::(fl.map (fun x=>(id+1000000*(x.1+4),x.2))++(match fk with
   | []=>[]
   |_::_=>[(id+3000000,fk)]))
 |none=>[]
def Zgr(P:Program)(N:Nat):Code→Ann
 |.region id ops true=>Zx6 P N id ops
 |.seq a b=>Zgr P N a++Zgr P N b
 |.cond _ a b=>Zgr P N a++Zgr P N b
 |.block _ a=>Zgr P N a
 |.loop a=>Zgr P N a
 |.scope a=>Zgr P N a
 |.rangeFunc _ _ a b=>Zgr P N a++Zgr P N b
 |_=>[]
def Zx5(P:Program)(f:FuncId):Ann :=
 match P.funcs[f]? with
 |some fn=>match fn.body with
  |some c=>Zgr P fn.ntmps c
  |none=>[]
 |none=>[]
structure Cx where
 P:Program
 lib:FuncId→Option (S→List V→Option V)
 mu:FuncId→Option Nat→Bool
def Cx.an(C:Cx)(f:FuncId):Ann:=Zx5 C.P f
def Cx.df(C:Cx)(f:FuncId):Option DF:=cf C.P (C.an f) f
inductive Dd where
 |mark (q:Nat)
 |fn (i:FuncId) (args caps:List V)
inductive Fk where
 |fn (res:List RV)
 |rnd (l:Nat)
 |dfd (pd:Option V) (rec:Bool)
structure Fm where
 f:FuncId
 n:Nat
 k:Fk
 ds:List Dd
structure Out where
 pan:Bool
 v:V
 σ:S
 nx:Nat
abbrev Ih:=Fm→List Zu→T W→S→Nat→Option Out
def wV:Option W→Option V
 |some w=>match w with
  |.v x=>sO x
  |_=>nO
 |none=>nO
def Kf:Opd→Bx (T W→Option V)
 |.cst d=>match ofD d with
  |some v=>⟨fun _=>sO v⟩
  |none=>⟨fun _=>nO⟩
 |.tmp t=>⟨fun ρ=>wV ((T.getF t).run ρ)⟩
def ZcN:List Opd→Bx (T W→Option (List V))
 | []=>⟨fun _=>sO []⟩
 |x::xs=>⟨fun ρ=>match (Kf x).run ρ with
  |some v=>match (ZcN xs).run ρ with
   |some vs=>sO (v::vs)
   |none=>nO
  |none=>nO⟩
def Zi1:Option (Nat×Bool)→Bx (T W→Option Bool)
 |none=>⟨fun _=>sO true⟩
 |some (t,want)=>⟨fun ρ=>match (T.getF t).run ρ with
  |some w=>match w with
   |.v x=>match x with
    |.bool b=>sO (Qa b want)
    |_=>nO
   |.skip=>sO false
   |_=>nO
  |none=>nO⟩
def ZdD:Option Nat→Bx (T W→W→T W)
 |some t=>⟨fun ρ w=>(T.setF t).run (sO w) ρ⟩
 |none=>⟨fun ρ _=>ρ⟩
def Zg8:Opd→Bx (T W→Bool)
 |.cst d=>match d with
  |.bool _=>⟨fun _=>true⟩
  |_=>⟨fun _=>false⟩
 |.tmp t=>⟨fun ρ=>match (T.getF t).run ρ with
  |some w=>match w with
   |.v x=>match x with
    |.bool _=>true
    |_=>false
   |.skip=>true
   |_=>false
  |none=>false⟩
def Zmf:Nat→List V→T W→T W
 |_,[],ρ=>ρ
 |i,v::vs,ρ=>Zmf (i+1) vs (ρ.set (sO (.v v)) i)
def ZfK:List Nat→List V→T W→T W
 |t::ts,a::as9,ρ=>ZfK ts as9 (ρ.set (sO (.v a)) t)
 |_,_,ρ=>ρ
def ZgA(zero:List V)(ps:List (Nat×V))(i:Nat):List V :=
 match ps with
 | []=>zero
 | (k,d)::r=>if Nat.beq k i then Zf3 d else ZgA zero r i
def Zj6(zero:List V)(ps:List (Nat×V)):Nat→Nat→List V
 |0,_=>[]
 |n+1,i=>.agg (ZgA zero ps i)::Zj6 zero ps n (i+1)
def ZfI(s:Nat):List V→Bool
 | []=>true
 |d::r=>Zii d&&Nat.beq (Zf3 d).length s&&ZfI s r
def Zhn(z:List V):Nat→List V
 |0=>[]
 |n+1=>z++Zhn z n
def u8V(l:List Nat):List V:=l.map fun m=>.agg [.int .u8 (Int.ofNat (m % 256))]
def ZvW(σ:S)(s:Nat):V→Option (Nat×List V)
 |.nilsl=>sO (0,[])
 |.sl _ m s' rs=>noV (Nat.beq s' s) (sO (m,rs))
 |.str l=>noV (Nat.beq s 1) (sO (l.length,u8V l))
 |.msl b o n _ s'=>match Zbt (σ.get b) with
  |some cs=>noV (Nat.beq s' s&&Nat.ble (o+n*s) cs.length) (match Zte s n (ZcP o cs) with
   |some rs=>sO (n,rs)
   |none=>nO)
  |none=>nO
 |_=>nO
def ZnH(σ:S)(t k:Nat):Option S :=
 if Nat.beq t 1 then sO σ else match σ.get t with
  |some (.tok m)=>noV (Nat.beq m k) (sO (σ.set nO t))
  |_=>nO
def ZcH(σ:S)(a:V)(n:Nat)(xs:List V):Option S :=
 match a with
 |.ptr b o=>match σ.get b with
  |some (.cells cs)=>match Zjz o n xs cs with
   |some cs'=>sO (σ.set (sO (.cells cs')) b)
   |none=>nO
  |some (.buf cs)=>match Zjz o n xs cs with
   |some cs'=>sO (σ.set (sO (.buf cs')) b)
   |none=>nO
  |_=>nO
 |_=>nO
structure R3 where
 v:V
 σ:S
 nx:Nat
def Zfs(s:Nat)(σ:S)(nx m:Nat)(cs:List V):Option R3:=sO ⟨.msl nx 0 m nO s,σ.set (sO (.buf cs)) nx,nx+2⟩
def ZlN(s bytes:Nat)(σ:S)(nx m:Nat)(rs:List V):Option R3 :=
 noV (Nat.ble (m*bytes) 140737488355328&&Nat.ble m big) <|match Zj2 s m rs with
  |some cs=>Zfs s σ nx m cs
  |none=>nO
def ZlO(s bytes:Nat)(σ:S)(nx t n m:Nat)(rs rs2:List V):Option R3 :=
 noV (Nat.ble ((n+m)*bytes) 140737488355328&&Nat.ble (n+m) big) <|match ZnH σ t (n*s) with
  |some σ'=>sO ⟨.sl nx (n+m) s (Zm4 n rs rs2),σ'.set (sO (.tok ((n+m)*s))) nx,nx+1⟩
  |none=>nO
def Zm5(mu:Bool)(s bytes:Nat)(σ:S)(nx:Nat)(x:V)(m:Nat)(rs2:List V):Option R3 :=
 match x with
 |.nilsl=>if mu&&Nat.ble 1 m then ZlN s bytes σ nx m rs2 else ZlO s bytes σ nx 1 0 m [] rs2
 |.sl t n s' rs=>noV (Nat.beq s' s) <|if mu&&Nat.ble 1 m&&Nat.beq t 1&&Nat.beq n 0 then ZlN s bytes σ nx m rs2 else ZlO s bytes σ nx t n m rs rs2
 |.msl b o n cap s'=>noV (Nat.beq s' s&&Nat.ble ((n+m)*bytes) 140737488355328&&Nat.ble (n+m) big) <|match Zj2 s m rs2 with
  |some cs2=>match cap with
   |none=>match σ.get b with
    |some (.buf cs)=>noV (Nat.beq o 0) <|match Zcq (n*s) cs with
     |some c1=>Zfs s (σ.set nO b) nx (n+m) (Zm4 (n*s) c1 cs2)
     |none=>nO
    |_=>nO
   |some cap=>match σ.get b with
    |some (.cells cs)=>if Nat.ble (n+m) cap then noV (Nat.beq o 0) <|match Zjz (n*s) (m*s) cs2 cs with
      |some cs'=>sO ⟨.msl b 0 (n+m) (sO cap) s,σ.set (sO (.cells cs')) b,nx⟩
      |none=>nO
     else noV (Nat.ble (o+n*s) cs.length) <|match Zcq (n*s) (ZcP o cs) with
      |some c1=>Zfs s σ nx (n+m) (Zm4 (n*s) c1 cs2)
      |none=>nO
    |_=>nO
  |none=>nO
 |_=>nO
def gk:K→Bool
 |.q _ _=>true
 |.pick _ _ _=>true
 |.bsl _ _ _ _ _=>true
 |.s2b _=>true
 |.append ..=>true
 |.clear ..=>true
 |_=>false
def mp2(x:Option V)(f:V→Option R3):Option R3:=match x with
 |some v=>f v
 |none=>nO
def up(x:Option S)(v:V)(nx:Nat):Option R3:=match x with
 |some σ=>sO ⟨v,σ,nx⟩
 |none=>nO
def ZxS:K→Bool
 |.store1 _ _=>true
 |.storeN _ _ _=>true
 |.mkmap=>true
 |_=>false
def opF(mu dst:Bool):K→Bx (T W→S→Nat→Option R3)
 |.q q xs=>⟨fun ρ σ nx=>match (ZcN xs).run ρ with
  |some vs=>match (Bx.mk (qV q)).run σ vs with
   |some v=>sO ⟨v,σ,nx⟩
   |none=>nO
  |none=>nO⟩
 |.pick c a b=>⟨fun ρ σ nx=>mp2 ((Kf c).run ρ) fun x=>match x with
  |.bool v=>match v with
   |true=>noV ((Zg8 b).run ρ) (mp2 ((Kf a).run ρ) fun y=>match y with
    |.bool y=>sO ⟨.bool y,σ,nx⟩
    |_=>nO)
   |false=>noV ((Zg8 a).run ρ) (mp2 ((Kf b).run ρ) fun y=>match y with
    |.bool y=>sO ⟨.bool y,σ,nx⟩
    |_=>nO)
  |_=>nO⟩
 |.alloc z=>match ofDs z with
  |some z=>⟨fun _ σ nx=>noV dst (sO ⟨.ptr nx 0,σ.set (sO (.cells z)) nx,nx+1⟩)⟩
  |none=>⟨fun _ _ _=>nO⟩
 |.box x=>⟨fun ρ σ nx=>noV dst (mp2 ((Kf x).run ρ) fun v=>noV (Zii v) (sO ⟨.ptr nx 0,σ.set (sO (.cells (Zf3 v))) nx,nx+1⟩))⟩
 |.bsl len n z is xs=>match ofDs z with
  |some z=>⟨fun ρ σ nx=>match (ZcN xs).run ρ with
   |some vs=>noV (ZfI n vs&&Nat.beq z.length n) (if mu&&dst&&Nat.ble 1 len then match Zj2 n len (Zj6 z (is.zip vs) len 0) with
     |some cs=>sO ⟨.msl nx 0 len (sO len) n,σ.set (sO (.cells cs)) nx,nx+1⟩
     |none=>nO
    else sO ⟨.sl 1 len n (Zj6 z (is.zip vs) len 0),σ,nx⟩)
   |none=>nO⟩
  |none=>⟨fun _ _ _=>nO⟩
 |.s2b x=>⟨fun ρ σ nx=>mp2 ((Kf x).run ρ) fun v=>match v with
  |.str l=>sO ⟨.sl 0 l.length 1 (u8V l),σ,nx⟩
  |_=>nO⟩
 |.store1 a v=>⟨fun ρ σ nx=>noV (!dst) (mp2 ((Kf a).run ρ) fun a=>mp2 ((Kf v).run ρ) fun x=>noV (Zo6 x) (up (ZcH σ a 1 [x]) .nilsl nx))⟩
 |.storeN n a v=>⟨fun ρ σ nx=>noV (!dst) (mp2 ((Kf a).run ρ) fun a=>mp2 ((Kf v).run ρ) fun x=>match x with
  |.agg xs=>up (ZcH σ a n xs) .nilsl nx
  |_=>nO)⟩
 |.mkmap=>⟨fun _ σ nx=>noV dst (sO ⟨.map nx,σ.set (sO (.map [])) nx,nx+1⟩)⟩
 |.mkslice _ n bytes z l h=>match ofDs z with
  |some z=>⟨fun ρ σ nx=>noV dst (mp2 ((Kf l).run ρ) fun l=>mp2 ((Kf h).run ρ) fun h=>match l with
   |.int _ l=>match h with
    |.int _ h=>noV (leI 0 l&&leI l h&&leI (Int.mul bytes h) 140737488355328&&leI h big) (sO ⟨.msl nx 0 l.toNat (sO h.toNat) n,σ.set (sO (.cells (Zhn z h.toNat))) nx,nx+1⟩)
    |_=>nO
   |_=>nO)⟩
  |none=>⟨fun _ _ _=>nO⟩
 |.mapupd kp m k v=>⟨fun ρ σ nx=>noV (!dst) (mp2 ((Kf m).run ρ) fun m=>mp2 ((Kf k).run ρ) fun k=>mp2 ((Kf v).run ρ) fun v=>match m with
  |.map b=>match σ.get b with
   |some (.map es)=>noV (ZeQ kp k k).isSome (match ZnK kp k v es with
    |some es'=>sO ⟨.nilsl,σ.set (sO (.map es')) b,nx⟩
    |none=>nO)
   |_=>nO
  |_=>nO)⟩
 |.delete kp m k=>⟨fun ρ σ nx=>noV (!dst) (mp2 ((Kf m).run ρ) fun m=>mp2 ((Kf k).run ρ) fun k=>match m with
  |.map b=>match σ.get b with
   |some (.map es)=>noV (ZeQ kp k k).isSome (match ZpO kp k es with
    |some es'=>sO ⟨.nilsl,σ.set (sO (.map es')) b,nx⟩
    |none=>nO)
   |_=>nO
  |_=>nO)⟩
 |.mapent kp z m k=>match ofD z with
  |some z=>⟨fun ρ σ nx=>noV dst (mp2 ((Kf m).run ρ) fun m=>mp2 ((Kf k).run ρ) fun k=>match m with
   |.map b=>match σ.get b with
    |some (.map es)=>noV (ZeQ kp k k).isSome (match ZpW kp k z es with
     |some v=>sO ⟨.tup [v,.stamp nx],σ.set (sO (.mapE kp es k nx)) b,nx+1⟩
     |none=>nO)
    |_=>nO
   |_=>nO)⟩
  |none=>⟨fun _ _ _=>nO⟩
 |.entst m st v=>⟨fun ρ σ nx=>noV (!dst) (mp2 ((Kf m).run ρ) fun m=>mp2 ((Kf st).run ρ) fun st=>mp2 ((Kf v).run ρ) fun v=>match m with
  |.map b=>match st with
   |.stamp n=>match σ.get b with
    |some (.mapE kp es k n')=>noV (Nat.beq n n') (match ZnK kp k v es with
     |some es'=>sO ⟨.nilsl,σ.set (sO (.map es')) b,nx⟩
     |none=>nO)
    |_=>nO
   |_=>nO
  |_=>nO)⟩
 |.clear s z x=>match ofDs z with
  |some z=>⟨fun ρ σ nx=>mp2 ((Kf x).run ρ) fun x=>match x with
   |.msl b o n _ s'=>noV (Nat.beq s' s) (up (ZcH σ (.ptr b o) (n*s) (Zhn z n)) (.tup []) nx)
   |_=>nO⟩
  |none=>⟨fun _ _ _=>nO⟩
 |.fork k=>match ZxS k with
  |true=>opF mu dst k
  |false=>⟨fun _ _ _=>nO⟩
 |.append _ s bytes _ x y=>⟨fun ρ σ nx=>mp2 ((Kf x).run ρ) fun x=>mp2 ((Kf y).run ρ) fun y=>match ZvW σ s y with
  |some (m,rs2)=>Zm5 mu s bytes σ nx x m rs2
  |none=>nO⟩
 |_=>⟨fun _ _ _=>nO⟩
def rvV(ρ:T W)(σ:S):RV→Option V
 |.tmp t=>(Kf (.tmp t)).run ρ
 |.cell1 t=>match (Kf (.tmp t)).run ρ with
  |some a=>qV .load1 σ [a]
  |none=>nO
 |.cellN t n=>match (Kf (.tmp t)).run ρ with
  |some a=>qV (.loadN n) σ [a]
  |none=>nO
def Znv(ρ:T W)(σ:S):List RV→Option (List V)
 | []=>sO []
 |r::rs=>match rvV ρ σ r with
  |some v=>match Znv ρ σ rs with
   |some vs=>sO (v::vs)
   |none=>nO
  |none=>nO
def mkV:List V→V
 | [v]=>v
 |vs=>.tup vs
def ZoP(C:Cx)(f:FuncId):Bx (Ih→List V→S→Nat→Option Out) :=
 match C.df f with
 |some df=>⟨fun ih args σ nx=>ih ⟨f,df.n,.fn df.res,[]⟩ [.code df.body] (Zmf 0 args T.nil) σ nx⟩
 |none=>⟨fun _ _ _ _=>nO⟩
def ZjX(C:Cx)(f:FuncId):Bx (Ih→List V→S→Nat→Option Out) :=
 match C.lib f with
 |some g=>⟨fun ih args σ nx=>match g σ args with
  |some v=>sO ⟨false,v,σ,nx⟩
  |none=>(ZoP C f).run ih args σ nx⟩
 |none=>ZoP C f
def ZlQ(C:Cx)(ih:Ih)(f:V)(args:List V)(σ:S)(nx:Nat):Option Out :=
 match f with
 |.fn f first caps=>(ZjX C f).run ih (first++(args++caps)) σ nx
 |.yield l=>match σ.get l with
  |some (.loop f n ps a b ρ nO false)=>noV (Nat.beq args.length ps.length) (ih ⟨f,n,.rnd l,[]⟩ [.code a,.beginR,.code b] (ZfK ps args ρ) σ nx)
  |_=>nO
 |_=>nO
def Ztd:V→Bool
 |.int k n=>ZsL k n
 |.bool _=>true
 |.str l=>Nat.ble l.length big
 |.nilsl=>true
 |.nilptr=>true
 |.ptr _ _=>true
 |.map _=>true
 |.nilmap=>true
 |.nilfn=>true
 |.niliface=>true
 |_=>false
def Zkd:List V→Bool
 | []=>true
 |v::r=>Ztd v&&Zkd r
def Ztc:Option V→Bool
 |some x=>match x with
  |.iface _ v=>match v with
   |.agg cs=>Zkd cs
   |v=>Ztd v
  |_=>false
 |none=>true
def ZjK(C:Cx)(ih:Ih):List Dd→Option V→S→Nat→Option (Option V×S×Nat)
 | [],m,σ,nx=>sO (m,σ,nx)
 |.mark q::r,m,σ,nx=>match σ.get q with
  |some .dfr=>ZjK C ih r m (σ.set nO q) nx
  |_=>nO
 |.fn i args caps::r,m,σ,nx=>match C.df i with
  |some ⟨n,[],body⟩=>noV (Ztc m) <|match ih ⟨i,n,.dfd m false,[]⟩ [.code body] (Zmf 0 (args++caps) T.nil) σ nx with
   |some ⟨false,.bool b,σ',nx'⟩=>ZjK C ih r (if b then nO else m) σ' nx'
   |_=>nO
  |_=>nO
def loopTo(σ:S)(l:Nat)(st:Option DC)(now busy:Bool):Option S :=
 match σ.get l with
 |some (.loop f n ps a b ρ nO bs)=>noV (bs==now) (sO (σ.set (sO (.loop f n ps a b ρ st busy)) l))
 |_=>nO
def Ztb(C:Cx)(ih:Ih)(fm:Fm)(ρ:T W)(σ:S)(nx:Nat)(fell:Bool):Option Out :=
 match fm.k with
 |.fn res=>match ZjK C ih fm.ds nO σ nx with
  |some (nO,σ',nx')=>match Znv ρ σ' res with
   |some vs=>sO ⟨false,mkV vs,σ',nx'⟩
   |none=>nO
  |_=>nO
 |.rnd l=>match loopTo σ l (if fell then nO else sO .ret) true false with
  |some σ'=>sO ⟨false,.bool fell,σ',nx⟩
  |none=>nO
 |.dfd pd rec=>match fm.ds with
  | []=>sO ⟨false,.bool (pd.isNone ||rec),σ,nx⟩
  |_=>nO
def Zlk(C:Cx)(ih:Ih)(fm:Fm)(ρ:T W)(v:V)(σ:S)(nx:Nat):Option Out :=
 match fm.k with
 |.fn res=>match ZjK C ih fm.ds (sO v) σ nx with
  |some (nO,σ',nx')=>match Znv ρ σ' res with
   |some vs=>sO ⟨false,mkV vs,σ',nx'⟩
   |none=>nO
  |some (sO v,σ',nx')=>sO ⟨true,v,σ',nx'⟩
  |none=>nO
 |.rnd _=>match C.P.funcs[fm.f]? with
  |some _=>sO ⟨true,v,σ,nx⟩
  |none=>nO
 |.dfd _ _=>nO
abbrev Rg:=Ih→List Zu→Fm→T W→S→Nat→Option Out
def goF(C:Cx)(f:FuncId)(rest:Bx Rg)(dst:Option Nat)(g:Option (Nat×Bool))(k:K):Bx Rg :=
 match k with
 |.call fx xs=>⟨fun ih dk fm ρ σ nx=>match (Kf fx).run ρ with
  |some fv=>match (ZcN xs).run ρ with
   |some vs=>match ZlQ C ih fv vs σ nx with
    |some ⟨pan,v,σ',nx'⟩=>match pan with
     |false=>rest.run ih dk fm ((ZdD dst).run ρ (.v v)) σ' nx'
     |true=>Zlk C ih fm ρ v σ' nx'
    |none=>nO
   |none=>nO
  |none=>nO⟩
 |.panic x=>⟨fun ih _ fm ρ σ nx=>match (Kf x).run ρ with
  |some (.iface t v)=>Zlk C ih fm ρ (.iface t v) σ nx
  |_=>nO⟩
 |.defer fx xs=>match g,dst with
  |none,nO=>⟨fun ih dk fm ρ σ nx=>match (Kf fx).run ρ,(ZcN xs).run ρ with
   |some (.fn j first caps),sO vs=>match fm.k with
    |.fn _=>noV (Zkd (first++vs)&&Zkd caps) (rest.run ih dk { fm with ds:=.fn j (first++vs) caps::fm.ds } ρ σ nx)
    |_=>nO
   |_,_=>nO⟩
  |_,_=>⟨fun _ _ _ _ _ _=>nO⟩
 |.recover=>match g with
  |none=>⟨fun ih dk fm ρ σ nx=>match fm.k with
   |.dfd (sO v) false=>rest.run ih dk { fm with k:=.dfd (sO v) true } ((ZdD dst).run ρ (.v v)) σ nx
   |.dfd nO _=>rest.run ih dk fm ((ZdD dst).run ρ (.v .niliface)) σ nx
   |_=>nO⟩
  |_=>⟨fun _ _ _ _ _ _=>nO⟩
 |k=>match gk k ||g.isNone with
  |true=>⟨fun ih dk fm ρ σ nx=>match (opF (C.mu f dst) dst.isSome k).run ρ σ nx with
   |some ⟨v,σ',nx'⟩=>rest.run ih dk fm ((ZdD dst).run ρ (.v v)) σ' nx'
   |none=>nO⟩
  |false=>⟨fun _ _ _ _ _ _=>nO⟩
def Znu(C:Cx)(f:FuncId):List DOp→Bx Rg
 | []=>⟨fun ih dk fm ρ σ nx=>ih fm dk ρ σ nx⟩
 |⟨dst,g,k⟩::os=>match g with
  |none=>goF C f (Znu C f os) dst g k
  |some _=>⟨fun ih dk fm ρ σ nx=>match (Zi1 g).run ρ with
   |some b=>match b with
    |true=>(goF C f (Znu C f os) dst g k).run ih dk fm ρ σ nx
    |false=>(Znu C f os).run ih dk fm ((ZdD dst).run ρ .skip) σ nx
   |none=>nO⟩
def Zi7:K→Bool
 |.fork _=>false
 |_=>true
structure Rl where
 cs:List (Nat×List V)
 ad:List (Nat×Nat×Nat)
 bn:List (Nat×Nat)
 bl:List (Nat×Nat)
def Rl.nil:Rl:=⟨[],[],[],[]⟩
def ZhK(u:Nat):List (Nat×Nat×Nat)→Option (Nat×Nat)
 | []=>nO
 | (t,a)::r=>if Nat.beq t u then sO a else ZhK u r
def Jk(l:Nat):List (Nat×List V)→Option (List V)
 | []=>nO
 | (t,c)::r=>if Nat.beq t l then sO c else Jk l r
def Zjy(l:Nat)(vs:List V):List (Nat×List V)→List (Nat×List V)
 | []=>[]
 | (t,c)::r=>if Nat.beq t l then (t,vs)::r else (t,c)::Zjy l vs r
def ZgB(n:Nat):List Nat→Bool
 | []=>false
 |a::r=>if Nat.beq a n then true else ZgB n r
def ZuZ(n:Nat)(l:List Nat):List Nat:=if ZgB n l then l else n::l
def Zls(fl:List Nat):List (Nat×Nat)→List Nat
 | []=>[]
 | (t,n)::r=>if ZgB t fl then ZuZ n (Zls fl r) else Zls fl r
def Zgc(fl:List Nat):List (Nat×Nat)→List (Nat×Nat)
 | []=>[]
 | (t,n)::r=>if ZgB t fl then (t,n)::Zgc fl r else Zgc fl r
def noA(u:Nat)(r:Rl):Bool:=match ZhK u r.ad with
 |none=>Nat.blt u 32768
 |some _=>false
def Ze7(dst:Option Nat)(r:Rl):Bool:=match dst with
 |none=>true
 |some t=>noA t r
def Zs0(t:Nat)(r:Rl):Bool:=(match Jk t r.cs with
 |none=>true
 |some _=>false)&&noA t r
def Za2(fl:List Nat)(r:Rl):Rl:=match fl with
 | []=>⟨r.cs,r.ad,[],[]⟩
 |fl=>⟨r.cs,r.ad,Zgc fl r.bn,Zgc fl r.bl⟩
def Zhf:O→Bool
 |.cells _=>true
 |.buf _=>true
 |.map _=>true
 |_=>false
def ZhZ:List Nat→S→Option (S×List (Nat×O))
 | [],σ=>sO (σ,[])
 |k::r,σ=>match σ.get k with
  |some o=>match Zhf o with
   |true=>match ZhZ r (σ.set (sO (.ro o)) k) with
    |some (σ',l)=>sO (σ',(k,o)::l)
    |none=>nO
   |false=>match Zb6 o with
    |true=>ZhZ r σ
    |false=>nO
  |none=>nO
def Zf8:List (Nat×O)→S→Option S
 | [],σ=>sO σ
 | (k,o)::r,σ=>match σ.get k with
  |some (.ro _)=>match Zf8 r σ with
   |some σ'=>sO (σ'.set (sO o) k)
   |none=>nO
  |_=>nO
def Zno(fl:List Nat)(r:Rl)(σ:S):Option (S×List (Nat×O)):=match fl with
 | []=>sO (σ,[])
 |fl=>ZhZ (Zls fl r.bn) σ
def ZeK:Opd→Rl→Option (Nat×Nat)
 |.tmp t,r=>ZhK t r.ad
 |.cst _,_=>nO
def Zv4(t:Nat)(v:V)(r:Rl):Rl:=match v with
 |.ptr k _=>⟨r.cs,r.ad,(t,k)::r.bn,r.bl⟩
 |.msl k _ _ _ _=>⟨r.cs,r.ad,(t,k)::r.bn,r.bl⟩
 |.map k=>⟨r.cs,r.ad,(t,k)::r.bn,r.bl⟩
 |_=>r
def rdR(t:Nat)(k:K):Bx (T W→Rl→Rl):=match k with
 |.q q xs=>match KR (.q q xs) with
  |true=>match xs with
   |x::_=>⟨fun ρ r=>match (Kf x).run ρ with
    |some v=>Zv4 t v r
    |none=>r⟩
   | []=>⟨fun _ r=>r⟩
  |false=>⟨fun _ r=>r⟩
 |_=>⟨fun _ r=>r⟩
abbrev RgD:=Rl→Rg
def Zjc(rest:Bx RgD)(dst:Option Nat)(k:K):Bx RgD :=
 ⟨fun r ih dk fm ρ σ nx=>match (opF false dst.isSome k).run ρ σ nx with
  |some ⟨v,_,_⟩=>noV (Ze7 dst r) (rest.run ((rdR (dst.getD 0) k).run ρ r) ih dk fm ((ZdD dst).run ρ (.v v)) σ nx)
  |none=>nO⟩
def Znc(C:Cx)(f:FuncId)(rest:Bx RgD)(dst:Option Nat)(g:Option (Nat×Bool))(fl:List Nat)(k:K):Bx RgD :=
 match gk k ||g.isNone with
 |true=>⟨fun r ih dk fm ρ σ nx=>match Zno fl r σ with
  |some (σ0,l)=>match (opF (C.mu f dst) dst.isSome k).run ρ σ0 nx with
   |some ⟨v,σ',nx'⟩=>match Zf8 l σ' with
    |some σ2=>noV (Ze7 dst r) (rest.run (Za2 fl r) ih dk fm ((ZdD dst).run ρ (.v v)) σ2 nx')
    |none=>nO
   |none=>nO
  |none=>nO⟩
 |false=>⟨fun _ _ _ _ _ _ _=>nO⟩
def adD(rest:Bx RgD)(dst:Option Nat)(l o:Nat):Bx RgD :=
 match dst with
 |some u=>⟨fun r ih dk fm ρ σ nx=>noV (noA u r) (rest.run ⟨r.cs,(u,l,o)::r.ad,r.bn,r.bl⟩ ih dk fm ((T.setF u).run nO ρ) σ nx)⟩
 |none=>⟨fun _ _ _ _ _ _ _=>nO⟩
def Zvw(rest:Bx RgD)(dst:Option Nat)(q:Q)(xs:List Opd):Bx (Nat→Nat→RgD) :=
 match q with
 |.mv=>match xs with
  | []=>⟨fun l o=>(adD rest dst l o).run⟩
  |_=>⟨fun _ _ _ _ _ _ _ _ _=>nO⟩
 |.nilck=>match xs with
  | []=>⟨fun l o=>(adD rest dst l o).run⟩
  |_=>⟨fun _ _ _ _ _ _ _ _ _=>nO⟩
 |.faddr off=>match xs with
  | []=>⟨fun l o=>(adD rest dst l (o+off)).run⟩
  |_=>⟨fun _ _ _ _ _ _ _ _ _=>nO⟩
 |.iaddrA m z=>match xs with
  | [x]=>⟨fun l o r ih dk fm ρ σ nx=>match (Kf x).run ρ with
   |some (.int _ i)=>noV (leI 0 i&&!leI m i) ((adD rest dst l (o+i.toNat*z)).run r ih dk fm ρ σ nx)
   |_=>nO⟩
  |_=>⟨fun _ _ _ _ _ _ _ _ _=>nO⟩
 |.load1=>match xs with
  | []=>⟨fun l o r ih dk fm ρ σ nx=>match Jk l r.cs with
   |some cs=>match ZhN o cs with
    |some v=>noV (Ze7 dst r) (rest.run ⟨r.cs,r.ad,r.bn,(dst.getD 0,l)::r.bl⟩ ih dk fm ((ZdD dst).run ρ (.v v)) σ nx)
    |none=>nO
   |none=>nO⟩
  |_=>⟨fun _ _ _ _ _ _ _ _ _=>nO⟩
 |.loadN n=>match xs with
  | []=>⟨fun l o r ih dk fm ρ σ nx=>match Jk l r.cs with
   |some cs=>match ZjI cs o n with
    |some v=>noV (Ze7 dst r) (rest.run ⟨r.cs,r.ad,r.bn,(dst.getD 0,l)::r.bl⟩ ih dk fm ((ZdD dst).run ρ (.v v)) σ nx)
    |none=>nO
   |none=>nO⟩
  |_=>⟨fun _ _ _ _ _ _ _ _ _=>nO⟩
 |_=>⟨fun _ _ _ _ _ _ _ _ _=>nO⟩
def ZqT(rest:Bx RgD)(fl:List Nat)(l o n:Nat)(xs:List V):RgD:=fun r ih dk fm ρ σ nx=>match Jk l r.cs with
 |some cs=>match Zjz o n xs cs with
  |some cs'=>noV (!ZgB l (Zls fl r.bl)) (rest.run (Za2 fl ⟨Zjy l cs' r.cs,r.ad,r.bn,r.bl⟩) ih dk fm ρ σ nx)
  |none=>nO
 |none=>nO
def goD(C:Cx)(f:FuncId)(rest:Bx RgD)(dst:Option Nat)(g:Option (Nat×Bool))(fl:List Nat)(k:K):Bx RgD :=
 match k with
 |.call fx xs=>⟨fun r ih dk fm ρ σ nx=>match (Kf fx).run ρ with
  |some fv=>match (ZcN xs).run ρ with
   |some vs=>match Zno fl r σ with
    |some (σ0,l)=>match ZlQ C ih fv vs σ0 nx with
     |some ⟨pan,v,σ',nx'⟩=>match Zf8 l σ' with
      |some σ2=>match pan with
       |false=>noV (Ze7 dst r) (rest.run (Za2 fl r) ih dk fm ((ZdD dst).run ρ (.v v)) σ2 nx')
       |true=>Zlk C ih fm T.nil v σ2 nx'
      |none=>nO
     |none=>nO
    |none=>nO
   |none=>nO
  |none=>nO⟩
 |.panic x=>⟨fun _ ih _ fm ρ σ nx=>match (Kf x).run ρ with
  |some (.iface t v)=>Zlk C ih fm T.nil (.iface t v) σ nx
  |_=>nO⟩
 |.defer _ _=>⟨fun _ _ _ _ _ _ _=>nO⟩
 |.recover=>⟨fun _ _ _ _ _ _ _=>nO⟩
 |.fork _=>⟨fun _ _ _ _ _ _ _=>nO⟩
 |.alloc z=>match g,dst,ofDs z with
  |none,sO t,sO z=>⟨fun r ih dk fm ρ σ nx=>noV (Zs0 t r) (rest.run ⟨(t,z)::r.cs,(t,t,0)::r.ad,r.bn,r.bl⟩ ih dk fm ((T.setF t).run nO ρ) σ nx)⟩
  |_,_,_=>⟨fun _ _ _ _ _ _ _=>nO⟩
 |.box x=>match g,dst with
  |none,sO t=>⟨fun r ih dk fm ρ σ nx=>match (Kf x).run ρ with
   |some v=>noV (Zii v&&Zs0 t r&&!ZgB t (Zls fl r.bl)) (rest.run (Za2 fl ⟨(t,Zf3 v)::r.cs,(t,t,0)::r.ad,r.bn,r.bl⟩) ih dk fm ((T.setF t).run nO ρ) σ nx)
   |none=>nO⟩
  |_,_=>⟨fun _ _ _ _ _ _ _=>nO⟩
 |.store1 a v=>match g,dst with
  |none,nO=>⟨fun r ih dk fm ρ σ nx=>match ZeK a r with
   |some (l,o)=>match (Kf v).run ρ with
    |some x=>noV (Zo6 x) (ZqT rest fl l o 1 [x] r ih dk fm ρ σ nx)
    |none=>nO
   |none=>(Znc C f rest dst g fl (.store1 a v)).run r ih dk fm ρ σ nx⟩
  |_,_=>⟨fun _ _ _ _ _ _ _=>nO⟩
 |.storeN n a v=>match g,dst with
  |none,nO=>⟨fun r ih dk fm ρ σ nx=>match ZeK a r with
   |some (l,o)=>match (Kf v).run ρ with
    |some (.agg xs)=>ZqT rest fl l o n xs r ih dk fm ρ σ nx
    |_=>nO
   |none=>(Znc C f rest dst g fl (.storeN n a v)).run r ih dk fm ρ σ nx⟩
  |_,_=>⟨fun _ _ _ _ _ _ _=>nO⟩
 |.q q xs=>match xs with
  |x::ys=>⟨fun r ih dk fm ρ σ nx=>match ZeK x r with
   |some (l,o)=>(Zvw rest dst q ys).run l o r ih dk fm ρ σ nx
   |none=>(Zjc rest dst (.q q xs)).run r ih dk fm ρ σ nx⟩
  | []=>Zjc rest dst (.q q xs)
 |k=>match KD k with
  |true=>Zjc rest dst k
  |false=>Znc C f rest dst g fl k
def ZjH:K→Option (Opd×Nat)
 |.store1 a _=>sO (a,1)
 |.storeN n a _=>sO (a,n)
 |_=>nO
def Zxl(a:Opd)(n:Nat)(a2:Opd)(n2:Nat):Bx (T W→Rl→Bool) :=
 ⟨fun ρ r=>match ZeK a r,ZeK a2 r,(Kf a).run ρ,(Kf a2).run ρ with
  |none,nO,sO (.ptr b o),sO (.ptr b2 o2)=>!Nat.beq b b2 ||Nat.ble (o+n) o2 ||Nat.ble (o2+n2) o
  |_,_,_,_=>false⟩
def eqL:List Nat→List Nat→Bool
 | [],[]=>true
 |a::x,b::y=>Nat.beq a b&&eqL x y
 |_,_=>false
def Zv3(rest:Bx RgD)(t t2:Nat)(fl:List Nat):Bx RgD :=
 ⟨fun r ih dk fm ρ σ nx=>match Zno fl r σ with
  |some _=>noV (noA t r&&noA t2 r) (rest.run (Za2 fl (Za2 fl r)) ih dk fm ((T.setF t2).run (sO (.v (.map (nx+1)))) ((T.setF t).run (sO (.v (.map nx))) ρ)) ((σ.set (sO (.map [])) nx).set (sO (.map [])) (nx+1)) (nx+2))
  |none=>nO⟩
def ZsI(C:Cx)(f:FuncId)(rest:Bx RgD)(dst:Option Nat)(g:Option (Nat×Bool))(k:K)(fl:List Nat)(dst2:Option Nat)(g2:Option (Nat×Bool))(k2:K)(fl2:List Nat):Bx RgD :=
 match g with
 |some _=>⟨fun _ _ _ _ _ _ _=>nO⟩
 |none=>match g2 with
  |some _=>⟨fun _ _ _ _ _ _ _=>nO⟩
  |none=>match ZjH k with
   |some (a,n)=>match ZjH k2 with
    |some (a2,n2)=>match dst,dst2,fl,fl2 with
     |none,nO,[],[]=>⟨fun r ih dk fm ρ σ nx=>noV ((Zxl a n a2 n2).run ρ r) ((goD C f (goD C f rest nO nO [] k2) nO nO [] k).run r ih dk fm ρ σ nx)⟩
     |_,_,_,_=>⟨fun _ _ _ _ _ _ _=>nO⟩
    |none=>⟨fun _ _ _ _ _ _ _=>nO⟩
   |none=>match k with
    |.mkmap=>match k2 with
     |.mkmap=>match dst with
      |some t=>match dst2 with
       |some t2=>match eqL fl fl2&&!Nat.beq t t2 with
        |true=>Zv3 rest t t2 fl
        |false=>⟨fun _ _ _ _ _ _ _=>nO⟩
       |none=>⟨fun _ _ _ _ _ _ _=>nO⟩
      |none=>⟨fun _ _ _ _ _ _ _=>nO⟩
     |_=>⟨fun _ _ _ _ _ _ _=>nO⟩
    |_=>⟨fun _ _ _ _ _ _ _=>nO⟩
def Zmx:List (Nat×Nat×Nat)→Nat→Nat→T W→T W
 | [],_,_,ρ=>ρ
 | (u,l,o)::r,t,nx,ρ=>if Nat.beq l t then (Zmx r t nx ρ).set (sO (.v (.ptr nx o))) u else Zmx r t nx ρ
def ZpZ:List (Nat×List V)→List (Nat×Nat×Nat)→Rg
 | [],_=>fun ih dk fm ρ σ nx=>ih fm dk ρ σ nx
 | (t,vs)::r,ad=>fun ih dk fm ρ σ nx=>match ZhK t ad with
  |some (l,_)=>noV (Nat.beq l t) (ZpZ r ad ih dk fm (Zmx ad t nx ρ) (σ.set (sO (.cells vs)) nx) (nx+1))
  |none=>nO
def Zh1(C:Cx)(f:FuncId):List (DOp×List Nat)→Bx RgD
 | []=>⟨fun r ih dk fm ρ σ nx=>ZpZ r.cs r.ad ih dk fm ρ σ nx⟩
 | (⟨dst,g,k⟩,fl)::os=>match k with
  |.fork k1=>match os with
   | (⟨dst2,g2,k2⟩,fl2)::os2=>ZsI C f (Zh1 C f os2) dst g k1 fl dst2 g2 k2 fl2
   | []=>⟨fun _ _ _ _ _ _ _=>nO⟩
  |k=>match g with
   |none=>goD C f (Zh1 C f os) dst g fl k
   |some _=>⟨fun r ih dk fm ρ σ nx=>match (Zi1 g).run ρ with
    |some b=>match b with
     |true=>(goD C f (Zh1 C f os) dst g fl k).run r ih dk fm ρ σ nx
     |false=>match k with
      |.alloc _=>nO
      |k=>noV (Ze7 dst r) ((Zh1 C f os).run (if KD k then r else Za2 fl r) ih dk fm ((ZdD dst).run ρ .skip) σ nx)
    |none=>nO⟩
abbrev Cd:=Ih→Fm→List Zu→T W→S→Nat→Option Out
def Zbm(C:Cx)(f:FuncId):DC→Bx Cd
 |.skip=>⟨fun ih fm k ρ σ nx=>ih fm k ρ σ nx⟩
 |.label _=>⟨fun ih fm k ρ σ nx=>ih fm k ρ σ nx⟩
 |.seq a b=>⟨fun ih fm k ρ σ nx=>(Zbm C f a).run ih fm (.code b::k) ρ σ nx⟩
 |.cond c a b=>⟨fun ih fm k ρ σ nx=>match (Kf c).run ρ with
  |some v=>match v with
   |.bool t=>match t with
    |true=>(Zbm C f a).run ih fm k ρ σ nx
    |false=>(Zbm C f b).run ih fm k ρ σ nx
   |_=>nO
  |none=>nO⟩
 |.block id a=>⟨fun ih fm k ρ σ nx=>(Zbm C f a).run ih fm (.inBlock id::k) ρ σ nx⟩
 |.loop a=>⟨fun ih fm k ρ σ nx=>(Zbm C f a).run ih fm (.inLoop a::k) ρ σ nx⟩
 |.scope a=>⟨fun ih fm k ρ σ nx=>(Zbm C f a).run ih fm (.inScope a::k) ρ σ nx⟩
 |.exit id=>⟨fun ih fm k ρ σ nx=>match Zag id k with
  |some k'=>ih fm k' ρ σ nx
  |none=>match fm.k with
   |.rnd l=>match loopTo σ l (sO (.exit id)) true false with
    |some σ'=>sO ⟨false,.bool false,σ',nx⟩
    |none=>nO
   |_=>nO⟩
 |.goto l=>⟨fun ih fm k ρ σ nx=>match Zdx l k with
  |some k'=>ih fm k' ρ σ nx
  |none=>nO⟩
 |.ret=>⟨fun ih fm _ ρ σ nx=>Ztb C ih fm ρ σ nx false⟩
 |.reg ops kp=>match kp with
  |none=>match ops.all fun o=>Zi7 o.k with
   |true=>⟨fun ih fm k ρ σ nx=>(Znu C f ops).run ih k fm ρ σ nx⟩
   |false=>⟨fun _ _ _ _ _ _=>nO⟩
  |some _=>⟨fun _ _ _ _ _ _=>nO⟩
 |.regD _ ops _=>⟨fun ih fm k ρ σ nx=>(Zh1 C f ops).run Rl.nil ih k fm ρ σ nx⟩
 |.rangeF g ps a b=>⟨fun ih fm k ρ σ nx=>match fm.k with
  |.fn _=>match (Kf g).run ρ with
   |some fv=>match ZlQ C ih fv [.yield (nx+1)] ((σ.set (sO .dfr) nx).set (sO (.loop fm.f fm.n ps a b ρ nO false)) (nx+1)) (nx+2) with
    |some ⟨pan,v,σ',nx'⟩=>match pan with
     |false=>match σ'.get (nx+1) with
      |some (.loop _ _ _ _ _ _ nO false)=>ih { fm with ds:=.mark nx::fm.ds } k ρ (σ'.set nO (nx+1)) nx'
      |some (.loop f' n' _ _ _ _ (sO j) false)=>noV (Nat.beq f' fm.f&&Nat.beq n' fm.n) (ih { fm with ds:=.mark nx::fm.ds } (.code j::k) ρ (σ'.set nO (nx+1)) nx')
      |_=>nO
     |true=>Zlk C ih { fm with ds:=.mark nx::fm.ds } ρ v σ' nx'
    |none=>nO
   |none=>nO
  |_=>nO⟩
def step(C:Cx)(ih:Ih)(fm:Fm)(dk:List Zu)(ρ:T W)(σ:S)(nx:Nat):Option Out :=
 match dk with
 | []=>Ztb C ih fm ρ σ nx true
 |it::k=>match it with
  |.inBlock _=>ih fm k ρ σ nx
  |.inScope _=>ih fm k ρ σ nx
  |.inLoop c=>(Zbm C fm.f c).run ih fm (.inLoop c::k) ρ σ nx
  |.beginR=>match fm.k with
   |.rnd l=>match loopTo σ l nO false true with
    |some σ'=>ih fm k ρ σ' nx
    |none=>nO
   |_=>nO
  |.code c=>(Zbm C fm.f c).run ih fm k ρ σ nx
def run(C:Cx)(n:Nat):Ih:=Nat.rec (motive:=fun _=>Ih) (fun _ _ _ _ _=>nO) (fun _ ih=>step C ih) n
theorem Zv5(a b:Nat):UInt8.ofNat a=UInt8.ofNat b↔a % 256=b % 256:=by
 rw[←UInt8.toNat_inj];simp[UInt8.toNat_ofNat']
theorem Zl2:∀(a b:List Nat),eqS a b=dC (a.map UInt8.ofNat=b.map UInt8.ofNat)
 | [],[]=>by simp[eqS]
 | [],b::y=>by simp[eqS]
 |a::x,[]=>by simp[eqS]
 |a::x,b::y=>by
  simp only[eqS,Zyp,List.cons.injEq,Zv5,Zl2 x y]
  by_cases h:a % 256=b % 256<;>simp[h,Nat.beq_eq]
theorem Zqd:∀(a b:List Nat),Zej a b=Op.bytesLess (a.map UInt8.ofNat) (b.map UInt8.ofNat)
 | [],[]=>by simp[Zej,Op.bytesLess]
 | [],b::y=>by simp[Zej,Op.bytesLess]
 |a::x,[]=>by simp[Zej,Op.bytesLess]
 |a::x,b::y=>by
  have e1:(UInt8.ofNat a<UInt8.ofNat b)↔a % 256<b % 256:=by
   rw[UInt8.lt_iff_toNat_lt];simp[UInt8.toNat_ofNat']
  have e2:=Zv5 a b
  simp only[Zej,Zyp,Op.bytesLess,Zqd x y]
  by_cases h1:a % 256<b % 256
  ·simp[h1,e1,Nat.blt_eq]
  ·by_cases h2:a % 256=b % 256
   ·simp[h1,h2,e1,e2,Nat.blt_eq]
   ·simp[h1,h2,e1,e2,Nat.blt_eq]
section
variable {η:Nm}
theorem ZmG{k:SK}{x y:V}{dx dy:D}(hx:VR η x dx)(hy:VR η y dy){b:Bool}(h:Zke k x y=sO b):WH k dx dy=sO b:=by
 cases k<;>cases hx<;>cases hy<;>simp only[Zke,reduceCtorEq]at h
 ·split at h<;>simp only[Zyd,reduceCtorEq]at h
  rename_i hk
  obtain rfl:=ZfC hk
  simp only[WH,if_true,Zyd]
  rw[←ZiT];exact h
 ·simp only[Zyd]at h
  simp only[WH,Zyd]
  rw[←Zl2];exact h
 ·simpa only[WH]using h
theorem ZiN{xs ys:List V}{ds es:List D}(hx:VRs η xs ds)(hy:VRs η ys es):∀{l:List (Nat×SK)} {b:Bool},ZgU xs ys l=sO b→Qx ds es l=sO b
 | [],b,h=>by simpa only[ZgU,Qx]using h
 | (o,k)::r,b,h=>by
  simp only[ZgU]at h
  split at h<;>(try(simp at h;done))
  rename_i x y h1 h2
  split at h<;>simp only[Zyd,reduceCtorEq]at h
  rename_i b1 b2 h3 h4
  obtain⟨dx,hdx,hvx⟩:=hx.get h1
  obtain⟨dy,hdy,hvy⟩:=hy.get h2
  simp only[Qx,hdx,hdy,ZmG hvx hvy h3,ZiN hx hy h4,h]
theorem Zcm{kp:KP}{x y:V}{dx dy:D}(hx:VR η x dx)(hy:VR η y dy){b:Bool}(h:ZeQ kp x y=sO b):Jt kp dx dy=sO b:=by
 cases kp with
 |sc k=>exact ZmG hx hy h
 |st l =>
  cases hx<;>cases hy<;>simp only[ZeQ,reduceCtorEq]at h
  rename_i cs ds h1 cs' ds' h2
  split at h<;>(try(simp at h;done))
  rename_i hl
  simp only[Jt]
  rw[if_pos ⟨by rw[←h1.len];exact hl.1,by rw[←h2.len];exact hl.2⟩]
  exact ZiN h1 h2 h
theorem Zge{kp:KP}{x:V}{dx:D}(hx:VR η x dx)(h:(ZeQ kp x x).isSome=true):Zai kp dx=true:=by
 cases hk:ZeQ kp x x with
 |none=>rw[hk]at h;simp at h
 |some b=>simp[Zai,Zcm hx hx hk]
theorem Zqs{p:ZeJ}{x y:V}{dx dy:D}(hx:VR η x dx)(hy:VR η y dy){b:Bool}(h:Zo4 p x y=sO b):∃side,KC p dx dy=sO (side,b)∧side:=by
 cases p<;>cases hx<;>cases hy<;>simp only[Zo4,reduceCtorEq,Zyd]at h
 case cells.agg.agg l cs ds h1 cs' ds' h2=>exact⟨True,by simp[KC,ZiN h1 h2 h],trivial⟩
 case sl.sl.nilsl t n s rs τ row h1 h2 h3 =>
  split at h<;>simp only[Zyd,reduceCtorEq]at h
  subst h
  exact⟨_,rfl,‹_›⟩
 all_goals (subst h;exact⟨True,rfl,trivial⟩)
theorem Zdb{k:IntKind}{n:Int}{v:V}(h:Zgw k n=sO v):v=.int k n∧inR k n:=by
 unfold Zgw at h
 split at h<;>simp only[Zyd,reduceCtorEq]at h
 exact⟨h.symm,ZrW ‹_›⟩
theorem ZwN{op:BinOp}{k k':IntKind}{a b:Int}{v:V}(hk:ZqM op=true∨k=k')(h:ZvJ op k a b=sO v):∃side d,ZbF op nO (.int k a) (.int k' b)=sO (side,d)∧side∧VR η v d:=by
 have hsh:ZqM op=false→k=k':=fun h=>hk.resolve_left (by rw[h];simp)
 cases op<;>simp only[ZvJ]at h
 case shl =>
  split at h<;>(try(simp at h;done))
  rename_i h0
  obtain⟨rfl,hr⟩:=Zdb h
  rw[Zg5,decide_eq_true_eq]at h0
  exact⟨_,_,rfl,⟨h0,hr⟩,.int _ _⟩
 case shr =>
  split at h<;>(try(simp at h;done))
  rename_i h0
  obtain⟨rfl,hr⟩:=Zdb h
  rw[Zg5,decide_eq_true_eq]at h0
  exact⟨_,_,rfl,⟨h0,hr⟩,.int _ _⟩
 all_goals
  obtain rfl:=hsh rfl
  simp only[ZbF,if_true,Zay]
 case add=>obtain⟨rfl,hr⟩:=Zdb h;exact⟨_,_,rfl,hr,.int _ _⟩
 case sub=>obtain⟨rfl,hr⟩:=Zdb h;exact⟨_,_,rfl,hr,.int _ _⟩
 case mul=>obtain⟨rfl,hr⟩:=Zdb h;exact⟨_,_,rfl,hr,.int _ _⟩
 case quo =>
  split at h<;>(try(simp at h;done))
  rename_i h0
  obtain⟨rfl,hr⟩:=Zdb h
  rw[ZiT,decide_eq_false_iff_not]at h0
  exact⟨_,_,rfl,⟨h0,hr⟩,.int _ _⟩
 case rem =>
  split at h<;>(try(simp at h;done))
  rename_i h0
  obtain⟨rfl,hr⟩:=Zdb h
  rw[ZiT,decide_eq_false_iff_not]at h0
  exact⟨_,_,rfl,⟨h0,hr⟩,.int _ _⟩
 all_goals
  simp only[Zyd]at h
  subst h
  refine⟨_,_,rfl,trivial,?_⟩
  try simp only[ZiT,Zg5]
 case lss=>rw[show(!dC (b≤a))=dC (a<b) by by_cases hh:a<b<;>simp[hh]<;>omega];exact .bool _
 case gtr=>rw[show(!dC (a≤b))=dC (b<a) by by_cases hh:b<a<;>simp[hh]<;>omega];exact .bool _
 case geq=>exact .bool _
 all_goals first|exact .bool _|exact .int _ _
theorem ZwP{op:BinOp}{a b:List Nat}{v:V}(h:ZvK op a b=sO v):∃side d,ZeN op (a.map UInt8.ofNat) (b.map UInt8.ofNat)=sO (side,d)∧side∧VR η v d:=by
 cases op<;>simp only[ZvK,reduceCtorEq]at h
 case add =>
  split at h<;>simp only[Zyd,reduceCtorEq]at h
  rename_i hb
  rw[Nat.ble_eq]at hb
  subst h
  refine⟨_,_,rfl,by simpa using hb,?_⟩
  rw[←List.map_append];exact .str _
 all_goals
  simp only[Zyd]at h
  subst h
  refine⟨_,_,rfl,trivial,?_⟩
  simp only[Zl2,Zqd]
  exact .bool _
theorem ZwO{op:BinOp}{p:Option ZeJ}{x y:V}{dx dy:D}(hx:VR η x dx)(hy:VR η y dy){v:V}(h:Zqw op p x y=sO v):∃side d,eqO op p dx dy=sO (side,d)∧side∧VR η v d:=by
 cases p with
 |none=>simp[Zqw]at h
 |some p =>
  cases op<;>simp only[Zqw,reduceCtorEq]at h
  case eql =>
   split at h<;>simp only[Zyd,reduceCtorEq]at h
   subst h
   obtain⟨side,h1,h2⟩:=Zqs hx hy ‹_›
   exact⟨side,_,by simp only[eqO,h1,Zyv],h2,.bool _⟩
  case neq =>
   split at h<;>simp only[Zyd,reduceCtorEq]at h
   subst h
   obtain⟨side,h1,h2⟩:=Zqs hx hy ‹_›
   exact⟨side,_,by simp only[eqO,h1,Zyv],h2,.bool _⟩
theorem ZwM{op:BinOp}{p:Option ZeJ}{x y:V}{dx dy:D}(hx:VR η x dx)(hy:VR η y dy){v:V}(h:Zqv op p x y=sO v):∃side d,ZbF op p dx dy=sO (side,d)∧side∧VR η v d:=by
 have oth:(∀k a,dx≠.int k a)→(∀l,dx≠.str l)→Zqw op p x y=sO v→∃side d,ZbF op p dx dy=sO (side,d)∧side∧VR η v d:=fun h1 h2 h3=>by
  obtain⟨side,d,e1,e2,e3⟩:=ZwO hx hy h3
  refine⟨side,d,?_,e2,e3⟩
  rw[←e1]
  cases dx<;>first|rfl|exact absurd rfl (h1 _ _)|exact absurd rfl (h2 _)
 cases hx
 case int k a =>
  cases hy<;>simp only[Zqv,reduceCtorEq]at h
  rename_i k' b
  split at h<;>(try(simp at h;done))
  rename_i hb
  rw[Zyu]at hb
  obtain⟨side,d,e1,e2,e3⟩:=ZwN (η:=η) (k':=k') (hb.imp id ZfC) h
  refine⟨side,d,?_,e2,e3⟩
  rw[←e1]
  rfl
 case str s =>
  cases hy<;>simp only[Zqv,reduceCtorEq]at h
  exact ZwP h
 all_goals exact oth (fun _ _=>by simp) (fun _=>by simp) (by simpa only[Zqv]using h)
def MR(η:Nm)(e:V×V)(d:D×D):Prop:=VR η e.1 d.1∧VR η e.2 d.2
theorem MR.mono{η':Nm}(h:η.Sub η'){e:V×V}{d:D×D}(m:MR η e d):MR η' e d:=⟨m.1.mono h,m.2.mono h⟩
theorem Zp1{kp:KP}{k:V}{dk:D}(hk:VR η k dk):∀{es:List (V×V)} {ds:List (D×D)} {r:Option V},Yh (MR η) es ds→Zl8 kp k es=sO r →
  ∃r',ZcQ kp dk ds=sO r'∧(match r,r' with|some v,sO d=>VR η v d|none,nO=>True|_,_=>False)
 | [],ds,r,h,hf=>by
  cases h
  simp only[Zl8,Zyd]at hf
  subst hf
  exact⟨nO,rfl,trivial⟩
 |e::es,ds,r,h,hf=>by
  cases h with
  |cons h1 h2 =>
  simp only[Zl8]at hf
  split at hf<;>(try(simp at hf;done))
  ·rename_i hb
   simp only[Zyd]at hf
   subst hf
   exact⟨sO _,by simp only[ZcQ,Zcm hk h1.1 hb],h1.2⟩
  ·rename_i hb
   obtain⟨r',e1,e2⟩:=Zp1 hk h2 hf
   exact⟨r',by simp only[ZcQ,Zcm hk h1.1 hb,e1],e2⟩
theorem ZnL{kp:KP}{k v:V}{dk dv:D}(hk:VR η k dk)(hv:VR η v dv):∀{es r:List (V×V)} {ds:List (D×D)},Yh (MR η) es ds→ZnK kp k v es=sO r →
  ∃r',ZbM kp dk dv ds=sO r'∧Yh (MR η) r r'
 | [],r,ds,h,hf=>by
  cases h
  simp only[ZnK,Zyd]at hf
  subst hf
  exact⟨_,rfl,.cons ⟨hk,hv⟩ .nil⟩
 |e::es,r,ds,h,hf=>by
  cases h with
  |cons h1 h2 =>
  simp only[ZnK]at hf
  split at hf<;>(try(simp at hf;done))
  ·rename_i hb
   simp only[Zyd]at hf
   subst hf
   exact⟨(dk,dv)::_,by simp only[ZbM,Zcm hk h1.1 hb],.cons ⟨hk,hv⟩ h2⟩
  ·rename_i hb
   simp only[Zym]at hf
   obtain⟨r0,hr,rfl⟩:=hf
   obtain⟨r',e1,e2⟩:=ZnL hk hv h2 hr
   exact⟨_,by simp only[ZbM,Zcm hk h1.1 hb,e1,Zyv],.cons h1 e2⟩
theorem ZrN{kp:KP}{k:V}{dk:D}(hk:VR η k dk):∀{es r:List (V×V)} {ds:List (D×D)},Yh (MR η) es ds→ZpO kp k es=sO r →
  ∃r',Zgs kp dk ds=sO r'∧Yh (MR η) r r'
 | [],r,ds,h,hf=>by
  cases h
  simp only[ZpO,Zyd]at hf
  subst hf
  exact⟨_,rfl,.nil⟩
 |e::es,r,ds,h,hf=>by
  cases h with
  |cons h1 h2 =>
  simp only[ZpO]at hf
  split at hf<;>(try(simp at hf;done))
  ·rename_i hb
   simp only[Zyd]at hf
   subst hf
   exact⟨_,by simp only[Zgs,Zcm hk h1.1 hb],h2⟩
  ·rename_i hb
   simp only[Zym]at hf
   obtain⟨r0,hr,rfl⟩:=hf
   obtain⟨r',e1,e2⟩:=ZrN hk h2 hr
   exact⟨_,by simp only[Zgs,Zcm hk h1.1 hb,e1,Zyv],.cons h1 e2⟩
theorem ZrO{kp:KP}{k z:V}{dk dz:D}(hk:VR η k dk)(hz:VR η z dz):∀{es:List (V×V)} {ds:List (D×D)} {v:V},Yh (MR η) es ds→ZpW kp k z es=sO v →
  ∃d,ZeP kp dk dz ds=sO d∧VR η v d
 | [],ds,v,h,hf=>by
  cases h
  simp only[ZpW,Zyd]at hf
  subst hf
  exact⟨_,rfl,hz⟩
 |e::es,ds,v,h,hf=>by
  cases h with
  |cons h1 h2 =>
  simp only[ZpW]at hf
  split at hf<;>(try(simp at hf;done))
  ·rename_i hb
   simp only[Zyd]at hf
   subst hf
   exact⟨_,by simp only[ZeP,Zcm hk h1.1 hb],h1.2⟩
  ·rename_i hb
   obtain⟨d,e1,e2⟩:=ZrO hk hz h2 hf
   exact⟨d,by simp only[ZeP,Zcm hk h1.1 hb,e1],e2⟩
theorem Zqh{z:V}{dz:D}(hz:VR η z dz){ok:Bool}{r:Option V}{r':Option D}(h:match r,r' with|some v,sO d=>VR η v d|none,nO=>True|_,_=>False):VR η (Zo2 z ok r) (Qg dz ok r'):=by
 cases r<;>cases r'<;>simp only at h<;>cases ok<;>simp only[Zo2,Qg,if_true,if_false,Zyt]
 ·exact hz
 ·exact .tup _ _ (.cons _ _ _ _ hz (.one (.bool _)))
 ·exact h
 ·exact .tup _ _ (.cons _ _ _ _ h (.one (.bool _)))
end
def WR(η:Nm)(L:Loc):W→E→Prop
 |.v x,e=>∃d,VR η x d∧(e=.d d∨e=.when true (.d d))
 |.loc l o,e=>e=.loc l o∨e=.when true (.loc l o)
 |.skip,e=>e=.when false (.d (.bool false))
def Zqg(_:Loc):W→Bool
 |.loc _ _=>false
 |_=>true
def Y5(η:Nm)(L:Loc)(ρ:T W)(ρd:Env):Prop:=∀t w,ρ.get t=sO w→Zqg L w=true→∃e,Yv ρd t=sO e∧WR η L w e
theorem Y5.anyL{η:Nm}{L L':Loc}{ρ:T W}{ρd:Env}(h:Y5 η L ρ ρd):Y5 η L' ρ ρd:=fun t w hw hl=>by
 cases w with
 |v x=>exact h t _ hw rfl
 |loc l o=>simp[Zqg]at hl
 |skip=>exact h t _ hw rfl
structure Px extends Cx where
 t:St
instance:Coe Px Cx:=⟨Px.toCx⟩
inductive OR(C:Cx)(η:Nm)(k0:Nat):O→Wt→Prop where
 |cells (vs:List V) (ds ex:List D) (h:VRs η vs ds):OR C η k0 (.cells vs) (.cells (ds++ex))
 |buf (vs:List V) (ds ex:List D) (h:VRs η vs ds) (hc:η (k0+1)=some (.tip (ds++ex).length)):OR C η k0 (.buf vs) (.cells (ds++ex))
 |map (es:List (V×V)) (ds:List (D×D)) (h:Yh (MR η) es ds):OR C η k0 (.map es) (.map ds)
 |tok (n:Nat):OR C η k0 (.tok n) (.tip n)
 |mapE (kp:KP) (es:List (V×V)) (ds:List (D×D)) (k:V) (dk:D) (n m:Nat) (h:Yh (MR η) es ds) (hk:VR η k dk) (hn:η n=some (.tip m)):OR C η k0 (.mapE kp es k n) (.mapE kp ds dk m)
 |dfr:OR C η k0 .dfr .dfr
 |ro (o:O) (d:Wt) (h:OR C η k0 o d) (hr:Zb6 o=false) (hk:∀n,o≠.tok n):OR C η k0 (.ro o) d
 |loop (f:FuncId) (n:Nat) (ps:List Nat) (a b:DC) (ρ:T W) (st:Option DC) (busy:Bool) (r:Qw) (lst:LSt) (hf:r.fn=f) (hn:r.N=n) (hps:r.params=ps) (hlt:∀t∈ps,t<n)
   (ha:cc C.P (C.an f) n r.assign=some a) (hb:cc C.P (C.an f) n r.body=some b) (hρ:Y5 η [] ρ r.ρ)
   (hst:match st,busy,lst with
    |none,false,.ready=>True
    |none,true,.busy=>True
    |some dj,false,.done j=>cc C.P (C.an f) n j=some dj
    |_,_,_=>False):OR C η k0 (.loop f n ps a b ρ st busy) (.loop r lst)
structure Sim(C:Px)(η:Nm)(σ:S)(s:St):Prop where
 obj:∀k o,σ.get k=some o→∃t,η k=some t∧((∃b d,t=.tip b∧s b=some d∧OR C η k o d)∨(∃n,o=.tok n∧t=.full))
 inj:∀k k' o o' b,σ.get k=some o→σ.get k'=some o'→η k=some (.tip b)→η k'=some (.tip b)→k=k'
 kp:∀b d,C.t b=some d→s b=some d∧∀k o,σ.get k=some o→Zb6 o=false→η k≠some (.tip b)
 ro:∀k o b,σ.get k=some (.ro o)→η k=some (.tip b)→∃d,C.t b=some d
theorem WR.mono{η η':Nm}(h:η.Sub η'){w:W}{e:E}(x:WR η L w e):WR η' L w e:=by
 cases w with
 |v v=>obtain⟨d,h1,h2⟩:=x;exact⟨d,h1.mono h,h2⟩
 |_=>exact x
theorem Y5.mono{η η':Nm}(h:η.Sub η'){ρ:T W}{ρd:Env}(x:Y5 η L ρ ρd):Y5 η' L ρ ρd:=fun t w hw hl=>by
 obtain⟨e,h1,h2⟩:=x t w hw hl
 exact⟨e,h1,h2.mono h⟩
theorem OR.mono{C:Cx}{η η':Nm}(h:η.Sub η'){k0:Nat}{o:O}{d:Wt}(x:OR C η k0 o d):OR C η' k0 o d:=by
 induction x with
 |cells vs ds ex h1=>exact .cells vs ds ex (h1.mono h)
 |buf vs ds ex h1 hc=>exact .buf vs ds ex (h1.mono h) (h _ _ hc)
 |map es ds h1=>exact .map es ds (h1.imp fun _ _ m=>m.mono h)
 |tok n=>exact .tok n
 |mapE kp es ds k dk n m h1 hk hn=>exact .mapE kp es ds k dk n m (h1.imp fun _ _ m=>m.mono h) (hk.mono h) (h _ _ hn)
 |dfr=>exact .dfr
 |ro o d h1 hr hk ih=>exact .ro o d ih hr hk
 |loop f n ps a b ρ st busy r lst hf hn hps hlt ha hb hρ hst=>exact .loop f n ps a b ρ st busy r lst hf hn hps hlt ha hb (hρ.mono h) hst
theorem Sim.name{C:Px}{η η':Nm}{σ:S}(x:Sim C η σ s)(hs:η.Sub η'){k:Nat}{o:O}(h:σ.get k=sO o){t:Tok}(e:η' k=sO t):η k=sO t:=by
 obtain⟨t0,h0,_⟩:=x.obj k o h
 rw[hs _ _ h0]at e
 rw[h0,e]
theorem Sim.mono{C:Px}{η η':Nm}(h:η.Sub η'){σ:S}(x:Sim C η σ s):Sim C η' σ s:={
 obj k o hk:=by
  obtain⟨t,h1,h2⟩:=x.obj k o hk
  refine⟨t,h _ _ h1,h2.imp (fun⟨b,d,a1,a2,a3⟩=>⟨b,d,a1,a2,a3.mono h⟩) id⟩
 inj k k' o o' b hk hk' e e':=x.inj k k' o o' b hk hk' (x.name h hk e) (x.name h hk' e')
 kp b d hb:=⟨(x.kp b d hb).1,fun k o hk hr e=>(x.kp b d hb).2 k o hk hr (x.name h hk e)⟩
 ro k o b hk e:=x.ro k o b hk (x.name h hk e) }
section
variable {C:Px} {η:Nm} {σ:S} {s:St}
theorem Sim.get(x:Sim C η σ s){k:Nat}{o:O}(h:σ.get k=sO o)(ho:∀n,o≠.tok n):∃b d,η k=sO (.tip b)∧s b=sO d∧OR C η k o d:=by
 obtain⟨t,h1,⟨b,d,rfl,a1,a2⟩|⟨n,rfl,_⟩⟩:=x.obj k o h
 ·exact⟨b,d,h1,a1,a2⟩
 ·exact absurd rfl (ho n)
theorem OR.cellsO{C:Cx}{k0:Nat}{o:O}{d:Wt}{vs:List V}(h:OR C η k0 o d)(hc:cellsO o=sO vs):∃ds ex,d=.cells (ds++ex)∧VRs η vs ds:=by
 have key:∀{o:O} {d:Wt},OR C η k0 o d→(o=.cells vs∨o=.buf vs)→∃ds ex,d=.cells (ds++ex)∧VRs η vs ds:=fun{o d} h ho=>by
  rcases ho with rfl|rfl
  ·cases h with
   |cells vs ds ex h=>exact⟨ds,ex,rfl,h⟩
  ·cases h with
   |buf vs ds ex h=>exact⟨ds,ex,rfl,h⟩
 cases o<;>simp only[Go.DL.cellsO,reduceCtorEq,Zyd]at hc
 ·subst hc;exact key h (.inl rfl)
 ·subst hc;exact key h (.inr rfl)
 ·rename_i o
  cases h with
  |ro _ _ h _ _ =>
   cases o<;>simp only[reduceCtorEq,Zyd]at hc
   ·subst hc;exact key h (.inl rfl)
   ·subst hc;exact key h (.inr rfl)
theorem Zsq{o:O}{vs:List V}(h:cellsO o=sO vs)(n:Nat):o≠.tok n:=fun e=>by subst e;simp[cellsO]at h
theorem Sim.cells(x:Sim C η σ s){k b:Nat}{vs:List V}(h:Zbt (σ.get k)=sO vs)(hb:η k=sO (.tip b)):∃ds ex,s b=sO (.cells (ds++ex))∧VRs η vs ds:=by
 cases hk:σ.get k with
 |none=>rw[hk]at h;simp[Zbt]at h
 |some o =>
  rw[hk]at h
  obtain⟨b',d,h1,h2,h3⟩:=x.get hk (Zsq h)
  rw[hb]at h1
  simp only[Zyd,Tok.tip.injEq]at h1
  subst h1
  obtain⟨ds,ex,rfl,h4⟩:=h3.cellsO h
  exact⟨ds,ex,h2,h4⟩
theorem Sim.map(x:Sim C η σ s){k b:Nat}{es:List (V×V)}(h:σ.get k=sO (.map es))(hb:η k=sO (.tip b)):∃ds,s b=sO (.map ds)∧Yh (MR η) es ds:=by
 obtain⟨b',d,h1,h2,h3⟩:=x.get h (fun n=>by simp)
 rw[hb]at h1
 simp only[Zyd,Tok.tip.injEq]at h1
 subst h1
 cases h3 with
 |map es ds h=>exact⟨ds,h2,h⟩
theorem Sim.mapO(x:Sim C η σ s){k b:Nat}{es:List (V×V)}(h:mapO (σ.get k)=sO es)(hb:η k=sO (.tip b)):∃ds,s b=sO (.map ds)∧Yh (MR η) es ds:=by
 cases hk:σ.get k with
 |none=>rw[hk]at h;simp[Go.DL.mapO]at h
 |some o =>
  rw[hk]at h
  cases o<;>simp only[Go.DL.mapO,reduceCtorEq,Zyd]at h
  ·subst h;exact x.map hk hb
  ·rename_i o
   cases o<;>simp only[reduceCtorEq,Zyd]at h
   subst h
   obtain⟨b',d,h1,h2,h3⟩:=x.get hk (fun n=>by simp)
   rw[hb]at h1
   simp only[Zyd,Tok.tip.injEq]at h1
   subst h1
   cases h3 with
   |ro _ _ h3 _ _=>cases h3 with
    |map es ds h=>exact⟨ds,h2,h⟩
theorem ZrU{σ:S}{k k':Nat}{o:O}(h:(σ.set nO k).get k'=sO o):k'≠k∧σ.get k'=sO o:=by
 rcases T.get_set h with ⟨_,h'⟩|⟨h0,h'⟩
 ·simp at h'
 ·exact⟨h0,h'⟩
theorem Sim.subT{σ':S}(x:Sim C η σ s)(h:∀k o,σ'.get k=sO o→σ.get k=sO o):Sim C η σ' s:={
 obj k o hk:=x.obj k o (h k o hk)
 inj k k' o o' b hk hk':=x.inj k k' o o' b (h _ _ hk) (h _ _ hk')
 kp b d hb:=⟨(x.kp b d hb).1,fun k o hk=>(x.kp b d hb).2 k o (h _ _ hk)⟩
 ro k o b hk:=x.ro k o b (h _ _ hk) }
theorem Sim.forget(x:Sim C η σ s)(k:Nat):Sim C η (σ.set nO k) s:=x.subT fun _ _ h=>(ZrU h).2
theorem Sim.upd(x:Sim C η σ s){k b:Nat}{o o':O}{d:Wt}(h:σ.get k=sO o)(hb:η k=sO (.tip b))(ho:OR C η k o' d)(hr:Zb6 o=false:=by rfl)(hr':Zb6 o'=false:=by rfl):Sim C η (σ.set (sO o') k) (s.upd b d) where
 obj k' o1 h':=by
  rcases T.get_set h' with ⟨rfl,h1⟩|⟨hne,h1⟩
  ·simp only[Zyd]at h1;subst h1
   exact⟨_,hb,.inl ⟨b,d,rfl,Zyo s b d,ho⟩⟩
  ·obtain⟨t,e1,⟨b',d',rfl,e2,e3⟩|e2⟩:=x.obj k' o1 h1
   ·refine⟨_,e1,.inl ⟨b',d',rfl,?_,e3⟩⟩
    have:b'≠b:=fun hbb=>hne (x.inj k' k _ _ b h1 h (by rw[←hbb];exact e1) hb)
    rw[Zyn s d this];exact e2
   ·exact⟨t,e1,.inr e2⟩
 inj k1 k2 o1 o2 b' h1 h2 e1 e2:=by
  have:∀k' o1,(σ.set (sO o') k).get k'=sO o1→∃o,σ.get k'=sO o:=fun k' o1 h'=>by
   rcases T.get_set h' with ⟨rfl,_⟩|⟨_,h'⟩
   ·exact⟨_,h⟩
   ·exact⟨_,h'⟩
  obtain⟨p1,q1⟩:=this _ _ h1
  obtain⟨p2,q2⟩:=this _ _ h2
  exact x.inj k1 k2 p1 p2 b' q1 q2 e1 e2
 kp c e hc:=by
  obtain⟨h1,h2⟩:=x.kp c e hc
  have:c≠b:=fun ec=>h2 k o h hr (by rw[ec];exact hb)
  refine⟨by rw[Zyn s d this];exact h1,fun k' o1 h' hr1=>?_⟩
  rcases T.get_set h' with ⟨rfl,_⟩|⟨_,h'⟩
  ·exact h2 _ o h hr
  ·exact h2 k' o1 h' hr1
 ro k' o1 b' h' e:=by
  rcases T.get_set h' with ⟨rfl,h1⟩|⟨_,h'⟩
  ·simp only[Zyd]at h1;subst h1;simp[Zb6]at hr'
  ·exact x.ro k' o1 b' h' e
end
def Nm.put(η:Nm)(k:Nat)(t:Tok):Nm:=fun k'=>if k'=k then sO t else η k'
theorem Nm.put_sub{η:Nm}{k:Nat}(h:η k=nO)(t:Tok):η.Sub (η.put k t):=fun k' t' hk=>by
 have:k'≠k:=fun e=>by rw[e,h]at hk;simp at hk
 simp[Nm.put,this,hk]
theorem Nm.put_same(η:Nm)(k:Nat)(t:Tok):(η.put k t) k=sO t:=by simp[Nm.put]
structure WT(η:Nm)(nx:Nat):Prop where
 z:η 0=some .none
 o:η 1=some .full
 two:2≤nx
 free:∀k,nx≤k→η k=none
theorem WT.put{η:Nm}{nx:Nat}(h:WT η nx)(t:Tok):WT (η.put nx t) (nx+1):={
 z:=by have:=h.two;simp only[Nm.put];rw[if_neg (by omega)];exact h.z
 o:=by have:=h.two;simp only[Nm.put];rw[if_neg (by omega)];exact h.o
 two:=by have:=h.two;omega
 free k hk:=by simp only[Nm.put];rw[if_neg (by omega)];exact h.free k (by omega) }
section
variable {C:Px} {η:Nm} {σ:S} {s:St}
theorem Sim.fresh(x:Sim C η σ s){b:Nat}(hb:s b=nO){k:Nat}{o:O}(h:σ.get k=sO o):η k≠sO (.tip b):=fun e=>by
 obtain⟨t,h1,⟨b',d,rfl,h2,_⟩|⟨n,_,rfl⟩⟩:=x.obj k o h
 ·rw[e]at h1
  simp only[Zyd,Tok.tip.injEq]at h1
  subst h1
  rw[hb]at h2;simp at h2
 ·rw[e]at h1;simp at h1
theorem Sim.new(x:Sim C η σ s){nx:Nat}(hn:η nx=nO){b:Nat}(hb:s b=nO){o:O}{d:Wt}(ho:OR C (η.put nx (.tip b)) nx o d)(hr:Zb6 o=false:=by rfl):Sim C (η.put nx (.tip b)) (σ.set (sO o) nx) (s.upd b d):=by
 have hsub:=Nm.put_sub hn (.tip b)
 have x':=x.mono hsub
 refine⟨fun k o1 h=>?_,fun k1 k2 o1 o2 b' h1 h2 e1 e2=>?_,fun c e hc=>?_,fun k o1 c h e=>?_⟩
 ·rcases T.get_set h with ⟨rfl,h1⟩|⟨hne,h1⟩
  ·simp only[Zyd]at h1;subst h1
   exact⟨_,Nm.put_same _ _ _,.inl ⟨b,d,rfl,Zyo s b d,ho⟩⟩
  ·obtain⟨t,e1,⟨b',d',rfl,e2,e3⟩|e2⟩:=x'.obj k o1 h1
   ·refine⟨_,e1,.inl ⟨b',d',rfl,?_,e3⟩⟩
    have:b'≠b:=fun hbb=>by rw[hbb,hb]at e2;simp at e2
    rw[Zyn s d this];exact e2
   ·exact⟨t,e1,.inr e2⟩
 ·have key:∀k o1 b',(σ.set (sO o) nx).get k=sO o1→(η.put nx (.tip b)) k=sO (.tip b')→k≠nx→σ.get k=sO o1∧η k=sO (.tip b'):=fun k o1 b' h e hne=>by
   rcases T.get_set h with ⟨rfl,_⟩|⟨_,h⟩
   ·exact absurd rfl hne
   ·exact⟨h,by simpa only[Nm.put,hne,if_false]using e⟩
  by_cases c1:k1=nx<;>by_cases c2:k2=nx
  ·rw[c1,c2]
  ·exfalso
   obtain⟨q1,q2⟩:=key k2 o2 b' h2 e2 c2
   rw[c1,Nm.put_same]at e1
   simp only[Zyd,Tok.tip.injEq]at e1
   subst e1
   exact x.fresh hb q1 q2
  ·exfalso
   obtain⟨q1,q2⟩:=key k1 o1 b' h1 e1 c1
   rw[c2,Nm.put_same]at e2
   simp only[Zyd,Tok.tip.injEq]at e2
   subst e2
   exact x.fresh hb q1 q2
  ·obtain⟨q1,q2⟩:=key k1 o1 b' h1 e1 c1
   obtain⟨q3,q4⟩:=key k2 o2 b' h2 e2 c2
   exact x.inj k1 k2 o1 o2 b' q1 q3 q2 q4
 ·obtain⟨h1,h2⟩:=x'.kp c e hc
  have hcb:c≠b:=fun ec=>by rw[ec,hb]at h1;simp at h1
  refine⟨by rw[Zyn s d hcb];exact h1,fun k o1 h hr1 e1=>?_⟩
  rcases T.get_set h with ⟨rfl,_⟩|⟨_,h⟩
  ·rw[Nm.put_same]at e1
   simp only[Zyd,Tok.tip.injEq]at e1
   exact hcb e1.symm
  ·exact h2 k o1 h hr1 e1
 ·rcases T.get_set h with ⟨rfl,h1⟩|⟨_,h⟩
  ·simp only[Zyd]at h1;subst h1;simp[Zb6]at hr
  ·exact x'.ro k o1 c h e
end
section
variable {η:Nm} {L:Loc} {ρ:T W} {ρd:Env}
theorem Zv8{x:Option W}{v:V}(h:wV x=sO v):x=sO (.v v):=by
 unfold wV at h
 split at h
 ·split at h<;>simp only[Zyd,reduceCtorEq]at h
  subst h;rfl
 ·simp at h
theorem QN(hρ:Y5 η L ρ ρd){x:Opd}{v:V}(h:(Kf x).run ρ=sO v):∃p d,Z9 ρd true x=sO (p,.d d)∧p∧VR η v d:=by
 cases x with
 |cst d =>
  simp only[Kf]at h
  split at h<;>simp only[Zyd,reduceCtorEq]at h
  subst h
  exact⟨True,d,rfl,trivial,Zg7 ‹_›⟩
 |tmp t =>
  simp only[Kf]at h
  obtain⟨e,h1,d,h2,rfl|rfl⟩:=hρ t _ (Zv8 h) rfl
  ·exact⟨True,d,by simp only[Z9,h1],trivial,h2⟩
  ·exact⟨True→True,d,by simp only[Z9,h1],fun _=>trivial,h2⟩
theorem Zb0(hρ:Y5 η L ρ ρd):∀{xs:List Opd} {vs:List V},(ZcN xs).run ρ=sO vs→∃p ds,WE ρd true xs=sO (p,ds.map .d)∧p∧VRs η vs ds
 | [],vs,h=>by
  simp only[ZcN,Zyd]at h
  subst h
  exact⟨True,[],rfl,trivial,.nil⟩
 |x::xs,vs,h=>by
  simp only[ZcN]at h
  split at h<;>(try(simp at h;done))
  rename_i v h1
  split at h<;>simp only[Zyd,reduceCtorEq]at h
  rename_i vs' h2
  subst h
  obtain⟨p,d,a1,a2,a3⟩:=QN hρ h1
  obtain⟨q,ds,b1,b2,b3⟩:=Zb0 hρ h2
  exact⟨p∧q,d::ds,by simp only[WE,a1,b1,Zyp],⟨a2,b2⟩,.cons _ _ _ _ a3 b3⟩
theorem Zb5:∀(ds:List D),QR (ds.map .d)=sO ds
 | []=>rfl
 |d::ds=>by simp only[Zyp,QR,Zb5 ds,Zyv]
theorem Zod(hρ:Y5 η L ρ ρd){g:Option (Nat×Bool)}{b:Bool}(h:(Zi1 g).run ρ=sO b):Zy ρd g=sO b:=by
 cases g with
 |none=>simpa only[Zi1,Zy]using h
 |some x =>
  obtain⟨t,want⟩:=x
  simp only[Zi1]at h
  split at h<;>(try(simp at h;done))
  rename_i w hw
  cases w with
  |v x =>
   obtain⟨e,h1,h2⟩:=hρ t _ hw rfl
   cases x<;>simp only[reduceCtorEq,Zyd]at h
   subst h
   obtain⟨d,h3,rfl|rfl⟩:=h2<;>cases h3
   ·simp only[Zy,h1]
   ·simp only[Zy,h1,Zyy]
  |loc l o=>simp at h
  |skip =>
   obtain⟨e,h1,h2⟩:=hρ t _ hw rfl
   simp only[Zyd]at h
   subst h
   have h2':e=.when false (.d (.bool false)):=h2
   subst h2'
   simp only[Zy,h1,ZyH]
theorem Zbb(hρ:Y5 η L ρ ρd){w:W}{e:E}(hw:WR η L w e)(dst:Option Nat):Y5 η L ((ZdD dst).run ρ w) (ZX ρd dst e):=by
 cases dst with
 |none=>exact hρ
 |some t =>
  intro t' w' h hl
  rcases T.get_set (t:=ρ) (x:=sO w) (k:=t) h with ⟨rfl,h1⟩|⟨hne,h1⟩
  ·simp only[Zyd]at h1;subst h1
   exact⟨e,by simp[ZX,Yv],hw⟩
  ·obtain⟨e',h2,h3⟩:=hρ t' w' h1 hl
   exact⟨e',by simp only[ZX,Yv];rw[if_neg (Ne.symm hne)];exact h2,h3⟩
theorem Zus(hρ:Y5 η L ρ ρd){x:Opd}{c:Bool}(h:(Zg8 x).run ρ=true)(hc:c=false):∃p z,Z9 ρd c x=sO (p,.d (.bool z))∧p:=by
 subst hc
 cases x with
 |cst d =>
  cases d<;>simp only[Zg8,Zyt]at h
  exact⟨True,_,rfl,trivial⟩
 |tmp t =>
  simp only[Zg8]at h
  split at h<;>(try(simp at h;done))
  rename_i w hw
  cases w with
  |v x =>
   obtain⟨e,h1,h2⟩:=hρ t _ hw rfl
   cases x<;>simp only[Zyt]at h
   obtain⟨d,h3,rfl|rfl⟩:=h2<;>cases h3
   ·exact⟨True,_,by simp only[Z9,h1];rfl,trivial⟩
   ·exact⟨_,_,by simp only[Z9,h1];rfl,fun h=>by simp at h⟩
  |loc l o=>simp at h
  |skip =>
   obtain⟨e,h1,h2⟩:=hρ t _ hw rfl
   have h2':e=.when false (.d (.bool false)):=h2
   subst h2'
   exact⟨_,_,by simp only[Z9,h1];rfl,fun h=>by simp at h⟩
end
theorem Q1{vs:List V}{f:V→Option V}{v:V}(h:a1 vs f=sO v):∃x,vs=[x]∧f x=sO v:=by
 unfold a1 at h
 split at h
 ·exact⟨_,rfl,h⟩
 ·simp at h
theorem Zer{vs:List V}{f:V→V→Option V}{v:V}(h:a2 vs f=sO v):∃x y,vs=[x,y]∧f x y=sO v:=by
 unfold a2 at h
 split at h
 ·exact⟨_,_,rfl,h⟩
 ·simp at h
theorem ZR{α:Type}{b:Bool}{r:Option α}{v:α}(h:noV b r=sO v):b=true∧r=sO v:=by
 cases b<;>simp only[noV,if_true,if_false,Zyt,reduceCtorEq]at h
 exact⟨rfl,h⟩
theorem Zda{i:Int}{n:Nat}{r:Option V}{v:V}(h:Zgb i n r=sO v):0≤i∧i<n∧r=sO v:=by
 unfold Zgb at h
 split at h<;>(try(simp at h;done))
 rename_i hb
 simp only[Zyk,Zg5,decide_eq_true_eq,Bool.not_eq_true',decide_eq_false_iff_not]at hb
 exact⟨hb.1,by omega,h⟩
theorem QZ{a b:Nat}:Nat.ble a b=true↔a≤b:=by rw[Nat.ble_eq]
theorem Yf{a b:Nat}:Nat.beq a b=true↔a=b:=by rw[Nat.beq_eq]
theorem Za9{a b:Int}:leI a b=true↔a≤b:=by rw[Zg5,decide_eq_true_eq]
theorem Za7{a b:Int}:eqI a b=true↔a=b:=by rw[ZiT,decide_eq_true_eq]
theorem Zxt(a b:Int):Int.sub a b=a-b:=rfl
section
variable {C:Px} {η:Nm} {σ:S} {s:St} {L:Loc}
theorem Ze2{b:Nat}{f:List V→Option V}{v:V}(h:ZiM σ b f=sO v):∃cs,Zbt (σ.get b)=sO cs∧f cs=sO v:=by
 unfold ZiM at h
 split at h
 ·rename_i hg;exact⟨_,hg,h⟩
 ·simp at h
theorem Zhy(hS:Sim C η σ s){k b:Nat}{cs:List V}(h:Zbt (σ.get k)=sO cs)(hb:η k=sO (.tip b)):∃ds ex,Wk s b=sO (ds++ex)∧VRs η cs ds:=by
 obtain⟨ds,ex,h1,h2⟩:=hS.cells h hb
 exact⟨ds,ex,by simp only[Wk,h1],h2⟩
theorem Zg2{cs:List V}(ex:List D)(h:VRs η cs ds){o:Nat}{v:V}(hv:ZhN o cs=sO v):∃d,(ds++ex)[o]?=sO d∧VR η v d:=by
 rw[Zj5]at hv
 obtain⟨d,h1,h2⟩:=h.get hv
 refine⟨d,?_,h2⟩
 rw[ZyM (List.getElem?_eq_some_iff.1 h1).1];exact h1
theorem Zqq{ds ex:List D}{o n:Nat}(h:o+n≤ds.length):part (ds++ex) o n=part ds o n:=by
 unfold part
 rw[List.drop_append_of_le_length (by omega),List.take_append_of_le_length (by simp;omega)]
theorem ZkO{ds ex ys:List D}{o:Nat}(h:o+ys.length≤ds.length):ZF (ds++ex) o ys=ZF ds o ys++ex:=by
 unfold ZF
 rw[List.take_append_of_le_length (by omega),List.drop_append_of_le_length (by omega),List.append_assoc,List.append_assoc,List.append_assoc]
theorem Zkg{cs:List V}(ex:List D)(h:VRs η cs ds){o n:Nat}{v:V}(hv:ZjI cs o n=sO v):o+n≤(ds++ex).length∧VR η v (.agg (part (ds++ex) o n)):=by
 unfold ZjI at hv
 split at hv<;>simp only[Zyd,reduceCtorEq]at hv
 rename_i r hr
 subst hv
 obtain⟨h1,h2⟩:=h.partv hr
 exact⟨by simp;omega,by rw[Zqq h1];exact .agg _ _ h2⟩
theorem ZcD:∀{bs:List Bool} {vs:List V} {ds:List D} {r:List (Option Int)},VRs η vs ds→Zao bs vs=sO r→QO bs (ds.map .d)=sO r
 | [],vs,ds,r,hv,h=>by
  cases vs with
  |nil=>obtain rfl:=hv.inv0;simpa only[Zao,QO,ZyF]using h
  |cons v vs=>simp[Zao]at h
 |true::bs,vs,ds,r,hv,h=>by
  cases vs with
  |nil=>simp[Zao]at h
  |cons v vs =>
   obtain⟨d,ds',rfl,h1,h2⟩:=hv.inv
   cases h1<;>simp only[Zao,reduceCtorEq,Zym]at h
   obtain⟨q,hq,rfl⟩:=h
   simp only[Zyp,QO,ZcD h2 hq,Zyv]
 |false::bs,vs,ds,r,hv,h=>by
  simp only[Zao,Zym]at h
  obtain⟨q,hq,rfl⟩:=h
  simp only[QO,ZcD hv hq,Zyv]
theorem Zw1{t n:Nat}{τ:Tok}(h1:η 1=sO .full)(ht:t=0∨η t=sO τ){l h:Int}{mx:Option Int}:Ztt t n l h mx=0∨η (Ztt t n l h mx)=sO (ZcW τ n l h mx):=by
 unfold Ztt ZcW
 cases mx with
 |some m =>
  simp only[Za7]
  split
  ·exact .inr h1
  ·exact .inl rfl
 |none =>
  simp only[Za7,Yf]
  split
  ·split
   ·rename_i ht1
    subst ht1
    rcases ht with h|h
    ·simp at h
    ·rw[h1]at h
     simp only[Zyd]at h
     subst h;exact .inr h1
   ·split
    ·rcases ht with h|h
     ·exact .inl h
     ·refine .inr ?_
      cases τ<;>simp_all
    ·exact .inl rfl
  ·exact .inl rfl
theorem ZuI(h1:η 1=sO .full){z:Nat}{lo hi mx:Option Int}{x v:V}{d:D}(hx:VR η x d)(h:ZqN z lo hi mx x=sO v):∃side r,Zcg z lo hi mx d=sO (side,r)∧side∧VR η v r:=by
 cases hx<;>simp only[ZqN,reduceCtorEq]at h
 case nilsl =>
  split at h<;>simp only[Zyd,reduceCtorEq]at h
  rename_i hc
  subst h
  simp only[Zyk,Za7]at hc
  exact⟨_,_,rfl,⟨hc.1.1,hc.1.2,hc.2⟩,.nilsl⟩
 case sl t n s rs τ row hr hn ht =>
  split at h<;>(try(simp at h;done))
  rename_i hc
  split at h<;>simp only[Zyd,reduceCtorEq]at h
  rename_i r hr'
  subst h
  simp only[Zyk,Yf,Za9]at hc
  obtain⟨⟨⟨⟨rfl,c1⟩,c2⟩,c3⟩,c4⟩:=hc
  rw[ZaW]at hr'
  obtain⟨l1,rfl⟩:=Zbv hr'
  simp only[Zcg,if_true]
  refine⟨_,_,rfl,⟨c1,c2,c3,fun m hm=>?_⟩,?_⟩
  ·subst hm
   simp only[Zxx,Zyk,Za9]at c4
   exact c4
  ·refine .sl _ _ _ _ _ _ ((hr.drop (lo.getD 0).toNat).take _) ?_ (Zw1 h1 ht)
   rw[Zyw]
   exact Nat.min_eq_left l1
 case msl k b o n cap s hb =>
  split at h<;>(try(simp at h;done))
  rename_i hc
  split at h<;>simp only[Zyd,reduceCtorEq]at h
  rename_i hc2
  subst h
  simp only[Zyk,Yf,Za9]at hc hc2
  obtain⟨⟨rfl,c1⟩,c2⟩:=hc
  simp only[Zcg,if_true]
  refine⟨_,_,rfl,⟨c1,c2,hc2.1,hc2.2⟩,?_⟩
  by_cases he:mx.getD (cap:Int)=lo.getD 0
  ·rw[if_pos he,if_pos (Za7.2 he)];exact .msl _ _ _ _ _ _ hb
  ·rw[if_neg he,if_neg (fun h=>he (Za7.1 h))];exact .msl _ _ _ _ _ _ hb
 case gsl k b o n cap s c hb hb2 hcap hl =>
  split at h<;>(try(simp at h;done))
  rename_i hc
  split at h<;>(try(simp at h;done))
  rename_i hc2
  simp only[Zyk,Yf,Za9,Zyu,Za7,Bool.not_eq_true',Zg5,decide_eq_false_iff_not,decide_eq_true_eq]at hc hc2
  obtain⟨⟨rfl,c1⟩,c2⟩:=hc
  obtain⟨c3,c4⟩:=hc2
  simp only[Zcg,if_true]
  cases mx with
  |none =>
   simp only[Zyd]at h
   subst h
   refine⟨_,_,rfl,⟨c1,c2,by simp only[Option.getD_none];omega,by simp⟩,?_⟩
   simp only[Option.getD_none]
   by_cases he:(cap:Int)=lo.getD 0
   ·rw[if_pos he]
    have:o+(lo.getD 0).toNat*s=o∨True:=.inr trivial
    rcases c4 with c4|c4
    ·rw[c4]at he⊢
     simp only[Int.toNat_zero,Nat.zero_mul,Nat.add_zero]
     exact .gsl _ _ _ _ _ _ c hb hb2 (by rw[Zxt];omega) (by have:=Nat.le_trans (Nat.le_add_right o (cap*s)) hl;rw[he];simpa using this)
    ·omega
   ·rw[if_neg he]
    refine .gsl _ _ _ _ _ _ c hb hb2 (by rw[Zxt];omega) ?_
    have e:(lo.getD 0).toNat+((cap:Int)-lo.getD 0).toNat=cap:=by omega
    calc o+(lo.getD 0).toNat*s+((cap:Int)-lo.getD 0).toNat*s=o+((lo.getD 0).toNat+((cap:Int)-lo.getD 0).toNat)*s:=by rw[ZyI];omega
     _=o+cap*s:=by rw[e]
     _≤c:=hl
  |some m =>
   simp only at h
   split at h<;>simp only[Zyd,reduceCtorEq]at h
   rename_i hc3
   simp only[Zyk,Za9]at hc3
   subst h
   refine⟨_,_,rfl,⟨c1,c2,by simpa using hc3.1,by simp only[ZyL];omega⟩,?_⟩
   simp only[ZyL]
   by_cases he:m=lo.getD 0
   ·rw[if_pos he,if_pos (Za7.2 he)];exact .msl _ _ _ _ _ _ hb
   ·rw[if_neg he,if_neg (fun h=>he (Za7.1 h))];exact .msl _ _ _ _ _ _ hb
theorem ZpY:∀{cells:List V} {ps:List (Nat×Nat)} {vs r:List V} {cds ds:List D},VRs η cells cds→VRs η vs ds→ZhF cells ps vs=sO r→∃rd,Zcl cds ps ds=sO rd∧VRs η r rd
 |cells,[],vs,r,cds,ds,hc,hv,h=>by
  cases vs with
  |nil =>
   obtain rfl:=hv.inv0
   simp only[ZhF,Zyd]at h
   subst h
   exact⟨_,rfl,hc⟩
  |cons v vs=>simp[ZhF]at h
 |cells,(o,n)::ps,vs,r,cds,ds,hc,hv,h=>by
  cases vs with
  |nil=>simp[ZhF]at h
  |cons v vs =>
   obtain⟨d,ds',rfl,h1,h2⟩:=hv.inv
   simp only[ZhF]at h
   split at h<;>(try(simp at h;done))
   rename_i hp
   split at h<;>(try(simp at h;done))
   rename_i cs hcs
   have hcell:VRs η (Zf3 v) (cellsOf d):=by
    cases h1<;>first|exact .one (by constructor<;>assumption)|assumption
   have hpart:Q3 d=true:=by
    cases h1<;>first|rfl|simp[Zii]at hp
   obtain⟨e0,e1,e2⟩:=hc.over hcell hcs
   obtain⟨rd,e3,e4⟩:=ZpY e2 h2 h
   refine⟨rd,?_,e4⟩
   simp only[Zcl]
   rw[if_pos ⟨hpart,by rw[←hcell.len,e0],e1⟩]
   exact e3
theorem Zoh{b o n cap:Nat}{cs r:List V}{ds ex:List D}{l:List Nat}(e0:Wk s b=sO (ds++ex))(e1:VRs η cs ds)(hle:o+n≤cs.length)(hr:Zcq n (ZcP o cs)=sO r)(hl:ZgT r=sO l):
  ∃side d,qv L s (.conv .b2s) ([D.msl b o n cap 1].map .d)=sO (side,.d d)∧side∧VR η (.str l) d:=by
 rw[ZaW]at hr
 obtain⟨l1,rfl⟩:=Zbv hr
 have hlen:o+n≤ds.length:=by rw[←e1.len];exact hle
 obtain⟨i1,i2⟩:=((e1.drop o).take n).bytes hl
 have hn:((cs.drop o).take n).length=n:=by rw[Zyw];exact Nat.min_eq_left l1
 rw[hn]at i1 i2
 have hp:∀i,i<n→part (ds++ex) (o+i) 1=part ((ds.drop o).take n) i 1:=fun i hi=>by
  rw[Zqq (by omega)]
  unfold part
  rw[List.drop_take,List.take_take,List.drop_drop]
  congr 1;omega
 refine⟨o+n≤(ds++ex).length∧∀i,i<n→Zng (part (ds++ex) (o+i) 1),.str ((Zyl n).map fun i=>ZdM (part (ds++ex) (o+i) 1)),by simp only[Zyp,ZyF,qv,e0,if_true],⟨by simp;omega,fun i hi=>by rw[hp i hi];exact i1 i hi⟩,?_⟩
 have:((Zyl n).map fun i=>ZdM (part (ds++ex) (o+i) 1))=l.map UInt8.ofNat:=by
  rw[i2]
  exact List.map_congr_left fun i hi=>by rw[hp i (by simpa using hi)]
 rw[this]
 exact .str _
theorem Zx9(a b:Int):(if leI a b=true then a else b)=Min.min a b:=by simp only[Za9];exact(Int.min_def a b).symm
theorem Zx8(a b:Int):(if leI a b=true then b else a)=Max.max a b:=by simp only[Za9];exact(Int.max_def a b).symm
theorem Zs4(hS:Sim C η σ s)(h1:η 1=sO .full){q:Q}{vs:List V}(hv:VRs η vs ds){v:V}(h:qV q σ vs=sO v):∃side d,qv L s q (ds.map .d)=sO (side,.d d)∧side∧VR η v d:=by
 cases q<;>(try simp only[qV]at h)
 case mv =>
  obtain⟨x,rfl,hh⟩:=Q1 h;replace h:=hh;clear hh
  obtain⟨d,rfl,hx⟩:=hv.inv1
  simp only[Zyd]at h
  subst h
  exact⟨True,d,rfl,trivial,hx⟩
 case nilck =>
  obtain⟨x,rfl,hh⟩:=Q1 h;replace h:=hh;clear hh
  obtain⟨d,rfl,hx⟩:=hv.inv1
  cases hx<;>simp only[reduceCtorEq,Zyd]at h<;>subst h
  ·exact⟨True,_,rfl,trivial,by constructor;assumption⟩
  ·exact⟨True,_,rfl,trivial,by constructor;assumption⟩
  ·exact⟨True,_,rfl,trivial,by constructor<;>assumption⟩
  ·exact⟨True,_,rfl,trivial,by constructor;assumption⟩
 case load1 =>
  obtain⟨x,rfl,hh⟩:=Q1 h;replace h:=hh;clear hh
  obtain⟨d,rfl,hx⟩:=hv.inv1
  cases hx<;>simp only[reduceCtorEq]at h
  case ep cs o ds hc =>
   obtain⟨d,e1,e2⟩:=Zg2 [] hc h
   rw[ZyR]at e1
   exact⟨True,d,by simp only[Zyp,ZyF,qv,Q0,e1,Zyv],trivial,e2⟩
  case ptr k b o hb =>
   obtain⟨cs,hg,hh⟩:=Ze2 h;replace h:=hh;clear hh
   obtain⟨ds,ex,e0,e1⟩:=Zhy hS hg hb
   obtain⟨d,e2,e3⟩:=Zg2 ex e1 h
   exact⟨True,d,by simp only[Zyp,ZyF,qv,Q0,e0,e2,Zyv],trivial,e3⟩
 case loadN n =>
  obtain⟨x,rfl,hh⟩:=Q1 h;replace h:=hh;clear hh
  obtain⟨d,rfl,hx⟩:=hv.inv1
  cases hx<;>simp only[reduceCtorEq]at h
  case ep cs o ds hc =>
   obtain⟨e1,e2⟩:=Zkg [] hc h
   rw[ZyR]at e1 e2
   exact⟨_,_,by simp only[Zyp,ZyF,qv,Q9,Zyv]<;>rfl,e1,e2⟩
  case ptr k b o hb =>
   obtain⟨cs,hg,hh⟩:=Ze2 h;replace h:=hh;clear hh
   obtain⟨ds,ex,e0,e1⟩:=Zhy hS hg hb
   obtain⟨e2,e3⟩:=Zkg ex e1 h
   exact⟨_,_,by simp only[Zyp,ZyF,qv,Q9,e0,Zyv]<;>rfl,e2,e3⟩
 case bin op p =>
  obtain⟨x,y,rfl,hh⟩:=Zer h;replace h:=hh;clear hh
  obtain⟨d,d',rfl,hx,hy⟩:=hv.inv2
  obtain⟨side,r,e1,e2,e3⟩:=ZwM hx hy h
  exact⟨side,r,by simp only[Zyp,ZyF,qv,e1,Zyv],e2,e3⟩
 case not =>
  obtain⟨x,rfl,hh⟩:=Q1 h;replace h:=hh;clear hh
  obtain⟨d,rfl,hx⟩:=hv.inv1
  cases hx<;>simp only[reduceCtorEq,Zyd]at h
  subst h
  exact⟨True,_,rfl,trivial,.bool _⟩
 case neg =>
  obtain⟨x,rfl,hh⟩:=Q1 h;replace h:=hh;clear hh
  obtain⟨d,rfl,hx⟩:=hv.inv1
  cases hx<;>simp only[reduceCtorEq]at h
  obtain⟨rfl,hr⟩:=Zdb h
  exact⟨_,_,rfl,hr,.int _ _⟩
 case xorm =>
  obtain⟨x,rfl,hh⟩:=Q1 h;replace h:=hh;clear hh
  obtain⟨d,rfl,hx⟩:=hv.inv1
  cases hx<;>simp only[reduceCtorEq,Zyd]at h
  subst h
  exact⟨True,_,rfl,trivial,.int _ _⟩
 case conv c =>
  cases c<;>simp only at h
  case int k =>
   obtain⟨x,rfl,hh⟩:=Q1 h;replace h:=hh;clear hh
   obtain⟨d,rfl,hx⟩:=hv.inv1
   cases hx<;>simp only[reduceCtorEq,Zyd]at h
   subst h
   simp only[Zyp,ZyF,qv]
   split
   ·exact⟨True,_,rfl,trivial,.int _ _⟩
   ·exact⟨True,_,rfl,trivial,.int _ _⟩
  case str =>
   obtain⟨x,rfl,hh⟩:=Q1 h;replace h:=hh;clear hh
   obtain⟨d,rfl,hx⟩:=hv.inv1
   cases hx<;>simp only[reduceCtorEq,Zyd]at h
   subst h
   exact⟨True,_,rfl,trivial,.str _⟩
  case i2s =>
   obtain⟨x,rfl,hh⟩:=Q1 h;replace h:=hh;clear hh
   obtain⟨d,rfl,hx⟩:=hv.inv1
   cases hx<;>simp only[reduceCtorEq]at h
   obtain⟨hb,hh⟩:=ZR h;replace h:=hh;clear hh
   rw[QZ]at hb
   simp only[Zyd]at h
   subst h
   refine⟨_,_,rfl,hb,?_⟩
   have:=VR.str (η:=η) ((Utf8.encode ‹Int›).data.toList.map UInt8.toNat)
   rwa [ZkI]at this
  case b2s =>
   obtain⟨x,rfl,hh⟩:=Q1 h;replace h:=hh;clear hh
   obtain⟨d,rfl,hx⟩:=hv.inv1
   cases hx<;>simp only[reduceCtorEq]at h
   case nilsl =>
    simp only[Zyd]at h
    subst h
    exact⟨True,_,rfl,trivial,.str []⟩
   case sl t n z rs τ row hr hn ht =>
    obtain⟨hb,hh⟩:=ZR h;replace h:=hh;clear hh
    rw[Yf]at hb
    subst hb
    simp only[Zym]at h
    obtain⟨l,hl,rfl⟩:=h
    obtain⟨e1,e2⟩:=hr.bytes hl
    subst hn
    refine⟨_,_,by simp only[Zyp,ZyF,qv,if_true]<;>rfl,e1,?_⟩
    rw[←e2];exact .str _
   case msl k b o n cap z hb =>
    obtain⟨hz,hh⟩:=ZR h;replace h:=hh;clear hh
    rw[Yf]at hz
    subst hz
    obtain⟨cs,hg,hh⟩:=Ze2 h;replace h:=hh;clear hh
    obtain⟨ds,ex,e0,e1⟩:=Zhy hS hg hb
    obtain⟨hle,hh⟩:=ZR h;replace h:=hh;clear hh
    rw[QZ]at hle
    split at h<;>simp only[reduceCtorEq,Zym]at h
    rename_i r hr
    obtain⟨l,hl,rfl⟩:=h
    exact Zoh e0 e1 hle hr hl
   case gsl k b o n cap z c hb hb2 hcap hl =>
    obtain⟨hz,hh⟩:=ZR h;replace h:=hh;clear hh
    rw[Yf]at hz
    subst hz
    obtain⟨cs,hg,hh⟩:=Ze2 h;replace h:=hh;clear hh
    obtain⟨ds,ex,e0,e1⟩:=Zhy hS hg hb
    obtain⟨hle,hh⟩:=ZR h;replace h:=hh;clear hh
    rw[QZ]at hle
    split at h<;>simp only[reduceCtorEq,Zym]at h
    rename_i r hr
    obtain⟨l,hl,rfl⟩:=h
    exact Zoh e0 e1 hle hr hl
 case faddr off =>
  obtain⟨x,rfl,hh⟩:=Q1 h;replace h:=hh;clear hh
  obtain⟨d,rfl,hx⟩:=hv.inv1
  cases hx<;>simp only[reduceCtorEq,Zyd]at h<;>subst h
  ·exact⟨True,_,rfl,trivial,by constructor;assumption⟩
  ·exact⟨True,_,rfl,trivial,by constructor;assumption⟩
 case fld1 off =>
  obtain⟨x,rfl,hh⟩:=Q1 h;replace h:=hh;clear hh
  obtain⟨d,rfl,hx⟩:=hv.inv1
  cases hx<;>simp only[reduceCtorEq]at h
  rename_i cs ds hc
  obtain⟨d,e1,e2⟩:=Zg2 [] hc h
  rw[ZyR]at e1
  exact⟨True,d,by simp only[Zyp,ZyF,qv,e1,Zyv],trivial,e2⟩
 case fldN off n =>
  obtain⟨x,rfl,hh⟩:=Q1 h;replace h:=hh;clear hh
  obtain⟨d,rfl,hx⟩:=hv.inv1
  cases hx<;>simp only[reduceCtorEq]at h
  rename_i cs ds hc
  obtain⟨e1,e2⟩:=Zkg [] hc h
  rw[ZyR]at e1 e2
  exact⟨_,_,rfl,e1,e2⟩
 case iaddr z =>
  obtain⟨x,y,rfl,hh⟩:=Zer h;replace h:=hh;clear hh
  obtain⟨d,d',rfl,hx,hy⟩:=hv.inv2
  cases hy<;>simp only[reduceCtorEq]at h
  cases hx<;>simp only[reduceCtorEq]at h
  case int.sl k i t n z' rs τ row hr hn ht =>
   obtain⟨hz,hh⟩:=ZR h;replace h:=hh;clear hh
   rw[Yf]at hz
   obtain⟨i0,i1,hh⟩:=Zda h;replace h:=hh;clear hh
   split at h<;>simp only[reduceCtorEq,Zyd]at h
   rename_i cs hcs
   rw[Zj5]at hcs
   obtain⟨cs',e1,e2,_⟩:=hr.get hcs
   simp only[V.agg.injEq]at e1
   subst e1;subst h
   exact⟨_,_,by simp only[Zyp,ZyF,qv,hz,if_true]<;>rfl,Zyf i0 i1,.ep _ _ _ e2⟩
  case int.msl k i kb b o n cap z' hb =>
   obtain⟨hz,hh⟩:=ZR h;replace h:=hh;clear hh
   rw[Yf]at hz
   obtain⟨i0,i1,hh⟩:=Zda h;replace h:=hh;clear hh
   simp only[Zyd]at h
   subst h
   exact⟨_,_,by simp only[Zyp,ZyF,qv,hz,if_true]<;>rfl,Zyf i0 i1,.ptr _ _ _ hb⟩
  case int.gsl k i kb b o n cap z' c hb hb2 hcap hl =>
   obtain⟨hz,hh⟩:=ZR h;replace h:=hh;clear hh
   rw[Yf]at hz
   obtain⟨i0,i1,hh⟩:=Zda h;replace h:=hh;clear hh
   simp only[Zyd]at h
   subst h
   exact⟨_,_,by simp only[Zyp,ZyF,qv,hz,if_true]<;>rfl,Zyf i0 i1,.ptr _ _ _ hb⟩
 case iaddrA m z =>
  obtain⟨x,y,rfl,hh⟩:=Zer h;replace h:=hh;clear hh
  obtain⟨d,d',rfl,hx,hy⟩:=hv.inv2
  cases hy<;>simp only[reduceCtorEq]at h
  cases hx<;>simp only[reduceCtorEq]at h<;>obtain⟨i0,i1,h⟩:=Zda h<;>simp only[Zyd]at h<;>subst h
  ·exact⟨_,_,rfl,Zyf i0 i1,by constructor;assumption⟩
  ·exact⟨_,_,rfl,Zyf i0 i1,by constructor;assumption⟩
 case idxA m z one =>
  obtain⟨x,y,rfl,hh⟩:=Zer h;replace h:=hh;clear hh
  obtain⟨d,d',rfl,hx,hy⟩:=hv.inv2
  cases hy<;>simp only[reduceCtorEq]at h
  cases hx<;>simp only[reduceCtorEq]at h
  rename_i k i cs ds hc
  obtain⟨i0,i1,hh⟩:=Zda h;replace h:=hh;clear hh
  cases one
  ·simp only[Zyt,if_false]at h
   obtain⟨e1,e2⟩:=Zkg [] hc h
   rw[ZyR]at e1 e2
   exact⟨_,_,rfl,⟨i0,i1,e1⟩,e2⟩
  ·simp only[if_true]at h
   obtain⟨d,e1,e2⟩:=Zg2 [] hc h
   rw[ZyR]at e1
   exact⟨_,d,by simp only[Zyp,ZyF,qv,e1,Zyv]<;>rfl,Zyf i0 i1,e2⟩
 case sliceA m z lo hi mx =>
  cases vs with
  |nil=>simp at h
  |cons x r =>
  obtain⟨d,ds',rfl,hx,hr⟩:=hv.inv
  cases hx<;>simp only[reduceCtorEq]at h
  rename_i k b o hb
  split at h<;>(try(simp at h;done))
  rename_i l hh mm hi'
  obtain⟨hc,hh⟩:=ZR h;replace h:=hh;clear hh
  simp only[Zyd]at h
  subst h
  simp only[Zyk,Za9,QZ]at hc
  have e:=ZcD hr hi'
  simp only[Zyp,qv,e]
  refine⟨_,_,rfl,⟨hc.1.1.1.1,hc.1.1.1.2,hc.1.1.2,hc.1.2,hc.2⟩,?_⟩
  by_cases he:mm.getD (m:Int)=l.getD 0
  ·rw[if_pos he,if_pos (Za7.2 he)];exact .msl _ _ _ _ _ _ hb
  ·rw[if_neg he,if_neg (fun h=>he (Za7.1 h))];exact .msl _ _ _ _ _ _ hb
 case idxS =>
  obtain⟨x,y,rfl,hh⟩:=Zer h;replace h:=hh;clear hh
  obtain⟨d,d',rfl,hx,hy⟩:=hv.inv2
  cases hy<;>simp only[reduceCtorEq]at h
  cases hx<;>simp only[reduceCtorEq]at h
  rename_i k i l
  obtain⟨i0,i1,hh⟩:=Zda h;replace h:=hh;clear hh
  simp only[Zyd]at h
  subst h
  refine⟨_,_,rfl,⟨i0,by simpa using i1⟩,?_⟩
  have:(((l.map UInt8.ofNat).getD i.toNat 0).toNat:Int)=Int.ofNat (l.getD i.toNat 0 % 256):=by
   simp only[Zyx,List.getElem?_map]
   cases l[i.toNat]?<;>simp
  rw[this]
  exact .int _ _
 case lenS =>
  obtain⟨x,rfl,hh⟩:=Q1 h;replace h:=hh;clear hh
  obtain⟨d,rfl,hx⟩:=hv.inv1
  cases hx<;>simp only[reduceCtorEq,Zyd]at h
  subst h
  refine⟨True,_,rfl,trivial,?_⟩
  rw[List.length_map];exact .int _ _
 case lenL =>
  obtain⟨x,rfl,hh⟩:=Q1 h;replace h:=hh;clear hh
  obtain⟨d,rfl,hx⟩:=hv.inv1
  cases hx<;>simp only[reduceCtorEq,Zyd]at h<;>subst h<;>exact⟨True,_,rfl,trivial,.int _ _⟩
 case lenA n =>
  obtain⟨x,rfl,hh⟩:=Q1 h;replace h:=hh;clear hh
  obtain⟨d,rfl,hx⟩:=hv.inv1
  obtain⟨hb,hh⟩:=ZR h;replace h:=hh;clear hh
  rw[QZ]at hb
  simp only[Zyd]at h
  subst h
  exact⟨_,_,rfl,JR hb,.int _ _⟩
 case ext k =>
  obtain⟨x,rfl,hh⟩:=Q1 h;replace h:=hh;clear hh
  obtain⟨d,rfl,hx⟩:=hv.inv1
  cases hx<;>simp only[reduceCtorEq]at h
  rename_i cs ds hc
  obtain⟨d,e1,e2⟩:=Zg2 [] hc h
  rw[ZyR]at e1
  exact⟨True,d,by simp only[Zyp,ZyF,qv,e1,Zyv],trivial,e2⟩
 case build zero parts =>
  cases hz:ofDs zero<;>simp only[hz,reduceCtorEq,Zym]at h
  rename_i z
  obtain⟨r,hr,rfl⟩:=h
  obtain⟨rd,e1,e2⟩:=ZpY (ofDs_ok hz) hv hr
  exact⟨True,_,by simp only[qv,Zb5,e1,Zyv]<;>rfl,trivial,.agg _ _ e2⟩
 case mkfn f k =>
  cases f<;>simp only[reduceCtorEq,Zyd]at h
  subst h
  exact⟨True,_,by simp only[qv,Zb5,Zyv]<;>rfl,trivial,.fn _ _ _ _ _ (hv.take k) (hv.drop k)⟩
 case mkif t =>
  obtain⟨x,rfl,hh⟩:=Q1 h;replace h:=hh;clear hh
  obtain⟨d,rfl,hx⟩:=hv.inv1
  simp only[Zyd]at h
  subst h
  exact⟨True,_,rfl,trivial,.iface _ _ _ hx⟩
 case sliceS lo hi =>
  cases vs with
  |nil=>simp at h
  |cons x r =>
  obtain⟨d,ds',rfl,hx,hr⟩:=hv.inv
  cases hx<;>simp only[reduceCtorEq]at h
  rename_i l
  split at h<;>(try(simp at h;done))
  rename_i a b c hi'
  obtain⟨hc,hh⟩:=ZR h;replace h:=hh;clear hh
  simp only[Zyd]at h
  subst h
  simp only[Zyk,Za9]at hc
  have e:=ZcD hr hi'
  simp only[Zyp,qv,e,List.length_map]
  refine⟨_,_,rfl,⟨hc.1.1,hc.1.2,hc.2⟩,?_⟩
  rw[←List.map_drop,←List.map_take]
  exact .str _
 case slice z lo hi mx =>
  cases vs with
  |nil=>simp at h
  |cons x r =>
  obtain⟨d,ds',rfl,hx,hr⟩:=hv.inv
  simp only at h
  split at h<;>(try(simp at h;done))
  rename_i l hh m hi'
  have e:=ZcD hr hi'
  obtain⟨side,r',e1,e2,e3⟩:=ZuI h1 hx h
  exact⟨side,r',by simp only[Zyp,qv,e,e1,Zyv],e2,e3⟩
 case min =>
  obtain⟨x,y,rfl,hh⟩:=Zer h;replace h:=hh;clear hh
  obtain⟨d,d',rfl,hx,hy⟩:=hv.inv2
  cases hx<;>simp only[reduceCtorEq]at h
  cases hy<;>simp only[reduceCtorEq]at h
  obtain⟨hk,hh⟩:=ZR h;replace h:=hh;clear hh
  obtain rfl:=ZfC hk
  simp only[Zyd]at h
  subst h
  refine⟨True,_,by simp only[Zyp,ZyF,qv,if_true]<;>rfl,trivial,?_⟩
  rw[Zx9];exact .int _ _
 case max =>
  obtain⟨x,y,rfl,hh⟩:=Zer h;replace h:=hh;clear hh
  obtain⟨d,d',rfl,hx,hy⟩:=hv.inv2
  cases hx<;>simp only[reduceCtorEq]at h
  cases hy<;>simp only[reduceCtorEq]at h
  obtain⟨hk,hh⟩:=ZR h;replace h:=hh;clear hh
  obtain rfl:=ZfC hk
  simp only[Zyd]at h
  subst h
  refine⟨True,_,by simp only[Zyp,ZyF,qv,if_true]<;>rfl,trivial,?_⟩
  rw[Zx8];exact .int _ _
 case tassert t ok zero =>
  cases ok<;>simp only at h
  ·obtain⟨x,rfl,hh⟩:=Q1 h;replace h:=hh;clear hh
   obtain⟨d,rfl,hx⟩:=hv.inv1
   cases hx<;>simp only[reduceCtorEq]at h
   obtain⟨ht,hh⟩:=ZR h;replace h:=hh;clear hh
   rw[Yf]at ht
   simp only[Zyd]at h
   subst h
   exact⟨True,_,by simp only[Zyp,ZyF,qv,ht,if_true]<;>rfl,trivial,by assumption⟩
  ·obtain⟨x,rfl,hh⟩:=Q1 h;replace h:=hh;clear hh
   obtain⟨d,rfl,hx⟩:=hv.inv1
   cases hx<;>simp only[reduceCtorEq]at h
   ·obtain⟨ht,hh⟩:=ZR h;replace h:=hh;clear hh
    rw[Yf]at ht
    simp only[Zyd]at h
    subst h
    exact⟨True,_,by simp only[Zyp,ZyF,qv,ht,if_true]<;>rfl,trivial,.tup _ _ (.cons _ _ _ _ ‹_› (.one (.bool _)))⟩
   ·simp only[Zym]at h
    obtain⟨z,hz,rfl⟩:=h
    exact⟨True,_,rfl,trivial,.tup _ _ (.cons _ _ _ _ (Zg7 hz) (.one (.bool _)))⟩
 case lookup kp zero ok =>
  cases hz:ofD zero<;>simp only[hz,reduceCtorEq]at h
  rename_i z
  obtain⟨x,y,rfl,hh⟩:=Zer h;replace h:=hh;clear hh
  obtain⟨d,d',rfl,hx,hy⟩:=hv.inv2
  obtain⟨hk,hh⟩:=ZR h;replace h:=hh;clear hh
  have hko:=Zge hy hk
  cases hx<;>simp only[reduceCtorEq]at h
  ·rename_i k b hb
   split at h<;>simp only[reduceCtorEq,Zym]at h
   rename_i es hes
   obtain⟨r,hr,rfl⟩:=h
   obtain⟨es',e1,e2⟩:=hS.mapO hes hb
   obtain⟨r',e3,e4⟩:=Zp1 hy e2 hr
   exact⟨_,_,by simp only[Zyp,ZyF,qv,JT,e1,e3,Zyv]<;>rfl,hko,Zqh (Zg7 hz) e4⟩
  ·simp only[Zyd]at h
   subst h
   exact⟨_,_,rfl,hko,Zqh (r':=nO) (Zg7 hz) trivial⟩
 case lenM =>
  obtain⟨x,rfl,hh⟩:=Q1 h;replace h:=hh;clear hh
  obtain⟨d,rfl,hx⟩:=hv.inv1
  cases hx<;>simp only[reduceCtorEq]at h
  ·rename_i k b hb
   split at h<;>(try(simp at h;done))
   rename_i es hes
   obtain⟨hl,hh⟩:=ZR h;replace h:=hh;clear hh
   rw[QZ]at hl
   simp only[Zyd]at h
   subst h
   obtain⟨es',e1,e2⟩:=hS.mapO hes hb
   refine⟨_,_,by simp only[Zyp,ZyF,qv,JT,e1]<;>rfl,by rw[←e2.len];exact hl,?_⟩
   rw[←e2.len];exact .int _ _
  ·simp only[Zyd]at h
   subst h
   exact⟨True,_,rfl,trivial,.int _ _⟩
end
section
variable {C:Px} {η:Nm} {σ:S} {s:St} {L:Loc} {ρ:T W} {ρd:Env} {nx:Nat}
theorem ZuQ:∀(l:List Nat) (k:Nat),VRr η 1 (u8V (l.drop k)) (fun i=>[D.int .u8 (((l.map UInt8.ofNat).getD (k+i) 0).toNat:Int)])
 |l,k=>by
  have key:∀(m:List Nat) (k:Nat),l.drop k=m→VRr η 1 (u8V m) (fun i=>[D.int .u8 (((l.map UInt8.ofNat).getD (k+i) 0).toNat:Int)]):=by
   intro m
   induction m with
   |nil=>intro k _;exact .nil _ _
   |cons a m ih =>
    intro k hk
    have h1:l[k]?=sO a:=by
     have:=congrArg (fun x=>x[0]?) hk
     simpa using this
    have h2:l.drop (k+1)=m:=by
     have:=congrArg List.tail hk
     simpa using this
    refine .cons 1 _ _ _ ?_ rfl ((ih (k+1) h2).congr fun i _=>by rw[show k+1+i=k+(i+1) by omega])
    have:(((l.map UInt8.ofNat).getD (k+0) 0).toNat:Int)=Int.ofNat (a % 256):=by
     simp[Zyx,h1]
    rw[this]
    exact .one (.int _ _)
  exact key _ k rfl
theorem ZrX{z:List V}{zd:List D}(hz:VRs η z zd){i:Nat}:∀{is:List Nat} {vs:List V} {ds:List D},VRs η vs ds→VRs η (ZgA z (is.zip vs) i) (Wd zd (is.zip ds) i)
 | [],vs,ds,h=>by simpa[ZgA,Wd]using hz
 |k::is,vs,ds,h=>by
  cases vs with
  |nil=>obtain rfl:=h.inv0;simpa[ZgA,Wd]using hz
  |cons v vs =>
   obtain⟨d,ds',rfl,h1,h2⟩:=h.inv
   simp only[List.zip_cons_cons,ZgA,Wd]
   by_cases hk:k=i
   ·rw[if_pos hk,if_pos (Yf.2 hk)]
    cases h1<;>first|exact .one (by constructor<;>assumption)|assumption
   ·rw[if_neg hk,if_neg (fun h=>hk (Yf.1 h))]
    exact ZrX hz h2
theorem ZjN{v:V}{d:D}(h:VR η v d):VRs η (Zf3 v) (cellsOf d):=by
 cases h<;>first|exact .one (by constructor<;>assumption)|assumption
theorem Zlz{v:V}{d:D}(h:VR η v d)(hp:Zii v=true):Q3 d=true:=by
 cases h<;>first|rfl|simp[Zii]at hp
theorem Zly{v:V}{d:D}(h:VR η v d)(hp:Zo6 v=true):Zad d=true:=by
 cases h<;>first|rfl|simp[Zo6]at hp
theorem Zi8{n:Nat}:∀{vs:List V} {ds:List D},VRs η vs ds→ZfI n vs=true→J6 n ds=true
 | [],ds,h,hp=>by obtain rfl:=h.inv0;rfl
 |v::vs,ds,h,hp=>by
  obtain⟨d,ds',rfl,h1,h2⟩:=h.inv
  simp only[ZfI,Zyk,Yf]at hp
  simp only[J6,Zyk,decide_eq_true_eq]
  exact⟨⟨Zlz h1 hp.1.1,by rw[←(ZjN h1).len];exact hp.1.2⟩,Zi8 h2 hp.2⟩
theorem Zqf{n:Nat}{z:List V}(hz:z.length=n){i:Nat}:∀{is:List Nat} {vs:List V},ZfI n vs=true→(ZgA z (is.zip vs) i).length=n
 | [],vs,_=>by simpa[ZgA]using hz
 |k::is,[],_=>by simpa[ZgA]using hz
 |k::is,v::vs,hp=>by
  simp only[ZfI,Zyk,Yf]at hp
  simp only[List.zip_cons_cons,ZgA]
  split
  ·exact hp.1.2
  ·exact Zqf hz hp.2
theorem Zlg{n:Nat}{z:List V}{zd:List D}(hz:VRs η z zd)(hzl:z.length=n){is:List Nat}{vs:List V}{ds:List D}(hv:VRs η vs ds)(hp:ZfI n vs=true):∀(len i:Nat),VRr η n (Zj6 z (is.zip vs) len i) (fun j=>Wd zd (is.zip ds) (i+j))∧(Zj6 z (is.zip vs) len i).length=len
 |0,i=>⟨.nil _ _,rfl⟩
 |len+1,i=>by
  obtain⟨h1,h2⟩:=Zlg hz hzl hv hp len (i+1)
  refine⟨.cons _ _ _ _ (ZrX hz hv) (Zqf hzl hp) (h1.congr fun j _=>by rw[show i+1+j=i+(j+1) by omega]),by simp[Zj6,h2]⟩
theorem Zok(hS:Sim C η σ s)(h1:η 1=sO .full)(hρ:Y5 η L ρ ρd){g:Option (Nat×Bool)}(hg:Zy ρd g=sO true){k:K}{r:R3}(hk:KD k=true){db:Bool}(h:(opF false db k).run ρ σ nx=sO r):
  r.σ=σ∧r.nx=nx∧∃side e,side∧Z7 ⟨dst,g,k⟩ ρd L s=.ok side (ZX ρd dst e) L s∧WR η L (.v r.v) e:=by
 have fin:∀{side:Prop} {d:D} {v:V},side→VR η v d→Z7 ⟨dst,g,k⟩ ρd L s=(match g with
   |none=>.ok side (ZX ρd dst (.d d)) L s
   |some _=>.ok (true=true→side) (ZX ρd dst (.when true (.d d))) L s)→∃side e,side∧Z7 ⟨dst,g,k⟩ ρd L s=.ok side (ZX ρd dst e) L s∧WR η L (.v v) e:=by
  intro side d v hs hv hst
  cases g with
  |none=>exact⟨side,.d d,hs,hst,d,hv,.inl rfl⟩
  |some x=>exact⟨_,.when true (.d d),fun _=>hs,hst,d,hv,.inr rfl⟩
 cases k<;>simp only[KD,Zyt]at hk
 case q q xs =>
  simp only[opF]at h
  split at h<;>(try(simp at h;done))
  rename_i vs hvs
  split at h<;>simp only[Zyd,reduceCtorEq]at h
  rename_i v hv
  subst h
  obtain⟨p,ds,a1,a2,a3⟩:=Zb0 hρ hvs
  obtain⟨side,d,b1,b2,b3⟩:=Zs4 (L:=L) hS h1 a3 hv
  refine⟨rfl,rfl,fin (side:=p∧side) ⟨a2,b2⟩ b3 ?_⟩
  unfold Z7
  simp only[hg,a1,b1]
  cases g<;>rfl
 case pick c a b =>
  simp only[opF]at h
  unfold mp2 at h
  split at h<;>(try(simp at h;done))
  rename_i cv hc
  obtain⟨pc,dc,c1,c2,c3⟩:=QN hρ hc
  cases c3<;>simp only[reduceCtorEq]at h
  rename_i cb
  have key:∀{x y:Opd} {yb:Bool},(Zg8 x).run ρ=true→(Kf y).run ρ=sO (.bool yb)→(∃p z,Z9 ρd false x=sO (p,.d (.bool z))∧p)∧∃p,Z9 ρd true y=sO (p,.d (.bool yb))∧p:=by
   intro x y yb hx hy
   obtain⟨p,d,e1,e2,e3⟩:=QN hρ hy
   cases e3
   exact⟨Zus hρ hx rfl,p,e1,e2⟩
  cases cb
  ·simp only at h
   obtain⟨hb,h⟩:=ZR h
   split at h<;>(try(simp at h;done))
   rename_i yv hy
   split at h<;>simp only[Zyd,reduceCtorEq]at h
   subst h
   obtain⟨⟨p1,z,e1,e2⟩,p2,e3,e4⟩:=key hb hy
   refine⟨rfl,rfl,fin (side:=pc∧p1∧p2) ⟨c2,e2,e4⟩ (.bool _) ?_⟩
   unfold Z7 Zek
   simp only[hg,c1,Zyy,Bool.not_false,Bool.and_self,e1,e3,Zyt,if_false]
   cases g<;>rfl
  ·simp only at h
   obtain⟨hb,h⟩:=ZR h
   split at h<;>(try(simp at h;done))
   rename_i yv hy
   split at h<;>simp only[Zyd,reduceCtorEq]at h
   subst h
   obtain⟨⟨p1,z,e1,e2⟩,p2,e3,e4⟩:=key hb hy
   refine⟨rfl,rfl,fin (side:=pc∧p2∧p1) ⟨c2,e4,e2⟩ (.bool _) ?_⟩
   unfold Z7 Zek
   simp only[hg,c1,Zyy,Bool.not_true,Bool.and_false,Bool.and_self,e1,e3,if_true]
   cases g<;>rfl
 case bsl len n z is xs =>
  simp only[opF]at h
  cases hz:ofDs z<;>simp only[hz,reduceCtorEq]at h
  rename_i zv
  split at h<;>(try(simp at h;done))
  rename_i vs hvs
  obtain⟨hb,h⟩:=ZR h
  simp only[ZyH,Zyt,if_false,Zyd]at h
  subst h
  simp only[Zyk,Yf]at hb
  obtain⟨p,ds,a1,a2,a3⟩:=Zb0 hρ hvs
  obtain⟨l1,l2⟩:=Zlg (is:=is) (ofDs_ok hz) hb.2 a3 hb.1 len 0
  refine⟨rfl,rfl,fin (side:=p∧J6 n ds=true) ⟨a2,Zi8 a3 hb.1⟩ (.sl 1 len n _ .full (Wd z (is.zip ds)) (l1.congr fun i _=>by rw[Nat.zero_add]) l2 (.inr h1)) ?_⟩
  unfold Z7
  simp only[hg,a1,Zb5]
  cases g<;>rfl
 case s2b x =>
  simp only[opF]at h
  unfold mp2 at h
  split at h<;>(try(simp at h;done))
  rename_i xv hx
  obtain⟨p,d,a1,a2,a3⟩:=QN hρ hx
  cases a3<;>simp only[reduceCtorEq,Zyd]at h
  rename_i l
  subst h
  refine⟨rfl,rfl,fin (side:=p) a2 (.sl 0 l.length 1 (u8V l) .none _ (ZuQ l 0) (by simp[u8V]) (.inl rfl)) ?_⟩
  unfold Z7
  simp only[hg,a1,List.length_map,Nat.zero_add]
  cases g<;>rfl
end
def K6(C:Px)(η:Nm)(r:R3)(e:E)(s2:St):Prop:=∃η',η.Sub η'∧WT η' r.nx∧Sim C η' r.σ s2∧∃d,VR η' r.v d∧e=.d d
theorem OR.cells0{C:Cx}{η:Nm}{k:Nat}{vs:List V}(h:VRs η vs ds):OR C η k (.cells vs) (.cells ds):=by
 simpa using OR.cells (C:=C) (k0:=k) vs ds [] h
theorem ZgJ{cs ys:List D}{o:Nat}(h:o+ys.length≤cs.length):(ZF cs o ys).length=cs.length:=by
 simp[ZF];omega
theorem JV{b:Nat}{cs:List D}(h:s b=sO (.cells cs)):Wk s b=sO cs:=by simp only[Wk,h]
section
variable {C:Px} {η:Nm} {σ:S} {s:St} {L:Loc} {ρ:T W} {ρd:Env} {nx:Nat}
theorem K9{x:Option V}{f:V→Option R3}{r:R3}(h:mp2 x f=sO r):∃v,x=sO v∧f v=sO r:=by
 cases x with
 |none=>simp[mp2]at h
 |some v=>exact⟨v,rfl,h⟩
theorem ZjM{x:Option S}{v:V}{r:R3}(h:up x v nx=sO r):∃σ',x=sO σ'∧r=⟨v,σ',nx⟩:=by
 cases x with
 |none=>simp[up]at h
 |some σ'=>simp only[up,Zyd]at h;exact⟨σ',rfl,h.symm⟩
theorem K6.new(hS:Sim C η σ s)(hN:WT η nx){b:Nat}(hb:s b=nO){o:O}{d:Wt}(ho:OR C (η.put nx (.tip b)) nx o d){v:V}{e:D}(hv:VR (η.put nx (.tip b)) v e)(hr:Zb6 o=false:=by rfl):K6 C η ⟨v,σ.set (sO o) nx,nx+1⟩ (.d e) (s.upd b d) :=
 ⟨_,Nm.put_sub (hN.free nx (Zys _)) _,hN.put _,hS.new (hN.free nx (Zys _)) hb ho hr,e,hv,rfl⟩
theorem K6.turn(hS:Sim C η σ s)(hN:WT η nx){k b:Nat}{o o':O}{d:Wt}(h:σ.get k=sO o)(hb:η k=sO (.tip b))(ho:OR C η k o' d){v:V}{e:D}(hv:VR η v e)(hr:Zb6 o=false:=by rfl)(hr':Zb6 o'=false:=by rfl):K6 C η ⟨v,σ.set (sO o') k,nx⟩ (.d e) (s.upd b d) :=
 ⟨η,Nm.Sub.refl _,hN,hS.upd h hb ho hr hr',e,hv,rfl⟩
theorem ZeI(hS:Sim C η σ s){a:V}{n:Nat}{xs:List V}{σ':S}(h:ZcH σ a n xs=sO σ'){da:D}(ha:VR η a da){ys:List D}(hx:VRs η xs ys):
  ∃b off cs,da=.ptr b off∧Wk s b=sO cs∧off+ys.length≤cs.length∧ys.length=n∧Sim C η σ' (s.upd b (.cells (ZF cs off ys))):=by
 cases ha<;>simp only[ZcH,reduceCtorEq]at h
 rename_i k b o hb
 split at h<;>(try(simp at h;done))
 all_goals
  rename_i cs hcs
  split at h<;>simp only[reduceCtorEq,Zyd]at h
  rename_i cs' hset
  subst h
  obtain⟨ds,ex,e1,e2⟩:=hS.cells (vs:=cs) (by rw[hcs];rfl) hb
  obtain⟨f0,f1,f2⟩:=e2.over hx hset
  have hl:ys.length=n:=by rw[←hx.len,f0]
  have hset':ZF (ds++ex) o ys=ZF ds o ys++ex:=ZkO (by omega)
  refine⟨b,o,_,rfl,JV e1,by simp;omega,hl,?_⟩
  rw[hset']
 ·exact hS.upd hcs hb (.cells _ _ _ f2)
 ·refine hS.upd hcs hb (.buf _ _ _ f2 ?_)
  obtain⟨b',d,g1,g2,g3⟩:=hS.get hcs (fun n=>by simp)
  rw[hb]at g1
  simp only[Zyd,Tok.tip.injEq]at g1
  subst g1
  rw[e1]at g2
  simp only[Zyd]at g2
  subst g2
  generalize hde:(Wt.cells (ds++ex))=dd at g3
  cases g3 with
  |buf _ ds2 ex2 _ hc =>
   simp only[Wt.cells.injEq]at hde
   rw[hc]
   have:(ZF ds o ys++ex).length=(ds2++ex2).length:=by
    rw[←hde,Zyr,Zyr,ZgJ (by omega)]
   rw[this]
variable {P:Program} {F:Fr P} {kp:Option (List Nat)} {dk:List Zu} {os:List DOp} {ρ':Env} {L':Loc}
theorem QM(hρ:Y5 η L ρ ρd){x:Opd}{v:V}(h:(Kf x).run ρ=sO v)(hag:Z3 ρd ρ' (YQ x)):∃p d,Z9 ρ' true x=sO (p,.d d)∧p∧VR η v d:=by
 obtain⟨p,d,h1,h2,h3⟩:=QN hρ h
 exact⟨p,d,by rw[YD hag];exact h1,h2,h3⟩
theorem ZtV(hS:Sim C η σ s)(hN:WT η nx){z:List D}{mu:Bool}{r:R3}(h:(opF mu dst.isSome (.alloc z)).run ρ σ nx=sO r)(hc:∀e s2,K6 C η r e s2→DO F kp dk os (ZX ρ' dst e) L' s2):DO F kp dk (⟨dst,nO,.alloc z⟩::os) ρ' L' s:=by
 simp only[opF]at h
 cases hz:ofDs z<;>simp only[hz,reduceCtorEq]at h
 rename_i zv
 obtain⟨hd,hh⟩:=ZR h;replace h:=hh;clear hh
 simp only[Zyd]at h
 subst h
 cases dst with
 |none=>simp at hd
 |some t=>exact Ztx rfl rfl rfl fun b hb=>hc (.d (.ptr b 0)) _ (K6.new hS hN hb (OR.cells0 (ofDs_ok hz)) (.ptr _ _ _ (Nm.put_same _ _ _)))
theorem Zwy(hS:Sim C η σ s)(hN:WT η nx)(hρ:Y5 η L ρ ρd){x:Opd}{mu:Bool}{r:R3}(h:(opF mu dst.isSome (.box x)).run ρ σ nx=sO r)(hag:Z3 ρd ρ' (YQ x))(hc:∀e s2,K6 C η r e s2→DO F kp dk os (ZX ρ' dst e) L' s2):DO F kp dk (⟨dst,nO,.box x⟩::os) ρ' L' s:=by
 simp only[opF]at h
 obtain⟨hd,hh⟩:=ZR h;replace h:=hh;clear hh
 obtain⟨v,hv,hh⟩:=K9 h;replace h:=hh;clear hh
 obtain⟨hp,hh⟩:=ZR h;replace h:=hh;clear hh
 simp only[Zyd]at h
 subst h
 obtain⟨p,d,a1,a2,a3⟩:=QM hρ hv hag
 cases dst with
 |none=>simp at hd
 |some t=>exact Zv9 rfl rfl rfl a1 a2 (Zlz a3 hp) fun b hb=>hc (.d (.ptr b 0)) _ (K6.new hS hN hb (OR.cells0 ((ZjN a3).mono (Nm.put_sub (hN.free nx (Zys _)) _))) (.ptr _ _ _ (Nm.put_same _ _ _)))
theorem ZsC(hS:Sim C η σ s)(hN:WT η nx)(hρ:Y5 η L ρ ρd){a v:Opd}{mu:Bool}{r:R3}(h:(opF mu dst.isSome (.store1 a v)).run ρ σ nx=sO r)(hag:Z3 ρd ρ' (YQ a++YQ v))(hc:∀e s2,K6 C η r e s2→DO F kp dk os (ZX ρ' dst e) L' s2):DO F kp dk (⟨dst,nO,.store1 a v⟩::os) ρ' L' s:=by
 simp only[opF]at h
 obtain⟨hd,hh⟩:=ZR h;replace h:=hh;clear hh
 obtain⟨av,ha,hh⟩:=K9 h;replace h:=hh;clear hh
 obtain⟨xv,hx,hh⟩:=K9 h;replace h:=hh;clear hh
 obtain⟨hcl,hh⟩:=ZR h;replace h:=hh;clear hh
 obtain⟨σ',hst,rfl⟩:=ZjM h
 obtain⟨p,da,a1,a2,a3⟩:=QM hρ ha (fun t ht=>hag t (by simp[ht]))
 obtain⟨q,dx,b1,b2,b3⟩:=QM hρ hx (fun t ht=>hag t (by simp[ht]))
 have hok:=Zly b3 hcl
 have hcx:cellsOf dx=[dx]:=by cases dx<;>first|rfl|simp[Zad]at hok
 obtain⟨b,off,cs,rfl,c1,c2,c3,c4⟩:=ZeI hS hst a3 (.one b3)
 cases dst with
 |some t=>simp at hd
 |none =>
  refine Zc6 rfl (.inl ⟨rfl,trivial⟩) a1 b1 a2 b2 c1 (fun _=>hok) (fun n hn=>by simp at hn) (by rw[hcx];exact c2) rfl ?_
  rw[hcx]
  exact hc (.d .nilsl) _ ⟨η,Nm.Sub.refl _,hN,c4,.nilsl,.nilsl,rfl⟩
theorem ZsD(hS:Sim C η σ s)(hN:WT η nx)(hρ:Y5 η L ρ ρd){a v:Opd}{n:Nat}{mu:Bool}{r:R3}(h:(opF mu dst.isSome (.storeN n a v)).run ρ σ nx=sO r)(hag:Z3 ρd ρ' (YQ a++YQ v))(hc:∀e s2,K6 C η r e s2→DO F kp dk os (ZX ρ' dst e) L' s2):DO F kp dk (⟨dst,nO,.storeN n a v⟩::os) ρ' L' s:=by
 simp only[opF]at h
 obtain⟨hd,hh⟩:=ZR h;replace h:=hh;clear hh
 obtain⟨av,ha,hh⟩:=K9 h;replace h:=hh;clear hh
 obtain⟨xv,hx,hh⟩:=K9 h;replace h:=hh;clear hh
 obtain⟨p,da,a1,a2,a3⟩:=QM hρ ha (fun t ht=>hag t (by simp[ht]))
 obtain⟨q,dx,b1,b2,b3⟩:=QM hρ hx (fun t ht=>hag t (by simp[ht]))
 cases b3<;>simp only[reduceCtorEq]at h
 rename_i xs ys hxs
 obtain⟨σ',hst,rfl⟩:=ZjM h
 obtain⟨b,off,cs,rfl,c1,c2,c3,c4⟩:=ZeI hS hst a3 hxs
 cases dst with
 |some t=>simp at hd
 |none =>
  refine Zc6 rfl (.inr ⟨n,rfl⟩) a1 b1 a2 b2 c1 (fun hn=>by simp at hn) (fun m hm=>?_) c2 rfl ?_
  ·simp only[K.storeN.injEq]at hm
   exact⟨⟨_,rfl⟩,by rw[←hm.1];exact c3⟩
  ·exact hc (.d .nilsl) _ ⟨η,Nm.Sub.refl _,hN,c4,.nilsl,.nilsl,rfl⟩
theorem ZtY(hS:Sim C η σ s)(hN:WT η nx){mu:Bool}{r:R3}(h:(opF mu dst.isSome .mkmap).run ρ σ nx=sO r)(hc:∀e s2,K6 C η r e s2→DO F kp dk os (ZX ρ' dst e) L' s2):DO F kp dk (⟨dst,nO,.mkmap⟩::os) ρ' L' s:=by
 simp only[opF]at h
 obtain⟨hd,hh⟩:=ZR h;replace h:=hh;clear hh
 simp only[Zyd]at h
 subst h
 cases dst with
 |none=>simp at hd
 |some t=>exact ZkT rfl rfl rfl fun b hb=>hc (.d (.map b)) _ (K6.new hS hN hb (.map [] [] .nil) (.map _ _ (Nm.put_same _ _ _)))
theorem ZjQ{z:List V}{zd:List D}(hz:VRs η z zd):∀n,VRs η (Zhn z n) (Ju zd n)
 |0=>by simp[Zhn,Ju];exact .nil
 |n+1=>by
  have:Ju zd (n+1)=zd++Ju zd n:=by simp[Ju,List.replicate_succ]
  rw[this]
  exact hz.append (ZjQ hz n)
theorem Zq6(hS:Sim C η σ s)(hN:WT η nx)(hρ:Y5 η L ρ ρd){e:TypeId}{n bytes:Nat}{z:List D}{l hx:Opd}{mu:Bool}{r:R3}(h:(opF mu dst.isSome (.mkslice e n bytes z l hx)).run ρ σ nx=sO r)(hag:Z3 ρd ρ' (YQ l++YQ hx))(hc:∀e s2,K6 C η r e s2→DO F kp dk os (ZX ρ' dst e) L' s2):DO F kp dk (⟨dst,nO,.mkslice e n bytes z l hx⟩::os) ρ' L' s:=by
 simp only[opF]at h
 cases hz:ofDs z<;>simp only[hz,reduceCtorEq]at h
 rename_i zv
 obtain⟨hd,hh⟩:=ZR h;replace h:=hh;clear hh
 obtain⟨lv,hl,hh⟩:=K9 h;replace h:=hh;clear hh
 obtain⟨hv,hh,hh⟩:=K9 h;replace h:=hh;clear hh
 obtain⟨p,dl,a1,a2,a3⟩:=QM hρ hl (fun t ht=>hag t (by simp[ht]))
 obtain⟨q,dh,b1,b2,b3⟩:=QM hρ hh (fun t ht=>hag t (by simp[ht]))
 cases a3<;>simp only[reduceCtorEq]at h
 cases b3<;>simp only[reduceCtorEq]at h
 obtain⟨hb,hh⟩:=ZR h;replace h:=hh;clear hh
 simp only[Zyd]at h
 subst h
 simp only[Zyk,Za9]at hb
 cases dst with
 |none=>simp at hd
 |some t =>
  refine ZlB rfl rfl rfl a1 b1 a2 b2 hb.1.1.1 hb.1.1.2 hb.1.2 hb.2 fun b hb'=>hc (.d (.msl b 0 _ _ n)) _ (K6.new hS hN hb' (OR.cells0 (ZjQ (ofDs_ok hz) _)) (.msl _ _ _ _ _ _ (Nm.put_same _ _ _)))
theorem ZsB(hS:Sim C η σ s)(hN:WT η nx)(hρ:Y5 η L ρ ρd){mk:KP}{m k v:Opd}{mu:Bool}{r:R3}(h:(opF mu dst.isSome (.mapupd mk m k v)).run ρ σ nx=sO r)(hag:Z3 ρd ρ' (YQ m++YQ k++YQ v))(hc:∀e s2,K6 C η r e s2→DO F kp dk os (ZX ρ' dst e) L' s2):DO F kp dk (⟨dst,nO,.mapupd mk m k v⟩::os) ρ' L' s:=by
 simp only[opF]at h
 obtain⟨hd,hh⟩:=ZR h;replace h:=hh;clear hh
 obtain⟨mv,hm,hh⟩:=K9 h;replace h:=hh;clear hh
 obtain⟨kv,hk,hh⟩:=K9 h;replace h:=hh;clear hh
 obtain⟨vv,hv,hh⟩:=K9 h;replace h:=hh;clear hh
 obtain⟨p,dm,a1,a2,a3⟩:=QM hρ hm (fun t ht=>hag t (by simp[ht]))
 obtain⟨q,dk',b1,b2,b3⟩:=QM hρ hk (fun t ht=>hag t (by simp[ht]))
 obtain⟨q',dv,c1,c2,c3⟩:=QM hρ hv (fun t ht=>hag t (by simp[ht]))
 cases a3<;>simp only[reduceCtorEq]at h
 rename_i kb b hb
 split at h<;>(try(simp at h;done))
 rename_i es hes
 obtain⟨hko,hh⟩:=ZR h;replace h:=hh;clear hh
 split at h<;>simp only[Zyd,reduceCtorEq]at h
 rename_i es' hes'
 subst h
 obtain⟨ds,e1,e2⟩:=hS.map hes hb
 obtain⟨ds',e3,e4⟩:=ZnL b3 c3 e2 hes'
 cases dst with
 |some t=>simp at hd
 |none=>exact ZnS rfl rfl rfl a1 b1 c1 a2 b2 c2 (by simp only[JT,e1]) e3 (Zge b3 hko) (hc (.d .nilsl) _ (K6.turn hS hN hes hb (.map _ _ e4) .nilsl))
theorem Zsz(hS:Sim C η σ s)(hN:WT η nx)(hρ:Y5 η L ρ ρd){mk:KP}{m k:Opd}{mu:Bool}{r:R3}(h:(opF mu dst.isSome (.delete mk m k)).run ρ σ nx=sO r)(hag:Z3 ρd ρ' (YQ m++YQ k))(hc:∀e s2,K6 C η r e s2→DO F kp dk os (ZX ρ' dst e) L' s2):DO F kp dk (⟨dst,nO,.delete mk m k⟩::os) ρ' L' s:=by
 simp only[opF]at h
 obtain⟨hd,hh⟩:=ZR h;replace h:=hh;clear hh
 obtain⟨mv,hm,hh⟩:=K9 h;replace h:=hh;clear hh
 obtain⟨kv,hk,hh⟩:=K9 h;replace h:=hh;clear hh
 obtain⟨p,dm,a1,a2,a3⟩:=QM hρ hm (fun t ht=>hag t (by simp[ht]))
 obtain⟨q,dk',b1,b2,b3⟩:=QM hρ hk (fun t ht=>hag t (by simp[ht]))
 cases a3<;>simp only[reduceCtorEq]at h
 rename_i kb b hb
 split at h<;>(try(simp at h;done))
 rename_i es hes
 obtain⟨hko,hh⟩:=ZR h;replace h:=hh;clear hh
 split at h<;>simp only[Zyd,reduceCtorEq]at h
 rename_i es' hes'
 subst h
 obtain⟨ds,e1,e2⟩:=hS.map hes hb
 obtain⟨ds',e3,e4⟩:=ZrN b3 e2 hes'
 cases dst with
 |some t=>simp at hd
 |none=>exact ZnQ rfl rfl rfl a1 b1 a2 b2 (by simp only[JT,e1]) e3 (Zge b3 hko) (hc (.d .nilsl) _ (K6.turn hS hN hes hb (.map _ _ e4) .nilsl))
theorem ZsA(hS:Sim C η σ s)(hN:WT η nx)(hρ:Y5 η L ρ ρd){mk:KP}{z:D}{m k:Opd}{mu:Bool}{r:R3}(h:(opF mu dst.isSome (.mapent mk z m k)).run ρ σ nx=sO r)(hag:Z3 ρd ρ' (YQ m++YQ k))(hc:∀e s2,K6 C η r e s2→DO F kp dk os (ZX ρ' dst e) L' s2):DO F kp dk (⟨dst,nO,.mapent mk z m k⟩::os) ρ' L' s:=by
 simp only[opF]at h
 cases hz:ofD z<;>simp only[hz,reduceCtorEq]at h
 rename_i zv
 obtain⟨hd,hh⟩:=ZR h;replace h:=hh;clear hh
 obtain⟨mv,hm,hh⟩:=K9 h;replace h:=hh;clear hh
 obtain⟨kv,hk,hh⟩:=K9 h;replace h:=hh;clear hh
 obtain⟨p,dm,a1,a2,a3⟩:=QM hρ hm (fun t ht=>hag t (by simp[ht]))
 obtain⟨q,dk',b1,b2,b3⟩:=QM hρ hk (fun t ht=>hag t (by simp[ht]))
 cases a3<;>simp only[reduceCtorEq]at h
 rename_i kb b hb
 split at h<;>(try(simp at h;done))
 rename_i es hes
 obtain⟨hko,hh⟩:=ZR h;replace h:=hh;clear hh
 split at h<;>simp only[Zyd,reduceCtorEq]at h
 rename_i v hv
 subst h
 obtain⟨ds,e1,e2⟩:=hS.map hes hb
 obtain⟨d,e3,e4⟩:=ZrO b3 (Zg7 hz) e2 hv
 cases dst with
 |none=>simp at hd
 |some t =>
  refine ZnR rfl rfl rfl a1 b1 a2 b2 (by simp only[JT,e1]) e3 (Zge b3 hko) fun n=>hc (.d (.tup [d,.stamp n])) _ ?_
  have hsub:=Nm.put_sub (hN.free nx (Zys _)) (.tip n)
  exact⟨_,hsub,hN.put _,(hS.mono hsub).upd hes (hsub _ _ hb) (.mapE _ _ _ _ _ _ _ (e2.imp fun _ _ m=>m.mono hsub) (b3.mono hsub) (Nm.put_same _ _ _)),_,.tup _ _ (.cons _ _ _ _ (e4.mono hsub) (.one (.stamp _ _ (Nm.put_same _ _ _)))),rfl⟩
theorem ZtX(hS:Sim C η σ s)(hN:WT η nx)(hρ:Y5 η L ρ ρd){m st v:Opd}{mu:Bool}{r:R3}(h:(opF mu dst.isSome (.entst m st v)).run ρ σ nx=sO r)(hag:Z3 ρd ρ' (YQ m++YQ st++YQ v))(hc:∀e s2,K6 C η r e s2→DO F kp dk os (ZX ρ' dst e) L' s2):DO F kp dk (⟨dst,nO,.entst m st v⟩::os) ρ' L' s:=by
 simp only[opF]at h
 obtain⟨hd,hh⟩:=ZR h;replace h:=hh;clear hh
 obtain⟨mv,hm,hh⟩:=K9 h;replace h:=hh;clear hh
 obtain⟨kv,hk,hh⟩:=K9 h;replace h:=hh;clear hh
 obtain⟨vv,hv,hh⟩:=K9 h;replace h:=hh;clear hh
 obtain⟨p,dm,a1,a2,a3⟩:=QM hρ hm (fun t ht=>hag t (by simp[ht]))
 obtain⟨q,dk',b1,b2,b3⟩:=QM hρ hk (fun t ht=>hag t (by simp[ht]))
 obtain⟨q',dv,c1,c2,c3⟩:=QM hρ hv (fun t ht=>hag t (by simp[ht]))
 cases a3<;>simp only[reduceCtorEq]at h
 rename_i kb b hb
 cases b3<;>simp only[reduceCtorEq]at h
 rename_i kn n hn
 split at h<;>(try(simp at h;done))
 rename_i mk es key n' hes
 obtain⟨hnn,hh⟩:=ZR h;replace h:=hh;clear hh
 rw[Yf]at hnn
 subst hnn
 split at h<;>simp only[Zyd,reduceCtorEq]at h
 rename_i es' hes'
 subst h
 obtain⟨b',d,e0,e1,e2⟩:=hS.get hes (fun n=>by simp)
 rw[hb]at e0
 simp only[Zyd,Tok.tip.injEq]at e0
 subst e0
 cases e2 with
 |mapE _ _ ds _ dkey _ m' g1 g2 g3 =>
  rw[hn]at g3
  simp only[Zyd,Tok.tip.injEq]at g3
  subst g3
  obtain⟨ds',e3,e4⟩:=ZnL g2 c3 g1 hes'
  cases dst with
  |some t=>simp at hd
  |none=>exact Zpd rfl rfl rfl a1 b1 c1 a2 b2 c2 e1 e3 (hc (.d .nilsl) _ (K6.turn hS hN hes hb (.map _ _ e4) .nilsl))
end
theorem St.del_upd(s:St)(b:Nat)(d:Wt):(s.del b).upd b d=s.upd b d:=by
 funext c;simp only[St.upd,St.del];split<;>rfl
theorem St.upd_del{b:Nat}{d:Wt}(h:s b=sO d):(s.del b).upd b d=s:=by
 funext c;simp only[St.upd,St.del];split
 ·rename_i hc;rw[hc,h]
 ·rfl
section
variable {C:Px} {η:Nm} {σ:S} {s:St}
theorem Sim.take(x:Sim C η σ s){k b:Nat}{o:O}(h:σ.get k=sO o)(hb:η k=sO (.tip b))(hr:Zb6 o=false:=by rfl):Sim C η (σ.set nO k) (s.del b) where
 obj k' o' h':=by
  obtain⟨hne,h1⟩:=ZrU h'
  obtain⟨t,e1,⟨b',d',rfl,e2,e3⟩|e2⟩:=x.obj k' o' h1
  ·refine⟨_,e1,.inl ⟨b',d',rfl,?_,e3⟩⟩
   have:b'≠b:=fun hbb=>hne (x.inj k' k _ _ b h1 h (by rw[←hbb];exact e1) hb)
   simp only[St.del,this,if_false];exact e2
  ·exact⟨t,e1,.inr e2⟩
 inj:=(x.forget k).inj
 kp c e hc:=by
  obtain⟨h1,h2⟩:=(x.forget k).kp c e hc
  have:c≠b:=fun ec=>(x.kp c e hc).2 k o h hr (by rw[ec];exact hb)
  exact⟨by simp only[St.del,this,if_false];exact h1,h2⟩
 ro:=(x.forget k).ro
theorem Sim.newFull(x:Sim C η σ s){nx:Nat}(hn:η nx=nO)(m:Nat):Sim C (η.put nx .full) (σ.set (sO (.tok m)) nx) s:=by
 have x':=x.mono (Nm.put_sub hn .full)
 have key:∀k o1 b,(σ.set (sO (O.tok m)) nx).get k=sO o1→(η.put nx .full) k=sO (.tip b)→σ.get k=sO o1:=fun k o1 b h e=>by
  have hne:k≠nx:=fun hk=>by rw[hk,Nm.put_same]at e;simp at e
  rcases T.get_set h with ⟨rfl,_⟩|⟨_,h⟩
  ·exact absurd rfl hne
  ·exact h
 refine⟨fun k o h=>?_,fun k1 k2 o1 o2 b h1 h2 e1 e2=>x'.inj k1 k2 o1 o2 b (key _ _ _ h1 e1) (key _ _ _ h2 e2) e1 e2,fun c e hc=>⟨(x'.kp c e hc).1,fun k o1 h hr e1=>(x'.kp c e hc).2 k o1 (key _ _ _ h e1) hr e1⟩,fun k o1 c h e=>x'.ro k o1 c (key _ _ _ h e) e⟩
 rcases T.get_set h with ⟨rfl,h1⟩|⟨_,h1⟩
 ·simp only[Zyd]at h1;subst h1
  exact⟨_,Nm.put_same _ _ _,.inr ⟨m,rfl,rfl⟩⟩
 ·exact x'.obj k o h1
theorem Zs6(row:Nat→List D)(m:Nat):(Zyl (m+1)).flatMap row=row 0++(Zyl m).flatMap fun i=>row (i+1):=by
 rw[List.range_succ_eq_map,List.flatMap_cons,List.flatMap_map]
theorem VRr.flat{z:Nat}:∀{m:Nat} {rs cs:List V} {row:Nat→List D},VRr η z rs row→Zj2 z m rs=sO cs→VRs η cs ((Zyl m).flatMap row)∧cs.length=m*z
 |0,rs,cs,row,_,h=>by
  have:sO []=sO cs:=h
  simp only[Zyd]at this
  subst this
  exact⟨.nil,by simp⟩
 |m+1,rs,cs,row,hr,h=>by
  cases hr with
  |nil=>simp[Zj2]at h
  |cons _ c rs row h1 hl t =>
   have h':(match Zj2 z m rs with
    |some r=>sO (Zm4 z c r)
    |none=>nO)=sO cs:=h
   split at h'<;>simp only[Zyd,reduceCtorEq]at h'
   rename_i r hr
   subst h'
   obtain⟨g1,g2⟩:=t.flat hr
   rw[ZgS hl,Zs6]
   exact⟨h1.append g1,by rw[Zyr,g2,hl,ZyI];omega⟩
theorem Zlo{z:Nat}:∀{n:Nat} {vs rs:List V} {ds:List D},VRs η vs ds→Zte z n vs=sO rs→VRr η z rs (fun i=>part ds (i*z) z)∧rs.length=n∧n*z≤ds.length
 |0,vs,rs,ds,_,h=>by
  have:sO []=sO rs:=h
  simp only[Zyd]at this
  subst this
  exact⟨.nil _ _,rfl,by omega⟩
 |n+1,vs,rs,ds,hv,h=>by
  have h':(match Zcq z vs with
   |some r=>Za1 (.agg r) (Zte z n (ZcP z vs))
   |none=>nO)=sO rs:=h
  split at h'<;>(try(simp at h';done))
  rename_i r hr
  obtain⟨q,hq,rfl⟩:=JO h'
  obtain⟨t1,rfl⟩:=Zbv hr
  rw[ZaW]at hq
  obtain⟨g1,g2,g3⟩:=Zlo (hv.drop z) hq
  have hlen:=hv.len
  rw[ZyU]at g3
  refine⟨.cons _ _ _ _ ?_ (by rw[Zyw];omega) (g1.congr fun i _=>?_),by simp[g2],by rw[ZyI];omega⟩
  ·simpa[part]using hv.take z
  ·simp only[part,List.drop_drop]
   congr 2
   rw[ZyI];omega
theorem ZwW{P:Program}(hS:Sim C η σ s){z:Nat}{v:V}{d:D}(hv:VR η v d){m:Nat}{rs:List V}(h:ZvW σ z v=sO (m,rs)):∃row,ZaI P s z d m row∧VRr η z rs row∧rs.length=m:=by
 cases hv<;>simp only[ZvW,reduceCtorEq]at h
 case nilsl =>
  simp only[Zyd,Zyh]at h
  obtain⟨rfl,rfl⟩:=h
  exact⟨fun _=>[],ZaI.elems rfl,.nil _ _,rfl⟩
 case sl t n z' rs' τ row h1 h2 h3 =>
  obtain⟨hz,hh⟩:=ZR h
  rw[Yf]at hz
  subst hz
  simp only[Zyd,Zyh]at hh
  obtain⟨rfl,rfl⟩:=hh
  exact⟨row,ZaI.elems (by simp[ZcB]),h1,h2⟩
 case str l =>
  obtain⟨hz,hh⟩:=ZR h
  rw[Yf]at hz
  subst hz
  simp only[Zyd,Zyh]at hh
  obtain⟨rfl,rfl⟩:=hh
  refine⟨fun i=>[D.int .u8 (((l.map UInt8.ofNat).getD i 0).toNat:Int)],ZaI.elems (m:=l.length) (by simp only[ZcB,if_true,List.length_map]),?_,by simp[u8V]⟩
  have:=ZuQ (η:=η) l 0
  simpa using this
 case msl k b o n cap z' hb =>
  split at h<;>(try(simp at h;done))
  rename_i cs hcs
  obtain⟨hc,hh⟩:=ZR h
  simp only[Zyk,Yf,QZ]at hc
  obtain⟨rfl,hc⟩:=hc
  split at hh<;>simp only[Zyd,Zyh,reduceCtorEq]at hh
  rename_i r hr
  obtain⟨rfl,rfl⟩:=hh
  obtain⟨ds,ex,e1,e2⟩:=hS.cells hcs hb
  rw[ZaW]at hr
  obtain⟨g1,g2,g3⟩:=Zlo (e2.drop o) hr
  have hl:=e2.len
  refine⟨_,ZaI.msl (JV e1) (by rw[Zyr];omega),g1.congr fun i hi=>?_,g2⟩
  have h1:i*z'+z'≤n*z':=by
   rw[←Nat.succ_mul];exact ZyD _ (by omega)
  simp only[part,List.drop_drop]
  rw[List.drop_append_of_le_length (by omega),List.take_append_of_le_length (by rw[ZyU];omega)]
 case gsl k b o n cap z' c hb h2 hcap hl0 =>
  split at h<;>(try(simp at h;done))
  rename_i cs hcs
  obtain⟨hc,hh⟩:=ZR h
  simp only[Zyk,Yf,QZ]at hc
  obtain⟨rfl,hc⟩:=hc
  split at hh<;>simp only[Zyd,Zyh,reduceCtorEq]at hh
  rename_i r hr
  obtain⟨rfl,rfl⟩:=hh
  obtain⟨ds,ex,e1,e2⟩:=hS.cells hcs hb
  rw[ZaW]at hr
  obtain⟨g1,g2,g3⟩:=Zlo (e2.drop o) hr
  have hl:=e2.len
  refine⟨_,ZaI.msl (JV e1) (by rw[Zyr];omega),g1.congr fun i hi=>?_,g2⟩
  have h1:i*z'+z'≤n*z':=by
   rw[←Nat.succ_mul];exact ZyD _ (by omega)
  simp only[part,List.drop_drop]
  rw[List.drop_append_of_le_length (by omega),List.take_append_of_le_length (by rw[ZyU];omega)]
end
section
variable {C:Px} {η:Nm} {σ:S} {s:St} {L:Loc} {ρ:T W} {ρd:Env} {nx:Nat}
variable {P:Program} {F:Fr P} {kp:Option (List Nat)} {dk:List Zu} {os:List DOp} {ρ':Env} {L':Loc}
theorem ZtW(hS:Sim C η σ s)(hN:WT η nx)(hρ:Y5 η L ρ ρd){g:Option (Nat×Bool)}(hg:Zy ρ' g=sO true){n0:Nat}{z:List D}{x:Opd}{mu:Bool}{r:R3}{db:Bool}(h:(opF mu db (.clear n0 z x)).run ρ σ nx=sO r)(hag:Z3 ρd ρ' (YQ x))(hc:∀e s2,K6 C η r e s2→DO F kp dk os (ZX ρ' dst e) L' s2):DO F kp dk (⟨dst,g,.clear n0 z x⟩::os) ρ' L' s:=by
 simp only[opF]at h
 cases hz:ofDs z<;>simp only[hz,reduceCtorEq]at h
 rename_i zv
 obtain⟨v,hv,hh⟩:=K9 h;replace h:=hh;clear hh
 obtain⟨p,d,a1,a2,a3⟩:=QM hρ hv hag
 have fin:∀{k b o n cap:Nat} {z':Nat} ,VR η (.ptr k o) (.ptr b o)→d=.msl b o n cap z'→noV (Nat.beq z' n0) (up (ZcH σ (.ptr k o) (n*n0) (Zhn zv n)) (.tup []) nx)=sO r→DO F kp dk (⟨dst,g,.clear n0 z x⟩::os) ρ' L' s:=by
  intro k b o n cap z' hp hd h
  obtain⟨hz',hh⟩:=ZR h;replace h:=hh;clear hh
  rw[Yf]at hz'
  subst hz'
  obtain⟨σ',hst,rfl⟩:=ZjM h
  obtain⟨b',off,cs,e1,c1,c2,c3,c4⟩:=ZeI hS hst hp (ZjQ (ofDs_ok hz) n)
  simp only[D.ptr.injEq]at e1
  obtain⟨rfl,rfl⟩:=e1
  subst hd
  exact ZuV hg rfl a1 a2 c1 (by omega) (hc (.d (.tup [])) _ ⟨η,Nm.Sub.refl _,hN,c4,_,.tup _ _ .nil,rfl⟩)
 cases a3<;>simp only[reduceCtorEq]at h
 case msl k b o n cap z' hb=>exact fin (.ptr _ _ _ hb) rfl h
 case gsl k b o n cap z' c hb h2 hcap hl0=>exact fin (.ptr _ _ _ hb) rfl h
theorem K6.buf(hS:Sim C η σ s)(hN:WT η nx){b:Nat}(hb:s b=nO){z m cap:Nat}{cs:List V}{ds ex:List D}(hv:VRs η cs ds)(hm:m≤cap)(hl:(ds++ex).length=cap*z){r:R3}(h:Zfs z σ nx m cs=sO r):K6 C η r (.d (.msl b 0 m cap z)) (s.upd b (.cells (ds++ex))):=by
 simp only[Zfs,Zyd]at h
 subst h
 have f0:=hN.free nx (Zys _)
 have f1:=hN.free (nx+1) (by omega)
 have s1:η.Sub (η.put (nx+1) (.tip (ds++ex).length)):=Nm.put_sub f1 _
 have f2:(η.put (nx+1) (.tip (ds++ex).length)) nx=nO:=by simp only[Nm.put];rw[if_neg (by omega)];exact f0
 have s2:=Nm.put_sub f2 (.tip b)
 have hx:((η.put (nx+1) (.tip (ds++ex).length)).put nx (.tip b)) (nx+1)=sO (.tip (ds++ex).length):=by simp[Nm.put]
 refine⟨_,s1.trans s2,⟨?_,?_,?_,?_⟩,(hS.mono s1).new f2 hb (.buf _ _ _ ((hv.mono s1).mono s2) hx),_,.gsl _ _ _ _ _ _ _ (Nm.put_same _ _ _) hx hm (by omega),rfl⟩
 ·exact s2 _ _ (s1 _ _ hN.z)
 ·exact s2 _ _ (s1 _ _ hN.o)
 ·have:=hN.two;show 2≤nx+2;omega
 ·intro k hk
  have hk:nx+2≤k:=hk
  simp only[Nm.put]
  rw[if_neg (by omega),if_neg (by omega)]
  exact hN.free k (by omega)
theorem K6.bufMove(hS:Sim C η σ s)(hN:WT η nx){k b:Nat}{o:O}(hk:σ.get k=sO o)(hb:η k=sO (.tip b))(hr:Zb6 o=false){z m cap:Nat}{cs:List V}{ds ex:List D}(hv:VRs η cs ds)(hm:m≤cap)(hl:cap*z≤(ds++ex).length){r:R3}(h:Zfs z (σ.set nO k) nx m cs=sO r):K6 C η r (.d (.msl b 0 m cap z)) (s.upd b (.cells (ds++ex))):=by
 rw[←St.del_upd s b]
 simp only[Zfs,Zyd]at h
 subst h
 have f0:=hN.free nx (Zys _)
 have f1:=hN.free (nx+1) (by omega)
 have s1:η.Sub (η.put (nx+1) (.tip (ds++ex).length)):=Nm.put_sub f1 _
 have f2:(η.put (nx+1) (.tip (ds++ex).length)) nx=nO:=by simp only[Nm.put];rw[if_neg (by omega)];exact f0
 have s2:=Nm.put_sub f2 (.tip b)
 have hx:((η.put (nx+1) (.tip (ds++ex).length)).put nx (.tip b)) (nx+1)=sO (.tip (ds++ex).length):=by simp[Nm.put]
 refine⟨_,s1.trans s2,⟨?_,?_,?_,?_⟩,((hS.take hk hb hr).mono s1).new f2 (by simp[St.del]) (.buf _ _ _ ((hv.mono s1).mono s2) hx),_,.gsl _ _ _ _ _ _ _ (Nm.put_same _ _ _) hx hm (by omega),rfl⟩
 ·exact s2 _ _ (s1 _ _ hN.z)
 ·exact s2 _ _ (s1 _ _ hN.o)
 ·have:=hN.two;show 2≤nx+2;omega
 ·intro k hk
  have hk:nx+2≤k:=hk
  simp only[Nm.put]
  rw[if_neg (by omega),if_neg (by omega)]
  exact hN.free k (by omega)
end
section
variable {C:Px} {η:Nm} {σ:S} {s:St} {L:Loc} {ρ:T W} {ρd:Env} {nx:Nat}
variable {P:Program} {F:Fr P} {kp:Option (List Nat)} {dk:List Zu} {os:List DOp} {ρ':Env} {L':Loc}
theorem Ztr(hS:Sim C η σ s)(hN:WT η nx){t k:Nat}{τ:Tok}{σ':S}(ht:t=0∨η t=sO τ)(h:ZnH σ t k=sO σ'):
  ∃s0,s=s0.own τ k∧τ.okIn s0∧Sim C η σ' s0:=by
 unfold ZnH at h
 split at h
 ·rename_i h1
  rw[Yf]at h1
  subst h1
  simp only[Zyd]at h
  subst h
  have:=ht.resolve_left (by omega)
  rw[hN.o]at this
  simp only[Zyd]at this
  subst this
  exact⟨s,rfl,trivial,hS⟩
 ·split at h<;>(try(simp at h;done))
  rename_i m hm
  obtain⟨hk,hh⟩:=ZR h
  rw[Yf]at hk
  subst hk
  simp only[Zyd]at hh
  subst hh
  obtain⟨t0,e0,e1⟩:=hS.obj t _ hm
  have hτ:τ=t0:=by
   rcases ht with rfl|ht
   ·rw[hN.z]at e0
    simp only[Zyd]at e0
    subst e0
    obtain⟨_,_,h,_⟩|⟨_,_,h⟩:=e1<;>simp at h
   ·rw[e0]at ht
    simpa using ht.symm
  subst hτ
  obtain⟨b,d,rfl,g1,g2⟩|⟨n,g1,rfl⟩:=e1
  ·cases g2
   refine⟨s.del b,?_,by simp[Tok.okIn,St.del],hS.take hm e0⟩
   simp only[St.own]
   exact(St.upd_del g1).symm
  ·exact⟨s,rfl,trivial,hS.forget t⟩
theorem K6.tok{s0:St}{σ':S}(hS:Sim C η σ' s0)(hN:WT η nx){t':Tok}(ht:t'.okIn s0){n z:Nat}{rs:List V}(hr:VRr η z rs row)(hl:rs.length=n):
  K6 C η ⟨.sl nx n z rs,σ'.set (sO (.tok (n*z))) nx,nx+1⟩ (.d (.sl t' n z row)) (s0.own t' (n*z)):=by
 have f0:=hN.free nx (Zys _)
 have hsub:=Nm.put_sub f0 t'
 refine⟨_,hsub,hN.put _,?_,_,.sl _ _ _ _ _ _ (hr.mono hsub) hl (.inr (Nm.put_same _ _ _)),rfl⟩
 cases t' with
 |tip b=>exact hS.new f0 ht (.tok _)
 |full=>exact hS.newFull f0 _
 |none=>exact ht.elim
theorem Zl0(hS:Sim C η σ s)(hN:WT η nx){g:Option (Nat×Bool)}(hg:Zy ρ' g=sO true){e z b:Nat}{zd:List D}{x y:Opd}{p q:Prop}{dx dy:D}(hx:Z9 ρ' true x=sO (p,.d dx))(hy:Z9 ρ' true y=sO (q,.d dy))(hp:p)(hq:q){t n m:Nat}{τ:Tok}{row row2:Nat→List D}{rs rs2:List V}(hsl:Zfr z dx=sO (τ,n,row))(ht:t=0∨η t=sO τ)(hr:VRr η z rs row)(hl:rs.length=n)(hel:ZaI P s z dy m row2)(hr2:VRr η z rs2 row2)(hl2:rs2.length=m){r:R3}(h:ZlO z b σ nx t n m rs rs2=sO r)(hc:∀e s2,K6 C η r e s2→DO F kp dk os (ZX ρ' dst e) L' s2):DO F kp dk (⟨dst,g,.append e z b zd x y⟩::os) ρ' L' s:=by
 unfold ZlO at h
 obtain⟨hb,hh⟩:=ZR h;replace h:=hh;clear hh
 simp only[Zyk,QZ]at hb
 split at h<;>simp only[Zyd,reduceCtorEq]at h
 rename_i σ' hσ
 subst h
 obtain⟨s0,rfl,hok,hS'⟩:=Ztr hS hN ht hσ
 refine Zsf hg rfl hx hsl hy hp hq hel hok hb.1 hb.2 fun t' ht'=>hc _ _ ?_
 have:=hr.append hr2
 rw[hl]at this
 rw[ZgS hl]
 exact K6.tok hS' hN ht' this (by simp[hl,hl2])
theorem ZlZ(hS:Sim C η σ s)(hN:WT η nx){g:Option (Nat×Bool)}(hg:Zy ρ' g=sO true){e z b:Nat}{zd:List D}{x y:Opd}{p q:Prop}{dx dy:D}(hx:Z9 ρ' true x=sO (p,.d dx))(hy:Z9 ρ' true y=sO (q,.d dy))(hp:p)(hq:q){m:Nat}{row row2:Nat→List D}{rs2:List V}(hsl:Zfr z dx=sO (.full,0,row))(hm:0<m)(hel:ZaI P s z dy m row2)(hr2:VRr η z rs2 row2){r:R3}(h:ZlN z b σ nx m rs2=sO r)(hc:∀e s2,K6 C η r e s2→DO F kp dk os (ZX ρ' dst e) L' s2):DO F kp dk (⟨dst,g,.append e z b zd x y⟩::os) ρ' L' s:=by
 unfold ZlN at h
 obtain⟨hb,hh⟩:=ZR h;replace h:=hh;clear hh
 simp only[Zyk,QZ]at hb
 split at h<;>(try(simp at h;done))
 rename_i cs hcs
 obtain⟨g1,g2⟩:=hr2.flat hcs
 refine ZuU hg rfl hx hsl hy hel hp hq hm hb.1 hb.2 fun c cap hc0 hcap=>hc _ _ (K6.buf hS hN hc0 g1 hcap ?_ h)
 have:=g1.len
 have e1:m*z+(cap-m)*z=cap*z:=by rw[←ZyI];congr 1;omega
 rw[Zyr,List.length_replicate,←this,g2,e1]
theorem Ztf{cs:List D}{o:Nat}{xs:List D}:ZF cs o xs=cs.take o++xs++cs.drop (o+xs.length):=rfl
theorem ZpS(hS:Sim C η σ s)(hN:WT η nx){g:Option (Nat×Bool)}(hg:Zy ρ' g=sO true){e z bt:Nat}{zd:List D}{x y:Opd}{p q:Prop}{dx dy:D}(hx:Z9 ρ' true x=sO (p,.d dx))(hy:Z9 ρ' true y=sO (q,.d dy))(hp:p)(hq:q){k o n m:Nat}{cap:Option Nat}{z':Nat}{row2:Nat→List D}{rs2:List V}(hv:VR η (.msl k o n cap z') dx)(hel:ZaI P s z dy m row2)(hr2:VRr η z rs2 row2){mu:Bool}{r:R3}(h:Zm5 mu z bt σ nx (.msl k o n cap z') m rs2=sO r)(hc:∀e s2,K6 C η r e s2→DO F kp dk os (ZX ρ' dst e) L' s2):DO F kp dk (⟨dst,g,.append e z bt zd x y⟩::os) ρ' L' s:=by
 simp only[Zm5]at h
 obtain⟨hb,hh⟩:=ZR h;replace h:=hh;clear hh
 simp only[Zyk,QZ,Yf]at hb
 obtain⟨⟨rfl,hb1⟩,hb2⟩:=hb
 split at h<;>(try(simp at h;done))
 rename_i cs2 hcs2
 obtain⟨g1,g2⟩:=hr2.flat hcs2
 have hfl:((Zyl m).flatMap row2).length=m*z':=by rw[←g1.len,g2]
 cases hv with
 |gsl _ b _ _ cap' _ c hb h2 hcap hlc =>
  simp only at h
  split at h<;>(try(simp at h;done))
  rename_i cs hcs
  obtain⟨ho,hh⟩:=ZR h;replace h:=hh;clear hh
  rw[Yf]at ho
  subst ho
  split at h<;>(try(simp at h;done))
  rename_i c1 hc1
  obtain⟨t1,rfl⟩:=Zbv hc1
  obtain⟨b',d,e0,e1,e2⟩:=hS.get hcs (fun n=>by simp)
  rw[hb]at e0
  simp only[Zyd,Tok.tip.injEq]at e0
  subst e0
  cases e2 with
  |buf _ ds ex hds hce =>
   rw[h2]at hce
   simp only[Zyd,Tok.tip.injEq]at hce
   subst hce
   have hl:=hds.len
   have htl:(cs.take (n*z')).length=n*z':=by rw[Zyw];omega
   rw[ZgS htl]at h
   have hnc:n*z'≤cap'*z':=ZyD _ hcap
   have hadd:(n+m)*z'=n*z'+m*z':=ZyI _ _ _
   have hvs:VRs η (cs.take (n*z')++cs2) ((ds++ex).take (n*z')++(Zyl m).flatMap row2):=by
    rw[List.take_append_of_le_length (by omega)]
    exact(hds.take _).append g1
   refine ZmV hg rfl hx hy hp hq (JV e1) (by omega) hel (fun hle=>⟨rfl,?_⟩) hb1 hb2 (fun hle=>?_) (fun c cap2 _ hc0 hcap2=>?_)
   ·have:=ZyD z' hle;omega
   ·rw[Ztf]
    refine hc _ _ (K6.bufMove hS hN hcs hb rfl hvs hle ?_ h)
    have:=ZyD z' hle
    simp only[Zyr,Zyw,ZyU,hfl]at hlc⊢
    omega
   ·have hp0:part (ds++ex) 0 (n*z')=(ds++ex).take (n*z'):=by simp[part]
    rw[hp0]
    refine hc _ _ (K6.buf (hS.forget k) hN hc0 hvs hcap2 ?_ h)
    have e1:(n+m)*z'+(cap2-(n+m))*z'=cap2*z':=by rw[←ZyI];congr 1;omega
    simp only[Zyr,Zyw,List.length_replicate,hfl]at hlc⊢
    omega
 |msl _ b _ _ cap _ hb =>
  simp only at h
  split at h<;>(try(simp at h;done))
  rename_i cs hcs
  obtain⟨ds,ex,e1,e2⟩:=hS.cells (vs:=cs) (by rw[hcs];rfl) hb
  have hl:=e2.len
  have hadd:(n+m)*z'=n*z'+m*z':=ZyI _ _ _
  split at h
  ·rename_i hle
   rw[QZ]at hle
   obtain⟨ho,hh⟩:=ZR h;replace h:=hh;clear hh
   rw[Yf]at ho
   subst ho
   split at h<;>simp only[Zyd,reduceCtorEq]at h
   rename_i cs' hset
   subst h
   obtain⟨f0,f1,f2⟩:=e2.over g1 hset
   refine ZmV hg rfl hx hy hp hq (JV e1) (by simp only[Zyr];omega) hel (fun _=>⟨rfl,by simp only[Zyr];omega⟩) hb1 hb2 (fun _=>?_) (fun c cap2 hlt _ _=>by omega)
   rw[ZkO (by rw[hfl];omega)]
   exact hc _ _ (K6.turn hS hN hcs hb (.cells _ _ _ f2) (.msl _ _ _ _ _ _ hb))
  ·rename_i hle
   have hle:cap<n+m:=by
    have:¬n+m≤cap:=fun h=>hle (QZ.2 h)
    omega
   obtain⟨ho,hh⟩:=ZR h;replace h:=hh;clear hh
   rw[QZ]at ho
   split at h<;>(try(simp at h;done))
   rename_i c1 hc1
   obtain⟨t1,rfl⟩:=Zbv hc1
   rw[ZaW]at h t1
   have htl:((cs.drop o).take (n*z')).length=n*z':=by rw[Zyw];omega
   rw[ZgS htl]at h
   have hp0:part (ds++ex) o (n*z')=(ds.drop o).take (n*z'):=by
    simp only[part]
    rw[List.drop_append_of_le_length (by omega),List.take_append_of_le_length (by rw[ZyU];omega)]
   refine ZmV hg rfl hx hy hp hq (JV e1) (by simp only[Zyr];omega) hel (fun h=>by omega) hb1 hb2 (fun h=>by omega) (fun c cap2 _ hc0 hcap2=>?_)
   rw[hp0]
   refine hc _ _ (K6.buf hS hN hc0 (((e2.drop o).take _).append g1) hcap2 ?_ h)
   have e1:(n+m)*z'+(cap2-(n+m))*z'=cap2*z':=by rw[←ZyI];congr 1;omega
   have:((ds.drop o).take (n*z')).length=n*z':=by rw[Zyw,ZyU];omega
   simp only[Zyr,this,List.length_replicate,hfl]
   omega
theorem Zsy(hS:Sim C η σ s)(hN:WT η nx)(hρ:Y5 η L ρ ρd){g:Option (Nat×Bool)}(hg:Zy ρ' g=sO true){e z b:Nat}{zd:List D}{x y:Opd}{mu db:Bool}{r:R3}(h:(opF mu db (.append e z b zd x y)).run ρ σ nx=sO r)(hag:Z3 ρd ρ' (YQ x++YQ y))(hc:∀e s2,K6 C η r e s2→DO F kp dk os (ZX ρ' dst e) L' s2):DO F kp dk (⟨dst,g,.append e z b zd x y⟩::os) ρ' L' s:=by
 simp only[opF]at h
 obtain⟨xv,hx,hh⟩:=K9 h;replace h:=hh;clear hh
 obtain⟨yv,hy,hh⟩:=K9 h;replace h:=hh;clear hh
 split at h<;>(try(simp at h;done))
 rename_i m rs2 hsrc
 obtain⟨p,dx,a1,a2,a3⟩:=QM hρ hx (fun t ht=>hag t (by simp[ht]))
 obtain⟨q,dy,b1,b2,b3⟩:=QM hρ hy (fun t ht=>hag t (by simp[ht]))
 obtain⟨row2,hel,hr2,hl2⟩:=ZwW (P:=P) hS b3 hsrc
 cases a3<;>(try(simp only[Zm5,reduceCtorEq]at h;done))
 case nilsl =>
  simp only[Zm5]at h
  split at h
  ·rename_i hm
   simp only[Zyk,QZ]at hm
   exact ZlZ hS hN hg a1 b1 a2 b2 rfl (by omega) hel hr2 h hc
  ·exact Zl0 hS hN hg a1 b1 a2 b2 rfl (.inr hN.o) (.nil _ _) rfl hel hr2 hl2 h hc
 case sl t n z' rs τ row h1 h2 h3 =>
  simp only[Zm5]at h
  obtain⟨hz,hh⟩:=ZR h;replace h:=hh;clear hh
  rw[Yf]at hz
  subst hz
  split at h
  ·rename_i hm
   simp only[Zyk,QZ,Yf]at hm
   obtain⟨⟨⟨_,hm⟩,rfl⟩,rfl⟩:=hm
   have hτ:=h3.resolve_left (by omega)
   rw[hN.o]at hτ
   simp only[Zyd]at hτ
   subst hτ
   exact ZlZ (row:=row) hS hN hg a1 b1 a2 b2 (by simp[Zfr]) (by omega) hel hr2 h hc
  ·exact Zl0 hS hN hg a1 b1 a2 b2 (by simp[Zfr]) h3 h1 h2 hel hr2 hl2 h hc
 case msl k b' o n cap z' hb=>exact ZpS hS hN hg a1 b1 a2 b2 (.msl _ _ _ _ _ _ hb) hel hr2 h hc
 case gsl k b' o n cap z' c hb h2 hcap hl0=>exact ZpS hS hN hg a1 b1 a2 b2 (.gsl _ _ _ _ _ _ _ hb h2 hcap hl0) hel hr2 h hc
theorem Zvh(hS:Sim C η σ s)(hN:WT η nx)(hρ:Y5 η L ρ ρd){g:Option (Nat×Bool)}(hg:Zy ρ' g=sO true){len n:Nat}{z:List D}{is:List Nat}{mu db:Bool}{r:R3}(h:(opF mu db (.bsl len n z is xs)).run ρ σ nx=sO r)(hag:Z3 ρd ρ' (ZcU xs))(hmu:(mu&&db&&Nat.ble 1 len)=true)(hc:∀e s2,K6 C η r e s2→DO F kp dk os (ZX ρ' dst e) L' s2):DO F kp dk (⟨dst,g,.bsl len n z is xs⟩::os) ρ' L' s:=by
 simp only[opF]at h
 cases hz:ofDs z<;>simp only[hz,reduceCtorEq]at h
 rename_i zv
 split at h<;>(try(simp at h;done))
 rename_i vs hvs
 obtain⟨hp,hh⟩:=ZR h;replace h:=hh;clear hh
 rw[hmu,if_pos rfl]at h
 split at h<;>simp only[Zyd,reduceCtorEq]at h
 rename_i cs hcs
 subst h
 simp only[Zyk,Yf,QZ]at hp hmu
 obtain⟨p,ds,a1,a2,a3⟩:=Zb0 hρ hvs
 rw[←Jv hag]at a1
 obtain⟨g1,g2⟩:=Zlg (is:=is) (ofDs_ok hz) hp.2 a3 hp.1 len 0
 obtain⟨g3,g4⟩:=g1.flat hcs
 simp only[Nat.zero_add]at g3
 exact Zwa hg rfl a1 (Zb5 ds) a2 (Zi8 a3 hp.1) hmu.2 fun b hb=>hc _ _ (K6.new hS hN hb (OR.cells0 (g3.mono (Nm.put_sub (hN.free nx (Zys _)) _))) (.msl _ _ _ _ _ _ (Nm.put_same _ _ _)))
end
section
variable {C:Px} {η:Nm} {σ:S} {s:St} {L:Loc} {ρ:T W} {ρd:Env} {nx:Nat}
variable {P:Program} {F:Fr P} {kp:Option (List Nat)} {dk:List Zu} {os:List DOp} {ρ':Env} {L':Loc}
theorem ZtZ(hS:Sim C η σ s)(hN:WT η nx)(hρ:Y5 η L ρ ρd){g:Option (Nat×Bool)}{k:K}(hg:Zy ρ' g=sO true)(hgk:(gk k ||g.isNone)=true)(hk:KD k=false)(hf:Zi7 k=true){mu:Bool}{r:R3}(h:(opF mu dst.isSome k).run ρ σ nx=sO r)(hag:Z3 ρd ρ' (ZT ⟨dst,g,k⟩))(hc:∀e s2,K6 C η r e s2→DO F kp dk os (ZX ρ' dst e) L' s2):DO F kp dk (⟨dst,g,k⟩::os) ρ' L' s:=by
 have hag:Z3 ρd ρ' (WP k):=fun t ht=>hag t (by simp[ZT,ht])
 have hng:gk k=false→g=nO:=fun hh=>by
  rw[hh,Bool.false_or]at hgk
  cases g<;>simp_all
 cases k<;>simp only[KD,Bool.true_eq_false]at hk
 case alloc z=>obtain rfl:=hng rfl;exact ZtV hS hN h hc
 case box x=>obtain rfl:=hng rfl;exact Zwy hS hN hρ h hag hc
 case store1 a v=>obtain rfl:=hng rfl;exact ZsC hS hN hρ h hag hc
 case storeN n a v=>obtain rfl:=hng rfl;exact ZsD hS hN hρ h hag hc
 case append e z b zd x y=>exact Zsy hS hN hρ hg h hag hc
 case mkmap=>obtain rfl:=hng rfl;exact ZtY hS hN h hc
 case mapupd kp' m k v=>obtain rfl:=hng rfl;exact ZsB hS hN hρ h hag hc
 case mapent kp' z m k=>obtain rfl:=hng rfl;exact ZsA hS hN hρ h hag hc
 case entst m st v=>obtain rfl:=hng rfl;exact ZtX hS hN hρ h hag hc
 case mkslice e n b z l c=>obtain rfl:=hng rfl;exact Zq6 hS hN hρ h hag hc
 case delete kp' m k=>obtain rfl:=hng rfl;exact Zsz hS hN hρ h hag hc
 case clear n z x=>exact ZtW hS hN hρ hg h hag hc
 case fork k=>simp[Zi7]at hf
 all_goals simp[opF]at h
theorem ZxB{mu db:Bool}{k:K}(hk:KD k=true)(hb:(∃len n z is xs,k=.bsl len n z is xs∧(mu&&db&&Nat.ble 1 len)=true)→False){r:R3}(h:(opF mu db k).run ρ σ nx=sO r):(opF false db k).run ρ σ nx=sO r:=by
 cases k<;>simp only[KD,Zyt]at hk
 case bsl len n z is xs =>
  have hm:(mu&&db&&Nat.ble 1 len)=false:=by
   cases hh:(mu&&db&&Nat.ble 1 len)
   ·rfl
   ·exact(hb ⟨_,_,_,_,_,rfl,hh⟩).elim
  simp only[opF]at h⊢
  cases hz:ofDs z<;>simp only[hz,reduceCtorEq]at h⊢
  simp only[hm,Zyt,if_false]at h
  simpa only[ZyH,Zyt,if_false]using h
 all_goals exact h
theorem ZlL(ρ:Env)(l:List Nat):Z3 ρ ρ l:=fun _ _=>rfl
theorem Zx2(hS:Sim C η σ s)(hN:WT η nx)(hρ:Y5 η L ρ ρd){g:Option (Nat×Bool)}{k:K}(hg:Zy ρd g=sO true)(hgk:(gk k ||g.isNone)=true)(hf:Zi7 k=true){mu:Bool}{r:R3}(h:(opF mu dst.isSome k).run ρ σ nx=sO r)(hc:∀η' e s2,η.Sub η'→WT η' r.nx→Sim C η' r.σ s2→WR η' L (.v r.v) e→DO F kp dk os (ZX ρd dst e) L s2):DO F kp dk (⟨dst,g,k⟩::os) ρd L s:=by
 have hc':∀e s2,K6 C η r e s2→DO F kp dk os (ZX ρd dst e) L s2:=fun e s2 hr=>by
  obtain⟨η',h1,h2,h3,d,h4,rfl⟩:=hr
  exact hc η' _ s2 h1 h2 h3 ⟨d,h4,.inl rfl⟩
 cases hk:KD k with
 |false=>exact ZtZ hS hN hρ hg hgk hk hf h (ZlL _ _) hc'
 |true =>
  by_cases hb:∃len n z is xs,k=.bsl len n z is xs∧(mu&&dst.isSome&&Nat.ble 1 len)=true
  ·obtain⟨len,n,z,is,xs,rfl,hm⟩:=hb
   exact Zvh hS hN hρ hg h (ZlL _ _) hm hc'
  ·obtain⟨e1,e2,side,e,e3,e4,e5⟩:=Zok (L:=L) hS hN.o hρ hg hk (ZxB hk hb h)
   exact Za3 e4 e3 (hc η e s (Nm.Sub.refl _) (by rw[e2];exact hN) (by rw[e1];exact hS) e5)
end
theorem T.get_lt{α:Type}{t:T α}{k:Nat}{a:α}(h:t.get k=sO a):k<32768:=by
 unfold T.get T.getF at h
 cases hb:Nat.blt k 32768 with
 |false=>rw[hb]at h;simp at h
 |true=>simpa[Nat.blt_eq]using hb
theorem ZaY{ρ:Env}{t:Nat}{e:E}(he:Yv ρ t=sO e):∀{ks:List Nat},t∈ks→Yv (WV ρ ks) t=sO e
 | [],h=>by simp at h
 |k::ks,h=>by
  simp only[WV]
  by_cases hk:k=t
  ·subst hk
   simp[he,Yv]
  ·have ht:t∈ks:=by simpa[Ne.symm hk]using h
   split
   ·simp only[Yv,hk,if_false];exact ZaY he ht
   ·exact ZaY he ht
theorem ZfA{t:Nat}{e:E}(hl:JK e=[]):∀{ρ:Env},Yv ρ t=sO e→Yv (Zbs ρ) t=sO e
 | [],h=>by simp[Yv]at h
 | (k,x)::r,h=>by
  simp only[Yv]at h
  simp only[Zbs]
  by_cases hk:k=t
  ·simp only[hk,if_true,Zyd]at h
   subst h
   simp[hl,Yv,hk]
  ·simp only[hk,if_false]at h
   split
   ·simp only[Yv,hk,if_false];exact ZfA hl h
   ·exact ZfA hl h
section
variable {η:Nm} {L:Loc} {ρ:T W} {ρd:Env}
theorem WR.locs{w:W}{e:E}(h:WR η [] w e)(hl:Zqg [] w=true):JK e=[]:=by
 cases w with
 |v x =>
  obtain⟨d,_,rfl|rfl⟩:=h<;>rfl
 |loc l o=>simp[Zqg]at hl
 |skip =>
  have h':e=.when false (.d (.bool false)):=h
  subst h';rfl
theorem Y5.keep(h:Y5 η L ρ ρd):Y5 η L ρ (WV ρd Zk0):=fun t w hw hl=>by
 obtain⟨e,h1,h2⟩:=h t w hw hl
 exact⟨e,ZaY h1 (List.mem_range.2 (T.get_lt hw)),h2⟩
theorem Y5.round(h:Y5 η [] ρ ρd):Y5 η [] ρ (JC Zk0 ρd):=fun t w hw hl=>by
 obtain⟨e,h1,h2⟩:=h.keep t w hw hl
 exact⟨e,ZfA (h2.locs hl) h1,h2⟩
theorem Y5.nil:Y5 η L T.nil ρd:=fun t w hw=>by simp[T.get_nil]at hw
theorem Y5.set(h:Y5 η L ρ ρd){v:V}{d:D}(hv:VR η v d)(t:Nat):Y5 η L (ρ.set (sO (.v v)) t) ((t,.d d)::ρd):=fun t' w hw hl=>by
 rcases T.get_set hw with ⟨rfl,h1⟩|⟨hne,h1⟩
 ·simp only[Zyd]at h1
  subst h1
  exact⟨.d d,by simp[Yv],d,hv,.inl rfl⟩
 ·obtain⟨e,h2,h3⟩:=h t' w h1 hl
  exact⟨e,by simp only[Yv];rw[if_neg (Ne.symm hne)];exact h2,h3⟩
theorem Zon:∀{ts:List Nat} {vs:List V} {ds:List D} {ρ:T W} {ρd:Env},Y5 η L ρ ρd→VRs η vs ds→Y5 η L (ZfK ts vs ρ) (Ja ts ds ρd)
 | [],_,_,_,_,h,_=>by simpa only[ZfK,Ja]using h
 |_::_,[],_,_,_,h,hv=>by cases hv;simpa only[ZfK,Ja]using h
 |t::ts,v::vs,_,_,_,h,hv=>by
  obtain⟨d,ds,rfl,h1,h2⟩:=hv.inv
  exact Zon (ts:=ts) (h.set h1 t) h2
theorem Zoe:∀{vs:List V} {i:Nat} {ρ:T W} {t:Nat} {w:W},(Zmf i vs ρ).get t=sO w→(∃j v,t=i+j∧vs[j]?=sO v∧w=.v v)∨ρ.get t=sO w
 | [],i,ρ,t,w,h=>.inr h
 |v::vs,i,ρ,t,w,h=>by
  rcases Zoe (vs:=vs) (i:=i+1) h with ⟨j,v',rfl,h1,h2⟩|h1
  ·exact .inl ⟨j+1,v',by omega,by simpa using h1,h2⟩
  ·rcases T.get_set h1 with ⟨rfl,h2⟩|⟨_,h2⟩
   ·simp only[Zyd]at h2
    exact .inl ⟨0,v,rfl,rfl,h2.symm⟩
   ·exact .inr h2
theorem ZkD:∀{ds:List D} {i j:Nat} {d:D},ds[j]?=sO d→Yv (J4 i ds) (i+j)=sO (.d d)
 | [],i,j,d,h=>by simp at h
 |x::ds,i,0,d,h=>by
  simp only[List.getElem?_cons_zero,Zyd]at h
  subst h
  simp[J4,Yv]
 |x::ds,i,j+1,d,h=>by
  have:=ZkD (ds:=ds) (i:=i+1) (j:=j) (by simpa using h)
  simp only[J4,Yv]
  rw[if_neg (by omega),show i+(j+1)=i+1+j by omega]
  exact this
theorem Zt8{vs:List V}(hv:VRs η vs ds):Y5 η L (Zmf 0 vs T.nil) (J4 0 ds):=fun t w hw _=>by
 rcases Zoe hw with ⟨j,v,rfl,h1,rfl⟩|h
 ·obtain⟨d,h2,h3⟩:=hv.get h1
  exact⟨.d d,ZkD h2,d,h3,.inl rfl⟩
 ·simp[T.get_nil]at h
end
def Zxz:E→E
 |.when c e=>match c,e with
  |true,.d d=>.d d
  |c,e=>.when c e
 |e=>e
def nrm:Env→Env
 | []=>[]
 | (t,e)::r=>(t,Zxz e)::nrm r
theorem ZhL:∀(ρ:Env) (t:Nat),Yv (nrm ρ) t=(Yv ρ t).map Zxz
 | [],t=>rfl
 | (k,e)::r,t=>by
  simp only[nrm,Yv]
  split
  ·rfl
  ·exact ZhL r t
theorem ZO.nrm(m:ZO g ν w tmps ρ L s):ZO g ν w tmps (nrm ρ) L s:={
 st:=m.st
 loc:=m.loc
 locKept:=m.locKept
 locSt:=m.locSt
 inj:=m.inj
 env t e h:=by
  rw[ZhL]at h
  simp only[Zym]at h
  obtain⟨e0,h1,rfl⟩:=h
  have h2:=m.env t e0 h1
  cases e0 with
  |d d=>exact h2
  |loc l o=>exact h2
  |when c e =>
   cases c with
   |false=>exact h2
   |true =>
    cases e with
    |d d=>exact h2.1 rfl
    |loc l o=>exact h2
    |when c e=>exact h2 }
theorem Zpg{P:Program}{F:Fr P}{dk:List Zu}(h:ZS F dk (nrm ρ) L s):ZS F dk ρ L s :=
 fun k hk g ν w tmps hN m=>h k hk g ν w tmps hN m.nrm
theorem Zsk{P:Program}{F:Fr P}{d:D}(h:K1 F (nrm ρ) L d s):K1 F ρ L d s :=
 fun g ν w v todo tmps hN m hr=>h g ν w v todo tmps hN m.nrm hr
def ZmW(η:Nm)(ρ:T W)(ρd:Env):Prop:=∀t x,ρ.get t=sO (.v x)→∃d,Yv ρd t=sO (.d d)∧VR η x d
section
variable {C:Px} {η:Nm} {σ:S} {s:St} {L:Loc} {ρ:T W} {ρd:Env} {nx:Nat}
theorem Y5.nrm(h:Y5 η L ρ ρd):ZmW η ρ (nrm ρd):=fun t x hx=>by
 obtain⟨e,h1,d,h2,rfl|rfl⟩:=h t _ hx rfl
 ·exact⟨d,by rw[ZhL,h1];rfl,h2⟩
 ·exact⟨d,by rw[ZhL,h1];rfl,h2⟩
theorem ZmW.mono{η':Nm}(h:ZmW η ρ ρd)(hs:η.Sub η'):ZmW η' ρ ρd:=fun t x hx=>by
 obtain⟨d,h1,h2⟩:=h t x hx
 exact⟨d,h1,h2.mono hs⟩
theorem ZxL(hS:Sim C η σ s)(h1:η 1=sO .full)(hρ:ZmW η ρ ρd){r:RV}{v:V}(h:rvV ρ σ r=sO v):∃p d,JU ρd [] s r=sO (p,d)∧p∧VR η v d:=by
 have key:∀{t:Nat} {a:V},(Kf (.tmp t)).run ρ=sO a→∃d,Yv ρd t=sO (.d d)∧VR η a d:=fun{t a} ha=>hρ t a (Zv8 (x:=ρ.get t) ha)
 cases r with
 |tmp t =>
  obtain⟨d,a1,a2⟩:=key h
  exact⟨True,d,by simp only[JU,a1],trivial,a2⟩
 |cell1 t =>
  simp only[rvV]at h
  split at h<;>(try(simp at h;done))
  rename_i a ha
  obtain⟨d,a1,a2⟩:=key ha
  obtain⟨side,e,b1,b2,b3⟩:=Zs4 (L:=[]) hS h1 (.one a2) h
  simp only[Zyp,ZyF,qv,Zym,Zyh,E.d.injEq]at b1
  obtain⟨x,c1,c2,rfl⟩:=b1
  exact⟨True,x,by simp only[JU,a1,c1,Zyv],trivial,b3⟩
 |cellN t n =>
  simp only[rvV]at h
  split at h<;>(try(simp at h;done))
  rename_i a ha
  obtain⟨d,a1,a2⟩:=key ha
  obtain⟨side,e,b1,b2,b3⟩:=Zs4 (L:=[]) hS h1 (.one a2) h
  simp only[Zyp,ZyF,qv,Zym,Zyh,E.d.injEq]at b1
  obtain⟨x,c1,rfl,rfl⟩:=b1
  exact⟨x.1,.agg x.2,by simp only[JU,a1,c1,Zyv],b2,b3⟩
theorem Znw(hS:Sim C η σ s)(h1:η 1=sO .full)(hρ:ZmW η ρ ρd):∀{rs:List RV} {vs:List V},Znv ρ σ rs=sO vs→∃p ds,K5 ρd [] s rs=sO (p,ds)∧p∧VRs η vs ds
 | [],vs,h=>by
  simp only[Znv,Zyd]at h
  subst h
  exact⟨True,[],rfl,trivial,.nil⟩
 |r::rs,vs,h=>by
  simp only[Znv]at h
  split at h<;>(try(simp at h;done))
  rename_i v hv
  split at h<;>simp only[Zyd,reduceCtorEq]at h
  rename_i vs' hvs
  subst h
  obtain⟨p,d,a1,a2,a3⟩:=ZxL hS h1 hρ hv
  obtain⟨q,ds,b1,b2,b3⟩:=Znw hS h1 hρ hvs
  exact⟨p∧q,d::ds,by simp only[K5,a1,b1],⟨a2,b2⟩,.cons _ _ _ _ a3 b3⟩
theorem Zul{vs:List V}(h:VRs η vs ds):VR η (mkV vs) (J5 ds):=by
 cases h with
 |nil=>exact .tup _ _ .nil
 |cons v d vs ds h t =>
  cases t with
  |nil=>exact h
  |cons v' d' vs ds h' t=>exact .tup _ _ (.cons _ _ _ _ h (.cons _ _ _ _ h' t))
theorem Zr5{v:V}{d:D}(h:VR η v d)(hr:Ztd v=true):ZfQ d:=by
 cases h<;>simp only[Ztd,Zyt]at hr<;>simp only[ZfQ,Zbw,Option.isSome_some]
 ·exact ZrW hr
 ·rw[QZ]at hr;simpa using hr
theorem Zh3:∀{vs:List V} {ds:List D},VRs η vs ds→Zkd vs=true→ZcF ds
 | [],_,h,_=>by cases h;trivial
 |v::vs,_,h,hr=>by
  obtain⟨d,ds,rfl,h1,h2⟩:=h.inv
  simp only[Zkd,Zyk]at hr
  exact⟨Zr5 h1 hr.1,Zh3 h2 hr.2⟩
def Zgq(C:Px)(η:Nm)(o:Out)(r:Res)(s:St):Prop :=
 ∃η' d,η.Sub η'∧WT η' o.nx∧Sim C η' o.σ s∧VR η' o.v d∧r=if o.pan then .panic d else .ret d
theorem Zgq.mono{η':Nm}{o:Out}{r:Res}(h:Zgq C η' o r s)(hs:η.Sub η'):Zgq C η o r s:=by
 obtain⟨η2,d,h1,h2⟩:=h
 exact⟨η2,d,hs.trans h1,h2⟩
inductive DdR(η:Nm):List Dd→List DD→Prop where
 |nil:DdR η [] []
 |mark (q b:Nat) (r:List Dd) (r':List DD) (h:η q=some (.tip b)) (t:DdR η r r'):DdR η (.mark q::r) (.mark b::r')
 |fn (i:FuncId) (a c:List V) (da dc:List D) (r:List Dd) (r':List DD) (ha:VRs η a da) (hc:VRs η c dc) (h1:ZcF da) (h2:ZcF dc) (t:DdR η r r'):DdR η (.fn i a c::r) (.fn i da dc::r')
theorem DdR.mono{η':Nm}(hs:η.Sub η'):∀{r:List Dd} {r':List DD},DdR η r r'→DdR η' r r'
 |_,_,.nil=>.nil
 |_,_,.mark q b r r' h t=>.mark q b r r' (hs _ _ h) (t.mono hs)
 |_,_,.fn i a c da dc r r' ha hc h1 h2 t=>.fn i a c da dc r r' (ha.mono hs) (hc.mono hs) h1 h2 (t.mono hs)
def FmR(C:Px)(η:Nm)(fm:Fm)(o:Out)(F:Fr C.P):Prop :=
 F.b.fn=fm.f∧F.N=fm.n∧F.an=C.an fm.f∧match fm.k with
  |.fn res=>∃Φ dds,KJ F res Φ dds∧DdR η fm.ds dds∧∀r s,Zgq C η o r s→Φ r s
  |.rnd l=>∃b Φ,η l=sO (.tip b)∧J3 F b Φ∧∀r s,Zgq C η o r s→Φ r s
  |.dfd pd rec=>∃m Ψ,ZbN F m Ψ rec∧(match pd,m with
    |some v,sO d=>VR η v d
    |none,nO=>True
    |_,_=>False)∧∀s b,o.pan=false→o.v=.bool b→Zgq C η o (.ret (.bool b)) s→Ψ b s
end
section
variable {P:Program}
theorem Zoz{an:Ann}{l N:Nat}{r:Qw}{da db:DC}{args:List D}(hs:s l=sO (.loop r .ready))(hlen:args.length=r.params.length)(ha:cc P an N r.assign=sO da)(hb:cc P an N r.body=sO db)(hN:r.N=N)(hp:∀t∈r.params,t<N)(h:∀F:Fr P,J3 F l Φ→F.b.fn=r.fn→F.N=N→F.an=an→ZS F [.code da,.beginR,.code db] (Ja r.params args r.ρ) [] s):Jc P (.fn (.yield l) [] []) args s Φ:=by
 intro g w fv vs hst hf hargs
 cases hf with
 |fn _ fs cs' _ _ hn1 hn2 h1 h2 =>
 obtain rfl:fs=[]:=by simpa using hn1
 obtain rfl:cs'=[]:=by simpa using hn2
 obtain⟨hp0,l0,a1,a2,a3,a4,a5,a6,a7,a8,a9,a10⟩:=hst.obj l _ hs
 have hsize:vs.toArray.size=l0.params.size:=by
  have e1:=hargs.len
  have e2:l0.params.toList.length=r.params.length:=by rw[a3]
  simp at e2⊢;omega
 refine⟨_,_,_,by simp[Deferred.ofValue];rfl,by simp[invoke,Instr.yield,Instr.getLoop,ZaP a1,hsize];rfl,rfl,fun c cs=>?_⟩
 have M:ZO g (fun _=>0) w l0.tmps r.ρ [] s:=⟨hst,fun l cs h=>by simp[Zo]at h,fun l cs h=>by simp[Zo]at h,fun l cs h=>by simp[Zo]at h,fun l l' cs cs' h=>by simp[Zo]at h,a8⟩
 obtain⟨hN',M'⟩:=Zh0 M hargs hlen (by rw[hN]at *;exact hp) (by rw[←hN];exact a7)
 have:=h (Zbe P an r.fn N l c cs Φ) ⟨an,r.fn,N,c,cs,rfl⟩ rfl rfl rfl [.code r.assign,.beginRound,.code r.body] (.code ha (.beginR (.code hb .nil))) g (fun _=>0) w _ hN' M'
 have hfr:(Zbe P an r.fn N l c cs Φ).b.atR { tmps:=(r.params.zip vs).foldl (fun tmps (x:Nat×Value)=>tmps.setIfInBounds x.1 x.2) l0.tmps,defers:=[] } [.code r.assign,.beginRound,.code r.body] =
   Frame.round l l0.fn ((l0.params.zip vs.toArray).foldl (fun tmps (x:Nat×Value)=>tmps.setIfInBounds x.1 x.2) l0.tmps) l0.assign l0.body .normal:=by
  simp only[Frame.atR,Frame.round,Zbe,a2,a4,a5,←a3]
  congr 1
  rw[←Array.foldl_toList]
  simp
 have e:(Zbe P an r.fn N l c cs Φ).ds=[]:=rfl
 rw[e,hfr]at this
 have e2:(l0.params.zip vs.toArray).size=l0.params.size:=by simp at hsize⊢;omega
 rw[e2]at this
 exact this
theorem Zoy{an:Ann}{i:FuncId}{df:DF}(hf:cf P an i=sO df)(hres:df.res=[]){args:List D}{m:Option D}{Ψ:Bool→St→Prop}(hm:∀d,m=sO d→ZfR d)(h:∀F:Fr P,ZbN F m Ψ false→F.b.fn=i→F.N=df.n→F.an=an→ZS F [.code df.body] (J4 0 args) [] s):ZcY P i args m s Ψ:=by
 have hf0:=hf
 unfold cf at hf
 split at hf<;>(try(simp at hf;done))
 rename_i fn hfn
 split at hf<;>(try(simp at hf;done))
 rename_i c hc
 split at hf<;>(try(simp at hf;done))
 rename_i hname
 split at hf<;>simp at hf
 rename_i rs d hrs hd
 subst hf
 refine⟨⟨fn,hfn,by simp[hc],by simpa using hname⟩,fun g w vs cfr cs hs ha hmode=>?_⟩
 obtain⟨v,hv1,hv2⟩:∃v,cfr.mode=ZaD m v false∧∀d,m=sO d→∀g w,Rep g w v d:=by
  cases m with
  |none=>exact⟨undef,hmode,fun d hd=>by simp at hd⟩
  |some d =>
   obtain⟨v,h1,h2⟩:=hmode
   obtain⟨v',r1,r2⟩:=Zoq (hm d rfl)
   have:=r2 g w v h2
   subst this
   exact⟨v,h1,fun d' hd'=>by simp only[Zyd]at hd';subst hd';exact r1⟩
 have hcf:({ cfr with mode:=ZaD m v false }:Frame)=cfr:=by rw[←hv1]
 have henter:Frame.enter P i vs.toArray .deferred=(Qc P an i fn.ntmps cfr cs Ψ m v false).b.atR { tmps:=vs.toArray++Array.replicate (fn.ntmps-vs.length) undef,defers:=[] } [.code c]:=by
  simp[Frame.enter,Frame.atR,hfn,hc,Qc]
 have:=h _ ⟨an,i,_,cfr,cs,v,hf0,hres,hv1,hv2,rfl⟩ rfl rfl rfl [.code c] (.code hd .nil) g (fun _=>0) w (vs.toArray++Array.replicate (fn.ntmps-vs.length) undef) (by simp[Qc];omega) (ZgD hs ha _)
 obtain⟨g',w',s',b,a1,a2,a3,a4⟩:=this
 refine⟨g',w',s',b,a1,a2,a3,?_⟩
 rw[henter]
 have hcs:(Qc P an i fn.ntmps cfr cs Ψ m v false).cs=cfr::cs:=by simp only[Qc,hcf]
 rw[hcs]at a4
 exact a4
theorem ZqY{an:Ann}{f:FuncId}{df:DF}(hf:cf P an f=sO df){args:List D}(h:∀F:Fr P,KJ F df.res Φ []→F.b.fn=f→F.N=df.n→F.an=an→ZS F [.code df.body] (J4 0 args) [] s):ZN P f args s Φ :=
 ZiA hf fun cs=>h _ ⟨an,f,df,cs,hf,rfl,rfl⟩ rfl rfl rfl
end
def ZuW(C:Px)(ih:Ih):Prop:=∀fm dk ρ σ nx o,ih fm dk ρ σ nx=sO o→∀(F:Fr C.P) η ρd s,FmR C η fm o F→Y5 η [] ρ ρd→WT η nx→Sim C η σ s→ZS F dk ρd [] s
def ZaU(C:Px)(ih:Ih):Prop:=∀t,ZuW ⟨C.toCx,t⟩ ih
theorem ZaU.at{C:Px}{ih:Ih}(h:ZaU C ih):ZuW C ih:=h C.t
def ZkU(η:Nm):Option V→Option D→Prop
 |some v,sO d=>VR η v d
 |none,nO=>True
 |_,_=>False
section
variable {C:Px} {ih:Ih}
theorem ZvP{η:Nm}{m:Option V}{md:Option D}(h:ZkU η m md)(hr:Ztc m=true):∀d,md=sO d→ZfR d:=fun d hd=>by
 subst hd
 cases m with
 |none=>exact h.elim
 |some v =>
  have hv:VR η v d:=h
  cases hv<;>simp only[Ztc,Zyt]at hr
  rename_i t v d hv
  have hv':=hv
  cases hv<;>first|exact Zh3 (by assumption) hr|exact Zr5 hv' hr
theorem Zhl(hih:ZaU C ih):∀{ds:List Dd} {m:Option V} {σ:S} {nx:Nat} {m':Option V} {σ':S} {nx':Nat},ZjK C ih ds m σ nx=sO (m',σ',nx')→∀{η:Nm} {dds:List DD} {md:Option D} {s:St},DdR η ds dds→WT η nx→Sim C η σ s→ZkU η m md →
  ∀{Ψ:Option D→St→Prop},(∀η' md' s',η.Sub η'→WT η' nx'→Sim C η' σ' s'→ZkU η' m' md'→Ψ md' s')→Unw C.P dds md s Ψ
 | [],m,σ,nx,m',σ',nx',h,η,dds,md,s,hd,hN,hS,hm,Ψ,hΨ=>by
  simp only[ZjK,Zyd,Zyh]at h
  obtain⟨rfl,rfl,rfl⟩:=h
  cases hd
  exact hΨ η md s (Nm.Sub.refl _) hN hS hm
 |.mark q::r,m,σ,nx,m',σ',nx',h,η,dds,md,s,hd,hN,hS,hm,Ψ,hΨ=>by
  simp only[ZjK]at h
  split at h<;>(try(simp at h;done))
  rename_i hq
  cases hd with
  |mark _ b _ r' hb t =>
   obtain⟨b',d,e0,e1,e2⟩:=hS.get hq (fun n=>by simp)
   rw[hb]at e0
   simp only[Zyd,Tok.tip.injEq]at e0
   subst e0
   cases e2
   exact⟨e1,Zhl hih h t hN (hS.take hq hb) hm hΨ⟩
 |.fn i args caps::r,m,σ,nx,m',σ',nx',h,η,dds,md,s,hd,hN,hS,hm,Ψ,hΨ=>by
  simp only[ZjK]at h
  split at h<;>(try(simp at h;done))
  rename_i n body hdf
  obtain⟨hr,hh⟩:=ZR h;replace h:=hh;clear hh
  split at h<;>(try(simp at h;done))
  rename_i b σ1 nx1 hrun
  cases hd with
  |fn _ _ _ da dc _ r' ha hc h1 h2 t =>
   refine⟨h1,h2,Zoy (an:=C.an i) hdf rfl (ZvP hm hr) fun F hF e1 e2 e3=>?_⟩
   refine hih.at _ _ _ _ _ _ hrun F η _ s ⟨e1,e2,e3,md,_,hF,hm,?_⟩ (Zt8 (ha.append hc)) hN hS
   intro s1 b1 _ hb1 hp
   obtain⟨η1,d,g1,g2,g3,g4,g5⟩:=hp
   simp only[V.bool.injEq]at hb1
   subst hb1
   exact Zhl hih h (t.mono g1) g2 g3 (by
    cases b with
    |true=>trivial
    |false =>
     cases m<;>cases md<;>first|trivial|exact hm.elim|exact VR.mono g1 hm) fun η2 md2 s2 k1 k2 k3 k4=>hΨ η2 md2 s2 (g1.trans k1) k2 k3 k4
end
def Zx4(C:Cx)(r:Qw)(st:Option DC)(busy:Bool)(lst:LSt):Prop:=match st,busy,lst with
 |none,false,.ready=>True
 |none,true,.busy=>True
 |some dj,false,.done j=>cc C.P (C.an r.fn) r.N j=sO dj
 |_,_,_=>False
section
variable {C:Px} {ih:Ih} {η:Nm} {σ:S} {s:St} {ρ:T W} {ρd:Env} {nx:Nat}
theorem Zi5(hS:Sim C η σ s){l b:Nat}(hb:η l=sO (.tip b)){st:Option DC}{now busy:Bool}{σ':S}(h:loopTo σ l st now busy=sO σ'):
  ∃r lst,s b=sO (.loop r lst)∧(now=false→lst=.ready)∧(now=true→lst=.busy)∧∀lst',Zx4 C r st busy lst'→Sim C η σ' (s.upd b (.loop r lst')):=by
 unfold loopTo at h
 split at h<;>(try(simp at h;done))
 rename_i f n ps a b0 ρ0 bs hl
 obtain⟨hbs,hh⟩:=ZR h;replace h:=hh;clear hh
 simp only[Zyd]at h
 subst h
 obtain⟨b',d,e0,e1,e2⟩:=hS.get hl (fun n=>by simp)
 rw[hb]at e0
 simp only[Zyd,Tok.tip.injEq]at e0
 subst e0
 have hbs':bs=now:=by simpa using hbs
 subst hbs'
 cases e2 with
 |loop _ _ _ _ _ _ _ _ r lst hf hn hps hlt ha hbb hρ hst =>
  subst hf;subst hn
  refine⟨r,lst,e1,fun hb0=>?_,fun hb0=>?_,fun lst' hst'=>hS.upd hl hb (.loop _ _ _ _ _ _ _ _ r lst' rfl rfl hps hlt ha hbb hρ ?_)⟩
  ·subst hb0;cases lst<;>first|rfl|exact hst.elim
  ·subst hb0;cases lst<;>first|rfl|exact hst.elim
  ·cases st<;>cases busy<;>cases lst'<;>exact hst'
theorem Zr4(hih:ZaU C ih){fm:Fm}{fell:Bool}{o:Out}(h:Ztb C ih fm ρ σ nx fell=sO o){F:Fr C.P}(hF:FmR C η fm o F)(hρ:Y5 η [] ρ ρd)(hN:WT η nx)(hS:Sim C η σ s):
  (fell=true→ZS F [] ρd [] s)∧(fell=false→∀dk,ZS F (.code .ret::dk) ρd [] s):=by
 obtain⟨_,_,_,hk⟩:=hF
 unfold Ztb at h
 split at h
 ·rename_i res hfk
  rw[hfk]at hk
  obtain⟨Φ,dds,hI,hdd,hΦ⟩:=hk
  split at h<;>(try(simp at h;done))
  rename_i σ1 nx1 hu
  split at h<;>simp only[Zyd,reduceCtorEq]at h
  rename_i vs hvs
  subst h
  have hU:Unw C.P dds nO s (ZjT (nrm ρd) [] res Φ):=Zhl hih hu hdd hN hS (md:=nO) trivial fun η1 md1 s1 k1 k2 k3 k4=>by
   cases md1 with
   |some d=>exact k4.elim
   |none =>
    obtain⟨p,ds,g1,g2,g3⟩:=Znw k3 k2.o (hρ.nrm.mono k1) hvs
    exact⟨p,ds,_,s1,g1,g2,Zyj _,Zyi _,hΦ _ _ ⟨η1,_,k1,k2,k3,Zul g3,rfl⟩⟩
  exact⟨fun _=>Zpg (hI.finU hU),fun _ dk=>Zpg (hI.retU hU)⟩
 ·rename_i l hfk
  rw[hfk]at hk
  obtain⟨b,Φ,hb,hI,hΦ⟩:=hk
  split at h<;>simp only[Zyd,reduceCtorEq]at h
  rename_i σ1 hl
  subst h
  obtain⟨r,lst,e1,_,e2,e3⟩:=Zi5 hS hb hl
  obtain rfl:=e2 rfl
  refine⟨fun hf=>?_,fun hf dk=>?_⟩
  ·subst hf
   exact hI.fin e1 (Zyi _) (hΦ _ _ ⟨η,_,Nm.Sub.refl _,hN,e3 .ready trivial,.bool true,rfl⟩)
  ·subst hf
   exact hI.ret e1 (Zyi _) (hΦ _ _ ⟨η,_,Nm.Sub.refl _,hN,e3 (.done .ret) rfl,.bool false,rfl⟩)
 ·rename_i pd rec hfk
  rw[hfk]at hk
  obtain⟨m,Ψ,hI,hm,hΨ⟩:=hk
  split at h<;>simp only[Zyd,reduceCtorEq]at h
  subst h
  have hpm:pd.isNone=m.isNone:=by cases pd<;>cases m<;>first|rfl|exact hm.elim
  have hq:Ψ (m.isNone ||rec) s:=hΨ s _ rfl (by simp only[hpm]) ⟨η,_,Nm.Sub.refl _,hN,hS,by rw[hpm];exact .bool _,rfl⟩
  exact⟨fun _=>hI.fin (Zyi _) hq,fun _ dk=>hI.ret (Zyi _) hq⟩
theorem Zhb(hih:ZaU C ih){fm:Fm}{v:V}{d:D}{o:Out}(h:Zlk C ih fm ρ v σ nx=sO o){F:Fr C.P}(hF:FmR C η fm o F)(hρ:Y5 η [] ρ ρd)(hN:WT η nx)(hS:Sim C η σ s)(hv:VR η v d):K1 F ρd [] d s:=by
 obtain⟨hf1,_,_,hk⟩:=hF
 unfold Zlk at h
 split at h
 ·rename_i res hfk
  rw[hfk]at hk
  obtain⟨Φ,dds,hI,hdd,hΦ⟩:=hk
  refine Zsk (hI.panU ?_)
  split at h<;>(try(simp at h;done))
  ·rename_i σ1 nx1 hu
   split at h<;>simp only[Zyd,reduceCtorEq]at h
   rename_i vs hvs
   subst h
   exact Zhl hih hu hdd hN hS (md:=sO d) hv fun η1 md1 s1 k1 k2 k3 k4=>by
    cases md1 with
    |some d=>exact k4.elim
    |none =>
     obtain⟨p,ds,g1,g2,g3⟩:=Znw k3 k2.o (hρ.nrm.mono k1) hvs
     exact⟨p,ds,_,s1,g1,g2,Zyj _,Zyi _,hΦ _ _ ⟨η1,_,k1,k2,k3,Zul g3,rfl⟩⟩
  ·rename_i v1 σ1 nx1 hu
   simp only[Zyd]at h
   subst h
   exact Zhl hih hu hdd hN hS (md:=sO d) hv fun η1 md1 s1 k1 k2 k3 k4=>by
    cases md1 with
    |none=>exact k4.elim
    |some d1=>exact⟨d1,s1,Zyj _,Zyi _,hΦ _ _ ⟨η1,d1,k1,k2,k3,k4,rfl⟩⟩
 ·rename_i l hfk
  rw[hfk]at hk
  obtain⟨b,Φ,hb,hI,hΦ⟩:=hk
  split at h<;>simp only[Zyd,reduceCtorEq]at h
  rename_i fn0 hfn0
  subst h
  refine hI.pan (Zyi _) (hΦ _ _ ⟨η,d,Nm.Sub.refl _,hN,hS,hv,rfl⟩) fun an fn N c cs hFe=>?_
  subst hFe
  have:fn=fm.f:=hf1
  rw[this];exact⟨fn0,hfn0⟩
 ·simp at h
end
section
variable {P:Program}
theorem ZqZ{F:Fr P}{d:D}{Ψ:Bool→St→Prop}(hF:ZbN F (sO d) Ψ false){dk:List Zu}{o:DOp}(hg:o.guard=nO)(hk:o.k=.recover)(h:∀F':Fr P,ZbN F' (sO d) Ψ true→F'.b=F.b→F'.N=F.N→F'.an=F.an→DO F' kp dk os (ZX ρ o.dst (.d d)) L s):DO F kp dk (o::os) ρ L s:=by
 obtain⟨an,f,df,cfr,cs,v,hf,hres,hmode,hrep,rfl⟩:=hF
 refine Qu fun oo g ν w tmps ops j r k hoo hck hcg hdst hd hN m hr hkk=>?_
 have hw:=WC m hcg (c:=true) (by rw[hg];rfl)
 have hnd:=WS hck (by rw[hk];rfl)
 rw[hk]at hck
 obtain⟨args,ats,hop⟩:=ZhA hck
 have hrun:(execOp (Act.mk tmps []).eval oo).run P w=.ok .recover w:=by
  simp[execOp,hop,resolve,invoke,builtin]
 have hstep:_root_.Go.step P (lone ((Qc P an f df.n cfr cs Ψ (sO d) v false).b.atR ⟨tmps,[]⟩ (.inRegion ops (j::r)::k)) (Qc P an f df.n cfr cs Ψ (sO d) v false).cs w) =
   .next (lone ((Qc P an f df.n cfr cs Ψ (sO d) v true).b.atR ((Act.mk tmps []).put oo.dst v) (.inRegion ops r::k)) (Qc P an f df.n cfr cs Ψ (sO d) v true).cs w):=by
  refine step_lone_go ?_
  rw[stepGR_op hoo hw,Oper.semAt_eq _ _ _ hnd]
  have hfin:((Qc P an f df.n cfr cs Ψ (sO d) v false).b.atR ⟨tmps,[]⟩ (.inRegion ops (j::r)::k)).finish v=(Qc P an f df.n cfr cs Ψ (sO d) v true).b.atR ((Act.mk tmps []).put oo.dst v) (.inRegion ops r::k):=by
   rw[Frame.finish_atR,hoo];rfl
  rw[←hfin]
  simp[stepG.apply,hrun,Frame.atR,Qc,tryRecover,ZaD]
 refine(Zfg P cfr cs Ψ).back _ _ _ _ (.one hstep) ?_
 obtain⟨tmps',e1,e2,m'⟩:=ZfL m hN hd (v:=v) (e:=.d d) (hrep d rfl g w) []
 rw[hdst,e1]
 exact h _ ⟨an,f,df,cfr,cs,v,hf,hres,hmode,hrep,rfl⟩ rfl rfl rfl ops r k hr hkk g ν w tmps' e2 m'
end
theorem WR.val{η:Nm}{v:V}{d:D}(h:VR η v d):WR η L (.v v) (.d d):=⟨d,h,.inl rfl⟩
theorem WR.skp{η:Nm}:WR η L .skip (.when false (.d (.bool false))):=rfl
def Zo8(η:Nm)(σ:S)(s:St):Prop:=∀(k b:Nat) (vs:List V),Zbt (σ.get k)=sO vs→η k=sO (.tip b)→∃ds ex,s b=sO (.cells (ds++ex))∧VRs η vs ds
def Zav(C:Px):Prop:=∀f g σ vs v,C.lib f=sO g→g σ vs=sO v→∀(η:Nm) ds s,VRs η vs ds→Zo8 η σ s→∃d,VR η v d∧ZN C.P f ds s fun r s'=>r=.ret d∧s'=s
section
variable {C:Px} {ih:Ih} {η:Nm} {σ:S} {s:St} {ρ:T W} {ρd:Env} {nx:Nat}
theorem ZkU.mono{η':Nm}(hs:η.Sub η'){a:Option V}{b:Option D}(h:ZkU η a b):ZkU η' a b:=by
 cases a<;>cases b<;>first|trivial|exact h.elim|exact VR.mono hs h
theorem FmR.mono{η':Nm}(hs:η.Sub η'){fm:Fm}{o:Out}{F:Fr C.P}(h:FmR C η fm o F):FmR C η' fm o F:=by
 obtain⟨h1,h2,h3,h4⟩:=h
 refine⟨h1,h2,h3,?_⟩
 split at h4
 ·obtain⟨Φ,dds,a,b,c⟩:=h4
  exact⟨Φ,dds,a,b.mono hs,fun r s hp=>c r s (hp.mono hs)⟩
 ·obtain⟨b,Φ,a,c,d⟩:=h4
  exact⟨b,Φ,hs _ _ a,c,fun r s hp=>d r s (hp.mono hs)⟩
 ·obtain⟨m,Ψ,a,c,d⟩:=h4
  exact⟨m,Ψ,a,ZkU.mono hs c,fun s b e1 e2 hp=>d s b e1 e2 (hp.mono hs)⟩
theorem Zpv(hih:ZaU C ih){f:FuncId}{args:List V}{o:Out}(h:(ZoP C f).run ih args σ nx=sO o)(ha:VRs η args ds)(hN:WT η nx)(hS:Sim C η σ s):ZN C.P f ds s (Zgq C η o):=by
 unfold ZoP at h
 split at h
 ·rename_i df hdf
  exact ZqY (an:=C.an f) hdf fun F hI e1 e2 e3=>hih.at _ _ _ _ _ _ h F η _ s ⟨e1,e2,e3,_,[],hI,.nil,fun _ _ h=>h⟩ (Zt8 ha) hN hS
 ·simp at h
theorem Zk6(hlib:Zav C)(hih:ZaU C ih){f:FuncId}{args:List V}{o:Out}(h:(ZjX C f).run ih args σ nx=sO o)(ha:VRs η args ds)(hN:WT η nx)(hS:Sim C η σ s):ZN C.P f ds s (Zgq C η o):=by
 unfold ZjX at h
 split at h
 ·rename_i g hg
  simp only at h
  split at h
  ·simp only[Zyd]at h
   rename_i v hv
   subst h
   obtain⟨d,h1,h2⟩:=hlib f g σ args v hg hv η ds s ha fun _ _ _ h hb=>hS.cells h hb
   exact h2.mono fun r s' ⟨e1,e2⟩=>by subst e1;subst e2;exact⟨η,d,Nm.Sub.refl _,hN,hS,h1,rfl⟩
  ·exact Zpv hih h ha hN hS
 ·exact Zpv hih h ha hN hS
theorem Zk7(hlib:Zav C)(hih:ZaU C ih){fv:V}{args:List V}{fd:D}{o:Out}(h:ZlQ C ih fv args σ nx=sO o)(hf:VR η fv fd)(ha:VRs η args ds)(hN:WT η nx)(hS:Sim C η σ s):Jc C.P fd ds s (Zgq C η o):=by
 cases hf<;>simp only[ZlQ,reduceCtorEq]at h
 case fn f a c da dc h1 h2 =>
  refine ZN.V (Zk6 hlib hih h ?_ hN hS)
  rw[List.append_assoc]
  exact h1.append (ha.append h2)
 case yield l b hb =>
  split at h<;>(try(simp at h;done))
  rename_i f n ps a b0 ρ0 hl
  obtain⟨hlen,hh⟩:=ZR h;replace h:=hh;clear hh
  rw[Yf]at hlen
  obtain⟨b',d,e0,e1,e2⟩:=hS.get hl (fun n=>by simp)
  rw[hb]at e0
  simp only[Zyd,Tok.tip.injEq]at e0
  subst e0
  cases e2 with
  |loop _ _ _ _ _ _ _ _ r lst hf hn hps hlt hca hcb hρ hst =>
   subst hf;subst hn;subst hps
   have hr:lst=.ready:=by cases lst<;>first|rfl|exact hst.elim
   subst hr
   refine Zoz (an:=C.an r.fn) e1 (by rw[←ha.len];exact hlen) hca hcb rfl hlt fun F hI e2 e3 e4=>?_
   exact hih.at _ _ _ _ _ _ h F η _ s ⟨e2,e3,e4,b,_,hb,hI,fun _ _ h=>h⟩ (Zon hρ ha) hN hS
def ZtG(C:Px)(ih:Ih)(rest:Bx Rg)(dk:List Zu)(os:List DOp):Prop :=
 ∀fm ρ σ nx o,rest.run ih dk fm ρ σ nx=sO o→∀(F:Fr C.P) η ρd s,FmR C η fm o F→Y5 η [] ρ ρd→WT η nx→Sim C η σ s→DO F nO dk os ρd [] s
theorem Zt6(hlib:Zav C)(hih:ZaU C ih){rest:Bx Rg}{dk:List Zu}(hrest:ZtG C ih rest dk os){fm:Fm}{f:FuncId}{g:Option (Nat×Bool)}{k:K}(hfk:Zi7 k=true){o:Out}(h:(goF C f rest dst g k).run ih dk fm ρ σ nx=sO o){F:Fr C.P}(hg:Zy ρd g=sO true)(hF:FmR C η fm o F)(hρ:Y5 η [] ρ ρd)(hN:WT η nx)(hS:Sim C η σ s):DO F nO dk (⟨dst,g,k⟩::os) ρd [] s:=by
 have gen:∀{k:K},Zi7 k=true→(gk k ||g.isNone)=true→(match (opF (C.mu f dst) dst.isSome k).run ρ σ nx with
   |some ⟨v,σ',nx'⟩=>rest.run ih dk fm ((ZdD dst).run ρ (.v v)) σ' nx'
   |none=>nO)=sO o→DO F nO dk (⟨dst,g,k⟩::os) ρd [] s:=by
  intro k hfk hgk h
  split at h<;>(try(simp at h;done))
  rename_i v σ' nx' hop
  exact Zx2 hS hN hρ hg hgk hfk hop fun η' e s2 k1 k2 k3 k4=>hrest _ _ _ _ _ h F η' _ s2 (hF.mono k1) (Zbb (hρ.mono k1) k4 dst) k2 k3
 cases k
 case call fx xs =>
  simp only[goF]at h
  split at h<;>(try(simp at h;done))
  rename_i fv hfv
  split at h<;>(try(simp at h;done))
  rename_i vs hvs
  split at h<;>(try(simp at h;done))
  rename_i pan v σ' nx' hcall
  obtain⟨p,fd,a1,a2,a3⟩:=QN hρ hfv
  obtain⟨q,ds,b1,b2,b3⟩:=Zb0 hρ hvs
  have hV:=Zk7 hlib hih hcall a3 b3 hN hS
  refine Jw hg rfl a1 b1 (Zb5 ds) b2 a2 hV (fun d s' hp=>?_) (fun d s' hp=>?_)
  ·obtain⟨η1,d1,k1,k2,k3,k4,k5⟩:=hp
   cases pan with
   |true=>simp at k5
   |false =>
    simp only[Zyt,if_false,Res.ret.injEq]at k5
    subst k5
    exact hrest _ _ _ _ _ h F η1 _ s' (hF.mono k1) (Zbb (hρ.mono k1) (WR.val k4) dst) k2 k3
  ·obtain⟨η1,d1,k1,k2,k3,k4,k5⟩:=hp
   cases pan with
   |false=>simp at k5
   |true =>
    simp only[if_true,Res.panic.injEq]at k5
    subst k5
    exact Zhb hih h (hF.mono k1) (hρ.mono k1) k2 k3 k4
 case panic x =>
  simp only[goF]at h
  split at h<;>(try(simp at h;done))
  rename_i t v hv
  obtain⟨p,d,a1,a2,a3⟩:=QN hρ hv
  cases a3 with
  |iface _ _ d hd=>exact Zpe hg rfl a1 a2 (Zhb hih h hF hρ hN hS (.iface _ _ _ hd))
 case defer fx xs =>
  simp only[goF]at h
  split at h
  ·simp only at h
   split at h<;>(try(simp at h;done))
   rename_i j first caps vs hfv hvs
   split at h<;>(try(simp at h;done))
   rename_i res hk
   obtain⟨hr,hh⟩:=ZR h;replace h:=hh;clear hh
   simp only[Zyk]at hr
   obtain⟨p,fd,a1,a2,a3⟩:=QN hρ hfv
   obtain⟨q,ds,b1,b2,b3⟩:=Zb0 hρ hvs
   cases a3 with
   |fn _ _ _ da dc h1 h2 =>
    obtain⟨f1,f2,f3,f4⟩:=hF
    rw[hk]at f4
    obtain⟨Φ,dds,hI,hd,hΦ⟩:=f4
    have r1:=Zh3 (h1.append b3) hr.1
    have r2:=Zh3 h2 hr.2
    refine Zpc hI.roundOf rfl rfl rfl a1 b1 (Zb5 ds) b2 a2 r1 r2 (hrest _ _ _ _ _ h _ η _ s ⟨f1,f2,f3,?_⟩ hρ hN hS)
    simp only[hk]
    exact⟨Φ,_,hI.defer j (da++ds) dc,.fn _ _ _ _ _ _ _ (h1.append b3) h2 r1 r2 hd,hΦ⟩
  ·simp at h
 case recover =>
  simp only[goF]at h
  split at h
  ·simp only at h
   obtain⟨f1,f2,f3,f4⟩:=hF
   split at h
   ·rename_i v hk
    rw[hk]at f4
    obtain⟨m,Ψ,hI,hm,hΨ⟩:=f4
    cases m with
    |none=>exact hm.elim
    |some d =>
     refine ZqZ hI rfl rfl fun F' hI' e1 e2 e3=>hrest _ _ _ _ _ h F' η _ s ⟨by rw[e1];exact f1,by rw[e2];exact f2,by rw[e3];exact f3,?_⟩ (Zbb hρ (WR.val hm) dst) hN hS
     exact⟨sO d,Ψ,hI',hm,hΨ⟩
   ·rename_i rec hk
    have f4':=f4
    rw[hk]at f4
    obtain⟨m,Ψ,hI,hm,hΨ⟩:=f4
    cases m with
    |some d=>exact hm.elim
    |none=>exact Zkx hI rfl rfl (hrest _ _ _ _ _ h F η _ s ⟨f1,f2,f3,f4'⟩ (Zbb hρ (WR.val .niliface) dst) hN hS)
   ·simp at h
  ·simp at h
 all_goals
  simp only[goF]at h
  split at h
  ·rename_i hgk
   exact gen hfk hgk h
  ·simp at h
theorem Zr3(hlib:Zav C)(hih:ZaU C ih){dk:List Zu}{f:FuncId}:∀{os:List DOp},(os.all fun o=>Zi7 o.k)=true→ZtG C ih (Znu C f os) dk os
 | [],_=>fun fm ρ σ nx o h F η ρd s hF hρ hN hS=>ZiD (hih.at _ _ _ _ _ _ h F η ρd s hF hρ hN hS)
 |⟨dst,g,k⟩::os,hfk=>fun fm ρ σ nx o h F η ρd s hF hρ hN hS=>by
  simp only[List.all_cons,Zyk]at hfk
  have IH:=Zr3 hlib hih (dk:=dk) (f:=f) hfk.2
  simp only[Znu]at h
  split at h
  ·exact Zt6 hlib hih IH hfk.1 h rfl hF hρ hN hS
  ·simp only at h
   split at h<;>(try(simp at h;done))
   rename_i b hb
   have hg:=Zod hρ hb
   split at h
   ·exact Zt6 hlib hih IH hfk.1 h hg hF hρ hN hS
   ·exact ZaB (e:=.d (.bool false)) hg (IH _ _ _ _ _ h F η _ s hF (Zbb hρ WR.skp dst) hN hS)
end
section
variable {P:Program}
theorem Zph{F:Fr P}(hr:F.b.roundOf=nO){o:Opd}{ps:List Nat}{da db:DC}{dk:List Zu}{p:Prop}{fv:D}(hf:Z9 ρ true o=sO (p,.d fv))(hp:p)(ks:List Nat)(hks:(WV ρ ks).map (·.1) |>.Nodup)(h:∀q l r,s q=nO→s l=nO→q≠l→r.ρ=JC ks ρ→r.params=ps→r.fn=F.b.fn→cc P F.an F.N r.assign=sO da→cc P F.an F.N r.body=sO db→r.N=F.N→(∀t∈ps,t<F.N) →
   ∃Ψ,Jc P fv [.fn (.yield l) [] []] ((s.upd q .dfr).upd l (.loop r .ready)) Ψ∧(∀d s',Ψ (.ret d) s'→∃r',ZiG (F.mark q) l r' dk ρ L s')∧(∀d s',Ψ (.panic d) s'→K1 (F.mark q) ρ L d s')):
  ZS F (.code (.rangeF o ps da db)::dk) ρ L s:=by
 intro k hk
 cases hk with
 | @code _ _ kt _ hc ht =>
 obtain⟨f',ps',a',b',rfl,hf',hps,ha,hb,hlt⟩:=ZnY hc
 intro g ν w tmps hN m
 have hfr:Rep g w _ fv:=Wx m hf' rfl hf hp F.ds
 have hg1:=Zbo (g:=g) (w:=w) (.deferred (sO [])) m.st.fresh
 have he1:=hg1.ext m.st.fresh
 obtain⟨hq,m1⟩:=m.newObj hg1 (o:=.dfr) ⟨(m.st.fresh _ (Zys _)).1,JJ w _⟩
 let w1:=w.alloc (.deferred (sO []))
 let lp:Go.Loop:={ state:=.ready,pending:=nO,fn:=F.b.fn,tmps:=tmps,params:=ps',assign:=a',body:=b',defers:=w.heap.size }
 let r:Qw:={ fn:=F.b.fn,params:=ps,assign:=a',body:=b',defers:=w.heap.size,ρ:=JC ks ρ,N:=F.N }
 have hg2:=Zbo (g:=g) (w:=w1) (.loop lp) m1.st.fresh
 have he2:=hg2.ext m1.st.fresh
 obtain⟨hl,m2⟩:=m1.newObj hg2 (o:=.loop r .ready) ⟨(m1.st.fresh _ (Zys _)).1,lp,JJ w1 _,rfl,hps,rfl,rfl,rfl,hN,fun t e het=>by
  obtain⟨h1,h2⟩:=Ze3 hks het
  exact ZmB (((m1.env t e (Zey ρ ks t e h1))).mono he2) h2,rfl,rfl⟩
 have hqsz:w1.heap.size=w.heap.size+1:=by simp[w1]
 have hl':s w1.heap.size=nO:=by
  have hne:¬w1.heap.size=w.heap.size:=by omega
  have h0:(s.upd w.heap.size .dfr) w1.heap.size=nO:=hl
  simp only[St.upd,hne,if_false]at h0
  exact h0
 obtain⟨Ψ,hV,hret,hpan⟩:=h w.heap.size w1.heap.size r hq hl' (by omega) rfl rfl rfl ha hb rfl hlt
 have hrep2:Rep g (w1.alloc (.loop lp)) _ fv:=(hfr.mono he1).mono he2
 obtain⟨d,nx,fr,hd1,hd2,hd3,hC⟩:=hV (Zf9 g ν L) (w1.alloc (.loop lp)) _ [.func (.yield w1.heap.size) #[] #[]] m2.callSt (QD hrep2 rfl) (.cons (.fn (.yield w1.heap.size) [] [] [] [] rfl rfl (by simp) (by simp)) .nil)
 have henter:(Instr.enterLoop F.b.fn tmps ps' a' b' F.b.roundOf).run P w=.ok (w1.heap.size,[{ target:=.collected w.heap.size,args:=#[] }]) (w1.alloc (.loop lp)):=by
  rw[hr];simp[Instr.enterLoop,w1,lp]
 have hstep:=Zhj (P:=P) (b:=F.b) (a:=⟨tmps,F.ds⟩) (k:=kt) (cs:=F.cs) henter hd1 hd2 hd3
 obtain⟨e,w',⟨g',s',res,x1,x2,x3,x4⟩,hback⟩:=hC (F.b.atR { tmps:=tmps,defers:=[{ target:=.collected w.heap.size,args:=#[] }]++F.ds } (.inRangeFunc w1.heap.size::kt)) F.cs
 obtain⟨hext,hm⟩:=m2.afterCall x1 x2
 have hext':=(he1.trans he2).trans hext
 cases e with
 |returned v =>
  cases res with
  |panic d=>exact x3.elim
  |ret d =>
   refine F.T.back _ _ _ _ (.head hstep hback) ?_
   rw[finish_atR_inRangeFunc]
   exact F.T.ext _ _ _ _ _ hext' ((hret d s' x4).elim fun _ hrn=>ZmA (F:=F.mark w.heap.size) ht hN hm hrn)
 |panicked ch =>
  cases res with
  |ret d=>exact x3.elim
  |panic d =>
   obtain⟨v,rfl,hv⟩:=x3
   refine F.T.back _ _ _ _ (.head hstep hback) ?_
   rw[Frame.raise_atR]
   exact F.T.ext _ _ _ _ _ hext' (hpan d s' x4 _ _ _ v _ _ hN hm (QD hv rfl))
 |outgrown=>exact hback.elim
end
theorem ZhP{ρ:Env}:∀{ks:List Nat} {t:Nat},t∈(WV ρ ks).map (·.1)→t∈ks
 | [],t,h=>by simp[WV]at h
 |k::ks,t,h=>by
  simp only[WV]at h
  split at h
  ·simp only[Zyp,ZyP]at h
   rcases h with rfl|h
   ·simp
   ·exact List.mem_cons_of_mem _ (ZhP h)
  ·exact List.mem_cons_of_mem _ (ZhP h)
theorem Zgx{ρ:Env}:∀{ks:List Nat},ks.Nodup→((WV ρ ks).map (·.1)).Nodup
 | [],_=>by simp[WV]
 |k::ks,h=>by
  simp only[List.nodup_cons]at h
  simp only[WV]
  split
  ·simp only[Zyp,List.nodup_cons]
   exact⟨fun hk=>h.1 (ZhP hk),Zgx h.2⟩
  ·exact Zgx h.2
section
variable {C:Px} {ih:Ih}
def Zo9(C:Px)(ih:Ih)(f:FuncId)(c:DC):Prop :=
 ∀fm k ρ σ nx o,(Zbm C f c).run ih fm k ρ σ nx=sO o→fm.f=f→∀(F:Fr C.P) η ρd s,FmR C η fm o F→Y5 η [] ρ ρd→WT η nx→Sim C η σ s→ZS F (.code c::k) ρd [] s
def ZlG(C:Px)(ih:Ih):Prop:=∀f order ops kp,Zo9 C ih f (.regD order ops kp)
theorem Zuw(hlib:Zav C)(hih:ZaU C ih){f:FuncId}{g:Opd}{ps:List Nat}{a b:DC}:Zo9 C ih f (.rangeF g ps a b):=by
 intro fm k ρ σ nx o h hf F η ρd s hF hρ hN hS
 simp only[Zbm]at h
 split at h<;>(try(simp at h;done))
 rename_i res hk
 split at h<;>(try(simp at h;done))
 rename_i fv hfv
 split at h<;>(try(simp at h;done))
 rename_i pan v σ' nx' hcall
 obtain⟨p,fd,a1,a2,a3⟩:=QN hρ hfv
 have hF0:=hF
 obtain⟨f1,f2,f3,f4⟩:=hF
 rw[hk]at f4
 obtain⟨Φ,dds,hI,hdd,hΦ⟩:=f4
 refine Zph hI.roundOf a1 a2 Zk0 (Zgx List.nodup_range) fun q l r hq hl hql hr hps hfn hca hcb hrN hlt=>?_
 have f0:=hN.free nx (Zys _)
 have n1:η.Sub (η.put nx (.tip q)):=Nm.put_sub f0 _
 have hN1:=hN.put (.tip q)
 have S1:Sim C (η.put nx (.tip q)) (σ.set (sO .dfr) nx) (s.upd q .dfr):=hS.new f0 hq .dfr
 have f0':=hN1.free (nx+1) (Zys _)
 have n2:(η.put nx (.tip q)).Sub ((η.put nx (.tip q)).put (nx+1) (.tip l)):=Nm.put_sub f0' _
 have hN2:=hN1.put (.tip l)
 have hl':(s.upd q .dfr) l=nO:=by rw[Zyn s _ (Ne.symm hql)];exact hl
 have S2:=S1.new f0' hl' (o:=.loop fm.f fm.n ps a b ρ nO false) (d:=.loop r .ready)
  (.loop _ _ _ _ _ _ _ _ r .ready (by rw[hfn,f1]) (by rw[hrN,f2]) hps (by rw[←f2];exact hlt) (by rw[←f3,←f2];exact hca) (by rw[←f3,←f2];exact hcb) (by rw[hr];exact(hρ.round.mono n1).mono n2) trivial)
 have hV:=Zk7 hlib hih hcall ((a3.mono n1).mono n2) (.one (.yield _ _ (Nm.put_same _ _ _))) hN2 S2
 have fm':∀{η':Nm},((η.put nx (.tip q)).put (nx+1) (.tip l)).Sub η'→FmR C η' { fm with ds:=.mark nx::fm.ds } o (F.mark q):=fun{η'} hs=>by
  refine⟨f1,f2,f3,?_⟩
  simp only[hk]
  exact⟨Φ,_,hI.mark q,.mark _ _ _ _ (hs _ _ (n2 _ _ (Nm.put_same _ _ _))) (hdd.mono (n1.trans (n2.trans hs))),fun r s hp=>hΦ r s (hp.mono (n1.trans (n2.trans hs)))⟩
 refine⟨_,hV,fun d s' hp=>?_,fun d s' hp=>?_⟩
 ·obtain⟨η1,d1,k1,k2,k3,k4,k5⟩:=hp
  cases pan with
  |true=>simp at k5
  |false =>
   simp only at h
   have hlη:η1 (nx+1)=sO (.tip l):=k1 _ _ (Nm.put_same _ _ _)
   have hρ1:Y5 η1 [] ρ ρd:=hρ.mono (n1.trans (n2.trans k1))
   split at h<;>(try(simp at h;done))
   ·rename_i hlo
    obtain⟨b',dd,e0,e1,e2⟩:=k3.get hlo (fun n=>by simp)
    rw[hlη]at e0
    simp only[Zyd,Tok.tip.injEq]at e0
    subst e0
    cases e2 with
    |loop _ _ _ _ _ _ _ _ r' lst hf' hn' hps' hlt' ha' hb' hρ' hst =>
     have hr':lst=.ready:=by cases lst<;>first|rfl|exact hst.elim
     subst hr'
     exact⟨r',.inl ⟨e1,hih.at _ _ _ _ _ _ h (F.mark q) η1 ρd _ (fm' k1) hρ1 k2 (k3.take hlo hlη)⟩⟩
   ·rename_i f' n' _ _ _ _ j hlo
    obtain⟨hc,hh⟩:=ZR h;replace h:=hh;clear hh
    simp only[Zyk,Yf]at hc
    obtain⟨rfl,rfl⟩:=hc
    obtain⟨b',dd,e0,e1,e2⟩:=k3.get hlo (fun n=>by simp)
    rw[hlη]at e0
    simp only[Zyd,Tok.tip.injEq]at e0
    subst e0
    cases e2 with
    |loop _ _ _ _ _ _ _ _ r' lst hf' hn' hps' hlt' ha' hb' hρ' hst =>
     cases lst with
     |done j'=>exact⟨r',.inr ⟨j',j,e1,by show cc C.P F.an F.N j'=_;rw[f3,f2];exact hst,hih.at _ _ _ _ _ _ h (F.mark q) η1 ρd _ (fm' k1) hρ1 k2 (k3.take hlo hlη)⟩⟩
     |_=>exact hst.elim
 ·obtain⟨η1,d1,k1,k2,k3,k4,k5⟩:=hp
  cases pan with
  |false=>simp at k5
  |true =>
   simp only[if_true,Res.panic.injEq]at k5
   subst k5
   exact Zhb hih h (fm' k1) (hρ.mono (n1.trans (n2.trans k1))) k2 k3 k4
theorem Zb3(hlib:Zav C)(hih:ZaU C ih)(hD:ZlG C ih){f:FuncId}:∀c,Zo9 C ih f c
 |.skip=>fun fm k ρ σ nx o h hf F η ρd s hF hρ hN hS=>Yw (hih.at _ _ _ _ _ _ h F η ρd s hF hρ hN hS)
 |.label _=>fun fm k ρ σ nx o h hf F η ρd s hF hρ hN hS=>Jx (hih.at _ _ _ _ _ _ h F η ρd s hF hρ hN hS)
 |.seq a b=>fun fm k ρ σ nx o h hf F η ρd s hF hρ hN hS=>Zi (Zb3 hlib hih hD a _ _ _ _ _ _ h hf F η ρd s hF hρ hN hS)
 |.block id a=>fun fm k ρ σ nx o h hf F η ρd s hF hρ hN hS=>Zh (Zb3 hlib hih hD a _ _ _ _ _ _ h hf F η ρd s hF hρ hN hS)
 |.loop a=>fun fm k ρ σ nx o h hf F η ρd s hF hρ hN hS=>ZaG (Zb3 hlib hih hD a _ _ _ _ _ _ h hf F η ρd s hF hρ hN hS)
 |.scope a=>fun fm k ρ σ nx o h hf F η ρd s hF hρ hN hS=>Jy (Zb3 hlib hih hD a _ _ _ _ _ _ h hf F η ρd s hF hρ hN hS)
 |.cond c a b=>fun fm k ρ σ nx o h hf F η ρd s hF hρ hN hS=>by
  simp only[Zbm]at h
  split at h<;>(try(simp at h;done))
  rename_i v hv
  obtain⟨p,d,a1,a2,a3⟩:=QN hρ hv
  cases a3<;>simp only[reduceCtorEq]at h
  rename_i t
  cases t with
  |true=>exact YC a1 a2 (fun _=>Zb3 hlib hih hD a _ _ _ _ _ _ h hf F η ρd s hF hρ hN hS) (fun h=>by simp at h)
  |false=>exact YC a1 a2 (fun h=>by simp at h) (fun _=>Zb3 hlib hih hD b _ _ _ _ _ _ h hf F η ρd s hF hρ hN hS)
 |.goto l=>fun fm k ρ σ nx o h hf F η ρd s hF hρ hN hS=>by
  simp only[Zbm]at h
  split at h<;>(try(simp at h;done))
  rename_i k' hk'
  exact ZtE hk' (hih.at _ _ _ _ _ _ h F η ρd s hF hρ hN hS)
 |.ret=>fun fm k ρ σ nx o h hf F η ρd s hF hρ hN hS=>(Zr4 hih h hF hρ hN hS).2 rfl k
 |.exit id=>fun fm k ρ σ nx o h hf F η ρd s hF hρ hN hS=>by
  simp only[Zbm]at h
  split at h
  ·rename_i k' hk'
   exact Wr hk' (hih.at _ _ _ _ _ _ h F η ρd s hF hρ hN hS)
  ·rename_i hx
   split at h<;>(try(simp at h;done))
   rename_i l hk
   split at h<;>simp only[Zyd,reduceCtorEq]at h
   rename_i σ1 hl
   subst h
   obtain⟨f1,f2,f3,f4⟩:=hF
   rw[hk]at f4
   obtain⟨b,Φ,hb,hI,hΦ⟩:=f4
   obtain⟨r,lst,e1,_,e2,e3⟩:=Zi5 hS hb hl
   obtain rfl:=e2 rfl
   exact hI.exit hx e1 (Zyi _) (hΦ _ _ ⟨η,_,Nm.Sub.refl _,hN,e3 (.done (.exit id)) rfl,.bool false,rfl⟩)
 |.reg ops kp=>fun fm k ρ σ nx o h hf F η ρd s hF hρ hN hS=>by
  simp only[Zbm]at h
  split at h<;>(try(simp at h;done))
  split at h<;>(try(simp at h;done))
  rename_i hall
  exact Ys (Zr3 hlib hih hall _ _ _ _ _ h F η ρd s hF hρ hN hS)
 |.regD order ops kp=>hD f order ops kp
 |.rangeF g ps a b=>Zuw hlib hih
theorem ZwX(hlib:Zav C)(hih:ZaU C ih)(hD:ZlG C ih):ZuW C (step C ih):=by
 intro fm dk ρ σ nx o h F η ρd s hF hρ hN hS
 unfold step at h
 split at h
 ·exact(Zr4 hih h hF hρ hN hS).1 rfl
 ·split at h
  ·exact ZW (hih.at _ _ _ _ _ _ h F η ρd s hF hρ hN hS)
  ·exact Qf (hih.at _ _ _ _ _ _ h F η ρd s hF hρ hN hS)
  ·exact Zf (Zb3 hlib hih hD _ _ _ _ _ _ _ h rfl F η ρd s hF hρ hN hS)
  ·split at h<;>(try(simp at h;done))
   rename_i l hk
   split at h<;>(try(simp at h;done))
   rename_i σ1 hl
   have hF0:=hF
   obtain⟨f1,f2,f3,f4⟩:=hF
   rw[hk]at f4
   obtain⟨b,Φ,hb,hI,hΦ⟩:=f4
   obtain⟨r,lst,e1,e2,_,e3⟩:=Zi5 hS hb hl
   obtain rfl:=e2 rfl
   exact hI.begin e1 (hih.at _ _ _ _ _ _ h F η ρd _ hF0 hρ hN (e3 .busy trivial))
  ·exact Zb3 hlib hih hD _ _ _ _ _ _ _ h rfl F η ρd s hF hρ hN hS
theorem ZmE{C:Cx}(hlib:∀t,Zav ⟨C,t⟩)(hD:∀(C':Px) ih,C'.toCx=C→ZaU C' ih→ZlG C' ih):∀n t,ZaU ⟨C,t⟩ (run C n)
 |0,_=>fun _ fm dk ρ σ nx o h=>by simp[run]at h
 |n+1,_=>fun t=>ZwX (hlib t) (ZmE hlib hD n t) (hD ⟨C,t⟩ _ rfl (ZmE hlib hD n t))
end
theorem Zi3{s s':St}{L L':Loc}:∀{B:List (Nat×Rd)},(∀n b,(n,.blk b)∈B→s' b=s b)→(∀n l,(n,.loc l)∈B→Zo L' l=Zo L l)→JA s s' L L' B
 | [],_,_=>trivial
 | (n,.blk b)::B,h1,h2=>⟨h1 n b (by simp),Zi3 (fun m b hb=>h1 m b (by simp[hb])) (fun m l hl=>h2 m l (by simp[hl]))⟩
 | (n,.loc l)::B,h1,h2=>⟨h2 n l (by simp),Zi3 (fun m b hb=>h1 m b (by simp[hb])) (fun m l hl=>h2 m l (by simp[hl]))⟩
theorem ZfF{n:Nat}:∀{l:List Nat},ZbK n l=true↔n∈l
 | []=>by simp[ZbK]
 |a::r=>by
  simp only[ZbK,Zyu,beq_iff_eq,ZyP,ZfF (l:=r)]
  constructor
  ·rintro(h|h)
   ·exact .inl h.symm
   ·exact .inr h
  ·rintro(h|h)
   ·exact .inl h.symm
   ·exact .inr h
theorem Zez{fl:List Nat}{s s':St}{L L':Loc}{B:List (Nat×Rd)}(h1:∀n b,n∈fl→(n,.blk b)∈B→s' b=s b)(h2:∀n l,n∈fl→(n,.loc l)∈B→Zo L' l=Zo L l):KB fl s s' L L' B :=
 Zi3 (fun n b hb=>h1 n b (ZfF.1 (JY.1 hb).1) (JY.1 hb).2) (fun n b hb=>h2 n b (ZfF.1 (JY.1 hb).1) (JY.1 hb).2)
theorem Zd0{n:Nat}:∀{l:List Nat},ZgB n l=true↔n∈l
 | []=>by simp[ZgB]
 |a::r=>by
  simp only[ZgB,ZyP]
  split
  ·rename_i h;rw[Yf]at h;simp[h]
  ·rename_i h
   have:¬n=a:=fun e=>h (by rw[Yf,e])
   rw[Zd0];simp[this]
theorem Zpl{n m:Nat}{l:List Nat}(h:m=n∨m∈l):m∈ZuZ n l:=by
 unfold ZuZ
 split
 ·rename_i hm;rcases h with rfl|h
  ·exact Zd0.1 hm
  ·exact h
 ·rcases h with rfl|h<;>simp[*]
theorem ZfV{fl:List Nat}{n k:Nat}(hn:n∈fl):∀{l:List (Nat×Nat)},(n,k)∈l→k∈Zls fl l
 | [],h=>by simp at h
 | (t,m)::r,h=>by
  simp only[Zls]
  rcases List.mem_cons.1 h with h|h
  ·simp only[Zyh]at h
   obtain⟨rfl,rfl⟩:=h
   rw[if_pos (Zd0.2 hn)]
   exact Zpl (.inl rfl)
  ·split
   ·exact Zpl (.inr (ZfV hn h))
   ·exact ZfV hn h
theorem Zgd{fl:List Nat}{n k:Nat}(hn:n∈fl):∀{l:List (Nat×Nat)},(n,k)∈l→(n,k)∈Zgc fl l
 | [],h=>by simp at h
 | (t,m)::r,h=>by
  simp only[Zgc]
  rcases List.mem_cons.1 h with h|h
  ·simp only[Zyh]at h
   obtain⟨rfl,rfl⟩:=h
   rw[if_pos (Zd0.2 hn)]
   simp
  ·split
   ·exact List.mem_cons_of_mem _ (Zgd hn h)
   ·exact Zgd hn h
theorem Zn9{u:Nat}:∀{r:List (Nat×Nat×Nat)},ZhK u r=nO→∀x∈r,x.1≠u
 | [],_,x,h=>by simp at h
 | (t,a)::r,hn,x,h=>by
  simp only[ZhK]at hn
  split at hn
  ·simp at hn
  ·rename_i ht
   rcases List.mem_cons.1 h with rfl|h
   ·exact fun e=>ht (Yf.2 e)
   ·exact Zn9 hn x h
theorem Zlb{u:Nat}{a:Nat×Nat}:∀{r:List (Nat×Nat×Nat)},ZhK u r=sO a→(u,a)∈r
 | [],h=>by simp[ZhK]at h
 | (t,b)::r,h=>by
  simp only[ZhK]at h
  split at h
  ·rename_i ht
   rw[Yf]at ht
   simp only[Zyd]at h
   subst h;subst ht;simp
  ·exact List.mem_cons_of_mem _ (Zlb h)
theorem Zlc{l:Nat}{vs:List V}{x:Nat}:∀{r:List (Nat×List V)},Jk x (Zjy l vs r)=if x=l then (match Jk l r with
  |some _=>sO vs
  |none=>nO) else Jk x r
 | []=>by simp[Zjy,Jk]
 | (t,c)::r=>by
  simp only[Zjy]
  by_cases ht:t=l
  ·subst ht
   rw[if_pos (Yf.2 rfl)]
   simp only[Jk]
   by_cases hx:x=t
   ·subst hx;simp[Yf.2 rfl]
   ·rw[if_neg hx]
    have:¬Nat.beq t x=true:=fun h=>hx (Yf.1 h).symm
    rw[if_neg this,if_neg this]
  ·rw[if_neg (fun h=>ht (Yf.1 h))]
   simp only[Jk]
   rw[Zlc (r:=r)]
   by_cases hx:x=l
   ·subst hx
    have:¬Nat.beq t x=true:=fun h=>ht (Yf.1 h)
    rw[if_neg this,if_neg this,if_pos rfl]
   ·simp only[hx,if_false]
theorem Zos{l:Nat}{vs:List V}:∀{r:List (Nat×List V)},(Zjy l vs r).map (·.1)=r.map (·.1)
 | []=>rfl
 | (t,c)::r=>by
  simp only[Zjy]
  split
  ·simp
  ·simp[Zos (r:=r)]
theorem Zoa{l:Nat}:∀{r:List (Nat×List V)},Jk l r=nO→l∉r.map (·.1)
 | [],_=>by simp
 | (t,c)::r,h=>by
  simp only[Jk]at h
  split at h
  ·simp at h
  ·rename_i ht
   simp only[Zyp,ZyP,not_or]
   exact⟨fun e=>ht (Yf.2 e.symm),Zoa h⟩
theorem Zcf{o:O}(h:Zhf o=true):Zb6 o=false∧∀n,o≠.tok n:=by
 cases o<;>simp[Zhf]at h<;>exact⟨rfl,fun n=>by simp⟩
theorem Zg9:∀{ks:List Nat} {σ σ0:S} {l:List (Nat×O)},ZhZ ks σ=sO (σ0,l) →
  (∀k o,σ0.get k=sO o→(σ.get k=sO o∧∀o',(k,o')∉l)∨∃o',o=.ro o'∧(k,o')∈l)∧(∀k o,(k,o)∈l→σ.get k=sO o∧Zhf o=true)∧∀k∈ks,(∃o,(k,o)∈l)∨∃o,σ.get k=sO (.ro o)
 | [],σ,σ0,l,h=>by
  simp only[ZhZ,Zyd,Zyh]at h
  obtain⟨rfl,rfl⟩:=h
  exact⟨fun k o h=>.inl ⟨h,fun _ h=>by simp at h⟩,fun k o h=>by simp at h,fun k h=>by simp at h⟩
 |k::ks,σ,σ0,l,h=>by
  simp only[ZhZ]at h
  split at h<;>(try(simp at h;done))
  rename_i o ho
  split at h
  ·rename_i hro
   split at h<;>simp only[Zyd,Zyh,reduceCtorEq]at h
   rename_i σ' l' hr
   obtain⟨rfl,rfl⟩:=h
   obtain⟨h1,h2,h3⟩:=Zg9 hr
   refine⟨fun k' o' h=>?_,fun k' o' h=>?_,fun k' h=>?_⟩
   ·rcases h1 k' o' h with ⟨h4,h5⟩|⟨o2,rfl,h4⟩
    ·rcases T.get_set h4 with ⟨rfl,h6⟩|⟨h0,h6⟩
     ·simp only[Zyd]at h6
      exact .inr ⟨o,h6.symm,by simp⟩
     ·refine .inl ⟨h6,fun o2 hm=>?_⟩
      rcases List.mem_cons.1 hm with hm|hm
      ·simp only[Zyh]at hm;exact h0 hm.1
      ·exact h5 o2 hm
    ·exact .inr ⟨o2,rfl,by simp[h4]⟩
   ·rcases List.mem_cons.1 h with h|h
    ·simp only[Zyh]at h
     obtain⟨rfl,rfl⟩:=h
     exact⟨ho,hro⟩
    ·obtain⟨h4,h5⟩:=h2 k' o' h
     rcases T.get_set h4 with ⟨rfl,h6⟩|⟨_,h6⟩
     ·simp only[Zyd]at h6
      subst h6;simp[Zhf]at h5
     ·exact⟨h6,h5⟩
   ·rcases List.mem_cons.1 h with rfl|h
    ·exact .inl ⟨o,by simp⟩
    ·rcases h3 k' h with ⟨o',h⟩|⟨o',h⟩
     ·exact .inl ⟨o',by simp[h]⟩
     ·rcases T.get_set h with ⟨rfl,_⟩|⟨_,h⟩
      ·exact .inl ⟨o,by simp⟩
      ·exact .inr ⟨o',h⟩
  ·split at h<;>(try(simp at h;done))
   rename_i hro
   obtain⟨h1,h2,h3⟩:=Zg9 h
   refine⟨h1,h2,fun k' hk=>?_⟩
   rcases List.mem_cons.1 hk with rfl|hk
   ·cases o<;>simp[Zb6]at hro
    exact .inr ⟨_,ho⟩
   ·exact h3 k' hk
theorem Zpu:∀{l:List (Nat×O)} {σ σ2:S},Zf8 l σ=sO σ2→(∀k o,σ2.get k=sO o→(k,o)∈l∨(σ.get k=sO o∧∀o',(k,o')∉l))∧∀k o,(k,o)∈l→∃o',σ.get k=sO (.ro o')
 | [],σ,σ2,h=>by
  simp only[Zf8,Zyd]at h
  subst h
  exact⟨fun k o h=>.inr ⟨h,fun _ h=>by simp at h⟩,fun k o h=>by simp at h⟩
 | (k',o')::l,σ,σ2,h=>by
  simp only[Zf8]at h
  split at h<;>(try(simp at h;done))
  rename_i o1 ho
  split at h<;>simp only[Zyd,reduceCtorEq]at h
  rename_i σ' hb
  subst h
  obtain⟨h1,h2⟩:=Zpu hb
  refine⟨fun k o h=>?_,fun k o h=>?_⟩
  ·rcases T.get_set h with ⟨rfl,h3⟩|⟨h0,h3⟩
   ·simp only[Zyd]at h3
    subst h3;exact .inl (by simp)
   ·rcases h1 k o h3 with h4|⟨h4,h5⟩
    ·exact .inl (by simp[h4])
    ·refine .inr ⟨h4,fun o2 hm=>?_⟩
     rcases List.mem_cons.1 hm with hm|hm
     ·simp only[Zyh]at hm;exact h0 hm.1
     ·exact h5 o2 hm
  ·rcases List.mem_cons.1 h with h|h
   ·simp only[Zyh]at h
    obtain⟨rfl,rfl⟩:=h
    exact⟨o1,ho⟩
   ·exact h2 k o h
section
variable {C:Px} {η η':Nm} {σ σ0 σ' σ2:S} {s s':St}
def Zpj(C:Px)(η:Nm)(l:List (Nat×O))(s t:St):Prop :=
 (∀b d,C.t b=sO d→t b=sO d)∧(∀k o b,(k,o)∈l→η k=sO (.tip b)→t b=s b)∧∀b d,t b=sO d→C.t b=sO d∨∃k o,(k,o)∈l∧η k=sO (.tip b)
open Classical in
theorem Sim.lend(hS:Sim C η σ s){ks:List Nat}{l:List (Nat×O)}(h:ZhZ ks σ=sO (σ0,l)):∃t,Sim ⟨C.toCx,t⟩ η σ0 s∧Zpj C η l s t:=by
 obtain⟨h1,h2,_⟩:=Zg9 h
 have hM:∀b k o,(k,o)∈l→η k=sO (.tip b)→∃d,s b=sO d∧OR C η k o d:=fun b k o hm hb=>by
  obtain⟨g1,g2⟩:=h2 k o hm
  obtain⟨b',d,e1,e2,e3⟩:=hS.get g1 (Zcf g2).2
  rw[hb]at e1
  simp only[Zyd,Tok.tip.injEq]at e1
  subst e1
  exact⟨d,e2,e3⟩
 have hin:∀k o,σ0.get k=sO o→∃o',σ.get k=sO o':=fun k o hk=>by
  rcases h1 k o hk with ⟨g,_⟩|⟨o',_,g⟩
  ·exact⟨o,g⟩
  ·exact⟨o',(h2 k o' g).1⟩
 let t:St:=fun b=>if ∃k o,(k,o)∈l∧η k=sO (.tip b) then s b else C.t b
 have ht1:∀b,(∃k o,(k,o)∈l∧η k=sO (.tip b))→t b=s b:=fun b hb=>by simp only[t];rw[if_pos hb]
 have ht2:∀b,¬(∃k o,(k,o)∈l∧η k=sO (.tip b))→t b=C.t b:=fun b hb=>by simp only[t];rw[if_neg hb]
 have hL:Zpj C η l s t:=by
  refine⟨fun b d hb=>?_,fun k o b hm hb=>ht1 b ⟨k,o,hm,hb⟩,fun b d hb=>?_⟩
  ·by_cases hm:∃k o,(k,o)∈l∧η k=sO (.tip b)
   ·rw[ht1 b hm];exact(hS.kp b d hb).1
   ·rw[ht2 b hm];exact hb
  ·by_cases hm:∃k o,(k,o)∈l∧η k=sO (.tip b)
   ·exact .inr hm
   ·rw[ht2 b hm]at hb;exact .inl hb
 refine⟨t,⟨fun k o hk=>?_,fun k k' o o' b hk hk' e e'=>?_,fun b d hb=>?_,fun k o b hk e=>?_⟩,hL⟩
 ·rcases h1 k o hk with ⟨g,_⟩|⟨o',rfl,g⟩
  ·exact hS.obj k o g
  ·obtain⟨g1,g2⟩:=h2 k o' g
   obtain⟨b,d,e1,e2,e3⟩:=hS.get g1 (Zcf g2).2
   exact⟨_,e1,.inl ⟨b,d,rfl,e2,.ro o' d e3 (Zcf g2).1 (Zcf g2).2⟩⟩
 ·obtain⟨o1,g1⟩:=hin _ _ hk
  obtain⟨o2,g2⟩:=hin _ _ hk'
  exact hS.inj k k' o1 o2 b g1 g2 e e'
 ·have hb:t b=sO d:=hb
  by_cases hm:∃k o,(k,o)∈l∧η k=sO (.tip b)
  ·refine⟨by rw[←ht1 b hm];exact hb,fun k' o' hk hr e=>?_⟩
   obtain⟨k,o,hm,hb⟩:=hm
   rcases h1 k' o' hk with ⟨g,g'⟩|⟨o2,rfl,_⟩
   ·have:=hS.inj k k' o o' b (h2 k o hm).1 g hb e
    subst this
    exact g' o hm
   ·simp[Zb6]at hr
  ·rw[ht2 b hm]at hb
   refine⟨(hS.kp b d hb).1,fun k' o' hk hr e=>?_⟩
   rcases h1 k' o' hk with ⟨g,_⟩|⟨o2,rfl,_⟩
   ·exact(hS.kp b d hb).2 k' o' g hr e
   ·simp[Zb6]at hr
 ·show ∃d,t b=sO d
  rcases h1 k _ hk with ⟨g,_⟩|⟨o',e0,g⟩
  ·obtain⟨d,hd⟩:=hS.ro k o b g e
   exact⟨d,hL.1 b d hd⟩
  ·simp only[O.ro.injEq]at e0
   subst e0
   obtain⟨d,hd,_⟩:=hM b k o g e
   exact⟨d,by rw[hL.2.1 k o b g e];exact hd⟩
theorem Sim.unlend(hS:Sim C η σ s){ks:List Nat}{l:List (Nat×O)}(h:ZhZ ks σ=sO (σ0,l)){t:St}(hL:Zpj C η l s t)(hs:η.Sub η')(hS':Sim ⟨C.toCx,t⟩ η' σ' s')(hb:Zf8 l σ'=sO σ2):
  Sim C η' σ2 s'∧∀k b,k∈ks→η k=sO (.tip b)→s' b=s b:=by
 obtain⟨h1,h2,h3⟩:=Zg9 h
 obtain⟨b1,b2⟩:=Zpu hb
 obtain⟨l1,l2,l3⟩:=hL
 have hM:∀k o b,(k,o)∈l→η k=sO (.tip b)→∃d,s b=sO d∧s' b=sO d∧OR C η k o d:=fun k o b hm hb=>by
  obtain⟨g1,g2⟩:=h2 k o hm
  obtain⟨b',d,e1,e2,e3⟩:=hS.get g1 (Zcf g2).2
  rw[hb]at e1
  simp only[Zyd,Tok.tip.injEq]at e1
  subst e1
  exact⟨d,e2,(hS'.kp b d (by show t b=_;rw[l2 k o b hm hb];exact e2)).1,e3⟩
 have hin:∀k o,σ2.get k=sO o→∃o',σ'.get k=sO o':=fun k o hk=>by
  rcases b1 k o hk with g|⟨g,_⟩
  ·obtain⟨o',g⟩:=b2 k o g;exact⟨_,g⟩
  ·exact⟨o,g⟩
 refine⟨⟨fun k o hk=>?_,fun k k' o o' b hk hk' e e'=>?_,fun b d hb=>?_,fun k o b hk e=>?_⟩,fun k b hk hb=>?_⟩
 ·rcases b1 k o hk with g|⟨g,_⟩
  ·obtain⟨g1,g2⟩:=h2 k o g
   obtain⟨b,d,e1,e2,e3⟩:=hS.get g1 (Zcf g2).2
   obtain⟨d',f1,f2,f3⟩:=hM k o b g e1
   exact⟨_,hs _ _ e1,.inl ⟨b,d',rfl,f2,f3.mono hs⟩⟩
  ·exact hS'.obj k o g
 ·obtain⟨o1,g1⟩:=hin _ _ hk
  obtain⟨o2,g2⟩:=hin _ _ hk'
  exact hS'.inj k k' o1 o2 b g1 g2 e e'
 ·obtain⟨e1,e2⟩:=hS'.kp b d (l1 b d hb)
  refine⟨e1,fun k o hk hr e=>?_⟩
  rcases b1 k o hk with g|⟨g,_⟩
  ·exact(hS.kp b d hb).2 k o (h2 k o g).1 hr (hS.name hs (h2 k o g).1 e)
  ·exact e2 k o g hr e
 ·rcases b1 k _ hk with g|⟨g,g'⟩
  ·have:=(h2 k _ g).2;simp[Zhf]at this
  ·obtain⟨d,hd⟩:=hS'.ro k o b g e
   rcases l3 b d hd with hd|⟨k0,o0,hm,hb0⟩
   ·exact⟨d,hd⟩
   ·obtain⟨o1,g1⟩:=b2 k0 o0 hm
    have:=hS'.inj k k0 _ _ b g g1 e (hs _ _ hb0)
    subst this
    exact absurd hm (g' o0)
 ·rcases h3 k hk with ⟨o,hm⟩|⟨o,ho⟩
  ·obtain⟨d,f1,f2,_⟩:=hM k o b hm hb
   rw[f1,f2]
  ·obtain⟨d,hd⟩:=hS.ro k o b ho hb
   rw[(hS.kp b d hd).1,(hS'.kp b d (l1 b d hd)).1]
end
def Zea(ρd:Env)(u l o:Nat):Prop:=Yv ρd u=sO (.loc l o)∨Yv ρd u=sO (.when true (.loc l o))
structure K2(η:Nm)(r:Rl)(ρd:Env)(L:Loc)(B:List (Nat×Rd)):Prop where
 cs:∀l vs,Jk l r.cs=some vs→∃ds,Zo L l=some ds∧VRs η vs ds
 no:∀l,Jk l r.cs=none→Zo L l=none
 nd:(r.cs.map (·.1)).Nodup
 ad:∀u l o,(u,l,o)∈r.ad→Zea ρd u l o
 lt:∀u l o,(u,l,o)∈r.ad→u<32768
 bn:∀n b,(n,.blk b)∈B→∃k,(n,k)∈r.bn∧η k=some (.tip b)
 bl:∀n l,(n,.loc l)∈B→(n,l)∈r.bl
theorem K2.nil{η:Nm}{ρd:Env}:K2 η Rl.nil ρd [] []:={
 cs l vs h:=by simp[Rl.nil,Jk]at h
 no l _:=rfl
 nd:=by simp[Rl.nil]
 ad u l o h:=by simp[Rl.nil]at h
 lt u l o h:=by simp[Rl.nil]at h
 bn n b h:=by simp at h
 bl n l h:=by simp at h }
section
variable {η η':Nm} {r:Rl} {ρd:Env} {L:Loc} {B:List (Nat × Rd)}
theorem K2.mono(h:K2 η r ρd L B)(hs:η.Sub η'):K2 η' r ρd L B:={
 cs l vs hl:=by
  obtain⟨ds,a,b⟩:=h.cs l vs hl
  exact⟨ds,a,b.mono hs⟩
 no:=h.no
 nd:=h.nd
 ad:=h.ad
 lt:=h.lt
 bn n b hb:=by
  obtain⟨k,a,c⟩:=h.bn n b hb
  exact⟨k,a,hs _ _ c⟩
 bl:=h.bl }
theorem Zea.put{u l o:Nat}(h:Zea ρd u l o)(hd:dst≠sO u){e:E}:Zea (ZX ρd dst e) u l o:=by
 unfold Zea
 rw[KW,if_neg hd]
 exact h
theorem Zms{t:Nat}(h:noA t r=true):∀u l o,(u,l,o)∈r.ad→t≠u:=fun u l o hm e=>by
 unfold noA at h
 split at h
 ·exact Zn9 ‹_› _ hm e.symm
 ·simp at h
theorem Zxy{t:Nat}(h:noA t r=true):t<32768:=by
 unfold noA at h
 split at h
 ·simpa[Nat.blt_eq]using h
 ·simp at h
theorem ZvG(h:Ze7 dst r=true):∀u l o,(u,l,o)∈r.ad→dst≠sO u:=fun u l o hm e=>by
 subst e
 exact Zms h u l o hm rfl
theorem K2.put(h:K2 η r ρd L B)(hd:Ze7 dst r=true)(e:E):K2 η r (ZX ρd dst e) L B :=
 { h with ad:=fun u l o hm=>(h.ad u l o hm).put (ZvG hd u l o hm) }
theorem K2.next(h:K2 η r ρd L B)(fl:List Nat):K2 η (Za2 fl r) ρd L (Kx fl B):=by
 have h1:∀{fl:List Nat} n b,(n,.blk b)∈Kx fl B→∃k,(n,k)∈Zgc fl r.bn∧η k=sO (.tip b):=fun{fl} n b hb=>by
  obtain⟨e1,e2⟩:=JY.1 hb
  obtain⟨k,a,c⟩:=h.bn n b e2
  exact⟨k,Zgd (ZfF.1 e1) a,c⟩
 have h2:∀{fl:List Nat} n l,(n,.loc l)∈Kx fl B→(n,l)∈Zgc fl r.bl:=fun{fl} n l hb=>by
  obtain⟨e1,e2⟩:=JY.1 hb
  exact Zgd (ZfF.1 e1) (h.bl n l e2)
 cases fl with
 |nil=>rw[Zdc];exact{ cs:=h.cs,no:=h.no,nd:=h.nd,ad:=h.ad,lt:=h.lt,bn:=fun n b hb=>by simp at hb,bl:=fun n b hb=>by simp at hb }
 |cons a fl=>exact{ cs:=h.cs,no:=h.no,nd:=h.nd,ad:=h.ad,lt:=h.lt,bn:=h1,bl:=h2 }
theorem ZmY(h:K2 η r ρd L B){x:Opd}{l o:Nat}(ha:ZeK x r=sO (l,o)):∃p,Z9 ρd true x=sO (p,.loc l o)∧p:=by
 cases x with
 |cst d=>simp[ZeK]at ha
 |tmp t =>
  simp only[ZeK]at ha
  rcases h.ad t l o (Zlb ha) with h|h
  ·exact⟨True,by simp only[Z9,h],trivial⟩
  ·exact⟨True→True,by simp only[Z9,h],fun _=>trivial⟩
theorem K2.addr(h:K2 η r ρd L B){u l o:Nat}(hn:noA u r=true){e:E}(he:e=.loc l o∨e=.when true (.loc l o)):K2 η ⟨r.cs,(u,l,o)::r.ad,r.bn,r.bl⟩ (ZX ρd (sO u) e) L B :=
 { h with
  ad:=fun u' l' o' hm=>by
   rcases List.mem_cons.1 hm with hm|hm
   ·simp only[Zyh]at hm
    obtain⟨rfl,rfl,rfl⟩:=hm
    unfold Zea
    rw[KW,if_pos rfl]
    exact he.imp (by rintro rfl;rfl) (by rintro rfl;rfl)
   ·exact(h.ad u' l' o' hm).put (fun hu=>Zms hn u' l' o' hm (by simpa using hu))
  lt:=fun u' l' o' hm=>by
   rcases List.mem_cons.1 hm with hm|hm
   ·simp only[Zyh]at hm
    rw[hm.1];exact Zxy hn
   ·exact h.lt u' l' o' hm }
theorem Y5.off{ρ:T W}(h:Y5 η [] ρ ρd)(u:Nat)(e:E):Y5 η [] (ρ.set nO u) (ZX ρd (sO u) e):=fun t w hw hl=>by
 rcases T.get_set hw with ⟨_,h1⟩|⟨hne,h1⟩
 ·simp at h1
 ·obtain⟨e',h2,h3⟩:=h t w h1 hl
  exact⟨e',by rw[KW,if_neg (by simpa using Ne.symm hne)];exact h2,h3⟩
theorem K2.reads(h:K2 η r ρd L B){R:List (Nat×Rd)}{bn bl:List (Nat×Nat)}(h1:∀k,k∈r.bn→k∈bn)(h2:∀k,k∈r.bl→k∈bl)(h3:∀n b,(n,.blk b)∈R→∃k,(n,k)∈bn∧η k=sO (.tip b))(h4:∀n l,(n,.loc l)∈R→(n,l)∈bl):K2 η ⟨r.cs,r.ad,bn,bl⟩ ρd L (R++B) :=
 { h with
  bn:=fun n b hb=>by
   rcases List.mem_append.1 hb with hb|hb
   ·exact h3 n b hb
   ·obtain⟨k,a,c⟩:=h.bn n b hb
    exact⟨k,h1 _ a,c⟩
  bl:=fun n l hb=>by
   rcases List.mem_append.1 hb with hb|hb
   ·exact h4 n l hb
   ·exact h2 _ (h.bl n l hb) }
end
section
variable {C:Px} {ih:Ih} {dk:List Zu} {os:List (DOp × List Nat)} {rest:Bx RgD}
def ZbO(C:Px)(ih:Ih)(rest:Bx RgD)(dk:List Zu)(os:List (DOp×List Nat)):Prop :=
 ∀r fm ρ σ nx o,rest.run r ih dk fm ρ σ nx=sO o→∀(F:Fr C.P) η ρd L s B,FmR C η fm o F→Y5 η [] ρ ρd→WT η nx→Sim C η σ s→K2 η r ρd L B→DOA F nO dk os ρd L s B
variable {r:Rl} {fm:Fm} {ρ:T W} {σ:S} {nx:Nat} {o:Out} {F:Fr C.P} {η:Nm} {ρd:Env} {L:Loc} {s:St} {B:List (Nat × Rd)}
theorem ZvB{t:Nat}{v:V}{d:D}(hv:VR η v d)(h:K2 η r ρd L B):K2 η (Zv4 t v r) ρd L ((JZ (.d d)).map (fun b=>(t,b))++B):=by
 have key:∀{k b:Nat},η k=sO (.tip b)→K2 η ⟨r.cs,r.ad,(t,k)::r.bn,r.bl⟩ ρd L ([(t,.blk b)]++B):=fun{k b} hb =>
  h.reads (fun _ hm=>List.mem_cons_of_mem _ hm) (fun _ hm=>hm) (fun n b' hb'=>⟨k,by
   simp only[List.mem_singleton,Zyh,Rd.blk.injEq]at hb'
   rw[hb'.1,hb'.2]
   exact⟨by simp,hb⟩⟩) (fun n l hl=>by simp at hl)
 cases hv<;>first|exact h|exact key ‹_›
theorem ZtI{x:Opd}{vs:List V}(h:(ZcN (x::xs)).run ρ=sO vs):∃v vs',(Kf x).run ρ=sO v∧(ZcN xs).run ρ=sO vs'∧vs=v::vs':=by
 simp only[ZcN]at h
 split at h<;>(try(simp at h;done))
 rename_i v hv
 split at h<;>simp only[Zyd,reduceCtorEq]at h
 rename_i vs' hvs
 exact⟨v,vs',hv,hvs,h.symm⟩
theorem ZxE(hρ:Y5 η [] ρ ρd){g:Option (Nat×Bool)}{k:K}(hg:Zy ρd g=sO true){db:Bool}{r3:R3}(h:(opF false db k).run ρ σ nx=sO r3){ρd':Env}(hR:K2 η r ρd' L B):
  K2 η ((rdR (dst.getD 0) k).run ρ r) ρd' L (Jr ⟨dst,g,k⟩ ρd++B):=by
 cases k
 case q q xs =>
  cases hr:KR (.q q xs) with
  |false=>simpa only[rdR,Jr,Qh,hr,Zyt,if_false,ZyF,List.nil_append]using hR
  |true =>
   simp only[rdR,Jr,Qh,hr,if_true,hg]
   cases xs with
   |nil=>exact hR
   |cons x ys =>
    simp only[opF]at h
    split at h<;>(try(simp at h;done))
    rename_i vs hvs
    obtain⟨p,ds,a1,a2,a3⟩:=Zb0 hρ hvs
    obtain⟨v,vs',hv,_,rfl⟩:=ZtI hvs
    obtain⟨d,ds',rfl,b1,b2⟩:=a3.inv
    simp only[a1,Zyp,hv]
    exact ZvB b1 hR
 all_goals exact hR
theorem Zjd(hrest:ZbO C ih rest dk os){g:Option (Nat×Bool)}{fl:List Nat}{k:K}(hk:KD k=true)(h:(Zjc rest dst k).run r ih dk fm ρ σ nx=sO o)(hg:Zy ρd g=sO true)(hF:FmR C η fm o F)(hρ:Y5 η [] ρ ρd)(hN:WT η nx)(hS:Sim C η σ s)(hR:K2 η r ρd L B):DOA F nO dk ((⟨dst,g,k⟩,fl)::os) ρd L s B:=by
 simp only[Zjc]at h
 split at h<;>(try(simp at h;done))
 rename_i v σ1 nx1 hop
 obtain⟨hd,hh⟩:=ZR h
 obtain⟨e1,e2,side,e,e3,e4,e5⟩:=Zok (L:=L) (dst:=dst) hS hN.o hρ.anyL hg hk hop
 have hpk:Kh k=true:=by cases k<;>simp[KD]at hk<;>rfl
 refine Zbk e4 e3 ?_
 simp only[hpk,if_true]
 exact hrest _ _ _ _ _ _ hh F η _ L s _ hF (Zbb hρ (show WR η [] (.v v) e from e5) dst) hN hS (ZxE hρ hg hop (hR.put hd e))
theorem Znp{fl:List Nat}{σ0:S}{l:List (Nat×O)}(h:Zno fl r σ=sO (σ0,l)):∃ks,ZhZ ks σ=sO (σ0,l)∧∀n k,n∈fl→(n,k)∈r.bn→k∈ks:=by
 cases fl with
 |nil=>exact⟨[],h,fun _ _ h=>by simp at h⟩
 |cons a fl=>exact⟨_,h,fun n k hn hk=>ZfV hn hk⟩
theorem Znd(hrest:ZbO C ih rest dk os){f:FuncId}{g:Option (Nat×Bool)}{fl:List Nat}{k:K}(hk:KD k=false)(hp:Kh k=false)(hnf:Zi7 k=true)(h:(Znc C f rest dst g fl k).run r ih dk fm ρ σ nx=sO o)(hg:Zy ρd g=sO true)(hF:FmR C η fm o F)(hρ:Y5 η [] ρ ρd)(hN:WT η nx)(hS:Sim C η σ s)(hR:K2 η r ρd L B):DOA F nO dk ((⟨dst,g,k⟩,fl)::os) ρd L s B:=by
 unfold Znc at h
 split at h<;>(try(simp at h;done))
 rename_i hgk
 simp only at h
 split at h<;>(try(simp at h;done))
 rename_i σ0 l hout
 split at h<;>(try(simp at h;done))
 rename_i v σ1 nx1 hop
 split at h<;>(try(simp at h;done))
 rename_i σ2 hback
 obtain⟨hd,hh⟩:=ZR h
 obtain⟨ks,o1,o2⟩:=Znp hout
 obtain⟨t,hS0,hL⟩:=hS.lend o1
 refine ZbA (K6 ⟨C.toCx,t⟩ η ⟨v,σ1,nx1⟩) hp (fun ρ' L' os' hag hc=>?_) (fun e s2 hr=>?_)
 ·exact ZtZ hS0 hN hρ (by rw[KM (fun t ht=>hag t (by simp[ZT,ht]))];exact hg) hgk hk hnf hop hag hc
 ·obtain⟨η',k1,k2,k3,d,k4,rfl⟩:=hr
  obtain⟨u1,u2⟩:=hS.unlend o1 hL k1 k3 hback
  refine⟨Zez (fun n b hf hb=>?_) (fun _ _ _ _=>rfl),hrest _ _ _ _ _ _ hh F η' _ L s2 _ (hF.mono k1) (Zbb (hρ.mono k1) (WR.val k4) dst) k2 u1 (((hR.put hd _).next fl).mono k1)⟩
  obtain⟨kn,n1,n2⟩:=hR.bn n b hb
  exact u2 kn b (o2 n kn hf n1) n2
theorem Zu4(hlib:Zav C)(hih:ZaU C ih)(hrest:ZbO C ih rest dk os){f:FuncId}{g:Option (Nat×Bool)}{fl:List Nat}{fx:Opd}(h:(goD C f rest dst g fl (.call fx xs)).run r ih dk fm ρ σ nx=sO o)(hg:Zy ρd g=sO true)(hF:FmR C η fm o F)(hρ:Y5 η [] ρ ρd)(hN:WT η nx)(hS:Sim C η σ s)(hR:K2 η r ρd L B):DOA F nO dk ((⟨dst,g,.call fx xs⟩,fl)::os) ρd L s B:=by
 simp only[goD]at h
 split at h<;>(try(simp at h;done))
 rename_i fv hfv
 split at h<;>(try(simp at h;done))
 rename_i vs hvs
 split at h<;>(try(simp at h;done))
 rename_i σ0 l hout
 split at h<;>(try(simp at h;done))
 rename_i pan v σ' nx' hcall
 split at h<;>(try(simp at h;done))
 rename_i σ2 hback
 obtain⟨ks,o1,o2⟩:=Znp hout
 obtain⟨t,hS0,hL⟩:=hS.lend o1
 obtain⟨p,fd,a1,a2,a3⟩:=QN hρ hfv
 obtain⟨q,ds,b1,b2,b3⟩:=Zb0 hρ hvs
 have hV:Jc C.P fd ds s (Zgq ⟨C.toCx,t⟩ η ⟨pan,v,σ',nx'⟩):=Zk7 (C:=⟨C.toCx,t⟩) hlib hih hcall a3 b3 hN hS0
 refine Zf6 hg rfl a1 b1 (Zb5 ds) b2 a2 hV (fun d S1 hp=>?_) (fun d S1 hp=>?_)
 ·obtain⟨η1,d1,k1,k2,k3,k4,k5⟩:=hp
  cases pan with
  |true=>simp at k5
  |false =>
   simp only[Zyt,if_false,Res.ret.injEq]at k5
   subst k5
   obtain⟨hd,hh⟩:=ZR h
   obtain⟨u1,u2⟩:=hS.unlend o1 hL k1 k3 hback
   refine⟨Zez (fun n b hf hb=>?_) (fun _ _ _ _=>rfl),hrest _ _ _ _ _ _ hh F η1 _ L S1 _ (hF.mono k1) (Zbb (hρ.mono k1) (WR.val k4) dst) k2 u1 (((hR.put hd _).next fl).mono k1)⟩
   obtain⟨kn,n1,n2⟩:=hR.bn n b hb
   exact u2 kn b (o2 n kn hf n1) n2
 ·obtain⟨η1,d1,k1,k2,k3,k4,k5⟩:=hp
  cases pan with
  |false=>simp at k5
  |true =>
   simp only[if_true,Res.panic.injEq]at k5
   subst k5
   exact Zhb hih h (hF.mono k1) Y5.nil k2 (hS.unlend o1 hL k1 k3 hback).1 k4
end
section
variable {C:Px} {ih:Ih} {dk:List Zu} {os:List (DOp × List Nat)} {rest:Bx RgD}
variable {r:Rl} {fm:Fm} {ρ:T W} {σ:S} {nx:Nat} {o:Out} {F:Fr C.P} {η:Nm} {ρd:Env} {L:Loc} {s:St} {B:List (Nat × Rd)}
theorem Zjb{g:Option (Nat×Bool)}(hg:Zy ρd g=sO true){es:List E}{p:Prop}(ha:WE ρd true xs=sO (p,es))(hp:p){q:Q}{e:E}(hq:qv L s q es=sO (side,e))(hs:side):
  ∃side' e',side'∧Z7 ⟨dst,g,.q q xs⟩ ρd L s=.ok side' (ZX ρd dst e') L s∧(e'=e∨e'=.when true e):=by
 cases g with
 |none=>exact⟨p∧side,e,Zyf hp hs,by unfold Z7;simp only[hg,ha,hq],.inl rfl⟩
 |some x=>exact⟨true=true→p∧side,.when true e,fun _=>Zyf hp hs,by unfold Z7;simp only[hg,ha,hq],.inr rfl⟩
theorem ZlK(hrest:ZbO C ih rest dk os){g:Option (Nat×Bool)}{fl:List Nat}{l off:Nat}(h:(adD rest dst l off).run r ih dk fm ρ σ nx=sO o){q:Q}(hrd:KR (.q q xs)=false){e':E}(hside:side)(hst:Z7 ⟨dst,g,.q q xs⟩ ρd L s=.ok side (ZX ρd dst e') L s)(he:e'=.loc l off∨e'=.when true (.loc l off))(hF:FmR C η fm o F)(hρ:Y5 η [] ρ ρd)(hN:WT η nx)(hS:Sim C η σ s)(hR:K2 η r ρd L B):DOA F nO dk ((⟨dst,g,.q q xs⟩,fl)::os) ρd L s B:=by
 unfold adD at h
 split at h<;>(try(simp at h;done))
 rename_i u
 obtain⟨hn,hh⟩:=ZR h
 refine Zbk hst hside ?_
 have hr0:Jr ⟨sO u,g,.q q xs⟩ ρd=[]:=by simp only[Jr,Qh,hrd,Zyt,if_false,ZyF]
 simp only[Kh,if_true,hr0,List.nil_append]
 exact hrest _ _ _ _ _ _ hh F η _ L s _ hF (hρ.off u e') hN hS (hR.addr hn he)
theorem ZuB{g:Option (Nat×Bool)}{q:Q}{es:List E}{p:Prop}{l off:Nat}(hrd:KR (.q q xs)=true)(hg:Zy ρd g=sO true)(ha:WE ρd true xs=sO (p,.loc l off::es)):Jr ⟨dst,g,.q q xs⟩ ρd=[(dst.getD 0,.loc l)]:=by
 simp only[Jr,Qh,hrd,if_true,hg,ha,JZ,Zyp,ZyF,Zcv]
theorem ZwF(hrest:ZbO C ih rest dk os){g:Option (Nat×Bool)}{fl:List Nat}{q:Q}{x:Opd}{ys:List Opd}{l off:Nat}(hx:ZeK x r=sO (l,off))(h:(Zvw rest dst q ys).run l off r ih dk fm ρ σ nx=sO o)(hg:Zy ρd g=sO true)(hF:FmR C η fm o F)(hρ:Y5 η [] ρ ρd)(hN:WT η nx)(hS:Sim C η σ s)(hR:K2 η r ρd L B):DOA F nO dk ((⟨dst,g,.q q (x::ys)⟩,fl)::os) ρd L s B:=by
 obtain⟨p,a1,a2⟩:=ZmY hR hx
 have ha1:WE ρd true [x]=sO (p∧True,[.loc l off]):=by simp only[WE,a1]
 have ld:∀{q:Q} {v:V} {d:D} {side:Prop},KR (.q q [x])=true→VR η v d→side→qv L s q [.loc l off]=sO (side,.d d)→noV (Ze7 dst r) (rest.run ⟨r.cs,r.ad,r.bn,(dst.getD 0,l)::r.bl⟩ ih dk fm ((ZdD dst).run ρ (.v v)) σ nx)=sO o→DOA F nO dk ((⟨dst,g,.q q [x]⟩,fl)::os) ρd L s B:=by
  intro q v d side hrd hv hs hq h
  obtain⟨hd,hh⟩:=ZR h
  obtain⟨side',e',h1,h2,h3⟩:=Zjb (dst:=dst) hg ha1 ⟨a2,trivial⟩ hq hs
  refine Zbk h2 h1 ?_
  simp only[Kh,if_true,ZuB (dst:=dst) hrd hg ha1]
  refine hrest _ _ _ _ _ _ hh F η _ L s _ hF (Zbb hρ (show WR η [] (.v v) e' from⟨d,hv,h3⟩) dst) hN hS ((hR.put hd e').reads (fun _ h=>h) (fun _ hm=>List.mem_cons_of_mem _ hm) (fun n b hb=>by simp at hb) (fun n l' hl=>?_))
  simp only[List.mem_singleton,Zyh,Rd.loc.injEq]at hl
  rw[hl.1,hl.2];simp
 unfold Zvw at h
 split at h
 ·split at h<;>(try(simp at h;done))
  obtain⟨side',e',h1,h2,h3⟩:=Zjb (L:=L) (s:=s) (dst:=dst) hg ha1 ⟨a2,trivial⟩ (q:=.mv) rfl trivial
  exact ZlK hrest h rfl h1 h2 h3 hF hρ hN hS hR
 ·split at h<;>(try(simp at h;done))
  obtain⟨side',e',h1,h2,h3⟩:=Zjb (L:=L) (s:=s) (dst:=dst) hg ha1 ⟨a2,trivial⟩ (q:=.nilck) rfl trivial
  exact ZlK hrest h rfl h1 h2 h3 hF hρ hN hS hR
 ·rename_i o1
  split at h<;>(try(simp at h;done))
  obtain⟨side',e',h1,h2,h3⟩:=Zjb (L:=L) (s:=s) (dst:=dst) hg ha1 ⟨a2,trivial⟩ (q:=.faddr o1) rfl trivial
  exact ZlK hrest h rfl h1 h2 h3 hF hρ hN hS hR
 ·rename_i m z
  split at h<;>(try(simp at h;done))
  rename_i y
  simp only at h
  split at h<;>(try(simp at h;done))
  rename_i kk i hy
  obtain⟨hb,hh⟩:=ZR h
  simp only[Zyk,Za9,Bool.not_eq_true',←Bool.not_eq_true]at hb
  obtain⟨p2,d,b1,b2,b3⟩:=QN hρ hy
  cases b3
  have ha2:WE ρd true [x,y]=sO (p∧p2∧True,[.loc l off,.d (.int kk i)]):=by simp only[WE,a1,b1]
  obtain⟨side',e',h1,h2,h3⟩:=Zjb (L:=L) (s:=s) (dst:=dst) hg ha2 ⟨a2,b2,trivial⟩ (q:=.iaddrA m z) rfl ⟨hb.1,by omega⟩
  exact ZlK hrest hh rfl h1 h2 h3 hF hρ hN hS hR
 ·split at h<;>(try(simp at h;done))
  simp only at h
  split at h<;>(try(simp at h;done))
  rename_i cs hcs
  split at h<;>(try(simp at h;done))
  rename_i v hv
  obtain⟨ds,c1,c2⟩:=hR.cs l cs hcs
  rw[Zj5]at hv
  obtain⟨d,d1,d2⟩:=c2.get hv
  exact ld rfl d2 trivial (by simp only[qv,Q0,c1,d1,Zyv]) h
 ·rename_i n
  split at h<;>(try(simp at h;done))
  simp only at h
  split at h<;>(try(simp at h;done))
  rename_i cs hcs
  split at h<;>(try(simp at h;done))
  rename_i v hv
  obtain⟨ds,c1,c2⟩:=hR.cs l cs hcs
  unfold ZjI at hv
  split at hv<;>simp only[Zyd,reduceCtorEq]at hv
  rename_i rr hrr
  subst hv
  obtain⟨d1,d2⟩:=c2.partv hrr
  exact ld rfl (.agg _ _ d2) d1 (by simp only[qv,Q9,c1,Zyv]) h
 ·simp at h
theorem K2.cell(hR:K2 η r ρd L B){l:Nat}{vs0 vs:List V}(hl:Jk l r.cs=sO vs0)(hv:VRs η vs ds):K2 η ⟨Zjy l vs r.cs,r.ad,r.bn,r.bl⟩ ρd ((l,ds)::L) B :=
 { hR with
  cs:=fun l' vs' h'=>by
   rw[Zlc]at h'
   by_cases he:l'=l
   ·subst he
    simp only[if_true,hl,Zyd]at h'
    subst h'
    exact⟨ds,by simp[Zo],hv⟩
   ·rw[if_neg he]at h'
    obtain⟨d,d1,d2⟩:=hR.cs l' vs' h'
    exact⟨d,by simp only[Zo];rw[if_neg (Ne.symm he)];exact d1,d2⟩
  no:=fun l' h'=>by
   rw[Zlc]at h'
   by_cases he:l'=l
   ·subst he;simp[hl]at h'
   ·rw[if_neg he]at h'
    simp only[Zo]
    rw[if_neg (Ne.symm he)]
    exact hR.no l' h'
  nd:=by rw[Zos];exact hR.nd }
theorem Zr8(hrest:ZbO C ih rest dk os){fl:List Nat}{l off n:Nat}{xs:List V}{k:K}(h:ZqT rest fl l off n xs r ih dk fm ρ σ nx=sO o)(hpk:Kh k=false)(hrk:Jr ⟨nO,nO,k⟩ ρd=[]){ys:List D}(hx:VRs η xs ys){p q ok:Prop}(hp:p)(hq:q)(hok:ok)(hst:Z7 ⟨nO,nO,k⟩ ρd L s=J2 ρd L s p q ok (.loc l off) n ys)(hF:FmR C η fm o F)(hρ:Y5 η [] ρ ρd)(hN:WT η nx)(hS:Sim C η σ s)(hR:K2 η r ρd L B):DOA F nO dk ((⟨nO,nO,k⟩,fl)::os) ρd L s B:=by
 unfold ZqT at h
 split at h<;>(try(simp at h;done))
 rename_i cs hcs
 split at h<;>(try(simp at h;done))
 rename_i cs' hset
 obtain⟨hb,hh⟩:=ZR h
 obtain⟨ds,c1,c2⟩:=hR.cs l cs hcs
 obtain⟨f0,f1,f2⟩:=c2.over hx hset
 have hst':Z7 ⟨nO,nO,k⟩ ρd L s=.ok (p∧q∧off+n≤ds.length∧ok) ρd ((l,ZF ds off ys)::L) s:=by rw[hst];simp only[J2,c1]
 refine Zbk hst' ⟨hp,hq,f1,hok⟩ ?_
 simp only[hpk,Zyt,if_false,hrk,List.nil_append]
 refine⟨Zez (fun _ _ _ _=>rfl) (fun n l' hf hl'=>?_),hrest _ _ _ _ _ _ hh F η ρd _ s _ hF hρ hN hS ((hR.cell hcs f2).next fl)⟩
 have hm:=hR.bl n l' hl'
 have:¬l=l':=fun e=>by
  subst e
  simp only[Bool.not_eq_true']at hb
  rw[Zd0.2 (ZfV hf hm)]at hb
  simp at hb
 simp[Zo,this]
theorem K2.more(hR:K2 η r ρd L B){t:Nat}(ht:Zs0 t r=true){vs:List V}(hv:VRs η vs ds):Zo L t=nO∧K2 η ⟨(t,vs)::r.cs,(t,t,0)::r.ad,r.bn,r.bl⟩ ((t,.loc t 0)::ρd) ((t,ds)::L) B:=by
 unfold Zs0 at ht
 simp only[Zyk]at ht
 obtain⟨h1,h2⟩:=ht
 split at h1<;>(try(simp at h1;done))
 rename_i hc
 have hA:=hR.addr (e:=.loc t 0) h2 (.inl rfl)
 refine⟨hR.no t hc,{ hA with
  cs:=fun l vs' h'=>?_
  no:=fun l h'=>?_
  nd:=?_ }⟩
 ·simp only[Jk]at h'
  by_cases he:t=l
  ·subst he
   rw[if_pos (Yf.2 rfl)]at h'
   simp only[Zyd]at h'
   subst h'
   exact⟨ds,by simp[Zo],hv⟩
  ·rw[if_neg (fun h=>he (Yf.1 h))]at h'
   obtain⟨d,d1,d2⟩:=hR.cs l vs' h'
   exact⟨d,by simp only[Zo];rw[if_neg he];exact d1,d2⟩
 ·simp only[Jk]at h'
  by_cases he:t=l
  ·subst he;rw[if_pos (Yf.2 rfl)]at h';simp at h'
  ·rw[if_neg (fun h=>he (Yf.1 h))]at h'
   simp only[Zo]
   rw[if_neg he]
   exact hR.no l h'
 ·simp only[Zyp,List.nodup_cons]
  exact⟨Zoa hc,hR.nd⟩
theorem ZtH(hrest:ZbO C ih rest dk os){f:FuncId}{g:Option (Nat×Bool)}{fl:List Nat}{z:List D}(h:(goD C f rest dst g fl (.alloc z)).run r ih dk fm ρ σ nx=sO o)(hF:FmR C η fm o F)(hρ:Y5 η [] ρ ρd)(hN:WT η nx)(hS:Sim C η σ s)(hR:K2 η r ρd L B):DOA F nO dk ((⟨dst,g,.alloc z⟩,fl)::os) ρd L s B:=by
 simp only[goD]at h
 split at h<;>(try(simp at h;done))
 rename_i t zv hz
 obtain⟨hn,hh⟩:=ZR h
 obtain⟨hl,hR'⟩:=hR.more hn (ofDs_ok hz)
 refine Zbk (side:=ZbI L t=false) (ρ1:=(t,.loc t 0)::ρd) (L1:=(t,z)::L) (s1:=s) (by unfold Z7;simp only[Zy]) (by simp[ZbI,hl]) ?_
 simp only[Kh,if_true]
 exact hrest _ _ _ _ _ _ hh F η _ _ s _ hF (hρ.off t (.loc t 0)) hN hS hR'
theorem Zwm(hrest:ZbO C ih rest dk os){f:FuncId}{g:Option (Nat×Bool)}{fl:List Nat}{x:Opd}(h:(goD C f rest dst g fl (.box x)).run r ih dk fm ρ σ nx=sO o)(hF:FmR C η fm o F)(hρ:Y5 η [] ρ ρd)(hN:WT η nx)(hS:Sim C η σ s)(hR:K2 η r ρd L B):DOA F nO dk ((⟨dst,g,.box x⟩,fl)::os) ρd L s B:=by
 simp only[goD]at h
 split at h<;>(try(simp at h;done))
 rename_i t
 simp only at h
 split at h<;>(try(simp at h;done))
 rename_i v hv
 obtain⟨hb,hh⟩:=ZR h
 simp only[Zyk,Bool.not_eq_true']at hb
 obtain⟨⟨hp,hn⟩,hm⟩:=hb
 obtain⟨p,d,a1,a2,a3⟩:=QN hρ hv
 obtain⟨hl,hR'⟩:=hR.more hn (ZjN a3)
 refine Zbk (side:=p∧ZbI L t=false∧Q3 d=true) (ρ1:=(t,.loc t 0)::ρd) (L1:=(t,cellsOf d)::L) (s1:=s) (by unfold Z7;simp only[Zy,a1]) ⟨a2,by simp[ZbI,hl],Zlz a3 hp⟩ ?_
 simp only[Kh,Zyt,if_false]
 refine⟨Zez (fun _ _ _ _=>rfl) (fun n l' hf hl'=>?_),hrest _ _ _ _ _ _ hh F η _ _ s _ hF (hρ.off t (.loc t 0)) hN hS (hR'.next fl)⟩
 have:¬t=l':=fun e=>by
  subst e
  rw[Zd0.2 (ZfV hf (hR.bl _ _ hl'))]at hm
  simp at hm
 simp[Zo,this]
theorem Zt5(hlib:Zav C)(hih:ZaU C ih)(hrest:ZbO C ih rest dk os){f:FuncId}{g:Option (Nat×Bool)}{fl:List Nat}{k:K}(h:(goD C f rest dst g fl k).run r ih dk fm ρ σ nx=sO o)(hg:Zy ρd g=sO true)(hF:FmR C η fm o F)(hρ:Y5 η [] ρ ρd)(hN:WT η nx)(hS:Sim C η σ s)(hR:K2 η r ρd L B):DOA F nO dk ((⟨dst,g,k⟩,fl)::os) ρd L s B:=by
 cases k
 case call fx xs=>exact Zu4 hlib hih hrest h hg hF hρ hN hS hR
 case alloc z=>exact ZtH hrest h hF hρ hN hS hR
 case box x=>exact Zwm hrest h hF hρ hN hS hR
 case panic x =>
  simp only[goD]at h
  split at h<;>(try(simp at h;done))
  rename_i t v hv
  obtain⟨p,d,a1,a2,a3⟩:=QN hρ hv
  cases a3 with
  |iface _ _ d hd=>exact ZnP hg rfl a1 a2 (Zhb hih h hF Y5.nil hN hS (.iface _ _ _ hd))
 case defer fx xs=>simp[goD]at h
 case recover=>simp[goD]at h
 case fork k=>simp[goD]at h
 case store1 a v =>
  simp only[goD]at h
  split at h<;>(try(simp at h;done))
  simp only at h
  split at h
  ·rename_i l off ha
   split at h<;>(try(simp at h;done))
   rename_i x hx
   obtain⟨hc,hh⟩:=ZR h
   obtain⟨p,a1,a2⟩:=ZmY hR ha
   obtain⟨q,d,b1,b2,b3⟩:=QN hρ hx
   exact Zr8 hrest hh rfl rfl (.one b3) a2 b2 (Zly b3 hc) (by unfold Z7;simp only[Zy,a1,b1]) hF hρ hN hS hR
  ·exact Znd hrest rfl rfl rfl h hg hF hρ hN hS hR
 case storeN n a v =>
  simp only[goD]at h
  split at h<;>(try(simp at h;done))
  simp only at h
  split at h
  ·rename_i l off ha
   split at h<;>(try(simp at h;done))
   rename_i xs hx
   obtain⟨p,a1,a2⟩:=ZmY hR ha
   obtain⟨q,d,b1,b2,b3⟩:=QN hρ hx
   cases b3 with
   |agg _ ys hxs =>
   have hlen:ys.length=n:=by
    unfold ZqT at h
    split at h<;>(try(simp at h;done))
    split at h<;>(try(simp at h;done))
    rename_i hset
    rw[←hxs.len];exact(ZnA hset).1
   exact Zr8 hrest h rfl rfl hxs a2 b2 hlen (by unfold Z7;simp only[Zy,a1,b1]) hF hρ hN hS hR
  ·exact Znd hrest rfl rfl rfl h hg hF hρ hN hS hR
 case q q xs =>
  simp only[goD]at h
  split at h
  ·rename_i x ys
   simp only at h
   split at h
   ·rename_i l off hx
    exact ZwF hrest hx h hg hF hρ hN hS hR
   ·exact Zjd hrest rfl h hg hF hρ hN hS hR
  ·exact Zjd hrest rfl h hg hF hρ hN hS hR
 all_goals
  simp only[goD]at h
  first
   |exact Zjd hrest rfl h hg hF hρ hN hS hR
   |exact Znd hrest rfl rfl rfl h hg hF hρ hN hS hR
end
end Go.DL
