/- Lemmas: DlZX, DlZY, DlAc, DlAd, Tab0, DlAg, Api, DlAe, DlAf, R04a, Lst, R04b, R04c, Iv, R04d, R04e, R05a, R05b, R05c, R05d, R05e, R05f, R05g, R05h, R05i, R05j, R05k, Own, S00, S01, S02, Val, W01, W02, W03, Maps, S03, S04, S05, S06, S10, S11, R05l, R43d, U01, A01, A02, A03. -/
import Derived.Test.YtekaandjjcbfaaaGreatDoorT02
set_option maxHeartbeats 16000000
set_option maxRecDepth 100000
set_option linter.all false
open Option renaming some → sO, none → nO
open Inhabited renaming default → dE
open Decidable renaming decide → dC
open Go.Proofs.Tryz
open And renaming intro → ZER
open Bool renaming and_eq_true → ZEY, false_and → ZFh, false_eq_true → ZFn, or_eq_true → ZFb, true_and → ZFe
open Go.DL.D.Le renaming refl → ZEW
open Go.DL.St renaming single → ZFj, sub_refl → ZES, sub_trans → ZFx, sub_upd → ZFi, upd → ZFr, upd_ne → ZE0, upd_same → ZEZ, upd_upd → ZFd
open Go.Proofs.Tryz renaming prog → ZEQ
open Int renaming reduceEq → ZFy, reduceToNat → ZEV
open List renaming append_assoc → ZFt, getD → ZE8, getElem?_append_left → ZFp, getElem?_append_right → ZFz, getElem?_eq_getElem → ZFq, getElem?_eq_none → ZFA, getElem?_take → ZFu, getElem_of_mem → ZFa, length_append → ZE1, length_cons → ZE5, length_drop → ZFw, length_take → ZE9, map_cons → ZE7, map_nil → ZFo, mem_cons → ZFv, range → ZE4, take_length → ZFc
open Nat renaming add_mul → ZFk, le_refl → ZE6, mul_le_mul_right → ZFg, reduceAdd → ZEX, reduceEqDiff → ZET, reduceLeDiff → ZEU
open Option renaming getD_some → ZFs, map_eq_some_iff → ZE3
open Option.some renaming injEq → ZEP
namespace Go.DL
open Go
variable [Zqw]
variable {kp:Option (List Nat)}{L:Loc}{ρ:Env}{s:St}{w:World}{os:List DOp}{ds:List D}{B:List (Nat × Rd)}{dst:Option Nat}{tmps:Array Value}{g:G}{Φ:Res→St→Prop}{ν:Nat→Nat}{xs:List Opd}{side:Prop}{row:Nat→List D}
section
variable {P:Program}
theorem Zyw{F:Fr P}{dk:List Zi}{o:DOp}(hg:o.guard=nO){x:Opd}(hk:o.k=.box x){t:Nat}(hdt:o.dst=sO t){p:Prop}{v:D}(ha:ZC ρ true x=sO (p,.d v))(hp:p)(hok:W4 v=true)(h:∀b,s b=nO→DO F kp dk os ((t,.d (.ptr b 0))::ρ) L (s.upd b (.cells (cellsOf v)))):DO F kp dk (o::os) ρ L s:=by
 refine Wn fun oo g ν w tmps ah i r k ag n ak u hd hN m hr ae=>?_
 have hw:=Yf m ak (c:=true) (by rw[hg];rfl)
 have ai:=Yi n (by rw[hk];rfl)
 rw[hk]at n
 obtain⟨e,x',ac,af⟩:=ZvF n
 have j:Rep g w _ v:=Yc m af rfl ha hp F.ds
 generalize ab:(Act.mk tmps F.ds).eval x'=vv at j
 obtain⟨aj,ad⟩:=Zdv j hok
 have y:=Zgy j hok
 have z:=JW (g:=g) (w:=w) (.cells vv.cells e) m.st.fresh
 have he:=z.ext m.st.fresh
 obtain⟨hn,m'⟩:=m.newObj z (o:=.cells (cellsOf v)) ⟨(m.st.fresh _ (ZE6 _)).1,_,e,Kc w _,by rw[aj],fun i v d hv hd=>(ad i v d (by simpa using hv) hd).mono he,y⟩
 refine YK (L':=L) hN ag u hd hw ai (v:=.pointer (sO ⟨w.heap.size,0,nO⟩)) (e:=.d (.ptr w.heap.size 0)) ?_ he m' (Rep.ptr _ _) ?_
 ·simp[execOp,ac,ab,Instr.box,newVar,newRow]
 rw[hdt];exact h _ hn ah r k hr ae
theorem Zvt{F:Fr P}{dk:List Zi}{o:DOp}(hg:o.guard=nO){t:Nat}(hdt:o.dst=sO t){z:List D}(hk:o.k=.alloc z)(h:∀b,s b=nO→DO F kp dk os ((t,.d (.ptr b 0))::ρ) L (s.upd b (.cells z))):DO F kp dk (o::os) ρ L s:=by
 refine Wn fun oo g ν w tmps ae i r k ad j ah n hd hN m hr ac=>?_
 have hw:=Yf m ah (c:=true) (by rw[hg];rfl)
 have af:=Yi j (by rw[hk];rfl)
 rw[hk]at j
 obtain⟨T,ab,hz⟩:=ZqR j
 obtain⟨v,ag,y,ai,_⟩:=Q7 (g:=g) (w:=w) hz
 have u:=JW (g:=g) (w:=w) (.cells v.cells T) m.st.fresh
 have he:=u.ext m.st.fresh
 obtain⟨hn,m'⟩:=m.newObj u (o:=.cells z) ⟨(m.st.fresh _ (ZE6 _)).1,_,T,Kc w _,by simpa using y.len,fun i v d hv hd=>(y.get i v d (by simpa using hv) hd).mono he,ai⟩
 refine YK (L':=L) hN ad n hd hw af (v:=.pointer (sO ⟨w.heap.size,0,nO⟩)) (e:=.d (.ptr w.heap.size 0)) ?_ he m' (Rep.ptr _ _) ?_
 ·simp[execOp,ab,Instr.alloc,ag,newVar,newRow]
 rw[hdt];exact h _ hn ae r k hr ac
theorem ZeZ{b off:Nat}{cs xs:List D}{vs:List Value}(h:Y0 g w b cs)(hx:ZH (Rep g w) vs xs)(ho:∀v∈vs,v.one1=true)(hlen:off+xs.length≤cs.length)(hkp:¬g.kept b):
  ∃w',(storeCells ⟨b,off,nO⟩ vs 0).run P w=.ok () w'∧Ext g w g w'∧w'.heap.size=w.heap.size∧(∀c,c≠b→w'.heap[c]?=w.heap[c]?)∧Y0 g w' b (ZE cs off xs):=by
 obtain⟨ab,n,T,hb,ac,ad,y⟩:=h
 have ae:vs.length=xs.length:=hx.len
 have z:=run_storeCells_at (P:=P) b off T vs 0 n w hb (by simp;omega) (fun x hx=>by rw[ZcQ];exact ho x hx)
 simp only[Nat.add_zero]at z
 have j:ZH (Rep g w) (n.toList.take off++vs++n.toList.drop (off+vs.length)) (ZE cs off xs):=by
  have u:ZH (Rep g w) n.toList cs:=Yh (by simpa using ac) (fun i v d hv hd=>ad i v d (by simpa using hv) hd)
  unfold ZE
  rw[←ae]
  exact((u.take off).append hx).append (u.drop _)
 have t:((n.toList.take off++vs++n.toList.drop (off+vs.length)).toArray).size=n.size:=by
  have:=j.len;simp[ZE]at this⊢;omega
 have he:=Zg0 (g:=g) b hb t ab hkp
 refine⟨_,z,he,by simp[World.setRow],fun c hc=>setRow_other w b c _ hc,ab,_,T,setRow_heap w b n _ T (0,0) hb,by rw[t,ac];simp[ZE];omega,
  fun i v d hv hd=>(j.get i v d (by simpa using hv) hd).mono he,fun x hx=>?_⟩
 simp only[List.mem_toArray,List.mem_append]at hx
 rcases hx with (hx|hx)|hx
 ·exact y x (Array.mem_toList_iff.1 (List.mem_of_mem_take hx))
 ·exact ho x hx
 exact y x (Array.mem_toList_iff.1 (List.mem_of_mem_drop hx))
theorem Zxi{op:Op}{n:Nat}{z:List D}{x:Opd}(h:ck P op=sO (.clear n z x)):
  ∃ats t e x',op=.call ⟨.builtin .clear,#[x'],ats⟩∧ats[0]?=sO t∧P.underlying t=sO (.slice e)∧ZW P e=sO n∧Zaz P e=sO z∧Z3 x'=sO x∧0<n∧z.length=n:=by
 unfold ck at h
 split at h
 ·simp at h
 split at h<;>(try(simp at h;done))
 all_goals (try(repeat' (split at h<;>(try(simp at h;done)))))
 rename_i c _ _ u _ _ e x' hu i _ _ _ s z' x2 h1 h2 h3 hc
 simp only[ZEP,K.clear.injEq]at h
 obtain⟨rfl,rfl,rfl⟩:=h
 obtain⟨callee,j,ats⟩:=c
 simp only at u hu i
 obtain⟨j⟩:=j
 simp only at i
 subst i;subst u
 simp only[Option.bind_eq_some_iff]at hu
 obtain⟨t,ht,hu⟩:=hu
 simp only[ZEY,decide_eq_true_eq]at hc
 exact⟨ats,t,e,x',rfl,ht,hu,h1,h2,h3,hc.1,hc.2⟩
theorem Zk1{F:Fr P}{dk:List Zi}{o:DOp}(hg:Zl ρ o.guard=sO true){z:List D}{x:Opd}{sz b off n cap:Nat}(hk:o.k=.clear sz z x){p:Prop}(ha:ZC ρ true x=sO (p,.d (.msl b off n cap sz)))(hp:p){cs:List D}(hcs:Yj s b=sO cs)(hlen:off+n*sz≤cs.length)(h:DO F kp dk os (Zt ρ o.dst (.d (.tup []))) L (s.upd b (.cells (ZE cs off (KC z n))))):DO F kp dk (o::os) ρ L s:=by
 refine Wn fun oo g ν w tmps aw i r k av ae a0 ag hd hN m hr aq=>?_
 have hw:=Yf m a0 hg
 have ax:=Yi ae (by rw[hk];rfl)
 rw[hk]at ae
 obtain⟨ao,t,e,x',ap,ad,hu,hsz,hz,ar,h0,ay⟩:=Zxi ae
 obtain⟨zv,az,af,au,ie,hie,hzz⟩:=Q7 (g:=g) (w:=w) hz
 have j:zv.cells.size=sz:=by have:=af.len;simp at this;omega
 have y:Rep g w _ _:=Yc m ar rfl ha hp F.ds
 generalize ak:(Act.mk tmps F.ds).eval x'=vv at y
 have ah:s b=sO (.cells cs):=by
  unfold Yj at hcs
  split at hcs<;>simp only[ZEP,reduceCtorEq]at hcs
  subst hcs;assumption
 obtain⟨ac,al⟩:=ZjD (z:=z) (n:=sz) (c:=n) ay
 have am:ZH (Rep g w) (Builtin.zeroCells zv.cells n).toList (KC z n):=by
  refine Yh (by rw[Array.length_toList,size_zeroCells,ac,j]) fun i v d hv hd=>?_
  have hi:i<n*sz:=by rw[←ac];exact(List.getElem?_eq_some_iff.1 hd).1
  rw[al i hi]at hd
  have hm:i % sz<sz:=Nat.mod_lt _ h0
  simp only[Builtin.zeroCells,Array.toList_map,Array.toList_range,List.getElem?_map,ZE3,j]at hv
  obtain⟨a,ha,rfl⟩:=hv
  rw[List.getElem?_range hi]at ha
  simp only[ZEP]at ha
  subst ha
  refine af.get (i % sz) _ d ?_ hd
  rw[getElem!_pos zv.cells (i % sz) (by omega)]
  simp[j,hm]
 have ai:∀v∈(Builtin.zeroCells zv.cells n).toList,v.one1=true:=fun v hv=>by
  simp only[Builtin.zeroCells,Array.mem_toList_iff,Array.mem_map]at hv
  obtain⟨a,_,rfl⟩:=hv
  by_cases hs0:zv.cells.size=0
  ·omega
  exact au _ (by rw[getElem!_pos zv.cells _ (Nat.mod_lt _ (by omega))];exact Array.getElem_mem _)
 have u:n=0→ZE cs off (KC z n)=cs:=fun hn=>by subst hn;simp[ZE,KC]
 have aj:∃w',(Builtin.clear_ ao oo.type #[vv]).run P w=.ok (.tuple #[]) w'∧Ext g w g w'∧w'.heap.size=w.heap.size∧(∀c,c≠b→w'.heap[c]?=w.heap[c]?)∧Y0 g w' b (ZE cs off (KC z n)):=by
  have ab:=Ja m.st hcs
  cases y with
  |mslx a =>
   refine⟨w,?_,Ext.refl g w,rfl,fun _ _=>rfl,by rw[u rfl];exact ab⟩
   simp[Builtin.clear_,ad,run_underlying hu]
  |msl _ _ _ _ _ h1 h2 =>
   cases n with
   |zero =>
    refine⟨w,?_,Ext.refl g w,rfl,fun _ _=>rfl,by rw[u rfl];exact ab⟩
    simp[Builtin.clear_,ad,run_underlying hu]
   |succ n =>
    obtain⟨w',a1,a2,a3,a4,a5⟩:=ZeZ (P:=P) ab am ai (by rw[ac];exact hlen) (m.st.kept b _ ah)
    refine⟨w',?_,a2,a3,a4,a5⟩
    simp only[Builtin.clear_,ad,List.getElem?_toArray,List.getElem?_cons_zero,Sem.run_bind,run_underlying hu,Result.andThen_ok,az,a1,Sem.run_pure]
 obtain⟨w',a1,a2,a3,a4,a5⟩:=aj
 have m':=m.named (o':=.cells (ZE cs off (KC z n))) ah a2 a3 a4 a5
 refine YK (L':=L) hN av ag hd hw ax (v:=.tuple #[]) (e:=.d (.tup [])) ?_ a2 m' (Rep.tup [] [] rfl (by simp)) (h aw r k hr aq)
 simp only[execOp,ap,resolve,invoke,builtin,Sem.run_bind,Sem.run_pure,Result.andThen_ok,List.map_toArray,ZE7,ZFo,ak,a1]
def Q9(P:Program)(s:St)(sz:Nat)(dy:D)(m:Nat)(row:Nat→List D):Prop :=
 ∀g w v,Ym g s w→Rep g w v dy→0<sz→∃news,WW g w sz m news row∧Zbf P w sz m v news
theorem Q9.elems{sz:Nat}{dy:D}{m:Nat}(h:Jc sz dy=sO (m,row)):Q9 P s sz dy m row:=fun g w v _ hr h0=>Zlk (P:=P) hr h h0
theorem Q9.msl{sz b off n cap:Nat}{cs:List D}(hcs:Yj s b=sO cs)(hlen:off+n*sz≤cs.length):Q9 P s sz (.msl b off n cap sz) n (fun i=>part cs (off+i*sz) sz):=fun g w v hs hr h0=>by
 obtain⟨hp,u,T,hb,hcl,z,y⟩:=Ja hs hcs
 let vals:=(u.toList.drop off).take (n*sz)
 have t:vals.length=n*sz:=by simp[vals];omega
 have c:∀k,k<n*sz→vals[k]?=u[off+k]?:=fun k hk=>by
  simp only[vals,ZFu,hk,if_true,List.getElem?_drop,Array.getElem?_toList]
 have hk:∀i j,i<n→j<sz→i*sz+j<n*sz:=fun i j hi hj=>by
  have:(i+1)*sz≤n*sz:=ZFg _ hi
  rw[ZFk,Nat.one_mul]at this;omega
 refine⟨vals,⟨t,fun i hi=>?_,fun i j v d hi hj hv hd=>?_,fun v hv=>?_⟩,?_⟩
 ·have:=hk i (sz-1) hi (by omega)
  simp only[part,ZE9,ZFw];omega
 ·rw[c _ (hk i j hi hj)]at hv
  refine z _ v d hv ?_
  simp only[part,ZFu,hj,if_true,List.getElem?_drop]at hd
  rw[←hd];congr 1;omega
 ·obtain⟨k,ab,rfl⟩:=ZFa hv
  have h1:=c k (by omega)
  rw[ZFq ab]at h1
  exact y _ (Array.mem_of_getElem? h1.symm)
 cases hr with
 |mslx a =>
  have:vals=[]:=List.eq_nil_of_length_eq_zero (by simpa using t)
  rw[this]
  exact⟨fun w2=>by simp[Builtin.lenOf],fun w2 _=>by simp[Builtin.firstCells,loadCells,loadCellsFrom]⟩
 |msl _ _ _ _ _ h1 h2 =>
  refine⟨fun w2=>by simp[Builtin.lenOf],fun w2 ad=>?_⟩
  refine run_firstCells_some (P:=P) w2 sz n ⟨b,off,nO⟩ n cap vals t fun k v hv=>?_
  have ac:k<n*sz:=by rw[←t];exact(List.getElem?_eq_some_iff.1 hv).1
  rw[c k ac]at hv
  rw[Ka,JC (ad▸rfl:w2.heap[b]?=w.heap[b]?),ZaG hb]
  exact hv
theorem ZtZ{F:Fr P}{dk:List Zi}{o:DOp}(hg:Zl ρ o.guard=sO true){e sz b:Nat}{z:List D}{x y:Opd}(hk:o.k=.append e sz b z x y){p q:Prop}{t:Tok}{n m:Nat}{row row2:Nat→List D}{dy:D}{dx:D}(hx:ZC ρ true x=sO (p,.d dx))(hsl:ZbD sz dx=sO (t,n,row))(hy:ZC ρ true y=sO (q,.d dy))(hp:p)(hq:q)(hel:Q9 P (s.own t (n*sz)) sz dy m row2)(hok:t.okIn s)(hb:(n+m)*b≤140737488355328)(hbig:n+m≤big)(h:∀t':Tok,t'.okIn s→DO F kp dk os (Zt ρ o.dst (.d (.sl t' (n+m) sz (YT n row row2)))) L (s.own t' ((n+m)*sz))):
  DO F kp dk (o::os) ρ L (s.own t (n*sz)):=by
 refine Wn fun oo g ν w tmps bb i r k ax u aj ae hd hN M hr ba=>?_
 have hw:=Yf M aj hg
 have ay:=Yi u (by rw[hk];rfl)
 rw[hk]at u
 obtain⟨x',y',af,au,t1,t2,tu,aw,c,bc,am,bf,az,a9,ar,hz,ap,al,aq,h0,hzl⟩:=ZbR u
 subst ap
 have ak:Rep g w _ (.sl t n sz row):=Zgf (Yc M al rfl hx hp F.ds) hsl
 have ai:Rep g w _ _:=Yc M aq rfl hy hq F.ds
 obtain⟨zv,hz1,av,hz3,ie,ad,bg⟩:=Q7 (g:=g) (w:=w) hz
 have ab:ie.size=sz:=by simpa[ZW,ad]using ar
 have ac:zv.cells.size=sz:=by have:=av.len;simp at this;omega
 have a0:P.bytesOf e=ie.bytes:=by simp[Program.bytesOf,ad]
 rw[a0]at hb
 obtain⟨news,ao,a8⟩:=hel _ _ _ M.st ai h0
 obtain⟨v',w',g',t',a1,a2,a3,a4,a5,a6,a7⟩:=ZqG (ty:=oo.type) bf az a9 ad bg ab ac h0 M.st hok ak ao a8 hb hbig
 have j:∀l cs,Zg L l=sO cs→t≠.tip (ν l):=fun l cs hl ht=>by
  have:=M.locSt l cs hl
  rw[ht]at this
  simp[St.own,ZFr]at this
 have ag:∀l cs,Zg L l=sO cs→s (ν l)=nO:=fun l cs hl=>by
  cases hx:s (ν l) with
  |none=>rfl
  |some o=>have:=Wm (k:=n*sz) hok _ _ hx;rw[M.locSt l cs hl]at this;simp at this
 have mm:Zr g' ν w' tmps ρ L (s.own t' ((n+m)*sz)):=by
  refine⟨a3,fun l cs hl=>(M.loc l cs hl).mono a2 (a6 (ν l) (M.loc l cs hl).lt (j l cs hl)).1 (a6 (ν l) (M.loc l cs hl).lt (j l cs hl)).2,fun l cs hl=>by rw[a2.keptEq];exact M.locKept l cs hl,fun l cs hl=>?_,M.inj,fun t e he=>(M.env t e he).mono a2⟩
  cases t' with
  |tip b =>
   have:¬ν l=b:=fun hb=>by
    rcases a7 b rfl with h1|h1
    ·exact j l cs hl (by rw[hb];exact h1)
    have:=(M.loc l cs hl).lt;omega
   simp only[St.own,ZFr,this,if_false];exact ag l cs hl
  |_=>exact ag l cs hl
 refine YK hN ax ae hd hw ay (v:=v') (w':=w') (e:=.d (.sl t' (n+m) sz (YT n row row2))) ?_ a2 mm a5 (h t' a4 bb r k hr ba)
 have be:af = #[x',y']:=by apply Array.ext';simpa using c
 have ah:∀vs,Builtin.append_ au oo.type vs=Builtin.append_ #[t1,t2] oo.type vs:=fun vs=>by
  unfold Builtin.append_;simp[bc,am]
 unfold execOp
 simp only[aw,be,resolve,invoke,builtin,Sem.run_bind,Sem.run_pure,Result.andThen_ok,List.map_toArray,ZE7,ZFo,ah,a1]
theorem ZcJ{sz m:Nat}{row:Nat→List D}(h:∀i,i<m→(row i).length=sz):∀k,k≤m→((ZE4 k).flatMap row).length=k*sz
 |0,_=>by simp
 |k+1,hk=>by
  rw[List.range_succ,List.flatMap_append,ZE1,ZcJ h k (by omega)]
  simp[h k hk,ZFk]
theorem Zln{sz m:Nat}{row:Nat→List D}(h:∀i,i<m→(row i).length=sz):∀(k i j:Nat),k≤m→i<k→j<sz→((ZE4 k).flatMap row)[i*sz+j]?=(row i)[j]?
 |0,i,j,_,hi,_=>by omega
 |k+1,i,j,hk,hi,hj=>by
  rw[List.range_succ,List.flatMap_append]
  have hl:=ZcJ h k (by omega)
  by_cases c:i<k
  ·have:i*sz+j<k*sz:=by
    have:(i+1)*sz≤k*sz:=ZFg _ c
    rw[ZFk,Nat.one_mul]at this;omega
   rw[ZFp (by omega)]
   exact Zln h k i j (by omega) c hj
  obtain rfl:i=k:=by omega
  rw[ZFz (by omega),hl]
  simp[List.flatMap_cons]
theorem WW.flat{sz m:Nat}{vs:List Value}(h:WW g w sz m vs row):ZH (Rep g w) vs ((ZE4 m).flatMap row):=by
 have hl:=ZcJ h.rlen m (ZE6 _)
 refine Yh (by rw[h.len,hl]) fun k v d hv hd=>?_
 have hk:k<m*sz:=by rw[←hl];exact(List.getElem?_eq_some_iff.1 hd).1
 have hs:0<sz:=by
  rcases Nat.eq_zero_or_pos sz with h|h
  ·subst h;simp at hk
  exact h
 have h1:k / sz<m:=(Nat.div_lt_iff_lt_mul hs).2 hk
 have h2:k % sz<sz:=Nat.mod_lt _ hs
 have e:k / sz*sz+k % sz=k:=by rw[Nat.mul_comm];exact Nat.div_add_mod k sz
 rw[←e]at hv hd
 rw[Zln h.rlen m _ _ (ZE6 _) h1 h2]at hd
 exact h.rep _ _ v d h1 h2 hv hd
theorem Zw5{F:Fr P}{dk:List Zi}{o:DOp}(hg:Zl ρ o.guard=sO true){e sz b:Nat}{z:List D}{x y:Opd}(hk:o.k=.append e sz b z x y){p q:Prop}{m:Nat}{row row2:Nat→List D}{dy:D}{dx:D}(hx:ZC ρ true x=sO (p,.d dx))(hsl:ZbD sz dx=sO (.full,0,row))(hy:ZC ρ true y=sO (q,.d dy))(hel:Q9 P s sz dy m row2)(hp:p)(hq:q)(hm:0<m)(hb:m*b≤140737488355328)(hbig:m≤big)(h:∀c cap,s c=nO→m≤cap→DO F kp dk os (Zt ρ o.dst (.d (.msl c 0 m cap sz))) L (s.upd c (.cells ((ZE4 m).flatMap row2++List.replicate ((cap-m)*sz) .any)))):
  DO F kp dk (o::os) ρ L s:=by
 refine Wn fun oo g ν w tmps ax i r k aw u bc ac hd hN M hr aq=>?_
 have hw:=Yf M bc hg
 have ay:=Yi u (by rw[hk];rfl)
 rw[hk]at u
 obtain⟨x',y',ag,aj,t1,t2,tu,al,j,a9,au,be,a0,ap,bg,hz,a8,ar,a7,h0,hzl⟩:=ZbR u
 subst a8
 have am:Rep g w _ (.sl .full 0 sz row):=Zgf (Yc M ar rfl hx hp F.ds) hsl
 have ao:Rep g w _ _:=Yc M a7 rfl hy hq F.ds
 obtain⟨zv,hz1,ak,av,ie,t,bf⟩:=Q7 (g:=g) (w:=w) hz
 have ab:ie.size=sz:=by simpa[ZW,t]using bg
 have n:zv.cells.size=sz:=by have:=ak.len;simp at this;omega
 have bb:P.bytesOf e=ie.bytes:=by simp[Program.bytesOf,t]
 rw[bb]at hb
 obtain⟨news,ad,ai⟩:=hel _ _ _ M.st ao h0
 obtain⟨cap,cv,a1,a2,a3,a4,a5,a6⟩:=Zth (ty:=oo.type) be a0 ap t bf ab n av h0 M.st am hm ad ai hb hbig
 have af:JR g w g (w.drew.alloc (.cells cv e)):=Zim (g:=g) (w:=w) cv e M.st.fresh
 have he:=af.ext M.st.fresh
 have az:=ZcJ ad.rlen m (ZE6 _)
 have ah:WO g (w.drew.alloc (.cells cv e)) w.heap.size (.cells ((ZE4 m).flatMap row2++List.replicate ((cap-m)*sz) .any)) :=
  ⟨(M.st.fresh _ (ZE6 _)).1,_,e,Kc w.drew _,by rw[ZE1,az,List.length_replicate,a4,←ZFk];congr 1;omega,fun i v d hv hd=>(a6 i v d hv hd).mono he,a5⟩
 obtain⟨hn,m'⟩:=M.newObj af ah
 refine YK (L':=L) hN aw ac hd hw ay (e:=.d (.msl w.heap.size 0 m cap sz)) ?_ he m' (Rep.msl _ _ _ _ _ a2 a3) (h _ cap hn a2 ax r k hr aq)
 have ba:ag = #[x',y']:=by apply Array.ext';simpa using j
 have ae:∀vs,Builtin.append_ aj oo.type vs=Builtin.append_ #[t1,t2] oo.type vs:=fun vs=>by
  unfold Builtin.append_;simp[a9,au]
 unfold execOp
 simp only[al,ba,resolve,invoke,builtin,Sem.run_bind,Sem.run_pure,Result.andThen_ok,List.map_toArray,ZE7,ZFo,ae,a1]
theorem ZnD{F:Fr P}{dk:List Zi}{o:DOp}(hg:Zl ρ o.guard=sO true){e sz bt:Nat}{z:List D}{x y:Opd}(hk:o.k=.append e sz bt z x y){p q:Prop}{b off n cap m:Nat}{row2:Nat→List D}{dy:D}{cs:List D}(hx:ZC ρ true x=sO (p,.d (.msl b off n cap sz)))(hy:ZC ρ true y=sO (q,.d dy))(hp:p)(hq:q)(hcs:Yj s b=sO cs)(hlen:off+n*sz≤cs.length)(hel:Q9 P s sz dy m row2)(hroom:n+m≤cap→off=0∧(n+m)*sz≤cs.length)(hb:(n+m)*bt≤140737488355328)(hbig:n+m≤big)(h1:n+m≤cap→DO F kp dk os (Zt ρ o.dst (.d (.msl b off (n+m) cap sz))) L (s.upd b (.cells (ZE cs (n*sz) ((ZE4 m).flatMap row2)))))(h2:∀c cap',cap<n+m→s c=nO→n+m≤cap'→DO F kp dk os (Zt ρ o.dst (.d (.msl c 0 (n+m) cap' sz))) L (s.upd c (.cells (part cs off (n*sz)++(ZE4 m).flatMap row2++List.replicate ((cap'-(n+m))*sz) .any)))):
  DO F kp dk (o::os) ρ L s:=by
 refine Wn fun oo g ν w tmps aj i r k ay av bx ad hd hN M hr a7=>?_
 have hw:=Yf M bx hg
 have az:=Yi av (by rw[hk];rfl)
 rw[hk]at av
 obtain⟨x',y',be,cg,t1,t2,tu,ci,ar,cw,b2,a9,a0,a6,cb,hz,ca,b1,ce,h0,hzl⟩:=ZbR av
 subst ca
 have ah:Rep g w _ (.msl b off n cap sz):=Yc M b1 rfl hx hp F.ds
 have bc:Rep g w _ _:=Yc M ce rfl hy hq F.ds
 obtain⟨zv,hz1,ch,cr,ie,ai,cy⟩:=Q7 (g:=g) (w:=w) hz
 have aw:ie.size=sz:=by simpa[ZW,ai]using cb
 have ax:zv.cells.size=sz:=by have:=ch.len;simp at this;omega
 have co:P.bytesOf e=ie.bytes:=by simp[Program.bytesOf,ai]
 rw[co]at hb
 have bb:s b=sO (.cells cs):=by
  unfold Yj at hcs
  split at hcs<;>simp only[ZEP,reduceCtorEq]at hcs
  subst hcs;assumption
 obtain⟨ac,u,al⟩:=hel _ _ _ M.st bc h0
 obtain⟨bk,ao,bg⟩:=Q9.msl (P:=P) (s:=s) (cap:=cap) hcs hlen g w _ M.st ah h0
 have cx:be = #[x',y']:=by apply Array.ext';simpa using ar
 have bq:∀vs,Builtin.append_ cg oo.type vs=Builtin.append_ #[t1,t2] oo.type vs:=fun vs=>by
  unfold Builtin.append_;simp[cw,b2]
 generalize cn:(Act.mk tmps F.ds).eval x'=vx at ah bg
 generalize bz:(Act.mk tmps F.ds).eval y'=vy at bc al
 have ab:∀v' w',(Builtin.append_ #[t1,t2] oo.type #[vx,vy]).run P w=.ok v' w'→(execOp (Act.mk tmps F.ds).eval oo).run P w=.ok (.value v') w':=fun v' w' j=>by
  unfold execOp
  simp only[ci,cx,resolve,invoke,builtin,Sem.run_bind,Sem.run_pure,Result.andThen_ok,List.map_toArray,ZE7,ZFo,bq,cn,bz,j]
 subst aw
 have bw:=ZcJ u.rlen m (ZE6 _)
 have hpl:(part cs off (n*ie.size)).length=n*ie.size:=by simp only[part,ZE9,ZFw];omega
 have bo:(ZE4 n).flatMap (fun i=>part cs (off+i*ie.size) ie.size)=part cs off (n*ie.size):=by
  have hlo:=ZcJ ao.rlen n (ZE6 _)
  apply List.ext_getElem?
  intro k'
  by_cases bi:k'<n*ie.size
  ·have e1:k' / ie.size*ie.size+k' % ie.size=k':=by rw[Nat.mul_comm];exact Nat.div_add_mod k' ie.size
   have e2:k' / ie.size<n:=(Nat.div_lt_iff_lt_mul h0).2 bi
   have e3:k' % ie.size<ie.size:=Nat.mod_lt _ h0
   have:=Zln ao.rlen n _ _ (ZE6 _) e2 e3
   rw[e1]at this
   rw[this]
   simp only[part,ZFu,e3,if_true,List.getElem?_drop,bi]
   congr 1;omega
  rw[ZFA (by omega),ZFA (by omega)]
 have ae:∀base,vx=.slice base n cap→cap<n+m→F.T.T g w (lone (F.b.atR ⟨tmps,F.ds⟩ (.inRegion aj (i::r)::k)) F.cs w):=by
  intro base hv bn
  subst hv
  have j:=Zld (ty:=oo.type) a9 a0 a6 ai cy al bg.2 bn (by simp only[big]at hbig;omega) hb
  have au:=grownCap_ge w (n+m) cap e
  have t:=grownCap_le_maxLen w (n+m) cap e (by simp only[big]at hbig;simp only[maxLen];omega)
  generalize grownCap w (n+m) cap e=cap' at j au t
  generalize bl:(bk++ac++(Builtin.zeroCells zv.cells (cap'-(n+m))).toList).toArray=cv at j
  have cp:(Builtin.zeroCells zv.cells (cap'-(n+m))).toList.length=(cap'-(n+m))*ie.size:=by rw[Array.length_toList,size_zeroCells,ax]
  have bj:JR g w g (w.drew.alloc (.cells cv e)):=Zim (g:=g) (w:=w) cv e M.st.fresh
  have he:=bj.ext M.st.fresh
  have aq:ZH (Rep g w) cv.toList (part cs off (n*ie.size)++(ZE4 m).flatMap row2++List.replicate ((cap'-(n+m))*ie.size) .any):=by
   rw[←bl,←bo]
   refine(ao.flat.append u.flat).append (Yh (by rw[cp,List.length_replicate]) fun k' v d hv hd=>?_)
   rw[List.getElem?_replicate]at hd
   split at hd<;>simp only[ZEP,reduceCtorEq]at hd
   subst hd;exact .any v
  have bp:∀v∈cv,v.one1=true:=fun v hv=>by
   rw[←bl]at hv
   simp only[List.mem_toArray,List.mem_append]at hv
   rcases hv with (hv|hv)|hv
   ·exact ao.one v hv
   ·exact u.one v hv
   simp only[Builtin.zeroCells,Array.mem_toList_iff,Array.mem_map]at hv
   obtain⟨a,_,rfl⟩:=hv
   exact cr _ (by rw[getElem!_pos zv.cells _ (Nat.mod_lt _ (by omega))];exact Array.getElem_mem _)
  have b0:WO g (w.drew.alloc (.cells cv e)) w.heap.size (.cells (part cs off (n*ie.size)++(ZE4 m).flatMap row2++List.replicate ((cap'-(n+m))*ie.size) .any)) :=
   ⟨(M.st.fresh _ (ZE6 _)).1,_,e,Kc w.drew _,by simpa using aq.len,fun i v d hv hd=>(aq.get i v d (by simpa using hv) hd).mono he,bp⟩
  obtain⟨hn,m'⟩:=M.newObj bj b0
  exact YK (L':=L) hN ay ad hd hw az (e:=.d (.msl w.heap.size 0 (n+m) cap' ie.size)) (ab _ _ j) he m' (Rep.msl _ _ _ _ _ au (by simp only[maxLen]at t;simp only[big];omega)) (h2 _ cap' bn hn au aj r k hr a7)
 have ag:∀base,vx=.slice base n cap→base=sO ⟨b,off,nO⟩∨(n+m=0∧cap=0)→n+m≤cap→F.T.T g w (lone (F.b.atR ⟨tmps,F.ds⟩ (.inRegion aj (i::r)::k)) F.cs w):=by
  intro base hv a8 t
  subst hv
  obtain⟨cu,af⟩:=hroom t
  subst cu
  obtain⟨hpr,bh,T,bu,cm,hcr,hco⟩:=Ja M.st hcs
  by_cases br:m=0
  ·subst br
   have bv:ac=[]:=List.eq_nil_of_length_eq_zero (by simpa using u.len)
   subst bv
   have j:=ZoN (ty:=oo.type) (n:=n) (cap:=cap) (base:=base) a9 a0 a6 ai al (by omega)
   have ba:ZE cs (n*ie.size) ((ZE4 0).flatMap row2)=cs:=by simp[ZE]
   have cj:s.upd b (.cells cs)=s:=by funext c;simp only[ZFr];split<;>simp_all
   have bf:=h1 t
   rw[ba,cj]at bf
   exact YK (L':=L) (s':=s) hN ay ad hd hw az (e:=.d (.msl b 0 (n+0) cap ie.size)) (ab _ _ j) (Ext.refl g w) M (by rw[Nat.add_zero];exact ah) (bf aj r k hr a7)
  have ak:base=sO ⟨b,0,nO⟩:=a8.resolve_right (fun h=>br (by omega))
  subst ak
  have ap:n*ie.size+ac.length≤bh.size:=by rw[u.len,←ZFk,cm];exact af
  have j:=ZqH (ty:=oo.type) a9 a0 a6 ai al bu (fun v hv=>by rw[ZcQ];exact u.one v hv) t ap
  obtain⟨w',a1,a2,a3,a4,a5⟩:=ZeZ (P:=P) (off:=n*ie.size) (Ja M.st hcs) u.flat u.one (by rw[bw,←ZFk];exact af) (M.st.kept b _ bb)
  have am:=run_storeCells_at (P:=P) b (n*ie.size) T ac 0 bh w bu (by simpa using ap) (fun v hv=>by rw[ZcQ];exact u.one v hv)
  simp only[Nat.add_zero]at am
  rw[a1]at am
  simp only[Result.ok.injEq,true_and]at am
  rw[←am]at j
  have m':=M.named (o':=.cells (ZE cs (n*ie.size) ((ZE4 m).flatMap row2))) bb a2 a3 a4 a5
  exact YK (L':=L) hN ay ad hd hw az (e:=.d (.msl b 0 (n+m) cap ie.size)) (ab _ _ j) a2 m' (by
   cases ah with
   |msl _ _ _ _ _ _ hcb=>exact Rep.msl _ _ _ _ _ t hcb
   |mslx a=>exact absurd t (by omega)) (h1 t aj r k hr a7)
 cases ah with
 |msl _ _ _ _ _ hc1 hc2 =>
  by_cases t:n+m≤cap
  ·exact ag _ rfl (.inl rfl) t
  exact ae _ rfl (by omega)
 |mslx a =>
  by_cases t:0+m≤0
  ·exact ag _ rfl (.inr ⟨by omega,rfl⟩) t
  exact ae _ rfl (by omega)
end
variable {P:Program}
def K8(o:DOp)(ρ:Env)(L:Loc)(s:St):SR :=
 match o.k with
 |.q (.bin .add _) _=>.stop
 |_=>ZB o ρ L s
def Kt(K:Env→Loc→St→Prop)(X:List DOp→Env→Loc→St→Prop):List DOp→Env→Loc→St→Prop
 | [],ρ,L,s=>K ρ L s
 |o::os,ρ,L,s=>match K8 o ρ L s with
  |.ok side ρ' L' s'=>side∧Kt K X os ρ' L' s'
  |.all side pre ρ' s'=>side∧∀b,pre b→Kt K X os (ρ' b) L (s' b)
  |.stop=>X (o::os) ρ L s
theorem Zhv{o:DOp}:∀r,K8 o ρ L s=r→r=.stop∨ZB o ρ L s=r:=fun r hr=>by
 unfold K8 at hr
 split at hr
 ·exact .inl hr.symm
 exact .inr hr
theorem Kz{F:Fr P}{kp:Option (List Nat)}{dk:List Zi}:∀{os:List DOp} {ρ:Env} {L:Loc} {s:St},
  Kt (fun ρ L s=>Zu F dk (kept kp ρ) (ZjV kp ρ L) s) (fun os ρ L s=>DO F kp dk os ρ L s) os ρ L s→DO F kp dk os ρ L s
 | [],ρ,L,s,h=>Zei h
 |o::os,ρ,L,s,h=>by
  simp only[Kt]at h
  split at h
  ·rename_i sd ρ' L' s' h1
   rcases Zhv _ h1 with h2|h2
   ·cases h2
   exact QB h2 h.1 (Kz h.2)
  ·rename_i sd pre ρ' s' h1
   rcases Zhv _ h1 with h2|h2
   ·cases h2
   exact ZlP h2 h.1 fun b hb=>Kz (h.2 b hb)
  exact h
theorem ZbN{F:Fr P}{ks:List Nat}{dk:List Zi}:∀{os:List DOp} {ρ:Env} {L:Loc} {s:St},
  Kt (fun ρ L s=>Zu F dk (Yp ρ ks) (ZaY (Yp ρ ks) L) s) (fun os ρ L s=>QV F (sO ks) dk os ρ L s) os ρ L s→QV F (sO ks) dk os ρ L s
 | [],ρ,L,s,h=>YZ (os:=[]) h
 |o::os,ρ,L,s,h=>by
  simp only[Kt]at h
  split at h
  ·rename_i sd ρ' L' s' h1
   rcases Zhv _ h1 with h2|h2
   ·cases h2
   intro B
   refine Jq h2 h.1 ?_
   split
   ·exact ZbN h.2 _
   exact⟨ZaZ,ZbN h.2 _⟩
  ·rename_i sd pre ρ' s' h1
   rcases Zhv _ h1 with h2|h2
   ·cases h2
   intro B
   exact ZnB h2 h.1 fun b hb=>⟨ZaZ,ZbN (h.2 b hb) _⟩
  exact h
theorem ZoE{F:Fr P}{dk:List Zi}{o:DOp}(hg:o.guard=nO){x y:Opd}{pl:Option Zaf}(hk:o.k=.q (.bin .add pl) [x,y]){p:Prop}{k:IntKind}{a b:Int}(ha:Yd ρ true [x,y]=sO (p,[.d (.int k a),.d (.int k b)]))(hp:p)(h:QV F kp dk os (Zt ρ o.dst (.d (.int k (k.wrap (a+b))))) L s):QV F kp dk (o::os) ρ L s:=fun B=>Zw4 hg hk ha hp (h B)
section
variable {P:Program} {F:Fr P} {ks:Option (List Nat)} {dk:List Zi} {ρ:Env} {L:Loc} {s:St}
theorem rgR{r os:List DOp}{kt:Option (List Nat)}(e:r=os)(e2:kt=ks)(h:DO F ks dk os ρ L s):Zu F (.code (.reg r kt)::dk) ρ L s:=by subst e e2;exact ZgO h
theorem Zhk{o:List Nat}{r os:List DOp}{kt:Option (List Nat)}(e:r=os)(e2:kt=ks)(h:QV F ks dk os ρ L s):Zu F (.code (.regD o (Zvm r) kt)::dk) ρ L s:=by subst e e2;exact Zt2 h
theorem rgD{o:List Nat}{r os:List (DOp×List Nat)}{kt:Option (List Nat)}(e:r=os)(e2:kt=ks)(h:DOA F ks dk os ρ L s []):Zu F (.code (.regD o r kt)::dk) ρ L s:=by subst e e2;exact ZhV h
end
structure Hid(p:Prop):Prop where
 out:p
theorem nd2{a b:Prop}(x:a)(y:b):a∧b:=⟨x,y⟩
theorem mv{A B:Prop}(k:B)(h:Hid B→A:=by
 intro hk
 repeat(first|refine Zd ?_|refine Zj ?_|refine Z7 ?_|refine Zv ?_|refine Yx ?_|refine Zb ?_|refine Yr ?_|refine ZP rfl ?_)
 exact hk.out):A:=h ⟨k⟩
theorem rg{A B:Prop}(k:B)(h:Hid B→A:=by
 intro hk
 repeat(first|refine Zd ?_|refine Zj ?_|refine Z7 ?_|refine Zv ?_|refine Yx ?_|refine Zb ?_|refine Yr ?_|refine ZP rfl ?_)
 first|refine rgR (by conv=>lhs;whnf) (by conv=>lhs;whnf) (Zm ?_)|refine Zhk (by conv=>lhs;whnf) (by conv=>lhs;whnf) (YZ ?_)|refine rgD (by conv=>lhs;whnf) (by conv=>lhs;whnf) (YJ ?_)
 simp only[Eqs,reduceCtorEq,Int.reduceToNat,reduceIte,Nat.reduceEqDiff,Nat.reduceAdd,Nat.reduceLeDiff]
 exact hk.out):A:=h ⟨k⟩
theorem rx{p:Prop}(e:p){A B:Prop}(k:B)(h:p→Hid B→A:=by
 intro e1 hk
 repeat(first|refine Zd ?_|refine Zj ?_|refine Z7 ?_|refine Zv ?_|refine Yx ?_|refine Zb ?_|refine Yr ?_|refine ZP rfl ?_)
 first|refine rgR (by conv=>lhs;whnf) (by conv=>lhs;whnf) (Zm ?_)|refine Zhk (by conv=>lhs;whnf) (by conv=>lhs;whnf) (YZ ?_)|refine rgD (by conv=>lhs;whnf) (by conv=>lhs;whnf) (YJ ?_)
 simp only[Eqs,reduceCtorEq,Int.reduceToNat,reduceIte,Nat.reduceEqDiff,Nat.reduceAdd,Nat.reduceLeDiff,e1]
 exact hk.out):A:=h e ⟨k⟩
theorem rh{A B:Prop}(k:B)(h:Hid B→A:=by
 intro hk
 repeat(first|refine Zd ?_|refine Zj ?_|refine Z7 ?_|refine Zv ?_|refine Yx ?_|refine Zb ?_|refine Yr ?_|refine ZP rfl ?_)
 first|refine rgR (by conv=>lhs;whnf) (by conv=>lhs;whnf) ?_|refine Zhk (by conv=>lhs;whnf) (by conv=>lhs;whnf) ?_|refine rgD (by conv=>lhs;whnf) (by conv=>lhs;whnf) ?_
 exact hk.out):A:=h ⟨k⟩
theorem aa{A B:Prop}(k:B)(h:Hid B→A:=by
 intro hk
 repeat(refine And.intro (by first|omega|trivial|(intro h0;simp at h0;omega)) ?_)
 exact hk.out):A:=h ⟨k⟩
theorem cl{q:Prop}(c:q){A B:Prop}(k:B)(h:q→Hid B→A:=by
 intro hc hk
 refine JP rfl rfl rfl rfl rfl (by trivial) (by trivial) hc (Zm ?_)
 simp only[Eqs,reduceCtorEq,Int.reduceToNat,reduceIte,Nat.reduceEqDiff,Nat.reduceAdd,Nat.reduceLeDiff]
 exact hk.out):A:=h c ⟨k⟩
theorem ct{q:Prop}(c:q){A B:Prop}(k:B)(h:q→Hid B→A:=by
 intro hc hk
 refine ZaA rfl rfl rfl rfl rfl (by trivial) (by trivial) hc (Zm ?_)
 simp only[Eqs,reduceCtorEq,Int.reduceToNat,reduceIte,Nat.reduceEqDiff,Nat.reduceAdd,Nat.reduceLeDiff]
 exact hk.out):A:=h c ⟨k⟩
theorem cl0{q:Prop}(c:q){A B:Prop}(k:B)(h:q→Hid B→A:=by
 intro hc hk
 refine ZtV rfl rfl rfl rfl rfl (by trivial) (by trivial) hc (YZ ?_)
 simp only[Eqs,reduceCtorEq,Int.reduceToNat,reduceIte,Nat.reduceEqDiff,Nat.reduceAdd,Nat.reduceLeDiff]
 exact hk.out):A:=h c ⟨k⟩
theorem clD{q:Prop}(c:q){A B:Prop}(k:B)(h:q→Hid B→A:=by
 intro hc hk
 refine ZhT rfl rfl rfl rfl rfl (by trivial) (by trivial) hc (YJ ?_)
 simp only[Eqs,reduceCtorEq,Int.reduceToNat,reduceIte,Nat.reduceEqDiff,Nat.reduceAdd,Nat.reduceLeDiff]
 exact hk.out):A:=h c ⟨k⟩
theorem ctD{q:Prop}(c:q){A B:Prop}(k:B)(h:q→Hid B→A:=by
 intro hc hk
 refine ZhU rfl rfl rfl rfl rfl (by trivial) (by trivial) hc (by first|trivial|exact⟨rfl,trivial⟩|simp[Wg,KS]) (YJ ?_)
 simp only[Eqs,reduceCtorEq,Int.reduceToNat,reduceIte,Nat.reduceEqDiff,Nat.reduceAdd,Nat.reduceLeDiff]
 exact hk.out):A:=h c ⟨k⟩
section
variable {P:Program} {F:Fr P} {dk:List Zi} {ρ:Env} {L:Loc} {s:St}
theorem cd{o:Opd}{x y:DC}{b:Bool}{p:Prop}(ht:b=true→Zu F (.code x::dk) ρ L s)(hf:b=false→Zu F (.code y::dk) ρ L s)(ho:ZC ρ true o=sO (p,.d (.bool b)):=by rfl)(hp:p:=by trivial):Zu F (.code (.cond o x y)::dk) ρ L s:=Zs ho hp ht hf
end
theorem rb{p:Prop}(c:p){A B:Prop}(k:B)(h:p→Hid B→A:=by
 intro hret hk
 repeat(first|refine Zd ?_|refine Zj ?_|refine Z7 ?_|refine Zv ?_|refine Yx ?_|refine Zb ?_|refine Yr ?_|refine ZP rfl ?_)
 exact hret rfl (by first|trivial|simp) (Zec hk.out) (by first|exact St.sub_refl _|exact Wm (by first|trivial|assumption)|assumption|exact St.sub_upd _ (by assumption))):A:=h c ⟨k⟩
theorem ri{p:Prop}(c:p){A B:Prop}(k:B)(h:p→Hid B→A:=by
 intro hret hk
 repeat(first|refine Zd ?_|refine Zj ?_|refine Z7 ?_|refine Zv ?_|refine Yx ?_|refine Zb ?_|refine Yr ?_|refine ZP rfl ?_)
 exact hret rfl (by first|trivial|simp) (Zf8 hk.out) (by first|exact St.sub_refl _|exact Wm (by first|trivial|assumption)|assumption|exact St.sub_upd _ (by assumption))):A:=h c ⟨k⟩
theorem rs{p:Prop}(c:p){A B:Prop}(k:B)(h:p→Hid B→A:=by
 intro hret hk
 repeat(first|refine Zd ?_|refine Zj ?_|refine Z7 ?_|refine Zv ?_|refine Yx ?_|refine Zb ?_|refine Yr ?_|refine ZP rfl ?_)
 exact hret rfl (by first|trivial|simp) (ZzK hk.out) (by first|exact St.sub_refl _|exact Wm (by first|trivial|assumption)|assumption|exact St.sub_upd _ (by assumption))):A:=h c ⟨k⟩
theorem ro{p:Prop}(c:p){A B:Prop}(k:B)(h:p→Hid B→A:=by
 intro hret hk
 repeat(first|refine Zd ?_|refine Zj ?_|refine Z7 ?_|refine Zv ?_|refine Yx ?_|refine Zb ?_|refine Yr ?_|refine ZP rfl ?_)
 exact hret rfl (by first|trivial|simp) (ZzI hk.out) (by first|exact St.sub_refl _|exact Wm (by first|trivial|assumption)|assumption|exact St.sub_upd _ (by assumption))):A:=h c ⟨k⟩
theorem rt{p:Prop}(c:p){A B:Prop}(k:B)(h:p→Hid B→A:=by
 intro hret hk
 repeat(first|refine Zd ?_|refine Zj ?_|refine Z7 ?_|refine Zv ?_|refine Yx ?_|refine Zb ?_|refine Yr ?_|refine ZP rfl ?_)
 exact hret rfl (by first|trivial|simp) (JA hk.out rfl) (by first|exact St.sub_refl _|exact Wm (by first|trivial|assumption)|assumption|exact St.sub_upd _ (by assumption))):A:=h c ⟨k⟩
theorem fr{P:Program}{F:Fr P}{x:DC}{dk:List Zi}(N:Nat)(M:Nat→(Env→Loc→St→Prop)→Prop)(h:∀n,(∀m,m<n→∀i,N-i=m→M i fun ρ L s=>Zu F (.code x::.inLoop x::dk) ρ L s)→∀i,N-i=n→M i fun ρ L s=>Zu F (.code x::.inLoop x::dk) ρ L s)(g:(∀n i,N-i=n→M i fun ρ L s=>Zu F (.code x::.inLoop x::dk) ρ L s)→Zu F (.code x::.inLoop x::dk) ρ L s):Zu F (.code (.loop x)::dk) ρ L s :=
 Zfc (g fun n=>Nat.strongRecOn n h)
theorem i0{A B:Prop}(k:B)(h:Hid B→A:=by
 intro hq
 repeat(first|refine Zd ?_|refine Zj ?_|refine Z7 ?_|refine Zv ?_|refine Yx ?_|refine Zb ?_|refine Yr ?_|refine ZP rfl ?_)
 exact Zs rfl trivial (fun h=>by first|(simp at h;done)|(rw[hk]at h;simp at h;done)) (fun _=>hq.out)):A:=h ⟨k⟩
theorem i1{A B:Prop}(k:B)(h:Hid B→A:=by
 intro hq
 repeat(first|refine Zd ?_|refine Zj ?_|refine Z7 ?_|refine Zv ?_|refine Yx ?_|refine Zb ?_|refine Yr ?_|refine ZP rfl ?_)
 exact Zs rfl trivial (fun _=>hq.out) (fun h=>by first|(simp at h;done)|(rw[hk]at h;simp at h;done))):A:=h ⟨k⟩
theorem kl{P:Program}{F:Fr P}{dk:List Zi}(s':St)(ρ':Env)(L':Loc)(h1:LeE ρ ρ')(h2:LeL L L')(h:Zu F dk ρ' L' s')(hs:s'.sub s:=by first|exact St.sub_refl _|exact Wm (by first|trivial|assumption)|exact St.sub_trans (Wm (by first|trivial|assumption)) (Wm (by first|trivial|assumption))|assumption):Zu F dk ρ L s :=
 QF hs (Zyx h1 h2 h)
end Go.DL
namespace Go.DL
open Go
variable {kp:Option (List Nat)}{L:Loc}{ρ:Env}{s:St}{w:World}{os:List DOp}{ds:List D}{B:List (Nat × Rd)}{dst:Option Nat}{tmps:Array Value}{g:G}{Φ:Res→St→Prop}{ν:Nat→Nat}{xs:List Opd}{side:Prop}{row:Nat→List D}
def ZrP:List Int:=[1,10,100,1000,10000,100000,1000000,10000000,100000000,1000000000,10000000000,100000000000,1000000000000,10000000000000,100000000000000,1000000000000000,10000000000000000,100000000000000000,1000000000000000000,10000000000000000000]
instance theTabs:Zqw:=⟨fun n=>match Nat.beq n 3 with
 |true=>sO (ZrP.map fun z=>.int .u64 z)
 |false=>nO⟩
end Go.DL
namespace Go.DL
open Go
variable [Zqw]
variable {kp:Option (List Nat)}{L:Loc}{ρ:Env}{s:St}{w:World}{os:List DOp}{ds:List D}{B:List (Nat × Rd)}{dst:Option Nat}{tmps:Array Value}{g:G}{Φ:Res→St→Prop}{ν:Nat→Nat}{xs:List Opd}{side:Prop}{row:Nat→List D}
def ZrK(T:Tab)(ms:List Nat):Nat→List Nat→List Nat→List Nat×List (Nat×List Nat)×List Nat
 |0,rest,_=>(rest,[],[])
 |n+1,rest,A =>
  let rdy:=rest.filter fun i=>(T.deps i).all fun d=>!rest.contains d
  let free:=fun(i:Nat) (A:List Nat)=>A.filter fun a=>!(ms.getD i 0).testBit a
  let fl:=fun(i:Nat) (A:List Nat) (l:List (Nat×List Nat))=>match (free i A).filter fun a=>YY (T.op a).k with
   | []=>l
   |as9=>(i,as9.map fun a=>ZbM (T.op a))::l
  match rdy.find? fun i=>ZcF T A i&&A.all fun a=>(ms.getD i 0).testBit a ||nd (T.op a).dst (ZA (T.op i)) with
  |some i=>match ZrK T ms n (rest.erase i) (i::A) with
   | (od,f,k)=>(i::od,f,k)
  |none=>match rdy with
   | []=>(rest,[],[])
   | [i]=>match ZrK T ms n (rest.erase i) (free i A) with
    | (od,f,k)=>(i::od,fl i A f,k)
   |i::j::_=>match ZrK T ms n ((rest.erase i).erase j) (free j (free i A)) with
    | (od,f,k)=>(i::j::od,fl i A (fl j A f),i::k)
def bS:List Nat→Nat
 | []=>0
 |a::l=>1 <<< a |||bS l
def bR:List DOp→Nat→Nat
 | [],m=>m
 |o::r,m=>bS (ZA o) |||match o.dst with
  |some d=>bR r m ^^^ (bR r m &&& 1 <<< d)
  |none=>bR r m
abbrev LB:=List (Nat×Nat)
def LB.get(d:Nat):LB→Nat→Nat
 | [],_=>d
 | (j,m)::r,k=>if j=k then m else LB.get d r k
def LB.put:LB→Nat→Nat→LB
 | [],k,m=>[(k,m)]
 | (j,n)::r,k,m=>if j=k then (j,n |||m)::r else (j,n)::LB.put r k m
def lvI(f:Nat→LB→Nat×LB×LB):Nat→Nat→LB→Nat×LB×LB
 |0,m,b=>f m b
 |n+1,m,b=>match f m b with
  | (m',k,b')=>if m' |||m=m then (m,k,b') else lvI f n (m' |||m) b'
def lvS(f:LB→Nat×LB×LB):Nat→LB→Nat×LB×LB
 |0,b=>f b
 |n+1,b=>match f b with
  | (m,k,b')=>if b'=b then (m,k,b') else lvS f n b'
def lvC(P:Program)(N ret:Nat):Code→LB→LB→Nat→Nat×LB×LB
 |.region id ops _,_,b,m=>match Jt P N ops (List.range ops.size) with
  |some l=>(bR l m,[(id,m)],b)
  |none=>(0,[],b)
 |.seq x y,ex,b,m=>match lvC P N ret y ex b m with
  | (m,k,b)=>match lvC P N ret x ex b m with
   | (m,k',b)=>(m,k'++k,b)
 |.cond c x y,ex,b,m=>match lvC P N ret x ex b m,Z3 c with
  | (n,k,b),sO c=>match lvC P N ret y ex b m with
   | (m,k',b)=>(bS (ZR c) |||n |||m,k++k',b)
  |_,nO=>(0,[],b)
 |.block id x,ex,b,m=>lvC P N ret x ((id,m)::ex) b m
 |.loop x,ex,b,_=>lvI (fun m b=>lvC P N ret x ex b m) 9 0 b
 |.exit id,ex,b,_=>(LB.get ret ex id,[],b)
 |.ret,_,b,_=>(ret,[],b)
 |.scope x,ex,b,m=>lvS (fun b=>lvC P N ret x ex b m) 9 b
 |.label l,_,b,m=>(m,[],b.put l m)
 |.goto l,_,b,_=>(LB.get 0 b l,[],b)
 |.rangeFunc f _ x y,ex,b,m0=>match Z3 f,lvI (fun m b=>match lvC P N ret y ex b (m |||m0) with
   | (m1,k,b)=>match lvC P N ret x ex b m1 with
    | (m2,k',b)=>(m2 |||m0 |||m,k++k',b)) 9 0 b with
  |some f,(m,k,b)=>(bS (ZR f) |||m,k,b)
  |none,_=>(0,[],b)
 |_,_,b,m=>(m,[],b)
def fN:Nat→Option Nat
 |0=>sO 0
 |n+1=>sO (n+1)
def fNs:List Nat→Option (List Nat)
 | []=>sO []
 |a::l=>match fN a,fNs l with
  |some a,sO l=>sO (a::l)
  |_,_=>nO
def kpO:Nat→Nat→Nat→Option (List Nat)
 |0,_,_=>sO []
 |n+1,i,m=>match kpO n (i+1) (m / 2) with
  |some l=>if m % 2=1 then match fN i with
   |some i=>sO (i::l)
   |none=>nO
   else sO l
  |none=>nO
def kpM(N m:Nat):Option (List Nat):=kpO N 0 m
def rvM:List RV→Nat
 | []=>0
 |.tmp t::r=>1 <<< t |||rvM r
 |.cell1 t::r=>1 <<< t |||rvM r
 |.cellN t _::r=>1 <<< t |||rvM r
def dOf(P:Program)(N:Nat)(ops:Array Oper):List DOp×List Nat×List (Nat×List Nat)×List Nat :=
 match Jt P N ops (List.range ops.size) with
 |some l=>(l,ZrK (l.zip (ops.toList.map JI)) (Zfp (ops.toList.map JI) []) ops.size (List.range ops.size) [])
 |none=>([],[],[],[])
def anD(P:Program)(N:Nat):Code→Ann
 |.region id ops true=>match dOf P N ops with
  | (_,od,fl,_)=>(id+1000000,od)::fl.map fun x=>(id+1000000*(x.1+4),x.2)
 |.seq a b=>anD P N a++anD P N b
 |.cond _ a b=>anD P N a++anD P N b
 |.block _ a=>anD P N a
 |.loop a=>anD P N a
 |.scope a=>anD P N a
 |.rangeFunc _ _ a b=>anD P N a++anD P N b
 |_=>[]
def lvF(P:Program)(fn:Func)(c:Code):LB :=
 match Zic P fn.results.toList with
 |some rs=>(lvC P fn.ntmps (rvM rs) c [] [] (rvM rs)).2.1
 |none=>[]
def anF(P:Program)(f:FuncId):Ann :=
 match P.funcs[f]? with
 |some fn=>match fn.body with
  |some c=>(lvF P fn c).filterMap (fun x=>(kpM fn.ntmps x.2).map fun k=>(x.1,k))++anD P fn.ntmps c
  |none=>[]
 |none=>[]
def fLL:List (Nat×Nat)→Option (List (Nat×Nat))
 | []=>sO []
 | (a,b)::l=>match fN a,fN b,fLL l with
  |some a,sO b,sO l=>sO ((a,b)::l)
  |_,_,_=>nO
def fCC:List (Nat×SK)→Option (List (Nat×SK))
 | []=>sO []
 | (a,b)::l=>match fN a,fCC l with
  |some a,sO l=>sO ((a,b)::l)
  |_,_=>nO
def fP:Option Zaf→Option (Option Zaf)
 |none=>sO nO
 |some p=>match p with
  |.cells l=>match fCC l with
   |some l=>sO (sO (.cells l))
   |none=>nO
  |p=>sO (sO p)
def plP(P:Program):Op→Option Zaf
 |.binOp _ t x y _=>match P.underlying t with
  |some (.struct fs)=>(Ku P fs.toList).map .cells
  |some (.array n e)=>match K7 P e,ZW P e with
   |some k,sO 1=>sO (.cells ((List.range n).map (·,k)))
   |_,_=>nO
  |_=>Zds P t x y
 |_=>nO
def fQ(P:Program)(op:Op)(q:Q)(xs:List Opd):Option K :=
 match q with
 |.loadN n=>match fN n with
  |some n=>sO (.q (.loadN n) xs)
  |none=>nO
 |.bin o _=>match fP (plP P op) with
  |some p=>sO (.q (.bin o p) xs)
  |none=>nO
 |.faddr n=>match fN n with
  |some n=>sO (.q (.faddr n) xs)
  |none=>nO
 |.fld1 n=>match fN n with
  |some n=>sO (.q (.fld1 n) xs)
  |none=>nO
 |.fldN n m=>match fN n,fN m with
  |some n,sO m=>sO (.q (.fldN n m) xs)
  |_,_=>nO
 |.iaddr n=>match fN n with
  |some n=>sO (.q (.iaddr n) xs)
  |none=>nO
 |.iaddrA n m=>match fN n,fN m with
  |some n,sO m=>sO (.q (.iaddrA n m) xs)
  |_,_=>nO
 |.idxA n m o=>match fN n,fN m with
  |some n,sO m=>sO (.q (.idxA n m o) xs)
  |_,_=>nO
 |.sliceA n m a b c=>match fN n,fN m with
  |some n,sO m=>sO (.q (.sliceA n m a b c) xs)
  |_,_=>nO
 |.slice n a b c=>match fN n with
  |some n=>sO (.q (.slice n a b c) xs)
  |none=>nO
 |.build z l=>match fLL l with
  |some l=>sO (.q (.build z l) xs)
  |none=>nO
 |.mkfn f n=>match fN n with
  |some n=>sO (.q (.mkfn f n) xs)
  |none=>nO
 |q=>sO (.q q xs)
def fK(P:Program)(op:Op):K→Option K
 |.q q xs=>fQ P op q xs
 |.storeN n a v=>match fN n with
  |some n=>sO (.storeN n a v)
  |none=>nO
 |.bsl n s z is xs=>match fN s with
  |some s=>sO (.bsl n s z is xs)
  |none=>nO
 |.append e s b z x y=>match fN s,fN b with
  |some s,sO b=>sO (.append e s b z x y)
  |_,_=>nO
 |.mkslice e s b z x y=>match fN s,fN b with
  |some s,sO b=>sO (.mkslice e s b z x y)
  |_,_=>nO
 |.clear s z x=>match fN s with
  |some s=>sO (.clear s z x)
  |none=>nO
 |.copy s x y=>match fN s with
  |some s=>sO (.copy s x y)
  |none=>nO
 |.pick c a b=>sO (.pick c a b)
 |.alloc z=>sO (.alloc z)
 |.box x=>sO (.box x)
 |.s2b x=>sO (.s2b x)
 |.store1 a v=>sO (.store1 a v)
 |.call f xs=>sO (.call f xs)
 |.defer f xs=>sO (.defer f xs)
 |.mkmap=>sO .mkmap
 |.mapupd a b c d=>sO (.mapupd a b c d)
 |.mapent a b c d=>sO (.mapent a b c d)
 |.entst a b c=>sO (.entst a b c)
 |.panic x=>sO (.panic x)
 |.recover=>sO .recover
 |.delete a b c=>sO (.delete a b c)
 |.fork _=>nO
def fO(P:Program):List (DOp×Oper)→Option (List DOp)
 | []=>sO []
 | (o,r)::l=>match fK P r.op o.k,fO P l,o.dst,o.guard with
  |some k,sO l,sO d,nO=>sO (⟨sO d,nO,k⟩::l)
  |some k,sO l,nO,nO=>sO (⟨nO,nO,k⟩::l)
  |some k,sO l,sO d,sO (t,true)=>sO (⟨sO d,sO (t,true),k⟩::l)
  |some k,sO l,sO d,sO (t,false)=>sO (⟨sO d,sO (t,false),k⟩::l)
  |some k,sO l,nO,sO (t,true)=>sO (⟨nO,sO (t,true),k⟩::l)
  |some k,sO l,nO,sO (t,false)=>sO (⟨nO,sO (t,false),k⟩::l)
  |_,_,_,_=>nO
def ZfL(id:Nat):Code→Option (Array Oper)
 |.region i ops _=>if i=id then sO ops else nO
 |.seq a b=>match ZfL id a with
  |some x=>sO x
  |none=>ZfL id b
 |.cond _ a b=>match ZfL id a with
  |some x=>sO x
  |none=>ZfL id b
 |.block _ a=>ZfL id a
 |.loop a=>ZfL id a
 |.scope a=>ZfL id a
 |.rangeFunc _ _ a b=>match ZfL id a with
  |some x=>sO x
  |none=>ZfL id b
 |_=>nO
def ZuR(fn:Func)(id:Nat):Option (Array Oper):=match fn.body with
 |some c=>ZfL id c
 |none=>nO
def ZAU(P:Program)(fn:Func)(id:Nat):List DOp:=match ZuR fn id with
 |some ops=>match Jt P fn.ntmps ops (List.range ops.size) with
  |some l=>match fO P (l.zip ops.toList) with
   |some l=>l
   |none=>[]
  |none=>[]
 |none=>[]
def ZAT(P:Program)(fn:Func)(id:Nat):List DOp:=match ZuR fn id with
 |some ops=>match dOf P fn.ntmps ops with
  | (l,od,_)=>match fO P (od.map fun i=>(l.zip ops.toList).getD i dE) with
   |some l=>l
   |none=>[]
 |none=>[]
def ZAu(fl:List (Nat×List Nat)):List Nat→List DOp→Option (List (DOp×List Nat))
 |i::od,o::l=>match ZAu fl od l,fl.find? fun x=>x.1==i with
  |some r,sO (_,t)=>match fNs t with
   |some t=>sO ((o,t)::r)
   |none=>nO
  |some r,nO=>sO ((o,[])::r)
  |none,_=>nO
 |_,_=>sO []
def ZAV(P:Program)(fn:Func)(id:Nat):List (DOp×List Nat):=match ZuR fn id with
 |some ops=>match dOf P fn.ntmps ops with
  | (l,od,fl,_)=>match fO P (od.map fun i=>(l.zip ops.toList).getD i dE) with
   |some l=>match ZAu fl od l with
    |some r=>r
    |none=>[]
   |none=>[]
 |none=>[]
def ZAg(P:Program)(fn:Func)(id:Nat):List Nat:=match ZuR fn id with
 |some ops=>(dOf P fn.ntmps ops).2.1
 |none=>[]
def skC(P:Program)(fn:Func)(lv:LB):Code→Option DC
 |.skip=>sO .skip
 |.region id ops true=>match fN (LB.get 0 lv id),(dOf P fn.ntmps ops).2.2.1 with
  |some m,[]=>sO (.regD (ZAg P fn id) (Zvm (ZAT P fn id)) (kpM fn.ntmps m))
  |some m,_::_=>sO (.regD (ZAg P fn id) (ZAV P fn id) (kpM fn.ntmps m))
  |none,_=>nO
 |.region id _ false=>match fN (LB.get 0 lv id) with
  |some m=>sO (.reg (ZAU P fn id) (kpM fn.ntmps m))
  |none=>nO
 |.seq a b=>match skC P fn lv a,skC P fn lv b with
  |some x,sO y=>sO (.seq x y)
  |_,_=>nO
 |.cond c a b=>match Z3 c,skC P fn lv a,skC P fn lv b with
  |some c,sO x,sO y=>sO (.cond c x y)
  |_,_,_=>nO
 |.block id a=>match skC P fn lv a with
  |some x=>sO (.block id x)
  |none=>nO
 |.loop a=>match skC P fn lv a with
  |some x=>sO (.loop x)
  |none=>nO
 |.exit id=>sO (.exit id)
 |.ret=>sO .ret
 |.scope a=>match skC P fn lv a with
  |some x=>sO (.scope x)
  |none=>nO
 |.label l=>sO (.label l)
 |.goto l=>sO (.goto l)
 |.rangeFunc f ps a b=>match Z3 f,skC P fn lv a,skC P fn lv b with
  |some f,sO x,sO y=>sO (.rangeF f ps.toList x y)
  |_,_,_=>nO
 |_=>nO
def skF(P:Program)(fn:Func):DC:=match fn.body with
 |some c=>match skC P fn (lvF P fn c) c with
  |some d=>d
  |none=>.skip
 |none=>.skip
def fR:List RV→Option (List RV)
 | []=>sO []
 |.tmp t::r=>match fR r with
  |some r=>sO (.tmp t::r)
  |none=>nO
 |.cell1 t::r=>match fR r with
  |some r=>sO (.cell1 t::r)
  |none=>nO
 |.cellN t n::r=>match fN n,fR r with
  |some n,sO r=>sO (.cellN t n::r)
  |_,_=>nO
def rsF(P:Program)(fn:Func):List RV:=match Zic P fn.results.toList with
 |some rs=>match fR rs with
  |some rs=>rs
  |none=>[]
 |none=>[]
theorem cR{P:Program}(f:FuncId)(fn:Func){rs:List RV}{b:DC}(h1:rsF P fn=rs:=by conv=>lhs;whnf)(h2:skF P fn=b:=by conv=>lhs;whnf)(h:cf P (anF P f) f=sO ⟨fn.ntmps,rsF P fn,skF P fn⟩:=by kernel_rfl):cf P (anF P f) f=sO ⟨fn.ntmps,rs,b⟩:=h1▸h2▸h
def upT:List Nat→List Zi→List Zi
 |0::r,_::d=>upT r d
 |1::r,.code (.seq a b)::d=>upT r (.code a::.code b::d)
 |2::r,.code (.block i a)::d=>upT r (.code a::.inBlock i::d)
 |_,d=>d
structure Tie{P:Program}(l:List Nat)(X:Fr P→Env→Loc→St→Prop)(A:Prop):Prop
section
variable {P:Program} {F:Fr P} {l:List Nat} {dk:List Zi} {ρ:Env} {L:Loc} {s:St} {ks:Option (List Nat)} {os:List DOp} {ps:List (DOp × List Nat)} {B:List (Nat × Rd)}
theorem tU:Tie l (fun(F:Fr P)=>Zu F (upT l dk)) (Zu F dk ρ L s):=⟨⟩
theorem tO:Tie l (fun(F:Fr P)=>Zu F (upT l dk)) (DO F ks dk os ρ L s):=⟨⟩
theorem tO0:Tie l (fun(F:Fr P)=>Zu F (upT l dk)) (QV F ks dk os ρ L s):=⟨⟩
theorem tOD:Tie l (fun(F:Fr P)=>Zu F (upT l dk)) (DOA F ks dk ps ρ L s B):=⟨⟩
theorem jU(l:List Nat)(J:(Fr P→Env→Loc→St→Prop)→Prop){X:Fr P→Env→Loc→St→Prop}{A:Prop}(h1:J X)(h2:J X→A)(_h:Tie l X A:=by first|exact tU|exact tO|exact tO0|exact tOD):A:=h2 h1
theorem lpU{a:DC}(J:(Fr P→Env→Loc→St→Prop)→Prop)(h1:J fun(F:Fr P)=>Zu F (.code a::.inLoop a::dk))(h2:(J fun(F:Fr P)=>Zu F (.code a::.inLoop a::dk))→Zu F (.code a::.inLoop a::dk) ρ L s):Zu F (.code (.loop a)::dk) ρ L s:=Zfc (h2 h1)
end
end Go.DL
namespace Go.DL
open Go
variable {kp:Option (List Nat)}{L:Loc}{ρ:Env}{s:St}{w:World}{os:List DOp}{ds:List D}{B:List (Nat × Rd)}{dst:Option Nat}{tmps:Array Value}{g:G}{Φ:Res→St→Prop}{ν:Nat→Nat}{xs:List Opd}{side:Prop}{row:Nat→List D}
abbrev Str:=List UInt8
structure ZT where
 field:Str
 factor:Int
deriving Inhabited,DecidableEq
structure Wk where
 base:Int
 terms:List ZT
deriving Inhabited,DecidableEq
structure Yg where
 low:Int
 high:Int
 of:Str
deriving Inhabited,DecidableEq
structure Fld where
 name:Str
 kind:Int
 bits:Int
 little:Bool
 loose:Bool
 low:Int
 high:Int
 size:Wk
 of:Str
 tag:Str
 from_:Str
 cases:List Yg
 check:Int
 key:Int
deriving Inhabited,DecidableEq
structure Msg where
 name:Str
 fields:List Fld
deriving Inhabited,DecidableEq
structure Dfn where
 name:Str
 msgs:List Msg
 start:Str
deriving Inhabited,DecidableEq
def slD{α:Type}[Inhabited α](n:Nat)(f:α→List D)(l:List α):D:=.sl .none l.length n (fun i=>f (l.getD i dE))
def eQ1:=@slD.eq_1
def ZT.cells(t:ZT):List D:=[.str t.field,.int .i64 t.factor]
def eQ8:=@ZT.cells.eq_1
def Yg.cells(c:Yg):List D:=[.int .i64 c.low,.int .i64 c.high,.str c.of]
def YD(l:List ZT):D:=slD 2 ZT.cells l
def eQ5:=@YD.eq_1
def Yy(l:List Yg):D:=slD 3 Yg.cells l
def Wk.cells(s:Wk):List D:=[.int .i64 s.base,YD s.terms]
def eQ7:=@Wk.cells.eq_1
def Fld.cells(f:Fld):List D:=[.str f.name,.int .i64 f.kind,.int .i64 f.bits,.bool f.little,.bool f.loose,.int .i64 f.low,.int .i64 f.high,.int .i64 f.size.base,YD f.size.terms,.str f.of,.str f.tag,.str f.from_,Yy f.cases,.int .i64 f.check,.int .i64 f.key]
def eQ0:=@Fld.cells.eq_1
def Zo(l:List Fld):D:=slD 15 Fld.cells l
def eQ4:=@Zo.eq_1
def Msg.cells(m:Msg):List D:=[.str m.name,Zo m.fields]
def eQ3:=@Msg.cells.eq_1
def YR(l:List Msg):D:=slD 2 Msg.cells l
def eQ6:=@YR.eq_1
def Dfn.cells(d:Dfn):List D:=[.str d.name,YR d.msgs,.str d.start]
def eQ2:=@Dfn.cells.eq_1
theorem Y3{α:Type}[Inhabited α]{n:Nat}{f:α→List D}{l:List α}(h:DWf (slD n f l)):l.length≤big∧∀x∈l,∀c∈f x,DWf c:=by
 obtain⟨h1,h2,h3⟩:=h.sl_inv
 refine⟨h1,fun x hx c hc=>?_⟩
 obtain⟨i,hi,rfl⟩:=ZFa hx
 exact h3 i hi c (by simpa[ZE8,hi]using hc)
structure ZT.Wf(t:ZT):Prop where
 field:t.field.length≤big
 factor:inR .i64 t.factor
structure Yg.Wf(c:Yg):Prop where
 low:inR .i64 c.low
 high:inR .i64 c.high
 of:c.of.length≤big
structure Wk.Wf(s:Wk):Prop where
 base:inR .i64 s.base
 nterms:s.terms.length≤big
 terms:∀t∈s.terms,t.Wf
structure Fld.Wf(f:Fld):Prop where
 name:f.name.length≤big
 kind:inR .i64 f.kind
 bits:inR .i64 f.bits
 low:inR .i64 f.low
 high:inR .i64 f.high
 size:f.size.Wf
 of:f.of.length≤big
 tag:f.tag.length≤big
 from_:f.from_.length≤big
 ncases:f.cases.length≤big
 cases:∀c∈f.cases,c.Wf
 check:inR .i64 f.check
 key:inR .i64 f.key
structure Msg.Wf(m:Msg):Prop where
 name:m.name.length≤big
 nfields:m.fields.length≤big
 fields:∀f∈m.fields,f.Wf
structure Dfn.Wf(d:Dfn):Prop where
 name:d.name.length≤big
 nmsgs:d.msgs.length≤big
 msgs:∀m∈d.msgs,m.Wf
 start:d.start.length≤big
theorem ZT.wf_of{t:ZT}(h:∀c∈t.cells,DWf c):t.Wf:=by
 simp only[ZT.cells,ZFv,List.not_mem_nil,or_false,forall_eq_or_imp,forall_eq]at h
 exact⟨h.1.str_inv,h.2.int_inv⟩
theorem Yg.wf_of{t:Yg}(h:∀c∈t.cells,DWf c):t.Wf:=by
 simp only[Yg.cells,ZFv,List.not_mem_nil,or_false,forall_eq_or_imp,forall_eq]at h
 exact⟨h.1.int_inv,h.2.1.int_inv,h.2.2.str_inv⟩
theorem ZhA{l:List ZT}(h:DWf (YD l)):l.length≤big∧∀t∈l,t.Wf:=⟨(Y3 h).1,fun t ht=>ZT.wf_of ((Y3 h).2 t ht)⟩
theorem ZqN{l:List Yg}(h:DWf (Yy l)):l.length≤big∧∀t∈l,t.Wf:=⟨(Y3 h).1,fun t ht=>Yg.wf_of ((Y3 h).2 t ht)⟩
theorem Wk.wf_of{s:Wk}(h:∀c∈s.cells,DWf c):s.Wf:=by
 simp only[Wk.cells,ZFv,List.not_mem_nil,or_false,forall_eq_or_imp,forall_eq]at h
 exact⟨h.1.int_inv,(ZhA h.2).1,(ZhA h.2).2⟩
theorem Fld.wf_of{f:Fld}(h:∀c∈f.cells,DWf c):f.Wf:=by
 simp only[Fld.cells,ZFv,List.not_mem_nil,or_false,forall_eq_or_imp,forall_eq]at h
 obtain⟨h1,h2,h3,h4,h5,h6,h7,h8,h9,v,j,u,i,n,t⟩:=h
 exact⟨h1.str_inv,h2.int_inv,h3.int_inv,h6.int_inv,h7.int_inv,⟨h8.int_inv,(ZhA h9).1,(ZhA h9).2⟩,v.str_inv,j.str_inv,u.str_inv,(ZqN i).1,(ZqN i).2,n.int_inv,t.int_inv⟩
theorem Zih{l:List Fld}(h:DWf (Zo l)):l.length≤big∧∀t∈l,t.Wf:=⟨(Y3 h).1,fun t ht=>Fld.wf_of ((Y3 h).2 t ht)⟩
theorem Msg.wf_of{m:Msg}(h:∀c∈m.cells,DWf c):m.Wf:=by
 simp only[Msg.cells,ZFv,List.not_mem_nil,or_false,forall_eq_or_imp,forall_eq]at h
 exact⟨h.1.str_inv,(Zih h.2).1,(Zih h.2).2⟩
theorem ZtA{l:List Msg}(h:DWf (YR l)):l.length≤big∧∀t∈l,t.Wf:=⟨(Y3 h).1,fun t ht=>Msg.wf_of ((Y3 h).2 t ht)⟩
theorem Dfn.wf_of{m:Dfn}(h:∀c∈m.cells,DWf c):m.Wf:=by
 simp only[Dfn.cells,ZFv,List.not_mem_nil,or_false,forall_eq_or_imp,forall_eq]at h
 exact⟨h.1.str_inv,(ZtA h.2.1).1,(ZtA h.2.1).2,h.2.2.str_inv⟩
theorem ZtO{s:Wk}(h:DWf (.agg s.cells)):s.Wf:=Wk.wf_of h.agg_inv
theorem ZzT{s:Fld}(h:DWf (.agg s.cells)):s.Wf:=Fld.wf_of h.agg_inv
theorem ZeD{s:Msg}(h:DWf (.agg s.cells)):s.Wf:=Msg.wf_of h.agg_inv
theorem Zgh{s:Dfn}(h:DWf (.agg s.cells)):s.Wf:=Dfn.wf_of h.agg_inv
theorem Zy{α:Type}[Inhabited α]{l:List α}{i:Nat}(h:i<l.length):l.getD i dE∈l:=by
 simp[ZE8,h]
end Go.DL
namespace Go.DL
open Go
variable [Zqw]
variable {kp:Option (List Nat)}{L:Loc}{ρ:Env}{s:St}{w:World}{os:List DOp}{ds:List D}{B:List (Nat × Rd)}{dst:Option Nat}{tmps:Array Value}{g:G}{Φ:Res→St→Prop}{ν:Nat→Nat}{xs:List Opd}{side:Prop}{row:Nat→List D}
def ZhY(P:Program)(fv:D)(n:Nat)(args:Nat→List D)(t:St):Prop :=
 ∀(l:Nat) (go:Nat→Oc) (A:Nat→St→Prop) (a0:St),Zk0 P (.fn (.yield l) [] []) n args go A→A 0 a0→Yb a0 t→WZ P fv [.fn (.yield l) [] []] (a0.or t) fun r S=>∃a,Zf7 n go A a r∧a.sub S
section
variable {P:Program}
theorem ZcC.Y{fv:D}{n:Nat}{args:Nat→List D}{t:St}(h:ZcC P fv n args t):ZhY P fv n args t:=fun _=>h _
theorem KK{F:Fr P}{rs:List RV}{dds:List DD}(hF:YQ F rs Φ dds){o:Opd}{ps:List Nat}{da db:DC}{dk:List Zi}{p:Prop}{fv:D}(hf:ZC ρ true o=sO (p,.d fv))(hp:p)(ks:List Nat)(hks:(Yp ρ ks).map (·.1) |>.Nodup){a0 t:St}(hd:Yb a0 t){n:Nat}{args:Nat→List D}(hit:ZhY P fv n args t)(hlen:∀j,j<n→(args j).length=ps.length)(go:Nat→Oc)(B:Nat→St→Prop)(h0:B 0 a0)(hbody:∀j a,j<n→(∀i,i<j→go i=.next)→B j a→∀(F':Fr P) (ready busy:St),Yb a ready →
   (∀{dk:List Zi} {ρ:Env} {L:Loc},(Yb a busy→Zu F' dk ρ L (a.or busy))→Zu F' (.beginR::dk) ρ L (a.or ready)) →
   Zqv F' busy (fun oc a'=>oc=go j∧B (j+1) a')→Zu F' [.code da,.beginR,.code db] (WP ps (args j) (Kb ks ρ)) [] (a.or ready))(hall:∀q a,(∀i,i<n→go i=.next)→B n a→a q=nO→Zu (F.mark q) dk ρ L (a.upd q .dfr))(hret:∀q a m,m<n→(∀i,i<m→go i=.next)→go m=.stop .ret→B (m+1) a→a q=nO→Zu (F.mark q) (.code .ret::dk) ρ L (a.upd q .dfr))(hexit:∀q a m id,m<n→(∀i,i<m→go i=.next)→go m=.stop (.exit id)→B (m+1) a→a q=nO→Zu (F.mark q) (.code (.exit id)::dk) ρ L (a.upd q .dfr))(hpan:∀q a m d,m<n→(∀i,i<m→go i=.next)→go m=.pan d→B (m+1) a→a q=nO→Y6 (F.mark q) ρ L d (a.upd q .dfr))(hgo:∀m c,go m=.stop c→c=.ret∨∃id,c=.exit id):
  Zu F (.code (.rangeF o ps da db)::dk) ρ L (a0.or t):=by
 refine Zqr hF.roundOf hf hp ks hks fun q l r hq hl v ao ae ap aj aw az aq=>?_
 have ac:a0 q=nO:=by cases h:a0 q with|none=>rfl|some x=>rw[Zq h]at hq;simp at hq
 have ad:a0 l=nO:=by cases h:a0 l with|none=>rfl|some x=>rw[Zq h]at hl;simp at hl
 have av:t q=nO:=by rw[ZG ac]at hq;exact hq
 have a3:t l=nO:=by rw[ZG ad]at hl;exact hl
 let stOf:Nat→LSt:=fun j=>match j with
  |0=>.ready
  |j+1=>match go j with
   |.next=>.ready
   |.stop c=>.done c
   |.pan _=>.busy
 let A:Nat→St→Prop:=fun j S=>∃a,B j a∧Yb a (lpS q l r .ready)∧S=a.or (lpS q l r (stOf j))
 have ak:Yb a0 (lpS q l r .ready):=fun b o hb=>by
  by_cases h1:b=q
  ·rw[h1];exact ac
  by_cases h2:b=l
  ·rw[h2];exact ad
  rw[Zey h1 h2]at hb;simp at hb
 have al:(((a0.or t).upd q .dfr).upd l (.loop r .ready))=(a0.or (lpS q l r .ready)).or t:=by
  funext b
  simp only[ZFr]
  by_cases h2:b=l
  ·subst h2;rw[if_pos rfl,Zq (s:=a0.or _) (by rw[ZG ad];exact Qr v)]
  rw[if_neg h2]
  by_cases h1:b=q
  ·subst h1;rw[if_pos rfl,Zq (s:=a0.or _) (by rw[ZG ac];exact Zat)]
  rw[if_neg h1]
  cases ha:a0 b with
  |some x=>rw[Zq ha,Zq (Zq ha)]
  |none=>rw[ZG ha,ZG (s:=a0.or _) (by rw[ZG ha];exact Zey h1 h2)]
 have au:Yb (a0.or (lpS q l r .ready)) t:=fun b o hb=>by
  rw[ZG (hd b o hb)]
  exact Zey (fun e=>by rw[e,av]at hb;simp at hb) (fun e=>by rw[e,a3]at hb;simp at hb)
 have a5:=hF.ex
 have af:Zk0 P (.fn (.yield l) [] []) n args go A:=by
  rintro j hj ai S ⟨a,ar,u,rfl⟩
  have ay:stOf j=.ready:=by
   cases j with
   |zero=>rfl
   |succ j=>simp only[stOf,ai j (by omega)]
  rw[ay]
  refine ZpC (an:=F.an) (N:=F.N) (r:=r) (by rw[ZG (u l _ (Qr v))];exact Qr v) (by rw[ae];exact hlen j hj) aj aw az (by rw[ae];exact aq) fun F' ag am=>?_
  rw[ao,ae]
  refine hbody j a hj ai ar F' (lpS q l r .ready) (lpS q l r .busy) u (fun hk=>ag.begin (r:=r) (by rw[ZG (u l _ (Qr v))];exact Qr v) ?_) ?_
  ·have e:(a.or (lpS q l r .ready)).upd l (.loop r .busy)=a.or (lpS q l r .busy):=by
    funext b
    simp only[ZFr]
    by_cases h2:b=l
    ·subst h2;rw[if_pos rfl,ZG (u b _ (Qr v)),Qr v]
    rw[if_neg h2]
    by_cases h1:b=q
    ·subst h1;rw[ZG (u b _ Zat),ZG (u b _ Zat),Zat,Zat]
    cases ha:a b with
    |some x=>rw[Zq ha,Zq ha]
    |none=>rw[ZG ha,ZG ha,Zey h1 h2,Zey h1 h2]
   rw[e];exact hk (Zrz u v)
  refine ZsU ag v (by rw[am,ap];exact a5) ?_
  rintro oc a' ⟨rfl,a4⟩ ah
  exact⟨rfl,a',a4,Zrz ah v,rfl⟩
 refine⟨_,by rw[al];exact hit _ go A _ af ⟨a0,h0,ak,rfl⟩ au,?_,?_⟩
 ·rintro d S ⟨S',z,y⟩
  have fin:∀a,Yb a (lpS q l r .ready)→∀st,(a.or (lpS q l r st)).sub S→S l=sO (.loop r st)∧(a.upd q .dfr).sub (S.del l)∧a q=nO:=fun a u st hs=>by
   refine⟨hs l _ (by rw[ZG (u l _ (Qr v))];exact Qr v),fun b o hb=>?_,u q _ Zat⟩
   have ax:b≠l:=fun e=>by
    subst e
    rw[ZE0 _ _ (Ne.symm v),u b _ (Qr v)]at hb;simp at hb
   simp only[St.del,ax,if_false]
   by_cases h1:b=q
   ·subst h1;rw[ZEZ]at hb;exact hs b o (by rw[ZG (u b _ Zat),Zat];exact hb)
   rw[ZE0 _ _ h1]at hb;exact hs b o (Zq hb)
  cases z with
  |all h ha =>
   obtain⟨a,hB,u,rfl⟩:=ha
   have ab:stOf n=.ready:=by
    cases n with
    |zero=>rfl
    |succ n=>simp only[stOf,h n (by omega)]
   rw[ab]at y
   obtain⟨f1,f2,f3⟩:=fin a u _ y
   exact .inl ⟨f1,QF f2 (hall q a h hB f3)⟩
  |stop m c hm h hc ha =>
   obtain⟨a,hB,u,rfl⟩:=ha
   have ab:stOf (m+1)=.done c:=by simp only[stOf,hc]
   rw[ab]at y
   obtain⟨f1,f2,f3⟩:=fin a u _ y
   rcases hgo m c hc with rfl|⟨id,rfl⟩
   ·exact .inr ⟨.ret,.ret,f1,rfl,QF f2 (hret q a m hm h hc hB f3)⟩
   exact .inr ⟨.exit id,.exit id,f1,rfl,QF f2 (hexit q a m id hm h hc hB f3)⟩
 rintro d S ⟨S',z,y⟩
 cases z with
 |pan m d hm h hc ha =>
  obtain⟨a,hB,u,rfl⟩:=ha
  have hs:(a.upd q .dfr).sub S:=fun b o hb=>by
   by_cases h1:b=q
   ·subst h1;rw[ZEZ]at hb;exact y b o (by rw[ZG (u b _ Zat),Zat];exact hb)
   rw[ZE0 _ _ h1]at hb;exact y b o (Zq hb)
  exact Zt8 hs (hpan q a m d hm h hc hB (u q _ Zat))
end
theorem gR0{A B:Prop}(k:B)(h:Hid B→A:=by
 intro hk
 first|refine Zm ?_|refine YZ ?_|refine YJ ?_
 simp only[Eqs,reduceCtorEq,Int.reduceToNat,reduceIte,Nat.reduceEqDiff,Nat.reduceAdd,Nat.reduceLeDiff]
 exact hk.out):A:=h ⟨k⟩
theorem gQ{p:Prop}(e:p){A B:Prop}(k:B)(h:p→Hid B→A:=by
 intro e1 hk
 first|refine Zm ?_|refine YZ ?_|refine YJ ?_
 simp only[Eqs,reduceCtorEq,Int.reduceToNat,reduceIte,Nat.reduceEqDiff,Nat.reduceAdd,Nat.reduceLeDiff,e1]
 exact hk.out):A:=h e ⟨k⟩
theorem kF{A B:Prop}(k:B)(h:Hid B→A:=by
 intro hk
 refine And.intro (by first|trivial|exact⟨rfl,trivial⟩|simp[Wg,KS,YX,Zal]) ?_
 exact hk.out):A:=h ⟨k⟩
theorem cX{p q:Prop}(e:p)(c:q){A B:Prop}(k:B)(h:p→q→Hid B→A:=by
 intro e1 hc hk
 refine JP rfl rfl rfl rfl rfl (by trivial) (by trivial) hc (Zm ?_)
 simp only[Eqs,reduceCtorEq,Int.reduceToNat,reduceIte,Nat.reduceEqDiff,Nat.reduceAdd,Nat.reduceLeDiff,e1]
 exact hk.out):A:=h e c ⟨k⟩
theorem tX{p q:Prop}(e:p)(c:q){A B:Prop}(k:B)(h:p→q→Hid B→A:=by
 intro e1 hc hk
 refine ZaA rfl rfl rfl rfl rfl (by trivial) (by trivial) hc (Zm ?_)
 simp only[Eqs,reduceCtorEq,Int.reduceToNat,reduceIte,Nat.reduceEqDiff,Nat.reduceAdd,Nat.reduceLeDiff,e1]
 exact hk.out):A:=h e c ⟨k⟩
theorem cG{q:Prop}(c:q){A B:Prop}(k:B)(h:q→Hid B→A:=by
 intro hc hk
 refine ZbO rfl rfl rfl rfl rfl (fun hcg=>⟨by first|trivial|(simpa[Za8]using hcg),trivial,hc⟩) (Zm ?_)
 simp only[Eqs,reduceCtorEq,Int.reduceToNat,reduceIte,Nat.reduceEqDiff,Nat.reduceAdd,Nat.reduceLeDiff]
 exact hk.out):A:=h c ⟨k⟩
theorem cW{q:Prop}(c:q){A B:Prop}(k:B)(h:q→Hid B→A:=by
 intro hc hk
 refine Zt0 rfl rfl rfl rfl rfl (by trivial) (by trivial) hc (Zm ?_)
 simp only[Eqs,reduceCtorEq,Int.reduceToNat,reduceIte,Nat.reduceEqDiff,Nat.reduceAdd,Nat.reduceLeDiff]
 exact hk.out):A:=h c ⟨k⟩
theorem cV{q:Prop}(c:q){A B C:Prop}(k:B)(k2:C)(h:q→Hid B→Hid C→A:=by
 intro hc hk hk2
 exact ZjF rfl rfl rfl rfl rfl (by trivial) (by trivial) hc hk.out hk2.out):A:=h c ⟨k⟩ ⟨k2⟩
theorem vV{q:Prop}(c:q){A B C:Prop}(k:B)(k2:C)(h:q→Hid B→Hid C→A:=by
 intro hc hk hk2
 exact Zej rfl rfl rfl rfl rfl (by trivial) (by trivial) hc hk.out hk2.out):A:=h c ⟨k⟩ ⟨k2⟩
theorem cV0{q:Prop}(c:q){A B C:Prop}(k:B)(k2:C)(h:q→Hid B→Hid C→A:=by
 intro hc hk hk2
 exact Zvr rfl rfl rfl rfl rfl (by trivial) (by trivial) hc hk.out hk2.out):A:=h c ⟨k⟩ ⟨k2⟩
theorem cXD{p q:Prop}(e:p)(c:q){A B:Prop}(k:B)(h:p→q→Hid B→A:=by
 intro e1 hc hk
 refine ZhT rfl rfl rfl rfl rfl (by trivial) (by trivial) hc (YJ ?_)
 simp only[Eqs,reduceCtorEq,Int.reduceToNat,reduceIte,Nat.reduceEqDiff,Nat.reduceAdd,Nat.reduceLeDiff,e1]
 exact hk.out):A:=h e c ⟨k⟩
theorem tXD{p q:Prop}(e:p)(c:q){A B:Prop}(k:B)(h:p→q→Hid B→A:=by
 intro e1 hc hk
 refine ZhU rfl rfl rfl rfl rfl (by trivial) (by trivial) hc (by first|trivial|exact⟨rfl,trivial⟩|simp[Wg,KS]) (YJ ?_)
 simp only[Eqs,reduceCtorEq,Int.reduceToNat,reduceIte,Nat.reduceEqDiff,Nat.reduceAdd,Nat.reduceLeDiff,e1]
 exact hk.out):A:=h e c ⟨k⟩
theorem cGD{q:Prop}(c:q){A B:Prop}(k:B)(h:q→Hid B→A:=by
 intro hc hk
 refine ZlO rfl rfl rfl rfl rfl (fun hcg=>⟨by first|trivial|(simpa[Za8]using hcg),trivial,hc⟩) (YJ ?_)
 simp only[Eqs,reduceCtorEq,Int.reduceToNat,reduceIte,Nat.reduceEqDiff,Nat.reduceAdd,Nat.reduceLeDiff]
 exact hk.out):A:=h c ⟨k⟩
theorem cWD{q:Prop}(c:q){A B:Prop}(k:B)(h:q→Hid B→A:=by
 intro hc hk
 refine ZzC rfl rfl rfl rfl rfl (by trivial) (by trivial) hc (by first|trivial|exact⟨rfl,trivial⟩|simp[Wg,KS]) (YJ ?_)
 simp only[Eqs,reduceCtorEq,Int.reduceToNat,reduceIte,Nat.reduceEqDiff,Nat.reduceAdd,Nat.reduceLeDiff]
 exact hk.out):A:=h c ⟨k⟩
theorem cVD{q:Prop}(c:q){A B C:Prop}(k:B)(k2:C)(h:q→Hid B→Hid C→A:=by
 intro hc hk hk2
 exact ZgN rfl rfl rfl rfl rfl (by trivial) (by trivial) hc hk.out hk2.out):A:=h c ⟨k⟩ ⟨k2⟩
theorem gA{A B:Prop}(k:B)(h:Hid B→A:=by
 intro hq
 repeat(first|refine Zd ?_|refine Zj ?_|refine Z7 ?_|refine Zv ?_|refine Yx ?_|refine Zb ?_|refine Yr ?_|refine ZP rfl ?_)
 first|refine rgR (by conv=>lhs;whnf) (by conv=>lhs;whnf) (Zm ?_)|refine Zhk (by conv=>lhs;whnf) (by conv=>lhs;whnf) (YZ ?_)|refine rgD (by conv=>lhs;whnf) (by conv=>lhs;whnf) (YJ ?_)
 simp only[Eqs,reduceCtorEq,Int.reduceToNat,reduceIte,Nat.reduceEqDiff,Nat.reduceAdd,Nat.reduceLeDiff]
 repeat(refine And.intro (by first|omega|trivial|(intro h0;simp at h0;omega)) ?_)
 exact hq.out):A:=h ⟨k⟩
theorem xA{p:Prop}(e:p){A B:Prop}(k:B)(h:p→Hid B→A:=by
 intro e1 hq
 repeat(first|refine Zd ?_|refine Zj ?_|refine Z7 ?_|refine Zv ?_|refine Yx ?_|refine Zb ?_|refine Yr ?_|refine ZP rfl ?_)
 first|refine rgR (by conv=>lhs;whnf) (by conv=>lhs;whnf) (Zm ?_)|refine Zhk (by conv=>lhs;whnf) (by conv=>lhs;whnf) (YZ ?_)|refine rgD (by conv=>lhs;whnf) (by conv=>lhs;whnf) (YJ ?_)
 simp only[Eqs,reduceCtorEq,Int.reduceToNat,reduceIte,Nat.reduceEqDiff,Nat.reduceAdd,Nat.reduceLeDiff,e1]
 repeat(refine And.intro (by first|omega|trivial|(intro h0;simp at h0;omega)) ?_)
 exact hq.out):A:=h e ⟨k⟩
theorem gG{A B:Prop}(k:B)(h:Hid B→A:=by
 intro hq
 repeat(first|refine Zd ?_|refine Zj ?_|refine Z7 ?_|refine Zv ?_|refine Yx ?_|refine Zb ?_|refine Yr ?_|refine ZP rfl ?_)
 first|refine rgR (by conv=>lhs;whnf) (by conv=>lhs;whnf) (Zm ?_)|refine Zhk (by conv=>lhs;whnf) (by conv=>lhs;whnf) (YZ ?_)|refine rgD (by conv=>lhs;whnf) (by conv=>lhs;whnf) (YJ ?_)
 simp only[Eqs,reduceCtorEq,Int.reduceToNat,reduceIte,Nat.reduceEqDiff,Nat.reduceAdd,Nat.reduceLeDiff]
 repeat(first|refine Zd ?_|refine Zj ?_|refine Z7 ?_|refine Zv ?_|refine Yx ?_|refine Zb ?_|refine Yr ?_|refine ZP rfl ?_)
 first|refine rgR (by conv=>lhs;whnf) (by conv=>lhs;whnf) (Zm ?_)|refine Zhk (by conv=>lhs;whnf) (by conv=>lhs;whnf) (YZ ?_)|refine rgD (by conv=>lhs;whnf) (by conv=>lhs;whnf) (YJ ?_)
 simp only[Eqs,reduceCtorEq,Int.reduceToNat,reduceIte,Nat.reduceEqDiff,Nat.reduceAdd,Nat.reduceLeDiff]
 exact hq.out):A:=h ⟨k⟩
theorem iG{A B:Prop}(k:B)(h:Hid B→A:=by
 intro hq
 repeat(first|refine Zd ?_|refine Zj ?_|refine Z7 ?_|refine Zv ?_|refine Yx ?_|refine Zb ?_|refine Yr ?_|refine ZP rfl ?_)
 refine Zs rfl trivial (fun h=>by first|(simp at h;done)|(rw[hk]at h;simp at h;done)) (fun _=>?_)
 repeat(first|refine Zd ?_|refine Zj ?_|refine Z7 ?_|refine Zv ?_|refine Yx ?_|refine Zb ?_|refine Yr ?_|refine ZP rfl ?_)
 first|refine rgR (by conv=>lhs;whnf) (by conv=>lhs;whnf) (Zm ?_)|refine Zhk (by conv=>lhs;whnf) (by conv=>lhs;whnf) (YZ ?_)|refine rgD (by conv=>lhs;whnf) (by conv=>lhs;whnf) (YJ ?_)
 simp only[Eqs,reduceCtorEq,Int.reduceToNat,reduceIte,Nat.reduceEqDiff,Nat.reduceAdd,Nat.reduceLeDiff]
 exact hq.out):A:=h ⟨k⟩
theorem gI{A B:Prop}(k:B)(h:Hid B→A:=by
 intro hq
 repeat(first|refine Zd ?_|refine Zj ?_|refine Z7 ?_|refine Zv ?_|refine Yx ?_|refine Zb ?_|refine Yr ?_|refine ZP rfl ?_)
 first|refine rgR (by conv=>lhs;whnf) (by conv=>lhs;whnf) (Zm ?_)|refine Zhk (by conv=>lhs;whnf) (by conv=>lhs;whnf) (YZ ?_)|refine rgD (by conv=>lhs;whnf) (by conv=>lhs;whnf) (YJ ?_)
 simp only[Eqs,reduceCtorEq,Int.reduceToNat,reduceIte,Nat.reduceEqDiff,Nat.reduceAdd,Nat.reduceLeDiff]
 repeat(first|refine Zd ?_|refine Zj ?_|refine Z7 ?_|refine Zv ?_|refine Yx ?_|refine Zb ?_|refine Yr ?_|refine ZP rfl ?_)
 refine Zs rfl trivial (fun h=>by first|(simp at h;done)|(rw[hk]at h;simp at h;done)) (fun _=>?_)
 exact hq.out):A:=h ⟨k⟩
section
variable {P:Program} {F:Fr P} {dk:List Zi} {ρ:Env} {L:Loc} {s:St}
theorem xP{A:Prop}{t:St}{B:Nat→Prop}(l:Nat)(k:∀b,t b=nO→B b)(h:∀n,n=l→(∀b,t b=nO→Hid (B b))→A:=by
 intro n hn hk
 refine Zc0 n (by rw[hn];rfl) fun b hb=>?_
 simp only[hn,Eqs,reduceCtorEq,Int.reduceToNat,reduceIte,Nat.reduceEqDiff,Nat.reduceAdd,Nat.reduceLeDiff,JN,Q5,delL]
 exact(hk b hb).out):A:=h l rfl fun b hb=>⟨k b hb⟩
theorem kE{A B:Prop}(l:List Nat)(k:B)(h:∀n,n=l→Hid B→A:=by
 intro n hn hk
 refine Zdf n ?_
 simp only[hn,Eqs,reduceCtorEq,Int.reduceToNat,reduceIte,Nat.reduceEqDiff,Nat.reduceAdd,Nat.reduceLeDiff]
 exact hk.out):A:=h l rfl ⟨k⟩
end
end Go.DL
namespace Go.DL
open Go Go.Proofs
variable {kp:Option (List Nat)}{L:Loc}{ρ:Env}{s:St}{w:World}{os:List DOp}{ds:List D}{B:List (Nat × Rd)}{dst:Option Nat}{tmps:Array Value}{g:G}{Φ:Res→St→Prop}{ν:Nat→Nat}{xs:List Opd}{side:Prop}{row:Nat→List D}
def Zdr(c:UInt8):Bool:=(dC ((65:Int)≤c.toNat)&&dC ((c.toNat:Int)≤90)) ||(dC ((97:Int)≤c.toNat)&&dC ((c.toNat:Int)≤122))
def ZjQ(c:UInt8):Bool:=dC ((48:Int)≤c.toNat)&&dC ((c.toNat:Int)≤57)
def Jg(c:UInt8):Bool:=Zdr c ||ZjQ c ||decide ((c.toNat:Int)=95)
def Yl(s:Str):Bool:=match s with
 | []=>false
 |c::_=>dC (s.length≤32)&&Zdr c&&s.all Jg
def QP(v:Int):Bool:=dC (-1048576≤v)&&dC (v≤1048576)
theorem ZhG(c:UInt8):Zc ZEQ 187 [.int .u8 c.toNat] (.bool (Zdr c)):=by
 refine Ze (cR 187 f187) fun F st i=>?_
 refine gG ?_
 refine rb i ?_
 rfl
theorem ZrW(c:UInt8):Zc ZEQ 188 [.int .u8 c.toNat] (.bool (ZjQ c)):=by
 refine Ze (cR 188 f188) fun F st i=>?_
 refine gG ?_
 refine rb i ?_
 rfl
theorem ZiM(v:Int):Zc ZEQ 278 [.int .i64 v] (.bool (QP v)):=by
 refine Ze (cR 278 f278) fun F st c=>?_
 refine gG ?_
 refine rb c ?_
 simp only[QP]
theorem Zw9(s:Str)(k:Nat)(h:k<s.length):(s.drop k).all Jg=(Jg (s.getD k 0)&&(s.drop (k+1)).all Jg):=by
 rw[List.drop_eq_getElem_cons h,List.all_cons];simp[ZE8,h]
theorem Zbn(s:Str):Zc ZEQ 148 [.str s] (.bool (Yl s)):=by
 refine ZJ (cR 148 f148) fun t F st i=>?_
 have hs:=(t (.str s) (by simp)).str_inv
 unfold big at hs
 refine rg ?_
 refine gA ?_
 refine cG (ZhG _) ?_
 refine cd (fun hc=>?_) (fun hc=>?_)
 ·refine rg ?_
  refine rb i ?_
  cases s with|nil=>rfl|cons c r=>(simp[Yl]at hc⊢;intro h1 h2;simp[h2]at hc;omega)
 refine rg ?_
 have he:Yl s=(s.drop 0).all Jg:=by
  cases s with
  |nil=>simp at hc
  |cons c r=>simp at hc;simp[Yl,hc];omega
 refine Zb ?_
 refine lpU (fun Q=>∀n k,n+k=s.length→Yl s=(s.drop k).all Jg→Q F [(0,.d (.str s)),(3,.d (.int .i64 k))] [] st) ?_ fun u=>?_
 ·intro n
  induction n with
  |zero =>
   intro k hk he
   refine rg ?_
   refine cd (fun hd=>?_) (fun hd=>?_)
   ·simp at hd;omega
   refine rg ?_
   refine rb i ?_
   rw[he,show k=s.length by omega];simp
  |succ n ih =>
   intro k hk he
   have j:=Zw9 s k (by omega)
   refine rg ?_
   refine cd (fun hd=>?_) (fun hd=>?_)
   ·refine gA ?_
    refine cl (ZhG _) ?_
    refine aa ?_
    refine cG (ZrW _) ?_
    refine aa ?_
    refine cd (fun h3=>?_) (fun h3=>?_)
    ·refine rg ?_
     have hn:Jg (s.getD k 0)=false:=by
      cases h1:Zdr (s.getD k 0)<;>cases h2:ZjQ (s.getD k 0)<;>simp_all[Jg]
     refine rb i ?_
     rw[he,j,hn];rfl
    refine gA ?_
    refine Za ?_
    have hn:Jg (s.getD k 0)=true:=by
     cases h1:Zdr (s.getD k 0)<;>cases h2:ZjQ (s.getD k 0)<;>simp_all[Jg]
    exact ih (k+1) (by omega) (by rw[he,j,hn];rfl)
   simp at hd;omega
 exact u s.length 0 (by omega) he
end Go.DL
namespace Go.DL
open Go
variable {kp:Option (List Nat)}{L:Loc}{ρ:Env}{s:St}{w:World}{os:List DOp}{ds:List D}{B:List (Nat × Rd)}{dst:Option Nat}{tmps:Array Value}{g:G}{Φ:Res→St→Prop}{ν:Nat→Nat}{xs:List Opd}{side:Prop}{row:Nat→List D}
theorem Wt{α:Type}[Inhabited α]{l:List α}{k:Nat}(h:k<l.length):l.drop k=l.getD k dE::l.drop (k+1):=by
 rw[List.drop_eq_getElem_cons h];simp[ZE8,h]
theorem Z0{α:Type}[Inhabited α]{l:List α}{k:Nat}(h:k<l.length):l.take (k+1)=l.take k++[l.getD k dE]:=by
 rw[List.take_succ_eq_append_getElem h];simp[ZE8,h]
theorem J6{α:Type}[Inhabited α]{l:List α}{k:Nat}{x:α}(hk:k≤l.length):x∈l.take k↔∃j,j<k∧l.getD j dE=x:=by
 constructor
 ·intro h
  obtain⟨j,hj,rfl⟩:=ZFa h
  simp only[ZE9]at hj
  exact⟨j,by omega,by simp[ZE8,show j<l.length by omega]⟩
 rintro⟨j,hj,rfl⟩
 rw[List.mem_take_iff_getElem]
 exact⟨j,by omega,by simp[ZE8,show j<l.length by omega]⟩
theorem Ziw{α:Type}[Inhabited α]{β:Type}{f:α→β}{l:List α}{k:Nat}(hk:k≤l.length)(x:β):x∈(l.take k).map f↔∃j,j<k∧f (l.getD j dE)=x:=by
 simp only[List.mem_map]
 constructor
 ·rintro⟨a,ha,rfl⟩
  obtain⟨j,hj,rfl⟩:=(J6 hk).1 ha
  exact⟨j,hj,rfl⟩
 rintro⟨j,hj,rfl⟩
 exact⟨_,(J6 hk).2 ⟨j,hj,rfl⟩,rfl⟩
def ZV{α:Type}[Inhabited α](f:α→List D)(row:Nat→List D)(l:List α):Prop:=∀i,i<l.length→row i=f (l.getD i dE)
section
variable {α:Type} [Inhabited α] {f:α→List D} {row row2:Nat→List D} {l a b:List α}
theorem ZV.self:ZV f (fun i=>f (l.getD i dE)) l:=fun _ _=>rfl
theorem ZV.nil:ZV f row []:=fun i h=>absurd h (Nat.not_lt_zero i)
theorem ZV.one{x:α}(h:row 0=f x):ZV f row [x]:=fun i hi=>by
 obtain rfl:i=0:=by simp at hi;exact hi
 exact h
theorem ZV.app{n:Nat}(h:ZV f row a)(h2:ZV f row2 b)(hn:n=a.length):ZV f (YT n row row2) (a++b):=fun i hi=>by
 subst hn
 unfold YT
 split
 ·rename_i h1;rw[h i h1];simp[ZE8,ZFp h1]
 rename_i h1
 rw[h2 (i-a.length) (by simp at hi;omega)];simp[ZE8,ZFz (Nat.not_lt.1 h1)]
theorem ZV.snoc{n:Nat}{x:α}(h:ZV f row a)(h2:row2 0=f x)(hn:n=a.length):ZV f (YT n row row2) (a++[x]):=h.app (.one h2) hn
theorem ZV.take(h:ZV f row l)(k:Nat):ZV f row (l.take k):=fun i hi=>by
 rw[ZE9]at hi
 rw[h i (by omega)];simp[ZE8,List.getElem?_take_of_lt (show i<k by omega)]
theorem ZV.le{t:Tok}{n s:Nat}(h:ZV f row l)(hn:n=l.length):(D.sl t n s row).Le (slD s f l):=Zyn hn fun i hi=>h i (by omega)
end
open Go.Proofs
def KG(t:ZT):Bool:=Yl t.field&&!dC (t.factor=0)&&QP t.factor
def KN:List Str→List ZT→Bool
 |_,[]=>true
 |seen,t::r=>KG t&&!dC (t.field∈seen)&&KN (seen++[t.field]) r
def ZN(s:Wk):Bool:=QP s.base&&dC (s.terms.length≤4)&&KN [] s.terms
theorem ZiL(s:Wk):Zc ZEQ 263 [.agg s.cells] (.bool (ZN s)):=by
 refine ZJ (cR 263 f263) fun y F st t=>?_
 have hw:=(ZtO (s:=s) (y _ (by simp))).nterms
 unfold big at hw
 clear y
 refine rx (nd2 @eQ7 (nd2 @eQ5 @eQ1)) ?_
 refine rg ?_
 refine cl (ZiM _) ?_
 refine cd (fun hc=>?_) (fun hc=>?_)
 ·refine rg ?_
  refine rb t ?_
  simp[ZN];cases h:QP s.base<;>simp[h]at hc⊢;intro h2;omega
 have he:ZN s=KN ((s.terms.take 0).map (·.field)) (s.terms.drop 0):=by
  simp[ZN]at hc⊢;simp[hc];intro h;omega
 refine rg ?_
 refine Zb ?_
 refine lpU (fun Q=>∀n i,n+i=s.terms.length→ZN s=KN ((s.terms.take i).map (·.field)) (s.terms.drop i)→Q F [(1,.loc 1 0),(3,.d (.int .i64 i))] [(1,[.int .i64 s.base,.sl .none s.terms.length 2 fun i=>(s.terms.getD i dE).cells])] st) ?_ fun ac=>?_
 ·intro n
  induction n with
  |zero =>
   intro i hi he
   refine rg ?_
   refine cd (fun hd=>?_) (fun hd=>?_)
   ·simp at hd;omega
   refine rg ?_
   refine rb t ?_
   rw[he,show i=s.terms.length by omega];simp[KN]
  |succ n ih =>
   intro i hi he
   have hdr:=Wt (l:=s.terms) (k:=i) (by omega)
   have ab:=Z0 (l:=s.terms) (k:=i) (by omega)
   rw[hdr]at he
   simp only[KN]at he
   generalize hx:s.terms.getD i dE=x at *
   refine rg ?_
   refine cd (fun hd=>?_) (fun hd=>?_)
   ·refine xA (nd2 @eQ8 @hx) ?_
    refine cl (Zbn _) ?_
    refine aa ?_
    refine ZbO rfl rfl rfl rfl rfl (fun af=>⟨by first|trivial|(simpa[Za8]using af),trivial,ZiM _⟩) (Zm ?_)
    simp only[Eqs,reduceCtorEq,ZEV,reduceIte,ZET,ZEX,ZEU,ZT.cells,hx]
    refine cd (fun h3=>?_) (fun h3=>?_)
    ·refine rg ?_
     have:KG x=false:=by revert h3;unfold KG;generalize Yl x.field=a;generalize dC (x.factor=0)=b;generalize QP x.factor=c;cases a<;>cases b<;>cases c<;>decide
     refine rb t ?_
     rw[he,this];rfl
    have ad:KG x=true:=by revert h3;unfold KG;generalize Yl x.field=a;generalize dC (x.factor=0)=b;generalize QP x.factor=c;cases a<;>cases b<;>cases c<;>decide
    refine rg ?_
    refine Zb ?_
    refine lpU (fun Q=>∀m j,m+j=i→(∀j',j'<j→(s.terms.getD j' dE).field≠x.field)→Q F [(1,.loc 1 0),(3,.d (.int .i64 i)),(4,.d (.int .i64 j))] [(1,[.int .i64 s.base,.sl .none s.terms.length 2 fun i=>(s.terms.getD i dE).cells])] st) ?_ fun z=>?_
    ·intro m
     induction m with
     |zero =>
      intro j hj v
      refine rg ?_
      refine cd (fun h4=>?_) (fun h4=>?_)
      ·simp at h4;omega
      refine gA ?_
      refine Za ?_
      refine ih (i+1) (by omega) ?_
      have u:x.field∉(s.terms.take i).map (·.field):=by
       intro h
       obtain⟨j',h1,h2⟩:=(Ziw (f:=(·.field)) (l:=s.terms) (k:=i) (by omega) x.field).1 h
       exact v j' (by omega) h2
      rw[he,ad,decide_eq_false u,ab];simp
     |succ m ih2 =>
      intro j hj v
      refine rg ?_
      refine cd (fun h4=>?_) (fun h4=>?_)
      ·refine xA (nd2 @eQ8 @hx) ?_
       refine cd (fun h5=>?_) (fun h5=>?_)
       ·refine rg ?_
        have u:x.field∈(s.terms.take i).map (·.field):=(Ziw (f:=(·.field)) (l:=s.terms) (k:=i) (by omega) x.field).2 ⟨j,by omega,by simpa using h5⟩
        refine rb t ?_
        rw[he,decide_eq_true u];simp
       refine gA ?_
       refine Za ?_
       refine ih2 (j+1) (by omega) fun j' hj'=>?_
       by_cases ae:j'=j
       ·subst ae;simpa using h5
       exact v j' (by omega)
      simp at h4;omega
    exact z i 0 (by omega) (fun j' h=>by omega)
   simp at hd;omega
 exact ac s.terms.length 0 (by omega) he
structure Ran where
 name:Str
 low:Int
 high:Int
deriving Inhabited,DecidableEq
def Ran.cells(r:Ran):List D:=[.str r.name,.int .i64 r.low,.int .i64 r.high]
def Za3(l:List Ran):D:=slD 3 Ran.cells l
def YB(s:Str):List Ran→Int
 | []=>-1
 |x::r=>if 0≤YB s r then YB s r+1 else if x.name=s then 0 else -1
theorem Zrt(s:Str)(l:List Ran):-1≤YB s l:=by
 induction l with
 |nil=>simp[YB]
 |cons x r ih=>simp only[YB];split<;>(try split)<;>omega
theorem Zru(s:Str)(l:List Ran):YB s l<l.length:=by
 induction l with
 |nil=>simp[YB]
 |cons x r ih=>simp only[YB,ZE5];split<;>(try split)<;>omega
theorem ZmE(s:Str)(l:List Ran)(x:Ran):YB s (l++[x])=if x.name=s then (l.length:Int) else YB s l:=by
 induction l with
 |nil=>simp[YB]
 |cons y r ih =>
  simp only[List.cons_append,YB,ih,ZE5]
  have:=Zrt s r
  by_cases h:x.name=s<;>simp[h]
theorem ZeM(l:List Ran)(s:Str):Zc ZEQ 279 [Za3 l,.str s] (.int .i64 (YB s l)):=by
 refine ZJ (cR 279 f279) fun t F st u=>?_
 have hw:=(Y3 (t (Za3 l) (by simp))).1
 unfold big at hw
 clear t
 refine rx (nd2 @Za3.eq_1 @eQ1) ?_
 refine gG ?_
 refine Zb (fr (l.length) (fun i Q=>i≤l.length→Q [(0,.d (Za3 l)),(1,.d (.str s)),(5,.d (.int .i64 (YB s (l.take i)))),(6,.d (.int .i64 i))] [] st) (fun n j=>?_) fun v=>?_)
 ·intro i hn hi
  have hge:=Zrt s (l.take i)
  refine rx (nd2 @Za3.eq_1 @eQ1) ?_
  refine cd (fun hd=>?_) (fun hd=>?_)
  ·simp at hd
   refine xA @Ran.cells.eq_1 ?_
   refine cd (fun h5=>?_) (fun h5=>?_)
   ·refine rg ?_
    refine gA ?_
    have:YB s (l.take (i+1))=i:=by rw[Z0 (by omega),ZmE,if_pos (by simpa using h5)];simp;omega
    refine Za ?_
    have c:=j ((l.length)-(i+1)) (by omega) (i+1) rfl (by omega)
    rw[this]at c
    exact c
   refine gA ?_
   have:YB s (l.take (i+1))=YB s (l.take i):=by rw[Z0 (by omega),ZmE,if_neg (by simpa using h5)]
   refine Za ?_
   have c:=j ((l.length)-(i+1)) (by omega) (i+1) rfl (by omega)
   rw[this]at c
   exact c
  refine rg ?_
  refine ri u ?_
  simp at hd;rw[List.take_of_length_le (by omega)]
 exact v _ 0 rfl (by omega)
abbrev Kr:=Str→Option (Int×Int)
def QN(r:Int×Int):Bool:=dC (r.1<0) ||decide (r.2<r.1) ||decide (34359738368≤r.2)
def WA(look:Kr)(t:ZT):Bool:=match look t.field with|some r=>QN r|none=>false
def YG(look:Kr)(t:ZT):Bool:=(look t.field).isNone
def Jd(s:Wk)(look:Kr):Int:=if ZN s=false then 2 else if s.terms.any (WA look) then 2 else if s.terms.any (YG look) then 9 else 0
def QZ(look:Kr)(t:ZT):Int×Int:=(look t.field).getD (0,0)
def loT(look:Kr)(t:ZT):Int:=if 0<t.factor then t.factor*(QZ look t).1 else t.factor*(QZ look t).2
def hiT(look:Kr)(t:ZT):Int:=if 0<t.factor then t.factor*(QZ look t).2 else t.factor*(QZ look t).1
def loS(look:Kr):List ZT→Int
 | []=>0
 |t::r=>loT look t+loS look r
def hiS(look:Kr):List ZT→Int
 | []=>0
 |t::r=>hiT look t+hiS look r
def YL(s:Wk)(look:Kr):Int×Int×Int:=if Jd s look=0 then (s.base+loS look s.terms,s.base+hiS look s.terms,0) else (0,0,Jd s look)
def Zbd(look:Kr)(t:ZT)(mix:Nat):Int:=t.factor*(if mix % 2=1 then (QZ look t).2 else (QZ look t).1)
def JG(look:Kr):List ZT→Nat→Int
 | [],_=>0
 |t::r,mix=>Zbd look t mix+JG look r (mix / 2)
structure Zk4(look:Kr)(t:ZT):Prop where
 le:(QZ look t).1≤(QZ look t).2
 lo:0≤(QZ look t).1
 hi:(QZ look t).2<34359738368
 f1:-1048576≤t.factor
 f2:t.factor≤1048576
theorem ZAa{f v:Int}(h1:-1048576≤f)(h2:f≤1048576)(h3:0≤v)(h4:v<34359738368):-36028797018963968≤f*v∧f*v≤36028797018963968:=by
 have a:f*v≤1048576*v:=Int.mul_le_mul_of_nonneg_right h2 h3
 have b:-1048576*v≤f*v:=Int.mul_le_mul_of_nonneg_right h1 h3
 omega
theorem Zk4.ends_mix{look:Kr}{t:ZT}(h:Zk4 look t)(m:Nat):-36028797018963968≤Zbd look t m∧Zbd look t m≤36028797018963968:=by
 have a:=h.le;have b:=h.lo;have c:=h.hi
 unfold Zbd;split
 ·exact ZAa h.f1 h.f2 (by omega) c
 exact ZAa h.f1 h.f2 b (by omega)
theorem Zk4.lo_le{look:Kr}{t:ZT}(h:Zk4 look t)(m:Nat):loT look t≤Zbd look t m∧Zbd look t m≤hiT look t:=by
 have a:=h.le
 unfold loT hiT Zbd
 by_cases hf:0<t.factor
 ·have:=Int.mul_le_mul_of_nonneg_left a (show 0≤t.factor by omega)
  simp only[hf,if_true];split<;>omega
 have:=Int.mul_le_mul_of_nonpos_left (show t.factor≤0 by omega) a
 simp only[hf,if_false];split<;>omega
theorem Zwd{look:Kr}{l:List ZT}(h:∀t∈l,Zk4 look t)(m:Nat):loS look l≤JG look l m∧JG look l m≤hiS look l:=by
 induction l generalizing m with
 |nil=>simp[loS,JG,hiS]
 |cons t r ih =>
  have:=(h t (by simp)).lo_le m
  have:=ih (fun t ht=>h t (by simp[ht])) (m / 2)
  simp only[loS,JG,hiS];omega
theorem ZAI{look:Kr}(l:List ZT):(∃m,m<2 ^ l.length∧JG look l m=loS look l)∧∃m,m<2 ^ l.length∧JG look l m=hiS look l:=by
 induction l with
 |nil=>exact⟨⟨0,by simp,rfl⟩,⟨0,by simp,rfl⟩⟩
 |cons t r ih =>
  obtain⟨⟨m,hm,he⟩,⟨n,hn,hf⟩⟩:=ih
  simp only[ZE5,Nat.pow_succ,loS,JG,hiS,loT,hiT]
  by_cases c:0<t.factor
  ·refine⟨⟨2*m,by omega,?_⟩,⟨2*n+1,by omega,?_⟩⟩
   ·rw[show 2*m / 2=m by omega,he];simp[Zbd,c]
   rw[show(2*n+1) / 2=n by omega,hf];simp[Zbd,c,show(2*n+1) % 2=1 by omega]
  refine⟨⟨2*m+1,by omega,?_⟩,⟨2*n,by omega,?_⟩⟩
  ·rw[show(2*m+1) / 2=m by omega,he];simp[Zbd,c,show(2*m+1) % 2=1 by omega]
  rw[show 2*n / 2=n by omega,hf];simp[Zbd,c]
theorem Zwh{look:Kr}{l:List ZT}{i:Nat}(h:i<l.length)(m:Nat):JG look (l.drop i) (m / 2 ^ i)=Zbd look (l.getD i dE) (m / 2 ^ i)+JG look (l.drop (i+1)) (m / 2 ^ (i+1)):=by
 rw[Wt h,JG,Nat.div_div_eq_div_mul,Nat.pow_succ]
structure ZnA(look:Kr)(l:List ZT)(b:Int)(k:Nat)(low high:Int):Prop where
 zero:k=0→low=0∧high=0
 le:∀m,m<k→low≤b+JG look l m∧b+JG look l m≤high
 ex:0<k→(∃m,m<k∧low=b+JG look l m)∧∃m,m<k∧high=b+JG look l m
theorem ZnA.fin{look:Kr}{l:List ZT}{b low high:Int}(h:ZnA look l b (2 ^ l.length) low high)(hl:∀t∈l,Zk4 look t):low=b+loS look l∧high=b+hiS look l:=by
 obtain⟨⟨m,hm,he⟩,⟨n,hn,hf⟩⟩:=ZAI (look:=look) l
 obtain⟨⟨m',hm',he'⟩,⟨n',hn',hf'⟩⟩:=h.ex (Nat.two_pow_pos _)
 have h1:=h.le m hm
 have h2:=h.le n hn
 have h3:=Zwd hl m'
 have h4:=Zwd hl n'
 omega
theorem ZnA.step{look:Kr}{l:List ZT}{b low high:Int}{k:Nat}{n low' high':Int}(h:ZnA look l b k low high)(hn:n=b+JG look l k)(h1:low'=if k=0∨n<low then n else low)(h2:high'=if k=0∨high<n then n else high):ZnA look l b (k+1) low' high':=by
 by_cases hk:k=0
 ·subst hk
  simp only[true_or,if_true]at h1 h2
  refine⟨by omega,fun m hm=>?_,fun _=>⟨⟨0,by omega,by omega⟩,⟨0,by omega,by omega⟩⟩⟩
  obtain rfl:m=0:=by omega
  omega
 simp only[hk,false_or]at h1 h2
 obtain⟨⟨m',hm',i⟩,⟨n',hn',c⟩⟩:=h.ex (by omega)
 refine⟨by omega,fun m hm=>?_,fun _=>⟨?_,?_⟩⟩
 ·rcases Nat.lt_succ_iff_lt_or_eq.1 hm with hm|rfl
  ·have:=h.le m hm
   constructor
   ·rw[h1];split<;>omega
   rw[h2];split<;>omega
  constructor
  ·rw[h1];split<;>omega
  rw[h2];split<;>omega
 ·rw[h1];split
  ·exact⟨k,by omega,hn⟩
  exact⟨m',by omega,i⟩
 rw[h2];split
 ·exact⟨k,by omega,hn⟩
 exact⟨n',by omega,c⟩
theorem Zox{seen:List Str}{l:List ZT}(h:KN seen l=true):∀t∈l,KG t=true:=by
 induction l generalizing seen with
 |nil=>simp
 |cons x r ih =>
  simp only[KN,ZEY]at h
  intro t ht
  rcases List.mem_cons.1 ht with rfl|ht
  ·exact h.1.1
  exact ih h.2 t ht
structure ZlW(s:Wk):Prop where
 b1:-1048576≤s.base
 b2:s.base≤1048576
 len:s.terms.length≤4
 f1:∀t∈s.terms,-1048576≤t.factor
 f2:∀t∈s.terms,t.factor≤1048576
 f0:∀t∈s.terms,t.factor≠0
 nm:∀t∈s.terms,Yl t.field=true
theorem ZlW.of{s:Wk}(h:ZN s=true):ZlW s:=by
 simp only[ZN,ZEY,decide_eq_true_eq,QP]at h
 have ht:=Zox h.2
 refine⟨h.1.1.1,h.1.1.2,h.1.2,?_,?_,?_,?_⟩<;>intro t h'<;>have:=ht t h'<;>simp[KG,QP]at this<;>simp_all
def Wc(l:List Ran):Kr:=fun s=>if YB s l<0 then nO else sO ((l.getD (YB s l).toNat dE).low,(l.getD (YB s l).toNat dE).high)
theorem ZgR{α:Type}[Inhabited α]{p:α→Bool}{l:List α}{i:Nat}(h:i<l.length):(l.take (i+1)).any p=((l.take i).any p ||p (l.getD i dE)):=by
 rw[Z0 h,List.any_append];simp
theorem ZqD{α:Type}[Inhabited α]{p:α→Bool}{l:List α}{i:Nat}(h:i<l.length)(hp:p (l.getD i dE)=true):l.any p=true :=
 List.any_eq_true.2 ⟨_,Zy h,hp⟩
theorem ZmT(s:Wk)(l:List Ran):Zc ZEQ 264 [.agg s.cells,Za3 l] (.tup [.int .i64 (YL s (Wc l)).1,.int .i64 (YL s (Wc l)).2.1,.int .i64 (YL s (Wc l)).2.2]):=by
 refine ZJ (cR 264 f264) fun au F st ae=>?_
 have hw:=(ZtO (s:=s) (au _ (by simp))).nterms
 have a5:=(Y3 (au (Za3 l) (by simp))).1
 unfold big at hw a5
 clear au
 refine rx (nd2 @eQ7 (nd2 @eQ5 @eQ1)) ?_
 refine rg ?_
 refine cX (nd2 @eQ7 (nd2 @eQ5 @eQ1)) (ZiL s) ?_
 refine cd (fun hc=>?_) (fun hc=>?_)
 ·refine rg ?_
  simp at hc
  refine rt ae ?_
  simp[YL,Jd,hc]
 simp at hc
 have hv:=ZlW.of hc
 refine gG ?_
 refine Zb (fr (s.terms.length) (fun i Q=>i≤s.terms.length→(s.terms.take i).any (WA (Wc l))=false→Q [(1,.d (Za3 l)),(2,.loc 2 0),(7,.d (.bool ((s.terms.take i).any (YG (Wc l))))),(8,.d (.int .i64 i))] [(2,[.int .i64 s.base,YD s.terms])] st) (fun n ac=>?_) fun a4=>?_)
 ·intro i hn hi v
  refine rx (nd2 @eQ5 @eQ1) ?_
  refine cd (fun hd=>?_) (fun hd=>?_)
  ·simp at hd
   have am:=ZgR (p:=WA (Wc l)) hd
   have ak:=ZgR (p:=YG (Wc l)) hd
   refine xA (nd2 @eQ8 (nd2 @eQ5 @eQ1)) ?_
   refine cl (ZeM l _) ?_
   refine rg ?_
   refine cd (fun h5=>?_) (fun h5=>?_)
   ·refine rg ?_
    refine gA ?_
    have ar:YG (Wc l) (s.terms.getD i dE)=true:=by simp only[YG,Wc];rw[if_pos (of_decide_eq_true h5)];rfl
    have ah:WA (Wc l) (s.terms.getD i dE)=false:=by simp only[WA,Wc];rw[if_pos (of_decide_eq_true h5)]
    rw[ar,Bool.or_true]at ak
    rw[ah,Bool.or_false]at am
    refine Za ?_
    have y:=ac ((s.terms.length)-(i+1)) (by omega) (i+1) rfl (by omega) (by rw[am,v])
    rw[ak]at y
    exact y
   have hge:=Zru (s.terms.getD i dE).field l
   have av:¬YB (s.terms.getD i dE).field l<0:=of_decide_eq_false h5
   refine xA (nd2 @Ran.cells.eq_1 (nd2 @Za3.eq_1 @eQ1)) ?_
   have ar:YG (Wc l) (s.terms.getD i dE)=false:=by simp only[YG,Wc];rw[if_neg av];rfl
   have ah:WA (Wc l) (s.terms.getD i dE)=QN ((l.getD (YB (s.terms.getD i dE).field l).toNat dE).low,(l.getD (YB (s.terms.getD i dE).field l).toNat dE).high):=by simp only[WA,Wc];rw[if_neg av]
   refine cd (fun h6=>?_) (fun h6=>?_)
   ·refine rg ?_
    rw[←QN.eq_1 (_,_)]at h6
    rw[h6]at ah
    have:=ZqD hd ah
    refine rt ae ?_
    simp[YL,Jd,hc,this]
   refine gA ?_
   rw[show QN (_,_)=false from h6]at ah
   rw[ar,Bool.or_false]at ak
   rw[ah,Bool.or_false]at am
   refine Za ?_
   have y:=ac ((s.terms.length)-(i+1)) (by omega) (i+1) rfl (by omega) (by rw[am,v])
   rw[ak]at y
   exact y
  simp at hd
  obtain rfl:i=s.terms.length:=by omega
  rw[ZFc]at v
  rw[ZFc]
  refine rg ?_
  refine cd (fun h7=>?_) (fun h7=>?_)
  ·refine rg ?_
   refine rt ae ?_
   simp[YL,Jd,hc,v,h7]
  have aj:∀t∈s.terms,Zk4 (Wc l) t:=by
   intro t ht
   have h1:=List.any_eq_false.1 v t ht
   have h2:=List.any_eq_false.1 h7 t ht
   simp only[WA,YG,Wc]at h1 h2
   have ag:¬YB t.field l<0:=fun h=>h2 (by rw[if_pos h];rfl)
   rw[if_neg ag]at h1
   simp[QN]at h1
   refine⟨?_,?_,?_,hv.f1 t ht,hv.f2 t ht⟩<;>simp only[QZ,Wc]<;>rw[if_neg ag]<;>simp<;>omega
  have he:Jd s (Wc l)=0:=by simp[Jd,hc,v,h7]
  have ao:∀t∈s.terms,0≤YB t.field l∧QZ (Wc l) t=((l.getD (YB t.field l).toNat dE).low,(l.getD (YB t.field l).toNat dE).high):=by
   intro t ht
   have h:=List.any_eq_false.1 h7 t ht
   simp only[YG,Wc]at h
   by_cases ag:YB t.field l<0
   ·rw[if_pos ag]at h;simp at h
   simp only[QZ,Wc];rw[if_neg ag];exact⟨by omega,rfl⟩
  have a6:Zji .i64 1 (s.terms.length:Int)=((2 ^ s.terms.length:Nat):Int):=by
   have:=hv.len
   generalize s.terms.length=n at this
   match n,this with
   |0,_=>decide
   |1,_=>decide
   |2,_=>decide
   |3,_=>decide
   |4,_=>decide
   |n+5,h=>omega
  have hle16:2 ^ s.terms.length≤16:=by
   have:=hv.len
   exact Nat.pow_le_pow_right (n:=2) (by omega) this
  clear ac v h7 hn hi hd
  refine gG ?_
  refine Zb (fr ((2 ^ s.terms.length)) (fun k Q=>∀low af,k≤2 ^ s.terms.length→ZnA (Wc l) s.terms s.base k low af→Q [(1,.d (Za3 l)),(2,.loc 2 0),(10,.d (.int .i64 low)),(11,.d (.int .i64 af)),(12,.d (.int .i64 k))] [(2,[.int .i64 s.base,YD s.terms])] st) (fun n c=>?_) fun a3=>?_)
  ·intro k hn low af hk hb
   have h2n:=Nat.two_pow_pos s.terms.length
   refine xA (nd2 @eQ5 (nd2 @eQ1 @a6)) ?_
   refine cd (fun h8=>?_) (fun h8=>?_)
   ·have az:k<2 ^ s.terms.length:=by have:=of_decide_eq_true h8;omega
    clear h8
    refine gG ?_
    have hbase:∀j,j≤s.terms.length→True:=fun _ _=>trivial
    refine Zb (fr (s.terms.length) (fun j Q=>∀x,j≤s.terms.length→x+JG (Wc l) (s.terms.drop j) (k / 2 ^ j)=s.base+JG (Wc l) s.terms k→-1048576-j*36028797018963968≤x→x≤1048576+j*36028797018963968→Q [(1,.d (Za3 l)),(2,.loc 2 0),(10,.d (.int .i64 low)),(11,.d (.int .i64 af)),(12,.d (.int .i64 k)),(13,.d (.int .i64 x)),(14,.d (.int .i64 j))] [(2,[.int .i64 s.base,YD s.terms])] st) (fun n ad=>?_) fun aw=>?_)
    ·intro j hn3 x hj hx hx1 hx2
     have hlen:=hv.len
     refine rx (nd2 @eQ5 @eQ1) ?_
     refine cd (fun h9=>?_) (fun h9=>?_)
     ·simp at h9
      have ab:=Zwh (look:=Wc l) h9 k
      have hf:=aj _ (Zy h9)
      have ax:=hf.ends_mix (k / 2 ^ j)
      have ai:=ao _ (Zy h9)
      have ag:=Zru (s.terms.getD j dE).field l
      have a0:Zjj .i64 (k:Int) (j:Int)=((k / 2 ^ j:Nat):Int):=by
       unfold Zjj
       rw[Int.toNat_natCast,show Nat.min j IntKind.i64.bits=j from Nat.min_eq_left (show j≤IntKind.i64.bits by simp[IntKind.bits];omega)]
       rw[Int.fdiv_eq_ediv_of_nonneg _ (by exact_mod_cast Nat.zero_le _)]
       simp
      have hk2:k / 2 ^ j≤k:=Nat.div_le_self _ _
      have ay:Int.tmod ((k / 2 ^ j:Nat):Int) 2=((k / 2 ^ j % 2:Nat):Int):=by simp[Int.tmod]
      generalize hq:k / 2 ^ j=q at *
      refine xA (nd2 @eQ8 (nd2 @Ran.cells.eq_1 (nd2 @eQ5 @eQ1))) ?_
      refine cX (nd2 @Ran.cells.eq_1 (nd2 @Za3.eq_1 @eQ1)) (ZeM l _) ?_
      refine aa ?_
      refine rg ?_
      refine xA (nd2 @a0 @ay) ?_
      refine cd (fun aq=>?_) (fun aq=>?_)
      ·simp at aq
       have ap:Zbd (Wc l) (s.terms.getD j dE) q=(s.terms.getD j dE).factor*(l.getD (YB (s.terms.getD j dE).field l).toNat dE).high:=by
        unfold Zbd;rw[ai.2,if_pos (by omega)]
       refine rg ?_
       refine rx (nd2 @eQ8 (nd2 @eQ5 @eQ1)) ?_
       rw[ap]at ax ab
       generalize (s.terms.getD j dE).factor*(l.getD (YB (s.terms.getD j dE).field l).toNat dE).high=p at *
       refine aa ?_
       refine gA ?_
       refine Za ?_
       exact ad ((s.terms.length)-(j+1)) (by omega) (j+1) rfl _ (by omega) (by rw[←hx,ab];omega) (by omega) (by omega)
      simp at aq
      have ap:Zbd (Wc l) (s.terms.getD j dE) q=(s.terms.getD j dE).factor*(l.getD (YB (s.terms.getD j dE).field l).toNat dE).low:=by
       unfold Zbd;rw[ai.2,if_neg (by omega)]
      refine rx (nd2 @eQ8 (nd2 @eQ5 @eQ1)) ?_
      rw[ap]at ax ab
      generalize (s.terms.getD j dE).factor*(l.getD (YB (s.terms.getD j dE).field l).toNat dE).low=p at *
      refine aa ?_
      refine gA ?_
      refine Za ?_
      exact ad ((s.terms.length)-(j+1)) (by omega) (j+1) rfl _ (by omega) (by rw[←hx,ab];omega) (by omega) (by omega)
     simp at h9
     obtain rfl:j=s.terms.length:=by omega
     have al:x=s.base+JG (Wc l) s.terms k:=by rw[List.drop_length,JG,Int.add_zero]at hx;exact hx
     refine rg ?_
     refine cd (fun z=>?_) (fun z=>?_)
     ·refine gG ?_
      refine cd (fun u=>?_) (fun u=>?_)
      ·refine rg ?_
       refine gA ?_
       refine Za ?_
       exact c (((2 ^ s.terms.length))-(k+1)) (by omega) (k+1) rfl _ _ (by omega) (hb.step al (by simp at z;simp[z]<;>omega) (by simp at u;simp[u]<;>omega))
      refine gA ?_
      refine Za ?_
      exact c (((2 ^ s.terms.length))-(k+1)) (by omega) (k+1) rfl _ _ (by omega) (hb.step al (by simp at z;simp[z]<;>omega) (by simp at u;simp[u]<;>omega))
     refine rg ?_
     refine cd (fun u=>?_) (fun u=>?_)
     ·refine rg ?_
      refine gA ?_
      refine Za ?_
      exact c (((2 ^ s.terms.length))-(k+1)) (by omega) (k+1) rfl _ _ (by omega) (hb.step al (by simp at z;simp[z]<;>omega) (by simp at u;simp[u]<;>omega))
     refine gA ?_
     refine Za ?_
     exact c (((2 ^ s.terms.length))-(k+1)) (by omega) (k+1) rfl _ _ (by omega) (hb.step al (by simp at z;simp[z]<;>omega) (by simp at u;simp[u]<;>omega))
    exact aw _ 0 rfl s.base (by omega) (by simp) (by have:=hv.b1;omega) (by have:=hv.b2;omega)
   have az:¬k<2 ^ s.terms.length:=fun h=>of_decide_eq_false h8 (by exact_mod_cast h)
   obtain rfl:k=2 ^ s.terms.length:=Nat.le_antisymm hk (Nat.not_lt.1 az)
   obtain⟨rfl,rfl⟩:=hb.fin aj
   refine rg ?_
   refine rt ae ?_
   unfold YL;rw[if_pos he]
  exact a3 _ 0 rfl 0 0 (Nat.zero_le _) ⟨by simp,by simp,by simp⟩
 exact a4 _ 0 rfl (by omega) (by simp)
theorem Zuw{α β:Type}[Inhabited α]{f:β→α→β}{b:β}{l:List α}{i:Nat}(h:i<l.length):(l.take (i+1)).foldl f b=f ((l.take i).foldl f b) (l.getD i dE):=by
 rw[Z0 h,List.foldl_append];rfl
def Zk{α:Type}(p:α→Bool):List α→Int
 | []=>-1
 |x::r=>if p x then 0 else if Zk p r<0 then -1 else Zk p r+1
theorem WM{α:Type}{p:α→Bool}{l:List α}(h:∀x∈l,p x=false):Zk p l=-1:=by
 induction l with
 |nil=>rfl
 |cons x r ih=>simp[Zk,h x (by simp),ih (fun y hy=>h y (by simp[hy]))]
theorem Ke{α:Type}[Inhabited α]{p:α→Bool}{l:List α}{i:Nat}(hi:i<l.length)(hp:p (l.getD i dE)=true)(h:∀j,j<i→p (l.getD j dE)=false):Zk p l=i:=by
 induction l generalizing i with
 |nil=>simp at hi
 |cons x r ih =>
  cases i with
  |zero=>simp at hp;simp[Zk,hp]
  |succ i =>
   have h0:=h 0 (by omega)
   have:=ih (i:=i) (by simpa using hi) (by simpa using hp) (fun j hj=>by simpa using h (j+1) (by omega))
   simp at h0
   simp[Zk,h0,this];omega
theorem Qy{α:Type}(p:α→Bool)(l:List α):-1≤Zk p l:=by
 induction l with
 |nil=>simp[Zk]
 |cons x r ih=>simp only[Zk];split<;>(try split)<;>omega
theorem Y2{α:Type}(p:α→Bool)(l:List α):Zk p l<l.length:=by
 induction l with
 |nil=>simp[Zk]
 |cons x r ih=>simp only[Zk,ZE5];split<;>(try split)<;>omega
theorem Zce{α:Type}{p:α→Bool}{l:List α}(h:Zk p l<0):∀x∈l,p x=false:=by
 induction l with
 |nil=>simp
 |cons x r ih =>
  have:=Qy p r
  simp only[Zk]at h
  split at h
  ·omega
  rename_i hx
  split at h
  ·rename_i hr;intro y hy;rcases List.mem_cons.1 hy with rfl|hy
   ·simpa using hx
   exact ih hr y hy
  omega
theorem Zaa{α:Type}[Inhabited α]{p:α→Bool}{l:List α}(h:0≤Zk p l):p (l.getD (Zk p l).toNat dE)=true∧∀j,j<(Zk p l).toNat→p (l.getD j dE)=false:=by
 induction l with
 |nil=>simp[Zk]at h
 |cons x r ih =>
  have:=Qy p r
  by_cases hx:p x=true
  ·simp[Zk,hx]
  simp only[Zk,hx,if_false,ZFn]at h⊢
  by_cases hr:Zk p r<0
  ·simp[hr]at h
  rw[if_neg hr]
  obtain⟨h1,h2⟩:=ih (by omega)
  rw[show(Zk p r+1).toNat=(Zk p r).toNat+1 by omega]
  refine⟨by simpa using h1,fun j hj=>?_⟩
  cases j with
  |zero=>simpa using hx
  |succ j=>simpa using h2 j (by omega)
theorem KJ{α:Type}[Inhabited α]{l:List α}{n j:Nat}(h:j<n):(l.take n).getD j dE=l.getD j dE:=by
 simp[ZE8,List.getElem?_take_of_lt h]
theorem Zgm{α:Type}[Inhabited α]{p:α→Bool}{l:List α}{i n:Nat}(hn:n≤l.length)(hi:i<n)(hp:p (l.getD i dE)=true)(h:∀j,j<i→p (l.getD j dE)=false):Zk p (l.take n)=i :=
 Ke (by simp;omega) (by rw[KJ hi];exact hp) (fun j hj=>by rw[KJ (by omega)];exact h j hj)
theorem Zev{α:Type}[Inhabited α]{p:α→Bool}{l:List α}{n:Nat}(hn:n≤l.length)(h:∀j,j<n→p (l.getD j dE)=false):Zk p (l.take n)=-1 :=
 WM fun x hx=>by
  obtain⟨j,hj,rfl⟩:=(J6 hn).1 hx
  exact h j hj
def Zn(d:Dfn)(s:Str)(n:Nat):Int:=Zk (fun m=>dC (m.name=s)) (d.msgs.take n)
def Yz(m:Msg)(s:Str)(n:Nat):Int:=Zk (fun f=>dC (f.name=s)) (m.fields.take n)
def QT(f:Fld)(tag:Int):Int:=Zk (fun c=>dC (c.low≤tag)&&dC (tag≤c.high)) f.cases
def YA(f:Fld):Bool:=dC (1≤f.kind)&&dC (f.kind≤3)
def Wh(f:Fld):Int×Int:=if f.kind=2 then (f.low,f.low) else (f.low,f.high)
def ZfC(a b:Int):Bool:=dC (0≤a)&&(dC (a≤b)&&dC (b<34359738368))
theorem WN(d:Dfn)(s:Str)(sm:Nat)(hs:sm≤d.msgs.length):Zc ZEQ 23 [.agg d.cells,.str s,.int .i64 sm] (.int .i64 (Zn d s sm)):=by
 refine ZJ (cR 23 f23) fun y F st t=>?_
 have hw:=(Zgh (s:=d) (y _ (by simp))).nmsgs
 unfold big at hw
 clear y
 refine rx (nd2 @eQ2 (nd2 @eQ6 @eQ1)) ?_
 refine rg ?_
 refine Zb (fr (sm) (fun i Q=>i≤sm→(∀j,j<i→dC ((d.msgs.getD j dE).name=s)=false)→Q [(1,.d (.str s)),(2,.d (.int .i64 sm)),(3,.loc 3 0),(7,.d (.int .i64 i))] [(3,d.cells)] st) (fun n c=>?_) fun z=>?_)
 ·intro i hn hi u
  refine rx (nd2 @eQ2 (nd2 @eQ6 @eQ1)) ?_
  refine cd (fun hd=>?_) (fun hd=>?_)
  ·simp at hd
   refine xA (nd2 @eQ3 (nd2 @eQ2 (nd2 @eQ6 @eQ1))) ?_
   refine cd (fun h5=>?_) (fun h5=>?_)
   ·refine rg ?_
    refine ri t ?_
    exact(Zgm hs hd h5 u).symm
   refine gA ?_
   have v:∀j,j<i+1→dC ((d.msgs.getD j dE).name=s)=false:=by
    intro j hj
    rcases Nat.lt_succ_iff_lt_or_eq.1 hj with hj|rfl
    ·exact u j hj
    exact h5
   refine Za ?_
   exact c ((sm)-(i+1)) (by omega) (i+1) rfl (by omega) v
  simp at hd
  refine rg ?_
  refine ri t ?_
  exact(Zev hs (fun j hj=>u j (by omega))).symm
 exact z _ 0 rfl (by omega) (fun j h=>by omega)
theorem ZaR(m:Msg)(s:Str)(sm:Nat)(hs:sm≤m.fields.length):Zc ZEQ 96 [.agg m.cells,.str s,.int .i64 sm] (.int .i64 (Yz m s sm)):=by
 refine ZJ (cR 96 f96) fun y F st t=>?_
 have hw:=(ZeD (s:=m) (y _ (by simp))).nfields
 unfold big at hw
 clear y
 refine rx (nd2 @eQ3 (nd2 @eQ4 @eQ1)) ?_
 refine rg ?_
 refine Zb (fr (sm) (fun i Q=>i≤sm→(∀j,j<i→dC ((m.fields.getD j dE).name=s)=false)→Q [(1,.d (.str s)),(2,.d (.int .i64 sm)),(3,.loc 3 0),(7,.d (.int .i64 i))] [(3,m.cells)] st) (fun n c=>?_) fun z=>?_)
 ·intro i hn hi u
  refine rx (nd2 @eQ3 (nd2 @eQ4 @eQ1)) ?_
  refine cd (fun hd=>?_) (fun hd=>?_)
  ·simp at hd
   refine xA (nd2 @eQ0 (nd2 @eQ3 (nd2 @eQ4 @eQ1))) ?_
   refine cd (fun h5=>?_) (fun h5=>?_)
   ·refine rg ?_
    refine ri t ?_
    exact(Zgm hs hd h5 u).symm
   refine gA ?_
   have v:∀j,j<i+1→dC ((m.fields.getD j dE).name=s)=false:=by
    intro j hj
    rcases Nat.lt_succ_iff_lt_or_eq.1 hj with hj|rfl
    ·exact u j hj
    exact h5
   refine Za ?_
   exact c ((sm)-(i+1)) (by omega) (i+1) rfl (by omega) v
  simp at hd
  refine rg ?_
  refine ri t ?_
  exact(Zev hs (fun j hj=>u j (by omega))).symm
 exact z _ 0 rfl (by omega) (fun j h=>by omega)
theorem ZdK(f:Fld):Zc ZEQ 48 [.agg f.cells] (.bool (YA f)):=by
 refine Ze (cR 48 f48) fun F st c=>?_
 refine rx @eQ0 ?_
 refine rg ?_
 refine rb c ?_
 rfl
theorem ZiN(f:Fld):Zc ZEQ 238 [.agg f.cells] (.tup [.int .i64 (Wh f).1,.int .i64 (Wh f).2]):=by
 refine Ze (cR 238 f238) fun F st c=>?_
 refine rx @eQ0 ?_
 refine rg ?_
 refine cd (fun hc=>?_) (fun hc=>?_)
 ·refine rg ?_
  refine rt c ?_
  simp at hc;simp[Wh,hc]
 refine rg ?_
 refine rt c ?_
 simp at hc;simp[Wh,hc]
theorem ZsM(a b:Int):Zc ZEQ 235 [.int .i64 a,.int .i64 b] (.bool (ZfC a b)):=by
 refine Ze (cR 235 f235) fun F st c=>?_
 refine gG ?_
 refine rb c ?_
 simp[ZfC,Bool.and_assoc]
def Zvn:List Str:=[[],[98,108,120,104],[98,108,120],[111,120,104],[115],[120,104],[111,104],[102,115],[102],[116,99],[98],[114,107],[102,115,121]]
def Zeb(k:Int):Str:=Zvn.getD k.toNat []
theorem ZsC{k:Int}(h0:0≤k)(h1:k<13):Z4 [D.str []] ([0,1,2,3,4,5,6,7,8,9,10,11,12].zip [D.str [],.str [98,108,120,104],.str [98,108,120],.str [111,120,104],.str [115],.str [120,104],.str [111,104],.str [102,115],.str [102],.str [116,99],.str [98],.str [114,107],.str [102,115,121]]) k.toNat=[.str (Zeb k)]:=by
 unfold Zeb
 have h:k.toNat<13:=by omega
 generalize k.toNat=n at h
 match n,h with
 |0,_|1,_|2,_|3,_|4,_|5,_|6,_|7,_|8,_|9,_|10,_|11,_|12,_=>rfl
 |n+13,h=>omega
theorem ZsL(k:Int)(h0:0≤k)(h1:k<13):Zc ZEQ 232 [.int .i64 k] (.str (Zeb k)):=by
 refine Ze (cR 232 f232) fun F st c=>?_
 have hl:=ZsC h0 h1
 refine rg ?_
 refine xA @hl ?_
 refine rs c ?_
 rfl
def KR(s:Str)(c:UInt8):Bool:=dC (c∈s)
theorem ZxM{s:Str}{i:Nat}(h:i<s.length):s.getD i 0∈s:=by simp[ZE8,h]
theorem W9(s:Str)(c:UInt8):Zc ZEQ 233 [.str s,.int .u8 (c.toNat:Int)] (.bool (KR s c)):=by
 refine ZJ (cR 233 f233) fun z F st u=>?_
 have hw:=(z (.str s) (by simp)).str_inv
 unfold big at hw
 clear z
 refine gG ?_
 refine Zb (fr (s.length) (fun i Q=>i≤s.length→(∀j,j<i→s.getD j 0≠c)→Q [(0,.d (.str s)),(1,.d (.int .u8 (c.toNat:Int))),(5,.d (.int .i64 i))] [] st) (fun n t=>?_) fun ac=>?_)
 ·intro i hn hi y
  refine rg ?_
  refine cd (fun hd=>?_) (fun hd=>?_)
  ·simp at hd
   refine gA ?_
   have ab:=UInt8.toNat_inj (a:=s.getD i 0) (b:=c)
   refine cd (fun h5=>?_) (fun h5=>?_)
   ·simp only[decide_eq_true_eq]at h5
    have h6:s.getD i 0=c:=ab.1 (by omega)
    refine rg ?_
    refine rb u ?_
    simp only[KR];exact(decide_eq_true (h6▸ZxM hd)).symm
   simp only[decide_eq_false_iff_not]at h5
   refine gA ?_
   have v:∀j,j<i+1→s.getD j 0≠c:=by
    intro j hj
    rcases Nat.lt_succ_iff_lt_or_eq.1 hj with hj|rfl
    ·exact y j hj
    intro h;rw[h]at h5;exact h5 rfl
   refine Za ?_
   exact t ((s.length)-(i+1)) (by omega) (i+1) rfl (by omega) v
  simp at hd
  refine rg ?_
  refine rb u ?_
  simp only[KR];refine(decide_eq_false fun h=>?_).symm;obtain⟨j,hj,he⟩:=ZFa h;exact y j (by omega) (by simp[ZE8,hj,he])
 exact ac _ 0 rfl (by omega) (fun j h=>by omega)
def zrA(u:Str)(f:Fld):Bool:=(KR u 98 ||decide (f.bits=0))&&((KR u 108||!f.little)&&((KR u 111||!f.loose)&&((KR u 120 ||decide (f.low=0))&&(KR u 104 ||decide (f.high=0)))))
def zrB(u:Str)(f:Fld):Bool:=(KR u 115 ||(dC (f.size.base=0)&&dC (f.size.terms.length=0)))&&((KR u 102 ||decide (f.of=[]))&&((KR u 116 ||decide (f.tag=[]))&&(KR u 114 ||decide (f.from_=[]))))
def zrC(u:Str)(f:Fld):Bool:=(KR u 99 ||decide (f.cases.length=0))&&((KR u 107 ||decide (f.check=0))&&(KR u 121 ||decide (f.key=0)))
def Zde(f:Fld):Bool:=zrA (Zeb f.kind) f&&(zrB (Zeb f.kind) f&&zrC (Zeb f.kind) f)
theorem Zw1(u:Str)(f:Fld):zrA u f=!(!KR u 98&&!dC (f.bits=0)||!KR u 108&&f.little||!KR u 111&&f.loose||!KR u 120&&!dC (f.low=0)||!KR u 104&&!dC (f.high=0)):=by
 simp[zrA,Bool.and_assoc]
theorem Zw2(u:Str)(f:Fld):zrB u f=!(!KR u 115&&(!dC (f.size.base=0)||!dC ((f.size.terms.length:Int)=0))||!KR u 102&&!dC (f.of=[])||!KR u 116&&!dC (f.tag=[])||!KR u 114&&!dC (f.from_=[])):=by
 simp[zrB,Bool.and_assoc]
theorem ZsN(f:Fld)(h0:0≤f.kind)(h1:f.kind<13):Zc ZEQ 189 [.agg f.cells] (.bool (Zde f)):=by
 refine Ze (cR 189 f189) fun F st c=>?_
 refine rx (nd2 @eQ0 (nd2 @eQ5 (nd2 @Yy.eq_1 @eQ1))) ?_
 refine rg ?_
 refine cl (ZsL f.kind h0 h1) ?_
 refine rg ?_
 refine cl (W9 _ 98) ?_
 refine cG (W9 _ 108) ?_
 refine cG (W9 _ 111) ?_
 refine cG (W9 _ 120) ?_
 refine cG (W9 _ 104) ?_
 generalize hu:Zeb f.kind=u
 refine cd (fun hc=>?_) (fun hc=>?_)
 ·have hz:zrA u f=false:=by rw[Zw1,hc];rfl
  refine rg ?_
  refine rb c ?_
  simp[Zde,hu,hz]
 have hz:zrA u f=true:=by rw[Zw1,hc];rfl
 clear hc
 refine rg ?_
 refine cX (nd2 @eQ5 (nd2 @Yy.eq_1 @eQ1)) (W9 _ 115) ?_
 refine cG (W9 _ 102) ?_
 refine cG (W9 _ 116) ?_
 refine cG (W9 _ 114) ?_
 refine cd (fun hd=>?_) (fun hd=>?_)
 ·have i:zrB u f=false:=by rw[Zw2,hd];rfl
  refine rg ?_
  refine rb c ?_
  simp[Zde,hu,i]
 have i:zrB u f=true:=by rw[Zw2,hd];rfl
 clear hd
 refine rg ?_
 refine cX (nd2 @eQ5 (nd2 @Yy.eq_1 @eQ1)) (W9 _ 99) ?_
 refine cG (W9 _ 107) ?_
 refine cG (W9 _ 121) ?_
 refine rb c ?_
 simp only[Zde,hu,hz,i];simp[zrC,Bool.and_assoc]
def Q2(f:Fld):Bool:=dC (f.bits<1) ||(dC (32<f.bits) ||(f.little&&(!dC (f.bits=16)&&(!dC (f.bits=24)&&!dC (f.bits=32)))))
def Ze2(f:Fld):Int:=if f.kind=2 then f.low else f.high
def ZaP(f:Fld):Bool:=dC (f.low<0) ||(dC (Ze2 f<f.low) ||decide (2 ^ f.bits.toNat≤Ze2 f))
def Kh(f:Fld):Int:=if Q2 f then 6 else if ZaP f then 7 else 0
theorem Zyf{b:Int}(h0:0≤b)(h1:b≤32):Zji .i64 1 b=2 ^ b.toNat:=by
 unfold Zji
 rw[show Nat.min b.toNat IntKind.i64.bits=b.toNat from Nat.min_eq_left (show b.toNat≤IntKind.i64.bits by simp[IntKind.bits];omega)]
 simp
theorem ZdD{b:Int}(h0:0≤b)(h1:b≤32):(0:Int)<2 ^ b.toNat∧(2:Int) ^ b.toNat≤4294967296:=by
 have h:=Nat.pow_le_pow_right (n:=2) (by omega) (show b.toNat≤32 by omega)
 have h2:=Nat.two_pow_pos b.toNat
 rw[show(2:Int) ^ b.toNat=((2 ^ b.toNat:Nat):Int) from(Int.natCast_pow 2 b.toNat).symm]
 generalize 2 ^ b.toNat=x at h h2⊢
 omega
theorem ZhI(f:Fld):Zc ZEQ 234 [.agg f.cells] (.int .i64 (Kh f)):=by
 refine Ze (cR 234 f234) fun F st c=>?_
 refine rx (nd2 @eQ0 (nd2 @eQ5 (nd2 @Yy.eq_1 @eQ1))) ?_
 refine rg ?_
 refine cd (fun hc=>?_) (fun hc=>?_)
 ·have hb:Q2 f=true:=by rw[←hc];simp[Q2,Bool.or_assoc,Bool.and_assoc]
  refine rg ?_
  refine ri c ?_
  simp[Kh,hb]
 have hb:Q2 f=false:=by rw[←hc];simp[Q2,Bool.or_assoc,Bool.and_assoc]
 have i:=hb
 simp[Q2]at i
 have j:=Zyf (b:=f.bits) (by omega) (by omega)
 have h32:=ZdD (b:=f.bits) (by omega) (by omega)
 have hbits:1≤f.bits∧f.bits≤32:=by omega
 clear hc i
 refine gG ?_
 refine cd (fun h2=>?_) (fun h2=>?_)
 ·have ht:Ze2 f=f.low:=by simp at h2;simp[Ze2,h2]
  refine rg ?_
  refine rx @j ?_
  refine ZER (fun _=>by omega) ?_
  refine cd (fun h3=>?_) (fun h3=>?_)
  ·have hn:ZaP f=true:=by rw[←h3];simp[ZaP,ht,Bool.or_assoc]
   refine rg ?_
   refine ri c ?_
   simp[Kh,hb,hn]
  have hn:ZaP f=false:=by rw[←h3];simp[ZaP,ht,Bool.or_assoc]
  refine rg ?_
  refine ri c ?_
  simp[Kh,hb,hn]
 have ht:Ze2 f=f.high:=by simp at h2;simp[Ze2,h2]
 refine rx @j ?_
 refine ZER (fun _=>by omega) ?_
 refine cd (fun h3=>?_) (fun h3=>?_)
 ·have hn:ZaP f=true:=by rw[←h3];simp[ZaP,ht,Bool.or_assoc]
  refine rg ?_
  refine ri c ?_
  simp[Kh,hb,hn]
 have hn:ZaP f=false:=by rw[←h3];simp[ZaP,ht,Bool.or_assoc]
 refine rg ?_
 refine ri c ?_
 simp[Kh,hb,hn]
def Zot(m:Msg)(s:Str)(n:Nat):Bool:=(m.fields.take n).any fun f=>dC (f.kind=9)&&dC (f.tag=s)
theorem ZnK{α:Type}[Inhabited α]{p:α→Bool}{l:List α}{n:Nat}(hn:n≤l.length)(h:∀j,j<n→p (l.getD j dE)=false):(l.take n).any p=false:=by
 rw[List.any_eq_false];intro x hx
 obtain⟨j,hj,rfl⟩:=(J6 hn).1 hx
 rw[h j hj];simp
theorem ZpF{α:Type}[Inhabited α]{p:α→Bool}{l:List α}{n i:Nat}(hn:n≤l.length)(hi:i<n)(h:p (l.getD i dE)=true):(l.take n).any p=true :=
 List.any_eq_true.2 ⟨_,(J6 hn).2 ⟨i,hi,rfl⟩,h⟩
theorem ZpR(m:Msg)(s:Str)(sm:Nat)(hs:sm≤m.fields.length):Zc ZEQ 237 [.agg m.cells,.str s,.int .i64 sm] (.bool (Zot m s sm)):=by
 refine ZJ (cR 237 f237) fun y F st t=>?_
 have hw:=(ZeD (s:=m) (y _ (by simp))).nfields
 unfold big at hw
 clear y
 refine rx (nd2 @eQ3 (nd2 @eQ4 @eQ1)) ?_
 refine rg ?_
 refine Zb (fr (sm) (fun i Q=>i≤sm→(∀j,j<i→(dC ((m.fields.getD j dE).kind=9)&&dC ((m.fields.getD j dE).tag=s))=false)→Q [(1,.d (.str s)),(2,.d (.int .i64 sm)),(3,.loc 3 0),(7,.d (.int .i64 i))] [(3,m.cells)] st) (fun n c=>?_) fun z=>?_)
 ·intro i hn hi v
  refine rx (nd2 @eQ3 (nd2 @eQ4 @eQ1)) ?_
  refine cd (fun hd=>?_) (fun hd=>?_)
  ·simp at hd
   refine xA (nd2 @eQ0 (nd2 @eQ3 (nd2 @eQ4 @eQ1))) ?_
   refine cd (fun h5=>?_) (fun h5=>?_)
   ·refine rg ?_
    refine rb t ?_
    exact(ZpF hs hd h5).symm
   refine gA ?_
   have u:∀j,j<i+1→(dC ((m.fields.getD j dE).kind=9)&&dC ((m.fields.getD j dE).tag=s))=false:=by
    intro j hj
    rcases Nat.lt_succ_iff_lt_or_eq.1 hj with hj|rfl
    ·exact v j hj
    exact h5
   refine Za ?_
   exact c ((sm)-(i+1)) (by omega) (i+1) rfl (by omega) u
  simp at hd
  refine rg ?_
  refine rb t ?_
  exact(ZnK hs (fun j hj=>v j (by omega))).symm
 exact z _ 0 rfl (by omega) (fun j h=>by omega)
def ZaF(d:Dfn)(at_:Nat)(high:Int):Int→List Yg→Int
 |_,[]=>0
 |low,c::r=>if dC (c.low<low) ||(dC (c.high<c.low) ||decide (high<c.high)) then 7 else if Zn d c.of at_<0 then 8 else ZaF d at_ high (c.high+1) r
def Zdj(d:Dfn)(at_:Nat)(f:Fld)(low high:Int):Int:=if dC (f.cases.length<1) ||decide (40<f.cases.length) then 3 else ZaF d at_ high low f.cases
theorem ZrY(d:Dfn)(at_:Nat)(f:Fld)(low high:Int)(ha:at_≤d.msgs.length):Zc ZEQ 239 [.agg d.cells,.int .i64 at_,.agg f.cells,.int .i64 low,.int .i64 high] (.int .i64 (Zdj d at_ f low high)):=by
 refine Ze (cR 239 f239) fun F st j=>?_
 refine rx (nd2 @eQ0 (nd2 @eQ2 (nd2 @eQ5 (nd2 @Yy.eq_1 @eQ1)))) ?_
 refine rg ?_
 refine cd (fun hc=>?_) (fun hc=>?_)
 ·refine rg ?_
  have u:(dC (f.cases.length<1) ||decide (40<f.cases.length))=true:=by
   rw[ZFb,decide_eq_true_eq,decide_eq_true_eq]at hc⊢;omega
  refine ri j ?_
  unfold Zdj;rw[if_pos u]
 rw[Bool.or_eq_false_iff,decide_eq_false_iff_not,decide_eq_false_iff_not]at hc
 have u:¬(dC (f.cases.length<1) ||decide (40<f.cases.length))=true:=by
  rw[ZFb,decide_eq_true_eq,decide_eq_true_eq];omega
 have he:Zdj d at_ f low high=ZaF d at_ high low (f.cases.drop 0):=by unfold Zdj;rw[if_neg u];rfl
 have hlen:f.cases.length≤40:=by omega
 clear hc
 refine rg ?_
 refine Zb (fr (f.cases.length) (fun i Q=>∀lo,i≤f.cases.length→Zdj d at_ f low high=ZaF d at_ high lo (f.cases.drop i)→(low≤lo∧(i=0→lo=low)∧(0<i→lo=(f.cases.getD (i-1) dE).high+1))→Q [(1,.d (.int .i64 at_)),(3,.d (.int .i64 low)),(4,.d (.int .i64 high)),(5,.loc 5 0),(7,.loc 7 0),(11,.d (.int .i64 i))] [(5,d.cells),(7,f.cells)] st) (fun n t=>?_) fun ab=>?_)
 ·intro i hn lo hi c ac
  refine rx (nd2 @eQ0 (nd2 @eQ2 (nd2 @eQ5 (nd2 @Yy.eq_1 @eQ1)))) ?_
  refine cd (fun hd=>?_) (fun hd=>?_)
  ·simp at hd
   rw[Wt hd,ZaF]at c
   refine xA (nd2 @eQ0 (nd2 @eQ2 (nd2 @Yg.cells.eq_1 (nd2 @eQ5 (nd2 @Yy.eq_1 @eQ1))))) ?_
   refine rx (nd2 @eQ0 (nd2 @eQ2 (nd2 @Yg.cells.eq_1 (nd2 @eQ5 (nd2 @Yy.eq_1 @eQ1))))) ?_
   rw[show((i:Int)-1).toNat=i-1 by omega]
   refine ZER (fun h=>by omega) (ZER (fun h=>by simp at h;omega) ?_)
   obtain⟨hlo1,z,y⟩:=ac
   have v:(dC ((f.cases.getD i dE).low<low) ||decide ((f.cases.getD i dE).high<(f.cases.getD i dE).low) ||decide (high<(f.cases.getD i dE).high) ||decide (0<(i:Int))&&dC ((f.cases.getD i dE).low≤(f.cases.getD (i-1) dE).high))=(dC ((f.cases.getD i dE).low<lo) ||(dC ((f.cases.getD i dE).high<(f.cases.getD i dE).low) ||decide (high<(f.cases.getD i dE).high))):=by
    rw[Bool.eq_iff_iff];simp only[ZFb,ZEY,decide_eq_true_eq]
    rcases Nat.eq_zero_or_pos i with h|h
    ·have:=z h;omega
    have:=y h;omega
   rw[v]
   generalize hx:f.cases.getD i dE=x at *
   refine cd (fun h4=>?_) (fun h4=>?_)
   ·rw[if_pos h4]at c
    refine rg ?_
    refine ri j ?_
    exact c.symm
   rw[h4,if_neg (by decide)]at c
   refine rx @eQ2 ?_
   refine cX @eQ2 (WN d x.of at_ ha) ?_
   refine cd (fun h5=>?_) (fun h5=>?_)
   ·rw[if_pos (of_decide_eq_true h5)]at c
    refine rg ?_
    refine ri j ?_
    exact c.symm
   rw[if_neg (of_decide_eq_false h5)]at c
   simp at h4
   refine gA ?_
   refine Za ?_
   exact t ((f.cases.length)-(i+1)) (by omega) (i+1) rfl _ (by omega) c ⟨by omega,by omega,fun _=>by rw[show i+1-1=i by omega,hx]⟩
  simp at hd
  rw[List.drop_of_length_le (by omega),ZaF]at c
  refine rg ?_
  refine ri j ?_
  exact c.symm
 exact ab _ 0 rfl low (by omega) he ⟨by omega,fun _=>rfl,fun h=>by omega⟩
def ZZ(fs:List Fld):Kr:=fun s=>if Zk (fun f=>dC (f.name=s)) fs<0 then nO else if YA (fs.getD (Zk (fun f=>dC (f.name=s)) fs).toNat dE) then sO (Wh (fs.getD (Zk (fun f=>dC (f.name=s)) fs).toNat dE)) else nO
def JM(fs:List Fld)(s:Wk):Int:=if ZN s=false then 9 else if s.terms.any (YG (ZZ fs)) then 8 else if !dC ((YL s (ZZ fs)).2.2=0) ||(dC ((YL s (ZZ fs)).1<0) ||decide (1048576<(YL s (ZZ fs)).2.1)) then 9 else 0
theorem ZoM{α:Type}{p q:α→Bool}{l:List α}(h:∀x∈l,p x=q x):l.any p=l.any q:=by
 induction l with
 |nil=>rfl
 |cons x r ih=>simp only[List.any_cons,h x (by simp),ih fun y hy=>h y (by simp[hy])]
theorem Zwc{look look':Kr}{l:List ZT}(h:∀t∈l,look t.field=look' t.field):loS look l=loS look' l∧hiS look l=hiS look' l:=by
 induction l with
 |nil=>exact⟨rfl,rfl⟩
 |cons x r ih =>
  have h1:=ih fun y hy=>h y (by simp[hy])
  have h2:=h x (by simp)
  simp only[loS,hiS,loT,hiT,QZ,h1.1,h1.2,h2,and_self]
theorem Zmy{s:Wk}{look look':Kr}(h:∀t∈s.terms,look t.field=look' t.field):YL s look=YL s look':=by
 have h1:=ZoM (p:=WA look) (q:=WA look') (l:=s.terms) fun t ht=>by simp only[WA,h t ht]
 have h2:=ZoM (p:=YG look) (q:=YG look') (l:=s.terms) fun t ht=>by simp only[YG,h t ht]
 have h3:=Zwc h
 unfold YL Jd;rw[h1,h2,h3.1,h3.2]
theorem Zwa{s:Str}{l:List ZT}{g:Str→Int×Int}(h:∃t∈l,t.field=s):Wc (l.map fun t=>⟨t.field,(g t.field).1,(g t.field).2⟩) s=sO (g s):=by
 have j:0≤YB s (l.map fun t=>⟨t.field,(g t.field).1,(g t.field).2⟩)∧(((l.map fun t=>(⟨t.field,(g t.field).1,(g t.field).2⟩:Ran)).getD (YB s (l.map fun t=>⟨t.field,(g t.field).1,(g t.field).2⟩)).toNat dE).low,((l.map fun t=>(⟨t.field,(g t.field).1,(g t.field).2⟩:Ran)).getD (YB s (l.map fun t=>⟨t.field,(g t.field).1,(g t.field).2⟩)).toNat dE).high)=g s:=by
  induction l with
  |nil=>simp at h
  |cons x r ih =>
   simp only[ZE7,YB]
   by_cases hr:0≤YB s (r.map fun t=>⟨t.field,(g t.field).1,(g t.field).2⟩)
   ·have i:∃t∈r,t.field=s:=by
     apply Classical.byContradiction
     intro c
     have:YB s (r.map fun t=>⟨t.field,(g t.field).1,(g t.field).2⟩)=-1:=by
      clear ih h hr
      induction r with
      |nil=>rfl
      |cons y q ih2 =>
       have h1:=ih2 fun⟨t,ht,he⟩=>c ⟨t,by simp[ht],he⟩
       have h2:y.field≠s:=fun he=>c ⟨y,by simp,he⟩
       simp[YB,h1,h2]
     omega
    have h1:=ih i
    rw[if_pos hr]
    refine⟨by omega,?_⟩
    rw[show((YB s (r.map fun t=>⟨t.field,(g t.field).1,(g t.field).2⟩))+1).toNat=(YB s (r.map fun t=>⟨t.field,(g t.field).1,(g t.field).2⟩)).toNat+1 by omega]
    simpa using h1.2
   have hx:x.field=s:=by
    apply Classical.byContradiction
    intro c
    obtain⟨t,ht,he⟩:=h
    rcases List.mem_cons.1 ht with rfl|ht
    ·exact c he
    exact hr (ih ⟨t,ht,he⟩).1
   rw[if_neg hr,if_pos hx]
   subst hx
   exact⟨by omega,by simp⟩
 unfold Wc
 rw[if_neg (by omega),j.2]
def Zbx(look:Kr)(t:ZT):Ran:=⟨t.field,(QZ look t).1,(QZ look t).2⟩
theorem Zya{look:Kr}{l:List ZT}{t:ZT}(ht:t∈l)(hs:YG look t=false):Wc (l.map (Zbx look)) t.field=look t.field:=by
 have:=Zwa (s:=t.field) (l:=l) (g:=fun s=>(look s).getD (0,0)) ⟨t,ht,rfl⟩
 rw[show(Zbx look)=fun t=>⟨t.field,((look t.field).getD (0,0)).1,((look t.field).getD (0,0)).2⟩ from rfl,this]
 simp only[YG]at hs
 cases h:look t.field with
 |none=>rw[h]at hs;simp at hs
 |some r=>rfl
theorem Zr1(m:Msg)(i:Nat)(hi:i<m.fields.length):Zc ZEQ 236 [.agg m.cells,.int .i64 i] (.int .i64 (JM (m.fields.take i) (m.fields.getD i dE).size)):=by
 refine ZJ (cR 236 f236) fun ag F st c=>?_
 have hw:=(ZeD (s:=m) (ag _ (by simp))).nfields
 unfold big at hw
 clear ag
 generalize hs:(m.fields.getD i dE).size=s at *
 refine rx (nd2 @eQ3 (nd2 @eQ4 @eQ1)) ?_
 refine xA (nd2 @eQ3 (nd2 @eQ0 (nd2 @eQ4 (nd2 @eQ1 @hs)))) ?_
 refine rg ?_
 refine cl (ZiL s) ?_
 refine cd (fun hc=>?_) (fun hc=>?_)
 ·simp at hc
  refine rg ?_
  refine ri c ?_
  simp[JM,hc]
 simp at hc
 have hv:=ZlW.of hc
 have hlen:=hv.len
 refine gG ?_
 refine kl (st) [(1,.d (.int .i64 i)),(2,.loc 2 0),(5,.loc 5 0),(6,.d (.sl .full 0 3 fun _=>[])),(7,.d (.int .i64 (0:Nat)))] [(2,m.cells),(5,s.cells)] (.skip (.skip (.skip (.cons (.d (WH (by simp))) (.skip .nil))))) (WU _) ?_
 refine Zb (fr (s.terms.length) (fun k Q=>∀tk row,tk.okIn st→ZV Ran.cells row ((s.terms.take k).map (Zbx (ZZ (m.fields.take i))))→k≤s.terms.length→(s.terms.take k).any (YG (ZZ (m.fields.take i)))=false→Q [(1,.d (.int .i64 i)),(2,.loc 2 0),(5,.loc 5 0),(6,.d (.sl tk k 3 row)),(7,.d (.int .i64 k))] [(2,m.cells),(5,s.cells)] (st.own tk (k*3))) (fun n y=>?_) fun ah=>?_)
 ·intro k hn tk row htk u hk v
  refine rx (nd2 @eQ7 (nd2 @eQ5 @eQ1)) ?_
  refine cd (fun hd=>?_) (fun hd=>?_)
  ·simp at hd
   have af:=ZgR (p:=YG (ZZ (m.fields.take i))) hd
   generalize hx:s.terms.getD k dE=x at *
   refine xA (nd2 @eQ3 (nd2 @eQ7 (nd2 @eQ8 (nd2 @eQ5 (nd2 @eQ1 @hx))))) ?_
   have c9:=ZaR m x.field i (by omega)
   refine cl0 (c9) ?_
   have ak:=Qy (fun f=>dC (f.name=x.field)) (m.fields.take i)
   have ad:=Y2 (fun f=>dC (f.name=x.field)) (m.fields.take i)
   rw[ZE9]at ad
   have z:ZZ (m.fields.take i) x.field=if Yz m x.field i<0 then nO else if YA (m.fields.getD (Yz m x.field i).toNat dE) then sO (Wh (m.fields.getD (Yz m x.field i).toNat dE)) else nO:=by
    unfold ZZ Yz
    by_cases h:Zk (fun f=>dC (f.name=x.field)) (m.fields.take i)<0
    ·rw[if_pos h,if_pos h]
    rw[if_neg h,if_neg h,KJ (by omega)]
   rw[show Zk (fun f=>dC (f.name=x.field)) (m.fields.take i)=Yz m x.field i from rfl]at ak ad
   generalize Yz m x.field i=q at *
   refine xA (nd2 @eQ3 (nd2 @eQ0 (nd2 @eQ4 @eQ1))) ?_
   refine cG (ZdK (m.fields.getD q.toNat dE)) ?_
   refine aa ?_
   refine cd (fun h5=>?_) (fun h5=>?_)
   ·have ac:YG (ZZ (m.fields.take i)) x=true:=by
     unfold YG;rw[z]
     by_cases hq:q<0
     ·rw[if_pos hq];rfl
     rw[decide_eq_false hq,Bool.false_or,Bool.not_eq_true']at h5;rw[if_neg hq,h5];rfl
    have:=ZqD (p:=YG (ZZ (m.fields.take i))) hd (by rw[hx];exact ac)
    refine rg ?_
    refine ri c ?_
    unfold JM;rw[hc,this];rfl
   rw[Bool.or_eq_false_iff,decide_eq_false_iff_not]at h5
   obtain⟨hq,ab⟩:=h5
   rw[Bool.not_eq_false']at ab
   rw[if_neg hq,if_pos ab]at z
   have ac:YG (ZZ (m.fields.take i)) x=false:=by unfold YG;rw[z];rfl
   rw[ac,Bool.or_false]at af
   refine xA (nd2 @eQ3 (nd2 @eQ0 (nd2 @eQ4 @eQ1))) ?_
   refine cl (ZiN (m.fields.getD q.toNat dE)) ?_
   refine xA (nd2 @eQ7 (nd2 @eQ8 (nd2 @eQ5 (nd2 @eQ1 @hx)))) ?_
   refine QE (st) (tk) rfl rfl rfl rfl rfl rfl (by trivial) (by trivial) rfl (by first|trivial|assumption) (by omega) (by (unfold big;omega)) fun t1 aj=>Zm ?_
   simp only[Eqs,reduceCtorEq,ZEV,reduceIte,ZET,ZEX,ZEU]
   refine gA ?_
   have am:Zbx (ZZ (m.fields.take i)) x=⟨x.field,(Wh (m.fields.getD q.toNat dE)).1,(Wh (m.fields.getD q.toNat dE)).2⟩:=by unfold Zbx QZ;rw[z];rfl
   have j:=u.snoc (x:=Zbx (ZZ (m.fields.take i)) x) (row2:=Z4 [.str [],.int .i64 0,.int .i64 0] ([0].zip [.agg [.str x.field,.int .i64 (Wh (m.fields.getD q.toNat dE)).1,.int .i64 (Wh (m.fields.getD q.toNat dE)).2]])) (by rw[am];rfl) (show k=_ by simp;omega)
   rw[show(s.terms.take k).map (Zbx (ZZ (m.fields.take i)))++[Zbx (ZZ (m.fields.take i)) x]=(s.terms.take (k+1)).map (Zbx (ZZ (m.fields.take i))) by rw[Z0 hd,hx];simp]at j
   refine Za ?_
   exact y ((s.terms.length)-(k+1)) (by omega) (k+1) rfl t1 _ aj j (by omega) (by rw[af];exact v)
  simp at hd
  obtain rfl:k=s.terms.length:=by omega
  rw[ZFc]at u v
  have al:YL s (Wc (s.terms.map (Zbx (ZZ (m.fields.take i)))))=YL s (ZZ (m.fields.take i)):=Zmy fun t ht=>Zya ht (by have:=List.any_eq_false.1 v t ht;simpa using this)
  have ae:=ZmT s (s.terms.map (Zbx (ZZ (m.fields.take i))))
  rw[al]at ae
  generalize hr:YL s (ZZ (m.fields.take i))=r at *
  obtain⟨lo,ai,er⟩:=r
  refine ZP rfl (Zd (Zdf [2,5,6] ?_))
  simp only[Eqs,reduceCtorEq,ZEV,reduceIte,ZET,ZEX,ZEU]
  refine kl (st) [(2,.loc 2 0),(5,.loc 5 0),(6,.d (Za3 (s.terms.map (Zbx (ZZ (m.fields.take i))))))] [(2,m.cells),(5,s.cells)] (.skip (.skip (.cons (.d (u.le (by simp))) .nil))) (WU _) ?_
  refine rx (nd2 @eQ7 @eQ3) ?_
  refine cl (ae) ?_
  refine rg ?_
  have hf:JM (m.fields.take i) s=if !dC (er=0) ||(dC (lo<0) ||decide (1048576<ai)) then 9 else 0:=by
   unfold JM;rw[hc,v,hr];rfl
  rw[←Bool.or_assoc]at hf
  refine cd (fun h6=>?_) (fun h6=>?_)
  ·rw[h6]at hf
   refine rg ?_
   refine ri c ?_
   exact hf.symm
  rw[h6]at hf
  refine rg ?_
  refine ri c ?_
  exact hf.symm
 exact ah _ 0 rfl .full _ trivial ZV.nil (by omega) (by simp)
def WB(l:List Str):D:=slD 1 (fun s=>[.str s]) l
def KV(f:Fld):List Str:=if dC (f.kind=7) ||(dC (f.kind=8) ||decide (f.kind=12)) then [f.of] else []
def Z5(f:Fld):List Str:=KV f++if f.kind=9 then f.cases.map (·.of) else []
def QW(out:List Str)(s:Str):List Str:=if s∈out then out else out++[s]
def Y1(m:Msg):List Str:=(m.fields.flatMap Z5).foldl QW []
theorem Zst(out:List Str)(s:Str):(QW out s).length≤out.length+1:=by unfold QW;split<;>simp
theorem Qg(l out:List Str):(l.foldl QW out).length≤out.length+l.length:=by
 induction l generalizing out with
 |nil=>simp
 |cons x r ih=>have:=ih (QW out x);have:=Zst out x;simp only[List.foldl_cons,ZE5];omega
theorem Zai(l:List Fld)(i:Nat):((l.take i).flatMap Z5).length≤(l.flatMap Z5).length:=by
 conv=>rhs;rw[←List.take_append_drop i l,List.flatMap_append,ZE1]
 omega
theorem ZdP(l:List Fld)(i:Nat)(hi:i<l.length):(l.take (i+1)).flatMap Z5=(l.take i).flatMap Z5++Z5 (l.getD i dE):=by
 rw[Z0 hi,List.flatMap_append];simp
theorem ZhH(m:Msg)(hb:(m.fields.flatMap Z5).length≤1000000):Zc ZEQ 150 [.agg m.cells] (WB (Y1 m)):=by
 refine ZJ (cR 150 f150) fun aj F st am=>?_
 have hw:=(ZeD (s:=m) (aj _ (by simp))).nfields
 have a5:=(ZeD (s:=m) (aj _ (by simp))).fields
 unfold big at hw
 clear aj
 refine rx (nd2 @eQ3 (nd2 @eQ4 @eQ1)) ?_
 refine gG ?_
 refine kl (st) [(1,.loc 1 0),(3,.d (.sl .full 0 1 fun _=>[])),(4,.d (.int .i64 (0:Nat)))] [(1,m.cells)] (.skip (.cons (.d (WH fun b h=>by cases h)) (.skip .nil))) (WU _) ?_
 refine Zb (fr (m.fields.length) (fun i Q=>∀tk row t,tk.okIn st→ZV (fun s=>[.str s]) row t→t=((m.fields.take i).flatMap Z5).foldl QW []→i≤m.fields.length→Q [(1,.loc 1 0),(3,.d (.sl tk t.length 1 row)),(4,.d (.int .i64 i))] [(1,m.cells)] (st.own tk (t.length*1))) (fun n ak=>?_) fun a4=>?_)
 ·intro i hn tk row t ad y ac hi
  have ay:=Qg ((m.fields.take i).flatMap Z5) []
  have hlt:=Zai m.fields i
  rw[←ac]at ay
  simp only[List.length_nil,Nat.zero_add]at ay
  refine rx (nd2 @eQ3 (nd2 @eQ4 @eQ1)) ?_
  refine cd (fun hd=>?_) (fun hd=>?_)
  ·simp at hd
   have ag:=ZdP m.fields i hd
   have a3:=Zai m.fields (i+1)
   have aj:=a5 _ (Zy hd)
   have a7:=aj.ncases
   unfold big at a7
   generalize hf:m.fields.getD i dE=f at *
   rw[ag,ZE1]at a3
   refine xA (nd2 @eQ3 (nd2 @eQ0 (nd2 @eQ4 (nd2 @eQ1 @hf)))) ?_
   refine rg ?_
   refine rx @eQ0 ?_
   refine jU [0] (fun Q=>∀tl u ll,tl.okIn (st.own tk (t.length*1))→ZV (fun s=>[.str s]) u ll→ll=KV f→Q F [(1,.loc 1 0),(3,.d (.sl tk t.length 1 row)),(4,.d (.int .i64 i)),(5,.loc 5 0),(6,.d (.sl tl ll.length 1 u))] [(1,m.cells),(5,f.cells)] ((st.own tk (t.length*1)).own tl (ll.length*1))) ?_ fun jn=>?_
   ·intro tl u ll al v ae
    have a8:ll.length≤1:=by rw[ae];unfold KV;split<;>simp
    refine rx @eQ0 ?_
    refine Zb (fr (f.cases.length) (fun k Q=>∀tl u l,tl.okIn (st.own tk (t.length*1))→ZV (fun s=>[.str s]) u l→(l=ll++if f.kind=9 then (f.cases.take k).map (·.of) else [])→k≤f.cases.length→Q [(1,.loc 1 0),(3,.d (.sl tk t.length 1 row)),(4,.d (.int .i64 i)),(5,.loc 5 0),(6,.d (.sl tl l.length 1 u)),(7,.d (.int .i64 k))] [(1,m.cells),(5,f.cells)] ((st.own tk (t.length*1)).own tl (l.length*1))) (fun n ab=>?_) fun az=>?_)
    ·clear v al u tl
     intro k aw tl u l al v hl hk
     refine rx (nd2 @eQ0 (nd2 @Yy.eq_1 @eQ1)) ?_
     refine cd (fun h4=>?_) (fun h4=>?_)
     ·simp only[ZEY,decide_eq_true_eq]at h4
      have hll2:l.length=ll.length+k:=by rw[hl,if_pos h4.1];simp;omega
      have hcl:(Z5 f).length=ll.length+f.cases.length:=by rw[ae,Z5,if_pos h4.1];simp
      refine xA (nd2 @eQ0 (nd2 @Yg.cells.eq_1 (nd2 @Yy.eq_1 @eQ1))) ?_
      refine QE (st.own tk (t.length*1)) (tl) rfl rfl rfl rfl rfl rfl (by trivial) (by trivial) rfl (by first|trivial|assumption) (by omega) (by (unfold big;omega)) fun t2 ao=>Zm ?_
      simp only[Eqs,reduceCtorEq,ZEV,reduceIte,ZET,ZEX,ZEU]
      refine gA ?_
      have ap:=v.snoc (x:=(f.cases.getD k dE).of) (row2:=Z4 [.str []] ([0].zip [.str (f.cases.getD k dE).of])) rfl rfl
      refine Za ?_
      have c:=ab ((f.cases.length)-(k+1)) (by omega) (k+1) rfl t2 _ (l++[(f.cases.getD k dE).of]) ao ap (by rw[hl,if_pos h4.1,if_pos h4.1,Z0 (by omega)];simp) (by omega)
      rw[ZE1]at c
      exact c
     have ax:l=Z5 f:=by
      rw[hl,ae,Z5]
      by_cases h9:f.kind=9
      ·have:k=f.cases.length:=by simp[h9]at h4;omega
       rw[if_pos h9,if_pos h9,this,ZFc]
      rw[if_neg h9,if_neg h9]
     clear ab h4 hl ae a8 ll hk aw
     have ae:l.length=(Z5 f).length:=by rw[ax]
     refine rg ?_
     refine kl (st.own tk (t.length*1)) [(1,.loc 1 0),(3,.d (.sl tk t.length 1 row)),(4,.d (.int .i64 i)),(6,.d (WB l)),(8,.d (.int .i64 (0:Nat)))] [(1,m.cells)] (.skip (.skip (.skip (.cons (.d (v.le rfl)) (.skip .nil))))) (WU _) ?_
     refine Zb (fr (l.length) (fun k Q=>∀tk row o,tk.okIn st→ZV (fun s=>[.str s]) row o→o=(l.take k).foldl QW t→k≤l.length→Q [(1,.loc 1 0),(3,.d (.sl tk o.length 1 row)),(4,.d (.int .i64 i)),(6,.d (WB l)),(8,.d (.int .i64 k))] [(1,m.cells)] (st.own tk (o.length*1))) (fun n z=>?_) fun au=>?_)
     ·clear y ad v al tl
      intro k aw tk row o ad y ho hk
      have hol:o.length≤t.length+k:=by have:=Qg (l.take k) t;rw[←ho,ZE9]at this;omega
      refine rx (nd2 @WB.eq_1 @eQ1) ?_
      refine cd (fun h5=>?_) (fun h5=>?_)
      ·simp at h5
       have ai:(l.take (k+1)).foldl QW t=QW o (l.getD k dE):=by rw[Z0 h5,List.foldl_append,←ho];rfl
       generalize hx:l.getD k dE=x at *
       refine gG ?_
       refine kl (st.own tk (o.length*1)) [(1,.loc 1 0),(3,.d (.sl tk o.length 1 row)),(4,.d (.int .i64 i)),(6,.d (WB l)),(8,.d (.int .i64 k)),(9,.d (.bool (dC (x∈o.take 0)))),(10,.d (.int .i64 (0:Nat)))] [(1,m.cells)] (by rw[show dC (x∈o.take 0)=false by simp];exact KH _) (WU _) ?_
       refine Zb (fr (o.length) (fun j Q=>j≤o.length→Q [(1,.loc 1 0),(3,.d (.sl tk o.length 1 row)),(4,.d (.int .i64 i)),(6,.d (WB l)),(8,.d (.int .i64 k)),(9,.d (.bool (dC (x∈o.take j)))),(10,.d (.int .i64 j))] [(1,m.cells)] (st.own tk (o.length*1))) (fun n af=>?_) fun av=>?_)
       ·intro j hnj hj
        refine rx (nd2 @WB.eq_1 @eQ1) ?_
        refine cd (fun h6=>?_) (fun h6=>?_)
        ·simp at h6
         have a6:=y j h6
         have a0:dC (x∈o.take (j+1))=(dC (x∈o.take j) ||decide (o.getD j dE=x)):=by
          rw[Z0 h6,Bool.eq_iff_iff];simp only[List.mem_append,List.mem_singleton,ZFb,decide_eq_true_eq];exact or_congr Iff.rfl ⟨Eq.symm,Eq.symm⟩
         refine xA (nd2 @WB.eq_1 (nd2 @eQ1 (nd2 @hx @a6))) ?_
         refine gA ?_
         refine Za ?_
         have c:=af ((o.length)-(j+1)) (by omega) (j+1) rfl (by omega)
         rw[a0]at c
         exact c
        simp at h6
        obtain rfl:j=o.length:=by omega
        rw[ZFc]
        refine rg ?_
        refine cd (fun h7=>?_) (fun h7=>?_)
        ·have aq:x∉o:=by simpa using h7
         refine xA (nd2 @WB.eq_1 (nd2 @eQ1 @hx)) ?_
         refine QE (st) (tk) rfl rfl rfl rfl rfl rfl (by trivial) (by trivial) rfl (by first|trivial|assumption) (by omega) (by (unfold big;omega)) fun t3 a9=>Zm ?_
         simp only[Eqs,reduceCtorEq,ZEV,reduceIte,ZET,ZEX,ZEU]
         refine gA ?_
         have ar:=y.snoc (x:=x) (row2:=Z4 [.str []] ([0].zip [.str x])) rfl rfl
         have c:=z (l.length-(k+1)) (by omega) (k+1) rfl t3 _ (o++[x]) a9 ar (by rw[ai,QW,if_neg aq]) (by omega)
         rw[ZE1]at c
         refine Za ?_
         exact c
        have aq:x∈o:=by simpa using h7
        refine gA ?_
        have c:=z (l.length-(k+1)) (by omega) (k+1) rfl tk row o ad y (by rw[ai,QW,if_pos aq]) (by omega)
        refine Za ?_
        exact c
       exact av _ 0 rfl (by omega)
      simp at h5
      obtain rfl:k=l.length:=by omega
      rw[ZFc]at ho
      refine gA ?_
      have c:=ak (m.fields.length-(i+1)) (by omega) (i+1) rfl tk row o ad y (by rw[ag,List.foldl_append,←ac,ho,ax]) (by omega)
      refine Za ?_
      exact c
     exact au _ 0 rfl tk row t ad y rfl (by omega)
    exact az _ 0 rfl tl u ll al v (by simp) (by omega)
   refine cd (fun h3=>?_) (fun h3=>?_)
   ·refine rx @eQ0 ?_
    refine QE (st.own tk (t.length*1)) (.full) rfl rfl rfl rfl rfl rfl (by trivial) (by trivial) rfl (by first|trivial|assumption) (by decide) (by (unfold big;decide)) fun t2 ao=>Zm ?_
    simp only[Eqs,reduceCtorEq,ZEV,reduceIte,ZET,ZEX,ZEU]
    have ah:[f.of]=KV f:=by unfold KV;rw[if_pos (by rw[←Bool.or_assoc];exact h3)]
    exact jn t2 _ [f.of] ao (ZV.nil.snoc (x:=f.of) rfl rfl) ah
   refine Zv ?_
   refine kE [1,3,4,5,6] ?_
   refine kl (st.own tk (t.length*1)) [(1,.loc 1 0),(3,.d (.sl tk t.length 1 row)),(4,.d (.int .i64 i)),(5,.loc 5 0),(6,.d (.sl .full 0 1 fun _=>[]))] [(1,m.cells),(5,f.cells)] (.skip (.skip (.skip (.skip (.cons (.d (WH fun b h=>by cases h)) .nil))))) (WU _) ?_
   have ah:[]=KV f:=by unfold KV;rw[if_neg (by rw[←Bool.or_assoc,h3];simp)]
   exact jn .full _ [] trivial ZV.nil ah
  simp at hd
  obtain rfl:i=m.fields.length:=by omega
  rw[ZFc]at ac
  refine rg ?_
  have ba:Y1 m=t:=ac.symm
  rw[ba]at am
  exact am rfl (by trivial) (Zed (y.le rfl)) (Wm ad)
 exact a4 _ 0 rfl .full _ [] trivial ZV.nil rfl (by omega)
def ZvD(l:List Bool):D:=slD 1 (fun b=>[.bool b]) l
def QQ(d:Dfn)(m:Msg)(prev:List Bool):Bool:=m.fields.all (fun f=>!f.loose)&&(Y1 m).all fun s=>prev.getD (Zn d s prev.length).toNat dE
def WL(d:Dfn):Nat→List Bool
 |0=>[]
 |n+1=>WL d n++[QQ d (d.msgs.getD n dE) (WL d n)]
theorem Jo(d:Dfn)(n:Nat):(WL d n).length=n:=by
 induction n with
 |zero=>rfl
 |succ n ih=>simp[WL,ih]
structure ZjL(d:Dfn)(j:Nat):Prop where
 few:((d.msgs.getD j default).fields.flatMap Z5).length≤1000000
 ref:∀s∈Y1 (d.msgs.getD j default),0≤Zn d s j
theorem ZgQ{α:Type}[Inhabited α]{p:α→Bool}{l:List α}{i:Nat}(h:i<l.length):(l.take (i+1)).all p=((l.take i).all p&&p (l.getD i dE)):=by
 rw[Z0 h,List.all_append];simp
theorem Zn9(d:Dfn)(sm:Nat)(hs:sm≤d.msgs.length)(hsm:sm≤1000)(hr:∀j,j<sm→ZjL d j):Zc ZEQ 240 [.agg d.cells,.int .i64 sm] (ZvD (WL d sm)):=by
 refine ZJ (cR 240 f240) fun af F st ad=>?_
 have hw:=(Zgh (s:=d) (af _ (by simp))).nmsgs
 have az:=(Zgh (s:=d) (af _ (by simp))).msgs
 unfold big at hw
 clear af
 refine rx (nd2 @eQ2 (nd2 @eQ6 @eQ1)) ?_
 refine gG ?_
 refine kl (st) [(1,.d (.int .i64 sm)),(2,.loc 2 0),(5,.d (.sl .full 0 1 fun _=>[])),(6,.d (.int .i64 (0:Nat)))] [(2,d.cells)] (.skip (.skip (.cons (.d (WH fun b h=>by cases h)) (.skip .nil)))) (WU _) ?_
 refine Zb (fr (sm) (fun i Q=>∀tk row c,tk.okIn st→ZV (fun b=>[.bool b]) row c→c=WL d i→i≤sm→Q [(1,.d (.int .i64 sm)),(2,.loc 2 0),(5,.d (.sl tk c.length 1 row)),(6,.d (.int .i64 i))] [(2,d.cells)] (st.own tk (c.length*1))) (fun n ac=>?_) fun ar=>?_)
 ·intro i hn tk row c am ab z hi
  have ap:c.length=i:=by rw[z,Jo]
  refine rx (nd2 @eQ2 (nd2 @eQ6 @eQ1)) ?_
  refine cd (fun hd=>?_) (fun hd=>?_)
  ·simp at hd
   have aw:i<d.msgs.length:=by omega
   have ah:=hr i hd
   have av:=(az _ (Zy aw)).nfields
   unfold big at av
   have ag:WL d (i+1)=c++[QQ d (d.msgs.getD i dE) c]:=by rw[WL,←z]
   generalize hm:d.msgs.getD i dE=m at *
   refine gG ?_
   refine Zb (fr (m.fields.length) (fun k Q=>k≤m.fields.length→Q [(1,.d (.int .i64 sm)),(2,.loc 2 0),(5,.d (.sl tk c.length 1 row)),(6,.d (.int .i64 i)),(7,.d (.bool ((m.fields.take k).all fun f=>!f.loose))),(8,.d (.int .i64 k))] [(2,d.cells)] (st.own tk (c.length*1))) (fun n u=>?_) fun al=>?_)
   ·intro k hnk hk
    refine xA (nd2 @eQ2 (nd2 @eQ3 (nd2 @eQ6 (nd2 @eQ4 (nd2 @eQ1 @hm))))) ?_
    refine cd (fun h4=>?_) (fun h4=>?_)
    ·simp at h4
     have v:=ZgQ (p:=fun f:Fld=>!f.loose) h4
     refine xA (nd2 @eQ2 (nd2 @eQ3 (nd2 @eQ0 (nd2 @eQ6 (nd2 @eQ4 (nd2 @eQ1 @hm)))))) ?_
     refine gA ?_
     refine Za ?_
     have t:=u ((m.fields.length)-(k+1)) (by omega) (k+1) rfl (by omega)
     rw[v]at t
     exact t
    simp at h4
    obtain rfl:k=m.fields.length:=by omega
    rw[ZFc]
    refine xA (nd2 @eQ2 (nd2 @eQ3 (nd2 @eQ6 (nd2 @eQ1 @hm)))) ?_
    have c9:=ZhH m (by have:=ah.few;rw[hm]at this;exact this)
    refine cl (c9) ?_
    refine rg ?_
    have ak:=ah.few
    have ae:=ah.ref
    rw[hm]at ak ae
    have aj:=Qg (m.fields.flatMap Z5) []
    rw[show(m.fields.flatMap Z5).foldl QW []=Y1 m from rfl]at aj
    simp only[List.length_nil,Nat.zero_add]at aj
    have ao:QQ d m c=((m.fields.all fun f=>!f.loose)&&(Y1 m).all fun s=>c.getD (Zn d s i).toNat dE):=by rw[QQ,ap]
    generalize (m.fields.all fun f=>!f.loose)=lo at *
    generalize hrs:Y1 m=rs at *
    refine kl (st.own tk (c.length*1)) [(1,.d (.int .i64 sm)),(2,.loc 2 0),(5,.d (.sl tk c.length 1 row)),(6,.d (.int .i64 i)),(7,.d (.bool (lo&&(rs.take 0).all fun s=>c.getD (Zn d s i).toNat dE))),(9,.d (WB rs)),(10,.d (.int .i64 (0:Nat)))] [(2,d.cells)] (by rw[show(lo&&(rs.take 0).all fun s=>c.getD (Zn d s i).toNat dE)=lo by simp];exact KH _) (WU _) ?_
    refine Zb (fr (rs.length) (fun q Q=>q≤rs.length→Q [(1,.d (.int .i64 sm)),(2,.loc 2 0),(5,.d (.sl tk c.length 1 row)),(6,.d (.int .i64 i)),(7,.d (.bool (lo&&(rs.take q).all fun s=>c.getD (Zn d s i).toNat dE))),(9,.d (WB rs)),(10,.d (.int .i64 q))] [(2,d.cells)] (st.own tk (c.length*1))) (fun n y=>?_) fun ai=>?_)
    ·intro q hnq hq
     refine rx (nd2 @WB.eq_1 @eQ1) ?_
     refine cd (fun h5=>?_) (fun h5=>?_)
     ·simp at h5
      have v:=ZgQ (p:=fun s:Str=>c.getD (Zn d s i).toNat dE) h5
      have hge:=ae _ (Zy h5)
      have aq:=Y2 (fun m=>dC (m.name=rs.getD q dE)) (d.msgs.take i)
      rw[show Zk (fun m=>dC (m.name=rs.getD q dE)) (d.msgs.take i)=Zn d (rs.getD q dE) i from rfl,ZE9]at aq
      have au:=ab (Zn d (rs.getD q dE) i).toNat (by omega)
      refine xA (nd2 @eQ2 (nd2 @eQ6 (nd2 @WB.eq_1 @eQ1))) ?_
      have c9:=WN d (rs.getD q dE) i (by omega)
      refine Zky rfl rfl rfl rfl rfl (fun ay=>⟨by first|trivial|(simpa[Za8]using ay),trivial,c9⟩) (YZ ?_)
      simp only[Eqs,reduceCtorEq,ZEV,reduceIte,ZET,ZEX,ZEU,au]
      refine aa ?_
      refine gA ?_
      refine Za ?_
      have t:=y ((rs.length)-(q+1)) (by omega) (q+1) rfl (by omega)
      rw[v,←Bool.and_assoc]at t
      exact t
     simp at h5
     obtain rfl:q=rs.length:=by omega
     rw[ZFc,←ao]
     refine gA ?_
     refine QE (st) (tk) rfl rfl rfl rfl rfl rfl (by trivial) (by trivial) rfl (by first|trivial|assumption) (by omega) (by (unfold big;omega)) fun t1 ax=>Zm ?_
     simp only[Eqs,reduceCtorEq,ZEV,reduceIte,ZET,ZEX,ZEU]
     refine gA ?_
     have t:=ac (sm-(i+1)) (by omega) (i+1) rfl t1 _ (c++[QQ d m c]) ax (ab.snoc (x:=QQ d m c) (row2:=Z4 [.bool false] ([0].zip [.bool (QQ d m c)])) rfl rfl) ag.symm (by omega)
     rw[ZE1]at t
     refine Za ?_
     exact t
    exact ai _ 0 rfl (by omega)
   exact al _ 0 rfl (by omega)
  simp at hd
  obtain rfl:i=sm:=by omega
  refine rg ?_
  rw[←z]at ad
  exact ad rfl (by trivial) (Zed (ab.le rfl)) (Wm am)
 exact ar _ 0 rfl .full _ [] trivial ZV.nil rfl (by omega)
def ZeG(f:Fld):Bool:=!dC (f.bits=2)&&(!dC (f.bits=4)&&(dC (f.bits<8) ||(dC (512<f.bits)||!dC (Int.tmod f.bits 8=0))))
def Zff(m:Msg)(i:Nat)(f:Fld):Bool:=dC (Yz m f.tag i<0) ||(!YA (m.fields.getD (Yz m f.tag i).toNat dE) ||Zot m f.tag i)
def Zke(d:Dfn)(at_:Nat)(f:Fld):Bool:=dC (Zn d f.of at_<0)||!(WL d at_).getD (Zn d f.of at_).toNat dE
def Qh(d:Dfn)(at_:Nat)(m:Msg)(i:Nat)(f:Fld):Int :=
 if f.kind=1 then Kh f else if f.kind=2 then Kh f
 else if f.kind=3 then (if ZfC f.low f.high then 0 else 7)
 else if f.kind=4 then JM (m.fields.take i) f.size
 else if f.kind=5 then (if dC (f.low<0) ||(dC (255<f.low) ||(dC (f.high<0) ||decide (1048576<f.high))) then 7 else 0)
 else if f.kind=6 then (if dC (f.high<2) ||decide (1048576<f.high) then 7 else 0)
 else if f.kind=7 then (if Zn d f.of at_<0 then 8 else JM (m.fields.take i) f.size)
 else if f.kind=8 then (if Zn d f.of at_<0 then 8 else 0)
 else if f.kind=9 then (if Zff m i f then 8 else Zdj d at_ f (Wh (m.fields.getD (Yz m f.tag i).toNat dE)).1 (Wh (m.fields.getD (Yz m f.tag i).toNat dE)).2)
 else if f.kind=10 then (if ZeG f then 6 else 0)
 else if f.kind=11 then (if dC (f.check<1) ||decide (3<f.check) then 7 else if Yz m f.from_ i<0 then 8 else 0)
 else if f.kind=12 then (if dC (f.key<0) ||decide (4294967295<f.key) then 7 else if Zke d at_ f then 8 else JM (m.fields.take i) f.size)
 else 0
theorem Zr0(d:Dfn)(at_ i:Nat)(m:Msg)(f:Fld)(ha:at_<d.msgs.length)(hm:d.msgs.getD at_ dE=m)(hi:i<m.fields.length)(hf:m.fields.getD i dE=f)(h1000:at_≤1000)(hr:∀j,j<at_→ZjL d j)(_:1≤f.kind)(_:f.kind≤12):Zc ZEQ 190 [.agg d.cells,.int .i64 at_,.int .i64 i] (.int .i64 (Qh d at_ m i f)):=by
 refine Ze (cR 190 f190) fun F st c=>?_
 have hS:=Qh.eq_1 d at_ m i f
 have u:=Zr1 m i hi
 rw[hf]at u
 refine rx (nd2 @eQ2 (nd2 @eQ6 @eQ1)) ?_
 refine xA (nd2 @eQ2 (nd2 @eQ3 (nd2 @eQ6 (nd2 @eQ1 @hm)))) ?_
 refine xA (nd2 @eQ3 (nd2 @eQ0 (nd2 @eQ4 (nd2 @eQ1 @hf)))) ?_
 refine gG ?_
 refine cd (fun hk=>?_) (fun hk=>?_)
 ·rw[if_pos (of_decide_eq_true hk)]at hS
  refine Zv ?_
  refine i1 ?_
  refine rx @eQ0 ?_
  refine cX @eQ0 (ZhI f) ?_
  refine ri c ?_
  exact hS.symm
 rw[if_neg (of_decide_eq_false hk)]at hS
 refine rg ?_
 refine cd (fun hk=>?_) (fun hk=>?_)
 ·rw[if_pos (of_decide_eq_true hk)]at hS
  refine rx @eQ0 ?_
  refine cX @eQ0 (ZhI f) ?_
  refine ri c ?_
  exact hS.symm
 rw[if_neg (of_decide_eq_false hk)]at hS
 refine rg ?_
 refine cd (fun hk=>?_) (fun hk=>?_)
 ·rw[if_pos (of_decide_eq_true hk)]at hS
  refine rx @eQ0 ?_
  refine cl (ZsM f.low f.high) ?_
  refine cd (fun h=>?_) (fun h=>?_)
  ·rw[show ZfC f.low f.high=false by simpa using h]at hS
   refine rg ?_
   refine ri c ?_
   exact hS.symm
  rw[show ZfC f.low f.high=true by simpa using h]at hS
  refine rg ?_
  refine ri c ?_
  exact hS.symm
 rw[if_neg (of_decide_eq_false hk)]at hS
 refine rg ?_
 refine cd (fun hk=>?_) (fun hk=>?_)
 ·rw[if_pos (of_decide_eq_true hk)]at hS
  refine rx (nd2 @eQ3 (nd2 @eQ4 @eQ1)) ?_
  refine cl (u) ?_
  refine ri c ?_
  exact hS.symm
 rw[if_neg (of_decide_eq_false hk)]at hS
 refine rg ?_
 refine cd (fun hk=>?_) (fun hk=>?_)
 ·rw[if_pos (of_decide_eq_true hk)]at hS
  refine rx @eQ0 ?_
  rw[←Bool.or_assoc,←Bool.or_assoc]at hS
  refine cd (fun h=>?_) (fun h=>?_)
  ·rw[h]at hS
   refine rg ?_
   refine ri c ?_
   exact hS.symm
  rw[h]at hS
  refine rg ?_
  refine ri c ?_
  exact hS.symm
 rw[if_neg (of_decide_eq_false hk)]at hS
 refine rg ?_
 refine cd (fun hk=>?_) (fun hk=>?_)
 ·rw[if_pos (of_decide_eq_true hk)]at hS
  refine rx @eQ0 ?_
  refine cd (fun h=>?_) (fun h=>?_)
  ·rw[h]at hS
   refine rg ?_
   refine ri c ?_
   exact hS.symm
  rw[h]at hS
  refine rg ?_
  refine ri c ?_
  exact hS.symm
 rw[if_neg (of_decide_eq_false hk)]at hS
 refine rg ?_
 refine cd (fun hk=>?_) (fun hk=>?_)
 ·rw[if_pos (of_decide_eq_true hk)]at hS
  refine rx (nd2 @eQ2 (nd2 @eQ0 (nd2 @eQ6 @eQ1))) ?_
  have c9:=WN d f.of at_ (by omega)
  refine cX (nd2 @eQ2 (nd2 @eQ6 @eQ1)) (c9) ?_
  refine cd (fun h=>?_) (fun h=>?_)
  ·rw[if_pos (of_decide_eq_true h)]at hS
   refine rg ?_
   refine ri c ?_
   exact hS.symm
  rw[if_neg (of_decide_eq_false h)]at hS
  refine rx (nd2 @eQ3 (nd2 @eQ4 @eQ1)) ?_
  refine cl (u) ?_
  refine ri c ?_
  exact hS.symm
 rw[if_neg (of_decide_eq_false hk)]at hS
 refine rg ?_
 refine cd (fun hk=>?_) (fun hk=>?_)
 ·rw[if_pos (of_decide_eq_true hk)]at hS
  refine rx (nd2 @eQ2 (nd2 @eQ0 (nd2 @eQ6 @eQ1))) ?_
  have c9:=WN d f.of at_ (by omega)
  refine cX (nd2 @eQ2 (nd2 @eQ6 @eQ1)) (c9) ?_
  refine cd (fun h=>?_) (fun h=>?_)
  ·rw[if_pos (of_decide_eq_true h)]at hS
   refine rg ?_
   refine ri c ?_
   exact hS.symm
  rw[if_neg (of_decide_eq_false h)]at hS
  refine rg ?_
  refine ri c ?_
  exact hS.symm
 rw[if_neg (of_decide_eq_false hk)]at hS
 refine rg ?_
 refine cd (fun hk=>?_) (fun hk=>?_)
 ·rw[if_pos (of_decide_eq_true hk)]at hS
  refine rx (nd2 @eQ3 (nd2 @eQ0 (nd2 @eQ4 @eQ1))) ?_
  have c9:=ZaR m f.tag i (by omega)
  refine cX (nd2 @eQ3 (nd2 @eQ4 @eQ1)) (c9) ?_
  have v:=Qy (fun g=>dC (g.name=f.tag)) (m.fields.take i)
  have n:=Y2 (fun g=>dC (g.name=f.tag)) (m.fields.take i)
  rw[ZE9]at n
  rw[show Zk (fun g=>dC (g.name=f.tag)) (m.fields.take i)=Yz m f.tag i from rfl]at v n
  unfold Zff at hS
  generalize Yz m f.tag i=q at *
  refine xA (nd2 @eQ3 (nd2 @eQ0 (nd2 @eQ4 @eQ1))) ?_
  refine ZbO rfl rfl rfl rfl rfl (fun t=>⟨by first|trivial|(simpa[Za8]using t),trivial,ZdK (m.fields.getD q.toNat dE)⟩) (Zm ?_)
  simp only[Eqs,reduceCtorEq,ZEV,reduceIte,ZET,ZEX,ZEU,Msg.cells,Fld.cells,Zo,slD]
  refine aa ?_
  have c9:=ZpR m f.tag i (by omega)
  refine ZbO rfl rfl rfl rfl rfl (fun t=>⟨by first|trivial|(simpa[Za8]using t),trivial,c9⟩) (Zm ?_)
  simp only[Eqs,reduceCtorEq,ZEV,reduceIte,ZET,ZEX,ZEU,Msg.cells,Fld.cells,Zo,slD]
  refine aa ?_
  rw[←Bool.or_assoc]at hS
  refine cd (fun h=>?_) (fun h=>?_)
  ·rw[h]at hS
   refine rg ?_
   refine ri c ?_
   exact hS.symm
  rw[h]at hS
  have hq:¬q<0:=by intro hq;rw[decide_eq_true hq]at h;simp at h
  refine xA (nd2 @eQ3 (nd2 @eQ0 (nd2 @eQ4 @eQ1))) ?_
  refine cl (ZiN (m.fields.getD q.toNat dE)) ?_
  refine rx (nd2 @eQ2 @eQ0) ?_
  refine JP rfl rfl rfl rfl rfl (by trivial) (by trivial) (by exact ZrY d at_ f _ _ (by omega)) (Zm ?_)
  simp only[Eqs,reduceCtorEq,ZEV,reduceIte,ZET,ZEX,ZEU]
  refine ri c ?_
  exact hS.symm
 rw[if_neg (of_decide_eq_false hk)]at hS
 refine rg ?_
 refine cd (fun hk=>?_) (fun hk=>?_)
 ·rw[if_pos (of_decide_eq_true hk)]at hS
  refine rx @eQ0 ?_
  have ht1:=Int.tmod_lt_of_pos f.bits (show(0:Int)<8 by decide)
  have ht2:=Int.lt_tmod_of_pos f.bits (show(0:Int)<8 by decide)
  repeat(refine ZER (by first|omega|trivial|(intro h0;simp at h0;omega)|(intro _;omega)) ?_)
  have y:ZeG f=(!dC (f.bits=2)&&!dC (f.bits=4)&&(dC (f.bits<8) ||decide (512<f.bits)||!dC (Int.tmod f.bits 8=0))):=by simp only[ZeG,Bool.or_assoc,Bool.and_assoc]
  rw[y]at hS
  refine cd (fun h=>?_) (fun h=>?_)
  ·rw[h]at hS
   refine rg ?_
   refine ri c ?_
   exact hS.symm
  rw[h]at hS
  refine rg ?_
  refine ri c ?_
  exact hS.symm
 rw[if_neg (of_decide_eq_false hk)]at hS
 refine rg ?_
 refine cd (fun hk=>?_) (fun hk=>?_)
 ·rw[if_pos (of_decide_eq_true hk)]at hS
  refine rx @eQ0 ?_
  refine cd (fun h=>?_) (fun h=>?_)
  ·rw[h]at hS
   refine rg ?_
   refine ri c ?_
   exact hS.symm
  rw[h,if_neg (by decide)]at hS
  refine rx (nd2 @eQ3 (nd2 @eQ0 (nd2 @eQ4 @eQ1))) ?_
  have c9:=ZaR m f.from_ i (by omega)
  refine cl (c9) ?_
  refine cd (fun h2=>?_) (fun h2=>?_)
  ·rw[if_pos (of_decide_eq_true h2)]at hS
   refine rg ?_
   refine ri c ?_
   exact hS.symm
  rw[if_neg (of_decide_eq_false h2)]at hS
  refine rg ?_
  refine ri c ?_
  exact hS.symm
 rw[if_neg (of_decide_eq_false hk)]at hS
 refine rg ?_
 refine cd (fun hk=>?_) (fun hk=>?_)
 ·rw[if_pos (of_decide_eq_true hk)]at hS
  refine rx @eQ0 ?_
  refine cd (fun h=>?_) (fun h=>?_)
  ·rw[h]at hS
   refine rg ?_
   refine ri c ?_
   exact hS.symm
  rw[h,if_neg (by decide)]at hS
  refine rx (nd2 @eQ2 (nd2 @eQ0 (nd2 @eQ6 @eQ1))) ?_
  have c9:=WN d f.of at_ (by omega)
  refine cl (c9) ?_
  have v:=Qy (fun g=>dC (g.name=f.of)) (d.msgs.take at_)
  have n:=Y2 (fun g=>dC (g.name=f.of)) (d.msgs.take at_)
  rw[ZE9]at n
  rw[show Zk (fun g=>dC (g.name=f.of)) (d.msgs.take at_)=Zn d f.of at_ from rfl]at v n
  unfold Zke at hS
  generalize Zn d f.of at_=q at *
  have z:=Jo d at_
  refine rx (nd2 @eQ2 (nd2 @eQ6 @eQ1)) ?_
  have c9:=Zn9 d at_ (by omega) (by omega) hr
  refine ZbO rfl rfl rfl rfl rfl (fun t=>⟨by first|trivial|(simpa[Za8]using t),trivial,c9⟩) (Zm ?_)
  simp only[Eqs,reduceCtorEq,ZEV,reduceIte,ZET,ZEX,ZEU,ZvD,slD]
  rw[z]
  refine ZER (fun h=>by simp at h;omega) ?_
  refine cd (fun h2=>?_) (fun h2=>?_)
  ·rw[h2]at hS
   refine rg ?_
   refine ri c ?_
   exact hS.symm
  rw[h2]at hS
  refine rx (nd2 @eQ3 (nd2 @eQ4 @eQ1)) ?_
  refine cl (u) ?_
  refine ri c ?_
  exact hS.symm
 rw[if_neg (of_decide_eq_false hk)]at hS
 refine rg ?_
 refine ri c ?_
 exact hS.symm
def WI(d:Dfn)(at_:Nat)(m:Msg)(i:Nat)(f:Fld):Int :=
 if Yl f.name=false then 1 else if 0≤Yz m f.name i then 2 else if dC (f.kind<1) ||decide (12<f.kind) then 4 else if Zde f=false then 5 else Qh d at_ m i f
theorem ZrZ(d:Dfn)(at_ i:Nat)(m:Msg)(f:Fld)(ha:at_<d.msgs.length)(hm:d.msgs.getD at_ dE=m)(hi:i<m.fields.length)(hf:m.fields.getD i dE=f)(h1000:at_≤1000)(hr:∀j,j<at_→ZjL d j):Zc ZEQ 149 [.agg d.cells,.int .i64 at_,.int .i64 i] (.int .i64 (WI d at_ m i f)):=by
 refine Ze (cR 149 f149) fun F st c=>?_
 have hS:=WI.eq_1 d at_ m i f
 refine rx (nd2 @eQ2 (nd2 @eQ6 @eQ1)) ?_
 refine xA (nd2 @eQ2 (nd2 @eQ3 (nd2 @eQ0 (nd2 @eQ6 (nd2 @eQ4 (nd2 @eQ1 (nd2 @hm @hf))))))) ?_
 refine rx @eQ0 ?_
 refine cl (Zbn f.name) ?_
 refine cd (fun h=>?_) (fun h=>?_)
 ·rw[if_pos (by simpa using h)]at hS
  refine rg ?_
  refine ri c ?_
  exact hS.symm
 rw[if_neg (by simpa using h)]at hS
 refine xA (nd2 @eQ2 (nd2 @eQ3 (nd2 @eQ0 (nd2 @eQ6 (nd2 @eQ4 (nd2 @eQ1 @hm)))))) ?_
 have c9:=ZaR m f.name i (by omega)
 refine cl0 (c9) ?_
 refine cd (fun h2=>?_) (fun h2=>?_)
 ·rw[if_pos (of_decide_eq_true h2)]at hS
  refine rg ?_
  refine ri c ?_
  exact hS.symm
 rw[if_neg (of_decide_eq_false h2)]at hS
 refine rx @eQ0 ?_
 refine cd (fun h3=>?_) (fun h3=>?_)
 ·rw[h3]at hS
  refine rg ?_
  refine ri c ?_
  exact hS.symm
 have n:=h3
 rw[Bool.or_eq_false_iff,decide_eq_false_iff_not,decide_eq_false_iff_not]at n
 rw[h3,if_neg (by decide)]at hS
 refine rx @eQ0 ?_
 have c9:=ZsN f (by omega) (by omega)
 refine cl (c9) ?_
 refine cd (fun h4=>?_) (fun h4=>?_)
 ·rw[if_pos (by simpa using h4)]at hS
  refine rg ?_
  refine ri c ?_
  exact hS.symm
 rw[if_neg (by simpa using h4)]at hS
 refine rx @eQ2 ?_
 have c9:=Zr0 d at_ i m f ha hm hi hf h1000 hr (by omega) (by omega)
 refine cl (c9) ?_
 refine ri c ?_
 exact hS.symm
def Ys(d:Dfn)(at_:Nat)(m:Msg):Nat→List Fld→Option (Int×Int)
 |_,[]=>nO
 |i,f::r=>if WI d at_ m i f=0 then Ys d at_ m (i+1) r else sO (i,WI d at_ m i f)
def WG(d:Dfn)(at_:Nat)(m:Msg):Option (Int×Int) :=
 if Yl m.name=false then sO (-1,1) else if 0≤Zn d m.name at_ then sO (-1,2) else if dC (m.fields.length<1) ||decide (40<m.fields.length) then sO (-1,3) else Ys d at_ m 0 m.fields
def ZaI(d:Dfn)(at_:Nat)(deps:List Int)(b:Int)(l:List Str):Int:=l.foldl (fun a s=>max a (deps.getD (Zn d s at_).toNat dE)) b
def Zdm(d:Dfn)(at_:Nat)(deps:List Int)(m:Msg):Int:=ZaI d at_ deps 0 (Y1 m)+1
def KQ(d:Dfn):Nat→List Msg→List Int→Option (Int×Int×Int)
 |_,[],_=>if Zn d d.start d.msgs.length<0 then sO (-1,-1,11) else nO
 |at_,m::r,deps=>match WG d at_ m with
  |some (i,c)=>sO (at_,i,c)
  |none=>if 16<Zdm d at_ deps m then sO (at_,-1,10) else KQ d (at_+1) r (deps++[Zdm d at_ deps m])
def Zbh(d:Dfn):Option (Int×Int×Int) :=
 if Yl d.name=false then sO (-1,-1,1) else if dC (d.msgs.length<1) ||decide (60<d.msgs.length) then sO (-1,-1,3) else KQ d 0 d.msgs []
def Zbr(d:Dfn):Bool:=(Zbh d).isNone
theorem ZvE{d:Dfn}{at_:Nat}{high low:Int}{l:List Yg}(h:ZaF d at_ high low l=0):∀c∈l,0≤Zn d c.of at_:=by
 induction l generalizing low with
 |nil=>simp
 |cons c r ih =>
  simp only[ZaF]at h
  split at h
  ·omega
  split at h
  ·omega
  intro x hx
  rcases List.mem_cons.1 hx with rfl|hx
  ·omega
  exact ih h x hx
theorem ZoW{d:Dfn}{at_ i:Nat}{m:Msg}{f:Fld}(h:WI d at_ m i f=0):(Z5 f).length≤41∧∀s∈Z5 f,0≤Zn d s at_:=by
 unfold WI at h
 split at h;· omega
 split at h;· omega
 split at h;· omega
 rename_i hk
 split at h;· omega
 simp only[ZFb,decide_eq_true_eq,not_or,Int.not_lt]at hk
 have c:f.kind=1∨f.kind=2∨f.kind=3∨f.kind=4∨f.kind=5∨f.kind=6∨f.kind=7∨f.kind=8∨f.kind=9∨f.kind=10∨f.kind=11∨f.kind=12:=by omega
 unfold Qh at h
 rcases c with hk|hk|hk|hk|hk|hk|hk|hk|hk|hk|hk|hk<;>simp only[hk,ZFy,if_true,if_false]at h<;>(try(simp[Z5,KV,hk];done))
 ·simp only[Z5,KV,hk];split at h
  ·omega
  simp;omega
 ·simp only[Z5,KV,hk];split at h
  ·omega
  simp;omega
 ·split at h
  ·omega
  unfold Zdj at h
  split at h
  ·omega
  rename_i hc
  simp only[ZFb,decide_eq_true_eq,not_or,Nat.not_lt]at hc
  have:=ZvE h
  simp[Z5,KV,hk]
  exact⟨by omega,this⟩
 split at h
 ·omega
 split at h
 ·omega
 rename_i hv
 simp only[Zke,ZFb,decide_eq_true_eq,not_or]at hv
 simp[Z5,KV,hk];omega
theorem Zmh{d:Dfn}{at_:Nat}{m:Msg}{i:Nat}{l:List Fld}(h:Ys d at_ m i l=nO):(l.flatMap Z5).length≤41*l.length∧∀s∈l.flatMap Z5,0≤Zn d s at_:=by
 induction l generalizing i with
 |nil=>simp
 |cons f r ih =>
  simp only[Ys]at h
  split at h
  ·rename_i hf
   have h1:=ZoW hf
   have h2:=ih h
   simp only[List.flatMap_cons,ZE1,ZE5,List.mem_append]
   refine⟨by omega,fun s hs=>?_⟩
   rcases hs with hs|hs
   ·exact h1.2 s hs
   exact h2.2 s hs
  simp at h
theorem Zgn{s:Str}{l out:List Str}:s∈l.foldl QW out↔s∈out∨s∈l:=by
 induction l generalizing out with
 |nil=>simp
 |cons x r ih =>
  simp only[List.foldl_cons,ih,ZFv]
  unfold QW
  split
  ·rename_i h
   constructor
   ·rintro(h1|h1)
    ·exact .inl h1
    exact .inr (.inr h1)
   rintro(h1|rfl|h1)
   ·exact .inl h1
   ·exact .inl h
   exact .inr h1
  simp only[List.mem_append,List.mem_singleton,_root_.or_assoc]
theorem ZsF{s:Str}{m:Msg}:s∈Y1 m↔s∈m.fields.flatMap Z5:=by
 unfold Y1;rw[Zgn];simp
theorem Zr9{d:Dfn}{j:Nat}{m:Msg}(hm:d.msgs.getD j dE=m)(h:WG d j m=nO):ZjL d j:=by
 unfold WG at h
 split at h;· simp at h
 split at h;· simp at h
 split at h;· simp at h
 rename_i hc
 simp only[ZFb,decide_eq_true_eq,not_or,Nat.not_lt]at hc
 have:=Zmh h
 subst hm
 exact⟨by omega,fun s hs=>this.2 s (ZsF.1 hs)⟩
end Go.DL
namespace Go.DL
open Go
variable {kp:Option (List Nat)}{L:Loc}{ρ:Env}{s:St}{w:World}{os:List DOp}{ds:List D}{B:List (Nat × Rd)}{dst:Option Nat}{tmps:Array Value}{g:G}{Φ:Res→St→Prop}{ν:Nat→Nat}{xs:List Opd}{side:Prop}{row:Nat→List D}
theorem ZX{q:Nat→Prop}{j:Nat}(h:∀i,i<j→q i)(hj:q j):∀i,i<j+1→q i:=fun i hi=>by
 rcases Nat.lt_or_eq_of_le (Nat.le_of_lt_succ hi) with h' |rfl
 ·exact h i h'
 exact hj
theorem Zn7{t:Tok}{x k:Nat}(ht:t.okIn s){o:Ya}(hx:s x=sO o):(s.own t k) x=sO o:=Wm ht _ _ hx
def st2(st:St)(t1:Tok)(k1:Nat)(t2:Tok)(k2:Nat)(x:Nat)(c:Ya):St:=((st.own t1 k1).own t2 k2).upd x c
theorem Yt{st:St}{t1 t2:Tok}{x k1 k2:Nat}{c:Ya}:(st2 st t1 k1 t2 k2 x c) x=sO c:=ZEZ _ _ _
theorem Yu{st:St}{t1 t2:Tok}{x k1 k2:Nat}{c c':Ya}:(st2 st t1 k1 t2 k2 x c).upd x c'=st2 st t1 k1 t2 k2 x c':=ZFd _ _ _ _
open Go.Proofs
def Qv{α:Type}(p:α→Bool):List α→Nat
 | []=>0
 |x::r=>if p x then 1 else Qv p r+1
theorem Za5{α:Type}{p:α→Bool}{l:List α}(h:∀x∈l,p x=false):Qv p l=l.length:=by
 induction l with
 |nil=>rfl
 |cons x r ih=>simp only[Qv,h x (by simp),ZE5];rw[ih fun y hy=>h y (by simp[hy])];simp
theorem ZcV{α:Type}[Inhabited α]{p:α→Bool}{l:List α}{i:Nat}(hi:i<l.length)(hp:p (l.getD i dE)=true)(h:∀j,j<i→p (l.getD j dE)=false):Qv p l=i+1:=by
 induction l generalizing i with
 |nil=>simp at hi
 |cons x r ih =>
  cases i with
  |zero=>simp at hp;simp[Qv,hp]
  |succ i =>
   have h0:=h 0 (by omega)
   simp only[List.getD_cons_zero]at h0
   simp only[List.getD_cons_succ,ZE5]at hp hi
   simp only[Qv,h0]
   rw[ih (by omega) hp fun j hj=>by have:=h (j+1) (by omega);simpa only[List.getD_cons_succ]using this]
   simp
def byC(b:UInt8):List D:=[.int .u8 (b.toNat:Int)]
theorem JU{α:Type}(p:α→Bool)(l:List α):l.any p=dC (0≤Zk p l):=by
 induction l with
 |nil=>rfl
 |cons x r ih =>
  have:=Qy p r
  rw[List.any_cons,ih]
  simp only[Zk]
  by_cases hx:p x=true
  ·simp[hx]
  by_cases hr:Zk p r<0
  ·simp[hx,hr]
  simp[hx,hr];omega
theorem ZdA(l:List Msg)(f:D)(p:Msg→Bool)(sts:Nat→St)(hf:∀i,i<l.length→VT ZEQ f [.agg (l.getD i dE).cells] (sts i) (.bool (p (l.getD i dE))) (sts (i+1))):
  ZS ZEQ 132 [slD 2 Msg.cells l,f] (sts 0) (.int .i64 (Zk p l)) (sts (Qv p l)):=by
 refine ZK (cR 132 f132) fun y F c=>?_
 have hw:=(Y3 (y (slD 2 Msg.cells l) (by simp))).1
 unfold big at hw
 clear y
 refine rx @eQ1 ?_
 refine rx @eQ1 ?_
 refine Zb (fr (l.length) (fun i Q=>i≤l.length→(∀j,j<i→p (l.getD j dE)=false)→Q [(0,.d (slD 2 Msg.cells l)),(1,.d f),(7,.d (.int .i64 l.length)),(8,.d (.int .i64 i))] [] (sts i)) (fun n u=>?_) fun z=>?_)
 ·intro i hn hi t
  refine rx @eQ1 ?_
  refine Zd (Zs rfl trivial (fun h1=>?_) (fun h1=>?_))
  ·simp at h1
   refine rx @eQ1 ?_
   refine xA (nd2 @eQ1 @eQ3) ?_
   refine cW (hf i h1) ?_
   refine cd (fun h2=>?_) (fun h2=>?_)
   ·have e1:=Ke h1 h2 t
    have e2:=ZcV h1 h2 t
    rw[e1,e2]at c
    refine rg ?_
    exact c rfl (by trivial) (ZEW _) (ZES _)
   refine gA ?_
   refine Za ?_
   exact u ((l.length)-(i+1)) (by omega) (i+1) rfl (by omega) (ZX (q:=fun j=>p (l.getD j dE)=false) t h2)
  simp at h1
  obtain rfl:i=l.length:=by omega
  have v:∀x∈l,p x=false:=fun x hx=>by
   obtain⟨j,hj,rfl⟩:=ZFa hx
   have:=t j hj
   simpa[ZE8,hj]using this
  rw[WM v,Za5 v]at c
  refine rg ?_
  exact c rfl (by trivial) (ZEW _) (ZES _)
 exact z _ 0 rfl (by omega) (by intro j hj;omega)
theorem ZeW(l:List Yg)(f:D)(p:Yg→Bool)(sts:Nat→St)(hf:∀i,i<l.length→VT ZEQ f [.agg (l.getD i dE).cells] (sts i) (.bool (p (l.getD i dE))) (sts (i+1))):
  ZS ZEQ 79 [slD 3 Yg.cells l,f] (sts 0) (.int .i64 (Zk p l)) (sts (Qv p l)):=by
 refine ZK (cR 79 f79) fun y F c=>?_
 have hw:=(Y3 (y (slD 3 Yg.cells l) (by simp))).1
 unfold big at hw
 clear y
 refine rx @eQ1 ?_
 refine rx @eQ1 ?_
 refine Zb (fr (l.length) (fun i Q=>i≤l.length→(∀j,j<i→p (l.getD j dE)=false)→Q [(0,.d (slD 3 Yg.cells l)),(1,.d f),(7,.d (.int .i64 l.length)),(8,.d (.int .i64 i))] [] (sts i)) (fun n u=>?_) fun z=>?_)
 ·intro i hn hi t
  refine rx @eQ1 ?_
  refine Zd (Zs rfl trivial (fun h1=>?_) (fun h1=>?_))
  ·simp at h1
   refine rx @eQ1 ?_
   refine xA (nd2 @eQ1 @Yg.cells.eq_1) ?_
   refine cW (hf i h1) ?_
   refine cd (fun h2=>?_) (fun h2=>?_)
   ·have e1:=Ke h1 h2 t
    have e2:=ZcV h1 h2 t
    rw[e1,e2]at c
    refine rg ?_
    exact c rfl (by trivial) (ZEW _) (ZES _)
   refine gA ?_
   refine Za ?_
   exact u ((l.length)-(i+1)) (by omega) (i+1) rfl (by omega) (ZX (q:=fun j=>p (l.getD j dE)=false) t h2)
  simp at h1
  obtain rfl:i=l.length:=by omega
  have v:∀x∈l,p x=false:=fun x hx=>by
   obtain⟨j,hj,rfl⟩:=ZFa hx
   have:=t j hj
   simpa[ZE8,hj]using this
  rw[WM v,Za5 v]at c
  refine rg ?_
  exact c rfl (by trivial) (ZEW _) (ZES _)
 exact z _ 0 rfl (by omega) (by intro j hj;omega)
theorem Qw(l:List Fld)(f:D)(p:Fld→Bool)(sts:Nat→St)(hf:∀i,i<l.length→VT ZEQ f [.agg (l.getD i dE).cells] (sts i) (.bool (p (l.getD i dE))) (sts (i+1))):
  ZS ZEQ 166 [slD 15 Fld.cells l,f] (sts 0) (.int .i64 (Zk p l)) (sts (Qv p l)):=by
 refine ZK (cR 166 f166) fun y F c=>?_
 have hw:=(Y3 (y (slD 15 Fld.cells l) (by simp))).1
 unfold big at hw
 clear y
 refine rx @eQ1 ?_
 refine rx @eQ1 ?_
 refine Zb (fr (l.length) (fun i Q=>i≤l.length→(∀j,j<i→p (l.getD j dE)=false)→Q [(0,.d (slD 15 Fld.cells l)),(1,.d f),(7,.d (.int .i64 l.length)),(8,.d (.int .i64 i))] [] (sts i)) (fun n u=>?_) fun z=>?_)
 ·intro i hn hi t
  refine rx @eQ1 ?_
  refine Zd (Zs rfl trivial (fun h1=>?_) (fun h1=>?_))
  ·simp at h1
   refine rx @eQ1 ?_
   refine xA (nd2 @eQ1 @eQ0) ?_
   refine cW (hf i h1) ?_
   refine cd (fun h2=>?_) (fun h2=>?_)
   ·have e1:=Ke h1 h2 t
    have e2:=ZcV h1 h2 t
    rw[e1,e2]at c
    refine rg ?_
    exact c rfl (by trivial) (ZEW _) (ZES _)
   refine gA ?_
   refine Za ?_
   exact u ((l.length)-(i+1)) (by omega) (i+1) rfl (by omega) (ZX (q:=fun j=>p (l.getD j dE)=false) t h2)
  simp at h1
  obtain rfl:i=l.length:=by omega
  have v:∀x∈l,p x=false:=fun x hx=>by
   obtain⟨j,hj,rfl⟩:=ZFa hx
   have:=t j hj
   simpa[ZE8,hj]using this
  rw[WM v,Za5 v]at c
  refine rg ?_
  exact c rfl (by trivial) (ZEW _) (ZES _)
 exact z _ 0 rfl (by omega) (by intro j hj;omega)
theorem ZeY(l:List UInt8)(f:D)(p:UInt8→Bool)(sts:Nat→St)(hf:∀i,i<l.length→VT ZEQ f [.int .u8 ((l.getD i dE).toNat:Int)] (sts i) (.bool (p (l.getD i dE))) (sts (i+1))):
  ZS ZEQ 159 [slD 1 byC l,f] (sts 0) (.int .i64 (Zk p l)) (sts (Qv p l)):=by
 refine ZK (cR 159 f159) fun y F c=>?_
 have hw:=(Y3 (y (slD 1 byC l) (by simp))).1
 unfold big at hw
 clear y
 refine rx @eQ1 ?_
 refine rx @eQ1 ?_
 refine Zb (fr (l.length) (fun i Q=>i≤l.length→(∀j,j<i→p (l.getD j dE)=false)→Q [(0,.d (slD 1 byC l)),(1,.d f),(7,.d (.int .i64 l.length)),(8,.d (.int .i64 i))] [] (sts i)) (fun n u=>?_) fun z=>?_)
 ·intro i hn hi t
  refine rx @eQ1 ?_
  refine Zd (Zs rfl trivial (fun h1=>?_) (fun h1=>?_))
  ·simp at h1
   refine rx @eQ1 ?_
   refine xA (nd2 @eQ1 @byC.eq_1) ?_
   refine cW (hf i h1) ?_
   refine cd (fun h2=>?_) (fun h2=>?_)
   ·have e1:=Ke h1 h2 t
    have e2:=ZcV h1 h2 t
    rw[e1,e2]at c
    refine rg ?_
    exact c rfl (by trivial) (ZEW _) (ZES _)
   refine gA ?_
   refine Za ?_
   exact u ((l.length)-(i+1)) (by omega) (i+1) rfl (by omega) (ZX (q:=fun j=>p (l.getD j dE)=false) t h2)
  simp at h1
  obtain rfl:i=l.length:=by omega
  have v:∀x∈l,p x=false:=fun x hx=>by
   obtain⟨j,hj,rfl⟩:=ZFa hx
   have:=t j hj
   simpa[ZE8,hj]using this
  rw[WM v,Za5 v]at c
  refine rg ?_
  exact c rfl (by trivial) (ZEW _) (ZES _)
 exact z _ 0 rfl (by omega) (by intro j hj;omega)
theorem ZcW(l:List Fld)(f:D)(p:Fld→Bool)(sts:Nat→St)(hf:∀i,i<l.length→VT ZEQ f [.agg (l.getD i dE).cells] (sts i) (.bool (p (l.getD i dE))) (sts (i+1))):
  ZS ZEQ 319 [slD 15 Fld.cells l,f] (sts 0) (.bool (l.any p)) (sts (Qv p l)):=by
 refine ZK (cR 319 f319) fun j F c=>?_
 clear j
 refine gG ?_
 refine ct (Qw l f p sts hf) ?_
 rw[JU]at c
 exact c rfl (by trivial) (ZEW _) (ZES _)
theorem KY(l:List UInt8)(f:D)(p:UInt8→Bool)(sts:Nat→St)(hf:∀i,i<l.length→VT ZEQ f [.int .u8 ((l.getD i dE).toNat:Int)] (sts i) (.bool (p (l.getD i dE))) (sts (i+1))):
  ZS ZEQ 107 [slD 1 byC l,f] (sts 0) (.bool (l.any p)) (sts (Qv p l)):=by
 refine ZK (cR 107 f107) fun j F c=>?_
 clear j
 refine gG ?_
 refine ct (ZeY l f p sts hf) ?_
 rw[JU]at c
 exact c rfl (by trivial) (ZEW _) (ZES _)
def boC(b:Bool):List D:=[.bool b]
def ZbL(s:Str):List D:=[.str s]
theorem Zl0{α:Type}[DecidableEq α](v:α)(l:List α):l.any (fun x=>dC (v=x))=dC (v∈l):=by
 induction l with
 |nil=>simp
 |cons x r ih=>rw[List.any_cons,ih];simp[ZFv]
theorem ZhF{α:Type}[Inhabited α]{l r:List α}(h:l.length=r.length)(h2:∀j,j<l.length→l.getD j dE=r.getD j dE):l=r:=by
 apply List.ext_getElem h
 intro i h1 h3
 have:=h2 i h1
 simpa[ZE8,h1,h3]using this
theorem Zhs(l:List Bool)(v:Bool):Zc ZEQ 204 [slD 1 boC l,.bool v] (.int .i64 (Zk (fun x=>dC (v=x)) l)):=by
 refine ZJ (cR 204 f204) fun z F st t=>?_
 have hw:=(Y3 (z (slD 1 boC l) (by simp))).1
 unfold big at hw
 clear z
 refine rx @eQ1 ?_
 refine rx @eQ1 ?_
 refine Zb (fr (l.length) (fun i Q=>i≤l.length→(∀j,j<i→dC (v=l.getD j dE)=false)→Q [(0,.d (slD 1 boC l)),(1,.d (.bool v)),(7,.d (.int .i64 l.length)),(8,.d (.int .i64 i))] [] st) (fun n c=>?_) fun ab=>?_)
 ·intro i hn hi u
  refine rx @eQ1 ?_
  refine Zd (Zs rfl trivial (fun h1=>?_) (fun h1=>?_))
  ·simp at h1
   refine rx @eQ1 ?_
   refine xA (nd2 @eQ1 @boC.eq_1) ?_
   refine cd (fun h2=>?_) (fun h2=>?_)
   ·have e1:=Ke (p:=fun x=>dC (v=x)) h1 h2 u
    refine rg ?_
    refine ri t ?_
    exact e1.symm
   refine gA ?_
   refine Za ?_
   exact c ((l.length)-(i+1)) (by omega) (i+1) rfl (by omega) (ZX (q:=fun j=>dC (v=l.getD j dE)=false) u h2)
  simp at h1
  obtain rfl:i=l.length:=by omega
  have y:∀x∈l,(fun x=>dC (v=x)) x=false:=fun x hx=>by
   obtain⟨j,hj,rfl⟩:=ZFa hx
   have:=u j hj
   simpa[ZE8,hj]using this
  refine rg ?_
  refine ri t ?_
  exact(WM y).symm
 exact ab _ 0 rfl (by omega) (by intro j hj;omega)
theorem Ze7(l:List Bool)(v:Bool):Zc ZEQ 158 [slD 1 boC l,.bool v] (.bool (dC (v∈l))):=by
 refine Ze (cR 158 f158) fun F st c=>?_
 refine gG ?_
 refine cl (Zhs l v) ?_
 refine rb c ?_
 rw[←JU,Zl0];try congr
theorem Zf5(l:List Str)(v:Str):Zc ZEQ 313 [slD 1 ZbL l,.str v] (.int .i64 (Zk (fun x=>dC (v=x)) l)):=by
 refine ZJ (cR 313 f313) fun z F st t=>?_
 have hw:=(Y3 (z (slD 1 ZbL l) (by simp))).1
 unfold big at hw
 clear z
 refine rx @eQ1 ?_
 refine rx @eQ1 ?_
 refine Zb (fr (l.length) (fun i Q=>i≤l.length→(∀j,j<i→dC (v=l.getD j dE)=false)→Q [(0,.d (slD 1 ZbL l)),(1,.d (.str v)),(7,.d (.int .i64 l.length)),(8,.d (.int .i64 i))] [] st) (fun n c=>?_) fun ab=>?_)
 ·intro i hn hi u
  refine rx @eQ1 ?_
  refine Zd (Zs rfl trivial (fun h1=>?_) (fun h1=>?_))
  ·simp at h1
   refine rx @eQ1 ?_
   refine xA (nd2 @eQ1 @ZbL.eq_1) ?_
   refine cd (fun h2=>?_) (fun h2=>?_)
   ·have e1:=Ke (p:=fun x=>dC (v=x)) h1 h2 u
    refine rg ?_
    refine ri t ?_
    exact e1.symm
   refine gA ?_
   refine Za ?_
   exact c ((l.length)-(i+1)) (by omega) (i+1) rfl (by omega) (ZX (q:=fun j=>dC (v=l.getD j dE)=false) u h2)
  simp at h1
  obtain rfl:i=l.length:=by omega
  have y:∀x∈l,(fun x=>dC (v=x)) x=false:=fun x hx=>by
   obtain⟨j,hj,rfl⟩:=ZFa hx
   have:=u j hj
   simpa[ZE8,hj]using this
  refine rg ?_
  refine ri t ?_
  exact(WM y).symm
 exact ab _ 0 rfl (by omega) (by intro j hj;omega)
theorem Zd8(l:List Str)(v:Str):Zc ZEQ 275 [slD 1 ZbL l,.str v] (.bool (dC (v∈l))):=by
 refine Ze (cR 275 f275) fun F st c=>?_
 refine gG ?_
 refine cl (Zf5 l v) ?_
 refine rb c ?_
 rw[←JU,Zl0];try congr
theorem Zhr(l r:List ZT):Zc ZEQ 311 [slD 2 ZT.cells l,slD 2 ZT.cells r] (.bool (dC (l=r))):=by
 refine ZJ (cR 311 f311) fun y F st c=>?_
 have hw:=(Y3 (y (slD 2 ZT.cells l) (by simp))).1
 unfold big at hw
 clear y
 refine rx @eQ1 ?_
 refine rx @eQ1 ?_
 refine cd (fun h1=>?_) (fun h1=>?_)
 ·refine rg ?_
  refine rb c ?_
  exact(decide_eq_false (fun e=>by rw[e]at h1;simp at h1)).symm
 have u:l.length=r.length:=by simp at h1;omega
 refine rx @eQ1 ?_
 refine Zb (fr (l.length) (fun i Q=>i≤l.length→(∀j,j<i→l.getD j dE=r.getD j dE)→Q [(0,.d (slD 2 ZT.cells l)),(1,.d (slD 2 ZT.cells r)),(12,.d (.int .i64 l.length)),(13,.d (.int .i64 i))] [] st) (fun n t=>?_) fun z=>?_)
 ·intro i hn hi v
  refine rx @eQ1 ?_
  refine Zd (Zs rfl trivial (fun h2=>?_) (fun h2=>?_))
  ·simp at h2
   refine rx @eQ1 ?_
   refine xA (nd2 @eQ1 @eQ8) ?_
   refine cd (fun h3=>?_) (fun h3=>?_)
   ·have ac:l.getD i dE≠r.getD i dE:=fun e=>by rw[e]at h3;simp at h3
    refine rg ?_
    refine rb c ?_
    exact(decide_eq_false (fun e=>ac (by rw[e]))).symm
   have ab:l.getD i dE=r.getD i dE:=by
    generalize l.getD i dE=a at h3⊢;generalize r.getD i dE=b at h3⊢;cases a;cases b;simpa[and_assoc]using h3
   refine gA ?_
   refine Za ?_
   exact t ((l.length)-(i+1)) (by omega) (i+1) rfl (by omega) (ZX (q:=fun j=>l.getD j dE=r.getD j dE) v ab)
  simp at h2
  obtain rfl:i=l.length:=by omega
  refine rg ?_
  refine rb c ?_
  exact(decide_eq_true (ZhF u v)).symm
 exact z _ 0 rfl (by omega) (by intro j hj;omega)
theorem Zhq(l r:List Yg):Zc ZEQ 312 [slD 3 Yg.cells l,slD 3 Yg.cells r] (.bool (dC (l=r))):=by
 refine ZJ (cR 312 f312) fun y F st c=>?_
 have hw:=(Y3 (y (slD 3 Yg.cells l) (by simp))).1
 unfold big at hw
 clear y
 refine rx @eQ1 ?_
 refine rx @eQ1 ?_
 refine cd (fun h1=>?_) (fun h1=>?_)
 ·refine rg ?_
  refine rb c ?_
  exact(decide_eq_false (fun e=>by rw[e]at h1;simp at h1)).symm
 have u:l.length=r.length:=by simp at h1;omega
 refine rx @eQ1 ?_
 refine Zb (fr (l.length) (fun i Q=>i≤l.length→(∀j,j<i→l.getD j dE=r.getD j dE)→Q [(0,.d (slD 3 Yg.cells l)),(1,.d (slD 3 Yg.cells r)),(12,.d (.int .i64 l.length)),(13,.d (.int .i64 i))] [] st) (fun n t=>?_) fun z=>?_)
 ·intro i hn hi v
  refine rx @eQ1 ?_
  refine Zd (Zs rfl trivial (fun h2=>?_) (fun h2=>?_))
  ·simp at h2
   refine rx @eQ1 ?_
   refine xA (nd2 @eQ1 @Yg.cells.eq_1) ?_
   refine cd (fun h3=>?_) (fun h3=>?_)
   ·have ac:l.getD i dE≠r.getD i dE:=fun e=>by rw[e]at h3;simp at h3
    refine rg ?_
    refine rb c ?_
    exact(decide_eq_false (fun e=>ac (by rw[e]))).symm
   have ab:l.getD i dE=r.getD i dE:=by
    generalize l.getD i dE=a at h3⊢;generalize r.getD i dE=b at h3⊢;cases a;cases b;simpa[and_assoc]using h3
   refine gA ?_
   refine Za ?_
   exact t ((l.length)-(i+1)) (by omega) (i+1) rfl (by omega) (ZX (q:=fun j=>l.getD j dE=r.getD j dE) v ab)
  simp at h2
  obtain rfl:i=l.length:=by omega
  refine rg ?_
  refine rb c ?_
  exact(decide_eq_true (ZhF u v)).symm
 exact z _ 0 rfl (by omega) (by intro j hj;omega)
theorem ZgC(c:UInt8):Zc ZEQ 104 [.int .u8 c.toNat] (.bool (Zdr c)):=by
 refine Ze (cR 104 f104) fun F st i=>?_
 refine gG ?_
 refine rb i ?_
 rfl
theorem ZpY(c:UInt8):Zc ZEQ 105 [.int .u8 c.toNat] (.bool (ZjQ c)):=by
 refine Ze (cR 105 f105) fun F st i=>?_
 refine gG ?_
 refine rb i ?_
 rfl
theorem ZdN(v:Int):Zc ZEQ 210 [.int .i64 v] (.bool (QP v)):=by
 refine Ze (cR 210 f210) fun F st c=>?_
 refine gG ?_
 refine rb c ?_
 simp only[QP]
theorem ZkW(l:List Bool):Zc ZEQ 106 [slD 1 boC l] (.bool (!dC (false∈l))):=by
 refine Ze (cR 106 f106) fun F st c=>?_
 refine gG ?_
 refine cl (Ze7 l false) ?_
 refine rb c ?_
 rfl
theorem Zjl(a b:Bool):Zc ZEQ 106 [.sl .full 2 1 (Z4 [.bool false] ([0,1].zip [.bool a,.bool b]))] (.bool (a&&b)):=by
 have h:ZV boC (Z4 [.bool false] ([0,1].zip [.bool a,.bool b])) [a,b]:=fun i hi=>by
  match i,hi with
  |0,_=>rfl
  |1,_=>rfl
 refine((ZkW [a,b]).leA (LeC.one (h.le rfl))).le ?_
 cases a<;>cases b<;>rfl
theorem Zpt(a b c:Bool):Zc ZEQ 106 [.sl .full 3 1 (Z4 [.bool false] ([0,1,2].zip [.bool a,.bool b,.bool c]))] (.bool (a&&(b&&c))):=by
 have h:ZV boC (Z4 [.bool false] ([0,1,2].zip [.bool a,.bool b,.bool c])) [a,b,c]:=fun i hi=>by
  match i,hi with
  |0,_=>rfl
  |1,_=>rfl
  |2,_=>rfl
 refine((ZkW [a,b,c]).leA (LeC.one (h.le rfl))).le ?_
 cases a<;>cases b<;>cases c<;>rfl
theorem Zor(c:UInt8):Zc ZEQ 103 [.int .u8 c.toNat] (.bool (!Jg c)):=by
 refine Ze (cR 103 f103) fun F st i=>?_
 refine gG ?_
 refine cl (ZgC c) ?_
 refine cG (ZpY c) ?_
 refine rb i ?_
 unfold Jg;cases Zdr c<;>cases ZjQ c<;>rfl
theorem Zu8(s:Str):Zc ZEQ 107 [slD 1 byC s,.fn (.func 103) [] []] (.bool (s.any fun c=>!Jg c)) :=
 fun st=>KY s _ _ (fun _=>st) fun i _=>(Zor _).VT (first:=[]) (caps:=[]) st
theorem Zv3(s:Str):Yl s=(((dC (1≤(s.length:Int))&&dC ((s.length:Int)≤32))&&Zdr (s.getD 0 0))&&!(s.any fun c=>!Jg c)):=by
 cases s with
 |nil=>rfl
 |cons c r =>
  have h:∀l:Str,l.all Jg=!(l.any fun c=>!Jg c):=fun l=>by
   induction l with
   |nil=>rfl
   |cons x r ih=>simp only[List.all_cons,List.any_cons,ih];cases Jg x<;>simp
  simp only[Yl,h,List.getD_cons_zero,ZE5]
  congr 2
  have h1:dC (1≤((r.length+1:Nat):Int))=true:=decide_eq_true (by omega)
  rw[h1,ZFe]
  exact decide_eq_decide.2 (by omega)
theorem ZaT(s:Str):Zc ZEQ 65 [.str s] (.bool (Yl s)):=by
 refine ZJ (cR 65 f65) fun i F st c=>?_
 have hs:=(i (.str s) (by simp)).str_inv
 unfold big at hs
 refine gG ?_
 refine rg ?_
 refine cl (Zjl _ _) ?_
 refine aa ?_
 refine cG (ZgC _) ?_
 refine cG (Zu8 s) ?_
 rw[Zv3]at c
 refine rb c ?_
 trivial
end Go.DL
namespace Go.DL
open Go
structure Hdr where
 name:Str
 text:Str
deriving Inhabited,DecidableEq
def Hdr.cells(h:Hdr):List D:=[.str h.name,.str h.text]
def Z2(l:List Hdr):D:=slD 2 Hdr.cells l
def u8C(b:UInt8):List D:=[.int .u8 b.toNat]
def ZM(b:Str):D:=slD 1 u8C b
inductive Val where
 |mk (name:Str) (int:Int) (bytes:Str) (hdrs:List Hdr) (parts:List Val)
namespace Val
def name:Val→Str
 |mk n _ _ _ _=>n
def int:Val→Int
 |mk _ i _ _ _=>i
def bytes:Val→Str
 |mk _ _ b _ _=>b
def hdrs:Val→List Hdr
 |mk _ _ _ h _=>h
def parts:Val→List Val
 |mk _ _ _ _ p=>p
end Val
instance:Inhabited Val:=⟨.mk [] 0 [] [] []⟩
def Zyb:List D:=[.str [],.int .i64 0,ZM [],Z2 [],.nilsl]
mutual
def Val.cells:Val→List D
 |.mk n i b h p=>[.str n,.int .i64 i,ZM b,Z2 h,.sl .none p.length 5 fun j=>(Val.cellsL p).getD j Zyb]
def Val.cellsL:List Val→List (List D)
 | []=>[]
 |v::r=>v.cells::Val.cellsL r
end
theorem Val.cellsL_get:∀(l:List Val) (j:Nat),j<l.length→(Val.cellsL l).getD j Zyb=(l.getD j dE).cells
 | [],j,h=>absurd h (Nat.not_lt_zero _)
 |v::r,0,_=>rfl
 |v::r,j+1,h=>by
  have:=cellsL_get r j (by simpa using h)
  simpa[Val.cellsL]using this
def Zd6(p:List Val)(j:Nat):List D:=(Val.cellsL p).getD j Zyb
theorem Zpo{p:List Val}{j:Nat}(h:j<p.length):Zd6 p j=(p.getD j dE).cells:=Val.cellsL_get p j h
def ZO(p:List Val):D:=.sl .none p.length 5 (Zd6 p)
theorem Val.cellsL_len:∀l:List Val,(Val.cellsL l).length=l.length
 | []=>rfl
 |v::r=>by simp[Val.cellsL,cellsL_len r]
theorem Val.cells_eq(v:Val):v.cells=[.str v.name,.int .i64 v.int,ZM v.bytes,Z2 v.hdrs,ZO v.parts]:=by
 cases v;rfl
theorem Val.len(v:Val):v.cells.length=5:=by rw[Val.cells_eq];rfl
theorem Val.ind{p:Val→Prop}(h:∀v:Val,(∀x∈v.parts,p x)→p v)(v:Val):p v:=by
 have c:∀n:Nat,∀v:Val,SizeOf.sizeOf v<n→p v:=by
  intro n
  induction n with
  |zero=>intro v h;omega
  |succ n ih =>
   intro v hv
   refine h v fun x hx=>ih x ?_
   have h1:SizeOf.sizeOf x<SizeOf.sizeOf v.parts:=List.sizeOf_lt_of_mem hx
   have h2:SizeOf.sizeOf v.parts<SizeOf.sizeOf v:=by cases v;simp[Val.parts];omega
   omega
 exact c _ v (Nat.lt_succ_self _)
theorem Wp{l:List Val}{i:Nat}(h:i<l.length):Zd6 l i=[.str (l.getD i dE).name,.int .i64 (l.getD i dE).int,ZM (l.getD i dE).bytes,Z2 (l.getD i dE).hdrs,ZO (l.getD i dE).parts]:=by rw[Zpo h,Val.cells_eq]
theorem Zzo(l:List Val)(i:Nat):∃x y b h p,Zd6 l i=[.str x,.int .i64 y,ZM b,Z2 h,p]∧(i<l.length→x=(l.getD i dE).name∧y=(l.getD i dE).int∧b=(l.getD i dE).bytes∧h=(l.getD i dE).hdrs∧p=ZO (l.getD i dE).parts):=by
 by_cases hi:i<l.length
 ·exact⟨_,_,_,_,_,Wp hi,fun _=>⟨rfl,rfl,rfl,rfl,rfl⟩⟩
 refine⟨[],0,[],[],.nilsl,?_,fun h=>absurd h hi⟩
 unfold Zd6
 rw[List.getD_eq_getElem?_getD,ZFA (by rw[Val.cellsL_len];omega)];rfl
end Go.DL
namespace Go.DL
open Go Go.Proofs
variable {kp:Option (List Nat)}{L:Loc}{ρ:Env}{s:St}{w:World}{os:List DOp}{ds:List D}{B:List (Nat × Rd)}{dst:Option Nat}{tmps:Array Value}{g:G}{Φ:Res→St→Prop}{ν:Nat→Nat}{xs:List Opd}{side:Prop}{row:Nat→List D}
def Zj9(c:UInt8):Bool:=dC ((32:Int)<c.toNat)&&dC ((c.toNat:Int)<127)
def JH(c:UInt8):Bool:=((dC ((65:Int)≤c.toNat)&&dC ((c.toNat:Int)≤90)) ||(dC ((97:Int)≤c.toNat)&&dC ((c.toNat:Int)≤122)) ||(dC ((48:Int)≤c.toNat)&&dC ((c.toNat:Int)≤57))) ||decide ((c.toNat:Int)=45)
def Zdq(s:Str):Bool:=s.all JH&&(dC (1≤(s.length:Int))&&dC ((s.length:Int)≤32))
def Zcv(c:UInt8):Bool:=dC ((c.toNat:Int)=32) ||Zj9 c
def Zgj(t:Str):Bool:=dC (t=[]) ||(!dC (((t.getD 0 0).toNat:Int)=32)&&!dC (((t.getD (t.length-1) 0).toNat:Int)=32))
def JX(h:Hdr):Bool:=h.text.all Zcv&&(Zdq h.name&&Zgj h.text)
def W3(l:List Hdr):Bool:=l.all JX&&dC ((l.length:Int)≤100)
def ZfN(h:Hdr):Str:=h.name++[58,32]++h.text++[13,10]
def ZaV(l:List Hdr):Str:=l.flatMap ZfN++[13,10]
theorem ZlZ{α:Type}[Inhabited α]{p:α→Bool}{l:List α}(h:∀j,j<l.length→p (l.getD j dE)=true):l.all p=true:=by
 rw[List.all_eq_true]
 intro x hx
 obtain⟨j,hj,rfl⟩:=ZFa hx
 have:=h j hj
 simpa[ZE8,hj]using this
theorem Ztg{α:Type}[Inhabited α]{p:α→Bool}{l:List α}{j:Nat}(hj:j<l.length)(h:p (l.getD j dE)=false):l.all p=false:=by
 rw[List.all_eq_false]
 exact⟨_,Zy hj,by rw[h];simp⟩
theorem ZqC{p:UInt8→Bool}{s:Str}{j:Nat}(hj:j<s.length)(h:(!p (s.getD j 0))=true):s.all p=false:=Ztg hj (by rw[show s.getD j dE=s.getD j 0 from rfl];simpa using h)
theorem Zye(c:UInt8):Zj9 c=(dC ((33:Int)≤c.toNat)&&dC ((c.toNat:Int)≤126)):=by
 unfold Zj9
 rw[show dC ((33:Int)≤c.toNat)=dC ((32:Int)<c.toNat) from decide_eq_decide.2 (by omega),show dC ((c.toNat:Int)≤126)=dC ((c.toNat:Int)<127) from decide_eq_decide.2 (by omega)]
theorem ZsP(c:UInt8):Zc ZEQ 152 [.int .u8 c.toNat] (.bool (Zj9 c)):=by
 refine Ze (cR 152 f152) fun F st i=>?_
 refine gG ?_
 refine rb i ?_
 rfl
theorem ZpS(c:UInt8):Zc ZEQ 191 [.int .u8 c.toNat] (.bool (JH c)):=by
 refine Ze (cR 191 f191) fun F st i=>?_
 refine gG ?_
 refine rb i ?_
 rfl
theorem ZdV(a b c:Int):Zc ZEQ 250 [.int .u8 a,.int .u8 b,.int .u8 c] (.bool (dC (b≤a)&&dC (a≤c))):=by
 refine Ze (cR 250 f250) fun F st i=>?_
 refine gG ?_
 refine rb i ?_
 rfl
theorem ZpN(c:UInt8):Zc ZEQ 242 [.int .u8 c.toNat] (.bool (JH c)):=by
 refine Ze (cR 242 f242) fun F st i=>?_
 refine gG ?_
 refine cl (ZdV _ _ _) ?_
 refine cG (ZdV _ _ _) ?_
 refine cG (ZdV _ _ _) ?_
 refine rb i ?_
 unfold JH;rfl
theorem Zms(c:UInt8):Zc ZEQ 203 [.int .u8 c.toNat] (.bool (Zj9 c)):=by
 refine Ze (cR 203 f203) fun F st i=>?_
 refine gG ?_
 refine cl (ZdV _ _ _) ?_
 refine rb i ?_
 rw[Zye]
theorem ZsO(s:Str):Zc ZEQ 153 [.str s] (.bool (Zdq s)):=by
 refine ZJ (cR 153 f153) fun v F st t=>?_
 have hs:=(v (.str s) (by simp)).str_inv
 unfold big at hs
 clear v
 have hS:=Zdq.eq_1 s
 refine gG ?_
 refine Zb (fr (s.length) (fun i Q=>i≤s.length→(∀j,j<i→JH (s.getD j 0)=true)→Q [(0,.d (.str s)),(3,.d (.int .i64 i))] [] st) (fun n c=>?_) fun y=>?_)
 ·intro i hn hi u
  refine rg ?_
  refine cd (fun h1=>?_) (fun h1=>?_)
  ·simp at h1
   refine gA ?_
   refine cl (ZpS _) ?_
   refine cd (fun h2=>?_) (fun h2=>?_)
   ·rw[ZqC (p:=JH) h1 (by simpa using h2),ZFh]at hS
    refine rg ?_
    refine rb t ?_
    exact hS.symm
   refine gA ?_
   refine Za ?_
   exact c ((s.length)-(i+1)) (by omega) (i+1) rfl (by omega) (ZX (q:=fun j=>JH (s.getD j 0)=true) u (by simpa using h2))
  simp at h1
  obtain rfl:i=s.length:=by omega
  rw[ZlZ (p:=JH) u,ZFe]at hS
  refine rg ?_
  refine rb t ?_
  exact hS.symm
 exact y _ 0 rfl (by omega) (by intro j hj;omega)
theorem ZuV(h:Hdr):Zc ZEQ 98 [.agg h.cells] (.bool (JX h)):=by
 refine ZJ (cR 98 f98) fun y F st u=>?_
 have hs:=((y (.agg h.cells) (by simp)).agg_inv (.str h.text) (by simp[Hdr.cells])).str_inv
 unfold big at hs
 clear y
 have hS:=JX.eq_1 h
 refine rx @Hdr.cells.eq_1 ?_
 refine rg ?_
 generalize ht:h.text=t at *
 refine rg ?_
 refine Zb (fr (t.length) (fun i Q=>i≤t.length→(∀j,j<i→Zcv (t.getD j 0)=true)→Q [(1,.loc 1 0),(3,.d (.str t)),(4,.d (.int .i64 i))] [(1,[.str h.name,.str t])] st) (fun n c=>?_) fun z=>?_)
 ·intro i hn hi v
  refine rg ?_
  refine cd (fun h1=>?_) (fun h1=>?_)
  ·simp at h1
   refine gA ?_
   refine cG (ZsP _) ?_
   refine aa ?_
   have hc:(!dC (((t.getD i 0).toNat:Int)=32)&&!Zj9 (t.getD i 0))=!Zcv (t.getD i 0):=by unfold Zcv;rw[Bool.not_or]
   rw[hc]
   refine cd (fun h2=>?_) (fun h2=>?_)
   ·rw[ZqC (p:=Zcv) h1 (by simpa using h2),ZFh]at hS
    refine rg ?_
    refine rb u ?_
    exact hS.symm
   refine gA ?_
   refine Za ?_
   exact c ((t.length)-(i+1)) (by omega) (i+1) rfl (by omega) (ZX (q:=fun j=>Zcv (t.getD j 0)=true) v (by simpa using h2))
  simp at h1
  obtain rfl:i=t.length:=by omega
  rw[ZlZ (p:=Zcv) v,ZFe]at hS
  have hE:=Zgj.eq_1 t
  refine rg ?_
  refine cl (ZsO _) ?_
  have hp:t≠[]→0<t.length:=fun h0=>List.length_pos_iff.2 h0
  refine⟨fun h0=>⟨by omega,by have:=hp (by simp at h0;exact h0.2);omega⟩,fun h0=>by have:=hp (by simp at h0;exact h0.1.2);omega,fun h0=>by have:=hp (by simp at h0;exact h0.1.2);omega,?_⟩
  rw[show((t.length:Int)-1).toNat=t.length-1 by omega]
  refine rb u ?_
  rw[hS,hE]
 exact z _ 0 rfl (by omega) (by intro j hj;omega)
theorem Zr2(l:List Hdr):Zc ZEQ 52 [Z2 l] (.bool (W3 l)):=by
 refine ZJ (cR 52 f52) fun v F st t=>?_
 have hw:=(Y3 (v (slD 2 Hdr.cells l) (by simp[Z2]))).1
 unfold big at hw
 clear v
 have hS:=W3.eq_1 l
 refine rx (nd2 @Z2.eq_1 @eQ1) ?_
 refine rg ?_
 refine Zb (fr (l.length) (fun i Q=>i≤l.length→(∀j,j<i→JX (l.getD j dE)=true)→Q [(0,.d (Z2 l)),(3,.d (.int .i64 i))] [] st) (fun n c=>?_) fun y=>?_)
 ·intro i hn hi u
  refine rx (nd2 @Z2.eq_1 @eQ1) ?_
  refine cd (fun h1=>?_) (fun h1=>?_)
  ·simp at h1
   refine rx (nd2 @Z2.eq_1 (nd2 @eQ1 @Hdr.cells.eq_1)) ?_
   rw[show D.agg [.str (l.getD i dE).name,.str (l.getD i dE).text]=.agg (l.getD i dE).cells from rfl]
   refine aa ?_
   refine cl (ZuV _) ?_
   refine cd (fun h2=>?_) (fun h2=>?_)
   ·rw[Ztg (p:=JX) h1 (by simpa using h2),ZFh]at hS
    refine rg ?_
    refine rb t ?_
    exact hS.symm
   refine gA ?_
   refine Za ?_
   exact c ((l.length)-(i+1)) (by omega) (i+1) rfl (by omega) (ZX (q:=fun j=>JX (l.getD j dE)=true) u (by simpa using h2))
  simp at h1
  obtain rfl:i=l.length:=by omega
  rw[ZlZ (p:=JX) u,ZFe]at hS
  refine rx (nd2 @Z2.eq_1 @eQ1) ?_
  refine rb t ?_
  exact hS.symm
 exact y _ 0 rfl (by omega) (by intro j hj;omega)
theorem ZnV(c:UInt8):Zc ZEQ 241 [.int .u8 c.toNat] (.bool (!JH c)):=by
 refine Ze (cR 241 f241) fun F st i=>?_
 refine gG ?_
 refine cl (ZpN _) ?_
 refine rb i ?_
 rfl
theorem Zmp(s:Str):Zc ZEQ 107 [slD 1 byC s,.fn (.func 241) [] []] (.bool (s.any fun c=>!JH c)) :=
 fun st=>KY s _ _ (fun _=>st) fun i _=>(ZnV _).VT (first:=[]) (caps:=[]) st
theorem ZnJ{α:Type}(p:α→Bool)(l:List α):l.all p=!(l.any fun c=>!p c):=by
 induction l with
 |nil=>rfl
 |cons x r ih=>simp only[List.all_cons,List.any_cons,ih];cases p x<;>simp
theorem Zrj(s:Str):Zc ZEQ 200 [.str s] (.bool (Zdq s)):=by
 refine ZJ (cR 200 f200) fun j F st i=>?_
 have hs:=(j (.str s) (by simp)).str_inv
 unfold big at hs
 refine gG ?_
 refine cG (Zmp s) ?_
 refine rb i ?_
 unfold Zdq;rw[ZnJ];generalize (s.any fun c=>!JH c)=x;generalize dC (1≤(s.length:Int))=y;generalize dC ((s.length:Int)≤32)=z;cases x<;>cases y<;>cases z<;>rfl
theorem ZdO(l:List Hdr)(f:D)(p:Hdr→Bool)(sts:Nat→St)(hf:∀i,i<l.length→VT ZEQ f [.agg (l.getD i dE).cells] (sts i) (.bool (p (l.getD i dE))) (sts (i+1))):
  ZS ZEQ 169 [slD 2 Hdr.cells l,f] (sts 0) (.int .i64 (Zk p l)) (sts (Qv p l)):=by
 refine ZK (cR 169 f169) fun y F c=>?_
 have hw:=(Y3 (y (slD 2 Hdr.cells l) (by simp))).1
 unfold big at hw
 clear y
 refine rx @eQ1 ?_
 refine rx @eQ1 ?_
 refine Zb (fr (l.length) (fun i Q=>i≤l.length→(∀j,j<i→p (l.getD j dE)=false)→Q [(0,.d (slD 2 Hdr.cells l)),(1,.d f),(7,.d (.int .i64 l.length)),(8,.d (.int .i64 i))] [] (sts i)) (fun n u=>?_) fun z=>?_)
 ·intro i hn hi t
  refine rx @eQ1 ?_
  refine Zd (Zs rfl trivial (fun h1=>?_) (fun h1=>?_))
  ·simp at h1
   refine rx @eQ1 ?_
   refine xA (nd2 @eQ1 @Hdr.cells.eq_1) ?_
   refine cW (hf i h1) ?_
   refine cd (fun h2=>?_) (fun h2=>?_)
   ·have e1:=Ke h1 h2 t
    have e2:=ZcV h1 h2 t
    rw[e1,e2]at c
    refine rg ?_
    exact c rfl (by trivial) (ZEW _) (ZES _)
   refine gA ?_
   refine Za ?_
   exact u ((l.length)-(i+1)) (by omega) (i+1) rfl (by omega) (ZX (q:=fun j=>p (l.getD j dE)=false) t h2)
  simp at h1
  obtain rfl:i=l.length:=by omega
  have v:∀x∈l,p x=false:=fun x hx=>by
   obtain⟨j,hj,rfl⟩:=ZFa hx
   have:=t j hj
   simpa[ZE8,hj]using this
  rw[WM v,Za5 v]at c
  refine rg ?_
  exact c rfl (by trivial) (ZEW _) (ZES _)
 exact z _ 0 rfl (by omega) (by intro j hj;omega)
theorem Jy(l:List Hdr)(f:D)(p:Hdr→Bool)(sts:Nat→St)(hf:∀i,i<l.length→VT ZEQ f [.agg (l.getD i dE).cells] (sts i) (.bool (p (l.getD i dE))) (sts (i+1))):
  ZS ZEQ 127 [slD 2 Hdr.cells l,f] (sts 0) (.bool (l.any p)) (sts (Qv p l)):=by
 refine ZK (cR 127 f127) fun j F c=>?_
 clear j
 refine gG ?_
 refine ct (ZdO l f p sts hf) ?_
 rw[JU]at c
 exact c rfl (by trivial) (ZEW _) (ZES _)
def JB(c:UInt8):Bool:=dC ((c.toNat:Int)=32)
def Zcx(s:Str):Str:=s.dropWhile JB
def Za7(s:Str):Str:=(s.reverse.dropWhile JB).reverse
theorem Zns{s:Str}(h:JB (s.getD 0 0)=true)(hp:0<s.length):Zcx s=Zcx (s.drop 1):=by
 cases s with
 |nil=>simp at hp
 |cons c r=>simp only[List.getD_cons_zero]at h;simp[Zcx,List.dropWhile_cons,h]
theorem Zpy{s:Str}(h:(dC (0<(s.length:Int))&&JB (s.getD 0 0))=false):Zcx s=s:=by
 cases s with
 |nil=>rfl
 |cons c r =>
  simp only[List.getD_cons_zero,ZE5]at h
  have hb:JB c=false:=by
   have h1:dC (0<((r.length+1:Nat):Int))=true:=decide_eq_true (by omega)
   rw[h1,ZFe]at h;exact h
  simp[Zcx,List.dropWhile_cons,hb]
theorem Zpb(l:Str)(a:UInt8):(l++[a]).getD ((l++[a]).length-1) 0=a:=by simp[ZE8]
theorem Znt{s:Str}(h:JB (s.getD (s.length-1) 0)=true)(hp:0<s.length):Za7 s=Za7 (s.take (s.length-1)):=by
 rcases List.eq_nil_or_concat s with rfl|⟨l,a,rfl⟩
 ·simp at hp
 rw[List.concat_eq_append]at h⊢
 rw[Zpb]at h
 simp[Za7,List.dropWhile_cons,h]
theorem Zpz{s:Str}(h:(dC (0<(s.length:Int))&&JB (s.getD (s.length-1) 0))=false):Za7 s=s:=by
 rcases List.eq_nil_or_concat s with rfl|⟨l,a,rfl⟩
 ·rfl
 rw[List.concat_eq_append]at h⊢
 rw[Zpb]at h
 have hb:JB a=false:=by
  have h1:dC (0<((l++[a]).length:Int))=true:=decide_eq_true (by rw[ZE1,List.length_singleton];omega)
  rw[h1,ZFe]at h;exact h
 simp[Za7,List.dropWhile_cons,hb]
theorem ZwU(s:Str):(Za7 s).length≤s.length:=by
 unfold Za7
 rw[List.length_reverse]
 exact Nat.le_trans (List.dropWhile_sublist _).length_le (by simp)
theorem ZwV(t:Str):dC (Zcx (Za7 t)=t)=Zgj t:=by
 have c:∀s:Str,(Zcx s).length≤s.length:=fun s=>(List.dropWhile_sublist _).length_le
 by_cases ht:t=[]
 ·subst ht;rfl
 have hp:=List.length_pos_iff.2 ht
 have h0:Zgj t=(!JB (t.getD 0 0)&&!JB (t.getD (t.length-1) 0)):=by
  unfold Zgj;rw[decide_eq_false ht,Bool.false_or];rfl
 rw[h0]
 cases hr:JB (t.getD (t.length-1) 0) with
 |true =>
  rw[Bool.not_true,Bool.and_false,decide_eq_false]
  intro h
  have h1:=congrArg List.length h
  rw[Znt hr hp]at h1
  have h2:=c (Za7 (t.take (t.length-1)))
  have h3:=ZwU (t.take (t.length-1))
  rw[ZE9]at h3
  omega
 |false =>
  rw[Zpz (by rw[hr,Bool.and_false]),Bool.not_false,Bool.and_true]
  cases hl:JB (t.getD 0 0) with
  |true =>
   rw[Bool.not_true,decide_eq_false]
   intro h
   have h1:=congrArg List.length h
   rw[Zns hl hp]at h1
   have h2:=c (t.drop 1)
   rw[ZFw]at h2
   omega
  |false=>rw[Zpy (by rw[hl,Bool.and_false])];simp
theorem Ze9(s:Str):Zc ZEQ 243 [.str s,.int .u8 32] (.str (Zcx s)):=by
 refine ZJ (cR 243 f243) fun i F st c=>?_
 have hs:=(i (.str s) (by simp)).str_inv
 unfold big at hs
 clear i
 refine rg ?_
 refine Zd (Zb ?_)
 refine lpU (fun Q=>∀n (t:Str),t.length≤n→t.length≤9223372036854775807→Zcx t=Zcx s→Q F [(0,.d (.str t)),(1,.d (.int .u8 32))] [] st) ?_ fun j=>?_
 ·intro n
  induction n with
  |zero =>
   intro t hn hb ht
   obtain rfl:t=[]:=List.length_eq_zero_iff.1 (by omega)
   refine gA ?_
   refine iG ?_
   refine rs c ?_
   rw[←ht];rfl
  |succ n ih =>
   intro t hn hb ht
   refine gA ?_
   refine cd (fun h1=>?_) (fun h1=>?_)
   ·simp only[ZEY,decide_eq_true_eq]at h1
    refine gA ?_
    refine Zj (Za ?_)
    rw[show List.take (t.length-1) (t.drop 1)=t.drop 1 from List.take_of_length_le (by simp)]
    exact ih _ (by rw[ZFw];omega) (by rw[ZFw];omega) (by rw[←ht];exact(Zns (decide_eq_true h1.2) (by omega)).symm)
   refine rg ?_
   refine rs c ?_
   rw[←ht];exact(Zpy h1).symm
 exact j s.length s (ZE6 _) hs rfl
theorem Ze0(s:Str):Zc ZEQ 244 [.str s,.int .u8 32] (.str (Za7 s)):=by
 refine ZJ (cR 244 f244) fun i F st c=>?_
 have hs:=(i (.str s) (by simp)).str_inv
 unfold big at hs
 clear i
 refine rg ?_
 refine Zd (Zb ?_)
 refine lpU (fun Q=>∀n (t:Str),t.length≤n→t.length≤9223372036854775807→Za7 t=Za7 s→Q F [(0,.d (.str t)),(1,.d (.int .u8 32))] [] st) ?_ fun j=>?_
 ·intro n
  induction n with
  |zero =>
   intro t hn hb ht
   obtain rfl:t=[]:=List.length_eq_zero_iff.1 (by omega)
   refine gA ?_
   refine iG ?_
   refine rs c ?_
   rw[←ht];rfl
  |succ n ih =>
   intro t hn hb ht
   refine gA ?_
   refine cd (fun h1=>?_) (fun h1=>?_)
   ·simp only[ZEY,decide_eq_true_eq]at h1
    rw[show((t.length:Int)-1).toNat=t.length-1 by omega]at h1
    refine gA ?_
    refine Zj (Za ?_)
    rw[show((t.length:Int)-1).toNat=t.length-1 by omega]
    exact ih _ (by rw[ZE9];omega) (by rw[ZE9];omega) (by rw[←ht];exact(Znt (decide_eq_true h1.2) (by omega)).symm)
   have h2:(dC (0<(t.length:Int))&&JB (t.getD (t.length-1) 0))=false:=by
    rw[show((t.length:Int)-1).toNat=t.length-1 by omega]at h1
    exact h1
   refine rg ?_
   refine rs c ?_
   rw[←ht];exact(Zpz h2).symm
 exact j s.length s (ZE6 _) hs rfl
theorem Znp(s:Str):Zc ZEQ 201 [.str s,.str [32]] (.str (Zcx (Za7 s))):=by
 refine Ze (cR 201 f201) fun F st c=>?_
 refine gG ?_
 refine cd (fun h0=>?_) (fun h0=>?_)
 ·refine rg ?_
  have i:s=[]:=by simpa using h0
  subst i
  refine rs c ?_
  rfl
 refine gA ?_
 refine i1 ?_
 refine gA ?_
 refine cl0 (Ze0 s) ?_
 refine cl0 (Ze9 _) ?_
 refine rs c ?_
 rfl
theorem Zmr(c:UInt8):Zc ZEQ 202 [.int .u8 c.toNat] (.bool (!Zcv c)):=by
 refine Ze (cR 202 f202) fun F st i=>?_
 refine gG ?_
 refine cG (Zms _) ?_
 refine rb i ?_
 unfold Zcv;rw[Bool.not_or]
theorem Zlp(s:Str):Zc ZEQ 107 [slD 1 byC s,.fn (.func 202) [] []] (.bool (s.any fun c=>!Zcv c)) :=
 fun st=>KY s _ _ (fun _=>st) fun i _=>(Zmr _).VT (first:=[]) (caps:=[]) st
theorem ZpO(h:Hdr):Zc ZEQ 157 [.agg h.cells] (.bool (JX h)):=by
 refine Ze (cR 157 f157) fun F st i=>?_
 refine rx @Hdr.cells.eq_1 ?_
 refine rg ?_
 refine clD (Zrj _) ?_
 refine cGD (Znp _) ?_
 refine cGD (Zlp _) ?_
 refine rb i ?_
 rw[ZwV];unfold JX;rw[ZnJ];generalize (h.text.any fun c=>!Zcv c)=x;generalize Zdq h.name=y;generalize Zgj h.text=z;cases x<;>cases y<;>cases z<;>rfl
theorem Zmq(h:Hdr):Zc ZEQ 156 [.agg h.cells] (.bool (!JX h)):=by
 refine Ze (cR 156 f156) fun F st c=>?_
 refine rx @Hdr.cells.eq_1 ?_
 refine rg ?_
 rw[show D.agg [.str h.name,.str h.text]=.agg h.cells from rfl]
 refine cl (ZpO h) ?_
 refine rb c ?_
 rfl
theorem Zlo(l:List Hdr):Zc ZEQ 127 [slD 2 Hdr.cells l,.fn (.func 156) [] []] (.bool (l.any fun c=>!JX c)) :=
 fun st=>Jy l _ _ (fun _=>st) fun i _=>(Zmq _).VT (first:=[]) (caps:=[]) st
theorem ZbH{L:DL.Loc}(l:List Hdr):qv L s .lenL [.d (Z2 l)]=sO (True,.d (.int .i64 l.length)):=rfl
theorem atH{L:DL.Loc}(l:List Hdr)(i:Int):qv L s (.iaddr 2) [.d (Z2 l),.d (.int .i64 i)]=sO (0≤i∧i<l.length,.d (.ep (l.getD i.toNat dE).cells 0)):=rfl
theorem ZpM(l:List Hdr):Zc ZEQ 102 [Z2 l] (.bool (W3 l)):=by
 refine Ze (cR 102 f102) fun F st c=>?_
 refine rg ?_
 refine rx @ZbH ?_
 refine cG (Zlo l) ?_
 refine rb c ?_
 unfold W3;rw[ZnJ];rw[Bool.and_comm]
def ZbC(l:List Hdr):Prop:=∀h∈l,h.text.length≤1048576
theorem Zxz{h:Hdr}(hk:JX h=true)(ht:h.text.length≤1048576):(ZfN h).length≤1048620:=by
 unfold JX Zdq at hk
 simp only[ZEY,decide_eq_true_eq]at hk
 unfold ZfN
 simp only[ZE1,ZE5,List.length_nil]
 omega
def ZdX(l:List Hdr):Str:=l.flatMap ZfN
theorem Zv1{l:List Hdr}(hk:∀h∈l,JX h=true)(ht:ZbC l):(ZdX l).length≤l.length*1048620:=by
 induction l with
 |nil=>simp[ZdX]
 |cons a r ih =>
  have h1:=Zxz (hk a (by simp)) (ht a (by simp))
  have h2:=ih (fun h hh=>hk h (by simp[hh])) (fun h hh=>ht h (by simp[hh]))
  unfold ZdX at h2⊢
  rw[List.flatMap_cons,ZE1,ZE5,ZFk]
  omega
theorem Zmw{l:List Hdr}{i:Nat}(h:i<l.length):ZdX (l.take (i+1))=ZdX (l.take i)++ZfN (l.getD i dE):=by
 rw[Z0 h];simp[ZdX]
theorem Zrn{l:List Hdr}(hk:W3 l=true)(ht:ZbC l)(i:Nat):(ZdX (l.take i)).length≤104862000∧l.length≤100:=by
 unfold W3 at hk
 rw[ZEY,List.all_eq_true,decide_eq_true_eq]at hk
 have h1:=Zv1 (l:=l.take i) (fun h hh=>hk.1 h (List.mem_of_mem_take hh)) (fun h hh=>ht h (List.mem_of_mem_take hh))
 rw[ZE9]at h1
 have h2:min i l.length≤100:=by omega
 have h3:=ZFg 1048620 h2
 omega
theorem Ztv{l:List Hdr}(hk:W3 l=true)(ht:ZbC l){i:Nat}(hi:i<l.length):(l.getD i dE).name.length≤32∧(l.getD i dE).text.length≤1048576:=by
 refine⟨?_,ht _ (Zy hi)⟩
 unfold W3 at hk
 rw[ZEY,List.all_eq_true]at hk
 have:=hk.1 _ (Zy hi)
 unfold JX Zdq at this
 simp only[ZEY,decide_eq_true_eq]at this
 omega
theorem ZiO{l:List Hdr}(hk:W3 l=true)(ht:ZbC l):Zc ZEQ 32 [Z2 l] (ZM (ZaV l)):=by
 refine Ze (cR 32 f32) fun F st j=>?_
 have hl:=Zrn hk ht
 refine gG ?_
 refine rg ?_
 refine Zb (fr (l.length) (fun i Q=>∀s,s=ZdX (l.take i)→i≤l.length→Q [(0,.d (Z2 l)),(3,.d (.str s)),(4,.d (.int .i64 i))] [] st) (fun n c=>?_) fun t=>?_)
 ·intro i hn s hs hi
  have h1:=hl i
  rw[←hs]at h1
  refine rx @ZbH ?_
  refine cd (fun h2=>?_) (fun h2=>?_)
  ·simp at h2
   have h3:=Zmw h2
   have h4:=hl (i+1)
   have h5:=Ztv hk ht h2
   rw[h3,←hs]at h4
   rw[←hs]at h3
   unfold ZfN at h3 h4
   simp only[ZE1,ZE5,List.length_nil]at h4
   generalize hg:l.getD i dE=g at *
   refine rx (nd2 @atH (nd2 @hg @Hdr.cells.eq_1)) ?_
   repeat(refine ZER (by first|omega|trivial|(intro h0;simp at h0;omega)|(((try simp only[ZE1,ZE5,List.length_nil]);unfold big;omega))) ?_)
   refine gA ?_
   refine Za ?_
   exact c ((l.length)-(i+1)) (by omega) (i+1) rfl _ (by rw[h3];simp only[ZFt]) (by omega)
  simp at h2
  obtain rfl:i=l.length:=by omega
  rw[ZFc]at hs
  subst hs
  refine rg ?_
  repeat(refine ZER (by first|omega|trivial|(intro h0;simp at h0;omega)|(((try simp only[ZE1,ZE5,List.length_nil]);unfold big;omega))) ?_)
  exact j rfl (by trivial) (ZEW _) (ZES _)
 exact t _ 0 rfl [] rfl (by omega)
def Zjz(l:List Hdr):D:=if W3 l then .tup [ZM (ZaV l),.int .i64 0] else .tup [.nilsl,.int .i64 2]
theorem ZhE{l:List Hdr}(ht:ZbC l):Zc ZEQ 62 [Z2 l] (Zjz l):=by
 refine Ze (cR 62 f62) fun F st c=>?_
 have hW:=Zjz.eq_1 l
 refine gG ?_
 refine cl (ZpM l) ?_
 cases hk:W3 l with
 |false =>
  rw[hk,if_neg (by simp)]at hW
  rw[hW]at c
  refine i1 ?_
  refine rg ?_
  exact c rfl (by simp) (ZEW _) (ZES _)
 |true =>
  rw[hk,if_pos rfl]at hW
  rw[hW]at c
  have hl:=Zrn hk ht
  refine iG ?_
  refine rx @ZbH ?_
  refine kl (st) [(4,.d (.sl .full 0 1 fun _=>[])),(10,.d (Z2 l)),(11,.d (.int .i64 l.length)),(12,.d (.int .i64 (0:Nat)))] [] (.cons (.d (WH fun b h=>by cases h)) (KH _)) (WU _) ?_
  refine Zb (fr (l.length) (fun i Q=>∀tk row o,tk.okIn st→ZV byC row o→o=ZdX (l.take i)→i≤l.length→Q [(4,.d (.sl tk o.length 1 row)),(10,.d (Z2 l)),(11,.d (.int .i64 l.length)),(12,.d (.int .i64 i))] [] (st.own tk (o.length*1))) (fun n u=>?_) fun ab=>?_)
  ·intro i hn tk row o htk v ho hi
   have h1:=hl i
   rw[←ho]at h1
   refine rg ?_
   refine Zd (Zs rfl trivial (fun h2=>?_) (fun h2=>?_))
   ·simp at h2
    have h3:=Zmw h2
    have h4:=hl (i+1)
    have h5:=Ztv hk ht h2
    rw[h3,←ho]at h4
    rw[←ho]at h3
    rw[ZE1]at h4
    generalize hg:l.getD i dE=g at *
    refine xA (nd2 @atH (nd2 @hg @Hdr.cells.eq_1)) ?_
    refine rg ?_
    repeat(refine ZER (by first|omega|trivial|(intro h0;simp at h0;omega)|(((try simp only[ZE1,ZE5,List.length_nil]);unfold big;omega))) ?_)
    have hB:g.name++[58,32]++g.text++[13,10]=ZfN g:=rfl
    rw[hB]
    generalize ZfN g=b at *
    refine QE (st) (tk) rfl rfl rfl rfl rfl rfl (by trivial) (by trivial) rfl (by first|trivial|assumption) (by omega) (by (unfold big;omega)) fun t1 y=>Zm ?_
    simp only[Eqs,reduceCtorEq,ZEV,reduceIte,ZET,ZEX,ZEU]
    refine gA ?_
    have j:ZV byC (YT o.length row fun i=>[.int .u8 ((b.getD i 0).toNat:Int)]) (o++b):=v.app ZV.self rfl
    have t:=u (l.length-(i+1)) (by omega) (i+1) rfl t1 _ _ y j h3.symm (by omega)
    rw[ZE1]at t
    refine Za ?_
    exact t
   simp at h2
   obtain rfl:i=l.length:=by omega
   rw[ZFc]at ho
   refine rg ?_
   refine QE (st) (tk) rfl rfl rfl rfl rfl rfl (by trivial) (by trivial) rfl (by first|trivial|assumption) (by (simp;omega)) (by (simp;unfold big;omega)) fun t1 y=>Zm ?_
   simp only[Eqs,reduceCtorEq,ZEV,reduceIte,ZET,ZEX,ZEU]
   have j:ZV byC (YT o.length row fun i=>[.int .u8 ((([13,10]:Str).getD i 0).toNat:Int)]) (o++[13,10]):=v.app ZV.self rfl
   have z:ZaV l=o++[13,10]:=by rw[ho];rfl
   rw[z]at c
   exact c rfl (by simp) (ZjJ rfl (.cons (j.le (by simp)) (LeC.refl _))) (Wm y)
  exact ab _ 0 rfl .full _ [] trivial ZV.nil rfl (by omega)
end Go.DL
namespace Go.DL
open Go
variable {kp:Option (List Nat)}{L:Loc}{ρ:Env}{s:St}{w:World}{os:List DOp}{ds:List D}{B:List (Nat × Rd)}{dst:Option Nat}{tmps:Array Value}{g:G}{Φ:Res→St→Prop}{ν:Nat→Nat}{xs:List Opd}{side:Prop}{row:Nat→List D}
section
variable {K V:Type} [DecidableEq K]
def Zp(k:K):List (K×V)→Option V
 | []=>nO
 |e::r=>if k=e.1 then sO e.2 else Zp k r
def Wy(k:K)(v:V):List (K×V)→List (K×V)
 | []=>[(k,v)]
 |e::r=>if k=e.1 then (k,v)::r else e::Wy k v r
def Qn(kD:K→D)(vD:V→D)(l:List (K×V)):List (D×D):=l.map fun e=>(kD e.1,vD e.2)
def ZjI(kp:KP)(kD:K→D):Prop:=∀a b,Kn kp (kD a) (kD b)=sO (dC (a=b))
theorem Wa{kp:KP}{kD:K→D}{vD:V→D}(h:ZjI kp kD)(k:K)(l:List (K×V)):Zbv kp (kD k) (Qn kD vD l)=sO ((Zp k l).map vD):=by
 induction l with
 |nil=>rfl
 |cons e r ih =>
  simp only[Qn,ZE7,Zbv,h k e.1,Zp]
  by_cases hk:k=e.1
  ·simp[hk]
  simp only[hk,decide_false,if_false];exact ih
theorem ZbY{kp:KP}{kD:K→D}{vD:V→D}(h:ZjI kp kD)(k:K)(v:V)(l:List (K×V)):J5 kp (kD k) (vD v) (Qn kD vD l)=sO (Qn kD vD (Wy k v l)):=by
 induction l with
 |nil=>rfl
 |cons e r ih =>
  simp only[Qn,ZE7,J5,h k e.1,Wy]
  by_cases hk:k=e.1
  ·simp[hk]
  simp only[hk,decide_false,if_false,ZE7]
  rw[show J5 kp (kD k) (vD v) (r.map fun e=>(kD e.1,vD e.2))=_ from ih];rfl
theorem Ww{kp:KP}{kD:K→D}(h:ZjI kp kD)(k:K):Qo kp (kD k)=true:=by simp[Qo,h k k]
theorem Qb(k j:K)(v:V)(l:List (K×V)):Zp j (Wy k v l)=if j=k then sO v else Zp j l:=by
 induction l with
 |nil=>simp[Wy,Zp]
 |cons e r ih =>
  simp only[Wy]
  by_cases hk:k=e.1
  ·subst hk;simp only[if_true,Zp];split<;>rfl
  simp only[hk,if_false,Zp,ih]
  by_cases hj:j=e.1
  ·subst hj;simp[Ne.symm hk]
  simp[hj]
theorem ZvY{k:K}{l:List (K×V)}:Zp k l=nO↔k∉l.map (·.1):=by
 induction l with
 |nil=>simp[Zp]
 |cons x r ih =>
  simp only[Zp,ZE7,ZFv]
  by_cases h:k=x.1
  ·simp[h]
  simp[h,ih]
end
def Qe(s:Str):D:=.str s
theorem ZY:ZjI (.sc .str) Qe:=fun a b=>rfl
def Kx(n:Int):D:=.int .i64 n
theorem Zg7:ZjI (.sc .int) Kx:=fun a b=>by simp[Kn,Kx,Yo]
open Go.Proofs
def vst(st:St)(b x:Nat)(es:List (D×D)):St:=(st.upd b (.map es)).upd x (.cells [.map b])
theorem Zyt{st:St}{b x:Nat}{es:List (D×D)}:(vst st b x es) x=sO (.cells [.map b]):=ZEZ _ _ _
theorem Zys{st:St}{b x:Nat}{es:List (D×D)}(h:b≠x):(vst st b x es) b=sO (.map es):=by
 unfold vst;rw[ZE0 _ _ h];exact ZEZ _ _ _
theorem ZzA{st:St}{b x:Nat}{es es':List (D×D)}(h:b≠x):(vst st b x es).upd b (.map es')=vst st b x es':=by
 unfold vst;rw[St.upd_comm _ _ _ h,ZFd]
abbrev ZdS(l:List (Str×Bool)):List (D×D):=Qn Qe D.bool l
theorem Zlv(o:Option Bool):Wl (.bool false) false (o.map D.bool)=.bool (o.getD false):=by cases o<;>rfl
theorem Znk(t:ZT)(st:St)(b x:Nat)(h:b≠x)(l:List (Str×Bool)):
  ZS ZEQ 209 [.agg t.cells,.ptr x 0] (vst st b x (ZdS l)) (.bool ((Zp t.field l).getD false||!KG t)) (vst st b x (ZdS (Wy t.field true l))):=by
 refine ZK (cR 209 f209) fun hwf F c=>?_
 have e1:=Wa (vD:=D.bool) ZY t.field l
 have e2:=ZbY (vD:=D.bool) ZY t.field true l
 have e3:=Ww ZY t.field
 simp only[show Qe t.field=D.str t.field from rfl]at e1 e2 e3
 refine rx @eQ8 ?_
 refine rh ?_
 refine Zm ?_
 simp only[Eqs,reduceCtorEq,ZEV,reduceIte,ZET,ZEX,ZEU,Zyt,Zys h,e1,Zlv]
 generalize (Zp t.field l).getD false=tw at *
 refine rh ?_
 refine Zm ?_
 simp only[Eqs,reduceCtorEq,ZEV,reduceIte,ZET,ZEX,ZEU,Zyt,Zys h,e2,ZzA h]
 cases tw with
 |false =>
  refine rx @eQ8 ?_
  refine clD (ZaT t.field) ?_
  refine clD (ZdN t.factor) ?_
  refine clD (Zpt _ _ _) ?_
  refine c rfl (by trivial) (Zec ?_) (ZES _)
  unfold KG
  cases Yl t.field<;>cases dC (t.factor=0)<;>cases QP t.factor<;>rfl
 |true =>
  refine rx @eQ8 ?_
  refine Zeh rfl rfl (e:=.d (.bool false)) (YJ ?_)
  simp only[Eqs,reduceCtorEq,ZEV,reduceIte,ZET,ZEX,ZEU]
  refine Zeh rfl rfl (e:=.d (.bool false)) (YJ ?_)
  simp only[Eqs,reduceCtorEq,ZEV,reduceIte,ZET,ZEX,ZEU]
  refine Zeh rfl rfl (e:=.d (.bool false)) (YJ ?_)
  simp only[Eqs,reduceCtorEq,ZEV,reduceIte,ZET,ZEX,ZEU]
  exact c rfl (by trivial) (Zec (by simp)) (ZES _)
theorem Zd5{n i:Nat}(h:i<n):(ZE4 n).getD i dE=i:=by simp[ZE8,h]
theorem ZeX(l:List ZT)(f:D)(p:Nat→Bool)(sts:Nat→St)(hf:∀i,i<l.length→VT ZEQ f [.agg (l.getD i dE).cells] (sts i) (.bool (p i)) (sts (i+1))):
  ZS ZEQ 119 [slD 2 ZT.cells l,f] (sts 0) (.int .i64 (Zk p (ZE4 l.length))) (sts (Qv p (ZE4 l.length))):=by
 refine ZK (cR 119 f119) fun y F c=>?_
 have hw:=(Y3 (y (slD 2 ZT.cells l) (by simp))).1
 unfold big at hw
 clear y
 refine rx @eQ1 ?_
 refine rx @eQ1 ?_
 refine Zb (fr (l.length) (fun i Q=>i≤l.length→(∀j,j<i→p j=false)→Q [(0,.d (slD 2 ZT.cells l)),(1,.d f),(7,.d (.int .i64 l.length)),(8,.d (.int .i64 i))] [] (sts i)) (fun n u=>?_) fun z=>?_)
 ·intro i hn hi t
  refine rx @eQ1 ?_
  refine Zd (Zs rfl trivial (fun h1=>?_) (fun h1=>?_))
  ·simp at h1
   refine rx @eQ1 ?_
   refine xA (nd2 @eQ1 @eQ8) ?_
   refine cW (hf i h1) ?_
   refine cd (fun h2=>?_) (fun h2=>?_)
   ·have e1:=Ke (p:=p) (l:=ZE4 l.length) (i:=i) (by simpa using h1) (by rw[Zd5 h1];exact h2) (fun j hj=>by rw[Zd5 (by omega)];exact t j hj)
    have e2:=ZcV (p:=p) (l:=ZE4 l.length) (i:=i) (by simpa using h1) (by rw[Zd5 h1];exact h2) (fun j hj=>by rw[Zd5 (by omega)];exact t j hj)
    rw[e1,e2]at c
    refine rg ?_
    exact c rfl (by trivial) (ZEW _) (ZES _)
   refine gA ?_
   refine Za ?_
   exact u ((l.length)-(i+1)) (by omega) (i+1) rfl (by omega) (ZX (q:=fun j=>p j=false) t h2)
  simp at h1
  obtain rfl:i=l.length:=by omega
  have v:∀x∈ZE4 l.length,p x=false:=fun x hx=>t x (by simpa using hx)
  rw[WM v,Za5 v,List.length_range]at c
  refine rg ?_
  exact c rfl (by trivial) (ZEW _) (ZES _)
 exact z _ 0 rfl (by omega) (by intro j hj;omega)
theorem Zdz(l:List ZT)(f:D)(p:Nat→Bool)(sts:Nat→St)(hf:∀i,i<l.length→VT ZEQ f [.agg (l.getD i dE).cells] (sts i) (.bool (p i)) (sts (i+1))):
  ZS ZEQ 211 [slD 2 ZT.cells l,f] (sts 0) (.bool ((ZE4 l.length).any p)) (sts (Qv p (ZE4 l.length))):=by
 refine ZK (cR 211 f211) fun j F c=>?_
 clear j
 refine gG ?_
 refine ct (ZeX l f p sts hf) ?_
 rw[JU]at c
 exact c rfl (by trivial) (ZEW _) (ZES _)
def Zka(l:List ZT):Nat→List (Str×Bool)
 |0=>[]
 |i+1=>Wy (l.getD i dE).field true (Zka l i)
theorem ZwJ(l:List ZT)(s:Str)(i:Nat)(hi:i≤l.length):(Zp s (Zka l i)).getD false=dC (s∈(l.take i).map (·.field)):=by
 induction i with
 |zero=>simp[Zka,Zp]
 |succ i ih =>
  have h:=ih (by omega)
  rw[Zka,Qb,Z0 (by omega),List.map_append]
  by_cases hs:s=(l.getD i dE).field
  ·rw[if_pos hs];simp[hs]
  rw[if_neg hs,h];simp only[List.mem_append,ZE7,ZFo,List.mem_singleton,hs,or_false]
theorem ZcZ(l r:List ZT)(k:Nat)(hr:r=l.drop k)(hk:k≤l.length):KN ((l.take k).map (·.field)) r=!((ZE4 r.length).any fun i=>(dC ((l.getD (k+i) dE).field∈(l.take (k+i)).map (·.field))||!KG (l.getD (k+i) dE))):=by
 induction r generalizing k with
 |nil=>rfl
 |cons t q ih =>
  have c:k<l.length:=by
   have:=congrArg List.length hr;simp at this;omega
  rw[Wt c]at hr
  injection hr with h1 h2
  have h3:=ih (k+1) h2 (by omega)
  rw[KN,ZE5,List.range_succ_eq_map,List.any_cons,List.any_map]
  rw[show(l.take k).map (·.field)++[t.field]=(l.take (k+1)).map (·.field) by rw[Z0 c,List.map_append,←h1];rfl,h3]
  simp only[Nat.add_zero,←h1,Function.comp_def,Nat.succ_eq_add_one]
  rw[show(fun i=>dC ((l.getD (k+(i+1)) dE).field∈(l.take (k+(i+1))).map (·.field))||!KG (l.getD (k+(i+1)) dE))=fun i=>dC ((l.getD (k+1+i) dE).field∈(l.take (k+1+i)).map (·.field))||!KG (l.getD (k+1+i) dE) from funext fun i=>by rw[show k+(i+1)=k+1+i by omega]]
  cases KG t<;>cases dC (t.field∈(l.take k).map (·.field))<;>simp
theorem ZbA(s:Wk):Zc ZEQ 167 [.agg s.cells] (.bool (ZN s)):=by
 refine ZJ (cR 167 f167) fun hwf F st c=>?_
 refine rx (nd2 @eQ7 (nd2 @eQ5 @eQ1)) ?_
 refine rg ?_
 intro b hb
 refine Zd ?_
 refine Zc0 3 rfl fun x hx=>?_
 simp only[Eqs,reduceCtorEq,ZEV,reduceIte,ZET,ZEX,ZEU,JN,Q5,delL]
 refine rg ?_
 have n:b≠x:=fun e=>by rw[e,ZEZ]at hx;simp at hx
 have j:∀o,(st.upd b o) x=nO:=fun o=>by rw[ZE0 _ _ (Ne.symm n)]at hx⊢;exact hx
 have t:(st.upd b (.map [])).upd x (.cells [.map b])=vst st b x (ZdS []):=rfl
 rw[t]
 cases hc:(QP s.base&&dC ((s.terms.length:Int)≤4)) with
 |false =>
  refine rx (nd2 @eQ7 (nd2 @eQ5 @eQ1)) ?_
  refine clD (ZdN s.base) ?_
  refine cXD @hc (Zjl _ _) ?_
  refine Zeh rfl rfl (e:=.d (.bool false)) (YJ ?_)
  simp only[Eqs,reduceCtorEq,ZEV,reduceIte,ZET,ZEX,ZEU]
  refine c rfl (by trivial) (Zec ?_) (ZFx (ZFi _ hb) (ZFi _ (j _)))
  unfold ZN
  rw[show dC (s.terms.length≤4)=dC ((s.terms.length:Int)≤4) from decide_eq_decide.2 (by omega),hc];rfl
 |true =>
  refine rx (nd2 @eQ7 (nd2 @eQ5 @eQ1)) ?_
  refine clD (ZdN s.base) ?_
  refine cXD @hc (Zjl _ _) ?_
  refine ZhU rfl rfl rfl rfl rfl (by trivial) (by trivial) (by exact Zdz s.terms (.fn (.func 209) [] [.ptr x 0]) (fun i=>dC ((s.terms.getD i dE).field∈(s.terms.take i).map (·.field))||!KG (s.terms.getD i dE)) (fun i=>vst st b x (ZdS (Zka s.terms i))) (fun i hi=>(by have:=Znk (s.terms.getD i dE) st b x n (Zka s.terms i);rw[ZwJ _ _ _ (by omega)]at this;exact this.VT (first:=[]) (args:=[_]) (caps:=[_])))) (by first|trivial|exact⟨rfl,trivial⟩|simp[Wg,KS]) (YJ ?_)
  simp only[Eqs,reduceCtorEq,ZEV,reduceIte,ZET,ZEX,ZEU]
  refine c rfl (by trivial) (Zec ?_) (ZFx (ZFi _ hb) (ZFi _ (j _)))
  have hv:=ZcZ s.terms s.terms 0 rfl (by omega)
  simp only[Nat.zero_add]at hv
  rw[←hv]
  unfold ZN
  rw[show dC (s.terms.length≤4)=dC ((s.terms.length:Int)≤4) from decide_eq_decide.2 (by omega),hc,ZFe]
  rfl
theorem Zhp(l:List ZT)(hl:l.length≤1000000)(st:St):Zf ZEQ 212 [YD l] st (fun r s=>r=.ret (YD l)∧s=st):=by
 refine Zh (cR 212 f212) fun F hF=>?_
 by_cases h0:l.length=0
 ·have n:l=[]:=List.eq_nil_of_length_eq_zero h0
  subst n
  refine Zt3 0 rfl ?_ fun b off cap=>?_
  ·skip
   refine rx (nd2 @eQ5 @eQ1) ?_
   refine rg ?_
   refine i1 ?_
   refine rg ?_
   exact hF.ret _ st rfl (by trivial) (Zed (WH fun b h=>by cases h)) (ZES _) ⟨rfl,rfl⟩
  skip
  refine rx (nd2 @eQ5 @eQ1) ?_
  refine rg ?_
  refine iG ?_
  refine ZtY (s:=st) (t:=.full) (m:=0) (row2:=fun _=>[]) rfl rfl rfl rfl rfl (by trivial) (by trivial) (fun g w v h=>Zwk h) trivial (by decide) (by unfold big;decide) fun t1 c=>?_
  refine gR0 ?_
  exact hF.ret _ st rfl (by trivial) (Zed ((ZV.nil (f:=ZT.cells)).le rfl)) (Wm c) ⟨rfl,rfl⟩
 skip
 refine rx (nd2 @eQ5 @eQ1) ?_
 refine gA ?_
 refine iG ?_
 refine QE (st) (.full) rfl rfl rfl rfl rfl rfl (by trivial) (by trivial) rfl (by first|trivial|assumption) (by omega) (by (unfold big;omega)) fun t1 c=>Zm ?_
 simp only[Eqs,reduceCtorEq,ZEV,reduceIte,ZET,ZEX,ZEU]
 have j:ZV ZT.cells (YT 0 (Z4 [.str [],.int .i64 0] ([].zip [])) fun i=>(l.getD i dE).cells) ([]++l):=ZV.nil.app ZV.self rfl
 exact hF.ret _ st rfl (by trivial) (Zed (j.le (by simp))) (Wm c) ⟨rfl,rfl⟩
theorem Zct(l:List ZT)(hl:l.length≤big)(x:Nat):ZcC ZEQ (.fn (.func 213) [] [.ptr x 0]) l.length (fun j=>[.str (l.getD j dE).field]) (ZFj x (.cells [YD l])):=by
 intro y go A a0 ac hA hd
 have hw:=hl
 unfold big at hw
 refine Zf.V (first:=[]) (args:=[y]) (caps:=[.ptr x 0]) (Zh (cR 213 f213) fun F hF=>?_)
 have hx:∀a,Yb a (ZFj x (.cells [YD l]))→(a.or (ZFj x (.cells [YD l]))) x=sO (.cells [YD l]):=fun a af=>by
  rw[ZG (af x _ (YC _ _)),YC]
 generalize hT:ZFj x (.cells [YD l])=T at *
 refine rh ?_
 refine Zm ?_
 simp only[Eqs,reduceCtorEq,ZEV,reduceIte,ZET,ZEX,ZEU,hx a0 hd,YD,slD]
 refine Zb (fr (l.length) (fun j Q=>∀a,A j a→Yb a T→(∀i,i<j→go i=.next)→j≤l.length→Q [(0,.d y),(5,.d (YD l)),(6,.d (.int .i64 l.length)),(7,.d (.int .i64 j))] [] (a.or T)) (fun n z=>?_) fun ae=>?_)
 ·clear hA hd
  intro j hn a hA hd u hj
  refine rx (nd2 @eQ5 @eQ1) ?_
  refine Zd (Zs rfl trivial (fun h1=>?_) (fun h1=>?_))
  ·simp at h1
   generalize hg:l.getD j dE=g at *
   refine xA (nd2 @eQ8 (nd2 @eQ5 (nd2 @eQ1 @hg))) ?_
   refine rg ?_
   have v:=(ac j h1 u a hA).frame hd
   simp only[hg]at v
   refine vV (v) ?_ ?_
   ·rintro d S ⟨s',⟨hr,ab⟩,ad,rfl⟩
    cases t:go j with
    |next =>
     rw[t]at hr
     cases hr
     refine gR0 ?_
     refine i0 ?_
     refine gA ?_
     refine Za ?_
     exact z ((l.length)-(j+1)) (by omega) (j+1) rfl s' ab ad (ZX (q:=fun i=>go i=.next) u t) (by omega)
    |stop c =>
     rw[t]at hr
     cases hr
     refine gR0 ?_
     refine i1 ?_
     exact hF.ret (.tup []) _ rfl trivial (ZEW _) (ZES _) ⟨s',.stop j c h1 u t ab,Ky _ _⟩
    |pan d=>rw[t]at hr;cases hr
   rintro d S ⟨s',⟨hr,ab⟩,ad,rfl⟩
   cases t:go j with
   |pan d' =>
    rw[t]at hr
    cases hr
    exact hF.pan _ (ZES _) ⟨s',.pan j d h1 u t ab,Ky _ _⟩
   |next=>rw[t]at hr;cases hr
   |stop c=>rw[t]at hr;cases hr
  simp at h1
  obtain rfl:j=l.length:=by omega
  refine ZP rfl ?_
  exact hF.fin (.tup []) _ rfl trivial (ZEW _) (ZES _) ⟨a,.all u hA,Ky _ _⟩
 exact ae _ 0 rfl a0 hA hd (by intro i hi;omega) (by omega)
theorem J7{s:Wk}(h:ZN s=true):s.terms.length≤4:=by
 unfold ZN at h
 simp only[ZEY,decide_eq_true_eq]at h;exact h.1.2
theorem ZdM(s:Wk)(hv:ZN s=true)(st:St):Zf ZEQ 168 [.agg s.cells] st (fun r S=>∃x,st x=nO∧r=.ret (.fn (.func 213) [] [.ptr x 0])∧S=st.or (ZFj x (.cells [YD s.terms]))):=by
 have hfew:=J7 hv
 refine Zh (cR 168 f168) fun F hF=>?_
 refine rx @eQ7 ?_
 refine rg ?_
 refine rx @eQ7 ?_
 refine cX @hv (ZbA s) ?_
 refine i1 ?_
 refine rx @eQ7 ?_
 have c9:=(Zhp s.terms (by omega) st)
 refine cV (c9) ?_ ?_
 ·rintro d S ⟨hd,rfl⟩
  cases hd
  refine gR0 ?_
  refine⟨rfl,?_⟩
  refine Zd ?_
  refine Zc0 3 rfl fun x hx=>?_
  simp only[Eqs,reduceCtorEq,ZEV,reduceIte,ZET,ZEX,ZEU,JN,Q5,delL]
  refine rg ?_
  exact hF.ret _ _ rfl (by trivial) (ZEW _) (ZES _) ⟨x,hx,rfl,Qj hx⟩
 rintro d S ⟨hd,_⟩
 cases hd
def Qi(r:Int×Int):D:=.agg [.int .i64 r.1,.int .i64 r.2]
abbrev Zk6:=List (Str×(Int×Int))
abbrev Zbo(l:Zk6):List (D×D):=Qn Qe Qi l
theorem Zw{b c:Nat}{o:Ya}(h:(s.upd b o) c=nO):c≠b∧s c=nO:=by
 have:c≠b:=fun e=>by rw[e,ZEZ]at h;simp at h
 exact⟨this,by rw[ZE0 _ _ this]at h;exact h⟩
theorem Zjk(r:Int×Int):Zc ZEQ 322 [Qi r] (.bool (!QN r)):=by
 refine Ze (cR 322 f322) fun F st c=>?_
 refine rx @Qi.eq_1 ?_
 refine rg ?_
 refine cl (Zpt _ _ _) ?_
 refine rb c ?_
 unfold QN;rw[Bool.not_or,Bool.not_or,←decide_not,←decide_not,←decide_not];simp only[Int.not_lt,Int.not_le,Bool.and_assoc]
def ckS(st:St)(b5 b6 b7 b8 b9 b:Nat)(rc:Int)(nn:Bool):St :=
 ((((st.upd b5 (.cells [.str []])).upd b6 (.cells [.map b])).upd b7 (.cells [.fn (.func 322) [] []])).upd b8 (.cells [.int .i64 rc])).upd b9 (.cells [.bool nn])
structure Wu(st:St)(b5 b6 b7 b8 b9:Nat):Prop where
 n5:st b5=none
 n6:b6≠b5∧st b6=none
 n7:b7≠b6∧b7≠b5∧st b7=none
 n8:b8≠b7∧b8≠b6∧b8≠b5∧st b8=none
 n9:b9≠b8∧b9≠b7∧b9≠b6∧b9≠b5∧st b9=none
section
variable {st:St} {b5 b6 b7 b8 b9 b:Nat} {rc:Int} {nn:Bool}
theorem Wu.g5(h:Wu st b5 b6 b7 b8 b9):(ckS st b5 b6 b7 b8 b9 b rc nn) b5=sO (.cells [.str []]):=by
 simp[ckS,ZFr,h.n6.1.symm,h.n7.2.1.symm,h.n8.2.2.1.symm,h.n9.2.2.2.1.symm]
theorem Wu.g6(h:Wu st b5 b6 b7 b8 b9):(ckS st b5 b6 b7 b8 b9 b rc nn) b6=sO (.cells [.map b]):=by
 simp[ckS,ZFr,h.n7.1.symm,h.n8.2.1.symm,h.n9.2.2.1.symm]
theorem Wu.g7(h:Wu st b5 b6 b7 b8 b9):(ckS st b5 b6 b7 b8 b9 b rc nn) b7=sO (.cells [.fn (.func 322) [] []]):=by
 simp[ckS,ZFr,h.n8.1.symm,h.n9.2.1.symm]
theorem Wu.g8(h:Wu st b5 b6 b7 b8 b9):(ckS st b5 b6 b7 b8 b9 b rc nn) b8=sO (.cells [.int .i64 rc]):=by
 simp[ckS,ZFr,h.n9.1.symm]
theorem Wu.g9:(ckS st b5 b6 b7 b8 b9 b rc nn) b9=sO (.cells [.bool nn]):=by
 simp[ckS,ZFr]
theorem Wu.gm(h:Wu st b5 b6 b7 b8 b9){o:Ya}(hb:st b=sO o):(ckS st b5 b6 b7 b8 b9 b rc nn) b=sO o:=by
 have h5:b≠b5:=fun e=>by rw[e,h.n5]at hb;simp at hb
 have h6:b≠b6:=fun e=>by rw[e,h.n6.2]at hb;simp at hb
 have h7:b≠b7:=fun e=>by rw[e,h.n7.2.2]at hb;simp at hb
 have h8:b≠b8:=fun e=>by rw[e,h.n8.2.2.2]at hb;simp at hb
 have h9:b≠b9:=fun e=>by rw[e,h.n9.2.2.2.2]at hb;simp at hb
 simp[ckS,ZFr,h5,h6,h7,h8,h9,hb]
theorem Wu.s8(h:Wu st b5 b6 b7 b8 b9)(rc':Int):(ckS st b5 b6 b7 b8 b9 b rc nn).upd b8 (.cells [.int .i64 rc'])=ckS st b5 b6 b7 b8 b9 b rc' nn:=by
 unfold ckS;rw[St.upd_comm _ _ _ h.n9.1.symm,ZFd]
theorem Wu.s9(nn':Bool):(ckS st b5 b6 b7 b8 b9 b rc nn).upd b9 (.cells [.bool nn'])=ckS st b5 b6 b7 b8 b9 b rc nn':=by
 unfold ckS;rw[ZFd]
theorem Wu.sub(h:Wu st b5 b6 b7 b8 b9):st.sub (ckS st b5 b6 b7 b8 b9 b rc nn):=fun c o hc=>by
 have h5:c≠b5:=fun e=>by rw[e,h.n5]at hc;simp at hc
 have h6:c≠b6:=fun e=>by rw[e,h.n6.2]at hc;simp at hc
 have h7:c≠b7:=fun e=>by rw[e,h.n7.2.2]at hc;simp at hc
 have h8:c≠b8:=fun e=>by rw[e,h.n8.2.2.2]at hc;simp at hc
 have h9:c≠b9:=fun e=>by rw[e,h.n9.2.2.2.2]at hc;simp at hc
 simp[ckS,ZFr,h5,h6,h7,h8,h9,hc]
end
theorem ZjO{st t:St}{b5 b6 b7 b8 b9 b:Nat}{rc rc':Int}{nn nn':Bool}(h:Yb (ckS st b5 b6 b7 b8 b9 b rc nn) t):Yb (ckS st b5 b6 b7 b8 b9 b rc' nn') t:=fun c o hc=>by
 have:=h c o hc
 unfold ckS at this⊢
 have k9:=Zw this
 have k8:=Zw k9.2
 rw[ZE0 _ _ k9.1,ZE0 _ _ k8.1];exact k8.2
theorem ZqS{st:St}{b5 b6 b7 b8 b9 b:Nat}{rc:Int}{nn:Bool}(h:Wu st b5 b6 b7 b8 b9)(hρ:ZL ρ 8=sO (.d (.ptr b8 0)):=by rfl):
  YI ρ L (ckS st b5 b6 b7 b8 b9 b rc nn) [.cell1 8]=sO (True∧True,[.int .i64 rc]):=by
 simp[YI,Kp,hρ,Wr,Yj,h.g8]
theorem Zgd{α:Type}[Inhabited α]{p:α→Bool}{l:List α}(h:∀i,i<l.length→p (l.getD i dE)=false):l.any p=false:=by
 apply List.any_eq_false.2
 intro x hx
 obtain⟨i,hi,rfl⟩:=ZFa hx
 have:=h i hi
 simpa[ZE8,hi]using this
theorem Zjw{s:Wk}{j:Nat}(h:ZN s=true)(hj:j<s.terms.length):(s.terms.getD j dE).field≠[]:=by
 unfold ZN at h
 simp only[ZEY]at h
 have h1:=ZcZ s.terms s.terms 0 rfl (by omega)
 simp only[List.take_zero,ZFo,Nat.zero_add]at h1
 rw[h1]at h
 have h2:((ZE4 s.terms.length).any fun i=>dC ((s.terms.getD i dE).field∈(s.terms.take i).map (·.field))||!KG (s.terms.getD i dE))=false:=by simpa using h.2
 have h3:=List.any_eq_false.1 h2 j (by simpa using hj)
 simp only[ZFb,not_or,Bool.not_eq_true',Bool.not_eq_false]at h3
 have h4:=h3.2
 intro e
 rw[KG,e]at h4
 simp[Yl]at h4
theorem Znm(s:Wk)(b:Nat)(l:Zk6)(st:St)(hb:st b=sO (.map (Zbo l))):
  Zf ZEQ 323 [.agg s.cells,.str [],.map b,.fn (.func 322) [] []] st (fun r S=>r=.ret (.int .i64 (Jd s (fun k=>Zp k l)))∧S=st):=by
 refine Zh (cR 323 f323) fun F hF=>?_
 refine rx @eQ7 ?_
 refine rx @eQ7 ?_
 refine cl (ZbA s) ?_
 refine cd (fun hv=>?_) (fun hv=>?_)
 ·have z:ZN s=false:=by simpa using hv
  refine rg ?_
  refine hF.ret _ st rfl (by trivial) (Zf8 ?_) (ZES _) ⟨rfl,rfl⟩
  rw[Jd,if_pos z]
 have z:ZN s=true:=by simpa using hv
 refine rg ?_
 refine Zd (Zd ?_)
 refine xP 5 fun b5 h5=>?_
 refine xP 6 fun b6 h6=>?_
 refine xP 7 fun b7 h7=>?_
 refine xP 8 fun b8 h8=>?_
 refine xP 9 fun b9 h9=>?_
 refine rx @eQ7 ?_
 refine cV (ZdM s z _) ?_ ?_
 ·rintro d S ⟨x,hx,hd,rfl⟩
  cases hd
  refine gR0 ?_
  refine Zb ?_
  have n:Wu st b5 b6 b7 b8 b9:=by
   have k6:=Zw h6
   have k7:=Zw h7
   have ar:=Zw k7.2
   have k8:=Zw h8
   have ao:=Zw k8.2
   have au:=Zw ao.2
   have k9:=Zw h9
   have ak:=Zw k9.2
   have am:=Zw ak.2
   have av:=Zw am.2
   exact⟨h5,k6,⟨k7.1,ar⟩,⟨k8.1,ao.1,au⟩,⟨k9.1,ak.1,am.1,av⟩⟩
  have hfew:=J7 z
  rw[show(((((st.upd b5 (.cells [.str []])).upd b6 (.cells [.map b])).upd b7 (.cells [.fn (.func 322) [] []])).upd b8 (.cells [.int .i64 0])).upd b9 (.cells [.bool false]))=ckS st b5 b6 b7 b8 b9 b 0 false from rfl]at hx⊢
  refine KK hF rfl trivial [5,6,7,8,9] (by show([5,6,7,8,9]:List Nat).Nodup;decide) (W1 hx) (Zct s.terms (by unfold big;omega) x).Y (fun j hj=>rfl)
   (fun j=>if WA (fun k=>Zp k l) (s.terms.getD j dE) then .stop .ret else .next)
   (fun j a=>((∀i,i<j→WA (fun k=>Zp k l) (s.terms.getD i dE)=false)∧a=ckS st b5 b6 b7 b8 b9 b 0 ((s.terms.take j).any (YG fun k=>Zp k l)))∨((∃nn,a=ckS st b5 b6 b7 b8 b9 b 2 nn)∧∃i,i<j∧WA (fun k=>Zp k l) (s.terms.getD i dE)=true))
   (.inl ⟨fun i hi=>by omega,rfl⟩) ?_ ?_ ?_ ?_ ?_ ?_
  ·intro j a hj ab hB F' ready busy hdr al y
   have v:∀i,i<j→WA (fun k=>Zp k l) (s.terms.getD i dE)=false:=fun i hi=>by
    have:=ab i hi;split at this
    ·simp at this
    rename_i h;simpa using h
   rcases hB with ⟨_,rfl⟩|⟨_,i,hi,ad⟩
   ·skip
    simp only[Eqs,reduceCtorEq,ZEV,reduceIte,ZET,ZEX,ZEU,WP,Kb,Jh,Ko,List.isEmpty_nil,List.isEmpty_cons]
    refine rg ?_
    refine al fun ag=>?_
    have aq:(s.terms.getD j dE).field≠[]:=Zjw z hj
    have af:=ZgR (p:=YG fun k=>Zp k l) hj
    generalize ai:s.terms.getD j dE=tm at *
    have e1:=Wa (vD:=Qi) ZY tm.field l
    have e3:=Ww ZY tm.field
    simp only[show Qe tm.field=D.str tm.field from rfl]at e1 e3
    cases hg:Zp tm.field l with
    |none =>
     rw[hg]at e1
     have t:WA (fun k=>Zp k l) tm=false:=by simp[WA,hg]
     have ac:YG (fun k=>Zp k l) tm=true:=by simp[YG,hg]
     rw[ac,Bool.or_true]at af
     rw[if_neg (by rw[t];simp)]at y
     refine rh ?_
     refine Zm ?_
     simp only[Eqs,reduceCtorEq,ZEV,reduceIte,ZET,ZEX,ZEU,Zq (n.g6 ),Zq (n.gm hb),e1,e3]
     refine rh ?_
     refine Zm ?_
     simp only[Eqs,reduceCtorEq,ZEV,reduceIte,ZET,ZEX,ZEU,Zq (n.g5 )]
     refine Zs rfl trivial (fun h=>by simp at h;exact absurd h aq) (fun _=>?_)
     refine rg ?_
     refine i1 ?_
     refine rh ?_
     refine Zm ?_
     simp only[Eqs,reduceCtorEq,ZEV,reduceIte,ZET,ZEX,ZEU,Zq (Wu.g9 ),W5,Wu.s9]
     refine Zj (Zj ?_)
     exact y.fin ⟨rfl,.inl ⟨ZX (q:=fun i=>WA (fun k=>Zp k l) (s.terms.getD i dE)=false) v (by rw[ai];exact t),by rw[af]⟩⟩ (ZjO ag) (ZES _)
    |some r =>
     rw[hg]at e1
     have t:WA (fun k=>Zp k l) tm=QN r:=by simp[WA,hg]
     have ac:YG (fun k=>Zp k l) tm=false:=by simp[YG,hg]
     rw[ac,Bool.or_false]at af
     refine rh ?_
     refine Zm ?_
     simp only[Eqs,reduceCtorEq,ZEV,reduceIte,ZET,ZEX,ZEU,Zq (n.g6 ),Zq (n.gm hb),e1,e3,Qi]
     refine rh ?_
     refine Zm ?_
     simp only[Eqs,reduceCtorEq,ZEV,reduceIte,ZET,ZEX,ZEU,Zq (n.g5 )]
     refine Zs rfl trivial (fun h=>by simp at h;exact absurd h aq) (fun _=>?_)
     refine gI ?_
     refine rh ?_
     refine Zm ?_
     simp only[Eqs,reduceCtorEq,ZEV,reduceIte,ZET,ZEX,ZEU,Zq (n.g7 )]
     refine cl (Zjk r) ?_
     refine cd (fun hr=>?_) (fun hr=>?_)
     ·have ae:QN r=true:=by simpa using hr
      rw[if_pos (by rw[t];exact ae)]at y
      refine rh ?_
      refine Zm ?_
      simp only[Eqs,reduceCtorEq,ZEV,reduceIte,ZET,ZEX,ZEU,Zq (n.g8 ),W5,n.s8]
      exact y.ret ⟨rfl,.inr ⟨⟨_,rfl⟩,j,by omega,by rw[ai,t];exact ae⟩⟩ (ZjO ag) (ZES _)
     have ae:QN r=false:=by simpa using hr
     rw[if_neg (by rw[t,ae];simp)]at y
     refine Zv (Zj (Zj ?_))
     exact y.fin ⟨rfl,.inl ⟨ZX (q:=fun i=>WA (fun k=>Zp k l) (s.terms.getD i dE)=false) v (by rw[ai,t];exact ae),by rw[af]⟩⟩ ag (ZES _)
   rw[v i hi]at ad;simp at ad
  ·intro q a ab hB hq
   have v:∀i,i<s.terms.length→WA (fun k=>Zp k l) (s.terms.getD i dE)=false:=fun i hi=>by
    have:=ab i hi;split at this
    ·simp at this
    rename_i h;simpa using h
   rcases hB with ⟨_,rfl⟩|⟨_,i,hi,ad⟩
   ·rw[ZFc]at hq⊢
    have ah:s.terms.any (WA fun k=>Zp k l)=false:=Zgd v
    have hI:=Jd.eq_1 s fun k=>Zp k l
    rw[if_neg (by rw[z];simp),if_neg (by rw[ah];simp)]at hI
    rw[Qj hq]
    have ap:=W1 (o:=Ya.dfr) hq
    generalize s.terms.any (YG fun k=>Zp k l)=nn at *
    refine rh ?_
    refine Zm ?_
    simp only[Eqs,reduceCtorEq,ZEV,reduceIte,ZET,ZEX,ZEU,Zq (Wu.g9 )]
    refine cd (fun hn=>?_) (fun hn=>?_)
    ·rw[if_pos hn]at hI
     refine rh ?_
     refine Zm ?_
     simp only[Eqs,reduceCtorEq,ZEV,reduceIte,ZET,ZEX,ZEU,Zq (n.g8 ),W5,n.s8]
     exact hF.ret1 (Zid (ZjO ap) (YC _ _)) (.int .i64 9) st (ZqS n) ⟨trivial,trivial⟩ (ZEW _) n.sub ⟨by rw[hI],rfl⟩
    rw[if_neg (by rw[hn];simp)]at hI
    refine rh ?_
    refine Zm ?_
    simp only[Eqs,reduceCtorEq,ZEV,reduceIte,ZET,ZEX,ZEU,Zq (n.g8 ),W5,n.s8]
    exact hF.ret1 (Zid (ZjO ap) (YC _ _)) (.int .i64 0) st (ZqS n) ⟨trivial,trivial⟩ (ZEW _) n.sub ⟨by rw[hI],rfl⟩
   rw[v i hi]at ad;simp at ad
  ·intro q a m hm ab u hB hq
   have v:∀i,i<m→WA (fun k=>Zp k l) (s.terms.getD i dE)=false:=fun i hi=>by
    have:=ab i hi;split at this
    ·simp at this
    rename_i h;simpa using h
   have t:WA (fun k=>Zp k l) (s.terms.getD m dE)=true:=by
    split at u
    ·rename_i h;exact h
    simp at u
   rcases hB with ⟨aj,_⟩|⟨⟨nn,rfl⟩,_⟩
   ·rw[aj m (by omega)]at t;simp at t
   have ah:s.terms.any (WA fun k=>Zp k l)=true:=ZqD hm t
   have hI:=Jd.eq_1 s fun k=>Zp k l
   rw[if_neg (by rw[z];simp),if_pos ah]at hI
   rw[Qj hq]
   exact hF.ret1 hq (.int .i64 2) st (ZqS n) ⟨trivial,trivial⟩ (ZEW _) n.sub ⟨by rw[hI],rfl⟩
  ·intro q a m id hm ab u
   split at u<;>simp at u
  ·intro q a m d hm ab u
   split at u<;>simp at u
  intro m c u
  split at u<;>simp at u
  exact .inl u.symm
 rintro d S ⟨x,hx,hd,rfl⟩
 cases hd
def Qf(v:ZT→Int):List ZT→Int
 | []=>0
 |t::r=>t.factor*v t+Qf v r
theorem Zpw{v:ZT→Int}{l:List ZT}{i:Nat}(h:i<l.length):Qf v (l.take (i+1))=Qf v (l.take i)+(l.getD i dE).factor*v (l.getD i dE):=by
 rw[Z0 h]
 generalize l.getD i dE=x
 induction l.take i with
 |nil=>simp[Qf]
 |cons y r ih=>simp only[List.cons_append,Qf,ih];omega
theorem Ziy{a b:Int}(ha:-1048576≤a∧a≤1048576)(hb:0≤b∧b<34359738368):-36028797018963968≤a*b∧a*b≤36028797018963968:=by
 have h1:a*b≤1048576*b:=Int.mul_le_mul_of_nonneg_right ha.2 hb.1
 have h2:-1048576*b≤a*b:=Int.mul_le_mul_of_nonneg_right ha.1 hb.1
 omega
theorem Zhz{v:ZT→Int}{l:List ZT}(h:∀t∈l,(-1048576≤t.factor∧t.factor≤1048576)∧0≤v t∧v t<34359738368):-36028797018963968*(l.length:Int)≤Qf v l∧Qf v l≤36028797018963968*(l.length:Int):=by
 induction l with
 |nil=>simp[Qf]
 |cons t r ih =>
  have h1:=ih fun x hx=>h x (by simp[hx])
  have h2:=Ziy (h t (by simp)).1 (h t (by simp)).2
  simp only[Qf,ZE5]
  generalize t.factor*v t=y at *
  omega
theorem ZfB{s:Wk}(h:ZN s=true):(-1048576≤s.base∧s.base≤1048576)∧∀t∈s.terms,-1048576≤t.factor∧t.factor≤1048576:=by
 unfold ZN at h
 simp only[ZEY]at h
 refine⟨by have:=h.1.1;simpa[QP]using this,fun t ht=>?_⟩
 have h1:=ZcZ s.terms s.terms 0 rfl (by omega)
 simp only[List.take_zero,ZFo,Nat.zero_add]at h1
 rw[h1]at h
 have h2:((ZE4 s.terms.length).any fun i=>dC ((s.terms.getD i dE).field∈(s.terms.take i).map (·.field))||!KG (s.terms.getD i dE))=false:=by simpa using h.2
 obtain⟨j,hj,rfl⟩:=ZFa ht
 have h3:=List.any_eq_false.1 h2 j (by simpa using hj)
 simp only[ZFb,not_or,Bool.not_eq_true',Bool.not_eq_false]at h3
 have h4:=h3.2
 unfold KG at h4
 simp only[ZEY]at h4
 have h5:=h4.2
 simpa[QP,ZE8,hj]using h5
theorem ZgD(s:Wk)(hv:ZN s=true)(f:D)(v:ZT→Int)(st:St)(hb:∀t∈s.terms,0≤v t∧v t<34359738368)(hf:∀t∈s.terms,VT ZEQ f [.agg t.cells] st (.int .i64 (v t)) st):
  ZS ZEQ 121 [.agg s.cells,f] st (.int .i64 (s.base+Qf v s.terms)) st:=by
 refine ZK (cR 121 f121) fun ae F z=>?_
 clear ae
 have hfew:=J7 hv
 have y:=ZfB hv
 refine rx (nd2 @eQ7 (nd2 @eQ5 @eQ1)) ?_
 refine rx @eQ7 ?_
 refine rx (nd2 @eQ7 (nd2 @eQ5 @eQ1)) ?_
 refine Zb (fr (s.terms.length) (fun j Q=>j≤s.terms.length→Q [(1,.d f),(5,.d (.int .i64 (s.base+Qf v (s.terms.take j)))),(11,.d (YD s.terms)),(12,.d (.int .i64 s.terms.length)),(13,.d (.int .i64 j))] [] st) (fun n u=>?_) fun ac=>?_)
 ·intro j hn hj
  refine rg ?_
  refine Zd (Zs rfl trivial (fun h1=>?_) (fun h1=>?_))
  ·simp at h1
   have c:=Zy h1
   have ab:=Zpw (v:=v) h1
   have ad:=Zhz (v:=v) (l:=s.terms.take j) fun t ht=>⟨y.2 t (List.mem_of_mem_take ht),hb t (List.mem_of_mem_take ht)⟩
   rw[ZE9]at ad
   generalize af:s.terms.getD j dE=tm at *
   have hmb:=Ziy (y.2 tm c) (hb tm c)
   refine xA (nd2 @eQ8 (nd2 @eQ5 (nd2 @eQ1 @af))) ?_
   refine rx @eQ8 ?_
   refine cWD (hf tm c) ?_
   generalize hmv:tm.factor*v tm=mv at *
   refine aa ?_
   refine gA ?_
   refine Za ?_
   have i:=u ((s.terms.length)-(j+1)) (by omega) (j+1) rfl (by omega)
   rw[ab,←Int.add_assoc]at i
   exact i
  simp at h1
  obtain rfl:j=s.terms.length:=by omega
  rw[ZFc]
  refine rg ?_
  exact z rfl (by trivial) (ZEW _) (ZES _)
 have hk:=ac _ 0 rfl (by omega)
 rw[List.take_zero,show Qf v []=0 from rfl,Int.add_zero]at hk
 exact hk
def ZdG(look:Kr)(least:Bool)(t:ZT):Int:=if least=dC (0<t.factor) then (QZ look t).1 else (QZ look t).2
theorem Zzv(look:Kr)(l:List ZT):Qf (ZdG look true) l=loS look l:=by
 induction l with
 |nil=>rfl
 |cons t r ih =>
  simp only[Qf,loS,ih,loT,ZdG]
  by_cases h:0<t.factor<;>simp[h]
theorem Zzu(look:Kr)(l:List ZT):Qf (ZdG look false) l=hiS look l:=by
 induction l with
 |nil=>rfl
 |cons t r ih =>
  simp only[Qf,hiS,ih,hiT,ZdG]
  by_cases h:0<t.factor<;>simp[h]
theorem Zpd(o:Option (Int×Int)):Wl (.agg [.int .i64 0,.int .i64 0]) false (o.map Qi)=.agg [.int .i64 (o.getD (0,0)).1,.int .i64 (o.getD (0,0)).2]:=by cases o<;>rfl
theorem Zho(t:ZT)(l:Zk6)(least:Bool)(b x y:Nat)(st:St)(hb:st b=sO (.map (Zbo l)))(hx:st x=sO (.cells [.map b]))(hy:st y=sO (.cells [.bool least])):
  ZS ZEQ 325 [.agg t.cells,.ptr x 0,.ptr y 0] st (.int .i64 (ZdG (fun k=>Zp k l) least t)) st:=by
 refine ZK (cR 325 f325) fun i F c=>?_
 clear i
 have e1:=Wa (vD:=Qi) ZY t.field l
 have e3:=Ww ZY t.field
 simp only[show Qe t.field=D.str t.field from rfl]at e1 e3
 refine rx @eQ8 ?_
 refine rh ?_
 refine Zm ?_
 simp only[Eqs,reduceCtorEq,ZEV,reduceIte,ZET,ZEX,ZEU,hx,hb,e1,e3,Zpd]
 refine rx @hy ?_
 refine cd (fun h1=>?_) (fun h1=>?_)
 ·refine rg ?_
  refine c rfl (by trivial) (Zf8 ?_) (ZES _)
  unfold ZdG QZ
  rw[if_pos (by simpa using h1)]
 refine rh ?_
 refine Zm ?_
 simp only[Eqs,reduceCtorEq,ZEV,reduceIte,ZET,ZEX,ZEU,hx,hb,e1,e3,Zpd]
 refine c rfl (by trivial) (Zf8 ?_) (ZES _)
 unfold ZdG QZ
 rw[if_neg (by simpa using h1)]
theorem ZxF{s:Wk}{look:Kr}(h:Jd s look=0):ZN s=true∧∀t∈s.terms,∀least,0≤ZdG look least t∧ZdG look least t<34359738368:=by
 unfold Jd at h
 split at h;· omega
 rename_i hv
 split at h;· omega
 rename_i hb
 refine⟨by simpa using hv,fun t ht least=>?_⟩
 have h1:WA look t=false:=by
  cases hx:WA look t with
  |false=>rfl
  |true=>exact absurd (List.any_eq_true.2 ⟨t,ht,hx⟩) hb
 unfold WA at h1
 unfold ZdG QZ
 cases hl:look t.field with
 |none=>simp
 |some r =>
  rw[hl]at h1
  simp only[QN,Bool.or_eq_false_iff,decide_eq_false_iff_not]at h1
  simp only[ZFs]
  split<;>omega
theorem Zdy(s:Wk)(l:Zk6)(least:Bool)(b x y:Nat)(st:St)(he:Jd s (fun k=>Zp k l)=0)(hb:st b=sO (.map (Zbo l)))(hx:st x=sO (.cells s.cells))(hy:st y=sO (.cells [.map b])):
  ZS ZEQ 324 [.bool least,.ptr x 0,.ptr y 0] st (.int .i64 (s.base+Qf (ZdG (fun k=>Zp k l) least) s.terms)) st:=by
 refine ZK (cR 324 f324) fun n F i=>?_
 clear n
 have c:=ZxF he
 refine rg ?_
 refine Zd ?_
 refine xP 3 fun z hz=>?_
 have v:b≠z:=fun e=>by rw[e,hz]at hb;simp at hb
 have ab:x≠z:=fun e=>by rw[e,hz]at hx;simp at hx
 have u:y≠z:=fun e=>by rw[e,hz]at hy;simp at hy
 have j:(st.upd z (.cells [.bool least])) x=sO (.cells s.cells):=by rw[ZE0 _ _ ab];exact hx
 refine rx (nd2 @j @eQ7) ?_
 refine ZaA rfl rfl rfl rfl rfl (by trivial) (by trivial) (by exact ZgD s c.1 _ (ZdG (fun k=>Zp k l) least) _ (fun t ht=>c.2 t ht least) (fun t ht=>(Zho t l least b y z _ (by rw[ZE0 _ _ v];exact hb) (by rw[ZE0 _ _ u];exact hy) (ZEZ _ _ _)).VT (first:=[]) (args:=[_]) (caps:=[_,_]))) (Zm ?_)
 simp only[Eqs,reduceCtorEq,ZEV,reduceIte,ZET,ZEX,ZEU]
 exact i rfl (by trivial) (ZEW _) (ZFi _ hz)
theorem ZlG(s:Wk)(b:Nat)(l:Zk6)(st:St)(hb:st b=sO (.map (Zbo l))):
  Zf ZEQ 318 [.agg s.cells,.map b] st (fun r S=>r=.ret (.tup [Qi ((YL s fun k=>Zp k l).1,(YL s fun k=>Zp k l).2.1),.int .i64 (YL s fun k=>Zp k l).2.2])∧S=st):=by
 refine Zh (cR 318 f318) fun F hF=>?_
 have hI:=YL.eq_1 s fun k=>Zp k l
 refine rx @eQ7 ?_
 refine rg ?_
 refine rx @eQ7 ?_
 refine cV (Znm s b l st hb) ?_ ?_
 ·rintro d S ⟨hd,rfl⟩
  cases hd
  refine gR0 ?_
  refine rg ?_
  refine cd (fun h1=>?_) (fun h1=>?_)
  ·have c:¬Jd s (fun k=>Zp k l)=0:=by simpa using h1
   rw[if_neg c]at hI
   refine rg ?_
   refine hF.ret _ S rfl (by trivial) (JA ?_ rfl) (ZES _) ⟨rfl,rfl⟩
   rw[hI];rfl
  have c:Jd s (fun k=>Zp k l)=0:=by simpa using h1
  rw[if_pos c]at hI
  refine Zv (Zd ?_)
  refine xP 2 fun x hx=>?_
  refine xP 3 fun y hy=>?_
  have t:b≠x:=fun e=>by rw[e,hx]at hb;simp at hb
  have n:=Zw hy
  have u:b≠y:=fun e=>by rw[e,n.2]at hb;simp at hb
  have i:((S.upd x (.cells s.cells)).upd y (.cells [.map b])) b=sO (.map (Zbo l)):=by rw[ZE0 _ _ u,ZE0 _ _ t];exact hb
  have j:((S.upd x (.cells s.cells)).upd y (.cells [.map b])) x=sO (.cells s.cells):=by rw[ZE0 _ _ n.1.symm];exact ZEZ _ _ _
  refine gG ?_
  refine cW ((Zdy s l true b x y _ c i j (ZEZ _ _ _)).VT (first:=[]) (args:=[_]) (caps:=[_,_])) ?_
  refine cW ((Zdy s l false b x y _ c i j (ZEZ _ _ _)).VT (first:=[]) (args:=[_]) (caps:=[_,_])) ?_
  refine hF.ret _ S rfl (by first|trivial|simp) (JA ?_ rfl) (ZFx (ZFi _ hx) (ZFi _ hy)) ⟨rfl,rfl⟩
  rw[hI,Zzv,Zzu];rfl
 rintro d S ⟨hd,_⟩
 cases hd
theorem ZnZ(o:Option Int):Wl (.int .i64 0) false (o.map Kx)=.int .i64 (o.getD 0):=by cases o<;>rfl
abbrev JZ(l:List (Str×Int)):List (D×D):=Qn Qe Kx l
def inC(n:Int):List D:=[.int .i64 n]
theorem ZxD(f:Fld):YA f=(dC (f.kind=1) ||decide (f.kind=2) ||decide (f.kind=3)):=by
 unfold YA
 rw[Bool.eq_iff_iff]
 simp only[ZEY,ZFb,decide_eq_true_eq]
 omega
theorem ZeP(f:Fld):Zc ZEQ 76 [.agg f.cells] (.bool (YA f)):=by
 refine Ze (cR 76 f76) fun F st c=>?_
 refine rx @eQ0 ?_
 refine rx @eQ0 ?_
 refine rb c ?_
 exact(ZxD f).symm
def ZiP(f:Fld):(Int×Int)×Int:=if YA f then (Wh f,0) else ((0,0),2)
theorem Zm8(f:Fld):Zc ZEQ 321 [.agg f.cells] (.tup [Qi (ZiP f).1,.int .i64 (ZiP f).2]):=by
 refine Ze (cR 321 f321) fun F st c=>?_
 have hS:=ZiP.eq_1 f
 refine rx @eQ0 ?_
 refine rx @eQ0 ?_
 refine cl (ZeP f) ?_
 refine cd (fun h1=>?_) (fun h1=>?_)
 ·rw[if_neg (by simpa using h1)]at hS
  refine rg ?_
  refine c rfl (by first|trivial|simp) (JA ?_ rfl) (ZES _)
  rw[hS];rfl
 rw[if_pos (by simpa using h1)]at hS
 refine rx @eQ0 ?_
 refine cd (fun h2=>?_) (fun h2=>?_)
 ·refine rx @eQ0 ?_
  refine c rfl (by first|trivial|simp) (JA ?_ rfl) (ZES _)
  rw[hS,Wh,if_pos (by simpa using h2)];rfl
 refine rx @eQ0 ?_
 refine c rfl (by first|trivial|simp) (JA ?_ rfl) (ZES _)
 rw[hS,Wh,if_neg (by simpa using h2)];rfl
def JK(fs:List Fld):Nat→Zk6
 |0=>[]
 |i+1=>if YA (fs.getD i dE) then Wy (fs.getD i dE).name (Wh (fs.getD i dE)) (JK fs i) else JK fs i
theorem ZeQ(fs:List Fld)(st:St):Zf ZEQ 317 [Zo fs] st fun r S=>∃b,st b=nO∧r=.ret (.map b)∧S=st.upd b (.map (Zbo (JK fs fs.length))):=by
 refine Zbe (cR 317 f317) fun u F hF=>?_
 have hw:=(Zih (u (Zo fs) (by simp))).1
 unfold big at hw
 clear u
 refine gG ?_
 intro b hb
 refine rx (nd2 @eQ4 @eQ1) ?_
 refine Zb (fr (fs.length) (fun i Q=>i≤fs.length→Q [(3,.d (.map b)),(9,.d (Zo fs)),(10,.d (.int .i64 fs.length)),(11,.d (.int .i64 i))] [] (st.upd b (.map (Zbo (JK fs i))))) (fun n c=>?_) fun v=>?_)
 ·intro i hn hi
  refine rg ?_
  refine Zd (Zs rfl trivial (fun h1=>?_) (fun h1=>?_))
  ·simp at h1
   have t:JK fs (i+1)=if YA (fs.getD i dE) then Wy (fs.getD i dE).name (Wh (fs.getD i dE)) (JK fs i) else JK fs i:=rfl
   generalize hf:fs.getD i dE=f at *
   have hP:=ZiP.eq_1 f
   refine xA (nd2 @eQ4 (nd2 @eQ1 (nd2 @eQ0 @hf))) ?_
   refine rx @eQ0 ?_
   refine cX @Qi.eq_1 (Zm8 f) ?_
   refine rg ?_
   refine cd (fun h2=>?_) (fun h2=>?_)
   ·have j:YA f=true:=by
     cases hx:YA f with
     |true=>rfl
     |false=>rw[hP,hx]at h2;simp at h2
    rw[if_pos j]at hP t
    have e2:=ZbY (vD:=Qi) ZY f.name (Wh f) (JK fs i)
    have e3:=Ww ZY f.name
    simp only[show Qe f.name=D.str f.name from rfl,show Qi (Wh f)=D.agg [.int .i64 (Wh f).1,.int .i64 (Wh f).2] from rfl]at e2 e3
    have y:(ZiP f).1=Wh f:=by rw[hP]
    refine rx (nd2 @eQ0 (nd2 @y (nd2 @e2 (nd2 @e3 (nd2 @ZEZ (nd2 @ZFd (nd2 @Yt @Yu))))))) ?_
    refine gA ?_
    rw[←t]
    refine Za ?_
    exact c ((fs.length)-(i+1)) (by omega) (i+1) rfl (by omega)
   have j:YA f=false:=by
    cases hx:YA f with
    |true=>rw[hP,hx]at h2;simp at h2
    |false=>rfl
   rw[if_neg (by rw[j];simp)]at t
   refine gA ?_
   rw[←t]
   refine Za ?_
   exact c ((fs.length)-(i+1)) (by omega) (i+1) rfl (by omega)
  simp at h1
  obtain rfl:i=fs.length:=by omega
  refine rg ?_
  exact hF.ret _ _ rfl (by trivial) (ZEW _) (ZES _) ⟨b,hb,rfl,rfl⟩
 exact v _ 0 rfl (by omega)
theorem Ze6(l:List Msg)(f:D)(p:Msg→Bool)(sts:Nat→St)(hf:∀i,i<l.length→VT ZEQ f [.agg (l.getD i dE).cells] (sts i) (.bool (p (l.getD i dE))) (sts (i+1))):
  ZS ZEQ 89 [slD 2 Msg.cells l,f] (sts 0) (.tup [.int .i64 (max (Zk p l) 0),.bool (dC (0≤Zk p l))]) (sts (Qv p l)):=by
 refine ZK (cR 89 f89) fun j F c=>?_
 clear j
 refine gG ?_
 refine ct (ZdA l f p sts hf) ?_
 refine rg ?_
 exact c rfl (by trivial) (JA rfl rfl) (ZES _)
theorem ZgB(l:List Fld)(f:D)(p:Fld→Bool)(sts:Nat→St)(hf:∀i,i<l.length→VT ZEQ f [.agg (l.getD i dE).cells] (sts i) (.bool (p (l.getD i dE))) (sts (i+1))):
  ZS ZEQ 223 [slD 15 Fld.cells l,f] (sts 0) (.tup [.int .i64 (max (Zk p l) 0),.bool (dC (0≤Zk p l))]) (sts (Qv p l)):=by
 refine ZK (cR 223 f223) fun j F c=>?_
 clear j
 refine gG ?_
 refine ct (Qw l f p sts hf) ?_
 refine rg ?_
 exact c rfl (by trivial) (JA rfl rfl) (ZES _)
theorem Zhn(l:List Yg)(f:D)(p:Yg→Bool)(sts:Nat→St)(hf:∀i,i<l.length→VT ZEQ f [.agg (l.getD i dE).cells] (sts i) (.bool (p (l.getD i dE))) (sts (i+1))):
  ZS ZEQ 123 [slD 3 Yg.cells l,f] (sts 0) (.tup [.int .i64 (max (Zk p l) 0),.bool (dC (0≤Zk p l))]) (sts (Qv p l)):=by
 refine ZK (cR 123 f123) fun j F c=>?_
 clear j
 refine gG ?_
 refine ct (ZeW l f p sts hf) ?_
 refine rg ?_
 exact c rfl (by trivial) (JA rfl rfl) (ZES _)
theorem ZlC(x:Msg)(s:Str)(b:Nat)(st:St)(hb:st b=sO (.cells [.str s])):ZS ZEQ 90 [.agg x.cells,.ptr b 0] st (.bool (dC (x.name=s))) st:=by
 refine ZK (cR 90 f90) fun i F c=>?_
 clear i
 refine rx @eQ3 ?_
 refine rx @hb ?_
 exact c rfl (by trivial) (ZEW _) (ZES _)
theorem Zkh(x:Fld)(s:Str)(b:Nat)(st:St)(hb:st b=sO (.cells [.str s])):ZS ZEQ 224 [.agg x.cells,.ptr b 0] st (.bool (dC (x.name=s))) st:=by
 refine ZK (cR 224 f224) fun i F c=>?_
 clear i
 refine rx @eQ0 ?_
 refine rx @hb ?_
 exact c rfl (by trivial) (ZEW _) (ZES _)
theorem Zgz(d:Dfn)(s:Str):Zc ZEQ 41 [.agg d.cells,.str s] (.tup [.int .i64 (max (Zk (fun x=>dC (x.name=s)) d.msgs) 0),.bool (dC (0≤Zk (fun x=>dC (x.name=s)) d.msgs))]):=by
 refine Ze (cR 41 f41) fun F st c=>?_
 refine rx @eQ2 ?_
 refine Zd ?_
 refine xP 3 fun b hb=>?_
 refine rx @eQ2 ?_
 refine ct (Ze6 d.msgs (.fn (.func 90) [] [.ptr b 0]) (fun x=>dC (x.name=s)) (fun _=>st.upd b (.cells [.str s])) (fun i hi=>(ZlC _ s b _ (ZEZ _ _ _)).VT (first:=[]) (args:=[_]) (caps:=[_]))) ?_
 exact c rfl (by trivial) (JA rfl rfl) (ZFi _ hb)
theorem Zcq(d:Msg)(s:Str):Zc ZEQ 177 [.agg d.cells,.str s] (.tup [.int .i64 (max (Zk (fun x=>dC (x.name=s)) d.fields) 0),.bool (dC (0≤Zk (fun x=>dC (x.name=s)) d.fields))]):=by
 refine Ze (cR 177 f177) fun F st c=>?_
 refine rx @eQ3 ?_
 refine Zd ?_
 refine xP 3 fun b hb=>?_
 refine rx @eQ3 ?_
 refine ct (ZgB d.fields (.fn (.func 224) [] [.ptr b 0]) (fun x=>dC (x.name=s)) (fun _=>st.upd b (.cells [.str s])) (fun i hi=>(Zkh _ s b _ (ZEZ _ _ _)).VT (first:=[]) (args:=[_]) (caps:=[_]))) ?_
 exact c rfl (by trivial) (JA rfl rfl) (ZFi _ hb)
theorem ZlB(c:Yg)(tag:Int)(b:Nat)(st:St)(hb:st b=sO (.cells [.int .i64 tag])):ZS ZEQ 124 [.agg c.cells,.ptr b 0] st (.bool (dC (c.low≤tag)&&dC (tag≤c.high))) st:=by
 refine ZK (cR 124 f124) fun j F i=>?_
 clear j
 refine rx @Yg.cells.eq_1 ?_
 refine rx @hb ?_
 exact i rfl (by trivial) (ZEW _) (ZES _)
theorem Zog(f:Fld)(tag:Int):Zc ZEQ 81 [.agg f.cells,.int .i64 tag] (.tup [.int .i64 (max (QT f tag) 0),.bool (dC (0≤QT f tag))]):=by
 refine Ze (cR 81 f81) fun F st j=>?_
 refine rx @eQ0 ?_
 refine Zd ?_
 refine xP 3 fun b hb=>?_
 refine rx @eQ0 ?_
 refine ct (Zhn f.cases (.fn (.func 124) [] [.ptr b 0]) (fun c=>dC (c.low≤tag)&&dC (tag≤c.high)) (fun _=>st.upd b (.cells [.int .i64 tag])) (fun i hi=>(ZlB _ tag b _ (ZEZ _ _ _)).VT (first:=[]) (args:=[_]) (caps:=[_]))) ?_
 exact j rfl (by trivial) (JA rfl rfl) (ZFi _ hb)
def Zyo:Option (Int×Int×Int)→List D
 |none=>[.int .i64 0,.int .i64 0,.int .i64 0]
 |some (a,b,c)=>[.int .i64 a,.int .i64 b,.int .i64 c]
def Zyp(o:Option (Int×Int×Int)):D:=.tup [.agg (Zyo o),.bool o.isSome]
def QY(l:List Int):List D:=l.map (.int .i64)
theorem ZfJ(l:List Int):(QY l).length=l.length:=by simp[QY]
theorem ZgX{l:List Int}{i:Nat}(h:i<l.length):(QY l)[i]?=sO (.int .i64 (l.getD i dE)):=by
 simp[QY,ZE8,ZFq h]
theorem Zum(n:Nat):KC [.int .i64 0] n=QY (List.replicate n 0):=by
 unfold KC QY
 induction n with
 |zero=>rfl
 |succ n ih=>rw[List.replicate_succ,List.flatten_cons,ih,List.replicate_succ];rfl
theorem Zxo{l:List Int}{i:Nat}{v:Int}(h:i<l.length):ZE (QY l) i [.int .i64 v]=QY (l.set i v):=by
 unfold ZE QY
 rw[List.map_set,List.set_eq_take_append_cons_drop,if_pos (by simpa using h)]
 simp
theorem Zq5{l:List Int}{i:Nat}{v:Int}(h:i<l.length):List.take i (QY l)++[.int .i64 v]++List.drop (i+1) (QY l)=QY (l.set i v):=Zxo h
theorem ZpP{l r:List Int}{i:Nat}(h:i<l.length):(l++r).getD i dE=l.getD i dE:=by
 simp[ZE8,ZFp h]
theorem ZfM{l r:List Int}{i:Nat}{v:Int}(h:l.length=i):(l++v::r).getD i dE=v:=by
 subst h;simp[ZE8]
theorem Znb{l r:List Int}{i:Nat}{v w:Int}(h:l.length=i):(l++v::r).set i w=l++w::r:=by
 subst h;simp[List.set_append]
theorem Zq6{d:Dfn}{at_:Nat}{deps:List Int}(hd:∀x∈deps,0≤x∧x≤16)(l:List Str){b:Int}(h0:0≤b)(h1:b≤16):0≤ZaI d at_ deps b l∧ZaI d at_ deps b l≤16:=by
 induction l generalizing b with
 |nil=>exact⟨h0,h1⟩
 |cons s r ih =>
  have:0≤deps.getD (Zn d s at_).toNat dE∧deps.getD (Zn d s at_).toNat dE≤16:=by
   by_cases h:(Zn d s at_).toNat<deps.length
   ·exact hd _ (Zy h)
   rw[ZE8,ZFA (by omega)];decide
  exact ih (b:=max b (deps.getD (Zn d s at_).toNat dE)) (by omega) (by omega)
theorem Zsz{d:Dfn}{at_:Nat}{deps:List Int}{b:Int}{l:List Str}{q:Nat}(h:q<l.length):
  ZaI d at_ deps b (l.take (q+1))=max (ZaI d at_ deps b (l.take q)) (deps.getD (Zn d (l.getD q dE) at_).toNat dE):=by
 rw[Z0 h,ZaI,List.foldl_append];rfl
theorem ZrX(d:Dfn):Zc ZEQ 93 [.agg d.cells] (Zyp (Zbh d)):=by
 refine ZJ (cR 93 f93) fun am F st v=>?_
 have hw:=(Zgh (s:=d) (am _ (by simp))).nmsgs
 have a5:=(Zgh (s:=d) (am _ (by simp))).msgs
 unfold big at hw
 clear am
 have hS:=Zbh.eq_1 d
 refine rx @eQ2 ?_
 refine rx @eQ2 ?_
 refine cl (Zbn d.name) ?_
 refine cd (fun h=>?_) (fun h=>?_)
 ·rw[if_pos (by simpa using h)]at hS
  refine rg ?_
  refine rt v ?_
  rw[hS];rfl
 rw[if_neg (by simpa using h)]at hS
 refine rx (nd2 @eQ2 (nd2 @eQ6 @eQ1)) ?_
 refine cd (fun h2=>?_) (fun h2=>?_)
 ·have y:(dC (d.msgs.length<1) ||decide (60<d.msgs.length))=true:=by
   rw[ZFb,decide_eq_true_eq,decide_eq_true_eq]at h2⊢;omega
  rw[if_pos y]at hS
  refine rg ?_
  refine rt v ?_
  rw[hS];rfl
 rw[Bool.or_eq_false_iff,decide_eq_false_iff_not,decide_eq_false_iff_not]at h2
 have y:¬(dC (d.msgs.length<1) ||decide (60<d.msgs.length))=true:=by
  rw[ZFb,decide_eq_true_eq,decide_eq_true_eq];omega
 rw[if_neg y]at hS
 refine rx (nd2 @eQ2 (nd2 @eQ6 @eQ1)) ?_
 refine⟨by omega,by omega,by omega,by unfold big;omega,fun b hb=>?_⟩
 simp only[Zum]
 refine rg ?_
 refine Zb (fr (d.msgs.length) (fun a Q=>∀deps:List Int,deps.length=a→a≤d.msgs.length→Zbh d=KQ d a (d.msgs.drop a) deps→(∀x∈deps,0≤x∧x≤16)→(∀j,j<a→ZjL d j)→Q [(1,.loc 1 0),(2,.loc 2 0),(4,.d (.msl b 0 d.msgs.length d.msgs.length 1)),(5,.d (.int .i64 a))] [(1,d.cells),(2,[.int .i64 0,.int .i64 0,.int .i64 0])] (st.upd b (.cells (QY (deps++List.replicate (d.msgs.length-a) 0))))) (fun n ae=>?_) fun a0=>?_)
 ·intro a hn deps ab ha t au aw
  refine rx (nd2 @eQ2 (nd2 @eQ6 @eQ1)) ?_
  refine cd (fun h3=>?_) (fun h3=>?_)
  ·simp at h3
   have ak:d.msgs.drop a=d.msgs.getD a dE::d.msgs.drop (a+1):=Wt h3
   have a3:=(a5 _ (Zy h3)).nfields
   unfold big at a3
   have hF:=WG.eq_1 d a (d.msgs.getD a dE)
   rw[ak,KQ]at t
   generalize hm:d.msgs.getD a dE=m at *
   refine xA (nd2 @eQ2 (nd2 @eQ3 (nd2 @eQ6 (nd2 @eQ1 @hm)))) ?_
   refine rx @eQ3 ?_
   refine cl (Zbn m.name) ?_
   refine cd (fun h4=>?_) (fun h4=>?_)
   ·rw[if_pos (by simpa using h4)]at hF
    rw[hF]at t
    refine rg ?_
    refine rt v ?_
    rw[t];rfl
   rw[if_neg (by simpa using h4)]at hF
   refine rx (nd2 @eQ2 @eQ3) ?_
   have c9:=WN d m.name a (by omega)
   refine cl (c9) ?_
   refine cd (fun h5=>?_) (fun h5=>?_)
   ·rw[if_pos (by simpa using h5)]at hF
    rw[hF]at t
    refine rg ?_
    refine rt v ?_
    rw[t];rfl
   rw[if_neg (by simpa using h5)]at hF
   refine rx (nd2 @eQ3 (nd2 @eQ4 @eQ1)) ?_
   refine cd (fun h6=>?_) (fun h6=>?_)
   ·have y:(dC (m.fields.length<1) ||decide (40<m.fields.length))=true:=by
     rw[ZFb,decide_eq_true_eq,decide_eq_true_eq]at h6⊢;omega
    rw[if_pos y]at hF
    rw[hF]at t
    refine rg ?_
    refine rt v ?_
    rw[t];rfl
   rw[Bool.or_eq_false_iff,decide_eq_false_iff_not,decide_eq_false_iff_not]at h6
   have y:¬(dC (m.fields.length<1) ||decide (40<m.fields.length))=true:=by
    rw[ZFb,decide_eq_true_eq,decide_eq_true_eq];omega
   rw[if_neg y]at hF
   refine rx (nd2 @eQ3 (nd2 @eQ4 @eQ1)) ?_
   refine Zb (fr (m.fields.length) (fun i Q=>i≤m.fields.length→WG d a m=Ys d a m i (m.fields.drop i)→Q [(1,.loc 1 0),(2,.loc 2 0),(4,.d (.msl b 0 d.msgs.length d.msgs.length 1)),(5,.d (.int .i64 a)),(6,.loc 6 0),(7,.d (.int .i64 i))] [(1,d.cells),(2,[.int .i64 0,.int .i64 0,.int .i64 0]),(6,m.cells)] (st.upd b (.cells (QY (deps++List.replicate (d.msgs.length-a) 0))))) (fun n ad=>?_) fun av=>?_)
   ·intro i hni hi hF
    refine rx (nd2 @eQ3 (nd2 @eQ4 @eQ1)) ?_
    refine cd (fun h7=>?_) (fun h7=>?_)
    ·simp at h7
     rw[Wt h7,Ys]at hF
     refine rx (nd2 @eQ2 (nd2 @eQ3 (nd2 @eQ6 (nd2 @eQ4 @eQ1)))) ?_
     have c9:=ZrZ d a i m (m.fields.getD i dE) h3 hm h7 rfl (by omega) aw
     refine cl (c9) ?_
     generalize hc:WI d a m i (m.fields.getD i dE)=c at *
     refine rg ?_
     refine cd (fun h8=>?_) (fun h8=>?_)
     ·simp only[decide_not,Bool.not_eq_true',decide_eq_false_iff_not]at h8
      rw[if_neg h8]at hF
      rw[hF]at t
      refine rg ?_
      refine rt v ?_
      rw[t];rfl
     simp only[decide_not,Bool.not_eq_false',decide_eq_true_eq]at h8
     rw[if_pos h8]at hF
     refine gA ?_
     refine Za ?_
     exact ad ((m.fields.length)-(i+1)) (by omega) (i+1) rfl (by omega) hF
    simp at h7
    obtain rfl:i=m.fields.length:=by omega
    rw[List.drop_length,Ys]at hF
    have al:=Zr9 hm hF
    have aj:=al.ref
    have ai:=al.few
    rw[hm]at aj ai
    rw[hF]at t
    simp only at t
    have ar:∀j,j<a+1→ZjL d j:=fun j hj=>by
     rcases Nat.lt_or_eq_of_le (Nat.le_of_lt_succ hj) with h|rfl
     ·exact aw j h
     exact al
    have ap:=Qg (m.fields.flatMap Z5) []
    rw[show(m.fields.flatMap Z5).foldl QW []=Y1 m from rfl]at ap
    simp only[List.length_nil,Nat.zero_add]at ap
    refine rx @eQ3 ?_
    refine cl (ZhH m ai) ?_
    have hD:Zdm d a deps m=ZaI d a deps 0 (Y1 m)+1:=rfl
    generalize hrs:Y1 m=rs at *
    have aq:List.replicate (d.msgs.length-a) (0:Int)=0::List.replicate (d.msgs.length-(a+1)) 0:=by
     rw[show d.msgs.length-a=(d.msgs.length-(a+1))+1 by omega,List.replicate_succ]
    rw[aq]
    generalize hz:List.replicate (d.msgs.length-(a+1)) (0:Int)=z
    have hzl:z.length=d.msgs.length-(a+1):=by rw[←hz,List.length_replicate]
    refine rg ?_
    refine Zb ?_
    refine fr (rs.length) (fun q Q=>q≤rs.length→Q [(1,.loc 1 0),(2,.loc 2 0),(4,.d (.msl b 0 d.msgs.length d.msgs.length 1)),(5,.d (.int .i64 a)),(9,.d (WB rs)),(10,.d (.int .i64 q))] [(1,d.cells),(2,[.int .i64 0,.int .i64 0,.int .i64 0])] (st.upd b (.cells (QY (deps++ZaI d a deps 0 (rs.take q)::z))))) (fun n ac=>?_) fun ao=>?_
    ·intro q hnq hq
     refine rx (nd2 @WB.eq_1 @eQ1) ?_
     refine cd (fun h9=>?_) (fun h9=>?_)
     ·simp at h9
      have a4:=aj _ (Zy h9)
      have a7:Zn d (rs.getD q dE) a<a:=by
       have:=Y2 (fun m:Msg=>dC (m.name=rs.getD q dE)) (d.msgs.take a)
       rw[ZE9]at this;unfold Zn;omega
      have a6:=Zsz (d:=d) (at_:=a) (deps:=deps) (b:=0) h9
      generalize ZaI d a deps 0 (rs.take q)=X at *
      have ah:(QY (deps++X::z))[a]?=sO (.int .i64 X):=by
       rw[ZgX (by simp;omega),ZfM ab]
      have ag:(QY (deps++X::z)).length=d.msgs.length:=by
       rw[ZfJ];simp;omega
      have a8:(Zn d (rs.getD q dE) a).toNat<deps.length:=by rw[ab];generalize Zn d (rs.getD q dE) a=u at a4 a7⊢;omega
      have a9:(QY (deps++X::z))[(Zn d (rs.getD q dE) a).toNat]?=sO (.int .i64 (deps.getD (Zn d (rs.getD q dE) a).toNat dE)):=by
       rw[ZgX (by rw[ZE1];omega),ZpP a8]
      refine xA (nd2 @eQ2 (nd2 @eQ6 (nd2 @WB.eq_1 (nd2 @eQ1 (nd2 @ah (nd2 @ag (nd2 @ZEZ (nd2 @ZFd @Nat.mul_one)))))))) ?_
      have c9:=WN d (rs.getD q dE) a (by omega)
      refine cXD (nd2 @a9 (nd2 @ag (nd2 @ah (nd2 @ZEZ (nd2 @ZFd @Nat.mul_one))))) (c9) ?_
      refine aa ?_
      rw[Zq5 (by rw[ZE1,ZE5];omega),Znb ab,←a6]
      refine gA ?_
      refine Za ?_
      exact ac ((rs.length)-(q+1)) (by omega) (q+1) rfl (by omega)
     simp at h9
     obtain rfl:q=rs.length:=by omega
     rw[ZFc]
     have hbd:=Zq6 (d:=d) (at_:=a) au rs (b:=0) (by omega) (by omega)
     rw[hD]at t
     generalize ZaI d a deps 0 rs=X at *
     have ah:(QY (deps++X::z))[a]?=sO (.int .i64 X):=by
      rw[ZgX (by rw[ZE1,ZE5];omega),ZfM ab]
     have ag:(QY (deps++X::z)).length=d.msgs.length:=by
      rw[ZfJ,ZE1,ZE5];omega
     have az:(QY (deps++(X+1)::z))[a]?=sO (.int .i64 (X+1)):=by
      rw[ZgX (by rw[ZE1,ZE5];omega),ZfM ab]
     have ay:(QY (deps++(X+1)::z)).length=d.msgs.length:=by
      rw[ZfJ,ZE1,ZE5];omega
     refine xA (nd2 @ah (nd2 @ag (nd2 @ZEZ (nd2 @ZFd @Nat.mul_one)))) ?_
     rw[Zq5 (by rw[ZE1,ZE5];omega),Znb ab]
     refine xA (nd2 @az (nd2 @ay (nd2 @ZEZ (nd2 @ZFd @Nat.mul_one)))) ?_
     refine cd (fun af=>?_) (fun af=>?_)
     ·rw[if_pos (by simpa using af)]at t
      refine rg ?_
      refine rt v ?_
      rw[t];rfl
     rw[if_neg (by simpa using af)]at t
     simp only[decide_eq_false_iff_not]at af
     refine gA ?_
     have ba:deps++(X+1)::z=(deps++[X+1])++List.replicate (d.msgs.length-(a+1)) 0:=by rw[hz];simp
     rw[ba]
     have ax:∀x∈deps++[X+1],0≤x∧x≤16:=by
      intro x hx
      rcases List.mem_append.1 hx with h|h
      ·exact au x h
      simp at h;omega
     refine Za ?_
     exact ae ((d.msgs.length)-(a+1)) (by omega) (a+1) rfl (deps++[X+1]) (by simp;omega) (by omega) t ax ar
    exact ao _ 0 rfl (by omega)
   exact av _ 0 rfl (by omega) hF
  simp at h3
  obtain rfl:a=d.msgs.length:=by omega
  rw[List.drop_length,KQ]at t
  refine rx (nd2 @eQ2 (nd2 @eQ6 @eQ1)) ?_
  have c9:=WN d d.start d.msgs.length (by omega)
  refine cl (c9) ?_
  refine cd (fun h4=>?_) (fun h4=>?_)
  ·rw[if_pos (by simpa using h4)]at t
   refine rg ?_
   refine rt v ?_
   rw[t];rfl
  rw[if_neg (by simpa using h4)]at t
  refine rg ?_
  refine rt v ?_
  rw[t];rfl
 exact a0 _ 0 rfl [] rfl (by omega) hS (by simp) (by simp)
theorem ZkC{α:Type}[Inhabited α]{p:α→Bool}{l:List α}{n:Nat}(h:0≤Zk p (l.take n)):Zk p l=Zk p (l.take n):=by
 have h1:=Zaa h
 have h2:=Y2 p (l.take n)
 rw[ZE9]at h2
 have h3:=Ke (p:=p) (l:=l) (i:=(Zk p (l.take n)).toNat) (by omega) (by rw[←KJ (n:=n) (by omega)];exact h1.1) (fun j hj=>by rw[←KJ (n:=n) (by omega)];exact h1.2 j hj)
 omega
theorem Zut{d:Dfn}{s:Str}{n:Nat}(h:0≤Zn d s n):Zn d s d.msgs.length=Zn d s n∧Zn d s n<n∧Zn d s n<d.msgs.length:=by
 unfold Zn at *
 have h2:=Y2 (fun m:Msg=>dC (m.name=s)) (d.msgs.take n)
 rw[ZE9]at h2
 refine⟨?_,by omega,by omega⟩
 rw[ZFc];exact ZkC h
theorem ZnO{d:Dfn}{at_:Nat}{l:List Msg}{deps:List Int}(h:KQ d at_ l deps=nO):(∀i,i<l.length→WG d (at_+i) (l.getD i dE)=nO)∧0≤Zn d d.start d.msgs.length:=by
 induction l generalizing at_ deps with
 |nil =>
  simp only[KQ]at h
  split at h
  ·simp at h
  exact⟨fun i hi=>by simp at hi,by omega⟩
 |cons m r ih =>
  simp only[KQ]at h
  split at h
  ·simp at h
  rename_i hm
  split at h
  ·simp at h
  have h1:=ih h
  refine⟨fun i hi=>?_,h1.2⟩
  cases i with
  |zero=>simpa using hm
  |succ i =>
   have:=h1.1 i (by simpa using hi)
   simpa[Nat.add_assoc,Nat.add_comm 1 i]using this
structure KD(d:Dfn):Prop where
 many:d.msgs.length≤60
 start:0≤Zn d d.start d.msgs.length
 flaw:∀i,i<d.msgs.length→WG d i (d.msgs.getD i default)=none
theorem Zjv{d:Dfn}(h:Zbr d=true):KD d:=by
 unfold Zbr Zbh at h
 split at h
 ·simp at h
 split at h
 ·simp at h
 rename_i hc
 simp only[ZFb,decide_eq_true_eq,not_or,Nat.not_lt]at hc
 simp only[Option.isNone_iff_eq_none]at h
 have:=ZnO h
 refine⟨by omega,this.2,fun i hi=>by simpa using this.1 i hi⟩
theorem ZmA{s:Str}(h:Yl s=true):s.length≤32:=by
 unfold Yl at h
 split at h
 ·simp
 simp only[ZEY,decide_eq_true_eq]at h;exact h.1.1
structure Zc1(d:Dfn)(j:Nat)(m:Msg):Prop where
 name:m.name.length≤32
 many:m.fields.length≤40
 field:∀i,i<m.fields.length→WI d j m i (m.fields.getD i default)=0
theorem Zll{d:Dfn}{j:Nat}{m:Msg}{k:Nat}{l:List Fld}(h:Ys d j m k l=nO):∀i,i<l.length→WI d j m (k+i) (l.getD i dE)=0:=by
 induction l generalizing k with
 |nil=>intro i hi;simp at hi
 |cons f r ih =>
  simp only[Ys]at h
  split at h
  ·rename_i hf
   intro i hi
   cases i with
   |zero=>simpa using hf
   |succ i=>have:=ih h i (by simpa using hi);simpa[Nat.add_assoc,Nat.add_comm 1 i]using this
  simp at h
theorem ZxO{d:Dfn}{j:Nat}{m:Msg}(h:WG d j m=nO):Zc1 d j m:=by
 unfold WG at h
 split at h;· simp at h
 rename_i h1
 split at h;· simp at h
 split at h;· simp at h
 rename_i hc
 simp only[ZFb,decide_eq_true_eq,not_or,Nat.not_lt]at hc
 exact⟨ZmA (by simpa using h1),by omega,fun i hi=>by simpa using Zll h i hi⟩
structure Zt4(d:Dfn)(j:Nat)(f:Fld):Prop where
 name:f.name.length≤32
 ref:∀s∈Z5 f,0≤Zn d s d.msgs.length∧Zn d s d.msgs.length<j
 cases:f.cases≠[]→f.kind=9
theorem Ztb{f:Fld}(h1:1≤f.kind)(h2:f.kind≤12)(h:Zde f=true)(hc:f.cases≠[]):f.kind=9:=by
 have hk:f.kind=1∨f.kind=2∨f.kind=3∨f.kind=4∨f.kind=5∨f.kind=6∨f.kind=7∨f.kind=8∨f.kind=9∨f.kind=10∨f.kind=11∨f.kind=12:=by omega
 simp only[Zde,ZEY]at h
 have h3:=h.2.2
 rcases hk with hk|hk|hk|hk|hk|hk|hk|hk|hk|hk|hk|hk<;>rw[hk]at h3⊢<;>simp[zrC,Zeb,Zvn,KR,hc]at h3<;>rfl
theorem Zxt{d:Dfn}{j i:Nat}{m:Msg}{f:Fld}(h:WI d j m i f=0):Zt4 d j f:=by
 have h0:=ZoW h
 unfold WI at h
 split at h;· omega
 rename_i h1
 split at h;· omega
 split at h;· omega
 rename_i hk
 split at h;· omega
 rename_i hz
 simp only[ZFb,decide_eq_true_eq,not_or,Int.not_lt]at hk
 refine⟨ZmA (by simpa using h1),fun s hs=>?_,fun hc=>Ztb (by omega) (by omega) (by simpa using hz) hc⟩
 have h3:=h0.2 s hs
 have h4:=Zut h3
 exact⟨by omega,by omega⟩
theorem KD.msg{d:Dfn}(h:KD d){j:Nat}(hj:j<d.msgs.length):Zc1 d j (d.msgs.getD j dE):=ZxO (h.flaw j hj)
theorem KD.fld{d:Dfn}(h:KD d){j i:Nat}(hj:j<d.msgs.length)(hi:i<(d.msgs.getD j dE).fields.length):Zt4 d j ((d.msgs.getD j dE).fields.getD i dE):=Zxt ((h.msg hj).field i hi)
end Go.DL
namespace Go.DL
open Go
variable {kp:Option (List Nat)}{L:Loc}{ρ:Env}{s:St}{w:World}{os:List DOp}{ds:List D}{B:List (Nat × Rd)}{dst:Option Nat}{tmps:Array Value}{g:G}{Φ:Res→St→Prop}{ν:Nat→Nat}{xs:List Opd}{side:Prop}{row:Nat→List D}
def ixS(d:Dfn)(s:Str):Nat:=(Zn d s d.msgs.length).toNat
open Go.Proofs
def upS(v of:Int):Int:=((v+of)-1).tdiv of*of
theorem ZAs{v of:Int}(hv:-2000≤v∧v≤2000)(ho:1≤of∧of≤1000):(-4000≤((v+of)-1).tdiv of∧((v+of)-1).tdiv of≤4000)∧-5000≤upS v of∧upS v of≤5000:=by
 unfold upS
 have h1:=Int.mul_tdiv_add_tmod (v+of-1) of
 have h2:=Int.tmod_lt_of_pos (v+of-1) (show 0<of by omega)
 have h3:=Int.lt_tmod_of_pos (v+of-1) (show 0<of by omega)
 rw[Int.mul_comm]at h1
 generalize (v+of-1).tmod of=r at *
 generalize (v+of-1).tdiv of=q at *
 have h4:-4000≤q*of∧q*of≤4000:=by omega
 refine⟨?_,by omega⟩
 rcases Int.lt_trichotomy q 0 with hq|hq|hq
 ·have:=Int.mul_le_mul_of_nonneg_left (show(1:Int)≤of by omega) (show 0≤-q by omega)
  simp only[Int.neg_mul,Int.mul_one]at this
  omega
 ·omega
 have:=Int.mul_le_mul_of_nonneg_left (show(1:Int)≤of by omega) (show 0≤q by omega)
 omega
theorem Zsw{v of:Int}(hv:-2000≤v∧v≤2000)(ho:1≤of∧of≤1000):Zc ZEQ 99 [.int .i64 v,.int .i64 of] (.int .i64 (upS v of)):=by
 have hb:=ZAs hv ho
 have he:((v+of)-1).tdiv of*of=upS v of:=rfl
 refine Ze (cR 99 f99) fun F st c=>?_
 refine gG ?_
 generalize ((v+of)-1).tdiv of=q at *
 rw[he]
 generalize upS v of=u at *
 refine aa ?_
 refine ri c ?_
 rfl
structure Zf6(f:Fld):Prop where
 num:f.kind=1∨f.kind=2→-1000≤f.bits∧f.bits≤1000
 pad:f.kind=10→1≤f.bits∧f.bits≤1000
def J1(f:Fld)(o:Int):Int:=if f.kind=1∨f.kind=2 then (o+f.bits).tmod 8 else if f.kind=10 then (upS o f.bits).tmod 8 else 0
def YP(l:List Fld):Nat→Int
 |0=>0
 |i+1=>J1 (l.getD i dE) (YP l i)
theorem ZxQ(f:Fld)(o:Int):-8<J1 f o∧J1 f o<8:=by
 have h:∀x:Int,-8<x.tmod 8∧x.tmod 8<8:=fun x=>⟨Int.lt_tmod_of_pos x (by decide),Int.tmod_lt_of_pos x (by decide)⟩
 unfold J1
 split
 ·exact h _
 split
 ·exact h _
 omega
theorem Zn5(l:List Fld)(i:Nat):-8<YP l i∧YP l i<8:=by
 cases i with
 |zero=>simp[YP]
 |succ i=>exact ZxQ _ _
theorem Zk9(f:Fld){o:Int}(ho:-2000≤o∧o≤2000)(hb:-1000≤f.bits∧f.bits≤1000):Zc ZEQ 221 [.agg f.cells,.int .i64 o] (.int .i64 (o+f.bits)):=by
 refine Ze (cR 221 f221) fun F st c=>?_
 refine rx @eQ0 ?_
 refine xA @eQ0 ?_
 refine ri c ?_
 rfl
theorem Zla(f:Fld){o:Int}(ho:-2000≤o∧o≤2000)(hb:1≤f.bits∧f.bits≤1000):Zc ZEQ 222 [.agg f.cells,.int .i64 o] (.int .i64 (upS o f.bits)):=by
 refine Ze (cR 222 f222) fun F st c=>?_
 refine rx @eQ0 ?_
 refine rx @eQ0 ?_
 refine cl (Zsw ho hb) ?_
 refine ri c ?_
 rfl
def Zqz:List (D×D):=[(.int .i64 1,.fn (.func 221) [] []),(.int .i64 2,.fn (.func 221) [] []),(.int .i64 10,.fn (.func 222) [] [])]
theorem Zgb(st:St):Zf ZEQ 173 [] st fun r S=>∃b,st b=nO∧r=.ret (.map b)∧S=st.upd b (.map Zqz):=by
 refine Zh (cR 173 f173) fun F hF=>?_
 refine gG ?_
 refine rh ?_
 refine Zm ?_
 simp only[Eqs,reduceCtorEq,ZEV,reduceIte,ZET,ZEX,ZEU,J5,Kn,Yo,ZEZ,ZFd,Yt,Yu,decide_false,ZFy,ite_false]
 intro b hb
 exact hF.ret _ _ rfl (by trivial) (ZEW _) (ZES _) ⟨b,hb,rfl,rfl⟩
def Zc5(k:Int):Bool:=dC (k=1) ||(dC (k=2) ||decide (k=10))
def Zd0(k:Int):D:=if k=1 then .fn (.func 221) [] [] else if k=2 then .fn (.func 221) [] [] else if k=10 then .fn (.func 222) [] [] else .nilfn
theorem Zmn(k:Int):Zbv (.sc .int) (.int .i64 k) Zqz=sO (if Zc5 k then sO (Zd0 k) else nO):=by
 simp only[Zqz,Zbv,Kn,Yo,if_true,Zc5,Zd0]
 by_cases h1:k=1
 ·simp[h1]
 by_cases h2:k=2
 ·simp[h2]
 by_cases h3:k=10
 ·simp[h3]
 simp[h1,h2,h3]
theorem Zpc(k:Int):Wl .nilfn true (if Zc5 k=true then sO (Zd0 k) else nO)=.tup [Zd0 k,.bool (Zc5 k)]:=by
 unfold Zc5 Zd0
 by_cases h1:k=1
 ·simp[h1,Wl]
 by_cases h2:k=2
 ·simp[h2,Wl]
 by_cases h3:k=10
 ·simp[h3,Wl]
 simp[h1,h2,h3,Wl]
def ZaO(f:Fld):Bool:=!Zc5 f.kind ||f.little
theorem ZnH(f:Fld)(st:St):ZS ZEQ 175 [.agg f.cells] st (.bool (ZaO f)) st:=by
 refine ZK (cR 175 f175) fun j F c=>?_
 clear j
 refine rx @eQ0 ?_
 refine rx @eQ0 ?_
 refine cVD (Zgb _) ?_ ?_
 ·rintro d S ⟨b,hb,hd,rfl⟩
  cases hd
  refine⟨by simp[Wg,KS,YX,Zal],?_⟩
  have i:=Zmn f.kind
  refine gQ (nd2 @i (nd2 @ZEZ @Zpc)) ?_
  refine rx @eQ0 ?_
  exact c rfl (by trivial) (by unfold ZaO;cases Zc5 f.kind<;>exact ZEW _) (ZFi _ hb)
 rintro d S ⟨b,hb,hd,_⟩
 cases hd
def ZuQ(l:List Fld)(j:Nat):List D:=[.int .i64 j,.int .i64 (YP l j)]
theorem Zdi(l:List Fld)(hl:l.length≤1000)(hb:∀f∈l,Zf6 f)(x:Nat):ZcC ZEQ (.fn (.func 172) [] [.ptr x 0]) (l.length+1) (ZuQ l) (ZFj x (.cells [Zo l])):=by
 intro y go A a0 aj hA hd
 refine Zf.V (first:=[]) (args:=[y]) (caps:=[.ptr x 0]) (Zh (cR 172 f172) fun F hF=>?_)
 have hx:∀a,Yb a (ZFj x (.cells [Zo l]))→(a.or (ZFj x (.cells [Zo l]))) x=sO (.cells [Zo l]):=fun a ap=>by
  rw[ZG (ap x _ (YC _ _)),YC]
 generalize hT:ZFj x (.cells [Zo l])=T at *
 refine rg ?_
 refine rh ?_
 refine Zm ?_
 simp only[Eqs,reduceCtorEq,ZEV,reduceIte,ZET,ZEX,ZEU,hx a0 hd,Zo,slD]
 refine Zb (fr (l.length) (fun j Q=>∀a,A j a→Yb a T→(∀i,i<j→go i=.next)→j≤l.length→Q [(0,.d y),(1,.d (.ptr x 0)),(3,.d (.int .i64 (YP l j))),(8,.d (Zo l)),(9,.d (.int .i64 l.length)),(10,.d (.int .i64 j))] [] (a.or T)) (fun n ab=>?_) fun am=>?_)
 ·clear hA hd
  intro j hn a hA hd z hj
  refine rg ?_
  have ac:=(aj j (by omega) z a hA).frame hd
  unfold ZuQ at ac
  have ho:=Zn5 l j
  refine Zd (Zs rfl trivial (fun h1=>?_) (fun h1=>?_))
  ·simp at h1
   have al:=hb (l.getD j dE) (by simp[ZE8,h1])
   have ak:YP l (j+1)=J1 (l.getD j dE) (YP l j):=rfl
   generalize hg:l.getD j dE=g at *
   refine xA (nd2 @eQ4 (nd2 @eQ1 (nd2 @hg @eQ0))) ?_
   refine rg ?_
   refine vV (ac) ?_ ?_
   ·rintro d S ⟨s',⟨hr,v⟩,ad,rfl⟩
    cases t:go j with
    |next =>
     rw[t]at hr
     cases hr
     refine gR0 ?_
     refine i0 ?_
     refine rx @eQ0 ?_
     refine cVD (Zgb _) ?_ ?_
     ·rintro d S ⟨b,ae,ai,rfl⟩
      cases ai
      have ao:=Zmn g.kind
      refine⟨by simp[Wg,KS,YX,Zal],?_⟩
      refine gQ (nd2 @ao (nd2 @ZEZ @Zpc)) ?_
      refine rg ?_
      have h8:=Zn5 l (j+1)
      refine cd (fun hk=>?_) (fun hk=>?_)
      ·by_cases ag:g.kind=10
       ·have af:Zd0 g.kind=.fn (.func 222) [] []:=by simp[Zd0,ag]
        have u:(upS (YP l j) g.bits).tmod 8=YP l (j+1):=by rw[ak,J1,if_neg (by omega),if_pos ag]
        rw[←u]at h8
        rw[af]
        refine rx @eQ0 ?_
        refine Zt0 rfl rfl rfl rfl rfl (by trivial) (by trivial) (by exact(Zla g (by omega) (al.pad ag)).VT (first:=[]) (args:=[_,_]) (caps:=[]) _) (Zm ?_)
        simp only[Eqs,reduceCtorEq,ZEV,reduceIte,ZET,ZEX,ZEU]
        refine aa ?_
        rw[u]
        refine gA ?_
        refine QF (ZFi _ ae) ?_
        refine Za ?_
        exact ab ((l.length)-(j+1)) (by omega) (j+1) rfl s' v ad (ZX (q:=fun i=>go i=.next) z t) (by omega)
       have ah:g.kind=1∨g.kind=2:=by
        simp only[Zc5,ZFb,decide_eq_true_eq]at hk;omega
       have af:Zd0 g.kind=.fn (.func 221) [] []:=by rcases ah with h|h<;>simp[Zd0,h]
       have u:(YP l j+g.bits).tmod 8=YP l (j+1):=by rw[ak,J1,if_pos ah]
       rw[←u]at h8
       rw[af]
       refine rx @eQ0 ?_
       refine Zt0 rfl rfl rfl rfl rfl (by trivial) (by trivial) (by exact(Zk9 g (by omega) (al.num ah)).VT (first:=[]) (args:=[_,_]) (caps:=[]) _) (Zm ?_)
       simp only[Eqs,reduceCtorEq,ZEV,reduceIte,ZET,ZEX,ZEU]
       refine aa ?_
       rw[u]
       refine gA ?_
       refine QF (ZFi _ ae) ?_
       refine Za ?_
       exact ab ((l.length)-(j+1)) (by omega) (j+1) rfl s' v ad (ZX (q:=fun i=>go i=.next) z t) (by omega)
      have u:(0:Int)=YP l (j+1):=by
       simp only[Zc5,Bool.or_eq_false_iff,decide_eq_false_iff_not]at hk
       rw[ak,J1,if_neg (by omega),if_neg (by omega)]
      refine rg ?_
      refine gA ?_
      rw[show(D.int IntKind.i64 0)=.int .i64 (YP l (j+1)) by rw[←u]]
      refine QF (ZFi _ ae) ?_
      refine Za ?_
      exact ab ((l.length)-(j+1)) (by omega) (j+1) rfl s' v ad (ZX (q:=fun i=>go i=.next) z t) (by omega)
     rintro d S ⟨b,ae,ai,_⟩
     cases ai
    |stop c =>
     rw[t]at hr
     cases hr
     refine gR0 ?_
     refine i1 ?_
     exact hF.ret (.tup []) _ rfl trivial (ZEW _) (ZES _) ⟨s',.stop j c (by omega) z t v,Ky _ _⟩
    |pan d=>rw[t]at hr;cases hr
   rintro d S ⟨s',⟨hr,v⟩,ad,rfl⟩
   cases t:go j with
   |pan d' =>
    rw[t]at hr
    cases hr
    exact hF.pan _ (ZES _) ⟨s',.pan j d (by omega) z t v,Ky _ _⟩
   |next=>rw[t]at hr;cases hr
   |stop c=>rw[t]at hr;cases hr
  simp at h1
  obtain rfl:j=l.length:=by omega
  refine rh ?_
  refine Zm ?_
  simp only[Eqs,reduceCtorEq,ZEV,reduceIte,ZET,ZEX,ZEU,hx a hd,Zo,slD]
  refine vV (ac) ?_ ?_
  ·rintro d S ⟨s',⟨hr,v⟩,ad,rfl⟩
   cases t:go l.length with
   |next =>
    rw[t]at hr
    cases hr
    refine gR0 ?_
    exact hF.fin (.tup []) _ rfl trivial (ZEW _) (ZES _) ⟨s',.all (ZX (q:=fun i=>go i=.next) z t) v,Ky _ _⟩
   |stop c =>
    rw[t]at hr
    cases hr
    refine gR0 ?_
    exact hF.fin (.tup []) _ rfl trivial (ZEW _) (ZES _) ⟨s',.stop l.length c (by omega) z t v,Ky _ _⟩
   |pan d=>rw[t]at hr;cases hr
  rintro d S ⟨s',⟨hr,v⟩,ad,rfl⟩
  cases t:go l.length with
  |pan d' =>
   rw[t]at hr
   cases hr
   exact hF.pan _ (ZES _) ⟨s',.pan l.length d (by omega) z t v,Ky _ _⟩
  |next=>rw[t]at hr;cases hr
  |stop c=>rw[t]at hr;cases hr
 exact am _ 0 rfl a0 hA hd (by intro i hi;omega) (by omega)
theorem Zel(l:List Fld)(st:St):Zf ZEQ 130 [Zo l] st fun r S=>∃x,st x=nO∧r=.ret (.fn (.func 172) [] [.ptr x 0])∧S=st.or (ZFj x (.cells [Zo l])):=by
 refine Zh (cR 130 f130) fun F hF=>?_
 refine rx (nd2 @eQ4 @eQ1) ?_
 refine Zd ?_
 refine xP 1 fun x hx=>?_
 refine rg ?_
 exact hF.ret _ _ rfl (by trivial) (ZEW _) (ZES _) ⟨x,hx,rfl,Qj hx⟩
theorem Zsv(l:List Fld)(hl:l.length≤1000)(hb:∀f∈l,Zf6 f)(k:Nat)(hk:k≤l.length)(st:St):ZS ZEQ 178 [Zo l,.int .i64 k] st (.int .i64 (YP l k)) st:=by
 refine Zh (cR 178 f178) fun F hF=>?_
 refine rx (nd2 @eQ4 @eQ1) ?_
 refine rg ?_
 rw[show(D.sl .none l.length 15 fun i=>(l.getD i dE).cells)=Zo l from rfl]
 refine cV (Zel l st) ?_ ?_
 ·rintro d S ⟨x,hx,hd,rfl⟩
  cases hd
  refine gR0 ?_
  refine Zb ?_
  refine xP 3 fun z3 h3=>?_
  refine xP 4 fun z4 h4=>?_
  have ai:z3≠x:=fun e=>by subst e;rw[ZG hx,YC]at h3;simp at h3
  have aj:st z3=nO:=by
   cases h:st z3 with
   |none=>rfl
   |some o=>rw[Zq h]at h3;simp at h3
  have k4:=Zw h4
  have ah:z4≠x:=fun e=>by subst e;have:=k4.2;rw[ZG hx,YC]at this;simp at this
  have ag:st z4=nO:=by
   cases h:st z4 with
   |none=>rfl
   |some o=>have:=k4.2;rw[Zq h]at this;simp at this
  have hA:∀v,∃A:St,A=(st.upd z3 (.cells [.int .i64 k])).upd z4 (.cells [.int .i64 v])∧A z3=sO (.cells [.int .i64 k])∧A z4=sO (.cells [.int .i64 v])∧st.sub A∧A x=nO:=fun v=>by
   refine⟨_,rfl,by rw[ZE0 _ _ (Ne.symm k4.1)];exact ZEZ _ _ _,ZEZ _ _ _,ZFx (ZFi _ aj) (ZFi _ (by rw[ZE0 _ _ k4.1];exact ag)),?_⟩
   rw[ZE0 _ _ (Ne.symm ah),ZE0 _ _ (Ne.symm ai)];exact hx
  obtain⟨A0,e0,g3,g4,hsub0,ak⟩:=hA 0
  obtain⟨A1,e1,g3',al,y,hx1⟩:=hA (YP l k)
  have af:A0.upd z4 (.cells [.int .i64 (YP l k)])=A1:=by rw[e0,e1,ZFd]
  have ac:(((st.or (ZFj x (.cells [Zo l]))).upd z3 (.cells [.int .i64 k])).upd z4 (.cells [.int .i64 0]))=A0.or (ZFj x (.cells [Zo l])):=by
   rw[e0]
   funext c
   by_cases c4:c=z4
   ·subst c4;rw[ZEZ,Zq (ZEZ _ _ _)]
   rw[ZE0 _ _ c4]
   by_cases c3:c=z3
   ·subst c3;rw[ZEZ,Zq (by rw[ZE0 _ _ c4];exact ZEZ _ _ _)]
   rw[ZE0 _ _ c3]
   show(match st c with|some o=>sO o|none=>_)=match ((st.upd z3 _).upd z4 _) c with|some o=>sO o|none=>_
   rw[ZE0 _ _ c4,ZE0 _ _ c3]
  rw[ac]
  clear ac hA
  refine KK hF rfl trivial [3,4] (by show([3,4]:List Nat).Nodup;decide) (W1 ak) (Zdi l hl hb x).Y (fun j hj=>rfl)
   (fun j=>if j=k then .stop .ret else .next) (fun j a=>(j≤k∧a=A0)∨(k<j∧a=A1)) (.inl ⟨Nat.zero_le _,rfl⟩) ?_ ?_ ?_ ?_ ?_ ?_
  ·intro j a hj u hB F' ready busy hdr ad t
   have hjk:j≤k:=by
    refine Nat.le_of_not_lt fun h=>?_
    have:=u k h
    simp at this
   rcases hB with ⟨_,rfl⟩|⟨h,_⟩
   ·skip
    simp only[Eqs,reduceCtorEq,ZEV,reduceIte,ZET,ZEX,ZEU,WP,Kb,Jh,Ko,List.isEmpty_nil,List.isEmpty_cons,ZuQ]
    refine gG ?_
    refine ad fun ab=>?_
    refine rh ?_
    refine Zm ?_
    simp only[Eqs,reduceCtorEq,ZEV,reduceIte,ZET,ZEX,ZEU,Zq g3]
    refine cd (fun hc=>?_) (fun hc=>?_)
    ·have z:j=k:=by simp at hc;omega
     subst z
     rw[if_pos rfl]at t
     refine rh ?_
     refine Zm ?_
     simp only[Eqs,reduceCtorEq,ZEV,reduceIte,ZET,ZEX,ZEU,Zq g4,W5]
     rw[af]
     exact t.ret ⟨rfl,.inr ⟨by omega,rfl⟩⟩ (fun b o ae=>by rw[←af,ZE0 _ _ (fun e=>by subst e;rw[ab _ o ae]at g4;simp at g4)];exact ab b o ae) (ZES _)
    have z:j≠k:=by simp at hc;omega
    rw[if_neg z]at t
    refine Zv (Zj ?_)
    exact t.fin ⟨rfl,.inl ⟨by omega,rfl⟩⟩ ab (ZES _)
   omega
  ·intro q a u hB hq
   have:=u k (by omega)
   simp at this
  ·intro q a m hm u n hB hq
   have am:m=k:=by
    split at n
    ·assumption
    simp at n
   subst am
   rcases hB with ⟨h,_⟩|⟨_,rfl⟩
   ·omega
   rw[Qj hq]
   exact hF.ret1 hq (.int .i64 (YP l m)) st (by simp only[Eqs,reduceCtorEq,ZEV,reduceIte,ZET,ZEX,ZEU,YI,Kp,al];rfl) (by trivial) (ZEW _) y ⟨rfl,rfl⟩
  ·intro q a m id hm u n
   split at n<;>simp at n
  ·intro q a m d hm u n
   split at n<;>simp at n
  intro m c n
  split at n<;>simp at n
  exact .inl n.symm
 rintro d S ⟨x,hx,hd,_⟩
 cases hd
def Kl(l:List Fld)(i:Nat):Bool:=if i=l.length then !dC (YP l i=0) else !(dC (YP l i=0)||!ZaO (l.getD i dE))||!(!dC ((l.getD i dE).kind=11) ||decide (YP l (max (Zk (fun x=>dC (x.name=(l.getD i dE).from_)) l) 0).toNat=0))
theorem Zlb{st:St}{a c:Nat}{o:Int}{f:Fld}(ha:st a=sO (.cells [.int .i64 o]))(hc:st c=sO (.cells f.cells)):ZS ZEQ 174 [.ptr a 0,.ptr c 0] st (.bool (dC (o=0)||!ZaO f)) st:=by
 refine ZK (cR 174 f174) fun j F i=>?_
 clear j
 by_cases h0:o=0
 ·subst h0
  refine rg ?_
  refine rx (nd2 @ha @hc) ?_
  refine Q1 rfl (e:=.d (.bool false)) (Zm ?_)
  simp only[Eqs,reduceCtorEq,ZEV,reduceIte,ZET,ZEX,ZEU]
  exact i rfl (by simp) (ZEW _) (ZES _)
 have h1:dC (o=0)=false:=decide_eq_false h0
 rw[h1,Bool.false_or]at i
 refine rg ?_
 refine rx (nd2 @ha (nd2 @hc (nd2 @h1 @eQ0))) ?_
 refine ZaA rfl rfl rfl rfl rfl (by trivial) (by trivial) (by exact ZnH f _) (Zm ?_)
 simp only[Eqs,reduceCtorEq,ZEV,reduceIte,ZET,ZEX,ZEU]
 exact i rfl (by simp) (by cases ZaO f<;>exact ZEW _) (ZES _)
theorem okF(l:List Fld):W4 (Zo l)=true:=rfl
theorem ceF(l:List Fld):cellsOf (Zo l)=[Zo l]:=rfl
theorem Zlc{st:St}{a c:Nat}{l:List Fld}(hl:l.length≤1000)(hb:∀f∈l,Zf6 f){f:Fld}(ha:st a=sO (.cells [Zo l]))(hc:st c=sO (.cells f.cells))(hpos:0<l.length):
  ZS ZEQ 176 [.ptr a 0,.ptr c 0] st (.bool (!dC (f.kind=11) ||decide (YP l (max (Zk (fun x=>dC (x.name=f.from_)) l) 0).toNat=0))) st:=by
 refine ZK (cR 176 f176) fun n F i=>?_
 clear n
 have hq1:=Y2 (fun x=>dC (x.name=f.from_)) l
 have hq0:=Qy (fun x:Fld=>dC (x.name=f.from_)) l
 have j:D.agg [.str [],Zo l]=.agg (Msg.mk [] l).cells:=rfl
 refine rg ?_
 refine rx (nd2 @ha (nd2 @hc (nd2 @eQ0 (nd2 @okF @ceF)))) ?_
 rw[j]
 refine cl (Zcq ⟨[],l⟩ f.from_) ?_
 obtain⟨q,hq⟩:∃q:Nat,max (Zk (fun x=>dC (x.name=f.from_)) l) 0=q:=⟨(max (Zk (fun x=>dC (x.name=f.from_)) l) 0).toNat,by omega⟩
 simp only[hq,Int.toNat_natCast]at i⊢
 by_cases h0:f.kind=11
 ·have h1:dC (f.kind=11)=true:=decide_eq_true h0
  rw[h1,Bool.not_true,Bool.false_or]at i
  refine rx (nd2 @ha (nd2 @hc (nd2 @eQ0 @h1))) ?_
  refine ZaA rfl rfl rfl rfl rfl (by trivial) (by trivial) (by exact Zsv l hl hb q (by omega) _) (Zm ?_)
  simp only[Eqs,reduceCtorEq,ZEV,reduceIte,ZET,ZEX,ZEU]
  exact i rfl (by simp) (ZEW _) (ZES _)
 have h1:dC (f.kind=11)=false:=decide_eq_false h0
 rw[h1,Bool.not_false,Bool.true_or]at i
 refine rx (nd2 @ha (nd2 @hc (nd2 @eQ0 @h1))) ?_
 refine Q1 rfl (e:=.d (.int .i64 0)) (Zm ?_)
 simp only[Eqs,reduceCtorEq,ZEV,reduceIte,ZET,ZEX,ZEU]
 exact i rfl (by simp) (ZEW _) (ZES _)
theorem Zem{c:D}{v:Bool}{st:St}(h:VT ZEQ c [] st (.bool v) st):ZS ZEQ 180 [c] st (.bool (!v)) st:=by
 refine ZK (cR 180 f180) fun j F i=>?_
 clear j
 refine gG ?_
 refine cW (h) ?_
 exact i rfl (by trivial) (ZEW _) (ZES _)
end Go.DL
