/- Lemmas: DlZX, DlZY, DlAc, DlAd, Tab0, DlAg, Api, DlAe, DlAf, R04a, Lst, R04b, Iv, R04d, R04e, R05a, R05b, R05c, R05d, R05e, R05f, R05g, R05h, R05i, R05j, R05k, Own, S00, S01, S02, Val, W01, W02, W03, Maps, S03, S04, S05, S06, S10, S11, R43d, U01, A01, A02, A03, S12, S13, S14, S15, S16, S17, S18, S19, S20, S21. -/
import Derived.Test.YtmdaecbcadpmcaaGreatDoorT02
set_option maxHeartbeats 16000000
set_option maxRecDepth 100000
set_option linter.all false
open Option renaming some → sO, none → nO
open Inhabited renaming default → dE
open Decidable renaming decide → dC
open Go.Proofs.Tryz
open And renaming intro → ZDX
open Bool renaming and_eq_false_iff → ZEF, and_eq_true → ZD5, false_and → ZEu, false_eq_true → ZEq, or_eq_true → ZEk, true_and → ZEm
open Go.DL.D.Le renaming refl → ZDZ
open Go.DL.St renaming single → ZEn, sub_refl → ZDY, sub_trans → ZED, sub_upd → ZEl, upd → ZEv, upd_ne → ZD6, upd_same → ZD4, upd_upd → ZEj
open Go.Proofs.Tryz renaming prog → ZDW
open Int renaming reduceToNat → ZD2
open List renaming append_assoc → ZEA, append_nil → ZEw, getD → ZEb, getElem?_append_left → ZEt, getElem?_append_right → ZEH, getElem?_eq_getElem → ZEr, getElem?_eq_none → ZEG, getElem?_take → ZEC, getElem_of_mem → ZEe, length_append → ZD8, length_cons → ZEf, length_drop → ZEx, length_take → ZEh, map_cons → ZEc, map_nil → ZEs, mem_cons → ZEz, range → ZEa, take_length → ZEy
open Nat renaming add_mul → ZEo, le_refl → ZEd, mul_le_mul_right → ZEi, reduceAdd → ZD3, reduceEqDiff → ZD0, reduceLeDiff → ZD1
open Option renaming getD_some → ZEB, map_eq_some_iff → ZD9
open Option.some renaming injEq → ZDV
namespace Go.DL
open Go
variable [Zqj]
variable {kp:Option (List Nat)}{L:Loc}{ρ:Env}{s:St}{w:World}{os:List DOp}{ds:List D}{B:List (Nat × Rd)}{dst:Option Nat}{tmps:Array Value}{g:G}{Φ:Res→St→Prop}{ν:Nat→Nat}{xs:List Opd}{side:Prop}{row:Nat→List D}
section
variable {P:Program}
theorem Zx0{F:Fr P}{dk:List Zh}{o:DOp}(hg:o.guard=nO){x:Opd}(hk:o.k=.box x){t:Nat}(hdt:o.dst=sO t){p:Prop}{v:D}(ha:ZE ρ true x=sO (p,.d v))(hp:p)(hok:WS v=true)(h:∀b,s b=nO→DO F kp dk os ((t,.d (.ptr b 0))::ρ) L (s.upd b (.cells (cellsOf v)))):DO F kp dk (o::os) ρ L s:=by
 refine Y9 fun oo g ν w tmps ad i r k ac n ak u hd hN m hr ae=>?_;have hw:=Z9 m ak (c:=true) (by rw[hg];rfl);have ai:=Yg n (by rw[hk];rfl);rw[hk]at n;obtain⟨e,x',ag,al⟩:=Zvh n;have j:Rep g w _ v:=Z7 m al rfl ha hp F.ds;generalize af:(Act.mk tmps F.ds).eval x'=vv at j;obtain⟨ah,aj⟩:=Zdi j hok;have ab:=Zgz j hok;have z:=JB (g:=g) (w:=w) (.cells vv.cells e) m.st.fresh;have he:=z.ext m.st.fresh;obtain⟨hn,m'⟩:=m.newObj z (o:=.cells (cellsOf v)) ⟨(m.st.fresh _ (ZEd _)).1,_,e,W0 w _,by rw[ah],fun i v d hv hd=>(aj i v d (by simpa using hv) hd).mono he,ab⟩;refine YE (L':=L) hN ac u hd hw ai (v:=.pointer (sO ⟨w.heap.size,0,nO⟩)) (e:=.d (.ptr w.heap.size 0)) ?_ he m' (Rep.ptr _ _) ?_;simp[execOp,ag,af,Instr.box,newVar,newRow];rw[hdt];exact h _ hn ad r k hr ae
theorem Zu6{F:Fr P}{dk:List Zh}{o:DOp}(hg:o.guard=nO){t:Nat}(hdt:o.dst=sO t){z:List D}(hk:o.k=.alloc z)(h:∀b,s b=nO→DO F kp dk os ((t,.d (.ptr b 0))::ρ) L (s.upd b (.cells z))):DO F kp dk (o::os) ρ L s:=by
 refine Y9 fun oo g ν w tmps ad i r k ac j aj n hd hN m hr af=>?_;have hw:=Z9 m aj (c:=true) (by rw[hg];rfl);have ah:=Yg j (by rw[hk];rfl);rw[hk]at j;obtain⟨T,ag,hz⟩:=ZqE j;obtain⟨v,ai,ab,ae,_⟩:=QH (g:=g) (w:=w) hz;have u:=JB (g:=g) (w:=w) (.cells v.cells T) m.st.fresh;have he:=u.ext m.st.fresh;obtain⟨hn,m'⟩:=m.newObj u (o:=.cells z) ⟨(m.st.fresh _ (ZEd _)).1,_,T,W0 w _,by simpa using ab.len,fun i v d hv hd=>(ab.get i v d (by simpa using hv) hd).mono he,ae⟩;refine YE (L':=L) hN ac n hd hw ah (v:=.pointer (sO ⟨w.heap.size,0,nO⟩)) (e:=.d (.ptr w.heap.size 0)) ?_ he m' (Rep.ptr _ _) ?_;simp[execOp,ag,Instr.alloc,ai,newVar,newRow];rw[hdt];exact h _ hn ad r k hr af
theorem ZeU{b off:Nat}{cs xs:List D}{vs:List Value}(h:YQ g w b cs)(hx:ZJ (Rep g w) vs xs)(ho:∀v∈vs,v.one1=true)(hlen:off+xs.length≤cs.length)(hkp:¬g.kept b):
  ∃w',(storeCells ⟨b,off,nO⟩ vs 0).run P w=.ok () w'∧Ext g w g w'∧w'.heap.size=w.heap.size∧(∀c,c≠b→w'.heap[c]?=w.heap[c]?)∧YQ g w' b (Zt cs off xs):=by
 obtain⟨ab,n,T,hb,z,ae,ac⟩:=h;have af:vs.length=xs.length:=hx.len;have ad:=run_storeCells_at (P:=P) b off T vs 0 n w hb (by simp;omega) (fun x hx=>by rw[ZcD];exact ho x hx);simp only[Nat.add_zero]at ad;have j:ZJ (Rep g w) (n.toList.take off++vs++n.toList.drop (off+vs.length)) (Zt cs off xs):=by have u:ZJ (Rep g w) n.toList cs:=Yf (by simpa using z) (fun i v d hv hd=>ae i v d (by simpa using hv) hd);unfold Zt;rw[←af];exact((u.take off).append hx).append (u.drop _)
 have t:((n.toList.take off++vs++n.toList.drop (off+vs.length)).toArray).size=n.size:=by have:=j.len;simp[Zt]at this⊢;omega
 have he:=Zg0 (g:=g) b hb t ab hkp;refine⟨_,ad,he,by simp[World.setRow],fun c hc=>setRow_other w b c _ hc,ab,_,T,setRow_heap w b n _ T (0,0) hb,by rw[t,z];simp[Zt];omega,
  fun i v d hv hd=>(j.get i v d (by simpa using hv) hd).mono he,fun x hx=>?_⟩
 simp only[List.mem_toArray,List.mem_append]at hx;rcases hx with (hx|hx)|hx;exact ac x (Array.mem_toList_iff.1 (List.mem_of_mem_take hx));exact ho x hx;exact ac x (Array.mem_toList_iff.1 (List.mem_of_mem_drop hx))
theorem ZwU{op:Op}{n:Nat}{z:List D}{x:Opd}(h:ck P op=sO (.clear n z x)):
  ∃ats t e x',op=.call ⟨.builtin .clear,#[x'],ats⟩∧ats[0]?=sO t∧P.underlying t=sO (.slice e)∧ZY P e=sO n∧Zai P e=sO z∧ZZ x'=sO x∧0<n∧z.length=n:=by
 unfold ck at h;split at h;simp at h;split at h<;>(try(simp at h;done));all_goals (try(repeat' (split at h<;>(try(simp at h;done)))))
 rename_i c _ _ u _ _ e x' hu i _ _ _ s z' x2 h1 h2 h3 hc;simp only[ZDV,K.clear.injEq]at h;obtain⟨rfl,rfl,rfl⟩:=h;obtain⟨callee,j,ats⟩:=c;simp only at u hu i;obtain⟨j⟩:=j;simp only at i;subst i;subst u;simp only[Option.bind_eq_some_iff]at hu;obtain⟨t,ht,hu⟩:=hu;simp only[ZD5,decide_eq_true_eq]at hc;exact⟨ats,t,e,x',rfl,ht,hu,h1,h2,h3,hc.1,hc.2⟩
theorem Zk1{F:Fr P}{dk:List Zh}{o:DOp}(hg:Zk ρ o.guard=sO true){z:List D}{x:Opd}{sz b off n cap:Nat}(hk:o.k=.clear sz z x){p:Prop}(ha:ZE ρ true x=sO (p,.d (.msl b off n cap sz)))(hp:p){cs:List D}(hcs:Yc s b=sO cs)(hlen:off+n*sz≤cs.length)(h:DO F kp dk os (Zw ρ o.dst (.d (.tup []))) L (s.upd b (.cells (Zt cs off (KT z n))))):DO F kp dk (o::os) ρ L s:=by
 refine Y9 fun oo g ν w tmps al i r k am ae a0 ah hd hN m hr ao=>?_;have hw:=Z9 m a0 hg;have ax:=Yg ae (by rw[hk];rfl);rw[hk]at ae;obtain⟨ar,t,e,x',au,af,hu,hsz,hz,a6,h0,az⟩:=ZwU ae;obtain⟨zv,av,ag,ap,ie,hie,hzz⟩:=QH (g:=g) (w:=w) hz;have j:zv.cells.size=sz:=by have:=ag.len;simp at this;omega
 have ab:Rep g w _ _:=Z7 m a6 rfl ha hp F.ds;generalize aq:(Act.mk tmps F.ds).eval x'=vv at ab;have aj:s b=sO (.cells cs):=by unfold Yc at hcs;split at hcs<;>simp only[ZDV,reduceCtorEq]at hcs;subst hcs;assumption
 obtain⟨ad,ay⟩:=ZjD (z:=z) (n:=sz) (c:=n) az;have aw:ZJ (Rep g w) (Builtin.zeroCells zv.cells n).toList (KT z n):=by
  refine Yf (by rw[Array.length_toList,size_zeroCells,ad,j]) fun i v d hv hd=>?_;have hi:i<n*sz:=by rw[←ad];exact(List.getElem?_eq_some_iff.1 hd).1
  rw[ay i hi]at hd;have hm:i % sz<sz:=Nat.mod_lt _ h0;simp only[Builtin.zeroCells,Array.toList_map,Array.toList_range,List.getElem?_map,ZD9,j]at hv;obtain⟨a,ha,rfl⟩:=hv;rw[List.getElem?_range hi]at ha;simp only[ZDV]at ha;subst ha;refine ag.get (i % sz) _ d ?_ hd;rw[getElem!_pos zv.cells (i % sz) (by omega)];simp[j,hm]
 have ak:∀v∈(Builtin.zeroCells zv.cells n).toList,v.one1=true:=fun v hv=>by simp only[Builtin.zeroCells,Array.mem_toList_iff,Array.mem_map]at hv;obtain⟨a,_,rfl⟩:=hv;by_cases hs0:zv.cells.size=0;omega;exact ap _ (by rw[getElem!_pos zv.cells _ (Nat.mod_lt _ (by omega))];exact Array.getElem_mem _)
 have u:n=0→Zt cs off (KT z n)=cs:=fun hn=>by subst hn;simp[Zt,KT]
 have ai:∃w',(Builtin.clear_ ar oo.type #[vv]).run P w=.ok (.tuple #[]) w'∧Ext g w g w'∧w'.heap.size=w.heap.size∧(∀c,c≠b→w'.heap[c]?=w.heap[c]?)∧YQ g w' b (Zt cs off (KT z n)):=by
  have ac:=QJ m.st hcs;cases ab with
  |mslx a =>refine⟨w,?_,Ext.refl g w,rfl,fun _ _=>rfl,by rw[u rfl];exact ac⟩;simp[Builtin.clear_,af,run_underlying hu]
  |msl _ _ _ _ _ h1 h2 =>
   cases n with
   |zero =>refine⟨w,?_,Ext.refl g w,rfl,fun _ _=>rfl,by rw[u rfl];exact ac⟩;simp[Builtin.clear_,af,run_underlying hu]
   |succ n =>obtain⟨w',a1,a2,a3,a4,a5⟩:=ZeU (P:=P) ac aw ak (by rw[ad];exact hlen) (m.st.kept b _ aj);refine⟨w',?_,a2,a3,a4,a5⟩;simp only[Builtin.clear_,af,List.getElem?_toArray,List.getElem?_cons_zero,Sem.run_bind,run_underlying hu,Result.andThen_ok,av,a1,Sem.run_pure]
 obtain⟨w',a1,a2,a3,a4,a5⟩:=ai;have m':=m.named (o':=.cells (Zt cs off (KT z n))) aj a2 a3 a4 a5;refine YE (L':=L) hN am ah hd hw ax (v:=.tuple #[]) (e:=.d (.tup [])) ?_ a2 m' (Rep.tup [] [] rfl (by simp)) (h al r k hr ao);simp only[execOp,au,resolve,invoke,builtin,Sem.run_bind,Sem.run_pure,Result.andThen_ok,List.map_toArray,ZEc,ZEs,aq,a1]
def QI(P:Program)(s:St)(sz:Nat)(dy:D)(m:Nat)(row:Nat→List D):Prop :=
 ∀g w v,Yh g s w→Rep g w v dy→0<sz→∃news,WJ g w sz m news row∧Za0 P w sz m v news
theorem QI.elems{sz:Nat}{dy:D}{m:Nat}(h:Jd sz dy=sO (m,row)):QI P s sz dy m row:=fun g w v _ hr h0=>Zlm (P:=P) hr h h0
theorem QI.msl{sz b off n cap:Nat}{cs:List D}(hcs:Yc s b=sO cs)(hlen:off+n*sz≤cs.length):QI P s sz (.msl b off n cap sz) n (fun i=>part cs (off+i*sz) sz):=fun g w v hs hr h0=>by
 obtain⟨hp,z,T,hb,hcl,af,ac⟩:=QJ hs hcs;let vals:=(z.toList.drop off).take (n*sz);have u:vals.length=n*sz:=by simp[vals];omega
 have t:∀k,k<n*sz→vals[k]?=z[off+k]?:=fun k hk=>by simp only[vals,ZEC,hk,if_true,List.getElem?_drop,Array.getElem?_toList]
 have hk:∀i j,i<n→j<sz→i*sz+j<n*sz:=fun i j hi hj=>by have:(i+1)*sz≤n*sz:=ZEi _ hi;rw[ZEo,Nat.one_mul]at this;omega
 refine⟨vals,⟨u,fun i hi=>?_,fun i j v d hi hj hv hd=>?_,fun v hv=>?_⟩,?_⟩;have:=hk i (sz-1) hi (by omega);simp only[part,ZEh,ZEx];omega;rw[t _ (hk i j hi hj)]at hv;refine af _ v d hv ?_;simp only[part,ZEC,hj,if_true,List.getElem?_drop]at hd;rw[←hd];congr 1;omega;obtain⟨k,ae,rfl⟩:=ZEe hv;have h1:=t k (by omega);rw[ZEr ae]at h1;exact ac _ (Array.mem_of_getElem? h1.symm);cases hr with
 |mslx a =>have:vals=[]:=List.eq_nil_of_length_eq_zero (by simpa using u);rw[this];exact⟨fun w2=>by simp[Builtin.lenOf],fun w2 _=>by simp[Builtin.firstCells,loadCells,loadCellsFrom]⟩
 |msl _ _ _ _ _ h1 h2 =>
  refine⟨fun w2=>by simp[Builtin.lenOf],fun w2 ab=>?_⟩;refine run_firstCells_some (P:=P) w2 sz n ⟨b,off,nO⟩ n cap vals u fun k v hv=>?_;have ad:k<n*sz:=by rw[←u];exact(List.getElem?_eq_some_iff.1 hv).1
  rw[t k ad]at hv;rw[WW,Jb (ab▸rfl:w2.heap[b]?=w.heap[b]?),Zan hb];exact hv
theorem Ztu{F:Fr P}{dk:List Zh}{o:DOp}(hg:Zk ρ o.guard=sO true){e sz b:Nat}{z:List D}{x y:Opd}(hk:o.k=.append e sz b z x y){p q:Prop}{t:Tok}{n m:Nat}{row row2:Nat→List D}{dy:D}{dx:D}(hx:ZE ρ true x=sO (p,.d dx))(hsl:ZbS sz dx=sO (t,n,row))(hy:ZE ρ true y=sO (q,.d dy))(hp:p)(hq:q)(hel:QI P (s.own t (n*sz)) sz dy m row2)(hok:t.okIn s)(hb:(n+m)*b≤140737488355328)(hbig:n+m≤big)(h:∀t':Tok,t'.okIn s→DO F kp dk os (Zw ρ o.dst (.d (.sl t' (n+m) sz (YG n row row2)))) L (s.own t' ((n+m)*sz))):
  DO F kp dk (o::os) ρ L (s.own t (n*sz)):=by
 refine Y9 fun oo g ν w tmps a8 i r k au ae aq af hd hN M hr aj=>?_;have hw:=Z9 M aq hg;have az:=Yg ae (by rw[hk];rfl);rw[hk]at ae;obtain⟨x',y',ai,aw,t1,t2,tu,ak,ab,av,a9,bg,ay,ap,am,hz,al,ar,ba,h0,hzl⟩:=Zbz ae;subst al;have bb:Rep g w _ (.sl t n sz row):=Zgi (Z7 M ar rfl hx hp F.ds) hsl;have bh:Rep g w _ _:=Z7 M ba rfl hy hq F.ds;obtain⟨zv,hz1,be,hz3,ie,j,bf⟩:=QH (g:=g) (w:=w) hz;have ad:ie.size=sz:=by simpa[ZY,j]using am
 have ac:zv.cells.size=sz:=by have:=be.len;simp at this;omega
 have a0:P.bytesOf e=ie.bytes:=by simp[Program.bytesOf,j]
 rw[a0]at hb;obtain⟨news,bc,ao⟩:=hel _ _ _ M.st bh h0;obtain⟨v',w',g',t',a1,a2,a3,a4,a5,a6,a7⟩:=Zqs (ty:=oo.type) bg ay ap j bf ad ac h0 M.st hok bb bc ao hb hbig;have u:∀l cs,Ze L l=sO cs→t≠.tip (ν l):=fun l cs hl ht=>by have:=M.locSt l cs hl;rw[ht]at this;simp[St.own,ZEv]at this
 have ag:∀l cs,Ze L l=sO cs→s (ν l)=nO:=fun l cs hl=>by
  cases hx:s (ν l) with
  |none=>rfl
  |some o=>have:=Y2 (k:=n*sz) hok _ _ hx;rw[M.locSt l cs hl]at this;simp at this
 have mm:Zs g' ν w' tmps ρ L (s.own t' ((n+m)*sz)):=by
  refine⟨a3,fun l cs hl=>(M.loc l cs hl).mono a2 (a6 (ν l) (M.loc l cs hl).lt (u l cs hl)).1 (a6 (ν l) (M.loc l cs hl).lt (u l cs hl)).2,fun l cs hl=>by rw[a2.keptEq];exact M.locKept l cs hl,fun l cs hl=>?_,M.inj,fun t e he=>(M.env t e he).mono a2⟩;cases t' with
  |tip b =>
   have:¬ν l=b:=fun hb=>by rcases a7 b rfl with h1|h1;exact u l cs hl (by rw[hb];exact h1);have:=(M.loc l cs hl).lt;omega
   simp only[St.own,ZEv,this,if_false];exact ag l cs hl
  |_=>exact ag l cs hl
 refine YE hN au af hd hw az (v:=v') (w':=w') (e:=.d (.sl t' (n+m) sz (YG n row row2))) ?_ a2 mm a5 (h t' a4 a8 r k hr aj);have ax:ai = #[x',y']:=by apply Array.ext';simpa using ab
 have ah:∀vs,Builtin.append_ aw oo.type vs=Builtin.append_ #[t1,t2] oo.type vs:=fun vs=>by unfold Builtin.append_;simp[av,a9]
 unfold execOp;simp only[ak,ax,resolve,invoke,builtin,Sem.run_bind,Sem.run_pure,Result.andThen_ok,List.map_toArray,ZEc,ZEs,ah,a1]
theorem Zcw{sz m:Nat}{row:Nat→List D}(h:∀i,i<m→(row i).length=sz):∀k,k≤m→((ZEa k).flatMap row).length=k*sz
 |0,_=>by simp
 |k+1,hk=>by rw[List.range_succ,List.flatMap_append,ZD8,Zcw h k (by omega)];simp[h k hk,ZEo]
theorem Zlp{sz m:Nat}{row:Nat→List D}(h:∀i,i<m→(row i).length=sz):∀(k i j:Nat),k≤m→i<k→j<sz→((ZEa k).flatMap row)[i*sz+j]?=(row i)[j]?
 |0,i,j,_,hi,_=>by omega
 |k+1,i,j,hk,hi,hj=>by
  rw[List.range_succ,List.flatMap_append];have hl:=Zcw h k (by omega);by_cases n:i<k;have:i*sz+j<k*sz:=by have:(i+1)*sz≤k*sz:=ZEi _ n;rw[ZEo,Nat.one_mul]at this;omega
  rw[ZEt (by omega)];exact Zlp h k i j (by omega) n hj;obtain rfl:i=k:=by omega
  rw[ZEH (by omega),hl];simp[List.flatMap_cons]
theorem WJ.flat{sz m:Nat}{vs:List Value}(h:WJ g w sz m vs row):ZJ (Rep g w) vs ((ZEa m).flatMap row):=by
 have hl:=Zcw h.rlen m (ZEd _);refine Yf (by rw[h.len,hl]) fun k v d hv hd=>?_;have hk:k<m*sz:=by rw[←hl];exact(List.getElem?_eq_some_iff.1 hd).1
 have hs:0<sz:=by rcases Nat.eq_zero_or_pos sz with h|h;subst h;simp at hk;exact h
 have h1:k / sz<m:=(Nat.div_lt_iff_lt_mul hs).2 hk;have h2:k % sz<sz:=Nat.mod_lt _ hs;have e:k / sz*sz+k % sz=k:=by rw[Nat.mul_comm];exact Nat.div_add_mod k sz
 rw[←e]at hv hd;rw[Zlp h.rlen m _ _ (ZEd _) h1 h2]at hd;exact h.rep _ _ v d h1 h2 hv hd
theorem ZwG{F:Fr P}{dk:List Zh}{o:DOp}(hg:Zk ρ o.guard=sO true){e sz b:Nat}{z:List D}{x y:Opd}(hk:o.k=.append e sz b z x y){p q:Prop}{m:Nat}{row row2:Nat→List D}{dy:D}{dx:D}(hx:ZE ρ true x=sO (p,.d dx))(hsl:ZbS sz dx=sO (.full,0,row))(hy:ZE ρ true y=sO (q,.d dy))(hel:QI P s sz dy m row2)(hp:p)(hq:q)(hm:0<m)(hb:m*b≤140737488355328)(hbig:m≤big)(h:∀c cap,s c=nO→m≤cap→DO F kp dk os (Zw ρ o.dst (.d (.msl c 0 m cap sz))) L (s.upd c (.cells ((ZEa m).flatMap row2++List.replicate ((cap-m)*sz) .any)))):
  DO F kp dk (o::os) ρ L s:=by
 refine Y9 fun oo g ν w tmps ai i r k aj ab be ac hd hN M hr ak=>?_;have hw:=Z9 M be hg;have ax:=Yg ab (by rw[hk];rfl);rw[hk]at ab;obtain⟨x',y',af,ap,t1,t2,tu,ar,u,am,ao,az,au,bf,a0,hz,aw,bg,a7,h0,hzl⟩:=Zbz ab;subst aw;have bb:Rep g w _ (.sl .full 0 sz row):=Zgi (Z7 M bg rfl hx hp F.ds) hsl;have ba:Rep g w _ _:=Z7 M a7 rfl hy hq F.ds;obtain⟨zv,hz1,ah,al,ie,t,ay⟩:=QH (g:=g) (w:=w) hz;have n:ie.size=sz:=by simpa[ZY,t]using a0
 have j:zv.cells.size=sz:=by have:=ah.len;simp at this;omega
 have a9:P.bytesOf e=ie.bytes:=by simp[Program.bytesOf,t]
 rw[a9]at hb;obtain⟨news,ag,a8⟩:=hel _ _ _ M.st ba h0;obtain⟨cap,cv,a1,a2,a3,a4,a5,a6⟩:=ZsI (ty:=oo.type) az au bf t ay n j al h0 M.st bb hm ag a8 hb hbig;have ae:Jv g w g (w.drew.alloc (.cells cv e)):=Ziv (g:=g) (w:=w) cv e M.st.fresh;have he:=ae.ext M.st.fresh;have av:=Zcw ag.rlen m (ZEd _);have bc:Wz g (w.drew.alloc (.cells cv e)) w.heap.size (.cells ((ZEa m).flatMap row2++List.replicate ((cap-m)*sz) .any)) :=
  ⟨(M.st.fresh _ (ZEd _)).1,_,e,W0 w.drew _,by rw[ZD8,av,List.length_replicate,a4,←ZEo];congr 1;omega,fun i v d hv hd=>(a6 i v d hv hd).mono he,a5⟩
 obtain⟨hn,m'⟩:=M.newObj ae bc;refine YE (L':=L) hN aj ac hd hw ax (e:=.d (.msl w.heap.size 0 m cap sz)) ?_ he m' (Rep.msl _ _ _ _ _ a2 a3) (h _ cap hn a2 ai r k hr ak);have aq:af = #[x',y']:=by apply Array.ext';simpa using u
 have ad:∀vs,Builtin.append_ ap oo.type vs=Builtin.append_ #[t1,t2] oo.type vs:=fun vs=>by unfold Builtin.append_;simp[am,ao]
 unfold execOp;simp only[ar,aq,resolve,invoke,builtin,Sem.run_bind,Sem.run_pure,Result.andThen_ok,List.map_toArray,ZEc,ZEs,ad,a1]
theorem ZnE{F:Fr P}{dk:List Zh}{o:DOp}(hg:Zk ρ o.guard=sO true){e sz bt:Nat}{z:List D}{x y:Opd}(hk:o.k=.append e sz bt z x y){p q:Prop}{b off n cap m:Nat}{row2:Nat→List D}{dy:D}{cs:List D}(hx:ZE ρ true x=sO (p,.d (.msl b off n cap sz)))(hy:ZE ρ true y=sO (q,.d dy))(hp:p)(hq:q)(hcs:Yc s b=sO cs)(hlen:off+n*sz≤cs.length)(hel:QI P s sz dy m row2)(hroom:n+m≤cap→off=0∧(n+m)*sz≤cs.length)(hb:(n+m)*bt≤140737488355328)(hbig:n+m≤big)(h1:n+m≤cap→DO F kp dk os (Zw ρ o.dst (.d (.msl b off (n+m) cap sz))) L (s.upd b (.cells (Zt cs (n*sz) ((ZEa m).flatMap row2)))))(h2:∀c cap',cap<n+m→s c=nO→n+m≤cap'→DO F kp dk os (Zw ρ o.dst (.d (.msl c 0 (n+m) cap' sz))) L (s.upd c (.cells (part cs off (n*sz)++(ZEa m).flatMap row2++List.replicate ((cap'-(n+m))*sz) .any)))):
  DO F kp dk (o::os) ρ L s:=by
 refine Y9 fun oo g ν w tmps ah i r k ax a9 ca ad hd hN M hr au=>?_;have hw:=Z9 M ca hg;have az:=Yg a9 (by rw[hk];rfl);rw[hk]at a9;obtain⟨x',y',bp,ci,t1,t2,tu,bw,a0,ch,cp,a8,ay,av,b2,hz,bz,cb,cu,h0,hzl⟩:=Zbz a9;subst bz;have ai:Rep g w _ (.msl b off n cap sz):=Z7 M cb rfl hx hp F.ds;have bu:Rep g w _ _:=Z7 M cu rfl hy hq F.ds;obtain⟨zv,hz1,cw,ce,ie,ae,cx⟩:=QH (g:=g) (w:=w) hz;have a7:ie.size=sz:=by simpa[ZY,ae]using b2
 have a6:zv.cells.size=sz:=by have:=cw.len;simp at this;omega
 have cm:P.bytesOf e=ie.bytes:=by simp[Program.bytesOf,ae]
 rw[cm]at hb;have bf:s b=sO (.cells cs):=by unfold Yc at hcs;split at hcs<;>simp only[ZDV,reduceCtorEq]at hcs;subst hcs;assumption
 obtain⟨ac,u,al⟩:=hel _ _ _ M.st bu h0;obtain⟨ba,ao,bk⟩:=QI.msl (P:=P) (s:=s) (cap:=cap) hcs hlen g w _ M.st ai h0;have cj:bp = #[x',y']:=by apply Array.ext';simpa using a0
 have bj:∀vs,Builtin.append_ ci oo.type vs=Builtin.append_ #[t1,t2] oo.type vs:=fun vs=>by unfold Builtin.append_;simp[ch,cp]
 generalize b0:(Act.mk tmps F.ds).eval x'=vx at ai bk;generalize cy:(Act.mk tmps F.ds).eval y'=vy at bu al;have ab:∀v' w',(Builtin.append_ #[t1,t2] oo.type #[vx,vy]).run P w=.ok v' w'→(execOp (Act.mk tmps F.ds).eval oo).run P w=.ok (.value v') w':=fun v' w' j=>by unfold execOp;simp only[bw,cj,resolve,invoke,builtin,Sem.run_bind,Sem.run_pure,Result.andThen_ok,List.map_toArray,ZEc,ZEs,bj,b0,cy,j]
 subst a7;have cr:=Zcw u.rlen m (ZEd _);have hpl:(part cs off (n*ie.size)).length=n*ie.size:=by simp only[part,ZEh,ZEx];omega
 have bl:(ZEa n).flatMap (fun i=>part cs (off+i*ie.size) ie.size)=part cs off (n*ie.size):=by
  have hlo:=Zcw ao.rlen n (ZEd _);apply List.ext_getElem?;intro k';by_cases bb:k'<n*ie.size;have e1:k' / ie.size*ie.size+k' % ie.size=k':=by rw[Nat.mul_comm];exact Nat.div_add_mod k' ie.size
  have e2:k' / ie.size<n:=(Nat.div_lt_iff_lt_mul h0).2 bb;have e3:k' % ie.size<ie.size:=Nat.mod_lt _ h0;have:=Zlp ao.rlen n _ _ (ZEd _) e2 e3;rw[e1]at this;rw[this];simp only[part,ZEC,e3,if_true,List.getElem?_drop,bb]
  congr 1;omega
  rw[ZEG (by omega),ZEG (by omega)]
 have aj:∀base,vx=.slice base n cap→cap<n+m→F.T.T g w (lone (F.b.atR ⟨tmps,F.ds⟩ (.inRegion ah (i::r)::k)) F.cs w):=by
  intro base hv bh;subst hv;have j:=Zle (ty:=oo.type) a8 ay av ae cx al bk.2 bh (by simp only[big]at hbig;omega) hb;have ar:=grownCap_ge w (n+m) cap e;have t:=grownCap_le_maxLen w (n+m) cap e (by simp only[big]at hbig;simp only[maxLen];omega);generalize grownCap w (n+m) cap e=cap' at j ar t;generalize bo:(ba++ac++(Builtin.zeroCells zv.cells (cap'-(n+m))).toList).toArray=cv at j;have bx:(Builtin.zeroCells zv.cells (cap'-(n+m))).toList.length=(cap'-(n+m))*ie.size:=by rw[Array.length_toList,size_zeroCells,a6]
  have bn:Jv g w g (w.drew.alloc (.cells cv e)):=Ziv (g:=g) (w:=w) cv e M.st.fresh;have he:=bn.ext M.st.fresh;have aq:ZJ (Rep g w) cv.toList (part cs off (n*ie.size)++(ZEa m).flatMap row2++List.replicate ((cap'-(n+m))*ie.size) .any):=by rw[←bo,←bl];refine(ao.flat.append u.flat).append (Yf (by rw[bx,List.length_replicate]) fun k' v d hv hd=>?_);rw[List.getElem?_replicate]at hd;split at hd<;>simp only[ZDV,reduceCtorEq]at hd;subst hd;exact .any v
  have bq:∀v∈cv,v.one1=true:=fun v hv=>by rw[←bo]at hv;simp only[List.mem_toArray,List.mem_append]at hv;rcases hv with (hv|hv)|hv;exact ao.one v hv;exact u.one v hv;simp only[Builtin.zeroCells,Array.mem_toList_iff,Array.mem_map]at hv;obtain⟨a,_,rfl⟩:=hv;exact ce _ (by rw[getElem!_pos zv.cells _ (Nat.mod_lt _ (by omega))];exact Array.getElem_mem _)
  have cn:Wz g (w.drew.alloc (.cells cv e)) w.heap.size (.cells (part cs off (n*ie.size)++(ZEa m).flatMap row2++List.replicate ((cap'-(n+m))*ie.size) .any)) :=
   ⟨(M.st.fresh _ (ZEd _)).1,_,e,W0 w.drew _,by simpa using aq.len,fun i v d hv hd=>(aq.get i v d (by simpa using hv) hd).mono he,bq⟩
  obtain⟨hn,m'⟩:=M.newObj bn cn;exact YE (L':=L) hN ax ad hd hw az (e:=.d (.msl w.heap.size 0 (n+m) cap' ie.size)) (ab _ _ j) he m' (Rep.msl _ _ _ _ _ ar (by simp only[maxLen]at t;simp only[big];omega)) (h2 _ cap' bh hn ar ah r k hr au)
 have ag:∀base,vx=.slice base n cap→base=sO ⟨b,off,nO⟩∨(n+m=0∧cap=0)→n+m≤cap→F.T.T g w (lone (F.b.atR ⟨tmps,F.ds⟩ (.inRegion ah (i::r)::k)) F.cs w):=by
  intro base hv aw t;subst hv;obtain⟨cg,af⟩:=hroom t;subst cg;obtain⟨hpr,bg,T,bc,co,hcr,hco⟩:=QJ M.st hcs;by_cases bi:m=0;subst bi;have b1:ac=[]:=List.eq_nil_of_length_eq_zero (by simpa using u.len);subst b1;have j:=ZoE (ty:=oo.type) (n:=n) (cap:=cap) (base:=base) a8 ay av ae al (by omega);have be:Zt cs (n*ie.size) ((ZEa 0).flatMap row2)=cs:=by simp[Zt]
  have bv:s.upd b (.cells cs)=s:=by funext c;simp only[ZEv];split<;>simp_all
  have br:=h1 t;rw[be,bv]at br;exact YE (L':=L) (s':=s) hN ax ad hd hw az (e:=.d (.msl b 0 (n+0) cap ie.size)) (ab _ _ j) (Ext.refl g w) M (by rw[Nat.add_zero];exact ai) (br ah r k hr au);have am:base=sO ⟨b,0,nO⟩:=aw.resolve_right (fun h=>bi (by omega));subst am;have ap:n*ie.size+ac.length≤bg.size:=by rw[u.len,←ZEo,co];exact af
  have j:=Zqt (ty:=oo.type) a8 ay av ae al bc (fun v hv=>by rw[ZcD];exact u.one v hv) t ap;obtain⟨w',a1,a2,a3,a4,a5⟩:=ZeU (P:=P) (off:=n*ie.size) (QJ M.st hcs) u.flat u.one (by rw[cr,←ZEo];exact af) (M.st.kept b _ bf);have ak:=run_storeCells_at (P:=P) b (n*ie.size) T ac 0 bg w bc (by simpa using ap) (fun v hv=>by rw[ZcD];exact u.one v hv);simp only[Nat.add_zero]at ak;rw[a1]at ak;simp only[Result.ok.injEq,true_and]at ak;rw[←ak]at j;have m':=M.named (o':=.cells (Zt cs (n*ie.size) ((ZEa m).flatMap row2))) bf a2 a3 a4 a5;exact YE (L':=L) hN ax ad hd hw az (e:=.d (.msl b 0 (n+m) cap ie.size)) (ab _ _ j) a2 m' (by
   cases ai with
   |msl _ _ _ _ _ _ hcb=>exact Rep.msl _ _ _ _ _ t hcb
   |mslx a=>exact absurd t (by omega)) (h1 t ah r k hr au)
 cases ai with
 |msl _ _ _ _ _ hc1 hc2 =>by_cases t:n+m≤cap;exact ag _ rfl (.inl rfl) t;exact aj _ rfl (by omega)
 |mslx a =>by_cases t:0+m≤0;exact ag _ rfl (.inr ⟨by omega,rfl⟩) t;exact aj _ rfl (by omega)
end
variable {P:Program}
def JM(o:DOp)(ρ:Env)(L:Loc)(s:St):SR :=
 match o.k with
 |.q (.bin .add _) _=>.stop
 |_=>ZD o ρ L s
def Qu(K:Env→Loc→St→Prop)(X:List DOp→Env→Loc→St→Prop):List DOp→Env→Loc→St→Prop
 | [],ρ,L,s=>K ρ L s
 |o::os,ρ,L,s=>match JM o ρ L s with
  |.ok side ρ' L' s'=>side∧Qu K X os ρ' L' s'
  |.all side pre ρ' s'=>side∧∀b,pre b→Qu K X os (ρ' b) L (s' b)
  |.stop=>X (o::os) ρ L s
theorem ZhB{o:DOp}:∀r,JM o ρ L s=r→r=.stop∨ZD o ρ L s=r:=fun r hr=>by
 unfold JM at hr;split at hr;exact .inl hr.symm;exact .inr hr
theorem Q7{F:Fr P}{kp:Option (List Nat)}{dk:List Zh}:∀{os:List DOp} {ρ:Env} {L:Loc} {s:St},
  Qu (fun ρ L s=>Zv F dk (kept kp ρ) (ZjQ kp ρ L) s) (fun os ρ L s=>DO F kp dk os ρ L s) os ρ L s→DO F kp dk os ρ L s
 | [],ρ,L,s,h=>Zec h
 |o::os,ρ,L,s,h=>by simp only[Qu]at h;split at h;rename_i sd ρ' L' s' h1;rcases ZhB _ h1 with h2|h2;cases h2;exact Qg h2 h.1 (Q7 h.2);rename_i sd pre ρ' s' h1;rcases ZhB _ h1 with h2|h2;cases h2;exact ZlU h2 h.1 fun b hb=>Q7 (h.2 b hb);exact h
theorem Zbw{F:Fr P}{ks:List Nat}{dk:List Zh}:∀{os:List DOp} {ρ:Env} {L:Loc} {s:St},
  Qu (fun ρ L s=>Zv F dk (Yj ρ ks) (ZaJ (Yj ρ ks) L) s) (fun os ρ L s=>ZaW F (sO ks) dk os ρ L s) os ρ L s→ZaW F (sO ks) dk os ρ L s
 | [],ρ,L,s,h=>Y8 (os:=[]) h
 |o::os,ρ,L,s,h=>by simp only[Qu]at h;split at h;rename_i sd ρ' L' s' h1;rcases ZhB _ h1 with h2|h2;cases h2;intro B;refine QS h2 h.1 ?_;split;exact Zbw h.2 _;exact⟨Zb0,Zbw h.2 _⟩;rename_i sd pre ρ' s' h1;rcases ZhB _ h1 with h2|h2;cases h2;intro B;exact ZnC h2 h.1 fun b hb=>⟨Zb0,Zbw (h.2 b hb) _⟩;exact h
theorem Zou{F:Fr P}{dk:List Zh}{o:DOp}(hg:o.guard=nO){x y:Opd}{pl:Option J0}(hk:o.k=.q (.bin .add pl) [x,y]){p:Prop}{k:IntKind}{a b:Int}(ha:Ya ρ true [x,y]=sO (p,[.d (.int k a),.d (.int k b)]))(hp:p)(h:ZaW F kp dk os (Zw ρ o.dst (.d (.int k (k.wrap (a+b))))) L s):ZaW F kp dk (o::os) ρ L s:=fun B=>ZwF hg hk ha hp (h B)
section
variable {P:Program} {F:Fr P} {ks:Option (List Nat)} {dk:List Zh} {ρ:Env} {L:Loc} {s:St}
theorem rgR{r os:List DOp}{kt:Option (List Nat)}(e:r=os)(e2:kt=ks)(h:DO F ks dk os ρ L s):Zv F (.code (.reg r kt)::dk) ρ L s:=by subst e e2;exact ZgQ h
theorem Zho{o:List Nat}{r os:List DOp}{kt:Option (List Nat)}(e:r=os)(e2:kt=ks)(h:ZaW F ks dk os ρ L s):Zv F (.code (.regD o (ZuX r) kt)::dk) ρ L s:=by subst e e2;exact Ztx h
theorem rgD{o:List Nat}{r os:List (DOp×List Nat)}{kt:Option (List Nat)}(e:r=os)(e2:kt=ks)(h:DOA F ks dk os ρ L s []):Zv F (.code (.regD o r kt)::dk) ρ L s:=by subst e e2;exact Zh2 h
end
structure Hid(p:Prop):Prop where
 out:p
theorem nd2{a b:Prop}(x:a)(y:b):a∧b:=⟨x,y⟩
theorem mv{A B:Prop}(k:B)(h:Hid B→A:=by
 intro hk;repeat(first|refine Zb ?_|refine Zj ?_|refine Z4 ?_|refine Zy ?_|refine Yw ?_|refine Zc ?_|refine Ym ?_|refine ZQ rfl ?_)
 exact hk.out):A:=h ⟨k⟩
theorem rg{A B:Prop}(k:B)(h:Hid B→A:=by
 intro hk;repeat(first|refine Zb ?_|refine Zj ?_|refine Z4 ?_|refine Zy ?_|refine Yw ?_|refine Zc ?_|refine Ym ?_|refine ZQ rfl ?_)
 first|refine rgR (by conv=>lhs;whnf) (by conv=>lhs;whnf) (Zl ?_)|refine Zho (by conv=>lhs;whnf) (by conv=>lhs;whnf) (Y8 ?_)|refine rgD (by conv=>lhs;whnf) (by conv=>lhs;whnf) (Yy ?_)
 simp only[Eqs,reduceCtorEq,Int.reduceToNat,reduceIte,Nat.reduceEqDiff,Nat.reduceAdd,Nat.reduceLeDiff];exact hk.out):A:=h ⟨k⟩
theorem rx{p:Prop}(e:p){A B:Prop}(k:B)(h:p→Hid B→A:=by
 intro e1 hk;repeat(first|refine Zb ?_|refine Zj ?_|refine Z4 ?_|refine Zy ?_|refine Yw ?_|refine Zc ?_|refine Ym ?_|refine ZQ rfl ?_)
 first|refine rgR (by conv=>lhs;whnf) (by conv=>lhs;whnf) (Zl ?_)|refine Zho (by conv=>lhs;whnf) (by conv=>lhs;whnf) (Y8 ?_)|refine rgD (by conv=>lhs;whnf) (by conv=>lhs;whnf) (Yy ?_)
 simp only[Eqs,reduceCtorEq,Int.reduceToNat,reduceIte,Nat.reduceEqDiff,Nat.reduceAdd,Nat.reduceLeDiff,e1];exact hk.out):A:=h e ⟨k⟩
theorem rh{A B:Prop}(k:B)(h:Hid B→A:=by
 intro hk;repeat(first|refine Zb ?_|refine Zj ?_|refine Z4 ?_|refine Zy ?_|refine Yw ?_|refine Zc ?_|refine Ym ?_|refine ZQ rfl ?_)
 first|refine rgR (by conv=>lhs;whnf) (by conv=>lhs;whnf) ?_|refine Zho (by conv=>lhs;whnf) (by conv=>lhs;whnf) ?_|refine rgD (by conv=>lhs;whnf) (by conv=>lhs;whnf) ?_
 exact hk.out):A:=h ⟨k⟩
theorem aa{A B:Prop}(k:B)(h:Hid B→A:=by
 intro hk;repeat(refine And.intro (by first|omega|trivial|(intro h0;simp at h0;omega)) ?_)
 exact hk.out):A:=h ⟨k⟩
theorem cl{q:Prop}(c:q){A B:Prop}(k:B)(h:q→Hid B→A:=by
 intro hc hk;refine Zbk rfl rfl rfl rfl rfl (by trivial) (by trivial) hc (Zl ?_);simp only[Eqs,reduceCtorEq,Int.reduceToNat,reduceIte,Nat.reduceEqDiff,Nat.reduceAdd,Nat.reduceLeDiff];exact hk.out):A:=h c ⟨k⟩
theorem ct{q:Prop}(c:q){A B:Prop}(k:B)(h:q→Hid B→A:=by
 intro hc hk;refine QT rfl rfl rfl rfl rfl (by trivial) (by trivial) hc (Zl ?_);simp only[Eqs,reduceCtorEq,Int.reduceToNat,reduceIte,Nat.reduceEqDiff,Nat.reduceAdd,Nat.reduceLeDiff];exact hk.out):A:=h c ⟨k⟩
theorem cl0{q:Prop}(c:q){A B:Prop}(k:B)(h:q→Hid B→A:=by
 intro hc hk;refine Ztr rfl rfl rfl rfl rfl (by trivial) (by trivial) hc (Y8 ?_);simp only[Eqs,reduceCtorEq,Int.reduceToNat,reduceIte,Nat.reduceEqDiff,Nat.reduceAdd,Nat.reduceLeDiff];exact hk.out):A:=h c ⟨k⟩
theorem clD{q:Prop}(c:q){A B:Prop}(k:B)(h:q→Hid B→A:=by
 intro hc hk;refine ZhZ rfl rfl rfl rfl rfl (by trivial) (by trivial) hc (Yy ?_);simp only[Eqs,reduceCtorEq,Int.reduceToNat,reduceIte,Nat.reduceEqDiff,Nat.reduceAdd,Nat.reduceLeDiff];exact hk.out):A:=h c ⟨k⟩
theorem ctD{q:Prop}(c:q){A B:Prop}(k:B)(h:q→Hid B→A:=by
 intro hc hk;refine Zh0 rfl rfl rfl rfl rfl (by trivial) (by trivial) hc (by first|trivial|exact⟨rfl,trivial⟩|simp[Y0,KA]) (Yy ?_);simp only[Eqs,reduceCtorEq,Int.reduceToNat,reduceIte,Nat.reduceEqDiff,Nat.reduceAdd,Nat.reduceLeDiff];exact hk.out):A:=h c ⟨k⟩
section
variable {P:Program} {F:Fr P} {dk:List Zh} {ρ:Env} {L:Loc} {s:St}
theorem cd{o:Opd}{x y:DC}{b:Bool}{p:Prop}(ht:b=true→Zv F (.code x::dk) ρ L s)(hf:b=false→Zv F (.code y::dk) ρ L s)(ho:ZE ρ true o=sO (p,.d (.bool b)):=by rfl)(hp:p:=by trivial):Zv F (.code (.cond o x y)::dk) ρ L s:=Zu ho hp ht hf
end
theorem rb{p:Prop}(c:p){A B:Prop}(k:B)(h:p→Hid B→A:=by
 intro hret hk;repeat(first|refine Zb ?_|refine Zj ?_|refine Z4 ?_|refine Zy ?_|refine Yw ?_|refine Zc ?_|refine Ym ?_|refine ZQ rfl ?_)
 exact hret rfl (by first|trivial|simp) (Zd4 hk.out) (by first|exact St.sub_refl _|exact Y2 (by first|trivial|assumption)|assumption|exact St.sub_upd _ (by assumption))):A:=h c ⟨k⟩
theorem ri{p:Prop}(c:p){A B:Prop}(k:B)(h:p→Hid B→A:=by
 intro hret hk;repeat(first|refine Zb ?_|refine Zj ?_|refine Z4 ?_|refine Zy ?_|refine Yw ?_|refine Zc ?_|refine Ym ?_|refine ZQ rfl ?_)
 exact hret rfl (by first|trivial|simp) (Zgd hk.out) (by first|exact St.sub_refl _|exact Y2 (by first|trivial|assumption)|assumption|exact St.sub_upd _ (by assumption))):A:=h c ⟨k⟩
theorem rs{p:Prop}(c:p){A B:Prop}(k:B)(h:p→Hid B→A:=by
 intro hret hk;repeat(first|refine Zb ?_|refine Zj ?_|refine Z4 ?_|refine Zy ?_|refine Yw ?_|refine Zc ?_|refine Ym ?_|refine ZQ rfl ?_)
 exact hret rfl (by first|trivial|simp) (Zzl hk.out) (by first|exact St.sub_refl _|exact Y2 (by first|trivial|assumption)|assumption|exact St.sub_upd _ (by assumption))):A:=h c ⟨k⟩
theorem ro{p:Prop}(c:p){A B:Prop}(k:B)(h:p→Hid B→A:=by
 intro hret hk;repeat(first|refine Zb ?_|refine Zj ?_|refine Z4 ?_|refine Zy ?_|refine Yw ?_|refine Zc ?_|refine Ym ?_|refine ZQ rfl ?_)
 exact hret rfl (by first|trivial|simp) (Zzj hk.out) (by first|exact St.sub_refl _|exact Y2 (by first|trivial|assumption)|assumption|exact St.sub_upd _ (by assumption))):A:=h c ⟨k⟩
theorem rt{p:Prop}(c:p){A B:Prop}(k:B)(h:p→Hid B→A:=by
 intro hret hk;repeat(first|refine Zb ?_|refine Zj ?_|refine Z4 ?_|refine Zy ?_|refine Yw ?_|refine Zc ?_|refine Ym ?_|refine ZQ rfl ?_)
 exact hret rfl (by first|trivial|simp) (K0 hk.out rfl) (by first|exact St.sub_refl _|exact Y2 (by first|trivial|assumption)|assumption|exact St.sub_upd _ (by assumption))):A:=h c ⟨k⟩
theorem fr{P:Program}{F:Fr P}{x:DC}{dk:List Zh}(N:Nat)(M:Nat→(Env→Loc→St→Prop)→Prop)(h:∀n,(∀m,m<n→∀i,N-i=m→M i fun ρ L s=>Zv F (.code x::.inLoop x::dk) ρ L s)→∀i,N-i=n→M i fun ρ L s=>Zv F (.code x::.inLoop x::dk) ρ L s)(g:(∀n i,N-i=n→M i fun ρ L s=>Zv F (.code x::.inLoop x::dk) ρ L s)→Zv F (.code x::.inLoop x::dk) ρ L s):Zv F (.code (.loop x)::dk) ρ L s :=
 Zbx (g fun n=>Nat.strongRecOn n h)
theorem i0{A B:Prop}(k:B)(h:Hid B→A:=by
 intro hq;repeat(first|refine Zb ?_|refine Zj ?_|refine Z4 ?_|refine Zy ?_|refine Yw ?_|refine Zc ?_|refine Ym ?_|refine ZQ rfl ?_)
 exact Zu rfl trivial (fun h=>by first|(simp at h;done)|(rw[hk]at h;simp at h;done)) (fun _=>hq.out)):A:=h ⟨k⟩
theorem i1{A B:Prop}(k:B)(h:Hid B→A:=by
 intro hq;repeat(first|refine Zb ?_|refine Zj ?_|refine Z4 ?_|refine Zy ?_|refine Yw ?_|refine Zc ?_|refine Ym ?_|refine ZQ rfl ?_)
 exact Zu rfl trivial (fun _=>hq.out) (fun h=>by first|(simp at h;done)|(rw[hk]at h;simp at h;done))):A:=h ⟨k⟩
theorem kl{P:Program}{F:Fr P}{dk:List Zh}(s':St)(ρ':Env)(L':Loc)(h1:LeE ρ ρ')(h2:LeL L L')(h:Zv F dk ρ' L' s')(hs:s'.sub s:=by first|exact St.sub_refl _|exact Y2 (by first|trivial|assumption)|exact St.sub_trans (Y2 (by first|trivial|assumption)) (Y2 (by first|trivial|assumption))|assumption):Zv F dk ρ L s :=
 Kc hs (Zx1 h1 h2 h)
end Go.DL
namespace Go.DL
open Go
variable {kp:Option (List Nat)}{L:Loc}{ρ:Env}{s:St}{w:World}{os:List DOp}{ds:List D}{B:List (Nat × Rd)}{dst:Option Nat}{tmps:Array Value}{g:G}{Φ:Res→St→Prop}{ν:Nat→Nat}{xs:List Opd}{side:Prop}{row:Nat→List D}
def Zrz:List Int:=[1,10,100,1000,10000,100000,1000000,10000000,100000000,1000000000,10000000000,100000000000,1000000000000,10000000000000,100000000000000,1000000000000000,10000000000000000,100000000000000000,1000000000000000000,10000000000000000000]
instance theTabs:Zqj:=⟨fun n=>match Nat.beq n 3 with
 |true=>sO (Zrz.map fun z=>.int .u64 z)
 |false=>nO⟩
end Go.DL
namespace Go.DL
open Go
variable [Zqj]
variable {kp:Option (List Nat)}{L:Loc}{ρ:Env}{s:St}{w:World}{os:List DOp}{ds:List D}{B:List (Nat × Rd)}{dst:Option Nat}{tmps:Array Value}{g:G}{Φ:Res→St→Prop}{ν:Nat→Nat}{xs:List Opd}{side:Prop}{row:Nat→List D}
def Zrt(T:Tab)(ms:List Nat):Nat→List Nat→List Nat→List Nat×List (Nat×List Nat)×List Nat
 |0,rest,_=>(rest,[],[])
 |n+1,rest,A =>
  let rdy:=rest.filter fun i=>(T.deps i).all fun d=>!rest.contains d;let free:=fun(i:Nat) (A:List Nat)=>A.filter fun a=>!(ms.getD i 0).testBit a;let fl:=fun(i:Nat) (A:List Nat) (l:List (Nat×List Nat))=>match (free i A).filter fun a=>YP (T.op a).k with
   | []=>l
   |as9=>(i,as9.map fun a=>Zbv (T.op a))::l
  match rdy.find? fun i=>Zcu T A i&&A.all fun a=>(ms.getD i 0).testBit a ||nd (T.op a).dst (ZB (T.op i)) with
  |some i=>match Zrt T ms n (rest.erase i) (i::A) with
   | (od,f,k)=>(i::od,f,k)
  |none=>match rdy with
   | []=>(rest,[],[])
   | [i]=>match Zrt T ms n (rest.erase i) (free i A) with
    | (od,f,k)=>(i::od,fl i A f,k)
   |i::j::_=>match Zrt T ms n ((rest.erase i).erase j) (free j (free i A)) with
    | (od,f,k)=>(i::j::od,fl i A (fl j A f),i::k)
def bS:List Nat→Nat
 | []=>0
 |a::l=>1 <<< a |||bS l
def bR:List DOp→Nat→Nat
 | [],m=>m
 |o::r,m=>bS (ZB o) |||match o.dst with
  |some d=>bR r m ^^^ (bR r m &&& 1 <<< d)
  |none=>bR r m
abbrev LB:=List (Nat×Nat)
def LB.get(d:Nat):LB→Nat→Nat
 | [],_=>d
 | (j,m)::r,k=>if j=k then m else LB.get d r k
def LB.put:LB→Nat→Nat→LB
 | [],k,m=>[(k,m)]
 | (j,n)::r,k,m=>if j=k then (j,n |||m)::r else (j,n)::LB.put r k m
def lvI(f:Nat→LB→Nat×LB×LB):Nat→Nat→LB→Nat×LB×LB
 |0,m,b=>f m b
 |n+1,m,b=>match f m b with
  | (m',k,b')=>if m' |||m=m then (m,k,b') else lvI f n (m' |||m) b'
def lvS(f:LB→Nat×LB×LB):Nat→LB→Nat×LB×LB
 |0,b=>f b
 |n+1,b=>match f b with
  | (m,k,b')=>if b'=b then (m,k,b') else lvS f n b'
def lvC(P:Program)(N ret:Nat):Code→LB→LB→Nat→Nat×LB×LB
 |.region id ops _,_,b,m=>match QW P N ops (List.range ops.size) with
  |some l=>(bR l m,[(id,m)],b)
  |none=>(0,[],b)
 |.seq x y,ex,b,m=>match lvC P N ret y ex b m with
  | (m,k,b)=>match lvC P N ret x ex b m with
   | (m,k',b)=>(m,k'++k,b)
 |.cond c x y,ex,b,m=>match lvC P N ret x ex b m,ZZ c with
  | (n,k,b),sO c=>match lvC P N ret y ex b m with
   | (m,k',b)=>(bS (ZS c) |||n |||m,k++k',b)
  |_,nO=>(0,[],b)
 |.block id x,ex,b,m=>lvC P N ret x ((id,m)::ex) b m
 |.loop x,ex,b,_=>lvI (fun m b=>lvC P N ret x ex b m) 9 0 b
 |.exit id,ex,b,_=>(LB.get ret ex id,[],b)
 |.ret,_,b,_=>(ret,[],b)
 |.scope x,ex,b,m=>lvS (fun b=>lvC P N ret x ex b m) 9 b
 |.label l,_,b,m=>(m,[],b.put l m)
 |.goto l,_,b,_=>(LB.get 0 b l,[],b)
 |.rangeFunc f _ x y,ex,b,m0=>match ZZ f,lvI (fun m b=>match lvC P N ret y ex b (m |||m0) with
   | (m1,k,b)=>match lvC P N ret x ex b m1 with
    | (m2,k',b)=>(m2 |||m0 |||m,k++k',b)) 9 0 b with
  |some f,(m,k,b)=>(bS (ZS f) |||m,k,b)
  |none,_=>(0,[],b)
 |_,_,b,m=>(m,[],b)
def fN:Nat→Option Nat
 |0=>sO 0
 |n+1=>sO (n+1)
def fNs:List Nat→Option (List Nat)
 | []=>sO []
 |a::l=>match fN a,fNs l with
  |some a,sO l=>sO (a::l)
  |_,_=>nO
def kpO:Nat→Nat→Nat→Option (List Nat)
 |0,_,_=>sO []
 |n+1,i,m=>match kpO n (i+1) (m / 2) with
  |some l=>if m % 2=1 then match fN i with
   |some i=>sO (i::l)
   |none=>nO
   else sO l
  |none=>nO
def kpM(N m:Nat):Option (List Nat):=kpO N 0 m
def rvM:List RV→Nat
 | []=>0
 |.tmp t::r=>1 <<< t |||rvM r
 |.cell1 t::r=>1 <<< t |||rvM r
 |.cellN t _::r=>1 <<< t |||rvM r
def dOf(P:Program)(N:Nat)(ops:Array Oper):List DOp×List Nat×List (Nat×List Nat)×List Nat :=
 match QW P N ops (List.range ops.size) with
 |some l=>(l,Zrt (l.zip (ops.toList.map Jh)) (Zfj (ops.toList.map Jh) []) ops.size (List.range ops.size) [])
 |none=>([],[],[],[])
def anD(P:Program)(N:Nat):Code→Ann
 |.region id ops true=>match dOf P N ops with
  | (_,od,fl,_)=>(id+1000000,od)::fl.map fun x=>(id+1000000*(x.1+4),x.2)
 |.seq a b=>anD P N a++anD P N b
 |.cond _ a b=>anD P N a++anD P N b
 |.block _ a=>anD P N a
 |.loop a=>anD P N a
 |.scope a=>anD P N a
 |.rangeFunc _ _ a b=>anD P N a++anD P N b
 |_=>[]
def lvF(P:Program)(fn:Func)(c:Code):LB :=
 match Zij P fn.results.toList with
 |some rs=>(lvC P fn.ntmps (rvM rs) c [] [] (rvM rs)).2.1
 |none=>[]
def anF(P:Program)(f:FuncId):Ann :=
 match P.funcs[f]? with
 |some fn=>match fn.body with
  |some c=>(lvF P fn c).filterMap (fun x=>(kpM fn.ntmps x.2).map fun k=>(x.1,k))++anD P fn.ntmps c
  |none=>[]
 |none=>[]
def fLL:List (Nat×Nat)→Option (List (Nat×Nat))
 | []=>sO []
 | (a,b)::l=>match fN a,fN b,fLL l with
  |some a,sO b,sO l=>sO ((a,b)::l)
  |_,_,_=>nO
def fCC:List (Nat×SK)→Option (List (Nat×SK))
 | []=>sO []
 | (a,b)::l=>match fN a,fCC l with
  |some a,sO l=>sO ((a,b)::l)
  |_,_=>nO
def fP:Option J0→Option (Option J0)
 |none=>sO nO
 |some p=>match p with
  |.cells l=>match fCC l with
   |some l=>sO (sO (.cells l))
   |none=>nO
  |p=>sO (sO p)
def plP(P:Program):Op→Option J0
 |.binOp _ t x y _=>match P.underlying t with
  |some (.struct fs)=>(Kd P fs.toList).map .cells
  |some (.array n e)=>match KR P e,ZY P e with
   |some k,sO 1=>sO (.cells ((List.range n).map (·,k)))
   |_,_=>nO
  |_=>Zdf P t x y
 |_=>nO
def fQ(P:Program)(op:Op)(q:Q)(xs:List Opd):Option K :=
 match q with
 |.loadN n=>match fN n with
  |some n=>sO (.q (.loadN n) xs)
  |none=>nO
 |.bin o _=>match fP (plP P op) with
  |some p=>sO (.q (.bin o p) xs)
  |none=>nO
 |.faddr n=>match fN n with
  |some n=>sO (.q (.faddr n) xs)
  |none=>nO
 |.fld1 n=>match fN n with
  |some n=>sO (.q (.fld1 n) xs)
  |none=>nO
 |.fldN n m=>match fN n,fN m with
  |some n,sO m=>sO (.q (.fldN n m) xs)
  |_,_=>nO
 |.iaddr n=>match fN n with
  |some n=>sO (.q (.iaddr n) xs)
  |none=>nO
 |.iaddrA n m=>match fN n,fN m with
  |some n,sO m=>sO (.q (.iaddrA n m) xs)
  |_,_=>nO
 |.idxA n m o=>match fN n,fN m with
  |some n,sO m=>sO (.q (.idxA n m o) xs)
  |_,_=>nO
 |.sliceA n m a b c=>match fN n,fN m with
  |some n,sO m=>sO (.q (.sliceA n m a b c) xs)
  |_,_=>nO
 |.slice n a b c=>match fN n with
  |some n=>sO (.q (.slice n a b c) xs)
  |none=>nO
 |.build z l=>match fLL l with
  |some l=>sO (.q (.build z l) xs)
  |none=>nO
 |.mkfn f n=>match fN n with
  |some n=>sO (.q (.mkfn f n) xs)
  |none=>nO
 |q=>sO (.q q xs)
def fK(P:Program)(op:Op):K→Option K
 |.q q xs=>fQ P op q xs
 |.storeN n a v=>match fN n with
  |some n=>sO (.storeN n a v)
  |none=>nO
 |.bsl n s z is xs=>match fN s with
  |some s=>sO (.bsl n s z is xs)
  |none=>nO
 |.append e s b z x y=>match fN s,fN b with
  |some s,sO b=>sO (.append e s b z x y)
  |_,_=>nO
 |.mkslice e s b z x y=>match fN s,fN b with
  |some s,sO b=>sO (.mkslice e s b z x y)
  |_,_=>nO
 |.clear s z x=>match fN s with
  |some s=>sO (.clear s z x)
  |none=>nO
 |.copy s x y=>match fN s with
  |some s=>sO (.copy s x y)
  |none=>nO
 |.pick c a b=>sO (.pick c a b)
 |.alloc z=>sO (.alloc z)
 |.box x=>sO (.box x)
 |.s2b x=>sO (.s2b x)
 |.store1 a v=>sO (.store1 a v)
 |.call f xs=>sO (.call f xs)
 |.defer f xs=>sO (.defer f xs)
 |.mkmap=>sO .mkmap
 |.mapupd a b c d=>sO (.mapupd a b c d)
 |.mapent a b c d=>sO (.mapent a b c d)
 |.entst a b c=>sO (.entst a b c)
 |.panic x=>sO (.panic x)
 |.recover=>sO .recover
 |.delete a b c=>sO (.delete a b c)
 |.fork _=>nO
def fO(P:Program):List (DOp×Oper)→Option (List DOp)
 | []=>sO []
 | (o,r)::l=>match fK P r.op o.k,fO P l,o.dst,o.guard with
  |some k,sO l,sO d,nO=>sO (⟨sO d,nO,k⟩::l)
  |some k,sO l,nO,nO=>sO (⟨nO,nO,k⟩::l)
  |some k,sO l,sO d,sO (t,true)=>sO (⟨sO d,sO (t,true),k⟩::l)
  |some k,sO l,sO d,sO (t,false)=>sO (⟨sO d,sO (t,false),k⟩::l)
  |some k,sO l,nO,sO (t,true)=>sO (⟨nO,sO (t,true),k⟩::l)
  |some k,sO l,nO,sO (t,false)=>sO (⟨nO,sO (t,false),k⟩::l)
  |_,_,_,_=>nO
def ZfP(id:Nat):Code→Option (Array Oper)
 |.region i ops _=>if i=id then sO ops else nO
 |.seq a b=>match ZfP id a with
  |some x=>sO x
  |none=>ZfP id b
 |.cond _ a b=>match ZfP id a with
  |some x=>sO x
  |none=>ZfP id b
 |.block _ a=>ZfP id a
 |.loop a=>ZfP id a
 |.scope a=>ZfP id a
 |.rangeFunc _ _ a b=>match ZfP id a with
  |some x=>sO x
  |none=>ZfP id b
 |_=>nO
def Zuq(fn:Func)(id:Nat):Option (Array Oper):=match fn.body with
 |some c=>ZfP id c
 |none=>nO
def ZAE(P:Program)(fn:Func)(id:Nat):List DOp:=match Zuq fn id with
 |some ops=>match QW P fn.ntmps ops (List.range ops.size) with
  |some l=>match fO P (l.zip ops.toList) with
   |some l=>l
   |none=>[]
  |none=>[]
 |none=>[]
def ZAD(P:Program)(fn:Func)(id:Nat):List DOp:=match Zuq fn id with
 |some ops=>match dOf P fn.ntmps ops with
  | (l,od,_)=>match fO P (od.map fun i=>(l.zip ops.toList).getD i dE) with
   |some l=>l
   |none=>[]
 |none=>[]
def ZAc(fl:List (Nat×List Nat)):List Nat→List DOp→Option (List (DOp×List Nat))
 |i::od,o::l=>match ZAc fl od l,fl.find? fun x=>x.1==i with
  |some r,sO (_,t)=>match fNs t with
   |some t=>sO ((o,t)::r)
   |none=>nO
  |some r,nO=>sO ((o,[])::r)
  |none,_=>nO
 |_,_=>sO []
def ZAF(P:Program)(fn:Func)(id:Nat):List (DOp×List Nat):=match Zuq fn id with
 |some ops=>match dOf P fn.ntmps ops with
  | (l,od,fl,_)=>match fO P (od.map fun i=>(l.zip ops.toList).getD i dE) with
   |some l=>match ZAc fl od l with
    |some r=>r
    |none=>[]
   |none=>[]
 |none=>[]
def ZzS(P:Program)(fn:Func)(id:Nat):List Nat:=match Zuq fn id with
 |some ops=>(dOf P fn.ntmps ops).2.1
 |none=>[]
def skC(P:Program)(fn:Func)(lv:LB):Code→Option DC
 |.skip=>sO .skip
 |.region id ops true=>match fN (LB.get 0 lv id),(dOf P fn.ntmps ops).2.2.1 with
  |some m,[]=>sO (.regD (ZzS P fn id) (ZuX (ZAD P fn id)) (kpM fn.ntmps m))
  |some m,_::_=>sO (.regD (ZzS P fn id) (ZAF P fn id) (kpM fn.ntmps m))
  |none,_=>nO
 |.region id _ false=>match fN (LB.get 0 lv id) with
  |some m=>sO (.reg (ZAE P fn id) (kpM fn.ntmps m))
  |none=>nO
 |.seq a b=>match skC P fn lv a,skC P fn lv b with
  |some x,sO y=>sO (.seq x y)
  |_,_=>nO
 |.cond c a b=>match ZZ c,skC P fn lv a,skC P fn lv b with
  |some c,sO x,sO y=>sO (.cond c x y)
  |_,_,_=>nO
 |.block id a=>match skC P fn lv a with
  |some x=>sO (.block id x)
  |none=>nO
 |.loop a=>match skC P fn lv a with
  |some x=>sO (.loop x)
  |none=>nO
 |.exit id=>sO (.exit id)
 |.ret=>sO .ret
 |.scope a=>match skC P fn lv a with
  |some x=>sO (.scope x)
  |none=>nO
 |.label l=>sO (.label l)
 |.goto l=>sO (.goto l)
 |.rangeFunc f ps a b=>match ZZ f,skC P fn lv a,skC P fn lv b with
  |some f,sO x,sO y=>sO (.rangeF f ps.toList x y)
  |_,_,_=>nO
 |_=>nO
def skF(P:Program)(fn:Func):DC:=match fn.body with
 |some c=>match skC P fn (lvF P fn c) c with
  |some d=>d
  |none=>.skip
 |none=>.skip
def fR:List RV→Option (List RV)
 | []=>sO []
 |.tmp t::r=>match fR r with
  |some r=>sO (.tmp t::r)
  |none=>nO
 |.cell1 t::r=>match fR r with
  |some r=>sO (.cell1 t::r)
  |none=>nO
 |.cellN t n::r=>match fN n,fR r with
  |some n,sO r=>sO (.cellN t n::r)
  |_,_=>nO
def rsF(P:Program)(fn:Func):List RV:=match Zij P fn.results.toList with
 |some rs=>match fR rs with
  |some rs=>rs
  |none=>[]
 |none=>[]
theorem cR{P:Program}(f:FuncId)(fn:Func){rs:List RV}{b:DC}(h1:rsF P fn=rs:=by conv=>lhs;whnf)(h2:skF P fn=b:=by conv=>lhs;whnf)(h:cf P (anF P f) f=sO ⟨fn.ntmps,rsF P fn,skF P fn⟩:=by kernel_rfl):cf P (anF P f) f=sO ⟨fn.ntmps,rs,b⟩:=h1▸h2▸h
def upT:List Nat→List Zh→List Zh
 |0::r,_::d=>upT r d
 |1::r,.code (.seq a b)::d=>upT r (.code a::.code b::d)
 |2::r,.code (.block i a)::d=>upT r (.code a::.inBlock i::d)
 |_,d=>d
structure Tie{P:Program}(l:List Nat)(X:Fr P→Env→Loc→St→Prop)(A:Prop):Prop
section
variable {P:Program} {F:Fr P} {l:List Nat} {dk:List Zh} {ρ:Env} {L:Loc} {s:St} {ks:Option (List Nat)} {os:List DOp} {ps:List (DOp × List Nat)} {B:List (Nat × Rd)}
theorem tU:Tie l (fun(F:Fr P)=>Zv F (upT l dk)) (Zv F dk ρ L s):=⟨⟩
theorem tO:Tie l (fun(F:Fr P)=>Zv F (upT l dk)) (DO F ks dk os ρ L s):=⟨⟩
theorem tO0:Tie l (fun(F:Fr P)=>Zv F (upT l dk)) (ZaW F ks dk os ρ L s):=⟨⟩
theorem tOD:Tie l (fun(F:Fr P)=>Zv F (upT l dk)) (DOA F ks dk ps ρ L s B):=⟨⟩
theorem jU(l:List Nat)(J:(Fr P→Env→Loc→St→Prop)→Prop){X:Fr P→Env→Loc→St→Prop}{A:Prop}(h1:J X)(h2:J X→A)(_h:Tie l X A:=by first|exact tU|exact tO|exact tO0|exact tOD):A:=h2 h1
theorem lpU{a:DC}(J:(Fr P→Env→Loc→St→Prop)→Prop)(h1:J fun(F:Fr P)=>Zv F (.code a::.inLoop a::dk))(h2:(J fun(F:Fr P)=>Zv F (.code a::.inLoop a::dk))→Zv F (.code a::.inLoop a::dk) ρ L s):Zv F (.code (.loop a)::dk) ρ L s:=Zbx (h2 h1)
end
end Go.DL
namespace Go.DL
open Go
variable {kp:Option (List Nat)}{L:Loc}{ρ:Env}{s:St}{w:World}{os:List DOp}{ds:List D}{B:List (Nat × Rd)}{dst:Option Nat}{tmps:Array Value}{g:G}{Φ:Res→St→Prop}{ν:Nat→Nat}{xs:List Opd}{side:Prop}{row:Nat→List D}
abbrev Str:=List UInt8
structure ZO where
 field:Str
 factor:Int
deriving Inhabited,DecidableEq
structure Wi where
 base:Int
 terms:List ZO
deriving Inhabited,DecidableEq
structure Yb where
 low:Int
 high:Int
 of:Str
deriving Inhabited,DecidableEq
structure Fld where
 name:Str
 kind:Int
 bits:Int
 little:Bool
 loose:Bool
 low:Int
 high:Int
 size:Wi
 of:Str
 tag:Str
 from_:Str
 cases:List Yb
 check:Int
 key:Int
deriving Inhabited,DecidableEq
structure Msg where
 name:Str
 fields:List Fld
deriving Inhabited,DecidableEq
structure Dfn where
 name:Str
 msgs:List Msg
 start:Str
deriving Inhabited,DecidableEq
def slD{α:Type}[Inhabited α](n:Nat)(f:α→List D)(l:List α):D:=.sl .none l.length n (fun i=>f (l.getD i dE))
def eQ1:=@slD.eq_1
def ZO.cells(t:ZO):List D:=[.str t.field,.int .i64 t.factor]
def Yb.cells(c:Yb):List D:=[.int .i64 c.low,.int .i64 c.high,.str c.of]
def Yl(l:List ZO):D:=slD 2 ZO.cells l
def Kl(l:List Yb):D:=slD 3 Yb.cells l
def Wi.cells(s:Wi):List D:=[.int .i64 s.base,Yl s.terms]
def eQ4:=@Wi.cells.eq_1
def Fld.cells(f:Fld):List D:=[.str f.name,.int .i64 f.kind,.int .i64 f.bits,.bool f.little,.bool f.loose,.int .i64 f.low,.int .i64 f.high,.int .i64 f.size.base,Yl f.size.terms,.str f.of,.str f.tag,.str f.from_,Kl f.cases,.int .i64 f.check,.int .i64 f.key]
def eQ0:=@Fld.cells.eq_1
def Zm(l:List Fld):D:=slD 15 Fld.cells l
def Msg.cells(m:Msg):List D:=[.str m.name,Zm m.fields]
def eQ3:=@Msg.cells.eq_1
def WI(l:List Msg):D:=slD 2 Msg.cells l
def Dfn.cells(d:Dfn):List D:=[.str d.name,WI d.msgs,.str d.start]
def eQ2:=@Dfn.cells.eq_1
theorem Wb{α:Type}[Inhabited α]{n:Nat}{f:α→List D}{l:List α}(h:DWf (slD n f l)):l.length≤big∧∀x∈l,∀c∈f x,DWf c:=by
 obtain⟨h1,h2,h3⟩:=h.sl_inv;refine⟨h1,fun x hx c hc=>?_⟩;obtain⟨i,hi,rfl⟩:=ZEe hx;exact h3 i hi c (by simpa[ZEb,hi]using hc)
structure ZO.Wf(t:ZO):Prop where
 field:t.field.length≤big
 factor:inR .i64 t.factor
structure Yb.Wf(c:Yb):Prop where
 low:inR .i64 c.low
 high:inR .i64 c.high
 of:c.of.length≤big
structure Wi.Wf(s:Wi):Prop where
 base:inR .i64 s.base
 nterms:s.terms.length≤big
 terms:∀t∈s.terms,t.Wf
structure Fld.Wf(f:Fld):Prop where
 name:f.name.length≤big
 kind:inR .i64 f.kind
 bits:inR .i64 f.bits
 low:inR .i64 f.low
 high:inR .i64 f.high
 size:f.size.Wf
 of:f.of.length≤big
 tag:f.tag.length≤big
 from_:f.from_.length≤big
 ncases:f.cases.length≤big
 cases:∀c∈f.cases,c.Wf
 check:inR .i64 f.check
 key:inR .i64 f.key
structure Msg.Wf(m:Msg):Prop where
 name:m.name.length≤big
 nfields:m.fields.length≤big
 fields:∀f∈m.fields,f.Wf
structure Dfn.Wf(d:Dfn):Prop where
 name:d.name.length≤big
 nmsgs:d.msgs.length≤big
 msgs:∀m∈d.msgs,m.Wf
 start:d.start.length≤big
theorem ZO.wf_of{t:ZO}(h:∀c∈t.cells,DWf c):t.Wf:=by
 simp only[ZO.cells,ZEz,List.not_mem_nil,or_false,forall_eq_or_imp,forall_eq]at h;exact⟨h.1.str_inv,h.2.int_inv⟩
theorem Yb.wf_of{t:Yb}(h:∀c∈t.cells,DWf c):t.Wf:=by
 simp only[Yb.cells,ZEz,List.not_mem_nil,or_false,forall_eq_or_imp,forall_eq]at h;exact⟨h.1.int_inv,h.2.1.int_inv,h.2.2.str_inv⟩
theorem ZrW{l:List ZO}(h:DWf (Yl l)):l.length≤big∧∀t∈l,t.Wf:=⟨(Wb h).1,fun t ht=>ZO.wf_of ((Wb h).2 t ht)⟩
theorem Zqz{l:List Yb}(h:DWf (Kl l)):l.length≤big∧∀t∈l,t.Wf:=⟨(Wb h).1,fun t ht=>Yb.wf_of ((Wb h).2 t ht)⟩
theorem Fld.wf_of{f:Fld}(h:∀c∈f.cells,DWf c):f.Wf:=by
 simp only[Fld.cells,ZEz,List.not_mem_nil,or_false,forall_eq_or_imp,forall_eq]at h;obtain⟨h1,h2,h3,h4,h5,h6,h7,h8,h9,t,j,u,i,z,n⟩:=h;exact⟨h1.str_inv,h2.int_inv,h3.int_inv,h6.int_inv,h7.int_inv,⟨h8.int_inv,(ZrW h9).1,(ZrW h9).2⟩,t.str_inv,j.str_inv,u.str_inv,(Zqz i).1,(Zqz i).2,z.int_inv,n.int_inv⟩
theorem Zio{l:List Fld}(h:DWf (Zm l)):l.length≤big∧∀t∈l,t.Wf:=⟨(Wb h).1,fun t ht=>Fld.wf_of ((Wb h).2 t ht)⟩
theorem Msg.wf_of{m:Msg}(h:∀c∈m.cells,DWf c):m.Wf:=by
 simp only[Msg.cells,ZEz,List.not_mem_nil,or_false,forall_eq_or_imp,forall_eq]at h;exact⟨h.1.str_inv,(Zio h.2).1,(Zio h.2).2⟩
theorem ZsZ{l:List Msg}(h:DWf (WI l)):l.length≤big∧∀t∈l,t.Wf:=⟨(Wb h).1,fun t ht=>Msg.wf_of ((Wb h).2 t ht)⟩
theorem Dfn.wf_of{m:Dfn}(h:∀c∈m.cells,DWf c):m.Wf:=by
 simp only[Dfn.cells,ZEz,List.not_mem_nil,or_false,forall_eq_or_imp,forall_eq]at h;exact⟨h.1.str_inv,(ZsZ h.2.1).1,(ZsZ h.2.1).2,h.2.2.str_inv⟩
theorem Zzw{s:Fld}(h:DWf (.agg s.cells)):s.Wf:=Fld.wf_of h.agg_inv
theorem ZvV{s:Msg}(h:DWf (.agg s.cells)):s.Wf:=Msg.wf_of h.agg_inv
theorem Zzv{s:Dfn}(h:DWf (.agg s.cells)):s.Wf:=Dfn.wf_of h.agg_inv
theorem ZC{α:Type}[Inhabited α]{l:List α}{i:Nat}(h:i<l.length):l.getD i dE∈l:=by
 simp[ZEb,h]
end Go.DL
namespace Go.DL
open Go
variable [Zqj]
variable {kp:Option (List Nat)}{L:Loc}{ρ:Env}{s:St}{w:World}{os:List DOp}{ds:List D}{B:List (Nat × Rd)}{dst:Option Nat}{tmps:Array Value}{g:G}{Φ:Res→St→Prop}{ν:Nat→Nat}{xs:List Opd}{side:Prop}{row:Nat→List D}
def Zh4(P:Program)(fv:D)(n:Nat)(args:Nat→List D)(t:St):Prop :=
 ∀(l:Nat) (go:Nat→Oc) (A:Nat→St→Prop) (a0:St),Zk0 P (.fn (.yield l) [] []) n args go A→A 0 a0→Z6 a0 t→WN P fv [.fn (.yield l) [] []] (a0.or t) fun r S=>∃a,Zgc n go A a r∧a.sub S
section
variable {P:Program}
theorem Zcr.Y{fv:D}{n:Nat}{args:Nat→List D}{t:St}(h:Zcr P fv n args t):Zh4 P fv n args t:=fun _=>h _
theorem Ka{F:Fr P}{rs:List RV}{dds:List DD}(hF:YK F rs Φ dds){o:Opd}{ps:List Nat}{da db:DC}{dk:List Zh}{p:Prop}{fv:D}(hf:ZE ρ true o=sO (p,.d fv))(hp:p)(ks:List Nat)(hks:(Yj ρ ks).map (·.1) |>.Nodup){a0 t:St}(hd:Z6 a0 t){n:Nat}{args:Nat→List D}(hit:Zh4 P fv n args t)(hlen:∀j,j<n→(args j).length=ps.length)(go:Nat→Oc)(B:Nat→St→Prop)(h0:B 0 a0)(hbody:∀j a,j<n→(∀i,i<j→go i=.next)→B j a→∀(F':Fr P) (ready busy:St),Z6 a ready →
   (∀{dk:List Zh} {ρ:Env} {L:Loc},(Z6 a busy→Zv F' dk ρ L (a.or busy))→Zv F' (.beginR::dk) ρ L (a.or ready)) →
   Zqi F' busy (fun oc a'=>oc=go j∧B (j+1) a')→Zv F' [.code da,.beginR,.code db] (Ws ps (args j) (WG ks ρ)) [] (a.or ready))(hall:∀q a,(∀i,i<n→go i=.next)→B n a→a q=nO→Zv (F.mark q) dk ρ L (a.upd q .dfr))(hret:∀q a m,m<n→(∀i,i<m→go i=.next)→go m=.stop .ret→B (m+1) a→a q=nO→Zv (F.mark q) (.code .ret::dk) ρ L (a.upd q .dfr))(hexit:∀q a m id,m<n→(∀i,i<m→go i=.next)→go m=.stop (.exit id)→B (m+1) a→a q=nO→Zv (F.mark q) (.code (.exit id)::dk) ρ L (a.upd q .dfr))(hpan:∀q a m d,m<n→(∀i,i<m→go i=.next)→go m=.pan d→B (m+1) a→a q=nO→YV (F.mark q) ρ L d (a.upd q .dfr))(hgo:∀m c,go m=.stop c→c=.ret∨∃id,c=.exit id):
  Zv F (.code (.rangeF o ps da db)::dk) ρ L (a0.or t):=by
 refine Zqd hF.roundOf hf hp ks hks fun q l r hq hl z a3 af am ap au aw ao=>?_;have ah:a0 q=nO:=by cases h:a0 q with|none=>rfl|some x=>rw[Zp h]at hq;simp at hq
 have ad:a0 l=nO:=by cases h:a0 l with|none=>rfl|some x=>rw[Zp h]at hl;simp at hl
 have a4:t q=nO:=by rw[ZH ah]at hq;exact hq
 have a7:t l=nO:=by rw[ZH ad]at hl;exact hl
 let stOf:Nat→LSt:=fun j=>match j with
  |0=>.ready
  |j+1=>match go j with
   |.next=>.ready
   |.stop c=>.done c
   |.pan _=>.busy
 let A:Nat→St→Prop:=fun j S=>∃a,B j a∧Z6 a (lpS q l r .ready)∧S=a.or (lpS q l r (stOf j));have ar:Z6 a0 (lpS q l r .ready):=fun b o hb=>by by_cases h1:b=q;rw[h1];exact ah;by_cases h2:b=l;rw[h2];exact ad;rw[Zeu h1 h2]at hb;simp at hb
 have aq:(((a0.or t).upd q .dfr).upd l (.loop r .ready))=(a0.or (lpS q l r .ready)).or t:=by
  funext b;simp only[ZEv];by_cases h2:b=l;subst h2;rw[if_pos rfl,Zp (s:=a0.or _) (by rw[ZH ad];exact Qa z)];rw[if_neg h2];by_cases h1:b=q;subst h1;rw[if_pos rfl,Zp (s:=a0.or _) (by rw[ZH ah];exact Zae)];rw[if_neg h1];cases ha:a0 b with
  |some x=>rw[Zp ha,Zp (Zp ha)]
  |none=>rw[ZH ha,ZH (s:=a0.or _) (by rw[ZH ha];exact Zeu h1 h2)]
 have av:Z6 (a0.or (lpS q l r .ready)) t:=fun b o hb=>by rw[ZH (hd b o hb)];exact Zeu (fun e=>by rw[e,a4]at hb;simp at hb) (fun e=>by rw[e,a7]at hb;simp at hb)
 have al:=hF.ex;have ag:Zk0 P (.fn (.yield l) [] []) n args go A:=by
  rintro j hj aj S ⟨a,a6,u,rfl⟩;have ay:stOf j=.ready:=by
   cases j with
   |zero=>rfl
   |succ j=>simp only[stOf,aj j (by omega)]
  rw[ay];refine Zpq (an:=F.an) (N:=F.N) (r:=r) (by rw[ZH (u l _ (Qa z))];exact Qa z) (by rw[af];exact hlen j hj) ap au aw (by rw[af];exact ao) fun F' ak a5=>?_;rw[a3,af];refine hbody j a hj aj a6 F' (lpS q l r .ready) (lpS q l r .busy) u (fun hk=>ak.begin (r:=r) (by rw[ZH (u l _ (Qa z))];exact Qa z) ?_) ?_
  ·have e:(a.or (lpS q l r .ready)).upd l (.loop r .busy)=a.or (lpS q l r .busy):=by
    funext b;simp only[ZEv];by_cases h2:b=l;subst h2;rw[if_pos rfl,ZH (u b _ (Qa z)),Qa z];rw[if_neg h2];by_cases h1:b=q;subst h1;rw[ZH (u b _ Zae),ZH (u b _ Zae),Zae,Zae];cases ha:a b with
    |some x=>rw[Zp ha,Zp ha]
    |none=>rw[ZH ha,ZH ha,Zeu h1 h2,Zeu h1 h2]
   rw[e];exact hk (Zrg u z)
  refine Zsk ak z (by rw[a5,am];exact al) ?_;rintro oc a' ⟨rfl,ax⟩ ai;exact⟨rfl,a',ax,Zrg ai z,rfl⟩
 refine⟨_,by rw[aq];exact hit _ go A _ ag ⟨a0,h0,ar,rfl⟩ av,?_,?_⟩
 ·rintro d S ⟨S',ac,ab⟩;have fin:∀a,Z6 a (lpS q l r .ready)→∀st,(a.or (lpS q l r st)).sub S→S l=sO (.loop r st)∧(a.upd q .dfr).sub (S.del l)∧a q=nO:=fun a u st hs=>by
   refine⟨hs l _ (by rw[ZH (u l _ (Qa z))];exact Qa z),fun b o hb=>?_,u q _ Zae⟩;have az:b≠l:=fun e=>by subst e;rw[ZD6 _ _ (Ne.symm z),u b _ (Qa z)]at hb;simp at hb
   simp only[St.del,az,if_false];by_cases h1:b=q;subst h1;rw[ZD4]at hb;exact hs b o (by rw[ZH (u b _ Zae),Zae];exact hb);rw[ZD6 _ _ h1]at hb;exact hs b o (Zp hb)
  cases ac with
  |all h ha =>
   obtain⟨a,hB,u,rfl⟩:=ha;have ae:stOf n=.ready:=by
    cases n with
    |zero=>rfl
    |succ n=>simp only[stOf,h n (by omega)]
   rw[ae]at ab;obtain⟨f1,f2,f3⟩:=fin a u _ ab;exact .inl ⟨f1,Kc f2 (hall q a h hB f3)⟩
  |stop m c hm h hc ha =>
   obtain⟨a,hB,u,rfl⟩:=ha;have ae:stOf (m+1)=.done c:=by simp only[stOf,hc]
   rw[ae]at ab;obtain⟨f1,f2,f3⟩:=fin a u _ ab;rcases hgo m c hc with rfl|⟨id,rfl⟩;exact .inr ⟨.ret,.ret,f1,rfl,Kc f2 (hret q a m hm h hc hB f3)⟩;exact .inr ⟨.exit id,.exit id,f1,rfl,Kc f2 (hexit q a m id hm h hc hB f3)⟩
 rintro d S ⟨S',ac,ab⟩;cases ac with
 |pan m d hm h hc ha =>
  obtain⟨a,hB,u,rfl⟩:=ha;have hs:(a.upd q .dfr).sub S:=fun b o hb=>by by_cases h1:b=q;subst h1;rw[ZD4]at hb;exact ab b o (by rw[ZH (u b _ Zae),Zae];exact hb);rw[ZD6 _ _ h1]at hb;exact ab b o (Zp hb)
  exact ZtD hs (hpan q a m d hm h hc hB (u q _ Zae))
end
theorem gR0{A B:Prop}(k:B)(h:Hid B→A:=by
 intro hk;first|refine Zl ?_|refine Y8 ?_|refine Yy ?_
 simp only[Eqs,reduceCtorEq,Int.reduceToNat,reduceIte,Nat.reduceEqDiff,Nat.reduceAdd,Nat.reduceLeDiff];exact hk.out):A:=h ⟨k⟩
theorem gQ{p:Prop}(e:p){A B:Prop}(k:B)(h:p→Hid B→A:=by
 intro e1 hk;first|refine Zl ?_|refine Y8 ?_|refine Yy ?_
 simp only[Eqs,reduceCtorEq,Int.reduceToNat,reduceIte,Nat.reduceEqDiff,Nat.reduceAdd,Nat.reduceLeDiff,e1];exact hk.out):A:=h e ⟨k⟩
theorem kF{A B:Prop}(k:B)(h:Hid B→A:=by
 intro hk;refine And.intro (by first|trivial|exact⟨rfl,trivial⟩|simp[Y0,KA,YO,J6]) ?_;exact hk.out):A:=h ⟨k⟩
theorem cX{p q:Prop}(e:p)(c:q){A B:Prop}(k:B)(h:p→q→Hid B→A:=by
 intro e1 hc hk;refine Zbk rfl rfl rfl rfl rfl (by trivial) (by trivial) hc (Zl ?_);simp only[Eqs,reduceCtorEq,Int.reduceToNat,reduceIte,Nat.reduceEqDiff,Nat.reduceAdd,Nat.reduceLeDiff,e1];exact hk.out):A:=h e c ⟨k⟩
theorem tX{p q:Prop}(e:p)(c:q){A B:Prop}(k:B)(h:p→q→Hid B→A:=by
 intro e1 hc hk;refine QT rfl rfl rfl rfl rfl (by trivial) (by trivial) hc (Zl ?_);simp only[Eqs,reduceCtorEq,Int.reduceToNat,reduceIte,Nat.reduceEqDiff,Nat.reduceAdd,Nat.reduceLeDiff,e1];exact hk.out):A:=h e c ⟨k⟩
theorem cG{q:Prop}(c:q){A B:Prop}(k:B)(h:q→Hid B→A:=by
 intro hc hk;refine ZoB rfl rfl rfl rfl rfl (fun hcg=>⟨by first|trivial|(simpa[ZhG]using hcg),trivial,hc⟩) (Zl ?_);simp only[Eqs,reduceCtorEq,Int.reduceToNat,reduceIte,Nat.reduceEqDiff,Nat.reduceAdd,Nat.reduceLeDiff];exact hk.out):A:=h c ⟨k⟩
theorem cW{q:Prop}(c:q){A B:Prop}(k:B)(h:q→Hid B→A:=by
 intro hc hk;refine Ztv rfl rfl rfl rfl rfl (by trivial) (by trivial) hc (Zl ?_);simp only[Eqs,reduceCtorEq,Int.reduceToNat,reduceIte,Nat.reduceEqDiff,Nat.reduceAdd,Nat.reduceLeDiff];exact hk.out):A:=h c ⟨k⟩
theorem cV{q:Prop}(c:q){A B C:Prop}(k:B)(k2:C)(h:q→Hid B→Hid C→A:=by
 intro hc hk hk2;exact Zgb rfl rfl rfl rfl rfl (by trivial) (by trivial) hc hk.out hk2.out):A:=h c ⟨k⟩ ⟨k2⟩
theorem vV{q:Prop}(c:q){A B C:Prop}(k:B)(k2:C)(h:q→Hid B→Hid C→A:=by
 intro hc hk hk2;exact Zed rfl rfl rfl rfl rfl (by trivial) (by trivial) hc hk.out hk2.out):A:=h c ⟨k⟩ ⟨k2⟩
theorem cV0{q:Prop}(c:q){A B C:Prop}(k:B)(k2:C)(h:q→Hid B→Hid C→A:=by
 intro hc hk hk2;exact Zu4 rfl rfl rfl rfl rfl (by trivial) (by trivial) hc hk.out hk2.out):A:=h c ⟨k⟩ ⟨k2⟩
theorem vV0{q:Prop}(c:q){A B C:Prop}(k:B)(k2:C)(h:q→Hid B→Hid C→A:=by
 intro hc hk hk2;exact ZlT rfl rfl rfl rfl rfl (by trivial) (by trivial) hc hk.out hk2.out):A:=h c ⟨k⟩ ⟨k2⟩
theorem cXD{p q:Prop}(e:p)(c:q){A B:Prop}(k:B)(h:p→q→Hid B→A:=by
 intro e1 hc hk;refine ZhZ rfl rfl rfl rfl rfl (by trivial) (by trivial) hc (Yy ?_);simp only[Eqs,reduceCtorEq,Int.reduceToNat,reduceIte,Nat.reduceEqDiff,Nat.reduceAdd,Nat.reduceLeDiff,e1];exact hk.out):A:=h e c ⟨k⟩
theorem tXD{p q:Prop}(e:p)(c:q){A B:Prop}(k:B)(h:p→q→Hid B→A:=by
 intro e1 hc hk;refine Zh0 rfl rfl rfl rfl rfl (by trivial) (by trivial) hc (by first|trivial|exact⟨rfl,trivial⟩|simp[Y0,KA]) (Yy ?_);simp only[Eqs,reduceCtorEq,Int.reduceToNat,reduceIte,Nat.reduceEqDiff,Nat.reduceAdd,Nat.reduceLeDiff,e1];exact hk.out):A:=h e c ⟨k⟩
theorem cGD{q:Prop}(c:q){A B:Prop}(k:B)(h:q→Hid B→A:=by
 intro hc hk;refine Ztt rfl rfl rfl rfl rfl (fun hcg=>⟨by first|trivial|(simpa[ZhG]using hcg),trivial,hc⟩) (Yy ?_);simp only[Eqs,reduceCtorEq,Int.reduceToNat,reduceIte,Nat.reduceEqDiff,Nat.reduceAdd,Nat.reduceLeDiff];exact hk.out):A:=h c ⟨k⟩
theorem cWD{q:Prop}(c:q){A B:Prop}(k:B)(h:q→Hid B→A:=by
 intro hc hk;refine Zzd rfl rfl rfl rfl rfl (by trivial) (by trivial) hc (by first|trivial|exact⟨rfl,trivial⟩|simp[Y0,KA]) (Yy ?_);simp only[Eqs,reduceCtorEq,Int.reduceToNat,reduceIte,Nat.reduceEqDiff,Nat.reduceAdd,Nat.reduceLeDiff];exact hk.out):A:=h c ⟨k⟩
theorem cVD{q:Prop}(c:q){A B C:Prop}(k:B)(k2:C)(h:q→Hid B→Hid C→A:=by
 intro hc hk hk2;exact ZgP rfl rfl rfl rfl rfl (by trivial) (by trivial) hc hk.out hk2.out):A:=h c ⟨k⟩ ⟨k2⟩
theorem vVD{q:Prop}(c:q){A B C:Prop}(k:B)(k2:C)(h:q→Hid B→Hid C→A:=by
 intro hc hk hk2;exact Zc4 rfl rfl rfl rfl rfl (by trivial) (by trivial) hc hk.out hk2.out):A:=h c ⟨k⟩ ⟨k2⟩
theorem gA{A B:Prop}(k:B)(h:Hid B→A:=by
 intro hq;repeat(first|refine Zb ?_|refine Zj ?_|refine Z4 ?_|refine Zy ?_|refine Yw ?_|refine Zc ?_|refine Ym ?_|refine ZQ rfl ?_)
 first|refine rgR (by conv=>lhs;whnf) (by conv=>lhs;whnf) (Zl ?_)|refine Zho (by conv=>lhs;whnf) (by conv=>lhs;whnf) (Y8 ?_)|refine rgD (by conv=>lhs;whnf) (by conv=>lhs;whnf) (Yy ?_)
 simp only[Eqs,reduceCtorEq,Int.reduceToNat,reduceIte,Nat.reduceEqDiff,Nat.reduceAdd,Nat.reduceLeDiff];repeat(refine And.intro (by first|omega|trivial|(intro h0;simp at h0;omega)) ?_)
 exact hq.out):A:=h ⟨k⟩
theorem xA{p:Prop}(e:p){A B:Prop}(k:B)(h:p→Hid B→A:=by
 intro e1 hq;repeat(first|refine Zb ?_|refine Zj ?_|refine Z4 ?_|refine Zy ?_|refine Yw ?_|refine Zc ?_|refine Ym ?_|refine ZQ rfl ?_)
 first|refine rgR (by conv=>lhs;whnf) (by conv=>lhs;whnf) (Zl ?_)|refine Zho (by conv=>lhs;whnf) (by conv=>lhs;whnf) (Y8 ?_)|refine rgD (by conv=>lhs;whnf) (by conv=>lhs;whnf) (Yy ?_)
 simp only[Eqs,reduceCtorEq,Int.reduceToNat,reduceIte,Nat.reduceEqDiff,Nat.reduceAdd,Nat.reduceLeDiff,e1];repeat(refine And.intro (by first|omega|trivial|(intro h0;simp at h0;omega)) ?_)
 exact hq.out):A:=h e ⟨k⟩
theorem gG{A B:Prop}(k:B)(h:Hid B→A:=by
 intro hq;repeat(first|refine Zb ?_|refine Zj ?_|refine Z4 ?_|refine Zy ?_|refine Yw ?_|refine Zc ?_|refine Ym ?_|refine ZQ rfl ?_)
 first|refine rgR (by conv=>lhs;whnf) (by conv=>lhs;whnf) (Zl ?_)|refine Zho (by conv=>lhs;whnf) (by conv=>lhs;whnf) (Y8 ?_)|refine rgD (by conv=>lhs;whnf) (by conv=>lhs;whnf) (Yy ?_)
 simp only[Eqs,reduceCtorEq,Int.reduceToNat,reduceIte,Nat.reduceEqDiff,Nat.reduceAdd,Nat.reduceLeDiff];repeat(first|refine Zb ?_|refine Zj ?_|refine Z4 ?_|refine Zy ?_|refine Yw ?_|refine Zc ?_|refine Ym ?_|refine ZQ rfl ?_)
 first|refine rgR (by conv=>lhs;whnf) (by conv=>lhs;whnf) (Zl ?_)|refine Zho (by conv=>lhs;whnf) (by conv=>lhs;whnf) (Y8 ?_)|refine rgD (by conv=>lhs;whnf) (by conv=>lhs;whnf) (Yy ?_)
 simp only[Eqs,reduceCtorEq,Int.reduceToNat,reduceIte,Nat.reduceEqDiff,Nat.reduceAdd,Nat.reduceLeDiff];exact hq.out):A:=h ⟨k⟩
theorem iG{A B:Prop}(k:B)(h:Hid B→A:=by
 intro hq;repeat(first|refine Zb ?_|refine Zj ?_|refine Z4 ?_|refine Zy ?_|refine Yw ?_|refine Zc ?_|refine Ym ?_|refine ZQ rfl ?_)
 refine Zu rfl trivial (fun h=>by first|(simp at h;done)|(rw[hk]at h;simp at h;done)) (fun _=>?_);repeat(first|refine Zb ?_|refine Zj ?_|refine Z4 ?_|refine Zy ?_|refine Yw ?_|refine Zc ?_|refine Ym ?_|refine ZQ rfl ?_)
 first|refine rgR (by conv=>lhs;whnf) (by conv=>lhs;whnf) (Zl ?_)|refine Zho (by conv=>lhs;whnf) (by conv=>lhs;whnf) (Y8 ?_)|refine rgD (by conv=>lhs;whnf) (by conv=>lhs;whnf) (Yy ?_)
 simp only[Eqs,reduceCtorEq,Int.reduceToNat,reduceIte,Nat.reduceEqDiff,Nat.reduceAdd,Nat.reduceLeDiff];exact hq.out):A:=h ⟨k⟩
theorem gI{A B:Prop}(k:B)(h:Hid B→A:=by
 intro hq;repeat(first|refine Zb ?_|refine Zj ?_|refine Z4 ?_|refine Zy ?_|refine Yw ?_|refine Zc ?_|refine Ym ?_|refine ZQ rfl ?_)
 first|refine rgR (by conv=>lhs;whnf) (by conv=>lhs;whnf) (Zl ?_)|refine Zho (by conv=>lhs;whnf) (by conv=>lhs;whnf) (Y8 ?_)|refine rgD (by conv=>lhs;whnf) (by conv=>lhs;whnf) (Yy ?_)
 simp only[Eqs,reduceCtorEq,Int.reduceToNat,reduceIte,Nat.reduceEqDiff,Nat.reduceAdd,Nat.reduceLeDiff];repeat(first|refine Zb ?_|refine Zj ?_|refine Z4 ?_|refine Zy ?_|refine Yw ?_|refine Zc ?_|refine Ym ?_|refine ZQ rfl ?_)
 refine Zu rfl trivial (fun h=>by first|(simp at h;done)|(rw[hk]at h;simp at h;done)) (fun _=>?_);exact hq.out):A:=h ⟨k⟩
section
variable {P:Program} {F:Fr P} {dk:List Zh} {ρ:Env} {L:Loc} {s:St}
theorem xP{A:Prop}{t:St}{B:Nat→Prop}(l:Nat)(k:∀b,t b=nO→B b)(h:∀n,n=l→(∀b,t b=nO→Hid (B b))→A:=by
 intro n hn hk;refine ZcO n (by rw[hn];rfl) fun b hb=>?_;simp only[hn,Eqs,reduceCtorEq,Int.reduceToNat,reduceIte,Nat.reduceEqDiff,Nat.reduceAdd,Nat.reduceLeDiff,Jp,QE,delL];exact(hk b hb).out):A:=h l rfl fun b hb=>⟨k b hb⟩
theorem kE{A B:Prop}(l:List Nat)(k:B)(h:∀n,n=l→Hid B→A:=by
 intro n hn hk;refine ZoC n ?_;simp only[hn,Eqs,reduceCtorEq,Int.reduceToNat,reduceIte,Nat.reduceEqDiff,Nat.reduceAdd,Nat.reduceLeDiff];exact hk.out):A:=h l rfl ⟨k⟩
end
end Go.DL
namespace Go.DL
open Go Go.Proofs
variable {kp:Option (List Nat)}{L:Loc}{ρ:Env}{s:St}{w:World}{os:List DOp}{ds:List D}{B:List (Nat × Rd)}{dst:Option Nat}{tmps:Array Value}{g:G}{Φ:Res→St→Prop}{ν:Nat→Nat}{xs:List Opd}{side:Prop}{row:Nat→List D}
def ZiB(c:UInt8):Bool:=(dC ((65:Int)≤c.toNat)&&dC ((c.toNat:Int)≤90)) ||(dC ((97:Int)≤c.toNat)&&dC ((c.toNat:Int)≤122))
def ZtR(c:UInt8):Bool:=dC ((48:Int)≤c.toNat)&&dC ((c.toNat:Int)≤57)
def Zfl(c:UInt8):Bool:=ZiB c ||ZtR c ||decide ((c.toNat:Int)=95)
def YZ(s:Str):Bool:=match s with
 | []=>false
 |c::_=>dC (s.length≤32)&&ZiB c&&s.all Zfl
def Zdr(v:Int):Bool:=dC (-1048576≤v)&&dC (v≤1048576)
end Go.DL
namespace Go.DL
open Go
variable {kp:Option (List Nat)}{L:Loc}{ρ:Env}{s:St}{w:World}{os:List DOp}{ds:List D}{B:List (Nat × Rd)}{dst:Option Nat}{tmps:Array Value}{g:G}{Φ:Res→St→Prop}{ν:Nat→Nat}{xs:List Opd}{side:Prop}{row:Nat→List D}
theorem Zap{α:Type}[Inhabited α]{l:List α}{k:Nat}(h:k<l.length):l.drop k=l.getD k dE::l.drop (k+1):=by
 rw[List.drop_eq_getElem_cons h];simp[ZEb,h]
theorem YJ{α:Type}[Inhabited α]{l:List α}{k:Nat}(h:k<l.length):l.take (k+1)=l.take k++[l.getD k dE]:=by
 rw[List.take_succ_eq_append_getElem h];simp[ZEb,h]
def Z0{α:Type}[Inhabited α](f:α→List D)(row:Nat→List D)(l:List α):Prop:=∀i,i<l.length→row i=f (l.getD i dE)
section
variable {α:Type} [Inhabited α] {f:α→List D} {row row2:Nat→List D} {l a b:List α}
theorem Z0.self:Z0 f (fun i=>f (l.getD i dE)) l:=fun _ _=>rfl
theorem Z0.nil:Z0 f row []:=fun i h=>absurd h (Nat.not_lt_zero i)
theorem Z0.one{x:α}(h:row 0=f x):Z0 f row [x]:=fun i hi=>by
 obtain rfl:i=0:=by simp at hi;exact hi
 exact h
theorem Z0.app{n:Nat}(h:Z0 f row a)(h2:Z0 f row2 b)(hn:n=a.length):Z0 f (YG n row row2) (a++b):=fun i hi=>by
 subst hn;unfold YG;split;rename_i h1;rw[h i h1];simp[ZEb,ZEt h1];rename_i h1;rw[h2 (i-a.length) (by simp at hi;omega)];simp[ZEb,ZEH (Nat.not_lt.1 h1)]
theorem Z0.snoc{n:Nat}{x:α}(h:Z0 f row a)(h2:row2 0=f x)(hn:n=a.length):Z0 f (YG n row row2) (a++[x]):=h.app (.one h2) hn
theorem Z0.take(h:Z0 f row l)(k:Nat):Z0 f row (l.take k):=fun i hi=>by
 rw[ZEh]at hi;rw[h i (by omega)];simp[ZEb,List.getElem?_take_of_lt (show i<k by omega)]
theorem Z0.le{t:Tok}{n s:Nat}(h:Z0 f row l)(hn:n=l.length):(D.sl t n s row).Le (slD s f l):=ZtB hn fun i hi=>h i (by omega)
end
open Go.Proofs
def Jm(t:ZO):Bool:=YZ t.field&&!dC (t.factor=0)&&Zdr t.factor
def ZaU:List Str→List ZO→Bool
 |_,[]=>true
 |seen,t::r=>Jm t&&!dC (t.field∈seen)&&ZaU (seen++[t.field]) r
def ZU(s:Wi):Bool:=Zdr s.base&&dC (s.terms.length≤4)&&ZaU [] s.terms
abbrev ZbK:=Str→Option (Int×Int)
def Zbp(r:Int×Int):Bool:=dC (r.1<0) ||decide (r.2<r.1) ||decide (34359738368≤r.2)
def K8(look:ZbK)(t:ZO):Bool:=match look t.field with|some r=>Zbp r|none=>false
def Je(look:ZbK)(t:ZO):Bool:=(look t.field).isNone
def ZbZ(s:Wi)(look:ZbK):Int:=if ZU s=false then 2 else if s.terms.any (K8 look) then 2 else if s.terms.any (Je look) then 9 else 0
def ZgZ(look:ZbK)(t:ZO):Int×Int:=(look t.field).getD (0,0)
def loT(look:ZbK)(t:ZO):Int:=if 0<t.factor then t.factor*(ZgZ look t).1 else t.factor*(ZgZ look t).2
def hiT(look:ZbK)(t:ZO):Int:=if 0<t.factor then t.factor*(ZgZ look t).2 else t.factor*(ZgZ look t).1
def loS(look:ZbK):List ZO→Int
 | []=>0
 |t::r=>loT look t+loS look r
def hiS(look:ZbK):List ZO→Int
 | []=>0
 |t::r=>hiT look t+hiS look r
def Jr(s:Wi)(look:ZbK):Int×Int×Int:=if ZbZ s look=0 then (s.base+loS look s.terms,s.base+hiS look s.terms,0) else (0,0,ZbZ s look)
theorem ZwK{α:Type}[Inhabited α]{p:α→Bool}{l:List α}{i:Nat}(h:i<l.length):(l.take (i+1)).any p=((l.take i).any p ||p (l.getD i dE)):=by
 rw[YJ h,List.any_append];simp
theorem Zzm{α:Type}[Inhabited α]{p:α→Bool}{l:List α}{i:Nat}(h:i<l.length)(hp:p (l.getD i dE)=true):l.any p=true :=
 List.any_eq_true.2 ⟨_,ZC h,hp⟩
theorem Zt2{α β:Type}[Inhabited α]{f:β→α→β}{b:β}{l:List α}{i:Nat}(h:i<l.length):(l.take (i+1)).foldl f b=f ((l.take i).foldl f b) (l.getD i dE):=by
 rw[YJ h,List.foldl_append];rfl
def Zi{α:Type}(p:α→Bool):List α→Int
 | []=>-1
 |x::r=>if p x then 0 else if Zi p r<0 then -1 else Zi p r+1
theorem WP{α:Type}{p:α→Bool}{l:List α}(h:∀x∈l,p x=false):Zi p l=-1:=by
 induction l with
 |nil=>rfl
 |cons x r ih=>simp[Zi,h x (by simp),ih (fun y hy=>h y (by simp[hy]))]
theorem Kj{α:Type}[Inhabited α]{p:α→Bool}{l:List α}{i:Nat}(hi:i<l.length)(hp:p (l.getD i dE)=true)(h:∀j,j<i→p (l.getD j dE)=false):Zi p l=i:=by
 induction l generalizing i with
 |nil=>simp at hi
 |cons x r ih =>
  cases i with
  |zero=>simp at hp;simp[Zi,hp]
  |succ i =>have h0:=h 0 (by omega);have:=ih (i:=i) (by simpa using hi) (by simpa using hp) (fun j hj=>by simpa using h (j+1) (by omega));simp at h0;simp[Zi,h0,this];omega
theorem Zar{α:Type}(p:α→Bool)(l:List α):-1≤Zi p l:=by
 induction l with
 |nil=>simp[Zi]
 |cons x r ih=>simp only[Zi];split<;>(try split)<;>omega
theorem Wv{α:Type}(p:α→Bool)(l:List α):Zi p l<l.length:=by
 induction l with
 |nil=>simp[Zi]
 |cons x r ih=>simp only[Zi,ZEf];split<;>(try split)<;>omega
theorem ZbX{α:Type}{p:α→Bool}{l:List α}(h:Zi p l<0):∀x∈l,p x=false:=by
 induction l with
 |nil=>simp
 |cons x r ih =>have:=Zar p r;simp only[Zi]at h;split at h;omega;rename_i hx;split at h;rename_i hr;intro y hy;rcases List.mem_cons.1 hy with rfl|hy;simpa using hx;exact ih hr y hy;omega
theorem QY{α:Type}[Inhabited α]{p:α→Bool}{l:List α}(h:0≤Zi p l):p (l.getD (Zi p l).toNat dE)=true∧∀j,j<(Zi p l).toNat→p (l.getD j dE)=false:=by
 induction l with
 |nil=>simp[Zi]at h
 |cons x r ih =>
  have:=Zar p r;by_cases hx:p x=true;simp[Zi,hx];simp only[Zi,hx,if_false,ZEq]at h⊢;by_cases hr:Zi p r<0;simp[hr]at h;rw[if_neg hr];obtain⟨h1,h2⟩:=ih (by omega);rw[show(Zi p r+1).toNat=(Zi p r).toNat+1 by omega];refine⟨by simpa using h1,fun j hj=>?_⟩;cases j with
  |zero=>simpa using hx
  |succ j=>simpa using h2 j (by omega)
theorem Q3{α:Type}[Inhabited α]{l:List α}{n j:Nat}(h:j<n):(l.take n).getD j dE=l.getD j dE:=by
 simp[ZEb,List.getElem?_take_of_lt h]
def ZF(d:Dfn)(s:Str)(n:Nat):Int:=Zi (fun m=>dC (m.name=s)) (d.msgs.take n)
def Q5(m:Msg)(s:Str)(n:Nat):Int:=Zi (fun f=>dC (f.name=s)) (m.fields.take n)
def KK(f:Fld)(tag:Int):Int:=Zi (fun c=>dC (c.low≤tag)&&dC (tag≤c.high)) f.cases
def YF(f:Fld):Bool:=dC (1≤f.kind)&&dC (f.kind≤3)
def Kn(f:Fld):Int×Int:=if f.kind=2 then (f.low,f.low) else (f.low,f.high)
def Zp2(a b:Int):Bool:=dC (0≤a)&&(dC (a≤b)&&dC (b<34359738368))
def ZuY:List Str:=[[],[98,108,120,104],[98,108,120],[111,120,104],[115],[120,104],[111,104],[102,115],[102],[116,99],[98],[114,107],[102,115,121]]
def Znt(k:Int):Str:=ZuY.getD k.toNat []
def ZbY(s:Str)(c:UInt8):Bool:=dC (c∈s)
def zrA(u:Str)(f:Fld):Bool:=(ZbY u 98 ||decide (f.bits=0))&&((ZbY u 108||!f.little)&&((ZbY u 111||!f.loose)&&((ZbY u 120 ||decide (f.low=0))&&(ZbY u 104 ||decide (f.high=0)))))
def zrB(u:Str)(f:Fld):Bool:=(ZbY u 115 ||(dC (f.size.base=0)&&dC (f.size.terms.length=0)))&&((ZbY u 102 ||decide (f.of=[]))&&((ZbY u 116 ||decide (f.tag=[]))&&(ZbY u 114 ||decide (f.from_=[]))))
def zrC(u:Str)(f:Fld):Bool:=(ZbY u 99 ||decide (f.cases.length=0))&&((ZbY u 107 ||decide (f.check=0))&&(ZbY u 121 ||decide (f.key=0)))
def Zkd(f:Fld):Bool:=zrA (Znt f.kind) f&&(zrB (Znt f.kind) f&&zrC (Znt f.kind) f)
def Zd5(f:Fld):Bool:=dC (f.bits<1) ||(dC (32<f.bits) ||(f.little&&(!dC (f.bits=16)&&(!dC (f.bits=24)&&!dC (f.bits=32)))))
def ZlN(f:Fld):Int:=if f.kind=2 then f.low else f.high
def Zrl(f:Fld):Bool:=dC (f.low<0) ||(dC (ZlN f<f.low) ||decide (2 ^ f.bits.toNat≤ZlN f))
def ZaM(f:Fld):Int:=if Zd5 f then 6 else if Zrl f then 7 else 0
theorem Zz7{b:Int}(h0:0≤b)(h1:b≤32):ZlI .i64 1 b=2 ^ b.toNat:=by
 unfold ZlI;rw[show Nat.min b.toNat IntKind.i64.bits=b.toNat from Nat.min_eq_left (show b.toNat≤IntKind.i64.bits by simp[IntKind.bits];omega)];simp
theorem Zfy{b:Int}(h0:0≤b)(h1:b≤32):(0:Int)<2 ^ b.toNat∧(2:Int) ^ b.toNat≤4294967296:=by
 have h:=Nat.pow_le_pow_right (n:=2) (by omega) (show b.toNat≤32 by omega);have h2:=Nat.two_pow_pos b.toNat;rw[show(2:Int) ^ b.toNat=((2 ^ b.toNat:Nat):Int) from(Int.natCast_pow 2 b.toNat).symm];generalize 2 ^ b.toNat=x at h h2⊢;omega
def Ztk(m:Msg)(s:Str)(n:Nat):Bool:=(m.fields.take n).any fun f=>dC (f.kind=9)&&dC (f.tag=s)
def Zeh(d:Dfn)(at_:Nat)(high:Int):Int→List Yb→Int
 |_,[]=>0
 |low,c::r=>if dC (c.low<low) ||(dC (c.high<c.low) ||decide (high<c.high)) then 7 else if ZF d c.of at_<0 then 8 else Zeh d at_ high (c.high+1) r
def Zqy(d:Dfn)(at_:Nat)(f:Fld)(low high:Int):Int:=if dC (f.cases.length<1) ||decide (40<f.cases.length) then 3 else Zeh d at_ high low f.cases
def Wu(fs:List Fld):ZbK:=fun s=>if Zi (fun f=>dC (f.name=s)) fs<0 then nO else if YF (fs.getD (Zi (fun f=>dC (f.name=s)) fs).toNat dE) then sO (Kn (fs.getD (Zi (fun f=>dC (f.name=s)) fs).toNat dE)) else nO
def Zdo(fs:List Fld)(s:Wi):Int:=if ZU s=false then 9 else if s.terms.any (Je (Wu fs)) then 8 else if !dC ((Jr s (Wu fs)).2.2=0) ||(dC ((Jr s (Wu fs)).1<0) ||decide (1048576<(Jr s (Wu fs)).2.1)) then 9 else 0
def ZaR(l:List Str):D:=slD 1 (fun s=>[.str s]) l
def ZaA(f:Fld):List Str:=if dC (f.kind=7) ||(dC (f.kind=8) ||decide (f.kind=12)) then [f.of] else []
def Ys(f:Fld):List Str:=ZaA f++if f.kind=9 then f.cases.map (·.of) else []
def ZbO(out:List Str)(s:Str):List Str:=if s∈out then out else out++[s]
def W4(m:Msg):List Str:=(m.fields.flatMap Ys).foldl ZbO []
theorem Zr4(out:List Str)(s:Str):(ZbO out s).length≤out.length+1:=by unfold ZbO;split<;>simp
theorem Zkf(l out:List Str):(l.foldl ZbO out).length≤out.length+l.length:=by
 induction l generalizing out with
 |nil=>simp
 |cons x r ih=>have:=ih (ZbO out x);have:=Zr4 out x;simp only[List.foldl_cons,ZEf];omega
theorem ZhR(l:List Fld)(i:Nat):((l.take i).flatMap Ys).length≤(l.flatMap Ys).length:=by
 conv=>rhs;rw[←List.take_append_drop i l,List.flatMap_append,ZD8]
 omega
theorem Zke(l:List Fld)(i:Nat)(hi:i<l.length):(l.take (i+1)).flatMap Ys=(l.take i).flatMap Ys++Ys (l.getD i dE):=by
 rw[YJ hi,List.flatMap_append];simp
def ZeV(d:Dfn)(m:Msg)(prev:List Bool):Bool:=m.fields.all (fun f=>!f.loose)&&(W4 m).all fun s=>prev.getD (ZF d s prev.length).toNat dE
def Kt(d:Dfn):Nat→List Bool
 |0=>[]
 |n+1=>Kt d n++[ZeV d (d.msgs.getD n dE) (Kt d n)]
theorem Zcl(d:Dfn)(n:Nat):(Kt d n).length=n:=by
 induction n with
 |zero=>rfl
 |succ n ih=>simp[Kt,ih]
structure ZAd(d:Dfn)(j:Nat):Prop where
 few:((d.msgs.getD j default).fields.flatMap Ys).length≤1000000
 ref:∀s∈W4 (d.msgs.getD j default),0≤ZF d s j
theorem Zqp{α:Type}[Inhabited α]{p:α→Bool}{l:List α}{i:Nat}(h:i<l.length):(l.take (i+1)).all p=((l.take i).all p&&p (l.getD i dE)):=by
 rw[YJ h,List.all_append];simp
def ZmM(f:Fld):Bool:=!dC (f.bits=2)&&(!dC (f.bits=4)&&(dC (f.bits<8) ||(dC (512<f.bits)||!dC (Int.tmod f.bits 8=0))))
def Zig(m:Msg)(i:Nat)(f:Fld):Bool:=dC (Q5 m f.tag i<0) ||(!YF (m.fields.getD (Q5 m f.tag i).toNat dE) ||Ztk m f.tag i)
def Zor(d:Dfn)(at_:Nat)(f:Fld):Bool:=dC (ZF d f.of at_<0)||!(Kt d at_).getD (ZF d f.of at_).toNat dE
def Zaw(d:Dfn)(at_:Nat)(m:Msg)(i:Nat)(f:Fld):Int :=
 if f.kind=1 then ZaM f else if f.kind=2 then ZaM f
 else if f.kind=3 then (if Zp2 f.low f.high then 0 else 7)
 else if f.kind=4 then Zdo (m.fields.take i) f.size
 else if f.kind=5 then (if dC (f.low<0) ||(dC (255<f.low) ||(dC (f.high<0) ||decide (1048576<f.high))) then 7 else 0)
 else if f.kind=6 then (if dC (f.high<2) ||decide (1048576<f.high) then 7 else 0)
 else if f.kind=7 then (if ZF d f.of at_<0 then 8 else Zdo (m.fields.take i) f.size)
 else if f.kind=8 then (if ZF d f.of at_<0 then 8 else 0)
 else if f.kind=9 then (if Zig m i f then 8 else Zqy d at_ f (Kn (m.fields.getD (Q5 m f.tag i).toNat dE)).1 (Kn (m.fields.getD (Q5 m f.tag i).toNat dE)).2)
 else if f.kind=10 then (if ZmM f then 6 else 0)
 else if f.kind=11 then (if dC (f.check<1) ||decide (3<f.check) then 7 else if Q5 m f.from_ i<0 then 8 else 0)
 else if f.kind=12 then (if dC (f.key<0) ||decide (4294967295<f.key) then 7 else if Zor d at_ f then 8 else Zdo (m.fields.take i) f.size)
 else 0
def K1(d:Dfn)(at_:Nat)(m:Msg)(i:Nat)(f:Fld):Int :=
 if YZ f.name=false then 1 else if 0≤Q5 m f.name i then 2 else if dC (f.kind<1) ||decide (12<f.kind) then 4 else if Zkd f=false then 5 else Zaw d at_ m i f
def YL(d:Dfn)(at_:Nat)(m:Msg):Nat→List Fld→Option (Int×Int)
 |_,[]=>nO
 |i,f::r=>if K1 d at_ m i f=0 then YL d at_ m (i+1) r else sO (i,K1 d at_ m i f)
def WK(d:Dfn)(at_:Nat)(m:Msg):Option (Int×Int) :=
 if YZ m.name=false then sO (-1,1) else if 0≤ZF d m.name at_ then sO (-1,2) else if dC (m.fields.length<1) ||decide (40<m.fields.length) then sO (-1,3) else YL d at_ m 0 m.fields
def Zvq(d:Dfn)(at_:Nat)(deps:List Int)(b:Int)(l:List Str):Int:=l.foldl (fun a s=>max a (deps.getD (ZF d s at_).toNat dE)) b
def Zeo(d:Dfn)(at_:Nat)(deps:List Int)(m:Msg):Int:=Zvq d at_ deps 0 (W4 m)+1
def Jo(d:Dfn):Nat→List Msg→List Int→Option (Int×Int×Int)
 |_,[],_=>if ZF d d.start d.msgs.length<0 then sO (-1,-1,11) else nO
 |at_,m::r,deps=>match WK d at_ m with
  |some (i,c)=>sO (at_,i,c)
  |none=>if 16<Zeo d at_ deps m then sO (at_,-1,10) else Jo d (at_+1) r (deps++[Zeo d at_ deps m])
def ZqD(d:Dfn):Option (Int×Int×Int) :=
 if YZ d.name=false then sO (-1,-1,1) else if dC (d.msgs.length<1) ||decide (60<d.msgs.length) then sO (-1,-1,3) else Jo d 0 d.msgs []
def Ze0(d:Dfn):Bool:=(ZqD d).isNone
theorem Zvg{d:Dfn}{at_:Nat}{high low:Int}{l:List Yb}(h:Zeh d at_ high low l=0):∀c∈l,0≤ZF d c.of at_:=by
 induction l generalizing low with
 |nil=>simp
 |cons c r ih =>simp only[Zeh]at h;split at h;omega;split at h;omega;intro x hx;rcases List.mem_cons.1 hx with rfl|hx;omega;exact ih h x hx
theorem ZoM{d:Dfn}{at_ i:Nat}{m:Msg}{f:Fld}(h:K1 d at_ m i f=0):(Ys f).length≤41∧∀s∈Ys f,0≤ZF d s at_:=by
 unfold K1 at h;split at h;· omega
 split at h;· omega
 split at h;· omega
 rename_i hk;split at h;· omega
 simp only[ZEk,decide_eq_true_eq,not_or,Int.not_lt]at hk;have j:f.kind=1∨f.kind=2∨f.kind=3∨f.kind=4∨f.kind=5∨f.kind=6∨f.kind=7∨f.kind=8∨f.kind=9∨f.kind=10∨f.kind=11∨f.kind=12:=by omega
 unfold Zaw at h;rcases j with hk|hk|hk|hk|hk|hk|hk|hk|hk|hk|hk|hk<;>simp only[hk,Int.reduceEq,if_true,if_false]at h<;>(try(simp[Ys,ZaA,hk];done));simp only[Ys,ZaA,hk];split at h;omega;simp;omega;simp only[Ys,ZaA,hk];split at h;omega;simp;omega;split at h;omega;unfold Zqy at h;split at h;omega;rename_i hc;simp only[ZEk,decide_eq_true_eq,not_or,Nat.not_lt]at hc;have:=Zvg h;simp[Ys,ZaA,hk];exact⟨by omega,this⟩;split at h;omega;split at h;omega;rename_i hv;simp only[Zor,ZEk,decide_eq_true_eq,not_or]at hv;simp[Ys,ZaA,hk];omega
theorem Zmk{d:Dfn}{at_:Nat}{m:Msg}{i:Nat}{l:List Fld}(h:YL d at_ m i l=nO):(l.flatMap Ys).length≤41*l.length∧∀s∈l.flatMap Ys,0≤ZF d s at_:=by
 induction l generalizing i with
 |nil=>simp
 |cons f r ih =>simp only[YL]at h;split at h;rename_i hf;have h1:=ZoM hf;have h2:=ih h;simp only[List.flatMap_cons,ZD8,ZEf,List.mem_append];refine⟨by omega,fun s hs=>?_⟩;rcases hs with hs|hs;exact h1.2 s hs;exact h2.2 s hs;simp at h
theorem Zgn{s:Str}{l out:List Str}:s∈l.foldl ZbO out↔s∈out∨s∈l:=by
 induction l generalizing out with
 |nil=>simp
 |cons x r ih =>simp only[List.foldl_cons,ih,ZEz];unfold ZbO;split;rename_i h;constructor;rintro(h1|h1);exact .inl h1;exact .inr (.inr h1);rintro(h1|rfl|h1);exact .inl h1;exact .inl h;exact .inr h1;simp only[List.mem_append,List.mem_singleton,_root_.or_assoc]
theorem Zsg{s:Str}{m:Msg}:s∈W4 m↔s∈m.fields.flatMap Ys:=by
 unfold W4;rw[Zgn];simp
theorem ZxF{d:Dfn}{j:Nat}{m:Msg}(hm:d.msgs.getD j dE=m)(h:WK d j m=nO):ZAd d j:=by
 unfold WK at h;split at h;· simp at h
 split at h;· simp at h
 split at h;· simp at h
 rename_i hc;simp only[ZEk,decide_eq_true_eq,not_or,Nat.not_lt]at hc;have:=Zmk h;subst hm;exact⟨by omega,fun s hs=>this.2 s (Zsg.1 hs)⟩
end Go.DL
namespace Go.DL
open Go
variable {kp:Option (List Nat)}{L:Loc}{ρ:Env}{s:St}{w:World}{os:List DOp}{ds:List D}{B:List (Nat × Rd)}{dst:Option Nat}{tmps:Array Value}{g:G}{Φ:Res→St→Prop}{ν:Nat→Nat}{xs:List Opd}{side:Prop}{row:Nat→List D}
theorem Ye{q:Nat→Prop}{j:Nat}(h:∀i,i<j→q i)(hj:q j):∀i,i<j+1→q i:=fun i hi=>by
 rcases Nat.lt_or_eq_of_le (Nat.le_of_lt_succ hi) with h' |rfl;exact h i h';exact hj
theorem Zn6{t:Tok}{x k:Nat}(ht:t.okIn s){o:Z1}(hx:s x=sO o):(s.own t k) x=sO o:=Y2 ht _ _ hx
def st2(st:St)(t1:Tok)(k1:Nat)(t2:Tok)(k2:Nat)(x:Nat)(c:Z1):St:=((st.own t1 k1).own t2 k2).upd x c
theorem Yo{st:St}{t1 t2:Tok}{x k1 k2:Nat}{c:Z1}:(st2 st t1 k1 t2 k2 x c) x=sO c:=ZD4 _ _ _
theorem Yp{st:St}{t1 t2:Tok}{x k1 k2:Nat}{c c':Z1}:(st2 st t1 k1 t2 k2 x c).upd x c'=st2 st t1 k1 t2 k2 x c':=ZEj _ _ _ _
open Go.Proofs
def KS{α:Type}(p:α→Bool):List α→Nat
 | []=>0
 |x::r=>if p x then 1 else KS p r+1
theorem JJ{α:Type}{p:α→Bool}{l:List α}(h:∀x∈l,p x=false):KS p l=l.length:=by
 induction l with
 |nil=>rfl
 |cons x r ih=>simp only[KS,h x (by simp),ZEf];rw[ih fun y hy=>h y (by simp[hy])];simp
theorem Zbt{α:Type}[Inhabited α]{p:α→Bool}{l:List α}{i:Nat}(hi:i<l.length)(hp:p (l.getD i dE)=true)(h:∀j,j<i→p (l.getD j dE)=false):KS p l=i+1:=by
 induction l generalizing i with
 |nil=>simp at hi
 |cons x r ih =>
  cases i with
  |zero=>simp at hp;simp[KS,hp]
  |succ i =>have h0:=h 0 (by omega);simp only[List.getD_cons_zero]at h0;simp only[List.getD_cons_succ,ZEf]at hp hi;simp only[KS,h0];rw[ih (by omega) hp fun j hj=>by have:=h (j+1) (by omega);simpa only[List.getD_cons_succ]using this];simp
def byC(b:UInt8):List D:=[.int .u8 (b.toNat:Int)]
theorem Jy{α:Type}(p:α→Bool)(l:List α):l.any p=dC (0≤Zi p l):=by
 induction l with
 |nil=>rfl
 |cons x r ih =>have:=Zar p r;rw[List.any_cons,ih];simp only[Zi];by_cases hx:p x=true;simp[hx];by_cases hr:Zi p r<0;simp[hx,hr];simp[hx,hr];omega
theorem Zdq(l:List Msg)(f:D)(p:Msg→Bool)(sts:Nat→St)(hf:∀i,i<l.length→VT ZDW f [.agg (l.getD i dE).cells] (sts i) (.bool (p (l.getD i dE))) (sts (i+1))):
  ZP ZDW 147 [slD 2 Msg.cells l,f] (sts 0) (.int .i64 (Zi p l)) (sts (KS p l)):=by
 refine ZG (cR 147 f147) fun ac F t=>?_;have hw:=(Wb (ac (slD 2 Msg.cells l) (by simp))).1;unfold big at hw;clear ac;refine rx @eQ1 ?_;refine rx @eQ1 ?_;refine Zc (fr (l.length) (fun i Q=>i≤l.length→(∀j,j<i→p (l.getD j dE)=false)→Q [(0,.d (slD 2 Msg.cells l)),(1,.d f),(7,.d (.int .i64 l.length)),(8,.d (.int .i64 i))] [] (sts i)) (fun n z=>?_) fun ad=>?_);intro i hn hi u;refine rx @eQ1 ?_;refine Zb (Zu rfl trivial (fun h1=>?_) (fun h1=>?_));simp at h1;refine rx @eQ1 ?_;refine xA (nd2 @eQ1 @eQ3) ?_;refine cW (hf i h1) ?_;refine cd (fun h2=>?_) (fun h2=>?_);have e1:=Kj h1 h2 u;have e2:=Zbt h1 h2 u;rw[e1,e2]at t;refine rg ?_;exact t rfl (by trivial) (ZDZ _) (ZDY _);refine gA ?_;refine Zg ?_;exact z ((l.length)-(i+1)) (by omega) (i+1) rfl (by omega) (Ye (q:=fun j=>p (l.getD j dE)=false) u h2);simp at h1;obtain rfl:i=l.length:=by omega
 have ab:∀x∈l,p x=false:=fun x hx=>by obtain⟨j,hj,rfl⟩:=ZEe hx;have:=u j hj;simpa[ZEb,hj]using this
 rw[WP ab,JJ ab]at t;refine rg ?_;exact t rfl (by trivial) (ZDZ _) (ZDY _);exact ad _ 0 rfl (by omega) (by intro j hj;omega)
theorem ZeR(l:List ZO)(f:D)(p:ZO→Bool)(sts:Nat→St)(hf:∀i,i<l.length→VT ZDW f [.agg (l.getD i dE).cells] (sts i) (.bool (p (l.getD i dE))) (sts (i+1))):
  ZP ZDW 110 [slD 2 ZO.cells l,f] (sts 0) (.int .i64 (Zi p l)) (sts (KS p l)):=by
 refine ZG (cR 110 f110) fun ac F t=>?_;have hw:=(Wb (ac (slD 2 ZO.cells l) (by simp))).1;unfold big at hw;clear ac;refine rx @eQ1 ?_;refine rx @eQ1 ?_;refine Zc (fr (l.length) (fun i Q=>i≤l.length→(∀j,j<i→p (l.getD j dE)=false)→Q [(0,.d (slD 2 ZO.cells l)),(1,.d f),(7,.d (.int .i64 l.length)),(8,.d (.int .i64 i))] [] (sts i)) (fun n z=>?_) fun ad=>?_);intro i hn hi u;refine rx @eQ1 ?_;refine Zb (Zu rfl trivial (fun h1=>?_) (fun h1=>?_));simp at h1;refine rx @eQ1 ?_;refine xA (nd2 @eQ1 @ZO.cells.eq_1) ?_;refine cW (hf i h1) ?_;refine cd (fun h2=>?_) (fun h2=>?_);have e1:=Kj h1 h2 u;have e2:=Zbt h1 h2 u;rw[e1,e2]at t;refine rg ?_;exact t rfl (by trivial) (ZDZ _) (ZDY _);refine gA ?_;refine Zg ?_;exact z ((l.length)-(i+1)) (by omega) (i+1) rfl (by omega) (Ye (q:=fun j=>p (l.getD j dE)=false) u h2);simp at h1;obtain rfl:i=l.length:=by omega
 have ab:∀x∈l,p x=false:=fun x hx=>by obtain⟨j,hj,rfl⟩:=ZEe hx;have:=u j hj;simpa[ZEb,hj]using this
 rw[WP ab,JJ ab]at t;refine rg ?_;exact t rfl (by trivial) (ZDZ _) (ZDY _);exact ad _ 0 rfl (by omega) (by intro j hj;omega)
theorem ZaD(l:List Yb)(f:D)(p:Yb→Bool)(sts:Nat→St)(hf:∀i,i<l.length→VT ZDW f [.agg (l.getD i dE).cells] (sts i) (.bool (p (l.getD i dE))) (sts (i+1))):
  ZP ZDW 59 [slD 3 Yb.cells l,f] (sts 0) (.int .i64 (Zi p l)) (sts (KS p l)):=by
 refine ZG (cR 59 f59) fun ac F t=>?_;have hw:=(Wb (ac (slD 3 Yb.cells l) (by simp))).1;unfold big at hw;clear ac;refine rx @eQ1 ?_;refine rx @eQ1 ?_;refine Zc (fr (l.length) (fun i Q=>i≤l.length→(∀j,j<i→p (l.getD j dE)=false)→Q [(0,.d (slD 3 Yb.cells l)),(1,.d f),(7,.d (.int .i64 l.length)),(8,.d (.int .i64 i))] [] (sts i)) (fun n z=>?_) fun ad=>?_);intro i hn hi u;refine rx @eQ1 ?_;refine Zb (Zu rfl trivial (fun h1=>?_) (fun h1=>?_));simp at h1;refine rx @eQ1 ?_;refine xA (nd2 @eQ1 @Yb.cells.eq_1) ?_;refine cW (hf i h1) ?_;refine cd (fun h2=>?_) (fun h2=>?_);have e1:=Kj h1 h2 u;have e2:=Zbt h1 h2 u;rw[e1,e2]at t;refine rg ?_;exact t rfl (by trivial) (ZDZ _) (ZDY _);refine gA ?_;refine Zg ?_;exact z ((l.length)-(i+1)) (by omega) (i+1) rfl (by omega) (Ye (q:=fun j=>p (l.getD j dE)=false) u h2);simp at h1;obtain rfl:i=l.length:=by omega
 have ab:∀x∈l,p x=false:=fun x hx=>by obtain⟨j,hj,rfl⟩:=ZEe hx;have:=u j hj;simpa[ZEb,hj]using this
 rw[WP ab,JJ ab]at t;refine rg ?_;exact t rfl (by trivial) (ZDZ _) (ZDY _);exact ad _ 0 rfl (by omega) (by intro j hj;omega)
theorem Qc(l:List Fld)(f:D)(p:Fld→Bool)(sts:Nat→St)(hf:∀i,i<l.length→VT ZDW f [.agg (l.getD i dE).cells] (sts i) (.bool (p (l.getD i dE))) (sts (i+1))):
  ZP ZDW 148 [slD 15 Fld.cells l,f] (sts 0) (.int .i64 (Zi p l)) (sts (KS p l)):=by
 refine ZG (cR 148 f148) fun ac F t=>?_;have hw:=(Wb (ac (slD 15 Fld.cells l) (by simp))).1;unfold big at hw;clear ac;refine rx @eQ1 ?_;refine rx @eQ1 ?_;refine Zc (fr (l.length) (fun i Q=>i≤l.length→(∀j,j<i→p (l.getD j dE)=false)→Q [(0,.d (slD 15 Fld.cells l)),(1,.d f),(7,.d (.int .i64 l.length)),(8,.d (.int .i64 i))] [] (sts i)) (fun n z=>?_) fun ad=>?_);intro i hn hi u;refine rx @eQ1 ?_;refine Zb (Zu rfl trivial (fun h1=>?_) (fun h1=>?_));simp at h1;refine rx @eQ1 ?_;refine xA (nd2 @eQ1 @eQ0) ?_;refine cW (hf i h1) ?_;refine cd (fun h2=>?_) (fun h2=>?_);have e1:=Kj h1 h2 u;have e2:=Zbt h1 h2 u;rw[e1,e2]at t;refine rg ?_;exact t rfl (by trivial) (ZDZ _) (ZDY _);refine gA ?_;refine Zg ?_;exact z ((l.length)-(i+1)) (by omega) (i+1) rfl (by omega) (Ye (q:=fun j=>p (l.getD j dE)=false) u h2);simp at h1;obtain rfl:i=l.length:=by omega
 have ab:∀x∈l,p x=false:=fun x hx=>by obtain⟨j,hj,rfl⟩:=ZEe hx;have:=u j hj;simpa[ZEb,hj]using this
 rw[WP ab,JJ ab]at t;refine rg ?_;exact t rfl (by trivial) (ZDZ _) (ZDY _);exact ad _ 0 rfl (by omega) (by intro j hj;omega)
theorem ZeS(l:List UInt8)(f:D)(p:UInt8→Bool)(sts:Nat→St)(hf:∀i,i<l.length→VT ZDW f [.int .u8 ((l.getD i dE).toNat:Int)] (sts i) (.bool (p (l.getD i dE))) (sts (i+1))):
  ZP ZDW 178 [slD 1 byC l,f] (sts 0) (.int .i64 (Zi p l)) (sts (KS p l)):=by
 refine ZG (cR 178 f178) fun ac F t=>?_;have hw:=(Wb (ac (slD 1 byC l) (by simp))).1;unfold big at hw;clear ac;refine rx @eQ1 ?_;refine rx @eQ1 ?_;refine Zc (fr (l.length) (fun i Q=>i≤l.length→(∀j,j<i→p (l.getD j dE)=false)→Q [(0,.d (slD 1 byC l)),(1,.d f),(7,.d (.int .i64 l.length)),(8,.d (.int .i64 i))] [] (sts i)) (fun n z=>?_) fun ad=>?_);intro i hn hi u;refine rx @eQ1 ?_;refine Zb (Zu rfl trivial (fun h1=>?_) (fun h1=>?_));simp at h1;refine rx @eQ1 ?_;refine xA (nd2 @eQ1 @byC.eq_1) ?_;refine cW (hf i h1) ?_;refine cd (fun h2=>?_) (fun h2=>?_);have e1:=Kj h1 h2 u;have e2:=Zbt h1 h2 u;rw[e1,e2]at t;refine rg ?_;exact t rfl (by trivial) (ZDZ _) (ZDY _);refine gA ?_;refine Zg ?_;exact z ((l.length)-(i+1)) (by omega) (i+1) rfl (by omega) (Ye (q:=fun j=>p (l.getD j dE)=false) u h2);simp at h1;obtain rfl:i=l.length:=by omega
 have ab:∀x∈l,p x=false:=fun x hx=>by obtain⟨j,hj,rfl⟩:=ZEe hx;have:=u j hj;simpa[ZEb,hj]using this
 rw[WP ab,JJ ab]at t;refine rg ?_;exact t rfl (by trivial) (ZDZ _) (ZDY _);exact ad _ 0 rfl (by omega) (by intro j hj;omega)
theorem ZcK(l:List Fld)(f:D)(p:Fld→Bool)(sts:Nat→St)(hf:∀i,i<l.length→VT ZDW f [.agg (l.getD i dE).cells] (sts i) (.bool (p (l.getD i dE))) (sts (i+1))):
  ZP ZDW 333 [slD 15 Fld.cells l,f] (sts 0) (.bool (l.any p)) (sts (KS p l)):=by
 refine ZG (cR 333 f333) fun n F j=>?_;clear n;refine gG ?_;refine ct (Qc l f p sts hf) ?_;rw[Jy]at j;exact j rfl (by trivial) (ZDZ _) (ZDY _)
theorem KE(l:List UInt8)(f:D)(p:UInt8→Bool)(sts:Nat→St)(hf:∀i,i<l.length→VT ZDW f [.int .u8 ((l.getD i dE).toNat:Int)] (sts i) (.bool (p (l.getD i dE))) (sts (i+1))):
  ZP ZDW 135 [slD 1 byC l,f] (sts 0) (.bool (l.any p)) (sts (KS p l)):=by
 refine ZG (cR 135 f135) fun n F j=>?_;clear n;refine gG ?_;refine ct (ZeS l f p sts hf) ?_;rw[Jy]at j;exact j rfl (by trivial) (ZDZ _) (ZDY _)
def boC(b:Bool):List D:=[.bool b]
def Zbu(s:Str):List D:=[.str s]
theorem Zl4{α:Type}[DecidableEq α](v:α)(l:List α):l.any (fun x=>dC (v=x))=dC (v∈l):=by
 induction l with
 |nil=>simp
 |cons x r ih=>rw[List.any_cons,ih];simp[ZEz]
theorem ZhK{α:Type}[Inhabited α]{l r:List α}(h:l.length=r.length)(h2:∀j,j<l.length→l.getD j dE=r.getD j dE):l=r:=by
 apply List.ext_getElem h;intro i h1 h3;have:=h2 i h1;simpa[ZEb,h1,h3]using this
theorem Zhy(l:List Bool)(v:Bool):Zf ZDW 225 [slD 1 boC l,.bool v] (.int .i64 (Zi (fun x=>dC (v=x)) l)):=by
 refine YS (cR 225 f225) fun ab F st u=>?_;have hw:=(Wb (ab (slD 1 boC l) (by simp))).1;unfold big at hw;clear ab;refine rx @eQ1 ?_;refine rx @eQ1 ?_;refine Zc (fr (l.length) (fun i Q=>i≤l.length→(∀j,j<i→dC (v=l.getD j dE)=false)→Q [(0,.d (slD 1 boC l)),(1,.d (.bool v)),(7,.d (.int .i64 l.length)),(8,.d (.int .i64 i))] [] st) (fun n t=>?_) fun ad=>?_);intro i hn hi z;refine rx @eQ1 ?_;refine Zb (Zu rfl trivial (fun h1=>?_) (fun h1=>?_));simp at h1;refine rx @eQ1 ?_;refine xA (nd2 @eQ1 @boC.eq_1) ?_;refine cd (fun h2=>?_) (fun h2=>?_);have e1:=Kj (p:=fun x=>dC (v=x)) h1 h2 z;refine rg ?_;refine ri u ?_;exact e1.symm;refine gA ?_;refine Zg ?_;exact t ((l.length)-(i+1)) (by omega) (i+1) rfl (by omega) (Ye (q:=fun j=>dC (v=l.getD j dE)=false) z h2);simp at h1;obtain rfl:i=l.length:=by omega
 have ac:∀x∈l,(fun x=>dC (v=x)) x=false:=fun x hx=>by obtain⟨j,hj,rfl⟩:=ZEe hx;have:=z j hj;simpa[ZEb,hj]using this
 refine rg ?_;refine ri u ?_;exact(WP ac).symm;exact ad _ 0 rfl (by omega) (by intro j hj;omega)
theorem Ze2(l:List Bool)(v:Bool):Zf ZDW 177 [slD 1 boC l,.bool v] (.bool (dC (v∈l))):=by
 refine Zo (cR 177 f177) fun F st i=>?_;refine gG ?_;refine cl (Zhy l v) ?_;refine rb i ?_;rw[←Jy,Zl4];try congr
theorem Zf9(l:List Str)(v:Str):Zf ZDW 327 [slD 1 Zbu l,.str v] (.int .i64 (Zi (fun x=>dC (v=x)) l)):=by
 refine YS (cR 327 f327) fun ab F st u=>?_;have hw:=(Wb (ab (slD 1 Zbu l) (by simp))).1;unfold big at hw;clear ab;refine rx @eQ1 ?_;refine rx @eQ1 ?_;refine Zc (fr (l.length) (fun i Q=>i≤l.length→(∀j,j<i→dC (v=l.getD j dE)=false)→Q [(0,.d (slD 1 Zbu l)),(1,.d (.str v)),(7,.d (.int .i64 l.length)),(8,.d (.int .i64 i))] [] st) (fun n t=>?_) fun ad=>?_);intro i hn hi z;refine rx @eQ1 ?_;refine Zb (Zu rfl trivial (fun h1=>?_) (fun h1=>?_));simp at h1;refine rx @eQ1 ?_;refine xA (nd2 @eQ1 @Zbu.eq_1) ?_;refine cd (fun h2=>?_) (fun h2=>?_);have e1:=Kj (p:=fun x=>dC (v=x)) h1 h2 z;refine rg ?_;refine ri u ?_;exact e1.symm;refine gA ?_;refine Zg ?_;exact t ((l.length)-(i+1)) (by omega) (i+1) rfl (by omega) (Ye (q:=fun j=>dC (v=l.getD j dE)=false) z h2);simp at h1;obtain rfl:i=l.length:=by omega
 have ac:∀x∈l,(fun x=>dC (v=x)) x=false:=fun x hx=>by obtain⟨j,hj,rfl⟩:=ZEe hx;have:=z j hj;simpa[ZEb,hj]using this
 refine rg ?_;refine ri u ?_;exact(WP ac).symm;exact ad _ 0 rfl (by omega) (by intro j hj;omega)
theorem ZdZ(l:List Str)(v:Str):Zf ZDW 290 [slD 1 Zbu l,.str v] (.bool (dC (v∈l))):=by
 refine Zo (cR 290 f290) fun F st i=>?_;refine gG ?_;refine cl (Zf9 l v) ?_;refine rb i ?_;rw[←Jy,Zl4];try congr
theorem Zhx(l r:List ZO):Zf ZDW 325 [slD 2 ZO.cells l,slD 2 ZO.cells r] (.bool (dC (l=r))):=by
 refine YS (cR 325 f325) fun ac F st t=>?_;have hw:=(Wb (ac (slD 2 ZO.cells l) (by simp))).1;unfold big at hw;clear ac;refine rx @eQ1 ?_;refine rx @eQ1 ?_;refine cd (fun h1=>?_) (fun h1=>?_);refine rg ?_;refine rb t ?_;exact(decide_eq_false (fun e=>by rw[e]at h1;simp at h1)).symm;have z:l.length=r.length:=by simp at h1;omega
 refine rx @eQ1 ?_;refine Zc (fr (l.length) (fun i Q=>i≤l.length→(∀j,j<i→l.getD j dE=r.getD j dE)→Q [(0,.d (slD 2 ZO.cells l)),(1,.d (slD 2 ZO.cells r)),(12,.d (.int .i64 l.length)),(13,.d (.int .i64 i))] [] st) (fun n u=>?_) fun ad=>?_);intro i hn hi ab;refine rx @eQ1 ?_;refine Zb (Zu rfl trivial (fun h2=>?_) (fun h2=>?_));simp at h2;refine rx @eQ1 ?_;refine xA (nd2 @eQ1 @ZO.cells.eq_1) ?_;refine cd (fun h3=>?_) (fun h3=>?_);have ae:l.getD i dE≠r.getD i dE:=fun e=>by rw[e]at h3;simp at h3
 refine rg ?_;refine rb t ?_;exact(decide_eq_false (fun e=>ae (by rw[e]))).symm;have af:l.getD i dE=r.getD i dE:=by generalize l.getD i dE=a at h3⊢;generalize r.getD i dE=b at h3⊢;cases a;cases b;simpa[and_assoc]using h3
 refine gA ?_;refine Zg ?_;exact u ((l.length)-(i+1)) (by omega) (i+1) rfl (by omega) (Ye (q:=fun j=>l.getD j dE=r.getD j dE) ab af);simp at h2;obtain rfl:i=l.length:=by omega
 refine rg ?_;refine rb t ?_;exact(decide_eq_true (ZhK z ab)).symm;exact ad _ 0 rfl (by omega) (by intro j hj;omega)
theorem Zhw(l r:List Yb):Zf ZDW 326 [slD 3 Yb.cells l,slD 3 Yb.cells r] (.bool (dC (l=r))):=by
 refine YS (cR 326 f326) fun ac F st t=>?_;have hw:=(Wb (ac (slD 3 Yb.cells l) (by simp))).1;unfold big at hw;clear ac;refine rx @eQ1 ?_;refine rx @eQ1 ?_;refine cd (fun h1=>?_) (fun h1=>?_);refine rg ?_;refine rb t ?_;exact(decide_eq_false (fun e=>by rw[e]at h1;simp at h1)).symm;have z:l.length=r.length:=by simp at h1;omega
 refine rx @eQ1 ?_;refine Zc (fr (l.length) (fun i Q=>i≤l.length→(∀j,j<i→l.getD j dE=r.getD j dE)→Q [(0,.d (slD 3 Yb.cells l)),(1,.d (slD 3 Yb.cells r)),(12,.d (.int .i64 l.length)),(13,.d (.int .i64 i))] [] st) (fun n u=>?_) fun ad=>?_);intro i hn hi ab;refine rx @eQ1 ?_;refine Zb (Zu rfl trivial (fun h2=>?_) (fun h2=>?_));simp at h2;refine rx @eQ1 ?_;refine xA (nd2 @eQ1 @Yb.cells.eq_1) ?_;refine cd (fun h3=>?_) (fun h3=>?_);have ae:l.getD i dE≠r.getD i dE:=fun e=>by rw[e]at h3;simp at h3
 refine rg ?_;refine rb t ?_;exact(decide_eq_false (fun e=>ae (by rw[e]))).symm;have af:l.getD i dE=r.getD i dE:=by generalize l.getD i dE=a at h3⊢;generalize r.getD i dE=b at h3⊢;cases a;cases b;simpa[and_assoc]using h3
 refine gA ?_;refine Zg ?_;exact u ((l.length)-(i+1)) (by omega) (i+1) rfl (by omega) (Ye (q:=fun j=>l.getD j dE=r.getD j dE) ab af);simp at h2;obtain rfl:i=l.length:=by omega
 refine rg ?_;refine rb t ?_;exact(decide_eq_true (ZhK z ab)).symm;exact ad _ 0 rfl (by omega) (by intro j hj;omega)
theorem ZgF(c:UInt8):Zf ZDW 132 [.int .u8 c.toNat] (.bool (ZiB c)):=by
 refine Zo (cR 132 f132) fun F st i=>?_;refine gG ?_;refine rb i ?_;rfl
theorem ZpH(c:UInt8):Zf ZDW 133 [.int .u8 c.toNat] (.bool (ZtR c)):=by
 refine Zo (cR 133 f133) fun F st i=>?_;refine gG ?_;refine rb i ?_;rfl
theorem ZdF(v:Int):Zf ZDW 198 [.int .i64 v] (.bool (Zdr v)):=by
 refine Zo (cR 198 f198) fun F st i=>?_;refine gG ?_;refine rb i ?_;simp only[Zdr]
theorem ZkW(l:List Bool):Zf ZDW 134 [slD 1 boC l] (.bool (!dC (false∈l))):=by
 refine Zo (cR 134 f134) fun F st i=>?_;refine gG ?_;refine cl (Ze2 l false) ?_;refine rb i ?_;rfl
theorem Zjn(a b:Bool):Zf ZDW 134 [.sl .full 2 1 (Z8 [.bool false] ([0,1].zip [.bool a,.bool b]))] (.bool (a&&b)):=by
 have h:Z0 boC (Z8 [.bool false] ([0,1].zip [.bool a,.bool b])) [a,b]:=fun i hi=>by
  match i,hi with
  |0,_=>rfl
  |1,_=>rfl
 refine((ZkW [a,b]).leA (LeC.one (h.le rfl))).le ?_;cases a<;>cases b<;>rfl
theorem Zpj(a b c:Bool):Zf ZDW 134 [.sl .full 3 1 (Z8 [.bool false] ([0,1,2].zip [.bool a,.bool b,.bool c]))] (.bool (a&&(b&&c))):=by
 have h:Z0 boC (Z8 [.bool false] ([0,1,2].zip [.bool a,.bool b,.bool c])) [a,b,c]:=fun i hi=>by
  match i,hi with
  |0,_=>rfl
  |1,_=>rfl
  |2,_=>rfl
 refine((ZkW [a,b,c]).leA (LeC.one (h.le rfl))).le ?_;cases a<;>cases b<;>cases c<;>rfl
theorem Zok(c:UInt8):Zf ZDW 131 [.int .u8 c.toNat] (.bool (!Zfl c)):=by
 refine Zo (cR 131 f131) fun F st i=>?_;refine gG ?_;refine cl (ZgF c) ?_;refine cG (ZpH c) ?_;refine rb i ?_;unfold Zfl;cases ZiB c<;>cases ZtR c<;>rfl
theorem ZuJ(s:Str):Zf ZDW 135 [slD 1 byC s,.fn (.func 131) [] []] (.bool (s.any fun c=>!Zfl c)) :=
 fun st=>KE s _ _ (fun _=>st) fun i _=>(Zok _).VT (first:=[]) (caps:=[]) st
theorem ZvJ(s:Str):YZ s=(((dC (1≤(s.length:Int))&&dC ((s.length:Int)≤32))&&ZiB (s.getD 0 0))&&!(s.any fun c=>!Zfl c)):=by
 cases s with
 |nil=>rfl
 |cons c r =>
  have h:∀l:Str,l.all Zfl=!(l.any fun c=>!Zfl c):=fun l=>by
   induction l with
   |nil=>rfl
   |cons x r ih=>simp only[List.all_cons,List.any_cons,ih];cases Zfl x<;>simp
  simp only[YZ,h,List.getD_cons_zero,ZEf]
  congr 2
  have h1:dC (1≤((r.length+1:Nat):Int))=true:=decide_eq_true (by omega);rw[h1,ZEm];exact decide_eq_decide.2 (by omega)
theorem ZaB(s:Str):Zf ZDW 90 [.str s] (.bool (YZ s)):=by
 refine YS (cR 90 f90) fun j F st i=>?_;have hs:=(j (.str s) (by simp)).str_inv;unfold big at hs;refine gG ?_;refine rg ?_;refine cl (Zjn _ _) ?_;refine aa ?_;refine cG (ZgF _) ?_;refine cG (ZuJ s) ?_;rw[ZvJ]at i;refine rb i ?_;trivial
end Go.DL
namespace Go.DL
open Go
structure Hdr where
 name:Str
 text:Str
deriving Inhabited,DecidableEq
def Hdr.cells(h:Hdr):List D:=[.str h.name,.str h.text]
def ZX(l:List Hdr):D:=slD 2 Hdr.cells l
def u8C(b:UInt8):List D:=[.int .u8 b.toNat]
def ZL(b:Str):D:=slD 1 u8C b
inductive Val where
 |mk (name:Str) (int:Int) (bytes:Str) (hdrs:List Hdr) (parts:List Val)
namespace Val
def name:Val→Str
 |mk n _ _ _ _=>n
def int:Val→Int
 |mk _ i _ _ _=>i
def bytes:Val→Str
 |mk _ _ b _ _=>b
def hdrs:Val→List Hdr
 |mk _ _ _ h _=>h
def parts:Val→List Val
 |mk _ _ _ _ p=>p
end Val
instance:Inhabited Val:=⟨.mk [] 0 [] [] []⟩
def ZrI:List D:=[.str [],.int .i64 0,ZL [],ZX [],.nilsl]
mutual
def Val.cells:Val→List D
 |.mk n i b h p=>[.str n,.int .i64 i,ZL b,ZX h,.sl .none p.length 5 fun j=>(Val.cellsL p).getD j ZrI]
def Val.cellsL:List Val→List (List D)
 | []=>[]
 |v::r=>v.cells::Val.cellsL r
end
theorem Val.cellsL_get:∀(l:List Val) (j:Nat),j<l.length→(Val.cellsL l).getD j ZrI=(l.getD j dE).cells
 | [],j,h=>absurd h (Nat.not_lt_zero _)
 |v::r,0,_=>rfl
 |v::r,j+1,h=>by have:=cellsL_get r j (by simpa using h);simpa[Val.cellsL]using this
def Zcb(p:List Val)(j:Nat):List D:=(Val.cellsL p).getD j ZrI
theorem Zdj{p:List Val}{j:Nat}(h:j<p.length):Zcb p j=(p.getD j dE).cells:=Val.cellsL_get p j h
def ZW(p:List Val):D:=.sl .none p.length 5 (Zcb p)
theorem Val.cells_eq(v:Val):v.cells=[.str v.name,.int .i64 v.int,ZL v.bytes,ZX v.hdrs,ZW v.parts]:=by
 cases v;rfl
theorem Val.len(v:Val):v.cells.length=5:=by rw[Val.cells_eq];rfl
theorem Val.ind{p:Val→Prop}(h:∀v:Val,(∀x∈v.parts,p x)→p v)(v:Val):p v:=by
 have i:∀n:Nat,∀v:Val,SizeOf.sizeOf v<n→p v:=by
  intro n;induction n with
  |zero=>intro v h;omega
  |succ n ih =>
   intro v hv;refine h v fun x hx=>ih x ?_;have h1:SizeOf.sizeOf x<SizeOf.sizeOf v.parts:=List.sizeOf_lt_of_mem hx;have h2:SizeOf.sizeOf v.parts<SizeOf.sizeOf v:=by cases v;simp[Val.parts];omega
   omega
 exact i _ v (Nat.lt_succ_self _)
theorem Qq{l:List Val}{i:Nat}(h:i<l.length):Zcb l i=[.str (l.getD i dE).name,.int .i64 (l.getD i dE).int,ZL (l.getD i dE).bytes,ZX (l.getD i dE).hdrs,ZW (l.getD i dE).parts]:=by rw[Zdj h,Val.cells_eq]
end Go.DL
namespace Go.DL
open Go Go.Proofs
variable {kp:Option (List Nat)}{L:Loc}{ρ:Env}{s:St}{w:World}{os:List DOp}{ds:List D}{B:List (Nat × Rd)}{dst:Option Nat}{tmps:Array Value}{g:G}{Φ:Res→St→Prop}{ν:Nat→Nat}{xs:List Opd}{side:Prop}{row:Nat→List D}
def Zp1(c:UInt8):Bool:=dC ((32:Int)<c.toNat)&&dC ((c.toNat:Int)<127)
def Zd8(c:UInt8):Bool:=((dC ((65:Int)≤c.toNat)&&dC ((c.toNat:Int)≤90)) ||(dC ((97:Int)≤c.toNat)&&dC ((c.toNat:Int)≤122)) ||(dC ((48:Int)≤c.toNat)&&dC ((c.toNat:Int)≤57))) ||decide ((c.toNat:Int)=45)
def Zgq(s:Str):Bool:=s.all Zd8&&(dC (1≤(s.length:Int))&&dC ((s.length:Int)≤32))
def Znq(c:UInt8):Bool:=dC ((c.toNat:Int)=32) ||Zp1 c
def Zil(t:Str):Bool:=dC (t=[]) ||(!dC (((t.getD 0 0).toNat:Int)=32)&&!dC (((t.getD (t.length-1) 0).toNat:Int)=32))
def ZdR(h:Hdr):Bool:=h.text.all Znq&&(Zgq h.name&&Zil h.text)
def K2(l:List Hdr):Bool:=l.all ZdR&&dC ((l.length:Int)≤100)
def Zg9(h:Hdr):Str:=h.name++[58,32]++h.text++[13,10]
def Zbb(l:List Hdr):Str:=l.flatMap Zg9++[13,10]
theorem ZxL(c:UInt8):Zp1 c=(dC ((33:Int)≤c.toNat)&&dC ((c.toNat:Int)≤126)):=by
 unfold Zp1;rw[show dC ((33:Int)≤c.toNat)=dC ((32:Int)<c.toNat) from decide_eq_decide.2 (by omega),show dC ((c.toNat:Int)≤126)=dC ((c.toNat:Int)<127) from decide_eq_decide.2 (by omega)]
theorem ZdO(a b c:Int):Zf ZDW 266 [.int .u8 a,.int .u8 b,.int .u8 c] (.bool (dC (b≤a)&&dC (a≤c))):=by
 refine Zo (cR 266 f266) fun F st i=>?_;refine gG ?_;refine rb i ?_;rfl
theorem ZpA(c:UInt8):Zf ZDW 258 [.int .u8 c.toNat] (.bool (Zd8 c)):=by
 refine Zo (cR 258 f258) fun F st i=>?_;refine gG ?_;refine cl (ZdO _ _ _) ?_;refine cG (ZdO _ _ _) ?_;refine cG (ZdO _ _ _) ?_;refine rb i ?_;unfold Zd8;rfl
theorem Zmv(c:UInt8):Zf ZDW 224 [.int .u8 c.toNat] (.bool (Zp1 c)):=by
 refine Zo (cR 224 f224) fun F st i=>?_;refine gG ?_;refine cl (ZdO _ _ _) ?_;refine rb i ?_;rw[ZxL]
theorem ZnX(c:UInt8):Zf ZDW 257 [.int .u8 c.toNat] (.bool (!Zd8 c)):=by
 refine Zo (cR 257 f257) fun F st i=>?_;refine gG ?_;refine cl (ZpA _) ?_;refine rb i ?_;rfl
theorem Zms(s:Str):Zf ZDW 135 [slD 1 byC s,.fn (.func 257) [] []] (.bool (s.any fun c=>!Zd8 c)) :=
 fun st=>KE s _ _ (fun _=>st) fun i _=>(ZnX _).VT (first:=[]) (caps:=[]) st
theorem ZnL{α:Type}(p:α→Bool)(l:List α):l.all p=!(l.any fun c=>!p c):=by
 induction l with
 |nil=>rfl
 |cons x r ih=>simp only[List.all_cons,List.any_cons,ih];cases p x<;>simp
theorem Zq6(s:Str):Zf ZDW 221 [.str s] (.bool (Zgq s)):=by
 refine YS (cR 221 f221) fun j F st i=>?_;have hs:=(j (.str s) (by simp)).str_inv;unfold big at hs;refine gG ?_;refine cG (Zms s) ?_;refine rb i ?_;unfold Zgq;rw[ZnL];generalize (s.any fun c=>!Zd8 c)=x;generalize dC (1≤(s.length:Int))=y;generalize dC ((s.length:Int)≤32)=z;cases x<;>cases y<;>cases z<;>rfl
theorem ZdG(l:List Hdr)(f:D)(p:Hdr→Bool)(sts:Nat→St)(hf:∀i,i<l.length→VT ZDW f [.agg (l.getD i dE).cells] (sts i) (.bool (p (l.getD i dE))) (sts (i+1))):
  ZP ZDW 185 [slD 2 Hdr.cells l,f] (sts 0) (.int .i64 (Zi p l)) (sts (KS p l)):=by
 refine ZG (cR 185 f185) fun ac F t=>?_;have hw:=(Wb (ac (slD 2 Hdr.cells l) (by simp))).1;unfold big at hw;clear ac;refine rx @eQ1 ?_;refine rx @eQ1 ?_;refine Zc (fr (l.length) (fun i Q=>i≤l.length→(∀j,j<i→p (l.getD j dE)=false)→Q [(0,.d (slD 2 Hdr.cells l)),(1,.d f),(7,.d (.int .i64 l.length)),(8,.d (.int .i64 i))] [] (sts i)) (fun n z=>?_) fun ad=>?_);intro i hn hi u;refine rx @eQ1 ?_;refine Zb (Zu rfl trivial (fun h1=>?_) (fun h1=>?_));simp at h1;refine rx @eQ1 ?_;refine xA (nd2 @eQ1 @Hdr.cells.eq_1) ?_;refine cW (hf i h1) ?_;refine cd (fun h2=>?_) (fun h2=>?_);have e1:=Kj h1 h2 u;have e2:=Zbt h1 h2 u;rw[e1,e2]at t;refine rg ?_;exact t rfl (by trivial) (ZDZ _) (ZDY _);refine gA ?_;refine Zg ?_;exact z ((l.length)-(i+1)) (by omega) (i+1) rfl (by omega) (Ye (q:=fun j=>p (l.getD j dE)=false) u h2);simp at h1;obtain rfl:i=l.length:=by omega
 have ab:∀x∈l,p x=false:=fun x hx=>by obtain⟨j,hj,rfl⟩:=ZEe hx;have:=u j hj;simpa[ZEb,hj]using this
 rw[WP ab,JJ ab]at t;refine rg ?_;exact t rfl (by trivial) (ZDZ _) (ZDY _);exact ad _ 0 rfl (by omega) (by intro j hj;omega)
theorem Q4(l:List Hdr)(f:D)(p:Hdr→Bool)(sts:Nat→St)(hf:∀i,i<l.length→VT ZDW f [.agg (l.getD i dE).cells] (sts i) (.bool (p (l.getD i dE))) (sts (i+1))):
  ZP ZDW 142 [slD 2 Hdr.cells l,f] (sts 0) (.bool (l.any p)) (sts (KS p l)):=by
 refine ZG (cR 142 f142) fun n F j=>?_;clear n;refine gG ?_;refine ct (ZdG l f p sts hf) ?_;rw[Jy]at j;exact j rfl (by trivial) (ZDZ _) (ZDY _)
def Ja(c:UInt8):Bool:=dC ((c.toNat:Int)=32)
def Zco(s:Str):Str:=s.dropWhile Ja
def ZaT(s:Str):Str:=(s.reverse.dropWhile Ja).reverse
theorem Znr{s:Str}(h:Ja (s.getD 0 0)=true)(hp:0<s.length):Zco s=Zco (s.drop 1):=by
 cases s with
 |nil=>simp at hp
 |cons c r=>simp only[List.getD_cons_zero]at h;simp[Zco,List.dropWhile_cons,h]
theorem Zpm{s:Str}(h:(dC (0<(s.length:Int))&&Ja (s.getD 0 0))=false):Zco s=s:=by
 cases s with
 |nil=>rfl
 |cons c r =>
  simp only[List.getD_cons_zero,ZEf]at h;have hb:Ja c=false:=by have h1:dC (0<((r.length+1:Nat):Int))=true:=decide_eq_true (by omega);rw[h1,ZEm]at h;exact h
  simp[Zco,List.dropWhile_cons,hb]
theorem Zo4(l:Str)(a:UInt8):(l++[a]).getD ((l++[a]).length-1) 0=a:=by simp[ZEb]
theorem Zns{s:Str}(h:Ja (s.getD (s.length-1) 0)=true)(hp:0<s.length):ZaT s=ZaT (s.take (s.length-1)):=by
 rcases List.eq_nil_or_concat s with rfl|⟨l,a,rfl⟩;simp at hp;rw[List.concat_eq_append]at h⊢;rw[Zo4]at h;simp[ZaT,List.dropWhile_cons,h]
theorem Zpn{s:Str}(h:(dC (0<(s.length:Int))&&Ja (s.getD (s.length-1) 0))=false):ZaT s=s:=by
 rcases List.eq_nil_or_concat s with rfl|⟨l,a,rfl⟩;rfl;rw[List.concat_eq_append]at h⊢;rw[Zo4]at h;have hb:Ja a=false:=by have h1:dC (0<((l++[a]).length:Int))=true:=decide_eq_true (by rw[ZD8,List.length_singleton];omega);rw[h1,ZEm]at h;exact h
 simp[ZaT,List.dropWhile_cons,hb]
theorem Zww(s:Str):(ZaT s).length≤s.length:=by
 unfold ZaT;rw[List.length_reverse];exact Nat.le_trans (List.dropWhile_sublist _).length_le (by simp)
theorem Zwx(t:Str):dC (Zco (ZaT t)=t)=Zil t:=by
 have i:∀s:Str,(Zco s).length≤s.length:=fun s=>(List.dropWhile_sublist _).length_le;by_cases ht:t=[];subst ht;rfl;have hp:=List.length_pos_iff.2 ht;have h0:Zil t=(!Ja (t.getD 0 0)&&!Ja (t.getD (t.length-1) 0)):=by unfold Zil;rw[decide_eq_false ht,Bool.false_or];rfl
 rw[h0];cases hr:Ja (t.getD (t.length-1) 0) with
 |true =>rw[Bool.not_true,Bool.and_false,decide_eq_false];intro h;have h1:=congrArg List.length h;rw[Zns hr hp]at h1;have h2:=i (ZaT (t.take (t.length-1)));have h3:=Zww (t.take (t.length-1));rw[ZEh]at h3;omega
 |false =>
  rw[Zpn (by rw[hr,Bool.and_false]),Bool.not_false,Bool.and_true];cases hl:Ja (t.getD 0 0) with
  |true =>rw[Bool.not_true,decide_eq_false];intro h;have h1:=congrArg List.length h;rw[Znr hl hp]at h1;have h2:=i (t.drop 1);rw[ZEx]at h2;omega
  |false=>rw[Zpm (by rw[hl,Bool.and_false])];simp
theorem Ze4(s:Str):Zf ZDW 259 [.str s,.int .u8 32] (.str (Zco s)):=by
 refine YS (cR 259 f259) fun j F st i=>?_;have hs:=(j (.str s) (by simp)).str_inv;unfold big at hs;clear j;refine rg ?_;refine Zb (Zc ?_);refine lpU (fun Q=>∀n (t:Str),t.length≤n→t.length≤9223372036854775807→Zco t=Zco s→Q F [(0,.d (.str t)),(1,.d (.int .u8 32))] [] st) ?_ fun u=>?_
 ·intro n;induction n with
  |zero =>intro t hn hb ht;obtain rfl:t=[]:=List.length_eq_zero_iff.1 (by omega);refine gA ?_;refine iG ?_;refine rs i ?_;rw[←ht];rfl
  |succ n ih =>intro t hn hb ht;refine gA ?_;refine cd (fun h1=>?_) (fun h1=>?_);simp only[ZD5,decide_eq_true_eq]at h1;refine gA ?_;refine Zj (Zg ?_);rw[show List.take (t.length-1) (t.drop 1)=t.drop 1 from List.take_of_length_le (by simp)];exact ih _ (by rw[ZEx];omega) (by rw[ZEx];omega) (by rw[←ht];exact(Znr (decide_eq_true h1.2) (by omega)).symm);refine rg ?_;refine rs i ?_;rw[←ht];exact(Zpm h1).symm
 exact u s.length s (ZEd _) hs rfl
theorem ZeW(s:Str):Zf ZDW 260 [.str s,.int .u8 32] (.str (ZaT s)):=by
 refine YS (cR 260 f260) fun j F st i=>?_;have hs:=(j (.str s) (by simp)).str_inv;unfold big at hs;clear j;refine rg ?_;refine Zb (Zc ?_);refine lpU (fun Q=>∀n (t:Str),t.length≤n→t.length≤9223372036854775807→ZaT t=ZaT s→Q F [(0,.d (.str t)),(1,.d (.int .u8 32))] [] st) ?_ fun u=>?_
 ·intro n;induction n with
  |zero =>intro t hn hb ht;obtain rfl:t=[]:=List.length_eq_zero_iff.1 (by omega);refine gA ?_;refine iG ?_;refine rs i ?_;rw[←ht];rfl
  |succ n ih =>
   intro t hn hb ht;refine gA ?_;refine cd (fun h1=>?_) (fun h1=>?_);simp only[ZD5,decide_eq_true_eq]at h1;rw[show((t.length:Int)-1).toNat=t.length-1 by omega]at h1;refine gA ?_;refine Zj (Zg ?_);rw[show((t.length:Int)-1).toNat=t.length-1 by omega];exact ih _ (by rw[ZEh];omega) (by rw[ZEh];omega) (by rw[←ht];exact(Zns (decide_eq_true h1.2) (by omega)).symm);have h2:(dC (0<(t.length:Int))&&Ja (t.getD (t.length-1) 0))=false:=by rw[show((t.length:Int)-1).toNat=t.length-1 by omega]at h1;exact h1
   refine rg ?_;refine rs i ?_;rw[←ht];exact(Zpn h2).symm
 exact u s.length s (ZEd _) hs rfl
theorem Znn(s:Str):Zf ZDW 222 [.str s,.str [32]] (.str (Zco (ZaT s))):=by
 refine Zo (cR 222 f222) fun F st i=>?_;refine gG ?_;refine cd (fun h0=>?_) (fun h0=>?_);refine rg ?_;have j:s=[]:=by simpa using h0
 subst j;refine rs i ?_;rfl;refine gA ?_;refine i1 ?_;refine gA ?_;refine cl0 (ZeW s) ?_;refine cl0 (Ze4 _) ?_;refine rs i ?_;rfl
theorem Zmu(c:UInt8):Zf ZDW 223 [.int .u8 c.toNat] (.bool (!Znq c)):=by
 refine Zo (cR 223 f223) fun F st i=>?_;refine gG ?_;refine cG (Zmv _) ?_;refine rb i ?_;unfold Znq;rw[Bool.not_or]
theorem Zlr(s:Str):Zf ZDW 135 [slD 1 byC s,.fn (.func 223) [] []] (.bool (s.any fun c=>!Znq c)) :=
 fun st=>KE s _ _ (fun _=>st) fun i _=>(Zmu _).VT (first:=[]) (caps:=[]) st
theorem ZpB(h:Hdr):Zf ZDW 176 [.agg h.cells] (.bool (ZdR h)):=by
 refine Zo (cR 176 f176) fun F st i=>?_;refine rx @Hdr.cells.eq_1 ?_;refine rg ?_;refine clD (Zq6 _) ?_;refine cGD (Znn _) ?_;refine cGD (Zlr _) ?_;refine rb i ?_;rw[Zwx];unfold ZdR;rw[ZnL];generalize (h.text.any fun c=>!Znq c)=x;generalize Zgq h.name=y;generalize Zil h.text=z;cases x<;>cases y<;>cases z<;>rfl
theorem Zmt(h:Hdr):Zf ZDW 175 [.agg h.cells] (.bool (!ZdR h)):=by
 refine Zo (cR 175 f175) fun F st i=>?_;refine rx @Hdr.cells.eq_1 ?_;refine rg ?_;rw[show D.agg [.str h.name,.str h.text]=.agg h.cells from rfl];refine cl (ZpB h) ?_;refine rb i ?_;rfl
theorem Zlq(l:List Hdr):Zf ZDW 142 [slD 2 Hdr.cells l,.fn (.func 175) [] []] (.bool (l.any fun c=>!ZdR c)) :=
 fun st=>Q4 l _ _ (fun _=>st) fun i _=>(Zmt _).VT (first:=[]) (caps:=[]) st
theorem ZiA{L:DL.Loc}(l:List Hdr):qv L s .lenL [.d (ZX l)]=sO (True,.d (.int .i64 l.length)):=rfl
theorem atH{L:DL.Loc}(l:List Hdr)(i:Int):qv L s (.iaddr 2) [.d (ZX l),.d (.int .i64 i)]=sO (0≤i∧i<l.length,.d (.ep (l.getD i.toNat dE).cells 0)):=rfl
theorem Zpz(l:List Hdr):Zf ZDW 130 [ZX l] (.bool (K2 l)):=by
 refine Zo (cR 130 f130) fun F st i=>?_;refine rg ?_;refine rx @ZiA ?_;refine cG (Zlq l) ?_;refine rb i ?_;unfold K2;rw[ZnL];rw[Bool.and_comm]
def Zd2(l:List Hdr):Prop:=∀h∈l,h.text.length≤1048576
theorem Zxc{h:Hdr}(hk:ZdR h=true)(ht:h.text.length≤1048576):(Zg9 h).length≤1048620:=by
 unfold ZdR Zgq at hk;simp only[ZD5,decide_eq_true_eq]at hk;unfold Zg9;simp only[ZD8,ZEf,List.length_nil];omega
def Zfb(l:List Hdr):Str:=l.flatMap Zg9
theorem ZvH{l:List Hdr}(hk:∀h∈l,ZdR h=true)(ht:Zd2 l):(Zfb l).length≤l.length*1048620:=by
 induction l with
 |nil=>simp[Zfb]
 |cons a r ih =>have h1:=Zxc (hk a (by simp)) (ht a (by simp));have h2:=ih (fun h hh=>hk h (by simp[hh])) (fun h hh=>ht h (by simp[hh]));unfold Zfb at h2⊢;rw[List.flatMap_cons,ZD8,ZEf,ZEo];omega
theorem Zt4{l:List Hdr}{i:Nat}(h:i<l.length):Zfb (l.take (i+1))=Zfb (l.take i)++Zg9 (l.getD i dE):=by
 rw[YJ h];simp[Zfb]
theorem Zxe{l:List Hdr}(hk:K2 l=true)(ht:Zd2 l)(i:Nat):(Zfb (l.take i)).length≤104862000∧l.length≤100:=by
 unfold K2 at hk;rw[ZD5,List.all_eq_true,decide_eq_true_eq]at hk;have h1:=ZvH (l:=l.take i) (fun h hh=>hk.1 h (List.mem_of_mem_take hh)) (fun h hh=>ht h (List.mem_of_mem_take hh));rw[ZEh]at h1;have h2:min i l.length≤100:=by omega
 have h3:=ZEi 1048620 h2;omega
theorem ZyB{l:List Hdr}(hk:K2 l=true)(ht:Zd2 l){i:Nat}(hi:i<l.length):(l.getD i dE).name.length≤32∧(l.getD i dE).text.length≤1048576:=by
 refine⟨?_,ht _ (ZC hi)⟩;unfold K2 at hk;rw[ZD5,List.all_eq_true]at hk;have:=hk.1 _ (ZC hi);unfold ZdR Zgq at this;simp only[ZD5,decide_eq_true_eq]at this;omega
def ZjA(l:List Hdr):D:=if K2 l then .tup [ZL (Zbb l),.int .i64 0] else .tup [.nilsl,.int .i64 2]
theorem ZhJ{l:List Hdr}(ht:Zd2 l):Zf ZDW 87 [ZX l] (ZjA l):=by
 refine Zo (cR 87 f87) fun F st j=>?_;have hW:=ZjA.eq_1 l;refine gG ?_;refine cl (Zpz l) ?_;cases hk:K2 l with
 |false =>rw[hk,if_neg (by simp)]at hW;rw[hW]at j;refine i1 ?_;refine rg ?_;exact j rfl (by simp) (ZDZ _) (ZDY _)
 |true =>
  rw[hk,if_pos rfl]at hW;rw[hW]at j;have hl:=Zxe hk ht;refine iG ?_;refine rx @ZiA ?_;refine kl (st) [(4,.d (.sl .full 0 1 fun _=>[])),(10,.d (ZX l)),(11,.d (.int .i64 l.length)),(12,.d (.int .i64 (0:Nat)))] [] (.cons (.d (Kk fun b h=>by cases h)) (Qj _)) (Zaj _) ?_;refine Zc (fr (l.length) (fun i Q=>∀tk row o,tk.okIn st→Z0 byC row o→o=Zfb (l.take i)→i≤l.length→Q [(4,.d (.sl tk o.length 1 row)),(10,.d (ZX l)),(11,.d (.int .i64 l.length)),(12,.d (.int .i64 i))] [] (st.own tk (o.length*1))) (fun n z=>?_) fun ae=>?_);intro i hn tk row o htk ab ho hi;have h1:=hl i;rw[←ho]at h1;refine rg ?_;refine Zb (Zu rfl trivial (fun h2=>?_) (fun h2=>?_));simp at h2;have h3:=Zt4 h2;have h4:=hl (i+1);have h5:=ZyB hk ht h2;rw[h3,←ho]at h4;rw[←ho]at h3;rw[ZD8]at h4;generalize hg:l.getD i dE=g at *;refine xA (nd2 @atH (nd2 @hg @Hdr.cells.eq_1)) ?_;refine rg ?_;repeat(refine ZDX (by first|omega|trivial|(intro h0;simp at h0;omega)|(((try simp only[ZD8,ZEf,List.length_nil]);unfold big;omega))) ?_)
  have hB:g.name++[58,32]++g.text++[13,10]=Zg9 g:=rfl;rw[hB];generalize Zg9 g=b at *;refine ZaZ (st) (tk) rfl rfl rfl rfl rfl rfl (by trivial) (by trivial) rfl (by first|trivial|assumption) (by omega) (by (unfold big;omega)) fun t1 ac=>Zl ?_;simp only[Eqs,reduceCtorEq,ZD2,reduceIte,ZD0,ZD3,ZD1];refine gA ?_;have t:Z0 byC (YG o.length row fun i=>[.int .u8 ((b.getD i 0).toNat:Int)]) (o++b):=ab.app Z0.self rfl;have u:=z (l.length-(i+1)) (by omega) (i+1) rfl t1 _ _ ac t h3.symm (by omega);rw[ZD8]at u;refine Zg ?_;exact u;simp at h2;obtain rfl:i=l.length:=by omega
  rw[ZEy]at ho;refine rg ?_;refine ZaZ (st) (tk) rfl rfl rfl rfl rfl rfl (by trivial) (by trivial) rfl (by first|trivial|assumption) (by (simp;omega)) (by (simp;unfold big;omega)) fun t1 ac=>Zl ?_;simp only[Eqs,reduceCtorEq,ZD2,reduceIte,ZD0,ZD3,ZD1];have t:Z0 byC (YG o.length row fun i=>[.int .u8 ((([13,10]:Str).getD i 0).toNat:Int)]) (o++[13,10]):=ab.app Z0.self rfl;have ad:Zbb l=o++[13,10]:=by rw[ho];rfl
  rw[ad]at j;exact j rfl (by simp) (ZnG rfl (.cons (t.le (by simp)) (LeC.refl _))) (Y2 ac);exact ae _ 0 rfl .full _ [] trivial Z0.nil rfl (by omega)
end Go.DL
namespace Go.DL
open Go
variable {kp:Option (List Nat)}{L:Loc}{ρ:Env}{s:St}{w:World}{os:List DOp}{ds:List D}{B:List (Nat × Rd)}{dst:Option Nat}{tmps:Array Value}{g:G}{Φ:Res→St→Prop}{ν:Nat→Nat}{xs:List Opd}{side:Prop}{row:Nat→List D}
section
variable {K V:Type} [DecidableEq K]
def Zr(k:K):List (K×V)→Option V
 | []=>nO
 |e::r=>if k=e.1 then sO e.2 else Zr k r
def Wl(k:K)(v:V):List (K×V)→List (K×V)
 | []=>[(k,v)]
 |e::r=>if k=e.1 then (k,v)::r else e::Wl k v r
def KJ(kD:K→D)(vD:V→D)(l:List (K×V)):List (D×D):=l.map fun e=>(kD e.1,vD e.2)
def ZjH(kp:KP)(kD:K→D):Prop:=∀a b,W6 kp (kD a) (kD b)=sO (dC (a=b))
theorem YR{kp:KP}{kD:K→D}{vD:V→D}(h:ZjH kp kD)(k:K)(l:List (K×V)):Zbf kp (kD k) (KJ kD vD l)=sO ((Zr k l).map vD):=by
 induction l with
 |nil=>rfl
 |cons e r ih =>simp only[KJ,ZEc,Zbf,h k e.1,Zr];by_cases hk:k=e.1;simp[hk];simp only[hk,decide_false,if_false];exact ih
theorem ZbG{kp:KP}{kD:K→D}{vD:V→D}(h:ZjH kp kD)(k:K)(v:V)(l:List (K×V)):JO kp (kD k) (vD v) (KJ kD vD l)=sO (KJ kD vD (Wl k v l)):=by
 induction l with
 |nil=>rfl
 |cons e r ih =>simp only[KJ,ZEc,JO,h k e.1,Wl];by_cases hk:k=e.1;simp[hk];simp only[hk,decide_false,if_false,ZEc];rw[show JO kp (kD k) (vD v) (r.map fun e=>(kD e.1,vD e.2))=_ from ih];rfl
theorem Y1{kp:KP}{kD:K→D}(h:ZjH kp kD)(k:K):K9 kp (kD k)=true:=by simp[K9,h k k]
theorem KV(k j:K)(v:V)(l:List (K×V)):Zr j (Wl k v l)=if j=k then sO v else Zr j l:=by
 induction l with
 |nil=>simp[Wl,Zr]
 |cons e r ih =>simp only[Wl];by_cases hk:k=e.1;subst hk;simp only[if_true,Zr];split<;>rfl;simp only[hk,if_false,Zr,ih];by_cases hj:j=e.1;subst hj;simp[Ne.symm hk];simp[hj]
theorem ZvD{k:K}{l:List (K×V)}:Zr k l=nO↔k∉l.map (·.1):=by
 induction l with
 |nil=>simp[Zr]
 |cons x r ih =>simp only[Zr,ZEc,ZEz];by_cases h:k=x.1;simp[h];simp[h,ih]
end
def Ks(s:Str):D:=.str s
theorem ZT:ZjH (.sc .str) Ks:=fun a b=>rfl
def W9(n:Int):D:=.int .i64 n
theorem Zha:ZjH (.sc .int) W9:=fun a b=>by simp[W6,W9,Yi]
open Go.Proofs
def vst(st:St)(b x:Nat)(es:List (D×D)):St:=(st.upd b (.map es)).upd x (.cells [.map b])
theorem ZxX{st:St}{b x:Nat}{es:List (D×D)}:(vst st b x es) x=sO (.cells [.map b]):=ZD4 _ _ _
theorem ZxW{st:St}{b x:Nat}{es:List (D×D)}(h:b≠x):(vst st b x es) b=sO (.map es):=by
 unfold vst;rw[ZD6 _ _ h];exact ZD4 _ _ _
theorem Zzb{st:St}{b x:Nat}{es es':List (D×D)}(h:b≠x):(vst st b x es).upd b (.map es')=vst st b x es':=by
 unfold vst;rw[St.upd_comm _ _ _ h,ZEj]
abbrev ZdM(l:List (Str×Bool)):List (D×D):=KJ Ks D.bool l
theorem Zlx(o:Option Bool):Y7 (.bool false) false (o.map D.bool)=.bool (o.getD false):=by cases o<;>rfl
theorem Znj(t:ZO)(st:St)(b x:Nat)(h:b≠x)(l:List (Str×Bool)):
  ZP ZDW 197 [.agg t.cells,.ptr x 0] (vst st b x (ZdM l)) (.bool ((Zr t.field l).getD false||!Jm t)) (vst st b x (ZdM (Wl t.field true l))):=by
 refine ZG (cR 197 f197) fun hwf F i=>?_;have e1:=YR (vD:=D.bool) ZT t.field l;have e2:=ZbG (vD:=D.bool) ZT t.field true l;have e3:=Y1 ZT t.field;simp only[show Ks t.field=D.str t.field from rfl]at e1 e2 e3;refine rx @ZO.cells.eq_1 ?_;refine rh ?_;refine Zl ?_;simp only[Eqs,reduceCtorEq,ZD2,reduceIte,ZD0,ZD3,ZD1,ZxX,ZxW h,e1,Zlx];generalize (Zr t.field l).getD false=tw at *;refine rh ?_;refine Zl ?_;simp only[Eqs,reduceCtorEq,ZD2,reduceIte,ZD0,ZD3,ZD1,ZxX,ZxW h,e2,Zzb h];cases tw with
 |false =>refine rx @ZO.cells.eq_1 ?_;refine clD (ZaB t.field) ?_;refine clD (ZdF t.factor) ?_;refine clD (Zpj _ _ _) ?_;refine i rfl (by trivial) (Zd4 ?_) (ZDY _);unfold Jm;cases YZ t.field<;>cases dC (t.factor=0)<;>cases Zdr t.factor<;>rfl
 |true =>refine rx @ZO.cells.eq_1 ?_;refine Zeb rfl rfl (e:=.d (.bool false)) (Yy ?_);simp only[Eqs,reduceCtorEq,ZD2,reduceIte,ZD0,ZD3,ZD1];refine Zeb rfl rfl (e:=.d (.bool false)) (Yy ?_);simp only[Eqs,reduceCtorEq,ZD2,reduceIte,ZD0,ZD3,ZD1];refine Zeb rfl rfl (e:=.d (.bool false)) (Yy ?_);simp only[Eqs,reduceCtorEq,ZD2,reduceIte,ZD0,ZD3,ZD1];exact i rfl (by trivial) (Zd4 (by simp)) (ZDY _)
theorem ZdY{n i:Nat}(h:i<n):(ZEa n).getD i dE=i:=by simp[ZEb,h]
theorem ZeQ(l:List ZO)(f:D)(p:Nat→Bool)(sts:Nat→St)(hf:∀i,i<l.length→VT ZDW f [.agg (l.getD i dE).cells] (sts i) (.bool (p i)) (sts (i+1))):
  ZP ZDW 110 [slD 2 ZO.cells l,f] (sts 0) (.int .i64 (Zi p (ZEa l.length))) (sts (KS p (ZEa l.length))):=by
 refine ZG (cR 110 f110) fun ac F t=>?_;have hw:=(Wb (ac (slD 2 ZO.cells l) (by simp))).1;unfold big at hw;clear ac;refine rx @eQ1 ?_;refine rx @eQ1 ?_;refine Zc (fr (l.length) (fun i Q=>i≤l.length→(∀j,j<i→p j=false)→Q [(0,.d (slD 2 ZO.cells l)),(1,.d f),(7,.d (.int .i64 l.length)),(8,.d (.int .i64 i))] [] (sts i)) (fun n z=>?_) fun ad=>?_);intro i hn hi u;refine rx @eQ1 ?_;refine Zb (Zu rfl trivial (fun h1=>?_) (fun h1=>?_));simp at h1;refine rx @eQ1 ?_;refine xA (nd2 @eQ1 @ZO.cells.eq_1) ?_;refine cW (hf i h1) ?_;refine cd (fun h2=>?_) (fun h2=>?_);have e1:=Kj (p:=p) (l:=ZEa l.length) (i:=i) (by simpa using h1) (by rw[ZdY h1];exact h2) (fun j hj=>by rw[ZdY (by omega)];exact u j hj);have e2:=Zbt (p:=p) (l:=ZEa l.length) (i:=i) (by simpa using h1) (by rw[ZdY h1];exact h2) (fun j hj=>by rw[ZdY (by omega)];exact u j hj);rw[e1,e2]at t;refine rg ?_;exact t rfl (by trivial) (ZDZ _) (ZDY _);refine gA ?_;refine Zg ?_;exact z ((l.length)-(i+1)) (by omega) (i+1) rfl (by omega) (Ye (q:=fun j=>p j=false) u h2);simp at h1;obtain rfl:i=l.length:=by omega
 have ab:∀x∈ZEa l.length,p x=false:=fun x hx=>u x (by simpa using hx);rw[WP ab,JJ ab,List.length_range]at t;refine rg ?_;exact t rfl (by trivial) (ZDZ _) (ZDY _);exact ad _ 0 rfl (by omega) (by intro j hj;omega)
theorem Zdp(l:List ZO)(f:D)(p:Nat→Bool)(sts:Nat→St)(hf:∀i,i<l.length→VT ZDW f [.agg (l.getD i dE).cells] (sts i) (.bool (p i)) (sts (i+1))):
  ZP ZDW 199 [slD 2 ZO.cells l,f] (sts 0) (.bool ((ZEa l.length).any p)) (sts (KS p (ZEa l.length))):=by
 refine ZG (cR 199 f199) fun n F j=>?_;clear n;refine gG ?_;refine ct (ZeQ l f p sts hf) ?_;rw[Jy]at j;exact j rfl (by trivial) (ZDZ _) (ZDY _)
def Zj7(l:List ZO):Nat→List (Str×Bool)
 |0=>[]
 |i+1=>Wl (l.getD i dE).field true (Zj7 l i)
theorem Zwi(l:List ZO)(s:Str)(i:Nat)(hi:i≤l.length):(Zr s (Zj7 l i)).getD false=dC (s∈(l.take i).map (·.field)):=by
 induction i with
 |zero=>simp[Zj7,Zr]
 |succ i ih =>have h:=ih (by omega);rw[Zj7,KV,YJ (by omega),List.map_append];by_cases hs:s=(l.getD i dE).field;rw[if_pos hs];simp[hs];rw[if_neg hs,h];simp only[List.mem_append,ZEc,ZEs,List.mem_singleton,hs,or_false]
theorem ZcN(l r:List ZO)(k:Nat)(hr:r=l.drop k)(hk:k≤l.length):ZaU ((l.take k).map (·.field)) r=!((ZEa r.length).any fun i=>(dC ((l.getD (k+i) dE).field∈(l.take (k+i)).map (·.field))||!Jm (l.getD (k+i) dE))):=by
 induction r generalizing k with
 |nil=>rfl
 |cons t q ih =>
  have j:k<l.length:=by have:=congrArg List.length hr;simp at this;omega
  rw[Zap j]at hr;injection hr with h1 h2;have h3:=ih (k+1) h2 (by omega);rw[ZaU,ZEf,List.range_succ_eq_map,List.any_cons,List.any_map];rw[show(l.take k).map (·.field)++[t.field]=(l.take (k+1)).map (·.field) by rw[YJ j,List.map_append,←h1];rfl,h3];simp only[Nat.add_zero,←h1,Function.comp_def,Nat.succ_eq_add_one];rw[show(fun i=>dC ((l.getD (k+(i+1)) dE).field∈(l.take (k+(i+1))).map (·.field))||!Jm (l.getD (k+(i+1)) dE))=fun i=>dC ((l.getD (k+1+i) dE).field∈(l.take (k+1+i)).map (·.field))||!Jm (l.getD (k+1+i) dE) from funext fun i=>by rw[show k+(i+1)=k+1+i by omega]];cases Jm t<;>cases dC (t.field∈(l.take k).map (·.field))<;>simp
theorem JS(s:Wi):Zf ZDW 149 [.agg s.cells] (.bool (ZU s)):=by
 refine YS (cR 149 f149) fun hwf F st j=>?_;refine rx (nd2 @eQ4 (nd2 @Yl.eq_1 @eQ1)) ?_;refine rg ?_;intro b hb;refine Zb ?_;refine ZcO 3 rfl fun x hx=>?_;simp only[Eqs,reduceCtorEq,ZD2,reduceIte,ZD0,ZD3,ZD1,Jp,QE,delL];refine rg ?_;have n:b≠x:=fun e=>by rw[e,ZD4]at hx;simp at hx
 have t:∀o,(st.upd b o) x=nO:=fun o=>by rw[ZD6 _ _ (Ne.symm n)]at hx⊢;exact hx
 have u:(st.upd b (.map [])).upd x (.cells [.map b])=vst st b x (ZdM []):=rfl;rw[u];cases hc:(Zdr s.base&&dC ((s.terms.length:Int)≤4)) with
 |false =>refine rx (nd2 @eQ4 (nd2 @Yl.eq_1 @eQ1)) ?_;refine clD (ZdF s.base) ?_;refine cXD @hc (Zjn _ _) ?_;refine Zeb rfl rfl (e:=.d (.bool false)) (Yy ?_);simp only[Eqs,reduceCtorEq,ZD2,reduceIte,ZD0,ZD3,ZD1];refine j rfl (by trivial) (Zd4 ?_) (ZED (ZEl _ hb) (ZEl _ (t _)));unfold ZU;rw[show dC (s.terms.length≤4)=dC ((s.terms.length:Int)≤4) from decide_eq_decide.2 (by omega),hc];rfl
 |true =>refine rx (nd2 @eQ4 (nd2 @Yl.eq_1 @eQ1)) ?_;refine clD (ZdF s.base) ?_;refine cXD @hc (Zjn _ _) ?_;refine Zh0 rfl rfl rfl rfl rfl (by trivial) (by trivial) (by exact Zdp s.terms (.fn (.func 197) [] [.ptr x 0]) (fun i=>dC ((s.terms.getD i dE).field∈(s.terms.take i).map (·.field))||!Jm (s.terms.getD i dE)) (fun i=>vst st b x (ZdM (Zj7 s.terms i))) (fun i hi=>(by have:=Znj (s.terms.getD i dE) st b x n (Zj7 s.terms i);rw[Zwi _ _ _ (by omega)]at this;exact this.VT (first:=[]) (args:=[_]) (caps:=[_])))) (by first|trivial|exact⟨rfl,trivial⟩|simp[Y0,KA]) (Yy ?_);simp only[Eqs,reduceCtorEq,ZD2,reduceIte,ZD0,ZD3,ZD1];refine j rfl (by trivial) (Zd4 ?_) (ZED (ZEl _ hb) (ZEl _ (t _)));have hv:=ZcN s.terms s.terms 0 rfl (by omega);simp only[Nat.zero_add]at hv;rw[←hv];unfold ZU;rw[show dC (s.terms.length≤4)=dC ((s.terms.length:Int)≤4) from decide_eq_decide.2 (by omega),hc,ZEm];rfl
theorem Zhu(l:List ZO)(hl:l.length≤1000000)(st:St):Za ZDW 200 [Yl l] st (fun r s=>r=.ret (Yl l)∧s=st):=by
 refine Zd (cR 200 f200) fun F hF=>?_;by_cases h0:l.length=0;have u:l=[]:=List.eq_nil_of_length_eq_zero h0;subst u;refine ZdI 0 rfl ?_ fun b off cap=>?_
 skip
 refine rx (nd2 @Yl.eq_1 @eQ1) ?_;refine rg ?_;refine i1 ?_;refine rg ?_;exact hF.ret _ st rfl (by trivial) (QB (Kk fun b h=>by cases h)) (ZDY _) ⟨rfl,rfl⟩
 skip
 refine rx (nd2 @Yl.eq_1 @eQ1) ?_;refine rg ?_;refine iG ?_;refine ZdH (s:=st) (t:=.full) (m:=0) (row2:=fun _=>[]) rfl rfl rfl rfl rfl (by trivial) (by trivial) (fun g w v h=>Zfm h) trivial (by decide) (by unfold big;decide) fun t1 j=>?_;refine gR0 ?_;exact hF.ret _ st rfl (by trivial) (QB ((Z0.nil (f:=ZO.cells)).le rfl)) (Y2 j) ⟨rfl,rfl⟩
 skip
 refine rx (nd2 @Yl.eq_1 @eQ1) ?_;refine gA ?_;refine iG ?_;refine ZaZ (st) (.full) rfl rfl rfl rfl rfl rfl (by trivial) (by trivial) rfl (by first|trivial|assumption) (by omega) (by (unfold big;omega)) fun t1 j=>Zl ?_;simp only[Eqs,reduceCtorEq,ZD2,reduceIte,ZD0,ZD3,ZD1];have n:Z0 ZO.cells (YG 0 (Z8 [.str [],.int .i64 0] ([].zip [])) fun i=>(l.getD i dE).cells) ([]++l):=Z0.nil.app Z0.self rfl;exact hF.ret _ st rfl (by trivial) (QB (n.le (by simp))) (Y2 j) ⟨rfl,rfl⟩
theorem Zaf(l:List ZO)(hl:l.length≤big)(x:Nat):Zcr ZDW (.fn (.func 201) [] [.ptr x 0]) l.length (fun j=>[.str (l.getD j dE).field]) (ZEn x (.cells [Yl l])):=by
 intro y go A a0 ad hA hd;have hw:=hl;unfold big at hw;refine Za.V (first:=[]) (args:=[y]) (caps:=[.ptr x 0]) (Zd (cR 201 f201) fun F hF=>?_);have hx:∀a,Z6 a (ZEn x (.cells [Yl l]))→(a.or (ZEn x (.cells [Yl l]))) x=sO (.cells [Yl l]):=fun a ag=>by rw[ZH (ag x _ (Yn _ _)),Yn]
 generalize hT:ZEn x (.cells [Yl l])=T at *;refine rh ?_;refine Zl ?_;simp only[Eqs,reduceCtorEq,ZD2,reduceIte,ZD0,ZD3,ZD1,hx a0 hd,Yl,slD];refine Zc (fr (l.length) (fun j Q=>∀a,A j a→Z6 a T→(∀i,i<j→go i=.next)→j≤l.length→Q [(0,.d y),(5,.d (Yl l)),(6,.d (.int .i64 l.length)),(7,.d (.int .i64 j))] [] (a.or T)) (fun n ac=>?_) fun af=>?_)
 ·clear hA hd;intro j hn a hA hd u hj;refine rx (nd2 @Yl.eq_1 @eQ1) ?_;refine Zb (Zu rfl trivial (fun h1=>?_) (fun h1=>?_))
  ·simp at h1;generalize hg:l.getD j dE=g at *;refine xA (nd2 @ZO.cells.eq_1 (nd2 @Yl.eq_1 (nd2 @eQ1 @hg))) ?_;refine rg ?_;have z:=(ad j h1 u a hA).frame hd;simp only[hg]at z;refine vV (z) ?_ ?_
   ·rintro d S ⟨s',⟨hr,ab⟩,ae,rfl⟩;cases t:go j with
    |next =>rw[t]at hr;cases hr;refine gR0 ?_;refine i0 ?_;refine gA ?_;refine Zg ?_;exact ac ((l.length)-(j+1)) (by omega) (j+1) rfl s' ab ae (Ye (q:=fun i=>go i=.next) u t) (by omega)
    |stop c =>rw[t]at hr;cases hr;refine gR0 ?_;refine i1 ?_;exact hF.ret (.tup []) _ rfl trivial (ZDZ _) (ZDY _) ⟨s',.stop j c h1 u t ab,Kg _ _⟩
    |pan d=>rw[t]at hr;cases hr
   rintro d S ⟨s',⟨hr,ab⟩,ae,rfl⟩;cases t:go j with
   |pan d' =>rw[t]at hr;cases hr;exact hF.pan _ (ZDY _) ⟨s',.pan j d h1 u t ab,Kg _ _⟩
   |next=>rw[t]at hr;cases hr
   |stop c=>rw[t]at hr;cases hr
  simp at h1;obtain rfl:j=l.length:=by omega
  refine ZQ rfl ?_;exact hF.fin (.tup []) _ rfl trivial (ZDZ _) (ZDY _) ⟨a,.all u hA,Kg _ _⟩
 exact af _ 0 rfl a0 hA hd (by intro i hi;omega) (by omega)
theorem QG{s:Wi}(h:ZU s=true):s.terms.length≤4:=by
 unfold ZU at h;simp only[ZD5,decide_eq_true_eq]at h;exact h.1.2
theorem Zbi(s:Wi)(hv:ZU s=true)(st:St):Za ZDW 150 [.agg s.cells] st (fun r S=>∃x,st x=nO∧r=.ret (.fn (.func 201) [] [.ptr x 0])∧S=st.or (ZEn x (.cells [Yl s.terms]))):=by
 have hfew:=QG hv;refine Zd (cR 150 f150) fun F hF=>?_;refine rx @eQ4 ?_;refine rg ?_;refine rx @eQ4 ?_;refine cX @hv (JS s) ?_;refine i1 ?_;refine rx @eQ4 ?_;have c9:=(Zhu s.terms (by omega) st);refine cV (c9) ?_ ?_;rintro d S ⟨hd,rfl⟩;cases hd;refine gR0 ?_;refine⟨rfl,?_⟩;refine Zb ?_;refine ZcO 3 rfl fun x hx=>?_;simp only[Eqs,reduceCtorEq,ZD2,reduceIte,ZD0,ZD3,ZD1,Jp,QE,delL];refine rg ?_;exact hF.ret _ _ rfl (by trivial) (ZDZ _) (ZDY _) ⟨x,hx,rfl,KG hx⟩;rintro d S ⟨hd,_⟩;cases hd
def K3(r:Int×Int):D:=.agg [.int .i64 r.1,.int .i64 r.2]
abbrev Zk7:=List (Str×(Int×Int))
abbrev Za7(l:Zk7):List (D×D):=KJ Ks K3 l
theorem Zq{b c:Nat}{o:Z1}(h:(s.upd b o) c=nO):c≠b∧s c=nO:=by
 have:c≠b:=fun e=>by rw[e,ZD4]at h;simp at h
 exact⟨this,by rw[ZD6 _ _ this]at h;exact h⟩
theorem Zjm(r:Int×Int):Zf ZDW 336 [K3 r] (.bool (!Zbp r)):=by
 refine Zo (cR 336 f336) fun F st i=>?_;refine rx @K3.eq_1 ?_;refine rg ?_;refine cl (Zpj _ _ _) ?_;refine rb i ?_;unfold Zbp;rw[Bool.not_or,Bool.not_or,←decide_not,←decide_not,←decide_not];simp only[Int.not_lt,Int.not_le,Bool.and_assoc]
def ckS(st:St)(b5 b6 b7 b8 b9 b:Nat)(rc:Int)(nn:Bool):St :=
 ((((st.upd b5 (.cells [.str []])).upd b6 (.cells [.map b])).upd b7 (.cells [.fn (.func 336) [] []])).upd b8 (.cells [.int .i64 rc])).upd b9 (.cells [.bool nn])
structure YC(st:St)(b5 b6 b7 b8 b9:Nat):Prop where
 n5:st b5=none
 n6:b6≠b5∧st b6=none
 n7:b7≠b6∧b7≠b5∧st b7=none
 n8:b8≠b7∧b8≠b6∧b8≠b5∧st b8=none
 n9:b9≠b8∧b9≠b7∧b9≠b6∧b9≠b5∧st b9=none
section
variable {st:St} {b5 b6 b7 b8 b9 b:Nat} {rc:Int} {nn:Bool}
theorem YC.g5(h:YC st b5 b6 b7 b8 b9):(ckS st b5 b6 b7 b8 b9 b rc nn) b5=sO (.cells [.str []]):=by
 simp[ckS,ZEv,h.n6.1.symm,h.n7.2.1.symm,h.n8.2.2.1.symm,h.n9.2.2.2.1.symm]
theorem YC.g6(h:YC st b5 b6 b7 b8 b9):(ckS st b5 b6 b7 b8 b9 b rc nn) b6=sO (.cells [.map b]):=by
 simp[ckS,ZEv,h.n7.1.symm,h.n8.2.1.symm,h.n9.2.2.1.symm]
theorem YC.g7(h:YC st b5 b6 b7 b8 b9):(ckS st b5 b6 b7 b8 b9 b rc nn) b7=sO (.cells [.fn (.func 336) [] []]):=by
 simp[ckS,ZEv,h.n8.1.symm,h.n9.2.1.symm]
theorem YC.g8(h:YC st b5 b6 b7 b8 b9):(ckS st b5 b6 b7 b8 b9 b rc nn) b8=sO (.cells [.int .i64 rc]):=by
 simp[ckS,ZEv,h.n9.1.symm]
theorem YC.g9:(ckS st b5 b6 b7 b8 b9 b rc nn) b9=sO (.cells [.bool nn]):=by
 simp[ckS,ZEv]
theorem YC.gm(h:YC st b5 b6 b7 b8 b9){o:Z1}(hb:st b=sO o):(ckS st b5 b6 b7 b8 b9 b rc nn) b=sO o:=by
 have h5:b≠b5:=fun e=>by rw[e,h.n5]at hb;simp at hb
 have h6:b≠b6:=fun e=>by rw[e,h.n6.2]at hb;simp at hb
 have h7:b≠b7:=fun e=>by rw[e,h.n7.2.2]at hb;simp at hb
 have h8:b≠b8:=fun e=>by rw[e,h.n8.2.2.2]at hb;simp at hb
 have h9:b≠b9:=fun e=>by rw[e,h.n9.2.2.2.2]at hb;simp at hb
 simp[ckS,ZEv,h5,h6,h7,h8,h9,hb]
theorem YC.s8(h:YC st b5 b6 b7 b8 b9)(rc':Int):(ckS st b5 b6 b7 b8 b9 b rc nn).upd b8 (.cells [.int .i64 rc'])=ckS st b5 b6 b7 b8 b9 b rc' nn:=by
 unfold ckS;rw[St.upd_comm _ _ _ h.n9.1.symm,ZEj]
theorem YC.s9(nn':Bool):(ckS st b5 b6 b7 b8 b9 b rc nn).upd b9 (.cells [.bool nn'])=ckS st b5 b6 b7 b8 b9 b rc nn':=by
 unfold ckS;rw[ZEj]
theorem YC.sub(h:YC st b5 b6 b7 b8 b9):st.sub (ckS st b5 b6 b7 b8 b9 b rc nn):=fun c o hc=>by
 have h5:c≠b5:=fun e=>by rw[e,h.n5]at hc;simp at hc
 have h6:c≠b6:=fun e=>by rw[e,h.n6.2]at hc;simp at hc
 have h7:c≠b7:=fun e=>by rw[e,h.n7.2.2]at hc;simp at hc
 have h8:c≠b8:=fun e=>by rw[e,h.n8.2.2.2]at hc;simp at hc
 have h9:c≠b9:=fun e=>by rw[e,h.n9.2.2.2.2]at hc;simp at hc
 simp[ckS,ZEv,h5,h6,h7,h8,h9,hc]
end
theorem ZjK{st t:St}{b5 b6 b7 b8 b9 b:Nat}{rc rc':Int}{nn nn':Bool}(h:Z6 (ckS st b5 b6 b7 b8 b9 b rc nn) t):Z6 (ckS st b5 b6 b7 b8 b9 b rc' nn') t:=fun c o hc=>by
 have:=h c o hc;unfold ckS at this⊢;have k9:=Zq this;have k8:=Zq k9.2;rw[ZD6 _ _ k9.1,ZD6 _ _ k8.1];exact k8.2
theorem ZqF{st:St}{b5 b6 b7 b8 b9 b:Nat}{rc:Int}{nn:Bool}(h:YC st b5 b6 b7 b8 b9)(hρ:ZM ρ 8=sO (.d (.ptr b8 0)):=by rfl):
  Yt ρ L (ckS st b5 b6 b7 b8 b9 b rc nn) [.cell1 8]=sO (True∧True,[.int .i64 rc]):=by
 simp[Yt,WV,hρ,Y6,Yc,h.g8]
theorem ZnM{α:Type}[Inhabited α]{p:α→Bool}{l:List α}(h:∀i,i<l.length→p (l.getD i dE)=false):l.any p=false:=by
 apply List.any_eq_false.2;intro x hx;obtain⟨i,hi,rfl⟩:=ZEe hx;have:=h i hi;simpa[ZEb,hi]using this
theorem Zjy{s:Wi}{j:Nat}(h:ZU s=true)(hj:j<s.terms.length):(s.terms.getD j dE).field≠[]:=by
 unfold ZU at h;simp only[ZD5]at h;have h1:=ZcN s.terms s.terms 0 rfl (by omega);simp only[List.take_zero,ZEs,Nat.zero_add]at h1;rw[h1]at h;have h2:((ZEa s.terms.length).any fun i=>dC ((s.terms.getD i dE).field∈(s.terms.take i).map (·.field))||!Jm (s.terms.getD i dE))=false:=by simpa using h.2
 have h3:=List.any_eq_false.1 h2 j (by simpa using hj);simp only[ZEk,not_or,Bool.not_eq_true',Bool.not_eq_false]at h3;have h4:=h3.2;intro e;rw[Jm,e]at h4;simp[YZ]at h4
theorem Znk(s:Wi)(b:Nat)(l:Zk7)(st:St)(hb:st b=sO (.map (Za7 l))):
  Za ZDW 337 [.agg s.cells,.str [],.map b,.fn (.func 336) [] []] st (fun r S=>r=.ret (.int .i64 (ZbZ s (fun k=>Zr k l)))∧S=st):=by
 refine Zd (cR 337 f337) fun F hF=>?_;refine rx @eQ4 ?_;refine rx @eQ4 ?_;refine cl (JS s) ?_;refine cd (fun hv=>?_) (fun hv=>?_);have ac:ZU s=false:=by simpa using hv
 refine rg ?_;refine hF.ret _ st rfl (by trivial) (Zgd ?_) (ZDY _) ⟨rfl,rfl⟩;rw[ZbZ,if_pos ac];have ac:ZU s=true:=by simpa using hv
 refine rg ?_;refine Zb (Zb ?_);refine xP 5 fun b5 h5=>?_;refine xP 6 fun b6 h6=>?_;refine xP 7 fun b7 h7=>?_;refine xP 8 fun b8 h8=>?_;refine xP 9 fun b9 h9=>?_;refine rx @eQ4 ?_;refine cV (Zbi s ac _) ?_ ?_
 ·rintro d S ⟨x,hx,hd,rfl⟩;cases hd;refine gR0 ?_;refine Zc ?_;have n:YC st b5 b6 b7 b8 b9:=by have k6:=Zq h6;have k7:=Zq h7;have av:=Zq k7.2;have k8:=Zq h8;have am:=Zq k8.2;have ax:=Zq am.2;have k9:=Zq h9;have aq:=Zq k9.2;have al:=Zq aq.2;have aw:=Zq al.2;exact⟨h5,k6,⟨k7.1,av⟩,⟨k8.1,am.1,ax⟩,⟨k9.1,aq.1,al.1,aw⟩⟩
  have hfew:=QG ac;rw[show(((((st.upd b5 (.cells [.str []])).upd b6 (.cells [.map b])).upd b7 (.cells [.fn (.func 336) [] []])).upd b8 (.cells [.int .i64 0])).upd b9 (.cells [.bool false]))=ckS st b5 b6 b7 b8 b9 b 0 false from rfl]at hx⊢;refine Ka hF rfl trivial [5,6,7,8,9] (by show([5,6,7,8,9]:List Nat).Nodup;decide) (Wh hx) (Zaf s.terms (by unfold big;omega) x).Y (fun j hj=>rfl)
   (fun j=>if K8 (fun k=>Zr k l) (s.terms.getD j dE) then .stop .ret else .next)
   (fun j a=>((∀i,i<j→K8 (fun k=>Zr k l) (s.terms.getD i dE)=false)∧a=ckS st b5 b6 b7 b8 b9 b 0 ((s.terms.take j).any (Je fun k=>Zr k l)))∨((∃nn,a=ckS st b5 b6 b7 b8 b9 b 2 nn)∧∃i,i<j∧K8 (fun k=>Zr k l) (s.terms.getD i dE)=true))
   (.inl ⟨fun i hi=>by omega,rfl⟩) ?_ ?_ ?_ ?_ ?_ ?_
  ·intro j a hj ae hB F' ready busy hdr ao ab;have z:∀i,i<j→K8 (fun k=>Zr k l) (s.terms.getD i dE)=false:=fun i hi=>by have:=ae i hi;split at this;simp at this;rename_i h;simpa using h
   rcases hB with ⟨_,rfl⟩|⟨_,i,hi,ag⟩
   ·skip
    simp only[Eqs,reduceCtorEq,ZD2,reduceIte,ZD0,ZD3,ZD1,Ws,WG,Qy,WU,List.isEmpty_nil,List.isEmpty_cons];refine rg ?_;refine ao fun aj=>?_;have ap:(s.terms.getD j dE).field≠[]:=Zjy ac hj;have ah:=ZwK (p:=Je fun k=>Zr k l) hj;generalize ai:s.terms.getD j dE=tm at *;have e1:=YR (vD:=K3) ZT tm.field l;have e3:=Y1 ZT tm.field;simp only[show Ks tm.field=D.str tm.field from rfl]at e1 e3;cases hg:Zr tm.field l with
    |none =>
     rw[hg]at e1;have t:K8 (fun k=>Zr k l) tm=false:=by simp[K8,hg]
     have ad:Je (fun k=>Zr k l) tm=true:=by simp[Je,hg]
     rw[ad,Bool.or_true]at ah;rw[if_neg (by rw[t];simp)]at ab;refine rh ?_;refine Zl ?_;simp only[Eqs,reduceCtorEq,ZD2,reduceIte,ZD0,ZD3,ZD1,Zp (n.g6 ),Zp (n.gm hb),e1,e3];refine rh ?_;refine Zl ?_;simp only[Eqs,reduceCtorEq,ZD2,reduceIte,ZD0,ZD3,ZD1,Zp (n.g5 )];refine Zu rfl trivial (fun h=>by simp at h;exact absurd h ap) (fun _=>?_);refine rg ?_;refine i1 ?_;refine rh ?_;refine Zl ?_;simp only[Eqs,reduceCtorEq,ZD2,reduceIte,ZD0,ZD3,ZD1,Zp (YC.g9 ),WD,YC.s9];refine Zj (Zj ?_);exact ab.fin ⟨rfl,.inl ⟨Ye (q:=fun i=>K8 (fun k=>Zr k l) (s.terms.getD i dE)=false) z (by rw[ai];exact t),by rw[ah]⟩⟩ (ZjK aj) (ZDY _)
    |some r =>
     rw[hg]at e1;have t:K8 (fun k=>Zr k l) tm=Zbp r:=by simp[K8,hg]
     have ad:Je (fun k=>Zr k l) tm=false:=by simp[Je,hg]
     rw[ad,Bool.or_false]at ah;refine rh ?_;refine Zl ?_;simp only[Eqs,reduceCtorEq,ZD2,reduceIte,ZD0,ZD3,ZD1,Zp (n.g6 ),Zp (n.gm hb),e1,e3,K3];refine rh ?_;refine Zl ?_;simp only[Eqs,reduceCtorEq,ZD2,reduceIte,ZD0,ZD3,ZD1,Zp (n.g5 )];refine Zu rfl trivial (fun h=>by simp at h;exact absurd h ap) (fun _=>?_);refine gI ?_;refine rh ?_;refine Zl ?_;simp only[Eqs,reduceCtorEq,ZD2,reduceIte,ZD0,ZD3,ZD1,Zp (n.g7 )];refine cl (Zjm r) ?_;refine cd (fun hr=>?_) (fun hr=>?_);have af:Zbp r=true:=by simpa using hr
     rw[if_pos (by rw[t];exact af)]at ab;refine rh ?_;refine Zl ?_;simp only[Eqs,reduceCtorEq,ZD2,reduceIte,ZD0,ZD3,ZD1,Zp (n.g8 ),WD,n.s8];exact ab.ret ⟨rfl,.inr ⟨⟨_,rfl⟩,j,by omega,by rw[ai,t];exact af⟩⟩ (ZjK aj) (ZDY _);have af:Zbp r=false:=by simpa using hr
     rw[if_neg (by rw[t,af];simp)]at ab;refine Zy (Zj (Zj ?_));exact ab.fin ⟨rfl,.inl ⟨Ye (q:=fun i=>K8 (fun k=>Zr k l) (s.terms.getD i dE)=false) z (by rw[ai,t];exact af),by rw[ah]⟩⟩ aj (ZDY _)
   rw[z i hi]at ag;simp at ag
  intro q a ae hB hq;have z:∀i,i<s.terms.length→K8 (fun k=>Zr k l) (s.terms.getD i dE)=false:=fun i hi=>by have:=ae i hi;split at this;simp at this;rename_i h;simpa using h
  rcases hB with ⟨_,rfl⟩|⟨_,i,hi,ag⟩;rw[ZEy]at hq⊢;have ak:s.terms.any (K8 fun k=>Zr k l)=false:=ZnM z;have hI:=ZbZ.eq_1 s fun k=>Zr k l;rw[if_neg (by rw[ac];simp),if_neg (by rw[ak];simp)]at hI;rw[KG hq];have ar:=Wh (o:=Z1.dfr) hq;generalize s.terms.any (Je fun k=>Zr k l)=nn at *;refine rh ?_;refine Zl ?_;simp only[Eqs,reduceCtorEq,ZD2,reduceIte,ZD0,ZD3,ZD1,Zp (YC.g9 )];refine cd (fun hn=>?_) (fun hn=>?_);rw[if_pos hn]at hI;refine rh ?_;refine Zl ?_;simp only[Eqs,reduceCtorEq,ZD2,reduceIte,ZD0,ZD3,ZD1,Zp (n.g8 ),WD,n.s8];exact hF.ret1 (Ze9 (ZjK ar) (Yn _ _)) (.int .i64 9) st (ZqF n) ⟨trivial,trivial⟩ (ZDZ _) n.sub ⟨by rw[hI],rfl⟩;rw[if_neg (by rw[hn];simp)]at hI;refine rh ?_;refine Zl ?_;simp only[Eqs,reduceCtorEq,ZD2,reduceIte,ZD0,ZD3,ZD1,Zp (n.g8 ),WD,n.s8];exact hF.ret1 (Ze9 (ZjK ar) (Yn _ _)) (.int .i64 0) st (ZqF n) ⟨trivial,trivial⟩ (ZDZ _) n.sub ⟨by rw[hI],rfl⟩;rw[z i hi]at ag;simp at ag;intro q a m hm ae u hB hq;have z:∀i,i<m→K8 (fun k=>Zr k l) (s.terms.getD i dE)=false:=fun i hi=>by have:=ae i hi;split at this;simp at this;rename_i h;simpa using h
  have t:K8 (fun k=>Zr k l) (s.terms.getD m dE)=true:=by split at u;rename_i h;exact h;simp at u
  rcases hB with ⟨au,_⟩|⟨⟨nn,rfl⟩,_⟩;rw[au m (by omega)]at t;simp at t;have ak:s.terms.any (K8 fun k=>Zr k l)=true:=Zzm hm t;have hI:=ZbZ.eq_1 s fun k=>Zr k l;rw[if_neg (by rw[ac];simp),if_pos ak]at hI;rw[KG hq];exact hF.ret1 hq (.int .i64 2) st (ZqF n) ⟨trivial,trivial⟩ (ZDZ _) n.sub ⟨by rw[hI],rfl⟩;intro q a m id hm ae u;split at u<;>simp at u;intro q a m d hm ae u;split at u<;>simp at u;intro m c u;split at u<;>simp at u;exact .inl u.symm
 rintro d S ⟨x,hx,hd,rfl⟩;cases hd
def KZ(v:ZO→Int):List ZO→Int
 | []=>0
 |t::r=>t.factor*v t+KZ v r
theorem Zwt{v:ZO→Int}{l:List ZO}{i:Nat}(h:i<l.length):KZ v (l.take (i+1))=KZ v (l.take i)+(l.getD i dE).factor*v (l.getD i dE):=by
 rw[YJ h];generalize l.getD i dE=x;induction l.take i with
 |nil=>simp[KZ]
 |cons y r ih=>simp only[List.cons_append,KZ,ih];omega
theorem Zo8{a b:Int}(ha:-1048576≤a∧a≤1048576)(hb:0≤b∧b<34359738368):-36028797018963968≤a*b∧a*b≤36028797018963968:=by
 have h1:a*b≤1048576*b:=Int.mul_le_mul_of_nonneg_right ha.2 hb.1;have h2:-1048576*b≤a*b:=Int.mul_le_mul_of_nonneg_right ha.1 hb.1;omega
theorem ZuU{v:ZO→Int}{l:List ZO}(h:∀t∈l,(-1048576≤t.factor∧t.factor≤1048576)∧0≤v t∧v t<34359738368):-36028797018963968*(l.length:Int)≤KZ v l∧KZ v l≤36028797018963968*(l.length:Int):=by
 induction l with
 |nil=>simp[KZ]
 |cons t r ih =>have h1:=ih fun x hx=>h x (by simp[hx]);have h2:=Zo8 (h t (by simp)).1 (h t (by simp)).2;simp only[KZ,ZEf];generalize t.factor*v t=y at *;omega
theorem Zfz{s:Wi}(h:ZU s=true):(-1048576≤s.base∧s.base≤1048576)∧∀t∈s.terms,-1048576≤t.factor∧t.factor≤1048576:=by
 unfold ZU at h;simp only[ZD5]at h;refine⟨by have:=h.1.1;simpa[Zdr]using this,fun t ht=>?_⟩;have h1:=ZcN s.terms s.terms 0 rfl (by omega);simp only[List.take_zero,ZEs,Nat.zero_add]at h1;rw[h1]at h;have h2:((ZEa s.terms.length).any fun i=>dC ((s.terms.getD i dE).field∈(s.terms.take i).map (·.field))||!Jm (s.terms.getD i dE))=false:=by simpa using h.2
 obtain⟨j,hj,rfl⟩:=ZEe ht;have h3:=List.any_eq_false.1 h2 j (by simpa using hj);simp only[ZEk,not_or,Bool.not_eq_true',Bool.not_eq_false]at h3;have h4:=h3.2;unfold Jm at h4;simp only[ZD5]at h4;have h5:=h4.2;simpa[Zdr,ZEb,hj]using h5
theorem ZcJ(s:Wi)(hv:ZU s=true)(f:D)(v:ZO→Int)(st:St)(hb:∀t∈s.terms,0≤v t∧v t<34359738368)(hf:∀t∈s.terms,VT ZDW f [.agg t.cells] st (.int .i64 (v t)) st):
  ZP ZDW 112 [.agg s.cells,f] st (.int .i64 (s.base+KZ v s.terms)) st:=by
 refine ZG (cR 112 f112) fun ah F ab=>?_;clear ah;have hfew:=QG hv;have ac:=Zfz hv;refine rx (nd2 @eQ4 (nd2 @Yl.eq_1 @eQ1)) ?_;refine rx @eQ4 ?_;refine rx (nd2 @eQ4 (nd2 @Yl.eq_1 @eQ1)) ?_;refine Zc (fr (s.terms.length) (fun j Q=>j≤s.terms.length→Q [(1,.d f),(5,.d (.int .i64 (s.base+KZ v (s.terms.take j)))),(11,.d (Yl s.terms)),(12,.d (.int .i64 s.terms.length)),(13,.d (.int .i64 j))] [] st) (fun n z=>?_) fun af=>?_);intro j hn hj;refine rg ?_;refine Zb (Zu rfl trivial (fun h1=>?_) (fun h1=>?_));simp at h1;have i:=ZC h1;have ae:=Zwt (v:=v) h1;have ag:=ZuU (v:=v) (l:=s.terms.take j) fun t ht=>⟨ac.2 t (List.mem_of_mem_take ht),hb t (List.mem_of_mem_take ht)⟩;rw[ZEh]at ag;generalize ad:s.terms.getD j dE=tm at *;have hmb:=Zo8 (ac.2 tm i) (hb tm i);refine xA (nd2 @ZO.cells.eq_1 (nd2 @Yl.eq_1 (nd2 @eQ1 @ad))) ?_;refine rx @ZO.cells.eq_1 ?_;refine cWD (hf tm i) ?_;generalize hmv:tm.factor*v tm=mv at *;refine aa ?_;refine gA ?_;refine Zg ?_;have u:=z ((s.terms.length)-(j+1)) (by omega) (j+1) rfl (by omega);rw[ae,←Int.add_assoc]at u;exact u;simp at h1;obtain rfl:j=s.terms.length:=by omega
 rw[ZEy];refine rg ?_;exact ab rfl (by trivial) (ZDZ _) (ZDY _);have hk:=af _ 0 rfl (by omega);rw[List.take_zero,show KZ v []=0 from rfl,Int.add_zero]at hk;exact hk
def Zdx(look:ZbK)(least:Bool)(t:ZO):Int:=if least=dC (0<t.factor) then (ZgZ look t).1 else (ZgZ look t).2
theorem Zy6(look:ZbK)(l:List ZO):KZ (Zdx look true) l=loS look l:=by
 induction l with
 |nil=>rfl
 |cons t r ih =>simp only[KZ,loS,ih,loT,Zdx];by_cases h:0<t.factor<;>simp[h]
theorem Zy5(look:ZbK)(l:List ZO):KZ (Zdx look false) l=hiS look l:=by
 induction l with
 |nil=>rfl
 |cons t r ih =>simp only[KZ,hiS,ih,hiT,Zdx];by_cases h:0<t.factor<;>simp[h]
theorem Zo6(o:Option (Int×Int)):Y7 (.agg [.int .i64 0,.int .i64 0]) false (o.map K3)=.agg [.int .i64 (o.getD (0,0)).1,.int .i64 (o.getD (0,0)).2]:=by cases o<;>rfl
theorem Zht(t:ZO)(l:Zk7)(least:Bool)(b x y:Nat)(st:St)(hb:st b=sO (.map (Za7 l)))(hx:st x=sO (.cells [.map b]))(hy:st y=sO (.cells [.bool least])):
  ZP ZDW 339 [.agg t.cells,.ptr x 0,.ptr y 0] st (.int .i64 (Zdx (fun k=>Zr k l) least t)) st:=by
 refine ZG (cR 339 f339) fun j F i=>?_;clear j;have e1:=YR (vD:=K3) ZT t.field l;have e3:=Y1 ZT t.field;simp only[show Ks t.field=D.str t.field from rfl]at e1 e3;refine rx @ZO.cells.eq_1 ?_;refine rh ?_;refine Zl ?_;simp only[Eqs,reduceCtorEq,ZD2,reduceIte,ZD0,ZD3,ZD1,hx,hb,e1,e3,Zo6];refine rx @hy ?_;refine cd (fun h1=>?_) (fun h1=>?_);refine rg ?_;refine i rfl (by trivial) (Zgd ?_) (ZDY _);unfold Zdx ZgZ;rw[if_pos (by simpa using h1)];refine rh ?_;refine Zl ?_;simp only[Eqs,reduceCtorEq,ZD2,reduceIte,ZD0,ZD3,ZD1,hx,hb,e1,e3,Zo6];refine i rfl (by trivial) (Zgd ?_) (ZDY _);unfold Zdx ZgZ;rw[if_neg (by simpa using h1)]
theorem Zxj{s:Wi}{look:ZbK}(h:ZbZ s look=0):ZU s=true∧∀t∈s.terms,∀least,0≤Zdx look least t∧Zdx look least t<34359738368:=by
 unfold ZbZ at h;split at h;· omega
 rename_i hv;split at h;· omega
 rename_i hb;refine⟨by simpa using hv,fun t ht least=>?_⟩;have h1:K8 look t=false:=by
  cases hx:K8 look t with
  |false=>rfl
  |true=>exact absurd (List.any_eq_true.2 ⟨t,ht,hx⟩) hb
 unfold K8 at h1;unfold Zdx ZgZ;cases hl:look t.field with
 |none=>simp
 |some r =>rw[hl]at h1;simp only[Zbp,Bool.or_eq_false_iff,decide_eq_false_iff_not]at h1;simp only[ZEB];split<;>omega
theorem Zdn(s:Wi)(l:Zk7)(least:Bool)(b x y:Nat)(st:St)(he:ZbZ s (fun k=>Zr k l)=0)(hb:st b=sO (.map (Za7 l)))(hx:st x=sO (.cells s.cells))(hy:st y=sO (.cells [.map b])):
  ZP ZDW 338 [.bool least,.ptr x 0,.ptr y 0] st (.int .i64 (s.base+KZ (Zdx (fun k=>Zr k l) least) s.terms)) st:=by
 refine ZG (cR 338 f338) fun u F i=>?_;clear u;have j:=Zxj he;refine rg ?_;refine Zb ?_;refine xP 3 fun z hz=>?_;have ac:b≠z:=fun e=>by rw[e,hz]at hb;simp at hb
 have ab:x≠z:=fun e=>by rw[e,hz]at hx;simp at hx
 have ad:y≠z:=fun e=>by rw[e,hz]at hy;simp at hy
 have n:(st.upd z (.cells [.bool least])) x=sO (.cells s.cells):=by rw[ZD6 _ _ ab];exact hx
 refine rx (nd2 @n @eQ4) ?_;refine QT rfl rfl rfl rfl rfl (by trivial) (by trivial) (by exact ZcJ s j.1 _ (Zdx (fun k=>Zr k l) least) _ (fun t ht=>j.2 t ht least) (fun t ht=>(Zht t l least b y z _ (by rw[ZD6 _ _ ac];exact hb) (by rw[ZD6 _ _ ad];exact hy) (ZD4 _ _ _)).VT (first:=[]) (args:=[_]) (caps:=[_,_]))) (Zl ?_);simp only[Eqs,reduceCtorEq,ZD2,reduceIte,ZD0,ZD3,ZD1];exact i rfl (by trivial) (ZDZ _) (ZEl _ hz)
theorem ZlJ(s:Wi)(b:Nat)(l:Zk7)(st:St)(hb:st b=sO (.map (Za7 l))):
  Za ZDW 332 [.agg s.cells,.map b] st (fun r S=>r=.ret (.tup [K3 ((Jr s fun k=>Zr k l).1,(Jr s fun k=>Zr k l).2.1),.int .i64 (Jr s fun k=>Zr k l).2.2])∧S=st):=by
 refine Zd (cR 332 f332) fun F hF=>?_;have hI:=Jr.eq_1 s fun k=>Zr k l;refine rx @eQ4 ?_;refine rg ?_;refine rx @eQ4 ?_;refine cV (Znk s b l st hb) ?_ ?_;rintro d S ⟨hd,rfl⟩;cases hd;refine gR0 ?_;refine rg ?_;refine cd (fun h1=>?_) (fun h1=>?_);have i:¬ZbZ s (fun k=>Zr k l)=0:=by simpa using h1
 rw[if_neg i]at hI;refine rg ?_;refine hF.ret _ S rfl (by trivial) (K0 ?_ rfl) (ZDY _) ⟨rfl,rfl⟩;rw[hI];rfl;have i:ZbZ s (fun k=>Zr k l)=0:=by simpa using h1
 rw[if_pos i]at hI;refine Zy (Zb ?_);refine xP 2 fun x hx=>?_;refine xP 3 fun y hy=>?_;have u:b≠x:=fun e=>by rw[e,hx]at hb;simp at hb
 have t:=Zq hy;have z:b≠y:=fun e=>by rw[e,t.2]at hb;simp at hb
 have j:((S.upd x (.cells s.cells)).upd y (.cells [.map b])) b=sO (.map (Za7 l)):=by rw[ZD6 _ _ z,ZD6 _ _ u];exact hb
 have n:((S.upd x (.cells s.cells)).upd y (.cells [.map b])) x=sO (.cells s.cells):=by rw[ZD6 _ _ t.1.symm];exact ZD4 _ _ _
 refine gG ?_;refine cW ((Zdn s l true b x y _ i j n (ZD4 _ _ _)).VT (first:=[]) (args:=[_]) (caps:=[_,_])) ?_;refine cW ((Zdn s l false b x y _ i j n (ZD4 _ _ _)).VT (first:=[]) (args:=[_]) (caps:=[_,_])) ?_;refine hF.ret _ S rfl (by first|trivial|simp) (K0 ?_ rfl) (ZED (ZEl _ hx) (ZEl _ hy)) ⟨rfl,rfl⟩;rw[hI,Zy6,Zy5];rfl;rintro d S ⟨hd,_⟩;cases hd
theorem ZjS(o:Option Int):Y7 (.int .i64 0) false (o.map W9)=.int .i64 (o.getD 0):=by cases o<;>rfl
abbrev Q1(l:List (Str×Int)):List (D×D):=KJ Ks W9 l
def inC(n:Int):List D:=[.int .i64 n]
theorem Zxh(f:Fld):YF f=(dC (f.kind=1) ||decide (f.kind=2) ||decide (f.kind=3)):=by
 unfold YF;rw[Bool.eq_iff_iff];simp only[ZD5,ZEk,decide_eq_true_eq];omega
theorem Zbs(f:Fld):Zf ZDW 56 [.agg f.cells] (.bool (YF f)):=by
 refine Zo (cR 56 f56) fun F st i=>?_;refine rx @eQ0 ?_;refine rx @eQ0 ?_;refine rb i ?_;exact(Zxh f).symm
def ZiV(f:Fld):(Int×Int)×Int:=if YF f then (Kn f,0) else ((0,0),2)
theorem Zm3(f:Fld):Zf ZDW 335 [.agg f.cells] (.tup [K3 (ZiV f).1,.int .i64 (ZiV f).2]):=by
 refine Zo (cR 335 f335) fun F st i=>?_;have hS:=ZiV.eq_1 f;refine rx @eQ0 ?_;refine rx @eQ0 ?_;refine cl (Zbs f) ?_;refine cd (fun h1=>?_) (fun h1=>?_);rw[if_neg (by simpa using h1)]at hS;refine rg ?_;refine i rfl (by first|trivial|simp) (K0 ?_ rfl) (ZDY _);rw[hS];rfl;rw[if_pos (by simpa using h1)]at hS;refine rx @eQ0 ?_;refine cd (fun h2=>?_) (fun h2=>?_);refine rx @eQ0 ?_;refine i rfl (by first|trivial|simp) (K0 ?_ rfl) (ZDY _);rw[hS,Kn,if_pos (by simpa using h2)];rfl;refine rx @eQ0 ?_;refine i rfl (by first|trivial|simp) (K0 ?_ rfl) (ZDY _);rw[hS,Kn,if_neg (by simpa using h2)];rfl
def Jj(fs:List Fld):Nat→Zk7
 |0=>[]
 |i+1=>if YF (fs.getD i dE) then Wl (fs.getD i dE).name (Kn (fs.getD i dE)) (Jj fs i) else Jj fs i
theorem ZeH(fs:List Fld)(st:St):Za ZDW 331 [Zm fs] st fun r S=>∃b,st b=nO∧r=.ret (.map b)∧S=st.upd b (.map (Za7 (Jj fs fs.length))):=by
 refine JT (cR 331 f331) fun z F hF=>?_;have hw:=(Zio (z (Zm fs) (by simp))).1;unfold big at hw;clear z;refine gG ?_;intro b hb;refine rx (nd2 @Zm.eq_1 @eQ1) ?_;refine Zc (fr (fs.length) (fun i Q=>i≤fs.length→Q [(3,.d (.map b)),(9,.d (Zm fs)),(10,.d (.int .i64 fs.length)),(11,.d (.int .i64 i))] [] (st.upd b (.map (Za7 (Jj fs i))))) (fun n j=>?_) fun ab=>?_)
 ·intro i hn hi;refine rg ?_;refine Zb (Zu rfl trivial (fun h1=>?_) (fun h1=>?_))
  ·simp at h1;have u:Jj fs (i+1)=if YF (fs.getD i dE) then Wl (fs.getD i dE).name (Kn (fs.getD i dE)) (Jj fs i) else Jj fs i:=rfl
   generalize hf:fs.getD i dE=f at *;have hP:=ZiV.eq_1 f;refine xA (nd2 @Zm.eq_1 (nd2 @eQ1 (nd2 @eQ0 @hf))) ?_;refine rx @eQ0 ?_;refine cX @K3.eq_1 (Zm3 f) ?_;refine rg ?_;refine cd (fun h2=>?_) (fun h2=>?_)
   ·have t:YF f=true:=by
     cases hx:YF f with
     |true=>rfl
     |false=>rw[hP,hx]at h2;simp at h2
    rw[if_pos t]at hP u;have e2:=ZbG (vD:=K3) ZT f.name (Kn f) (Jj fs i);have e3:=Y1 ZT f.name;simp only[show Ks f.name=D.str f.name from rfl,show K3 (Kn f)=D.agg [.int .i64 (Kn f).1,.int .i64 (Kn f).2] from rfl]at e2 e3;have ac:(ZiV f).1=Kn f:=by rw[hP]
    refine rx (nd2 @eQ0 (nd2 @ac (nd2 @e2 (nd2 @e3 (nd2 @ZD4 (nd2 @ZEj (nd2 @Yo @Yp))))))) ?_;refine gA ?_;rw[←u];refine Zg ?_;exact j ((fs.length)-(i+1)) (by omega) (i+1) rfl (by omega)
   have t:YF f=false:=by
    cases hx:YF f with
    |true=>rw[hP,hx]at h2;simp at h2
    |false=>rfl
   rw[if_neg (by rw[t];simp)]at u;refine gA ?_;rw[←u];refine Zg ?_;exact j ((fs.length)-(i+1)) (by omega) (i+1) rfl (by omega)
  simp at h1;obtain rfl:i=fs.length:=by omega
  refine rg ?_;exact hF.ret _ _ rfl (by trivial) (ZDZ _) (ZDY _) ⟨b,hb,rfl,rfl⟩
 exact ab _ 0 rfl (by omega)
theorem Ze1(l:List Msg)(f:D)(p:Msg→Bool)(sts:Nat→St)(hf:∀i,i<l.length→VT ZDW f [.agg (l.getD i dE).cells] (sts i) (.bool (p (l.getD i dE))) (sts (i+1))):
  ZP ZDW 101 [slD 2 Msg.cells l,f] (sts 0) (.tup [.int .i64 (max (Zi p l) 0),.bool (dC (0≤Zi p l))]) (sts (KS p l)):=by
 refine ZG (cR 101 f101) fun n F j=>?_;clear n;refine gG ?_;refine ct (Zdq l f p sts hf) ?_;refine rg ?_;exact j rfl (by trivial) (K0 rfl rfl) (ZDY _)
theorem ZgD(l:List Fld)(f:D)(p:Fld→Bool)(sts:Nat→St)(hf:∀i,i<l.length→VT ZDW f [.agg (l.getD i dE).cells] (sts i) (.bool (p (l.getD i dE))) (sts (i+1))):
  ZP ZDW 239 [slD 15 Fld.cells l,f] (sts 0) (.tup [.int .i64 (max (Zi p l) 0),.bool (dC (0≤Zi p l))]) (sts (KS p l)):=by
 refine ZG (cR 239 f239) fun n F j=>?_;clear n;refine gG ?_;refine ct (Qc l f p sts hf) ?_;refine rg ?_;exact j rfl (by trivial) (K0 rfl rfl) (ZDY _)
theorem Zhr(l:List Yb)(f:D)(p:Yb→Bool)(sts:Nat→St)(hf:∀i,i<l.length→VT ZDW f [.agg (l.getD i dE).cells] (sts i) (.bool (p (l.getD i dE))) (sts (i+1))):
  ZP ZDW 114 [slD 3 Yb.cells l,f] (sts 0) (.tup [.int .i64 (max (Zi p l) 0),.bool (dC (0≤Zi p l))]) (sts (KS p l)):=by
 refine ZG (cR 114 f114) fun n F j=>?_;clear n;refine gG ?_;refine ct (ZaD l f p sts hf) ?_;refine rg ?_;exact j rfl (by trivial) (K0 rfl rfl) (ZDY _)
theorem ZlE(x:Msg)(s:Str)(b:Nat)(st:St)(hb:st b=sO (.cells [.str s])):ZP ZDW 102 [.agg x.cells,.ptr b 0] st (.bool (dC (x.name=s))) st:=by
 refine ZG (cR 102 f102) fun j F i=>?_;clear j;refine rx @eQ3 ?_;refine rx @hb ?_;exact i rfl (by trivial) (ZDZ _) (ZDY _)
theorem Zkh(x:Fld)(s:Str)(b:Nat)(st:St)(hb:st b=sO (.cells [.str s])):ZP ZDW 240 [.agg x.cells,.ptr b 0] st (.bool (dC (x.name=s))) st:=by
 refine ZG (cR 240 f240) fun j F i=>?_;clear j;refine rx @eQ0 ?_;refine rx @hb ?_;exact i rfl (by trivial) (ZDZ _) (ZDY _)
theorem ZgB(d:Dfn)(s:Str):Zf ZDW 49 [.agg d.cells,.str s] (.tup [.int .i64 (max (Zi (fun x=>dC (x.name=s)) d.msgs) 0),.bool (dC (0≤Zi (fun x=>dC (x.name=s)) d.msgs))]):=by
 refine Zo (cR 49 f49) fun F st j=>?_;refine rx @eQ2 ?_;refine Zb ?_;refine xP 3 fun b hb=>?_;refine rx @eQ2 ?_;refine ct (Ze1 d.msgs (.fn (.func 102) [] [.ptr b 0]) (fun x=>dC (x.name=s)) (fun _=>st.upd b (.cells [.str s])) (fun i hi=>(ZlE _ s b _ (ZD4 _ _ _)).VT (first:=[]) (args:=[_]) (caps:=[_]))) ?_;exact j rfl (by trivial) (K0 rfl rfl) (ZEl _ hb)
theorem Zce(d:Msg)(s:Str):Zf ZDW 193 [.agg d.cells,.str s] (.tup [.int .i64 (max (Zi (fun x=>dC (x.name=s)) d.fields) 0),.bool (dC (0≤Zi (fun x=>dC (x.name=s)) d.fields))]):=by
 refine Zo (cR 193 f193) fun F st j=>?_;refine rx @eQ3 ?_;refine Zb ?_;refine xP 3 fun b hb=>?_;refine rx @eQ3 ?_;refine ct (ZgD d.fields (.fn (.func 240) [] [.ptr b 0]) (fun x=>dC (x.name=s)) (fun _=>st.upd b (.cells [.str s])) (fun i hi=>(Zkh _ s b _ (ZD4 _ _ _)).VT (first:=[]) (args:=[_]) (caps:=[_]))) ?_;exact j rfl (by trivial) (K0 rfl rfl) (ZEl _ hb)
theorem ZlD(c:Yb)(tag:Int)(b:Nat)(st:St)(hb:st b=sO (.cells [.int .i64 tag])):ZP ZDW 115 [.agg c.cells,.ptr b 0] st (.bool (dC (c.low≤tag)&&dC (tag≤c.high))) st:=by
 refine ZG (cR 115 f115) fun j F i=>?_;clear j;refine rx @Yb.cells.eq_1 ?_;refine rx @hb ?_;exact i rfl (by trivial) (ZDZ _) (ZDY _)
theorem ZgA(f:Fld)(tag:Int):Zf ZDW 61 [.agg f.cells,.int .i64 tag] (.tup [.int .i64 (max (KK f tag) 0),.bool (dC (0≤KK f tag))]):=by
 refine Zo (cR 61 f61) fun F st j=>?_;refine rx @eQ0 ?_;refine Zb ?_;refine xP 3 fun b hb=>?_;refine rx @eQ0 ?_;refine ct (Zhr f.cases (.fn (.func 115) [] [.ptr b 0]) (fun c=>dC (c.low≤tag)&&dC (tag≤c.high)) (fun _=>st.upd b (.cells [.int .i64 tag])) (fun i hi=>(ZlD _ tag b _ (ZD4 _ _ _)).VT (first:=[]) (args:=[_]) (caps:=[_]))) ?_;exact j rfl (by trivial) (K0 rfl rfl) (ZEl _ hb)
theorem Zsb{α:Type}[Inhabited α]{p:α→Bool}{l:List α}{n:Nat}(h:0≤Zi p (l.take n)):Zi p l=Zi p (l.take n):=by
 have h1:=QY h;have h2:=Wv p (l.take n);rw[ZEh]at h2;have h3:=Kj (p:=p) (l:=l) (i:=(Zi p (l.take n)).toNat) (by omega) (by rw[←Q3 (n:=n) (by omega)];exact h1.1) (fun j hj=>by rw[←Q3 (n:=n) (by omega)];exact h1.2 j hj);omega
theorem ZtZ{d:Dfn}{s:Str}{n:Nat}(h:0≤ZF d s n):ZF d s d.msgs.length=ZF d s n∧ZF d s n<n∧ZF d s n<d.msgs.length:=by
 unfold ZF at *;have h2:=Wv (fun m:Msg=>dC (m.name=s)) (d.msgs.take n);rw[ZEh]at h2;refine⟨?_,by omega,by omega⟩;rw[ZEy];exact Zsb h
theorem ZnP{d:Dfn}{at_:Nat}{l:List Msg}{deps:List Int}(h:Jo d at_ l deps=nO):(∀i,i<l.length→WK d (at_+i) (l.getD i dE)=nO)∧0≤ZF d d.start d.msgs.length:=by
 induction l generalizing at_ deps with
 |nil =>simp only[Jo]at h;split at h;simp at h;exact⟨fun i hi=>by simp at hi,by omega⟩
 |cons m r ih =>
  simp only[Jo]at h;split at h;simp at h;rename_i hm;split at h;simp at h;have h1:=ih h;refine⟨fun i hi=>?_,h1.2⟩;cases i with
  |zero=>simpa using hm
  |succ i =>have:=h1.1 i (by simpa using hi);simpa[Nat.add_assoc,Nat.add_comm 1 i]using this
structure WA(d:Dfn):Prop where
 many:d.msgs.length≤60
 start:0≤ZF d d.start d.msgs.length
 flaw:∀i,i<d.msgs.length→WK d i (d.msgs.getD i default)=none
theorem Zpo{d:Dfn}(h:Ze0 d=true):WA d:=by
 unfold Ze0 ZqD at h;split at h;simp at h;split at h;simp at h;rename_i hc;simp only[ZEk,decide_eq_true_eq,not_or,Nat.not_lt]at hc;simp only[Option.isNone_iff_eq_none]at h;have:=ZnP h;refine⟨by omega,this.2,fun i hi=>by simpa using this.1 i hi⟩
theorem ZmA{s:Str}(h:YZ s=true):s.length≤32:=by
 unfold YZ at h;split at h;simp;simp only[ZD5,decide_eq_true_eq]at h;exact h.1.1
structure ZcP(d:Dfn)(j:Nat)(m:Msg):Prop where
 name:m.name.length≤32
 many:m.fields.length≤40
 field:∀i,i<m.fields.length→K1 d j m i (m.fields.getD i default)=0
theorem Zln{d:Dfn}{j:Nat}{m:Msg}{k:Nat}{l:List Fld}(h:YL d j m k l=nO):∀i,i<l.length→K1 d j m (k+i) (l.getD i dE)=0:=by
 induction l generalizing k with
 |nil=>intro i hi;simp at hi
 |cons f r ih =>
  simp only[YL]at h;split at h
  ·rename_i hf;intro i hi;cases i with
   |zero=>simpa using hf
   |succ i=>have:=ih h i (by simpa using hi);simpa[Nat.add_assoc,Nat.add_comm 1 i]using this
  simp at h
theorem Zxq{d:Dfn}{j:Nat}{m:Msg}(h:WK d j m=nO):ZcP d j m:=by
 unfold WK at h;split at h;· simp at h
 rename_i h1;split at h;· simp at h
 split at h;· simp at h
 rename_i hc;simp only[ZEk,decide_eq_true_eq,not_or,Nat.not_lt]at hc;exact⟨ZmA (by simpa using h1),by omega,fun i hi=>by simpa using Zln h i hi⟩
structure Zty(d:Dfn)(j:Nat)(f:Fld):Prop where
 name:f.name.length≤32
 ref:∀s∈Ys f,0≤ZF d s d.msgs.length∧ZF d s d.msgs.length<j
 cases:f.cases≠[]→f.kind=9
theorem ZsC{f:Fld}(h1:1≤f.kind)(h2:f.kind≤12)(h:Zkd f=true)(hc:f.cases≠[]):f.kind=9:=by
 have hk:f.kind=1∨f.kind=2∨f.kind=3∨f.kind=4∨f.kind=5∨f.kind=6∨f.kind=7∨f.kind=8∨f.kind=9∨f.kind=10∨f.kind=11∨f.kind=12:=by omega
 simp only[Zkd,ZD5]at h;have h3:=h.2.2;rcases hk with hk|hk|hk|hk|hk|hk|hk|hk|hk|hk|hk|hk<;>rw[hk]at h3⊢<;>simp[zrC,Znt,ZuY,ZbY,hc]at h3<;>rfl
theorem Zw4{d:Dfn}{j i:Nat}{m:Msg}{f:Fld}(h:K1 d j m i f=0):Zty d j f:=by
 have h0:=ZoM h;unfold K1 at h;split at h;· omega
 rename_i h1;split at h;· omega
 split at h;· omega
 rename_i hk;split at h;· omega
 rename_i hz;simp only[ZEk,decide_eq_true_eq,not_or,Int.not_lt]at hk;refine⟨ZmA (by simpa using h1),fun s hs=>?_,fun hc=>ZsC (by omega) (by omega) (by simpa using hz) hc⟩;have h3:=h0.2 s hs;have h4:=ZtZ h3;exact⟨by omega,by omega⟩
theorem WA.msg{d:Dfn}(h:WA d){j:Nat}(hj:j<d.msgs.length):ZcP d j (d.msgs.getD j dE):=Zxq (h.flaw j hj)
theorem WA.fld{d:Dfn}(h:WA d){j i:Nat}(hj:j<d.msgs.length)(hi:i<(d.msgs.getD j dE).fields.length):Zty d j ((d.msgs.getD j dE).fields.getD i dE):=Zw4 ((h.msg hj).field i hi)
end Go.DL
namespace Go.DL
open Go
variable {kp:Option (List Nat)}{L:Loc}{ρ:Env}{s:St}{w:World}{os:List DOp}{ds:List D}{B:List (Nat × Rd)}{dst:Option Nat}{tmps:Array Value}{g:G}{Φ:Res→St→Prop}{ν:Nat→Nat}{xs:List Opd}{side:Prop}{row:Nat→List D}
def ixS(d:Dfn)(s:Str):Nat:=(ZF d s d.msgs.length).toNat
open Go.Proofs
def upS(v of:Int):Int:=((v+of)-1).tdiv of*of
theorem ZAa{v of:Int}(hv:-2000≤v∧v≤2000)(ho:1≤of∧of≤1000):(-4000≤((v+of)-1).tdiv of∧((v+of)-1).tdiv of≤4000)∧-5000≤upS v of∧upS v of≤5000:=by
 unfold upS;have h1:=Int.mul_tdiv_add_tmod (v+of-1) of;have h2:=Int.tmod_lt_of_pos (v+of-1) (show 0<of by omega);have h3:=Int.lt_tmod_of_pos (v+of-1) (show 0<of by omega);rw[Int.mul_comm]at h1;generalize (v+of-1).tmod of=r at *;generalize (v+of-1).tdiv of=q at *;have h4:-4000≤q*of∧q*of≤4000:=by omega
 refine⟨?_,by omega⟩;rcases Int.lt_trichotomy q 0 with hq|hq|hq;have:=Int.mul_le_mul_of_nonneg_left (show(1:Int)≤of by omega) (show 0≤-q by omega);simp only[Int.neg_mul,Int.mul_one]at this;omega;omega;have:=Int.mul_le_mul_of_nonneg_left (show(1:Int)≤of by omega) (show 0≤q by omega);omega
theorem Zr7{v of:Int}(hv:-2000≤v∧v≤2000)(ho:1≤of∧of≤1000):Zf ZDW 127 [.int .i64 v,.int .i64 of] (.int .i64 (upS v of)):=by
 have hb:=ZAa hv ho;have he:((v+of)-1).tdiv of*of=upS v of:=rfl;refine Zo (cR 127 f127) fun F st i=>?_;refine gG ?_;generalize ((v+of)-1).tdiv of=q at *;rw[he];generalize upS v of=u at *;refine aa ?_;refine ri i ?_;rfl
structure Zga(f:Fld):Prop where
 num:f.kind=1∨f.kind=2→-1000≤f.bits∧f.bits≤1000
 pad:f.kind=10→1≤f.bits∧f.bits≤1000
def Zfp(f:Fld)(o:Int):Int:=if f.kind=1∨f.kind=2 then (o+f.bits).tmod 8 else if f.kind=10 then (upS o f.bits).tmod 8 else 0
def KW(l:List Fld):Nat→Int
 |0=>0
 |i+1=>Zfp (l.getD i dE) (KW l i)
theorem Zxs(f:Fld)(o:Int):-8<Zfp f o∧Zfp f o<8:=by
 have h:∀x:Int,-8<x.tmod 8∧x.tmod 8<8:=fun x=>⟨Int.lt_tmod_of_pos x (by decide),Int.tmod_lt_of_pos x (by decide)⟩;unfold Zfp;split;exact h _;split;exact h _;omega
theorem Zs2(l:List Fld)(i:Nat):-8<KW l i∧KW l i<8:=by
 cases i with
 |zero=>simp[KW]
 |succ i=>exact Zxs _ _
theorem Zla(f:Fld){o:Int}(ho:-2000≤o∧o≤2000)(hb:-1000≤f.bits∧f.bits≤1000):Zf ZDW 237 [.agg f.cells,.int .i64 o] (.int .i64 (o+f.bits)):=by
 refine Zo (cR 237 f237) fun F st i=>?_;refine rx @eQ0 ?_;refine xA @eQ0 ?_;refine ri i ?_;rfl
theorem Zlb(f:Fld){o:Int}(ho:-2000≤o∧o≤2000)(hb:1≤f.bits∧f.bits≤1000):Zf ZDW 238 [.agg f.cells,.int .i64 o] (.int .i64 (upS o f.bits)):=by
 refine Zo (cR 238 f238) fun F st i=>?_;refine rx @eQ0 ?_;refine rx @eQ0 ?_;refine cl (Zr7 ho hb) ?_;refine ri i ?_;rfl
def Zqm:List (D×D):=[(.int .i64 1,.fn (.func 237) [] []),(.int .i64 2,.fn (.func 237) [] []),(.int .i64 10,.fn (.func 238) [] [])]
theorem Zgf(st:St):Za ZDW 189 [] st fun r S=>∃b,st b=nO∧r=.ret (.map b)∧S=st.upd b (.map Zqm):=by
 refine Zd (cR 189 f189) fun F hF=>?_;refine gG ?_;refine rh ?_;refine Zl ?_;simp only[Eqs,reduceCtorEq,ZD2,reduceIte,ZD0,ZD3,ZD1,JO,W6,Yi,ZD4,ZEj,Yo,Yp,decide_false,Int.reduceEq,ite_false];intro b hb;exact hF.ret _ _ rfl (by trivial) (ZDZ _) (ZDY _) ⟨b,hb,rfl,rfl⟩
def ZdP(k:Int):Bool:=dC (k=1) ||(dC (k=2) ||decide (k=10))
def ZdU(k:Int):D:=if k=1 then .fn (.func 237) [] [] else if k=2 then .fn (.func 237) [] [] else if k=10 then .fn (.func 238) [] [] else .nilfn
theorem Zmp(k:Int):Zbf (.sc .int) (.int .i64 k) Zqm=sO (if ZdP k then sO (ZdU k) else nO):=by
 simp only[Zqm,Zbf,W6,Yi,if_true,ZdP,ZdU];by_cases h1:k=1;simp[h1];by_cases h2:k=2;simp[h2];by_cases h3:k=10;simp[h3];simp[h1,h2,h3]
theorem Zo5(k:Int):Y7 .nilfn true (if ZdP k=true then sO (ZdU k) else nO)=.tup [ZdU k,.bool (ZdP k)]:=by
 unfold ZdP ZdU;by_cases h1:k=1;simp[h1,Y7];by_cases h2:k=2;simp[h2,Y7];by_cases h3:k=10;simp[h3,Y7];simp[h1,h2,h3,Y7]
def ZiG(f:Fld):Bool:=!ZdP f.kind ||f.little
theorem ZnJ(f:Fld)(st:St):ZP ZDW 191 [.agg f.cells] st (.bool (ZiG f)) st:=by
 refine ZG (cR 191 f191) fun n F i=>?_;clear n;refine rx @eQ0 ?_;refine rx @eQ0 ?_;refine cVD (Zgf _) ?_ ?_;rintro d S ⟨b,hb,hd,rfl⟩;cases hd;refine⟨by simp[Y0,KA,YO,J6],?_⟩;have j:=Zmp f.kind;refine gQ (nd2 @j (nd2 @ZD4 @Zo5)) ?_;refine rx @eQ0 ?_;exact i rfl (by trivial) (by unfold ZiG;cases ZdP f.kind<;>exact ZDZ _) (ZEl _ hb);rintro d S ⟨b,hb,hd,_⟩;cases hd
def Zuo(l:List Fld)(j:Nat):List D:=[.int .i64 j,.int .i64 (KW l j)]
theorem Zc7(l:List Fld)(hl:l.length≤1000)(hb:∀f∈l,Zga f)(x:Nat):Zcr ZDW (.fn (.func 188) [] [.ptr x 0]) (l.length+1) (Zuo l) (ZEn x (.cells [Zm l])):=by
 intro y go A a0 aj hA hd;refine Za.V (first:=[]) (args:=[y]) (caps:=[.ptr x 0]) (Zd (cR 188 f188) fun F hF=>?_);have hx:∀a,Z6 a (ZEn x (.cells [Zm l]))→(a.or (ZEn x (.cells [Zm l]))) x=sO (.cells [Zm l]):=fun a aq=>by rw[ZH (aq x _ (Yn _ _)),Yn]
 generalize hT:ZEn x (.cells [Zm l])=T at *;refine rg ?_;refine rh ?_;refine Zl ?_;simp only[Eqs,reduceCtorEq,ZD2,reduceIte,ZD0,ZD3,ZD1,hx a0 hd,Zm,slD];refine Zc (fr (l.length) (fun j Q=>∀a,A j a→Z6 a T→(∀i,i<j→go i=.next)→j≤l.length→Q [(0,.d y),(1,.d (.ptr x 0)),(3,.d (.int .i64 (KW l j))),(8,.d (Zm l)),(9,.d (.int .i64 l.length)),(10,.d (.int .i64 j))] [] (a.or T)) (fun n ac=>?_) fun ap=>?_)
 ·clear hA hd;intro j hn a hA hd ab hj;refine rg ?_;have ad:=(aj j (by omega) ab a hA).frame hd;unfold Zuo at ad;have ho:=Zs2 l j;refine Zb (Zu rfl trivial (fun h1=>?_) (fun h1=>?_))
  ·simp at h1;have am:=hb (l.getD j dE) (by simp[ZEb,h1]);have ai:KW l (j+1)=Zfp (l.getD j dE) (KW l j):=rfl;generalize hg:l.getD j dE=g at *;refine xA (nd2 @Zm.eq_1 (nd2 @eQ1 (nd2 @hg @eQ0))) ?_;refine rg ?_;refine vV (ad) ?_ ?_
   ·rintro d S ⟨s',⟨hr,z⟩,ae,rfl⟩;cases t:go j with
    |next =>
     rw[t]at hr;cases hr;refine gR0 ?_;refine i0 ?_;refine rx @eQ0 ?_;refine cVD (Zgf _) ?_ ?_;rintro d S ⟨b,af,ak,rfl⟩;cases ak;have ao:=Zmp g.kind;refine⟨by simp[Y0,KA,YO,J6],?_⟩;refine gQ (nd2 @ao (nd2 @ZD4 @Zo5)) ?_;refine rg ?_;have h8:=Zs2 l (j+1);refine cd (fun hk=>?_) (fun hk=>?_);by_cases al:g.kind=10;have ah:ZdU g.kind=.fn (.func 238) [] []:=by simp[ZdU,al]
     have u:(upS (KW l j) g.bits).tmod 8=KW l (j+1):=by rw[ai,Zfp,if_neg (by omega),if_pos al]
     rw[←u]at h8;rw[ah];refine rx @eQ0 ?_;refine Ztv rfl rfl rfl rfl rfl (by trivial) (by trivial) (by exact(Zlb g (by omega) (am.pad al)).VT (first:=[]) (args:=[_,_]) (caps:=[]) _) (Zl ?_);simp only[Eqs,reduceCtorEq,ZD2,reduceIte,ZD0,ZD3,ZD1];refine aa ?_;rw[u];refine gA ?_;refine Kc (ZEl _ af) ?_;refine Zg ?_;exact ac ((l.length)-(j+1)) (by omega) (j+1) rfl s' z ae (Ye (q:=fun i=>go i=.next) ab t) (by omega);have ag:g.kind=1∨g.kind=2:=by simp only[ZdP,ZEk,decide_eq_true_eq]at hk;omega
     have ah:ZdU g.kind=.fn (.func 237) [] []:=by rcases ag with h|h<;>simp[ZdU,h]
     have u:(KW l j+g.bits).tmod 8=KW l (j+1):=by rw[ai,Zfp,if_pos ag]
     rw[←u]at h8;rw[ah];refine rx @eQ0 ?_;refine Ztv rfl rfl rfl rfl rfl (by trivial) (by trivial) (by exact(Zla g (by omega) (am.num ag)).VT (first:=[]) (args:=[_,_]) (caps:=[]) _) (Zl ?_);simp only[Eqs,reduceCtorEq,ZD2,reduceIte,ZD0,ZD3,ZD1];refine aa ?_;rw[u];refine gA ?_;refine Kc (ZEl _ af) ?_;refine Zg ?_;exact ac ((l.length)-(j+1)) (by omega) (j+1) rfl s' z ae (Ye (q:=fun i=>go i=.next) ab t) (by omega);have u:(0:Int)=KW l (j+1):=by simp only[ZdP,Bool.or_eq_false_iff,decide_eq_false_iff_not]at hk;rw[ai,Zfp,if_neg (by omega),if_neg (by omega)]
     refine rg ?_;refine gA ?_;rw[show(D.int IntKind.i64 0)=.int .i64 (KW l (j+1)) by rw[←u]];refine Kc (ZEl _ af) ?_;refine Zg ?_;exact ac ((l.length)-(j+1)) (by omega) (j+1) rfl s' z ae (Ye (q:=fun i=>go i=.next) ab t) (by omega);rintro d S ⟨b,af,ak,_⟩;cases ak
    |stop c =>rw[t]at hr;cases hr;refine gR0 ?_;refine i1 ?_;exact hF.ret (.tup []) _ rfl trivial (ZDZ _) (ZDY _) ⟨s',.stop j c (by omega) ab t z,Kg _ _⟩
    |pan d=>rw[t]at hr;cases hr
   rintro d S ⟨s',⟨hr,z⟩,ae,rfl⟩;cases t:go j with
   |pan d' =>rw[t]at hr;cases hr;exact hF.pan _ (ZDY _) ⟨s',.pan j d (by omega) ab t z,Kg _ _⟩
   |next=>rw[t]at hr;cases hr
   |stop c=>rw[t]at hr;cases hr
  simp at h1;obtain rfl:j=l.length:=by omega
  refine rh ?_;refine Zl ?_;simp only[Eqs,reduceCtorEq,ZD2,reduceIte,ZD0,ZD3,ZD1,hx a hd,Zm,slD];refine vV (ad) ?_ ?_
  ·rintro d S ⟨s',⟨hr,z⟩,ae,rfl⟩;cases t:go l.length with
   |next =>rw[t]at hr;cases hr;refine gR0 ?_;exact hF.fin (.tup []) _ rfl trivial (ZDZ _) (ZDY _) ⟨s',.all (Ye (q:=fun i=>go i=.next) ab t) z,Kg _ _⟩
   |stop c =>rw[t]at hr;cases hr;refine gR0 ?_;exact hF.fin (.tup []) _ rfl trivial (ZDZ _) (ZDY _) ⟨s',.stop l.length c (by omega) ab t z,Kg _ _⟩
   |pan d=>rw[t]at hr;cases hr
  rintro d S ⟨s',⟨hr,z⟩,ae,rfl⟩;cases t:go l.length with
  |pan d' =>rw[t]at hr;cases hr;exact hF.pan _ (ZDY _) ⟨s',.pan l.length d (by omega) ab t z,Kg _ _⟩
  |next=>rw[t]at hr;cases hr
  |stop c=>rw[t]at hr;cases hr
 exact ap _ 0 rfl a0 hA hd (by intro i hi;omega) (by omega)
theorem Zef(l:List Fld)(st:St):Za ZDW 145 [Zm l] st fun r S=>∃x,st x=nO∧r=.ret (.fn (.func 188) [] [.ptr x 0])∧S=st.or (ZEn x (.cells [Zm l])):=by
 refine Zd (cR 145 f145) fun F hF=>?_;refine rx (nd2 @Zm.eq_1 @eQ1) ?_;refine Zb ?_;refine xP 1 fun x hx=>?_;refine rg ?_;exact hF.ret _ _ rfl (by trivial) (ZDZ _) (ZDY _) ⟨x,hx,rfl,KG hx⟩
theorem Zr6(l:List Fld)(hl:l.length≤1000)(hb:∀f∈l,Zga f)(k:Nat)(hk:k≤l.length)(st:St):ZP ZDW 194 [Zm l,.int .i64 k] st (.int .i64 (KW l k)) st:=by
 refine Zd (cR 194 f194) fun F hF=>?_;refine rx (nd2 @Zm.eq_1 @eQ1) ?_;refine rg ?_;rw[show(D.sl .none l.length 15 fun i=>(l.getD i dE).cells)=Zm l from rfl];refine cV (Zef l st) ?_ ?_
 ·rintro d S ⟨x,hx,hd,rfl⟩;cases hd;refine gR0 ?_;refine Zc ?_;refine xP 3 fun z3 h3=>?_;refine xP 4 fun z4 h4=>?_;have ak:z3≠x:=fun e=>by subst e;rw[ZH hx,Yn]at h3;simp at h3
  have aj:st z3=nO:=by
   cases h:st z3 with
   |none=>rfl
   |some o=>rw[Zp h]at h3;simp at h3
  have k4:=Zq h4;have ai:z4≠x:=fun e=>by subst e;have:=k4.2;rw[ZH hx,Yn]at this;simp at this
  have ah:st z4=nO:=by
   cases h:st z4 with
   |none=>rfl
   |some o=>have:=k4.2;rw[Zp h]at this;simp at this
  have hA:∀v,∃A:St,A=(st.upd z3 (.cells [.int .i64 k])).upd z4 (.cells [.int .i64 v])∧A z3=sO (.cells [.int .i64 k])∧A z4=sO (.cells [.int .i64 v])∧st.sub A∧A x=nO:=fun v=>by refine⟨_,rfl,by rw[ZD6 _ _ (Ne.symm k4.1)];exact ZD4 _ _ _,ZD4 _ _ _,ZED (ZEl _ aj) (ZEl _ (by rw[ZD6 _ _ k4.1];exact ah)),?_⟩;rw[ZD6 _ _ (Ne.symm ai),ZD6 _ _ (Ne.symm ak)];exact hx
  obtain⟨A0,e0,g3,g4,hsub0,ao⟩:=hA 0;obtain⟨A1,e1,g3',al,ab,hx1⟩:=hA (KW l k);have ag:A0.upd z4 (.cells [.int .i64 (KW l k)])=A1:=by rw[e0,e1,ZEj]
  have af:(((st.or (ZEn x (.cells [Zm l]))).upd z3 (.cells [.int .i64 k])).upd z4 (.cells [.int .i64 0]))=A0.or (ZEn x (.cells [Zm l])):=by
   rw[e0];funext c;by_cases c4:c=z4;subst c4;rw[ZD4,Zp (ZD4 _ _ _)];rw[ZD6 _ _ c4];by_cases c3:c=z3;subst c3;rw[ZD4,Zp (by rw[ZD6 _ _ c4];exact ZD4 _ _ _)];rw[ZD6 _ _ c3];show(match st c with|some o=>sO o|none=>_)=match ((st.upd z3 _).upd z4 _) c with|some o=>sO o|none=>_
   rw[ZD6 _ _ c4,ZD6 _ _ c3]
  rw[af];clear af hA;refine Ka hF rfl trivial [3,4] (by show([3,4]:List Nat).Nodup;decide) (Wh ao) (Zc7 l hl hb x).Y (fun j hj=>rfl)
   (fun j=>if j=k then .stop .ret else .next) (fun j a=>(j≤k∧a=A0)∨(k<j∧a=A1)) (.inl ⟨Nat.zero_le _,rfl⟩) ?_ ?_ ?_ ?_ ?_ ?_
  intro j a hj u hB F' ready busy hdr ae t;have hjk:j≤k:=by refine Nat.le_of_not_lt fun h=>?_;have:=u k h;simp at this
  rcases hB with ⟨_,rfl⟩|⟨h,_⟩
  skip
  simp only[Eqs,reduceCtorEq,ZD2,reduceIte,ZD0,ZD3,ZD1,Ws,WG,Qy,WU,List.isEmpty_nil,List.isEmpty_cons,Zuo];refine gG ?_;refine ae fun ac=>?_;refine rh ?_;refine Zl ?_;simp only[Eqs,reduceCtorEq,ZD2,reduceIte,ZD0,ZD3,ZD1,Zp g3];refine cd (fun hc=>?_) (fun hc=>?_);have z:j=k:=by simp at hc;omega
  subst z;rw[if_pos rfl]at t;refine rh ?_;refine Zl ?_;simp only[Eqs,reduceCtorEq,ZD2,reduceIte,ZD0,ZD3,ZD1,Zp g4,WD];rw[ag];exact t.ret ⟨rfl,.inr ⟨by omega,rfl⟩⟩ (fun b o ad=>by rw[←ag,ZD6 _ _ (fun e=>by subst e;rw[ac _ o ad]at g4;simp at g4)];exact ac b o ad) (ZDY _);have z:j≠k:=by simp at hc;omega
  rw[if_neg z]at t;refine Zy (Zj ?_);exact t.fin ⟨rfl,.inl ⟨by omega,rfl⟩⟩ ac (ZDY _);omega;intro q a u hB hq;have:=u k (by omega);simp at this;intro q a m hm u n hB hq;have am:m=k:=by split at n;assumption;simp at n
  subst am;rcases hB with ⟨h,_⟩|⟨_,rfl⟩;omega;rw[KG hq];exact hF.ret1 hq (.int .i64 (KW l m)) st (by simp only[Eqs,reduceCtorEq,ZD2,reduceIte,ZD0,ZD3,ZD1,Yt,WV,al];rfl) (by trivial) (ZDZ _) ab ⟨rfl,rfl⟩;intro q a m id hm u n;split at n<;>simp at n;intro q a m d hm u n;split at n<;>simp at n;intro m c n;split at n<;>simp at n;exact .inl n.symm
 rintro d S ⟨x,hx,hd,_⟩;cases hd
def Jn(l:List Fld)(i:Nat):Bool:=if i=l.length then !dC (KW l i=0) else !(dC (KW l i=0)||!ZiG (l.getD i dE))||!(!dC ((l.getD i dE).kind=11) ||decide (KW l (max (Zi (fun x=>dC (x.name=(l.getD i dE).from_)) l) 0).toNat=0))
theorem Zlc{st:St}{a c:Nat}{o:Int}{f:Fld}(ha:st a=sO (.cells [.int .i64 o]))(hc:st c=sO (.cells f.cells)):ZP ZDW 190 [.ptr a 0,.ptr c 0] st (.bool (dC (o=0)||!ZiG f)) st:=by
 refine ZG (cR 190 f190) fun j F i=>?_;clear j;by_cases h0:o=0;subst h0;refine rg ?_;refine rx (nd2 @ha @hc) ?_;refine KH rfl (e:=.d (.bool false)) (Zl ?_);simp only[Eqs,reduceCtorEq,ZD2,reduceIte,ZD0,ZD3,ZD1];exact i rfl (by simp) (ZDZ _) (ZDY _);have h1:dC (o=0)=false:=decide_eq_false h0;rw[h1,Bool.false_or]at i;refine rg ?_;refine rx (nd2 @ha (nd2 @hc (nd2 @h1 @eQ0))) ?_;refine QT rfl rfl rfl rfl rfl (by trivial) (by trivial) (by exact ZnJ f _) (Zl ?_);simp only[Eqs,reduceCtorEq,ZD2,reduceIte,ZD0,ZD3,ZD1];exact i rfl (by simp) (by cases ZiG f<;>exact ZDZ _) (ZDY _)
theorem okF(l:List Fld):WS (Zm l)=true:=rfl
theorem ceF(l:List Fld):cellsOf (Zm l)=[Zm l]:=rfl
theorem Zld{st:St}{a c:Nat}{l:List Fld}(hl:l.length≤1000)(hb:∀f∈l,Zga f){f:Fld}(ha:st a=sO (.cells [Zm l]))(hc:st c=sO (.cells f.cells))(hpos:0<l.length):
  ZP ZDW 192 [.ptr a 0,.ptr c 0] st (.bool (!dC (f.kind=11) ||decide (KW l (max (Zi (fun x=>dC (x.name=f.from_)) l) 0).toNat=0))) st:=by
 refine ZG (cR 192 f192) fun n F i=>?_;clear n;have hq1:=Wv (fun x=>dC (x.name=f.from_)) l;have hq0:=Zar (fun x:Fld=>dC (x.name=f.from_)) l;have j:D.agg [.str [],Zm l]=.agg (Msg.mk [] l).cells:=rfl;refine rg ?_;refine rx (nd2 @ha (nd2 @hc (nd2 @eQ0 (nd2 @okF @ceF)))) ?_;rw[j];refine cl (Zce ⟨[],l⟩ f.from_) ?_;obtain⟨q,hq⟩:∃q:Nat,max (Zi (fun x=>dC (x.name=f.from_)) l) 0=q:=⟨(max (Zi (fun x=>dC (x.name=f.from_)) l) 0).toNat,by omega⟩;simp only[hq,Int.toNat_natCast]at i⊢;by_cases h0:f.kind=11;have h1:dC (f.kind=11)=true:=decide_eq_true h0;rw[h1,Bool.not_true,Bool.false_or]at i;refine rx (nd2 @ha (nd2 @hc (nd2 @eQ0 @h1))) ?_;refine QT rfl rfl rfl rfl rfl (by trivial) (by trivial) (by exact Zr6 l hl hb q (by omega) _) (Zl ?_);simp only[Eqs,reduceCtorEq,ZD2,reduceIte,ZD0,ZD3,ZD1];exact i rfl (by simp) (ZDZ _) (ZDY _);have h1:dC (f.kind=11)=false:=decide_eq_false h0;rw[h1,Bool.not_false,Bool.true_or]at i;refine rx (nd2 @ha (nd2 @hc (nd2 @eQ0 @h1))) ?_;refine KH rfl (e:=.d (.int .i64 0)) (Zl ?_);simp only[Eqs,reduceCtorEq,ZD2,reduceIte,ZD0,ZD3,ZD1];exact i rfl (by simp) (ZDZ _) (ZDY _)
theorem Zeg{c:D}{v:Bool}{st:St}(h:VT ZDW c [] st (.bool v) st):ZP ZDW 196 [c] st (.bool (!v)) st:=by
 refine ZG (cR 196 f196) fun j F i=>?_;clear j;refine gG ?_;refine cW (h) ?_;exact i rfl (by trivial) (ZDZ _) (ZDY _)
structure Ck where
 d:Dfn
 at_:Int
 field:Int
 m:Msg
def Ck.cells(k:Ck)(bd bs:Nat):List D:=[.str k.d.name,WI k.d.msgs,.str k.d.start,.map bd,.map bs,.int .i64 k.at_,.int .i64 k.field,.str k.m.name,Zm k.m.fields]
structure KU(st:St)(x bd bs:Nat)(k:Ck)(dl:List (Str×Int))(sl:List (Str×Bool)):Prop where
 x:st x=some (.cells (k.cells bd bs))
 bd:st bd=some (.map (Q1 dl))
 bs:st bs=some (.map (ZdM sl))
theorem KU.mono{st A:St}{x bd bs:Nat}{k:Ck}{dl:List (Str×Int)}{sl:List (Str×Bool)}(h:KU st x bd bs k dl sl)(hs:st.sub A):KU A x bd bs k dl sl:=⟨hs _ _ h.x,hs _ _ h.bd,hs _ _ h.bs⟩
def Zc5(d:D):Prop:=∃a f c,d=.iface 121 (.agg [.int .i64 a,.int .i64 f,.int .i64 c])
def Wm(ok:Bool)(st:St)(r:Res)(S:St):Prop:=S=st∧if ok then r=.ret (.tup []) else ∃d,Zc5 d∧r=.panic d
theorem YA{ok:Bool}{st S:St}{d:D}(h:Wm ok st (.ret d) S):ok=true∧d=.tup []∧S=st:=by
 obtain⟨h1,h2⟩:=h;cases ok with
 |true=>simp at h2;exact⟨rfl,h2,h1⟩
 |false=>simp at h2
theorem Yz{ok:Bool}{st S:St}{d:D}(h:Wm ok st (.panic d) S):ok=false∧Zc5 d∧S=st:=by
 obtain⟨h1,h2⟩:=h;cases ok with
 |true=>simp at h2
 |false=>simp at h2;exact⟨rfl,h2,h1⟩
theorem ZaY{ok:Bool}{st:St}(h:ok=true):Wm ok st (.ret (.tup [])) st:=by subst h;exact⟨rfl,rfl⟩
theorem Y3{ok:Bool}{st:St}{d:D}(h:ok=false)(hd:Zc5 d):Wm ok st (.panic d) st:=by subst h;exact⟨rfl,d,hd,rfl⟩
def Zg3(a f c:Int):D:=.iface 121 (.agg [.int .i64 a,.int .i64 f,.int .i64 c])
theorem Zq5(a f c:Int):Zc5 (Zg3 a f c):=⟨a,f,c,rfl⟩
theorem Zfq{x bd bs:Nat}{k:Ck}{st:St}(hx:st x=sO (.cells (k.cells bd bs)))(fine:Bool)(code:Int):Za ZDW 235 [.ptr x 0,.bool fine,.int .i64 code] st (fun r S=>S=st∧r=if fine then .ret (.tup []) else .panic (Zg3 k.at_ k.field code)):=by
 refine Zd (cR 235 f235) fun F hF=>?_;refine rg ?_;refine cd (fun h=>?_) (fun h=>?_);have hf:fine=false:=by simpa using h
 refine rx (nd2 @hx @Ck.cells.eq_1) ?_;refine Ztq rfl rfl rfl trivial ?_;exact hF.pan st (ZDY _) ⟨rfl,by rw[hf];rfl⟩;have hf:fine=true:=by simpa using h
 refine Zy ?_;exact hF.fin (.tup []) st rfl trivial (ZDZ _) (ZDY _) ⟨rfl,by rw[hf];rfl⟩
theorem ZV{x bd bs:Nat}{k:Ck}{st:St}(hx:st x=sO (.cells (k.cells bd bs)))(fine:Bool)(code:Int):Za ZDW 235 [.ptr x 0,.bool fine,.int .i64 code] st (Wm fine st) :=
 (Zfq hx fine code).mono fun r S ⟨h1,h2⟩=>by
  subst h1;cases fine with
  |true=>exact⟨rfl,h2⟩
  |false=>exact⟨rfl,_,Zq5 _ _ _,h2⟩
theorem Zly(o:Option Int):Y7 (.int .i64 0) true (o.map W9)=.tup [.int .i64 (o.getD 0),.bool o.isSome]:=by cases o<;>rfl
theorem ZmF(o:Option (Int×Int)):Y7 (.agg [.int .i64 0,.int .i64 0]) true (o.map K3)=.tup [.agg [.int .i64 (o.getD (0,0)).1,.int .i64 (o.getD (0,0)).2],.bool o.isSome]:=by cases o<;>rfl
theorem Zcf{x bd bs:Nat}{k:Ck}{dl:List (Str×Int)}{sl:List (Str×Bool)}{st:St}(hst:KU st x bd bs k dl sl)(name:Str):Za ZDW 313 [.ptr x 0,.str name] st (Wm (Zr name dl).isSome st):=by
 refine Zd (cR 313 f313) fun F hF=>?_;have e1:=YR (vD:=W9) ZT name dl;have e3:=Y1 ZT name;simp only[show Ks name=D.str name from rfl]at e1 e3;refine rh ?_;refine Zl ?_;simp only[Eqs,reduceCtorEq,ZD2,reduceIte,ZD0,ZD3,ZD1,hst.x,hst.bd,Ck.cells,e1,e3,Zly];refine rg ?_;refine cV (ZV hst.x (Zr name dl).isSome 8) ?_ ?_;rintro d S h;obtain⟨i,rfl,rfl⟩:=YA h;refine gR0 ?_;exact hF.fin (.tup []) S rfl trivial (ZDZ _) (ZDY _) (ZaY i);rintro d S h;obtain⟨i,j,rfl⟩:=Yz h;exact hF.pan S (ZDY _) (Y3 i j)
theorem Qr{x bd bs:Nat}{k:Ck}{st:St}(hx:st x=sO (.cells (k.cells bd bs))){n:Nat}(hn:k.field=n)(hl:n≤k.m.fields.length):ZP ZDW 286 [.ptr x 0] st (Zm (k.m.fields.take n)) st:=by
 refine ZG (cR 286 f286) fun u F t=>?_;clear u;refine rg ?_;refine rx (nd2 @hx (nd2 @Ck.cells.eq_1 (nd2 @Zm.eq_1 (nd2 @eQ1 @hn)))) ?_;refine⟨by omega,by omega,by omega,?_⟩;rw[ite_self];have j:Z0 Fld.cells (fun i=>(k.m.fields.getD i dE).cells) (k.m.fields.take n):=Z0.self.take n;exact t rfl (by trivial) (QB (j.le (by rw[ZEh];omega))) (ZDY _)
def Yq:Int→Int→List Int→Bool
 |_,_,[]=>true
 |low,high,n::r=>dC (low≤n)&&dC (n≤high)&&Yq n high r
theorem ZeI{x bd bs:Nat}{k:Ck}{st:St}(hx:st x=sO (.cells (k.cells bd bs)))(low high:Int)(l:List Int):Za ZDW 300 [.ptr x 0,.int .i64 low,.int .i64 high,slD 1 inC l] st (Wm (Yq low high l) st):=by
 refine JT (cR 300 f300) fun u F hF=>?_;have hw:=(Wb (u (slD 1 inC l) (by simp))).1;unfold big at hw;clear u;refine rx @eQ1 ?_;refine Zc (fr (l.length) (fun i Q=>∀lo,Yq low high l=Yq lo high (l.drop i)→i≤l.length→Q [(0,.d (.ptr x 0)),(1,.d (.int .i64 lo)),(2,.d (.int .i64 high)),(10,.d (slD 1 inC l)),(11,.d (.int .i64 l.length)),(12,.d (.int .i64 i))] [] st) (fun n j=>?_) fun ab=>?_);intro i hn lo hS hi;refine rg ?_;refine Zb (Zu rfl trivial (fun h1=>?_) (fun h1=>?_));simp at h1;rw[Zap h1,Yq]at hS;generalize hv:l.getD i dE=v at *;refine xA (nd2 @eQ1 (nd2 @inC.eq_1 @hv)) ?_;refine rg ?_;refine cV (ZV hx (dC (lo≤v)&&dC (v≤high)) 7) ?_ ?_;rintro d S h;obtain⟨t,rfl,rfl⟩:=YA h;rw[t,ZEm]at hS;refine gR0 ?_;refine rg ?_;refine gA ?_;refine Zg ?_;exact j ((l.length)-(i+1)) (by omega) (i+1) rfl v hS (by omega);rintro d S h;obtain⟨t,z,rfl⟩:=Yz h;rw[t,ZEu]at hS;exact hF.pan S (ZDY _) (Y3 hS z);simp at h1;obtain rfl:i=l.length:=by omega
 rw[List.drop_length,Yq]at hS;refine ZQ rfl ?_;exact hF.fin (.tup []) st rfl trivial (ZDZ _) (ZDY _) (ZaY hS);exact ab _ 0 rfl low rfl (by omega)
def ZcQ(f:Fld):Bool:=dC (1≤f.bits)&&dC (f.bits≤32)&&(!f.little ||(dC (8<f.bits)&&dC (f.bits.tmod 8=0)))
theorem ZgC{x bd bs:Nat}{k:Ck}{st:St}(hx:st x=sO (.cells (k.cells bd bs)))(f:Fld):Za ZDW 299 [.ptr x 0,.agg f.cells] st (Wm (ZcQ f) st):=by
 refine Zd (cR 299 f299) fun F hF=>?_;refine rx @eQ0 ?_;refine rx @eQ0 ?_;have ht1:=Int.tmod_lt_of_pos f.bits (by decide:(0:Int)<8);have ht2:=Int.lt_tmod_of_pos f.bits (by decide:(0:Int)<8);refine⟨fun _=>⟨by decide,by omega,by omega⟩,?_⟩;refine cV (ZV hx (ZcQ f) 6) ?_ ?_;rintro d S h;obtain⟨i,rfl,rfl⟩:=YA h;refine gR0 ?_;exact hF.fin (.tup []) S rfl trivial (ZDZ _) (ZDY _) (ZaY i);rintro d S h;obtain⟨i,j,rfl⟩:=Yz h;exact hF.pan S (ZDY _) (Y3 i j)
abbrev Qb(fs:List Fld):Zk7:=Jj fs fs.length
abbrev ivP(fs:List Fld)(s:Wi):Int×Int×Int:=Jr s fun k=>Zr k (Qb fs)
def Zb1(fs:List Fld)(t:ZO):Bool:=(Zr t.field (Qb fs)).isSome
def ZeO(fs:List Fld)(s:Wi):Bool:=ZU s&&(s.terms.all (Zb1 fs)&&(dC ((ivP fs s).2.2=0)&&dC (0≤(ivP fs s).1)&&dC ((ivP fs s).2.1≤1048576)))
theorem Zcg{x bd bs:Nat}{k:Ck}{st:St}(hx:st x=sO (.cells (k.cells bd bs))){n:Nat}(hn:k.field=n)(hl:n≤k.m.fields.length)(f:Fld):
  Za ZDW 306 [.ptr x 0,.agg f.cells] st (Wm (ZeO (k.m.fields.take n) f.size) st):=by
 refine Zd (cR 306 f306) fun F hF=>?_;have hS:=ZeO.eq_1 (k.m.fields.take n) f.size;generalize aq:k.m.fields.take n=fs at *;refine rx @eQ0 ?_;refine rx @eQ0 ?_;have ah:D.agg [D.int IntKind.i64 f.size.base,Yl f.size.terms]=.agg f.size.cells:=rfl;simp only[ah];refine clD (JS f.size) ?_;refine cVD (ZV hx (ZU f.size) 9) ?_ ?_
 ·rintro d S h;obtain⟨hv,rfl,rfl⟩:=YA h;rw[hv,ZEm]at hS;first|refine⟨by first|trivial|exact⟨rfl,rfl,trivial⟩|exact⟨rfl,trivial⟩,?_⟩|skip
  refine gR0 ?_;refine rg ?_;refine tX @aq (Qr hx hn hl) ?_;refine cV (ZeH fs S) ?_ ?_
  ·rintro d S' ⟨b,hb,hd,rfl⟩;cases hd;refine gR0 ?_;refine Zb (Zb ?_);refine xP 2 fun z2 h2=>?_;refine xP 4 fun z4 h4=>?_;have k2:=Zq h2;have k4:=Zq h4;have ae:=Zq k4.2;have ao:x≠b:=fun e=>by rw[e,hb]at hx;simp at hx
   have ap:x≠z2:=fun e=>by rw[e,k2.2]at hx;simp at hx
   have am:x≠z4:=fun e=>by rw[e,ae.2]at hx;simp at hx
   obtain⟨A,hA⟩:∃A,A=((S.upd b (.map (Za7 (Jj fs fs.length)))).upd z2 (.cells [.ptr x 0])).upd z4 (.cells [.map b]):=⟨_,rfl⟩;have gx:A x=sO (.cells (k.cells bd bs)):=by rw[hA,ZD6 _ _ am,ZD6 _ _ ap,ZD6 _ _ ao];exact hx
   have gb:A b=sO (.map (Za7 (Qb fs))):=by rw[hA,ZD6 _ _ ae.1.symm,ZD6 _ _ k2.1.symm];exact ZD4 _ _ _
   have g2:A z2=sO (.cells [.ptr x 0]):=by rw[hA,ZD6 _ _ k4.1.symm];exact ZD4 _ _ _
   have g4:A z4=sO (.cells [.map b]):=by rw[hA];exact ZD4 _ _ _
   have af:S.sub A:=by rw[hA];exact ZED (ZEl _ hb) (ZED (ZEl _ h2) (ZEl _ h4))
   rw[←hA];clear hA h2 h4 k2 k4 ae;refine rx @eQ0 ?_;simp only[ah];have hfew:=QG hv;refine cV (Zbi f.size hv _) ?_ ?_
   ·rintro d S' ⟨y,hy,hd,rfl⟩;cases hd;refine gR0 ?_;refine Zc ?_;refine Ka hF rfl trivial [2,4] (by show([2,4]:List Nat).Nodup;decide) (Wh hy) (Zaf f.size.terms (by unfold big;omega) y).Y (fun j hj=>rfl)
     (fun j=>if Zb1 fs (f.size.terms.getD j dE) then .next else .pan (Zg3 k.at_ k.field 8)) (fun j a=>a=A) rfl ?_ ?_ ?_ ?_ ?_ ?_
    ·intro j a hj z hB F' ready aj hdr ai ac;subst hB;simp only[Eqs,reduceCtorEq,ZD2,reduceIte,ZD0,ZD3,ZD1,Ws,WG,Qy,WU,List.isEmpty_nil,List.isEmpty_cons];refine rg ?_;refine ai fun al=>?_;generalize htm:f.size.terms.getD j dE=tm at *;have e1:=YR (vD:=K3) ZT tm.field (Qb fs);have e3:=Y1 ZT tm.field;simp only[show Ks tm.field=D.str tm.field from rfl]at e1 e3;refine rh ?_;refine Zl ?_;simp only[Eqs,reduceCtorEq,ZD2,reduceIte,ZD0,ZD3,ZD1,Zp g4,Zp gb,e1,e3,ZmF];refine rh ?_;refine Zl ?_;simp only[Eqs,reduceCtorEq,ZD2,reduceIte,ZD0,ZD3,ZD1,Zp g2];refine cV (Zfq (st:=a.or aj) (Zp gx) (Zr tm.field (Qb fs)).isSome 8) ?_ ?_
     ·rintro d S' ⟨rfl,h⟩;cases hk:(Zr tm.field (Qb fs)).isSome with
      |false=>rw[hk]at h;simp at h
      |true =>rw[hk]at h;simp at h;subst h;refine gR0 ?_;refine Zj ?_;exact ac.fin ⟨by rw[if_pos (show Zb1 fs tm=true from hk)],rfl⟩ al (ZDY _)
     rintro d S' ⟨rfl,h⟩;cases hk:(Zr tm.field (Qb fs)).isSome with
     |true=>rw[hk]at h;simp at h
     |false =>rw[hk]at h;simp at h;subst h;exact ac.pan ⟨by rw[if_neg (by rw[show Zb1 fs tm=false from hk];simp)],rfl⟩ al (ZDY _)
    intro q a z hB hq;subst hB;have ab:f.size.terms.all (Zb1 fs)=true:=by apply List.all_eq_true.2;intro t ht;obtain⟨i,hi,rfl⟩:=ZEe ht;have:=z i hi;split at this;rename_i h;simpa[ZEb,hi]using h;simp at this
    rw[ab,ZEm]at hS;rw[KG hq];refine rh ?_;refine Zl ?_;simp only[Eqs,reduceCtorEq,ZD2,reduceIte,ZD0,ZD3,ZD1,Zp g4,Fld.cells];simp only[ah];refine cV (ZlJ f.size b (Qb fs) _ (Zp gb)) ?_ ?_;rintro d S' ⟨hd,rfl⟩;cases hd;refine gQ @K3.eq_1 ?_;refine rh ?_;refine Zl ?_;simp only[Eqs,reduceCtorEq,ZD2,reduceIte,ZD0,ZD3,ZD1,Zp g2];refine cV (ZV (st:=a.or (ZEn q .dfr)) (Zp gx) (dC ((ivP fs f.size).2.2=0)&&dC (0≤(ivP fs f.size).1)&&dC ((ivP fs f.size).2.1≤1048576)) 9) ?_ ?_;rintro d S' h;obtain⟨ad,rfl,rfl⟩:=YA h;rw[ad]at hS;refine gR0 ?_;exact hF.fin1 hq (.tup []) S rfl trivial (ZDZ _) af (ZaY hS);rintro d S' h;obtain⟨ad,ag,rfl⟩:=Yz h;rw[ad]at hS;exact hF.pan1 hq S af (Y3 hS ag);rintro d S' ⟨hd,_⟩;cases hd;intro q a m hm z u;split at u<;>simp at u;intro q a m id hm z u;split at u<;>simp at u;intro q a m d hm z u hB hq;subst hB;rw[KG hq];have ak:Zb1 fs (f.size.terms.getD m dE)=false:=by split at u;simp at u;rename_i h;simpa using h
    have ab:f.size.terms.all (Zb1 fs)=false:=by apply List.all_eq_false.2;exact⟨_,ZC hm,by rw[ak];simp⟩
    rw[ab,ZEu]at hS;split at u;simp at u;simp at u;subst u;exact hF.pan1 hq S af (Y3 hS (Zq5 _ _ _));intro m c u;split at u<;>simp at u
   rintro d S' ⟨y,hy,hd,_⟩;cases hd
  rintro d S' ⟨b,hb,hd,_⟩;cases hd
 rintro d S h;obtain⟨hv,ag,rfl⟩:=Yz h;rw[hv,ZEu]at hS;exact hF.pan S (ZDY _) (Y3 hS ag)
def ZbU(dl:List (Str×Int))(high:Int):Int→List Yb→Bool
 |_,[]=>true
 |low,c::r=>Yq low high [c.low,c.high]&&((Zr c.of dl).isSome&&ZbU dl high (c.high+1) r)
def ZeX(fs:List Fld)(f:Fld):Bool:=fs.any fun o=>dC (o.kind=9)&&dC (o.tag=f.tag)
def Zib(fs:List Fld)(dl:List (Str×Int))(f:Fld):Bool :=
 ((Zr f.tag (Qb fs)).isSome&&!ZeX fs f)&&((dC (1≤(f.cases.length:Int))&&dC ((f.cases.length:Int)≤40))&&ZbU dl ((Zr f.tag (Qb fs)).getD (0,0)).2 ((Zr f.tag (Qb fs)).getD (0,0)).1 f.cases)
theorem Zki(o:Fld)(f:Fld)(y:Nat)(st:St)(hy:st y=sO (.cells f.cells)):ZP ZDW 334 [.agg o.cells,.ptr y 0] st (.bool (dC (o.kind=9)&&dC (o.tag=f.tag))) st:=by
 refine ZG (cR 334 f334) fun j F i=>?_;clear j;refine rx @eQ0 ?_;refine rx (nd2 @hy @eQ0) ?_;exact i rfl (by trivial) (ZDZ _) (ZDY _)
theorem ZwE(a b:Int):Z0 inC (Z8 [.int .i64 0] ([0,1].zip [.int .i64 a,.int .i64 b])) [a,b]:=fun i hi=>by
 match i,hi with
 |0,_=>rfl
 |1,_=>rfl
theorem ZcH{x bd bs:Nat}{k:Ck}{st:St}(hx:st x=sO (.cells (k.cells bd bs)))(low high a b:Int):Za ZDW 300 [.ptr x 0,.int .i64 low,.int .i64 high,.sl .full 2 1 (Z8 [.int .i64 0] ([0,1].zip [.int .i64 a,.int .i64 b]))] st (Wm (Yq low high [a,b]) st) :=
 Za.leA (.cons (ZDZ _) (.cons (ZDZ _) (.cons (ZDZ _) (LeC.one ((ZwE a b).le rfl))))) (ZeI hx low high [a,b])
theorem Qi{x bd bs:Nat}{k:Ck}{st:St}(hx:st x=sO (.cells (k.cells bd bs)))(low high a:Int):Za ZDW 300 [.ptr x 0,.int .i64 low,.int .i64 high,.sl .full 1 1 (Z8 [.int .i64 0] ([0].zip [.int .i64 a]))] st (Wm (Yq low high [a]) st) :=
 Za.leA (.cons (ZDZ _) (.cons (ZDZ _) (.cons (ZDZ _) (LeC.one ((Z0.one (f:=inC) (x:=a) rfl).le rfl))))) (ZeI hx low high [a])
theorem Zm4{x bd bs:Nat}{k:Ck}{dl:List (Str×Int)}{sl:List (Str×Bool)}{st:St}(hst:KU st x bd bs k dl sl){n:Nat}(hn:k.field=n)(hl:n≤k.m.fields.length)(f:Fld)(hR:((Zr f.tag (Qb (k.m.fields.take n))).getD (0,0)).2<4611686018427387904):
  Za ZDW 317 [.ptr x 0,.agg f.cells] st (Wm (Zib (k.m.fields.take n) dl f) st):=by
 refine JT (cR 317 f317) fun ae F hF=>?_;have ag:=(Zzw (s:=f) (ae _ (by simp))).cases;clear ae;have hx:=hst.x;have hS:=Zib.eq_1 (k.m.fields.take n) dl f;generalize af:k.m.fields.take n=fs at *;have e1:=YR (vD:=K3) ZT f.tag (Qb fs);have e3:=Y1 ZT f.tag;simp only[show Ks f.tag=D.str f.tag from rfl]at e1 e3;refine rx @eQ0 ?_;refine rx @eQ0 ?_;refine tXD @af (Qr hx hn hl) ?_;refine cVD (ZeH fs st) ?_ ?_;rintro d S ⟨b,hb,hd,rfl⟩;cases hd;first|refine⟨by first|trivial|exact⟨rfl,rfl,trivial⟩|exact⟨rfl,trivial⟩,?_⟩|skip
 have hxb:x≠b:=fun e=>by rw[e,hb]at hx;simp at hx
 generalize hr:(Zr f.tag (Qb fs)).getD (0,0)=r at *;refine Yy ?_;simp only[Eqs,reduceCtorEq,ZD2,reduceIte,ZD0,ZD3,ZD1,e1,e3,ZmF,hr,ZD4,ZEj,Yo,Yp];refine Zb ?_;refine xP 3 fun y hy=>?_;obtain⟨A,hA⟩:∃A,A=((st.upd b (.map (Za7 (Jj fs fs.length)))).upd y (.cells f.cells)):=⟨_,rfl⟩;have z:st.sub A:=by rw[hA];exact ZED (ZEl _ hb) (ZEl _ hy)
 have gy:A y=sO (.cells f.cells):=by rw[hA];exact ZD4 _ _ _
 have ac:=hst.mono z;have ah:[D.str f.name,D.int IntKind.i64 f.kind,D.int IntKind.i64 f.bits,D.bool f.little,D.bool f.loose,D.int IntKind.i64 f.low,D.int IntKind.i64 f.high,D.int IntKind.i64 f.size.base,Yl f.size.terms,D.str f.of,D.str f.tag,D.str f.from_,Kl f.cases,D.int IntKind.i64 f.check,D.int IntKind.i64 f.key]=f.cells:=rfl;rw[ah,←hA];clear hA hy;refine rg ?_;refine tX @af (Qr ac.x hn hl) ?_;refine ct (ZcK fs (.fn (.func 334) [] [.ptr y 0]) (fun o=>dC (o.kind=9)&&dC (o.tag=f.tag)) (fun _=>A) (fun i hi=>(Zki _ f y A gy).VT (first:=[]) (args:=[_]) (caps:=[_]))) ?_;rw[show(fs.any fun o=>dC (o.kind=9)&&dC (o.tag=f.tag))=ZeX fs f from rfl];refine rg ?_;refine cV (ZV ac.x ((Zr f.tag (Qb fs)).isSome&&!ZeX fs f) 8) ?_ ?_;rintro d S h;obtain⟨j,rfl,rfl⟩:=YA h;rw[j,ZEm]at hS;refine gR0 ?_;refine rx (nd2 @gy (nd2 @eQ0 (nd2 @Kl.eq_1 @eQ1))) ?_;refine cV (ZV ac.x (dC (1≤(f.cases.length:Int))&&dC ((f.cases.length:Int)≤40)) 3) ?_ ?_;rintro d S2 h;obtain⟨j,rfl,rfl⟩:=YA h;rw[j,ZEm]at hS;simp only[ZD5,decide_eq_true_eq]at j;refine gR0 ?_;refine rg ?_;refine rx (nd2 @gy (nd2 @eQ0 (nd2 @Kl.eq_1 @eQ1))) ?_;refine Zc (fr (f.cases.length) (fun i Q=>∀lo,ZbU dl r.2 r.1 f.cases=ZbU dl r.2 lo (f.cases.drop i)→i≤f.cases.length→Q [(0,.d (.ptr x 0)),(4,.loc 4 0),(7,.d (.int .i64 lo)),(45,.d (Kl f.cases)),(46,.d (.int .i64 f.cases.length)),(47,.d (.int .i64 i))] [(4,[.int .i64 r.1,.int .i64 r.2])] S2) (fun n ad=>?_) fun ai=>?_);intro i hni lo hL hi;refine rg ?_;refine Zb (Zu rfl trivial (fun h1=>?_) (fun h1=>?_));simp at h1;rw[Zap h1,ZbU]at hL;have hcb:-9223372036854775808≤(f.cases.getD i dE).high∧(f.cases.getD i dE).high≤9223372036854775807:=(ag _ (ZC h1)).high;generalize hc:f.cases.getD i dE=c at *;refine xA (nd2 @Kl.eq_1 (nd2 @eQ1 (nd2 @Yb.cells.eq_1 @hc))) ?_;refine rx @Yb.cells.eq_1 ?_;refine cV (ZcH ac.x lo r.2 c.low c.high) ?_ ?_;rintro d S3 h;obtain⟨u,rfl,rfl⟩:=YA h;rw[u,ZEm]at hL;simp only[Yq,Bool.and_true,ZD5,decide_eq_true_eq]at u;refine gR0 ?_;refine rx @Yb.cells.eq_1 ?_;refine cV (Zcf ac c.of) ?_ ?_;rintro d S4 h;obtain⟨ab,rfl,rfl⟩:=YA h;rw[ab,ZEm]at hL;refine gR0 ?_;refine xA @Yb.cells.eq_1 ?_;refine gA ?_;refine Zg ?_;exact ad ((f.cases.length)-(i+1)) (by omega) (i+1) rfl (c.high+1) hL (by omega);rintro d S4 h;obtain⟨ab,t,rfl⟩:=Yz h;rw[ab,ZEu]at hL;exact hF.pan st z (Y3 (hS.trans hL) t);rintro d S3 h;obtain⟨u,t,rfl⟩:=Yz h;rw[u,ZEu]at hL;exact hF.pan st z (Y3 (hS.trans hL) t);simp at h1;obtain rfl:i=f.cases.length:=by omega
 rw[List.drop_length,ZbU]at hL;refine ZQ rfl ?_;exact hF.fin (.tup []) st rfl trivial (ZDZ _) z (ZaY (hS.trans hL));exact ai _ 0 rfl r.1 rfl (by omega);rintro d S2 h;obtain⟨j,t,rfl⟩:=Yz h;rw[j,ZEu]at hS;exact hF.pan st z (Y3 hS t);rintro d S h;obtain⟨j,t,rfl⟩:=Yz h;rw[j,ZEu]at hS;exact hF.pan st z (Y3 hS t);rintro d S ⟨b,hb,hd,_⟩;cases hd
def ZqG(f:Fld):Fld:={ f with bits:=0,little:=false,low:=0,high:=0 }
theorem Zkk(f:Fld)(y:Nat)(s:St)(hy:s y=sO (.cells f.cells)):ZP ZDW 297 [.ptr y 0] s (.tup []) (s.upd y (.cells (ZqG f).cells)):=by
 refine Zd (cR 297 f297) fun F hF=>?_;refine rx (nd2 @hy (nd2 @eQ0 (nd2 @ZD4 (nd2 @ZEj (nd2 @Yo @Yp))))) ?_;exact hF.fin (.tup []) _ rfl trivial (ZDZ _) (ZDY _) ⟨rfl,rfl⟩
def ZqH(f:Fld):Fld:={ f with bits:=0,little:=false,low:=0 }
theorem Zkm(f:Fld)(y:Nat)(s:St)(hy:s y=sO (.cells f.cells)):ZP ZDW 301 [.ptr y 0] s (.tup []) (s.upd y (.cells (ZqH f).cells)):=by
 refine Zd (cR 301 f301) fun F hF=>?_;refine rx (nd2 @hy (nd2 @eQ0 (nd2 @ZD4 (nd2 @ZEj (nd2 @Yo @Yp))))) ?_;exact hF.fin (.tup []) _ rfl trivial (ZDZ _) (ZDY _) ⟨rfl,rfl⟩
def ZqI(f:Fld):Fld:={ f with loose:=false,low:=0,high:=0 }
theorem Zko(f:Fld)(y:Nat)(s:St)(hy:s y=sO (.cells f.cells)):ZP ZDW 303 [.ptr y 0] s (.tup []) (s.upd y (.cells (ZqI f).cells)):=by
 refine Zd (cR 303 f303) fun F hF=>?_;refine rx (nd2 @hy (nd2 @eQ0 (nd2 @ZD4 (nd2 @ZEj (nd2 @Yo @Yp))))) ?_;exact hF.fin (.tup []) _ rfl trivial (ZDZ _) (ZDY _) ⟨rfl,rfl⟩
def Zl9(f:Fld):Fld:={ f with size:=⟨0,[]⟩ }
theorem Zkq(f:Fld)(y:Nat)(s:St)(hy:s y=sO (.cells f.cells)):ZP ZDW 305 [.ptr y 0] s (.tup []) (s.upd y (.cells (Zl9 f).cells)):=by
 refine Zd (cR 305 f305) fun F hF=>?_;refine rx (nd2 @hy (nd2 @eQ0 (nd2 @ZD4 (nd2 @ZEj (nd2 @Yo @Yp))))) ?_;refine JU (ds':=(Zl9 f).cells) (ZD4 _ _ _) (.cons (ZDZ _) (.cons (ZDZ _) (.cons (ZDZ _) (.cons (ZDZ _) (.cons (ZDZ _) (.cons (ZDZ _) (.cons (ZDZ _) (.cons (ZDZ _) (.cons (Kk (by simp)) (.cons (ZDZ _) (.cons (ZDZ _) (.cons (ZDZ _) (.cons (ZDZ _) (.cons (ZDZ _) (.cons (ZDZ _) (.nil)))))))))))))))) ?_;rw[ZEj];exact hF.fin (.tup []) _ rfl trivial (ZDZ _) (ZDY _) ⟨rfl,rfl⟩
def ZqJ(f:Fld):Fld:={ f with low:=0,high:=0 }
theorem Zkr(f:Fld)(y:Nat)(s:St)(hy:s y=sO (.cells f.cells)):ZP ZDW 307 [.ptr y 0] s (.tup []) (s.upd y (.cells (ZqJ f).cells)):=by
 refine Zd (cR 307 f307) fun F hF=>?_;refine rx (nd2 @hy (nd2 @eQ0 (nd2 @ZD4 (nd2 @ZEj (nd2 @Yo @Yp))))) ?_;exact hF.fin (.tup []) _ rfl trivial (ZDZ _) (ZDY _) ⟨rfl,rfl⟩
def ZqK(f:Fld):Fld:={ f with loose:=false,high:=0 }
theorem Zi4(f:Fld)(y:Nat)(s:St)(hy:s y=sO (.cells f.cells)):ZP ZDW 309 [.ptr y 0] s (.tup []) (s.upd y (.cells (ZqK f).cells)):=by
 refine Zd (cR 309 f309) fun F hF=>?_;refine rx (nd2 @hy (nd2 @eQ0 (nd2 @ZD4 (nd2 @ZEj (nd2 @Yo @Yp))))) ?_;exact hF.fin (.tup []) _ rfl trivial (ZDZ _) (ZDY _) ⟨rfl,rfl⟩
def Zma(f:Fld):Fld:={ f with of:=[],size:=⟨0,[]⟩ }
theorem Zi6(f:Fld)(y:Nat)(s:St)(hy:s y=sO (.cells f.cells)):ZP ZDW 311 [.ptr y 0] s (.tup []) (s.upd y (.cells (Zma f).cells)):=by
 refine Zd (cR 311 f311) fun F hF=>?_;refine rx (nd2 @hy (nd2 @eQ0 (nd2 @ZD4 (nd2 @ZEj (nd2 @Yo @Yp))))) ?_;refine JU (ds':=(Zma f).cells) (ZD4 _ _ _) (.cons (ZDZ _) (.cons (ZDZ _) (.cons (ZDZ _) (.cons (ZDZ _) (.cons (ZDZ _) (.cons (ZDZ _) (.cons (ZDZ _) (.cons (ZDZ _) (.cons (Kk (by simp)) (.cons (ZDZ _) (.cons (ZDZ _) (.cons (ZDZ _) (.cons (ZDZ _) (.cons (ZDZ _) (.cons (ZDZ _) (.nil)))))))))))))))) ?_;rw[ZEj];exact hF.fin (.tup []) _ rfl trivial (ZDZ _) (ZDY _) ⟨rfl,rfl⟩
def ZqL(f:Fld):Fld:={ f with of:=[] }
theorem Zi8(f:Fld)(y:Nat)(s:St)(hy:s y=sO (.cells f.cells)):ZP ZDW 314 [.ptr y 0] s (.tup []) (s.upd y (.cells (ZqL f).cells)):=by
 refine Zd (cR 314 f314) fun F hF=>?_;refine rx (nd2 @hy (nd2 @eQ0 (nd2 @ZD4 (nd2 @ZEj (nd2 @Yo @Yp))))) ?_;exact hF.fin (.tup []) _ rfl trivial (ZDZ _) (ZDY _) ⟨rfl,rfl⟩
def Zmb(f:Fld):Fld:={ f with tag:=[],cases:=[] }
theorem Zja(f:Fld)(y:Nat)(s:St)(hy:s y=sO (.cells f.cells)):ZP ZDW 316 [.ptr y 0] s (.tup []) (s.upd y (.cells (Zmb f).cells)):=by
 refine Zd (cR 316 f316) fun F hF=>?_;refine rx (nd2 @hy (nd2 @eQ0 (nd2 @ZD4 (nd2 @ZEj (nd2 @Yo @Yp))))) ?_;refine JU (ds':=(Zmb f).cells) (ZD4 _ _ _) (.cons (ZDZ _) (.cons (ZDZ _) (.cons (ZDZ _) (.cons (ZDZ _) (.cons (ZDZ _) (.cons (ZDZ _) (.cons (ZDZ _) (.cons (ZDZ _) (.cons (ZDZ _) (.cons (ZDZ _) (.cons (ZDZ _) (.cons (ZDZ _) (.cons (Kk (by simp)) (.cons (ZDZ _) (.cons (ZDZ _) (.nil)))))))))))))))) ?_;rw[ZEj];exact hF.fin (.tup []) _ rfl trivial (ZDZ _) (ZDY _) ⟨rfl,rfl⟩
def ZnR(f:Fld):Fld:={ f with bits:=0 }
theorem Zjb(f:Fld)(y:Nat)(s:St)(hy:s y=sO (.cells f.cells)):ZP ZDW 318 [.ptr y 0] s (.tup []) (s.upd y (.cells (ZnR f).cells)):=by
 refine Zd (cR 318 f318) fun F hF=>?_;refine rx (nd2 @hy (nd2 @eQ0 (nd2 @ZD4 (nd2 @ZEj (nd2 @Yo @Yp))))) ?_;exact hF.fin (.tup []) _ rfl trivial (ZDZ _) (ZDY _) ⟨rfl,rfl⟩
def ZnS(f:Fld):Fld:={ f with from_:=[],check:=0 }
theorem Zjd(f:Fld)(y:Nat)(s:St)(hy:s y=sO (.cells f.cells)):ZP ZDW 320 [.ptr y 0] s (.tup []) (s.upd y (.cells (ZnS f).cells)):=by
 refine Zd (cR 320 f320) fun F hF=>?_;refine rx (nd2 @hy (nd2 @eQ0 (nd2 @ZD4 (nd2 @ZEj (nd2 @Yo @Yp))))) ?_;exact hF.fin (.tup []) _ rfl trivial (ZDZ _) (ZDY _) ⟨rfl,rfl⟩
def ZjL(f:Fld):Fld:={ f with of:=[],size:=⟨0,[]⟩,key:=0 }
theorem Zjf(f:Fld)(y:Nat)(s:St)(hy:s y=sO (.cells f.cells)):ZP ZDW 322 [.ptr y 0] s (.tup []) (s.upd y (.cells (ZjL f).cells)):=by
 refine Zd (cR 322 f322) fun F hF=>?_;refine rx (nd2 @hy (nd2 @eQ0 (nd2 @ZD4 (nd2 @ZEj (nd2 @Yo @Yp))))) ?_;refine JU (ds':=(ZjL f).cells) (ZD4 _ _ _) (.cons (ZDZ _) (.cons (ZDZ _) (.cons (ZDZ _) (.cons (ZDZ _) (.cons (ZDZ _) (.cons (ZDZ _) (.cons (ZDZ _) (.cons (ZDZ _) (.cons (Kk (by simp)) (.cons (ZDZ _) (.cons (ZDZ _) (.cons (ZDZ _) (.cons (ZDZ _) (.cons (ZDZ _) (.cons (ZDZ _) (.nil)))))))))))))))) ?_;rw[ZEj];exact hF.fin (.tup []) _ rfl trivial (ZDZ _) (ZDY _) ⟨rfl,rfl⟩
def ck1(f:Fld):Bool:=ZcQ f&&Yq 0 (2 ^ f.bits.toNat-1) [f.low,f.high]
def ck2(f:Fld):Bool:=ZcQ f&&Yq 0 (2 ^ f.bits.toNat-1) [f.low]
def ck3(f:Fld):Bool:=Yq 0 34359738367 [f.low,f.high]
def ck5(f:Fld):Bool:=Yq 0 255 [f.low]&&Yq 0 1048576 [f.high]
def ck6(f:Fld):Bool:=Yq 2 1048576 [f.high]
def ck7(fs:List Fld)(dl:List (Str×Int))(f:Fld):Bool:=(Zr f.of dl).isSome&&ZeO fs f.size
def ck8(dl:List (Str×Int))(f:Fld):Bool:=(Zr f.of dl).isSome
def ZtL(f:Fld):Bool:=dC (f.bits=2) ||decide (f.bits=4) ||(dC (8≤f.bits)&&dC (f.bits≤512)&&dC (f.bits.tmod 8=0))
def ZtM(fs:List Fld)(f:Fld):Bool:=Yq 1 3 [f.check]&&dC (0≤Zi (fun x=>dC (x.name=f.from_)) fs)
def ZtN(fs:List Fld)(sl:List (Str×Bool))(f:Fld):Bool:=Yq 0 4294967295 [f.key]&&((Zr f.of sl).getD false&&ZeO fs f.size)
theorem Zda(f:Fld):D.agg [D.str f.name,D.int IntKind.i64 f.kind,D.int IntKind.i64 f.bits,D.bool f.little,D.bool f.loose,D.int IntKind.i64 f.low,D.int IntKind.i64 f.high,D.int IntKind.i64 f.size.base,Yl f.size.terms,D.str f.of,D.str f.tag,D.str f.from_,Kl f.cases,D.int IntKind.i64 f.check,D.int IntKind.i64 f.key]=.agg f.cells:=rfl
theorem Zkl{x bd bs:Nat}{k:Ck}{dl:List (Str×Int)}{sl:List (Str×Bool)}{st:St}(hst:KU st x bd bs k dl sl){n:Nat}(hn:k.field=n)(hl:n≤k.m.fields.length)(f:Fld):
  Za ZDW 298 [.ptr x 0,.agg f.cells] st (Wm (ck1 f) st):=by
 refine Zd (cR 298 f298) fun F hF=>?_;have hS:=ck1.eq_1 f;refine rx @eQ0 ?_;refine rx @eQ0 ?_;simp only[Zda];refine cV (ZgC hst.x f) ?_ ?_;rintro d S h;obtain⟨i,rfl,rfl⟩:=YA h;rw[i,ZEm]at hS;first|refine⟨by first|trivial|exact⟨rfl,trivial⟩,?_⟩|skip
 refine gR0 ?_;have hb1:1≤f.bits∧f.bits≤32:=by unfold ZcQ at i;simp only[ZD5,decide_eq_true_eq]at i;exact i.1
 have t:=Zz7 (b:=f.bits) (by omega) (by omega);have h2p:=Zfy (b:=f.bits) (by omega) (by omega);refine rx @eQ0 ?_;rw[t];generalize hpw:(2:Int) ^ f.bits.toNat=pw at *;refine⟨by omega,by omega,by omega,by omega,by omega,?_⟩;refine cV0 (ZcH hst.x 0 (pw-1) f.low f.high) ?_ ?_;rintro d S h;obtain⟨i,rfl,rfl⟩:=YA h;rw[i]at hS;refine gR0 ?_;exact hF.fin (.tup []) _ rfl trivial (ZDZ _) (ZDY _) (ZaY hS);rintro d S h;obtain⟨i,j,rfl⟩:=Yz h;rw[i]at hS;exact hF.pan _ (ZDY _) (Y3 hS j);rintro d S h;obtain⟨i,j,rfl⟩:=Yz h;rw[i,ZEu]at hS;exact hF.pan _ (ZDY _) (Y3 hS j)
theorem Zkn{x bd bs:Nat}{k:Ck}{dl:List (Str×Int)}{sl:List (Str×Bool)}{st:St}(hst:KU st x bd bs k dl sl){n:Nat}(hn:k.field=n)(hl:n≤k.m.fields.length)(f:Fld):
  Za ZDW 302 [.ptr x 0,.agg f.cells] st (Wm (ck2 f) st):=by
 refine Zd (cR 302 f302) fun F hF=>?_;have hS:=ck2.eq_1 f;refine rx @eQ0 ?_;refine rx @eQ0 ?_;simp only[Zda];refine cV (ZgC hst.x f) ?_ ?_;rintro d S h;obtain⟨i,rfl,rfl⟩:=YA h;rw[i,ZEm]at hS;first|refine⟨by first|trivial|exact⟨rfl,trivial⟩,?_⟩|skip
 refine gR0 ?_;have hb1:1≤f.bits∧f.bits≤32:=by unfold ZcQ at i;simp only[ZD5,decide_eq_true_eq]at i;exact i.1
 have t:=Zz7 (b:=f.bits) (by omega) (by omega);have h2p:=Zfy (b:=f.bits) (by omega) (by omega);refine rx @eQ0 ?_;rw[t];generalize hpw:(2:Int) ^ f.bits.toNat=pw at *;refine⟨by omega,by omega,by omega,by omega,by omega,?_⟩;refine cV0 (Qi hst.x 0 (pw-1) f.low) ?_ ?_;rintro d S h;obtain⟨i,rfl,rfl⟩:=YA h;rw[i]at hS;refine gR0 ?_;exact hF.fin (.tup []) _ rfl trivial (ZDZ _) (ZDY _) (ZaY hS);rintro d S h;obtain⟨i,j,rfl⟩:=Yz h;rw[i]at hS;exact hF.pan _ (ZDY _) (Y3 hS j);rintro d S h;obtain⟨i,j,rfl⟩:=Yz h;rw[i,ZEu]at hS;exact hF.pan _ (ZDY _) (Y3 hS j)
theorem Zkp{x bd bs:Nat}{k:Ck}{dl:List (Str×Int)}{sl:List (Str×Bool)}{st:St}(hst:KU st x bd bs k dl sl){n:Nat}(hn:k.field=n)(hl:n≤k.m.fields.length)(f:Fld):
  Za ZDW 304 [.ptr x 0,.agg f.cells] st (Wm (ck3 f) st):=by
 refine Zd (cR 304 f304) fun F hF=>?_;have hS:=ck3.eq_1 f;refine rx @eQ0 ?_;refine rx @eQ0 ?_;refine cV (ZcH hst.x 0 34359738367 f.low f.high) ?_ ?_;rintro d S h;obtain⟨i,rfl,rfl⟩:=YA h;rw[i]at hS;refine gR0 ?_;exact hF.fin (.tup []) _ rfl trivial (ZDZ _) (ZDY _) (ZaY hS);rintro d S h;obtain⟨i,j,rfl⟩:=Yz h;rw[i]at hS;exact hF.pan _ (ZDY _) (Y3 hS j)
theorem Zks{x bd bs:Nat}{k:Ck}{dl:List (Str×Int)}{sl:List (Str×Bool)}{st:St}(hst:KU st x bd bs k dl sl){n:Nat}(hn:k.field=n)(hl:n≤k.m.fields.length)(f:Fld):
  Za ZDW 308 [.ptr x 0,.agg f.cells] st (Wm (ck5 f) st):=by
 refine Zd (cR 308 f308) fun F hF=>?_;have hS:=ck5.eq_1 f;refine rx @eQ0 ?_;refine rx @eQ0 ?_;refine cV (Qi hst.x 0 255 f.low) ?_ ?_;rintro d S h;obtain⟨i,rfl,rfl⟩:=YA h;rw[i,ZEm]at hS;first|refine⟨by first|trivial|exact⟨rfl,trivial⟩,?_⟩|skip
 refine gR0 ?_;refine rx @eQ0 ?_;refine cV (Qi hst.x 0 1048576 f.high) ?_ ?_;rintro d S h;obtain⟨i,rfl,rfl⟩:=YA h;rw[i]at hS;refine gR0 ?_;exact hF.fin (.tup []) _ rfl trivial (ZDZ _) (ZDY _) (ZaY hS);rintro d S h;obtain⟨i,j,rfl⟩:=Yz h;rw[i]at hS;exact hF.pan _ (ZDY _) (Y3 hS j);rintro d S h;obtain⟨i,j,rfl⟩:=Yz h;rw[i,ZEu]at hS;exact hF.pan _ (ZDY _) (Y3 hS j)
theorem Zi5{x bd bs:Nat}{k:Ck}{dl:List (Str×Int)}{sl:List (Str×Bool)}{st:St}(hst:KU st x bd bs k dl sl){n:Nat}(hn:k.field=n)(hl:n≤k.m.fields.length)(f:Fld):
  Za ZDW 310 [.ptr x 0,.agg f.cells] st (Wm (ck6 f) st):=by
 refine Zd (cR 310 f310) fun F hF=>?_;have hS:=ck6.eq_1 f;refine rx @eQ0 ?_;refine rx @eQ0 ?_;refine cV (Qi hst.x 2 1048576 f.high) ?_ ?_;rintro d S h;obtain⟨i,rfl,rfl⟩:=YA h;rw[i]at hS;refine gR0 ?_;exact hF.fin (.tup []) _ rfl trivial (ZDZ _) (ZDY _) (ZaY hS);rintro d S h;obtain⟨i,j,rfl⟩:=Yz h;rw[i]at hS;exact hF.pan _ (ZDY _) (Y3 hS j)
theorem Zi7{x bd bs:Nat}{k:Ck}{dl:List (Str×Int)}{sl:List (Str×Bool)}{st:St}(hst:KU st x bd bs k dl sl){n:Nat}(hn:k.field=n)(hl:n≤k.m.fields.length)(f:Fld):
  Za ZDW 312 [.ptr x 0,.agg f.cells] st (Wm (ck7 (k.m.fields.take n) dl f) st):=by
 refine Zd (cR 312 f312) fun F hF=>?_;have hS:=ck7.eq_1 (k.m.fields.take n) dl f;refine rx @eQ0 ?_;refine rx @eQ0 ?_;refine cV (Zcf hst f.of) ?_ ?_;rintro d S h;obtain⟨i,rfl,rfl⟩:=YA h;rw[i,ZEm]at hS;first|refine⟨by first|trivial|exact⟨rfl,trivial⟩,?_⟩|skip
 refine gR0 ?_;refine rx @eQ0 ?_;simp only[Zda];refine cV (Zcg hst.x hn hl f) ?_ ?_;rintro d S h;obtain⟨i,rfl,rfl⟩:=YA h;rw[i]at hS;refine gR0 ?_;exact hF.fin (.tup []) _ rfl trivial (ZDZ _) (ZDY _) (ZaY hS);rintro d S h;obtain⟨i,j,rfl⟩:=Yz h;rw[i]at hS;exact hF.pan _ (ZDY _) (Y3 hS j);rintro d S h;obtain⟨i,j,rfl⟩:=Yz h;rw[i,ZEu]at hS;exact hF.pan _ (ZDY _) (Y3 hS j)
theorem Zi9{x bd bs:Nat}{k:Ck}{dl:List (Str×Int)}{sl:List (Str×Bool)}{st:St}(hst:KU st x bd bs k dl sl){n:Nat}(hn:k.field=n)(hl:n≤k.m.fields.length)(f:Fld):
  Za ZDW 315 [.ptr x 0,.agg f.cells] st (Wm (ck8 dl f) st):=by
 refine Zd (cR 315 f315) fun F hF=>?_;have hS:=ck8.eq_1 dl f;refine rx @eQ0 ?_;refine rx @eQ0 ?_;refine cV (Zcf hst f.of) ?_ ?_;rintro d S h;obtain⟨i,rfl,rfl⟩:=YA h;rw[i]at hS;refine gR0 ?_;exact hF.fin (.tup []) _ rfl trivial (ZDZ _) (ZDY _) (ZaY hS);rintro d S h;obtain⟨i,j,rfl⟩:=Yz h;rw[i]at hS;exact hF.pan _ (ZDY _) (Y3 hS j)
theorem Zjc{x bd bs:Nat}{k:Ck}{dl:List (Str×Int)}{sl:List (Str×Bool)}{st:St}(hst:KU st x bd bs k dl sl){n:Nat}(hn:k.field=n)(hl:n≤k.m.fields.length)(f:Fld):
  Za ZDW 319 [.ptr x 0,.agg f.cells] st (Wm (ZtL f) st):=by
 refine Zd (cR 319 f319) fun F hF=>?_;have hS:=ZtL.eq_1 f;refine rx @eQ0 ?_;refine rx @eQ0 ?_;have ht1:=Int.tmod_lt_of_pos f.bits (by decide:(0:Int)<8);have ht2:=Int.lt_tmod_of_pos f.bits (by decide:(0:Int)<8);refine⟨fun _=>⟨by decide,by omega,by omega⟩,?_⟩;refine cV (ZV hst.x (dC (f.bits=2) ||decide (f.bits=4) ||decide (8≤f.bits)&&dC (f.bits≤512)&&dC (f.bits.tmod 8=0)) 6) ?_ ?_;rintro d S h;obtain⟨i,rfl,rfl⟩:=YA h;rw[i]at hS;refine gR0 ?_;exact hF.fin (.tup []) _ rfl trivial (ZDZ _) (ZDY _) (ZaY hS);rintro d S h;obtain⟨i,j,rfl⟩:=Yz h;rw[i]at hS;exact hF.pan _ (ZDY _) (Y3 hS j)
theorem Zje{x bd bs:Nat}{k:Ck}{dl:List (Str×Int)}{sl:List (Str×Bool)}{st:St}(hst:KU st x bd bs k dl sl){n:Nat}(hn:k.field=n)(hl:n≤k.m.fields.length)(f:Fld):
  Za ZDW 321 [.ptr x 0,.agg f.cells] st (Wm (ZtM (k.m.fields.take n) f) st):=by
 refine Zd (cR 321 f321) fun F hF=>?_;have hS:=ZtM.eq_1 (k.m.fields.take n) f;refine rx @eQ0 ?_;refine rx @eQ0 ?_;refine cV (Qi hst.x 1 3 f.check) ?_ ?_;rintro d S h;obtain⟨i,rfl,rfl⟩:=YA h;rw[i,ZEm]at hS;first|refine⟨by first|trivial|exact⟨rfl,trivial⟩,?_⟩|skip
 refine gR0 ?_;refine rx @eQ0 ?_;refine tXD (nd2 @Zm.eq_1 @eQ1) (Qr hst.x hn hl) ?_;refine clD ((Zce ⟨[],k.m.fields.take n⟩ f.from_)) ?_;refine rg ?_;refine cV (ZV hst.x (dC (0≤Zi (fun x=>dC (x.name=f.from_)) (k.m.fields.take n))) 8) ?_ ?_;rintro d S h;obtain⟨i,rfl,rfl⟩:=YA h;rw[i]at hS;refine gR0 ?_;exact hF.fin (.tup []) _ rfl trivial (ZDZ _) (ZDY _) (ZaY hS);rintro d S h;obtain⟨i,j,rfl⟩:=Yz h;rw[i]at hS;exact hF.pan _ (ZDY _) (Y3 hS j);rintro d S h;obtain⟨i,j,rfl⟩:=Yz h;rw[i,ZEu]at hS;exact hF.pan _ (ZDY _) (Y3 hS j)
theorem Zjg{x bd bs:Nat}{k:Ck}{dl:List (Str×Int)}{sl:List (Str×Bool)}{st:St}(hst:KU st x bd bs k dl sl){n:Nat}(hn:k.field=n)(hl:n≤k.m.fields.length)(f:Fld):
  Za ZDW 323 [.ptr x 0,.agg f.cells] st (Wm (ZtN (k.m.fields.take n) sl f) st):=by
 refine Zd (cR 323 f323) fun F hF=>?_;have hS:=ZtN.eq_1 (k.m.fields.take n) sl f;refine rx @eQ0 ?_;refine rx @eQ0 ?_;refine cV (Qi hst.x 0 4294967295 f.key) ?_ ?_;rintro d S h;obtain⟨i,rfl,rfl⟩:=YA h;rw[i,ZEm]at hS;first|refine⟨by first|trivial|exact⟨rfl,trivial⟩,?_⟩|skip
 refine gR0 ?_;have e1:=YR (vD:=D.bool) ZT f.of sl;have e3:=Y1 ZT f.of;simp only[show Ks f.of=D.str f.of from rfl]at e1 e3;refine rh ?_;refine Y8 ?_;simp only[Eqs,reduceCtorEq,ZD2,reduceIte,ZD0,ZD3,ZD1,Fld.cells,hst.x,hst.bs,Ck.cells,e1,e3,Zlx];refine cV0 (ZV hst.x ((Zr f.of sl).getD false) 8) ?_ ?_;rintro d S h;obtain⟨i,rfl,rfl⟩:=YA h;rw[i,ZEm]at hS;first|refine⟨by first|trivial|exact⟨rfl,trivial⟩,?_⟩|skip
 refine gR0 ?_;refine rx @eQ0 ?_;simp only[Zda];refine cV (Zcg hst.x hn hl f) ?_ ?_;rintro d S h;obtain⟨i,rfl,rfl⟩:=YA h;rw[i]at hS;refine gR0 ?_;exact hF.fin (.tup []) _ rfl trivial (ZDZ _) (ZDY _) (ZaY hS);rintro d S h;obtain⟨i,j,rfl⟩:=Yz h;rw[i]at hS;exact hF.pan _ (ZDY _) (Y3 hS j);rintro d S h;obtain⟨i,j,rfl⟩:=Yz h;rw[i,ZEu]at hS;exact hF.pan _ (ZDY _) (Y3 hS j);rintro d S h;obtain⟨i,j,rfl⟩:=Yz h;rw[i,ZEu]at hS;exact hF.pan _ (ZDY _) (Y3 hS j)
def Zv4(f:Fld):List D:=[.str f.name,.str f.of,.str f.tag,.str f.from_,.int .i64 f.kind,.int .i64 f.bits,.int .i64 f.low,.int .i64 f.high,.int .i64 f.size.base,.int .i64 f.check,.int .i64 f.key,.bool f.little,.bool f.loose]
theorem Zfr(f:Fld):Zf ZDW 324 [.agg f.cells] (.agg (Zv4 f)):=by
 refine Zo (cR 324 f324) fun F st i=>?_;refine rx @eQ0 ?_;refine rx @eQ0 ?_;exact i rfl (by first|trivial|simp) (ZDZ _) (ZDY _)
theorem ZhT(a b:Fld):Zf ZDW 288 [.agg a.cells,.agg b.cells] (.bool (dC (a=b))):=by
 refine Zo (cR 288 f288) fun F st u=>?_;refine rx @eQ0 ?_;refine rx @eQ0 ?_;simp only[Zda];refine clD (Zfr a) ?_;refine cXD @Zv4.eq_1 (Zfr b) ?_;refine cGD (Zhx a.size.terms b.size.terms) ?_;refine cGD (Zhw a.cases b.cases) ?_;refine u rfl (by trivial) (Zd4 ?_) (ZDY _);rw[Bool.eq_iff_iff];simp only[ZD5,decide_eq_true_eq];constructor;rintro⟨⟨⟨h1,h2,h3,h4,h5,h6,h7,h8,h9,ab,t,j,n⟩,z⟩,i⟩;obtain⟨n1,k1,b1,l1,o1,lo1,hi1,⟨sb1,st1⟩,of1,t1,f1,c1,ch1,ke1⟩:=a;obtain⟨n2,k2,b2,l2,o2,lo2,hi2,⟨sb2,st2⟩,of2,t2,f2,c2,ch2,ke2⟩:=b;simp only at h1 h2 h3 h4 h5 h6 h7 h8 h9 ab t j n z i;subst h1;subst h2;subst h3;subst h4;subst h5;subst h6;subst h7;subst h8;subst h9;subst ab;subst t;subst j;subst n;subst z;subst i;rfl;rintro rfl;simp
abbrev ZpT(x:Nat×Nat):D:=.agg [.fn (.func x.1) [] [],.fn (.func x.2) [] []]
def Zhh:List (Int×(Nat×Nat)):=[(1,(297,298)),(2,(301,302)),(3,(303,304)),(4,(305,306)),(5,(307,308)),(6,(309,310)),(7,(311,312)),(8,(314,315)),(9,(316,317)),(10,(318,319)),(11,(320,321)),(12,(322,323))]
theorem Zm5(st:St):Za ZDW 287 [] st fun r S=>∃b,st b=nO∧r=.ret (.map b)∧S=st.upd b (.map (KJ W9 ZpT Zhh)):=by
 refine Zd (cR 287 f287) fun F hF=>?_;refine rg ?_;refine rh ?_;refine Zl ?_;simp only[Eqs,reduceCtorEq,ZD2,reduceIte,ZD0,ZD3,ZD1,JO,Int.reduceEq,decide_false,ZD4,ZEj,Yo,Yp];intro b hb;exact hF.ret _ _ rfl (by trivial) (ZDZ _) (ZDY _) ⟨b,hb,rfl,rfl⟩
def Zd9(n:Str)(k:Int):Fld:=⟨n,k,0,false,false,0,0,⟨0,[]⟩,[],[],[],[],0,0⟩
def Zen(f:Fld):Fld :=
 if f.kind=1 then ZqG f else if f.kind=2 then ZqH f else if f.kind=3 then ZqI f else if f.kind=4 then Zl9 f else if f.kind=5 then ZqJ f else if f.kind=6 then ZqK f
 else if f.kind=7 then Zma f else if f.kind=8 then ZqL f else if f.kind=9 then Zmb f else if f.kind=10 then ZnR f else if f.kind=11 then ZnS f else ZjL f
def Zej(fs:List Fld)(dl:List (Str×Int))(sl:List (Str×Bool))(f:Fld):Bool :=
 if f.kind=1 then ck1 f else if f.kind=2 then ck2 f else if f.kind=3 then ck3 f else if f.kind=4 then ZeO fs f.size else if f.kind=5 then ck5 f else if f.kind=6 then ck6 f
 else if f.kind=7 then ck7 fs dl f else if f.kind=8 then ck8 dl f else if f.kind=9 then Zib fs dl f else if f.kind=10 then ZtL f else if f.kind=11 then ZtM fs f else ZtN fs sl f
def QM(f:Fld):Bool:=dC (1≤f.kind)&&dC (f.kind≤12)
theorem ZyG{x bd bs:Nat}{k:Ck}{dl:List (Str×Int)}{sl:List (Str×Bool)}{st:St}(hst:KU st x bd bs k dl sl){n:Nat}(hn:k.field=n)(hl:n≤k.m.fields.length)(f:Fld)(hR:((Zr f.tag (Qb (k.m.fields.take n))).getD (0,0)).2<4611686018427387904)(hk:QM f=true):
  ∃c q,Zr f.kind Zhh=sO (c,q)∧(∀y s,s y=sO (.cells f.cells)→ZP ZDW c [.ptr y 0] s (.tup []) (s.upd y (.cells (Zen f).cells))) ∧
   ∀A,st.sub A→Za ZDW q [.ptr x 0,.agg f.cells] A (Wm (Zej (k.m.fields.take n) dl sl f) A):=by
 unfold QM at hk;simp only[ZD5,decide_eq_true_eq]at hk;have i:f.kind=1∨f.kind=2∨f.kind=3∨f.kind=4∨f.kind=5∨f.kind=6∨f.kind=7∨f.kind=8∨f.kind=9∨f.kind=10∨f.kind=11∨f.kind=12:=by omega
 unfold Zen Zej;rcases i with h|h|h|h|h|h|h|h|h|h|h|h<;>simp only[h,Int.reduceEq,if_true,if_false];exact⟨_,_,rfl,fun y s hy=>Zkk f y s hy,fun A hA=>Zkl (hst.mono hA) hn hl f⟩;exact⟨_,_,rfl,fun y s hy=>Zkm f y s hy,fun A hA=>Zkn (hst.mono hA) hn hl f⟩;exact⟨_,_,rfl,fun y s hy=>Zko f y s hy,fun A hA=>Zkp (hst.mono hA) hn hl f⟩;exact⟨_,_,rfl,fun y s hy=>Zkq f y s hy,fun A hA=>Zcg (hst.mono hA).x hn hl f⟩;exact⟨_,_,rfl,fun y s hy=>Zkr f y s hy,fun A hA=>Zks (hst.mono hA) hn hl f⟩;exact⟨_,_,rfl,fun y s hy=>Zi4 f y s hy,fun A hA=>Zi5 (hst.mono hA) hn hl f⟩;exact⟨_,_,rfl,fun y s hy=>Zi6 f y s hy,fun A hA=>Zi7 (hst.mono hA) hn hl f⟩;exact⟨_,_,rfl,fun y s hy=>Zi8 f y s hy,fun A hA=>Zi9 (hst.mono hA) hn hl f⟩;exact⟨_,_,rfl,fun y s hy=>Zja f y s hy,fun A hA=>Zm4 (hst.mono hA) hn hl f hR⟩;exact⟨_,_,rfl,fun y s hy=>Zjb f y s hy,fun A hA=>Zjc (hst.mono hA) hn hl f⟩;exact⟨_,_,rfl,fun y s hy=>Zjd f y s hy,fun A hA=>Zje (hst.mono hA) hn hl f⟩;exact⟨_,_,rfl,fun y s hy=>Zjf f y s hy,fun A hA=>Zjg (hst.mono hA) hn hl f⟩
theorem ZvP{f:Fld}(hk:QM f=false):Zr f.kind Zhh=nO:=by
 rw[ZvD];unfold QM at hk;simp only[ZEF,decide_eq_false_iff_not]at hk;simp only[Zhh,ZEc,ZEs,ZEz,List.not_mem_nil,or_false];omega
def Qk(fs:List Fld)(dl:List (Str×Int))(sl:List (Str×Bool))(f:Fld):Bool :=
 YZ f.name&&(!dC (0≤Zi (fun x=>dC (x.name=f.name)) fs)&&(QM f&&(dC (Zen f=Zd9 f.name f.kind)&&Zej fs dl sl f)))
theorem Zkj{x bd bs:Nat}{k:Ck}{dl:List (Str×Int)}{sl:List (Str×Bool)}{st:St}(hst:KU st x bd bs k dl sl){n:Nat}(hn:k.field=n)(hl:n≤k.m.fields.length)(f:Fld)(hR:((Zr f.tag (Qb (k.m.fields.take n))).getD (0,0)).2<4611686018427387904):
  Za ZDW 274 [.ptr x 0,.agg f.cells] st (Wm (Qk (k.m.fields.take n) dl sl f) st):=by
 refine Zd (cR 274 f274) fun F hF=>?_;have hS:=Qk.eq_1 (k.m.fields.take n) dl sl f;refine rx @eQ0 ?_;refine rx @eQ0 ?_;refine cl (ZaB f.name) ?_;refine cV (ZV hst.x (YZ f.name) 1) ?_ ?_
 ·rintro d S h;obtain⟨af,rfl,rfl⟩:=YA h;rw[af,ZEm]at hS;refine gR0 ?_;refine rx @eQ0 ?_;refine tXD (nd2 @Zm.eq_1 @eQ1) (Qr hst.x hn hl) ?_;refine clD ((Zce ⟨[],k.m.fields.take n⟩ f.name)) ?_;refine rg ?_;refine cV (ZV hst.x (!dC (0≤Zi (fun x=>dC (x.name=f.name)) (k.m.fields.take n))) 2) ?_ ?_
  ·rintro d S2 h;obtain⟨z,rfl,rfl⟩:=YA h;rw[z,ZEm]at hS;refine gR0 ?_;refine rx @eQ0 ?_;refine cVD (Zm5 S2) ?_ ?_
   ·rintro d S3 ⟨b,hb,hd,rfl⟩;cases hd;refine⟨by first|trivial|exact⟨rfl,trivial⟩,?_⟩;have e1:=YR (vD:=ZpT) Zha f.kind Zhh;have e3:=Y1 Zha f.kind;simp only[show W9 f.kind=D.int .i64 f.kind from rfl]at e1 e3;have ae:=ZEl (.map (KJ W9 ZpT Zhh)) hb;cases ad:QM f with
    |false =>rw[ad,ZEu]at hS;rw[ZvP ad]at e1;refine gQ (nd2 @e1 (nd2 @e3 (nd2 @ZD4 (nd2 @ZEj (nd2 @Yo @Yp))))) ?_;refine rg ?_;refine cV (ZV (hst.mono ae).x false 4) ?_ ?_;rintro d S4 h;exact absurd (YA h).1 (by simp);rintro d S4 h;obtain⟨_,i,rfl⟩:=Yz h;exact hF.pan S2 ae (Y3 hS i)
    |true =>rw[ad,ZEm]at hS;obtain⟨c,q,hg,ab,ac⟩:=ZyG hst hn hl f hR ad;rw[hg]at e1;refine gQ (nd2 @e1 (nd2 @e3 (nd2 @ZD4 (nd2 @ZEj (nd2 @Yo @Yp))))) ?_;refine rg ?_;refine cV (ZV (hst.mono ae).x true 4) ?_ ?_;rintro d S4 h;obtain⟨_,rfl,rfl⟩:=YA h;refine gR0 ?_;refine rx @eQ0 ?_;refine Zb ?_;refine xP 7 fun y hy=>?_;have ag:[D.str f.name,D.int IntKind.i64 f.kind,D.int IntKind.i64 f.bits,D.bool f.little,D.bool f.loose,D.int IntKind.i64 f.low,D.int IntKind.i64 f.high,D.int IntKind.i64 f.size.base,Yl f.size.terms,D.str f.of,D.str f.tag,D.str f.from_,Kl f.cases,D.int IntKind.i64 f.check,D.int IntKind.i64 f.key]=f.cells:=rfl;simp only[ag];have t:∀o,S2.sub (((S2.upd b (.map (KJ W9 ZpT Zhh)))).upd y o):=fun o=>ZED ae (ZEl _ hy);refine rg ?_;refine ct (ab y _ (ZD4 _ _ _)) ?_;simp only[ZEj];refine rx (nd2 @eQ0 (nd2 @ZD4 (nd2 @ZEj (nd2 @Yo @Yp)))) ?_;simp only[Zda];refine Zbk rfl rfl rfl rfl rfl (by trivial) (by trivial) (by exact(ZhT (Zen f) (Zd9 f.name f.kind)).leA (LeC.two (ZDZ _) (Zzi (cs':=(Zd9 f.name f.kind).cells) (.cons (ZDZ _) (.cons (ZDZ _) (.cons (ZDZ _) (.cons (ZDZ _) (.cons (ZDZ _) (.cons (ZDZ _) (.cons (ZDZ _) (.cons (ZDZ _) (.cons (Kk (by simp)) (.cons (ZDZ _) (.cons (ZDZ _) (.cons (ZDZ _) (.cons (Kk (by simp)) (.cons (ZDZ _) (.cons (ZDZ _) .nil)))))))))))))))))) (Zl ?_);simp only[Eqs,reduceCtorEq,ZD2,reduceIte,ZD0,ZD3,ZD1];refine cV (ZV (hst.mono (t _)).x (dC (Zen f=Zd9 f.name f.kind)) 5) ?_ ?_;rintro d S5 h;obtain⟨u,rfl,rfl⟩:=YA h;rw[u,ZEm]at hS;refine gR0 ?_;refine rx @eQ0 ?_;simp only[Zda];refine cV (ac _ (t _)) ?_ ?_;rintro d S6 h;obtain⟨j,rfl,rfl⟩:=YA h;rw[j]at hS;refine gR0 ?_;exact hF.fin (.tup []) S2 rfl trivial (ZDZ _) (t _) (ZaY hS);rintro d S6 h;obtain⟨j,i,rfl⟩:=Yz h;rw[j]at hS;exact hF.pan S2 (t _) (Y3 hS i);rintro d S5 h;obtain⟨u,i,rfl⟩:=Yz h;rw[u,ZEu]at hS;exact hF.pan S2 (t _) (Y3 hS i);rintro d S4 h;exact absurd (Yz h).1 (by simp)
   rintro d S3 ⟨b,hb,hd,_⟩;cases hd
  rintro d S2 h;obtain⟨z,i,rfl⟩:=Yz h;rw[z,ZEu]at hS;exact hF.pan _ (ZDY _) (Y3 hS i)
 rintro d S h;obtain⟨af,i,rfl⟩:=Yz h;rw[af,ZEu]at hS;exact hF.pan _ (ZDY _) (Y3 hS i)
def ddS(l:List Str):List Str:=l.foldl ZbO []
theorem Zr5(l out:List Str):∃r,l.foldl ZbO out=out++r:=by
 induction l generalizing out with
 |nil=>exact⟨[],by simp⟩
 |cons x r ih =>obtain⟨q,hq⟩:=ih (ZbO out x);rw[List.foldl_cons,hq];unfold ZbO;split;exact⟨q,rfl⟩;exact⟨[x]++q,by simp⟩
theorem ZqP{l:List Str}{i:Nat}(h:i<l.length):ddS (l.take (i+1))=ZbO (ddS (l.take i)) (l.getD i dE):=by
 unfold ddS;rw[YJ h,List.foldl_append];rfl
theorem ZsO{l:List Str}{s:Str}:s∈ddS l↔s∈l:=by unfold ddS;rw[Zgn];simp
theorem Zyq(l:List Str)(i:Nat):∃r,ddS l=ddS (l.take i)++r:=by
 conv=>enter [1,r];lhs;rw[←List.take_append_drop i l]
 unfold ddS;rw[List.foldl_append];exact Zr5 _ _
theorem Zzu{l:List Str}{i:Nat}(h:i<l.length)(hn:l.getD i dE∉l.take i):(ddS (l.take i)).length<(ddS l).length∧(ddS l).getD (ddS (l.take i)).length dE=l.getD i dE∧(ddS (l.take (i+1))).length=(ddS (l.take i)).length+1:=by
 have h1:=ZqP h;have hm:l.getD i dE∉ddS (l.take i):=fun hm=>hn (ZsO.1 hm);rw[ZbO,if_neg hm]at h1;obtain⟨r,hr⟩:=Zyq l (i+1);rw[h1]at hr;refine⟨by rw[hr];simp,by rw[hr];simp[ZEb],by rw[h1];simp⟩
theorem ZwZ{l:List Str}{i:Nat}(h:i<l.length)(hn:l.getD i dE∈l.take i):ddS (l.take (i+1))=ddS (l.take i):=by
 rw[ZqP h,ZbO,if_pos (ZsO.2 hn)]
theorem Zii(l:List Str)(i:Nat)(h:i≤l.length)(tk:Tok)(s:Str):Zf ZDW 290 [.sl tk i 1 (fun i=>[.str (l.getD i dE)]),.str s] (.bool (dC (s∈l.take i))):=by
 have j:Z0 Zbu (fun i=>[.str (l.getD i dE)]) (l.take i):=(Z0.self (f:=Zbu) (l:=l)).take i;exact(ZdZ (l.take i) s).leA (LeC.two (j.le (by rw[ZEh];omega)) (ZDZ _))
theorem Zi2(l:List Str)(hl:l.length≤big)(x:Nat):Zcr ZDW (.fn (.func 289) [] [.ptr x 0]) (ddS l).length (fun j=>[.str ((ddS l).getD j dE)]) (ZEn x (.cells [ZaR l])):=by
 intro y go A a0 ae hA hd;have hw:=hl;unfold big at hw;refine Za.V (first:=[]) (args:=[y]) (caps:=[.ptr x 0]) (Zd (cR 289 f289) fun F hF=>?_);have hx:∀a,Z6 a (ZEn x (.cells [ZaR l]))→(a.or (ZEn x (.cells [ZaR l]))) x=sO (.cells [ZaR l]):=fun a ai=>by rw[ZH (ai x _ (Yn _ _)),Yn]
 generalize hT:ZEn x (.cells [ZaR l])=T at *;refine rh ?_;refine Zl ?_;simp only[Eqs,reduceCtorEq,ZD2,reduceIte,ZD0,ZD3,ZD1,hx a0 hd,ZaR,slD];refine Zc (fr (l.length) (fun i Q=>∀a,A (ddS (l.take i)).length a→Z6 a T→(∀j,j<(ddS (l.take i)).length→go j=.next)→i≤l.length→Q [(0,.d y),(1,.d (.ptr x 0)),(5,.d (ZaR l)),(6,.d (.int .i64 l.length)),(7,.d (.int .i64 i))] [] (a.or T)) (fun n z=>?_) fun ah=>?_)
 ·clear hA hd;intro i hn a hA hd u hi;refine rg ?_;refine Zb (Zu rfl trivial (fun h1=>?_) (fun h1=>?_))
  ·simp at h1;by_cases hm:l.getD i dE∈l.take i;have ag:=ZwZ h1 hm;refine xA (nd2 @ZaR.eq_1 @eQ1) ?_;refine rh ?_;refine Zl ?_;simp only[Eqs,reduceCtorEq,ZD2,reduceIte,ZD0,ZD3,ZD1,hx a hd,ZaR,slD];refine aa ?_;refine Zbk rfl rfl rfl rfl rfl (by trivial) (by trivial) (by exact Zii l i (by omega) _ _) (Zl ?_);simp only[Eqs,reduceCtorEq,ZD2,reduceIte,ZD0,ZD3,ZD1,decide_eq_true hm];refine KH rfl (e:=.d (.bool false)) (Zl ?_);simp only[Eqs,reduceCtorEq,ZD2,reduceIte,ZD0,ZD3,ZD1];refine i0 ?_;refine gA ?_;refine Zg ?_;exact z ((l.length)-(i+1)) (by omega) (i+1) rfl a (by rw[ag];exact hA) hd (by rw[ag];exact u) (by omega);have ab:=Zzu h1 hm;refine xA (nd2 @ZaR.eq_1 @eQ1) ?_;refine rh ?_;refine Zl ?_;simp only[Eqs,reduceCtorEq,ZD2,reduceIte,ZD0,ZD3,ZD1,hx a hd,ZaR,slD];refine aa ?_;refine Zbk rfl rfl rfl rfl rfl (by trivial) (by trivial) (by exact Zii l i (by omega) _ _) (Zl ?_);simp only[Eqs,reduceCtorEq,ZD2,reduceIte,ZD0,ZD3,ZD1,decide_eq_false hm];have ac:=(ae _ ab.1 u a hA).frame hd;simp only[ab.2.1]at ac;refine vV (ac) ?_ ?_
   ·rintro d S ⟨s',⟨hr,ad⟩,af,rfl⟩;cases t:go (ddS (l.take i)).length with
    |next =>rw[t]at hr;cases hr;refine gR0 ?_;refine i0 ?_;refine gA ?_;refine Zg ?_;exact z ((l.length)-(i+1)) (by omega) (i+1) rfl s' (by rw[ab.2.2];exact ad) af (by rw[ab.2.2];exact Ye (q:=fun i=>go i=.next) u t) (by omega)
    |stop c =>rw[t]at hr;cases hr;refine gR0 ?_;refine i1 ?_;exact hF.ret (.tup []) _ rfl trivial (ZDZ _) (ZDY _) ⟨s',.stop _ c ab.1 u t ad,Kg _ _⟩
    |pan d=>rw[t]at hr;cases hr
   rintro d S ⟨s',⟨hr,ad⟩,af,rfl⟩;cases t:go (ddS (l.take i)).length with
   |pan d' =>rw[t]at hr;cases hr;exact hF.pan _ (ZDY _) ⟨s',.pan _ d ab.1 u t ad,Kg _ _⟩
   |next=>rw[t]at hr;cases hr
   |stop c=>rw[t]at hr;cases hr
  simp at h1;obtain rfl:i=l.length:=by omega
  rw[ZEy]at hA u;refine ZQ rfl ?_;exact hF.fin (.tup []) _ rfl trivial (ZDZ _) (ZDY _) ⟨a,.all u hA,Kg _ _⟩
 exact ah _ 0 rfl a0 hA hd (by intro i hi;simp[ddS]at hi) (by omega)
theorem ZlF(m:Msg)(hb:(m.fields.flatMap Ys).length≤1000000)(st:St):Za ZDW 275 [.agg m.cells] st fun r S=>∃x,st x=nO∧r=.ret (.fn (.func 289) [] [.ptr x 0])∧S=st.or (ZEn x (.cells [ZaR (m.fields.flatMap Ys)])):=by
 refine JT (cR 275 f275) fun aj F hF=>?_;have hw:=(ZvV (s:=m) (aj _ (by simp))).nfields;have am:=(ZvV (s:=m) (aj _ (by simp))).fields;unfold big at hw;clear aj;refine rx @eQ3 ?_;refine rg ?_;refine rx (nd2 @eQ3 (nd2 @Zm.eq_1 @eQ1)) ?_;refine Zc ?_;refine kl (st) [(3,.loc 3 0),(9,.d (Zm m.fields)),(10,.d (.int .i64 m.fields.length)),(11,.d (.int .i64 (0:Nat)))] [(3,[.sl .full 0 1 fun _=>[]])] (Qj _) (.cons (.cons (Kk (by simp)) .nil) .nil) ?_;refine fr (m.fields.length) (fun i Q=>∀tk row j,tk.okIn st→Z0 (fun s=>[.str s]) row j→j=(m.fields.take i).flatMap Ys→i≤m.fields.length→Q [(3,.loc 3 0),(9,.d (Zm m.fields)),(10,.d (.int .i64 m.fields.length)),(11,.d (.int .i64 i))] [(3,[.sl tk j.length 1 row])] (st.own tk (j.length*1))) (fun n ac=>?_) fun ap=>?_;intro i hn tk row j af t z hi;refine rg ?_;refine Zb (Zu rfl trivial (fun h1=>?_) (fun h1=>?_));simp at h1;have ad:=Zke m.fields i h1;have ab:=ZhR m.fields (i+1);rw[ad,ZD8,←z]at ab;have ao:=(am _ (ZC h1)).ncases;unfold big at ao;generalize hf:m.fields.getD i dE=f at *;refine xA (nd2 @Zm.eq_1 (nd2 @eQ1 (nd2 @eQ0 @hf))) ?_;refine rx @eQ0 ?_;refine rg ?_;refine jU [0] (fun Q=>∀bb:Bool,bb=(dC (f.kind=7) ||(dC (f.kind=8) ||decide (f.kind=12)))→Q F [(3,.loc 3 0),(5,.loc 5 0),(9,.d (Zm m.fields)),(10,.d (.int .i64 m.fields.length)),(11,.d (.int .i64 i)),(16,.d (.int .i64 f.kind)),(17,.d (.bool bb))] [(3,[.sl tk j.length 1 row]),(5,f.cells)] (st.own tk (j.length*1))) ?_ fun jn=>?_;intro bb ag;refine cd (fun h3=>?_) (fun h3=>?_);have ai:Ys f=[f.of]:=by
  subst h3;have h9:¬f.kind=9:=by intro e;rw[e]at ag;simp at ag
  unfold Ys ZaA;rw[←ag,if_pos rfl,if_neg h9,ZEw]
 rw[ai]at ad ab;simp only[ZEf,List.length_nil]at ab;refine rx @eQ0 ?_;refine ZaZ (st) (tk) rfl rfl rfl rfl rfl rfl (by trivial) (by trivial) rfl (by first|trivial|assumption) (by omega) (by (unfold big;omega)) fun t1 ah=>Zl ?_;simp only[Eqs,reduceCtorEq,ZD2,reduceIte,ZD0,ZD3,ZD1];refine gA ?_;refine Zg ?_;have u:=ac ((m.fields.length)-(i+1)) (by omega) (i+1) rfl t1 _ (j++[f.of]) ah (t.snoc (x:=f.of) (row2:=Z8 [.str []] ([0].zip [.str f.of])) rfl rfl) (by rw[ad,z]) (by omega);rw[ZD8]at u;exact u;have ai:Ys f=if f.kind=9 then f.cases.map (·.of) else []:=by subst h3;unfold Ys ZaA;rw[←ag,if_neg (by simp),List.nil_append]
 rw[ai]at ad ab;refine rg ?_;refine cd (fun h4=>?_) (fun h4=>?_);have h9:f.kind=9:=by simpa using h4
 rw[if_pos h9]at ad ab;simp only[List.length_map]at ab;refine rx (nd2 @eQ0 (nd2 @Kl.eq_1 @eQ1)) ?_;refine Zc (fr (f.cases.length) (fun q Q=>∀tk row o,tk.okIn st→Z0 (fun s=>[.str s]) row o→o=j++(f.cases.take q).map (·.of)→q≤f.cases.length→Q [(3,.loc 3 0),(9,.d (Zm m.fields)),(10,.d (.int .i64 m.fields.length)),(11,.d (.int .i64 i)),(29,.d (Kl f.cases)),(30,.d (.int .i64 f.cases.length)),(31,.d (.int .i64 q))] [(3,[.sl tk o.length 1 row])] (st.own tk (o.length*1))) (fun n ae=>?_) fun ak=>?_);clear t af;intro q hnq tk row o af t ho hq;have hol:o.length=j.length+q:=by rw[ho];simp;omega
 refine rg ?_;refine Zb (Zu rfl trivial (fun h5=>?_) (fun h5=>?_));simp at h5;have al:(f.cases.take (q+1)).map (·.of)=(f.cases.take q).map (·.of)++[(f.cases.getD q dE).of]:=by rw[YJ h5,List.map_append];rfl
 generalize hc:f.cases.getD q dE=c at *;refine xA (nd2 @Kl.eq_1 (nd2 @eQ1 (nd2 @Yb.cells.eq_1 @hc))) ?_;refine rx @Yb.cells.eq_1 ?_;refine ZaZ (st) (tk) rfl rfl rfl rfl rfl rfl (by trivial) (by trivial) rfl (by first|trivial|assumption) (by omega) (by (unfold big;omega)) fun t1 ah=>Zl ?_;simp only[Eqs,reduceCtorEq,ZD2,reduceIte,ZD0,ZD3,ZD1];refine gA ?_;refine Zg ?_;have u:=ae ((f.cases.length)-(q+1)) (by omega) (q+1) rfl t1 _ (o++[c.of]) ah (t.snoc (x:=c.of) (row2:=Z8 [.str []] ([0].zip [.str c.of])) rfl rfl) (by rw[al,ho,ZEA]) (by omega);rw[ZD8]at u;exact u;simp at h5;obtain rfl:q=f.cases.length:=by omega
 rw[ZEy]at ho;refine gA ?_;refine Zg ?_;exact ac ((m.fields.length)-(i+1)) (by omega) (i+1) rfl tk row o af t (by rw[ad,ho,z]) (by omega);exact ak _ 0 rfl tk row j af t (by simp) (by omega);have h9:¬f.kind=9:=by simpa using h4
 rw[if_neg h9,ZEw]at ad;refine Zy ?_;refine gA ?_;refine Zg ?_;exact ac ((m.fields.length)-(i+1)) (by omega) (i+1) rfl tk row j af t (by rw[ad,z]) (by omega);refine cd (fun h2=>?_) (fun h2=>?_);refine Zy ?_;refine jn _ ?_;rw[h2,Bool.true_or];refine rg ?_;refine cd (fun h3=>?_) (fun h3=>?_);refine Zy ?_;refine jn _ ?_;rw[h2,h3];rfl;refine rg ?_;refine jn _ ?_;rw[h2,h3];rfl;simp at h1;obtain rfl:i=m.fields.length:=by omega
 rw[ZEy]at z;refine ZQ rfl (Zb ?_);refine kl (st) [(3,.loc 3 0),(9,.d (Zm m.fields)),(10,.d (.int .i64 m.fields.length)),(11,.d (.int .i64 m.fields.length)),(12,.d (.bool (dC ((m.fields.length:Int)<m.fields.length))))] [(3,[ZaR j])] (Qj _) (.cons (.cons (t.le rfl) .nil) .nil) ?_;refine xP 3 fun x hx=>?_;refine rg ?_;exact hF.ret _ _ rfl (by trivial) (ZDZ _) (ZDY _) ⟨x,hx,rfl,by rw[←z];exact KG hx⟩;exact ap _ 0 rfl .full _ [] trivial Z0.nil rfl (by omega)
def W1(dl:List (Str×Int))(m:Msg):Int:=(W4 m).foldl (fun a s=>max a ((Zr s dl).getD 0)) 0
def Q2(sl:List (Str×Bool))(m:Msg):Bool:=(m.fields.all fun f=>!f.loose)&&(W4 m).all fun s=>(Zr s sl).getD false
def Qh(dl:List (Str×Int))(sl:List (Str×Bool))(m:Msg)(n:Nat):Bool:=(ZEa n).all fun i=>Qk (m.fields.take i) dl sl (m.fields.getD i dE)
def ZdC(dl:List (Str×Int))(sl:List (Str×Bool))(m:Msg):Bool :=
 YZ m.name&&(!(Zr m.name dl).isSome&&((dC (1≤(m.fields.length:Int))&&dC ((m.fields.length:Int)≤40))&&(Qh dl sl m m.fields.length&&dC (W1 dl m<16))))
def ZnA:Int:=4611686018427387904
theorem ZnV{fs:List Fld}{dl:List (Str×Int)}{sl:List (Str×Bool)}{f:Fld}(h:Qk fs dl sl f=true)(hn:YF f=true):(Kn f).2<ZnA:=by
 unfold Qk at h;simp only[ZD5]at h;have hc:=h.2.2.2.2;unfold YF at hn;simp only[ZD5,decide_eq_true_eq]at hn;have hk:f.kind=1∨f.kind=2∨f.kind=3:=by omega
 unfold Zej at hc;unfold Kn ZnA;rcases hk with hk|hk|hk<;>simp only[hk,Int.reduceEq,if_true,if_false]at hc⊢;unfold ck1 ZcQ at hc;simp only[Yq,ZD5,decide_eq_true_eq,Bool.and_true]at hc;have:=Zfy (b:=f.bits) (by omega) (by omega);generalize (2:Int) ^ f.bits.toNat=pw at *;omega;unfold ck2 ZcQ at hc;simp only[Yq,ZD5,decide_eq_true_eq,Bool.and_true]at hc;have:=Zfy (b:=f.bits) (by omega) (by omega);generalize (2:Int) ^ f.bits.toNat=pw at *;omega;unfold ck3 at hc;simp only[Yq,ZD5,decide_eq_true_eq,Bool.and_true]at hc;omega
theorem Zux{fs:List Fld}{i:Nat}(h:∀j,j<i→YF (fs.getD j dE)=true→(Kn (fs.getD j dE)).2<ZnA)(k:Str):((Zr k (Jj fs i)).getD (0,0)).2<ZnA:=by
 induction i with
 |zero=>simp[Jj,Zr,ZnA]
 |succ i ih =>have h1:=ih fun j hj=>h j (by omega);simp only[Jj];split;rename_i hn;rw[KV];split;exact h i (by omega) hn;exact h1;exact h1
theorem Zpy{dl:List (Str×Int)}{sl:List (Str×Bool)}{m:Msg}{i:Nat}(h:Qh dl sl m i=true)(hi:i≤m.fields.length)(k:Str):((Zr k (Qb (m.fields.take i))).getD (0,0)).2<4611686018427387904:=by
 refine Zux (fun j hj hn=>?_) k;rw[ZEh]at hj;rw[Q3 (by omega)]at hn⊢;exact ZnV (List.all_eq_true.1 h j (by simp;omega)) hn
theorem Zpw{fs:List Fld}{dl:List (Str×Int)}{sl:List (Str×Bool)}{f:Fld}(h:Qk fs dl sl f=true):(Ys f).length≤41:=by
 unfold Qk at h;simp only[ZD5]at h;have hc:=h.2.2.2.2;unfold Ys;rw[ZD8];have h1:(ZaA f).length≤1:=by unfold ZaA;split<;>simp
 split;rename_i h9;unfold Zej at hc;simp only[h9,Int.reduceEq,if_true,if_false]at hc;unfold Zib at hc;simp only[ZD5,decide_eq_true_eq]at hc;simp only[List.length_map];omega;simp;omega
theorem Zq0{dl:List (Str×Int)}{sl:List (Str×Bool)}{m:Msg}(h:Qh dl sl m m.fields.length=true)(hm:m.fields.length≤40):(m.fields.flatMap Ys).length≤1000000:=by
 have j:∀l:List Fld,(∀f∈l,(Ys f).length≤41)→(l.flatMap Ys).length≤41*l.length:=by
  intro l;induction l with
  |nil=>simp
  |cons x r ih =>intro hx;have:=ih fun f hf=>hx f (by simp[hf]);have:=hx x (by simp);simp only[List.flatMap_cons,ZD8,ZEf];omega
 have:=j m.fields fun f hf=>by obtain⟨i,hi,rfl⟩:=ZEe hf;have:=Zpw (List.all_eq_true.1 h i (by simpa using hi));simpa[ZEb,hi]using this
 omega
theorem Zin{dl:List (Str×Int)}{sl:List (Str×Bool)}{m:Msg}{i:Nat}:Qh dl sl m (i+1)=(Qh dl sl m i&&Qk (m.fields.take i) dl sl (m.fields.getD i dE)):=by
 unfold Qh;rw[List.range_succ,List.all_append];simp
theorem Zpx{dl:List (Str×Int)}{sl:List (Str×Bool)}{m:Msg}{i n:Nat}(hi:i<n)(h:Qk (m.fields.take i) dl sl (m.fields.getD i dE)=false):Qh dl sl m n=false :=
 List.all_eq_false.2 ⟨i,by simpa using hi,by rw[h];simp⟩
theorem KU.ne{st:St}{x bd bs:Nat}{k:Ck}{dl:List (Str×Int)}{sl:List (Str×Bool)}(h:KU st x bd bs k dl sl):x≠bd∧x≠bs :=
 ⟨fun e=>by have:=h.x;rw[e,h.bd]at this;simp at this,fun e=>by have:=h.x;rw[e,h.bs]at this;simp at this⟩
theorem KU.updX{st:St}{x bd bs:Nat}{k:Ck}{dl:List (Str×Int)}{sl:List (Str×Bool)}(h:KU st x bd bs k dl sl)(k':Ck):KU (st.upd x (.cells (k'.cells bd bs))) x bd bs k' dl sl :=
 ⟨ZD4 _ _ _,by rw[ZD6 _ _ h.ne.1.symm];exact h.bd,by rw[ZD6 _ _ h.ne.2.symm];exact h.bs⟩
def Zee(ok:Bool)(st:St)(x bd bs:Nat)(k:Ck)(dl:List (Str×Int))(sl:List (Str×Bool))(r:Res)(S:St):Prop :=
 if ok then r=.ret (.tup [])∧S=((st.upd x (.cells (k.cells bd bs))).upd bd (.map (Q1 dl))).upd bs (.map (ZdM sl)) else (∃d,Zc5 d∧r=.panic d)∧∀b,b≠x→b≠bd→b≠bs→S b=st b
theorem Zs0{ok:Bool}{st:St}{x bd bs:Nat}{k:Ck}{dl:List (Str×Int)}{sl:List (Str×Bool)}{d:D}{c:List D}(h:ok=false)(hd:Zc5 d):Zee ok st x bd bs k dl sl (.panic d) (st.upd x (.cells c)):=by
 subst h;exact⟨⟨d,hd,rfl⟩,fun b h1 _ _=>ZD6 _ _ h1⟩
theorem ZoK{K V:Type}[DecidableEq K]{kp:KP}{kD:K→D}{vD:V→D}(h:ZjH kp kD)(k:K)(z:D)(l:List (K×V)):Zdy kp (kD k) z (KJ kD vD l)=sO ((Zr k l).elim z vD):=by
 induction l with
 |nil=>rfl
 |cons e r ih =>simp only[KJ,ZEc,Zdy,h k e.1,Zr];by_cases hk:k=e.1;simp[hk];simp only[hk,decide_false,if_false];exact ih
def nxS(s1:St)(x z2 z6 z9:Nat)(sb:Bool)(dp:Int):St:=((s1.upd z2 (.cells [.ptr x 0])).upd z6 (.cells [.bool sb])).upd z9 (.cells [.int .i64 dp])
structure K5(s1:St)(z2 z6 z9:Nat):Prop where
 n2:s1 z2=none
 n6:z6≠z2∧s1 z6=none
 n9:z9≠z6∧z9≠z2∧s1 z9=none
section
variable {s1:St} {x z2 z6 z9:Nat} {sb:Bool} {dp:Int}
theorem K5.g2(h:K5 s1 z2 z6 z9):(nxS s1 x z2 z6 z9 sb dp) z2=sO (.cells [.ptr x 0]):=by
 simp[nxS,ZEv,h.n6.1.symm,h.n9.2.1.symm]
theorem K5.g6(h:K5 s1 z2 z6 z9):(nxS s1 x z2 z6 z9 sb dp) z6=sO (.cells [.bool sb]):=by
 simp[nxS,ZEv,h.n9.1.symm]
theorem K5.g9:(nxS s1 x z2 z6 z9 sb dp) z9=sO (.cells [.int .i64 dp]):=by
 simp[nxS,ZEv]
theorem K5.gs(h:K5 s1 z2 z6 z9){b:Nat}{o:Z1}(hb:s1 b=sO o):(nxS s1 x z2 z6 z9 sb dp) b=sO o:=by
 have h2:b≠z2:=fun e=>by rw[e,h.n2]at hb;simp at hb
 have h6:b≠z6:=fun e=>by rw[e,h.n6.2]at hb;simp at hb
 have h9:b≠z9:=fun e=>by rw[e,h.n9.2.2]at hb;simp at hb
 simp[nxS,ZEv,h2,h6,h9,hb]
theorem K5.sub(h:K5 s1 z2 z6 z9):s1.sub (nxS s1 x z2 z6 z9 sb dp):=fun b o hb=>h.gs hb
theorem K5.u9(dp':Int):(nxS s1 x z2 z6 z9 sb dp).upd z9 (.cells [.int .i64 dp'])=nxS s1 x z2 z6 z9 sb dp':=by
 unfold nxS;rw[ZEj]
theorem K5.u6(h:K5 s1 z2 z6 z9)(sb':Bool):(nxS s1 x z2 z6 z9 sb dp).upd z6 (.cells [.bool sb'])=nxS s1 x z2 z6 z9 sb' dp:=by
 unfold nxS;rw[St.upd_comm _ _ _ h.n9.1.symm,ZEj]
theorem K5.disj{sb':Bool}{dp':Int}{t:St}(h:Z6 (nxS s1 x z2 z6 z9 sb dp) t):Z6 (nxS s1 x z2 z6 z9 sb' dp') t:=fun c o hc=>by
 have:=h c o hc;unfold nxS at this⊢;have k9:=Zq this;have k6:=Zq k9.2;rw[ZD6 _ _ k9.1,ZD6 _ _ k6.1];exact k6.2
theorem K5.ub(h:K5 s1 z2 z6 z9){b:Nat}{o o':Z1}(hb:s1 b=sO o):(nxS s1 x z2 z6 z9 sb dp).upd b o'=nxS (s1.upd b o') x z2 z6 z9 sb dp:=by
 have h2:b≠z2:=fun e=>by rw[e,h.n2]at hb;simp at hb
 have h6:b≠z6:=fun e=>by rw[e,h.n6.2]at hb;simp at hb
 have h9:b≠z9:=fun e=>by rw[e,h.n9.2.2]at hb;simp at hb
 unfold nxS;rw[St.upd_comm _ _ _ h9,St.upd_comm _ _ _ h6,St.upd_comm _ _ _ h2]
theorem K5.of(h:K5 s1 z2 z6 z9){b:Nat}{o o':Z1}(hb:s1 b=sO o):K5 (s1.upd b o') z2 z6 z9:=by
 have h2:z2≠b:=fun e=>by rw[←e,h.n2]at hb;simp at hb
 have h6:z6≠b:=fun e=>by rw[←e,h.n6.2]at hb;simp at hb
 have h9:z9≠b:=fun e=>by rw[←e,h.n9.2.2]at hb;simp at hb
 exact⟨by rw[ZD6 _ _ h2];exact h.n2,⟨h.n6.1,by rw[ZD6 _ _ h6];exact h.n6.2⟩,⟨h.n9.1,h.n9.2.1,by rw[ZD6 _ _ h9];exact h.n9.2.2⟩⟩
end
theorem ZhI{dl:List (Str×Int)}{m:Msg}(h:∀s,0≤(Zr s dl).getD 0∧(Zr s dl).getD 0≤16):0≤W1 dl m∧W1 dl m≤16:=by
 unfold W1;have:∀(l:List Str) (b:Int),0≤b→b≤16→0≤l.foldl (fun a s=>max a ((Zr s dl).getD 0)) b∧l.foldl (fun a s=>max a ((Zr s dl).getD 0)) b≤16:=by
  intro l;induction l with
  |nil=>intro b h1 h2;exact⟨h1,h2⟩
  |cons s r ih =>intro b h1 h2;have:=h s;exact ih (max b ((Zr s dl).getD 0)) (by omega) (by omega)
 exact this _ 0 (by omega) (by omega)
theorem Zob{x bd bs:Nat}{k:Ck}{dl:List (Str×Int)}{sl:List (Str×Bool)}{st:St}(hst:KU st x bd bs k dl sl)(hdd:bd≠bs)(hdl:∀s,0≤(Zr s dl).getD 0∧(Zr s dl).getD 0≤16)(m:Msg):
  Za ZDW 236 [.ptr x 0,.agg m.cells] st (Zee (ZdC dl sl m) st x bd bs { k with field:=-1,m:=m } (Wl m.name (W1 dl m+1) dl) (Wl m.name (Q2 sl m) sl)):=by
 refine Zd (cR 236 f236) fun F hF=>?_;have hS:=ZdC.eq_1 dl sl m;have hx:=hst.x;have az:=hst.ne;refine rx @eQ3 ?_;refine rx (nd2 @eQ3 (nd2 @hx (nd2 @Ck.cells.eq_1 (nd2 @ZD4 (nd2 @ZEj (nd2 @Yo @Yp)))))) ?_;obtain⟨k1,aw⟩:∃k1:Ck,k1={ k with field:=-1,m:=m }:=⟨_,rfl⟩;have u:=hst.updX k1;have a4:(st.upd x (.cells [.str k.d.name,WI k.d.msgs,.str k.d.start,.map bd,.map bs,.int .i64 k.at_,.int .i64 (-1),.str m.name,Zm m.fields]))=st.upd x (.cells (k1.cells bd bs)):=by rw[aw];rfl
 rw[a4];rw[←aw]at hF;generalize ad:st.upd x (.cells (k1.cells bd bs))=S1 at *;have e1:=YR (vD:=W9) ZT m.name dl;have e3:=Y1 ZT m.name;simp only[show Ks m.name=D.str m.name from rfl]at e1 e3;have ag:∀d,ZdC dl sl m=false→Zc5 d→Zee (ZdC dl sl m) st x bd bs k1 (Wl m.name (W1 dl m+1) dl) (Wl m.name (Q2 sl m) sl) (.panic d) S1:=fun d h hd=>by rw[←ad];exact Zs0 h hd
 clear a4;refine rx @eQ3 ?_;refine clD (ZaB m.name) ?_;refine cVD (ZV u.x (YZ m.name) 1) ?_ ?_;rintro d S h;obtain⟨ab,rfl,rfl⟩:=YA h;rw[ab,ZEm]at hS;first|refine⟨by first|trivial|exact⟨rfl,trivial⟩,?_⟩|skip
 refine gR0 ?_;refine rh ?_;refine Y8 ?_;simp only[Eqs,reduceCtorEq,ZD2,reduceIte,ZD0,ZD3,ZD1,Msg.cells,u.x,u.bd,Ck.cells,e1,e3,Zly];refine rg ?_;refine cV (ZV u.x (!(Zr m.name dl).isSome) 2) ?_ ?_;rintro d S h;obtain⟨ab,rfl,rfl⟩:=YA h;rw[ab,ZEm]at hS;refine gR0 ?_;refine rx (nd2 @eQ3 (nd2 @Zm.eq_1 @eQ1)) ?_;refine cV (ZV u.x (dC (1≤(m.fields.length:Int))&&dC ((m.fields.length:Int)≤40)) 3) ?_ ?_;rintro d S h;obtain⟨ab,rfl,rfl⟩:=YA h;rw[ab,ZEm]at hS;simp only[ZD5,decide_eq_true_eq]at ab;refine gR0 ?_;refine rg ?_;refine rx (nd2 @eQ3 (nd2 @Zm.eq_1 @eQ1)) ?_;subst aw;refine Zc (fr (m.fields.length) (fun i Q=>∀fl:Int,Qh dl sl m i=true→i≤m.fields.length→Q [(2,.loc 2 0),(3,.loc 3 0),(6,.loc 6 0),(50,.d (Zm m.fields)),(51,.d (.int .i64 m.fields.length)),(52,.d (.int .i64 i))] [(2,[.ptr x 0]),(3,m.cells),(6,[.bool ((m.fields.take i).all fun f=>!f.loose)])] (st.upd x (.cells (({ k with field:=fl,m:=m }:Ck).cells bd bs)))) (fun n ak=>?_) fun bg=>?_);intro i hn fl am hi;refine rg ?_;refine Zb (Zu rfl trivial (fun h1=>?_) (fun h1=>?_));simp at h1;have hR:=Zpy am hi;have aq:=Zin (dl:=dl) (sl:=sl) (m:=m) (i:=i);have aj:=Zqp (p:=fun f:Fld=>!f.loose) h1;generalize hf:m.fields.getD i dE=f at *;refine xA (nd2 @Zm.eq_1 (nd2 @eQ1 (nd2 @eQ0 @hf))) ?_;refine rx (nd2 @eQ0 (nd2 @Ck.cells.eq_1 (nd2 @ZD4 (nd2 @ZEj (nd2 @Yo @Yp))))) ?_;have bk:=hst.updX ({ k with field:=(i:Int),m:=m }:Ck);refine rx @eQ0 ?_;simp only[Zda];refine cV (Zkj bk (n:=i) rfl hi f (hR _)) ?_ ?_;rintro d S2 h;obtain⟨ai,rfl,rfl⟩:=YA h;refine gR0 ?_;refine rx @eQ0 ?_;refine gA ?_;rw[show(m.fields.take i)=({ k with field:=(i:Int),m:=m }:Ck).m.fields.take i from rfl]at aq;rw[ai,Bool.and_true]at aq;refine Zg ?_;have ah:=ak ((m.fields.length)-(i+1)) (by omega) (i+1) rfl i (aq.trans am) (by omega);rw[aj]at ah;exact ah;rintro d S2 h;obtain⟨ai,ac,rfl⟩:=Yz h;rw[Zpx h1 (by rw[hf];exact ai),ZEu]at hS;exact hF.pan _ (ZDY _) (Zs0 hS ac);simp at h1;obtain rfl:i=m.fields.length:=by omega
 rw[ZEy];rw[am,ZEm]at hS;have au:=Zq0 am (by omega);refine rx (nd2 @Ck.cells.eq_1 (nd2 @ZD4 (nd2 @ZEj (nd2 @Yo @Yp)))) ?_;refine rg ?_;refine Zb (Zb ?_);refine xP 2 fun z2 h2=>?_;refine xP 6 fun z6 h6=>?_;refine xP 9 fun z9 h9=>?_;have k6:=Zq h6;have k9:=Zq h9;have ar:=Zq k9.2;have a3:(st.upd x (.cells [.str k.d.name,WI k.d.msgs,.str k.d.start,.map bd,.map bs,.int .i64 k.at_,.int .i64 (-1),.str m.name,Zm m.fields]))=S:=ad;rw[a3]at h2 k6 k9 ar⊢;have z:K5 S z2 z6 z9:=⟨h2,k6,⟨k9.1,ar⟩⟩;clear h6 h9 k6 k9 ar h2;have hlen:(W4 m).length≤1000000:=by have:=Zkf (m.fields.flatMap Ys) [];unfold W4;simp only[List.length_nil,Nat.zero_add]at this;omega
 have hmst:S.sub (nxS S x z2 z6 z9 (m.fields.all fun f=>!f.loose) 0):=z.sub;rw[show((S.upd z2 (.cells [.ptr x 0])).upd z6 (.cells [.bool (m.fields.all fun f=>!f.loose)])).upd z9 (.cells [.int .i64 0])=nxS S x z2 z6 z9 (m.fields.all fun f=>!f.loose) 0 from rfl];refine rx @eQ3 ?_;refine cV (ZlF m au _) ?_ ?_;rintro d S2 ⟨y,hy,hd,rfl⟩;cases hd;refine gR0 ?_;refine Zc ?_;have ba:ddS (m.fields.flatMap Ys)=W4 m:=rfl;have a8:=Zi2 (m.fields.flatMap Ys) (by unfold big;omega) y;rw[ba]at a8;refine Ka hF rfl trivial [2,6,9] (by show([2,6,9]:List Nat).Nodup;decide) (Wh hy) a8.Y (fun j hj=>rfl) (fun _=>.next)
  (fun j a=>a=nxS S x z2 z6 z9 ((m.fields.all fun f=>!f.loose)&&((W4 m).take j).all fun s=>(Zr s sl).getD false) (((W4 m).take j).foldl (fun a s=>max a ((Zr s dl).getD 0)) 0)) (by simp) ?_ ?_ ?_ ?_ ?_ ?_
 intro j a hj al hB F' ready busy hdr a0 ap;subst hB;simp only[Eqs,reduceCtorEq,ZD2,reduceIte,ZD0,ZD3,ZD1,Ws,WG,Qy,WU,List.isEmpty_nil,List.isEmpty_cons];refine rg ?_;refine a0 fun bh=>?_;have aj:=Zqp (p:=fun s:Str=>(Zr s sl).getD false) hj;have av:=Zt2 (f:=fun a s=>max a ((Zr s dl).getD 0)) (b:=(0:Int)) hj;generalize hnm:(W4 m).getD j dE=nm at *;have e1:=YR (vD:=W9) ZT nm dl;have e2:=YR (vD:=D.bool) ZT nm sl;have e3:=Y1 ZT nm;simp only[show Ks nm=D.str nm from rfl]at e1 e2 e3;rw[aj,av]at ap;generalize ((W4 m).take j).foldl (fun a s=>max a ((Zr s dl).getD 0)) 0=dp at *;generalize ((W4 m).take j).all (fun s=>(Zr s sl).getD false)=sb at *;generalize (m.fields.all fun f=>!f.loose)=lo at *;refine rh ?_;refine Y8 ?_;simp only[Eqs,reduceCtorEq,ZD2,reduceIte,ZD0,ZD3,ZD1,Zp (z.g2 ),Zp (K5.g9 ),Zp (z.gs u.x),Zp (z.gs u.bd),Ck.cells,e1,e3,ZjS,WD,K5.u9];refine rh ?_;refine Zl ?_;simp only[Eqs,reduceCtorEq,ZD2,reduceIte,ZD0,ZD3,ZD1,Zp (z.g2 ),Zp (z.g6 ),Zp (z.gs u.x),Zp (z.gs u.bs),Ck.cells,e2,e3,Zlx,WD,z.u6];refine Zj ?_;exact ap.fin ⟨rfl,by rw[←Bool.and_assoc]⟩ (K5.disj bh) (ZDY _);intro q a al hB hq;subst hB;rw[ZEy]at hq⊢;rw[KG hq];rw[show((m.fields.all fun f=>!f.loose)&&(W4 m).all fun s=>(Zr s sl).getD false)=Q2 sl m from rfl,show(W4 m).foldl (fun a s=>max a ((Zr s dl).getD 0)) 0=W1 dl m from rfl]at hq⊢;have hdp:=ZhI (m:=m) hdl;generalize Q2 sl m=sb at *;generalize W1 dl m=dp at *;have a9:=Zp (t:=ZEn q .dfr) (z.g2 (x:=x) (sb:=sb) (dp:=dp));have bj:=Zp (t:=ZEn q .dfr) (z.g6 (x:=x) (sb:=sb) (dp:=dp));have a7:=Zp (t:=ZEn q .dfr) (K5.g9 (s1:=S) (x:=x) (z2:=z2) (z6:=z6) (z9:=z9) (sb:=sb) (dp:=dp));have a5:=Zp (t:=ZEn q .dfr) (z.gs (x:=x) (sb:=sb) (dp:=dp) u.x);have bi:=Zp (t:=ZEn q .dfr) (z.gs (x:=x) (sb:=sb) (dp:=dp) u.bd);have bb:=Zp (t:=ZEn q .dfr) (z.gs (x:=x) (sb:=sb) (dp:=dp) u.bs);generalize hX:(nxS S x z2 z6 z9 sb dp).or (ZEn q .dfr)=X at *;have n2:∀b o,S b=sO o→z2≠b:=fun b o h e=>by rw[←e,z.n2]at h;simp at h
 have n6:∀b o,S b=sO o→z6≠b:=fun b o h e=>by rw[←e,z.n6.2]at h;simp at h
 have n9:∀b o,S b=sO o→z9≠b:=fun b o h e=>by rw[←e,z.n9.2.2]at h;simp at h
 have u2:∀(Y:St) o,(Y.upd bd o) z2=Y z2:=fun Y o=>ZD6 _ _ (n2 _ _ u.bd);have u6:∀(Y:St) o,(Y.upd bd o) z6=Y z6:=fun Y o=>ZD6 _ _ (n6 _ _ u.bd);have u9:∀(Y:St) o,(Y.upd bd o) z9=Y z9:=fun Y o=>ZD6 _ _ (n9 _ _ u.bd);have ux:∀(Y:St) o,(Y.upd bd o) x=Y x:=fun Y o=>ZD6 _ _ az.1;have us:∀(Y:St) o,(Y.upd bd o) bs=Y bs:=fun Y o=>ZD6 _ _ hdd.symm;have v2:∀(Y:St) o,(Y.upd bs o) z2=Y z2:=fun Y o=>ZD6 _ _ (n2 _ _ u.bs);have v6:∀(Y:St) o,(Y.upd bs o) z6=Y z6:=fun Y o=>ZD6 _ _ (n6 _ _ u.bs);have v9:∀(Y:St) o,(Y.upd bs o) z9=Y z9:=fun Y o=>ZD6 _ _ (n9 _ _ u.bs);have vx:∀(Y:St) o,(Y.upd bs o) x=Y x:=fun Y o=>ZD6 _ _ az.2;have d1:=ZoK (vD:=W9) ZT m.name (D.int .i64 0) dl;have d2:=ZbG (vD:=W9) ZT m.name (dp+1) dl;have s1:=ZoK (vD:=D.bool) ZT m.name (D.bool false) sl;have s2:=ZbG (vD:=D.bool) ZT m.name sb sl;simp only[show Ks m.name=D.str m.name from rfl,show W9 (dp+1)=D.int .i64 (dp+1) from rfl]at d1 d2 s1 s2;refine xA (nd2 @eQ3 (nd2 @a9 (nd2 @bj (nd2 @a7 (nd2 @a5 (nd2 @bi (nd2 @bb (nd2 @u2 (nd2 @u6 (nd2 @u9 (nd2 @ux (nd2 @us (nd2 @v2 (nd2 @v6 (nd2 @v9 (nd2 @vx (nd2 @d1 (nd2 @d2 (nd2 @s1 (nd2 @s2 (nd2 @e3 (nd2 @Ck.cells.eq_1 (nd2 @ZD4 (nd2 @ZEj (nd2 @Yo @Yp))))))))))))))))))))))))) ?_;refine rx (nd2 @u2 (nd2 @v2 (nd2 @a9 (nd2 @u9 (nd2 @v9 @a7))))) ?_;have ay:(X.upd bd (.map (KJ Ks W9 (Wl m.name (dp+1) dl)))).upd bs (.map (KJ Ks D.bool (Wl m.name sb sl)))=(nxS ((S.upd bd (.map (Q1 (Wl m.name (dp+1) dl)))).upd bs (.map (ZdM (Wl m.name sb sl)))) x z2 z6 z9 sb dp).or (ZEn q .dfr):=by rw[←hX,WD,WD,z.ub u.bd,(z.of u.bd).ub (by rw[us];exact u.bs)]
 have ao:K5 ((S.upd bd (.map (Q1 (Wl m.name (dp+1) dl)))).upd bs (.map (ZdM (Wl m.name sb sl)))) z2 z6 z9:=(z.of u.bd).of (by rw[us];exact u.bs);have a6:(nxS ((S.upd bd (.map (Q1 (Wl m.name (dp+1) dl)))).upd bs (.map (ZdM (Wl m.name sb sl)))) x z2 z6 z9 sb dp) q=nO:=by
  have be:q≠bs:=fun e=>by have:=z.gs (x:=x) (sb:=sb) (dp:=dp) u.bs;rw[←e,hq]at this;simp at this
  have bc:q≠bd:=fun e=>by have:=z.gs (x:=x) (sb:=sb) (dp:=dp) u.bd;rw[←e,hq]at this;simp at this
  rw[←(z.of u.bd).ub (by rw[us];exact u.bs),←z.ub u.bd,ZD6 _ _ be,ZD6 _ _ bc];exact hq
 have bf:((X.upd bd (.map (KJ Ks W9 (Wl m.name (dp+1) dl)))).upd bs (.map (KJ Ks D.bool (Wl m.name sb sl)))) x=sO (.cells (({ k with field:=-1,m:=m }:Ck).cells bd bs)):=by rw[vx,ux];exact a5
 refine cV (ZV bf (dC (dp<16)) 10) ?_ ?_;rintro d S3 h;obtain⟨af,rfl,rfl⟩:=YA h;rw[af]at hS;refine gR0 ?_;rw[ay];exact hF.fin1 a6 (.tup []) _ rfl trivial (ZDZ _) ao.sub (by rw[hS];exact⟨rfl,by rw[←ad]⟩);rintro d S3 h;obtain⟨af,ac,rfl⟩:=Yz h;rw[af]at hS;rw[ay];exact hF.pan1 a6 _ ao.sub (by rw[hS];exact⟨⟨d,ac,rfl⟩,fun b h1 h2 h3=>by rw[ZD6 _ _ h3,ZD6 _ _ h2,←ad,ZD6 _ _ h1]⟩);intro q a m hm al ae;simp at ae;intro q a m id hm al ae;simp at ae;intro q a m d hm al ae;simp at ae;intro m c ae;simp at ae;rintro d S2 ⟨y,hy,hd,_⟩;cases hd;have ax:=bg _ 0 rfl (-1) (by simp[Qh]) (by omega);rw[ad]at ax;exact ax;rintro d S h;obtain⟨ab,ac,rfl⟩:=Yz h;rw[ab,ZEu]at hS;exact hF.pan _ (ZDY _) (ag _ hS ac);rintro d S h;obtain⟨ab,ac,rfl⟩:=Yz h;rw[ab,ZEu]at hS;exact hF.pan _ (ZDY _) (ag _ hS ac);rintro d S h;obtain⟨ab,ac,rfl⟩:=Yz h;rw[ab,ZEu]at hS;exact hF.pan _ (ZDY _) (ag _ hS ac)
end Go.DL
