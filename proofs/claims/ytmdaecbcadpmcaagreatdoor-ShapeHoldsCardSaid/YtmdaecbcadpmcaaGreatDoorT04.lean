/- Lemmas: S22, S23, A04, A05, U03, U04, U05, W04, W05, W06, W07, W08, W09, W10, W11, W12, X01, X03, W13, SLay3, W14, W15, W16, W17, W18, W19, W20, W21, W22, W23, W24, W25, W26, W27, W28, W29, W30, W31, W33, W34, W35, W36, W37, X04, X05, X06, W38, W39, W40, W41, W42. -/
import Derived.Test.YtmdaecbcadpmcaaGreatDoorT03
set_option maxHeartbeats 16000000
set_option maxRecDepth 100000
set_option linter.all false
open Option renaming some → sO, none → nO
open Inhabited renaming default → dE
open Decidable renaming decide → dC
open Go.Proofs.Tryz
open And renaming intro → ZDX
open Bool renaming and_eq_false_iff → ZEF, and_eq_true → ZD5, false_and → ZEu, false_eq_true → ZEq, or_eq_true → ZEk, true_and → ZEm
open Go.DL.D.Le renaming refl → ZDZ
open Go.DL.St renaming single → ZEn, sub_refl → ZDY, sub_trans → ZED, sub_upd → ZEl, upd → ZEv, upd_ne → ZD6, upd_same → ZD4, upd_upd → ZEj
open Go.DL.Val renaming cells_eq → ZEg
open Go.Proofs.Tryz renaming prog → ZDW
open Int renaming reduceToNat → ZD2
open List renaming append_assoc → ZEA, append_nil → ZEw, drop_eq_nil_of_le → ZEE, getD → ZEb, getElem?_append_left → ZEt, getElem?_append_right → ZEH, getElem?_eq_getElem → ZEr, getElem?_eq_none → ZEG, getElem_of_mem → ZEe, length_append → ZD8, length_cons → ZEf, length_drop → ZEx, length_take → ZEh, mem_cons → ZEz, range → ZEa, take_length → ZEy
open Nat renaming le_refl → ZEd, reduceAdd → ZD3, reduceEqDiff → ZD0, reduceLeDiff → ZD1
open Option renaming getD_some → ZEB
open Option.some renaming injEq → ZDV
namespace Go.DL
open Go Go.Proofs
variable {kp:Option (List Nat)}{L:Loc}{ρ:Env}{s:St}{w:World}{os:List DOp}{ds:List D}{B:List (Nat × Rd)}{dst:Option Nat}{tmps:Array Value}{g:G}{Φ:Res→St→Prop}{ν:Nat→Nat}{xs:List Opd}{side:Prop}{row:Nat→List D}
theorem ZoD{P:Program}{F:Fr P}{d:D}(h:DWf d→YV F ρ L d s):YV F ρ L d s :=
 fun g ν w v i tmps hN m hr=>h hr.wf g ν w v i tmps hN m hr
theorem DWf.iface_inv{t:TypeId}{d:D}(h:DWf (.iface t d)):DWf d:=by
 cases h with
 |iface _ _ h=>exact h
 |other _ h=>exact absurd h (by simp)
theorem Zbc{P:Program}{i:FuncId}{args:List D}{m:Option D}{Ψ Ψ':Bool→St→Prop}(h:Ju P i args m s Ψ)(hi:∀b S,Ψ b S→Ψ' b S):Ju P i args m s Ψ' :=
 ⟨h.1,fun g w vs cf cs h1 h2 h3=>by
  obtain⟨g',w',s',b,a1,a2,a3,a4⟩:=h.2 g w vs cf cs h1 h2 h3;exact⟨g',w',s',b,a1,a2,hi _ _ a3,a4⟩⟩
theorem Zf4{z3 z4:Nat}{c:Z1}{b:Bool}{st:St}(h3:st z3=sO c)(h4:st z4=sO (.cells [.bool b])):
  Ju ZDW 234 [.ptr z3 0,.ptr z4 0] nO st fun _ S=>S=st:=by
 refine ZbI (cR 234 f234) rfl (by simp) fun F hF=>?_;refine rg ?_;refine ZfC hF rfl rfl ?_;refine gR0 ?_;refine rg ?_;refine cd (fun h=>?_) (fun h=>?_);simp at h;refine Zy ?_;exact hF.fin (ZDY _) rfl
theorem Zf5{z3 z4:Nat}{b:Bool}{st:St}(hz:z3≠z4)(x y z:Int)(hx:inR .i64 x)(hy:inR .i64 y)(hw:inR .i64 z)(h3:st z3=sO (.cells [.int .i64 0,.int .i64 0,.int .i64 0]))(h4:st z4=sO (.cells [.bool b])):
  Ju ZDW 234 [.ptr z3 0,.ptr z4 0] (sO (Zg3 x y z)) st fun b S=>b=true∧S=(st.upd z3 (.cells [.int .i64 x,.int .i64 y,.int .i64 z])).upd z4 (.cells [.bool true]):=by
 refine ZbI (cR 234 f234) rfl (by rintro d ⟨⟩;exact⟨hx,hy,hw,trivial⟩) fun F hF=>?_;have i:∀o,(st.upd z3 o) z4=sO (.cells [.bool b]):=fun o=>by rw[ZD6 _ _ (Ne.symm hz)];exact h4
 refine rg ?_;refine ZlW hF rfl rfl fun F2 j=>?_;refine gR0 ?_;refine rx @Zg3.eq_1 ?_;refine cd (fun h=>?_) (fun h=>?_);refine rx (nd2 @Zg3.eq_1 (nd2 @h3 (nd2 @h4 (nd2 @i (nd2 @ZD4 (nd2 @ZEj (nd2 @Yo @Yp))))))) ?_;refine rx (nd2 @h4 (nd2 @i (nd2 @ZD4 (nd2 @ZEj (nd2 @Yo @Yp))))) ?_;refine cd (fun h5=>?_) (fun h5=>?_);simp at h5;refine Zy ?_;exact j.fin (ZDY _) ⟨rfl,rfl⟩;simp[Zg3]at h
def Zcc(dl:List (Str×Int))(sl:List (Str×Bool)):List Msg→Option (List (Str×Int)×List (Str×Bool))
 | []=>sO (dl,sl)
 |m::r=>if ZdC dl sl m then Zcc (Wl m.name (W1 dl m+1) dl) (Wl m.name (Q2 sl m) sl) r else nO
def Zdg(d:Dfn):Bool :=
 YZ d.name&&((dC (1≤(d.msgs.length:Int))&&dC ((d.msgs.length:Int)≤60))&&(Zcc [] [] d.msgs).elim false fun p=>(Zr d.start p.1).isSome)
theorem ZkR(dl:List (Str×Int))(sl:List (Str×Bool))(l l':List Msg):Zcc dl sl (l++l')=(Zcc dl sl l).elim nO fun p=>Zcc p.1 p.2 l':=by
 induction l generalizing dl sl with
 |nil=>rfl
 |cons m r ih =>simp only[List.cons_append,Zcc];split;exact ih _ _;rfl
theorem Zpf{l:List Msg}{i:Nat}{dl:List (Str×Int)}{sl:List (Str×Bool)}(h:Zcc [] [] (l.take i)=sO (dl,sl))(hi:i<l.length):Zcc [] [] (l.take (i+1))=if ZdC dl sl (l.getD i dE) then sO (Wl (l.getD i dE).name (W1 dl (l.getD i dE)+1) dl,Wl (l.getD i dE).name (Q2 sl (l.getD i dE)) sl) else nO:=by
 rw[YJ hi,ZkR,h];rfl
theorem ZxK{l:List Msg}{i:Nat}{dl:List (Str×Int)}{sl:List (Str×Bool)}(h:Zcc [] [] (l.take i)=sO (dl,sl))(hi:i<l.length)(hb:ZdC dl sl (l.getD i dE)=false):Zcc [] [] l=nO:=by
 have h1:=Zpf h hi;rw[hb]at h1;rw[←List.take_append_drop (i+1) l,ZkR,h1];rfl
structure ZaX(S st:St)(x bd bs z3 z4:Nat)(k:Ck)(dl:List (Str×Int))(sl:List (Str×Bool)):Prop where
 ck:KU S x bd bs k dl sl
 c3:S z3=some (.cells [.int .i64 0,.int .i64 0,.int .i64 0])
 c4:S z4=some (.cells [.bool false])
 sub:st.sub S
 fx:st x=none
 fd:st bd=none
 fs:st bs=none
 f3:st z3=none
 f4:st z4=none
 nd:bd≠bs
 n34:z3≠z4
section
variable {S st:St} {x bd bs z3 z4:Nat} {k:Ck} {dl:List (Str × Int)} {sl:List (Str × Bool)}
theorem ZaX.n3(h:ZaX S st x bd bs z3 z4 k dl sl):z3≠x∧z3≠bd∧z3≠bs:=by
 refine⟨fun e=>?_,fun e=>?_,fun e=>?_⟩;have h3:=h.c3;rw[e,h.ck.x]at h3;simp[Ck.cells]at h3;have h3:=h.c3;rw[e,h.ck.bd]at h3;simp at h3;have h3:=h.c3;rw[e,h.ck.bs]at h3;simp at h3
theorem ZaX.n4(h:ZaX S st x bd bs z3 z4 k dl sl):z4≠x∧z4≠bd∧z4≠bs:=by
 refine⟨fun e=>?_,fun e=>?_,fun e=>?_⟩;have h3:=h.c4;rw[e,h.ck.x]at h3;simp[Ck.cells]at h3;have h3:=h.c4;rw[e,h.ck.bd]at h3;simp at h3;have h3:=h.c4;rw[e,h.ck.bs]at h3;simp at h3
theorem ZaX.move(h:ZaX S st x bd bs z3 z4 k dl sl){S':St}{k':Ck}{dl':List (Str×Int)}{sl':List (Str×Bool)}(hc:KU S' x bd bs k' dl' sl')(ho:∀b,b≠x→b≠bd→b≠bs→S' b=S b):ZaX S' st x bd bs z3 z4 k' dl' sl':={
 ck:=hc
 c3:=by rw[ho _ h.n3.1 h.n3.2.1 h.n3.2.2];exact h.c3
 c4:=by rw[ho _ h.n4.1 h.n4.2.1 h.n4.2.2];exact h.c4
 sub b o hb:=by rw[ho b (fun e=>by rw[e,h.fx]at hb;simp at hb) (fun e=>by rw[e,h.fd]at hb;simp at hb) (fun e=>by rw[e,h.fs]at hb;simp at hb)];exact h.sub b o hb
 fx:=h.fx
 fd:=h.fd
 fs:=h.fs
 f3:=h.f3
 f4:=h.f4
 nd:=h.nd
 n34:=h.n34 }
theorem ZaX.updX(h:ZaX S st x bd bs z3 z4 k dl sl)(k':Ck):ZaX (S.upd x (.cells (k'.cells bd bs))) st x bd bs z3 z4 k' dl sl :=
 h.move (h.ck.updX k') fun b h1 _ _=>ZD6 _ _ h1
theorem ZaX.bad(h:ZaX S st x bd bs z3 z4 k dl sl){S':St}(ho:∀b,b≠x→b≠bd→b≠bs→S' b=S b){F:Fr ZDW}(hF:YK F [.tmp 2,.cellN 3 3,.cell1 4] (fun r S=>S=st∧∃a f c,r=Res.ret (.tup [.any,.agg [.int .i64 a,.int .i64 f,.int .i64 c],.bool true])) [.fn 234 [] [.ptr z3 0,.ptr z4 0]]){d:D}(hd:Zc5 d)(hr:∀s' c3,s' z3=sO (.cells c3)→c3.length=3→s' z4=sO (.cells [.bool true])→∃p,Yt ρ L s' [.tmp 2,.cellN 3 3,.cell1 4]=sO (p,[.ptr x 0,.agg c3,.bool true])∧p):YV F ρ L d S':=by
 obtain⟨a,f,c,rfl⟩:=hd;refine ZoD fun hw=>?_;have i:=DWf.agg_inv (DWf.iface_inv hw);have h1:inR .i64 a:=(i _ (by simp)).int_inv;have h2:inR .i64 f:=(i _ (by simp)).int_inv;have h3:inR .i64 c:=(i _ (by simp)).int_inv;have j:S' z3=sO (.cells [.int .i64 0,.int .i64 0,.int .i64 0]):=by rw[ho _ h.n3.1 h.n3.2.1 h.n3.2.2];exact h.c3
 have u:S' z4=sO (.cells [.bool false]):=by rw[ho _ h.n4.1 h.n4.2.1 h.n4.2.2];exact h.c4
 refine hF.panU ⟨trivial,⟨rfl,rfl,trivial⟩,Zbc (Zf5 h.n34 a f c h1 h2 h3 j u) ?_⟩;rintro b S2 ⟨rfl,rfl⟩;obtain⟨p,n,t⟩:=hr ((S'.upd z3 (.cells [.int .i64 a,.int .i64 f,.int .i64 c])).upd z4 (.cells [.bool true])) [.int .i64 a,.int .i64 f,.int .i64 c] (by rw[ZD6 _ _ h.n34,ZD4]) rfl (ZD4 _ _ _);refine⟨p,_,_,st,n,t,?_,?_,rfl,a,f,c,rfl⟩;exact ZnG rfl (.cons (fun _ _ v _=>.any v) (LeC.refl _));intro b o hb;have e1:b≠z3:=fun e=>by rw[e,h.f3]at hb;simp at hb
 have e2:b≠z4:=fun e=>by rw[e,h.f4]at hb;simp at hb
 rw[ZD6 _ _ e2,ZD6 _ _ e1];rw[ho b (fun e=>by rw[e,h.fx]at hb;simp at hb) (fun e=>by rw[e,h.fd]at hb;simp at hb) (fun e=>by rw[e,h.fs]at hb;simp at hb)];exact h.sub b o hb
end
theorem ZaX.mk0{st:St}{bd bs x z3 z4:Nat}{c:List D}(hbd:st bd=nO)(hbs:st.upd bd (.map []) bs=nO)(hx:(st.upd bd (.map [])).upd bs (.map []) x=nO)(h3:((st.upd bd (.map [])).upd bs (.map [])).upd x (.cells c) z3=nO)(h4:(((st.upd bd (.map [])).upd bs (.map [])).upd x (.cells c)).upd z3 (.cells [.int .i64 0,.int .i64 0,.int .i64 0]) z4=nO)(k:Ck):
  ((((st.upd bd (.map [])).upd bs (.map [])).upd x (.cells c)).upd z3 (.cells [.int .i64 0,.int .i64 0,.int .i64 0])).upd z4 (.cells [.bool false]) x=sO (.cells c) ∧
  ZaX ((((((st.upd bd (.map [])).upd bs (.map [])).upd x (.cells c)).upd z3 (.cells [.int .i64 0,.int .i64 0,.int .i64 0])).upd z4 (.cells [.bool false])).upd x (.cells (k.cells bd bs))) st x bd bs z3 z4 k [] []:=by
 have a4:=Zq h4;have b4:=Zq a4.2;have c4:=Zq b4.2;have d4:=Zq c4.2;have a3:=Zq h3;have b3:=Zq a3.2;have c3:=Zq b3.2;have ax:=Zq hx;have bx:=Zq ax.2;have i:=Zq hbs;refine⟨?_,⟨⟨?_,?_,?_⟩,?_,?_,?_,?_,?_,?_,?_,?_,?_,?_⟩⟩;rw[ZD6 _ _ b4.1.symm,ZD6 _ _ a3.1.symm,ZD4];exact ZD4 _ _ _;rw[ZD6 _ _ bx.1.symm,ZD6 _ _ d4.1.symm,ZD6 _ _ c3.1.symm,ZD6 _ _ bx.1.symm,ZD6 _ _ i.1.symm,ZD4];rfl;rw[ZD6 _ _ ax.1.symm,ZD6 _ _ c4.1.symm,ZD6 _ _ b3.1.symm,ZD6 _ _ ax.1.symm,ZD4];rfl;rw[ZD6 _ _ a3.1,ZD6 _ _ a4.1.symm,ZD4];rw[ZD6 _ _ b4.1,ZD4];intro b o hb;have e:∀y,st y=nO→b≠y:=fun y hy e=>by rw[e,hy]at hb;simp at hb
 rw[ZD6 _ _ (e _ bx.2),ZD6 _ _ (e _ d4.2),ZD6 _ _ (e _ c3.2),ZD6 _ _ (e _ bx.2),ZD6 _ _ (e _ i.2),ZD6 _ _ (e _ hbd)];exact hb;exact bx.2;exact hbd;exact i.2;exact c3.2;exact d4.2;exact i.1.symm;exact a4.1.symm
theorem Zug{c:List D}(h:c.length=3):∃a b d,c=[a,b,d]:=by
 match c,h with
 | [a,b,d],_=>exact⟨a,b,d,rfl⟩
theorem Zi3(d:Dfn)(st:St):
  Za ZDW 187 [.agg d.cells] st fun r S=>S=st∧∃a f c,r=.ret (.tup [.any,.agg [.int .i64 a,.int .i64 f,.int .i64 c],.bool (!Zdg d)]):=by
 refine Zd (cR 187 f187) fun F hF=>?_;have hS:=Zdg.eq_1 d;refine rx @eQ2 ?_;refine rx @eQ2 ?_;intro bd ah bs ak;refine Zb ?_;refine xP 13 fun x hx=>?_;refine xP 3 fun z3 h3=>?_;refine xP 4 fun z4 h4=>?_;refine rg ?_;refine Zk2 (by obtain⟨_,_,_,_,_,_,rfl⟩:=hF;rfl) rfl rfl rfl rfl rfl rfl trivial trivial ?_ ?_ ?_;trivial;exact⟨rfl,rfl,trivial⟩;have z:=hF.defer 234 [] [.ptr z3 0,.ptr z4 0];clear hF;refine gR0 ?_;generalize F.defer 234 [] [.ptr z3 0,.ptr z4 0]=F at z⊢;obtain⟨ao,u⟩:=ZaX.mk0 ah ak hx h3 h4 ⟨d,-1,-1,⟨[],[]⟩⟩;refine JU ao (ds':=Ck.cells ⟨d,-1,-1,⟨[],[]⟩⟩ bd bs) (.cons (ZDZ _) (.cons (ZDZ _) (.cons (ZDZ _) (.cons (ZDZ _) (.cons (ZDZ _) (.cons (ZDZ _) (.cons (ZDZ _) (.cons (ZDZ _) (.cons (Kk fun b h=>by cases h) .nil))))))))) ?_;generalize (ZEv (ZEv (ZEv (ZEv (ZEv (ZEv st _ _) _ _) _ _) _ _) _ _) _ _)=S at *;clear ah ak hx h3 h4 ao;refine rx @eQ2 ?_;refine cl (ZaB d.name) ?_;refine cV (ZV u.ck.x (YZ d.name) 1) ?_ ?_;rintro dd S2 h;obtain⟨t,rfl,rfl⟩:=YA h;rw[t,ZEm]at hS;refine gR0 ?_;refine rx (nd2 @eQ2 (nd2 @WI.eq_1 @eQ1)) ?_;refine cV (ZV u.ck.x (dC (1≤(d.msgs.length:Int))&&dC ((d.msgs.length:Int)≤60)) 3) ?_ ?_;rintro dd S2 h;obtain⟨t,rfl,rfl⟩:=YA h;rw[t,ZEm]at hS;simp only[ZD5,decide_eq_true_eq]at t;have hlen:=t.2;refine gR0 ?_;refine rx (nd2 @eQ2 (nd2 @WI.eq_1 @eQ1)) ?_;generalize ag:(⟨d,-1,-1,⟨[],[]⟩⟩:Ck)=k0 at *;have aw:k0.d=d:=by rw[←ag]
 clear ag;refine Zc (fr (d.msgs.length) (fun i Q=>∀(S:St) (k:Ck) dl sl,ZaX S st x bd bs z3 z4 k dl sl→k.d=d→Zcc [] [] (d.msgs.take i)=sO (dl,sl)→(∀s,0≤(Zr s dl).getD 0∧(Zr s dl).getD 0≤16)→i≤d.msgs.length→Q [(1,.loc 1 0),(2,.d (.ptr x 0)),(3,.d (.ptr z3 0)),(4,.d (.ptr z4 0)),(33,.d (WI d.msgs)),(34,.d (.int .i64 d.msgs.length)),(35,.d (.int .i64 i))] [(1,d.cells)] S) (fun n ae=>?_) fun au=>?_);intro i hni S k dl sl u ax ac af hi;refine rg ?_;refine Zb (Zu rfl trivial (fun h1=>?_) (fun h1=>?_));simp at h1;refine xA (nd2 @WI.eq_1 (nd2 @eQ1 @eQ3)) ?_;refine rx (nd2 @u.ck.x (nd2 @Ck.cells.eq_1 (nd2 @ZD4 (nd2 @ZEj (nd2 @Yo @Yp))))) ?_;have ad:(S.upd x (.cells [.str k.d.name,WI k.d.msgs,.str k.d.start,.map bd,.map bs,.int .i64 i,.int .i64 k.field,.str k.m.name,Zm k.m.fields]))=S.upd x (.cells (({ k with at_:=i }:Ck).cells bd bs)):=rfl;rw[ad];have j:=u.updX { k with at_:=i };generalize S.upd x (.cells (({ k with at_:=i }:Ck).cells bd bs))=S1 at *;have aj:({ k with at_:=(i:Int) }:Ck).d=d:=ax;clear ad u;generalize ({ k with at_:=i }:Ck)=k1 at *;have al:=Zpf ac h1;have av:=ZxK ac h1;generalize hm:d.msgs.getD i dE=m at *;refine rx @hm ?_;rw[show(D.agg [.str m.name,Zm m.fields])=.agg m.cells from rfl];refine cV (Zob j.ck j.nd af m) ?_ ?_;rintro dd S2 h;unfold Zee at h;split at h;rename_i t;rw[if_pos t]at al;obtain⟨h4,h5⟩:=h;cases h4;have ai:=j.move (S':=S2) (k':={ k1 with field:=-1,m:=m }) (dl':=Wl m.name (W1 dl m+1) dl) (sl':=Wl m.name (Q2 sl m) sl) (by
   subst h5;have am:=j.ck.ne;exact⟨by rw[ZD6 _ _ am.2,ZD6 _ _ am.1,ZD4],by rw[ZD6 _ _ j.nd,ZD4],ZD4 _ _ _⟩) (fun b h1 h2 h3=>by rw[h5,ZD6 _ _ h3,ZD6 _ _ h2,ZD6 _ _ h1])
 have aq:∀s,0≤(Zr s (Wl m.name (W1 dl m+1) dl)).getD 0∧(Zr s (Wl m.name (W1 dl m+1) dl)).getD 0≤16:=fun s=>by
  rw[KV];split;have hd16:=ZhI (m:=m) af;have:W1 dl m<16:=by unfold ZdC at t;simp only[ZD5,decide_eq_true_eq]at t;exact t.2.2.2.2
  simp only[ZEB];omega;exact af s
 clear h5;refine gR0 ?_;refine gA ?_;refine Zg ?_;exact ae ((d.msgs.length)-(i+1)) (by omega) (i+1) rfl _ _ _ _ ai aj al aq (by omega);exact absurd h.1 (by simp);rintro dd S2 h;unfold Zee at h;split at h;exact absurd h.1 (by simp);rename_i ap;obtain⟨⟨d2,ab,h4⟩,h5⟩:=h;cases h4;have hb:ZdC dl sl m=false:=by simpa using ap
 rw[av hb]at hS;exact j.bad h5 (by rw[hS]at z;exact z) ab (fun s' c3 h1 h2 h3=>by obtain⟨u1,u2,u3,rfl⟩:=Zug h2;refine⟨_,by simp only[Eqs,reduceCtorEq,ZD2,reduceIte,ZD0,ZD3,ZD1,Yt,WV,h1,h3];rfl,?_⟩;trivial);simp at h1;obtain rfl:i=d.msgs.length:=by omega
 rw[ZEy]at ac;rw[ac]at hS;simp only[Option.elim]at hS;refine rx (nd2 @u.ck.x (nd2 @Ck.cells.eq_1 (nd2 @ZD4 (nd2 @ZEj (nd2 @Yo @Yp))))) ?_;have ad:(S.upd x (.cells [.str k.d.name,WI k.d.msgs,.str k.d.start,.map bd,.map bs,.int .i64 (-1),.int .i64 k.field,.str k.m.name,Zm k.m.fields]))=S.upd x (.cells (({ k with at_:=-1 }:Ck).cells bd bs)):=rfl;rw[ad];have j:=u.updX { k with at_:=-1 };generalize S.upd x (.cells (({ k with at_:=-1 }:Ck).cells bd bs))=S1 at *;clear ad u;generalize ({ k with at_:=-1 }:Ck)=k1 at *;have e1:=YR (vD:=W9) ZT d.start dl;have e3:=Y1 ZT d.start;simp only[show Ks d.start=D.str d.start from rfl]at e1 e3;refine rh ?_;refine Y8 ?_;simp only[Eqs,reduceCtorEq,ZD2,reduceIte,ZD0,ZD3,ZD1,Dfn.cells,j.ck.x,j.ck.bd,Ck.cells,e1,e3,Zly];refine rg ?_;refine cV (ZV j.ck.x (Zr d.start dl).isSome 11) ?_ ?_;rintro dd S2 h;obtain⟨t,rfl,rfl⟩:=YA h;rw[t]at hS;refine gR0 ?_;have ar:∀o,(S2.upd z3 o) z4=sO (.cells [.bool false]):=fun o=>by rw[ZD6 _ _ j.n34.symm];exact j.c4
 refine rx (nd2 @j.c3 (nd2 @j.c4 (nd2 @ar (nd2 @ZD4 (nd2 @ZEj (nd2 @Yo @Yp)))))) ?_;refine z.retU ⟨trivial,⟨rfl,rfl,trivial⟩,Zbc (Zf4 (by rw[ZD6 _ _ j.n34,ZD4]) (ZD4 _ _ _)) ?_⟩;rintro b S3 rfl;rw[ite_self];have g3:((S2.upd z3 (.cells [.int .i64 0,.int .i64 0,.int .i64 0])).upd z4 (.cells [.bool false])) z3=sO (.cells [.int .i64 0,.int .i64 0,.int .i64 0]):=by rw[ZD6 _ _ j.n34,ZD4]
 have g4:((S2.upd z3 (.cells [.int .i64 0,.int .i64 0,.int .i64 0])).upd z4 (.cells [.bool false])) z4=sO (.cells [.bool false]):=ZD4 _ _ _;refine⟨_,[.ptr x 0,.agg [.int .i64 0,.int .i64 0,.int .i64 0],.bool false],.tup [.any,.agg [.int .i64 0,.int .i64 0,.int .i64 0],.bool false],st,by simp only[Eqs,reduceCtorEq,ZD2,reduceIte,ZD0,ZD3,ZD1,Yt,WV,g3,g4];rfl,by trivial,?_,?_,rfl,0,0,0,by rw[hS];rfl⟩;exact ZnG rfl (.cons (fun _ _ v _=>.any v) (LeC.refl _));intro b o hb;have e1:b≠z3:=fun e=>by rw[e,j.f3]at hb;simp at hb
 have e2:b≠z4:=fun e=>by rw[e,j.f4]at hb;simp at hb
 rw[ZD6 _ _ e2,ZD6 _ _ e1];exact j.sub b o hb;rintro dd S2 h;obtain⟨t,ab,rfl⟩:=Yz h;rw[t]at hS;exact j.bad (fun _ _ _ _=>rfl) (by rw[hS]at z;exact z) ab (fun s' c3 h1 h2 h3=>by obtain⟨u1,u2,u3,rfl⟩:=Zug h2;refine⟨_,by simp only[Eqs,reduceCtorEq,ZD2,reduceIte,ZD0,ZD3,ZD1,Yt,WV,h1,h3];rfl,?_⟩;trivial);exact au _ 0 rfl _ k0 [] [] u aw rfl (by simp[Zr]) (by omega);rintro dd S2 h;obtain⟨t,ab,rfl⟩:=Yz h;rw[t,ZEu]at hS;exact u.bad (fun _ _ _ _=>rfl) (by rw[hS]at z;exact z) ab (fun s' c3 h1 h2 h3=>by obtain⟨u1,u2,u3,rfl⟩:=Zug h2;refine⟨_,by simp only[Eqs,reduceCtorEq,ZD2,reduceIte,ZD0,ZD3,ZD1,Yt,WV,h1,h3];rfl,?_⟩;trivial);rintro dd S2 h;obtain⟨t,ab,rfl⟩:=Yz h;rw[t,ZEu]at hS;exact u.bad (fun _ _ _ _=>rfl) (by rw[hS]at z;exact z) ab (fun s' c3 h1 h2 h3=>by obtain⟨u1,u2,u3,rfl⟩:=Zug h2;refine⟨_,by simp only[Eqs,reduceCtorEq,ZD2,reduceIte,ZD0,ZD3,ZD1,Yt,WV,h1,h3];rfl,?_⟩;trivial)
theorem Zm2(d:Dfn)(st:St):
  Za ZDW 144 [.agg d.cells] st fun r S=>S=st∧∃a f c,r=.ret (.tup [.agg [.int .i64 a,.int .i64 f,.int .i64 c],.bool (!Zdg d)]):=by
 refine Zd (cR 144 f144) fun F hF=>?_;refine rx @eQ2 ?_;refine rx @eQ2 ?_;rw[show(D.agg [.str d.name,WI d.msgs,.str d.start])=.agg d.cells from rfl];refine cV (Zi3 d st) ?_ ?_;rintro dd S2 ⟨rfl,a,f,c,h⟩;cases h;refine gR0 ?_;refine rg ?_;exact hF.ret _ S2 rfl (by simp) (ZDZ _) (ZDY _) ⟨rfl,a,f,c,rfl⟩;rintro dd S2 ⟨_,a,f,c,h⟩;cases h
theorem ZtQ{f:Fld}(hk:QM f=true):dC (Zen f=Zd9 f.name f.kind)=Zkd f:=by
 unfold QM at hk;simp only[ZD5,decide_eq_true_eq]at hk;have i:f.kind=1∨f.kind=2∨f.kind=3∨f.kind=4∨f.kind=5∨f.kind=6∨f.kind=7∨f.kind=8∨f.kind=9∨f.kind=10∨f.kind=11∨f.kind=12:=by omega
 obtain⟨name,kind,bits,little,loose,low,high,size,of,tag,from_,cases_,check,key⟩:=f;obtain⟨base,terms⟩:=size;simp only at i;clear hk;rw[Bool.eq_iff_iff];rcases i with h|h|h|h|h|h|h|h|h|h|h|h<;>subst h<;>simp[Zen,ZqG,ZqH,ZqI,Zl9,ZqJ,ZqK,Zma,ZqL,Zmb,ZnR,ZnS,ZjL,Zd9,Zkd,zrA,zrB,zrC,Znt,ZuY,ZbY]<;>(try(constructor<;>(intro h;simp_all)))<;>(try(intro _;simp only[and_assoc]))
theorem Zot(lo hi a b:Int):Yq lo hi [a,b]=!(dC (a<lo) ||(dC (b<a) ||decide (hi<b))):=by
 rw[Bool.eq_iff_iff];simp[Yq];omega
theorem Zyc(f:Fld):ZcQ f=!Zd5 f:=by
 rw[Bool.eq_iff_iff];unfold ZcQ Zd5;cases f.little<;>simp;by_cases h0:0≤f.bits;rw[Int.tmod_eq_emod_of_nonneg h0];omega;omega
theorem ZkB{α:Type}{p:α→Bool}{l:List α}{x:α}:Zi p (l++[x])=if 0≤Zi p l then Zi p l else if p x then l.length else -1:=by
 induction l with
 |nil=>simp[Zi]
 |cons y r ih =>have h1:=Zar p r;simp only[List.cons_append,Zi,ih,ZEf];split;simp;by_cases h:0≤Zi p r;simp[h,show ¬Zi p r<0 by omega,show 0≤Zi p r+1 by omega];simp only[h,if_false,show Zi p r<0 by omega,if_true];by_cases hx:p x=true;simp[hx,show ¬((r.length:Int)<0) by omega];simp[hx]
def Zh3(fs:List Fld)(n:Nat):Prop:=∀i,i<n→Zi (fun x=>dC (x.name=(fs.getD i dE).name)) (fs.take i)<0
theorem Zac{α:Type}(p:α→Bool)(l:List α)(h:0≤Zi p l):(Zi p l).toNat<l.length:=by
 have:=Wv p l;omega
theorem ZrG{fs:List Fld}{n:Nat}(hn:n≤fs.length)(hd:Zh3 fs n)(k:Str):Zr k (Jj fs n)=Wu (fs.take n) k:=by
 induction n with
 |zero=>simp[Jj,Zr,Wu,Zi]
 |succ n ih =>
  have ih:=ih (by omega) fun i hi=>hd i (by omega);have t:=hd n (by omega);rw[YJ (show n<fs.length by omega)];have j:(fs.take n).length=n:=by simp;omega
  simp only[Jj];generalize fs.getD n dE=f at *;unfold Wu;rw[ZkB];by_cases hk:f.name=k;rw[hk]at t;rw[if_neg (show ¬0≤Zi (fun f=>dC (f.name=k)) (fs.take n) by omega)];simp only[hk,decide_true,if_true,j,show ¬((n:Int)<0) by omega,if_false];have hg:(fs.take n++[f]).getD ((n:Int)).toNat dE=f:=by simp[ZEb,List.getElem?_append,j]
  rw[hg];split;rw[KV,if_pos rfl];rw[ih];unfold Wu;rw[if_pos t];have u:¬k=f.name:=fun h=>hk h.symm;have h0:Zr k (if YF f=true then Wl f.name (Kn f) (Jj fs n) else Jj fs n)=Zr k (Jj fs n):=by split;rw[KV,if_neg u];rfl
  rw[h0,ih];unfold Wu;simp only[hk,decide_false,ZEq,if_false];by_cases hp:0≤Zi (fun f=>dC (f.name=k)) (fs.take n);have hl:=Zac _ _ hp;rw[if_pos hp];have hg:(fs.take n++[f]).getD (Zi (fun f=>dC (f.name=k)) (fs.take n)).toNat dE=(fs.take n).getD (Zi (fun f=>dC (f.name=k)) (fs.take n)).toNat dE:=by simp[ZEb,ZEt hl]
  rw[hg];rw[if_neg hp,if_pos (by omega),if_pos (by omega)]
structure ZbN(d:Dfn)(a:Nat)(deps:List Int)(dl:List (Str×Int))(sl:List (Str×Bool)):Prop where
 len:deps.length=a
 dep:∀s,Zr s dl=if ZF d s a<0 then none else some (deps.getD (ZF d s a).toNat default)
 str:∀s,Zr s sl=if ZF d s a<0 then none else some ((Kt d a).getD (ZF d s a).toNat default)
theorem ZbN.has{d:Dfn}{a:Nat}{deps:List Int}{dl:List (Str×Int)}{sl:List (Str×Bool)}(h:ZbN d a deps dl sl)(s:Str):(Zr s dl).isSome=!dC (ZF d s a<0):=by
 rw[h.dep];split<;>simp_all
theorem ZbN.strict{d:Dfn}{a:Nat}{deps:List Int}{dl:List (Str×Int)}{sl:List (Str×Bool)}(h:ZbN d a deps dl sl)(s:Str):(Zr s sl).getD false=(!dC (ZF d s a<0)&&(Kt d a).getD (ZF d s a).toNat dE):=by
 rw[h.str];split<;>simp_all
theorem ZzP{f:Fld}(hk:f.kind=1∨f.kind=2):(if f.kind=1 then ck1 f else ck2 f)=dC (ZaM f=0):=by
 unfold ck1 ck2 ZaM Zrl ZlN;rw[Zyc,Zot];cases hb:Zd5 f
 ·have hp:(0:Int)<2 ^ f.bits.toNat:=by have:=Nat.two_pow_pos f.bits.toNat;rw[show(2:Int) ^ f.bits.toNat=((2 ^ f.bits.toNat:Nat):Int) from(Int.natCast_pow 2 f.bits.toNat).symm];omega
  generalize (2:Int) ^ f.bits.toNat=pw at *;rcases hk with hk|hk<;>rw[Bool.eq_iff_iff]<;>simp[hk,Yq]<;>(try split)<;>(try omega);all_goals (try simp_all)<;>omega
 simp
theorem ZlM{fs:List Fld}(hd:Zh3 fs fs.length)(s:Wi):ZeO fs s=dC (Zdo fs s=0):=by
 have hL:(fun k=>Zr k (Qb fs))=Wu fs:=by funext k;have:=ZrG (ZEd _) hd k;rw[ZEy]at this;exact this
 unfold ZeO Zdo ivP;rw[hL];have hk:s.terms.all (Zb1 fs)=!s.terms.any (Je (Wu fs)):=by
  rw[List.not_any_eq_all_not]
  congr 1;funext t
  have:Zr t.field (Qb fs)=Wu fs t.field:=congrFun hL _;unfold Zb1 Je;rw[this];simp
 rw[hk];cases ZU s;simp;cases s.terms.any (Je (Wu fs));simp only[ZEm,Bool.not_false,ZEq,if_false,Bool.true_eq_false];rw[Bool.eq_iff_iff];simp;omega;simp
theorem ZwQ{d:Dfn}{a:Nat}{deps:List Int}{dl:List (Str×Int)}{sl:List (Str×Bool)}(h:ZbN d a deps dl sl)(hi lo:Int)(l:List Yb):ZbU dl hi lo l=dC (Zeh d a hi lo l=0):=by
 induction l generalizing lo with
 |nil=>simp[ZbU,Zeh]
 |cons c r ih =>simp only[ZbU,Zeh,Zot,h.has,ih];rcases Bool.eq_false_or_eq_true (dC (c.low<lo) ||(dC (c.high<c.low) ||decide (hi<c.high))) with hb|hb<;>simp only[hb];simp;simp only[Bool.not_false,ZEm,ZEq,if_false];by_cases h2:ZF d c.of a<0<;>simp[h2]
theorem Zw0{fs:List Fld}(hd:Zh3 fs fs.length)(k:Str):(Zr k (Qb fs)).isSome=(!dC (Zi (fun f=>dC (f.name=k)) fs<0)&&YF (fs.getD (Zi (fun f=>dC (f.name=k)) fs).toNat dE)) ∧
  ((Zr k (Qb fs)).isSome=true→(Zr k (Qb fs)).getD (0,0)=Kn (fs.getD (Zi (fun f=>dC (f.name=k)) fs).toNat dE)):=by
 have:=ZrG (ZEd _) hd k;rw[ZEy]at this;rw[this];unfold Wu;split;rename_i h;simp[h];rename_i h;split;rename_i h2;simp only[h,h2];simp;rename_i h2;simp only[h,h2];simp
theorem Zxl{d:Dfn}{a:Nat}{deps:List Int}{dl:List (Str×Int)}{sl:List (Str×Bool)}(h:ZbN d a deps dl sl){m:Msg}{i:Nat}(hi:i<m.fields.length)(hd:Zh3 m.fields i){f:Fld}(hk:QM f=true):
  Zej (m.fields.take i) dl sl f=dC (Zaw d a m i f=0):=by
 have ag:(m.fields.take i).length=i:=by simp;omega
 have t:Zh3 (m.fields.take i) (m.fields.take i).length:=fun j hj=>by rw[ag]at hj;rw[Q3 (by omega),List.take_take,Nat.min_eq_left (by omega)];exact hd j hj
 unfold QM at hk;simp only[ZD5,decide_eq_true_eq]at hk;have aj:f.kind=1∨f.kind=2∨f.kind=3∨f.kind=4∨f.kind=5∨f.kind=6∨f.kind=7∨f.kind=8∨f.kind=9∨f.kind=10∨f.kind=11∨f.kind=12:=by omega
 have hn:=ZzP (f:=f);unfold Zej Zaw;rcases aj with h1|h1|h1|h1|h1|h1|h1|h1|h1|h1|h1|h1<;>simp only[h1,Int.reduceEq,if_true,if_false,true_or,or_true,or_self,forall_const,false_implies]at hn⊢;exact hn;exact hn;unfold ck3;rw[Zot,Zp2];by_cases hA:0≤f.low∧f.low≤f.high∧f.high<34359738368;simp[hA];omega;rw[Bool.eq_iff_iff];simp;omega;exact ZlM t _;unfold ck5;rw[Bool.eq_iff_iff];simp[Yq]<;>omega;unfold ck6;rw[Bool.eq_iff_iff];simp[Yq]<;>omega;unfold ck7;rw[h.has,ZlM t];by_cases h2:ZF d f.of a<0<;>simp[h2];unfold ck8;rw[h.has];by_cases h2:ZF d f.of a<0<;>simp[h2];have ht:=Zw0 t f.tag;unfold Zib Zig Zqy;rw[ZwQ h];have ab:Q5 m f.tag i=Zi (fun f'=>dC (f'.name=f.tag)) (m.fields.take i):=rfl;rw[ab];have ai:Ztk m f.tag i=ZeX (m.fields.take i) f:=rfl;rw[ai];generalize hz:Zi (fun f'=>dC (f'.name=f.tag)) (m.fields.take i)=z at *;by_cases ae:z<0;simp[ht.1,ae];have ah:=Zac (fun f':Fld=>dC (f'.name=f.tag)) (m.fields.take i) (by omega);rw[hz,ag]at ah;have hg:(m.fields.take i).getD z.toNat dE=m.fields.getD z.toNat dE:=Q3 ah;rw[hg]at ht;by_cases n:YF (m.fields.getD z.toNat dE)=true;have hs:(Zr f.tag (Qb (m.fields.take i))).isSome=true:=by rw[ht.1,n];simp[ae]
 rw[ht.2 hs,hs,n];cases ZeX (m.fields.take i) f;simp only[ae,decide_false,Bool.not_true,Bool.or_self,Bool.not_false,ZEm,ZEq,if_false,Bool.false_or];by_cases hl:1≤f.cases.length∧f.cases.length≤40;have ac:(dC (1≤(f.cases.length:Int))&&dC ((f.cases.length:Int)≤40))=true:=by simp only[ZD5,decide_eq_true_eq];omega
 have ad:(dC (f.cases.length<1) ||decide (40<f.cases.length))=false:=by simp only[Bool.or_eq_false_iff,decide_eq_false_iff_not];omega
 rw[ac,ad];simp;have ac:(dC (1≤(f.cases.length:Int))&&dC ((f.cases.length:Int)≤40))=false:=by simp only[ZEF,decide_eq_false_iff_not];omega
 have ad:(dC (f.cases.length<1) ||decide (40<f.cases.length))=true:=by simp only[ZEk,decide_eq_true_eq];omega
 rw[ac,ad];simp;simp;have u:YF (m.fields.getD z.toNat dE)=false:=by simpa using n
 rw[ht.1,u];simp;unfold ZtL ZmM;rw[Bool.eq_iff_iff];generalize f.bits=b;by_cases h0:0≤b;rw[Int.tmod_eq_emod_of_nonneg h0];simp;omega;simp;omega;unfold ZtM;have ab:Q5 m f.from_ i=Zi (fun f'=>dC (f'.name=f.from_)) (m.fields.take i):=rfl;rw[ab];rw[Bool.eq_iff_iff];simp[Yq];generalize Zi (fun f'=>dC (f'.name=f.from_)) (m.fields.take i)=z;split;simp;omega;split<;>simp<;>omega;unfold ZtN Zor;rw[h.strict,ZlM t];by_cases af:f.key<0∨4294967295<f.key;rw[if_pos (by simpa using af)];simp[Yq];omega;rw[if_neg (by simpa using af)];have:Yq 0 4294967295 [f.key]=true:=by simp[Yq];omega
 rw[this];by_cases h2:ZF d f.of a<0;simp[h2];simp only[h2,decide_false,Bool.not_false,ZEm,Bool.false_or];cases(Kt d a).getD (ZF d f.of a).toNat dE<;>simp
theorem Zw2{d:Dfn}{a:Nat}{deps:List Int}{dl:List (Str×Int)}{sl:List (Str×Bool)}(h:ZbN d a deps dl sl){m:Msg}{i:Nat}(hi:i<m.fields.length)(hd:Zh3 m.fields i)(f:Fld):
  Qk (m.fields.take i) dl sl f=dC (K1 d a m i f=0):=by
 unfold Qk K1;rw[show Zi (fun x=>dC (x.name=f.name)) (m.fields.take i)=Q5 m f.name i from rfl];cases YZ f.name;simp;by_cases h1:0≤Q5 m f.name i;simp[h1];by_cases hk:QM f=true;have j:(dC (f.kind<1) ||decide (12<f.kind))=false:=by unfold QM at hk;simp only[ZD5,decide_eq_true_eq]at hk;simp only[Bool.or_eq_false_iff,decide_eq_false_iff_not];omega
 rw[ZtQ hk,Zxl h hi hd hk,hk,j];cases Zkd f<;>simp[h1];have n:QM f=false:=by simpa using hk
 have j:(dC (f.kind<1) ||decide (12<f.kind))=true:=by unfold QM at hk;simp only[ZD5,decide_eq_true_eq]at hk;simp only[ZEk,decide_eq_true_eq];omega
 rw[n,j];simp[h1]
theorem ZnW(d:Dfn)(a:Nat)(m:Msg)(j:Nat)(l l':List Fld)(h:YL d a m j l=nO):YL d a m j (l++l')=YL d a m (j+l.length) l':=by
 induction l generalizing j with
 |nil=>rfl
 |cons f r ih =>
  simp only[YL]at h;split at h;rename_i hf;simp only[List.cons_append,YL,hf,if_true,ZEf];rw[ih _ h]
  congr 1;omega
  simp at h
theorem ZvA{d:Dfn}{a:Nat}{deps:List Int}{dl:List (Str×Int)}{sl:List (Str×Bool)}(h:ZbN d a deps dl sl){m:Msg}(n:Nat)(hn:n≤m.fields.length):
  (Qh dl sl m n=true↔YL d a m 0 (m.fields.take n)=nO)∧(Qh dl sl m n=true→Zh3 m.fields n):=by
 induction n with
 |zero=>simp[Qh,YL,Zh3]
 |succ n ih =>
  have ih:=ih (by omega);rw[Zin,YJ (show n<m.fields.length by omega),ZD5];have i:(m.fields.take n).length=n:=by simp;omega
  by_cases hp:Qh dl sl m n=true;have hf:=ih.1.1 hp;have hd:=ih.2 hp;rw[ZnW _ _ _ _ _ _ hf,Zw2 h (show n<m.fields.length by omega) hd,i,Nat.zero_add];simp only[YL];refine⟨?_,fun hh=>?_⟩;simp only[hp,true_and,decide_eq_true_eq];split<;>simp_all;have hz:K1 d a m n (m.fields.getD n dE)=0:=by simpa using hh.2
  intro j hj;by_cases u:j<n;exact hd j u;obtain rfl:j=n:=by omega
  unfold K1 at hz;split at hz;· omega
  split at hz;· omega
  rename_i h2;unfold Q5 at h2;omega;refine⟨?_,fun hh=>absurd hh.1 hp⟩;constructor;intro hh;exact absurd hh.1 hp;intro hh;exfalso;apply hp;refine ih.1.2 ?_;have t:∀(j:Nat) (l l':List Fld),YL d a m j (l++l')=nO→YL d a m j l=nO:=by
   intro j l l';induction l generalizing j with
   |nil=>intro _;rfl
   |cons f r ih2 =>simp only[List.cons_append,YL];split;exact ih2 _;simp
  exact t _ _ _ hh
theorem Zmw{α:Type}(l:List α)(p q:α→Int)(h:∀s∈l,p s=q s)(b:Int):l.foldl (fun a s=>max a (p s)) b=l.foldl (fun a s=>max a (q s)) b:=by
 induction l generalizing b with
 |nil=>rfl
 |cons x r ih =>simp only[List.foldl_cons,h x (by simp)];exact ih (fun s hs=>h s (by simp[hs])) _
theorem ZtH{α:Type}{p q:α→Bool}{l:List α}(h:∀x∈l,p x=q x):l.all p=l.all q:=by
 induction l with
 |nil=>rfl
 |cons x r ih=>simp only[List.all_cons,h x (by simp),ih fun y hy=>h y (by simp[hy])]
theorem ZzL{d:Dfn}{a:Nat}{deps:List Int}{dl:List (Str×Int)}{sl:List (Str×Bool)}(h:ZbN d a deps dl sl){m:Msg}(hm:d.msgs.getD a dE=m):
  (ZdC dl sl m=true↔WK d a m=nO∧Zeo d a deps m≤16)∧(WK d a m=nO→W1 dl m+1=Zeo d a deps m∧Q2 sl m=ZeV d m (Kt d a)):=by
 have hf:=ZvA h (m:=m) m.fields.length (ZEd _);rw[ZEy]at hf;have h2:WK d a m=nO→W1 dl m+1=Zeo d a deps m∧Q2 sl m=ZeV d m (Kt d a):=fun hh=>by
  have j:=(ZxF hm hh).ref;rw[hm]at j;constructor;unfold W1 Zeo Zvq
  congr 1
  refine Zmw _ _ _ (fun s hs=>?_) _;have:=j s hs;rw[h.dep,if_neg (by omega)];rfl;unfold Q2 ZeV
  congr 1
  refine ZtH fun s hs=>?_;have:=j s hs;rw[h.strict,Zcl];simp[show ¬ZF d s a<0 by omega]
 refine⟨?_,h2⟩;unfold ZdC;rw[h.has];by_cases hn:YZ m.name=true;by_cases hd:ZF d m.name a<0;by_cases hl:1≤m.fields.length∧m.fields.length≤40;have n:(dC (1≤(m.fields.length:Int))&&dC ((m.fields.length:Int)≤40))=true:=by simp only[ZD5,decide_eq_true_eq];omega
 have i:(dC (m.fields.length<1) ||decide (40<m.fields.length))=false:=by simp only[Bool.or_eq_false_iff,decide_eq_false_iff_not];omega
 have t:WK d a m=YL d a m 0 m.fields:=by unfold WK;rw[if_neg (by simp[hn]),if_neg (by omega),i];rfl
 rw[t]at h2⊢;rw[n,hn];simp only[hd,decide_true,Bool.not_true,Bool.not_false,ZEm,ZD5,decide_eq_true_eq,hf.1];constructor;rintro⟨h3,h4⟩;have:=(h2 h3).1;exact⟨h3,by omega⟩;rintro⟨h3,h4⟩;have:=(h2 h3).1;exact⟨h3,by omega⟩;have n:(dC (1≤(m.fields.length:Int))&&dC ((m.fields.length:Int)≤40))=false:=by simp only[ZEF,decide_eq_false_iff_not];omega
 have i:(dC (m.fields.length<1) ||decide (40<m.fields.length))=true:=by simp only[ZEk,decide_eq_true_eq];omega
 unfold WK;rw[n,i,if_neg (by simp[hn]),if_neg (by omega)];simp;unfold WK;rw[if_neg (by simp[hn]),if_pos (by omega)];simp[hd];have u:YZ m.name=false:=by simpa using hn
 unfold WK;rw[u];simp
theorem Zmm{d:Dfn}{a:Nat}{m:Msg}(ha:a<d.msgs.length)(hm:d.msgs.getD a dE=m)(s:Str):ZF d s (a+1)=if 0≤ZF d s a then ZF d s a else if m.name=s then (a:Int) else -1:=by
 unfold ZF;rw[YJ ha,hm,ZkB];have:(d.msgs.take a).length=a:=by simp;omega
 rw[this];simp
theorem Zit{α:Type}[Inhabited α]{l:List α}{a:Nat}{v:α}(h:l.length=a):(l++[v]).getD a dE=v:=by subst h;simp[ZEb]
theorem Ziu{α:Type}[Inhabited α]{l:List α}{a:Nat}{v:α}(h:a<l.length):(l++[v]).getD a dE=l.getD a dE:=by simp[ZEb,ZEt h]
theorem ZbN.step{d:Dfn}{a:Nat}{deps:List Int}{dl:List (Str×Int)}{sl:List (Str×Bool)}(h:ZbN d a deps dl sl){m:Msg}(ha:a<d.msgs.length)(hm:d.msgs.getD a dE=m)(hnew:ZF d m.name a<0)(v:Int):
  ZbN d (a+1) (deps++[v]) (Wl m.name v dl) (Wl m.name (ZeV d m (Kt d a)) sl):={
 len:=by simp[h.len]
 dep s:=by
  rw[KV,Zmm ha hm,h.dep];by_cases hs:s=m.name;subst hs;rw[if_pos rfl,if_neg (show ¬0≤ZF d m.name a by omega),if_pos rfl,if_neg (by omega)];rw[show((a:Int)).toNat=a from rfl,Zit h.len];rw[if_neg hs];by_cases hp:0≤ZF d s a;have i:(ZF d s a).toNat<deps.length:=by
   have:=Zac _ _ hp;rw[h.len];have h3:(d.msgs.take a).length≤a:=by simp;omega
   unfold ZF;omega
  rw[if_pos hp,if_neg (by omega),if_neg (by omega),Ziu i];rw[if_neg hp,if_neg (show ¬m.name=s from fun e=>hs e.symm),if_pos (by omega),if_pos (by omega)]
 str s:=by
  rw[KV,Zmm ha hm,h.str];simp only[Kt,hm];by_cases hs:s=m.name;subst hs;rw[if_pos rfl,if_neg (show ¬0≤ZF d m.name a by omega),if_pos rfl,if_neg (by omega)];rw[show((a:Int)).toNat=a from rfl,Zit (Zcl d a)];rw[if_neg hs];by_cases hp:0≤ZF d s a;have i:(ZF d s a).toNat<(Kt d a).length:=by
   have:=Zac _ _ hp;rw[Zcl];have h3:(d.msgs.take a).length≤a:=by simp;omega
   unfold ZF;omega
  rw[if_pos hp,if_neg (by omega),if_neg (by omega),Ziu i];rw[if_neg hp,if_neg (show ¬m.name=s from fun e=>hs e.symm),if_pos (by omega),if_pos (by omega)] }
theorem Zz2{d:Dfn}(n:Nat):∀{a:Nat} {deps:List Int} {dl:List (Str×Int)} {sl:List (Str×Bool)},ZbN d a deps dl sl→a+n=d.msgs.length →
  ((Zcc dl sl (d.msgs.drop a)).elim false fun p=>(Zr d.start p.1).isSome)=(Jo d a (d.msgs.drop a) deps).isNone:=by
 induction n with
 |zero =>
  intro a deps dl sl h ha;obtain rfl:a=d.msgs.length:=by omega
  rw[List.drop_length];simp only[Zcc,Jo,Option.elim,h.has];by_cases hs:ZF d d.start d.msgs.length<0<;>simp[hs]
 |succ n ih =>
  intro a deps dl sl h ha;have j:a<d.msgs.length:=by omega
  rw[Zap j];generalize hm:d.msgs.getD a dE=m;have he:=ZzL h hm;simp only[Zcc,Jo];by_cases hp:ZdC dl sl m=true;obtain⟨h1,h2⟩:=he.1.1 hp;obtain⟨h3,h4⟩:=he.2 h1;rw[if_pos hp,h1];simp only;rw[if_neg (by omega),h3,h4];refine ih (h.step j hm ?_ _) (by omega);unfold WK at h1;split at h1;· simp at h1
  split at h1;· simp at h1
  omega;rw[if_neg hp];cases h1:WK d a m with
  |some x=>obtain⟨i,c⟩:=x;rfl
  |none =>have:¬Zeo d a deps m≤16:=fun h2=>hp (he.1.2 ⟨h1,h2⟩);simp only;rw[if_pos (by omega)];rfl
theorem ZrB(d:Dfn):Zdg d=Ze0 d:=by
 unfold Zdg Ze0 ZqD;cases hn:YZ d.name;rfl;by_cases hl:1≤d.msgs.length∧d.msgs.length≤60;have j:(dC (1≤(d.msgs.length:Int))&&dC ((d.msgs.length:Int)≤60))=true:=by simp only[ZD5,decide_eq_true_eq];omega
 have i:(dC (d.msgs.length<1) ||decide (60<d.msgs.length))=false:=by simp only[Bool.or_eq_false_iff,decide_eq_false_iff_not];omega
 rw[j,i];simp only[ZEm,Bool.true_eq_false,ZEq,if_false];have h0:ZbN d 0 [] [] []:=⟨rfl,fun s=>by simp[Zr,ZF,Zi],fun s=>by simp[Zr,ZF,Zi]⟩;have:=Zz2 d.msgs.length h0 (by omega);rw[List.drop_zero]at this;exact this;have j:(dC (1≤(d.msgs.length:Int))&&dC ((d.msgs.length:Int)≤60))=false:=by simp only[ZEF,decide_eq_false_iff_not];omega
 have i:(dC (d.msgs.length<1) ||decide (60<d.msgs.length))=true:=by simp only[ZEk,decide_eq_true_eq];omega
 rw[j,i];rfl
theorem Zqn{st:St}{b:Nat}{c0 c1:D}{v0 v1:Bool}(hb:st b=sO (.cells [c0,c1]))(h0:VT ZDW c0 [] st (.bool v0) st)(h1:VT ZDW c1 [] st (.bool v1) st):
  ZP ZDW 241 [.msl b 0 2 2 1,.fn (.func 196) [] []] st (.int .i64 (if v0 then (if v1 then -1 else 1) else 0)) st:=by
 refine ZG (cR 241 f241) fun n F i=>?_;clear n;have g0:=(Zeg h0).VT (first:=[]) (args:=[c0]) (caps:=[]);have g1:=(Zeg h1).VT (first:=[]) (args:=[c1]) (caps:=[]);refine gG ?_;refine Zc (Zbx ?_);refine rg ?_;refine i1 ?_;refine rg ?_;refine xA @hb ?_;refine cW (g0) ?_;refine cd (fun hc=>?_) (fun hc=>?_);have hv:v0=false:=by cases v0<;>simp_all
 rw[hv]at i;refine rg ?_;exact i rfl (by trivial) (ZDZ _) (ZDY _);have hv:v0=true:=by cases v0<;>simp_all
 rw[hv]at i;refine gA ?_;rw[show(0:Int)+1=1 from rfl];refine Zg ?_;refine rg ?_;refine i1 ?_;refine rg ?_;refine xA @hb ?_;refine cW (g1) ?_;refine cd (fun hd=>?_) (fun hd=>?_);have j:v1=false:=by cases v1<;>simp_all
 rw[j]at i;refine rg ?_;exact i rfl (by trivial) (ZDZ _) (ZDY _);have j:v1=true:=by cases v1<;>simp_all
 rw[j]at i;refine gA ?_;rw[show(1:Int)+1=2 from rfl];refine Zg ?_;refine rg ?_;refine iG ?_;exact i rfl (by trivial) (ZDZ _) (ZDY _)
theorem Zps{st:St}{b:Nat}{c0 c1:D}{v0 v1:Bool}(hb:st b=sO (.cells [c0,c1]))(h0:VT ZDW c0 [] st (.bool v0) st)(h1:VT ZDW c1 [] st (.bool v1) st):
  ZP ZDW 195 [.msl b 0 2 2 1,.fn (.func 196) [] []] st (.bool (!v0||!v1)) st:=by
 refine ZG (cR 195 f195) fun j F i=>?_;clear j;refine gG ?_;refine ct (Zqn hb h0 h1) ?_;exact i rfl (by trivial) (by cases v0<;>cases v1<;>exact ZDZ _) (ZDY _)
theorem ZdA{L:DL.Loc}(l:List Fld):qv L s .lenL [.d (Zm l)]=sO (True,.d (.int .i64 l.length)):=rfl
theorem atF{L:DL.Loc}(l:List Fld)(i:Int):qv L s (.iaddr 15) [.d (Zm l),.d (.int .i64 i)]=sO (0≤i∧i<l.length,.d (.ep (l.getD i.toNat dE).cells 0)):=rfl
theorem J5(f:Fld):f.cells.length=15:=rfl
theorem ZcM(f:Fld):List.take 15 f.cells=f.cells:=rfl
theorem Zgg(l:List Fld)(hl:l.length≤1000)(hb:∀f∈l,Zga f)(i:Nat)(hi:i≤l.length)(st:St):ZP ZDW 146 [Zm l,.int .i64 i,.int .i64 (KW l i)] st (.bool (Jn l i)) st:=by
 refine ZG (cR 146 f146) fun ad F j=>?_;clear ad;have hW:=Jn.eq_1 l i;refine rx (nd2 @okF @ceF) ?_;refine rx @ZdA ?_;refine cd (fun hc=>?_) (fun hc=>?_);have u:i=l.length:=by simp at hc;omega
 rw[if_pos u]at hW;refine rg ?_;exact j rfl (by trivial) (by rw[hW];exact ZDZ _) (ZDY _);have u:i<l.length:=by simp at hc;omega
 rw[if_neg (by omega)]at hW;generalize hg:l.getD i dE=g at *;refine xA (nd2 @atF (nd2 @hg (nd2 @J5 @ZcM))) ?_;refine Zb ?_;refine xP 3 fun z3 h3=>?_;refine xP 5 fun z5 h5=>?_;refine xP 7 fun z7 h7=>?_;refine rg ?_;refine Zb ?_;refine xP 8 fun z8 h8=>?_;have k5:=Zq h5;have k7:=Zq h7;have ac:=Zq k7.2;have k8:=Zq h8;have n:=Zq k8.2;have ae:=Zq n.2;obtain⟨A,hA⟩:∃A,A=((((st.upd z3 (.cells [Zm l])).upd z5 (.cells [.int .i64 (KW l i)])).upd z7 (.cells g.cells)).upd z8 (.cells [.fn (.func 190) [] [.ptr z5 0,.ptr z7 0],.fn (.func 192) [] [.ptr z3 0,.ptr z7 0]])):=⟨_,rfl⟩;have g3:A z3=sO (.cells [Zm l]):=by rw[hA,ZD6 _ _ ae.1.symm,ZD6 _ _ ac.1.symm,ZD6 _ _ k5.1.symm];exact ZD4 _ _ _
 have g5:A z5=sO (.cells [.int .i64 (KW l i)]):=by rw[hA,ZD6 _ _ n.1.symm,ZD6 _ _ k7.1.symm];exact ZD4 _ _ _
 have g7:A z7=sO (.cells g.cells):=by rw[hA,ZD6 _ _ k8.1.symm];exact ZD4 _ _ _
 have g8:A z8=sO (.cells [.fn (.func 190) [] [.ptr z5 0,.ptr z7 0],.fn (.func 192) [] [.ptr z3 0,.ptr z7 0]]):=by rw[hA];exact ZD4 _ _ _
 have t:st.sub A:=by rw[hA];exact ZED (ZEl _ h3) (ZED (ZEl _ h5) (ZED (ZEl _ h7) (ZEl _ h8)))
 have af:=(Zlc g5 g7).VT (first:=[]) (args:=[]) (caps:=[_,_]);have ab:=(Zld hl hb g3 g7 (by omega)).VT (first:=[]) (args:=[]) (caps:=[_,_]);have z:=Zps g8 af ab;rw[←hA];clear hA;refine rg ?_;refine⟨by decide,by decide,by decide,by decide,by unfold big;decide,?_⟩;rw[show(if ((2:Nat):Int)=0 then 0 else 0*1)=(0:Nat) from rfl];refine ct (z) ?_;exact j rfl (by trivial) (by rw[hW];exact ZDZ _) t
theorem Zv1{x z:Nat}{o:Z1}(hx:s x=nO)(h:(s.or (ZEn x o)) z=nO):z≠x∧s z=nO:=by
 refine⟨fun e=>by subst e;rw[ZH hx,Yn]at h;simp at h,?_⟩;cases hs:s z with
 |none=>rfl
 |some o=>rw[Zp hs]at h;simp at h
def Mk(A:St):List Nat→St→Prop
 | [],S=>S=A
 |q::qs,S=>∃S',Mk A qs S'∧S' q=nO∧S=S'.upd q .dfr
theorem Mk.get{A:St}{z:Nat}{o:Z1}(h:A z=sO o):∀{qs:List Nat} {S:St},Mk A qs S→S z=sO o
 | [],S,hm=>by rw[show S=A from hm];exact h
 |q::qs,S,hm=>by obtain⟨S',h1,h2,rfl⟩:=hm;have:=Mk.get h h1;rw[ZD6 _ _ (fun e=>by rw[e,h2]at this;simp at this)];exact this
theorem upd_comm{a b:Nat}{x y:Z1}(h:a≠b):(s.upd a x).upd b y=(s.upd b y).upd a x:=by
 funext c;by_cases hb:c=b;subst hb;rw[ZD4,ZD6 _ _ (Ne.symm h),ZD4];rw[ZD6 _ _ hb];by_cases ha:c=a;subst ha;rw[ZD4,ZD4];rw[ZD6 _ _ ha,ZD6 _ _ ha,ZD6 _ _ hb]
theorem Mk.upd{A:St}{z:Nat}{o o':Z1}(h:A z=sO o):∀{qs:List Nat} {S:St},Mk A qs S→Mk (A.upd z o') qs (S.upd z o')
 | [],S,hm=>by rw[show S=A from hm];rfl
 |q::qs,S,hm=>by
  obtain⟨S',h1,h2,rfl⟩:=hm;have:=Mk.get h h1;have i:q≠z:=fun e=>by rw[←e,h2]at this;simp at this
  exact⟨S'.upd z o',h1.upd h,by rw[ZD6 _ _ i];exact h2,upd_comm i⟩
theorem Mk.unw{P:Program}{A:St}{Ψ:Option D→St→Prop}(h:Ψ nO A):∀{qs:List Nat} {S:St},Mk A qs S→Unw P (qs.map .mark) nO S Ψ
 | [],S,hm=>by rw[show S=A from hm];exact h
 |q::qs,S,hm=>by
  obtain⟨S',h1,h2,rfl⟩:=hm;refine⟨ZD4 _ _ _,?_⟩;have e:(S'.upd q .dfr).del q=S':=by funext c;by_cases hc:c=q;subst hc;simp[St.del,h2];simp[St.del,ZEv,hc]
  rw[e];exact Mk.unw h h1
theorem ZhE{s t:St}{q:Nat}{o:Z1}(h:s.sub t):(s.upd q o).sub (t.upd q o):=fun b x hb=>by
 by_cases hc:b=q;subst hc;rw[ZD4]at hb⊢;exact hb;rw[ZD6 _ _ hc]at hb⊢;exact h b x hb
theorem Zws{s t:St}{q:Nat}(h:s.sub t)(ht:t q=nO):s q=nO:=by
 cases hs:s q with
 |none=>rfl
 |some o=>rw[h q o hs]at ht;simp at ht
theorem Zll{a t:St}{z:Nat}{o o':Z1}(h:Z6 a t)(hz:a z=sO o):Z6 (a.upd z o') t:=fun b x hb=>by
 rw[ZD6 _ _ (fun e=>by subst e;rw[h b x hb]at hz;simp at hz)];exact h b x hb
theorem St.upd_self{b:Nat}{o:Z1}(h:s b=sO o):s.upd b o=s:=by
 funext c;by_cases hc:c=b;subst hc;rw[ZD4,h];rw[ZD6 _ _ hc]
theorem Zvf{d:Dfn}{j i:Nat}{m:Msg}{f:Fld}(h:K1 d j m i f=0):Zga f:=by
 unfold K1 at h;split at h;· omega
 split at h;· omega
 split at h;· omega
 split at h;· omega
 unfold Zaw at h;refine⟨fun hk=>?_,fun hk=>?_⟩;have hn:ZaM f=0:=by rcases hk with hk|hk<;>simp only[hk,Int.reduceEq,if_true,if_false]at h<;>exact h
 unfold ZaM at hn;split at hn;· omega
 rename_i hb;simp only[Zd5,ZEk,ZD5,Bool.not_eq_true',decide_eq_true_eq,decide_eq_false_iff_not,not_or]at hb;omega;simp only[hk,Int.reduceEq,if_true,if_false]at h;split at h;· omega
 rename_i hb;simp only[ZmM,ZD5,ZEk,Bool.not_eq_true',decide_eq_true_eq,decide_eq_false_iff_not,not_and,not_or]at hb;omega
theorem ZcP.bits{d:Dfn}{j:Nat}{m:Msg}(h:ZcP d j m):∀f∈m.fields,Zga f:=by
 intro f hf;obtain⟨i,hi,rfl⟩:=ZEe hf;have:=Zvf (h.field i hi);simpa[ZEb,hi]using this
def ZcX(m:Msg):Bool:=(ZEa (m.fields.length+1)).all fun i=>!Jn m.fields i
def Kq(d:Dfn):Bool:=Ze0 d&&d.msgs.all ZcX
theorem Zuj{m:Msg}(h:∀i,i<m.fields.length+1→Jn m.fields i=false):ZcX m=true:=by
 unfold ZcX;rw[List.all_eq_true];intro i hi;rw[h i (List.mem_range.1 hi)];rfl
theorem Zsh{m:Msg}{i:Nat}(hi:i<m.fields.length+1)(h:Jn m.fields i=true):ZcX m=false:=by
 unfold ZcX;rw[List.all_eq_false];exact⟨i,List.mem_range.2 hi,by rw[h];simp⟩
theorem atM{L:DL.Loc}(l:List Msg)(i:Int):qv L s (.iaddr 2) [.d (WI l),.d (.int .i64 i)]=sO (0≤i∧i<l.length,.d (.ep (l.getD i.toNat dE).cells 0)):=rfl
theorem Zuh{L:DL.Loc}(l:List Msg):qv L s .lenL [.d (WI l)]=sO (True,.d (.int .i64 l.length)):=rfl
theorem ZnI(d:Dfn)(st:St):Za ZDW 100 [.agg d.cells] st fun r S=>S=st∧∃a f c,r=.ret (.tup [.agg [.int .i64 a,.int .i64 f,.int .i64 c],.bool (!Kq d)]):=by
 refine Zd (cR 100 f100) fun F hF=>?_;have ab:=Kq.eq_1 d;refine rx @eQ2 ?_;refine rx @eQ2 ?_;rw[show(D.agg [.str d.name,WI d.msgs,.str d.start])=.agg d.cells from rfl];refine cV (Zm2 d st) ?_ ?_
 ·rintro dd S ⟨rfl,fa,ff,fc,h⟩;cases h;refine gR0 ?_;rw[ZrB];refine rg ?_;refine cd (fun hc=>?_) (fun hc=>?_);have hv:Ze0 d=false:=by simpa using hc
  rw[hv,ZEu]at ab;refine rg ?_;refine hF.ret _ S rfl (by simp) (ZDZ _) (ZDY _) ⟨rfl,fa,ff,fc,?_⟩;rw[ab];simp[hv];rfl;have hv:Ze0 d=true:=by simpa using hc
  rw[hv,ZEm]at ab;have hV:=Zpo hv;have hmany:=hV.many;refine rx (nd2 @Zuh @eQ2) ?_;refine Zc ?_;refine xP 2 fun z2 h2=>?_;refine xP 3 fun z3 h3=>?_;have k3:=Zq h3;have a9:=h2;have bb:=k3.2;simp only[hv,Bool.not_true]at h3⊢;obtain⟨A,hA⟩:∃A,A=(S.upd z2 (.cells [.int .i64 fa,.int .i64 ff,.int .i64 fc])).upd z3 (.cells [.bool false]):=⟨_,rfl⟩;have g2:A z2=sO (.cells [.int .i64 fa,.int .i64 ff,.int .i64 fc]):=by rw[hA,ZD6 _ _ k3.1.symm];exact ZD4 _ _ _
  have g3:A z3=sO (.cells [.bool false]):=by rw[hA];exact ZD4 _ _ _
  have af:S.sub A:=by rw[hA];exact ZED (ZEl _ h2) (ZEl _ h3)
  rw[←hA];clear hA;obtain⟨A0,e0⟩:∃A0,A0=A:=⟨_,rfl⟩;rw[←e0]at g2 g3 af⊢;clear e0;refine lpU (fun Q=>∀(n k:Nat),(d.msgs.length)-k=n→∀(F:Fr ZDW) (qs:List Nat) (A:St),YK F [.cellN 2 3,.cell1 3] (fun r S'=>S'=S∧∃a f c,r=.ret (.tup [.agg [.int .i64 a,.int .i64 f,.int .i64 c],.bool (!Kq d)])) (qs.map .mark)→Mk A0 qs A→k≤d.msgs.length→(∀q,q<k→ZcX (d.msgs.getD q dE)=true)→Q F [(2,.d (.ptr z2 0)),(3,.d (.ptr z3 0)),(17,.d (WI d.msgs)),(18,.d (.int .i64 d.msgs.length)),(19,.d (.int .i64 k))] [] A) ?_ fun bc=>?_
  ·intro n;induction n using Nat.strongRecOn with
   |ind n ih_key =>
   intro k hn F qs A hF ag hk aj;have ap:=g2;have az:=g3;have g2:=Mk.get g2 ag;have g3:=Mk.get g3 ag;refine rg ?_;refine Zb (Zu rfl trivial (fun h1=>?_) (fun h1=>?_))
   ·simp at h1;have hM:=hV.msg h1;have ac:=hM.bits;have hmf:=hM.many;have ak:=fun h=>Ye (q:=fun j=>ZcX (d.msgs.getD j dE)=true) aj h;have a0:ZcX (d.msgs.getD k dE)=false→d.msgs.all ZcX=false:=fun h=>by rw[List.all_eq_false];exact⟨_,ZC h1,by rw[h];simp⟩
    generalize hm:d.msgs.getD k dE=m at *;refine xA (nd2 @atM (nd2 @hm @eQ3)) ?_;refine rg ?_;refine cV (Zef m.fields A) ?_ ?_
    ·rintro dd S2 ⟨x,hx,hd,rfl⟩;cases hd;refine gR0 ?_;refine Zc ?_;refine xP 4 fun z4 h4=>?_;refine xP 5 fun z5 h5=>?_;have k5:=Zq h5;have o4:=Zv1 hx h4;have o5:=Zv1 hx k5.2;rw[WD,WD];obtain⟨B,hB⟩:∃B,B=(A.upd z4 (.cells [.int .i64 k])).upd z5 (.cells [.str m.name,Zm m.fields]):=⟨_,rfl⟩;have b5:B z5=sO (.cells [.str m.name,Zm m.fields]):=by rw[hB];exact ZD4 _ _ _
     have b4:B z4=sO (.cells [.int .i64 k]):=by rw[hB,ZD6 _ _ k5.1.symm];exact ZD4 _ _ _
     have a6:z2≠z4:=fun e=>by rw[e,o4.2]at g2;simp at g2
     have av:z2≠z5:=fun e=>by rw[e,o5.2]at g2;simp at g2
     have ax:z3≠z4:=fun e=>by rw[e,o4.2]at g3;simp at g3
     have aw:z3≠z5:=fun e=>by rw[e,o5.2]at g3;simp at g3
     have am:z2≠z3:=fun e=>by rw[e,g3]at g2;simp at g2
     have b2:B z2=sO (.cells [.int .i64 fa,.int .i64 ff,.int .i64 fc]):=by rw[hB,ZD6 _ _ av,ZD6 _ _ a6];exact g2
     have b3:B z3=sO (.cells [.bool false]):=by rw[hB,ZD6 _ _ aw,ZD6 _ _ ax];exact g3
     have bx:B x=nO:=by rw[hB,ZD6 _ _ o5.1.symm,ZD6 _ _ o4.1.symm];exact hx
     have ah:A.sub B:=by rw[hB];exact ZED (ZEl _ o4.2) (ZEl _ (by rw[ZD6 _ _ k5.1];exact o5.2))
     rw[←hB];clear hB;refine Ka hF rfl trivial [2,3,4,5,17,18,19] (by show([2,3,4,5,17,18,19]:List Nat).Nodup;decide) (Wh bx) (Zc7 m.fields (by omega) ac x).Y (fun j hj=>rfl)
      (fun j=>if Jn m.fields j then .stop (.exit 0) else .next) (fun j a=>((∀i,i<j→Jn m.fields i=false)∧a=B)∨((∃i,i<j∧Jn m.fields i=true)∧∃a1 a2 a3,a=(B.upd z3 (.cells [.bool true])).upd z2 (.cells [.int .i64 a1,.int .i64 a2,.int .i64 a3])))
      (.inl ⟨fun i hi=>by omega,rfl⟩) ?_ ?_ ?_ ?_ ?_ ?_
     ·intro j a hj ad hB F' ready ai hdr au z;have u:∀i,i<j→Jn m.fields i=false:=fun i hi=>by have:=ad i hi;split at this;simp at this;rename_i h;simpa using h
      rcases hB with ⟨_,rfl⟩|⟨⟨i,hi,ae⟩,_⟩
      ·skip
       simp only[Eqs,reduceCtorEq,ZD2,reduceIte,ZD0,ZD3,ZD1,Ws,WG,Qy,WU,List.isEmpty_nil,List.isEmpty_cons,Zuo];refine gG ?_;refine au fun a4=>?_;refine rh ?_;refine Zl ?_;simp only[Eqs,reduceCtorEq,ZD2,reduceIte,ZD0,ZD3,ZD1,Zp b5];cases hw:Jn m.fields j with
       |false =>rw[if_neg (by rw[hw];simp)]at z;refine QT rfl rfl rfl rfl rfl (by trivial) (by trivial) (by exact Zgg m.fields (by omega) ac j (by omega) _) (Zl ?_);simp only[Eqs,reduceCtorEq,ZD2,reduceIte,ZD0,ZD3,ZD1,hw,Zp b3,WD,St.upd_self b3];refine rh ?_;refine Zl ?_;simp only[Eqs,reduceCtorEq,ZD2,reduceIte,ZD0,ZD3,ZD1,Zp b3];refine i0 ?_;refine Zy (Zj ?_);exact z.fin ⟨rfl,.inl ⟨Ye (q:=fun i=>Jn m.fields i=false) u hw,rfl⟩⟩ a4 (ZDY _)
       |true =>
        rw[if_pos hw]at z;refine QT rfl rfl rfl rfl rfl (by trivial) (by trivial) (by exact Zgg m.fields (by omega) ac j (by omega) _) (Zl ?_);simp only[Eqs,reduceCtorEq,ZD2,reduceIte,ZD0,ZD3,ZD1,hw,Zp b3,WD];obtain⟨C,hC⟩:∃C,C=a.upd z3 (.cells [.bool true]):=⟨_,rfl⟩;have c3:C z3=sO (.cells [.bool true]):=by rw[hC];exact ZD4 _ _ _
        have c2:C z2=sO (.cells [.int .i64 fa,.int .i64 ff,.int .i64 fc]):=by rw[hC,ZD6 _ _ am];exact b2
        have c4:C z4=sO (.cells [.int .i64 k]):=by rw[hC,ZD6 _ _ ax.symm];exact b4
        have c5:C z5=sO (.cells [.str m.name,Zm m.fields]):=by rw[hC,ZD6 _ _ aw.symm];exact b5
        have a5:Z6 C ai:=by rw[hC];exact Zll a4 b3
        rw[←hC];refine rh ?_;refine Zl ?_;simp only[Eqs,reduceCtorEq,ZD2,reduceIte,ZD0,ZD3,ZD1,Zp c3];refine i1 ?_;refine rh ?_;refine Zl ?_;simp only[Eqs,reduceCtorEq,ZD2,reduceIte,ZD0,ZD3,ZD1,Zp c4,Zp c2,WD];have bf:(C.upd z2 (.cells [.int .i64 k,.int .i64 j,.int .i64 12])) z5=sO (.cells [.str m.name,Zm m.fields]):=by rw[ZD6 _ _ av.symm];exact c5
        have ba:=ZD4 C z2 (.cells [.int .i64 k,.int .i64 j,.int .i64 12]);have ar:Z6 (C.upd z2 (.cells [.int .i64 k,.int .i64 j,.int .i64 12])) ai:=Zll a5 c2;refine rh ?_;refine Zl ?_;simp only[Eqs,reduceCtorEq,ZD2,reduceIte,ZD0,ZD3,ZD1,Zp bf,ZdA];refine cd (fun he=>?_) (fun he=>?_);refine rh ?_;refine Zl ?_;simp only[Eqs,reduceCtorEq,ZD2,reduceIte,ZD0,ZD3,ZD1,Zp ba,WD,ZEj];exact z.exit rfl ⟨rfl,.inr ⟨⟨j,by omega,hw⟩,k,-1,12,by rw[hC]⟩⟩ (Zll a5 c2) (ZDY _);refine Zy ?_;exact z.exit rfl ⟨rfl,.inr ⟨⟨j,by omega,hw⟩,k,j,12,by rw[hC]⟩⟩ ar (ZDY _)
      rw[u i hi]at ae;simp at ae
     intro q a ad hB hq;have u:∀i,i<m.fields.length+1→Jn m.fields i=false:=fun i hi=>by have:=ad i hi;split at this;simp at this;rename_i h;simpa using h
     rcases hB with ⟨_,rfl⟩|⟨⟨i,hi,ae⟩,_⟩;refine Kc (ZhE ah) ?_;refine gA ?_;refine Zg ?_;exact ih_key ((d.msgs.length)-(k+1)) (by omega) (k+1) rfl _ (q::qs) _ (hF.mark q) ⟨A,ag,Zws ah hq,rfl⟩ (by omega) (ak (Zuj u));rw[u i hi]at ae;simp at ae;intro q a i hi ad t;split at t<;>simp at t;intro q a i id hi ad t hB hq;have be:id=0:=by split at t;simp at t;exact t.symm;simp at t
     subst be;have ao:Jn m.fields i=true:=by split at t;assumption;simp at t
     rcases hB with ⟨h,_⟩|⟨_,a1,a2,a3,rfl⟩;rw[h i (by omega)]at ao;simp at ao;have a8:=a0 (Zsh hi ao);rw[a8]at ab;have q2:q≠z2:=fun e=>by rw[e,ZD4]at hq;simp at hq
     have q3:q≠z3:=fun e=>by rw[ZD6 _ _ q2,e,ZD4]at hq;simp at hq
     have bg:B q=nO:=by rw[ZD6 _ _ q2,ZD6 _ _ q3]at hq;exact hq
     refine Kc (ZhE (ZhE (ZhE ah))) ?_;obtain⟨X,hX⟩:∃X,X=((A.upd z3 (.cells [.bool true])).upd z2 (.cells [.int .i64 a1,.int .i64 a2,.int .i64 a3])).upd q .dfr:=⟨_,rfl⟩;have al:Mk ((A0.upd z3 (.cells [.bool true])).upd z2 (.cells [.int .i64 a1,.int .i64 a2,.int .i64 a3])) (q::qs) X:=⟨_,Mk.upd (o:=.cells [.int .i64 fa,.int .i64 ff,.int .i64 fc]) (by rw[ZD6 _ _ am];exact ap) (Mk.upd az ag),by rw[ZD6 _ _ q2,ZD6 _ _ q3];exact Zws ah bg,hX⟩;have aq:=ZD4 (A0.upd z3 (.cells [.bool true])) z2 (.cells [.int .i64 a1,.int .i64 a2,.int .i64 a3]);have ay:((A0.upd z3 (.cells [.bool true])).upd z2 (.cells [.int .i64 a1,.int .i64 a2,.int .i64 a3])) z3=sO (.cells [.bool true]):=by rw[ZD6 _ _ am.symm];exact ZD4 _ _ _
     have x2:=Mk.get aq al;have x3:=Mk.get ay al;rw[←hX];refine ZQ rfl ?_;refine rh ?_;refine Yy ?_;simp only[Eqs,reduceCtorEq,ZD2,reduceIte,ZD0,ZD3,ZD1,x2,x3,St.upd_self x2,St.upd_self x3];refine(hF.mark q).retU (al.unw ⟨_,_,.tup [.agg [.int .i64 a1,.int .i64 a2,.int .i64 a3],.bool true],S,by simp only[Eqs,reduceCtorEq,ZD2,reduceIte,ZD0,ZD3,ZD1,Yt,WV,aq,ay];rfl,by simp,ZDZ _,?_,rfl,a1,a2,a3,by rw[ab];rfl⟩);intro c o hc;have e2:c≠z2:=fun e=>by rw[e,a9]at hc;simp at hc
     have e3:c≠z3:=fun e=>by rw[e,bb]at hc;simp at hc
     rw[ZD6 _ _ e2,ZD6 _ _ e3];exact af c o hc;intro q a i d hi ad t;split at t<;>simp at t;intro i c t;split at t<;>simp at t;exact .inr ⟨0,t.symm⟩
    rintro dd S2 ⟨x,hx,hd,_⟩;cases hd
   simp at h1;obtain rfl:k=d.msgs.length:=by omega
   have a7:d.msgs.all ZcX=true:=by rw[List.all_eq_true];intro x hx;obtain⟨q,hq,rfl⟩:=ZEe hx;have:=aj q hq;simpa[ZEb,hq]using this
   rw[a7]at ab;refine ZQ rfl (Zb ?_);refine rh ?_;refine Yy ?_;simp only[Eqs,reduceCtorEq,ZD2,reduceIte,ZD0,ZD3,ZD1,g2,g3,St.upd_self g2,St.upd_self g3];exact hF.retU (ag.unw ⟨_,_,.tup [.agg [.int .i64 fa,.int .i64 ff,.int .i64 fc],.bool false],S,by simp only[Eqs,reduceCtorEq,ZD2,reduceIte,ZD0,ZD3,ZD1,Yt,WV,ap,az];rfl,by simp,ZDZ _,af,rfl,fa,ff,fc,by rw[ab];rfl⟩)
  exact bc _ 0 rfl F [] A0 hF rfl (by omega) (by intro q hq;omega)
 rintro dd S ⟨_,a,f,c,h⟩;cases h
theorem Zk8(d:Dfn):Zf ZDW 48 [.agg d.cells] (.bool (Kq d)):=by
 refine Zo (cR 48 f48) fun F st i=>?_;refine rx @eQ2 ?_;refine rx @eQ2 ?_;rw[show(D.agg [.str d.name,WI d.msgs,.str d.start])=.agg d.cells from rfl];refine cV (ZnI d st) ?_ ?_;rintro dd S ⟨rfl,a,f,c,h⟩;cases h;refine gR0 ?_;refine rg ?_;exact i rfl (by trivial) (by cases Kq d<;>exact ZDZ _) (ZDY _);rintro dd S ⟨_,a,f,c,h⟩;cases h
theorem Zyf{L:DL.Loc}(l:List Yb)(i:Int):qv L s (.iaddr 3) [.d (Kl l),.d (.int .i64 i)]=sO (0≤i∧i<l.length,.d (.ep (l.getD i.toNat dE).cells 0)):=rfl
theorem ZwP{L:DL.Loc}(l:List Yb):qv L s .lenL [.d (Kl l)]=sO (True,.d (.int .i64 l.length)):=rfl
theorem ZxR{L:DL.Loc}(l:List ZO):qv L s .lenL [.d (Yl l)]=sO (True,.d (.int .i64 l.length)):=rfl
theorem ZyZ(cs:List D)(o:Nat):KB (.d (.ep cs o))=[]:=rfl
theorem Zau{d:Dfn}{s:Str}(h:0≤ZF d s d.msgs.length):ZF d s d.msgs.length=ixS d s∧ixS d s<d.msgs.length:=by
 have:=Wv (fun m=>dC (m.name=s)) (d.msgs.take d.msgs.length);rw[ZEh]at this;unfold ixS;unfold ZF at *;omega
theorem ZiD{α:Type}[Inhabited α]{l:List α}{x:α}(h:x∈l):∃i,i<l.length∧l.getD i dE=x:=by
 obtain⟨i,hi,rfl⟩:=ZEe h;exact⟨i,hi,by simp[ZEb,hi]⟩
theorem JP{d:Dfn}(h:Kq d=true):WA d:=by
 unfold Kq at h;rw[ZD5]at h;exact Zpo h.1
def W8(f:Fld):Bool:=(!dC (f.kind=2)&&!dC (f.kind=10))&&!dC (f.kind=11)
def vfs(l:List Fld):List Fld:=l.filter W8
theorem ZrZ{l:List Fld}{i:Nat}(h:i<l.length):vfs (l.take (i+1))=vfs (l.take i)++if W8 (l.getD i dE) then [l.getD i dE] else []:=by
 rw[YJ h];unfold vfs;rw[List.filter_append];congr 1;simp only[List.filter_cons,List.filter_nil]
theorem ZwD{l:List Fld}{i:Nat}(h:i<l.length):vfs l=vfs (l.take i)++((if W8 (l.getD i dE) then [l.getD i dE] else [])++vfs (l.drop (i+1))):=by
 have h1:l=l.take (i+1)++l.drop (i+1):=(List.take_append_drop _ _).symm;conv=>lhs;rw[h1];unfold vfs;rw[List.filter_append]
 rw[show List.filter W8 (l.take (i+1))=vfs (l.take (i+1)) from rfl,ZrZ h,ZEA];rfl
def Za8(m:Msg)(ps:List Val):Bool:=dC ((vfs m.fields).map (·.name)=ps.map Val.name)
theorem Zb2{L:DL.Loc}(l:List Val):qv L s .lenL [.d (ZW l)]=sO (True,.d (.int .i64 l.length)):=rfl
theorem atV{L:DL.Loc}(l:List Val)(i:Int):qv L s (.iaddr 5) [.d (ZW l),.d (.int .i64 i)]=sO (0≤i∧i<l.length,.d (.ep (Zcb l i.toNat) 0)):=rfl
theorem Zad{L:DL.Loc}(l:Str):qv L s .lenL [.d (ZL l)]=sO (True,.d (.int .i64 l.length)):=rfl
theorem ZhH{l:List Val}(h:DWf (ZW l)):l.length≤big:=h.sl_inv.1
theorem Zdk(f:Fld):Zf ZDW 81 [.agg f.cells] (.bool (W8 f)):=by
 refine Zo (cR 81 f81) fun F st i=>?_;refine rx @eQ0 ?_;refine rg ?_;refine rb i ?_;rfl
def Zrm(k:Int):Bool:=dC (k=1) ||decide (k=3)
def ZnO(k:Int):Bool:=dC (k=4) ||decide (k=5)
def Ki(k:Int)(x:Val):Bool:=(((!Zrm k&&!dC (x.int=0)) ||(!ZnO k&&dC (0<(x.bytes.length:Int)))) ||(!dC (k=6)&&dC (0<(x.hdrs.length:Int)))) ||(!dC (7≤k)&&dC (0<(x.parts.length:Int)))
def Wt(have_ want:Int):Int:=if dC (have_<want) then 4 else if dC (want<have_) then 5 else 0
def WY(s:Str):List (Str×Int)→Int
 | []=>-1
 |x::r=>if x.1=s then x.2 else WY s r
def ZcZ:List Fld→List Val→List (Str×Int)
 | [],_=>[]
 |f::r,ps=>(if f.kind=2 then [(f.name,f.low)] else [])++(if W8 f then (if (dC (0<(ps.length:Int))&&YF f) then [(f.name,(ps.getD 0 dE).int)] else [])++ZcZ r (ps.drop 1) else ZcZ r ps)
def ZaN(m:Msg)(ps:List Val):List (Str×Int):=ZcZ m.fields ps
theorem ZyL{l:List Fld}{i:Nat}:(vfs (l.take i)).length≤i:=by
 unfold vfs;exact Nat.le_trans (List.length_filter_le _ _) (by simp;omega)
def ZaQ(s:Wi)(l:List (Str×Int)):Int:=s.base+KZ (fun t=>WY t.field l) s.terms
def Zdw(n:Nat):Str:=if n<10 then [UInt8.ofNat (48+n)] else Zdw (n / 10)++[UInt8.ofNat (48+n % 10)]
termination_by n
decreasing_by omega
theorem QK{n:Nat}(h:n<10):Zdw n=[UInt8.ofNat (48+n)]:=by rw[Zdw,if_pos h]
theorem Zlk{n:Nat}(h:¬n<10):Zdw n=Zdw (n / 10)++Zdw (n % 10):=by
 rw[Zdw,if_neg h,QK (n:=n % 10) (by omega)]
theorem ZqQ(n:Nat):(Zdw n).length≤n+1:=by
 induction n using Nat.strongRecOn with
 |ind n ih =>by_cases h:n<10;rw[QK h];simp;rw[Zlk h,ZD8,QK (n:=n % 10) (by omega)];have:=ih (n / 10) (by omega);simp;omega
def ZfK(ps:List Val)(k:Nat):Nat:=((ps.take k).filter (fun x=>dC (x.name=(ps.getD k dE).name))).length
def Wn(ps:List Val)(k:Nat):Str:=if ZfK ps k=0 then (ps.getD k dE).name else (ps.getD k dE).name++[58]++Zdw (ZfK ps k)
def Yu(path s:Str):Str:=if path=[] then s else path++[46]++s
theorem ZqU(ps:List Val)(k:Nat):ZfK ps k≤k:=by
 unfold ZfK;exact Nat.le_trans (List.length_filter_le _ _) (by simp;omega)
def Zep(ps:List Val)(k i:Nat):Nat:=((ps.take i).filter (fun x=>dC (x.name=(ps.getD k dE).name))).length
theorem Zvr{ps:List Val}{k i:Nat}(h:i<ps.length):Zep ps k (i+1)=Zep ps k i+if (ps.getD i dE).name=(ps.getD k dE).name then 1 else 0:=by
 unfold Zep;rw[YJ h,List.filter_append,ZD8]
 congr 1
 simp only[List.filter_cons,List.filter_nil];split<;>rename_i h1<;>simp at h1<;>simp[h1]
theorem Zyu(ps:List Val)(k i:Nat):Zep ps k i≤i:=by
 unfold Zep;exact Nat.le_trans (List.length_filter_le _ _) (by simp;omega)
mutual
def JR:Val→Nat
 |.mk _ _ _ _ p=>1+nodesL p
def nodesL:List Val→Nat
 | []=>0
 |v::r=>JR v+nodesL r
end
mutual
def ZN:Val→Nat
 |.mk _ _ _ _ p=>heightL p+1
def heightL:List Val→Nat
 | []=>0
 |v::r=>max (ZN v) (heightL r)
end
def Zdd(h:Hdr):Bool:=dC ((1048576:Int)<h.name.length) ||decide ((1048576:Int)<h.text.length)
def QN(v:Val):Bool:=(((((YZ v.name&&dC (0≤v.int))&&dC (v.int<34359738368))&&dC ((v.bytes.length:Int)≤1048576))&&dC ((v.hdrs.length:Int)≤100))&&!v.hdrs.any Zdd)
mutual
def Z3:Val→Bool
 |.mk n i b h p=>okAllL p&&QN (.mk n i b h p)
def okAllL:List Val→Bool
 | []=>true
 |v::r=>Z3 v&&okAllL r
end
theorem QO(v:Val):JR v=1+nodesL v.parts:=by cases v;rfl
theorem K7(v:Val):ZN v=heightL v.parts+1:=by cases v;rfl
theorem Zey(v:Val):Z3 v=(okAllL v.parts&&QN v):=by cases v;rfl
theorem ZdV{l:List Val}:okAllL l=l.all Z3:=by
 induction l with
 |nil=>rfl
 |cons v r ih=>rw[okAllL,ih,List.all_cons]
theorem ZfQ{l:List Val}{x:Val}(h:x∈l):ZN x≤heightL l:=by
 induction l with
 |nil=>simp at h
 |cons v r ih =>rcases List.mem_cons.1 h with rfl|h;simp only[heightL];omega;have:=ih h;simp only[heightL];omega
theorem Zat{n:Int}(h:-9223372036854775808≤n∧n≤9223372036854775807):IntKind.i64.wrap n=n :=
 ZaV _ _ (by have h1:IntKind.i64.min=-9223372036854775808:=rfl;have h2:IntKind.i64.max=9223372036854775807:=rfl;unfold inR;omega)
def Kp(v:Val):Bool:=(dC ((JR v:Int)≤65536)&&dC ((ZN v:Int)≤40))&&Z3 v
def Qw:List Hdr→Nat
 | []=>0
 |h::r=>h.name.length+h.text.length+Qw r
mutual
def wtN:Val→Nat
 |.mk n _ b h p=>10+n.length+b.length+Qw h+wtL p
def wtL:List Val→Nat
 | []=>0
 |v::r=>wtN v+wtL r
end
theorem Zc2(v:Val):wtN v=10+v.name.length+v.bytes.length+Qw v.hdrs+wtL v.parts:=by cases v;rfl
theorem Zs1(v:Val):10*JR v≤wtN v:=by
 induction v using Val.ind with
 |h v ih =>
  rw[Zc2,QO];have:∀l:List Val,(∀x∈l,10*JR x≤wtN x)→10*nodesL l≤wtL l:=fun l hl=>by
   induction l with
   |nil=>simp[nodesL]
   |cons a r ih2 =>have h1:=hl a (by simp);have h2:=ih2 fun x hx=>hl x (by simp[hx]);simp only[nodesL,wtL];omega
  have:=this v.parts ih;omega
theorem Ztp{l:List Val}{x:Val}(h:x∈l):wtN x≤wtL l:=by
 induction l with
 |nil=>simp at h
 |cons v r ih =>rcases List.mem_cons.1 h with rfl|h;simp only[wtL];omega;have:=ih h;simp only[wtL];omega
def hsW(n:Int)(l:List Hdr):Int:=l.foldl (fun a h=>IntKind.i64.wrap (IntKind.i64.wrap (a+h.name.length)+h.text.length)) n
theorem Zxf{n:Int}{l:List Hdr}{i:Nat}(h:i<l.length):IntKind.i64.wrap (IntKind.i64.wrap (hsW n (l.take i)+(l.getD i dE).name.length)+(l.getD i dE).text.length)=hsW n (l.take (i+1)):=by
 rw[YJ h];simp[hsW]
def ZcG(f:Val→Int):Int→List Val→Int
 |n,[]=>n
 |n,x::r=>if n≤5000 then ZcG f (IntKind.i64.wrap (n+f x)) r else n
theorem Zpg{f:Val→Int}{n:Int}{l:List Val}{i:Nat}(h:i<l.length):ZcG f n (l.drop i)=if n≤5000 then ZcG f (IntKind.i64.wrap (n+f (l.getD i dE))) (l.drop (i+1)) else n:=by
 rw[Zap h];rfl
def Zos(f:Val→Int)(v:Val)(depth:Int):Int :=
 if (dC (50<depth) ||decide ((500:Int)<v.parts.length)) ||decide ((50:Int)<v.hdrs.length) then 5001
 else ZcG f (hsW (IntKind.i64.wrap (IntKind.i64.wrap (10+v.name.length)+v.bytes.length)) v.hdrs) v.parts
theorem Zkg(v:Val)(depth:Int)(hd:0≤depth∧depth≤51)(f:Val→Int)(hf:depth≤50→∀x∈v.parts,Zf ZDW 17 [.agg x.cells,.int .i64 (depth+1)] (.int .i64 (f x))):Zf ZDW 17 [.agg v.cells,.int .i64 depth] (.int .i64 (Zos f v depth)):=by
 refine YS (cR 17 f17) fun ab F st z=>?_;have hw:=((ab (D.agg v.cells) (by simp)).agg_inv (ZW v.parts) (by rw[ZEg];simp)).sl_inv.1;have af:=(Wb ((ab (.agg v.cells) (by simp)).agg_inv (slD 2 Hdr.cells v.hdrs) (by rw[v.cells_eq];simp[ZX]))).1;unfold big at hw af;clear ab;have hS:=Zos.eq_1 f v depth;rw[v.cells_eq];refine rg ?_;refine rh ?_;refine Q7 ?_;simp only[Eqs,reduceCtorEq,ZD2,reduceIte,ZD0,ZD3,ZD1,Qu,JM,Zad];refine Zd3 rfl rfl rfl (by trivial) (Q7 ?_);simp only[Eqs,reduceCtorEq,ZD2,reduceIte,ZD0,ZD3,ZD1,Qu,JM,Zad];refine Zd3 rfl rfl rfl (by trivial) (Q7 ?_);simp only[Eqs,reduceCtorEq,ZD2,reduceIte,ZD0,ZD3,ZD1,Qu,JM];generalize IntKind.i64.wrap (IntKind.i64.wrap (10+v.name.length)+v.bytes.length)=n1 at *;refine rx (nd2 @Zb2 @ZiA) ?_;refine cd (fun h1=>?_) (fun h1=>?_);rw[if_pos h1]at hS;refine rg ?_;refine ri z ?_;exact hS.symm;rw[if_neg (by simp[h1])]at hS;have ai:depth≤50:=by simp at h1;omega
 refine rg ?_;refine Zc (fr (v.hdrs.length) (fun i Q=>i≤v.hdrs.length→Q [(1,.d (.int .i64 depth)),(2,.loc 2 0),(5,.d (.int .i64 (hsW n1 (v.hdrs.take i)))),(6,.d (.int .i64 i))] [(2,[.str v.name,.int .i64 v.int,ZL v.bytes,ZX v.hdrs,ZW v.parts])] st) (fun n u=>?_) fun ah=>?_);intro i hn hi;refine rx @ZiA ?_;refine cd (fun h2=>?_) (fun h2=>?_);simp at h2;have t:=Zxf (n:=n1) h2;generalize hg:v.hdrs.getD i dE=g at *;generalize hsW n1 (v.hdrs.take i)=a at *;refine rh ?_;refine Zbw ?_;simp only[Eqs,reduceCtorEq,ZD2,reduceIte,ZD0,ZD3,ZD1,Qu,JM,atH,hg,Hdr.cells];refine aa ?_;refine Zou rfl rfl rfl (by trivial) (Zbw ?_);simp only[Eqs,reduceCtorEq,ZD2,reduceIte,ZD0,ZD3,ZD1,Qu,JM,atH,hg,Hdr.cells];refine aa ?_;refine Zou rfl rfl rfl (by trivial) (Zbw ?_);simp only[Eqs,reduceCtorEq,ZD2,reduceIte,ZD0,ZD3,ZD1,Qu,JM];rw[t];refine gA ?_;refine Zg ?_;exact u ((v.hdrs.length)-(i+1)) (by omega) (i+1) rfl (by omega);simp at h2;obtain rfl:i=v.hdrs.length:=by omega
 rw[ZEy];generalize hsW n1 v.hdrs=n2 at *;refine rg ?_;refine Zc (fr (v.parts.length) (fun i Q=>∀n,ZcG f n (v.parts.drop i)=ZcG f n2 v.parts→i≤v.parts.length→Q [(1,.d (.int .i64 depth)),(2,.loc 2 0),(5,.d (.int .i64 n)),(7,.d (.int .i64 i))] [(2,[.str v.name,.int .i64 v.int,ZL v.bytes,ZX v.hdrs,ZW v.parts])] st) (fun n j=>?_) fun ac=>?_);intro i hn n hr hi;refine rx @Zb2 ?_;refine cd (fun h3=>?_) (fun h3=>?_);simp only[ZD5,decide_eq_true_eq]at h3;have h4:i<v.parts.length:=by omega
 have ag:=Qq h4;have t:=Zpg (f:=f) (n:=n) h4;rw[if_pos h3.2,hr]at t;have ad:=hf ai _ (ZC h4);rw[ZEg]at ad;generalize v.parts.getD i dE=x at *;refine rh ?_;refine Q7 ?_;simp only[Eqs,reduceCtorEq,ZD2,reduceIte,ZD0,ZD3,ZD1,Qu,JM,atV,ag];refine aa ?_;refine Zd3 rfl rfl rfl (by trivial) (Q7 ?_);simp only[Eqs,reduceCtorEq,ZD2,reduceIte,ZD0,ZD3,ZD1,Qu,JM];rw[Zat (n:=depth+1) (by omega)];refine Zbk rfl rfl rfl rfl rfl (by trivial) (by trivial) (by exact ad) (Q7 ?_);simp only[Eqs,reduceCtorEq,ZD2,reduceIte,ZD0,ZD3,ZD1,Qu,JM];refine Zd3 rfl rfl rfl (by trivial) (Q7 ?_);simp only[Eqs,reduceCtorEq,ZD2,reduceIte,ZD0,ZD3,ZD1,Qu,JM];refine gA ?_;refine Zg ?_;exact j ((v.parts.length)-(i+1)) (by omega) (i+1) rfl _ t.symm (by omega);have ae:n=ZcG f n2 v.parts:=by rw[←hr];rcases Nat.lt_or_eq_of_le hi with h4|h4;rw[Zpg h4,if_neg];intro h5;simp[h4,h5]at h3;rw[h4,List.drop_length];rfl
 refine rg ?_;refine ri z ?_;rw[hS,ae];exact ac _ 0 rfl n2 rfl (by omega);exact ah _ 0 rfl (by omega)
theorem ZoZ:∀(l:List Hdr) (n:Int),0≤n→n+Qw l≤1000000000000→hsW n l=n+Qw l
 | [],n,_,_=>by simp[hsW,Qw]
 |h::r,n,h0,h1=>by simp only[Qw]at h1⊢;have e:hsW n (h::r)=hsW (IntKind.i64.wrap (IntKind.i64.wrap (n+h.name.length)+h.text.length)) r:=rfl;rw[e,Zat (n:=n+h.name.length) (by omega),Zat (by omega),ZoZ r _ (by omega) (by omega)];omega
def Zol(f:Val→Int):List Val→Int
 | []=>0
 |x::r=>f x+Zol f r
theorem Zti{f:Val→Int}{M:Int}(hM:0≤M∧M≤900000000000):∀(l:List Val) (n:Int),0≤n→n≤1000000000000→(∀x∈l,0≤f x∧f x≤M)→n≤ZcG f n l∧ZcG f n l≤max n (5000+M)∧(ZcG f n l≤5000→ZcG f n l=n+Zol f l∧∀x∈l,f x≤5000)
 | [],n,h0,h1,_=>by simp only[ZcG,Zol];exact⟨by omega,by omega,fun _=>⟨by omega,fun x hx=>by simp at hx⟩⟩
 |x::r,n,h0,h1,hf=>by have hx:=hf x (by simp);simp only[ZcG,Zol];by_cases h5:n≤5000;rw[if_pos h5,Zat (by omega)];obtain⟨a,b,c⟩:=Zti hM r (n+f x) (by omega) (by omega) fun y hy=>hf y (by simp[hy]);refine⟨by omega,by omega,fun hr=>?_⟩;obtain⟨c1,c2⟩:=c hr;refine⟨by omega,fun y hy=>?_⟩;rcases List.mem_cons.1 hy with rfl|hy;omega;exact c2 y hy;rw[if_neg h5];exact⟨by omega,by omega,fun h=>by omega⟩
theorem Zt6{l:List Val}{k:Nat}(h:∀x∈l,ZN x≤k):heightL l≤k:=by
 induction l with
 |nil=>simp[heightL]
 |cons v r ih =>have h1:=h v (by simp);have h2:=ih fun x hx=>h x (by simp[hx]);simp only[heightL];omega
theorem Zz8{f:Val→Int}{l:List Val}(h:∀x∈l,f x=wtN x):Zol f l=wtL l:=by
 induction l with
 |nil=>rfl
 |cons v r ih =>have h1:=h v (by simp);have h2:=ih fun x hx=>h x (by simp[hx]);simp only[Zol,wtL];omega
theorem ZkG{s:Str}(h:YZ s=true):1≤s.length∧s.length≤32:=by
 cases s with
 |nil=>simp[YZ]at h
 |cons c r =>simp only[YZ,ZD5,decide_eq_true_eq]at h;exact⟨by simp,h.1.1⟩
theorem Zxd{l:List Hdr}(h:l.any Zdd=false):Qw l≤2097152*l.length:=by
 induction l with
 |nil=>simp[Qw]
 |cons a r ih =>rw[List.any_cons,Bool.or_eq_false_iff]at h;have h2:=ih h.2;have h1:=h.1;unfold Zdd at h1;simp only[Bool.or_eq_false_iff,decide_eq_false_iff_not]at h1;simp only[Qw,ZEf];omega
theorem JF{v:Val}(h:QN v=true):(1≤v.name.length∧v.name.length≤32)∧(0≤v.int∧v.int<34359738368)∧v.bytes.length≤1048576∧v.hdrs.length≤100∧Qw v.hdrs≤2097152*v.hdrs.length∧YZ v.name=true:=by
 unfold QN at h;simp only[ZD5,decide_eq_true_eq,Bool.not_eq_true']at h;obtain⟨⟨⟨⟨⟨h1,h2⟩,h3⟩,h4⟩,h5⟩,h6⟩:=h;exact⟨ZkG h1,⟨h2,h3⟩,by omega,by omega,Zxd h6,h1⟩
theorem ZmD(v:Val):∀depth:Int,0≤depth→depth≤51→∃n,Zf ZDW 17 [.agg v.cells,.int .i64 depth] (.int .i64 n)∧(Z3 v=true→0≤n∧n≤110000000*(52-depth)+6000∧(n≤5000→n=wtN v∧(ZN v:Int)+depth≤51)):=by
 induction v using Val.ind with
 |h v ih =>
  intro depth h0 j;have hc:∀x:Val,∃n,depth≤50→x∈v.parts→Zf ZDW 17 [.agg x.cells,.int .i64 (depth+1)] (.int .i64 n)∧(Z3 x=true→0≤n∧n≤110000000*(52-(depth+1))+6000∧(n≤5000→n=wtN x∧(ZN x:Int)+(depth+1)≤51)):=fun x=>by by_cases hx:x∈v.parts∧depth≤50;obtain⟨n,hn⟩:=ih x hx.1 (depth+1) (by omega) (by omega);exact⟨n,fun _ _=>hn⟩;exact⟨0,fun h1 h2=>absurd ⟨h2,h1⟩ hx⟩
  refine⟨_,Zkg v depth ⟨h0,j⟩ (fun x=>(hc x).choose) fun t x hx=>((hc x).choose_spec t hx).1,fun i=>?_⟩;rw[Zey,ZD5,ZdV,List.all_eq_true]at i;obtain⟨hn,hi,hb,hh,hw,_⟩:=JF i.2;unfold Zos;split;exact⟨by omega,by omega,fun h=>by omega⟩;rename_i h1;simp only[ZEk,decide_eq_true_eq,not_or]at h1;rw[Zat (n:=10+v.name.length) (by omega),Zat (by omega),ZoZ _ _ (by omega) (by omega)];have hf:∀x∈v.parts,0≤(hc x).choose∧(hc x).choose≤110000000*(52-(depth+1))+6000:=fun x hx=>by have:=((hc x).choose_spec (by omega) hx).2 (i.1 x hx);exact⟨this.1,this.2.1⟩
  obtain⟨a,b,c⟩:=Zti (f:=fun x=>(hc x).choose) (M:=110000000*(52-(depth+1))+6000) ⟨by omega,by omega⟩ v.parts (10+v.name.length+v.bytes.length+Qw v.hdrs) (by omega) (by omega) hf;refine⟨by omega,by omega,fun h5=>?_⟩;obtain⟨c1,c2⟩:=c h5;have hx:∀x∈v.parts,(hc x).choose=wtN x∧(ZN x:Int)+(depth+1)≤51:=fun x hx=>(((hc x).choose_spec (by omega) hx).2 (i.1 x hx)).2.2 (c2 x hx);refine⟨?_,?_⟩;rw[c1,Zz8 fun x h=>(hx x h).1,Zc2];omega;have:=Zt6 (l:=v.parts) (k:=(50-depth).toNat) fun x h=>by have:=(hx x h).2;omega
  rw[K7];omega
theorem Zn1(d:Dfn)(v:Val)(st:St):Za ZDW 5 [.agg d.cells,.agg v.cells] st fun r S=>S=st∧∃b,r=.ret (.bool b)∧(b=true→Z3 v=true→wtN v≤5000∧ZN v≤51):=by
 obtain⟨wt,ad,ab⟩:=ZmD v 0 (by omega) (by omega);refine JT (cR 5 f5) fun ac F hF=>?_;have hw:=Zzv (s:=d) (ac _ (by simp));have ai:=hw.nmsgs;unfold big at ai;clear ac;rw[v.cells_eq]at ad⊢;refine rx @eQ2 ?_;refine rx @Zuh ?_;refine cd (fun h0=>?_) (fun h0=>?_);refine rg ?_;exact hF.ret _ _ rfl (by trivial) (ZDZ _) (ZDY _) ⟨rfl,false,rfl,fun h=>by simp at h⟩;refine rg ?_;refine Zc (fr (d.msgs.length) (fun i Q=>i≤d.msgs.length→Q [(2,.loc 2 0),(3,.loc 3 0),(5,.d (.int .i64 i))] [(2,[.str d.name,WI d.msgs,.str d.start]),(3,[.str v.name,.int .i64 v.int,ZL v.bytes,ZX v.hdrs,ZW v.parts])] st) (fun n t=>?_) fun af=>?_);intro i hn hi;refine rx @Zuh ?_;refine cd (fun h1=>?_) (fun h1=>?_);have ag:i<d.msgs.length:=by simp at h1;omega
 have ah:=hw.msgs _ (ZC ag);have aj:=ah.nfields;unfold big at aj;generalize hm:d.msgs.getD i dE=m at *;refine xA (nd2 @atM (nd2 @hm @eQ3)) ?_;refine rx @ZdA ?_;refine cd (fun h2=>?_) (fun h2=>?_);refine rg ?_;exact hF.ret _ _ rfl (by trivial) (ZDZ _) (ZDY _) ⟨rfl,false,rfl,fun h=>by simp at h⟩;refine rg ?_;refine Zc (fr (m.fields.length) (fun k Q=>k≤m.fields.length→Q [(2,.loc 2 0),(3,.loc 3 0),(5,.d (.int .i64 i)),(6,.loc 6 0),(7,.d (.int .i64 k))] [(2,[.str d.name,WI d.msgs,.str d.start]),(3,[.str v.name,.int .i64 v.int,ZL v.bytes,ZX v.hdrs,ZW v.parts]),(6,[.str m.name,Zm m.fields])] st) (fun n j=>?_) fun u=>?_);intro k ab hk;refine rx @ZdA ?_;refine cd (fun h3=>?_) (fun h3=>?_);have z:k<m.fields.length:=by simp at h3;omega
 generalize hf:m.fields.getD k dE=f at *;refine xA (nd2 @atF (nd2 @hf (nd2 @eQ0 (nd2 @ZwP @ZxR)))) ?_;refine cd (fun h4=>?_) (fun h4=>?_);refine rg ?_;exact hF.ret _ _ rfl (by trivial) (ZDZ _) (ZDY _) ⟨rfl,false,rfl,fun h=>by simp at h⟩;refine gA ?_;refine Zg ?_;exact j ((m.fields.length)-(k+1)) (by omega) (k+1) rfl (by omega);have z:k=m.fields.length:=by simp at h3;omega
 subst z;refine gA ?_;refine Zg ?_;exact t ((d.msgs.length)-(i+1)) (by omega) (i+1) rfl (by omega);exact u _ 0 rfl (by omega);refine rg ?_;refine cl (ad) ?_;exact hF.ret _ _ rfl (by trivial) (ZDZ _) (ZDY _) ⟨rfl,dC (wt≤5000),rfl,fun h ae=>by
  have h1:=(ab ae).2.2 (of_decide_eq_true h);have h2:wt≤5000:=of_decide_eq_true h;exact⟨by omega,by omega⟩⟩
 exact af _ 0 rfl (by omega)
theorem Znx(h:Hdr):Zf ZDW 141 [.agg h.cells] (.bool (Zdd h)):=by
 refine Zo (cR 141 f141) fun F st i=>?_;have hB:dC ((1048576:Int)<max (h.name.length:Int) (h.text.length:Int))=Zdd h:=by unfold Zdd;rw[←Bool.decide_or];exact decide_eq_decide.2 (by omega)
 refine rx @Hdr.cells.eq_1 ?_;refine rg ?_;refine rb i ?_;exact hB
theorem Zoq(l:List Hdr):Zf ZDW 142 [slD 2 Hdr.cells l,.fn (.func 141) [] []] (.bool (l.any Zdd)) :=
 fun st=>Q4 l _ _ (fun _=>st) fun i _=>(Znx _).VT (first:=[]) (caps:=[]) st
theorem ZpN(v:Val):Zf ZDW 96 [.agg v.cells] (.bool (QN v)):=by
 refine Zo (cR 96 f96) fun F st i=>?_;rw[v.cells_eq];refine gG ?_;refine rx (nd2 @Zad @ZiA) ?_;refine cX (nd2 @Zad @ZiA) (ZaB _) ?_;refine cG (Zoq v.hdrs) ?_;refine rb i ?_;unfold QN;rfl
mutual
def KX:Val→Int→List (Int×Val)
 |.mk n i b hd p,h=>(h,.mk n i b hd p)::preWL p (IntKind.i64.wrap (h+1))
def preWL:List Val→Int→List (Int×Val)
 | [],_=>[]
 |v::r,h=>KX v h++preWL r h
end
theorem Zgx(v:Val)(h:Int):KX v h=(h,v)::preWL v.parts (IntKind.i64.wrap (h+1)):=by cases v;rfl
theorem ZmS{l:List Val}{i:Nat}(h:i<l.length)(k:Int):preWL (l.take (i+1)) k=preWL (l.take i) k++KX (l.getD i dE) k:=by
 rw[YJ h];generalize l.getD i dE=x;induction l.take i with
 |nil=>simp[preWL]
 |cons y r ih=>simp only[List.cons_append,preWL,ih,ZEA]
theorem Zsi{l:List Val}{i:Nat}(h:i<l.length)(k:Int):preWL l k=preWL (l.take i) k++(KX (l.getD i dE) k++preWL (l.drop (i+1)) k):=by
 have j:∀a b:List Val,preWL (a++b) k=preWL a k++preWL b k:=fun a b=>by
  induction a with
  |nil=>rfl
  |cons x r ih=>simp only[List.cons_append,preWL,ih,ZEA]
 conv=>lhs;rw[←List.take_append_drop (i+1) l]
 rw[j,ZmS h,ZEA]
def hvA(L:List (Int×Val))(j:Nat):List D:=[.int .i64 (L.getD j dE).1,.agg (L.getD j dE).2.cells]
def ZcR(v:Val)(h:Int)(za zv:Nat):St:=(ZEn za (.cells [.int .i64 h])).or (ZEn zv (.cells v.cells))
theorem Zyv{v:Val}{h:Int}{za zv:Nat}:(ZcR v h za zv) za=sO (.cells [.int .i64 h]):=Zp (Yn _ _)
theorem Zyw{v:Val}{h:Int}{za zv:Nat}(hn:zv≠za):(ZcR v h za zv) zv=sO (.cells v.cells):=by
 unfold ZcR;rw[ZH (Zdm _ hn)];exact Yn _ _
theorem ZoJ{st:St}{v:Val}{h:Int}{za zv:Nat}(h2:st za=nO)(h3:st zv=nO):Z6 st (ZcR v h za zv):=fun b o hb=>by
 unfold ZcR at hb;cases hc:(ZEn za (.cells [.int .i64 h])) b with
 |some x=>exact Wh h2 _ _ hc
 |none=>rw[ZH hc]at hb;exact Wh h3 _ _ hb
theorem ZhQ(v:Val)(h:Int)(st:St):Za ZDW 95 [.agg v.cells,.int .i64 h] st fun r S=>∃za zv,st za=nO∧st zv=nO∧zv≠za∧r=.ret (.fn (.func 140) [] [.ptr za 0,.ptr zv 0])∧S=st.or (ZcR v h za zv):=by
 refine Zd (cR 95 f95) fun F hF=>?_;have hE:∀za zv,ZcR v h za zv=(ZEn za (.cells [.int .i64 h])).or (ZEn zv (.cells v.cells)):=fun _ _=>rfl;rw[v.cells_eq]at hE⊢;refine rg ?_;refine Zb ?_;refine xP 3 fun za ha=>?_;refine xP 2 fun zv hv=>?_;have i:=Zq hv;refine rg ?_;refine hF.ret _ _ rfl (by trivial) (ZDZ _) (ZDY _) ⟨za,zv,ha,i.2,i.1,rfl,?_⟩;rw[KG hv,KG ha,or_assoc,hE]
theorem Mk.or{T a:St}:∀{qs:List Nat} {S:St},Mk T qs S→Z6 a S→Mk (a.or T) qs (a.or S)
 | [],S,hm,_=>by rw[show S=T from hm];rfl
 |q::qs,S,hm,hd=>by
  obtain⟨S',h1,h2,rfl⟩:=hm;have hq:a q=nO:=hd q _ (ZD4 _ _ _);have i:Z6 a S':=fun b o hb=>hd b o (by rw[ZD6 _ _ (fun e=>by rw[e,h2]at hb;simp at hb)];exact hb);refine⟨a.or S',h1.or i,by rw[ZH hq];exact h2,?_⟩;funext c;by_cases hc:c=q;subst hc;rw[ZD4,ZH hq,ZD4];rw[ZD6 _ _ hc];cases ha:a c with
  |some x=>rw[Zp ha,Zp ha]
  |none=>rw[ZH ha,ZH ha,ZD6 _ _ hc]
theorem Mk.unwS{P:Program}{A:St}{m:Option D}{Ψ:Option D→St→Prop}(h:Ψ m A):∀{qs:List Nat} {S:St},Mk A qs S→Unw P (qs.map .mark) m S Ψ
 | [],S,hm=>by rw[show S=A from hm];exact h
 |q::qs,S,hm=>by
  obtain⟨S',h1,h2,rfl⟩:=hm;refine⟨ZD4 _ _ _,?_⟩;have e:(S'.upd q .dfr).del q=S':=by funext c;by_cases hc:c=q;subst hc;simp[St.del,h2];simp[St.del,ZEv,hc]
  rw[e];exact Mk.unwS h h1
theorem QF{s t:St}{b:Nat}(h:(s.or t) b=nO):s b=nO∧t b=nO:=by
 cases hs:s b with
 |none=>rw[ZH hs]at h;exact⟨rfl,h⟩
 |some o=>rw[Zp hs]at h;simp at h
theorem Zyt{a s t:St}(h1:Z6 a s)(h2:Z6 (a.or s) t):Z6 a (s.or t):=fun b o hb=>by
 cases hs:s b with
 |some x=>exact h1 b x hs
 |none =>rw[ZH hs]at hb;exact(QF (h2 b o hb)).1
theorem Zgv{s t:St}{b:Nat}{o:Z1}(h:s b=nO):(s.or t).upd b o=s.or (t.upd b o):=by
 funext c;by_cases hc:c=b;subst hc;rw[ZD4,ZH h,ZD4];rw[ZD6 _ _ hc];cases hs:s c with
 |some x=>rw[Zp hs,Zp hs]
 |none=>rw[ZH hs,ZH hs,ZD6 _ _ hc]
theorem Zfa{s t:St}{b:Nat}{o:Z1}(hd:Z6 s t)(h:s b=nO):Z6 s (t.upd b o):=fun c x hc=>by
 by_cases i:c=b;subst i;exact h;rw[ZD6 _ _ i]at hc;exact hd c x hc
theorem ZqT{s a t u:St}(h1:Z6 s (t.or u))(h2:Z6 (a.or t) u):Z6 s t∧Z6 (s.or t) u:=by
 refine⟨fun b o hb=>h1 b o (Zp hb),fun b o hb=>?_⟩;have h3:=(QF (h2 b o hb)).2;have h4:=h1 b o (by rw[ZH h3];exact hb);rw[ZH h4];exact h3
def goE(go:Nat→Oc)(k j:Nat):Oc:=match go (k+j) with
 |.next=>.next
 |.stop _=>.stop (.exit 0)
 |.pan d=>.pan d
theorem Zw8{go:Nat→Oc}{k j:Nat}(h:goE go k j=.next):go (k+j)=.next:=by
 unfold goE at h;split at h<;>first|assumption|simp at h
theorem ZjW{go:Nat→Oc}{k n:Nat}(h1:∀j,j<k→go j=.next)(h2:∀j,j<n→goE go k j=.next):∀j,j<k+n→go j=.next:=fun j hj=>by
 by_cases h:j<k;exact h1 j h;have:=Zw8 (h2 (j-k) (by omega))
 rwa [show k+(j-k)=j by omega]at this
theorem Zw5{α:Type}[Inhabited α]{a b c:List α}{k j:Nat}(hk:k=a.length)(hj:j<b.length):(a++(b++c)).getD (k+j) dE=b.getD j dE:=by
 subst hk;simp[ZEb,ZEH,ZEt hj]
theorem Znw(v:Val):∀(h:Int) (za zv:Nat),zv≠za→Zh4 ZDW (.fn (.func 140) [] [.ptr za 0,.ptr zv 0]) (KX v h).length (hvA (KX v h)) (ZcR v h za zv):=by
 induction v using Val.ind with
 |h v ih =>
 intro h za zv ba l go A a0 ap hA hd;have hL:=Zgx v h;obtain⟨h1,a3⟩:∃h1,h1=IntKind.i64.wrap (h+1):=⟨_,rfl⟩;rw[←a3]at hL;generalize KX v h=LL at *;have aj:0<LL.length:=by rw[hL];simp
 have be:hvA LL 0=[.int .i64 h,.agg [.str v.name,.int .i64 v.int,ZL v.bytes,ZX v.hdrs,ZW v.parts]]:=by unfold hvA;rw[hL,←ZEg];rfl
 refine Za.V (first:=[]) (args:=[.fn (.yield l) [] []]) (caps:=[.ptr za 0,.ptr zv 0]) (Zd (cR 140 f140) fun F hF=>?_);have ga:=Zyv (v:=v) (h:=h) (za:=za) (zv:=zv);have gv:=Zyw (v:=v) (h:=h) ba;rw[ZEg]at gv;generalize ZcR v h za zv=T at *;refine rg ?_;refine Ym (Zb (Zb ?_));refine xP 3 fun z3 h3=>?_;obtain⟨aw,ak⟩:=QF h3;have ax:((a0.or T).upd z3 (.cells [.fn (.yield l) [] []]))=a0.or (T.upd z3 (.cells [.fn (.yield l) [] []])):=Zgv aw;rw[ax];clear ax;have al:=Zfa (o:=.cells [.fn (.yield l) [] []]) hd aw;have g3:(T.upd z3 (.cells [.fn (.yield l) [] []])) z3=sO (.cells [.fn (.yield l) [] []]):=ZD4 _ _ _;have ay:(T.upd z3 (.cells [.fn (.yield l) [] []])) za=sO (.cells [.int .i64 h]):=by rw[ZD6 _ _ (fun e=>by rw[←e,ga]at ak;simp at ak)];exact ga
 have a6:(T.upd z3 (.cells [.fn (.yield l) [] []])) zv=sO (.cells [.str v.name,.int .i64 v.int,ZL v.bytes,ZX v.hdrs,ZW v.parts]):=by rw[ZD6 _ _ (fun e=>by rw[←e,gv]at ak;simp at ak)];exact gv
 clear h3 aw ak ga gv hd;generalize (T.upd z3 (.cells [.fn (.yield l) [] []]))=T3 at *;have rd:∀{a Tq:St} {b:Nat} {o:Z1},Z6 a Tq→Tq b=sO o→(a.or Tq) b=sO o:=fun aq hb=>by rw[ZH (aq _ _ hb)];exact hb
 have u:=(ap 0 aj (fun i hi=>absurd hi (Nat.not_lt_zero _)) a0 hA).frame al;rw[be]at u;refine rh ?_;refine Zl ?_;simp only[Eqs,reduceCtorEq,ZD2,reduceIte,ZD0,ZD3,ZD1,rd al g3,rd al ay,rd al a6];refine vV (u) ?_ ?_
 ·rintro d S ⟨s',⟨hr,ab⟩,ad,rfl⟩;cases t:go 0 with
  |next =>
   rw[t]at hr;cases hr;refine gR0 ?_;refine i0 ?_;refine rh ?_;refine Zl ?_;simp only[Eqs,reduceCtorEq,ZD2,reduceIte,ZD0,ZD3,ZD1,rd ad a6,Zb2];refine Zx2 14 rfl fun a7=>?_;have hw:=ZhH a7;unfold big at hw;clear a7 u al hA;refine Zc ?_;refine lpU (fun Q=>∀(n i:Nat),(v.parts.length)-i=n→∀(F:Fr ZDW) (qs:List Nat) (Tq a:St),YK F [] (fun r S=>∃a,Zgc LL.length go A a r∧a.sub S) (qs.map .mark)→Mk T3 qs Tq→Z6 a Tq→A (1+(preWL (v.parts.take i) h1).length) a→(∀j,j<1+(preWL (v.parts.take i) h1).length→go j=.next)→i≤v.parts.length→Q F [(1,.d (.ptr za 0)),(3,.d (.ptr z3 0)),(14,.d (ZW v.parts)),(15,.d (.int .i64 v.parts.length)),(16,.d (.int .i64 i))] [] (a.or Tq)) ?_ fun bc=>?_
   ·intro n;induction n using Nat.strongRecOn with
    |ind n ih_key =>
    clear ad ab t hF s';intro i hn F qs Tq a hF ai aq hA ag hi;refine rg ?_;refine Zb (Zu rfl trivial (fun hc=>?_) (fun hc=>?_))
    ·simp at hc;have bb:=Qq hc;have a4:=ZC hc;have hT:=ZmS hc h1;have hS:=Zsi hc h1;have bf:=ih _ a4;generalize hk:1+(preWL (v.parts.take i) h1).length=k at *;generalize hx:v.parts.getD i dE=x at *;refine xA (nd2 @atV @bb) ?_;refine rh ?_;refine Q7 ?_;simp only[Eqs,reduceCtorEq,ZD2,reduceIte,ZD0,ZD3,ZD1,Qu,JM,rd aq (ai.get ay)];refine Zd3 rfl rfl rfl (by trivial) (Q7 ?_);simp only[Eqs,reduceCtorEq,ZD2,reduceIte,ZD0,ZD3,ZD1,Qu,JM];rw[←a3];have a5:=ZhQ x h1 (a.or Tq);rw[ZEg]at a5;refine cV (a5) ?_ ?_
     ·rintro dd S ⟨zx,zy,n1,n2,ne,hr,rfl⟩;cases hr;refine gR0 ?_;refine Zc ?_;refine Ka hF rfl trivial [1,3,14,15,16] (by show([1,3,14,15,16]:List Nat).Nodup;decide) (ZoJ n1 n2) (bf h1 zx zy ne) (fun j hj=>rfl) (goE go k) (fun j s=>∃a,s=a.or Tq∧A (k+j) a∧Z6 a Tq) ⟨a,rfl,hA,aq⟩ ?_ ?_ ?_ ?_ ?_ ?_
      ·rintro j _ hj z ⟨a1,rfl,af,ac⟩ F' ready busy hdr az ao;have a9:LL.getD (k+j) dE=(KX x h1).getD j dE:=by rw[hL,hS,←hk,←List.cons_append];exact Zw5 (by simp;omega) hj
       have am:k+j<LL.length:=by rw[hL,hS];simp only[ZEf,ZD8];omega
       have u:=ap (k+j) am (fun i hi=>ZjW ag z i hi) a1 af;unfold hvA at u;rw[a9]at u;simp only[Eqs,reduceCtorEq,ZD2,reduceIte,ZD0,ZD3,ZD1,Ws,WG,Qy,WU,List.isEmpty_nil,List.isEmpty_cons,hvA];generalize (KX x h1).getD j dE=g at *;obtain⟨gh,gx⟩:=g;simp only[ZEg]at u⊢;refine gG ?_;refine az fun av=>?_;have ah:=u.frame (Zyt ac av);rw[←or_assoc]at ah;refine rh ?_;refine Zl ?_;simp only[Eqs,reduceCtorEq,ZD2,reduceIte,ZD0,ZD3,ZD1,Zp (rd ac (ai.get g3))];refine vV (ah) ?_ ?_
       ·rintro d S ⟨s',⟨hr,ab⟩,ad,rfl⟩;have ae:=ZqT ad av;rw[←or_assoc];cases t:go (k+j) with
        |next =>rw[t]at hr;cases hr;refine gR0 ?_;refine i0 ?_;refine Zy (Zj ?_);exact ao.fin ⟨by unfold goE;rw[t],s',rfl,ab,ae.1⟩ ae.2 (ZDY _)
        |stop c =>rw[t]at hr;cases hr;refine gR0 ?_;refine i1 ?_;exact ao.exit rfl ⟨by unfold goE;rw[t],s',rfl,ab,ae.1⟩ ae.2 (ZDY _)
        |pan d=>rw[t]at hr;cases hr
       rintro d S ⟨s',⟨hr,ab⟩,ad,rfl⟩;have ae:=ZqT ad av;cases t:go (k+j) with
       |pan d' =>rw[t]at hr;cases hr;rw[←or_assoc];exact ao.pan ⟨by unfold goE;rw[t],s',rfl,ab,ae.1⟩ ae.2 (ZDY _)
       |next=>rw[t]at hr;cases hr
       |stop c=>rw[t]at hr;cases hr
      rintro q _ z ⟨a1,rfl,af,ac⟩ hq;obtain⟨q1,q2⟩:=QF hq;rw[Zgv q1];have ar:1+(preWL (v.parts.take (i+1)) h1).length=k+(KX x h1).length:=by rw[hT,ZD8];omega
      refine gA ?_;refine Zg ?_;exact ih_key (v.parts.length-(i+1)) (by omega) (i+1) rfl (F.mark q) (q::qs) (Tq.upd q .dfr) a1 (hF.mark q) ⟨Tq,ai,q2,rfl⟩ (Zfa ac q1) (by rw[ar];exact af) (by rw[ar];exact ZjW ag z) (by omega);rintro q _ m hm z t;unfold goE at t;split at t<;>simp at t;rintro q _ m id hm z t ⟨a1,rfl,af,ac⟩ hq;obtain⟨q1,q2⟩:=QF hq;rw[Zgv q1];have am:k+m<LL.length:=by rw[hL,hS];simp only[ZEf,ZD8];omega
      unfold goE at t;split at t;simp at t;rename_i c au;simp only[Oc.stop.injEq,Code.exit.injEq]at t;subst t;refine ZQ rfl ?_;refine Z4 ?_;exact(hF.mark q).finU (Mk.unwS (m:=nO) (qs:=q::qs) (A:=a1.or T3) ⟨_,_,.tup [],_,rfl,trivial,ZDZ _,ZDY _,a1,.stop (k+m) c am (ZjW ag z) au af,Kg _ _⟩ (Mk.or (qs:=q::qs) (S:=Tq.upd q .dfr) ⟨Tq,ai,q2,rfl⟩ (Zfa ac q1)));simp at t;rintro q _ m d hm z t ⟨a1,rfl,af,ac⟩ hq;obtain⟨q1,q2⟩:=QF hq;rw[Zgv q1];have am:k+m<LL.length:=by rw[hL,hS];simp only[ZEf,ZD8];omega
      unfold goE at t;split at t;simp at t;simp at t;rename_i d' au;simp only[Oc.pan.injEq]at t;subst t;exact(hF.mark q).panU (Mk.unwS (m:=sO _) (qs:=q::qs) (A:=a1.or T3) ⟨_,_,ZDZ _,ZDY _,a1,.pan (k+m) _ am (ZjW ag z) au af,Kg _ _⟩ (Mk.or (qs:=q::qs) (S:=Tq.upd q .dfr) ⟨Tq,ai,q2,rfl⟩ (Zfa ac q1)));intro m c t;unfold goE at t;split at t<;>simp at t;exact .inr ⟨0,t.symm⟩
     rintro dd S ⟨zx,zy,n1,n2,ne,hr,_⟩;cases hr
    simp at hc;obtain rfl:i=v.parts.length:=by omega
    rw[ZEy]at hA ag;have a8:LL.length=1+(preWL v.parts h1).length:=by rw[hL,ZEf];omega
    rw[←a8]at hA ag;refine ZQ rfl (Z4 ?_);exact hF.finU (Mk.unwS (m:=nO) (A:=a.or T3) ⟨_,_,.tup [],_,rfl,trivial,ZDZ _,ZDY _,a,.all ag hA,Kg _ _⟩ (Mk.or ai aq))
   exact bc _ 0 rfl F [] T3 s' hF rfl ad (by simpa[preWL]using ab) (fun j hj=>by
    obtain rfl:j=0:=by simp[preWL]at hj;omega
    exact t) (by omega)
  |stop c =>rw[t]at hr;cases hr;refine gR0 ?_;refine i1 ?_;exact hF.ret (.tup []) _ rfl trivial (ZDZ _) (ZDY _) ⟨s',.stop 0 c aj (fun i hi=>absurd hi (Nat.not_lt_zero _)) t ab,Kg _ _⟩
  |pan d=>rw[t]at hr;cases hr
 rintro d S ⟨s',⟨hr,ab⟩,ad,rfl⟩;cases t:go 0 with
 |pan d' =>rw[t]at hr;cases hr;exact hF.pan _ (ZDY _) ⟨s',.pan 0 d aj (fun i hi=>absurd hi (Nat.not_lt_zero _)) t ab,Kg _ _⟩
 |next=>rw[t]at hr;cases hr
 |stop c=>rw[t]at hr;cases hr
theorem Zfk{l:List Val}{h:Int}{p:Int×Val}:p∈preWL l h↔∃x∈l,p∈KX x h:=by
 induction l with
 |nil=>simp[preWL]
 |cons v r ih=>simp only[preWL,List.mem_append,ih,ZEz,exists_eq_or_imp]
theorem ZrA(v:Val):∀h,(KX v h).length=JR v:=by
 induction v using Val.ind with
 |h v ih =>
  intro h;rw[Zgx,QO,ZEf];have:∀(l:List Val) (k:Int),(∀x∈l,∀k,(KX x k).length=JR x)→(preWL l k).length=nodesL l:=fun l k hl=>by
   induction l with
   |nil=>simp[preWL,nodesL]
   |cons a r ih2=>rw[preWL,ZD8,hl a (by simp),ih2 fun x hx=>hl x (by simp[hx]),nodesL]
  rw[this v.parts _ ih];omega
theorem Zs9(v:Val):∀h,Z3 v=true↔∀p∈KX v h,QN p.2=true:=by
 induction v using Val.ind with
 |h v ih =>intro h;rw[Zgx,Zey,ZD5,ZdV,List.all_eq_true];constructor;rintro⟨h1,h2⟩ p hp;rcases List.mem_cons.1 hp with rfl|hp;exact h2;obtain⟨x,hx,hp⟩:=Zfk.1 hp;exact(ih x hx _).1 (h1 x hx) p hp;intro i;refine⟨fun x hx=>(ih x hx _).2 fun p hp=>i p (List.mem_cons_of_mem _ (Zfk.2 ⟨x,hx,hp⟩)),i (h,v) (by simp)⟩
theorem Zxy(v:Val):∀h:Int,0≤h→h+ZN v≤4611686018427387904→∀p∈KX v h,p.1<h+ZN v:=by
 induction v using Val.ind with
 |h v ih =>intro h h0 hb p hp;rw[Zgx]at hp;rw[K7]at hb⊢;rcases List.mem_cons.1 hp with rfl|hp;show h<_;omega;obtain⟨x,hx,hp⟩:=Zfk.1 hp;have h1:=ZfQ hx;rw[Zat (by omega)]at hp;have:=ih x hx (h+1) (by omega) (by omega) p hp;omega
theorem Zt5{l:List Val}{k:Nat}(h:k<heightL l):∃x∈l,k<ZN x:=by
 induction l with
 |nil=>simp[heightL]at h
 |cons v r ih =>simp only[heightL]at h;by_cases h1:k<ZN v;exact⟨v,by simp,h1⟩;obtain⟨x,hx,hk⟩:=ih (by omega);exact⟨x,by simp[hx],hk⟩
theorem Zuv(v:Val):∀(k:Nat) (h:Int),0≤h→h+k≤4611686018427387904→k<ZN v→∃p∈KX v h,p.1=h+k:=by
 induction v using Val.ind with
 |h v ih =>
  intro k h h0 hb hk;rw[Zgx];cases k with
  |zero=>exact⟨(h,v),by simp,by simp⟩
  |succ k =>rw[K7]at hk;obtain⟨x,hx,i⟩:=Zt5 (show k<heightL v.parts by omega);rw[Zat (by omega)];obtain⟨p,hp,he⟩:=ih x hx k (h+1) (by omega) (by omega) i;exact⟨p,List.mem_cons_of_mem _ (Zfk.2 ⟨x,hx,hp⟩),by rw[he];omega⟩
def ZfG(L:List (Int×Val))(j:Nat):Bool:=(dC ((65536:Int)<(j:Int)+1) ||decide ((40:Int)<(L.getD j dE).1))||!QN (L.getD j dE).2
theorem ZwB{v:Val}(h:∀j,j<(KX v 1).length→ZfG (KX v 1) j=false):Kp v=true:=by
 have hl:=ZrA v 1;have hp:∀p∈KX v 1,p.1≤40∧QN p.2=true:=fun p hp=>by obtain⟨j,hj,rfl⟩:=ZEe hp;have:=h j hj;unfold ZfG at this;simp only[Bool.or_eq_false_iff,decide_eq_false_iff_not,Bool.not_eq_false',List.getD_eq_getElem?_getD,ZEr hj,ZEB]at this;exact⟨by omega,this.2⟩
 have h0:0<JR v:=by rw[QO];omega
 have h1:=h ((KX v 1).length-1) (by omega);unfold ZfG at h1;simp only[Bool.or_eq_false_iff,decide_eq_false_iff_not]at h1;unfold Kp;rw[(Zs9 v 1).2 fun p i=>(hp p i).2,Bool.and_true,ZD5,decide_eq_true_eq,decide_eq_true_eq];refine⟨by omega,?_⟩;by_cases hh:ZN v≤40;omega;obtain⟨p,i,he⟩:=Zuv v 40 1 (by omega) (by omega) (by omega);have:=(hp p i).1;omega
theorem ZwA{v:Val}{j:Nat}(hj:j<(KX v 1).length)(h:ZfG (KX v 1) j=true):Kp v=false:=by
 cases hv:Kp v with
 |false=>rfl
 |true =>exfalso;unfold Kp at hv;simp only[ZD5,decide_eq_true_eq]at hv;obtain⟨⟨h1,h2⟩,h3⟩:=hv;have hl:=ZrA v 1;have hm:(KX v 1).getD j dE∈KX v 1:=ZC hj;have h4:=Zxy v 1 (by omega) (by omega) _ hm;have h5:=(Zs9 v 1).1 h3 _ hm;unfold ZfG at h;rw[h5]at h;simp only[Bool.not_true,Bool.or_false,ZEk,decide_eq_true_eq]at h;omega
theorem Zop(v:Val):Zf ZDW 46 [.agg v.cells] (.bool (Kp v)):=by
 refine fun st=>Zd (cR 46 f46) fun F hF=>?_;have af:=ZhQ v 1 st;have ak:=Znw v 1;have ab:=ZwB (v:=v);have ag:=fun j=>ZwA (v:=v) (j:=j);rw[ZEg]at af⊢;generalize KX v 1=L at *;refine gG ?_;refine rg ?_;refine cV (af) ?_ ?_
 ·rintro dd S ⟨za,zv,n1,n2,ne,hr,rfl⟩;cases hr;refine gR0 ?_;refine Zc ?_;refine xP 2 fun z2 h2=>?_;obtain⟨am,aj⟩:=QF h2;rw[WD];refine xP 3 fun z3 h3=>?_;obtain⟨al,ah⟩:=QF h3;rw[WD];have k3:=Zq al;have g2:∀c,((st.upd z2 (.cells [.bool false])).upd z3 c) z2=sO (.cells [.bool false]):=fun c=>by rw[ZD6 _ _ (Ne.symm k3.1)];exact ZD4 _ _ _
  have g3:∀c,((st.upd z2 (.cells [.bool false])).upd z3 c) z3=sO c:=fun c=>ZD4 _ _ _;have z:∀c o,st.sub (((st.upd z2 (.cells [.bool false])).upd z3 c).upd z2 o):=fun c o b x hb=>by
   have e2:b≠z2:=fun e=>by rw[e,am]at hb;simp at hb
   have e3:b≠z3:=fun e=>by rw[e,k3.2]at hb;simp at hb
   rw[ZD6 _ _ e2,ZD6 _ _ e3,ZD6 _ _ e2];exact hb
  have ai:∀c,Z6 ((st.upd z2 (.cells [.bool false])).upd z3 c) (ZcR v 1 za zv):=fun c b o hb=>by
   have e2:b≠z2:=fun e=>by rw[e,aj]at hb;simp at hb
   have e3:b≠z3:=fun e=>by rw[e,ah]at hb;simp at hb
   rw[ZD6 _ _ e3,ZD6 _ _ e2];exact ZoJ n1 n2 b o hb
  refine Ka hF rfl trivial [2,3] (by show([2,3]:List Nat).Nodup;decide) (ai _) (ak za zv ne) (fun j hj=>rfl) (fun j=>if ZfG L j then .stop .ret else .next) (fun j a=>a=(st.upd z2 (.cells [.bool false])).upd z3 (.cells [.int .i64 j])) rfl ?_ ?_ ?_ ?_ ?_ ?_
  ·intro j a hj t hB F' ready ae hdr ac n;subst hB;have hj2:j≤65536:=by refine Nat.le_of_not_lt fun ap=>?_;have:=t 65536 ap;rw[if_pos (by unfold ZfG;simp)]at this;simp at this
   have hN:=ZpN (L.getD j dE).2;have ad:=ZfG.eq_1 L j;simp only[Eqs,reduceCtorEq,ZD2,reduceIte,ZD0,ZD3,ZD1,Ws,WG,Qy,WU,List.isEmpty_nil,List.isEmpty_cons,hvA];generalize L.getD j dE=g at *;obtain⟨gh,gx⟩:=g;simp only[ZEg]at hN ad⊢;refine gG ?_;refine ac fun ao=>?_;have u:Z6 ((st.upd z2 (.cells [.bool false])).upd z3 (.cells [.int .i64 ((j+1:Nat):Int)])) ae:=fun b o hb=>by have h1:=Zq (ao b o hb);rw[ZD6 _ _ h1.1];exact h1.2
   refine rh ?_;refine Zl ?_;simp only[Eqs,reduceCtorEq,ZD2,reduceIte,ZD0,ZD3,ZD1,Zp (g3 _),WD];refine aa ?_;rw[ZEj,show(j:Int)+1=((j+1:Nat):Int) by omega];refine rh ?_;refine Zl ?_;simp only[Eqs,reduceCtorEq,ZD2,reduceIte,ZD0,ZD3,ZD1,Zp (g3 _)];refine cG (hN) ?_;rw[show((j+1:Nat):Int)=(j:Int)+1 by omega,←ad];cases hb:ZfG L j with
   |true =>rw[hb]at n;refine i1 ?_;refine rh ?_;refine Zl ?_;simp only[Eqs,reduceCtorEq,ZD2,reduceIte,ZD0,ZD3,ZD1,Zp (g2 _),WD];rw[show(j:Int)+1=((j+1:Nat):Int) by omega,St.upd_self (g2 _)];exact n.ret ⟨rfl,rfl⟩ u (ZDY _)
   |false =>rw[hb]at n;refine i0 ?_;refine Zy (Zj ?_);rw[show(j:Int)+1=((j+1:Nat):Int) by omega];exact n.fin ⟨rfl,rfl⟩ u (ZDY _)
  intro q a t hB hq;subst hB;have hv:Kp v=true:=ab fun j hj=>by have:=t j hj;split at this;simp at this;rename_i h;simpa using h
  rw[KG hq];have aq:(((st.upd z2 (.cells [.bool false])).upd z3 (.cells [.int .i64 L.length])).upd z2 (.cells [.bool true])) q=nO:=by rw[ZD6 _ _ (fun e=>by rw[e,g2]at hq;simp at hq)];exact hq
  have gg:(((st.upd z2 (.cells [.bool false])).upd z3 (.cells [.int .i64 L.length])).upd z2 (.cells [.bool true])) z2=sO (.cells [.bool true]):=ZD4 _ _ _;refine rh ?_;refine Zl ?_;simp only[Eqs,reduceCtorEq,ZD2,reduceIte,ZD0,ZD3,ZD1,Zp (g2 _),WD];exact hF.ret1 aq (.bool true) st (by simp only[Eqs,reduceCtorEq,ZD2,reduceIte,ZD0,ZD3,ZD1,Yt,WV,gg];rfl) (by trivial) (ZDZ _) (z _ _) ⟨by rw[hv],rfl⟩;intro q a m hm t i hB hq;subst hB;have hb:ZfG L m=true:=by split at i;assumption;simp at i
  rw[KG hq];have hs:st.sub ((st.upd z2 (.cells [.bool false])).upd z3 (.cells [.int .i64 ((m+1:Nat):Int)])):=by
   have:=z (.cells [.int .i64 ((m+1:Nat):Int)]) (.cells [.bool false])
   rwa [St.upd_self (g2 _)]at this
  exact hF.ret1 hq (.bool false) st (by simp only[Eqs,reduceCtorEq,ZD2,reduceIte,ZD0,ZD3,ZD1,Yt,WV,g2];rfl) (by trivial) (ZDZ _) hs ⟨by rw[ag m hm hb],rfl⟩;intro q a m id hm t i;split at i<;>simp at i;intro q a m d hm t i;split at i<;>simp at i;intro m c i;split at i<;>simp at i;exact .inl i.symm
 rintro dd S ⟨za,zv,n1,n2,ne,hr,_⟩;cases hr
def Kz(a b:Int):Int:=if a<b then -1 else if b<a then 1 else 0
theorem Zde{a b:Int}:Kz a b=0↔a=b:=by
 unfold Kz;split;constructor<;>omega;split;constructor<;>omega;constructor<;>omega
def WH:Str→Str→Int
 |x::a,y::b=>if x.toNat<y.toNat then -1 else if y.toNat<x.toNat then 1 else WH a b
 |a,b=>Kz a.length b.length
theorem Zdt:∀{a b:Str},WH a b=0↔a=b
 | [],[]=>by simp[WH,Kz]
 | [],y::b=>by simp[WH,Zde];omega
 |x::a,[]=>by simp[WH,Zde];omega
 |x::a,y::b=>by
  unfold WH;split;rename_i h;constructor;intro h';omega;intro h';cases h';omega;split;rename_i h h2;constructor;intro h';omega;intro h';cases h';omega;rename_i h h2;rw[Zdt];have:x.toNat=y.toNat:=by omega
  rw[UInt8.toNat_inj.1 this];simp
theorem Zwv{a b:Str}{i:Nat}(ha:i<a.length)(hb:i<b.length):WH (a.drop i) (b.drop i) =
  if (a.getD i 0).toNat<(b.getD i 0).toNat then -1 else if (b.getD i 0).toNat<(a.getD i 0).toNat then 1 else WH (a.drop (i+1)) (b.drop (i+1)):=by
 rw[List.drop_eq_getElem_cons ha,List.drop_eq_getElem_cons hb];simp[WH,ZEb,ha,hb]
theorem ZxQ{a b:Str}{i:Nat}(ha:i≤a.length)(hb:i≤b.length)(h:¬(i<a.length∧i<b.length)):WH (a.drop i) (b.drop i)=Kz a.length b.length:=by
 have h1:(a.drop i).length=a.length-i:=ZEx ..;have h2:(b.drop i).length=b.length-i:=ZEx ..;have j:∀x y:Str,(x=[]∨y=[])→WH x y=Kz x.length y.length:=fun x y n=>by
  cases x with
  |nil=>cases y<;>rfl
  |cons c x=>cases y with
   |nil=>rfl
   |cons e y=>simp at n
 rw[j _ _ (by
  by_cases hi:i<a.length;exact .inr (ZEE (by omega));exact .inl (ZEE (by omega))),h1,h2]
 unfold Kz;split<;>split<;>(try split)<;>(try split)<;>omega
theorem Zc1(a b:Int):Zf ZDW 39 [.int .i64 a,.int .i64 b] (.int .i64 (Kz a b)):=by
 refine Zo (cR 39 f39) fun F st i=>?_;refine gG ?_;refine cd (fun h=>?_) (fun h=>?_);refine rg ?_;refine ri i ?_;simp at h;simp[Kz,h];refine rg ?_;refine cd (fun h2=>?_) (fun h2=>?_);refine rg ?_;refine ri i ?_;simp at h h2;unfold Kz;rw[if_neg (by omega),if_pos h2];refine rg ?_;refine ri i ?_;simp at h h2;unfold Kz;rw[if_neg (by omega),if_neg (by omega)]
theorem Zb9(a b:Str):Zf ZDW 38 [.str a,.str b] (.int .i64 (WH a b)):=by
 refine YS (cR 38 f38) fun u F st j=>?_;have ha:=(u (.str a) (by simp)).str_inv;have hb:=(u (.str b) (by simp)).str_inv;unfold big at ha hb;clear u;refine gG ?_;refine Zc (fr (a.length) (fun i Q=>WH a b=WH (a.drop i) (b.drop i)→i≤a.length→i≤b.length→Q [(0,.d (.str a)),(1,.d (.str b)),(5,.d (.int .i64 i))] [] st) (fun n t=>?_) fun ab=>?_);intro i hn he z ac;refine gA ?_;refine cd (fun hd=>?_) (fun hd=>?_);simp at hd;have hs:=Zwv hd.1 hd.2;rw[he]at j;refine gA ?_;refine cd (fun h1=>?_) (fun h1=>?_);refine rg ?_;refine ri j ?_;simp only[decide_eq_true_eq]at h1;rw[hs,if_pos (by omega)];refine gA ?_;refine cd (fun h2=>?_) (fun h2=>?_);refine rg ?_;refine ri j ?_;simp only[decide_eq_true_eq,decide_eq_false_iff_not]at h1 h2;rw[hs,if_neg (by omega),if_pos (by omega)];refine gA ?_;simp only[decide_eq_true_eq,decide_eq_false_iff_not]at h1 h2;refine Zg ?_;exact t ((a.length)-(i+1)) (by omega) (i+1) rfl (by rw[he,hs,if_neg (by omega),if_neg (by omega)]) (by omega) (by omega);simp only[ZEF,decide_eq_false_iff_not]at hd;refine rg ?_;refine cl (Zc1 a.length b.length) ?_;refine ri j ?_;rw[he,ZxQ z ac (by omega)];exact ab _ 0 rfl (by simp) (by omega) (by omega)
def JC:List Hdr→List Hdr→Int
 |x::a,y::b=>if WH x.name y.name≠0 then WH x.name y.name else if WH x.text y.text≠0 then WH x.text y.text else JC a b
 |a,b=>Kz a.length b.length
theorem ZoY:∀{a b:List Hdr},JC a b=0↔a=b
 | [],[]=>by simp[JC,Kz]
 | [],y::b=>by simp[JC,Zde];omega
 |x::a,[]=>by simp[JC,Zde];omega
 |⟨xn,xt⟩::a,⟨yn,yt⟩::b=>by unfold JC;have h1:=@Zdt xn yn;have h2:=@Zdt xt yt;have h3:=@ZoY a b;split;rename_i h;simp only[]at h;constructor;intro h';exact absurd h' h;intro h';simp only[List.cons.injEq,Hdr.mk.injEq]at h';exact absurd (h1.2 h'.1.1) h;split;rename_i h h';simp only[]at h';constructor;intro i;exact absurd i h';intro i;simp only[List.cons.injEq,Hdr.mk.injEq]at i;exact absurd (h2.2 i.1.2) h';rename_i h h';simp only[Decidable.not_not]at h h';rw[h3,List.cons.injEq,Hdr.mk.injEq];exact⟨fun e=>⟨⟨h1.1 h,h2.1 h'⟩,e⟩,fun e=>e.2⟩
theorem ZvG{a b:List Hdr}{i:Nat}(ha:i<a.length)(hb:i<b.length):JC (a.drop i) (b.drop i) =
  if WH (a.getD i dE).name (b.getD i dE).name≠0 then WH (a.getD i dE).name (b.getD i dE).name else if WH (a.getD i dE).text (b.getD i dE).text≠0 then WH (a.getD i dE).text (b.getD i dE).text
  else JC (a.drop (i+1)) (b.drop (i+1)):=by
 rw[List.drop_eq_getElem_cons ha,List.drop_eq_getElem_cons hb];simp[JC,ZEb,ha,hb]
theorem Zxb{a b:List Hdr}{i:Nat}(ha:i≤a.length)(hb:i≤b.length)(h:¬(i<a.length∧i<b.length)):JC (a.drop i) (b.drop i)=Kz a.length b.length:=by
 have h1:(a.drop i).length=a.length-i:=ZEx ..;have h2:(b.drop i).length=b.length-i:=ZEx ..;have j:∀x y:List Hdr,(x=[]∨y=[])→JC x y=Kz x.length y.length:=fun x y n=>by
  cases x with
  |nil=>cases y<;>rfl
  |cons c x=>cases y with
   |nil=>rfl
   |cons e y=>simp at n
 rw[j _ _ (by
  by_cases hi:i<a.length;exact .inr (ZEE (by omega));exact .inl (ZEE (by omega))),h1,h2]
 unfold Kz;split<;>split<;>(try split)<;>(try split)<;>omega
theorem Zn8(a b:List Hdr):Zf ZDW 40 [ZX a,ZX b] (.int .i64 (JC a b)):=by
 refine YS (cR 40 f40) fun u F st j=>?_;have ha:=(Wb (u (ZX a) (by simp))).1;have hb:=(Wb (u (ZX b) (by simp))).1;unfold big at ha hb;clear u;refine gG ?_;refine Zc (fr (a.length) (fun i Q=>JC a b=JC (a.drop i) (b.drop i)→i≤a.length→i≤b.length→Q [(0,.d (ZX a)),(1,.d (ZX b)),(5,.d (.int .i64 i))] [] st) (fun n t=>?_) fun ab=>?_);intro i hn he z ac;refine xA (nd2 @ZX.eq_1 @eQ1) ?_;refine cd (fun hd=>?_) (fun hd=>?_);simp at hd;have hs:=ZvG hd.1 hd.2;rw[he]at j;generalize hx:a.getD i dE=x at *;generalize hy:b.getD i dE=y at *;refine xA (nd2 @ZX.eq_1 (nd2 @eQ1 (nd2 @hx (nd2 @hy @Hdr.cells.eq_1)))) ?_;refine cl0 (Zb9 x.name y.name) ?_;refine rg ?_;refine cd (fun h1=>?_) (fun h1=>?_);simp at h1;refine xA (nd2 @ZX.eq_1 (nd2 @eQ1 (nd2 @hx (nd2 @hy @Hdr.cells.eq_1)))) ?_;refine cl0 (Zb9 x.text y.text) ?_;refine rg ?_;refine cd (fun h2=>?_) (fun h2=>?_);simp at h2;refine rg ?_;refine ri j ?_;rw[hs,if_neg (by simpa using h1),if_pos h2];simp at h2;refine gA ?_;refine Zg ?_;exact t ((a.length)-(i+1)) (by omega) (i+1) rfl (by rw[he,hs,if_neg (by simpa using h1),if_neg (by simpa using h2)]) (by omega) (by omega);simp at h1;refine rg ?_;refine cd (fun h2=>?_) (fun h2=>?_);refine rg ?_;refine ri j ?_;rw[hs,if_pos h1];simp at h2;exact absurd h2 h1;simp only[ZEF,decide_eq_false_iff_not]at hd;refine rx (nd2 @ZX.eq_1 @eQ1) ?_;refine cl (Zc1 a.length b.length) ?_;refine ri j ?_;rw[he,Zxb z ac (by omega)];exact ab _ 0 rfl (by simp) (by omega) (by omega)
def Yx(row:Nat→List D):Nat→List D
 |0=>[]
 |n+1=>Yx row n++row n
theorem Qd{row:Nat→List D}:∀{n:Nat},(∀j,j<n→(row j).length=5)→(Yx row n).length=n*5
 |0,_=>rfl
 |n+1,h=>by rw[Yx,ZD8,Qd fun j hj=>h j (by omega),h n (by omega)];omega
theorem ZkD{row row':Nat→List D}:∀{n:Nat},(∀j,j<n→row j=row' j)→Yx row n=Yx row' n
 |0,_=>rfl
 |n+1,h=>by rw[Yx,Yx,ZkD fun j hj=>h j (by omega),h n (by omega)]
theorem ZaI{row:Nat→List D}(X:List D):∀{n j:Nat},(∀j,j<n→(row j).length=5)→j<n→part (Yx row n++X) (j*5) 5=row j
 |0,j,_,hj=>absurd hj (Nat.not_lt_zero _)
 |n+1,j,h,hj=>by rcases Nat.lt_or_eq_of_le (Nat.le_of_lt_succ hj) with h1|rfl;have:=ZaI (row n++X) (n:=n) (j:=j) (fun k hk=>h k (by omega)) h1;rw[Yx,ZEA];exact this;unfold part;rw[Yx,ZEA,List.drop_left' (Qd fun k hk=>h k (by omega)),List.take_left' (h j (by omega))]
theorem Zir{row:Nat→List D}(X:List D)(k:Nat)(ds:List D)(hk:k+ds.length≤5):∀{n j:Nat},(∀j,j<n→(row j).length=5)→j<n →
  Zt (Yx row n++X) (j*5+k) ds=Yx (fun i=>if i=j then Zt (row j) k ds else row i) n++X
 |0,j,_,hj=>absurd hj (Nat.not_lt_zero _)
 |n+1,j,h,hj=>by
  have hl:(Yx row n).length=n*5:=Qd fun k hk=>h k (by omega);rcases Nat.lt_or_eq_of_le (Nat.le_of_lt_succ hj) with h1|rfl;have ih:=Zir (row n++X) k ds hk (n:=n) (j:=j) (fun k hk=>h k (by omega)) h1;rw[Yx,ZEA,ih,Yx,if_neg (by omega),ZEA];have hr:=h j (by omega);have h2:Yx (fun i=>if i=j then Zt (row j) k ds else row i) j=Yx row j:=ZkD fun i hi=>by rw[if_neg (by omega)]
  have e1:j*5+k-j*5=k:=by omega
  have e2:j*5+k+ds.length-j*5=k+ds.length:=by omega
  have t1:(Yx row j).take (j*5+k)=Yx row j:=List.take_of_length_le (by omega);have t2:(Yx row j).drop (j*5+k+ds.length)=[]:=ZEE (by omega);rw[Yx,Yx,h2,if_pos rfl];unfold Zt;rw[ZEA (Yx row j),List.take_append,List.take_append,List.drop_append,List.drop_append,hl,hr,e1,e2,t1,t2,show k-5=0 by omega,show k+ds.length-5=0 by omega];simp
inductive MT(T:St):Val→List D→List Nat→Prop where
 |leaf (n:Str) (i:Int) (b:Str) (h:List Hdr):MT T (.mk n i b h []) [.str n,.int .i64 i,ZL b,ZX h,ZW []] []
 |node (n:Str) (i:Int) (b:Str) (h:List Hdr) (ps:List Val) (x cap:Nat) (row:Nat→List D) (fp:Nat→List Nat) (X:List D) (hp:0<ps.length) (hb:T x=some (.cells (Yx row ps.length++X))) (hc:ps.length≤cap)
   (hx:∀j,j<ps.length→MT T (ps.getD j default) (row j) (fp j)) (hn:∀j,j<ps.length→x∉fp j) (hd:∀j k,j<ps.length→k<ps.length→j≠k→∀y∈fp j,y∉fp k) :
   MT T (.mk n i b h ps) [.str n,.int .i64 i,ZL b,ZX h,.msl x 0 ps.length cap 5] (x::(ZEa ps.length).flatMap fp)
theorem MT.len{T:St}{v:Val}{c:List D}{fp:List Nat}(h:MT T v c fp):c.length=5:=by cases h<;>rfl
theorem MT.mono{T T':St}{v:Val}{c:List D}{fp:List Nat}(h:MT T v c fp)(hT:∀y∈fp,T' y=T y):MT T' v c fp:=by
 induction h with
 |leaf n i b h=>exact .leaf n i b h
 |node n i b h ps x cap row fp X hp hb hc hx hn hd ih =>refine .node n i b h ps x cap row fp X hp (by rw[hT x (by simp)];exact hb) hc (fun j hj=>ih j hj fun y hy=>hT y ?_) hn hd;simp only[ZEz,List.mem_flatMap,List.mem_range];exact .inr ⟨j,hj,hy⟩
theorem MT.live{T:St}{v:Val}{c:List D}{fp:List Nat}(h:MT T v c fp):∀y∈fp,∃ds,T y=sO (.cells ds):=by
 induction h with
 |leaf=>intro y hy;simp at hy
 |node n i b h ps x cap row fp X hp hb hc hx hn hd ih =>intro y hy;simp only[ZEz,List.mem_flatMap,List.mem_range]at hy;rcases hy with rfl|⟨j,hj,hy⟩;exact⟨_,hb⟩;exact ih j hj y hy
theorem MT.ld{T:St}{v:Val}{c:List D}{fp:List Nat}(h:MT T v c fp):∀{Ln:List Nat},(∀y∈fp,y∈Ln)→LdC T Ln c v.cells:=by
 induction h with
 |leaf n i b h=>intro Ln _;rw[ZEg];exact LdC.refl _
 |node n i b h ps x cap row fp X hp hb hc hx hn hd ih =>intro Ln hL;rw[ZEg];have h5:∀j,j<ps.length→(row j).length=5:=fun j hj=>(hx j hj).len;refine .cons (.refl _) (.cons (.refl _) (.cons (.refl _) (.cons (.refl _) (.cons ?_ .nil))));refine YD.msl (hL x (by simp)) hb (by rw[ZD8,Qd h5];exact Nat.le_add_right _ _) fun j hj=>?_;rw[show((Yx row ps.length++X).drop (j*5)).take 5=row j from ZaI X h5 hj];show LdC T Ln (row j) (Zcb ps j);rw[Zdj hj];refine ih j hj fun y hy=>hL y ?_;simp only[ZEz,List.mem_flatMap,List.mem_range];exact .inr ⟨j,hj,hy⟩
structure MN(T:St)(v:Val)(c:List D)(fp:List Nat)(x cap:Nat)(row:Nat→List D)(f:Nat→List Nat)(X:List D):Prop where
 c:c=[.str v.name,.int .i64 v.int,ZL v.bytes,ZX v.hdrs,.msl x 0 v.parts.length cap 5]
 b:T x=some (.cells (Yx row v.parts.length++X))
 le:v.parts.length≤cap
 kid:∀j,j<v.parts.length→MT T (v.parts.getD j default) (row j) (f j)
 n:∀j,j<v.parts.length→x∉f j
 d:∀j k,j<v.parts.length→k<v.parts.length→j≠k→∀y∈f j,y∉f k
 fp:fp=x::(ZEa v.parts.length).flatMap f
theorem MT.inv{T:St}{v:Val}{c:List D}{fp:List Nat}(h:MT T v c fp)(hp:0<v.parts.length):∃x cap row f X,MN T v c fp x cap row f X:=by
 cases h with
 |leaf n i b h=>simp[Val.parts]at hp
 |node n i b h ps x cap row f X hp hb hc hx hn hd=>exact⟨x,cap,row,f,X,rfl,hb,hc,hx,hn,hd,rfl⟩
theorem MN.mt{T:St}{v:Val}{c:List D}{fp:List Nat}{x cap:Nat}{f:Nat→List Nat}{X:List D}(h:MN T v c fp x cap row f X)(hp:0<v.parts.length):MT T v c fp:=by
 obtain⟨h1,h2,h3,h4,h5,h6,h7⟩:=h;subst h1 h7;cases v;exact .node _ _ _ _ _ _ _ _ _ _ hp h2 h3 h4 h5 h6
def Val.setP(v:Val)(j:Nat)(w:Val):Val:=.mk v.name v.int v.bytes v.hdrs (v.parts.set j w)
def Val.setI(v:Val)(i:Int):Val:=.mk v.name i v.bytes v.hdrs v.parts
theorem MT.setI{T:St}{v:Val}{c:List D}{fp:List Nat}(h:MT T v c fp)(i:Int):MT T (v.setI i) (Zt c 1 [.int .i64 i]) fp:=by
 cases h with
 |leaf n i b h=>exact .leaf _ _ _ _
 |node n i b h ps x cap row f X hp hb hc hx hn hd=>exact .node _ _ _ _ _ _ _ _ _ _ hp hb hc hx hn hd
theorem Zes{l:List Val}{j k:Nat}{w:Val}(hj:j<l.length):(l.set j w).getD k dE=if k=j then w else l.getD k dE:=by
 simp only[ZEb,List.getElem?_set];by_cases h:k=j;subst h;simp[hj];simp[h,Ne.symm h]
theorem MN.child{T S:St}{v:Val}{c:List D}{fp:List Nat}{x cap:Nat}{f:Nat→List Nat}{X:List D}(h:MN T v c fp x cap row f X){j:Nat}(hj:j<v.parts.length){w:Val}{r':List D}(hr:MT S w r' (f j))(hb:S x=sO (.cells (Yx (fun i=>if i=j then r' else row i) v.parts.length++X)))(ho:∀y,y≠x→y∉f j→S y=T y):MN S (v.setP j w) c fp x cap (fun i=>if i=j then r' else row i) f X:=by
 have hl:(v.setP j w).parts.length=v.parts.length:=by simp[Val.setP,Val.parts]
 refine⟨?_,by rw[hl];exact hb,by rw[hl];exact h.le,fun k hk=>?_,fun k hk=>h.n k (by omega),fun k l hk hl' u=>h.d k l (by omega) (by omega) u,by rw[hl];exact h.fp⟩;rw[hl];exact h.c;rw[hl]at hk;have e:(v.setP j w).parts.getD k dE=if k=j then w else v.parts.getD k dE:=Zes hj
 rw[e];by_cases t:k=j;subst t;rw[if_pos rfl,if_pos rfl];exact hr;rw[if_neg t,if_neg t];exact(h.kid k hk).mono fun y hy=>ho y (fun e=>h.n k hk (e▸hy)) (h.d k j hk hj t y hy)
theorem ZrV{E:List Str}{i:Nat}(h:i<E.length):(E.map D.str)[i]?=sO (.str (E.getD i [])):=by simp[ZEb,h]
theorem ZxP{E:List Str}{i:Nat}{s:Str}(h:i<E.length):List.take (i*1) (E.map D.str)++[.str s]++List.drop (i*1+1) (E.map D.str)=(E.set i s).map D.str:=by
 rw[Nat.mul_one,List.map_set,List.set_eq_take_append_cons_drop,if_pos (by simpa using h)];simp
theorem Zu3(n:Nat):KT [.str []] n=(List.replicate n []).map D.str:=by
 induction n with
 |zero=>rfl
 |succ n ih=>simp_all[KT,List.replicate_succ]
theorem ZgH{b c:Nat}{l:List Str}{S:St}(hb:S b=sO (.cells (l.map .str)))(hl:l.length≤1000000)(f:D)(p:Str→Bool)(hf:∀x,VT ZDW f [.str x] S (.bool (p x)) S):
  ZP ZDW 245 [.msl b 0 l.length c 1,f] S (.int .i64 (Zi p l)) S:=by
 refine ZG (cR 245 f245) fun hwf F t=>?_;refine gG ?_;refine Zc (fr (l.length) (fun i Q=>i≤l.length→(∀j,j<i→p (l.getD j dE)=false)→Q [(0,.d (.msl b 0 l.length c 1)),(1,.d f),(7,.d (.int .i64 l.length)),(8,.d (.int .i64 i))] [] S) (fun n u=>?_) fun ac=>?_);intro i hn hi z;refine rg ?_;refine Zb (Zu rfl trivial (fun h1=>?_) (fun h1=>?_));simp at h1;have hg:=ZrV h1;have ad:(l.map D.str)[i*1]?=sO (.str (l.getD i [])):=by rw[Nat.mul_one];exact hg
 refine rg ?_;refine xA (nd2 @hb (nd2 @hg @ad)) ?_;refine cW (hf _) ?_;refine cd (fun h2=>?_) (fun h2=>?_);have e1:=Kj h1 h2 z;rw[e1]at t;refine rg ?_;exact t rfl (by trivial) (ZDZ _) (ZDY _);refine gA ?_;refine Zg ?_;exact u ((l.length)-(i+1)) (by omega) (i+1) rfl (by omega) (Ye (q:=fun j=>p (l.getD j dE)=false) z h2);simp at h1;obtain rfl:i=l.length:=by omega
 have ab:∀x∈l,p x=false:=fun x hx=>by obtain⟨j,hj,rfl⟩:=ZEe hx;have:=z j hj;simpa[ZEb,hj]using this
 rw[WP ab]at t;refine rg ?_;exact t rfl (by trivial) (ZDZ _) (ZDY _);exact ac _ 0 rfl (by omega) (by intro j hj;omega)
def QL(p:Str→Bool)(l:List Str):List Str:=l.filter fun x=>!p x
theorem ZvN(p:Str→Bool)(l:List Str):(QL p l).length≤l.length:=List.length_filter_le ..
theorem Zhg{p:Str→Bool}{l:List Str}{j:Nat}(h:j<l.length):QL p (l.take (j+1))=QL p (l.take j)++if p (l.getD j []) then [] else [l.getD j []]:=by
 rw[show l.getD j []=l.getD j dE from rfl,YJ h];unfold QL;rw[List.filter_append];congr 1;simp only[List.filter_cons,List.filter_nil];cases p (l.getD j dE)<;>rfl
theorem ZkJ{p:Str→Bool}{l:List Str}{i:Nat}(h:∀j,j<i→p (l.getD j dE)=false)(hi:i≤l.length):QL p (l.take i)=l.take i:=by
 unfold QL;rw[List.filter_eq_self];intro x hx;obtain⟨j,hj,rfl⟩:=ZEe hx;have h1:=h j (by rw[ZEh]at hj;omega);rw[ZEh]at hj;simpa[ZEb,show j<l.length by omega]using h1
theorem Zo3{p:Str→Bool}{l:List Str}(h:∀x∈l,p x=false):QL p l=l:=by
 unfold QL;rw[List.filter_eq_self];intro x hx;rw[h x hx];rfl
theorem ZpL{E:List Str}{k:Nat}{x:Str}(h:k<E.length):(E.set k x).take (k+1)=E.take k++[x]:=by
 rw[List.set_eq_take_append_cons_drop,if_pos h,show E.take k++x::E.drop (k+1)=(E.take k++[x])++E.drop (k+1) by simp,List.take_left' (by simp;omega)]
theorem ZtP{E:List Str}{k:Nat}(h:k≤E.length):Zt (E.map D.str) (k*1) (KT [.str []] (E.length-k))=((E.take k++List.replicate (E.length-k) []).map .str):=by
 unfold Zt;rw[Nat.mul_one,Zu3,ZEE (by simp;omega)];simp
theorem Zf8{b c:Nat}{l:List Str}{S:St}(hb:S b=sO (.cells (l.map .str)))(hl:l.length≤1000000)(hc:l.length≤c)(f:D)(p:Str→Bool)(hf:∀x T,VT ZDW f [.str x] T (.bool (p x)) T):
  Za ZDW 203 [.msl b 0 l.length c 1,f] S fun r T=>r=.ret (.msl b 0 (QL p l).length c 1)∧T=S.upd b (.cells ((QL p l++List.replicate (l.length-(QL p l).length) []).map .str)):=by
 refine Zd (cR 203 f203) fun F hF=>?_;have aq:=ZgH (c:=c) hb hl f p (fun x=>hf x S);refine gG ?_;refine ct (aq) ?_;refine aa ?_;refine rg ?_;by_cases ac:Zi p l<0;have am:Zi p l=-1:=by have:=Zar p l;omega
 rw[am];refine i1 ?_;refine rg ?_;exact hF.ret _ _ rfl (by trivial) (ZDZ _) (ZDY _) ⟨by rw[Zo3 (ZbX ac)];rfl,by rw[Zo3 (ZbX ac),Nat.sub_self,List.replicate_zero,ZEw];exact(St.upd_self hb).symm⟩;obtain⟨q0,ao⟩:∃q0:Nat,Zi p l=q0:=⟨(Zi p l).toNat,by omega⟩;have ar:=Wv p l;have af:=QY (p:=p) (l:=l) (by omega);rw[ao]at ar af⊢;have z:=fun j hj=>af.2 j hj;have ag:=af.1;simp only[Int.toNat_natCast]at z ag;have ad:q0<l.length:=by omega
 refine i0 ?_;refine gA ?_;refine Zc (fr (l.length) (fun j Q=>j≤l.length→∀(k:Nat) (E:List Str),E.length=l.length→k<j→k=(QL p (l.take j)).length→E.take k=QL p (l.take j)→E.drop j=l.drop j→Q [(0,.d (.msl b 0 l.length c 1)),(1,.d f),(5,.d (.int .i64 k)),(6,.d (.int .i64 j))] [] (S.upd b (.cells (E.map .str)))) (fun n t=>?_) fun ap=>?_)
 ·intro j hn hj k E hE hkj hk ab hdr;refine rg ?_;refine cd (fun h1=>?_) (fun h1=>?_)
  ·have ah:j<l.length:=by simp at h1;omega
   have hx:E.getD j []=l.getD j []:=by
    have h2:(E.drop j)[0]?=(l.drop j)[0]?:=by rw[hdr]
    simpa[ZEb]using congrArg (fun o=>o.getD []) h2
   have hg:(E.map D.str)[j*1]?=sO (.str (l.getD j [])):=by rw[Nat.mul_one,ZrV (by omega),hx]
   have u:=Zhg (p:=p) ah;have aj:E.drop (j+1)=l.drop (j+1):=by rw[←List.drop_drop,hdr,List.drop_drop]
   generalize l.getD j []=x at *;refine xA (nd2 @ZD4 @hg) ?_;refine rg ?_;refine cW (hf x _) ?_;cases al:p x with
   |true =>rw[al,if_pos rfl,ZEw]at u;refine i0 ?_;refine gA ?_;refine Zg ?_;exact t ((l.length)-(j+1)) (by omega) (j+1) rfl (by omega) k E hE (by omega) (by rw[u];exact hk) (by rw[u];exact ab) aj
   |false =>
    rw[al,if_neg (by simp)]at u;have ak:=ZxP (E:=E) (i:=k) (s:=x) (by omega);refine i1 ?_;have ae:(E.map D.str).length=l.length:=by rw[List.length_map];exact hE
    refine xA (nd2 @ZD4 (nd2 @ZEj (nd2 @ak @ae))) ?_;refine gA ?_;refine gA ?_;rw[show(k:Int)+1=((k+1:Nat):Int) by omega];refine Zg ?_;exact t ((l.length)-(j+1)) (by omega) (j+1) rfl (by omega) (k+1) (E.set k x) (by rw[List.length_set];exact hE) (by omega) (by rw[u,ZD8,←hk];rfl) (by rw[u,←ab,ZpL (by omega)]) (by rw[List.drop_set_of_lt (by omega)];exact aj)
  have ah:j=l.length:=by simp at h1;omega
  subst ah;rw[ZEy]at hk ab;have ai:=ZtP (E:=E) (k:=k) (by omega);have ae:(E.map D.str).length=l.length:=by rw[List.length_map];exact hE
  rw[hE,ab]at ai;have hck:¬c=k:=by omega
  refine rg ?_;refine⟨by omega,by omega,by omega,by omega,?_⟩;rw[if_neg (by omega),show((l.length:Int)-k).toNat=l.length-k by omega,show((c:Int)-k).toNat=c-k by omega];refine Zk1 rfl rfl rfl trivial (cs:=E.map .str) (by simp[Yc,ZD4]) (by rw[ae];omega) ?_;rw[ai,ZEj];refine gR0 ?_;refine rg ?_;refine⟨by omega,by omega,by omega,by omega,?_⟩;simp only[ite_self,if_pos];exact hF.ret _ _ rfl (by trivial) (ZDZ _) (ZDY _) ⟨by rw[←hk];rfl,by rw[←hk]⟩
 have h0:=ap _ (q0+1) rfl (by omega) q0 l rfl (by omega) (by rw[Zhg ad,show l.getD q0 []=l.getD q0 dE from rfl,ag,if_pos rfl,ZEw,ZkJ z (by omega),ZEh];omega) (by rw[Zhg ad,show l.getD q0 []=l.getD q0 dE from rfl,ag,if_pos rfl,ZEw,ZkJ z (by omega)]) rfl;rw[St.upd_self hb]at h0;exact h0
end Go.DL
namespace Go.Proofs
open Go.Shelf Go.RowKit
def Tryz.joinL_ren:Go.Shelf.Ren:=⟨fun|156=>202|165=>242|166=>243|169=>244|240=>276|241=>277|276=>291|277=>292|n=>n,fun|31=>215|9=>9|3=>3|4=>4|0=>0|20=>20|72=>278|76=>147|70=>276|37=>25|75=>146|127=>297|164=>330|5=>5|80=>280|n=>n,fun|n=>n⟩
theorem Tryz.joinL:Go.Proofs.Lays.n156 ZDW Tryz.joinL_ren:={
 mixed:=by kernel_rfl
 f156:=Tryz.func202.trans (congrArg sO (by kernel_rfl))
 f165:=Tryz.func242.trans (congrArg sO (by kernel_rfl))
 f166:=Tryz.func243.trans (congrArg sO (by kernel_rfl))
 f169:=Tryz.func244.trans (congrArg sO (by kernel_rfl))
 f240:=Tryz.func276.trans (congrArg sO (by kernel_rfl))
 f241:=Tryz.func277.trans (congrArg sO (by kernel_rfl))
 f276:=Tryz.func291.trans (congrArg sO (by kernel_rfl))
 f277:=Tryz.func292.trans (congrArg sO (by kernel_rfl))
 t0:=Tryz.underlying0
 a0:=Tryz.isAgg0
 z0:=Tryz.sizeOf0
 v0:=Tryz.zeroValue0
 t3:=Tryz.underlying3
 a3:=Tryz.isAgg3
 z3:=Tryz.sizeOf3
 v3:=Tryz.zeroValue3
 t4:=Tryz.underlying4
 a4:=Tryz.isAgg4
 z4:=Tryz.sizeOf4
 v4:=Tryz.zeroValue4
 t9:=Tryz.underlying9
 a9:=Tryz.isAgg9
 z9:=Tryz.sizeOf9
 v9:=Tryz.zeroValue9
 t20:=Tryz.underlying20
 a20:=Tryz.isAgg20
 z20:=Tryz.sizeOf20
 v20:=Tryz.zeroValue20
 t31:=Tryz.underlying215
 a31:=Tryz.isAgg215
 z31:=Tryz.sizeOf215
 v31:=Tryz.zeroValue215
 t37:=Tryz.underlying25
 a37:=Tryz.isAgg25
 z37:=Tryz.sizeOf25
 v37:=Tryz.zeroValue25
 t70:=Tryz.underlying276
 a70:=Tryz.isAgg276
 z70:=Tryz.sizeOf276
 v70:=Tryz.zeroValue276
 t72:=Tryz.underlying278
 a72:=Tryz.isAgg278
 z72:=Tryz.sizeOf278
 v72:=Tryz.zeroValue278
 t75:=Tryz.underlying146
 a75:=Tryz.isAgg146
 z75:=Tryz.sizeOf146
 v75:=Tryz.zeroValue146
 t76:=Tryz.underlying147
 a76:=Tryz.isAgg147
 z76:=Tryz.sizeOf147
 v76:=Tryz.zeroValue147
 t127:=Tryz.underlying297
 a127:=Tryz.isAgg297
 z127:=Tryz.sizeOf297
 v127:=Tryz.zeroValue297
 t164:=Tryz.underlying330
 a164:=Tryz.isAgg330
 z164:=Tryz.sizeOf330
 v164:=Tryz.zeroValue330 }
theorem Tryz.joinX:Builder.Extra ZDW Tryz.joinL_ren:={
 sizeBuilder:=by kernel_rfl
 liesBuilder:=by kernel_rfl
 t5:=Tryz.underlying5
 a5:=Tryz.isAgg5
 z5:=Tryz.sizeOf5
 v5:=Tryz.zeroValue5
 infoByte:=by kernel_rfl
 cellsByte:=by kernel_rfl
 sizeByte:=by kernel_rfl
 neB5:=by decide }
end Go.Proofs
namespace Go.DL
open Go Go.Proofs Go.Lib Go.RowKit
theorem Zyl{w:World}{b o:Nat}{v:Value}(h:w.cell? ⟨b,o,nO⟩=sO v):b<w.heap.size:=by
 refine Nat.lt_of_not_le fun i=>?_;have hn:w.heap[b]?=nO:=Array.getElem?_eq_none i;simp[World.cell?,hn]at h
def joinL(l:List Str)(sep:Str):Str:=sep.intercalate l
theorem Zcm(l:List Str)(hn:l.length≤100000)(hj:(joinL l [46]).length≤100000000):Zf ZDW 202 [slD 1 Zbu l,.str [46]] (.str (joinL l [46])):=fun st=>by
 refine⟨⟨_,Tryz.func202,by kernel_rfl,by kernel_rfl⟩,fun g w vs hs ha=>?_⟩;cases ha with
 |cons h1 ha =>
 cases ha with
 |cons h2 ha =>
 cases ha;cases h2 with
 |str sep _ hsep hsb =>
 have ab:sep=⟨#[46]⟩:=by
  obtain⟨a⟩:=sep;have:a.toList=[46]:=hsep;have h2:a = #[46]:=by apply Array.ext';simpa using this
  rw[h2]
 subst ab;unfold slD at h1;have u:∀w':World,Below w.heap.size w w'→Jv g w g w':=fun w' t=>⟨t.size,fun c hc=>t.block c hc,fun _ _=>rfl,fun c hc=>(hs.fresh c (Nat.le_trans t.size hc)).1,rfl,t.os,t.output,t.tape⟩;generalize ah:(fun i=>Zbu (l.getD i dE))=row at h1;generalize ad:l.length=n at h1;cases h1 with
 |sl0 av _ _ _ ht =>obtain rfl:l=[]:=List.eq_nil_of_length_eq_zero ad;refine(Any.strings_Join_none Tryz.joinL Tryz.joinX av 0 ⟨#[46]⟩ w).mono ?_;rintro e w' ⟨rfl,rfl⟩;exact⟨g,st,.ret (.str []),Ext.refl g _,hs,.str _ _ rfl (by simp[big]),rfl,rfl⟩
 |sl b o _ cap _ _ _ f hl hc hp hr one ht hcap hb =>
  subst ad;subst ah;have hx:∀i (hi:i<l.length),∃x:ByteArray,f i 0=.string x∧x.data.toList=l[i]:=fun i hi=>by
   have:=hr i 0 (.str (l.getD i dE)) hi rfl;generalize f i 0=v at this;cases this with
   |str x _ h1 h2=>exact⟨x,rfl,by rw[h1];simp[ZEb,hi]⟩
  have ai:∃xs:List ByteArray,xs.length=l.length∧xs.map (·.data.toList)=l∧∀(j:Nat) x,xs[j]?=sO x→f j 0=.string x:=by refine⟨List.ofFn fun i:Fin l.length=>Classical.choose (hx i.1 i.2),by simp,?_,fun j x hj=>?_⟩;apply List.ext_getElem;simp;intro i h1 h2;simp at h1;simp only[List.getElem_map,List.getElem_ofFn];exact(Classical.choose_spec (hx i h1)).2;obtain⟨af,ae⟩:=List.getElem?_eq_some_iff.1 hj;simp only[List.length_ofFn]at af;simp only[List.getElem_ofFn]at ae;rw[←ae];exact(Classical.choose_spec (hx j af)).1
  obtain⟨xs,ac,al,ak⟩:=ai;have am:0<l.length→b<w.heap.size:=fun h0=>by have:=hc 0 0 h0 (by omega);exact Zyl this
  have hJ:(Lib.join (xs.map (·.data.toList)) (⟨#[46]⟩:ByteArray).data.toList)=joinL l [46]:=by rw[al];rfl
  have ag:∀w',Below w.heap.size w w'→∃g' s' res,Ext g w g' w'∧Yh g' s' w'∧Rep g' w' (.string ⟨(joinL l [46]).toArray⟩) (.str (joinL l [46]))∧res=Res.ret (.str (joinL l [46]))∧s'=st:=fun w' t =>
   ⟨g,st,.ret (.str (joinL l [46])),(u w' t).ext hs.fresh,hs.grow (u w' t),.str _ _ (by simp) (by unfold big;omega),rfl,rfl⟩
  by_cases h0:l.length=0;obtain rfl:l=[]:=List.eq_nil_of_length_eq_zero h0;refine(Any.strings_Join_none Tryz.joinL Tryz.joinX (sO ⟨b,o,nO⟩) cap ⟨#[46]⟩ w).mono ?_;rintro e w' ⟨rfl,rfl⟩;exact⟨g,st,.ret (.str []),Ext.refl g _,hs,.str _ _ rfl (by simp[big]),rfl,rfl⟩;have z:=Any.strings_Join Tryz.joinL Tryz.joinX b o cap xs ⟨#[46]⟩ w (fun j x hj=>by
    have aj:j<l.length:=by rw[←ac];exact(List.getElem?_eq_some_iff.1 hj).1
    have:=hc j 0 aj (by omega);rw[ak j x hj]at this;simpa using this) (am (by omega)) (by omega) (by omega) (by rw[hJ];omega)
  rw[hJ,ac]at z;refine z.mono ?_;rintro e w' ⟨rfl,t⟩;obtain⟨g',s',res,a1,a2,a3,a4,a5⟩:=ag w' t;exact⟨g',s',res,a1,a2,by rw[a4];exact a3,a4,a5⟩
end Go.DL
namespace Go.DL
open Go Go.Proofs
variable {kp:Option (List Nat)}{L:Loc}{ρ:Env}{s:St}{w:World}{os:List DOp}{ds:List D}{B:List (Nat × Rd)}{dst:Option Nat}{tmps:Array Value}{g:G}{Φ:Res→St→Prop}{ν:Nat→Nat}{xs:List Opd}{side:Prop}{row:Nat→List D}
theorem Zfs(s:Str):Zf ZDW 204 [.str s] (.bool (dC (s=[]))):=by
 refine Zo (cR 204 f204) fun F st i=>?_;refine gG ?_;refine rb i ?_;rfl
theorem ZvO(a s:Str)(hs:s≠[]):joinL (QL (fun x=>dC (x=[])) [a,s]) [46]=Yu a s:=by
 unfold QL joinL Yu;by_cases ha:a=[];simp[ha,hs,List.intercalate];simp[ha,hs,List.intercalate]
theorem ZfZ(T:St):St.or (fun _=>nO) T=T:=by funext b;exact ZH rfl
theorem ZvM{b c:Nat}{C:List Str}{T:St}(hb:T b=sO (.cells (C.map .str)))(K:List Str)(hl:K.length≤2)(hC:K.length≤C.length)(hK:∀i,i<K.length→C.getD i []=K.getD i [])(hj:(joinL K [46]).length≤100000000):
  Za ZDW 202 [.msl b 0 K.length c 1,.str [46]] T fun r S=>r=.ret (.str (joinL K [46]))∧S=T:=by
 have h:=Za.lend (P:=ZDW) (Ln:=[b]) (t:=T) (fun x hx=>⟨C.map .str,by rw[List.mem_singleton.1 hx];exact hb⟩) (.cons (YD.msl (row:=fun i=>Zbu (K.getD i dE)) (cap:=c) (sz:=1) (n:=K.length) (List.mem_singleton.2 rfl) hb (by simp;omega) ?_) (.cons (.refl (.str [46])) .nil)) (Zcm K (by omega) hj (fun _=>nO)) (fun r S hr=>?_);refine h.mono fun r S hS=>?_;obtain⟨S',⟨hr,rfl⟩,_,rfl⟩:=hS;exact⟨hr,ZfZ T⟩;intro i hi;have h1:((C.map D.str).drop (i*1)).take 1=Zbu (K.getD i dE):=by rw[Nat.mul_one,show K.getD i dE=C.getD i [] from(hK i hi).symm];rw[List.drop_eq_getElem_cons (by simp;omega)];simp[Zbu,ZEb,show i<C.length by omega]
 rw[h1];exact .refl _;obtain⟨rfl,rfl⟩:=hr;exact⟨.str _,fun b o h=>by simp at h⟩
theorem ZpE{b:Nat}{a s:Str}{S:St}(hb:S b=sO (.cells [.str a,.str s]))(hs:s≠[])(hl:a.length≤10000000)(hl2:s.length≤10000000):
  Za ZDW 151 [.msl b 0 2 2 1] S fun r T=>r=.ret (.str (Yu a s))∧∃o,T=S.upd b o:=by
 refine Zd (cR 151 f151) fun F hF=>?_;have hd:=Zf8 (c:=2) (l:=[a,s]) hb (by simp) (by simp) (.fn (.func 204) [] []) (fun x=>dC (x=[])) (fun x T=>(Zfs x).VT (first:=[]) (caps:=[]) T);have j:=ZvO a s hs;have z:(QL (fun x=>dC (x=[])) [a,s]).length≤2:=ZvN _ _;generalize QL (fun x=>dC (x=[])) [a,s]=K at *;have n:(joinL K [46]).length≤100000000:=by rw[j];unfold Yu;split;omega;simp only[ZD8,ZEf,List.length_nil];omega
 refine gG ?_;refine cV (hd) ?_ ?_;rintro dd T ⟨hr,rfl⟩;cases hr;refine gR0 ?_;generalize hC:(K++List.replicate (2-K.length) [])=C at *;have t:∀i,i<K.length→C.getD i []=K.getD i []:=fun i hi=>by rw[←hC];simp[ZEb,ZEt hi]
 have u:K.length≤C.length:=by rw[←hC];simp
 refine cV ((ZvM (S.upd_same b _) K z u t n)) ?_ ?_;rintro dv T hT;obtain⟨hr,rfl⟩:=hT;cases hr;refine gR0 ?_;rw[j];exact hF.ret _ _ rfl (by trivial) (ZDZ _) (ZDY _) ⟨rfl,_,rfl⟩;rintro v T ⟨hr,_⟩;cases hr;rintro v T ⟨hr,_⟩;cases hr
def YN(l:List Fld):List D:=l.flatMap Fld.cells
theorem Zas(l:List Fld):(YN l).length=l.length*15:=by
 unfold YN;induction l with
 |nil=>rfl
 |cons f r ih=>rw[List.flatMap_cons,ZD8,ih,J5,ZEf];omega
theorem Zg4{l:List Fld}{i:Nat}(h:i<l.length)(X:List D):part (YN l++X) (i*15) 15=(l.getD i dE).cells:=by
 have h1:l=l.take i++(l.getD i dE::l.drop (i+1)):=by
  conv=>lhs;rw[←List.take_append_drop i l]
  rw[List.drop_eq_getElem_cons h];simp[ZEb,h]
 have h2:YN l++X=YN (l.take i)++((l.getD i dE).cells++(YN (l.drop (i+1))++X)):=by
  conv=>lhs;rw[h1]
  unfold YN;simp
 unfold part;rw[h2,List.drop_left' (by rw[Zas,ZEh,Nat.min_eq_left (by omega)]),List.take_left' (J5 _)]
theorem ZvC{l:List Fld}{i:Nat}(h:i<l.length)(f:Fld)(X:List D):Zt (YN l++X) (i*15) f.cells=YN (l.set i f)++X:=by
 have h1:l=l.take i++(l.getD i dE::l.drop (i+1)):=by
  conv=>lhs;rw[←List.take_append_drop i l]
  rw[List.drop_eq_getElem_cons h];simp[ZEb,h]
 have h2:YN l++X=YN (l.take i)++((l.getD i dE).cells++(YN (l.drop (i+1))++X)):=by
  conv=>lhs;rw[h1]
  unfold YN;simp
 have hl:(YN (l.take i)).length=i*15:=by rw[Zas,ZEh,Nat.min_eq_left (by omega)]
 unfold Zt;rw[h2,List.take_left' hl,←List.drop_drop,List.drop_left' hl,J5,List.drop_left' (J5 _),List.set_eq_take_append_cons_drop,if_pos h];unfold YN;simp
theorem Zse{l:List Fld}{k m:Nat}(h:k≤l.length)(z:List D)(X:List D):∃Y,Zt (YN l++X) (k*15) (KT z m)=YN (l.take k)++Y:=by
 have h2:YN l++X=YN (l.take k)++(YN (l.drop k)++X):=by unfold YN;rw[←ZEA,←List.flatMap_append,List.take_append_drop]
 have hl:(YN (l.take k)).length=k*15:=by rw[Zas,ZEh,Nat.min_eq_left (by omega)]
 unfold Zt;rw[h2,List.take_left' hl,ZEA];exact⟨_,rfl⟩
theorem Zt1(l:List Fld):(ZEa l.length).flatMap (fun k=>(l.getD k dE).cells)=YN l:=by
 unfold YN;have h:l.flatMap Fld.cells=((ZEa l.length).map fun k=>l.getD k dE).flatMap Fld.cells:=by
  congr 1
  refine List.ext_getElem (by simp) fun i h1 h2=>?_;simp[ZEb,h1]
 rw[h,List.flatMap_map]
theorem ZhU(l:List Fld)(hl:l.length≤1000000)(hp:0<l.length)(st:St):Za ZDW 104 [Zm l] st fun r S=>∃b c X,st b=nO∧l.length≤c∧r=.ret (.msl b 0 l.length c 15)∧S=st.upd b (.cells (YN l++X)):=by
 refine Zd (cR 104 f104) fun F hF=>?_;have j:=Zt1 l;refine rx (nd2 @Zm.eq_1 @eQ1) ?_;refine gA ?_;refine iG ?_;refine ZsD rfl rfl rfl rfl rfl rfl (by trivial) (by trivial) (by exact hp) (by omega) (by unfold big;omega) fun b bc hb i=>Zl ?_;simp only[Eqs,reduceCtorEq,ZD2,reduceIte,ZD0,ZD3,ZD1];rw[j];exact hF.ret _ _ rfl (by trivial) (ZDZ _) (ZDY _) ⟨b,bc,_,hb,i,rfl,rfl⟩
def ZaK(p:Fld→Bool)(l:List Fld):List Fld:=l.filter fun x=>!p x
theorem Zhf{p:Fld→Bool}{l:List Fld}{j:Nat}(h:j<l.length):ZaK p (l.take (j+1))=ZaK p (l.take j)++if p (l.getD j dE) then [] else [l.getD j dE]:=by
 rw[YJ h];unfold ZaK;rw[List.filter_append];congr 1;simp only[List.filter_cons,List.filter_nil];cases p (l.getD j dE)<;>rfl
theorem ZkI{p:Fld→Bool}{l:List Fld}{i:Nat}(h:∀j,j<i→p (l.getD j dE)=false)(hi:i≤l.length):ZaK p (l.take i)=l.take i:=by
 unfold ZaK;rw[List.filter_eq_self];intro x hx;obtain⟨j,hj,rfl⟩:=ZEe hx;have h1:=h j (by rw[ZEh]at hj;omega);rw[ZEh]at hj;simpa[ZEb,show j<l.length by omega]using h1
theorem Zo2{p:Fld→Bool}{l:List Fld}(h:∀x∈l,p x=false):ZaK p l=l:=by
 unfold ZaK;rw[List.filter_eq_self];intro x hx;rw[h x hx];rfl
theorem Zwu{E:List Fld}{k:Nat}{x:Fld}(h:k<E.length):(E.set k x).take (k+1)=E.take k++[x]:=by
 rw[List.set_eq_take_append_cons_drop,if_pos h,show E.take k++x::E.drop (k+1)=(E.take k++[x])++E.drop (k+1) by simp,List.take_left' (by simp;omega)]
theorem Zxg{b c:Nat}{l:List Fld}{X:List D}{T:St}(hb:T b=sO (.cells (YN l++X)))(hc:l.length≤c)(fid:Nat)(p:Fld→Bool)(hf:∀x,Zf ZDW fid [.agg x.cells] (.bool (p x))):
  Za ZDW 148 [.msl b 0 l.length c 15,.fn (.func fid) [] []] T fun r S=>r=.ret (.int .i64 (Zi p l))∧S=T:=by
 have h:=Za.lend (P:=ZDW) (Ln:=[b]) (t:=T) (fun x hx=>⟨YN l++X,by rw[List.mem_singleton.1 hx];exact hb⟩) (.cons (YD.msl (row:=fun i=>(l.getD i dE).cells) (cap:=c) (sz:=15) (n:=l.length) (List.mem_singleton.2 rfl) hb (by rw[ZD8,Zas];omega) ?_) (.cons (.refl (.fn (.func fid) [] [])) .nil))
  (Qc l (.fn (.func fid) [] []) p (fun _ _=>nO) (fun i _=>(hf _).VT (first:=[]) (caps:=[]) _)) (fun r S hr=>?_)
 refine h.mono fun r S hS=>?_;obtain⟨S',⟨hr,rfl⟩,_,rfl⟩:=hS;exact⟨hr,ZfZ T⟩;intro i hi;rw[show((YN l++X).drop (i*15)).take 15=(l.getD i dE).cells from Zg4 hi X];exact .refl _;obtain⟨rfl,rfl⟩:=hr;exact⟨.int _ _,fun b o h=>by simp at h⟩
theorem ZeP{b c:Nat}{l:List Fld}{X:List D}{S:St}(hb:S b=sO (.cells (YN l++X)))(hl:l.length≤1000000)(hc:l.length≤c)(fid:Nat)(p:Fld→Bool)(hf:∀x,Zf ZDW fid [.agg x.cells] (.bool (p x))):
  Za ZDW 103 [.msl b 0 l.length c 15,.fn (.func fid) [] []] S fun r T=>r=.ret (.msl b 0 (ZaK p l).length c 15)∧∃Y,T=S.upd b (.cells (YN (ZaK p l)++Y)):=by
 refine Zd (cR 103 f103) fun F hF=>?_;have ap:=Zxg hb hc fid p hf;refine gG ?_;refine cV (ap) ?_ ?_
 ·rintro dd T ⟨hr,hT⟩;obtain rfl:=hT.symm;cases hr;refine gR0 ?_;refine rg ?_;by_cases ae:Zi p l<0;have al:Zi p l=-1:=by have:=Zar p l;omega
  rw[al];refine i1 ?_;refine rg ?_;exact hF.ret _ _ rfl (by trivial) (ZDZ _) (ZDY _) ⟨by rw[Zo2 (ZbX ae)];rfl,X,by rw[Zo2 (ZbX ae)];exact(St.upd_self hb).symm⟩;obtain⟨q0,am⟩:∃q0:Nat,Zi p l=q0:=⟨(Zi p l).toNat,by omega⟩;have aq:=Wv p l;have ag:=QY (p:=p) (l:=l) (by omega);rw[am]at aq ag⊢;have ab:=fun j hj=>ag.2 j hj;have ah:=ag.1;simp only[Int.toNat_natCast]at ab ah;have af:q0<l.length:=by omega
  refine i0 ?_;refine gA ?_;refine Zc (fr (l.length) (fun j Q=>j≤l.length→∀(k:Nat) (E:List Fld),E.length=l.length→k<j→k=(ZaK p (l.take j)).length→E.take k=ZaK p (l.take j)→E.drop j=l.drop j→Q [(0,.d (.msl b 0 l.length c 15)),(1,.d (.fn (.func fid) [] [])),(5,.d (.int .i64 k)),(6,.d (.int .i64 j))] [] (S.upd b (.cells (YN E++X)))) (fun n t=>?_) fun ao=>?_)
  ·intro j hn hj k E hE hkj hk ad hdr;refine rg ?_;refine cd (fun h1=>?_) (fun h1=>?_)
   ·have ai:j<l.length:=by simp at h1;omega
    have hx:E.getD j dE=l.getD j dE:=by
     have h2:(E.drop j)[0]?=(l.drop j)[0]?:=by rw[hdr]
     simpa[ZEb]using congrArg (fun o=>o.getD dE) h2
    have ac:(YN E++X).length=l.length*15+X.length:=by rw[ZD8,Zas,hE]
    have hg:=Zg4 (l:=E) (i:=j) (by omega) X;rw[hx]at hg;unfold part at hg;have u:=Zhf (p:=p) ai;have aj:E.drop (j+1)=l.drop (j+1):=by rw[←List.drop_drop,hdr,List.drop_drop]
    generalize l.getD j dE=x at *;refine xA (nd2 @ZD4 (nd2 @hg (nd2 @ac (nd2 @J5 @ZcM)))) ?_;refine xA (nd2 @J5 @ZcM) ?_;refine cl (hf x) ?_;cases ak:p x with
    |true =>rw[ak,if_pos rfl,ZEw]at u;refine i0 ?_;refine gA ?_;refine Zg ?_;exact t ((l.length)-(j+1)) (by omega) (j+1) rfl (by omega) k E hE (by omega) (by rw[u];exact hk) (by rw[u];exact ad) aj
    |false =>rw[ak,if_neg (by simp)]at u;have z:=ZvC (l:=E) (i:=k) (by omega) x X;unfold Zt at z;rw[J5]at z;refine i1 ?_;refine xA (nd2 @ZD4 (nd2 @ZEj (nd2 @ac (nd2 @J5 @ZcM)))) ?_;rw[z];refine gA ?_;refine gA ?_;rw[show(k:Int)+1=((k+1:Nat):Int) by omega];refine Zg ?_;exact t ((l.length)-(j+1)) (by omega) (j+1) rfl (by omega) (k+1) (E.set k x) (by rw[List.length_set];exact hE) (by omega) (by rw[u,ZD8,←hk];rfl) (by rw[u,←ad,Zwu (by omega)]) (by rw[List.drop_set_of_lt (by omega)];exact aj)
   have ai:j=l.length:=by simp at h1;omega
   subst ai;rw[ZEy]at hk ad;have ac:(YN E++X).length=l.length*15+X.length:=by rw[ZD8,Zas,hE]
   refine rg ?_;refine⟨by omega,by omega,by omega,by omega,?_⟩;rw[if_neg (by omega),show((l.length:Int)-k).toNat=l.length-k by omega,show((c:Int)-k).toNat=c-k by omega];refine Zk1 rfl rfl rfl trivial (cs:=YN E++X) (by simp[Yc,ZD4]) (by rw[ac];omega) ?_;obtain⟨Y,hY⟩:=Zse (l:=E) (k:=k) (m:=l.length-k) (by omega) [.str [],.int .i64 0,.int .i64 0,.bool false,.bool false,.int .i64 0,.int .i64 0,.int .i64 0,.nilsl,.str [],.str [],.str [],.nilsl,.int .i64 0,.int .i64 0] X;rw[ad]at hY;rw[hY,ZEj];refine gR0 ?_;refine rg ?_;refine⟨by omega,by omega,by omega,by omega,?_⟩;simp only[ite_self,if_pos];exact hF.ret _ _ rfl (by trivial) (ZDZ _) (ZDY _) ⟨by rw[←hk];rfl,Y,rfl⟩
  have h0:=ao _ (q0+1) rfl (by omega) q0 l rfl (by omega) (by rw[Zhf af,ah,if_pos rfl,ZEw,ZkI ab (by omega),ZEh];omega) (by rw[Zhf af,ah,if_pos rfl,ZEw,ZkI ab (by omega)]) rfl;rw[St.upd_self hb]at h0;exact h0
 rintro v T ⟨hr,_⟩;cases hr
theorem Zkv(f:Fld):Zf ZDW 105 [.agg f.cells] (.bool (!W8 f)):=by
 refine Zo (cR 105 f105) fun F st i=>?_;refine rx @eQ0 ?_;refine rg ?_;refine cl (Zdk f) ?_;refine rb i ?_;rfl
theorem Zxk(l:List Fld):ZaK (fun f=>!W8 f) l=vfs l:=by unfold ZaK vfs;simp
theorem Zck(m:Msg)(hp:0<m.fields.length)(hl:m.fields.length≤1000000):Zf ZDW 53 [.agg m.cells] (Zm (vfs m.fields)):=by
 refine Zo (cR 53 f53) fun F st n=>?_;refine rx @eQ3 ?_;refine rg ?_;refine cV ((ZhU m.fields hl hp st)) ?_ ?_;rintro dd T ⟨b,c,X,hb,hc,hr,rfl⟩;cases hr;refine gR0 ?_;refine cV ((ZeP (ZD4 _ _ _) hl hc 105 (fun f=>!W8 f) Zkv)) ?_ ?_;rintro dd2 T2 ⟨hr,Y,rfl⟩;cases hr;refine gR0 ?_;rw[Zxk,ZEj];refine Zh1 [b] (fun x hx=>⟨YN (vfs m.fields)++Y,by rw[List.mem_singleton.1 hx];exact ZD4 _ _ _⟩) (ρ':=[(2,.d (Zm (vfs m.fields)))]) (L':=[]) (.cons (YD.msl (row:=fun i=>((vfs m.fields).getD i dE).cells) (List.mem_singleton.2 rfl) (ZD4 _ _ _) (by rw[ZD8,Zas];omega) fun i hi=>?_) .nil) .nil ?_;rw[show((YN (vfs m.fields)++Y).drop (i*15)).take 15=((vfs m.fields).getD i dE).cells from Zg4 hi Y];exact .refl _;refine n rfl (by trivial) (ZDZ _) (fun x o hx=>?_);have j:x≠b:=fun e=>by rw[e,hb]at hx;simp at hx
 simp only[St.delL,List.mem_singleton,j,if_false];rw[ZD6 _ _ j];exact hx;rintro v T2 ⟨hr,_⟩;cases hr;rintro v T ⟨b,c,X,_,_,hr,_⟩;cases hr
theorem ZlH(f:Fld)(x:Val):Zf ZDW 107 [.agg f.cells,.agg x.cells] (.bool (dC (f.name=x.name))):=by
 refine Zo (cR 107 f107) fun F st i=>?_;rw[ZEg];refine rx @eQ0 ?_;refine rg ?_;refine rb i ?_;rfl
def WC(l:List Fld)(ps:List Val):Bool:=dC (l.map (·.name)=ps.map Val.name)
theorem ZvW{l:List Fld}{ps:List Val}(h:l.length≠ps.length):WC l ps=false:=by
 unfold WC;rw[decide_eq_false_iff_not];intro he;exact h (by simpa using congrArg List.length he)
theorem Zuk{l:List Fld}{ps:List Val}(h:l.length=ps.length)(hn:∀j,j<l.length→(l.getD j dE).name=(ps.getD j dE).name):WC l ps=true:=by
 unfold WC;rw[decide_eq_true_eq];refine List.ext_getElem (by simpa using h) fun i h1 h2=>?_;have h3:=hn i (by simpa using h1);simp at h1 h2;simpa[ZEb,h1,h2]using h3
theorem Zul{l:List Fld}{ps:List Val}{j:Nat}(h:l.length=ps.length)(hj:j<l.length)(hn:dC ((l.getD j dE).name=(ps.getD j dE).name)=false):WC l ps=false:=by
 unfold WC;rw[decide_eq_false_iff_not]at hn⊢;intro he;have h1:(l.map (·.name))[j]?=(ps.map Val.name)[j]?:=by rw[he]
 refine hn ?_;simpa[ZEb,hj,show j<ps.length by omega]using h1
theorem Zd0(l:List Fld)(ps:List Val):Zf ZDW 106 [Zm l,ZW ps,.fn (.func 107) [] []] (.bool (WC l ps)):=by
 refine YS (cR 106 f106) fun ab F st t=>?_;have ag:=(Wb (ab (Zm l) (by simp))).1;have ae:=ZhH (ab (ZW ps) (by simp));unfold big at ag ae;clear ab;refine rg ?_;refine rx (nd2 @ZdA @Zb2) ?_;refine cd (fun hc=>?_) (fun hc=>?_);refine rg ?_;refine rb t ?_;exact(ZvW (l:=l) (ps:=ps) (by simp at hc;omega)).symm;have z:l.length=ps.length:=by simp at hc;omega
 refine rx (nd2 @ZdA @Zb2) ?_;refine Zc (fr (l.length) (fun i Q=>i≤l.length→(∀j,j<i→dC ((l.getD j dE).name=(ps.getD j dE).name)=true)→Q [(1,.d (ZW ps)),(2,.d (.fn (.func 107) [] [])),(15,.d (Zm l)),(16,.d (.int .i64 l.length)),(17,.d (.int .i64 i))] [] st) (fun n u=>?_) fun af=>?_)
 ·intro i hn hi ad;refine rg ?_;refine Zb (Zu rfl trivial (fun h1=>?_) (fun h1=>?_))
  ·simp at h1;have ac:=ZlH (l.getD i dE) (ps.getD i dE);have hr:=Qq (l:=ps) (i:=i) (by omega);rw[ZEg]at ac;refine xA (nd2 @atF (nd2 @J5 @ZcM)) ?_;refine xA (nd2 @atV @hr) ?_;refine rx (nd2 @J5 @ZcM) ?_;refine cl (ac) ?_;cases hb:dC ((l.getD i dE).name=(ps.getD i dE).name) with
   |true =>refine i0 ?_;refine gA ?_;refine Zg ?_;exact u ((l.length)-(i+1)) (by omega) (i+1) rfl (by omega) (Ye (q:=fun j=>dC ((l.getD j dE).name=(ps.getD j dE).name)=true) ad hb)
   |false =>refine i1 ?_;refine rg ?_;refine rb t ?_;exact(Zul z h1 hb).symm
  simp at h1;obtain rfl:i=l.length:=by omega
  refine rg ?_;refine rb t ?_;exact(Zuk z fun j hj=>by simpa using ad j hj).symm
 exact af _ 0 rfl (by omega) (by intro j hj;omega)
theorem ZgE(l:List Fld)(ps:List Val):Zf ZDW 54 [Zm l,ZW ps] (.bool (WC l ps)):=by
 refine Zo (cR 54 f54) fun F st i=>?_;refine gG ?_;refine cl (Zd0 l ps) ?_;refine rb i ?_;rfl
theorem Y5(d:Dfn)(s:Str)(h:0≤ZF d s d.msgs.length):Zf ZDW 42 [.agg d.cells,.str s] (.agg (d.msgs.getD (ixS d s) dE).cells):=by
 refine Zo (cR 42 f42) fun F st i=>?_;have j:=Zau h;generalize hm:d.msgs.getD (ixS d s) dE=m at *;have t:Zi (fun x:Msg=>dC (x.name=s)) d.msgs=(ixS d s:Int):=by rw[←j.1];unfold ZF;rw[ZEy]
 have n:max (ixS d s:Int) 0=ixS d s:=by omega
 refine rx @eQ2 ?_;refine rg ?_;refine cX (nd2 @t @n) (ZgB d s) ?_;refine xA (nd2 @atM (nd2 @hm @eQ3)) ?_;refine ro i ?_;rfl
def Zb7(l:List Fld):Nat→List (Str×Int)
 |0=>[]
 |i+1=>if (l.getD i dE).kind=2 then Wl (l.getD i dE).name (l.getD i dE).low (Zb7 l i) else Zb7 l i
def ZcY(l:List Fld)(ps:List Val)(E:List (Str×Int)):Nat→List (Str×Int)
 |0=>E
 |i+1=>if YF (l.getD i dE) then Wl (l.getD i dE).name (ps.getD i dE).int (ZcY l ps E i) else ZcY l ps E i
def Q6(m:Msg)(ps:List Val):List (Str×Int):=ZcY (vfs m.fields) ps (Zb7 m.fields m.fields.length) (vfs m.fields).length
theorem Zdl(m:Msg)(hp:0<m.fields.length)(hl:m.fields.length≤1000)(ps:List Val)(hn:(vfs m.fields).length=ps.length)(st:St):
  Za ZDW 62 [.agg m.cells,ZW ps] st fun r S=>∃b,st b=nO∧r=.ret (.map b)∧S=st.upd b (.map (Q1 (Q6 m ps))):=by
 refine Zd (cR 62 f62) fun F hF=>?_;have hvl:(vfs m.fields).length≤m.fields.length:=List.length_filter_le ..;have ad:=Zck m hp (by omega);have hM:=Q6.eq_1 m ps;generalize vfs m.fields=vl at *;refine rx @eQ3 ?_;refine rg ?_;intro b hb;rw[show([]:List (D×D))=Q1 (Zb7 m.fields 0) from rfl];refine rx @ZdA ?_;refine Zc (fr (m.fields.length) (fun i Q=>i≤m.fields.length→Q [(1,.d (ZW ps)),(2,.loc 2 0),(5,.d (.map b)),(12,.d (Zm m.fields)),(13,.d (.int .i64 m.fields.length)),(14,.d (.int .i64 i))] [(2,[.str m.name,Zm m.fields])] (st.upd b (.map (Q1 (Zb7 m.fields i))))) (fun n u=>?_) fun ac=>?_);intro i hn2 hi;refine rg ?_;refine Zb (Zu rfl trivial (fun h1=>?_) (fun h1=>?_));simp at h1;have j:=Zb7.eq_2 m.fields i;generalize hf:m.fields.getD i dE=f at *;refine xA (nd2 @atF (nd2 @hf @eQ0)) ?_;refine rg ?_;refine cd (fun h2=>?_) (fun h2=>?_);rw[if_pos (by simpa using h2)]at j;have e2:=ZbG (vD:=W9) ZT f.name f.low (Zb7 m.fields i);have e3:=Y1 ZT f.name;simp only[show Ks f.name=D.str f.name from rfl,show W9 f.low=.int .i64 f.low from rfl]at e2 e3;refine xA (nd2 @ZD4 (nd2 @ZEj (nd2 @e2 @e3))) ?_;refine gA ?_;rw[←j];refine Zg ?_;exact u ((m.fields.length)-(i+1)) (by omega) (i+1) rfl (by omega);rw[if_neg (by simpa using h2)]at j;refine gA ?_;rw[←j];refine Zg ?_;exact u ((m.fields.length)-(i+1)) (by omega) (i+1) rfl (by omega);simp at h1;obtain rfl:i=m.fields.length:=by omega
 generalize Zb7 m.fields m.fields.length=E0 at *;refine rg ?_;refine cX @ZdA (ad) ?_;refine Zc (fr (vl.length) (fun k Q=>k≤vl.length→Q [(1,.d (ZW ps)),(5,.d (.map b)),(28,.d (Zm vl)),(29,.d (.int .i64 vl.length)),(30,.d (.int .i64 k))] [] (st.upd b (.map (Q1 (ZcY vl ps E0 k))))) (fun n t=>?_) fun z=>?_);intro k hn3 hk;refine rg ?_;refine Zb (Zu rfl trivial (fun h3=>?_) (fun h3=>?_));simp at h3;have j:=ZcY.eq_2 vl ps E0 k;have ab:=Qq (l:=ps) (i:=k) (by omega);generalize hf:vl.getD k dE=f at *;generalize hg:ps.getD k dE=g at *;refine xA (nd2 @atF (nd2 @hf (nd2 @J5 @ZcM))) ?_;refine rx (nd2 @J5 @ZcM) ?_;refine cl (Zbs f) ?_;refine cd (fun h4=>?_) (fun h4=>?_);rw[if_pos h4]at j;have e2:=ZbG (vD:=W9) ZT f.name g.int (ZcY vl ps E0 k);have e3:=Y1 ZT f.name;simp only[show Ks f.name=D.str f.name from rfl,show W9 g.int=.int .i64 g.int from rfl]at e2 e3;refine xA (nd2 @eQ0 (nd2 @atV (nd2 @ab (nd2 @ZD4 (nd2 @ZEj (nd2 @e2 @e3)))))) ?_;refine gA ?_;rw[←j];refine Zg ?_;exact t ((vl.length)-(k+1)) (by omega) (k+1) rfl (by omega);rw[if_neg (by simpa using h4)]at j;refine gA ?_;rw[←j];refine Zg ?_;exact t ((vl.length)-(k+1)) (by omega) (k+1) rfl (by omega);simp at h3;obtain rfl:k=vl.length:=by omega
 rw[←hM];refine rg ?_;exact hF.ret _ _ rfl (by trivial) (ZDZ _) (ZDY _) ⟨b,hb,rfl,rfl⟩;exact z _ 0 rfl (by omega);exact ac _ 0 rfl (by omega)
theorem Zfu(n:Int):Zf ZDW 109 [.int .i64 n] (.bool (dC (0≤n)&&dC (n<34359738368))):=by
 refine Zo (cR 109 f109) fun F st i=>?_;refine gG ?_;refine rb i ?_;rfl
def ckI(st:St)(b5 b6 b7 b8 b9 b:Nat):St :=
 ((((st.upd b5 (.cells [.str []])).upd b6 (.cells [.map b])).upd b7 (.cells [.fn (.func 109) [] []])).upd b8 (.cells [.int .i64 0])).upd b9 (.cells [.bool false])
section
variable {st:St} {b5 b6 b7 b8 b9 b:Nat}
theorem YC.i5(h:YC st b5 b6 b7 b8 b9):(ckI st b5 b6 b7 b8 b9 b) b5=sO (.cells [.str []]):=by
 simp[ckI,ZEv,h.n6.1.symm,h.n7.2.1.symm,h.n8.2.2.1.symm,h.n9.2.2.2.1.symm]
theorem YC.i6(h:YC st b5 b6 b7 b8 b9):(ckI st b5 b6 b7 b8 b9 b) b6=sO (.cells [.map b]):=by
 simp[ckI,ZEv,h.n7.1.symm,h.n8.2.1.symm,h.n9.2.2.1.symm]
theorem YC.i7(h:YC st b5 b6 b7 b8 b9):(ckI st b5 b6 b7 b8 b9 b) b7=sO (.cells [.fn (.func 109) [] []]):=by
 simp[ckI,ZEv,h.n8.1.symm,h.n9.2.1.symm]
theorem YC.i8(h:YC st b5 b6 b7 b8 b9):(ckI st b5 b6 b7 b8 b9 b) b8=sO (.cells [.int .i64 0]):=by
 simp[ckI,ZEv,h.n9.1.symm]
theorem YC.i9:(ckI st b5 b6 b7 b8 b9 b) b9=sO (.cells [.bool false]):=by
 simp[ckI,ZEv]
theorem YC.im(h:YC st b5 b6 b7 b8 b9){o:Z1}(hb:st b=sO o):(ckI st b5 b6 b7 b8 b9 b) b=sO o:=by
 have h5:b≠b5:=fun e=>by rw[e,h.n5]at hb;simp at hb
 have h6:b≠b6:=fun e=>by rw[e,h.n6.2]at hb;simp at hb
 have h7:b≠b7:=fun e=>by rw[e,h.n7.2.2]at hb;simp at hb
 have h8:b≠b8:=fun e=>by rw[e,h.n8.2.2.2]at hb;simp at hb
 have h9:b≠b9:=fun e=>by rw[e,h.n9.2.2.2.2]at hb;simp at hb
 simp[ckI,ZEv,h5,h6,h7,h8,h9,hb]
theorem YC.isub(h:YC st b5 b6 b7 b8 b9):st.sub (ckI st b5 b6 b7 b8 b9 b):=fun c o hc=>by
 have h5:c≠b5:=fun e=>by rw[e,h.n5]at hc;simp at hc
 have h6:c≠b6:=fun e=>by rw[e,h.n6.2]at hc;simp at hc
 have h7:c≠b7:=fun e=>by rw[e,h.n7.2.2]at hc;simp at hc
 have h8:c≠b8:=fun e=>by rw[e,h.n8.2.2.2]at hc;simp at hc
 have h9:c≠b9:=fun e=>by rw[e,h.n9.2.2.2.2]at hc;simp at hc
 simp[ckI,ZEv,h5,h6,h7,h8,h9,hc]
theorem Zyo(h:YC st b5 b6 b7 b8 b9)(hρ:ZM ρ 8=sO (.d (.ptr b8 0)):=by rfl):
  Yt ρ L (ckI st b5 b6 b7 b8 b9 b) [.cell1 8]=sO (True∧True,[.int .i64 0]):=by
 simp[Yt,WV,hρ,Y6,Yc,h.i8]
end
theorem ZlK(s:Wi)(hv:ZU s=true)(b:Nat)(l:List (Str×Int))(st:St)(hb:st b=sO (.map (Q1 l)))(hk:∀t∈s.terms,∃v,Zr t.field l=sO v∧0≤v∧v<34359738368):
  Za ZDW 108 [.agg s.cells,.str [],.map b,.fn (.func 109) [] []] st (fun r S=>r=.ret (.int .i64 0)∧S=st):=by
 refine Zd (cR 108 f108) fun F hF=>?_;refine rx @eQ4 ?_;refine rx @eQ4 ?_;refine cl (JS s) ?_;rw[hv];refine iG ?_;refine Zb (Zb ?_);refine xP 5 fun b5 h5=>?_;refine xP 6 fun b6 h6=>?_;refine xP 7 fun b7 h7=>?_;refine xP 8 fun b8 h8=>?_;refine xP 9 fun b9 h9=>?_;refine rx @eQ4 ?_;refine cV (Zbi s hv _) ?_ ?_;rintro d S ⟨x,hx,hd,rfl⟩;cases hd;refine gR0 ?_;refine Zc ?_;have i:YC st b5 b6 b7 b8 b9:=by have k6:=Zq h6;have k7:=Zq h7;have ag:=Zq k7.2;have k8:=Zq h8;have ac:=Zq k8.2;have al:=Zq ac.2;have k9:=Zq h9;have ae:=Zq k9.2;have ab:=Zq ae.2;have aj:=Zq ab.2;exact⟨h5,k6,⟨k7.1,ag⟩,⟨k8.1,ac.1,al⟩,⟨k9.1,ae.1,ab.1,aj⟩⟩
 have hfew:=QG hv;rw[show(((((st.upd b5 (.cells [.str []])).upd b6 (.cells [.map b])).upd b7 (.cells [.fn (.func 109) [] []])).upd b8 (.cells [.int .i64 0])).upd b9 (.cells [.bool false]))=ckI st b5 b6 b7 b8 b9 b from rfl]at hx⊢;refine Ka hF rfl trivial [5,6,7,8,9] (by show([5,6,7,8,9]:List Nat).Nodup;decide) (Wh hx) (Zaf s.terms (by unfold big;omega) x).Y (fun j hj=>rfl)
  (fun j=>.next) (fun j a=>a=ckI st b5 b6 b7 b8 b9 b) rfl ?_ ?_ ?_ ?_ ?_ ?_
 intro j a hj u hB F' ready busy hdr ad af;subst hB;simp only[Eqs,reduceCtorEq,ZD2,reduceIte,ZD0,ZD3,ZD1,Ws,WG,Qy,WU,List.isEmpty_nil,List.isEmpty_cons];refine rg ?_;refine ad fun ak=>?_;have ah:(s.terms.getD j dE).field≠[]:=Zjy hv hj;obtain⟨v,hg,h0,h1⟩:=hk _ (ZC hj);generalize htm:s.terms.getD j dE=tm at *;have e1:=YR (vD:=W9) ZT tm.field l;have e3:=Y1 ZT tm.field;simp only[show Ks tm.field=D.str tm.field from rfl]at e1 e3;rw[hg]at e1;have z:(ckI st b5 b6 b7 b8 b9 b).upd b8 (.cells [.int .i64 0])=ckI st b5 b6 b7 b8 b9 b:=St.upd_self i.i8;refine rh ?_;refine Zl ?_;simp only[Eqs,reduceCtorEq,ZD2,reduceIte,ZD0,ZD3,ZD1,Zp (i.i6 ),Zp (i.im hb),e1,e3];refine rh ?_;refine Zl ?_;simp only[Eqs,reduceCtorEq,ZD2,reduceIte,ZD0,ZD3,ZD1,Zp (i.i5 )];refine Zu rfl trivial (fun h=>by simp at h;exact absurd h ah) (fun _=>?_);refine gI ?_;rw[show W9 v=.int .i64 v from rfl];refine rh ?_;refine Zl ?_;simp only[Eqs,reduceCtorEq,ZD2,reduceIte,ZD0,ZD3,ZD1,Zp (i.i7 )];refine cl (Zfu v) ?_;refine Zu rfl trivial (fun h=>by simp at h;omega) (fun _=>?_);refine Zy (Zj (Zj ?_));exact af.fin ⟨rfl,rfl⟩ ak (ZDY _);intro q a u hB hq;subst hB;rw[KG hq];have ai:=Wh (o:=Z1.dfr) hq;have z:(ckI st b5 b6 b7 b8 b9 b).upd b8 (.cells [.int .i64 0])=ckI st b5 b6 b7 b8 b9 b:=St.upd_self i.i8;refine rh ?_;refine Zl ?_;simp only[Eqs,reduceCtorEq,ZD2,reduceIte,ZD0,ZD3,ZD1,Zp (YC.i9 )];refine i0 ?_;refine rh ?_;refine Zl ?_;simp only[Eqs,reduceCtorEq,ZD2,reduceIte,ZD0,ZD3,ZD1,Zp (i.i8 ),WD,z];exact hF.ret1 (Ze9 ai (Yn _ _)) (.int .i64 0) st (Zyo i) ⟨trivial,trivial⟩ (ZDZ _) i.isub ⟨rfl,rfl⟩;intro q a m hm u n;simp at n;intro q a m id hm u n;simp at n;intro q a m d hm u n;simp at n;intro m c n;simp at n;rintro d S ⟨x,hx,hd,rfl⟩;cases hd
theorem Zoj(t:ZO){b z:Nat}{l:List (Str×Int)}{st:St}(hb:st b=sO (.map (Q1 l)))(hz:st z=sO (.cells [.map b])):
  ZP ZDW 246 [.agg t.cells,.ptr z 0] st (.int .i64 ((Zr t.field l).getD 0)) st:=by
 refine ZG (cR 246 f246) fun j F i=>?_;clear j;have e1:=YR (vD:=W9) ZT t.field l;have e3:=Y1 ZT t.field;simp only[show Ks t.field=D.str t.field from rfl]at e1 e3;refine rx @ZO.cells.eq_1 ?_;refine rx (nd2 @hb (nd2 @hz (nd2 @e1 (nd2 @e3 @ZjS)))) ?_;exact i rfl (by trivial) (ZDZ _) (ZDY _)
def Zab(s:Wi)(l:List (Str×Int)):Int:=s.base+KZ (fun t=>(Zr t.field l).getD 0) s.terms
theorem ZrN(s:Wi)(hv:ZU s=true)(b:Nat)(l:List (Str×Int))(st:St)(hb:st b=sO (.map (Q1 l)))(hk:∀t∈s.terms,∃v,Zr t.field l=sO v∧0≤v∧v<34359738368):
  Za ZDW 205 [.agg s.cells,.map b] st (fun r S=>r=.ret (.tup [.int .i64 (Zab s l),.int .i64 0])∧S=st):=by
 refine Zd (cR 205 f205) fun F hF=>?_;have hE:=Zab.eq_1 s l;have j:∀t∈s.terms,0≤(Zr t.field l).getD 0∧(Zr t.field l).getD 0<34359738368:=fun t ht=>by obtain⟨v,h1,h2,h3⟩:=hk t ht;rw[h1];exact⟨h2,h3⟩
 refine rx @eQ4 ?_;refine rx @eQ4 ?_;refine cV (ZlK s hv b l st hb hk) ?_ ?_;rintro d S ⟨hd,hS⟩;obtain rfl:=hS.symm;cases hd;refine gR0 ?_;refine gI ?_;refine Zy (Zb ?_);refine xP 3 fun z hz=>?_;have i:b≠z:=fun e=>by rw[e,hz]at hb;simp at hb
 refine rx @eQ4 ?_;refine QT rfl rfl rfl rfl rfl (by trivial) (by trivial) (by exact ZcJ s hv _ (fun t=>(Zr t.field l).getD 0) _ j (fun t ht=>(Zoj t (by rw[ZD6 _ _ i];exact hb) (ZD4 _ _ _)).VT (first:=[]) (args:=[_]) (caps:=[_]))) (Zl ?_);simp only[Eqs,reduceCtorEq,ZD2,reduceIte,ZD0,ZD3,ZD1];exact hF.ret _ _ rfl (by trivial) (K0 (by rw[hE]) rfl) (ZEl _ hz) ⟨rfl,rfl⟩;rintro d S ⟨hd,_⟩;cases hd
def WE(m:Msg)(d:Dfn)(path:Str)(b:Nat):List D:=[.str m.name,Zm m.fields,.str d.name,WI d.msgs,.str d.start,.str path,.map b]
theorem J7(m:Msg)(d:Dfn)(path:Str)(f:Fld)(hv:ZU f.size=true)(b:Nat)(l:List (Str×Int))(st:St)(hb:st b=sO (.map (Q1 l)))(hk:∀t∈f.size.terms,∃v,Zr t.field l=sO v∧0≤v∧v<34359738368):
  Za ZDW 156 [.agg (WE m d path b),.agg f.cells] st (fun r S=>r=.ret (.int .i64 (Zab f.size l))∧S=st):=by
 refine Zd (cR 156 f156) fun F hF=>?_;have hE:=ZrN f.size hv b l st hb hk;refine rx (nd2 @eQ0 @WE.eq_1) ?_;refine rg ?_;refine cV (hE) ?_ ?_;rintro dd S ⟨hd,hS⟩;obtain rfl:=hS.symm;cases hd;refine gR0 ?_;refine rg ?_;exact hF.ret _ _ rfl (by trivial) (ZDZ _) (ZDY _) ⟨rfl,rfl⟩;rintro dd S ⟨hd,_⟩;cases hd
theorem Zka{v of:Int}(hv:0≤v)(ho:1≤of):(v≤upS v of∧upS v of<v+of)∧upS v of % of=0∧((v+of)-1).tdiv of≤upS v of∧0≤((v+of)-1).tdiv of:=by
 unfold upS;have e:((v+of)-1).tdiv of=(v+of-1) / of:=Int.tdiv_eq_ediv_of_nonneg (by omega);rw[e];have h1:=Int.emod_add_mul_ediv (v+of-1) of;have h2:=Int.emod_nonneg (v+of-1) (show of≠0 by omega);have h3:=Int.emod_lt_of_pos (v+of-1) (show 0<of by omega);have h5:0≤(v+of-1) / of:=Int.ediv_nonneg (by omega) (by omega);have h4:(v+of-1) / of≤(v+of-1) / of*of:=by have:=Int.mul_le_mul_of_nonneg_left ho h5;rwa [Int.mul_one]at this
 have h6:(v+of-1) / of*of % of=0:=Int.mul_emod_left _ _;rw[Int.mul_comm]at h1;generalize (v+of-1) / of*of=x at *;exact⟨by omega,h6,h4,h5⟩
theorem Zqo{v of:Int}(hv:0≤v∧v≤400000000)(ho:1≤of∧of≤1000):Zf ZDW 127 [.int .i64 v,.int .i64 of] (.int .i64 (upS v of)):=by
 obtain⟨hb,_,hb2,hb3⟩:=Zka hv.1 ho.1;have he:((v+of)-1).tdiv of*of=upS v of:=rfl;refine Zo (cR 127 f127) fun F st i=>?_;refine gG ?_;generalize ((v+of)-1).tdiv of=q at *;rw[he];generalize upS v of=u at *;refine aa ?_;refine ri i ?_;rfl
def Zhl(n:Int):Bool:=(dC (n=2) ||decide (n=4)) ||(dC (8≤n)&&dC (n≤512)&&dC (n.tmod 8=0))
theorem Zk9{n v:Int}(hn:Zhl n=true)(hv:0≤v∧v≤335544320):Zf ZDW 84 [.int .i64 n,.int .i64 v] (.tup [.int .i64 (upS v n-v),.int .i64 0]):=by
 have hb:1≤n∧n≤1000:=by unfold Zhl at hn;simp only[ZEk,ZD5,decide_eq_true_eq]at hn;omega
 have hU:=Zka hv.1 hb.1;have j:=Zqo (v:=v) (of:=n) ⟨by omega,by omega⟩ hb;have hP:=Zhl.eq_1 n;have ht:n.tmod 8=n % 8:=Int.tmod_eq_emod_of_nonneg (by omega);rw[hn]at hP;refine Zo (cR 84 f84) fun F st i=>?_;refine gG ?_;refine⟨fun _=>⟨by decide,by rw[ht];omega,by rw[ht];omega⟩,?_⟩;rw[←hP];refine rg ?_;have hd:(dC (v<0) ||decide (335544320<v))=false:=by simp;omega
 refine Zu rfl trivial (fun h=>by simp at h;omega) (fun _=>?_);refine rg ?_;refine cl (j) ?_;generalize upS v n=u at *;refine aa ?_;refine rt i ?_;rfl
def ZpX:List D:=[.int .i64 16,.int .i64 0,.int .i64 0,.int .i64 0,.fn (.func 213) [] [],.fn (.func 214) [] [],.int .i64 16,.int .i64 65535,.int .i64 0,.int .i64 0,.fn (.func 215) [] [],.fn (.func 216) [] [],.int .i64 32,.int .i64 1,.int .i64 0,.int .i64 0,.fn (.func 217) [] [],.fn (.func 218) [] []]
theorem Zek:Zf ZDW 173 [] (.agg ZpX):=by
 refine Zo (cR 173 f173) fun F st i=>?_;refine gG ?_;exact i rfl (by trivial) (ZDZ _) (ZDY _)
def JQ(n:Int):Int:=if n=3 then 32 else 16
theorem Zxp{n:Int}(h:n=1∨n=2∨n=3):∃a b c f g,part ZpX ((n-1).toNat*6) 6=[.int .i64 (JQ n),a,b,c,f,g]:=by
 rcases h with rfl|rfl|rfl<;>exact⟨_,_,_,_,_,rfl⟩
theorem Zr9{n:Int}(h:n=1∨n=2∨n=3){a b c f g:D}(hp:part ZpX ((n-1).toNat*6) 6=[.int .i64 (JQ n),a,b,c,f,g]):Zf ZDW 128 [.int .i64 n] (.tup [.agg [.int .i64 (JQ n),a,b,c,f,g],.bool true]):=by
 refine Zo (cR 128 f128) fun F st i=>?_;unfold part at hp;have hl:ZpX.length=18:=rfl;refine gG ?_;refine cG (Zek) ?_;refine Zu rfl trivial (fun h=>by simp at h;omega) (fun _=>?_);refine rg ?_;refine cX (nd2 @hp @hl) (Zek) ?_;refine aa ?_;refine rt i ?_;rfl
theorem Zpu{n:Int}(h:n=1∨n=2∨n=3):Zf ZDW 85 [.int .i64 n] (.tup [.int .i64 (JQ n),.int .i64 0]):=by
 obtain⟨a,b,c,f,g,hp⟩:=Zxp h;have hc:=Zr9 h hp;refine Zo (cR 85 f85) fun F st i=>?_;refine gG ?_;refine cl (hc) ?_;refine rg ?_;refine iG ?_;refine rt i ?_;rfl
def Wd(v i:Nat):Nat:=v / 128 ^ i
theorem Zca(v i:Nat):Wd v (i+1)=Wd v i / 128:=by unfold Wd;rw[Nat.pow_succ,Nat.div_div_eq_div_mul]
def ZjT(v k:Nat):UInt8:=UInt8.ofNat (Wd v k % 128+128)
def ZmC(v k:Nat):UInt8:=UInt8.ofNat (Wd v k % 128)
def ZlB(v i:Nat):Str:=(ZEa i).map (ZjT v)
theorem Zv6(v i:Nat):ZlB v (i+1)=ZlB v i++[ZjT v i]:=by unfold ZlB;rw[List.range_succ,List.map_append];rfl
theorem ZeC(v i:Nat):(ZlB v i).length=i:=by simp[ZlB]
def Ql(v i:Nat):Str:=ZlB v i++[ZmC v i]
def Yv(v:Nat):Nat:=if Wd v 0<128 then 0 else if Wd v 1<128 then 1 else if Wd v 2<128 then 2 else if Wd v 3<128 then 3 else 4
theorem ZnZ{v:Nat}(hv:v<34359738368):Yv v≤4∧(Wd v 0<128↔Yv v≤0)∧(Wd v 1<128↔Yv v≤1)∧(Wd v 2<128↔Yv v≤2)∧(Wd v 3<128↔Yv v≤3)∧Wd v 4<128:=by
 have e0:Wd v 0=v:=by simp[Wd]
 have e1:=Zca v 0;have e2:=Zca v 1;have e3:=Zca v 2;have e4:=Zca v 3;have hg:=Yv.eq_1 v;generalize Yv v=g at *;generalize Wd v 0=r0 at *;generalize Wd v 1=r1 at *;generalize Wd v 2=r2 at *;generalize Wd v 3=r3 at *;generalize hr4:Wd v 4=r4 at *;have i:g≤4∧(r0<128↔g≤0)∧(r1<128↔g≤1)∧(r2<128↔g≤2)∧(r3<128↔g≤3)∧r4<128:=by
  repeat' (split at hg)
  all_goals omega
 exact i
theorem Zxa{v:Nat}(hv:v<34359738368){i:Nat}(hi:i<5):Wd v i<128↔Yv v≤i:=by
 obtain⟨h,h0,h1,h2,h3,h4⟩:=ZnZ hv;have h5:i=0∨i=1∨i=2∨i=3∨i=4:=by omega
 rcases h5 with rfl|rfl|rfl|rfl|rfl;exact h0;exact h1;exact h2;exact h3;exact⟨fun _=>h,fun _=>h4⟩
theorem Zkx(n:Int):Zf ZDW 220 [.int .i64 n] (.bool (dC (0≤n)&&dC (n<34359738368))):=by
 refine Zo (cR 220 f220) fun F st i=>?_;refine gG ?_;refine rb i ?_;rfl
theorem Zn7{a T:St}{tk:Tok}{k:Nat}(h:∀b,tk=.tip b→a b=nO):(a.or T).own tk k=a.or (T.own tk k):=by
 cases tk with
 |tip b=>exact Zgv (h b rfl)
 |_=>rfl
theorem Zny{v:Int}(st:St):Za ZDW 174 [.int .i64 v] st fun r S=>∃x,st x=nO∧r=.ret (.fn (.func 219) [] [.ptr x 0])∧S=st.or (ZEn x (.cells [.int .i64 v])):=by
 refine Zd (cR 174 f174) fun F hF=>?_;refine rg ?_;refine Zb ?_;refine xP 1 fun x hx=>?_;refine rg ?_;exact hF.ret _ _ rfl (by trivial) (ZDZ _) (ZDY _) ⟨x,hx,rfl,KG hx⟩
theorem u8n{n:Nat}(h:n<256):(UInt8.ofNat n).toNat=n:=by rw[UInt8.toNat_ofNat'];omega
theorem Ztn{n:Int}(h:0≤n∧n≤255):IntKind.u8.wrap n=n:=by
 unfold IntKind.wrap;simp[IntKind.bits,IntKind.signed];omega
theorem Zkw{v:Nat}(hv:v<34359738368)(x:Nat):Zcr ZDW (.fn (.func 219) [] [.ptr x 0]) (5-Yv v) (fun j=>[ZL (Ql v (Yv v+j))]) (ZEn x (.cells [.int .i64 v])):=by
 intro y go A a0 al hA hd;obtain⟨hg4,-⟩:=ZnZ hv;refine Za.V (first:=[]) (args:=[y]) (caps:=[.ptr x 0]) (Zd (cR 219 f219) fun F hF=>?_);have hx:∀a T,Z6 a T→T x=sO (.cells [.int .i64 (v:Int)])→(a.or T) x=sO (.cells [.int .i64 (v:Int)]):=fun a T bb hT=>by rw[ZH (bb x _ hT)];exact hT
 have ag:(ZEn x (.cells [.int .i64 (v:Int)])) x=sO (.cells [.int .i64 (v:Int)]):=Yn _ _;generalize hT:ZEn x (.cells [.int .i64 (v:Int)])=T at *;refine rg ?_;refine rh ?_;refine Zl ?_;simp only[Eqs,reduceCtorEq,ZD2,reduceIte,ZD0,ZD3,ZD1,hx a0 T hd ag];rw[show(v:Int)=((Wd v 0:Nat):Int) by simp[Wd]];refine kl ((a0.or T)) [(0,.d y),(1,.d (.ptr x 0)),(3,.d (.sl .full 0 1 fun _=>[])),(4,.d (.int .i64 ((Wd v 0:Nat):Int)))] [] (.skip (.skip (.cons (.d (Kk fun b h=>by cases h)) (Qj _)))) (Zaj _) ?_;refine Zc (fr (5) (fun i Q=>∀a tk row,Z6 a (T.own tk i)→tk.okIn (a.or T)→A (i-Yv v) a→(∀j,j<i-Yv v→go j=.next)→Z0 byC row (ZlB v i)→i≤5→Q [(0,.d y),(1,.d (.ptr x 0)),(3,.d (.sl tk i 1 row)),(4,.d (.int .i64 ((Wd v i:Nat):Int)))] [] (a.or (T.own tk i))) (fun n ah=>?_) fun a9=>?_)
 ·clear hA hd;intro i hn a tk row hd ab hA ac ai hi;have au:=Zn7 (a:=a) (T:=T) (tk:=tk) (k:=i) (fun b hb=>by subst hb;exact hd b (.tip i) (ZD4 _ _ _));have a3:(T.own tk i) x=sO (.cells [.int .i64 (v:Int)]):=by
   cases tk with
   |tip b =>
    have hb:x≠b:=fun e=>by have:=(QF ab).2;rw[←e,ag]at this;simp at this
    show(T.upd b _) x=_;rw[ZD6 _ _ hb];exact ag
   |full=>exact ag
   |none=>exact ag
  refine rh ?_;refine Zl ?_;simp only[Eqs,reduceCtorEq,ZD2,reduceIte,ZD0,ZD3,ZD1,hx a _ hd a3];refine cl (Zkx (v:Int)) ?_;refine cd (fun h1=>?_) (fun h1=>?_)
  ·have a4:i<5:=by simp at h1;omega
   have hlt:i=5∨i<5:=by omega
   obtain⟨r,hr⟩:∃r:Nat,r=Wd v i:=⟨_,rfl⟩;have z:((r:Nat):Int).tmod 128=((r % 128:Nat):Int):=by rw[Int.tmod_eq_emod_of_nonneg (by omega)];omega
   have a7:IntKind.u8.wrap (((r:Nat):Int).tmod 128)=((ZmC v i).toNat:Int):=by rw[z,Ztn (by omega)];unfold ZmC;rw[←hr,u8n (by omega)]
   have az:IntKind.u8.wrap (((r:Nat):Int).tmod 128+128)=((ZjT v i).toNat:Int):=by rw[z,show((r % 128:Nat):Int)+128=((r % 128+128:Nat):Int) by omega,Ztn (by omega)];unfold ZjT;rw[←hr,u8n (by omega)]
   rw[←hr];refine rx @a7 ?_;refine⟨by omega,by omega,by omega,by decide,by rw[z];omega,by rw[z];omega,?_⟩;refine ZaZ ((a.or (T.own tk i))) (.full) rfl rfl rfl rfl rfl rfl (by trivial) (by trivial) rfl (by first|trivial|assumption) (by omega) (by (unfold big;omega)) fun t1 ax=>Zl ?_;simp only[Eqs,reduceCtorEq,ZD2,reduceIte,ZD0,ZD3,ZD1];have ak:Z0 byC (YG i (fun i=>row i) (Z8 [D.int IntKind.u8 0] ([0].zip [D.int IntKind.u8 ((ZmC v i).toNat:Int)]))) (Ql v i):=ai.snoc (x:=ZmC v i) rfl (ZeC v i).symm;have a8:i+1=(Ql v i).length:=by unfold Ql;rw[ZD8,ZeC];rfl
   refine Kc (s':=a.or (T.own tk i)) (Y2 ax) ?_;refine kl ((a.or (T.own tk i))) [(0,.d y),(1,.d (.ptr x 0)),(3,.d (.sl tk i 1 row)),(4,.d (.int .i64 (r:Int))),(5,.d (ZL (Ql v i)))] [] (.skip (.skip (.skip (.skip (.cons (.d (ak.le a8)) (Qj _)))))) (Zaj _) ?_;clear ax;refine jU [1,0] (fun Q=>∀a,Z6 a (T.own tk i)→tk.okIn (a.or T)→A (i+1-Yv v) a→(∀j,j<i+1-Yv v→go j=.next)→Q F [(0,.d y),(1,.d (.ptr x 0)),(3,.d (.sl tk i 1 row)),(4,.d (.int .i64 (r:Int))),(34,.d (.bool false))] [] (a.or (T.own tk i))) ?_ fun fin=>?_
   ·intro a hd ab hA ac;have a5:tk.okIn T:=by
     cases tk with
     |tip b=>exact(QF ab).2
     |full=>trivial
     |none=>exact ab.elim
    have am:Z6 a T:=fun c o hc=>hd c o (Y2 a5 c o hc);have au:=Zn7 (a:=a) (T:=T) (tk:=tk) (k:=i) (fun b hb=>by subst hb;exact hd b (.tip i) (ZD4 _ _ _));rw[←au,show(a.or T).own tk i=(a.or T).own tk (i*1) by rw[Nat.mul_one]];refine rx @az ?_;refine⟨by decide,by rw[z];omega,by rw[z];omega,by rw[z];omega,by rw[z];omega,?_⟩;refine ZaZ ((a.or T)) (tk) rfl rfl rfl rfl rfl rfl (by trivial) (by trivial) (by rw[Nat.mul_one]) ab (by omega) (by (unfold big;omega)) fun t2 av=>Zl ?_;simp only[Eqs,reduceCtorEq,ZD2,reduceIte,ZD0,ZD3,ZD1];have af:=ai.snoc (x:=ZjT v i) (row2:=Z8 [D.int IntKind.u8 0] ([0].zip [D.int IntKind.u8 ((ZjT v i).toNat:Int)])) rfl (ZeC v i).symm;rw[←Zv6]at af;have ap:Z6 a (T.own t2 (i+1)):=by
     cases t2 with
     |tip b =>intro c o hc;by_cases aw:c=b;rw[aw];exact(QF av).1;rw[show(T.own (.tip b) (i+1)) c=T c from ZD6 _ _ aw]at hc;exact am c o hc
     |full=>exact am
     |none=>exact am
    have ar:=Zn7 (a:=a) (T:=T) (tk:=t2) (k:=i+1) (fun b hb=>by subst hb;exact ap b (.tip (i+1)) (ZD4 _ _ _));rw[Nat.mul_one,ar];have a6:Zoi .i64 (r:Int) 7=((Wd v (i+1):Nat):Int):=by rw[Zca,←hr];unfold Zoi;rw[show((2:Int) ^ (Nat.min (7:Int).toNat IntKind.i64.bits))=128 from rfl,Int.fdiv_eq_ediv_of_nonneg _ (by decide)];omega
    have hvb:Wd v (i+1)≤v:=by unfold Wd;exact Nat.div_le_self _ _
    refine rx @a6 ?_;refine⟨by decide,by omega,by omega,?_⟩;refine Zg ?_;exact ah ((5)-(i+1)) (by omega) (i+1) rfl a t2 _ ap av hA ac af (by omega)
   have ay:=Zxa hv a4;rw[←hr]at ay;by_cases hq:r<128
   ·have ao:dC ((r:Int)<128)=true:=by simpa using(show(r:Int)<128 by omega)
    have bc:i=Yv v+(i-Yv v):=by omega
    have ad:=(al (i-Yv v) (by omega) ac a hA).frame hd;simp only[show Yv v+(i-Yv v)=i from bc.symm]at ad;refine rx @ao ?_;refine vV (ad) ?_ ?_
    ·rintro d S ⟨s',⟨t,ae⟩,aj,rfl⟩;have aq:tk.okIn (s'.or T):=by
      cases tk with
      |tip b=>show(s'.or T) b=nO;rw[ZH (aj b (.tip i) (ZD4 _ _ _))];exact(QF ab).2
      |full=>trivial
      |none=>exact ab.elim
     rw[show i-Yv v+1=i+1-Yv v by omega]at ae;cases u:go (i-Yv v) with
     |next =>rw[u]at t;cases t;refine gR0 ?_;refine i0 ?_;refine Zy ?_;refine fin s' aj aq ae fun j hj=>?_;by_cases ba:j=i-Yv v;rw[ba];exact u;exact ac j (by omega)
     |stop c =>rw[u]at t;cases t;refine gR0 ?_;refine i1 ?_;exact hF.ret (.tup []) _ rfl trivial (ZDZ _) (ZDY _) ⟨s',.stop (i-Yv v) c (by omega) ac u (by rw[show i-Yv v+1=i+1-Yv v by omega];exact ae),Kg _ _⟩
     |pan d=>rw[u]at t;cases t
    rintro d S ⟨s',⟨t,ae⟩,aj,rfl⟩;cases u:go (i-Yv v) with
    |pan d' =>rw[u]at t;cases t;exact hF.pan _ (ZDY _) ⟨s',.pan (i-Yv v) d (by omega) ac u ae,Kg _ _⟩
    |next=>rw[u]at t;cases t
    |stop c=>rw[u]at t;cases t
   have ao:dC ((r:Int)<128)=false:=by simpa using(show ¬(r:Int)<128 by omega)
   refine rx @ao ?_;refine KH rfl (e:=.d (.bool false)) (Zl ?_);simp only[Eqs,reduceCtorEq,ZD2,reduceIte,ZD0,ZD3,ZD1];refine i0 ?_;refine Zy ?_;exact fin a hd ab (by rw[show i+1-Yv v=i-Yv v by omega];exact hA) (fun j hj=>ac j (by omega))
  have h5:i=5:=by simp at h1;omega
  subst h5;refine ZQ rfl ?_;exact hF.fin (.tup []) _ rfl trivial (ZDZ _) (ZDY _) ⟨a,.all ac hA,Kg _ _⟩
 exact a9 _ 0 rfl a0 .full _ hd trivial (by rw[Nat.zero_sub];exact hA) (by intro j hj;omega) Z0.nil (by omega)
def apV(st:St)(b2 b4 b5:Nat)(d:D):St:=((st.upd b2 (.cells [.nilsl])).upd b4 (.cells [d])).upd b5 (.cells [.int .i64 0])
theorem ZlR{v:Nat}(hv:v<34359738368)(st:St):Za ZDW 129 [.nilsl,.int .i64 v] st fun r S=>r=.ret (.tup [ZL (Ql v (Yv v)),.int .i64 0])∧S=st:=by
 refine Zd (cR 129 f129) fun F hF=>?_;obtain⟨hg4,-⟩:=ZnZ hv;have ae:(Ql v (Yv v)).length=Yv v+1:=by unfold Ql;rw[ZD8,ZeC];rfl
 refine rg ?_;refine Zb (Zb ?_);refine xP 2 fun b2 h2=>?_;refine xP 4 fun b4 h4=>?_;refine xP 5 fun b5 h5=>?_;refine rg ?_;refine cV (Zny (v:=(v:Int)) _) ?_ ?_;rintro d S ⟨x,hx,hd,rfl⟩;cases hd;refine gR0 ?_;refine Zc ?_;have k4:=Zq h4;have k5:=Zq h5;have ah:=Zq k5.2;rw[show((st.upd b2 (.cells [.nilsl])).upd b4 (.cells [.nilsl])).upd b5 (.cells [.int .i64 0])=apV st b2 b4 b5 .nilsl from rfl]at hx⊢;have g2:∀d,(apV st b2 b4 b5 d) b2=sO (.cells [.nilsl]):=fun d=>by unfold apV;rw[ZD6 _ _ ah.1.symm,ZD6 _ _ k4.1.symm,ZD4]
 have g4:∀d,(apV st b2 b4 b5 d) b4=sO (.cells [d]):=fun d=>by unfold apV;rw[ZD6 _ _ k5.1.symm,ZD4]
 have g5:∀d,(apV st b2 b4 b5 d) b5=sO (.cells [.int .i64 0]):=fun d=>by unfold apV;rw[ZD4]
 have u4:∀d d',(apV st b2 b4 b5 d).upd b4 (.cells [d'])=apV st b2 b4 b5 d':=fun d d'=>by unfold apV;rw[St.upd_comm _ _ _ k5.1.symm,ZEj]
 have u5:∀d,(apV st b2 b4 b5 d).upd b5 (.cells [.int .i64 0])=apV st b2 b4 b5 d:=fun d=>by unfold apV;rw[ZEj]
 have sb:∀d,st.sub (apV st b2 b4 b5 d):=fun d=>by unfold apV;exact ZED (ZED (ZEl _ h2) (ZEl _ h4)) (ZEl _ (by rw[ZD6 _ _ k5.1];exact k5.2))
 refine Ka hF rfl trivial [2,4,5] (by show([2,4,5]:List Nat).Nodup;decide) (Wh hx) (Zkw hv x).Y (fun j hj=>rfl)
  (fun j=>.stop .ret) (fun j a=>(j=0∧a=apV st b2 b4 b5 .nilsl)∨(0<j∧a=apV st b2 b4 b5 (ZL (Ql v (Yv v))))) (.inl ⟨rfl,rfl⟩) ?_ ?_ ?_ ?_ ?_ ?_
 intro j a hj u hB F' ready n hdr ab af;have ai:j=0:=by refine Nat.eq_zero_of_not_pos fun h=>?_;have:=u 0 h;simp at this
 subst ai;rcases hB with ⟨_,rfl⟩|⟨h,_⟩
 skip
 simp only[Eqs,reduceCtorEq,ZD2,reduceIte,ZD0,ZD3,ZD1,Ws,WG,Qy,WU,List.isEmpty_nil,List.isEmpty_cons];refine rg ?_;refine ab fun aj=>?_;have ac:Z6 (apV st b2 b4 b5 (ZL (Ql v (Yv v)))) n:=fun c o hc=>by have h1:=aj c o hc;unfold apV at h1⊢;have a1:=Zq h1;have a2:=Zq a1.2;rw[ZD6 _ _ a1.1,ZD6 _ _ a2.1];exact a2.2
 refine rh ?_;refine Zl ?_;simp only[Eqs,reduceCtorEq,ZD2,reduceIte,ZD0,ZD3,ZD1,Zp (g2 _)];refine ZaZ (((apV st b2 b4 b5 .nilsl).or n)) (.full) rfl rfl rfl rfl rfl rfl (by trivial) (by trivial) rfl (by first|trivial|assumption) (by (rw[ae];omega)) (by (rw[ae];unfold big;omega)) fun t1 z=>Zl ?_;simp only[Eqs,reduceCtorEq,ZD2,reduceIte,ZD0,ZD3,ZD1,Zn6 z (Zp (g4 _)),Zn6 z (Zp (g5 _)),ZD6 _ _ k5.1];have ag:Z0 u8C (YG 0 (fun _=>[]) fun i=>u8C (ZEb (Ql v (Yv v)) i dE)) ([]++Ql v (Yv v)):=Z0.nil.app Z0.self rfl;have ad:((apV st b2 b4 b5 (ZL (Ql v (Yv v)))).or n).sub (((((((apV st b2 b4 b5 .nilsl).or n).own t1 (List.length (Ql v (Yv v))*1)).upd b4 (.cells [.sl t1 (List.length (Ql v (Yv v))) 1 (YG 0 (fun _=>[]) fun i=>u8C (ZEb (Ql v (Yv v)) i dE))])).upd b5 (.cells [.int .i64 0])).upd b4 (.cells [ZL (Ql v (Yv v))]))):=fun c o hc=>by
  by_cases c4:c=b4;subst c4;rw[ZD4];rw[Zp (g4 _)]at hc;exact hc;rw[ZD6 _ _ c4];by_cases c5:c=b5;subst c5;rw[ZD4];rw[Zp (g5 _)]at hc;exact hc;rw[ZD6 _ _ c5,ZD6 _ _ c4];refine Zn6 z ?_;have he:(apV st b2 b4 b5 (ZL (Ql v (Yv v)))) c=(apV st b2 b4 b5 .nilsl) c:=by unfold apV;rw[ZD6 _ _ c5,ZD6 _ _ c4,ZD6 _ _ c5,ZD6 _ _ c4]
  unfold St.or at hc⊢;rw[he]at hc;exact hc
 refine JU (b:=b4) (by rw[ZD6 _ _ k5.1.symm,ZD4]) (.cons (ag.le (by simp)) .nil) ?_;refine Kc (s':=(apV st b2 b4 b5 (ZL (Ql v (Yv v)))).or n) ad ?_;exact af.ret ⟨rfl,.inr ⟨by omega,rfl⟩⟩ ac (ZDY _);omega;intro q a u hB hq;have:=u 0 (by omega);simp at this;intro q a m hm u t hB hq;rcases hB with ⟨h,_⟩|⟨_,rfl⟩;omega;rw[KG hq];exact hF.ret1 hq (.tup [ZL (Ql v (Yv v)),.int .i64 0]) st (ds:=[ZL (Ql v (Yv v)),.int .i64 0]) (p:=True∧True∧True) (by simp[Yt,WV,ZM,Y6,Yc,g4,g5]) ⟨trivial,trivial,trivial⟩ (ZDZ _) (sb _) ⟨rfl,rfl⟩;intro q a m id hm u t;simp at t;intro q a m d hm u t;simp at t;intro m c t;simp at t;exact .inl t.symm;rintro d S ⟨x,hx,hd,rfl⟩;cases hd
theorem ZpO{v:Nat}(hv:v<34359738368):Zf ZDW 86 [.int .i64 v] (.tup [.int .i64 ((Yv v:Int)+1),.int .i64 0]):=by
 refine Zo (cR 86 f86) fun F st i=>?_;have j:(Ql v (Yv v)).length=Yv v+1:=by unfold Ql;rw[ZD8,ZeC];rfl
 refine gG ?_;refine cV (ZlR hv _) ?_ ?_;rintro d S ⟨hd,hS⟩;obtain rfl:=hS.symm;cases hd;refine gR0 ?_;refine rx @Zad ?_;refine rt i ?_;rw[j];rfl;rintro d S ⟨hd,_⟩;cases hd
def Zn(d:Dfn)(s:Str):Msg:=d.msgs.getD (ixS d s) dE
def Q9(f:Fld)(x:Val)(b:Int):Int :=
 if f.kind=1∨f.kind=2 then b+f.bits
 else if f.kind=3 then b+8*(Yv x.int.toNat+1:Nat)
 else if f.kind=4 then b+8*x.bytes.length
 else if f.kind=5 then b+8*x.bytes.length+8
 else if f.kind=6 then b+8*(Zbb x.hdrs).length
 else if f.kind=10 then upS b f.bits
 else if f.kind=11 then b+JQ f.check
 else b
def Km(rec:Val→Int):List Val→Int→Int
 | [],b=>b
 |y::r,b=>Km rec r (b+8*rec y)
def Ku(rec:Val→Int):List Fld→List Val→Int→Int
 | [],_,b=>b
 |f::r,ps,b=>if W8 f then Ku rec r (ps.drop 1) (Km rec (ps.getD 0 dE).parts (Q9 f (ps.getD 0 dE) b)) else Ku rec r ps (Q9 f dE b)
def lenS(d:Dfn):Nat→Msg→Val→Int
 |0,_,_=>0
 |n+1,m,v=>(Ku (fun y=>lenS d n (Zn d y.name) y) m.fields v.parts 0).tdiv 8
structure FOk(f:Fld):Prop where
 num:f.kind=1∨f.kind=2→0≤f.bits∧f.bits≤600
 pad:f.kind=10→Zhl f.bits=true
 chk:f.kind=11→f.check=1∨f.check=2∨f.check=3
structure MOk(m:Msg):Prop where
 few:m.fields.length≤40
 fld:∀f∈m.fields,FOk f
theorem Zrv{n:Int}(h:Zhl n=true):2≤n∧n≤512:=by
 unfold Zhl at h;simp only[ZEk,ZD5,decide_eq_true_eq]at h;omega
theorem Zu2(l:List Hdr):(Zbb l).length=Qw l+4*l.length+2:=by
 unfold Zbb;rw[ZD8];have:(l.flatMap Zg9).length=Qw l+4*l.length:=by
  induction l with
  |nil=>rfl
  |cons h r ih=>rw[List.flatMap_cons,ZD8,ih];simp only[Zg9,Qw,ZD8,ZEf,List.length_nil];omega
 rw[this];rfl
theorem ZyA(v:Nat):Yv v≤4:=by
 unfold Yv
 repeat' split
 all_goals omega
theorem ZdK{f:Fld}{x:Val}{b:Int}(hf:FOk f)(hb:0≤b)(hh:x.hdrs.length≤100):b≤Q9 f x b∧Q9 f x b≤b+600+8*(x.bytes.length+Qw x.hdrs:Nat)+3300:=by
 have h3:=ZyA x.int.toNat;have h6:=Zu2 x.hdrs;have hck:JQ f.check=32∨JQ f.check=16:=by unfold JQ;split<;>simp
 unfold Q9;by_cases c1:f.kind=1∨f.kind=2;have:=hf.num c1;rw[if_pos c1];omega;rw[if_neg c1];by_cases c3:f.kind=3;rw[if_pos c3];omega;rw[if_neg c3];by_cases c4:f.kind=4;rw[if_pos c4];omega;rw[if_neg c4];by_cases c5:f.kind=5;rw[if_pos c5];omega;rw[if_neg c5];by_cases c6:f.kind=6;rw[if_pos c6];omega;rw[if_neg c6];by_cases i:f.kind=10;rw[if_pos i];have h1:=Zrv (hf.pad i);have h2:=(Zka hb (show 1≤f.bits by omega)).1;omega;rw[if_neg i];by_cases j:f.kind=11;rw[if_pos j];omega;rw[if_neg j];omega
theorem Zaz{rec:Val→Int}:∀{l:List Val} {b:Int},(∀y∈l,0≤rec y∧8*rec y≤20000*(wtN y:Int))→b≤Km rec l b∧Km rec l b≤b+20000*(wtL l:Int)
 | [],b,_=>by simp[Km,wtL]
 |y::r,b,h=>by have h1:=h y (by simp);have h2:=Zaz (rec:=rec) (l:=r) (b:=b+8*rec y) fun z hz=>h z (by simp[hz]);simp only[Km,wtL];omega
theorem JV{rec:Val→Int}:∀{l:List Fld} {ps:List Val} {b:Int},(∀f∈l,FOk f)→0≤b→(∀x∈ps,x.hdrs.length≤100∧∀y∈x.parts,0≤rec y∧8*rec y≤20000*(wtN y:Int)) →
  b≤Ku rec l ps b∧Ku rec l ps b≤b+600*(l.length:Int)+3300*(l.length:Int)+20000*(wtL ps:Int)
 | [],ps,b,_,hb,_=>by simp only[Ku,List.length_nil];omega
 |f::r,ps,b,hf,hb,hp=>by
  have j:=hf f (by simp);have i:∀g∈r,FOk g:=fun g hg=>hf g (by simp[hg]);simp only[Ku,ZEf];split
  ·cases ps with
   |nil =>have h1:=ZdK (x:=dE) j hb (by simp[show(dE:Val).hdrs=[] from rfl]);have e1:(dE:Val).bytes.length=0:=rfl;have e2:Qw (dE:Val).hdrs=0:=rfl;have h2:=JV (rec:=rec) (l:=r) (ps:=[]) (b:=Q9 f dE b) i (by omega) (fun x hx=>by simp at hx);rw[show Ku rec r (List.drop 1 []) (Km rec (([]:List Val).getD 0 dE).parts (Q9 f (([]:List Val).getD 0 dE) b))=Ku rec r [] (Q9 f dE b) from rfl];rw[e1,e2]at h1;simp only[wtL]at h2⊢;omega
   |cons x q =>have hx:=hp x (by simp);have h1:=ZdK j hb hx.1;have h3:=Zaz (b:=Q9 f x b) hx.2;have h2:=JV (rec:=rec) (l:=r) (ps:=q) (b:=Km rec x.parts (Q9 f x b)) i (by omega) (fun z hz=>hp z (by simp[hz]));have hw:=Zc2 x;rw[show Ku rec r ((x::q).drop 1) (Km rec ((x::q).getD 0 dE).parts (Q9 f ((x::q).getD 0 dE) b))=Ku rec r q (Km rec x.parts (Q9 f x b)) from rfl];simp only[wtL];omega
  have h1:=ZdK (x:=dE) j hb (by simp[show(dE:Val).hdrs=[] from rfl]);have e1:(dE:Val).bytes.length=0:=rfl;have e2:Qw (dE:Val).hdrs=0:=rfl;rw[e1,e2]at h1;have h2:=JV (rec:=rec) (l:=r) (ps:=ps) (b:=Q9 f dE b) i (by omega) hp;omega
def DOk(d:Dfn):Prop:=∀m∈d.msgs,MOk m
theorem DOk.of{d:Dfn}(h:DOk d)(s:Str):MOk (Zn d s):=by
 unfold Zn;by_cases hi:ixS d s<d.msgs.length;exact h _ (ZC hi);rw[show d.msgs.getD (ixS d s) dE=dE by simp[ZEb,ZEG (Nat.le_of_not_lt hi)]];exact⟨by decide,fun f hf=>by simp[show(dE:Msg).fields=[] from rfl]at hf⟩
theorem WQ{v x:Val}(h:Z3 v=true)(hx:x∈v.parts):Z3 x=true:=by
 rw[Zey,ZD5,ZdV]at h;exact List.all_eq_true.1 h.1 x hx
theorem QP{v:Val}(h:Z3 v=true):QN v=true:=by
 rw[Zey,ZD5]at h;exact h.2
theorem Zhi{d:Dfn}(hd:DOk d):∀(n:Nat) (m:Msg) (v:Val),MOk m→Z3 v=true→0≤lenS d n m v∧8*lenS d n m v≤20000*(wtN v:Int)
 |0,m,v,_,_=>by simp only[lenS];omega
 |n+1,m,v,hm,hv=>by
  have h1:=JV (rec:=fun y=>lenS d n (Zn d y.name) y) (l:=m.fields) (ps:=v.parts) (b:=0) hm.fld (by omega) fun x hx=>by have i:=WQ hv hx;exact⟨(JF (QP i)).2.2.2.1,fun y hy=>Zhi hd n (Zn d y.name) y (hd.of _) (WQ i hy)⟩
  have h2:=Zc2 v;have h3:=hm.few;simp only[lenS];generalize Ku (fun y=>lenS d n (Zn d y.name) y) m.fields v.parts 0=t at *;rw[Int.tdiv_eq_ediv_of_nonneg (by omega)];omega
structure XOk(f:Fld)(x:Val):Prop where
 unused:Ki f.kind x=false
 vint:f.kind=3→0≤x.int∧x.int<34359738368
 hdrs:f.kind=6→K2 x.hdrs=true∧Zd2 x.hdrs
def ZlX(d:Dfn):Nat→Msg→Val→Prop
 |0,_,_=>False
 |n+1,m,v=>(vfs m.fields).length=v.parts.length∧∀k,k<v.parts.length→XOk ((vfs m.fields).getD k dE) (v.parts.getD k dE)∧∀y∈(v.parts.getD k dE).parts,0≤ZF d y.name d.msgs.length∧ZlX d n (Zn d y.name) y
theorem Znz{l:List Fld}{i k:Nat}(hk:k=(vfs (l.take i)).length)(hi:i<l.length)(hv:W8 (l.getD i dE)=true):k<(vfs l).length∧(vfs l).getD k dE=l.getD i dE:=by
 have h1:=ZwD hi;rw[if_pos hv]at h1;refine⟨by rw[h1];simp;omega,?_⟩;rw[h1,hk];simp[ZEb]
theorem Zr0{v x:Val}(h:x∈v.parts):wtN x≤wtN v:=by
 have h1:=Ztp h;have h2:=Zc2 v;omega
def ZeY(rec:Val→Int):List Val→Int
 | []=>0
 |y::r=>rec y+ZeY rec r
theorem ZdX{rec:Val→Int}:∀(l:List Val) (b:Int),Km rec l b=b+8*ZeY rec l
 | [],b=>by simp[Km,ZeY]
 |y::r,b=>by simp only[Km,ZeY];rw[ZdX r];omega
theorem Zoh(l:List Val)(f:D)(rec:Val→Int)(st:St)(hl:l.length≤5000)(hr:∀y∈l,0≤rec y∧8*rec y≤20000*(wtN y:Int))(hw:wtL l≤5000)(hf:∀y∈l,VT ZDW f [.agg y.cells] st (.int .i64 (rec y)) st):
  ZP ZDW 82 [ZW l,f] st (.int .i64 (ZeY rec l)) st:=by
 refine ZG (cR 82 f82) fun ag F ac=>?_;clear ag;have hT:=Zaz (b:=0) hr;have hTe:=ZdX (rec:=rec) l 0;generalize ad:ZeY rec l=T at *;refine rg ?_;refine rx @Zb2 ?_;refine Zc (fr (l.length) (fun i Q=>∀b:Int,0≤b→b≤T→b+ZeY rec (l.drop i)=T→i≤l.length→Q [(1,.d f),(4,.d (.int .i64 b)),(7,.d (ZW l)),(8,.d (.int .i64 l.length)),(9,.d (.int .i64 i))] [] st) (fun n t=>?_) fun af=>?_);intro i hn b hb0 hbT j hi;refine rg ?_;refine Zb (Zu rfl trivial (fun h1=>?_) (fun h1=>?_));simp at h1;have ab:l.getD i dE∈l:=ZC h1;have hyr:=hr _ ab;have u:=hf _ ab;have ae:=Qq (l:=l) (i:=i) h1;rw[Zap h1]at j;simp only[ZeY]at j;have hP:=Zaz (rec:=rec) (l:=l.drop (i+1)) (b:=0) fun z hz=>hr z (List.mem_of_mem_drop hz);rw[ZdX]at hP;rw[ZEg]at u;generalize l.getD i dE=y at *;generalize rec y=ry at *;refine xA (nd2 @atV @ae) ?_;refine rg ?_;refine cW (u) ?_;refine aa ?_;refine gA ?_;refine Zg ?_;exact t ((l.length)-(i+1)) (by omega) (i+1) rfl (b+ry) (by omega) (by omega) (by omega) (by omega);simp at h1;obtain rfl:i=l.length:=by omega
 rw[ZEE (ZEd _)]at j;simp only[ZeY]at j;refine rg ?_;exact ac rfl (by trivial) (Zgd (by omega)) (ZDY _);exact af _ 0 rfl 0 (by omega) (by omega) (by rw[List.drop_zero,ad];omega) (by omega)
theorem Zkt(d:Dfn)(y:Val)(ry:Int)(zd:Nat)(st:St)(hz:st zd=sO (.cells [.str d.name,WI d.msgs,.str d.start]))(h0:0≤ZF d y.name d.msgs.length)(hl:Zf ZDW 41 [.agg d.cells,.agg (Zn d y.name).cells,.agg y.cells] (.int .i64 ry)):ZP ZDW 83 [.agg y.cells,.ptr zd 0] st (.int .i64 ry) st:=by
 refine ZG (cR 83 f83) fun j F i=>?_;clear j;have hm:=Y5 d y.name h0;rw[show d.msgs.getD (ixS d y.name) dE=Zn d y.name from rfl]at hm;rw[ZEg]at hl⊢;refine rg ?_;refine xA @hz ?_;refine clD (hm) ?_;refine clD (hl) ?_;exact i rfl (by trivial) (ZDZ _) (ZDY _)
theorem Zku(d:Dfn)(hd:DOk d)(n:Nat)(m:Msg)(hm:MOk m)(v:Val)(hv:Z3 v=true)(hw:wtN v≤5000)(hL:ZlX d (n+1) m v)(ih:∀x∈v.parts,∀y∈x.parts,0≤ZF d y.name d.msgs.length∧Zf ZDW 41 [.agg d.cells,.agg (Zn d y.name).cells,.agg y.cells] (.int .i64 (lenS d n (Zn d y.name) y))):
  Zf ZDW 41 [.agg d.cells,.agg m.cells,.agg v.cells] (.int .i64 (lenS d (n+1) m v)):=by
 refine Zo (cR 41 f41) fun F st a9=>?_;obtain⟨a7,hX⟩:=hL;have hrec:∀x∈v.parts,x.hdrs.length≤100∧∀y∈x.parts,0≤lenS d n (Zn d y.name) y∧8*lenS d n (Zn d y.name) y≤20000*(wtN y:Int):=fun x hx =>
  ⟨(JF (QP (WQ hv hx))).2.2.2.1,fun y hy=>Zhi hd n _ y (hd.of _) (WQ (WQ hv hx) hy)⟩
 obtain⟨rec,am⟩:∃rec:Val→Int,rec=fun y=>lenS d n (Zn d y.name) y:=⟨_,rfl⟩;have hS:lenS d (n+1) m v=(Ku rec m.fields v.parts 0).tdiv 8:=by rw[am];rfl
 have ad:∀x∈v.parts,x.hdrs.length≤100∧∀y∈x.parts,0≤rec y∧8*rec y≤20000*(wtN y:Int):=by rw[am];exact hrec
 have bn:∀x∈v.parts,∀y∈x.parts,0≤ZF d y.name d.msgs.length∧Zf ZDW 41 [.agg d.cells,.agg (Zn d y.name).cells,.agg y.cells] (.int .i64 (rec y)):=by rw[am];exact ih
 have hT:=JV (rec:=rec) (l:=m.fields) (ps:=v.parts) (b:=0) hm.fld (by omega) ad;have hwn:=Zc2 v;have hfew:=hm.few;generalize bu:Ku rec m.fields v.parts 0=T at *;clear hrec ih am;generalize lenS d (n+1) m v=LV at *;rw[ZEg];refine rx (nd2 @eQ2 @eQ3) ?_;refine rg ?_;refine Zb (Zb ?_);refine xP 3 fun zd hz=>?_;have bz:(st.upd zd (.cells [.str d.name,WI d.msgs,.str d.start])) zd=sO (.cells [.str d.name,WI d.msgs,.str d.start]):=ZD4 _ _ _;have bh:=ZEl (s:=st) (.cells [.str d.name,WI d.msgs,.str d.start]) hz;generalize st.upd zd (.cells [.str d.name,WI d.msgs,.str d.start])=S at *;refine rx @ZdA ?_;refine Zc (fr (m.fields.length) (fun i Q=>∀(b:Int) (k:Nat),i≤m.fields.length→k=(vfs (m.fields.take i)).length→0≤b→b≤T→Ku rec (m.fields.drop i) (v.parts.drop k) b=T→Q [(3,.d (.ptr zd 0)),(5,.loc 5 0),(7,.d (.int .i64 b)),(8,.d (.int .i64 k)),(20,.d (Zm m.fields)),(21,.d (.int .i64 m.fields.length)),(22,.d (.int .i64 i))] [(5,[.str v.name,.int .i64 v.int,ZL v.bytes,ZX v.hdrs,ZW v.parts])] S) (fun n aq=>?_) fun bv=>?_)
 ·intro i hn b k hi hk bc hbT t;refine rg ?_;refine Zb (Zu rfl trivial (fun h1=>?_) (fun h1=>?_))
  ·simp at h1;have bo:m.fields.getD i dE∈m.fields:=ZC h1;have aw:=hm.fld _ bo;have bf:=fun hh=>Znz hk h1 hh;have ag:=ZrZ h1;rw[Zap h1]at t;simp only[Ku]at t;generalize hf:m.fields.getD i dE=f at *;refine xA (nd2 @atF (nd2 @hf @eQ0)) ?_;refine gG ?_;refine cl (Zdk f) ?_;refine jU [0,1] (fun Q=>∀(x:Val) (k:Nat),k=(vfs (m.fields.take (i+1))).length→Ku rec (m.fields.drop (i+1)) (v.parts.drop k) (Km rec x.parts (Q9 f x b))=T→(f.kind=3→0≤x.int∧x.int<34359738368)→(f.kind=6→K2 x.hdrs=true∧Zd2 x.hdrs)→x.hdrs.length≤100→x.bytes.length≤1048576→x.parts.length≤5000→wtL x.parts≤5000→(∀y∈x.parts,0≤rec y∧8*rec y≤20000*(wtN y:Int))→(∀y∈x.parts,0≤ZF d y.name d.msgs.length∧Zf ZDW 41 [.agg d.cells,.agg (Zn d y.name).cells,.agg y.cells] (.int .i64 (rec y)))→(¬f.kind=4→¬f.kind=5→x.bytes.length=0)→(f.kind<7∨f.kind=10∨f.kind=11→x.parts=[])→Q F [(3,.d (.ptr zd 0)),(5,.loc 5 0),(7,.d (.int .i64 b)),(8,.d (.int .i64 k)),(10,.loc 10 0),(11,.loc 11 0),(20,.d (Zm m.fields)),(21,.d (.int .i64 m.fields.length)),(22,.d (.int .i64 i))] [(5,[.str v.name,.int .i64 v.int,ZL v.bytes,ZX v.hdrs,ZW v.parts]),(10,[.str f.name,.int .i64 f.kind,.int .i64 f.bits,.bool f.little,.bool f.loose,.int .i64 f.low,.int .i64 f.high,.int .i64 f.size.base,Yl f.size.terms,.str f.of,.str f.tag,.str f.from_,Kl f.cases,.int .i64 f.check,.int .i64 f.key]),(11,[.str x.name,.int .i64 x.int,ZL x.bytes,ZX x.hdrs,ZW x.parts])] S) ?_ fun ay=>?_;clear t hk bf ag;intro x k hk t av au bx hxb be bg ak al aj ac;have hA:=ZdK (x:=x) aw bc bx;have hP:=Zaz (rec:=rec) (l:=x.parts) (b:=Q9 f x b) ak;have bl:=ZdX (rec:=rec) x.parts (Q9 f x b);have hB:=JV (rec:=rec) (l:=m.fields.drop (i+1)) (ps:=v.parts.drop k) (b:=Km rec x.parts (Q9 f x b)) (fun g hg=>hm.fld g (List.mem_of_mem_drop hg)) (by omega) (fun z hz=>ad z (List.mem_of_mem_drop hz));have j:=Q9.eq_1 f x b;have ht:=Zoh x.parts (.fn (.func 83) [] [.ptr zd 0]) rec S be ak bg fun y hy=>(Zkt d y (rec y) zd S bz (al y hy).1 (al y hy).2).VT (first:=[]) (args:=[_]) (caps:=[_]);have ae:x.parts=[]→ZeY rec x.parts=0:=fun h=>by rw[h];rfl
   generalize ZeY rec x.parts=bw at *;refine rx @Zad ?_;refine ctD (ht) ?_;refine aa ?_;refine jU [1,0] (fun Q=>∀(c n':Int),c+8*n'=Q9 f x b+8*bw→0≤c→0≤n'→Q F [(3,.d (.ptr zd 0)),(5,.loc 5 0),(7,.d (.int .i64 c)),(8,.d (.int .i64 k)),(12,.d (.int .i64 n')),(20,.d (Zm m.fields)),(21,.d (.int .i64 m.fields.length)),(22,.d (.int .i64 i))] [(5,[.str v.name,.int .i64 v.int,ZL v.bytes,ZX v.hdrs,ZW v.parts])] S) ?_ fun fin=>?_;clear j;intro c n' hc hc0 hn0;refine gA ?_;refine gA ?_;refine Zg ?_;exact aq ((m.fields.length)-(i+1)) (by omega) (i+1) rfl (c+8*n') k (by omega) hk (by omega) (by omega) (by rw[hc,←bl];exact t);refine rx @eQ0 ?_;refine rg ?_;refine cd (fun c1=>?_) (fun c1=>?_);have ah:f.kind=1:=by simpa using c1
   rw[if_pos (by omega)]at j;have:=aj (by omega) (by omega);have:=ae (ac (by omega));refine Zy (Zu rfl trivial (fun _=>?_) (fun h=>by rw[c1]at h;simp at h));refine xA @eQ0 ?_;refine Zj ?_;exact fin _ _ (by rw[j];omega) (by omega) (by omega);refine rg ?_;refine cd (fun c2=>?_) (fun c2=>?_);have a3:f.kind=2:=by simpa using c2
   rw[if_pos (by omega)]at j;have:=aj (by omega) (by omega);have:=ae (ac (by omega));refine xA @eQ0 ?_;refine Zj ?_;exact fin _ _ (by rw[j];omega) (by omega) (by omega);have ah:¬f.kind=1:=by simpa using c1
   have a3:¬f.kind=2:=by simpa using c2
   rw[if_neg (by omega)]at j;refine rg ?_;refine cd (fun a6=>?_) (fun a6=>?_);have ab:f.kind=10:=by simpa using a6
   rw[if_neg (by omega),if_neg (by omega),if_neg (by omega),if_neg (by omega),if_pos ab]at j;have:=aj (by omega) (by omega);have:=ae (ac (by omega));have hpd:=Zrv (aw.pad ab);have hup:=Zka bc (show 1≤f.bits by omega);have a0:=Zk9 (v:=b) (aw.pad ab) ⟨by omega,by omega⟩;generalize upS b f.bits=u at *;refine rx @eQ0 ?_;refine cl (a0) ?_;refine gA ?_;refine Zj ?_;exact fin _ _ (by rw[j];omega) (by omega) (by omega);have ab:¬f.kind=10:=by simpa using a6
   refine rg ?_;refine cd (fun a4=>?_) (fun a4=>?_);have af:f.kind=11:=by simpa using a4
   rw[if_neg (by omega),if_neg (by omega),if_neg (by omega),if_neg (by omega),if_neg (by omega),if_pos af]at j;have:=aj (by omega) (by omega);have:=ae (ac (by omega));have hcb:JQ f.check=32∨JQ f.check=16:=by unfold JQ;split<;>simp
   have a0:=Zpu (aw.chk af);generalize JQ f.check=u at *;refine rx @eQ0 ?_;refine cl (a0) ?_;refine gA ?_;refine Zj ?_;exact fin _ _ (by rw[j];omega) (by omega) (by omega);have af:¬f.kind=11:=by simpa using a4
   refine rg ?_;refine cd (fun c3=>?_) (fun c3=>?_);have ax:f.kind=3:=by simpa using c3
   rw[if_pos ax]at j;have:=ae (ac (by omega));obtain⟨hv0,hv1⟩:=av ax;obtain⟨vn,ba⟩:∃vn:Nat,x.int=vn:=⟨x.int.toNat,by omega⟩;rw[ba,Int.toNat_natCast]at j;have bj:=ZpO (v:=vn) (by omega);rw[←ba]at bj;refine rg ?_;refine cl (bj) ?_;refine Zj ?_;refine kE [3,5,7,8,12,20,21,22] ?_;exact fin _ _ (by rw[j];omega) (by omega) (by omega);have ax:¬f.kind=3:=by simpa using c3
   rw[if_neg ax]at j;refine rg ?_;refine cd (fun c5=>?_) (fun c5=>?_);have ai:f.kind=5:=by simpa using c5
   rw[if_neg (by omega),if_pos ai]at j;have:=ae (ac (by omega));refine gA ?_;refine Zj ?_;refine kE [3,5,7,8,12,20,21,22] ?_;exact fin _ _ (by rw[j];omega) (by omega) (by omega);have ai:¬f.kind=5:=by simpa using c5
   refine rg ?_;refine cd (fun c6=>?_) (fun c6=>?_);have ar:f.kind=6:=by simpa using c6
   rw[if_neg (by omega),if_neg ai,if_pos ar]at j;have:=ae (ac (by omega));obtain⟨bq,br⟩:=au ar;have a5:=ZhJ br;unfold ZjA at a5;rw[if_pos bq]at a5;refine rg ?_;refine cl (a5) ?_;refine rx @Zad ?_;refine Zj ?_;exact fin _ _ (by rw[j];omega) (by omega) (by omega);have ar:¬f.kind=6:=by simpa using c6
   have bp:Q9 f x b=b+8*(x.bytes.length:Int):=by by_cases az:f.kind=4;rw[j,if_pos az];have:=aj az ai;rw[j,if_neg az,if_neg ai,if_neg ar,if_neg ab,if_neg af];omega
   refine Zy (Zj ?_);refine kE [3,5,7,8,12,20,21,22] ?_;exact fin _ _ (by rw[bp];omega) (by omega) (by omega);refine cd (fun hh=>?_) (fun hh=>?_)
   ·rw[if_pos hh]at t;obtain⟨ah,a3⟩:=bf hh;rw[a7]at ah;have ao:v.parts.getD k dE∈v.parts:=ZC ah;obtain⟨⟨ap,av,au⟩,be⟩:=hX k ah;have a8:=Qq (l:=v.parts) (i:=k) ah;have ak:=ad _ ao;have al:=bn _ ao;have bk:=WQ hv ao;have bt:=JF (QP bk);have bg:=Ztp ao;have hk40:k≤i:=by rw[hk];exact ZyL
    rw[show(v.parts.drop k).getD 0 dE=v.parts.getD k dE by simp[ZEb],List.drop_drop]at t;rw[a3]at av au ap;rw[if_pos hh]at ag;generalize v.parts.getD k dE=x at *;have hwx:=Zc2 x;have b0:x.parts.length≤5000:=by
     have h2:10*x.parts.length≤wtL x.parts:=by
      have h3:∀l:List Val,10*l.length≤wtL l:=fun l=>by
       induction l with
       |nil=>simp
       |cons a r ih3=>have:=Zc2 a;simp only[wtL,ZEf];omega
      exact h3 _
     omega
    unfold Ki ZnO at ap;simp only[Bool.or_eq_false_iff,ZEF,Bool.not_eq_false',ZEk,decide_eq_true_eq,decide_eq_false_iff_not]at ap;obtain⟨⟨⟨_,hu1⟩,_⟩,hu2⟩:=ap;have hno:¬f.kind=10∧¬f.kind=11:=by unfold W8 at hh;simp at hh;omega
    refine xA (nd2 @atV (nd2 @a8 (nd2 @J5 @ZcM))) ?_;refine gA ?_;refine Zb ?_;rw[show(k:Int)+1=((k+1:Nat):Int) by omega];exact ay x (k+1) (by rw[ag,ZD8,←hk];rfl) t av au ak.1 bt.2.2.1 b0 (by omega) ak.2 al (fun h4 h5=>by omega) (fun h=>List.eq_nil_of_length_eq_zero (by omega))
   rw[if_neg (by rw[hh];simp)]at t ag;rw[ZEw]at ag;refine Zy (Zb ?_);refine kE [3,5,7,8,10,11,20,21,22] ?_;refine kl (S) [(3,.d (.ptr zd 0)),(5,.loc 5 0),(7,.d (.int .i64 b)),(8,.d (.int .i64 k)),(10,.loc 10 0),(11,.loc 11 0),(20,.d (Zm m.fields)),(21,.d (.int .i64 m.fields.length)),(22,.d (.int .i64 i))] [(5,[.str v.name,.int .i64 v.int,ZL v.bytes,ZX v.hdrs,ZW v.parts]),(10,[.str f.name,.int .i64 f.kind,.int .i64 f.bits,.bool f.little,.bool f.loose,.int .i64 f.low,.int .i64 f.high,.int .i64 f.size.base,Yl f.size.terms,.str f.of,.str f.tag,.str f.from_,Kl f.cases,.int .i64 f.check,.int .i64 f.key]),(11,[.str (dE:Val).name,.int .i64 (dE:Val).int,ZL (dE:Val).bytes,ZX (dE:Val).hdrs,ZW (dE:Val).parts])] (Qj _) (.skip (.skip (.cons (.cons (ZDZ _) (.cons (ZDZ _) (.cons (Kk fun b h=>by cases h) (.cons (Kk fun b h=>by cases h) (.cons (Kk fun b h=>by cases h) .nil))))) .nil))) ?_;have bb:¬f.kind=3∧¬f.kind=6:=by unfold W8 at hh;simp at hh;omega
   exact ay dE k (by rw[ag];exact hk) t (fun h=>absurd h bb.1) (fun h=>absurd h bb.2) (by simp[show(dE:Val).hdrs=[] from rfl]) (by simp[show(dE:Val).bytes=[] from rfl]) (by simp[show(dE:Val).parts=[] from rfl]) (by simp[show(dE:Val).parts=[] from rfl,wtL]) (fun y hy=>by simp[show(dE:Val).parts=[] from rfl]at hy) (fun y hy=>by simp[show(dE:Val).parts=[] from rfl]at hy) (fun _ _=>rfl) (fun _=>rfl)
  simp at h1;obtain rfl:i=m.fields.length:=by omega
  rw[ZEE (ZEd _)]at t;simp only[Ku]at t;have bi:b.tdiv 8=b / 8:=Int.tdiv_eq_ediv_of_nonneg (by omega);subst t;refine rg ?_;refine⟨by decide,by rw[bi];omega,by rw[bi];omega,?_⟩;exact a9 rfl (by trivial) (Zgd hS.symm) bh
 exact bv _ 0 rfl 0 0 (by omega) rfl (by omega) (by omega) bu
theorem Zcj(d:Dfn)(hd:DOk d):∀(n:Nat) (m:Msg) (v:Val),MOk m→Z3 v=true→wtN v≤5000→ZlX d n m v →
  Zf ZDW 41 [.agg d.cells,.agg m.cells,.agg v.cells] (.int .i64 (lenS d n m v))
 |0,_,_,_,_,_,hL=>hL.elim
 |n+1,m,v,hm,hv,hw,hL=>by refine Zku d hd n m hm v hv hw hL fun x hx y hy=>?_;obtain⟨k,hk,rfl⟩:=ZEe hx;have h1:=(hL.2 k hk).2 y (by simpa[ZEb,hk]using hy);exact⟨h1.1,Zcj d hd n (Zn d y.name) y (hd.of _) (WQ (WQ hv hx) hy) (Nat.le_trans (Nat.le_trans (Zr0 hy) (Zr0 hx)) hw) h1.2⟩
def atR(d:Dfn)(s:Str)(v:Val):D:=if Kq d&&Kp v then (if ZF d s d.msgs.length<0 then .tup [.agg [.str [],.nilsl],.int .i64 9] else .tup [.agg (Zn d s).cells,.int .i64 0]) else .tup [.agg [.str [],.nilsl],.int .i64 2]
theorem ZkV(d:Dfn)(s:Str)(v:Val):Zf ZDW 22 [.agg d.cells,.str s,.agg v.cells] (atR d s v):=by
 refine Zo (cR 22 f22) fun F st i=>?_;have hV:=Zop v;have hA:=Zk8 d;have hS:=atR.eq_1 d s v;have t:Zi (fun x:Msg=>dC (x.name=s)) d.msgs=ZF d s d.msgs.length:=by unfold ZF;rw[ZEy]
 rw[ZEg]at hV⊢;cases ha:Kq d with
 |false =>rw[ha]at hA hS;simp only[ZEu]at hS;rw[if_neg (by simp)]at hS;rw[hS]at i;refine rx @eQ2 ?_;refine rg ?_;refine cl (hA) ?_;refine KH rfl (e:=.d (.bool false)) (Zl ?_);simp only[Eqs,reduceCtorEq,ZD2,reduceIte,ZD0,ZD3,ZD1];refine i1 ?_;refine rg ?_;refine rt i ?_;rfl
 |true =>
  rw[ha]at hA hS;simp only[ZEm]at hS;refine rx @eQ2 ?_;refine rg ?_;refine cl (hA) ?_;refine cG (hV) ?_;refine cd (fun hv=>?_) (fun hv=>?_);rw[if_neg (by simpa using hv)]at hS;rw[hS]at i;refine rg ?_;refine rt i ?_;rfl;rw[if_pos (by simpa using hv)]at hS;refine rg ?_;refine cX @t (ZgB d s) ?_;refine rg ?_;refine cd (fun hf=>?_) (fun hf=>?_);rw[if_pos (by simpa using hf)]at hS;rw[hS]at i;refine rg ?_;refine rt i ?_;rfl;have j:0≤ZF d s d.msgs.length:=by simpa using hf
  rw[if_neg (by omega)]at hS;rw[hS]at i;have hix:=Zau j;have n:max (ZF d s d.msgs.length) 0=ixS d s:=by omega
  unfold Zn at i;generalize hm:d.msgs.getD (ixS d s) dE=m at *;rw[n];refine xA (nd2 @atM (nd2 @hm @eQ3)) ?_;refine rt i ?_;rfl
def mfD(q:Str)(no:Int):D:=.iface 45 (.agg [.str q,.int .i64 no])
def mfR(q:Str)(no:Int):Res:=if no=0 then .ret (.tup []) else .panic (mfD q no)
theorem ZdE(fine:Bool)(q:Str)(no:Int)(st:St):Za ZDW 116 [.bool fine,.str q,.int .i64 no] st fun r S=>S=st∧r=if fine then .ret (.tup []) else .panic (mfD q no):=by
 refine Zd (cR 116 f116) fun F hF=>?_;refine rg ?_;refine cd (fun h=>?_) (fun h=>?_);have hf:fine=false:=by simpa using h
 refine rg ?_;refine Zk3 rfl rfl rfl trivial ?_;exact hF.pan st (ZDY _) ⟨rfl,by rw[hf];rfl⟩;have hf:fine=true:=by simpa using h
 refine Zy ?_;exact hF.fin (.tup []) st rfl trivial (ZDZ _) (ZDY _) ⟨rfl,by rw[hf];rfl⟩
theorem Zsn(a b:Int)(q:Str)(st:St):Za ZDW 155 [.int .i64 a,.int .i64 b,.str q] st fun r S=>S=st∧r=mfR q (Wt a b):=by
 refine Zd (cR 155 f155) fun F hF=>?_;have hE:=Wt.eq_1 a b;refine rg ?_;refine cV (ZdE (dC (b≤a)) q 4 st) ?_ ?_;rintro d S ⟨hS,hr⟩;obtain rfl:=hS.symm;by_cases h1:b≤a;rw[decide_eq_true h1,if_pos rfl]at hr;cases hr;rw[if_neg (by simp;omega)]at hE;refine gR0 ?_;refine rg ?_;refine cV (ZdE (dC (a≤b)) q 5 st) ?_ ?_;rintro d S ⟨hS,hr⟩;obtain rfl:=hS.symm;by_cases h2:a≤b;rw[decide_eq_true h2,if_pos rfl]at hr;cases hr;rw[if_neg (by simp;omega)]at hE;refine gR0 ?_;exact hF.fin (.tup []) st rfl trivial (ZDZ _) (ZDY _) ⟨rfl,by rw[hE];rfl⟩;rw[decide_eq_false h2,if_neg (by simp)]at hr;cases hr;rintro d S ⟨hS,hr⟩;obtain rfl:=hS.symm;by_cases h2:a≤b;rw[decide_eq_true h2,if_pos rfl]at hr;cases hr;rw[decide_eq_false h2,if_neg (by simp)]at hr;cases hr;rw[if_pos (by simp;omega)]at hE;exact hF.pan st (ZDY _) ⟨rfl,by rw[hE];rfl⟩;rw[decide_eq_false h1,if_neg (by simp)]at hr;cases hr;rintro d S ⟨hS,hr⟩;obtain rfl:=hS.symm;by_cases h1:b≤a;rw[decide_eq_true h1,if_pos rfl]at hr;cases hr;rw[decide_eq_false h1,if_neg (by simp)]at hr;cases hr;rw[if_pos (by simp;omega)]at hE;exact hF.pan st (ZDY _) ⟨rfl,by rw[hE];rfl⟩
def Ww(g:Nat→Str×Int):List Nat→Option (Str×Int)
 | []=>nO
 |i::r=>if (g i).2=0 then Ww g r else sO (g i)
theorem ZfM{g:Nat→Str×Int}:∀{l:List Nat},Ww g l=nO→∀i∈l,(g i).2=0
 | [],_,i,hi=>by simp at hi
 |a::r,h,i,hi=>by simp only[Ww]at h;split at h;rename_i h0;rcases List.mem_cons.1 hi with rfl|hi;exact h0;exact ZfM h i hi;simp at h
def Jg(mis:Msg→Val→Str→Str×Int)(d:Dfn)(of:Str)(x:Val)(q:Str):Str×Int :=
 if x.parts.length=1 then mis (Zn d of) (x.parts.getD 0 dE) (Yu q (Wn x.parts 0)) else (q,6)
def Kx(mis:Msg→Val→Str→Str×Int)(len:Msg→Val→Int)(d:Dfn)(f:Fld)(x:Val)(q:Str)(l:List (Str×Int)):Str×Int :=
 if f.kind=1∨f.kind=3 then (if x.int<f.low∨f.high<x.int then (q,3) else (q,0))
 else if f.kind=4 then (q,Wt x.bytes.length (ZaQ f.size l))
 else if f.kind=5 then (if f.high<x.bytes.length then (q,5) else if x.bytes.any (fun c=>dC ((c.toNat:Int)=f.low)) then (q,6) else (q,0))
 else if f.kind=6 then (if K2 x.hdrs=false then (q,6) else if f.high<(Zbb x.hdrs).length then (q,5) else (q,0))
 else if f.kind=7 then (if Wt x.parts.length (ZaQ f.size l)=0 then (Ww (fun i=>mis (Zn d f.of) (x.parts.getD i dE) (Yu q (Wn x.parts i))) (ZEa x.parts.length)).getD (q,0) else (q,Wt x.parts.length (ZaQ f.size l)))
 else if f.kind=8 then Jg mis d f.of x q
 else if f.kind=9 then (if KK f (WY f.tag l)<0 then (q,9) else Jg mis d (f.cases.getD (KK f (WY f.tag l)).toNat dE).of x q)
 else if f.kind=12 then (if (Jg mis d f.of x q).2=0 then (q,Wt (len (Zn d f.of) (x.parts.getD 0 dE)) (ZaQ f.size l)) else Jg mis d f.of x q)
 else (q,0)
def Yd(d:Dfn):Nat→Msg→Val→Str→Str×Int
 |0,_,_,p=>(p,6)
 |n+1,m,v,p =>
  if dC (v.name=m.name)&&(dC (v.int=0)&&(dC (v.bytes.length=0)&&(dC (v.hdrs.length=0)&&Za8 m v.parts))) then
   (Ww (fun k=>if Ki ((vfs m.fields).getD k dE).kind (v.parts.getD k dE) then (Yu p (Wn v.parts k),6)
    else Kx (Yd d n) (lenS d n) d ((vfs m.fields).getD k dE) (v.parts.getD k dE) (Yu p (Wn v.parts k)) (ZaN m v.parts)) (ZEa v.parts.length)).getD ([],0)
  else (p,6)
theorem ZmI{d:Dfn}{s:Str}(h:0≤ZF d s d.msgs.length):(Zn d s).name=s:=by
 have h1:=Zau h;unfold ZF at h h1;have h2:=(QY h).1;rw[h1.1]at h2;rw[ZEy]at h2;simpa[Zn]using h2
theorem ZkM{d:Dfn}:∀{n:Nat} {m:Msg} {v:Val} {p:Str},(Yd d n m v p).2=0→v.name=m.name
 |0,_,_,_,h=>by simp[Yd]at h
 |n+1,m,v,p,h=>by simp only[Yd]at h;split at h;rename_i hc;simp only[ZD5,decide_eq_true_eq]at hc;exact hc.1;simp at h
structure Zk4(d:Dfn)(f:Fld):Prop where
 kind:1≤f.kind∧f.kind≤12
 ref:f.kind=7∨f.kind=8∨f.kind=12→0≤ZF d f.of d.msgs.length
 cas:f.kind=9→∀c∈f.cases,0≤ZF d c.of d.msgs.length
def Ztw(d:Dfn):Prop:=∀m∈d.msgs,∀f∈m.fields,Zk4 d f
theorem Ztw.of{d:Dfn}(h:Ztw d)(s:Str):∀f∈(Zn d s).fields,Zk4 d f:=by
 unfold Zn;by_cases hi:ixS d s<d.msgs.length;exact h _ (ZC hi);rw[show d.msgs.getD (ixS d s) dE=dE by simp[ZEb,ZEG (Nat.le_of_not_lt hi)]];intro f hf;simp[show(dE:Msg).fields=[] from rfl]at hf
theorem ZfO{g:Nat→Str×Int}{r:Str×Int}:∀{l:List Nat},Ww g l=sO r→¬r.2=0
 | [],h=>by simp[Ww]at h
 |a::t,h=>by simp only[Ww]at h;split at h;exact ZfO h;rename_i h0;simp only[ZDV]at h;rw[←h];exact h0
theorem ZoQ{g:Nat→Str×Int}{n:Nat}{q:Str×Int}(h:((Ww g (ZEa n)).getD q).2=0):∀i,i<n→(g i).2=0:=by
 cases hf:Ww g (ZEa n) with
 |none=>exact fun i hi=>ZfM hf i (List.mem_range.2 hi)
 |some r=>rw[hf]at h;exact absurd h (ZfO hf)
theorem Zwy{v:Val}(h:QN v=true):Zd2 v.hdrs:=by
 unfold QN at h;simp only[ZD5,Bool.not_eq_true']at h;intro x hx;have h1:=h.2;have h2:=List.any_eq_false.1 h1 x hx;unfold Zdd at h2;simp only[ZEk,decide_eq_true_eq,not_or]at h2;omega
theorem Zs6{mis:Msg→Val→Str→Str×Int}{d:Dfn}{of:Str}{x:Val}{q:Str}(h:(Jg mis d of x q).2=0):x.parts.length=1∧(mis (Zn d of) (x.parts.getD 0 dE) (Yu q (Wn x.parts 0))).2=0:=by
 unfold Jg at h;split at h;rename_i h1;exact⟨h1,h⟩;simp at h
theorem Zv3{mis:Msg→Val→Str→Str×Int}{len:Msg→Val→Int}{d:Dfn}{f:Fld}{x:Val}{q:Str}{l:List (Str×Int)}(hf:Zk4 d f)(hv:W8 f=true)(hu:Ki f.kind x=false)(h:(Kx mis len d f x q l).2=0):
  ∀y∈x.parts,∃of q',0≤ZF d of d.msgs.length∧(mis (Zn d of) y q').2=0:=by
 intro y hy;have hpos:0<x.parts.length:=List.length_pos_iff.2 fun e=>by rw[e]at hy;simp at hy
 have h7:7≤f.kind:=by unfold Ki at hu;simp only[Bool.or_eq_false_iff,ZEF,Bool.not_eq_false',decide_eq_true_eq,decide_eq_false_iff_not]at hu;have:=hu.2;omega
 have hk:f.kind=7∨f.kind=8∨f.kind=9∨f.kind=12:=by have:=hf.kind;unfold W8 at hv;simp only[ZD5,Bool.not_eq_true',decide_eq_false_iff_not]at hv;omega
 have one:∀of,0≤ZF d of d.msgs.length→(Jg mis d of x q).2=0→∃of q',0≤ZF d of d.msgs.length∧(mis (Zn d of) y q').2=0:=fun of h0 h1=>by
  obtain⟨hl,h2⟩:=Zs6 h1;refine⟨of,Yu q (Wn x.parts 0),h0,?_⟩;rw[show y=x.parts.getD 0 dE by
   obtain⟨i,hi,rfl⟩:=ZEe hy;have:i=0:=by omega
   subst this;simp[ZEb,hi]]
  exact h2
 unfold Kx at h;rw[if_neg (by omega),if_neg (by omega),if_neg (by omega),if_neg (by omega)]at h;rcases hk with hk|hk|hk|hk;rw[if_pos hk]at h;split at h;obtain⟨i,hi,rfl⟩:=ZEe hy;have h1:=ZoQ h i hi;exact⟨f.of,_,hf.ref (by omega),by simpa[ZEb,hi]using h1⟩;rename_i j;exact absurd h j;rw[if_neg (by omega),if_pos hk]at h;exact one _ (hf.ref (by omega)) h;rw[if_neg (by omega),if_neg (by omega),if_pos hk]at h;split at h;simp at h;rename_i hc;have hlt:=Wv (fun c:Yb=>dC (c.low≤WY f.tag l)&&dC (WY f.tag l≤c.high)) f.cases;exact one _ (hf.cas hk _ (ZC (by unfold KK at hc⊢;omega))) h;rw[if_neg (by omega),if_neg (by omega),if_neg (by omega),if_pos hk]at h;split at h;rename_i h1;exact one _ (hf.ref (by omega)) h1;rename_i h1;exact absurd h h1
theorem Zg2{d:Dfn}(hd:Ztw d):∀(n:Nat) (m:Msg) (v:Val) (p:Str),(∀f∈m.fields,Zk4 d f)→Z3 v=true→(Yd d n m v p).2=0→ZlX d n m v
 |0,_,_,_,_,_,h=>by simp[Yd]at h
 |n+1,m,v,p,hm,hv,h=>by
  simp only[Yd]at h;split at h
  ·rename_i hc;simp only[ZD5,decide_eq_true_eq]at hc;have hr:=hc.2.2.2.2;unfold Za8 at hr;rw[decide_eq_true_eq]at hr;have t:(vfs m.fields).length=v.parts.length:=by simpa using congrArg List.length hr
   refine⟨t,fun k hk=>?_⟩;have hg:=ZoQ h k hk;have ac:v.parts.getD k dE∈v.parts:=ZC hk;have u:(vfs m.fields).getD k dE∈vfs m.fields:=ZC (by omega);have i:=List.mem_filter.1 u;have j:=WQ hv ac;have z:=JF (QP j);have ab:=Zwy (QP j);generalize v.parts.getD k dE=x at *;generalize (vfs m.fields).getD k dE=f at *;cases hu:Ki f.kind x with
   |true=>rw[hu,if_pos rfl]at hg;simp at hg
   |false =>
    rw[hu,if_neg (by simp)]at hg;refine⟨⟨hu,fun _=>z.2.1,fun h6=>⟨?_,ab⟩⟩,fun y hy=>?_⟩
    ·unfold Kx at hg;rw[if_neg (by omega),if_neg (by omega),if_neg (by omega),if_pos h6]at hg;cases hh:K2 x.hdrs with
     |true=>rfl
     |false=>rw[hh,if_pos rfl]at hg;simp at hg
    obtain⟨of,q',h0,h1⟩:=Zv3 (hm f i.1) i.2 hu hg y hy;have hn:y.name=of:=by rw[ZkM h1,ZmI h0]
    rw[hn];exact⟨h0,Zg2 hd n _ y q' (hd.of _) (WQ j hy) h1⟩
  simp at h
theorem ZfN{g:Nat→Str×Int}:∀{a b:List Nat},(∀i∈a,(g i).2=0)→Ww g (a++b)=Ww g b
 | [],_,_=>rfl
 |i::a,b,h=>by rw[List.cons_append,Ww,if_pos (h i (by simp))];exact ZfN fun k hk=>h k (by simp[hk])
theorem Zmq{g:Nat→Str×Int}{n:Nat}(h:∀i,i<n→(g i).2=0):Ww g (ZEa n)=nO:=by
 rw[←ZEw (ZEa n),ZfN fun i hi=>h i (List.mem_range.1 hi)];rfl
theorem ZoP{g:Nat→Str×Int}{n j:Nat}(hj:j<n)(h:∀i,i<j→(g i).2=0)(h2:¬(g j).2=0):Ww g (ZEa n)=sO (g j):=by
 rw[show ZEa n=ZEa j++(j::(List.range' (j+1) (n-(j+1)))) by rw[List.range_eq_range',List.range_eq_range',show n=j+(n-(j+1)+1) by omega,←List.range'_append_1,List.range'_succ];simp;omega,ZfN fun i hi=>h i (List.mem_range.1 hi),Ww,if_neg h2]
theorem ZAw{L:DL.Loc}(l:Str)(i:Int):qv L s (.iaddr 1) [.d (ZL l),.d (.int .i64 i)]=sO (0≤i∧i<l.length,.d (.ep (u8C (l.getD i.toNat dE)) 0)):=rfl
def ZdB(d:Dfn)(n:Nat)(m:Msg)(v:Val)(p:Str)(k:Nat):Str×Int :=
 if Ki ((vfs m.fields).getD k dE).kind (v.parts.getD k dE) then (Yu p (Wn v.parts k),6)
 else Kx (Yd d n) (lenS d n) d ((vfs m.fields).getD k dE) (v.parts.getD k dE) (Yu p (Wn v.parts k)) (ZaN m v.parts)
theorem ZiE(d:Dfn)(n:Nat)(m:Msg)(v:Val)(p:Str):Yd d (n+1) m v p =
  if dC (v.name=m.name)&&(dC (v.int=0)&&(dC (v.bytes.length=0)&&(dC (v.hdrs.length=0)&&Za8 m v.parts))) then (Ww (ZdB d n m v p) (ZEa v.parts.length)).getD ([],0) else (p,6):=rfl
structure ZbH(d:Dfn)(j i:Nat)(m:Msg)(f:Fld):Prop where
 nm:YZ f.name=true
 fresh:Q5 m f.name i<0
 kind:1≤f.kind∧f.kind≤12
 ks:Zaw d j m i f=0
theorem Zx5{d:Dfn}{j i:Nat}{m:Msg}{f:Fld}(h:K1 d j m i f=0):ZbH d j i m f:=by
 unfold K1 at h;split at h;· omega
 rename_i h1;split at h;· omega
 rename_i h2;split at h;· omega
 rename_i hk;split at h;· omega
 simp only[ZEk,decide_eq_true_eq,not_or,Int.not_lt]at hk;exact⟨by simpa using h1,by omega,by omega,h⟩
theorem ZcP.at_{d:Dfn}{j:Nat}{m:Msg}(h:ZcP d j m){i:Nat}(hi:i<m.fields.length):ZbH d j i m (m.fields.getD i dE):=Zx5 (h.field i hi)
def NmU(l:List Fld):Prop:=∀a b,a<b→b<l.length→(l.getD a dE).name≠(l.getD b dE).name
theorem ZcP.nmU{d:Dfn}{j:Nat}{m:Msg}(h:ZcP d j m):NmU m.fields:=fun a b ha hb=>by
 have h1:=ZbX (h.at_ hb).fresh ((m.fields.take b).getD a dE) (ZC (by simp;omega));rw[Q3 ha]at h1;simpa using h1
theorem Zso{fs:List Fld}{s:Wi}(h:Zdo fs s=0):ZU s=true∧∀t∈s.terms,∃j,j<fs.length∧(fs.getD j dE).name=t.field∧YF (fs.getD j dE)=true:=by
 unfold Zdo at h;split at h;· omega
 rename_i hv;split at h;· omega
 rename_i ha;refine⟨by simpa using hv,fun t ht=>?_⟩;have h1:=List.any_eq_false.1 (Bool.eq_false_iff.2 ha) t ht;unfold Je Wu at h1;split at h1;simp at h1;rename_i h2;split at h1;rename_i h3;have h4:=QY (show 0≤Zi (fun f=>dC (f.name=t.field)) fs by omega);have h5:=Wv (fun f:Fld=>dC (f.name=t.field)) fs;exact⟨_,by omega,by simpa using h4.1,h3⟩;simp at h1
theorem Zxx{n:Int}(h:n≤32):(2:Int) ^ n.toNat≤4294967296:=by
 have h1:2 ^ n.toNat≤2 ^ 32:=Nat.pow_le_pow_right (by omega) (by omega);have h2:(2:Int) ^ n.toNat=((2 ^ n.toNat:Nat):Int):=(Int.natCast_pow 2 n.toNat).symm;generalize 2 ^ n.toNat=p at *;omega
theorem ZiI{f:Fld}(h:ZaM f=0):(1≤f.bits∧f.bits≤32)∧0≤f.low∧f.low≤ZlN f∧ZlN f<4294967296:=by
 unfold ZaM Zd5 Zrl at h;split at h;· omega
 rename_i h1;split at h;· omega
 rename_i h2;simp only[ZEk,decide_eq_true_eq,not_or]at h1 h2;have:=Zxx (n:=f.bits) (by omega);omega
theorem ZbH.num{d:Dfn}{j i:Nat}{m:Msg}{f:Fld}(h:ZbH d j i m f)(hn:YF f=true):0≤f.low∧(f.kind=2→f.low<34359738368)∧(f.kind≠2→f.high<34359738368):=by
 have hk:=h.ks;unfold YF at hn;simp only[ZD5,decide_eq_true_eq]at hn;unfold Zaw at hk;rcases(by omega:f.kind=1∨f.kind=2∨f.kind=3) with h1|h1|h1<;>simp only[h1,Int.reduceEq,if_true,if_false]at hk;have:=ZiI hk;unfold ZlN at this;rw[if_neg (by omega)]at this;omega;have:=ZiI hk;unfold ZlN at this;rw[if_pos h1]at this;omega;by_cases hw:Zp2 f.low f.high=true;unfold Zp2 at hw;simp only[ZD5,decide_eq_true_eq]at hw;omega;rw[if_neg hw]at hk;omega
theorem ZbH.size{d:Dfn}{j i:Nat}{m:Msg}{f:Fld}(h:ZbH d j i m f)(hi:i<m.fields.length)(hz:f.kind=4∨f.kind=7∨f.kind=12):ZU f.size=true∧∀t∈f.size.terms,∃k,k<i∧(m.fields.getD k dE).name=t.field∧YF (m.fields.getD k dE)=true:=by
 have hs:Zdo (m.fields.take i) f.size=0:=by have hk:=h.ks;unfold Zaw at hk;rcases hz with hz|hz|hz<;>simp only[hz,Int.reduceEq,if_true,if_false]at hk;exact hk;split at hk;omega;exact hk;split at hk;omega;split at hk;omega;exact hk
 obtain⟨hv,ht⟩:=Zso hs;refine⟨hv,fun t h1=>?_⟩;obtain⟨k,h2,h3,h4⟩:=ht t h1;have hk:k<i:=by rw[ZEh]at h2;omega
 rw[Q3 hk]at h3 h4;exact⟨k,hk,h3,h4⟩
theorem ZbH.tag{d:Dfn}{j i:Nat}{m:Msg}{f:Fld}(h:ZbH d j i m f)(hi:i<m.fields.length)(h9:f.kind=9):∃k,k<i∧(m.fields.getD k dE).name=f.tag∧YF (m.fields.getD k dE)=true:=by
 have hk:=h.ks;unfold Zaw at hk;simp only[h9,Int.reduceEq,if_true,if_false]at hk;split at hk;omega;rename_i hb;unfold Zig at hb;simp only[ZEk,decide_eq_true_eq,Bool.not_eq_true',not_or]at hb;have h4:=QY (show 0≤Q5 m f.tag i by omega);have h5:=Wv (fun g:Fld=>dC (g.name=f.tag)) (m.fields.take i);rw[ZEh,show Zi (fun g:Fld=>dC (g.name=f.tag)) (m.fields.take i)=Q5 m f.tag i from rfl]at h5;have h6:=h4.1;rw[show(Zi (fun g=>dC (g.name=f.tag)) (m.fields.take i))=Q5 m f.tag i from rfl,Q3 (by omega)]at h6;exact⟨(Q5 m f.tag i).toNat,by omega,by simpa using h6,by simpa using hb.2.1⟩
theorem ZbH.fok{d:Dfn}{j i:Nat}{m:Msg}{f:Fld}(h:ZbH d j i m f):FOk f:=by
 have hk:=h.ks;unfold Zaw at hk;refine⟨fun h1=>?_,fun h1=>?_,fun h1=>?_⟩;have:ZaM f=0:=by rcases h1 with h1|h1<;>simp only[h1,Int.reduceEq,if_true,if_false]at hk<;>exact hk
 have:=(ZiI this).1;omega;simp only[h1,Int.reduceEq,if_true,if_false]at hk;split at hk;omega;rename_i hp;unfold ZmM at hp;unfold Zhl;simp only[ZD5,ZEk,decide_eq_true_eq,Bool.not_eq_true',decide_eq_false_iff_not]at hp⊢;omega;simp only[h1,Int.reduceEq,if_true,if_false]at hk;split at hk;omega;rename_i hp;simp only[ZEk,decide_eq_true_eq]at hp;omega
theorem ZbH.fref{d:Dfn}{j i:Nat}{m:Msg}{f:Fld}(h:ZbH d j i m f)(hf:Zty d j f):Zk4 d f:=by
 refine⟨h.kind,fun h1=>(hf.ref f.of ?_).1,fun h1 c hc=>(hf.ref c.of ?_).1⟩;unfold Ys ZaA;rw[if_pos (by simp;omega)];simp;unfold Ys;rw[if_pos h1,List.mem_append];exact .inr (List.mem_map_of_mem hc)
theorem WA.dok{d:Dfn}(h:WA d):DOk d:=fun m hm=>by
 obtain⟨j,hj,rfl⟩:=ZiD hm;refine⟨(h.msg hj).many,fun f hf=>?_⟩;obtain⟨i,hi,rfl⟩:=ZiD hf;exact((h.msg hj).at_ hi).fok
theorem WA.dref{d:Dfn}(h:WA d):Ztw d:=fun m hm f hf=>by
 obtain⟨j,hj,rfl⟩:=ZiD hm;obtain⟨i,hi,rfl⟩:=ZiD hf;exact((h.msg hj).at_ hi).fref (h.fld hj hi)
theorem JZ:∀{l:List Fld} {k:Nat},k<(vfs l).length→∃a,a<l.length∧W8 (l.getD a dE)=true∧k=(vfs (l.take a)).length∧(vfs l).getD k dE=l.getD a dE
 | [],k,h=>by simp[vfs]at h
 |f::r,k,h=>by
  by_cases hv:W8 f=true
  ·have e:vfs (f::r)=f::vfs r:=by unfold vfs;rw[List.filter_cons,if_pos hv]
   cases k with
   |zero=>exact⟨0,by simp,by simpa using hv,rfl,by rw[e];rfl⟩
   |succ k =>rw[e]at h;obtain⟨a,h1,h2,h3,h4⟩:=JZ (l:=r) (k:=k) (by simpa using h);refine⟨a+1,by simpa using h1,by simpa using h2,?_,by rw[e];simpa using h4⟩;rw[List.take_succ_cons,show vfs (f::r.take a)=f::vfs (r.take a) by unfold vfs;rw[List.filter_cons,if_pos hv],ZEf,h3]
  have e:∀t,vfs (f::t)=vfs t:=fun t=>by unfold vfs;rw[List.filter_cons,if_neg hv]
  rw[e]at h;obtain⟨a,h1,h2,h3,h4⟩:=JZ (l:=r) (k:=k) h;exact⟨a+1,by simpa using h1,by simpa using h2,by rw[List.take_succ_cons,e];exact h3,by rw[e];simpa using h4⟩
theorem Zkb{l:List Fld}{a b:Nat}(h:a<b)(hb:b<l.length)(hv:W8 (l.getD a dE)=true):(vfs (l.take a)).length<(vfs (l.take b)).length:=by
 have h1:=(Znz (l:=l.take b) (i:=a) (k:=(vfs (l.take a)).length) (by rw[List.take_take,Nat.min_eq_left (by omega)]) (by simp;omega) (by rw[Q3 h];exact hv)).1;exact h1
def JG(l:List Fld)(ps:List Val)(i:Nat):Int:=if (l.getD i dE).kind=2 then (l.getD i dE).low else (ps.getD (vfs (l.take i)).length dE).int
theorem Zhb{f:Fld}(h:YF f=true)(h2:¬f.kind=2):W8 f=true:=by
 unfold YF at h;unfold W8;simp only[ZD5,decide_eq_true_eq,Bool.not_eq_true',decide_eq_false_iff_not]at h⊢;omega
theorem NmU.tail{f:Fld}{r:List Fld}(h:NmU (f::r)):NmU r:=fun a b ha hb=>by
 have:=h (a+1) (b+1) (by omega) (by simpa using hb);simpa using this
theorem ZgK:∀{l:List Fld} {ps:List Val} {i:Nat},i<l.length→NmU l→YF (l.getD i dE)=true→(W8 (l.getD i dE)=true→(vfs (l.take i)).length<ps.length)→WY (l.getD i dE).name (ZcZ l ps)=JG l ps i
 | [],_,_,h,_,_,_=>by simp at h
 |f::r,ps,0,_,_,hn,hp=>by
  simp only[List.getD_cons_zero]at hn hp⊢;unfold JG ZcZ;simp only[List.getD_cons_zero];by_cases h2:f.kind=2;rw[if_pos h2,if_pos h2];simp[WY];have hv:=Zhb hn h2;have h0:0<ps.length:=by simpa[vfs]using hp hv
  rw[if_neg h2,if_neg h2,if_pos hv,hn,if_pos (by simp;omega)];simp[WY,vfs]
 |f::r,ps,i+1,hi,hu,hn,hp=>by
  have j:=hu 0 (i+1) (by omega) hi;simp only[List.getD_cons_zero,List.getD_cons_succ]at hn hp j⊢;have n:=hu.tail;unfold ZcZ;have e1:WY (r.getD i dE).name ((if f.kind=2 then [(f.name,f.low)] else [])++(if W8 f then (if (dC (0<(ps.length:Int))&&YF f) then [(f.name,(ps.getD 0 dE).int)] else [])++ZcZ r (ps.drop 1) else ZcZ r ps))=WY (r.getD i dE).name (if W8 f then ZcZ r (ps.drop 1) else ZcZ r ps):=by
   have sk:∀{c:Prop} [Decidable c] (x:Int) (t:List (Str×Int)),WY (r.getD i dE).name ((if c then [(f.name,x)] else [])++t)=WY (r.getD i dE).name t:=fun x t=>by split;exact if_neg j;rfl
   rw[sk];split;rw[sk];rfl
  rw[e1];by_cases hv:W8 f=true;have e:vfs (f::r.take i)=f::vfs (r.take i):=by unfold vfs;rw[List.filter_cons,if_pos hv]
  rw[List.take_succ_cons,e,ZEf]at hp;rw[if_pos hv,ZgK (by simpa using hi) n hn (fun h=>by have:=hp h;rw[ZEx];omega)];unfold JG;simp only[List.getD_cons_succ];rw[List.take_succ_cons,e,ZEf];simp[ZEb,List.getElem?_drop,Nat.add_comm];have e:vfs (f::r.take i)=vfs (r.take i):=by unfold vfs;rw[List.filter_cons,if_neg hv]
  rw[List.take_succ_cons,e]at hp;rw[if_neg hv,ZgK (by simpa using hi) n hn hp];unfold JG;simp only[List.getD_cons_succ];rw[List.take_succ_cons,e]
theorem Zhk{l:List Fld}{ps:List Val}{E:List (Str×Int)}{s:Str}:∀{n:Nat},(∀k,k<n→YF (l.getD k dE)=true→(l.getD k dE).name≠s)→Zr s (ZcY l ps E n)=Zr s E
 |0,_=>rfl
 |n+1,h=>by rw[ZcY];split;rename_i hn;rw[KV,if_neg (fun e=>h n (by omega) hn e.symm)];exact Zhk fun k hk=>h k (by omega);exact Zhk fun k hk=>h k (by omega)
theorem Zro{l:List Fld}{ps:List Val}{E:List (Str×Int)}{k:Nat}:∀{n:Nat},k<n→YF (l.getD k dE)=true→(∀j,k<j→j<n→(l.getD j dE).name≠(l.getD k dE).name)→Zr (l.getD k dE).name (ZcY l ps E n)=sO (ps.getD k dE).int
 |0,h,_,_=>by omega
 |n+1,h,hn,hu=>by rw[ZcY];by_cases hk:k=n;subst hk;rw[if_pos hn,KV,if_pos rfl];have ih:=Zro (E:=E) (ps:=ps) (show k<n by omega) hn (fun j h1 h2=>hu j h1 (by omega));split;rw[KV,if_neg (fun e=>hu n (by omega) (by omega) e.symm)];exact ih;exact ih
theorem Zrn{l:List Fld}{k:Nat}:∀{n:Nat},k<n→(l.getD k dE).kind=2→(∀j,k<j→j<n→(l.getD j dE).name≠(l.getD k dE).name)→Zr (l.getD k dE).name (Zb7 l n)=sO (l.getD k dE).low
 |0,h,_,_=>by omega
 |n+1,h,hn,hu=>by rw[Zb7];by_cases hk:k=n;subst hk;rw[if_pos hn,KV,if_pos rfl];have ih:=Zrn (show k<n by omega) hn (fun j h1 h2=>hu j h1 (by omega));split;rw[KV,if_neg (fun e=>hu n (by omega) (by omega) e.symm)];exact ih;exact ih
theorem NmU.ne{l:List Fld}(h:NmU l){a b:Nat}(hab:a≠b)(ha:a<l.length)(hb:b<l.length):(l.getD a dE).name≠(l.getD b dE).name:=by
 rcases Nat.lt_or_gt_of_ne hab with h1|h1;exact h a b h1 hb;exact(h b a h1 ha).symm
theorem ZsT{m:Msg}(hu:NmU m.fields)(ps:List Val){i:Nat}(hi:i<m.fields.length)(hn:YF (m.fields.getD i dE)=true):Zr (m.fields.getD i dE).name (Q6 m ps)=sO (JG m.fields ps i):=by
 unfold Q6 JG;by_cases h2:(m.fields.getD i dE).kind=2;rw[if_pos h2,Zhk fun k hk _=>?_];exact Zrn hi h2 fun j h1 h3=>hu.ne (by omega) h3 hi;obtain⟨a,h3,h4,_,h6⟩:=JZ hk;rw[h6];refine hu.ne (fun e=>?_) h3 hi;rw[e]at h4;unfold W8 at h4;rw[h2]at h4;simp at h4;have hv:=Zhb hn h2;obtain⟨h3,h4⟩:=Znz rfl hi hv;rw[if_neg h2];have h5:=Zro (l:=vfs m.fields) (ps:=ps) (E:=Zb7 m.fields m.fields.length) h3 (by rw[h4];exact hn) (fun j h6 h7=>by
  obtain⟨a,h8,h9,t,n⟩:=JZ h7;rw[n,h4];exact hu.ne (fun e=>by rw[e]at t;omega) h8 hi)
 rw[h4]at h5;exact h5
theorem ZzQ{d:Dfn}{j:Nat}{m:Msg}(hm:ZcP d j m){n:Nat}{v:Val}{p:Str}{k a i:Nat}(hi:i<m.fields.length)(hk:k=(vfs (m.fields.take i)).length)(hall:∀j,j<k→(ZdB d n m v p j).2=0)(ha:a<i)(hn:YF (m.fields.getD a dE)=true):
  0≤JG m.fields v.parts a∧JG m.fields v.parts a<34359738368:=by
 have h1:=(hm.at_ (show a<m.fields.length by omega)).num hn;unfold JG;split;rename_i h2;exact⟨h1.1,h1.2.1 h2⟩;rename_i h2;have hv:=Zhb hn h2;obtain⟨h3,h4⟩:=Znz rfl (show a<m.fields.length by omega) hv;have h5:=hall _ (by rw[hk];exact Zkb ha hi hv);unfold ZdB at h5;rw[h4]at h5;generalize v.parts.getD (vfs (m.fields.take a)).length dE=x at *;generalize m.fields.getD a dE=f at *;split at h5;simp at h5;unfold YF at hn;simp only[ZD5,decide_eq_true_eq]at hn;unfold Kx at h5;rw[if_pos (by omega)]at h5;split at h5;simp at h5;have:=h1.2.2 h2;omega
theorem ZuG{m:Msg}(hu:NmU m.fields){ps:List Val}(hr:Za8 m ps=true){k:Nat}(hk:k<ps.length):Wn ps k=(ps.getD k dE).name∧(ps.getD k dE).name=((vfs m.fields).getD k dE).name:=by
 unfold Za8 at hr;rw[decide_eq_true_eq]at hr;have j:(vfs m.fields).length=ps.length:=by simpa using congrArg List.length hr
 have n:∀i,i<ps.length→(ps.getD i dE).name=((vfs m.fields).getD i dE).name:=fun i hi=>by
  have h1:((vfs m.fields).map (·.name))[i]?=(ps.map Val.name)[i]?:=by rw[hr]
  simp[hi,j]at h1;simp[ZEb,hi,j,h1]
 refine⟨?_,n k hk⟩;have h0:ZfK ps k=0:=by unfold ZfK;rw[List.length_eq_zero_iff,List.filter_eq_nil_iff];intro x hx;obtain⟨i,hi,rfl⟩:=ZiD hx;rw[ZEh]at hi;rw[Q3 (by omega),n i (by omega),n k hk];obtain⟨a,h1,_,h3,h4⟩:=JZ (l:=m.fields) (k:=i) (by omega);obtain⟨b,h5,_,h7,h8⟩:=JZ (l:=m.fields) (k:=k) (by omega);rw[h4,h8,decide_eq_true_eq];exact hu.ne (fun e=>by rw[e]at h3;omega) h1 h5
 unfold Wn;rw[if_pos h0]
theorem Zfd(a s:Str):(Yu a s).length≤a.length+1+s.length:=by
 unfold Yu;split;omega;simp;omega
theorem Zjq{ps:List Val}(hp:ps.length≤5000)(hn:∀y∈ps,y.name.length≤32){k:Nat}(hk:k<ps.length):(Wn ps k).length≤5040:=by
 have h1:=hn _ (ZC hk);have h2:=ZqU ps k;have h3:=ZqQ (ZfK ps k);unfold Wn;split;omega;simp only[ZD8,ZEf,List.length_nil];omega
structure VOk(v:Val):Prop where
 ok:Z3 v=true
 wt:wtN v≤5000
theorem VOk.part{v x:Val}(h:VOk v)(hx:x∈v.parts):VOk x:=⟨WQ h.ok hx,Nat.le_trans (Zr0 hx) h.wt⟩
theorem VOk.few{v:Val}(h:VOk v):v.parts.length≤5000:=by
 have h1:=Zs1 v;have h2:=h.wt;have h3:v.parts.length≤nodesL v.parts:=by
  induction v.parts with
  |nil=>simp
  |cons x r ih=>have:=QO x;simp only[ZEf,nodesL];omega
 have h4:=QO v;omega
theorem VOk.node{v:Val}(h:VOk v):(1≤v.name.length∧v.name.length≤32)∧(0≤v.int∧v.int<34359738368)∧v.bytes.length≤1048576∧Zd2 v.hdrs:=by
 have h1:=JF (QP h.ok);exact⟨h1.1,h1.2.1,h1.2.2.1,Zwy (QP h.ok)⟩
theorem VOk.name{v:Val}(h:VOk v):∀y∈v.parts,y.name.length≤32:=fun y hy=>(h.part hy).node.1.2
theorem Zhv(l:List UInt8)(hl:l.length≤2000000)(st:St):Za ZDW 50 [ZL l] st (fun r s=>r=.ret (ZL l)∧s=st):=by
 refine Zd (cR 50 f50) fun F hF=>?_;by_cases h0:l.length=0;have u:l=[]:=List.eq_nil_of_length_eq_zero h0;subst u;refine ZdI 0 rfl ?_ fun b off cap=>?_
 skip
 refine rx (nd2 @ZL.eq_1 @eQ1) ?_;refine rg ?_;refine i1 ?_;refine rg ?_;exact hF.ret _ st rfl (by trivial) (QB (Kk fun b h=>by cases h)) (ZDY _) ⟨rfl,rfl⟩
 skip
 refine rx (nd2 @ZL.eq_1 @eQ1) ?_;refine rg ?_;refine iG ?_;refine ZdH (s:=st) (t:=.full) (m:=0) (row2:=fun _=>[]) rfl rfl rfl rfl rfl (by trivial) (by trivial) (fun g w v h=>Zfm h) trivial (by decide) (by unfold big;decide) fun t1 j=>?_;refine gR0 ?_;exact hF.ret _ st rfl (by trivial) (QB ((Z0.nil (f:=u8C)).le rfl)) (Y2 j) ⟨rfl,rfl⟩
 skip
 refine rx (nd2 @ZL.eq_1 @eQ1) ?_;refine gA ?_;refine iG ?_;refine ZaZ (st) (.full) rfl rfl rfl rfl rfl rfl (by trivial) (by trivial) rfl (by first|trivial|assumption) (by omega) (by (unfold big;omega)) fun t1 j=>Zl ?_;simp only[Eqs,reduceCtorEq,ZD2,reduceIte,ZD0,ZD3,ZD1];have n:Z0 u8C (YG 0 (Z8 [.int .u8 0] ([].zip [])) fun i=>u8C (l.getD i dE)) ([]++l):=Z0.nil.app Z0.self rfl;exact hF.ret _ st rfl (by trivial) (QB (n.le (by simp))) (Y2 j) ⟨rfl,rfl⟩
theorem Zf6(l:List Hdr)(hl:l.length≤2000000)(st:St):Za ZDW 51 [ZX l] st (fun r s=>r=.ret (ZX l)∧s=st):=by
 refine Zd (cR 51 f51) fun F hF=>?_;by_cases h0:l.length=0;have u:l=[]:=List.eq_nil_of_length_eq_zero h0;subst u;refine ZdI 0 rfl ?_ fun b off cap=>?_
 skip
 refine rx (nd2 @ZX.eq_1 @eQ1) ?_;refine rg ?_;refine i1 ?_;refine rg ?_;exact hF.ret _ st rfl (by trivial) (QB (Kk fun b h=>by cases h)) (ZDY _) ⟨rfl,rfl⟩
 skip
 refine rx (nd2 @ZX.eq_1 @eQ1) ?_;refine rg ?_;refine iG ?_;refine ZdH (s:=st) (t:=.full) (m:=0) (row2:=fun _=>[]) rfl rfl rfl rfl rfl (by trivial) (by trivial) (fun g w v h=>Zfm h) trivial (by decide) (by unfold big;decide) fun t1 j=>?_;refine gR0 ?_;exact hF.ret _ st rfl (by trivial) (QB ((Z0.nil (f:=Hdr.cells)).le rfl)) (Y2 j) ⟨rfl,rfl⟩
 skip
 refine rx (nd2 @ZX.eq_1 @eQ1) ?_;refine gA ?_;refine iG ?_;refine ZaZ (st) (.full) rfl rfl rfl rfl rfl rfl (by trivial) (by trivial) rfl (by first|trivial|assumption) (by omega) (by (unfold big;omega)) fun t1 j=>Zl ?_;simp only[Eqs,reduceCtorEq,ZD2,reduceIte,ZD0,ZD3,ZD1];have n:Z0 Hdr.cells (YG 0 (Z8 [.str [],.str []] ([].zip [])) fun i=>Hdr.cells (l.getD i dE)) ([]++l):=Z0.nil.app Z0.self rfl;exact hF.ret _ st rfl (by trivial) (QB (n.le (by simp))) (Y2 j) ⟨rfl,rfl⟩
theorem Zsd(row:Nat→List D)(n:Nat):(ZEa n).flatMap row=Yx row n:=by
 induction n with
 |zero=>rfl
 |succ n ih=>rw[List.range_succ,List.flatMap_append,ih,Yx];simp
theorem ZhV(st:St):Za ZDW 52 [ZW []] st (fun r s=>r=.ret (ZW [])∧s=st):=by
 refine Zd (cR 52 f52) fun F hF=>?_;have hz:∀(tk:Tok) (row:Nat→List D),(D.sl tk 0 5 row).Le (ZW []):=fun tk row g w v hv=>by
  cases hv with
  |sl0 a _ _ _ ht=>exact .sl0 _ _ _ _ (by simp)
  |sl b o n cap s row t f hl hc hp hr one ht hcap hb=>exact .sl _ _ _ _ _ _ _ f (fun i hi=>by omega) hc hp (fun i j d hi=>by omega) one trivial hcap hb
 refine ZdI 0 rfl ?_ fun b off cap=>?_
 skip
 refine gG ?_;refine i1 ?_;refine rg ?_;exact hF.ret _ st rfl (by trivial) (QB (Kk fun b h=>by cases h)) (ZDY _) ⟨rfl,rfl⟩
 skip
 refine gG ?_;refine iG ?_;refine ZdH (s:=st) (t:=.full) (m:=0) (row2:=fun _=>[]) rfl rfl rfl rfl rfl (by trivial) (by trivial) (fun g w v h=>Zfm h) trivial (by decide) (by unfold big;decide) fun t1 u=>?_;refine gR0 ?_;exact hF.ret _ st rfl (by trivial) (QB (hz _ _)) (Y2 u) ⟨rfl,rfl⟩
theorem ZhW(l:List Val)(hl:l.length≤1000000)(hp:0<l.length)(st:St):Za ZDW 52 [ZW l] st fun r S=>∃b c X,st b=nO∧l.length≤c∧r=.ret (.msl b 0 l.length c 5)∧S=st.upd b (.cells (Yx (Zcb l) l.length++X)):=by
 refine Zd (cR 52 f52) fun F hF=>?_;have j:=Zsd (Zcb l) l.length;refine rx @ZW.eq_1 ?_;refine gA ?_;refine iG ?_;refine ZsD rfl rfl rfl rfl rfl rfl (by trivial) (by trivial) (by exact hp) (by omega) (by unfold big;omega) fun b bc hb i=>Zl ?_;simp only[Eqs,reduceCtorEq,ZD2,reduceIte,ZD0,ZD3,ZD1];rw[j];exact hF.ret _ _ rfl (by trivial) (ZDZ _) (ZDY _) ⟨b,bc,_,hb,i,rfl,rfl⟩
structure CpI(T A:St)(v:Val)(x:Nat)(row:Nat→List D)(f:Nat→List Nat)(X:List D)(i:Nat):Prop where
 b:A x=some (.cells (Yx row v.parts.length++X))
 x0:T x=none
 done:∀j,j<i→j<v.parts.length→MT A (v.parts.getD j default) (row j) (f j)
 rest:∀j,i≤j→j<v.parts.length→row j=(v.parts.getD j default).cells
 n:∀j,j<i→x∉f j
 fr:∀j,j<i→∀y∈f j,T y=none
 d:∀j k,j<i→k<i→j≠k→∀y∈f j,y∉f k
 out:∀y,y≠x→(∀j,j<i→y∉f j)→A y=T y
theorem CpI.len{T A:St}{v:Val}{x:Nat}{f:Nat→List Nat}{X:List D}{i:Nat}(h:CpI T A v x row f X i):∀j,j<v.parts.length→(row j).length=5:=fun j hj=>by
 by_cases hi:j<i;exact(h.done j hi hj).len;rw[h.rest j (by omega) hj];exact Val.len _
theorem Zsl{c d:List D}(h:c.length=d.length):Zt c 0 d=d:=by
 unfold Zt;rw[List.take_zero,Nat.zero_add,ZEE (by omega)];simp
theorem CpI.step{T A:St}{v:Val}{x:Nat}{f:Nat→List Nat}{X:List D}{i:Nat}(h:CpI T A v x row f X i)(hi:i<v.parts.length){S:St}{c:List D}{fp:List Nat}(hm:MT S (v.parts.getD i dE) c fp)(hf:∀y∈fp,A y=nO)(ho:∀y,y∉fp→S y=A y):CpI T (S.upd x (.cells (Zt (Yx row v.parts.length++X) (i*5) c))) v x (fun j=>if j=i then c else row j) (fun j=>if j=i then fp else f j) X (i+1):=by
 have hx:x∉fp:=fun hx=>by have:=hf x hx;rw[h.b]at this;simp at this
 have hj:∀j,j<i→∀y∈f j,y∉fp:=fun j hj y hy t=>by obtain⟨ds,ad⟩:=(h.done j hj (by omega)).live y hy;have:=hf y t;rw[ad]at this;simp at this
 have ab:∀{y:Nat},y≠x→(S.upd x (.cells (Zt (Yx row v.parts.length++X) (i*5) c))) y=S y:=fun hy=>ZD6 _ _ hy;refine⟨?_,h.x0,fun j u z=>?_,fun j u z=>?_,fun j u=>?_,fun j u y hy=>?_,fun j k u hk1 ae y hy=>?_,fun y hy t=>?_⟩;rw[ZD4];have:=Zir X 0 c (by rw[hm.len];decide) (fun j hj=>h.len j hj) hi;rw[Nat.add_zero]at this;rw[this,Zsl (by rw[h.len i hi,hm.len])];by_cases e:j=i;subst e;rw[if_pos rfl,if_pos rfl];exact hm.mono fun y hy=>ab fun e=>hx (e▸hy);rw[if_neg e,if_neg e];refine(h.done j (by omega) z).mono fun y hy=>?_;rw[ab (fun e2=>h.n j (by omega) (e2▸hy))];exact ho y (hj j (by omega) y hy);rw[if_neg (by omega)];exact h.rest j (by omega) z;by_cases e:j=i;rw[if_pos e];exact hx;rw[if_neg e];exact h.n j (by omega);by_cases e:j=i;rw[if_pos e]at hy;have h1:=hf y hy;rw[h.out y (fun e2=>hx (e2▸hy)) (fun k hk ac=>hj k hk y ac hy)]at h1;exact h1;rw[if_neg e]at hy;exact h.fr j (by omega) y hy;by_cases e:j=i;rw[if_pos e]at hy;rw[if_neg (by omega)];exact fun ac=>hj k (by omega) y ac hy;rw[if_neg e]at hy;by_cases e2:k=i;rw[if_pos e2];exact hj j (by omega) y hy;rw[if_neg e2];exact h.d j k (by omega) (by omega) ae y hy;have h1:=t i (by omega);rw[if_pos rfl]at h1;rw[ab hy,ho y h1];refine h.out y hy fun j hj=>?_;have:=t j (by omega)
 rwa [if_neg (by omega)]at this
theorem CpI.fin{T A:St}{v:Val}{x cap:Nat}{f:Nat→List Nat}{X:List D}(h:CpI T A v x row f X v.parts.length)(hp:0<v.parts.length)(hc:v.parts.length≤cap):
  ∃fp,MT A v [.str v.name,.int .i64 v.int,ZL v.bytes,ZX v.hdrs,.msl x 0 v.parts.length cap 5] fp∧(∀y∈fp,T y=nO)∧∀y,y∉fp→A y=T y:=by
 refine⟨x::(ZEa v.parts.length).flatMap f,MN.mt ⟨rfl,h.b,hc,fun j hj=>h.done j hj hj,fun j hj=>h.n j hj,fun j k hj hk=>h.d j k hj hk,rfl⟩ hp,fun y hy=>?_,fun y hy=>?_⟩;simp only[ZEz,List.mem_flatMap,List.mem_range]at hy;rcases hy with rfl|⟨j,hj,hy⟩;exact h.x0;exact h.fr j hj y hy;simp only[ZEz,List.mem_flatMap,List.mem_range,not_or,not_exists,not_and]at hy;exact h.out y hy.1 fun j hj=>hy.2 j hj
structure SmV(v:Val):Prop where
 b:v.bytes.length≤2000000
 h:v.hdrs.length≤2000000
 p:v.parts.length≤1000000
theorem VOk.sm{v:Val}(h:VOk v):SmV v:=by
 have h1:=JF (QP h.ok);have h2:=h.wt;have h3:∀l:List Val,10*l.length≤wtL l:=fun l=>by
  induction l with
  |nil=>simp
  |cons x r ih=>have:=Zc2 x;simp only[wtL,ZEf];omega
 have h4:=h3 v.parts;rw[Zc2]at h2;exact⟨by omega,by omega,by omega⟩
theorem ZpM(v:Val):VOk v→∀T:St,Za ZDW 23 [.agg v.cells] T fun r S=>∃c fp,r=.ret (.agg c)∧MT S v c fp∧(∀y∈fp,T y=nO)∧∀y,y∉fp→S y=T y:=by
 induction v using Val.ind with
 |h v ih =>
  intro hv T;have hs:=hv.sm;have hsb:=hs.b;have hsh:=hs.h;have ag:=hs.p;refine Zd (cR 23 f23) fun F hF=>?_;rw[v.cells_eq];refine gG ?_;have c9:=(Zhv v.bytes (by omega) T);refine cVD (c9) ?_ ?_;rintro dd S ⟨hr,hS⟩;obtain rfl:=hS.symm;cases hr;refine kF ?_;refine gR0 ?_;have c9:=(Zf6 v.hdrs (by omega) T);refine cVD (c9) ?_ ?_;rintro dd S ⟨hr,hS⟩;obtain rfl:=hS.symm;cases hr;refine kF ?_;refine gR0 ?_;by_cases h0:v.parts.length=0;have u:v.parts=[]:=List.eq_nil_of_length_eq_zero h0;rw[u];refine cVD ((ZhV T)) ?_ ?_;rintro dd S ⟨hr,hS⟩;obtain rfl:=hS.symm;cases hr;refine kF ?_;refine gR0 ?_;refine aa ?_;refine rx @Zb2 ?_;refine Zc (Zbx ?_);refine rg ?_;refine iG ?_;exact hF.ret _ T rfl (by simp) (ZDZ _) (ZDY _) ⟨_,[],rfl,by cases v;simp only[Val.parts]at u;subst u;exact .leaf _ _ _ _,by simp,fun _ _=>rfl⟩;rintro d S ⟨hr,_⟩;cases hr
  skip
  have c9:=(ZhW v.parts ag (by omega) T);refine cVD (c9) ?_ ?_;rintro dd S ⟨x,c,X,hx,hc,hr,hS⟩;subst hS;cases hr;refine kF ?_;refine gR0 ?_;refine aa ?_;refine rg ?_;refine Zc (fr (v.parts.length) (fun i Q=>∀row f A,CpI T A v x row f X i→i≤v.parts.length→Q [(1,.loc 1 0),(2,.loc 2 0),(18,.d (.int .i64 v.parts.length)),(19,.d (.int .i64 i))] [(1,[.str v.name,.int .i64 v.int,ZL v.bytes,ZX v.hdrs,.msl x 0 v.parts.length c 5]),(2,[.str [],.int .i64 0,.nilsl,.nilsl,.nilsl])] A) (fun n ab=>?_) fun ah=>?_);intro i hn row f A hA hi;refine rg ?_;refine Zb (Zu rfl trivial (fun hd=>?_) (fun hd=>?_));simp only[decide_eq_true_eq]at hd;have z:i<v.parts.length:=by omega
  have t:=ZaI X hA.len z;unfold part at t;rw[hA.rest i (ZEd _) z]at t;have ac:=Qd hA.len;have hb:=hA.b;refine rg ?_;refine rx (nd2 @hb @t) ?_;refine⟨by omega,by omega,by rw[ZD8,ac];omega,?_⟩;refine cVD (ih _ (ZC z) (hv.part (ZC z)) A) ?_ ?_;rintro dd S ⟨cc,fp,hr,hm,hf,ho⟩;cases hr;have af:S x=A x:=ho x fun hx=>by have:=hf x hx;rw[hb]at this;simp at this
  rw[hb]at af;have ad:=hA.step z hm hf ho;have ae:=hm.len;unfold Zt at ad;rw[ae]at ad;refine kF ?_;refine gQ (nd2 @af @ae) ?_;refine⟨by omega,by omega,by rw[ZD8,ac];omega,?_⟩;refine gA ?_;refine Zg ?_;exact ab ((v.parts.length)-(i+1)) (by omega) (i+1) rfl _ _ _ ad (by omega);rintro d S ⟨_,_,hr,_⟩;cases hr;simp only[decide_eq_false_iff_not]at hd;obtain rfl:i=v.parts.length:=by omega
  obtain⟨fp,h1,h2,h3⟩:=hA.fin (by omega) hc;refine rg ?_;exact hF.ret _ A rfl (by simp) (ZDZ _) (ZDY _) ⟨_,fp,rfl,h1,h2,h3⟩;exact ah _ 0 rfl (Zcb v.parts) (fun _=>[]) _ ⟨ZD4 _ _ _,hx,fun j hj=>by omega,fun j _ hj=>Zdj hj,fun j hj=>by omega,fun j hj=>by omega,fun j k hj=>by omega,fun y hy _=>ZD6 _ _ hy⟩ (by omega);rintro d S ⟨_,_,_,_,_,hr,_⟩;cases hr;rintro d S ⟨hr,_⟩;cases hr;rintro d S ⟨hr,_⟩;cases hr
def ckN(st:St)(nm:Str)(b5 b6 b7 b8 b9:Nat):St :=
 ((((st.upd b5 (.cells [.str nm])).upd b6 (.cells [.nilmap])).upd b7 (.cells [.fn (.func 109) [] []])).upd b8 (.cells [.int .i64 0])).upd b9 (.cells [.bool false])
section
variable {st:St} {b5 b6 b7 b8 b9:Nat} {nm:Str}
theorem YC.m5(h:YC st b5 b6 b7 b8 b9):(ckN st nm b5 b6 b7 b8 b9) b5=sO (.cells [.str nm]):=by
 simp[ckN,ZEv,h.n6.1.symm,h.n7.2.1.symm,h.n8.2.2.1.symm,h.n9.2.2.2.1.symm]
theorem YC.m6(h:YC st b5 b6 b7 b8 b9):(ckN st nm b5 b6 b7 b8 b9) b6=sO (.cells [.nilmap]):=by
 simp[ckN,ZEv,h.n7.1.symm,h.n8.2.1.symm,h.n9.2.2.1.symm]
theorem YC.m8(h:YC st b5 b6 b7 b8 b9):(ckN st nm b5 b6 b7 b8 b9) b8=sO (.cells [.int .i64 0]):=by
 simp[ckN,ZEv,h.n9.1.symm]
theorem YC.m9:(ckN st nm b5 b6 b7 b8 b9) b9=sO (.cells [.bool false]):=by
 simp[ckN,ZEv]
theorem YC.msub(h:YC st b5 b6 b7 b8 b9):st.sub (ckN st nm b5 b6 b7 b8 b9):=fun c o hc=>by
 have h5:c≠b5:=fun e=>by rw[e,h.n5]at hc;simp at hc
 have h6:c≠b6:=fun e=>by rw[e,h.n6.2]at hc;simp at hc
 have h7:c≠b7:=fun e=>by rw[e,h.n7.2.2]at hc;simp at hc
 have h8:c≠b8:=fun e=>by rw[e,h.n8.2.2.2]at hc;simp at hc
 have h9:c≠b9:=fun e=>by rw[e,h.n9.2.2.2.2]at hc;simp at hc
 simp[ckN,ZEv,h5,h6,h7,h8,h9,hc]
theorem Zyp(h:YC st b5 b6 b7 b8 b9)(hρ:ZM ρ 8=sO (.d (.ptr b8 0)):=by rfl):
  Yt ρ L (ckN st nm b5 b6 b7 b8 b9) [.cell1 8]=sO (True∧True,[.int .i64 0]):=by
 simp[Yt,WV,hρ,Y6,Yc,h.m8]
end
theorem ZlL(s:Wi)(hv:ZU s=true)(nm:Str)(st:St)(hk:∀t∈s.terms,t.field=nm):
  Za ZDW 108 [.agg s.cells,.str nm,.nilmap,.fn (.func 109) [] []] st (fun r S=>r=.ret (.int .i64 0)∧S=st):=by
 refine Zd (cR 108 f108) fun F hF=>?_;refine rx @eQ4 ?_;refine rx @eQ4 ?_;refine cl (JS s) ?_;rw[hv];refine iG ?_;refine Zb (Zb ?_);refine xP 5 fun b5 h5=>?_;refine xP 6 fun b6 h6=>?_;refine xP 7 fun b7 h7=>?_;refine xP 8 fun b8 h8=>?_;refine xP 9 fun b9 h9=>?_;refine rx @eQ4 ?_;refine cV (Zbi s hv _) ?_ ?_;rintro d S ⟨x,hx,hd,rfl⟩;cases hd;refine gR0 ?_;refine Zc ?_;have n:YC st b5 b6 b7 b8 b9:=by have k6:=Zq h6;have k7:=Zq h7;have ag:=Zq k7.2;have k8:=Zq h8;have ac:=Zq k8.2;have ak:=Zq ac.2;have k9:=Zq h9;have ae:=Zq k9.2;have ab:=Zq ae.2;have ai:=Zq ab.2;exact⟨h5,k6,⟨k7.1,ag⟩,⟨k8.1,ac.1,ak⟩,⟨k9.1,ae.1,ab.1,ai⟩⟩
 have hfew:=QG hv;rw[show(((((st.upd b5 (.cells [.str nm])).upd b6 (.cells [.nilmap])).upd b7 (.cells [.fn (.func 109) [] []])).upd b8 (.cells [.int .i64 0])).upd b9 (.cells [.bool false]))=ckN st nm b5 b6 b7 b8 b9 from rfl]at hx⊢;refine Ka hF rfl trivial [5,6,7,8,9] (by show([5,6,7,8,9]:List Nat).Nodup;decide) (Wh hx) (Zaf s.terms (by unfold big;omega) x).Y (fun j hj=>rfl)
  (fun j=>.next) (fun j a=>a=ckN st nm b5 b6 b7 b8 b9) rfl ?_ ?_ ?_ ?_ ?_ ?_
 intro j a hj u hB F' ready busy hdr ad af;subst hB;simp only[Eqs,reduceCtorEq,ZD2,reduceIte,ZD0,ZD3,ZD1,Ws,WG,Qy,WU,List.isEmpty_nil,List.isEmpty_cons];refine rg ?_;refine ad fun aj=>?_;have al:=hk _ (ZC hj);generalize htm:s.terms.getD j dE=tm at *;subst al;have e3:=Y1 ZT tm.field;simp only[show Ks tm.field=D.str tm.field from rfl]at e3;have z:(ckN st tm.field b5 b6 b7 b8 b9).upd b8 (.cells [.int .i64 0])=ckN st tm.field b5 b6 b7 b8 b9:=St.upd_self n.m8;refine rh ?_;refine Zl ?_;simp only[Eqs,reduceCtorEq,ZD2,reduceIte,ZD0,ZD3,ZD1,Zp (n.m6 ),e3];refine rh ?_;refine Zl ?_;simp only[Eqs,reduceCtorEq,ZD2,reduceIte,ZD0,ZD3,ZD1,Zp (n.m5 )];refine i1 ?_;refine Zy (Zj (Zj ?_));exact af.fin ⟨rfl,rfl⟩ aj (ZDY _);intro q a u hB hq;subst hB;rw[KG hq];have ah:=Wh (o:=Z1.dfr) hq;have z:(ckN st nm b5 b6 b7 b8 b9).upd b8 (.cells [.int .i64 0])=ckN st nm b5 b6 b7 b8 b9:=St.upd_self n.m8;refine rh ?_;refine Zl ?_;simp only[Eqs,reduceCtorEq,ZD2,reduceIte,ZD0,ZD3,ZD1,Zp (YC.m9 )];refine i0 ?_;refine rh ?_;refine Zl ?_;simp only[Eqs,reduceCtorEq,ZD2,reduceIte,ZD0,ZD3,ZD1,Zp (n.m8 ),WD,z];exact hF.ret1 (Ze9 ah (Yn _ _)) (.int .i64 0) st (Zyp n) ⟨trivial,trivial⟩ (ZDZ _) n.msub ⟨rfl,rfl⟩;intro q a m hm u i;simp at i;intro q a m id hm u i;simp at i;intro q a m d hm u i;simp at i;intro m c i;simp at i;rintro d S ⟨x,hx,hd,rfl⟩;cases hd
theorem ZhP{s:Wi}(h:ZU s=true):∀t∈s.terms,t.factor≠0:=by
 unfold ZU at h;simp only[ZD5]at h;have:∀(i:List Str) (l:List ZO),ZaU i l=true→∀t∈l,t.factor≠0:=by
  intro i l;induction l generalizing i with
  |nil=>intro _;simp
  |cons t r ih =>intro hv;simp only[ZaU,Jm,ZD5,Bool.not_eq_true',decide_eq_false_iff_not]at hv;intro x hx;rcases List.mem_cons.1 hx with rfl|hx;exact hv.1.1.1.2;exact ih _ hv.2 x hx
 exact this [] s.terms h.2
def ZeT(t:ZO)(base n:Int):Option Int :=
 if n≤1152921504606846976∧-1152921504606846976≤n∧(n-base).tmod t.factor=0∧0≤(n-base).tdiv t.factor∧(n-base).tdiv t.factor<34359738368 then sO ((n-base).tdiv t.factor) else nO
def ZrP(o:Option Int):D:=match o with
 |some n=>.tup [.int .i64 n,.int .i64 0]
 |none=>.tup [.int .i64 0,.int .i64 9]
theorem Znh(t:ZO){z:Nat}{nm:Str}{st:St}(hz:st z=sO (.cells [.str nm])):ZP ZDW 111 [.agg t.cells,.ptr z 0] st (.bool (dC (t.field=nm))) st:=by
 refine ZG (cR 111 f111) fun j F i=>?_;clear j;refine rx @ZO.cells.eq_1 ?_;refine rx @hz ?_;exact i rfl (by trivial) (ZDZ _) (ZDY _)
theorem Zni(t:ZO){z:Nat}{nm:Str}{d:D}{st:St}(hz:st z=sO (.cells [.str nm]))(ht:t.field=nm):ZP ZDW 113 [.agg t.cells,.ptr z 0,d] st (.int .i64 0) st:=by
 refine ZG (cR 113 f113) fun j F i=>?_;clear j;refine rx @ZO.cells.eq_1 ?_;refine rx @hz ?_;refine Zu rfl trivial (fun _=>?_) (fun h=>by simp at h;exact absurd ht h);refine rg ?_;exact i rfl (by trivial) (ZDZ _) (ZDY _)
theorem ZpG(s:Wi)(hv:ZU s=true)(t:ZO)(ht:s.terms=[t])(n:Int)(st:St):
  Za ZDW 58 [.agg s.cells,.str t.field,.int .i64 n,.nilmap] st (fun r S=>r=.ret (ZrP (ZeT t s.base n))∧S=st):=by
 have ag:=Zfz hv;have z:=ZhP hv t (by rw[ht];simp);have hts:=ag.2 t (by rw[ht];simp);refine Zd (cR 58 f58) fun F hF=>?_;refine rx @eQ4 ?_;refine rx @eQ4 ?_;refine Zgb rfl rfl rfl rfl rfl (by trivial) (by trivial) (by exact ZlL s hv t.field st (fun u hu=>by rw[ht]at hu;simp at hu;rw[hu])) ?_ ?_;rintro d S ⟨hd,hS⟩;obtain rfl:=hS.symm;cases hd;refine gR0 ?_;refine gI ?_;refine Zy (Zb ?_);refine xP 5 fun z5 h5=>?_;refine xP 7 fun z7 h7=>?_;refine rx @eQ4 ?_;have af:z5≠z7:=fun e=>by rw[←e,ZD4]at h7;simp at h7
 have ac:((st.upd z5 (.cells [.str t.field])).upd z7 (.cells [.nilmap])) z5=sO (.cells [.str t.field]):=by rw[ZD6 _ _ af,ZD4]
 have j:st.sub ((st.upd z5 (.cells [.str t.field])).upd z7 (.cells [.nilmap])):=ZED (ZEl _ h5) (ZEl _ h7);generalize ((st.upd z5 (.cells [.str t.field])).upd z7 (.cells [.nilmap]))=S at *;have ah:Zi (fun u:ZO=>dC (u.field=t.field)) s.terms=0:=by rw[ht];simp[Zi]
 refine ct (ZeR s.terms (.fn (.func 111) [] [.ptr z5 0]) (fun u=>dC (u.field=t.field)) (fun _=>S) (fun i _=>(Znh _ ac).VT (first:=[]) (args:=[_]) (caps:=[_]))) ?_;rw[ah];refine rg ?_;have hS:=ZeT.eq_1 t s.base n;refine cd (fun h1=>?_) (fun h1=>?_);refine rg ?_;exact hF.ret _ st rfl (by trivial) (K0 rfl rfl) j ⟨by rw[hS,if_neg (by simp at h1;omega)];rfl,rfl⟩;simp at h1;refine rx @eQ4 ?_;refine QT rfl rfl rfl rfl rfl (by trivial) (by trivial) (by exact ZcJ s hv (.fn (.func 113) [] [.ptr z5 0,.ptr z7 0]) (fun _=>0) S (fun u hu=>by omega) (fun u hu=>(Zni u ac (by rw[ht]at hu;simp at hu;rw[hu])).VT (first:=[]) (args:=[_]) (caps:=[_,_]))) (Zl ?_);simp only[Eqs,reduceCtorEq,ZD2,reduceIte,ZD0,ZD3,ZD1];have ab:s.base+KZ (fun _=>0) s.terms=s.base:=by rw[ht];simp[KZ]
 rw[ab];refine aa ?_;have ad:s.terms.getD 0 dE=t:=by rw[ht];rfl
 have ae:s.terms.length=1:=by rw[ht];rfl
 refine xA (nd2 @Yl.eq_1 (nd2 @eQ1 (nd2 @ad (nd2 @ae @ZO.cells.eq_1)))) ?_;have hq1:((n-s.base).tdiv t.factor).natAbs≤(n-s.base).natAbs:=by rw[Int.natAbs_tdiv];exact Nat.div_le_self _ _
 have hq2:((n-s.base).tmod t.factor).natAbs≤(n-s.base).natAbs:=by rw[Int.natAbs_tmod];exact Nat.mod_le _ _
 refine rg ?_;refine⟨z,by omega,by omega,fun _=>⟨z,by omega,by omega⟩,?_⟩;refine cG (Zfu ((n-s.base).tdiv t.factor)) ?_;refine aa ?_;refine cd (fun h2=>?_) (fun h2=>?_);refine rg ?_;exact hF.ret _ st rfl (by trivial) (K0 rfl rfl) j ⟨by rw[hS,if_neg (by simp at h2;omega)];rfl,rfl⟩;refine rg ?_;refine⟨z,by omega,by omega,?_⟩;exact hF.ret _ st rfl (by trivial) (K0 rfl rfl) j ⟨by rw[hS,if_pos (by simp at h2;omega)];rfl,rfl⟩;rintro d S ⟨hd,_⟩;cases hd
abbrev Zno(l:List Str):D:=slD 1 Zbu l
theorem ZgG(l:List Str)(hl:l.length≤1000000)(f:D)(st:St)(hf:∀x∈l,VT ZDW f [.str x] st (.bool false) st):ZP ZDW 245 [Zno l,f] st (.int .i64 (-1)) st:=by
 refine ZG (cR 245 f245) fun _ F t=>?_;refine rg ?_;refine rx @eQ1 ?_;refine Zc (fr (l.length) (fun i Q=>i≤l.length→Q [(0,.d (Zno l)),(1,.d f),(7,.d (.int .i64 l.length)),(8,.d (.int .i64 i))] [] st) (fun n j=>?_) fun z=>?_);intro i hn hi;refine rg ?_;refine Zb (Zu rfl trivial (fun h1=>?_) (fun h1=>?_));simp at h1;have u:=hf _ (ZC h1);refine rg ?_;refine xA (nd2 @eQ1 @Zbu.eq_1) ?_;refine cW (u) ?_;refine i0 ?_;refine gA ?_;refine Zg ?_;exact j ((l.length)-(i+1)) (by omega) (i+1) rfl (by omega);refine rg ?_;exact t rfl (by trivial) (ZDZ _) (ZDY _);exact z _ 0 rfl (by omega)
theorem Zf7(l:List Str)(hl:l.length≤1000000)(f:D)(st:St)(hf:∀x∈l,VT ZDW f [.str x] st (.bool false) st):ZP ZDW 203 [Zno l,f] st (Zno l) st:=by
 refine ZG (cR 203 f203) fun _ F i=>?_;have j:=ZgG l hl f st hf;refine gG ?_;refine ct (j) ?_;refine aa ?_;refine rg ?_;refine i1 ?_;refine rg ?_;exact i rfl (by trivial) (ZDZ _) (ZDY _)
theorem Zog{a s:Str}(ha:a≠[])(hs:s≠[])(hl:a.length≤10000000)(hl2:s.length≤10000000):Zf ZDW 151 [Zno [a,s]] (.str (Yu a s)):=by
 refine Zo (cR 151 f151) fun F st j=>?_;have hd:=Zf7 [a,s] (by simp) (.fn (.func 204) [] []) st (fun x hx=>by
  have h:=(Zfs x).VT (first:=[]) (args:=[_]) (caps:=[]) st;rw[decide_eq_false (fun e=>by rw[e]at hx;simp at hx;rcases hx with hx|hx<;>simp_all)]at h;exact h)
 have i:joinL [a,s] [46]=Yu a s:=by simp[joinL,Yu,ha,List.intercalate]
 have hJ:=Zcm [a,s] (by simp) (by rw[i];have:=Zfd a s;omega);rw[i]at hJ;refine gG ?_;refine ct (hd) ?_;refine cl (hJ) ?_;refine rs j ?_;rfl
theorem Zo1{a s:Str}(ha:a≠[])(hs:s≠[])(hl:a.length≤10000000)(hl2:s.length≤10000000):Zf ZDW 151 [.sl .full 2 1 (Z8 [.str []] ([0,1].zip [.str a,.str s]))] (.str (Yu a s)) :=
 Zf.leA (LeC.one (ZtB rfl fun i hi=>by rcases(by omega:i=0∨i=1) with rfl|rfl<;>rfl)) (Zog ha hs hl hl2)
def ZI(r:Str×Int)(st:St)(x:Res)(S:St):Prop:=S=st∧x=mfR r.1 r.2
def Wa(a b:Str×Int):Str×Int:=if a.2=0 then b else a
theorem mfK{r:Str×Int}{st:St}{A:D→St→Prop}(h:r.2=0→A (.tup []) st):∀d S,ZI r st (.ret d) S→A d S:=fun d S ⟨h1,h2⟩=>by
 subst h1;unfold mfR at h2;split at h2;rename_i h0;cases h2;exact h h0;cases h2
theorem mfP{r:Str×Int}{st:St}{A:D→St→Prop}(h:¬r.2=0→A (mfD r.1 r.2) st):∀d S,ZI r st (.panic d) S→A d S:=fun d S ⟨h1,h2⟩=>by
 subst h1;unfold mfR at h2;split at h2;cases h2;rename_i h0;cases h2;exact h h0
theorem ZI.ok{r:Str×Int}{st:St}(h:r.2=0):ZI r st (.ret (.tup [])) st:=⟨rfl,by unfold mfR;rw[if_pos h]⟩
theorem ZI.bad{r R:Str×Int}{st:St}(h:¬r.2=0)(he:R=r):ZI R st (.panic (mfD r.1 r.2)) st:=by
 subst he;exact⟨rfl,by unfold mfR;rw[if_neg h]⟩
theorem Ko{a b:Str×Int}(h:a.2=0):Wa a b=b:=if_pos h
theorem W5{a b:Str×Int}(h:¬a.2=0):Wa a b=a:=if_neg h
theorem Kb(fine:Bool)(q:Str)(no:Int)(hno:¬no=0)(st:St):Za ZDW 116 [.bool fine,.str q,.int .i64 no] st (ZI (q,if fine then 0 else no) st) :=
 (ZdE fine q no st).mono fun r S ⟨h1,h2⟩=>⟨h1,by rw[h2];cases fine<;>simp[mfR,hno]⟩
theorem Zjj(a b:Int)(q:Str)(st:St):Za ZDW 155 [.int .i64 a,.int .i64 b,.str q] st (ZI (q,Wt a b) st) :=
 (Zsn a b q st).mono fun r S ⟨h1,h2⟩=>⟨h1,h2⟩
def Znu(n b h p:Bool)(x:Val):Bool:=(((n ||decide (x.int=0))&&(b ||decide ((x.bytes.length:Int)=0)))&&(h ||decide ((x.hdrs.length:Int)=0)))&&(p ||decide ((x.parts.length:Int)=0))
def Zcp(n b h p:Bool)(x:Val)(q:Str):Str×Int:=(q,if Znu n b h p x then 0 else 6)
structure ZbL(st:St)(b3 b4 b5 b6 b7 b:Nat)(d:Dfn)(m:Msg)(pth:Str)(l:List (Str×Int))(f:Fld)(x:Val)(q:Str):Prop where
 p:st b3=some (.cells (WE m d pth b))
 f:st b4=some (.cells f.cells)
 x:st b5=some (.cells [.str x.name,.int .i64 x.int,ZL x.bytes,ZX x.hdrs,ZW x.parts])
 q:st b6=some (.cells [.str q])
 u:st b7=some (.cells [.fn (.func 152) [] [.ptr b5 0,.ptr b6 0]])
 m:st b=some (.map (Q1 l))
section
variable {st:St} {b3 b4 b5 b6 b7 bm:Nat} {d:Dfn} {m:Msg} {pth:Str} {l:List (Str × Int)} {f:Fld} {x:Val} {q:Str}
theorem KY(hs:ZbL st b3 b4 b5 b6 b7 bm d m pth l f x q)(n b h p:Bool):WN ZDW (.fn (.func 152) [] [.ptr b5 0,.ptr b6 0]) [.bool n,.bool b,.bool h,.bool p] st (ZI (Zcp n b h p x q) st):=by
 refine Za.V (first:=[]) (args:=[_,_,_,_]) (caps:=[_,_]) ?_;refine Zd (cR 152 f152) fun F hF=>?_;have h5:=hs.x;have h6:=hs.q;have hU:=Znu.eq_1 n b h p x;refine rx (nd2 @h5 (nd2 @h6 (nd2 @Zad (nd2 @ZiA @Zb2)))) ?_;rw[←hU];have c9:=Kb (Znu n b h p x) q 6 (by decide) st;refine cV (c9) ?_ ?_;refine mfK fun h0=>?_;refine gR0 ?_;exact hF.fin (.tup []) st rfl trivial (ZDZ _) (ZDY _) (ZI.ok h0);exact mfP fun h0=>hF.pan st (ZDY _) (ZI.bad h0 rfl)
theorem Zft(hs:ZbL st b3 b4 b5 b6 b7 bm d m pth l f x q):
  Za ZDW 153 [.ptr b7 0,.ptr b5 0,.ptr b4 0,.ptr b6 0] st (ZI (Wa (Zcp true false false false x q) (q,if dC (f.low≤x.int)&&dC (x.int≤f.high) then 0 else 3)) st):=by
 refine Zd (cR 153 f153) fun F hF=>?_;have hu:=KY hs true false false false;refine rx @hs.u ?_;refine vV (hu) ?_ ?_;refine mfK fun h0=>?_;rw[Ko h0]at hF;refine gR0 ?_;refine rx (nd2 @hs.x (nd2 @hs.f (nd2 @hs.q @eQ0))) ?_;have c9:=Kb (dC (f.low≤x.int)&&dC (x.int≤f.high)) q 3 (by decide) st;refine cV (c9) ?_ ?_;refine mfK fun h1=>?_;refine gR0 ?_;exact hF.fin (.tup []) st rfl trivial (ZDZ _) (ZDY _) (ZI.ok h1);exact mfP fun h1=>hF.pan st (ZDY _) (ZI.bad h1 rfl);exact mfP fun h0=>hF.pan st (ZDY _) (ZI.bad h0 (W5 h0))
theorem Zna(hs:ZbL st b3 b4 b5 b6 b7 bm d m pth l f x q)(hv:ZU f.size=true)(hk:∀t∈f.size.terms,∃v,Zr t.field l=sO v∧0≤v∧v<34359738368):
  Za ZDW 154 [.ptr b7 0,.ptr b5 0,.ptr b3 0,.ptr b4 0,.ptr b6 0] st (ZI (Wa (Zcp false true false false x q) (q,Wt x.bytes.length (Zab f.size l))) st):=by
 refine Zd (cR 154 f154) fun F hF=>?_;have hu:=KY hs false true false false;have hz:=J7 m d pth f hv bm l st hs.m hk;refine rx @hs.u ?_;refine vV (hu) ?_ ?_;refine mfK fun h0=>?_;rw[Ko h0]at hF;refine gR0 ?_;have hp:=hs.p;have hf:=hs.f;refine rx (nd2 @hs.x (nd2 @hp (nd2 @hf (nd2 @hs.q (nd2 @Zad (nd2 @WE.eq_1 @eQ0)))))) ?_;refine cVD (hz) ?_ ?_;rintro dd S ⟨hd,rfl⟩;cases hd;refine kF ?_;refine gR0 ?_;refine cVD (Zjj x.bytes.length (Zab f.size l) q S) ?_ ?_;refine mfK fun h1=>?_;refine kF ?_;refine gR0 ?_;exact hF.fin (.tup []) S rfl trivial (ZDZ _) (ZDY _) (ZI.ok h1);exact mfP fun h1=>hF.pan S (ZDY _) (ZI.bad h1 rfl);rintro dd S ⟨hd,_⟩;cases hd;exact mfP fun h0=>hF.pan st (ZDY _) (ZI.bad h0 (W5 h0))
end
theorem Zhz(l:Str)(v:Int):Zf ZDW 206 [ZL l,.int .u8 v] (.int .i64 (Zi (fun x=>dC (v=x.toNat)) l)):=by
 refine YS (cR 206 f206) fun ab F st u=>?_;have hw:=(Wb (ab (ZL l) (by simp))).1;unfold big at hw;clear ab;refine rg ?_;refine rx @Zad ?_;refine Zc (fr (l.length) (fun i Q=>i≤l.length→(∀j,j<i→dC (v=(l.getD j dE).toNat)=false)→Q [(0,.d (ZL l)),(1,.d (.int .u8 v)),(7,.d (.int .i64 l.length)),(8,.d (.int .i64 i))] [] st) (fun n t=>?_) fun ad=>?_);intro i hn hi z;refine rg ?_;refine Zb (Zu rfl trivial (fun h1=>?_) (fun h1=>?_));simp at h1;refine rg ?_;refine xA (nd2 @ZAw @u8C.eq_1) ?_;refine cd (fun h2=>?_) (fun h2=>?_);have e1:=Kj (p:=fun x:UInt8=>dC (v=x.toNat)) h1 h2 z;refine rg ?_;refine ri u ?_;exact e1.symm;refine gA ?_;refine Zg ?_;exact t ((l.length)-(i+1)) (by omega) (i+1) rfl (by omega) (Ye (q:=fun j=>dC (v=(l.getD j dE).toNat)=false) z h2);simp at h1;obtain rfl:i=l.length:=by omega
 have ac:∀x∈l,(fun x:UInt8=>dC (v=x.toNat)) x=false:=fun x hx=>by obtain⟨j,hj,rfl⟩:=ZEe hx;have:=z j hj;simpa[ZEb,hj]using this
 refine rg ?_;refine ri u ?_;exact(WP ac).symm;exact ad _ 0 rfl (by omega) (by intro j hj;omega)
theorem Ze3(l:Str)(v:Int):Zf ZDW 158 [ZL l,.int .u8 v] (.bool (l.any fun x=>dC (v=x.toNat))):=by
 refine Zo (cR 158 f158) fun F st i=>?_;refine gG ?_;refine cl (Zhz l v) ?_;refine rb i ?_;rw[←Jy]
section
variable {st:St} {b3 b4 b5 b6 b7 bm:Nat} {d:Dfn} {m:Msg} {pth:Str} {l:List (Str × Int)} {f:Fld} {x:Val} {q:Str}
theorem Znb(hs:ZbL st b3 b4 b5 b6 b7 bm d m pth l f x q)(hl:0≤f.low∧f.low≤255):
  Za ZDW 157 [.ptr b7 0,.ptr b5 0,.ptr b4 0,.ptr b6 0] st (ZI (Wa (Zcp false true false false x q) (Wa (q,if dC ((x.bytes.length:Int)≤f.high) then 0 else 5) (q,if !x.bytes.any (fun c=>dC (f.low=c.toNat)) then 0 else 6))) st):=by
 refine Zd (cR 157 f157) fun F hF=>?_;have hu:=KY hs false true false false;have hw:IntKind.u8.wrap f.low=f.low:=ZaV .u8 f.low (by have h1:IntKind.u8.min=0:=rfl;have h2:IntKind.u8.max=255:=rfl;unfold inR;omega);refine rx @hs.u ?_;refine vV (hu) ?_ ?_;refine mfK fun h0=>?_;rw[Ko h0]at hF;refine gR0 ?_;refine rx (nd2 @hs.x (nd2 @hs.f (nd2 @hs.q (nd2 @Zad @eQ0)))) ?_;have c9:=Kb (dC ((x.bytes.length:Int)≤f.high)) q 5 (by decide) st;refine cV (c9) ?_ ?_;refine mfK fun h1=>?_;rw[Ko h1]at hF;refine gR0 ?_;refine rx (nd2 @hs.x (nd2 @hs.f (nd2 @hs.q (nd2 @eQ0 @hw)))) ?_;refine clD (Ze3 x.bytes f.low) ?_;refine ZgP rfl rfl rfl rfl rfl (by trivial) (by trivial) (by exact Kb (!x.bytes.any fun c=>dC (f.low=c.toNat)) q 6 (by decide) st) ?_ ?_;refine mfK fun h2=>?_;refine kF ?_;refine gR0 ?_;exact hF.fin (.tup []) st rfl trivial (ZDZ _) (ZDY _) (ZI.ok h2);exact mfP fun h2=>hF.pan st (ZDY _) (ZI.bad h2 rfl);exact mfP fun h1=>hF.pan st (ZDY _) (ZI.bad h1 (W5 h1));exact mfP fun h0=>hF.pan st (ZDY _) (ZI.bad h0 (W5 h0))
theorem Znc(hs:ZbL st b3 b4 b5 b6 b7 bm d m pth l f x q)(ht:Zd2 x.hdrs):
  Za ZDW 159 [.ptr b7 0,.ptr b5 0,.ptr b6 0,.ptr b4 0] st (ZI (Wa (Zcp false false true false x q) (Wa (q,if K2 x.hdrs then 0 else 6) (q,if dC (((Zbb x.hdrs).length:Int)≤f.high) then 0 else 5))) st):=by
 refine Zd (cR 159 f159) fun F hF=>?_;have hu:=KY hs false false true false;have hW:=ZhJ ht;have hR:=ZjA.eq_1 x.hdrs;generalize ZjA x.hdrs=w at *;refine rx @hs.u ?_;refine vV (hu) ?_ ?_
 ·refine mfK fun h0=>?_;rw[Ko h0]at hF;refine gR0 ?_;refine rx @hs.x ?_;cases hk:K2 x.hdrs with
  |false =>rw[hk,if_neg (by simp)]at hR;subst hR;refine cl (hW) ?_;refine rx @hs.q ?_;have c9:=Kb false q 6 (by decide) st;refine cV (c9) ?_ ?_;exact mfK fun h1=>absurd h1 (by simp);exact mfP fun h1=>hF.pan st (ZDY _) (ZI.bad h1 (by rw[hk,W5 (by simp)]))
  |true =>rw[hk,if_pos rfl]at hR;rw[hk,Ko (by simp)]at hF;subst hR;refine cl (hW) ?_;refine rx @hs.q ?_;have c9:=Kb true q 6 (by decide) st;refine cV (c9) ?_ ?_;refine mfK fun h1=>?_;refine gR0 ?_;refine rx (nd2 @hs.f (nd2 @hs.q (nd2 @Zad @eQ0))) ?_;have c9:=Kb (dC (((Zbb x.hdrs).length:Int)≤f.high)) q 5 (by decide) st;refine cV (c9) ?_ ?_;refine mfK fun h2=>?_;refine gR0 ?_;exact hF.fin (.tup []) st rfl trivial (ZDZ _) (ZDY _) (ZI.ok h2);exact mfP fun h2=>hF.pan st (ZDY _) (ZI.bad h2 rfl);exact mfP fun h1=>absurd rfl h1
 exact mfP fun h0=>hF.pan st (ZDY _) (ZI.bad h0 (W5 h0))
end
def Q8:Prop:=∀n:Nat,n<500→Zf ZDW 207 [.int .i64 n] (.str (Zdw n))
theorem ZhN(hI:Q8)(ps:List Val)(k:Nat)(hk:k<ps.length)(hps:ps.length≤500)(hn:∀x∈ps,x.name.length≤32):Zf ZDW 161 [ZW ps,.int .i64 k] (.str (Wn ps k)):=by
 refine Zo (cR 161 f161) fun F st t=>?_;have z:=Qq hk;have hnk:=hn _ (ZC hk);have u:=fun i=>Zvr (ps:=ps) (k:=k) (i:=i);have hO:=Wn.eq_1 ps k;have ac:ZfK ps k=Zep ps k k:=rfl;have hdl:=ZqU ps k;have hdec:=ZqQ (ZfK ps k);have hD:=hI (ZfK ps k) (by omega);generalize hx:ps.getD k dE=x at *;refine gG ?_;refine rx @ZW.eq_1 ?_;simp only[ite_self];refine⟨by omega,by omega,by omega,?_⟩;refine kl (st) [(0,.d (ZW ps)),(1,.d (.int .i64 k)),(5,.d (.int .i64 (0:Nat))),(10,.d (.sl .none k 5 (Zcb ps))),(11,.d (.int .i64 k)),(12,.d (.int .i64 (0:Nat)))] [] (Qj _) (Zaj _) ?_;refine Zc (fr (k) (fun i Q=>i≤k→Q [(0,.d (ZW ps)),(1,.d (.int .i64 k)),(5,.d (.int .i64 (Zep ps k i))),(10,.d (.sl .none k 5 (Zcb ps))),(11,.d (.int .i64 k)),(12,.d (.int .i64 i))] [] st) (fun n j=>?_) fun ab=>?_);intro i hn2 hi;refine rg ?_;refine Zb (Zu rfl trivial (fun h1=>?_) (fun h1=>?_));simp at h1;have ad:=Qq (show i<ps.length by omega);have hs:=u i (by omega);have hdi:=Zyu ps k i;generalize hy:ps.getD i dE=y at *;refine xA @ad ?_;refine xA (nd2 @atV @z) ?_;refine cd (fun h2=>?_) (fun h2=>?_);rw[if_pos (by simpa using h2)]at hs;refine gA ?_;refine gA ?_;rw[show((Zep ps k i:Nat):Int)+1=((Zep ps k (i+1):Nat):Int) by rw[hs];rfl];refine Zg ?_;exact j ((k)-(i+1)) (by omega) (i+1) rfl (by omega);rw[if_neg (by simpa using h2)]at hs;refine gA ?_;rw[show((Zep ps k i:Nat):Int)=((Zep ps k (i+1):Nat):Int) by rw[hs];rfl];refine Zg ?_;exact j ((k)-(i+1)) (by omega) (i+1) rfl (by omega);simp at h1;obtain rfl:i=k:=by omega
 rw[←ac];refine rg ?_;refine cd (fun h3=>?_) (fun h3=>?_);simp at h3;rw[if_pos h3]at hO;refine xA (nd2 @atV @z) ?_;refine rs t ?_;exact hO.symm;simp at h3;rw[if_neg h3]at hO;refine xA (nd2 @atV @z) ?_;refine⟨by unfold big;omega,?_⟩;refine cXD @ZyZ (hD) ?_;repeat(refine ZDX (by first|omega|trivial|(intro h0;simp at h0;omega)|(((try simp only[ZD8,ZEf,List.length_nil]);unfold big;omega))) ?_)
 refine rs t ?_;exact hO.symm;exact ab _ 0 rfl (by omega)
section
variable {d:Dfn} {m:Msg} {pth:Str} {bm:Nat} {x:Val} {q:Str} {st:St}
def Zrr(mis:Msg→Val→Str→Str×Int)(d:Dfn)(of:Str)(x:Val)(q:Str):Str×Int :=
 Wa (Zcp false false false true x q) (Wa (q,if dC ((x.parts.length:Int)=1) then 0 else 6) (mis (Zn d of) (x.parts.getD 0 dE) (Yu q (Wn x.parts 0))))
theorem ZrL(hI:Q8)(of:Str)(hof:0≤ZF d of d.msgs.length)(hx:VOk x)(hq:q≠[]∧q.length≤1000000)(fu:D)(hu:WN ZDW fu [.bool false,.bool false,.bool false,.bool true] st (ZI (Zcp false false false true x q) st))(mis:Msg→Val→Str→Str×Int)(hmis:x.parts.length=1→Za ZDW 64 [.agg d.cells,.agg (Zn d of).cells,.agg (x.parts.getD 0 dE).cells,.str (Yu q (Wn x.parts 0))] st (ZI (mis (Zn d of) (x.parts.getD 0 dE) (Yu q (Wn x.parts 0))) st)):
  Za ZDW 163 [.agg (WE m d pth bm),.str of,.agg x.cells,.str q,fu] st (ZI (Zrr mis d of x q) st):=by
 refine Zd (cR 163 f163) fun F hF=>?_;have j:=Y5 d of hof;rw[show d.msgs.getD (ixS d of) dE=Zn d of from rfl]at j;unfold Zrr at hF;rw[ZEg];refine rx @WE.eq_1 ?_;refine rg ?_;refine vV (hu) ?_ ?_;refine mfK fun h0=>?_;rw[Ko h0]at hF;refine gR0 ?_;refine rx @Zb2 ?_;have c9:=Kb (dC ((x.parts.length:Int)=1)) q 6 (by decide) st;refine cV (c9) ?_ ?_;refine mfK fun h1=>?_;rw[Ko h1]at hF;have hl:x.parts.length=1:=by simp at h1;omega
 have n:=ZhN hI x.parts 0 (by omega) (by omega) hx.name;have hsn:=Zjq hx.few hx.name (k:=0) (by omega);have t:Wn x.parts 0≠[]:=by have h2:=(hx.part (ZC (show 0<x.parts.length by omega))).node.1.1;unfold Wn;rw[if_pos (by have:=ZqU x.parts 0;omega)];exact fun e=>by rw[e]at h2;simp at h2
 have hj:=Zo1 hq.1 t (by omega) (by omega);have hr:=Qq (l:=x.parts) (i:=0) (by omega);have hm:=hmis hl;generalize Yu q (Wn x.parts 0)=q2 at *;rw[ZEg]at hm;generalize mis (Zn d of) (x.parts.getD 0 dE) q2=R at *;generalize x.parts.getD 0 dE=y at *;refine gR0 ?_;refine xA (nd2 @atV @hr) ?_;refine clD (j) ?_;refine clD (n) ?_;refine clD (hj) ?_;refine cVD (hm) ?_ ?_;refine mfK fun h2=>?_;refine kF ?_;refine gR0 ?_;exact hF.fin (.tup []) st rfl trivial (ZDZ _) (ZDY _) (ZI.ok h2);exact mfP fun h2=>hF.pan st (ZDY _) (ZI.bad h2 rfl);exact mfP fun h1=>hF.pan st (ZDY _) (ZI.bad h1 (W5 h1));exact mfP fun h0=>hF.pan st (ZDY _) (ZI.bad h0 (W5 h0))
end
theorem VOk.few2{v:Val}(h:VOk v):v.parts.length≤500:=by
 have h1:=Zs1 v;have h2:=h.wt;have h3:v.parts.length≤nodesL v.parts:=by
  induction v.parts with
  |nil=>simp
  |cons x r ih=>have:=QO x;simp only[ZEf,nodesL];omega
 have h4:=QO v;omega
theorem Zy3{ps:List Val}{k:Nat}(h:1≤(ps.getD k dE).name.length):Wn ps k≠[]:=by
 unfold Wn;split;exact fun e=>by rw[e]at h;simp at h
 simp
abbrev ZdT(mis:Msg→Val→Str→Str×Int)(d:Dfn)(of:Str)(x:Val)(q:Str)(i:Nat):Str×Int:=mis (Zn d of) (x.parts.getD i dE) (Yu q (Wn x.parts i))
section
variable {st:St} {b3 b4 b5 b6 b7 bm:Nat} {d:Dfn} {m:Msg} {pth:Str} {l:List (Str × Int)} {f:Fld} {x:Val} {q:Str}
theorem Znd(hI:Q8)(hs:ZbL st b3 b4 b5 b6 b7 bm d m pth l f x q)(hx:VOk x)(hq:q≠[]∧q.length≤1000000)(hv:ZU f.size=true)(hk:∀t∈f.size.terms,∃v,Zr t.field l=sO v∧0≤v∧v<34359738368)(hof:0≤ZF d f.of d.msgs.length)(mis:Msg→Val→Str→Str×Int)(hmis:∀i,i<x.parts.length→Za ZDW 64 [.agg d.cells,.agg (Zn d f.of).cells,.agg (x.parts.getD i dE).cells,.str (Yu q (Wn x.parts i))] st (ZI (ZdT mis d f.of x q i) st)):
  Za ZDW 160 [.ptr b7 0,.ptr b5 0,.ptr b3 0,.ptr b4 0,.ptr b6 0] st (ZI (Wa (Zcp false false false true x q) (Wa (q,Wt x.parts.length (Zab f.size l)) ((Ww (ZdT mis d f.of x q) (ZEa x.parts.length)).getD (q,0)))) st):=by
 refine Zd (cR 160 f160) fun F hF=>?_;have hu:=KY hs false false false true;have hz:=J7 m d pth f hv bm l st hs.m hk;have ae:=Y5 d f.of hof;rw[show d.msgs.getD (ixS d f.of) dE=Zn d f.of from rfl]at ae;have ac:=hs.x;have ag:=hs.p;have af:=hs.f;have ah:=hs.q;have ad:=hx.few2;refine rx @hs.u ?_;refine vV (hu) ?_ ?_;refine mfK fun h0=>?_;rw[Ko h0]at hF;refine gR0 ?_;refine rx (nd2 @ac (nd2 @ag (nd2 @af (nd2 @ah (nd2 @Zb2 (nd2 @WE.eq_1 @eQ0)))))) ?_;refine cVD (hz) ?_ ?_;rintro dd S ⟨hd,hS⟩;obtain rfl:=hS.symm;cases hd;refine kF ?_;refine gR0 ?_;refine cVD (Zjj x.parts.length (Zab f.size l) q st) ?_ ?_;refine mfK fun h1=>?_;rw[Ko h1]at hF;refine kF ?_;refine gR0 ?_;refine rx (nd2 @ac @Zb2) ?_;refine Zc (fr (x.parts.length) (fun i Q=>i≤x.parts.length→(∀j,j<i→(ZdT mis d f.of x q j).2=0)→Q [(1,.d (.ptr b5 0)),(2,.d (.ptr b3 0)),(3,.d (.ptr b4 0)),(4,.d (.ptr b6 0)),(18,.d (ZW x.parts)),(19,.d (.int .i64 x.parts.length)),(20,.d (.int .i64 i))] [] st) (fun n ab=>?_) fun ak=>?_);intro i hn hi z;refine rg ?_;refine Zb (Zu rfl trivial (fun g1=>?_) (fun g1=>?_));simp at g1;have am:x.parts.getD i dE∈x.parts:=ZC g1;have aj:=ZhN hI x.parts i g1 ad hx.name;have hsl:=Zjq hx.few hx.name g1;have hj:=Zo1 hq.1 (Zy3 (hx.part am).node.1.1) (by omega) (by omega);have hr:=Qq (l:=x.parts) (i:=i) g1;have hm:=hmis i g1;have al:=ZoP (g:=ZdT mis d f.of x q) g1 z;have ai:=fun h=>Ye (q:=fun j=>(ZdT mis d f.of x q j).2=0) z h;generalize hR:ZdT mis d f.of x q i=R at *;generalize Yu q (Wn x.parts i)=q2 at *;rw[ZEg]at hm;generalize x.parts.getD i dE=y at *;refine xA (nd2 @atV @hr) ?_;refine rx (nd2 @ac (nd2 @ag (nd2 @af (nd2 @ah (nd2 @WE.eq_1 @eQ0))))) ?_;refine clD (ae) ?_;refine clD (aj) ?_;refine clD (hj) ?_;refine cVD (hm) ?_ ?_;refine mfK fun h2=>?_;refine kF ?_;refine gR0 ?_;refine gA ?_;refine Zg ?_;exact ab ((x.parts.length)-(i+1)) (by omega) (i+1) rfl (by omega) (ai h2);exact mfP fun h2=>hF.pan st (ZDY _) (ZI.bad h2 (by rw[al h2];rfl));simp at g1;obtain rfl:i=x.parts.length:=by omega
 rw[Zmq z]at hF;refine ZQ rfl ?_;exact hF.fin (.tup []) st rfl trivial (ZDZ _) (ZDY _) (ZI.ok rfl);exact ak _ 0 rfl (by omega) (by intro j hj;omega);exact mfP fun h1=>hF.pan st (ZDY _) (ZI.bad h1 (W5 h1));rintro dd S ⟨hd,_⟩;cases hd;exact mfP fun h0=>hF.pan st (ZDY _) (ZI.bad h0 (W5 h0))
theorem Zne(hs:ZbL st b3 b4 b5 b6 b7 bm d m pth l f x q)(R:Str×Int)(hone:Za ZDW 163 [.agg (WE m d pth bm),.str f.of,.agg x.cells,.str q,.fn (.func 152) [] [.ptr b5 0,.ptr b6 0]] st (ZI R st)):
  Za ZDW 162 [.ptr b3 0,.ptr b4 0,.ptr b5 0,.ptr b6 0,.ptr b7 0] st (ZI R st):=by
 refine Zd (cR 162 f162) fun F hF=>?_;rw[ZEg]at hone;refine rx (nd2 @hs.p (nd2 @hs.f (nd2 @hs.x (nd2 @hs.q (nd2 @hs.u (nd2 @WE.eq_1 @eQ0)))))) ?_;refine cV (hone) ?_ ?_;refine mfK fun h0=>?_;refine gR0 ?_;exact hF.fin (.tup []) st rfl trivial (ZDZ _) (ZDY _) (ZI.ok h0);exact mfP fun h0=>hF.pan st (ZDY _) (ZI.bad h0 rfl)
theorem Znf(hs:ZbL st b3 b4 b5 b6 b7 bm d m pth l f x q)(tag:Int)(ht:(Zr f.tag l).getD 0=tag)(R:Str×Int)(hone:0≤KK f tag→Za ZDW 163 [.agg (WE m d pth bm),.str (f.cases.getD (KK f tag).toNat dE).of,.agg x.cells,.str q,.fn (.func 152) [] [.ptr b5 0,.ptr b6 0]] st (ZI R st)):
  Za ZDW 164 [.ptr b7 0,.ptr b4 0,.ptr b3 0,.ptr b6 0,.ptr b5 0] st (ZI (Wa (Zcp false false false true x q) (Wa (q,if dC (0≤KK f tag) then 0 else 9) R)) st):=by
 refine Zd (cR 164 f164) fun F hF=>?_;have hu:=KY hs false false false true;have e1:=YR (vD:=W9) ZT f.tag l;have e3:=Y1 ZT f.tag;simp only[show Ks f.tag=D.str f.tag from rfl]at e1 e3;have hC:=ZgA f tag;have t:=Wv (fun c:Yb=>dC (c.low≤tag)&&dC (tag≤c.high)) f.cases;rw[show Zi (fun c:Yb=>dC (c.low≤tag)&&dC (tag≤c.high)) f.cases=KK f tag from rfl]at t;rw[ZEg]at hone;generalize KK f tag=ci at *;refine rx @hs.u ?_;refine vV (hu) ?_ ?_;refine mfK fun h0=>?_;rw[Ko h0]at hF;refine gR0 ?_;refine rx (nd2 @hs.f (nd2 @hs.p (nd2 @hs.m (nd2 @WE.eq_1 (nd2 @eQ0 (nd2 @e1 (nd2 @e3 (nd2 @ZjS @ht)))))))) ?_;refine cl (hC) ?_;refine rx @hs.q ?_;have c9:=Kb (dC (0≤ci)) q 9 (by decide) st;refine cV (c9) ?_ ?_;refine mfK fun h1=>?_;rw[Ko h1]at hF;have j:0≤ci:=by by_cases h:0≤ci;exact h;rw[decide_eq_false h]at h1;simp at h1
 have ho:=hone j;have i:max ci 0=ci:=by omega
 generalize n:f.cases.getD ci.toNat dE=cc at *;rw[i];refine gR0 ?_;refine xA (nd2 @hs.p (nd2 @hs.f (nd2 @hs.x (nd2 @hs.q (nd2 @hs.u (nd2 @WE.eq_1 (nd2 @eQ0 (nd2 @Zyf (nd2 @n @Yb.cells.eq_1))))))))) ?_;refine cV0 (ho) ?_ ?_;refine mfK fun h2=>?_;refine gR0 ?_;exact hF.fin (.tup []) st rfl trivial (ZDZ _) (ZDY _) (ZI.ok h2);exact mfP fun h2=>hF.pan st (ZDY _) (ZI.bad h2 rfl);exact mfP fun h1=>hF.pan st (ZDY _) (ZI.bad h1 (W5 h1));exact mfP fun h0=>hF.pan st (ZDY _) (ZI.bad h0 (W5 h0))
theorem Zng(hs:ZbL st b3 b4 b5 b6 b7 bm d m pth l f x q)(hv:ZU f.size=true)(hk:∀t∈f.size.terms,∃v,Zr t.field l=sO v∧0≤v∧v<34359738368)(hof:0≤ZF d f.of d.msgs.length)(R:Str×Int)(len:Int)(hone:Za ZDW 163 [.agg (WE m d pth bm),.str f.of,.agg x.cells,.str q,.fn (.func 152) [] [.ptr b5 0,.ptr b6 0]] st (ZI R st))(hlen:R.2=0→x.parts.length=1∧Zf ZDW 41 [.agg d.cells,.agg (Zn d f.of).cells,.agg (x.parts.getD 0 dE).cells] (.int .i64 len)):
  Za ZDW 165 [.ptr b3 0,.ptr b4 0,.ptr b5 0,.ptr b6 0,.ptr b7 0] st (ZI (Wa R (q,Wt len (Zab f.size l))) st):=by
 refine Zd (cR 165 f165) fun F hF=>?_;have hz:=J7 m d pth f hv bm l st hs.m hk;have j:=Y5 d f.of hof;rw[show d.msgs.getD (ixS d f.of) dE=Zn d f.of from rfl]at j;rw[ZEg]at hone;have n:=hs.p;have ab:=hs.f;have z:=hs.q;refine rx (nd2 @n (nd2 @ab (nd2 @hs.x (nd2 @z (nd2 @hs.u (nd2 @WE.eq_1 @eQ0)))))) ?_;refine cV (hone) ?_ ?_;refine mfK fun h0=>?_;rw[Ko h0]at hF;obtain⟨hl,hL⟩:=hlen h0;have hr:=Qq (l:=x.parts) (i:=0) (by omega);rw[ZEg]at hL;generalize x.parts.getD 0 dE=y at *;refine gR0 ?_;refine xA (nd2 @n (nd2 @ab (nd2 @hs.x (nd2 @z (nd2 @WE.eq_1 (nd2 @eQ0 (nd2 @atV @hr))))))) ?_;refine clD (j) ?_;refine clD (hL) ?_;refine cVD (hz) ?_ ?_;rintro dd S ⟨hd,hS⟩;obtain rfl:=hS.symm;cases hd;refine kF ?_;refine gR0 ?_;refine cVD (Zjj len (Zab f.size l) q st) ?_ ?_;refine mfK fun h1=>?_;refine kF ?_;refine gR0 ?_;exact hF.fin (.tup []) st rfl trivial (ZDZ _) (ZDY _) (ZI.ok h1);exact mfP fun h1=>hF.pan st (ZDY _) (ZI.bad h1 rfl);rintro dd S ⟨hd,_⟩;cases hd;exact mfP fun h0=>hF.pan st (ZDY _) (ZI.bad h0 (W5 h0))
end
end Go.DL
