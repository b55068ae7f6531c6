/- Lemmas: W43, W44, W45, W46, W47, W48, W49, X07, X08, X09, X10, X11, X12, X13, X14, X15, X16, X02, X17, EvA, EvB, EvC, EvD, EvE, EvF, EvG, EvH, EvI, EvJ, EvK, EvL. -/
import Derived.Test.YtmdaecbcadpmcaaGreatDoorT04
set_option maxHeartbeats 16000000
set_option maxRecDepth 100000
set_option linter.all false
open Option renaming some → sO, none → nO
open Inhabited renaming default → dE
open Decidable renaming decide → dC
open Go.Proofs.Tryz
open And renaming intro → ZDX
open Bool renaming and_eq_false_iff → ZEF, and_eq_true → ZD5, false_and → ZEu, false_eq_true → ZEq, or_eq_true → ZEk, true_and → ZEm
open Go.DL.D.Le renaming refl → ZDZ
open Go.DL.St renaming sub_refl → ZDY, sub_trans → ZED, sub_upd → ZEl, upd → ZEv, upd_ne → ZD6, upd_same → ZD4, upd_upd → ZEj
open Go.DL.Val renaming cells_eq → ZEg
open Go.Proofs.Tryz renaming prog → ZDW
open Int renaming reduceToNat → ZD2
open List renaming append_assoc → ZEA, append_nil → ZEw, drop_eq_nil_of_le → ZEE, getD → ZEb, getElem?_append_left → ZEt, getElem?_eq_getElem → ZEr, getElem?_eq_none → ZEG, getElem?_take → ZEC, getElem_of_mem → ZEe, length_append → ZD8, length_cons → ZEf, length_drop → ZEx, length_take → ZEh, map_cons → ZEc, map_nil → ZEs, mem_cons → ZEz, range → ZEa, take_length → ZEy
open Nat renaming add_mul → ZEo, le_refl → ZEd, mul_le_mul_right → ZEi, reduceAdd → ZD3, reduceEqDiff → ZD0, reduceLeDiff → ZD1
open Option renaming getD_some → ZEB, map_eq_some_iff → ZD9, map_some → ZEp
open Option.some renaming injEq → ZDV
open Prod.mk renaming injEq → ZD7
namespace Go.DL
open Go Go.Proofs
variable {kp:Option (List Nat)}{L:Loc}{ρ:Env}{s:St}{w:World}{os:List DOp}{ds:List D}{B:List (Nat × Rd)}{dst:Option Nat}{tmps:Array Value}{g:G}{Φ:Res→St→Prop}{ν:Nat→Nat}{xs:List Opd}{side:Prop}{row:Nat→List D}
theorem Znp{v w:ZO→Int}:∀{l:List ZO},(∀t∈l,v t=w t)→KZ v l=KZ w l
 | [],_=>rfl
 |t::r,h=>by simp only[KZ];rw[h t (by simp),Znp fun s hs=>h s (by simp[hs])]
theorem ZAb(k:Int)(x:Val):Znu (Zrm k) (ZnO k) (dC (k=6)) (dC (7≤k)) x=!Ki k x:=by
 have e:∀n:Nat,dC ((n:Int)=0)=!dC (0<(n:Int)):=fun n=>by by_cases h:n=0<;>simp[h];omega
 unfold Znu Ki;rw[e,e,e];generalize dC (x.int=0)=a1;generalize dC (0<(x.bytes.length:Int))=a2;generalize dC (0<(x.hdrs.length:Int))=a3;generalize dC (0<(x.parts.length:Int))=a4;generalize Zrm k=c1;generalize ZnO k=c2;generalize dC (k=6)=c3;generalize dC (7≤k)=c4;revert a1 a2 a3 a4 c1 c2 c3 c4;decide
theorem Zy1{k:Int}{x:Val}{q:Str}{n b h p:Bool}(R:Str×Int)(h1:Zrm k=n)(h2:ZnO k=b)(h3:dC (k=6)=h)(h4:dC (7≤k)=p):Wa (Zcp n b h p x q) R=if Ki k x then (q,6) else R:=by
 subst h1;subst h2;subst h3;subst h4;unfold Wa Zcp;rw[ZAb];cases Ki k x<;>rfl
theorem Zwj(a b c:Str×Int):Wa (Wa a b) c=Wa a (Wa b c):=by
 unfold Wa;by_cases h:a.2=0<;>simp[h]
theorem Zy0(a b c:Str×Int):Wa a (Wa b (Wa a c))=Wa a (Wa b c):=by
 unfold Wa;by_cases h:a.2=0<;>simp[h]
theorem ZmL(mis:Msg→Val→Str→Str×Int)(d:Dfn)(of:Str)(x:Val)(q:Str):Zrr mis d of x q=Wa (Zcp false false false true x q) (Jg mis d of x q):=by
 unfold Zrr Jg
 congr 1
 by_cases h:x.parts.length=1;rw[if_pos h,Ko (by simp[h])];rw[if_neg h,W5 (by simp;omega),if_neg (by simp;omega)]
def ZpU(b3 b4 b5 b6 b7:Nat):List (Int×D):=[
 (1,.fn (.func 153) [] [.ptr b7 0,.ptr b5 0,.ptr b4 0,.ptr b6 0]),
 (3,.fn (.func 153) [] [.ptr b7 0,.ptr b5 0,.ptr b4 0,.ptr b6 0]),
 (4,.fn (.func 154) [] [.ptr b7 0,.ptr b5 0,.ptr b3 0,.ptr b4 0,.ptr b6 0]),
 (5,.fn (.func 157) [] [.ptr b7 0,.ptr b5 0,.ptr b4 0,.ptr b6 0]),
 (6,.fn (.func 159) [] [.ptr b7 0,.ptr b5 0,.ptr b6 0,.ptr b4 0]),
 (7,.fn (.func 160) [] [.ptr b7 0,.ptr b5 0,.ptr b3 0,.ptr b4 0,.ptr b6 0]),
 (8,.fn (.func 162) [] [.ptr b3 0,.ptr b4 0,.ptr b5 0,.ptr b6 0,.ptr b7 0]),
 (9,.fn (.func 164) [] [.ptr b7 0,.ptr b4 0,.ptr b3 0,.ptr b6 0,.ptr b5 0]),
 (12,.fn (.func 165) [] [.ptr b3 0,.ptr b4 0,.ptr b5 0,.ptr b6 0,.ptr b7 0])]
structure ZgR(f:Fld)(l nv:List (Str×Int)):Prop where
 size:f.kind=4∨f.kind=7∨f.kind=12→ZU f.size=true∧∀t∈f.size.terms,∃v,Zr t.field l=some v∧0≤v∧v<34359738368∧WY t.field nv=v
 tag:f.kind=9→(Zr f.tag l).getD 0=WY f.tag nv
 low:f.kind=5→0≤f.low∧f.low≤255
theorem ZgR.eval{f:Fld}{l nv:List (Str×Int)}(h:ZgR f l nv)(hk:f.kind=4∨f.kind=7∨f.kind=12):Zab f.size l=ZaQ f.size nv:=by
 unfold Zab ZaQ
 congr 1
 refine Znp fun t ht=>?_;obtain⟨v,h1,_,_,h2⟩:=(h.size hk).2 t ht;rw[h1,h2];rfl
theorem ZgR.sz{f:Fld}{l nv:List (Str×Int)}(h:ZgR f l nv)(hk:f.kind=4∨f.kind=7∨f.kind=12):ZU f.size=true∧∀t∈f.size.terms,∃v,Zr t.field l=sO v∧0≤v∧v<34359738368 :=
 ⟨(h.size hk).1,fun t ht=>by obtain⟨v,h1,h2,h3,_⟩:=(h.size hk).2 t ht;exact⟨v,h1,h2,h3⟩⟩
section
variable {st:St} {b3 b4 b5 b6 b7 bm:Nat} {d:Dfn} {m:Msg} {pth:Str} {l nv:List (Str × Int)} {f:Fld} {x:Val} {q:Str}
theorem ZyF(hI:Q8)(hs:ZbL st b3 b4 b5 b6 b7 bm d m pth l f x q)(hfr:Zk4 d f)(hv:W8 f=true)(hx:VOk x)(hq:q≠[]∧q.length≤1000000)(hn:ZgR f l nv)(mis:Msg→Val→Str→Str×Int)(len:Msg→Val→Int)(hmis:∀s,0≤ZF d s d.msgs.length→∀i,i<x.parts.length→Za ZDW 64 [.agg d.cells,.agg (Zn d s).cells,.agg (x.parts.getD i dE).cells,.str (Yu q (Wn x.parts i))] st (ZI (ZdT mis d s x q i) st))(hlen:f.kind=12→(Jg mis d f.of x q).2=0→x.parts.length=1∧Zf ZDW 41 [.agg d.cells,.agg (Zn d f.of).cells,.agg (x.parts.getD 0 dE).cells] (.int .i64 (len (Zn d f.of) (x.parts.getD 0 dE)))):
  ∃fn,Zr f.kind (ZpU b3 b4 b5 b6 b7)=sO fn∧WN ZDW fn [] st (ZI (if Ki f.kind x then (q,6) else Kx mis len d f x q nv) st):=by
 have hk:f.kind=1∨f.kind=3∨f.kind=4∨f.kind=5∨f.kind=6∨f.kind=7∨f.kind=8∨f.kind=9∨f.kind=12:=by have:=hfr.kind;unfold W8 at hv;simp only[ZD5,Bool.not_eq_true',decide_eq_false_iff_not]at hv;omega
 have t:∀of,0≤ZF d of d.msgs.length→Za ZDW 163 [.agg (WE m d pth bm),.str of,.agg x.cells,.str q,.fn (.func 152) [] [.ptr b5 0,.ptr b6 0]] st (ZI (Zrr mis d of x q) st):=fun of ho =>
  ZrL hI of ho hx hq _ (KY hs false false false true) mis fun h1=>hmis of ho 0 (by omega)
 have hP:=Kx.eq_1 mis len d f x q nv;generalize Kx mis len d f x q nv=R at *;have j:∀{Q:Str×Int} {n b h p:Bool},Zrm f.kind=n→ZnO f.kind=b→dC (f.kind=6)=h→dC (7≤f.kind)=p→R=Q→(if Ki f.kind x then (q,6) else R)=Wa (Zcp n b h p x q) Q:=fun h1 h2 h3 h4 h5=>by rw[Zy1 _ h1 h2 h3 h4,h5]
 have num:f.kind=1∨f.kind=3→(if Ki f.kind x then (q,6) else R)=Wa (Zcp true false false false x q) (q,if dC (f.low≤x.int)&&dC (x.int≤f.high) then 0 else 3):=fun h=>by refine j (by rcases h with h|h<;>rw[h]<;>rfl) (by rcases h with h|h<;>rw[h]<;>rfl) (by rcases h with h|h<;>rw[h]<;>rfl) (by rcases h with h|h<;>rw[h]<;>rfl) ?_;rw[hP,if_pos h];by_cases h1:x.int<f.low∨f.high<x.int;rw[if_pos h1,if_neg (by simp;omega)];rw[if_neg h1,if_pos (by simp;omega)]
 rcases hk with h|h|h|h|h|h|h|h|h;refine⟨_,by rw[h];rfl,?_⟩;rw[num (by omega)];exact Za.V (first:=[]) (args:=[]) (caps:=[_,_,_,_]) (Zft hs);refine⟨_,by rw[h];rfl,?_⟩;rw[num (by omega)];exact Za.V (first:=[]) (args:=[]) (caps:=[_,_,_,_]) (Zft hs);refine⟨_,by rw[h];rfl,?_⟩;obtain⟨h1,h2⟩:=hn.sz (by omega);rw[j (Q:=(q,Wt x.bytes.length (Zab f.size l))) (by rw[h]<;>rfl) (by rw[h]<;>rfl) (by rw[h]<;>rfl) (by rw[h]<;>rfl) (by rw[hP,if_neg (by omega),if_pos h,hn.eval (by omega)])];exact Za.V (first:=[]) (args:=[]) (caps:=[_,_,_,_,_]) (Zna hs h1 h2);refine⟨_,by rw[h];rfl,?_⟩;rw[j (by rw[h]<;>rfl) (by rw[h]<;>rfl) (by rw[h]<;>rfl) (by rw[h]<;>rfl) (Q:=Wa (q,if dC ((x.bytes.length:Int)≤f.high) then 0 else 5) (q,if !x.bytes.any (fun c=>dC (f.low=c.toNat)) then 0 else 6)) (by
  rw[hP,if_neg (by omega),if_neg (by omega),if_pos h];rw[show(fun c:UInt8=>dC ((c.toNat:Int)=f.low))=fun c=>dC (f.low=c.toNat) from funext fun c=>by rw[decide_eq_decide];exact eq_comm];by_cases h1:f.high<x.bytes.length;rw[if_pos h1,W5 (by simp;omega),if_neg (by simp;omega)];rw[if_neg h1,Ko (by simp;omega)];cases x.bytes.any fun c=>dC (f.low=c.toNat)<;>rfl)]
 exact Za.V (first:=[]) (args:=[]) (caps:=[_,_,_,_]) (Znb hs (hn.low h))
 ·refine⟨_,by rw[h];rfl,?_⟩;rw[j (by rw[h]<;>rfl) (by rw[h]<;>rfl) (by rw[h]<;>rfl) (by rw[h]<;>rfl) (Q:=Wa (q,if K2 x.hdrs then 0 else 6) (q,if dC (((Zbb x.hdrs).length:Int)≤f.high) then 0 else 5)) (by
   rw[hP,if_neg (by omega),if_neg (by omega),if_neg (by omega),if_pos h];cases K2 x.hdrs with
   |false=>rfl
   |true =>
    rw[if_neg (by simp),Ko (by simp)];by_cases h1:f.high<(Zbb x.hdrs).length;rw[if_pos h1,if_neg (by simp;omega)];rw[if_neg h1,if_pos (by simp;omega)])]
  exact Za.V (first:=[]) (args:=[]) (caps:=[_,_,_,_]) (Znc hs hx.node.2.2.2)
 refine⟨_,by rw[h];rfl,?_⟩;obtain⟨h1,h2⟩:=hn.sz (by omega);have ho:=hfr.ref (by omega);rw[j (by rw[h]<;>rfl) (by rw[h]<;>rfl) (by rw[h]<;>rfl) (by rw[h]<;>rfl) (Q:=Wa (q,Wt x.parts.length (Zab f.size l)) ((Ww (ZdT mis d f.of x q) (ZEa x.parts.length)).getD (q,0))) (by
  rw[hP,if_neg (by omega),if_neg (by omega),if_neg (by omega),if_neg (by omega),if_pos h,hn.eval (by omega)];rfl)]
 exact Za.V (first:=[]) (args:=[]) (caps:=[_,_,_,_,_]) (Znd hI hs hx hq h1 h2 ho mis fun i hi=>hmis _ ho i hi);refine⟨_,by rw[h];rfl,?_⟩;rw[j (n:=false) (b:=false) (h:=false) (p:=true) (by rw[h]<;>rfl) (by rw[h]<;>rfl) (by rw[h]<;>rfl) (by rw[h]<;>rfl) (Q:=Jg mis d f.of x q) (by
  rw[hP,if_neg (by omega),if_neg (by omega),if_neg (by omega),if_neg (by omega),if_neg (by omega),if_pos h]),←ZmL]
 exact Za.V (first:=[]) (args:=[]) (caps:=[_,_,_,_,_]) (Zne hs _ (t _ (hfr.ref (by omega))));refine⟨_,by rw[h];rfl,?_⟩;have z:=Wv (fun c:Yb=>dC (c.low≤WY f.tag nv)&&dC (WY f.tag nv≤c.high)) f.cases;rw[show Zi (fun c:Yb=>dC (c.low≤WY f.tag nv)&&dC (WY f.tag nv≤c.high)) f.cases=KK f (WY f.tag nv) from rfl]at z;rw[j (n:=false) (b:=false) (h:=false) (p:=true) (by rw[h]<;>rfl) (by rw[h]<;>rfl) (by rw[h]<;>rfl) (by rw[h]<;>rfl) (Q:=Wa (q,if dC (0≤KK f (WY f.tag nv)) then 0 else 9) (Jg mis d (f.cases.getD (KK f (WY f.tag nv)).toNat dE).of x q)) (by
  rw[hP,if_neg (by omega),if_neg (by omega),if_neg (by omega),if_neg (by omega),if_neg (by omega),if_neg (by omega),if_pos h];by_cases h1:KK f (WY f.tag nv)<0;rw[if_pos h1,W5 (by simp;omega),if_neg (by simp;omega)];rw[if_neg h1,Ko (by simp;omega)]),←Zy0,←ZmL]
 exact Za.V (first:=[]) (args:=[]) (caps:=[_,_,_,_,_]) (Znf hs _ (hn.tag h) _ fun h0=>t _ (hfr.cas h _ (ZC (by omega))));refine⟨_,by rw[h];rfl,?_⟩;obtain⟨h1,h2⟩:=hn.sz (by omega);have ho:=hfr.ref (by omega);rw[j (n:=false) (b:=false) (h:=false) (p:=true) (by rw[h]<;>rfl) (by rw[h]<;>rfl) (by rw[h]<;>rfl) (by rw[h]<;>rfl) (Q:=Wa (Jg mis d f.of x q) (q,Wt (len (Zn d f.of) (x.parts.getD 0 dE)) (Zab f.size l))) (by
  rw[hP,if_neg (by omega),if_neg (by omega),if_neg (by omega),if_neg (by omega),if_neg (by omega),if_neg (by omega),if_neg (by omega),if_pos h,hn.eval (by omega)];rfl),←Zwj,←ZmL]
 refine Za.V (first:=[]) (args:=[]) (caps:=[_,_,_,_,_]) (Zng hs h1 h2 ho _ _ (t _ ho) fun h0=>hlen h ?_);rw[ZmL]at h0;unfold Wa at h0;split at h0;exact h0;rename_i u;exact absurd h0 u
end
theorem ex3{st:St}{a b c:Nat}{p q r:Z1}(ha:st a=nO)(hb:(st.upd a p) b=nO)(hc:((st.upd a p).upd b q) c=nO):
  (((st.upd a p).upd b q).upd c r) a=sO p∧(((st.upd a p).upd b q).upd c r) b=sO q∧(((st.upd a p).upd b q).upd c r) c=sO r∧st.sub (((st.upd a p).upd b q).upd c r):=by
 have k1:=Zq hb;have k2:=Zq hc;have k3:=Zq k2.2;refine⟨by rw[ZD6 _ _ (Ne.symm k3.1),ZD6 _ _ (Ne.symm k1.1),ZD4],by rw[ZD6 _ _ (Ne.symm k2.1),ZD4],ZD4 _ _ _,ZED (ZED (ZEl _ ha) (ZEl _ hb)) (ZEl _ hc)⟩
theorem ZbL.mono{st A:St}{b3 b4 b5 b6 b7 bm:Nat}{d:Dfn}{m:Msg}{pth:Str}{l:List (Str×Int)}{f:Fld}{x:Val}{q:Str}(h:ZbL st b3 b4 b5 b6 b7 bm d m pth l f x q)(hs:st.sub A):ZbL A b3 b4 b5 b6 b7 bm d m pth l f x q :=
 ⟨hs _ _ h.p,hs _ _ h.f,hs _ _ h.x,hs _ _ h.q,hs _ _ h.u,hs _ _ h.m⟩
section
variable {st:St} {bm:Nat} {d:Dfn} {m:Msg} {pth:Str} {l nv:List (Str × Int)} {f:Fld} {x:Val}
theorem ZpF(hI:Q8)(hm:st bm=sO (.map (Q1 l)))(hnm:f.name≠[]∧f.name.length≤1000)(hp:pth.length≤900000)(hfr:Zk4 d f)(hv:W8 f=true)(hx:VOk x)(hn:ZgR f l nv)(mis:Msg→Val→Str→Str×Int)(len:Msg→Val→Int)(hmis:∀S s,0≤ZF d s d.msgs.length→∀i,i<x.parts.length→Za ZDW 64 [.agg d.cells,.agg (Zn d s).cells,.agg (x.parts.getD i dE).cells,.str (Yu (Yu pth f.name) (Wn x.parts i))] S (ZI (ZdT mis d s x (Yu pth f.name) i) S))(hlen:f.kind=12→(Jg mis d f.of x (Yu pth f.name)).2=0→x.parts.length=1∧Zf ZDW 41 [.agg d.cells,.agg (Zn d f.of).cells,.agg (x.parts.getD 0 dE).cells] (.int .i64 (len (Zn d f.of) (x.parts.getD 0 dE)))):
  Za ZDW 117 [.agg (WE m d pth bm),.agg f.cells,.agg x.cells] st (ZI (if Ki f.kind x then (Yu pth f.name,6) else Kx mis len d f x (Yu pth f.name) nv) st):=by
 refine Zd (cR 117 f117) fun F hF=>?_;have hjl:=Zfd pth f.name;have ae:Yu pth f.name≠[]:=by unfold Yu;split;exact hnm.1;simp
 generalize hR:(if Ki f.kind x then (Yu pth f.name,6) else Kx mis len d f x (Yu pth f.name) nv)=R at *;rw[ZEg];refine rx (nd2 @WE.eq_1 @eQ0) ?_;refine Zb ?_;refine xP 3 fun b3 h3=>?_;refine xP 4 fun b4 h4=>?_;refine xP 5 fun b5 h5=>?_;obtain⟨g3,g4,g5,u⟩:=ex3 (r:=.cells [.str x.name,.int .i64 x.int,ZL x.bytes,ZX x.hdrs,ZW x.parts]) h3 h4 h5;generalize ((st.upd b3 _).upd b4 _).upd b5 _=S at *;have gm:=u _ _ hm;refine rh ?_;refine ZjF ?_;simp only[Eqs,reduceCtorEq,ZD2,reduceIte,ZD0,ZD3,ZD1,ZjN,Znm,g3,g4];refine ZsE rfl rfl rfl rfl (by trivial) (by rfl) (by decide) fun bj ad=>ZjF ?_;simp only[Eqs,reduceCtorEq,ZD2,reduceIte,ZD0,ZD3,ZD1,ZjN,Znm];refine Zgb rfl rfl rfl rfl rfl (by trivial) (by trivial) (by exact(ZpE (ZD4 _ _ _) hnm.1 (by omega) (by omega))) ?_ ?_;rintro dd T ⟨hr,o,rfl⟩;cases hr;rw[ZEj];have hsj:=ZEl o ad;refine gR0 ?_;refine kl (S) [(3,.d (.ptr b3 0)),(4,.d (.ptr b4 0)),(5,.d (.ptr b5 0)),(6,.loc 6 0)] [(6,[.str (Yu pth f.name)])] (Qj _) (Zaj _) ?_;refine Zb ?_;refine xP 6 fun b6 h6=>?_;refine rg ?_;refine Zb ?_;refine xP 7 fun b7 h7=>?_;have n:=ZEl (.cells [.str (Yu pth f.name)]) h6;have j:=ZEl (.cells [.fn (.func 152) [] [.ptr b5 0,.ptr b6 0]]) h7;have k7:=Zq h7;have hs:ZbL ((S.upd b6 (.cells [.str (Yu pth f.name)])).upd b7 (.cells [.fn (.func 152) [] [.ptr b5 0,.ptr b6 0]])) b3 b4 b5 b6 b7 bm d m pth l f x (Yu pth f.name) :=
  ⟨j _ _ (n _ _ g3),j _ _ (n _ _ g4),j _ _ (n _ _ g5),j _ _ (ZD4 _ _ _),ZD4 _ _ _,j _ _ (n _ _ gm)⟩
 have ab:=ZED u (ZED n j);refine rg ?_;generalize ((S.upd b6 _).upd b7 _)=T at *;refine rh ?_;refine Zl ?_;simp only[Eqs,reduceCtorEq,ZD2,reduceIte,ZD0,ZD3,ZD1,JO,Int.reduceEq,decide_false,ZD4,ZEj,Yo,Yp];intro b hb;have z:=ZEl (.map (KJ W9 id (ZpU b3 b4 b5 b6 b7))) hb;have ac:=hs.mono z;obtain⟨fn,af,t⟩:=ZyF hI ac hfr hv hx ⟨ae,by omega⟩ hn mis len (hmis _) hlen;rw[hR]at t;have e1:=YR (vD:=id) Zha f.kind (ZpU b3 b4 b5 b6 b7);have e3:=Y1 Zha f.kind;simp only[show W9 f.kind=D.int .i64 f.kind from rfl]at e1 e3;rw[af]at e1;refine kl ((T.upd b (.map (KJ W9 id (ZpU b3 b4 b5 b6 b7))))) [(4,.d (.ptr b4 0)),(9,.d (.map b))] [] (Qj _) (Zaj _) ?_;refine rx (nd2 @ac.f (nd2 @eQ0 (nd2 @ZD4 (nd2 @e1 (nd2 @e3 (nd2 @ZD4 (nd2 @ZEj (nd2 @Yo @Yp)))))))) ?_;rw[show id fn=fn from rfl];refine vV (t) ?_ ?_;refine mfK fun h0=>?_;refine gR0 ?_;exact hF.fin (.tup []) st rfl trivial (ZDZ _) (ZED ab z) (ZI.ok h0);exact mfP fun h0=>hF.pan st (ZED ab z) (ZI.bad h0 rfl);rintro dd T ⟨hr,_⟩;cases hr
end
theorem Zui(d:Dfn)(n:Nat)(m:Msg)(v:Val)(p:Str):Yd d (n+1) m v p =
  Wa (p,if (((dC (v.name=m.name)&&dC (v.int=0))&&dC ((v.bytes.length:Int)=0))&&dC ((v.hdrs.length:Int)=0))&&WC (vfs m.fields) v.parts then 0 else 6) ((Ww (ZdB d n m v p) (ZEa v.parts.length)).getD ([],0)):=by
 rw[ZiE,show Za8 m v.parts=WC (vfs m.fields) v.parts from rfl];have e:∀n:Nat,dC ((n:Int)=0)=dC (n=0):=fun n=>by simp
 rw[e,e];unfold Wa;generalize dC (v.name=m.name)=a1;generalize dC (v.int=0)=a2;generalize dC (v.bytes.length=0)=a3;generalize dC (v.hdrs.length=0)=a4;generalize WC (vfs m.fields) v.parts=a5;cases a1<;>cases a2<;>cases a3<;>cases a4<;>cases a5<;>rfl
theorem Zof(d:Dfn)(fu:Nat)(m:Msg)(hm0:0<m.fields.length)(hm:m.fields.length≤1000)(v:Val)(p:Str)(st:St)(hpart:Za8 m v.parts=true→∀S b,S b=sO (.map (Q1 (Q6 m v.parts)))→∀k,k<v.parts.length→(∀j,j<k→(ZdB d fu m v p j).2=0) →
   Za ZDW 117 [.agg (WE m d p b),.agg ((vfs m.fields).getD k dE).cells,.agg (v.parts.getD k dE).cells] S (ZI (ZdB d fu m v p k) S)):
  Za ZDW 64 [.agg d.cells,.agg m.cells,.agg v.cells,.str p] st (ZI (Yd d (fu+1) m v p) st):=by
 refine Zd (cR 64 f64) fun F hF=>?_;have ag:=Zck m hm0 (by omega);have ad:=ZgE (vfs m.fields) v.parts;have aj:=fun hr=>Zdl m hm0 hm v.parts hr st;have hvl:(vfs m.fields).length≤m.fields.length:=List.length_filter_le ..;rw[Zui,show Za8 m v.parts=WC (vfs m.fields) v.parts from rfl]at *;rw[ZEg];refine rx (nd2 @eQ2 @eQ3) ?_;refine rg ?_;refine clD (ag) ?_;refine rx (nd2 @Zad @ZiA) ?_;refine cG (ad) ?_;generalize hc:((((dC (v.name=m.name)&&dC (v.int=0))&&dC ((v.bytes.length:Int)=0))&&dC ((v.hdrs.length:Int)=0))&&WC (vfs m.fields) v.parts)=ac at *;have c9:=Kb ac p 6 (by decide) st;refine cV (c9) ?_ ?_
 ·refine mfK fun h0=>?_;rw[Ko h0]at hF;have hr:WC (vfs m.fields) v.parts=true:=by
   cases ac with
   |false=>simp at h0
   |true=>simp only[ZD5]at hc;exact hc.2
  have ai:=hpart hr;have z:(vfs m.fields).length=v.parts.length:=by unfold WC at hr;rw[decide_eq_true_eq]at hr;simpa using congrArg List.length hr
  refine gR0 ?_;refine rg ?_;refine cV (aj z) ?_ ?_;rintro dd S ⟨b,hb,hd,rfl⟩;cases hd;refine gR0 ?_;refine rx @ZdA ?_;have ab:=ZEl (.map (Q1 (Q6 m v.parts))) hb;have af:=ZD4 st b (.map (Q1 (Q6 m v.parts)));generalize st.upd b (.map (Q1 (Q6 m v.parts)))=S at *;refine Zc (fr ((vfs m.fields).length) (fun i Q=>i≤(vfs m.fields).length→(∀j,j<i→(ZdB d fu m v p j).2=0)→Q [(6,.loc 6 0),(8,.loc 8 0),(54,.d (Zm (vfs m.fields))),(55,.d (.int .i64 (vfs m.fields).length)),(56,.d (.int .i64 i))] [(6,[.str v.name,.int .i64 v.int,ZL v.bytes,ZX v.hdrs,ZW v.parts]),(8,WE m d p b)] S) (fun n u=>?_) fun ah=>?_);intro i hn hi t;refine rg ?_;refine Zb (Zu rfl trivial (fun g1=>?_) (fun g1=>?_));simp at g1;have hp:=ai S b af i (by omega) t;have al:=ZoP (g:=ZdB d fu m v p) (show i<v.parts.length by omega) t;have ae:=fun h=>Ye (q:=fun j=>(ZdB d fu m v p j).2=0) t h;have ak:=Qq (l:=v.parts) (i:=i) (by omega);generalize ZdB d fu m v p i=R at *;rw[ZEg]at hp;generalize v.parts.getD i dE=y at *;generalize hf:(vfs m.fields).getD i dE=f at *;refine xA (nd2 @atF (nd2 @hf (nd2 @J5 @ZcM))) ?_;refine xA (nd2 @WE.eq_1 (nd2 @J5 (nd2 @ZcM (nd2 @atV @ak)))) ?_;refine cV0 (hp) ?_ ?_;refine mfK fun h2=>?_;refine gR0 ?_;refine gA ?_;refine Zg ?_;exact u (((vfs m.fields).length)-(i+1)) (by omega) (i+1) rfl (by omega) (ae h2);exact mfP fun h2=>hF.pan st ab (ZI.bad h2 (by rw[al h2];rfl));simp at g1;obtain rfl:i=(vfs m.fields).length:=by omega
  rw[z]at t;rw[Zmq t]at hF;refine ZQ rfl ?_;exact hF.fin (.tup []) st rfl trivial (ZDZ _) ab (ZI.ok rfl);exact ah _ 0 rfl (by omega) (by intro j hj;omega);rintro dd S ⟨b,_,hd,_⟩;cases hd
 exact mfP fun h0=>hF.pan st (ZDY _) (ZI.bad h0 (W5 h0))
theorem WA.pos{d:Dfn}(h:WA d){j:Nat}(hj:j<d.msgs.length):0<(d.msgs.getD j dE).fields.length:=by
 have h1:=h.flaw j hj;unfold WK at h1;split at h1;· simp at h1
 split at h1;· simp at h1
 split at h1;· simp at h1
 rename_i hc;simp only[ZEk,decide_eq_true_eq,not_or,Nat.not_lt]at hc;omega
theorem ZbH.low{d:Dfn}{j i:Nat}{m:Msg}{f:Fld}(h:ZbH d j i m f)(h5:f.kind=5):0≤f.low∧f.low≤255:=by
 have hk:=h.ks;unfold Zaw at hk;simp only[h5,Int.reduceEq,if_true,if_false]at hk;split at hk;omega;rename_i hp;simp only[ZEk,decide_eq_true_eq]at hp;omega
theorem ZrC{d:Dfn}(hd:WA d){n:Nat}{s:Str}{y:Val}{q:Str}(hy:VOk y)(h:(Yd d n (Zn d s) y q).2=0):
  Zf ZDW 41 [.agg d.cells,.agg (Zn d s).cells,.agg y.cells] (.int .i64 (lenS d n (Zn d s) y)) :=
 Zcj d hd.dok n _ y (hd.dok.of s) hy.ok hy.wt (Zg2 hd.dref n _ y q (hd.dref.of s) hy.ok h)
theorem Zci(hI:Q8){d:Dfn}(hd:WA d):∀(n im:Nat) (v:Val) (p:Str) (st:St),im<d.msgs.length→VOk v→ZN v≤n→p.length+10200*n≤900000 →
  Za ZDW 64 [.agg d.cells,.agg (d.msgs.getD im dE).cells,.agg v.cells,.str p] st (ZI (Yd d n (d.msgs.getD im dE) v p) st)
 |0,_,v,_,_,_,_,hh,_=>by have:=K7 v;omega
 |n+1,im,v,p,st,him,hv,hh,hp=>by
  have u:=hd.msg him;have hm40:=u.many;refine Zof d n _ (hd.pos him) (by omega) v p st fun hr S b hb k hk ak=>?_;have hlen:(vfs (d.msgs.getD im dE).fields).length=v.parts.length:=by unfold Za8 at hr;rw[decide_eq_true_eq]at hr;simpa using congrArg List.length hr
  obtain⟨i,hi,ao,am,ag⟩:=JZ (l:=(d.msgs.getD im dE).fields) (k:=k) (by omega);have ab:=u.at_ hi;have av:=ab.fref (hd.fld him hi);have al:v.parts.getD k dE∈v.parts:=ZC hk;have z:=hv.part al;have ah:=ZkG ab.nm;obtain⟨ai,ap⟩:=ZuG u.nmU hr hk;rw[ap,ag]at ai;have hxh:ZN (v.parts.getD k dE)≤n:=by have h1:=ZfQ al;have h2:=K7 v;omega
  have hG:=ZdB.eq_1 d n (d.msgs.getD im dE) v p k;rw[ai,ag]at hG;have ae:=fun a ha hn=>ZzQ u (n:=n) (v:=v) (p:=p) hi am ak (a:=a) ha hn;have af:∀a,a<i→YF ((d.msgs.getD im dE).fields.getD a dE)=true→WY ((d.msgs.getD im dE).fields.getD a dE).name (ZaN (d.msgs.getD im dE) v.parts)=JG (d.msgs.getD im dE).fields v.parts a:=fun a ha hn =>
   ZgK (by omega) u.nmU hn fun aq=>by have:=Zkb ha hi aq;omega
  have ad:∀a,a<i→YF ((d.msgs.getD im dE).fields.getD a dE)=true→Zr ((d.msgs.getD im dE).fields.getD a dE).name (Q6 (d.msgs.getD im dE) v.parts)=sO (JG (d.msgs.getD im dE).fields v.parts a):=fun a ha hn =>
   ZsT u.nmU v.parts (by omega) hn
  have au:ZgR ((d.msgs.getD im dE).fields.getD i dE) (Q6 (d.msgs.getD im dE) v.parts) (ZaN (d.msgs.getD im dE) v.parts):=by refine⟨fun hz=>?_,fun h9=>?_,ab.low⟩;obtain⟨h1,h2⟩:=ab.size hi hz;refine⟨h1,fun t ht=>?_⟩;obtain⟨a,ha,ac,hn⟩:=h2 t ht;exact⟨_,by rw[←ac];exact ad a ha hn,(ae a ha hn).1,(ae a ha hn).2,by rw[←ac];exact af a ha hn⟩;obtain⟨a,ha,ac,hn⟩:=ab.tag hi h9;rw[←ac,ad a ha hn,af a ha hn];rfl
  have hq:=Zfd p ((d.msgs.getD im dE).fields.getD i dE).name;rw[ag,hG];generalize v.parts.getD k dE=x at *;refine ZpF hI hb ⟨fun e=>by rw[e]at ah;simp at ah,by omega⟩ (by omega) av ao z au (Yd d n) (lenS d n) (fun T s hs j hj=>?_) (fun h12 h0=>?_);have ar:=Zau hs;have aj:x.parts.getD j dE∈x.parts:=ZC hj;have h1:=Zfd (Yu p ((d.msgs.getD im dE).fields.getD i dE).name) (Wn x.parts j);have h2:=Zjq z.few z.name hj;have h3:=ZfQ aj;have h4:=K7 x;exact Zci hI hd n (ixS d s) _ _ T ar.2 (z.part aj) (by omega) (by omega);obtain⟨h1,h2⟩:=Zs6 h0;exact⟨h1,ZrC hd (z.part (ZC (by omega))) h2⟩
theorem Zjk{z:Nat}{st:St}:Ju ZDW 63 [.ptr z 0] nO st fun _ S=>S=st:=by
 refine ZbI (cR 63 f63) rfl (by simp) fun F hF=>?_;refine rg ?_;refine ZfC hF rfl rfl ?_;refine gR0 ?_;refine rg ?_;refine cd (fun h=>?_) (fun h=>?_);simp at h;refine Zy ?_;exact hF.fin (ZDY _) rfl
theorem Zjl{z:Nat}{st:St}{c:List D}(hc:c.length=2)(q:Str)(no:Int)(hn:inR .i64 no)(hq:q.length≤big)(hz:st z=sO (.cells c)):
  Ju ZDW 63 [.ptr z 0] (sO (mfD q no)) st fun b S=>b=true∧S=st.upd z (.cells [.str q,.int .i64 no]):=by
 obtain⟨c1,c2,rfl⟩:∃c1 c2,c=[c1,c2]:=by
  match c,hc with
  | [c1,c2],_=>exact⟨c1,c2,rfl⟩
 refine ZbI (cR 63 f63) rfl (by rintro d ⟨⟩;exact⟨hq,hn,trivial⟩) fun F hF=>?_;refine rg ?_;refine ZlW hF rfl rfl fun F2 i=>?_;refine gR0 ?_;refine rx @mfD.eq_1 ?_;refine cd (fun h=>?_) (fun h=>?_);refine rx @mfD.eq_1 ?_;refine rg ?_;refine cd (fun h5=>?_) (fun h5=>?_);simp at h5;refine rx @hz ?_;exact i.fin (ZDY _) ⟨rfl,rfl⟩;simp[mfD]at h
def Zg6(r:Str×Int):D:=.agg [.str (if r.2=0 then [] else r.1),.int .i64 r.2]
theorem ZcI(d:Dfn)(m:Msg)(v:Val)(R:Str×Int)(st:St)(hfit:∀S,Za ZDW 64 [.agg d.cells,.agg m.cells,.agg v.cells,.str []] S (ZI R S)):
  Za ZDW 25 [.agg d.cells,.agg m.cells,.agg v.cells] st fun r S=>S=st∧r=.ret (Zg6 R):=by
 refine Zd (cR 25 f25) fun F hF=>?_;rw[ZEg]at hfit⊢;have i:=Zg6.eq_1 R;generalize Zg6 R=W at *;refine rx (nd2 @eQ2 @eQ3) ?_;refine Zb ?_;refine xP 6 fun z hz=>?_;refine rg ?_;refine Zk2 (by obtain⟨_,_,_,_,_,_,rfl⟩:=hF;rfl) rfl rfl rfl rfl rfl rfl trivial trivial ?_ ?_ ?_;trivial;exact⟨rfl,trivial⟩;have j:=hF.defer 63 [] [.ptr z 0];clear hF;refine gR0 ?_;generalize F.defer 63 [] [.ptr z 0]=F at j⊢;refine rg ?_;refine cV (hfit _) ?_ ?_;refine mfK fun h0=>?_;rw[if_pos h0,h0]at i;refine gR0 ?_;refine rx (nd2 @ZD4 @ZEj) ?_;refine j.retU ⟨trivial,⟨rfl,trivial⟩,Zbc Zjk ?_⟩;rintro b S3 rfl;rw[ite_self];have g3:=ZD4 st z (.cells [.str [],.int .i64 0]);refine⟨_,[.agg [.str [],.int .i64 0]],_,st,by simp only[Eqs,reduceCtorEq,ZD2,reduceIte,ZD0,ZD3,ZD1,Yt,WV,g3];rfl,by trivial,ZDZ _,ZEl _ hz,rfl,by rw[i];rfl⟩;refine mfP fun h0=>?_;rw[if_neg h0]at i;refine ZoD fun hw=>?_;have n:=DWf.agg_inv (DWf.iface_inv hw);have h1:inR .i64 R.2:=(n _ (by simp)).int_inv;have h2:=(n (.str R.1) (by simp)).str_inv;refine j.panU ⟨trivial,⟨rfl,trivial⟩,Zbc (Zjl rfl R.1 R.2 h1 h2 (ZD4 _ _ _)) ?_⟩;rintro b S2 ⟨rfl,rfl⟩;have g3:=ZD4 (st.upd z (.cells [.str [],.int .i64 0])) z (.cells [.str R.1,.int .i64 R.2]);refine⟨_,[.agg [.str R.1,.int .i64 R.2]],_,st,by simp only[Eqs,reduceCtorEq,ZD2,reduceIte,ZD0,ZD3,ZD1,Yt,WV,g3];rfl,by trivial,ZDZ _,?_,rfl,by rw[i];rfl⟩;rw[ZEj];exact ZEl _ hz
def JA(d:Dfn)(s:Str)(v:Val):(Str×Int)×Int:=if Kq d&&Kp v then (if ZF d s d.msgs.length<0 then (([],0),9) else ((if (Yd d 51 (Zn d s) v []).2=0 then [] else (Yd d 51 (Zn d s) v []).1,(Yd d 51 (Zn d s) v []).2),(Yd d 51 (Zn d s) v []).2)) else (([],0),2)
theorem Zdu{v:Val}(h:Kp v=true)(hs:Z3 v=true→wtN v≤5000∧ZN v≤51):VOk v∧ZN v≤51:=by
 have h1:Z3 v=true:=by unfold Kp at h;simp only[ZD5]at h;simp_all
 exact⟨⟨h1,(hs h1).1⟩,(hs h1).2⟩
theorem ZdD(hI:Q8)(d:Dfn)(s:Str)(v:Val)(hs:Z3 v=true→wtN v≤5000∧ZN v≤51):
  Zf ZDW 14 [.agg d.cells,.str s,.agg v.cells] (.tup [.agg [.str (JA d s v).1.1,.int .i64 (JA d s v).1.2],.int .i64 (JA d s v).2]):=by
 refine Zo (cR 14 f14) fun F st i=>?_;have hA:=ZkV d s v;have hS:=JA.eq_1 d s v;have hT:=atR.eq_1 d s v;generalize JA d s v=W at *;generalize atR d s v=X at *;cases ha:Kq d&&Kp v with
 |false =>rw[ha,if_neg (by simp)]at hS hT;subst hS;subst hT;rw[ZEg]at *;refine rx @eQ2 ?_;refine rg ?_;refine cl (hA) ?_;refine rg ?_;refine i1 ?_;refine rg ?_;refine rt i ?_;rfl
 |true =>
  rw[ha,if_pos rfl]at hS hT;by_cases hf:ZF d s d.msgs.length<0;rw[if_pos hf]at hS hT;subst hS;subst hT;rw[ZEg]at *;refine rx @eQ2 ?_;refine rg ?_;refine cl (hA) ?_;refine rg ?_;refine i1 ?_;refine rg ?_;refine rt i ?_;rfl;rw[if_neg hf]at hS hT;subst hT;simp only[ZD5]at ha;have j:=Zau (d:=d) (s:=s) (by omega);obtain⟨hv,hh⟩:=Zdu ha.2 hs;have hF:Zf ZDW 25 [.agg d.cells,.agg (Zn d s).cells,.agg v.cells] (Zg6 (Yd d 51 (Zn d s) v [])):=fun st =>
   (ZcI d (Zn d s) v (Yd d 51 (Zn d s) v []) st fun S=>Zci hI (JP ha.1) 51 (ixS d s) v [] S j.2 hv hh (by simp)).mono fun r S ⟨h1,h2⟩=>⟨h2,h1⟩
  generalize Yd d 51 (Zn d s) v []=R at *;unfold Zg6 at hF;generalize (if R.2=0 then [] else R.1)=q at *;subst hS;generalize Zn d s=m at *;rw[ZEg]at *;refine rx @eQ2 ?_;refine rg ?_;refine cX @eQ3 (hA) ?_;refine rg ?_;refine iG ?_;refine cl (hF) ?_;refine rg ?_;refine rt i ?_;rfl
theorem Zyz{d:Dfn}{s:Str}{v:Val}(h:(JA d s v).2=0):WA d∧Kp v=true∧0≤ZF d s d.msgs.length∧(Yd d 51 (Zn d s) v []).2=0:=by
 unfold JA at h;split at h;rename_i ha;rw[ZD5]at ha;split at h;simp at h;exact⟨JP ha.1,ha.2,by omega,h⟩;simp at h
def Zn2(d:Dfn)(s:Str)(v:Val):Int:=if (JA d s v).2=0 then lenS d 51 (Zn d s) v else 0
theorem Zm6(hI:Q8)(d:Dfn)(s:Str)(v:Val)(hs:Z3 v=true→wtN v≤5000∧ZN v≤51):
  Zf ZDW 15 [.agg d.cells,.str s,.agg v.cells] (.tup [.int .i64 (Zn2 d s v),.int .i64 (JA d s v).2]):=by
 refine Zo (cR 15 f15) fun F st i=>?_;have hf:=ZdD hI d s v hs;have hO:=Zyz (d:=d) (s:=s) (v:=v);have hL:=Zn2.eq_1 d s v;generalize JA d s v=W at *;generalize Zn2 d s v=N at *;obtain⟨⟨q,c⟩,e⟩:=W;simp only at hf hO hL i;have z:=Y5 d s;have u:=fun h1 h2 h3=>ZrC (d:=d) (n:=51) (s:=s) (y:=v) (q:=[]) h1 h2 h3;by_cases he:e=0;obtain⟨hd,hv,ab,hm⟩:=hO he;have j:=u hd (Zdu hv hs).1 hm;have t:=z ab;rw[show d.msgs.getD (ixS d s) dE=Zn d s from rfl]at t;rw[if_pos he]at hL;rw[←hL]at j;subst he;rw[ZEg]at *;refine rx @eQ2 ?_;refine rg ?_;refine cl (hf) ?_;refine rg ?_;refine iG ?_;refine clD (t) ?_;refine clD (j) ?_;refine rt i ?_;rfl;rw[if_neg he]at hL;subst hL;rw[ZEg]at *;refine rx @eQ2 ?_;refine rg ?_;refine cl (hf) ?_;refine rg ?_;refine Zu rfl trivial (fun _=>?_) (fun h=>by simp at h;exact absurd h he);refine rg ?_;refine rt i ?_;rfl
theorem Zrb(e:Int):Zf ZDW 13 [.int .i64 e] (.int .i64 e):=by
 refine Zo (cR 13 f13) fun F st i=>?_;refine gG ?_;refine ro i ?_;rfl
def ZgW(f:Fld)(nm:Str)(to:Int):Bool:=((dC (f.name=nm)&&YF f)&&dC (f.low≤to))&&dC (to≤f.high)
def Jl(l:List Fld)(nm:Str)(to:Int)(P:List Val):List Val:=(ZEa P.length).map fun j=>if ZgW (l.getD j dE) nm to then (P.getD j dE).setI to else P.getD j dE
theorem ZeL{l:List Fld}{nm:Str}{to:Int}{P:List Val}:(Jl l nm to P).length=P.length:=by simp[Jl]
theorem Zhs{l:List Fld}{nm:Str}{to:Int}{P:List Val}{j:Nat}(h:j<P.length):(Jl l nm to P).getD j dE=if ZgW (l.getD j dE) nm to then (P.getD j dE).setI to else P.getD j dE:=by
 simp[Jl,ZEb,h]
def Val.setPs(v:Val)(P:List Val):Val:=.mk v.name v.int v.bytes v.hdrs P
theorem MN.of{T S:St}{v:Val}{c:List D}{fp:List Nat}{x cap:Nat}{row row':Nat→List D}{f:Nat→List Nat}{X:List D}(h:MN T v c fp x cap row f X){P:List Val}(hP:P.length=v.parts.length)(hb:S x=sO (.cells (Yx row' v.parts.length++X)))(hk:∀j,j<v.parts.length→MT S (P.getD j dE) (row' j) (f j)):MN S (v.setPs P) c fp x cap row' f X:=by
 have hl:(v.setPs P).parts.length=v.parts.length:=hP;exact⟨by rw[hl];exact h.c,by rw[hl];exact hb,by rw[hl];exact h.le,by rw[hl];exact hk,by rw[hl];exact h.n,by rw[hl];exact h.d,by rw[hl];exact h.fp⟩
theorem ZeM(l:List Fld)(nm:Str)(to:Int){T:St}{v:Val}{c:List D}{fp:List Nat}{x cap:Nat}{f:Nat→List Nat}{X:List D}(hM:MN T v c fp x cap row f X)(hl:l.length=v.parts.length)(hb:v.parts.length≤1000000){z5 z6:Nat}(h5:T z5=sO (.cells c))(h6:T z6=sO (.cells [Zm l]))(hx:z5≠x∧z6≠x):
  Za ZDW 55 [.str nm,.int .i64 to,.ptr z6 0,.ptr z5 0] T fun r S=>r=.ret (.tup [])∧(∃row',(∀j,j<v.parts.length→row' j=row j∨row' j=Zt (row j) 1 [.int .i64 to])∧MN S (v.setPs (Jl l nm to v.parts)) c fp x cap row' f X)∧∀y,y≠x→S y=T y:=by
 have ai:∀j,j<v.parts.length→(row j).length=5:=fun j hj=>(hM.kid j hj).len;have hc:=hM.c;refine JT (cR 55 f55) fun al F hF=>?_;clear al;refine rx (nd2 @h6 @ZdA) ?_;refine Zc (fr (l.length) (fun i Q=>∀row' A,A x=sO (.cells (Yx row' v.parts.length++X))→(∀j,j<v.parts.length→row' j=if dC (j<i)&&ZgW (l.getD j dE) nm to then Zt (row j) 1 [.int .i64 to] else row j)→(∀y,y≠x→A y=T y)→i≤l.length→Q [(0,.d (.str nm)),(1,.d (.int .i64 to)),(3,.d (.ptr z5 0)),(8,.d (Zm l)),(9,.d (.int .i64 l.length)),(10,.d (.int .i64 i))] [] A) (fun n z=>?_) fun ak=>?_);intro i hn row' A hA t u hi;refine rg ?_;refine Zb (Zu rfl trivial (fun hd=>?_) (fun hd=>?_));simp only[decide_eq_true_eq]at hd;have hi':i<l.length:=by omega
 have ad:∀j,j<v.parts.length→(row' j).length=5:=fun j hj=>by rw[t j hj];split;simp[Zt,ai j hj];exact ai j hj
 have aj:=Qd ad;have ab:=Zir X 1 [.int .i64 to] (by simp) ad (show i<v.parts.length by omega);have af:=ZgW.eq_1 (l.getD i dE) nm to;have am:A z5=sO (.cells [.str v.name,.int .i64 v.int,ZL v.bytes,ZX v.hdrs,.msl x 0 v.parts.length cap 5]):=by rw[u _ hx.1,h5,hc]
 unfold Zt at ab;generalize ag:l.getD i dE=fd at *;refine xA (nd2 @atF (nd2 @ag (nd2 @J5 @ZcM))) ?_;refine rx @eQ0 ?_;refine cG (Zbs fd) ?_;refine cd (fun h3=>?_) (fun h3=>?_);have ah:ZgW fd nm to=true:=by rw[af];exact h3
 refine rx (nd2 @am @hA) ?_;refine⟨by omega,by omega,by rw[ZD8,aj];omega,?_⟩;simp only[ZEf,List.length_nil,Nat.zero_add]at ab;rw[ab];refine gA ?_;refine Zg ?_;exact z ((l.length)-(i+1)) (by omega) (i+1) rfl _ _ (ZD4 _ _ _) (fun j hj=>by
  by_cases ac:j=i;subst ac;rw[if_pos rfl,t j hj,ag,ah];simp[Zt];simp only[if_neg ac,show dC (j<i+1)=dC (j<i) from decide_eq_decide.2 (by omega)];exact t j hj) (fun y hy=>by rw[ZD6 _ _ hy];exact u y hy) (by omega)
 have ah:ZgW fd nm to=false:=by rw[af];exact h3
 refine gA ?_;refine Zg ?_;exact z ((l.length)-(i+1)) (by omega) (i+1) rfl row' A hA (fun j hj=>by
  rw[t j hj];by_cases ac:j=i;subst ac;rw[ag,ah];simp;simp only[show dC (j<i+1)=dC (j<i) from decide_eq_decide.2 (by omega)]) u (by omega)
 simp only[decide_eq_false_iff_not]at hd;obtain rfl:i=l.length:=by omega
 refine ZQ rfl ?_;refine hF.fin (.tup []) A rfl trivial (ZDZ _) (ZDY _) ⟨rfl,⟨row',fun j hj=>by rw[t j hj];split;exact .inr rfl;exact .inl rfl,hM.of ZeL hA fun j hj=>?_⟩,u⟩;rw[Zhs hj,t j hj];have ae:=(hM.kid j hj).mono (T':=A) fun y hy=>u y fun e=>hM.n j hj (e▸hy);simp only[show dC (j<l.length)=true from decide_eq_true (by omega),ZEm];split;exact ae.setI to;exact ae;exact ak _ 0 rfl row T hM.b (fun j hj=>by simp) (fun y hy=>rfl) (by omega)
theorem Zm7(l:List Fld)(nm:Str)(to:Int){T:St}{v:Val}{c:List D}{fp:List Nat}{x cap:Nat}{f:Nat→List Nat}{X:List D}(hM:MN T v c fp x cap row f X)(hl:l.length=v.parts.length)(hb:v.parts.length≤1000000){z5 z6:Nat}(h5:T z5=sO (.cells c))(h6:T z6=sO (.cells [Zm l]))(hx:z5≠x∧z6≠x):
  Za ZDW 55 [.str nm,.int .i64 to,.ptr z6 0,.ptr z5 0] T fun r S=>r=.ret (.tup [])∧(∃row',MN S (v.setPs (Jl l nm to v.parts)) c fp x cap row' f X)∧∀y,y≠x→S y=T y :=
 (ZeM l nm to hM hl hb h5 h6 hx).mono fun r S ⟨h1,⟨row',_,h2⟩,h3⟩=>⟨h1,⟨row',h2⟩,h3⟩
def K4(l:List Fld)(s:Wi)(n:Int)(P:List Val):List Val:=match s.terms with
 | [t]=>match ZeT t s.base n with
  |some to=>Jl l t.field to P
  |none=>P
 |_=>P
theorem ZAq{L:DL.Loc}(l:List ZO):qv L s .lenL [.d (Yl l)]=sO (True,.d (.int .i64 l.length)):=rfl
theorem ZAx{L:DL.Loc}(l:List ZO)(i:Int):qv L s (.iaddr 2) [.d (Yl l),.d (.int .i64 i)]=sO (0≤i∧i<l.length,.d (.ep (l.getD i.toNat dE).cells 0)):=rfl
theorem JK(v:Val):v.setPs v.parts=v:=by cases v;rfl
theorem Zch(l:List Fld)(s:Wi)(hs:ZU s=true)(n:Int){T:St}{v:Val}{c:List D}{fp:List Nat}{x cap:Nat}{f:Nat→List Nat}{X:List D}(hM:MN T v c fp x cap row f X)(hl:l.length=v.parts.length)(hb:v.parts.length≤1000000){z5 z6 z7:Nat}(h5:T z5=sO (.cells c))(h6:T z6=sO (.cells [Zm l]))(h7:T z7=sO (.cells [.fn (.func 55) [] [.ptr z6 0,.ptr z5 0]]))(hx:z5≠x∧z6≠x):
  Za ZDW 57 [.agg s.cells,.int .i64 n,.ptr z7 0] T fun r S=>r=.ret (.tup [])∧(∃row',MN S (v.setPs (K4 l s n v.parts)) c fp x cap row' f X)∧∀y,y≠x→S y=T y:=by
 have i:K4 l s n v.parts=v.parts→∃row',MN T (v.setPs (K4 l s n v.parts)) c fp x cap row' f X:=fun h=>⟨row,by rw[h,JK];exact hM⟩;refine Zd (cR 57 f57) fun F hF=>?_;refine rx @eQ4 ?_;refine rx @ZAq ?_;refine cd (fun h1=>?_) (fun h1=>?_);simp only[Bool.not_eq_true',decide_eq_false_iff_not]at h1;refine hF.ret (.tup []) T rfl trivial (ZDZ _) (ZDY _) ⟨rfl,i ?_,fun _ _=>rfl⟩;unfold K4;split;rename_i h2;rw[h2]at h1;simp at h1;rfl;simp only[Bool.not_eq_false',decide_eq_true_eq]at h1;obtain⟨t,ht⟩:∃t,s.terms=[t]:=by
  match hst:s.terms,h1 with
  | [t],_=>exact⟨t,rfl⟩
  | [],h1=>simp at h1
  |_::_::_,h1=>simp at h1;omega
 have u:s.terms.getD 0 dE=t:=by rw[ht];rfl
 have z:s.terms.length=1:=by rw[ht];rfl
 refine xA (nd2 @ZAx (nd2 @u (nd2 @z @ZO.cells.eq_1))) ?_;refine rx @eQ4 ?_;refine cV (ZpG s hs t ht n T) ?_ ?_
 ·rintro d S ⟨hd,hS⟩;obtain rfl:=hS.symm;cases hd;have hP:K4 l s n v.parts=match ZeT t s.base n with
   |some to=>Jl l t.field to v.parts
   |none=>v.parts:=by unfold K4;rw[ht]
  cases j:ZeT t s.base n with
  |none =>rw[j]at hP;rw[show ZrP nO=.tup [.int .i64 0,.int .i64 9] from rfl];refine gR0 ?_;refine gI ?_;refine Zy ?_;exact hF.fin (.tup []) T rfl trivial (ZDZ _) (ZDY _) ⟨rfl,i hP,fun _ _=>rfl⟩
  |some to =>rw[j]at hP;rw[show ZrP (sO to)=.tup [.int .i64 to,.int .i64 0] from rfl];refine gR0 ?_;refine rg ?_;refine i1 ?_;refine rx @h7 ?_;refine vV ((Zm7 l t.field to hM hl hb h5 h6 hx).V (first:=[]) (caps:=[_,_])) ?_ ?_;rintro d S ⟨hd,h8,h9⟩;cases hd;refine gR0 ?_;exact hF.fin (.tup []) S rfl trivial (ZDZ _) (ZDY _) ⟨rfl,by rw[hP];exact h8,h9⟩;rintro d S ⟨hd,_⟩;cases hd
 rintro d S ⟨hd,_⟩;cases hd
theorem Zm8(c:Yb){T:St}{z y k cap:Nat}{nm:Str}(hz:T z=sO (.cells [.msl y 0 k cap 5]))(hk:0<k)(hy:T y=sO (.cells (.str nm::ds)))(hl:4≤ds.length):ZP ZDW 60 [.agg c.cells,.ptr z 0] T (.bool (dC (c.of=nm))) T:=by
 refine ZG (cR 60 f60) fun j F i=>?_;clear j;refine rx @Yb.cells.eq_1 ?_;refine xA (nd2 @hz (nd2 @hy @Nat.zero_mul)) ?_;exact i rfl (by trivial) (ZDZ _) (ZDY _)
def Qp(rec:Msg→Val→Val)(d:Dfn)(f:Fld)(x:Val):Val :=
 if f.kind=7∨f.kind=8∨f.kind=12 then x.setPs (x.parts.map fun y=>if y.name=f.of then rec (Zn d f.of) y else y) else x
def ZnQ(rec:Msg→Val→Val)(d:Dfn)(m:Msg)(f:Fld)(P:List Val)(i:Nat)(y:Val):List Val :=
 if Zi (fun c:Yb=>dC (c.of=y.name)) f.cases<0 then P else
  let has:=KK f ((Zr f.tag (Q6 m P)).getD 0);let P2:=if has<0∨(f.cases.getD has.toNat dE).of≠y.name then Jl (vfs m.fields) f.tag (f.cases.getD (Zi (fun c:Yb=>dC (c.of=y.name)) f.cases).toNat dE).low P else P
  P2.set i ((P2.getD i dE).setPs [rec (Zn d y.name) y])
def ZfE(rec:Msg→Val→Val)(d:Dfn)(m:Msg)(f:Fld)(P:List Val)(i:Nat):List Val :=
 let x:=P.getD i dE;let y:=x.parts.getD 0 dE
 if f.kind=4 then K4 (vfs m.fields) f.size x.bytes.length P
 else if f.kind=7 then K4 (vfs m.fields) f.size x.parts.length P
 else if f.kind=12∧x.parts.length=1 then (if (Yd d 51 (Zn d f.of) y []).2=0 then K4 (vfs m.fields) f.size (lenS d 51 (Zn d f.of) y) P else P)
 else if f.kind=9∧x.parts.length=1 then ZnQ rec d m f P i y
 else P
def JL(rec:Msg→Val→Val)(d:Dfn)(m:Msg)(P:List Val)(i:Nat):List Val :=
 ZfE rec d m ((vfs m.fields).getD i dE) (P.set i (Qp rec d ((vfs m.fields).getD i dE) (P.getD i dE))) i
def Wc(d:Dfn):Nat→Msg→Val→Val
 |0,_,v=>v
 |n+1,m,v=>if WC (vfs m.fields) v.parts then v.setPs ((ZEa v.parts.length).foldl (JL (Wc d n) d m) v.parts) else v
theorem ZrK{l:List Val}{i:Nat}:l.set i (l.getD i dE)=l:=by
 refine List.ext_getElem (by simp) fun j h1 h2=>?_;rw[List.getElem_set];split;rename_i h;subst h;simp[ZEb,h2];rfl
theorem Zwk(v:Val):v.setI v.int=v:=by cases v;rfl
theorem Zsp{l:List Fld}{s:Wi}{n:Int}{P:List Val}(h:∀t,s.terms=[t]→∀to,ZeT t s.base n=sO to→∀j,j<P.length→ZgW (l.getD j dE) t.field to=true→(P.getD j dE).int=to):K4 l s n P=P:=by
 unfold K4;split;rename_i t ht;split;rename_i to u;have h1:=h t ht to u;refine List.ext_getElem (by simp[Jl]) fun j hj i=>?_;have h2:=Zhs (l:=l) (nm:=t.field) (to:=to) i;have h3:(Jl l t.field to P).getD j dE=(Jl l t.field to P)[j]:=by simp[ZEb,hj]
 have h4:P.getD j dE=P[j]:=by simp[ZEb,i]
 rw[←h3,h2,←h4];split;rename_i hc;rw[←h1 j i hc,Zwk];rfl;rfl;rfl
theorem ZeN{a b:Int}(h:Wt a b=0):a=b:=by
 unfold Wt at h;split at h;simp at h;rename_i h1;split at h;simp at h;rename_i h2;simp at h1 h2;omega
theorem ZuK{d:Dfn}{j:Nat}{m:Msg}(hm:ZcP d j m){P:List Val}(hl:(vfs m.fields).length=P.length){a:Nat}(ha:a<m.fields.length)(hz:(m.fields.getD a dE).kind=4∨(m.fields.getD a dE).kind=7∨(m.fields.getD a dE).kind=12){n:Int}(hn:n=ZaQ (m.fields.getD a dE).size (ZaN m P)):K4 (vfs m.fields) (m.fields.getD a dE).size n P=P:=by
 have ah:=hm.at_ ha;obtain⟨hv,ac⟩:=ah.size ha hz;generalize (m.fields.getD a dE).size=s at *;refine Zsp fun t ht to i k hk hc=>?_;obtain⟨q,ag,ab,aj⟩:=ac t (by rw[ht];simp);have ae:=ZhP hv t (by rw[ht];simp);have ad:q<m.fields.length:=by omega
 have u:=ZgK (ps:=P) ad hm.nmU aj (fun hh=>by
  have:=Zkb (l:=m.fields) ag ha hh;have h2:(vfs (m.fields.take a)).length≤(vfs m.fields).length:=by unfold vfs;exact(List.Sublist.filter _ (List.take_sublist _ _)).length_le
  omega)
 rw[ab]at u;have ak:n=s.base+t.factor*JG m.fields P q:=by rw[hn];unfold ZaQ;rw[ht];simp only[KZ,Int.add_zero];unfold ZaN;rw[u]
 unfold ZeT at i;split at i;simp only[ZDV]at i;rw[ak,show s.base+t.factor*JG m.fields P q-s.base=t.factor*JG m.fields P q by omega,Int.mul_tdiv_cancel_left _ ae]at i;obtain⟨b,hb,z,al,af⟩:=JZ (l:=m.fields) (k:=k) (by omega);rw[af]at hc;unfold ZgW at hc;simp only[ZD5,decide_eq_true_eq]at hc;have ai:b=q:=by rcases Nat.lt_trichotomy b q with h|h|h;exact absurd (hc.1.1.1.trans ab.symm) (hm.nmU b q h ad);exact h;exact absurd (ab.trans hc.1.1.1.symm) (hm.nmU q b h hb)
 subst ai;rw[←i];unfold JG;have h2:¬(m.fields.getD b dE).kind=2:=by unfold W8 at z;simp only[ZD5,Bool.not_eq_true',decide_eq_false_iff_not]at z;exact z.1.1
 rw[if_neg h2,←al];simp at i
theorem ZiM{r1 r2:Val→Int}:∀{l:List Val} {b:Int},(∀y∈l,r1 y=r2 y)→Km r1 l b=Km r2 l b
 | [],_,_=>rfl
 |y::l,b,h=>by simp only[Km];rw[h y (by simp)];exact ZiM fun z hz=>h z (by simp[hz])
theorem ZfH{r1 r2:Val→Int}:∀{fs:List Fld} {ps:List Val} {b:Int},(∀x∈ps,∀y∈x.parts,r1 y=r2 y)→Ku r1 fs ps b=Ku r2 fs ps b
 | [],_,_,_=>rfl
 |f::fs,ps,b,h=>by
  simp only[Ku];split
  ·have h1:∀y∈(ps.getD 0 dE).parts,r1 y=r2 y:=fun y hy=>by
    cases ps with
    |nil=>simp[show(dE:Val).parts=[] from rfl,ZEb]at hy
    |cons x r=>exact h x (by simp) y (by simpa[ZEb]using hy)
   rw[ZiM h1];exact ZfH fun x hx=>h x (List.mem_of_mem_drop hx)
  exact ZfH h
theorem Zt7{l:List Val}{x:Val}(h:x∈l):ZN x≤heightL l:=by
 induction l with
 |nil=>simp at h
 |cons v r ih =>simp only[heightL];rcases List.mem_cons.1 h with rfl|h;omega;have:=ih h;omega
theorem Wy{v x:Val}(h:x∈v.parts):ZN x+1≤ZN v:=by
 have:=Zt7 h;rw[K7 v];omega
theorem ZsX{d:Dfn}:∀{a b:Nat} {m:Msg} {v:Val},ZlX d a m v→ZN v≤b→lenS d a m v=lenS d b m v
 |0,_,_,_,h,_=>h.elim
 |a+1,0,m,v,_,h=>by have:=K7 v;omega
 |a+1,b+1,m,v,h,hb=>by simp only[lenS];rw[ZfH fun x hx y hy=>?_];obtain⟨k,hk,rfl⟩:=ZEe hx;have h1:=(h.2 k hk).2 y (by simpa[ZEb,hk]using hy);have h2:=Wy hx;have h3:=Wy hy;exact ZsX h1.2 (by omega)
theorem Zwl{v:Val}{g:Val→Val}(h:∀y∈v.parts,g y=y):v.setPs (v.parts.map g)=v:=by
 have:v.parts.map g=v.parts:=by rw[List.map_congr_left h];simp
 rw[this,JK]
theorem Zlz{mis:Msg→Val→Str→Str×Int}{d:Dfn}{of:Str}{x:Val}{q:Str}(h:(Jg mis d of x q).2=0):x.parts.length=1∧∃q',(mis (Zn d of) (x.parts.getD 0 dE) q').2=0:=by
 unfold Jg at h;split at h;rename_i h1;exact⟨h1,_,h⟩;simp at h
theorem Zs7{l:List Val}(h:l.length=1){y:Val}(hy:y∈l):y=l.getD 0 dE:=by
 match l,h with
 | [a],_=>simpa using hy
theorem ZkC{g:Nat→Str×Int}{l:List Nat}{q:Str}(h:((Ww g l).getD (q,0)).2=0):∀i∈l,(g i).2=0:=by
 cases hf:Ww g l with
 |none=>exact ZfM hf
 |some r=>rw[hf]at h;exact absurd h (ZfO hf)
section
variable {mis:Msg→Val→Str→Str × Int} {len:Msg→Val→Int} {d:Dfn} {f:Fld} {x:Val} {q:Str} {l:List (Str × Int)}
theorem ZzT(h:f.kind=4):Kx mis len d f x q l=(q,Wt x.bytes.length (ZaQ f.size l)):=by unfold Kx;rw[if_neg (by omega),if_pos h]
theorem Zv2(h:f.kind=7):Kx mis len d f x q l=if Wt x.parts.length (ZaQ f.size l)=0 then (Ww (fun i=>mis (Zn d f.of) (x.parts.getD i dE) (Yu q (Wn x.parts i))) (ZEa x.parts.length)).getD (q,0) else (q,Wt x.parts.length (ZaQ f.size l)):=by
 unfold Kx;rw[if_neg (by omega),if_neg (by omega),if_neg (by omega),if_neg (by omega),if_pos h]
theorem ZzU(h:f.kind=8):Kx mis len d f x q l=Jg mis d f.of x q:=by
 unfold Kx;rw[if_neg (by omega),if_neg (by omega),if_neg (by omega),if_neg (by omega),if_neg (by omega),if_pos h]
theorem ZzV(h:f.kind=9):Kx mis len d f x q l=if KK f (WY f.tag l)<0 then (q,9) else Jg mis d (f.cases.getD (KK f (WY f.tag l)).toNat dE).of x q:=by
 unfold Kx;rw[if_neg (by omega),if_neg (by omega),if_neg (by omega),if_neg (by omega),if_neg (by omega),if_neg (by omega),if_pos h]
theorem ZyM(h:f.kind=12):Kx mis len d f x q l=if (Jg mis d f.of x q).2=0 then (q,Wt (len (Zn d f.of) (x.parts.getD 0 dE)) (ZaQ f.size l)) else Jg mis d f.of x q:=by
 unfold Kx;rw[if_neg (by omega),if_neg (by omega),if_neg (by omega),if_neg (by omega),if_neg (by omega),if_neg (by omega),if_neg (by omega),if_pos h]
end
theorem Zip{d:Dfn}(hd:WA d):∀(n' im n:Nat) (v:Val) (p:Str),im<d.msgs.length→VOk v→ZN v≤51→(Yd d n (d.msgs.getD im dE) v p).2=0→Wc d n' (d.msgs.getD im dE) v=v
 |0,_,_,_,_,_,_,_,_=>rfl
 |n'+1,im,0,v,p,_,_,_,h=>by simp[Yd]at h
 |n'+1,im,n+1,v,p,him,hv,hh,h=>by
  have hm:=hd.msg him;have al:=hd.dref _ (ZC him);generalize d.msgs.getD im dE=m at *;rw[ZiE]at h;split at h;case isFalse=>simp at h
  case isTrue hc =>
   simp only[ZD5,decide_eq_true_eq]at hc;have hr:=hc.2.2.2.2;have a3:WC (vfs m.fields) v.parts=true:=hr;have ak:(vfs m.fields).length=v.parts.length:=by unfold Za8 at hr;rw[decide_eq_true_eq]at hr;simpa using congrArg List.length hr
   have ap:=fun k hk=>ZkC h k (List.mem_range.2 hk);have sub:∀(of:Str) (y:Val) (q:Str) (x:Val),x∈v.parts→y∈x.parts→0≤ZF d of d.msgs.length→(Yd d n (Zn d of) y q).2=0→Wc d n' (Zn d of) y=y:=fun of y q x hx hy u ao =>
    Zip hd n' (ixS d of) n y q (Zau u).2 ((hv.part hx).part hy) (by have:=Wy hx;have:=Wy hy;omega) ao
   have ay:∀k,k<v.parts.length→JL (Wc d n') d m v.parts k=v.parts:=fun k hk=>by
    have hg:=ap k hk;have z:=ZC hk;obtain⟨a,ha,hav,hka,ar⟩:=JZ (l:=m.fields) (k:=k) (by omega);have ah:=al _ (ZC ha);have af:=fun{n:Int} hz hn=>ZuK hm ak ha (n:=n) hz hn;have a5:(m.fields.getD a dE).kind=9→Zr (m.fields.getD a dE).tag (Q6 m v.parts)=sO (WY (m.fields.getD a dE).tag (ZaN m v.parts)):=fun h9=>by
     obtain⟨q,aw,a4,am⟩:=(hm.at_ ha).tag ha h9;have h1:=ZsT hm.nmU v.parts (i:=q) (by omega) am;have h2:=ZgK (ps:=v.parts) (i:=q) (by omega) hm.nmU am (fun hh=>by
      have:=Zkb (l:=m.fields) aw ha hh;have h2:(vfs (m.fields.take a)).length≤(vfs m.fields).length:=by unfold vfs;exact(List.Sublist.filter _ (List.take_sublist _ _)).length_le
      omega)
     rw[a4]at h1 h2;rw[h1];unfold ZaN;rw[h2]
    unfold JL;unfold ZdB at hg;rw[ar]at hg⊢;generalize m.fields.getD a dE=f at *;have hx:v.parts.getD k dE=v.parts.getD k dE:=rfl;generalize ai:v.parts.getD k dE=x at *;split at hg;simp at hg;have t:f.kind=12→∃q',x.parts.length=1∧(Yd d n (Zn d f.of) (x.parts.getD 0 dE) q').2=0∧Wt (lenS d n (Zn d f.of) (x.parts.getD 0 dE)) (ZaQ f.size (ZaN m v.parts))=0:=fun h12=>by rw[ZyM h12]at hg;split at hg;rename_i ho;obtain⟨h1,q',h2⟩:=Zlz ho;exact⟨q',h1,h2,hg⟩;rename_i ho;exact absurd hg ho
    have hrec:Qp (Wc d n') d f x=x:=by unfold Qp;split;rename_i aj;refine Zwl fun y hy=>?_;split;have u:=ah.ref aj;rcases aj with h7|h8|h12;rw[Zv2 h7]at hg;split at hg;obtain⟨i,hi,rfl⟩:=ZEe hy;have:=ZkC hg i (List.mem_range.2 hi);rw[show x.parts.getD i dE=x.parts[i] by simp[ZEb,hi]]at this;exact sub f.of _ _ x z hy u this;rename_i h0;exact absurd hg h0;rw[ZzU h8]at hg;obtain⟨h1,q',h2⟩:=Zlz hg;rw[←Zs7 h1 hy]at h2;exact sub f.of _ _ x z hy u h2;obtain⟨q',h1,h2,_⟩:=t h12;rw[←Zs7 h1 hy]at h2;exact sub f.of _ _ x z hy u h2;rfl;rfl
    have ad:v.parts.set k x=v.parts:=by rw[←ai];exact ZrK
    rw[hrec,ad];unfold ZfE;rw[ai];simp only[];split;rename_i h4;rw[ZzT h4]at hg;exact af (.inl h4) (ZeN hg);split;rename_i h7;rw[Zv2 h7]at hg;split at hg;rename_i h0;exact af (.inr (.inl h7)) (ZeN h0);rename_i h0;exact absurd hg h0;split;rename_i h12;obtain⟨q',h1,h2,h3⟩:=t h12.1;split;have ab:x.parts.getD 0 dE∈x.parts:=ZC (by omega);have av:=(hv.part z).part ab;have aq:ZN (x.parts.getD 0 dE)≤51:=by have:=Wy z;have:=Wy ab;omega
    have u:=ah.ref (.inr (.inr h12.1));rw[←ZsX (Zg2 hd.dref n (Zn d f.of) _ q' (hd.dref.of f.of) av.ok h2) aq];exact af (.inr (.inr h12.1)) (ZeN h3);rfl;split
    ·rename_i h9;rw[ZzV h9.1]at hg;split at hg;simp at hg;rename_i az;obtain⟨h1,q',h2⟩:=Zlz hg;have au:=Wv (fun c:Yb=>dC (c.low≤WY f.tag (ZaN m v.parts))&&dC (WY f.tag (ZaN m v.parts)≤c.high)) f.cases;have hcl':KK f (WY f.tag (ZaN m v.parts))<f.cases.length:=au;have ac:=ah.cas h9.1 _ (ZC (l:=f.cases) (i:=(KK f (WY f.tag (ZaN m v.parts))).toNat) (by omega));have ae:=(ZkM h2).trans (ZmI ac);unfold ZnQ;split;rfl;have ab:x.parts.getD 0 dE∈x.parts:=ZC (by omega);have ax:x.parts=[x.parts.getD 0 dE]:=by
      match hp:x.parts,h1 with
      | [a],_=>rfl
     generalize x.parts.getD 0 dE=y at *;have a0:=sub y.name y q' x z ab (by rw[ae];exact ac) (by rw[ae];exact h2);simp only[a5 h9.1,ZEB];rw[if_neg (fun h=>by rcases h with h|h;exact az h;exact h ae.symm),ai,a0,←ax,JK];exact ad
    rfl
   have ag:∀l:List Nat,(∀k∈l,k<v.parts.length)→l.foldl (JL (Wc d n') d m) v.parts=v.parts:=fun l=>by
    induction l with
    |nil=>intro _;rfl
    |cons k r ih=>intro hk;rw[List.foldl_cons,ay k (hk k (by simp))];exact ih fun j hj=>hk j (by simp[hj])
   unfold Wc;rw[if_pos a3,ag _ fun k hk=>List.mem_range.1 hk,JK]
mutual
def Zx:Val→Val
 |.mk n _ b h p=>.mk n 0 b h (plainL p)
def plainL:List Val→List Val
 | []=>[]
 |v::r=>Zx v::plainL r
end
theorem ZmP:∀l:List Val,plainL l=l.map Zx
 | []=>rfl
 |v::r=>by simp[plainL,ZmP r]
theorem Js(v:Val):Zx v=.mk v.name 0 v.bytes v.hdrs (v.parts.map Zx):=by
 cases v;simp only[Zx,ZmP];rfl
theorem Zuu(v:Val)(i:Int):Zx (v.setI i)=Zx v:=by rw[Js,Js v];rfl
theorem Zf0{v:Val}{P:List Val}(h:P.map Zx=v.parts.map Zx):Zx (v.setPs P)=Zx v:=by
 rw[Js,Js v];show Val.mk v.name 0 v.bytes v.hdrs (P.map Zx)=_;rw[h]
theorem ZmR{l:List Fld}{nm:Str}{to:Int}{P:List Val}:(Jl l nm to P).map Zx=P.map Zx:=by
 refine List.ext_getElem (by simp[Jl]) fun j h1 h2=>?_;have hj:j<P.length:=by simpa using h2
 have h3:=Zhs (l:=l) (nm:=nm) (to:=to) hj;have h4:(Jl l nm to P).getD j dE=(Jl l nm to P)[j]'(by rw[ZeL];exact hj):=by simp[ZEb,ZeL,hj]
 have h5:P.getD j dE=P[j]:=by simp[ZEb,hj]
 rw[List.getElem_map,List.getElem_map,←h4,h3,h5];split;exact Zuu _ _;rfl
theorem ZeB{l:List Fld}{s:Wi}{n:Int}{P:List Val}:(K4 l s n P).map Zx=P.map Zx:=by
 unfold K4;split;split;exact ZmR;rfl;rfl
theorem ZiP{P:List Val}{i:Nat}{x:Val}(h:Zx x=Zx (P.getD i dE)):(P.set i x).map Zx=P.map Zx:=by
 rw[List.map_set,h];refine List.ext_getElem (by simp) fun j h1 h2=>?_;rw[List.getElem_set];split;rename_i e;subst e;have hj:i<P.length:=by simpa using h2
 simp[ZEb,hj];rfl
section
variable {d:Dfn} {m:Msg} {rec:Msg→Val→Val} (hrec:∀ s y,Zx (rec (Zn d s) y)=Zx y)
include hrec
theorem ZmQ{f:Fld}{x:Val}:Zx (Qp rec d f x)=Zx x:=by
 unfold Qp;split;refine Zf0 ?_;rw[List.map_map];refine List.map_congr_left fun y _=>?_;simp only[Function.comp];split;exact hrec _ _;rfl;rfl
theorem Zut{f:Fld}{P:List Val}{i:Nat}(h1:(P.getD i dE).parts.length=1):(ZnQ rec d m f P i ((P.getD i dE).parts.getD 0 dE)).map Zx=P.map Zx:=by
 have j:∀P2:List Val,P2.map Zx=P.map Zx→(P2.set i ((P2.getD i dE).setPs [rec (Zn d ((P.getD i dE).parts.getD 0 dE).name) ((P.getD i dE).parts.getD 0 dE)])).map Zx=P.map Zx:=fun P2 h2=>by
  rw[←h2];refine ZiP (Zf0 ?_);have e:Zx (P2.getD i dE)=Zx (P.getD i dE):=by have:=congrArg (fun l:List Val=>l.getD i (Zx dE)) h2;simpa only[ZEb,List.getElem?_map,Option.getD_map]using this
  have e2:(P2.getD i dE).parts.map Zx=(P.getD i dE).parts.map Zx:=by have:=congrArg Val.parts e;rw[Js,Js (P.getD i dE)]at this;exact this
  rw[e2]
  match hp:(P.getD i dE).parts,h1 with
  | [a],_=>simp[hrec]
 unfold ZnQ;split;rfl;dsimp only;split;exact j _ ZmR;exact j _ rfl
theorem Zus{f:Fld}{P:List Val}{i:Nat}:(ZfE rec d m f P i).map Zx=P.map Zx:=by
 unfold ZfE;dsimp only;split;exact ZeB;split;exact ZeB;split;split;exact ZeB;rfl;split;rename_i h;exact Zut hrec h.2;rfl
theorem Zf1{P:List Val}{i:Nat}:(JL rec d m P i).map Zx=P.map Zx:=by
 unfold JL;rw[Zus hrec];exact ZiP (ZmQ hrec)
end
theorem JH{d:Dfn}:∀(n:Nat) (m:Msg) (v:Val),Zx (Wc d n m v)=Zx v
 |0,_,_=>rfl
 |n+1,m,v=>by
  unfold Wc;split
  ·refine Zf0 ?_;have:∀(l:List Nat) (P:List Val),(l.foldl (JL (Wc d n) d m) P).map Zx=P.map Zx:=fun l=>by
    induction l with
    |nil=>intro P;rfl
    |cons k r ih=>intro P;rw[List.foldl_cons,ih];exact Zf1 fun s y=>JH n _ y
   exact this _ _
  rfl
theorem ZbC{v:Val}:Z3 v=true↔(∀x∈v.parts,Z3 x=true)∧QN v=true:=by
 rw[Zey,ZD5,ZdV,List.all_eq_true]
theorem Zup{v:Val}{i:Int}(h:Z3 v=true)(h0:0≤i)(h1:i<34359738368):Z3 (v.setI i)=true:=by
 rw[ZbC]at h⊢;refine⟨h.1,?_⟩;have h2:=h.2;unfold QN at h2⊢;simp only[ZD5,decide_eq_true_eq]at h2⊢;exact⟨⟨⟨⟨⟨h2.1.1.1.1.1,h0⟩,h1⟩,h2.1.1.2⟩,h2.1.2⟩,h2.2⟩
theorem ZfY{v:Val}{P:List Val}(h:Z3 v=true)(hP:∀x∈P,Z3 x=true):Z3 (v.setPs P)=true:=by
 rw[ZbC]at h⊢;exact⟨hP,h.2⟩
def Zqh(m:Msg):Prop:=∀f∈vfs m.fields,YF f=true→0≤f.low∧f.high<34359738368
theorem Zgo{P:List Val}(h:∀x∈P,Z3 x=true){i:Nat}(hi:i<P.length):Z3 (P.getD i dE)=true:=h _ (ZC hi)
theorem Zs5{m:Msg}(hm:Zqh m){nm:Str}{to:Int}{P:List Val}(h:∀x∈P,Z3 x=true):∀x∈Jl (vfs m.fields) nm to P,Z3 x=true:=fun x hx=>by
 unfold Jl at hx;rw[List.mem_map]at hx;obtain⟨j,hj,rfl⟩:=hx;rw[List.mem_range]at hj;split;rename_i hc;unfold ZgW at hc;simp only[ZD5,decide_eq_true_eq]at hc;by_cases hl:j<(vfs m.fields).length;have:=hm _ (ZC hl) hc.1.1.2;exact Zup (Zgo h hj) (by omega) (by omega);have h2:=hc.1.1.2;rw[show(vfs m.fields).getD j dE=dE by simp[ZEb,ZEG (Nat.le_of_not_lt hl)]]at h2;exact absurd h2 (by decide);exact Zgo h hj
theorem ZiK{m:Msg}(hm:Zqh m){s:Wi}{n:Int}{P:List Val}(h:∀x∈P,Z3 x=true):∀x∈K4 (vfs m.fields) s n P,Z3 x=true:=by
 unfold K4;split;split;exact Zs5 hm h;exact h;exact h
theorem Zrq{P:List Val}{i:Nat}{x:Val}(h:∀x∈P,Z3 x=true)(hx:Z3 x=true):∀y∈P.set i x,Z3 y=true:=fun y hy=>by
 rcases List.mem_or_eq_of_mem_set hy with h1|rfl;exact h y h1;exact hx
section
variable {d:Dfn} {m:Msg} {rec:Msg→Val→Val} (hrec:∀ s y,Z3 y=true→Z3 (rec (Zn d s) y)=true) (hm:Zqh m)
include hrec
theorem Zs4{f:Fld}{x:Val}(h:Z3 x=true):Z3 (Qp rec d f x)=true:=by
 unfold Qp;split;refine ZfY h fun z hz=>?_;rw[List.mem_map]at hz;obtain⟨y,hy,rfl⟩:=hz;have:=(ZbC.1 h).1 y hy;split;exact hrec _ _ this;exact this;exact h
include hm
theorem Zs3{f:Fld}{P:List Val}{i:Nat}(hi:i<P.length)(h:∀x∈P,Z3 x=true):∀x∈ZfE rec d m f P i,Z3 x=true:=by
 unfold ZfE;dsimp only;split;exact ZiK hm h;split;exact ZiK hm h;split;split;exact ZiK hm h;exact h;split;rename_i h9;have hy:Z3 ((P.getD i dE).parts.getD 0 dE)=true:=(ZbC.1 (Zgo h hi)).1 _ (ZC (by omega));have j:∀P2:List Val,P2.length=P.length→(∀x∈P2,Z3 x=true)→∀x∈P2.set i ((P2.getD i dE).setPs [rec (Zn d ((P.getD i dE).parts.getD 0 dE).name) ((P.getD i dE).parts.getD 0 dE)]),Z3 x=true:=fun P2 hl h2 =>
  Zrq h2 (ZfY (Zgo h2 (by omega)) fun z hz=>by rw[List.mem_singleton.1 hz];exact hrec _ _ hy)
 unfold ZnQ;split;exact h;dsimp only;split;exact j _ ZeL (Zs5 hm h);exact j _ rfl h;exact h
end
theorem ZiO{P Q:List Val}(h:P.map Zx=Q.map Zx):P.length=Q.length:=by simpa using congrArg List.length h
theorem ZjX{d:Dfn}(hd:∀s,Zqh (Zn d s)):∀(n:Nat) (s:Str) (v:Val),Z3 v=true→Z3 (Wc d n (Zn d s) v)=true
 |0,_,_,h=>h
 |n+1,s,v,h=>by
  unfold Wc;split
  ·refine ZfY h ?_;have:∀(l:List Nat) (P:List Val),(∀k∈l,k<P.length)→(∀x∈P,Z3 x=true)→∀x∈l.foldl (JL (Wc d n) d (Zn d s)) P,Z3 x=true:=fun l=>by
    induction l with
    |nil=>intro P _ hP;exact hP
    |cons k r ih =>intro P hk hP;rw[List.foldl_cons];have t:=ZiO (Zf1 (m:=Zn d s) (P:=P) (i:=k) (fun s y=>JH (d:=d) n (Zn d s) y));refine ih _ (fun j hj=>by rw[t];exact hk j (by simp[hj])) ?_;unfold JL;refine Zs3 (fun s y hy=>ZjX hd n s y hy) (hd s) (by rw[List.length_set];exact hk k (by simp)) (Zrq hP (Zs4 (fun s y hy=>ZjX hd n s y hy) (Zgo hP (hk k (by simp)))))
   exact this _ _ (fun k hk=>List.mem_range.1 hk) (ZbC.1 h).1
  exact h
theorem Ztf{d:Dfn}(hd:WA d){i:Nat}(hi:i<d.msgs.length):Zqh (d.msgs.getD i dE):=by
 intro f hf hn;have hm:=hd.msg hi;unfold vfs at hf;rw[List.mem_filter]at hf;obtain⟨k,hk,he⟩:=ZEe hf.1;have j:=hm.at_ hk;rw[show(d.msgs.getD (i) dE).fields.getD k dE=f by rw[List.getD_eq_getElem?_getD,ZEr hk];exact he]at j;have h1:=j.num hn;have h2:¬f.kind=2:=by have:=hf.2;unfold W8 at this;simp only[ZD5,Bool.not_eq_true',decide_eq_false_iff_not]at this;exact this.1.1
 exact⟨h1.1,h1.2.2 h2⟩
theorem Ztg{d:Dfn}(hd:WA d)(s:Str):Zqh (Zn d s):=by
 unfold Zn;by_cases hi:ixS d s<d.msgs.length;exact Ztf hd hi;rw[show d.msgs.getD (ixS d s) dE=dE by simp[ZEb,ZEG (Nat.le_of_not_lt hi)]];intro f hf;simp[show(dE:Msg).fields=[] from rfl,vfs]at hf
mutual
theorem JI:∀v:Val,wtN (Zx v)=wtN v
 |.mk n i b h p=>by simp only[Zx,wtN,plain_wtL p]
theorem plain_wtL:∀l:List Val,wtL (plainL l)=wtL l
 | []=>rfl
 |v::r=>by simp only[plainL,wtL,JI v,plain_wtL r]
end
mutual
theorem Kf:∀v:Val,ZN (Zx v)=ZN v
 |.mk n i b h p=>by simp only[Zx,ZN,plain_heightL p]
theorem plain_heightL:∀l:List Val,heightL (plainL l)=heightL l
 | []=>rfl
 |v::r=>by simp only[plainL,heightL,Kf v,plain_heightL r]
end
theorem Zlo{d:Dfn}(hd:WA d){n:Nat}{s:Str}{v:Val}(hv:VOk v):VOk (Wc d n (Zn d s) v) :=
 ⟨ZjX (Ztg hd) n s v hv.ok,by rw[←JI,JH,JI];exact hv.wt⟩
theorem ZfL{d:Dfn}{n:Nat}{m:Msg}{v:Val}:ZN (Wc d n m v)=ZN v:=by rw[←Kf,JH,Kf]
theorem ZoR{X:List D}{n i k:Nat}(h:∀j,j<n→(row j).length=5)(hi:i<n)(hk:k<5):(Yx row n++X)[i*5+k]?=(row i)[k]?:=by
 have hp:=ZaI X h hi;unfold part at hp;have:(((Yx row n++X).drop (i*5)).take 5)[k]?=(row i)[k]?:=by rw[hp]
 rw[ZEC,if_pos hk,List.getElem?_drop]at this;exact this
theorem MN.fmem{T:St}{v:Val}{c:List D}{fp:List Nat}{x cap:Nat}{f:Nat→List Nat}{X:List D}(h:MN T v c fp x cap row f X){i y:Nat}(hi:i<v.parts.length)(hy:y∈f i):y∈fp:=by
 rw[h.fp];simp only[ZEz,List.mem_flatMap,List.mem_range];exact .inr ⟨i,hi,hy⟩
theorem MN.xmem{T:St}{v:Val}{c:List D}{fp:List Nat}{x cap:Nat}{f:Nat→List Nat}{X:List D}(h:MN T v c fp x cap row f X):x∈fp:=by rw[h.fp];simp
theorem MN.len5{T:St}{v:Val}{c:List D}{fp:List Nat}{x cap:Nat}{f:Nat→List Nat}{X:List D}(h:MN T v c fp x cap row f X):∀j,j<v.parts.length→(row j).length=5:=fun j hj=>(h.kid j hj).len
theorem ZxJ{i:Nat}:(fun k=>if k=i then row i else row k)=row:=by
 funext k;split;next e=>rw[e]
 rfl
theorem MN.subK{T S:St}{v:Val}{c:List D}{fp:List Nat}{x cap:Nat}{f:Nat→List Nat}{X:List D}(h:MN T v c fp x cap row f X){i:Nat}(hi:i<v.parts.length){g:Val}(hg:MT S g (row i) (f i))(ho:∀y,y∉f i→S y=T y):MT S (v.setP i g) c fp:=by
 have hm:=h.child hi (r':=row i) hg (by rw[ZxJ,ho x (h.n i hi)];exact h.b) (fun y _ hy=>ho y hy);exact hm.mt (by simp only[Val.setP,Val.parts,List.length_set];exact Nat.lt_of_le_of_lt (Nat.zero_le _) hi)
structure FI(T A:St)(v:Val)(l:List Fld)(P:List Val)(c:List D)(fp:List Nat)(x cap:Nat)(row:Nat→List D)(f:Nat→List Nat)(X:List D)(z5 z6 z7:Nat):Prop where
 mn:MN A (v.setPs P) c fp x cap row f X
 a5:A z5=some (.cells c)
 a6:A z6=some (.cells [Zm l])
 a7:A z7=some (.cells [.fn (.func 55) [] [.ptr z6 0,.ptr z5 0]])
 n5:z5∉fp
 n6:z6∉fp
 n7:z7∉fp
 out:∀y,y∉fp→y≠z5→y≠z6→y≠z7→A y=T y
section
variable {T A S:St} {v:Val} {l:List Fld} {P:List Val} {c:List D} {fp:List Nat} {x cap:Nat} {row row':Nat→List D} {f:Nat→List Nat} {X:List D} {z5 z6 z7:Nat}
theorem FI.ne(h:FI T A v l P c fp x cap row f X z5 z6 z7):z5≠x∧z6≠x∧z7≠x :=
 ⟨fun e=>h.n5 (e▸h.mn.xmem),fun e=>h.n6 (e▸h.mn.xmem),fun e=>h.n7 (e▸h.mn.xmem)⟩
theorem FI.num(h:FI T A v l P c fp x cap row f X z5 z6 z7){Q:List Val}(hm:MN S (v.setPs Q) c fp x cap row' f X)(ho:∀y,y≠x→S y=A y):FI T S v l Q c fp x cap row' f X z5 z6 z7 :=
 ⟨hm,by rw[ho _ h.ne.1];exact h.a5,by rw[ho _ h.ne.2.1];exact h.a6,by rw[ho _ h.ne.2.2];exact h.a7,h.n5,h.n6,h.n7,fun y hy h5 h6 h7=>by rw[ho y fun e=>hy (e▸h.mn.xmem)];exact h.out y hy h5 h6 h7⟩
theorem FI.sub(h:FI T A v l P c fp x cap row f X z5 z6 z7){i:Nat}(hi:i<P.length){g:Val}(hg:MT S g (row i) (f i))(ho:∀y,y∉f i→S y=A y):FI T S v l (P.set i g) c fp x cap row f X z5 z6 z7:=by
 have z:x∉f i:=h.mn.n i hi;have t:∀{y:Nat},y∉fp→S y=A y:=fun hy=>ho _ fun hf=>hy (h.mn.fmem hi hf);have hm:=h.mn.child (j:=i) hi (w:=g) (r':=row i) hg (by
  have:(fun k=>if k=i then row i else row k)=row:=by
   funext k;split;next e=>rw[e]
   rfl
  rw[this,ho x z];exact h.mn.b) (fun y _ hy=>ho y hy)
 have u:(fun k=>if k=i then row i else row k)=row:=by
  funext k;split;next e=>rw[e]
  rfl
 rw[u]at hm;exact⟨hm,by rw[t h.n5];exact h.a5,by rw[t h.n6];exact h.a6,by rw[t h.n7];exact h.a7,h.n5,h.n6,h.n7,fun y hy h5 h6 h7=>by rw[t hy];exact h.out y hy h5 h6 h7⟩
end
theorem MT.cells4{T:St}{v:Val}{c:List D}{fp:List Nat}(h:MT T v c fp):∃p,c=[.str v.name,.int .i64 v.int,ZL v.bytes,ZX v.hdrs,p]∧YD T fp p (ZW v.parts)∧(v.parts.length=0→p=ZW [])∧Qn p=true∧∀L s,qv L s .lenL [.d p]=sO (True,.d (.int .i64 v.parts.length)):=by
 cases h with
 |leaf n i b h=>exact⟨_,rfl,.refl _,fun _=>rfl,rfl,fun _ _=>rfl⟩
 |node n i b h ps x cap row f X hp hb hc hx hn hd =>refine⟨_,rfl,?_,fun h0=>by simp only[Val.parts]at h0;omega,rfl,fun _ _=>rfl⟩;have hm:MT T (.mk n i b h ps) _ _:=.node n i b h ps x cap row f X hp hb hc hx hn hd;have:=hm.ld (Ln:=x::(ZEa ps.length).flatMap f) fun _ hy=>hy;rw[ZEg]at this;cases this with|cons _ this=>cases this with|cons _ this=>cases this with|cons _ this=>cases this with|cons _ this=>cases this with|cons h5 _=>exact h5
theorem ZpV{f:FuncId}{args args':List D}{T:St}{Ln:List Nat}{d:D}(hL:∀b∈Ln,∃ds,T b=sO (.cells ds))(hl:LdC T Ln args args')(hc:Zf ZDW f args' d)(hd:SC (fun b=>((fun _=>nO:St) b).isSome=true) d):Za ZDW f args T fun r S=>r=.ret d∧S=T:=by
 have h:=Za.lend hL hl (hc fun _=>nO) (fun r S hr=>by
  obtain⟨rfl,rfl⟩:=hr;exact⟨hd,fun b o h=>by simp at h⟩)
 refine h.mono fun r S hS=>?_;obtain⟨S',⟨hr,rfl⟩,_,rfl⟩:=hS;exact⟨hr,ZfZ T⟩
section
variable {T A S:St} {v:Val} {l:List Fld} {P:List Val} {c:List D} {fp:List Nat} {x cap:Nat} {row row':Nat→List D} {f:Nat→List Nat} {X:List D} {z5 z6 z7:Nat}
theorem MN.mono{w:Val}(h:MN T w c fp x cap row f X)(hT:∀y∈fp,S y=T y):MN S w c fp x cap row f X :=
 ⟨h.c,by rw[hT x h.xmem];exact h.b,h.le,fun j hj=>(h.kid j hj).mono fun y hy=>hT y (h.fmem hj hy),h.n,h.d,h.fp⟩
theorem FI.live(h:FI T A v l P c fp x cap row f X z5 z6 z7)(hP:0<P.length){z:Nat}(hz:A z=nO):z∉fp∧z≠z5∧z≠z6∧z≠z7:=by
 refine⟨fun hm=>?_,fun e=>?_,fun e=>?_,fun e=>?_⟩;obtain⟨ds,i⟩:=(h.mn.mt hP).live z hm;rw[hz]at i;simp at i;rw[e,h.a5]at hz;simp at hz;rw[e,h.a6]at hz;simp at hz;rw[e,h.a7]at hz;simp at hz
theorem FI.box(h:FI T A v l P c fp x cap row f X z5 z6 z7)(hP:0<P.length){z:Nat}(hz:A z=nO)(o:Z1):FI (T.upd z o) (A.upd z o) v l P c fp x cap row f X z5 z6 z7:=by
 obtain⟨k1,k2,k3,k4⟩:=h.live hP hz;refine⟨h.mn.mono fun y hy=>ZD6 _ _ fun e=>k1 (e▸hy),by rw[ZD6 _ _ k2.symm];exact h.a5,by rw[ZD6 _ _ k3.symm];exact h.a6,by rw[ZD6 _ _ k4.symm];exact h.a7,h.n5,h.n6,h.n7,fun y hy h5 h6 h7=>?_⟩;by_cases e:y=z;subst e;rw[ZD4,ZD4];rw[ZD6 _ _ e,ZD6 _ _ e];exact h.out y hy h5 h6 h7
theorem FI.unbox{z:Nat}{o:Z1}(h:FI (T.upd z o) S v l P c fp x cap row f X z5 z6 z7)(k1:z∉fp)(k2:z≠z5∧z≠z6∧z≠z7)(hT:T z=nO):
  FI T (fun y=>if y=z then nO else S y) v l P c fp x cap row f X z5 z6 z7∧St.sub (fun y=>if y=z then nO else S y) S:=by
 refine⟨⟨h.mn.mono fun y hy=>if_neg fun e:y=z=>k1 (e▸hy),?_,?_,?_,h.n5,h.n6,h.n7,fun y hy h5 h6 h7=>?_⟩,fun y o hy=>?_⟩;rw[if_neg k2.1.symm];exact h.a5;rw[if_neg k2.2.1.symm];exact h.a6;rw[if_neg k2.2.2.symm];exact h.a7;by_cases e:y=z;subst e;rw[if_pos rfl];exact hT.symm;rw[if_neg e,h.out y hy h5 h6 h7,ZD6 _ _ e];dsimp only at hy;by_cases e:y=z;rw[if_pos e]at hy;simp at hy;rw[if_neg e]at hy;exact hy
theorem ZvZ{w:Val}(hM:MT T w c fp){p:D}(hp:YD T fp p (ZW w.parts))(m:Msg)(hpos:0<m.fields.length)(hml:m.fields.length≤1000)(hn:(vfs m.fields).length=w.parts.length):
  Za ZDW 62 [.agg m.cells,p] T fun r S=>∃b,T b=nO∧r=.ret (.map b)∧S=T.upd b (.map (Q1 (Q6 m w.parts))):=by
 have h:=Za.lend (P:=ZDW) (Ln:=fp) (t:=T) hM.live (.cons (YD.refl (.agg m.cells)) (.cons hp .nil)) (Zdl m hpos hml w.parts hn fun _=>nO) (fun r S hr=>by
  obtain⟨b,_,rfl,rfl⟩:=hr;refine⟨.map b,fun b' o hb=>?_⟩;by_cases e:b'=b;subst e;rw[ZD4]at hb;simp only[ZDV]at hb;subst hb;intro e he;unfold Q1 KJ at he;obtain⟨q,_,rfl⟩:=List.mem_map.1 he;exact⟨.str _,.int _ _⟩;rw[ZD6 _ _ e]at hb;simp at hb)
 refine h.mono fun r S hS=>?_;obtain⟨S',⟨b,_,hr,rfl⟩,hd,rfl⟩:=hS;have i:T b=nO:=by
  cases ht:T b with
  |none=>rfl
  |some o=>have:=hd b o ht;rw[ZD4]at this;simp at this
 refine⟨b,i,hr,?_⟩;funext y;by_cases e:y=b;subst e;rw[ZD4];exact Zp (ZD4 _ _ _);rw[ZD6 _ _ e,ZH (by rw[ZD6 _ _ e])]
end
def Zk5(g:Val)(T:St)(c:List D)(fp:List Nat):Res→St→Prop:=fun r S=>r=.ret (.tup [])∧MT S g c fp∧∀y,y∉fp→S y=T y
theorem Zum{T:St}{p:D}{fp:List Nat}{ps:List Val}(hL:∀b∈fp,∃ds,T b=sO (.cells ds))(hp:YD T fp p (ZW ps))(l:List Fld):Za ZDW 54 [Zm l,p] T fun r S=>r=.ret (.bool (WC l ps))∧S=T :=
 ZpV hL (.cons (.refl _) (.cons hp .nil)) (ZgE l ps) (.bool _)
theorem Zzo{L:DL.Loc}(l:List Yb)(i:Int):qv L s (.iaddr 3) [.d (Kl l),.d (.int .i64 i)]=sO (0≤i∧i<l.length,.d (.ep (l.getD i.toNat dE).cells 0)):=rfl
theorem Zm9(hI:Q8){d:Dfn}(hd:WA d)(nn im:Nat)(him:im<d.msgs.length)(rec:Msg→Val→Val)(v:Val)(hv:VOk v)(hh:ZN v≤nn+1)(hn:nn≤50)(hpl:∀s y,Zx (rec (Zn d s) y)=Zx y)(hok:∀s y,Z3 y=true→Z3 (rec (Zn d s) y)=true)(hrec:∀(s:Str) (g:Val) (T:St) (c:List D) (fp:List Nat),0≤ZF d s d.msgs.length→VOk g→ZN g≤nn→MT T g c fp→Za ZDW 24 [.agg d.cells,.agg (Zn d s).cells,.agg c] T (Zk5 (rec (Zn d s) g) T c fp)){T:St}{c:List D}{fp:List Nat}(hM:MT T v c fp):
  Za ZDW 24 [.agg d.cells,.agg (d.msgs.getD im dE).cells,.agg c] T (Zk5 (if WC (vfs (d.msgs.getD im dE).fields) v.parts then v.setPs ((ZEa v.parts.length).foldl (JL rec d (d.msgs.getD im dE)) v.parts) else v) T c fp):=by
 have hm:=hd.msg him;have cy:=hd.pos him;have bh:=hd.dref _ (ZC him);have hm40:=hm.many;have et:=Ztf hd him;generalize d.msgs.getD im dE=m at *;obtain⟨p5,hc,fe,hp0,_,_⟩:=hM.cells4;generalize hl:vfs m.fields=l at *;generalize hG:(if WC l v.parts=true then v.setPs ((ZEa v.parts.length).foldl (JL rec d m) v.parts) else v)=G;have d7:=Zck m cy (by omega);rw[hl]at d7;refine Zd (cR 24 f24) fun F hF=>?_;rw[hc];refine rx (nd2 @eQ2 @eQ3) ?_;refine rx @eQ3 ?_;refine cl (d7) ?_;refine aa ?_;refine rg ?_;refine cV (Zum hM.live fe l) ?_ ?_
 ·rintro dd S ⟨hr,hS⟩;obtain rfl:=hS.symm;cases hr;refine gR0 ?_;cases bk:WC l v.parts with
  |false =>rw[bk,if_neg (by simp)]at hG;subst hG;refine i1 ?_;rw[←hc];exact hF.ret (.tup []) T rfl trivial (ZDZ _) (ZDY _) ⟨rfl,hM,fun _ _=>rfl⟩
  |true =>
   rw[bk,if_pos rfl]at hG;have bg:l.length=v.parts.length:=by unfold WC at bk;rw[decide_eq_true_eq]at bk;simpa using congrArg List.length bk
   refine i0 ?_;refine Zy (Zb ?_);refine xP 6 fun z6 h6=>?_;refine xP 5 fun z5 h5=>?_;refine rg ?_;refine Zb ?_;refine xP 7 fun z7 h7=>?_;have c8:z5≠z6:=fun e=>by rw[e,ZD4]at h5;simp at h5
   have d1:z7≠z6:=fun e=>by rw[e,ZD6 _ _ c8.symm,ZD4]at h7;simp at h7
   have el:z7≠z5:=fun e=>by rw[e,ZD4]at h7;simp at h7
   have t5:T z5=nO:=by rwa [ZD6 _ _ c8]at h5
   have t7:T z7=nO:=by rwa [ZD6 _ _ el,ZD6 _ _ d1]at h7
   have nf:∀z,T z=nO→z∉fp:=fun z hz hm=>by obtain⟨ds,h⟩:=hM.live z hm;rw[hz]at h;simp at h
   obtain⟨S0,bj⟩:∃S0,S0=((T.upd z6 (.cells [Zm l])).upd z5 (.cells c)).upd z7 (.cells [.fn (.func 55) [] [.ptr z6 0,.ptr z5 0]]):=⟨_,rfl⟩;have g6:S0 z6=sO (.cells [Zm l]):=by rw[bj,ZD6 _ _ d1.symm,ZD6 _ _ c8.symm,ZD4]
   have g5:S0 z5=sO (.cells c):=by rw[bj,ZD6 _ _ el.symm,ZD4]
   have g7:S0 z7=sO (.cells [.fn (.func 55) [] [.ptr z6 0,.ptr z5 0]]):=by rw[bj,ZD4]
   have go:∀y,y≠z5→y≠z6→y≠z7→S0 y=T y:=fun y k5 k6 k7=>by rw[bj,ZD6 _ _ k7,ZD6 _ _ k5,ZD6 _ _ k6]
   have e9:MT S0 v c fp:=hM.mono fun y hy=>go y (fun e=>nf _ t5 (e▸hy)) (fun e=>nf _ h6 (e▸hy)) (fun e=>nf _ t7 (e▸hy));have ej:T.sub S0:=fun y o hy=>by rw[go y (fun e=>by rw[e,t5]at hy;simp at hy) (fun e=>by rw[e,h6]at hy;simp at hy) (fun e=>by rw[e,t7]at hy;simp at hy)];exact hy
   rw[←hc,←bj];refine rx @g6 ?_;refine rx (nd2 @g6 @ZdA) ?_;by_cases h0:v.parts.length=0;rw[h0]at bg hG;rw[bg];refine Zc (Zbx ?_);refine gI ?_;refine ZQ rfl ?_;exact hF.fin (.tup []) T rfl trivial (ZDZ _) ej ⟨rfl,by rw[←hG,show ZEa 0=[] from rfl,List.foldl_nil,JK];exact hM,fun _ _=>rfl⟩
   skip
   obtain⟨x,cap,ZrI,f,X,dy⟩:=e9.inv (by omega);have co:=dy.c;refine Zc (fr (l.length) (fun i Q=>∀P row A,FI T A v l P c fp x cap row f X z5 z6 z7→P=(ZEa i).foldl (JL rec d m) v.parts→P.map Zx=v.parts.map Zx→(∀x∈P,Z3 x=true)→i≤l.length→Q [(3,.loc 3 0),(4,.loc 4 0),(5,.d (.ptr z5 0)),(7,.d (.ptr z7 0)),(8,.d (.fn (.func 57) [] [.ptr z7 0])),(28,.d (Zm l)),(29,.d (.int .i64 l.length)),(30,.d (.int .i64 i))] [(3,d.cells),(4,m.cells)] A) (fun n cp=>?_) fun e6=>?_)
   ·intro i hi P row A hA hP ba dn hil;refine rg ?_;refine Zb (Zu rfl trivial (fun c6=>?_) (fun c6=>?_))
    ·simp only[decide_eq_true_eq]at c6;have d0:i<l.length:=by omega
     have ew:P.length=v.parts.length:=ZiO ba;have au:i<P.length:=by omega
     have dm:=hA.mn.len5;obtain⟨pi,ce,d2,c1,ee,bq⟩:=(hA.mn.kid i au).cells4;have ec:(v.setPs P).parts=P:=rfl;rw[ec]at dm ce d2 c1 bq;have a4:=hA.mn.b;rw[ec]at a4;have dc:=ZoR (X:=X) (k:=4) dm au (by omega);rw[ce]at dc;have dh:(Yx row P.length++X).length=P.length*5+X.length:=by rw[ZD8,Qd dm]
     have bf:=hA.a5;rw[co]at bf;have c9:l.getD i dE∈m.fields:=by
      have h1:l.getD i dE∈vfs m.fields:=by rw[hl];exact ZC d0
      exact(List.mem_filter.1 h1).1
     generalize db:l.getD i dE=f0 at *;refine xA (nd2 @atF (nd2 @db (nd2 @J5 @ZcM))) ?_;refine rx (nd2 @bf (nd2 @a4 @dc)) ?_;refine⟨by omega,by omega,ee,?_⟩;refine rx @eQ0 ?_;obtain⟨x0,aq⟩:∃x0,x0=P.getD i dE:=⟨_,rfl⟩;refine jU [0] (fun Q=>∀A',FI T A' v l (P.set i (Qp rec d f0 x0)) c fp x cap row f X z5 z6 z7→Q F [(3,.loc 3 0),(4,.loc 4 0),(5,.d (.ptr z5 0)),(7,.d (.ptr z7 0)),(8,.d (.fn (.func 57) [] [.ptr z7 0])),(9,.d (.int .i64 i)),(10,.loc 10 0),(11,.loc 11 0),(28,.d (Zm l)),(29,.d (.int .i64 l.length)),(30,.d (.int .i64 i))] [(3,d.cells),(4,m.cells),(10,f0.cells),(11,[pi])] A') ?_ fun j1=>?_
     ·clear a4 bf dc hA;intro A' hA;obtain⟨a,ha,hav,_,dq⟩:=JZ (l:=m.fields) (k:=i) (by rw[hl];exact d0);rw[hl,db]at dq;have cm:f0.kind=4∨f0.kind=7∨f0.kind=12→ZU f0.size=true:=fun h=>by rw[dq]at h⊢;exact((hm.at_ ha).size ha h).1
      have ai:Zx x0=Zx (v.parts.getD i dE):=by have:=congrArg (fun L:List Val=>L.getD i (Zx dE)) ba;rw[aq];simpa only[ZEb,List.getElem?_map,Option.getD_map]using this
      have ap:Zx (Qp rec d f0 x0)=Zx x0:=ZmQ hpl;have bt:Z3 (Qp rec d f0 x0)=true:=Zs4 hok (by rw[aq];exact dn _ (ZC au));have hP1p:(P.set i (Qp rec d f0 x0)).map Zx=v.parts.map Zx:=by rw[ZiP (by rw[ap,aq]),ba]
      have dv:=Zrq (i:=i) dn bt;have a3:(P.set i (Qp rec d f0 x0)).getD i dE=Qp rec d f0 x0:=by rw[Zes au,if_pos rfl]
      have bu:JL rec d m P i=ZfE rec d m f0 (P.set i (Qp rec d f0 x0)) i:=by unfold JL;rw[hl,db,←aq]
      have hx1x:(Qp rec d f0 x0).name=x0.name∧(Qp rec d f0 x0).bytes=x0.bytes:=by unfold Qp;split<;>exact⟨rfl,rfl⟩
      have t:=ZfE.eq_1 rec d m f0 (P.set i (Qp rec d f0 x0)) i;rw[hl,a3]at t;have hP1l:(P.set i (Qp rec d f0 x0)).length=v.parts.length:=by rw[List.length_set];exact ew
      generalize hP1:P.set i (Qp rec d f0 x0)=P1 at *;generalize hx1:Qp rec d f0 x0=x1 at *;have c5:=hA.mn.len5;have ae:=hA.mn.kid i (by show i<P1.length;omega);rw[show(v.setPs P1).parts=P1 from rfl]at c5 ae;rw[a3]at ae;obtain⟨de,ak,hpi',_,_,ay⟩:=ae.cells4;have dz:de=pi:=by have:=ak.symm.trans ce;simp only[List.cons.injEq]at this;exact this.2.2.2.2.1
      subst dz;have a4:=hA.mn.b;rw[show(v.setPs P1).parts=P1 from rfl]at a4;have ei:=ZoR (X:=X) (k:=2) c5 (show i<P1.length by omega) (by omega);rw[ak]at ei;have dh:(Yx row P1.length++X).length=P1.length*5+X.length:=by rw[ZD8,Qd c5]
      have bf:=hA.a5;rw[co]at bf;have hfew:=hv.few;have ch:l.length=(v.setPs P1).parts.length:=by rw[show(v.setPs P1).parts=P1 from rfl];omega
      have cs:(v.setPs P1).parts.length≤1000000:=by rw[show(v.setPs P1).parts=P1 from rfl];omega
      refine jU [0,0] (fun Q=>∀A2 row2,FI T A2 v l (ZfE rec d m f0 P1 i) c fp x cap row2 f X z5 z6 z7→Q F [(3,.loc 3 0),(4,.loc 4 0),(5,.d (.ptr z5 0)),(7,.d (.ptr z7 0)),(8,.d (.fn (.func 57) [] [.ptr z7 0])),(28,.d (Zm l)),(29,.d (.int .i64 l.length)),(30,.d (.int .i64 i))] [(3,d.cells),(4,m.cells)] A2) ?_ fun j2=>?_;intro A2 row2 e7;refine gA ?_;have ea:(ZEa (i+1)).foldl (JL rec d m) v.parts=ZfE rec d m f0 P1 i:=by rw[List.range_succ,List.foldl_append,←hP,List.foldl_cons,List.foldl_nil,bu]
      refine Zg ?_;exact cp ((l.length)-(i+1)) (by omega) (i+1) rfl _ _ A2 e7 ea.symm (by rw[←bu,Zf1 hpl,ba]) (by exact Zs3 hok et (by omega) dv) (by omega);refine rx @eQ0 ?_;refine cd (fun h4=>?_) (fun h4=>?_);simp only[decide_eq_true_eq]at h4;rw[if_pos h4]at t;refine xA (nd2 @bf (nd2 @a4 (nd2 @ei (nd2 @Zad @eQ0)))) ?_;refine vV0 ((Zch l f0.size (cm (.inl h4)) x1.bytes.length hA.mn ch cs hA.a5 hA.a6 hA.a7 ⟨hA.ne.1,hA.ne.2.1⟩).V (first:=[]) (caps:=[_])) ?_ ?_;rintro dd S ⟨hr,⟨row',hS⟩,ho⟩;cases hr;refine gR0 ?_;refine Zj (Zj ?_);exact j2 S row' (by rw[t];exact hA.num hS ho);rintro dd S ⟨hr,_⟩;cases hr;simp only[decide_eq_false_iff_not]at h4;rw[if_neg h4]at t;refine rx @eQ0 ?_;refine cd (fun h7=>?_) (fun h7=>?_);simp only[decide_eq_true_eq]at h7;rw[if_pos h7]at t;refine xA (nd2 @ay @eQ0) ?_;refine vV ((Zch l f0.size (cm (.inr (.inl h7))) x1.parts.length hA.mn ch cs hA.a5 hA.a6 hA.a7 ⟨hA.ne.1,hA.ne.2.1⟩).V (first:=[]) (caps:=[_])) ?_ ?_;rintro dd S ⟨hr,⟨row',hS⟩,ho⟩;cases hr;refine gR0 ?_;refine Zj (Zj ?_);exact j2 S row' (by rw[t];exact hA.num hS ho);rintro dd S ⟨hr,_⟩;cases hr;simp only[decide_eq_false_iff_not]at h7;rw[if_neg h7]at t;refine rx (nd2 @ay @eQ0) ?_;refine cd (fun a9=>?_) (fun a9=>?_);simp only[ZD5,decide_eq_true_eq]at a9;have b2:x1.parts.length=1:=by omega
      rw[if_pos ⟨a9.1,b2⟩]at t;have ca:=(bh _ c9).ref (.inr (.inr a9.1));obtain⟨yi,u,al,fi,Xi,ab⟩:=ae.inv (by omega);have bc:de=.msl yi 0 x1.parts.length u 5:=by have:=ak.symm.trans ab.c;simp only[List.cons.injEq]at this;exact this.2.2.2.2.1
      subst bc;have ad:=ab.b;have aj:=ab.kid 0 (by omega);have ac:=ZaI Xi ab.len5 (show 0<x1.parts.length by omega);unfold part at ac;rw[Nat.zero_mul,List.drop_zero]at ac;have cb:=Qd ab.len5;obtain⟨pg,am,_,_,cz,_⟩:=aj.cells4;have bi:VOk x1:=⟨bt,by rw[←JI,ap,ai,JI];exact(hv.part (ZC (by omega))).wt⟩;have em:ZN x1≤nn:=by
       have h1:=Wy (ZC (l:=v.parts) (i:=i) (by omega));have h2:ZN x1=ZN (v.parts.getD i dE):=by rw[←Kf,ap,ai,Kf]
       omega
      have bb:x1.parts.getD 0 dE∈x1.parts:=ZC (by omega);have az:=bi.part bb;have eh:=Wy bb;generalize x1.parts.getD 0 dE=y at *;have dw:∀m':Msg,LdC A' (fi 0) [.agg d.cells,.agg m'.cells,.agg (al 0)] [.agg d.cells,.agg m'.cells,.agg y.cells]:=fun m'=>.cons (.refl _) (.cons (.refl _) (.cons (YD.agg (aj.ld fun _ h=>h)) .nil));have e5:Zf ZDW 25 [.agg d.cells,.agg (Zn d f0.of).cells,.agg y.cells] (Zg6 (Yd d 51 (Zn d f0.of) y [])):=fun st =>
       (ZcI d (Zn d f0.of) y (Yd d 51 (Zn d f0.of) y []) st fun S=>Zci hI hd 51 (ixS d f0.of) y [] S (Zau ca).2 az (by omega) (by simp)).mono fun r S ⟨h1,h2⟩=>⟨h2,h1⟩
      have bx:=ZpV aj.live (dw _) e5 (.agg _ fun c hc=>by simp only[ZEz,List.not_mem_nil,or_false]at hc;rcases hc with rfl|rfl;exact .str _;exact .int _ _);rw[am]at ac bx;refine rx (nd2 @eQ2 @eQ0) ?_;refine cX @eQ3 (Y5 d f0.of ca) ?_;refine aa ?_;refine rx (nd2 @ad (nd2 @ac @Nat.zero_mul)) ?_;refine⟨by omega,by omega,by rw[ZD8,cb];omega,?_⟩;generalize hR:Yd d 51 (Zn d f0.of) y []=R at *;unfold Zg6 at bx;refine cV0 (bx) ?_ ?_;rintro dd S ⟨hr,hS⟩;obtain rfl:=hS.symm;cases hr;refine gR0 ?_;refine rg ?_;refine cd (fun hz=>?_) (fun hz=>?_);simp only[decide_eq_true_eq]at hz;rw[if_pos hz]at t;have fb:=Zcj d hd.dok 51 (Zn d f0.of) y (hd.dok.of f0.of) az.ok az.wt (Zg2 hd.dref 51 (Zn d f0.of) y [] (hd.dref.of f0.of) az.ok (by rw[hR];exact hz));have en:=ZpV aj.live (dw _) fb (.int _ _);rw[am]at en;generalize lenS d 51 (Zn d f0.of) y=len at *;refine rx (nd2 @ad (nd2 @ac (nd2 @Nat.zero_mul (nd2 @eQ0 @eQ2)))) ?_;refine⟨by omega,by omega,by rw[ZD8,cb];omega,?_⟩;refine cVD (en) ?_ ?_;rintro dd S ⟨hr,hS⟩;obtain rfl:=hS.symm;cases hr;refine kF ?_;refine gR0 ?_;refine vVD ((Zch l f0.size (cm (.inr (.inr a9.1))) len hA.mn ch cs hA.a5 hA.a6 hA.a7 ⟨hA.ne.1,hA.ne.2.1⟩).V (first:=[]) (caps:=[_])) ?_ ?_;rintro dd S ⟨hr,⟨row',hS⟩,ho⟩;cases hr;refine kF ?_;refine gR0 ?_;refine Zj (Zj ?_);exact j2 S row' (by rw[t];exact hA.num hS ho);rintro dd S ⟨hr,_⟩;cases hr;rintro dd S ⟨hr,_⟩;cases hr;simp only[decide_eq_false_iff_not]at hz;rw[if_neg hz]at t;refine Zy ?_;refine kE [3,4,5,7,8,28,29,30] ?_;refine Zj (Zj ?_);exact j2 A' row (by rw[t];exact hA);rintro dd S ⟨hr,_⟩;cases hr;rw[if_neg (by simp only[ZEF,decide_eq_false_iff_not]at a9;omega)]at t;refine rx (nd2 @ay @eQ0) ?_;refine cd (fun h9=>?_) (fun h9=>?_)
      ·simp only[ZD5,decide_eq_true_eq]at h9;have b2:x1.parts.length=1:=by omega
       rw[if_pos ⟨h9.1,b2⟩]at t;obtain⟨yi,u,al,fi,Xi,ab⟩:=ae.inv (by omega);have bc:de=.msl yi 0 x1.parts.length u 5:=by have:=ak.symm.trans ab.c;simp only[List.cons.injEq]at this;exact this.2.2.2.2.1
       have bi:VOk x1:=⟨bt,by rw[←JI,ap,ai,JI];exact(hv.part (ZC (by omega))).wt⟩;have em:ZN x1≤nn:=by
        have h1:=Wy (ZC (l:=v.parts) (i:=i) (by omega));have h2:ZN x1=ZN (v.parts.getD i dE):=by rw[←Kf,ap,ai,Kf]
        omega
       have bb:x1.parts.getD 0 dE∈x1.parts:=ZC (by omega);have az:=bi.part bb;have eh:=Wy bb;have ad:=ab.b;have aj:=ab.kid 0 (by omega);obtain⟨pg,am,_,_,cz,_⟩:=aj.cells4;rw[b2]at ad bc;have hpr:=ad;rw[show Yx al 1=al 0 from rfl,am]at ad;have d8:∃y,x1.parts=[y]:=by
        match hp:x1.parts,b2 with
        | [y],_=>exact⟨y,rfl⟩
       obtain⟨y,a0⟩:=d8;rw[a0,show([y]:List Val).getD 0 dE=y from rfl]at ad aj am t bb az eh;subst bc;refine Zb ?_;refine xP 11 fun af bn=>?_;obtain⟨k1,k2,k3,k4⟩:=hA.live (by omega) bn;have ed:T af=nO:=by rw[←hA.out af k1 k2 k3 k4];exact bn
       have eu:yi≠af:=fun e=>by rw[e,bn]at ad;simp at ad
       have hB:=hA.box (by omega) bn (.cells [.msl yi 0 1 u 5]);have d6:(A'.upd af (.cells [.msl yi 0 1 u 5])) yi=sO (.cells ([.str y.name,.int .i64 y.int,ZL y.bytes,ZX y.hdrs,pg]++Xi)):=by rw[ZD6 _ _ eu];exact ad
       have dr:(A'.upd af (.cells [.msl yi 0 1 u 5])) af=sO (.cells [.msl yi 0 1 u 5]):=ZD4 _ _ _;generalize fh:A'.upd af (.cells [.msl yi 0 1 u 5])=B0 at *;have da:A'.sub B0:=by rw[←fh];exact ZEl _ bn
       have ax:=ZnQ.eq_1 rec d m f0 P1 i y;rw[hl]at ax;refine rx @eQ0 ?_;refine QT rfl rfl rfl rfl rfl (by trivial) (by trivial) (by exact ZaD f0.cases (.fn (.func 60) [] [.ptr af 0]) (fun c=>dC (c.of=y.name)) (fun _=>B0) (fun q _=>(Zm8 _ dr (by omega) d6 (by simp)).VT (first:=[]) (args:=[_]) (caps:=[_]))) (Zl ?_);simp only[Eqs,reduceCtorEq,ZD2,reduceIte,ZD0,ZD3,ZD1];refine rg ?_;generalize ek:Zi (fun c:Yb=>dC (c.of=y.name)) f0.cases=ci at *;refine cd (fun b1=>?_) (fun b1=>?_);simp only[decide_eq_true_eq]at b1;rw[if_pos b1]at ax;refine ZQ rfl ?_;refine kE [3,4,5,7,8,28,29,30] ?_;refine Kc (s':=A') da ?_;exact j2 A' row (by rw[t,ax];exact hA);simp only[decide_eq_false_iff_not]at b1;rw[if_neg b1]at ax;dsimp only at ax;have er:0≤Zi (fun c:Yb=>dC (c.of=y.name)) f0.cases:=by rw[ek];omega
       have dx:=Wv (fun c:Yb=>dC (c.of=y.name)) f0.cases;have bw:=(QY er).1;rw[ek]at dx bw;simp only[decide_eq_true_eq]at bw;have cv:0≤ZF d y.name d.msgs.length:=by rw[←bw];exact(bh _ c9).cas h9.1 _ (ZC (by omega))
       have d3:=hB.a5;rw[co]at d3;obtain⟨pv,fd,eo,_,_,_⟩:=(hB.mn.mt (by show 0<P1.length;omega)).cells4;have eb:pv=.msl x 0 v.parts.length cap 5:=by have:=fd.symm.trans co;simp only[List.cons.injEq]at this;exact this.2.2.2.2.1
       subst eb;have cw:=ZvZ (hB.mn.mt (by show 0<P1.length;omega)) eo m cy (by omega) (by rw[hl];exact ch);rw[show(v.setPs P1).parts=P1 from rfl]at cw;refine rx (nd2 @d3 (nd2 @eQ0 @eQ3)) ?_;have e1:=YR (vD:=W9) ZT f0.tag (Q6 m P1);have e3:=Y1 ZT f0.tag;simp only[show Ks f0.tag=D.str f0.tag from rfl]at e1 e3;have dg:=ZgA f0 ((Zr f0.tag (Q6 m P1)).getD 0);generalize ef:KK f0 ((Zr f0.tag (Q6 m P1)).getD 0)=has at *;refine cVD (cw) ?_ ?_;rintro dd S ⟨b,e2,hr,hS⟩;subst hS;cases hr;refine kF ?_;refine gQ (nd2 @ZD4 (nd2 @e1 (nd2 @e3 @ZjS))) ?_;refine aa ?_;refine clD (dg) ?_;refine Kc (s':=B0) (ZEl _ e2) ?_;have hasl:has<f0.cases.length:=by rw[←ef];exact Wv _ _
       refine rx (nd2 @dr (nd2 @d6 (nd2 @Nat.zero_mul (nd2 @Zzo @Yb.cells.eq_1)))) ?_;refine⟨fun h=>by simp only[decide_eq_true_eq]at h;exact⟨by omega,by omega⟩,fun _=>⟨by omega,by omega⟩,?_⟩;obtain⟨P2,be⟩:∃P2,P2=(if has<0∨(f0.cases.getD has.toNat dE).of≠y.name then Jl l f0.tag (f0.cases.getD ci.toNat dE).low P1 else P1):=⟨_,rfl⟩;rw[←be]at ax;have c2:P2=P1∨P2=Jl l f0.tag (f0.cases.getD ci.toNat dE).low P1:=by rw[be];split;exact .inr rfl;exact .inl rfl
       have hP2l:P2.length=P1.length:=by rcases c2 with h|h<;>rw[h];exact ZeL
       have ag:(P2.getD i dE).parts=[y]:=by rcases c2 with h|h;rw[h,a3];exact a0;rw[h,Zhs (by omega),a3];split;exact a0;exact a0
       refine jU [0] (fun Q=>∀A3 ao,FI (T.upd af (.cells [.msl yi 0 1 u 5])) A3 v l P2 c fp x cap ao f X z5 z6 z7→(ao i)[4]?=(row i)[4]?→Q F [(3,.loc 3 0),(4,.loc 4 0),(5,.d (.ptr z5 0)),(7,.d (.ptr z7 0)),(8,.d (.fn (.func 57) [] [.ptr z7 0])),(11,.d (.ptr af 0)),(28,.d (Zm l)),(29,.d (.int .i64 l.length)),(30,.d (.int .i64 i))] [(3,d.cells),(4,m.cells)] A3) ?_ fun j3=>?_;intro A3 ao hC c3;have e8:A3 af=sO (.cells [.msl yi 0 1 u 5]):=by rw[hC.out af k1 k2 k3 k4];exact ZD4 _ _ _
       have bp:=hC.mn.kid i (by show i<P2.length;omega);rw[show(v.setPs P2).parts.getD i dE=P2.getD i dE from rfl]at bp;obtain⟨yj,c0,bl,fj,Xj,bo⟩:=bp.inv (by rw[ag];exact Nat.zero_lt_one);have fc:=bo.c;have d4:D.msl yj 0 (P2.getD i dE).parts.length c0 5=.msl yi 0 1 u 5:=by
        have h1:(ao i)[4]?=sO (D.msl yj 0 (P2.getD i dE).parts.length c0 5):=by rw[fc];rfl
        rw[c3,ak]at h1;simp only[List.getElem?_cons_succ,List.getElem?_cons_zero,ZDV]at h1;exact h1.symm
       simp only[D.msl.injEq]at d4;obtain⟨rfl,_,_,_,_⟩:=d4;have dt:=bo.b;have c4:=bo.kid 0 (by rw[ag];exact Nat.zero_lt_one);rw[ag,show([y]:List Val).getD 0 dE=y from rfl]at c4;obtain⟨pj,b0,_,_,hjok,_⟩:=c4.cells4;rw[ag,show Yx bl [y].length=bl 0 from rfl,b0]at dt;have ah:=hrec y.name y A3 (bl 0) (fj 0) cv az (by omega) c4;rw[b0]at ah;refine rx (nd2 @e8 (nd2 @dt (nd2 @Nat.zero_mul @eQ2))) ?_;refine⟨by omega,by omega,by omega,by omega,?_⟩;refine clD (Y5 d y.name cv) ?_;refine cVD (ah) ?_ ?_;rintro dd S ⟨hr,cj,ho⟩;cases hr;rw[←b0]at cj;refine kF ?_;refine gR0 ?_;have di:=bo.subK (i:=0) (by rw[ag];exact Nat.zero_lt_one) cj ho;have br:=hC.sub (i:=i) (by omega) di (fun q hq=>ho q fun hf=>hq (bo.fmem (by rw[ag];exact Nat.zero_lt_one) hf));have fa:(P2.getD i dE).setP 0 (rec (Zn d y.name) y)=(P2.getD i dE).setPs [rec (Zn d y.name) y]:=by unfold Val.setP Val.setPs;rw[ag];rfl
       rw[fa,←ax,←t]at br;obtain⟨bx,fg⟩:=br.unbox k1 ⟨k2,k3,k4⟩ ed;refine Zj (Zj ?_);refine Kc fg ?_;exact j2 _ ao bx;rintro dd S ⟨hr,_⟩;cases hr;have e4:(max has 0).toNat=has.toNat:=by omega
       rw[e4];refine cd (fun av=>?_) (fun av=>?_);have aw:has<0∨(f0.cases.getD has.toNat dE).of≠y.name:=by simp only[ZEk,Bool.not_eq_true',decide_eq_false_iff_not]at av;rcases av with h|h;exact .inl (by omega);exact .inr h
       rw[if_pos aw]at be;have ez:=hB.a7;refine rx (nd2 @ez (nd2 @eQ0 (nd2 @Zzo @Yb.cells.eq_1))) ?_;refine⟨by omega,by omega,?_⟩;refine vV0 ((ZeM l f0.tag (f0.cases.getD ci.toNat dE).low hB.mn ch cs hB.a5 hB.a6 ⟨hB.ne.1,hB.ne.2.1⟩).V (first:=[]) (caps:=[_,_])) ?_ ?_;rintro dd S ⟨hr,⟨row',ff,hS⟩,ho⟩;cases hr;refine gR0 ?_;refine j3 S row' (by rw[be];exact hB.num hS ho) ?_;rcases ff i (by show i<P1.length;omega) with h|h;rw[h];rw[h,ak];rfl;rintro dd S ⟨hr,_⟩;cases hr;have aw:¬(has<0∨(f0.cases.getD has.toNat dE).of≠y.name):=by simp only[Bool.or_eq_false_iff,Bool.not_eq_false',decide_eq_true_eq]at av;intro h;rcases h with h|h;omega;exact h av.2
       rw[if_neg aw]at be;refine Zy ?_;refine kE [3,4,5,7,8,11,28,29,30] ?_;exact j3 B0 row (by rw[be];exact hB) rfl;rintro dd S ⟨_,_,hr,_⟩;cases hr
      rw[if_neg (by simp only[ZEF,decide_eq_false_iff_not]at h9;omega)]at t;refine Zy ?_;refine kE [3,4,5,7,8,28,29,30] ?_;refine Zj (Zj ?_);exact j2 A' row (by rw[t];exact hA)
     have es:x0∈P:=by rw[aq];exact ZC au
     have bz:P.set i x0=P:=by rw[aq];exact ZrK
     have ai:Zx x0=Zx (v.parts.getD i dE):=by have:=congrArg (fun L:List Val=>L.getD i (Zx dE)) ba;rw[aq];simpa only[ZEb,List.getElem?_map,Option.getD_map]using this
     have eg:v.parts.getD i dE∈v.parts:=ZC (by omega);have cx:VOk x0:=⟨dn _ es,by rw[←JI,ai,JI];exact(hv.part eg).wt⟩;have hx0h:ZN x0≤nn:=by
      have h1:=Wy eg;have h2:ZN x0=ZN (v.parts.getD i dE):=by rw[←Kf,ai,Kf]
      omega
     have hx0few:=cx.few;rw[←aq]at ce d2 c1 bq;refine cd (fun hk=>?_) (fun hk=>?_);have cn:f0.kind=7∨f0.kind=8∨f0.kind=12:=by simp only[ZEk,decide_eq_true_eq]at hk;omega
     have ca:=(bh _ c9).ref cn;refine rx @bq ?_;refine Zc (fr (x0.parts.length) (fun j Q0=>∀A1 Q,FI T A1 v l (P.set i (x0.setPs Q)) c fp x cap row f X z5 z6 z7→Q.length=x0.parts.length→(∀q,q<x0.parts.length→Q.getD q dE=if q<j∧(x0.parts.getD q dE).name=f0.of then rec (Zn d f0.of) (x0.parts.getD q dE) else x0.parts.getD q dE)→j≤x0.parts.length→Q0 [(3,.loc 3 0),(4,.loc 4 0),(5,.d (.ptr z5 0)),(7,.d (.ptr z7 0)),(8,.d (.fn (.func 57) [] [.ptr z7 0])),(9,.d (.int .i64 i)),(10,.loc 10 0),(11,.loc 11 0),(28,.d (Zm l)),(29,.d (.int .i64 l.length)),(30,.d (.int .i64 i)),(54,.d pi),(55,.d (.int .i64 x0.parts.length)),(56,.d (.int .i64 j))] [(3,d.cells),(4,m.cells),(10,f0.cells),(11,[pi])] A1) (fun n ar=>?_) fun du=>?_);intro j hj A1 Q cu dj hQ hjl;refine rg ?_;refine Zb (Zu rfl trivial (fun c7=>?_) (fun c7=>?_));simp only[decide_eq_true_eq]at c7;have a8:j<Q.length:=by omega
     have eq:(P.set i (x0.setPs Q)).getD i dE=x0.setPs Q:=by rw[Zes au,if_pos rfl]
     have ae:=cu.mn.kid i (by show i<(P.set i (x0.setPs Q)).length;rw[List.length_set];exact au);rw[show(v.setPs (P.set i (x0.setPs Q))).parts.getD i dE=x0.setPs Q from eq]at ae;obtain⟨yi,u,al,fi,Xi,ab⟩:=ae.inv (by show 0<Q.length;omega);have bc:pi=.msl yi 0 Q.length u 5:=by have:=ce.symm.trans ab.c;simp only[List.cons.injEq]at this;exact this.2.2.2.2.1
     subst bc;have ad:=ab.b;rw[show(x0.setPs Q).parts=Q from rfl]at ad;have aj:=ab.kid j a8;rw[show(x0.setPs Q).parts=Q from rfl]at aj;have ac:=ZaI Xi ab.len5 a8;rw[show(x0.setPs Q).parts=Q from rfl]at ac;unfold part at ac;have cb:=Qd ab.len5;rw[show(x0.setPs Q).parts=Q from rfl]at cb;obtain⟨pg,am,_,_,cz,_⟩:=aj.cells4;rw[am]at ac;refine rx (nd2 @ad @ac) ?_;refine⟨by omega,by omega,by rw[ZD8,cb];omega,?_⟩;have cr:=hQ j (by omega);rw[if_neg (by omega)]at cr;have d5:Q.getD j dE∈x0.parts:=by rw[cr];exact ZC (by omega)
     have ey:=cx.part d5;have hgh:=Wy d5;have ah:=hrec f0.of (Q.getD j dE) A1 (al j) (fi j) ca ey (by omega) aj;rw[am]at ah;have d9:∀Q':List Val,(∀q,q<x0.parts.length→q≠j→Q'.getD q dE=Q.getD q dE)→(Q'.getD j dE=if (x0.parts.getD j dE).name=f0.of then rec (Zn d f0.of) (x0.parts.getD j dE) else x0.parts.getD j dE) →
       ∀q,q<x0.parts.length→Q'.getD q dE=if q<j+1∧(x0.parts.getD q dE).name=f0.of then rec (Zn d f0.of) (x0.parts.getD q dE) else x0.parts.getD q dE:=fun Q' h1 h2 q hq=>by
      by_cases cg:q=j;subst cg;rw[h2];simp;rw[h1 q hq cg,hQ q hq];simp only[show(q<j+1)=(q<j) from propext (by omega)]
     generalize ep:Q.getD j dE=g at *;refine rx @eQ0 ?_;refine cd (fun bv=>?_) (fun bv=>?_);simp only[decide_eq_true_eq]at bv;refine rx (nd2 @eQ2 @eQ0) ?_;refine clD (Y5 d f0.of ca) ?_;refine cVD (ah) ?_ ?_;rintro dd S ⟨hr,cj,ho⟩;cases hr;rw[←am]at cj;refine kF ?_;refine gR0 ?_;have di:=ab.subK (i:=j) a8 cj ho;have br:=cu.sub (i:=i) (by rw[List.length_set];exact au) di (fun y hy=>ho y fun hf=>hy (ab.fmem a8 hf));rw[List.set_set,show(x0.setPs Q).setP j (rec (Zn d f0.of) g)=x0.setPs (Q.set j (rec (Zn d f0.of) g)) from rfl]at br;refine gA ?_;refine Zg ?_;exact ar ((x0.parts.length)-(j+1)) (by omega) (j+1) rfl S _ br (by rw[List.length_set];exact dj) (d9 _ (fun q hq cg=>by rw[Zes a8,if_neg cg]) (by rw[Zes a8,if_pos rfl,←cr,if_pos bv])) (by omega);rintro dd S ⟨hr,_⟩;cases hr;simp only[decide_eq_false_iff_not]at bv;refine gA ?_;refine Zg ?_;exact ar ((x0.parts.length)-(j+1)) (by omega) (j+1) rfl A1 Q cu dj (d9 Q (fun q hq cg=>rfl) (by rw[ep,←cr,if_neg bv])) (by omega);simp only[decide_eq_false_iff_not]at c7;obtain rfl:j=x0.parts.length:=by omega
     have e0:Q=x0.parts.map fun y=>if y.name=f0.of then rec (Zn d f0.of) y else y:=by
      refine List.ext_getElem (by simp[dj]) fun q h1 h2=>?_;have hq:q<x0.parts.length:=by simpa using h2
      have h3:=hQ q hq;simp only[hq,true_and]at h3;rw[List.getElem_map];simpa[ZEb,h1,hq]using h3
     refine ZQ rfl ?_;refine kE [3,4,5,7,8,9,10,11,28,29,30] ?_;refine j1 A1 ?_;unfold Qp;rw[if_pos cn,←e0];exact cu;refine du _ 0 rfl A x0.parts ?_ rfl (fun q hq=>by rw[if_neg (by omega)]) (by omega);rw[JK,bz];exact hA;refine Zy ?_;refine kE [3,4,5,7,8,9,10,11,28,29,30] ?_;refine j1 A ?_;have cn:¬(f0.kind=7∨f0.kind=8∨f0.kind=12):=by simp only[Bool.or_eq_false_iff,decide_eq_false_iff_not]at hk;omega
     unfold Qp;rw[if_neg cn,bz];exact hA
    simp only[decide_eq_false_iff_not]at c6;obtain rfl:i=l.length:=by omega
    refine ZQ rfl ?_;refine hF.fin (.tup []) (fun y=>if y=z5∨y=z6∨y=z7 then T y else A y) rfl trivial (ZDZ _) (fun y o hy=>?_) ⟨rfl,?_,fun y hy=>?_⟩;dsimp only at hy;split at hy;next h=>rcases h with rfl|rfl|rfl<;>simp_all
    exact hy;rw[←hG,←bg,←hP];refine(hA.mn.mt (by show 0<P.length;rw[ZiO ba];omega)).mono fun y hy=>?_;rw[if_neg fun h=>by rcases h with rfl|rfl|rfl;exact hA.n5 hy;exact hA.n6 hy;exact hA.n7 hy];dsimp only;split;rfl;next h=>simp only[not_or]at h;exact hA.out y hy h.1 h.2.1 h.2.2
   exact e6 _ 0 rfl v.parts ZrI S0 ⟨by rw[JK];exact dy,g5,g6,g7,nf _ t5,nf _ h6,nf _ t7,fun y _ k5 k6 k7=>go y k5 k6 k7⟩ rfl rfl (ZbC.1 hv.ok).1 (by omega)
 rintro dd S ⟨hr,_⟩;cases hr
theorem ZhM(hI:Q8){d:Dfn}(hd:WA d):∀(n im:Nat) (v:Val) (T:St) (c:List D) (fp:List Nat),im<d.msgs.length→VOk v→ZN v≤n→n≤51→MT T v c fp →
  Za ZDW 24 [.agg d.cells,.agg (d.msgs.getD im dE).cells,.agg c] T (Zk5 (Wc d n (d.msgs.getD im dE) v) T c fp)
 |0,_,v,_,_,_,_,_,hh,_,_=>by have:=K7 v;omega
 |n+1,im,v,T,c,fp,him,hv,hh,hn,hM =>
  Zm9 hI hd n im him (Wc d n) v hv hh (by omega) (fun s y=>JH n _ y) (fun s y h=>ZjX (Ztg hd) n s y h) (fun s g T c fp hs hg hh hM=>ZhM hI hd n (ixS d s) g T c fp (Zau hs).2 hg hh (by omega) hM) hM
def ZnB:D:=.agg [.str [],.int .i64 0,.nilsl,.nilsl,.nilsl]
def ZaH(d:Dfn)(s:Str)(v:Val):D×Int :=
 if Kq d&&Kp v then (if ZF d s d.msgs.length<0 then (ZnB,9) else
  if (Yd d 51 (Zn d s) (Wc d 51 (Zn d s) v) []).2=0 then (.agg (Wc d 51 (Zn d s) v).cells,0) else (ZnB,(Yd d 51 (Zn d s) (Wc d 51 (Zn d s) v) []).2)) else (ZnB,2)
theorem ZhL(hI:Q8)(d:Dfn)(s:Str)(v:Val)(hs:Z3 v=true→wtN v≤5000∧ZN v≤51):
  Zf ZDW 8 [.agg d.cells,.str s,.agg v.cells] (.tup [(ZaH d s v).1,.int .i64 (ZaH d s v).2]):=by
 refine Zo (cR 8 f8) fun F st i=>?_;have hA:=ZkV d s v;have hS:=ZaH.eq_1 d s v;have hT:=atR.eq_1 d s v;generalize ZaH d s v=W at *;generalize atR d s v=X at *;cases ha:Kq d&&Kp v with
 |false =>rw[ha,if_neg (by simp)]at hS hT;subst hS;subst hT;rw[ZEg]at *;refine rx @eQ2 ?_;refine rg ?_;refine cl (hA) ?_;refine rg ?_;refine i1 ?_;refine rg ?_;refine rt i ?_;rfl
 |true =>
  rw[ha,if_pos rfl]at hS hT;by_cases hf:ZF d s d.msgs.length<0;rw[if_pos hf]at hS hT;subst hS;subst hT;rw[ZEg]at *;refine rx @eQ2 ?_;refine rg ?_;refine cl (hA) ?_;refine rg ?_;refine i1 ?_;refine rg ?_;refine rt i ?_;rfl;rw[if_neg hf]at hS hT;subst hT;simp only[ZD5]at ha;have ad:=Zau (d:=d) (s:=s) (by omega);have hd:=JP ha.1;obtain⟨hv,hh⟩:=Zdu ha.2 hs;have ah:VOk (Wc d 51 (Zn d s) v):=Zlo hd hv;have aj:ZN (Wc d 51 (Zn d s) v)≤51:=by rw[ZfL];exact hh
  have ai:Zf ZDW 25 [.agg d.cells,.agg (Zn d s).cells,.agg (Wc d 51 (Zn d s) v).cells] (Zg6 (Yd d 51 (Zn d s) (Wc d 51 (Zn d s) v) [])):=fun st =>
   (ZcI d (Zn d s) _ _ st fun S=>Zci hI hd 51 (ixS d s) _ [] S ad.2 ah aj (by simp)).mono fun r S ⟨h1,h2⟩=>⟨h2,h1⟩
  have j:=fun T c fp=>ZhM hI hd 51 (ixS d s) v T c fp ad.2 hv hh (by omega);rw[show d.msgs.getD (ixS d s) dE=Zn d s from rfl]at j;have u:=ZpM v hv st;generalize Wc d 51 (Zn d s) v=w at *;rw[ZEg v]at *;refine rx @eQ2 ?_;refine rg ?_;refine cX @eQ3 (hA) ?_;refine aa ?_;refine rg ?_;refine iG ?_;refine cV (u) ?_ ?_;rintro dd S ⟨c,fp,hr,hM,ag,ab⟩;cases hr;obtain⟨p,hc,_,_,hpok,_⟩:=hM.cells4;have ac:=j S c fp hM;rw[hc]at ac hM⊢;refine gR0 ?_;refine aa ?_;refine rx (nd2 @eQ2 @eQ3) ?_;refine cV (ac) ?_ ?_;rintro dd S2 ⟨hr,n,z⟩;cases hr;have ae:=ZpV n.live (.cons (.refl (.agg d.cells)) (.cons (.refl (.agg (Zn d s).cells)) (.cons (YD.agg (n.ld fun _ h=>h)) .nil))) ai (.agg _ fun c hc=>by simp only[ZEz,List.not_mem_nil,or_false]at hc;rcases hc with rfl|rfl;exact .str _;exact .int _ _);generalize Yd d 51 (Zn d s) w []=R at *;unfold Zg6 at ae;refine gR0 ?_;refine rx (nd2 @eQ2 @eQ3) ?_;refine cV (ae) ?_ ?_;rintro dd S3 ⟨hr,ak⟩;obtain rfl:=ak.symm;cases hr;refine gR0 ?_;refine rg ?_;have af:∀b,b∉fp→S2 b=st b:=fun b hb=>by rw[z b hb,ab b hb]
  have t:(∀b,b∉fp→S2 b=st b)→st.sub S2:=fun h b o hb=>by rw[h b fun hm=>by rw[ag b hm]at hb;simp at hb];exact hb
  refine cd (fun hz=>?_) (fun hz=>?_);simp only[Bool.not_eq_true',decide_eq_false_iff_not]at hz;rw[if_neg hz]at hS;subst hS;refine rg ?_;exact i rfl (by first|trivial|simp) (ZDZ _) (t af);simp at hz;rw[if_pos hz]at hS;subst hS;refine rg ?_;refine Zh1 fp n.live (LdE.refl _) (.cons (n.ld fun _ h=>h) .nil) ?_;exact i rfl (by rw[ZEg];exact⟨by simp,trivial,trivial⟩) (by rw[ZEg];exact ZDZ _) (fun b o hb=>by unfold St.delL;rw[if_neg fun hm=>by rw[ag b hm]at hb;simp at hb];exact t af b o hb);rintro dd S3 ⟨hr,_⟩;cases hr;rintro dd S2 ⟨hr,_⟩;cases hr;rintro dd S ⟨_,_,hr,_⟩;cases hr
theorem Zgs(v:Val):VOk v→Zf ZDW 16 [.agg v.cells] (.agg (Zx v).cells):=by
 induction v using Val.ind with
 |h v ih =>
  intro hv;have hsp:=hv.sm.p;have af:(Zx v).cells=[.str v.name,.int .i64 0,ZL v.bytes,ZX v.hdrs,ZW (v.parts.map Zx)]:=by rw[Js,ZEg];rfl
  rw[af,v.cells_eq];refine Zo (cR 16 f16) fun F st ae=>?_;refine rx @ZW.eq_1 ?_;refine gG ?_;refine gG ?_;refine kl (st) [(1,.loc 1 0),(2,.loc 2 0),(3,.d (ZW v.parts)),(4,.d (.int .i64 (0:Nat)))] [(1,[.str v.name,.int .i64 0,ZL v.bytes,ZX v.hdrs,.sl .full 0 5 fun _=>[]]),(2,[.str [],.int .i64 0,.nilsl,.nilsl,.nilsl])] (Qj _) (.cons (.cons (ZDZ _) (.cons (ZDZ _) (.cons (ZDZ _) (.cons (ZDZ _) (.cons (Kk fun b h=>by cases h) .nil))))) (Zaj _)) ?_;refine Zc (fr (v.parts.length) (fun i Q=>∀tk row j,tk.okIn st→Z0 Val.cells row j→j=(v.parts.take i).map Zx→i≤v.parts.length→Q [(1,.loc 1 0),(2,.loc 2 0),(3,.d (ZW v.parts)),(4,.d (.int .i64 i))] [(1,[.str v.name,.int .i64 0,ZL v.bytes,ZX v.hdrs,.sl tk j.length 5 row]),(2,[.str [],.int .i64 0,.nilsl,.nilsl,.nilsl])] (st.own tk (j.length*5))) (fun n z=>?_) fun ah=>?_);intro i hn tk row j htk ac t hi;have hol:j.length=i:=by rw[t,List.length_map,ZEh];omega
  refine rx @ZW.eq_1 ?_;refine cd (fun hd=>?_) (fun hd=>?_);simp only[decide_eq_true_eq]at hd;have ab:i<v.parts.length:=by omega
  have ag:=Qq (l:=v.parts) (i:=i) ab;have hc:=ih _ (ZC ab) (hv.part (ZC ab));have ad:(v.parts.take (i+1)).map Zx=(v.parts.take i).map Zx++[Zx (v.parts.getD i dE)]:=by rw[YJ ab,List.map_append];rfl
  generalize v.parts.getD i dE=x at *;rw[ZEg x]at hc;refine xA (nd2 @ZW.eq_1 @ag) ?_;refine clD (hc) ?_;refine⟨by simp[Val.len],?_⟩;refine ZxZ (st) (tk) rfl rfl rfl rfl rfl rfl (by trivial) (by trivial) rfl (by first|trivial|assumption) (by omega) (by (unfold big;omega)) fun t1 ai=>⟨by first|trivial|exact⟨rfl,trivial⟩|simp[Eqs,reduceCtorEq,ZD2,reduceIte,ZD0,ZD3,ZD1],Yy ?_⟩;simp only[Eqs,reduceCtorEq,ZD2,reduceIte,ZD0,ZD3,ZD1];refine⟨by rw[Zfn];trivial,?_⟩;refine gA ?_;refine Zg ?_;have u:=z ((v.parts.length)-(i+1)) (by omega) (i+1) rfl t1 _ (j++[Zx x]) ai (ac.snoc (x:=Zx x) (row2:=Z8 [.str [],.int .i64 0,.nilsl,.nilsl,.nilsl] ([0].zip [.agg (Zx x).cells])) rfl rfl) (by rw[ad,t]) (by omega);rw[ZD8]at u;exact u;simp only[decide_eq_false_iff_not]at hd;obtain rfl:i=v.parts.length:=by omega
  rw[ZEy]at t;refine ZQ rfl (Zb ?_);refine kE [1,2] ?_;refine kl (st.own tk (j.length*5)) [(1,.loc 1 0),(2,.loc 2 0)] [(1,[.str v.name,.int .i64 0,ZL v.bytes,ZX v.hdrs,ZW (v.parts.map Zx)]),(2,[.str [],.int .i64 0,.nilsl,.nilsl,.nilsl])] (Qj _) (.cons (.cons (ZDZ _) (.cons (ZDZ _) (.cons (ZDZ _) (.cons (ZDZ _) (.cons (by rw[←t];exact ZtB rfl fun i hi=>by rw[ac i hi,Zdj hi]) .nil))))) (Zaj _)) ?_;refine rg ?_;refine ro ae ?_;rfl;exact ah _ 0 rfl .full _ [] trivial Z0.nil rfl (by omega)
mutual
def ZhF:Val→Val→Int
 |.mk n i b h p,.mk n2 i2 b2 h2 p2=>if WH n n2≠0 then WH n n2 else if Kz i i2≠0 then Kz i i2 else if WH b b2≠0 then WH b b2 else if JC h h2≠0 then JC h h2 else vcmpL p p2
def vcmpL:List Val→List Val→Int
 |x::a,y::b=>if ZhF x y≠0 then ZhF x y else vcmpL a b
 | [],[]=>0
 | [],_::_=>-1
 |_::_,[]=>1
end
theorem Zto(v w:Val):ZhF v w=if WH v.name w.name≠0 then WH v.name w.name else if Kz v.int w.int≠0 then Kz v.int w.int else if WH v.bytes w.bytes≠0 then WH v.bytes w.bytes else
  if JC v.hdrs w.hdrs≠0 then JC v.hdrs w.hdrs else vcmpL v.parts w.parts:=by
 cases v;cases w;rfl
theorem Zu1{a:List Val}(ih:∀x∈a,∀w,ZhF x w=0↔x=w):∀b,vcmpL a b=0↔a=b:=by
 induction a with
 |nil=>intro b;cases b<;>simp[vcmpL]
 |cons x a ih2 =>
  intro b;cases b with
  |nil=>simp[vcmpL]
  |cons y b =>have h1:=ih x (by simp) y;have h2:=ih2 (fun z hz=>ih z (by simp[hz])) b;unfold vcmpL;split;rename_i h;constructor;intro h';exact absurd h' h;intro h';simp only[List.cons.injEq]at h';exact absurd (h1.2 h'.1) h;rename_i h;simp only[Decidable.not_not]at h;rw[h2,List.cons.injEq];exact⟨fun e=>⟨h1.1 h,e⟩,fun e=>e.2⟩
theorem Zjz(v:Val):∀w,ZhF v w=0↔v=w:=by
 induction v using Val.ind with
 |h v ih =>
  intro w;have h5:=Zu1 ih w.parts;have h1:=@Zdt v.name w.name;have h2:=@Zde v.int w.int;have h3:=@Zdt v.bytes w.bytes;have h4:=@ZoY v.hdrs w.hdrs;have he:v=w↔(v.name=w.name∧v.int=w.int∧v.bytes=w.bytes∧v.hdrs=w.hdrs∧v.parts=w.parts):=by cases v;cases w;simp[Val.name,Val.int,Val.bytes,Val.hdrs,Val.parts]
  rw[Zto,he];split;rename_i h;exact⟨fun h'=>absurd h' h,fun h'=>absurd (h1.2 h'.1) h⟩;split;rename_i _ h;exact⟨fun h'=>absurd h' h,fun h'=>absurd (h2.2 h'.2.1) h⟩;split;rename_i _ _ h;exact⟨fun h'=>absurd h' h,fun h'=>absurd (h3.2 h'.2.2.1) h⟩;split;rename_i _ _ _ h;exact⟨fun h'=>absurd h' h,fun h'=>absurd (h4.2 h'.2.2.2.1) h⟩;rename_i k1 k2 k3 k4;simp only[Decidable.not_not]at k1 k2 k3 k4;rw[h5];exact⟨fun h'=>⟨h1.1 k1,h2.1 k2,h3.1 k3,h4.1 k4,h'⟩,fun h'=>h'.2.2.2.2⟩
theorem Zu0{a b:List Val}{i:Nat}(ha:i<a.length)(hb:i<b.length):vcmpL (a.drop i) (b.drop i)=if ZhF (a.getD i dE) (b.getD i dE)≠0 then ZhF (a.getD i dE) (b.getD i dE) else vcmpL (a.drop (i+1)) (b.drop (i+1)):=by
 rw[List.drop_eq_getElem_cons ha,List.drop_eq_getElem_cons hb];simp[vcmpL,ZEb,ha,hb]
theorem ZwC{a b:List Val}{i:Nat}(ha:i≤a.length)(hb:i≤b.length)(h:¬(i<a.length∧i<b.length)):vcmpL (a.drop i) (b.drop i)=Kz a.length b.length:=by
 have h1:(a.drop i).length=a.length-i:=ZEx ..;have h2:(b.drop i).length=b.length-i:=ZEx ..;have j:∀x y:List Val,(x=[]∨y=[])→vcmpL x y=Kz x.length y.length:=fun x y n=>by
  cases x with
  |nil=>cases y with
   |nil=>rfl
   |cons e y=>unfold Kz;rw[if_pos (by simp<;>omega)];rfl
  |cons c x=>cases y with
   |nil=>unfold Kz;rw[if_neg (by simp<;>omega),if_pos (by simp<;>omega)];rfl
   |cons e y=>simp at n
 rw[j _ _ (by
  by_cases hi:i<a.length;exact .inr (ZEE (by omega));exact .inl (ZEE (by omega))),h1,h2]
 unfold Kz;split<;>split<;>(try split)<;>(try split)<;>omega
theorem Zz9(b:Str):(ZEa b.length).map (fun i=>ZaE (u8C (b.getD i dE)))=b:=by
 refine List.ext_getElem (by simp) fun i h1 h2=>?_;have:=b[i].toNat_lt;simp[ZEb,h2,u8C,ZaE]
theorem ZAG{L:DL.Loc}(b:Str):qv L s (.conv .b2s) [.d (ZL b)]=sO (∀i,i<b.length→Zhc (u8C (b.getD i dE)),.d (.str b)):=by
 have:qv L s (.conv .b2s) [.d (ZL b)]=sO (∀i,i<b.length→Zhc (u8C (b.getD i dE)),.d (.str ((ZEa b.length).map fun i=>ZaE (u8C (b.getD i dE))))):=rfl;rw[this,Zz9]
theorem Ztm(b:Str):∀i,i<b.length→Zhc (u8C (b.getD i dE)):=fun i _=>⟨_,rfl⟩
theorem ZcF(v:Val):∀w:Val,Zf ZDW 12 [.agg v.cells,.agg w.cells] (.int .i64 (ZhF v w)):=by
 induction v using Val.ind with
 |h v ih =>
  intro w;refine YS (cR 12 f12) fun ac F st z=>?_;have ae:=ac (.agg v.cells) (by simp);have u:=ac (.agg w.cells) (by simp);clear ac;rw[v.cells_eq]at ae⊢;rw[w.cells_eq]at u⊢;have hV:=Zto v w;refine gG ?_;refine cl (Zb9 v.name w.name) ?_;generalize hR:ZhF v w=R at *;refine rg ?_;refine jU [0] (fun Q=>∀c,c=(if WH v.name w.name≠0 then WH v.name w.name else Kz v.int w.int)→Q F [(2,.loc 2 0),(3,.loc 3 0),(5,.d (.int .i64 c))] [(2,[.str v.name,.int .i64 v.int,ZL v.bytes,ZX v.hdrs,ZW v.parts]),(3,[.str w.name,.int .i64 w.int,ZL w.bytes,ZX w.hdrs,ZW w.parts])] st) ?_ fun j1=>?_
  ·intro c1 ah;refine rg ?_;refine jU [0] (fun Q=>∀c,c=(if c1≠0 then c1 else WH v.bytes w.bytes)→Q F [(2,.loc 2 0),(3,.loc 3 0),(5,.d (.int .i64 c))] [(2,[.str v.name,.int .i64 v.int,ZL v.bytes,ZX v.hdrs,ZW v.parts]),(3,[.str w.name,.int .i64 w.int,ZL w.bytes,ZX w.hdrs,ZW w.parts])] st) ?_ fun j2=>?_
   ·intro c2 al;refine rg ?_;refine jU [0] (fun Q=>∀c,c=(if c2≠0 then c2 else JC v.hdrs w.hdrs)→Q F [(2,.loc 2 0),(3,.loc 3 0),(5,.d (.int .i64 c))] [(2,[.str v.name,.int .i64 v.int,ZL v.bytes,ZX v.hdrs,ZW v.parts]),(3,[.str w.name,.int .i64 w.int,ZL w.bytes,ZX w.hdrs,ZW w.parts])] st) ?_ fun j3=>?_
    ·intro c3 ak;have ad:R=if c3≠0 then c3 else vcmpL v.parts w.parts:=by
      rw[hV,ak,al,ah]
      repeat' split<;>first|rfl|(exfalso;simp_all;done)|skip
     refine rg ?_;have aq:=ZhH (ae.agg_inv (ZW v.parts) (by simp));have u:=ZhH (u.agg_inv (ZW w.parts) (by simp));unfold big at aq u;refine Zc (fr (v.parts.length) (fun i Q=>∀c,(c≠0→c=R)→(c=0→R=vcmpL (v.parts.drop i) (w.parts.drop i))→i≤v.parts.length→i≤w.parts.length→Q [(2,.loc 2 0),(3,.loc 3 0),(5,.d (.int .i64 c)),(6,.d (.int .i64 i))] [(2,[.str v.name,.int .i64 v.int,ZL v.bytes,ZX v.hdrs,ZW v.parts]),(3,[.str w.name,.int .i64 w.int,ZL w.bytes,ZX w.hdrs,ZW w.parts])] st) (fun n t=>?_) fun ai=>?_);intro i hn c aj hc af ap;refine rx @Zb2 ?_;refine cd (fun hd=>?_) (fun hd=>?_);simp only[ZD5,decide_eq_true_eq]at hd;have h1:i<v.parts.length:=by omega
     have h2:i<w.parts.length:=by omega
     have ao:=Qq h1;have am:=Qq h2;have ag:=Zu0 h1 h2;have j:=ih _ (ZC h1) (w.parts.getD i dE);rw[ZEg,ZEg]at j;have ab:=hc hd.1.1;rw[ag]at ab;generalize v.parts.getD i dE=x at *;generalize w.parts.getD i dE=y at *;refine xA (nd2 @atV (nd2 @ao @am)) ?_;refine cl0 (j) ?_;refine gA ?_;refine Zg ?_;exact t ((v.parts.length)-(i+1)) (by omega) (i+1) rfl _ (fun h=>by rw[ab,if_pos h]) (fun h=>by rw[ab,if_neg (by simpa using h)]) (by omega) (by omega);simp only[ZEF,decide_eq_false_iff_not]at hd;refine rg ?_;refine cd (fun h3=>?_) (fun h3=>?_);simp only[decide_eq_true_eq]at h3;refine rx @Zb2 ?_;refine cl (Zc1 v.parts.length w.parts.length) ?_;refine rg ?_;refine ri z ?_;rw[hc h3,ZwC af ap (by omega)];simp only[decide_eq_false_iff_not]at h3;refine rg ?_;refine ri z ?_;exact aj h3;exact ai _ 0 rfl c3 (fun h=>by rw[ad,if_pos h]) (fun h=>by rw[ad,if_neg (by simpa using h)];rfl) (by omega) (by omega)
    refine cd (fun h4=>?_) (fun h4=>?_);simp only[decide_eq_true_eq]at h4;refine rx @Zb2 ?_;refine cl (Zn8 v.hdrs w.hdrs) ?_;exact j3 _ (by rw[if_neg (by simpa using h4)]);simp only[decide_eq_false_iff_not]at h4;refine Zy ?_;refine kE [2,3,5] ?_;exact j3 _ (by rw[if_pos h4])
   refine cd (fun h4=>?_) (fun h4=>?_);simp only[decide_eq_true_eq]at h4;refine rx @ZAG ?_;refine⟨Ztm _,Ztm _,?_⟩;refine cl (Zb9 v.bytes w.bytes) ?_;exact j2 _ (by rw[if_neg (by simpa using h4)]);simp only[decide_eq_false_iff_not]at h4;refine Zy ?_;refine kE [2,3,5] ?_;exact j2 _ (by rw[if_pos h4])
  refine cd (fun h4=>?_) (fun h4=>?_);simp only[decide_eq_true_eq]at h4;refine rg ?_;refine cl (Zc1 v.int w.int) ?_;exact j1 _ (by rw[if_neg (by simpa using h4)]);simp only[decide_eq_false_iff_not]at h4;refine Zy ?_;refine kE [2,3,5] ?_;exact j1 _ (by rw[if_pos h4])
theorem ZAy{T G:Prop}(f:T→G)(t:T):G:=f t
theorem ZkP(v:Val):JR (Zx v)=JR v:=by
 induction v using Val.ind with
 |h v ih =>
  rw[Js,QO,QO v];show 1+nodesL (v.parts.map Zx)=_;have:∀l:List Val,(∀x∈l,JR (Zx x)=JR x)→nodesL (l.map Zx)=nodesL l:=fun l hl=>by
   induction l with
   |nil=>rfl
   |cons a r ih2=>rw[ZEc,nodesL,nodesL,hl a (by simp),ih2 fun x hx=>hl x (by simp[hx])]
  rw[this _ ih]
theorem ZvB{d:Dfn}{s:Str}{v:Val}(h:(ZaH d s v).2≠0):(ZaH d s v).1=ZnB:=by
 unfold ZaH at h⊢;split at h;rename_i ha;rw[if_pos ha];split at h;rename_i hf;rw[if_pos hf];rename_i hf;rw[if_neg hf];split at h;simp at h;rename_i hm;rw[if_neg hm];rename_i ha;rw[if_neg ha]
theorem ZtY{d:Dfn}(hd:WA d){n:Nat}{s:Str}{v:Val}(hv:VOk v)(h:Kp v=true):Kp (Wc d n (Zn d s) v)=true:=by
 unfold Kp at h⊢;rw[ZfL,←ZkP,JH,ZkP,(Zlo hd hv).ok];simp only[ZD5]at h⊢;exact⟨h.1,trivial⟩
theorem ZkA{d:Dfn}{s:Str}{v:Val}(hs:Z3 v=true→wtN v≤5000∧ZN v≤51)(h:(JA d s v).2=0):ZaH d s v=(.agg v.cells,0):=by
 unfold JA at h;unfold ZaH;split at h;rename_i ha;rw[if_pos ha];split at h;simp at h;rename_i hf;rw[if_neg hf];simp only[ZD5]at ha;obtain⟨hv,hh⟩:=Zdu ha.2 hs;have hw:Wc d 51 (Zn d s) v=v:=Zip (JP ha.1) 51 (ixS d s) 51 v [] (Zau (by omega)).2 hv hh h;rw[hw,if_pos h];simp at h
theorem Zsc{d:Dfn}{s:Str}{v:Val}(hs:Z3 v=true→wtN v≤5000∧ZN v≤51)(h:(ZaH d s v).2=0):
  ∃w,(ZaH d s v).1=.agg w.cells∧VOk v∧VOk w∧(Z3 w=true→wtN w≤5000∧ZN w≤51)∧(JA d s w).2=0∧Zx w=Zx v∧((JA d s v).2=0→w=v)∧0≤Zn2 d s w:=by
 unfold ZaH at h⊢;split at h;rename_i ha;rw[if_pos ha];split at h;simp at h;rename_i hf;rw[if_neg hf];split at h;rename_i hm;rw[if_pos hm];simp only[ZD5]at ha;obtain⟨hv,hh⟩:=Zdu ha.2 hs;have hd:=JP ha.1;have hw:VOk (Wc d 51 (Zn d s) v):=Zlo hd hv;have j:ZN (Wc d 51 (Zn d s) v)≤51:=by rw[ZfL];exact hh
 have i:(JA d s (Wc d 51 (Zn d s) v)).2=0:=by unfold JA;rw[if_pos (by rw[ZD5];exact⟨ha.1,ZtY hd hv ha.2⟩),if_neg hf];exact hm
 refine⟨_,rfl,hv,hw,fun _=>⟨hw.wt,j⟩,i,JH _ _ _,fun h=>?_,?_⟩;unfold JA at h;rw[if_pos (by rw[ZD5];exact ha),if_neg hf]at h;exact Zip hd 51 (ixS d s) 51 v [] (Zau (by omega)).2 hv hh h;unfold Zn2;rw[if_pos i];exact(Zhi hd.dok 51 _ _ (hd.dok.of s) hw.ok).1;rename_i hm;simp at h;omega;simp at h
theorem ZhS(hI:Q8)(hk:Zf ZDW 6 [] (.bool true))(d:Dfn)(s:Str)(v:Val):Zf ZDW 4 [.agg d.cells,.str s,.agg v.cells] (.bool true):=by
 refine Zo (cR 4 f4) fun F st ab=>?_;have ai:=Zn1 d v st;have i:=fun e=>Zrb e;have n:=ZdD hI d s v;have t:=ZhL hI d s v;have ah:=ZkA (d:=d) (s:=s) (v:=v);have ag:=Zsc (d:=d) (s:=s) (v:=v);have av:=ZvB (d:=d) (s:=s) (v:=v);generalize JA d s v=W at *;generalize ZaH d s v=X at *;obtain⟨⟨wp,wc⟩,we⟩:=W;obtain⟨xd,xe⟩:=X;simp only at n t ah ag av;rw[ZEg]at ai n t⊢;refine rx @eQ2 ?_;refine rg ?_;refine cV (ai) ?_ ?_;rintro dd S ⟨rfl,b,hr,hs⟩;cases hr;refine gR0 ?_;refine cd (fun h1=>?_) (fun h1=>?_);refine rg ?_;refine cl (hk) ?_;refine rb ab ?_;rfl;have hb:b=true:=by simp at h1;exact h1.1
 have ac:=hs hb;have u:=n ac;have j:=t ac;have am:=ah ac;have au:=ag ac;clear n t ah ag hs ai;refine rg ?_;by_cases hx:xe=0;obtain⟨w,a0,az,a8,ad,ak,a7,a3,a4⟩:=au hx;subst a0 hx;have ax:=ZdD hI d s w ad;have ao:=Zm6 hI d s w ad;have aq:=ZhL hI d s w ad;rw[ZkA ad ak]at aq;have ap:=ZcF w v;have al:=ZcF w w;have aw:=Zgs w a8;have af:=Zgs v az;have ae:=ZcF (Zx w) (Zx v);rw[(Zjz _ _).2 rfl]at al;rw[(Zjz _ _).2 a7]at ae;rw[ak]at ax ao;generalize Zn2 d s w=N at *;generalize JA d s w=Y at *;obtain⟨⟨yp,yc⟩,ye⟩:=Y;rw[ZEg w]at *;rw[ZEg v]at af ap;refine cX @eQ2 (j) ?_;refine aa ?_;refine rx @eQ2 ?_;refine cl (u) ?_;refine rg ?_;apply ZAy;intro tail;by_cases aj:we=0;have z:dC (we=0)=true:=decide_eq_true aj;have a6:=a3 aj;have ay:=ap;rw[(Zjz _ _).2 a6]at ay;refine cX @z (i we) ?_;refine cG (i 0) ?_;refine cG (ay) ?_;refine i0 ?_;refine Zy (Zb (Zb ?_));refine kE [1,3,5,7,8] ?_;exact tail;have z:dC (we=0)=false:=decide_eq_false aj;refine cX @z (i we) ?_;refine KH rfl (e:=.d (.int .i64 0)) (Zl ?_);simp only[Eqs,reduceCtorEq,ZD2,reduceIte,ZD0,ZD3,ZD1];refine KH rfl (e:=.d (.int .i64 0)) (Zl ?_);simp only[Eqs,reduceCtorEq,ZD2,reduceIte,ZD0,ZD3,ZD1];refine i0 ?_;refine Zy (Zb (Zb ?_));refine kE [1,3,5,7,8] ?_;exact tail
 skip
 refine rg ?_;refine cl (i 0) ?_;refine i0 ?_;refine rx @eQ2 ?_;refine cl (ax) ?_;refine rx @eQ2 ?_;refine cl (aq) ?_;refine rx @eQ2 ?_;refine cl (ao) ?_;refine rg ?_;rw[ZEg (Zx w),ZEg (Zx v)]at ae;rw[ZEg (Zx w)]at aw;rw[ZEg (Zx v)]at af;have a5:dC (0≤N)=true:=decide_eq_true a4;have ar:(0:Int)+0=0:=rfl;refine clD (i 0) ?_;refine cXD @ar (i 0) ?_;refine aa ?_;refine cXD (nd2 @ar @a5) (i 0) ?_;refine aa ?_;refine cGD (al) ?_;refine cGD (aw) ?_;refine cGD (af) ?_;refine cGD (ae) ?_;refine cGD (hk) ?_;refine rb ab ?_;rfl;have hz:=av hx;subst hz;have hn:we≠0:=fun h=>by have:=am h;simp only[ZD7]at this;exact hx this.2
 unfold ZnB at j;refine cl (j) ?_;refine aa ?_;refine rx @eQ2 ?_;refine cl (u) ?_;refine rg ?_;have z:dC (we=0)=false:=decide_eq_false hn;have hxt:dC (xe=0)=false:=decide_eq_false hx;refine cX @z (i we) ?_;refine KH rfl (e:=.d (.int .i64 0)) (Zl ?_);simp only[Eqs,reduceCtorEq,ZD2,reduceIte,ZD0,ZD3,ZD1];refine KH rfl (e:=.d (.int .i64 0)) (Zl ?_);simp only[Eqs,reduceCtorEq,ZD2,reduceIte,ZD0,ZD3,ZD1];refine iG ?_;refine cl (i xe) ?_;refine Zu rfl trivial (fun _=>?_) (fun h=>by simp at h;exact absurd h hx);refine rg ?_;refine cl (hk) ?_;refine rb ab ?_;rfl;rintro dd S ⟨_,b,hr,_⟩;cases hr
end Go.DL
namespace Go.DL
open Go
variable [Zqj]
variable {kp:Option (List Nat)}{L:Loc}{ρ:Env}{s:St}{w:World}{os:List DOp}{ds:List D}{B:List (Nat × Rd)}{dst:Option Nat}{tmps:Array Value}{g:G}{Φ:Res→St→Prop}{ν:Nat→Nat}{xs:List Opd}{side:Prop}{row:Nat→List D}
inductive V where
 |int (k:IntKind) (n:Int)
 |bool (b:Bool)
 |str (s:List Nat)
 |agg (cs:List V)
 |tup (vs:List V)
 |nilsl
 |sl (t n s:Nat) (rows:List V)
 |ep (cs:List V) (off:Nat)
 |nilptr
 |ptr (b off:Nat)
 |msl (b off n:Nat) (cap:Option Nat) (s:Nat)
 |map (b:Nat)
 |nilmap
 |fn (f:FuncId) (first caps:List V)
 |yield (l:Nat)
 |nilfn
 |iface (t:TypeId) (v:V)
 |niliface
 |stamp (n:Nat)
def Jz{α:Type}(a:α):Option (List α)→Option (List α)
 |some l=>sO (a::l)
 |none=>nO
theorem Kr{α:Type}{a:α}{x:Option (List α)}{r:List α}(h:Jz a x=sO r):∃q,x=sO q∧r=a::q:=by
 cases x with
 |none=>cases h
 |some q=>simp[Jz]at h;exact⟨q,rfl,h.symm⟩
def ZnN{α:Type}(n:Nat)(x y:List α):List α :=
 Nat.rec (motive:=fun _=>List α→List α) (fun _=>y) (fun _ ih l=>match l with
  | []=>y
  |a::t=>a::ih t) n x
theorem Zgh{α:Type}:∀{n:Nat} {x y:List α},x.length=n→ZnN n x y=x++y
 |0,[],y,_=>rfl
 |0,a::x,y,h=>by grind
 |n+1,[],y,h=>by grind
 |n+1,a::x,y,h=>congrArg (a::·) (Zgh (n:=n) (x:=x) (y:=y) (by grind))
def Zg8{α:Type}(n:Nat):List α→Option α :=
 Nat.rec (motive:=fun _=>List α→Option α) (fun l=>match l with
  | []=>nO
  |a::_=>sO a) (fun _ ih l=>match l with
  | []=>nO
  |_::t=>ih t) n
theorem ZjP{α:Type}:∀(n:Nat) (l:List α),Zg8 n l=l[n]?
 |0,[]=>rfl
 |0,a::l=>rfl
 |n+1,[]=>rfl
 |n+1,a::l=>(ZjP n l).trans (by simp)
def Zbd{α:Type}(n:Nat):List α→List α :=
 Nat.rec (motive:=fun _=>List α→List α) (fun l=>l) (fun _ ih l=>match l with
  | []=>[]
  |_::t=>ih t) n
theorem QX{α:Type}:∀(n:Nat) (l:List α),Zbd n l=l.drop n
 |0,l=>rfl
 |n+1,[]=>rfl
 |n+1,a::l=>(QX n l).trans (by simp)
def ZaS{α:Type}(n:Nat):List α→Option (List α) :=
 Nat.rec (motive:=fun _=>List α→Option (List α)) (fun _=>sO []) (fun _ ih l=>match l with
  | []=>nO
  |a::t=>Jz a (ih t)) n
theorem JN{α:Type}:∀{n:Nat} {l r:List α},ZaS n l=sO r→n≤l.length∧r=l.take n
 |0,l,r,h=>by have h':sO []=sO r:=h;grind
 |n+1,[],r,h=>by have h':(nO:Option (List α))=sO r:=h;simp at h'
 |n+1,a::l,r,h=>by obtain⟨q,hx,rfl⟩:=Kr (show Jz a (ZaS n l)=sO r from h);obtain⟨h1,h2⟩:=JN hx;grind
def ZpY{α:Type}(o n:Nat)(l:List α):Option (List α):=match Nat.ble 1 n with
 |true=>ZaS n (Zbd o l)
 |false=>nO
theorem Zxv{α:Type}{o n:Nat}{l r:List α}(h:ZpY o n l=sO r):o+n≤l.length∧r=(l.drop o).take n:=by
 unfold ZpY at h;split at h;rename_i hn;rw[Nat.ble_eq]at hn;rw[QX]at h;obtain⟨h1,h2⟩:=JN h;grind;grind
def Zur{α:Type}(n:Nat):List α→List α→Option (List α) :=
 Nat.rec (motive:=fun _=>List α→List α→Option (List α)) (fun xs l=>match xs with
  | []=>sO l
  |_::_=>nO) (fun _ ih xs l=>match xs with
  | []=>nO
  |x::xs=>match l with
   | []=>nO
   |_::t=>Jz x (ih xs t)) n
def Zji{α:Type}(o n:Nat)(xs:List α):List α→Option (List α) :=
 Nat.rec (motive:=fun _=>List α→Option (List α)) (fun l=>Zur n xs l) (fun _ ih l=>match l with
  | []=>nO
  |a::t=>Jz a (ih t)) o
theorem Zru{α:Type}:∀{n:Nat} {xs l r:List α},Zur n xs l=sO r→xs.length=n∧n≤l.length∧r=xs++l.drop n
 |0,[],l,r,h=>by have h':sO l=sO r:=h;simp_all
 |0,x::xs,l,r,h=>by have h':(nO:Option (List α))=sO r:=h;simp at h'
 |n+1,[],l,r,h=>by have h':(nO:Option (List α))=sO r:=h;simp at h'
 |n+1,x::xs,[],r,h=>by have h':(nO:Option (List α))=sO r:=h;simp at h'
 |n+1,x::xs,a::l,r,h=>by obtain⟨q,hx,rfl⟩:=Kr (show Jz x (Zur n xs l)=sO r from h);obtain⟨h1,h2,h3⟩:=Zru hx;subst h3;simp[h1,h2]
theorem Zod{α:Type}:∀{o n:Nat} {xs l r:List α},Zji o n xs l=sO r→xs.length=n∧o+n≤l.length∧r=l.take o++xs++l.drop (o+n)
 |0,n,xs,l,r,h=>by obtain⟨h1,h2,h3⟩:=Zru (n:=n) (xs:=xs) (l:=l) (r:=r) h;grind
 |o+1,n,xs,[],r,h=>by have h':(nO:Option (List α))=sO r:=h;simp at h'
 |o+1,n,xs,a::l,r,h=>by obtain⟨q,hx,rfl⟩:=Kr (show Jz a (Zji o n xs l)=sO r from h);obtain⟨h1,h2,h3⟩:=Zod hx;grind
structure Bx(α:Type) where
 run:α
structure N8(α:Type) where
 a:α
 b:α
 c:α
 d:α
 e:α
 f:α
 g:α
 h:α
def N8.all{α:Type}(x:α):N8 α:=⟨x,x,x,x,x,x,x,x⟩
def Zbl{α:Type}:Nat→Bx (N8 α→α)
 |0=>⟨fun t=>t.a⟩
 |1=>⟨fun t=>t.b⟩
 |2=>⟨fun t=>t.c⟩
 |3=>⟨fun t=>t.d⟩
 |4=>⟨fun t=>t.e⟩
 |5=>⟨fun t=>t.f⟩
 |6=>⟨fun t=>t.g⟩
 |_=>⟨fun t=>t.h⟩
def ZiR{α:Type}:Nat→Bx ((α→α)→N8 α→N8 α)
 |0=>⟨fun u t=>N8.casesOn t fun a b c d e f g h=>⟨u a,b,c,d,e,f,g,h⟩⟩
 |1=>⟨fun u t=>N8.casesOn t fun a b c d e f g h=>⟨a,u b,c,d,e,f,g,h⟩⟩
 |2=>⟨fun u t=>N8.casesOn t fun a b c d e f g h=>⟨a,b,u c,d,e,f,g,h⟩⟩
 |3=>⟨fun u t=>N8.casesOn t fun a b c d e f g h=>⟨a,b,c,u d,e,f,g,h⟩⟩
 |4=>⟨fun u t=>N8.casesOn t fun a b c d e f g h=>⟨a,b,c,d,u e,f,g,h⟩⟩
 |5=>⟨fun u t=>N8.casesOn t fun a b c d e f g h=>⟨a,b,c,d,e,u f,g,h⟩⟩
 |6=>⟨fun u t=>N8.casesOn t fun a b c d e f g h=>⟨a,b,c,d,e,f,u g,h⟩⟩
 |_=>⟨fun u t=>N8.casesOn t fun a b c d e f g h=>⟨a,b,c,d,e,f,g,u h⟩⟩
abbrev T(α:Type):=N8 (N8 (N8 (N8 (N8 (Option α)))))
def T.nil{α:Type}:T α:=N8.all (N8.all (N8.all (N8.all (N8.all nO))))
def T.getF{α:Type}(k:Nat):Bx (T α→Option α) :=
 match Nat.blt k 32768 with
 |true=>⟨fun t=>(Zbl (Nat.mod k 8)).run ((Zbl (Nat.mod (Nat.div k 8) 8)).run ((Zbl (Nat.mod (Nat.div k 64) 8)).run ((Zbl (Nat.mod (Nat.div k 512) 8)).run ((Zbl (Nat.mod (Nat.div k 4096) 8)).run t))))⟩
 |false=>⟨fun _=>nO⟩
def T.setF{α:Type}(k:Nat):Bx (Option α→T α→T α) :=
 match Nat.blt k 32768 with
 |true=>⟨fun x=>(ZiR (Nat.mod (Nat.div k 4096) 8)).run ((ZiR (Nat.mod (Nat.div k 512) 8)).run ((ZiR (Nat.mod (Nat.div k 64) 8)).run ((ZiR (Nat.mod (Nat.div k 8) 8)).run ((ZiR (Nat.mod k 8)).run fun _=>x))))⟩
 |false=>⟨fun _ t=>t⟩
def T.get{α:Type}(t:T α)(k:Nat):Option α:=(T.getF k).run t
def T.set{α:Type}(x:Option α)(t:T α)(k:Nat):T α:=(T.setF k).run x t
theorem Zys{α:Type}{u:α→α}{t:N8 α}:∀{i j:Nat},i<8→j<8→(Zbl i).run ((ZiR j).run u t)=if i=j then u ((Zbl i).run t) else (Zbl i).run t:=by
 intro i j hi hj;have n:∀i:Fin 8,∀j:Fin 8,(Zbl i.val).run ((ZiR j.val).run u t)=if i.val=j.val then u ((Zbl i.val).run t) else (Zbl i.val).run t:=by intro i j;rcases i with _|_|_|_|_|_|_|_|i<;>(try omega)<;>rcases j with _|_|_|_|_|_|_|_|j<;>(try omega)<;>rfl
 exact n ⟨i,hi⟩ ⟨j,hj⟩
theorem T.get_set{α:Type}{x:Option α}{a:α}{t:T α}{k k':Nat}(h:(t.set x k).get k'=sO a):(k'=k∧x=sO a)∨(k'≠k∧t.get k'=sO a):=by
 unfold T.get at h⊢;cases hb:Nat.blt k' 32768 with
 |false=>simp[T.getF,hb]at h
 |true =>
 have i:=hb;simp at i;unfold T.set T.setF at h;split at h;rename_i hk;simp at hk;have m (n:Nat):Nat.mod n 8<8:=Nat.mod_lt _ (by omega);have dp:∀{β:Type} {u:β→β} {t:N8 β} (n n':Nat),(Zbl (Nat.mod n 8)).run ((ZiR (Nat.mod n' 8)).run u t)=if Nat.mod n 8=Nat.mod n' 8 then u ((Zbl (Nat.mod n 8)).run t) else (Zbl (Nat.mod n 8)).run t:=fun n n'=>Zys (m n) (m n')
 simp[T.getF,hb]at h⊢;rw[dp]at h;by_cases h5:Nat.mod (Nat.div k' 4096) 8=Nat.mod (Nat.div k 4096) 8;rw[if_pos h5,dp]at h;by_cases h4:Nat.mod (Nat.div k' 512) 8=Nat.mod (Nat.div k 512) 8;rw[if_pos h4,dp]at h;by_cases h3:Nat.mod (Nat.div k' 64) 8=Nat.mod (Nat.div k 64) 8;rw[if_pos h3,dp]at h;by_cases h2:Nat.mod (Nat.div k' 8) 8=Nat.mod (Nat.div k 8) 8;rw[if_pos h2,dp]at h;by_cases h1:Nat.mod k' 8=Nat.mod k 8;rw[if_pos h1]at h;refine .inl ⟨?_,h⟩;have e1 (a b:Nat):Nat.mod a b=a % b:=rfl;have e2 (a b:Nat):Nat.div a b=a / b:=rfl;simp[e1,e2]at h1 h2 h3 h4 h5;omega;rw[if_neg h1]at h;exact .inr ⟨fun e=>h1 (by rw[e]),h⟩;rw[if_neg h2]at h;exact .inr ⟨fun e=>h2 (by rw[e]),h⟩;rw[if_neg h3]at h;exact .inr ⟨fun e=>h3 (by rw[e]),h⟩;rw[if_neg h4]at h;exact .inr ⟨fun e=>h4 (by rw[e]),h⟩;rw[if_neg h5]at h;exact .inr ⟨fun e=>h5 (by rw[e]),h⟩;by_cases e:k'=k;simp_all;exact .inr ⟨e,h⟩
theorem T.get_nil{α:Type}{k:Nat}:(T.nil:T α).get k=nO:=by
 have this:∀{β:Type} (x:β) (n:Nat),(Zbl n).run (N8.all x)=x:=fun x n=>by rcases n with _|_|_|_|_|_|_|n<;>rfl
 unfold T.get T.getF;split;simp[T.nil,this];rfl
mutual
def ofD:D→Option V
 |.int k n=>sO (.int k n)
 |.bool b=>sO (.bool b)
 |.str s=>sO (.str (s.map UInt8.toNat))
 |.agg cs=>(ofDs cs).map .agg
 |.nilsl=>sO .nilsl
 |.nilptr=>sO .nilptr
 |.nilmap=>sO .nilmap
 |.fn (.func f) [] []=>sO (.fn f [] [])
 |.nilfn=>sO .nilfn
 |.niliface=>sO .niliface
 |.ep cs o=>(ofDs cs).map (.ep · o)
 |_=>nO
def ofDs:List D→Option (List V)
 | []=>sO []
 |d::r=>match ofD d,ofDs r with
  |some v,sO vs=>sO (v::vs)
  |_,_=>nO
end
def leI:Int→Int→Bool
 |.ofNat a,b=>match b with
  |.ofNat b=>Nat.ble a b
  |.negSucc _=>false
 |.negSucc a,b=>match b with
  |.ofNat _=>true
  |.negSucc b=>Nat.ble b a
def eqI:Int→Int→Bool
 |.ofNat a,b=>match b with
  |.ofNat b=>Nat.beq a b
  |.negSucc _=>false
 |.negSucc a,b=>match b with
  |.ofNat _=>false
  |.negSucc b=>Nat.beq a b
theorem Zgt(a b:Int):leI a b=dC (a≤b):=by
 rw[Bool.eq_iff_iff,decide_eq_true_eq];cases a<;>cases b<;>simp[leI]<;>omega
theorem Zim(a b:Int):eqI a b=dC (a=b):=by
 rw[Bool.eq_iff_iff,decide_eq_true_eq];cases a<;>cases b<;>simp[eqI]<;>omega
def ZxS:IntKind→Nat
 |.i8=>127|.i16=>32767|.i32=>2147483647|.i64=>9223372036854775807
 |.u8=>255|.u16=>65535|.u32=>4294967295|.u64=>18446744073709551615
def Zt8(k:IntKind):Int→Bool
 |.ofNat n=>Nat.ble n (ZxS k)
 |.negSucc n=>k.signed&&Nat.ble n (ZxS k)
theorem ZsW{k:IntKind}{n:Int}(h:Zt8 k n=true):inR k n:=by
 cases n<;>cases k<;>simp only[Zt8,ZxS,Nat.ble_eq,IntKind.signed,ZEu,ZEm,ZEq]at h <;>
  simp[inR,IntKind.min,IntKind.max,IntKind.signed,IntKind.bits]<;>omega
def ZfR(k:IntKind)(n:Int):Option V:=match Zt8 k n with
 |true=>sO (.int k n)
 |false=>nO
def Zuf:IntKind→Nat
 |.i8=>0|.i16=>1|.i32=>2|.i64=>3|.u8=>4|.u16=>5|.u32=>6|.u64=>7
def Zfi(k k':IntKind):Bool:=Nat.beq (Zuf k) (Zuf k')
theorem Zet{k k':IntKind}(h:Zfi k k'=true):k=k':=by
 cases k<;>cases k'<;>first|rfl|(simp[Zfi,Zuf]at h)
def Zxz(op:BinOp):IntKind→Int→Int→Option V :=
 match op with
 |.add=>fun k a b=>ZfR k (Int.add a b)
 |.sub=>fun k a b=>ZfR k (Int.sub a b)
 |.mul=>fun k a b=>ZfR k (Int.mul a b)
 |.quo=>fun k a b=>match eqI b 0 with
  |true=>nO
  |false=>ZfR k (a.tdiv b)
 |.rem=>fun k a b=>match eqI b 0 with
  |true=>nO
  |false=>ZfR k (a.tmod b)
 |.and=>fun k a b=>sO (.int k (Zlg .and k a b))
 |.or=>fun k a b=>sO (.int k (Zlg .or k a b))
 |.xor=>fun k a b=>sO (.int k (Zlg .xor k a b))
 |.andNot=>fun k a b=>sO (.int k (Zlg .andNot k a b))
 |.eql=>fun _ a b=>sO (.bool (eqI a b))
 |.neq=>fun _ a b=>sO (.bool (!eqI a b))
 |.lss=>fun _ a b=>sO (.bool (!leI b a))
 |.leq=>fun _ a b=>sO (.bool (leI a b))
 |.gtr=>fun _ a b=>sO (.bool (!leI a b))
 |.geq=>fun _ a b=>sO (.bool (leI b a))
 |.shl=>fun k a b=>match leI 0 b with
  |true=>ZfR k (ZlI k a b)
  |false=>nO
 |.shr=>fun k a b=>match leI 0 b with
  |true=>ZfR k (Zoi k a b)
  |false=>nO
def eqS:List Nat→List Nat→Bool
 | [],[]=>true
 |a::x,b::y=>if Nat.beq (a % 256) (b % 256) then eqS x y else false
 |_,_=>false
def ZcW:List Nat→List Nat→Bool
 |_,[]=>false
 | [],_::_=>true
 |a::x,b::y=>if Nat.blt (a % 256) (b % 256) then true else if Nat.beq (a % 256) (b % 256) then ZcW x y else false
def ZxA(op:BinOp):List Nat→List Nat→Option V :=
 match op with
 |.add=>fun a b=>match Nat.ble (a.length+b.length) big with
  |true=>sO (.str (a++b))
  |false=>nO
 |.eql=>fun a b=>sO (.bool (eqS a b))
 |.neq=>fun a b=>sO (.bool (!eqS a b))
 |.lss=>fun a b=>sO (.bool (ZcW a b))
 |.leq=>fun a b=>sO (.bool (ZcW a b ||eqS a b))
 |.gtr=>fun a b=>sO (.bool (!(ZcW a b ||eqS a b)))
 |.geq=>fun a b=>sO (.bool (!ZcW a b))
 |_=>fun _ _=>nO
def Zj6:SK→V→V→Option Bool
 |.int,.int k a,.int k' b=>if Zfi k k' then sO (eqI a b) else nO
 |.str,.str a,.str b=>sO (eqS a b)
 |.bool,.bool a,.bool b=>sO (dC (a=b))
 |_,_,_=>nO
def Zgj(xs ys:List V):List (Nat×SK)→Option Bool
 | []=>sO true
 | (o,k)::r=>match xs[o]?,ys[o]? with
  |some x,sO y=>match Zj6 k x y,Zgj xs ys r with
   |some b,sO c=>sO (b&&c)
   |_,_=>nO
  |_,_=>nO
def Zdz:KP→V→V→Option Bool
 |.sc k,x,y=>Zj6 k x y
 |.st l,.agg xs,.agg ys=>if xs.length=l.length∧ys.length=l.length then Zgj xs ys l else nO
 |_,_,_=>nO
def ZpZ:J0→V→V→Option Bool
 |.bool,.bool a,.bool b=>sO (dC (a=b))
 |.sl,.nilsl,.nilsl=>sO true
 |.sl,.sl _ n _ _,.nilsl=>if 0<n then sO false else nO
 |.sl,.msl _ _ _ _ _,.nilsl=>sO false
 |.map,.nilmap,.nilmap=>sO true
 |.map,.map _,.nilmap=>sO false
 |.fn,.nilfn,.nilfn=>sO true
 |.fn,.fn _ _ _,.nilfn=>sO false
 |.fn,.yield _,.nilfn=>sO false
 |.ifc,.niliface,.niliface=>sO true
 |.ifc,.iface _ _,.niliface=>sO false
 |.ptr,.nilptr,.nilptr=>sO true
 |.ptr,.ptr _ _,.nilptr=>sO false
 |.ptr,.ep _ _,.nilptr=>sO false
 |.cells l,.agg xs,.agg ys=>Zgj xs ys l
 |_,_,_=>nO
def ZrM:BinOp→Bool
 |.shl|.shr=>true
 |_=>false
def ZrE(op:BinOp)(p:Option J0):V→V→Option V :=
 match p with
 |none=>fun _ _=>nO
 |some p=>match op with
  |.eql=>fun x y=>match ZpZ p x y with
   |some b=>sO (.bool b)
   |none=>nO
  |.neq=>fun x y=>match ZpZ p x y with
   |some b=>sO (.bool (!b))
   |none=>nO
  |_=>fun _ _=>nO
def ZrD(op:BinOp)(p:Option J0)(x y:V):Option V :=
 match x with
 |.int k a=>match y with
  |.int k' b=>match ZrM op ||Zfi k k' with
   |true=>Zxz op k a b
   |false=>nO
  |_=>nO
 |.str a=>match y with
  |.str b=>ZxA op a b
  |_=>nO
 |x=>ZrE op p x y
inductive W where
 |v (x:V)
 |loc (l off:Nat)
 |skip
inductive O where
 |cells (vs:List V)
 |buf (vs:List V)
 |map (es:List (V×V))
 |tok (k:Nat)
 |mapE (kp:KP) (es:List (V×V)) (k:V) (n:Nat)
 |loop (f:FuncId) (n:Nat) (ps:List Nat) (a b:DC) (ρ:T W) (st:Option DC) (busy:Bool)
 |dfr
 |ro (o:O)
abbrev S:=T O
def cellsO:O→Option (List V)
 |.cells vs=>sO vs
 |.buf vs=>sO vs
 |.ro o=>match o with
  |.cells vs=>sO vs
  |.buf vs=>sO vs
  |_=>nO
 |_=>nO
def Zay:Option O→Option (List V)
 |some o=>cellsO o
 |none=>nO
def mapO:Option O→Option (List (V×V))
 |some o=>match o with
  |.map es=>sO es
  |.ro o=>match o with
   |.map es=>sO es
   |_=>nO
  |_=>nO
 |none=>nO
def Zbn:O→Bool
 |.ro _=>true
 |_=>false
def Zmo(kp:KP)(k:V):List (V×V)→Option (Option V)
 | []=>sO nO
 |e::r=>match Zdz kp k e.1 with
  |some true=>sO (sO e.2)
  |some false=>Zmo kp k r
  |none=>nO
def Zon(kp:KP)(k v:V):List (V×V)→Option (List (V×V))
 | []=>sO [(k,v)]
 |e::r=>match Zdz kp k e.1 with
  |some true=>sO ((k,v)::r)
  |some false=>(Zon kp k v r).map (e::·)
  |none=>nO
def ZqS(kp:KP)(k:V):List (V×V)→Option (List (V×V))
 | []=>sO []
 |e::r=>match Zdz kp k e.1 with
  |some true=>sO r
  |some false=>(ZqS kp k r).map (e::·)
  |none=>nO
def ZqZ(kp:KP)(k z:V):List (V×V)→Option V
 | []=>sO z
 |e::r=>match Zdz kp k e.1 with
  |some true=>sO e.2
  |some false=>ZqZ kp k z r
  |none=>nO
def ZpW(z:V)(ok:Bool):Option V→V
 |some v=>if ok then .tup [v,.bool true] else v
 |none=>if ok then .tup [z,.bool false] else z
def ZeZ:V→List V
 |.agg cs=>cs
 |v=>[v]
def Znv:V→Bool
 |.tup _=>false
 |_=>true
def ZuZ:V→Bool
 |.tup _|.agg _=>false
 |_=>true
def ZpR(cells:List V):List (Nat×Nat)→List V→Option (List V)
 | [],[]=>sO cells
 | (o,n)::ps,d::ds=>if Znv d then match Zji o n (ZeZ d) cells with
  |some cs=>ZpR cs ps ds
  |none=>nO
  else nO
 |_,_=>nO
def ZuH(s n:Nat):List V→Option (List V) :=
 Nat.rec (motive:=fun _=>List V→Option (List V)) (fun _=>sO []) (fun _ ih l=>match ZaS s l with
  |some r=>Jz (.agg r) (ih (Zbd s l))
  |none=>nO) n
def Zmr(s:Nat)(n:Nat):List V→Option (List V) :=
 Nat.rec (motive:=fun _=>List V→Option (List V)) (fun _=>sO []) (fun _ ih l=>match l with
  |.agg cs::t=>match ih t with
   |some r=>sO (ZnN s cs r)
   |none=>nO
  |_=>nO) n
def Zl5:List V→Option (List Nat)
 | []=>sO []
 |.int .u8 n::r=>Jz n.toNat (Zl5 r)
 |_::_=>nO
def Zqw:List V→Option (List Nat)
 | []=>sO []
 |.agg [.int .u8 n]::r=>Jz n.toNat (Zqw r)
 |_::_=>nO
def JD:List Bool→List V→Option (List (Option Int))
 | [],[]=>sO []
 |true::bs,.int _ n::r=>(JD bs r).map (sO n::·)
 |false::bs,r=>(JD bs r).map (nO::·)
 |_,_=>nO
def ZuW(t n:Nat)(l h:Int):Option Int→Nat
 |some m=>if eqI m h then 1 else 0
 |none=>if eqI h n then (if Nat.beq t 1 then 1 else if eqI l 0 then t else 0) else 0
def ZzM(h:Int)(n:Nat):Option Int→Bool
 |some m=>leI h m&&leI m n
 |none=>true
def ZrO(s:Nat)(lo hi mx:Option Int):V→Option V
 |.sl t n s' rs =>
  if Nat.beq s' s&&leI 0 (lo.getD 0)&&leI (lo.getD 0) (hi.getD n)&&leI (hi.getD n) n&&ZzM (hi.getD n) n mx then
   match ZaS (Int.sub (hi.getD n) (lo.getD 0)).toNat (Zbd (lo.getD 0).toNat rs) with
   |some r=>sO (.sl (ZuW t n (lo.getD 0) (hi.getD n) mx) (Int.sub (hi.getD n) (lo.getD 0)).toNat s r)
   |none=>nO
  else nO
 |.nilsl=>if eqI (lo.getD 0) 0&&eqI (hi.getD 0) 0&&eqI (mx.getD 0) 0 then sO .nilsl else nO
 |.msl b o n cap s' =>
  if Nat.beq s' s&&leI 0 (lo.getD 0)&&leI (lo.getD 0) (hi.getD n) then match cap with
   |some cap=>if leI (hi.getD n) (mx.getD cap)&&leI (mx.getD cap) cap then
     sO (.msl b (if eqI (mx.getD cap) (lo.getD 0) then o else o+(lo.getD 0).toNat*s) (Int.sub (hi.getD n) (lo.getD 0)).toNat (sO (Int.sub (mx.getD cap) (lo.getD 0)).toNat) s) else nO
   |none=>if leI (hi.getD n) n&&(eqI (lo.getD 0) 0||!leI n (lo.getD 0)) then match mx with
    |none=>sO (.msl b (o+(lo.getD 0).toNat*s) (Int.sub (hi.getD n) (lo.getD 0)).toNat nO s)
    |some m=>if leI (hi.getD n) m&&leI m n then sO (.msl b (if eqI m (lo.getD 0) then o else o+(lo.getD 0).toNat*s) (Int.sub (hi.getD n) (lo.getD 0)).toNat (sO (Int.sub m (lo.getD 0)).toNat) s) else nO
    else nO
  else nO
 |_=>nO
def a1(vs:List V)(f:V→Option V):Option V:=match vs with
 | [x]=>f x
 |_=>nO
def a2(vs:List V)(f:V→V→Option V):Option V:=match vs with
 | [x,y]=>f x y
 |_=>nO
def Zju(cs:List V)(o n:Nat):Option V:=match ZpY o n cs with
 |some r=>sO (.agg r)
 |none=>nO
def Zic(σ:S)(b:Nat)(f:List V→Option V):Option V:=match Zay (σ.get b) with
 |some cs=>f cs
 |none=>nO
def Zfc(i:Int)(n:Nat)(r:Option V):Option V:=if leI 0 i&&!leI n i then r else nO
def noV{α:Type}(b:Bool)(r:Option α):Option α:=if b then r else nO
def qV:Q→S→List V→Option V
 |.mv=>fun _ vs=>a1 vs sO
 |.nilck=>fun _ vs=>a1 vs fun x=>match x with
  |.ep _ _=>sO x
  |.ptr _ _=>sO x
  |.fn _ _ _=>sO x
  |.yield _=>sO x
  |_=>nO
 |.load1=>fun σ vs=>a1 vs fun a=>match a with
  |.ep cs o=>Zg8 o cs
  |.ptr b o=>Zic σ b fun cs=>Zg8 o cs
  |_=>nO
 |.loadN n=>fun σ vs=>a1 vs fun a=>match a with
  |.ep cs o=>Zju cs o n
  |.ptr b o=>Zic σ b fun cs=>Zju cs o n
  |_=>nO
 |.bin op p=>fun _ vs=>a2 vs (ZrD op p)
 |.not=>fun _ vs=>a1 vs fun x=>match x with
  |.bool b=>sO (.bool !b)
  |_=>nO
 |.neg=>fun _ vs=>a1 vs fun x=>match x with
  |.int k n=>ZfR k (Int.neg n)
  |_=>nO
 |.xorm=>fun _ vs=>a1 vs fun x=>match x with
  |.int k n=>sO (.int k (Zlg .xor k (if k.signed then -1 else k.max) n))
  |_=>nO
 |.conv c=>match c with
  |.int k=>fun _ vs=>a1 vs fun x=>match x with
   |.int k' n=>sO (if k=k' then .int k n else .int k (k.wrap n))
   |_=>nO
  |.str=>fun _ vs=>a1 vs fun x=>match x with
   |.str s=>sO (.str s)
   |_=>nO
  |.i2s=>fun _ vs=>a1 vs fun x=>match x with
   |.int _ n=>noV (Nat.ble (Utf8.encode n).data.toList.length big) (sO (.str ((Utf8.encode n).data.toList.map UInt8.toNat)))
   |_=>nO
  |.b2s=>fun σ vs=>a1 vs fun x=>match x with
   |.nilsl=>sO (.str [])
   |.sl _ _ s rs=>noV (Nat.beq s 1) ((Zqw rs).map .str)
   |.msl b o n _ s=>noV (Nat.beq s 1) (Zic σ b fun cs=>noV (Nat.ble (o+n) cs.length) (match ZaS n (Zbd o cs) with
    |some r=>(Zl5 r).map .str
    |none=>nO))
   |_=>nO
 |.faddr off=>fun _ vs=>a1 vs fun x=>match x with
  |.ep cs o=>sO (.ep cs (o+off))
  |.ptr b o=>sO (.ptr b (o+off))
  |_=>nO
 |.fld1 off=>fun _ vs=>a1 vs fun x=>match x with
  |.agg cs=>Zg8 off cs
  |_=>nO
 |.fldN off n=>fun _ vs=>a1 vs fun x=>match x with
  |.agg cs=>Zju cs off n
  |_=>nO
 |.iaddr z=>fun _ vs=>a2 vs fun x y=>match y with
  |.int _ i=>match x with
   |.sl _ n z' rs=>noV (Nat.beq z' z) (Zfc i n (match Zg8 i.toNat rs with
    |some (.agg cs)=>sO (.ep cs 0)
    |_=>nO))
   |.msl b o n _ z'=>noV (Nat.beq z' z) (Zfc i n (sO (.ptr b (o+i.toNat*z))))
   |_=>nO
  |_=>nO
 |.iaddrA m z=>fun _ vs=>a2 vs fun x y=>match y with
  |.int _ i=>match x with
   |.ptr b o=>Zfc i m (sO (.ptr b (o+i.toNat*z)))
   |.ep cs o=>Zfc i m (sO (.ep cs (o+i.toNat*z)))
   |_=>nO
  |_=>nO
 |.idxA m z one=>fun _ vs=>a2 vs fun x y=>match y with
  |.int _ i=>match x with
   |.agg cs=>Zfc i m (if one then Zg8 (i.toNat*z) cs else Zju cs (i.toNat*z) z)
   |_=>nO
  |_=>nO
 |.sliceA m z lo hi mx=>fun _ vs=>match vs with
  |.ptr b o::r=>match JD [lo,hi,mx] r with
   |some [l,h,x]=>noV (leI 0 (l.getD 0)&&leI (l.getD 0) (h.getD m)&&leI (h.getD m) (x.getD m)&&leI (x.getD m) m&&Nat.ble m big)
     (sO (.msl b (if eqI (x.getD m) (l.getD 0) then o else o+(l.getD 0).toNat*z) (Int.sub (h.getD m) (l.getD 0)).toNat (sO (Int.sub (x.getD m) (l.getD 0)).toNat) z))
   |_=>nO
  |_=>nO
 |.idxS=>fun _ vs=>a2 vs fun x y=>match y with
  |.int _ i=>match x with
   |.str s=>Zfc i s.length (sO (.int .u8 (Int.ofNat (s.getD i.toNat 0 % 256))))
   |_=>nO
  |_=>nO
 |.lenS=>fun _ vs=>a1 vs fun x=>match x with
  |.str s=>sO (.int .i64 (Int.ofNat s.length))
  |_=>nO
 |.lenL=>fun _ vs=>a1 vs fun x=>match x with
  |.sl _ n _ _=>sO (.int .i64 (Int.ofNat n))
  |.msl _ _ n _ _=>sO (.int .i64 (Int.ofNat n))
  |.nilsl=>sO (.int .i64 (Int.ofNat 0))
  |_=>nO
 |.lenA n=>fun _ vs=>a1 vs fun _=>noV (Nat.ble n big) (sO (.int .i64 (Int.ofNat n)))
 |.ext k=>fun _ vs=>a1 vs fun x=>match x with
  |.tup vs=>Zg8 k vs
  |_=>nO
 |.build zero parts=>match ofDs zero with
  |some z=>fun _ es=>(ZpR z parts es).map .agg
  |none=>fun _ _=>nO
 |.mkfn f k=>match f with
  |.func f=>fun _ es=>sO (.fn f (es.take k) (es.drop k))
  |_=>fun _ _=>nO
 |.mkif t=>fun _ vs=>a1 vs fun x=>sO (.iface t x)
 |.sliceS lo hi=>fun _ vs=>match vs with
  |.str s::r=>match JD [lo,hi,false] r with
   |some [l,h,_]=>noV (leI 0 (l.getD 0)&&leI (l.getD 0) (h.getD s.length)&&leI (h.getD s.length) s.length)
     (sO (.str ((s.drop (l.getD 0).toNat).take ((h.getD s.length).toNat-(l.getD 0).toNat))))
   |_=>nO
  |_=>nO
 |.slice s lo hi mx=>fun _ vs=>match vs with
  |x::r=>match JD [lo,hi,mx] r with
   |some [l,h,m]=>ZrO s l h m x
   |_=>nO
  |_=>nO
 |.min=>fun _ vs=>a2 vs fun x y=>match x with
  |.int k a=>match y with
   |.int k' b=>noV (Zfi k k') (sO (.int k (if leI a b then a else b)))
   |_=>nO
  |_=>nO
 |.max=>fun _ vs=>a2 vs fun x y=>match x with
  |.int k a=>match y with
   |.int k' b=>noV (Zfi k k') (sO (.int k (if leI a b then b else a)))
   |_=>nO
  |_=>nO
 |.tassert t ok zero=>match ok with
  |true=>fun _ vs=>a1 vs fun x=>match x with
   |.iface t' v=>noV (Nat.beq t' t) (sO (.tup [v,.bool true]))
   |.niliface=>(ofD zero).map fun z=>.tup [z,.bool false]
   |_=>nO
  |false=>fun _ vs=>a1 vs fun x=>match x with
   |.iface t' v=>noV (Nat.beq t' t) (sO v)
   |_=>nO
 |.lookup kp z ok=>match ofD z with
  |some z=>fun σ vs=>a2 vs fun m k=>noV (Zdz kp k k).isSome (match m with
   |.map b=>match mapO (σ.get b) with
    |some es=>(Zmo kp k es).map (ZpW z ok)
    |none=>nO
   |.nilmap=>sO (ZpW z ok nO)
   |_=>nO)
  |none=>fun _ _=>nO
 |.lenM=>fun σ vs=>a1 vs fun x=>match x with
  |.map b=>match mapO (σ.get b) with
   |some es=>noV (Nat.ble es.length big) (sO (.int .i64 (Int.ofNat es.length)))
   |_=>nO
  |.nilmap=>sO (.int .i64 (Int.ofNat 0))
  |_=>nO
abbrev Nm:=Nat→Option Tok
def Nm.Sub(η η':Nm):Prop:=∀k t,η k=sO t→η' k=sO t
theorem Nm.Sub.refl(η:Nm):η.Sub η:=fun _ _ h=>h
theorem Nm.Sub.trans{a b c:Nm}(h:a.Sub b)(h':b.Sub c):a.Sub c:=fun k t x=>h' k t (h k t x)
mutual
inductive VR(η:Nm):V→D→Prop where
 |int (k:IntKind) (n:Int):VR η (.int k n) (.int k n)
 |bool (b:Bool):VR η (.bool b) (.bool b)
 |str (s:List Nat):VR η (.str s) (.str (s.map UInt8.ofNat))
 |agg (cs:List V) (ds:List D) (h:VRs η cs ds):VR η (.agg cs) (.agg ds)
 |tup (cs:List V) (ds:List D) (h:VRs η cs ds):VR η (.tup cs) (.tup ds)
 |nilsl:VR η .nilsl .nilsl
 |sl (t n s:Nat) (rs:List V) (τ:Tok) (row:Nat→List D) (h:VRr η s rs row) (hn:rs.length=n) (ht:t=0∨η t=sO τ):VR η (.sl t n s rs) (.sl τ n s row)
 |ep (cs:List V) (o:Nat) (ds:List D) (h:VRs η cs ds):VR η (.ep cs o) (.ep ds o)
 |nilptr:VR η .nilptr .nilptr
 |ptr (k b o:Nat) (h:η k=sO (.tip b)):VR η (.ptr k o) (.ptr b o)
 |msl (k b o n cap s:Nat) (h:η k=sO (.tip b)):VR η (.msl k o n (sO cap) s) (.msl b o n cap s)
 |gsl (k b o n cap s c:Nat) (h:η k=sO (.tip b)) (h2:η (k+1)=sO (.tip c)) (hc:n≤cap) (hl:o+cap*s≤c):VR η (.msl k o n nO s) (.msl b o n cap s)
 |map (k b:Nat) (h:η k=sO (.tip b)):VR η (.map k) (.map b)
 |nilmap:VR η .nilmap .nilmap
 |fn (f:FuncId) (a c:List V) (da dc:List D) (ha:VRs η a da) (hc:VRs η c dc):VR η (.fn f a c) (.fn (.func f) da dc)
 |yield (k b:Nat) (h:η k=sO (.tip b)):VR η (.yield k) (.fn (.yield b) [] [])
 |nilfn:VR η .nilfn .nilfn
 |iface (t:TypeId) (v:V) (d:D) (h:VR η v d):VR η (.iface t v) (.iface t d)
 |niliface:VR η .niliface .niliface
 |stamp (k b:Nat) (h:η k=sO (.tip b)):VR η (.stamp k) (.stamp b)
inductive VRs(η:Nm):List V→List D→Prop where
 |nil:VRs η [] []
 |cons (v:V) (d:D) (vs:List V) (ds:List D) (h:VR η v d) (t:VRs η vs ds):VRs η (v::vs) (d::ds)
inductive VRr(η:Nm):Nat→List V→(Nat→List D)→Prop where
 |nil (s:Nat) (row:Nat→List D):VRr η s [] row
 |cons (s:Nat) (cs:List V) (rs:List V) (row:Nat→List D) (h:VRs η cs (row 0)) (hl:cs.length=s) (t:VRr η s rs (fun i=>row (i+1))):VRr η s (.agg cs::rs) row
end
mutual
theorem VR.mono{η η':Nm}(e:η.Sub η'):∀{v:V} {d:D},VR η v d→VR η' v d
 |_,_,.int k n=>.int k n
 |_,_,.bool b=>.bool b
 |_,_,.str s=>.str s
 |_,_,.agg cs ds h=>.agg cs ds (h.mono e)
 |_,_,.tup cs ds h=>.tup cs ds (h.mono e)
 |_,_,.nilsl=>.nilsl
 |_,_,.sl t n s rs τ row h hn ht=>.sl t n s rs τ row (h.mono e) hn (ht.imp id (e _ _))
 |_,_,.ep cs o ds h=>.ep cs o ds (h.mono e)
 |_,_,.nilptr=>.nilptr
 |_,_,.ptr k b o h=>.ptr k b o (e _ _ h)
 |_,_,.msl k b o n cap s h=>.msl k b o n cap s (e _ _ h)
 |_,_,.gsl k b o n cap s c h h2 hc hl=>.gsl k b o n cap s c (e _ _ h) (e _ _ h2) hc hl
 |_,_,.map k b h=>.map k b (e _ _ h)
 |_,_,.nilmap=>.nilmap
 |_,_,.fn f a c da dc ha hc=>.fn f a c da dc (ha.mono e) (hc.mono e)
 |_,_,.yield k b h=>.yield k b (e _ _ h)
 |_,_,.nilfn=>.nilfn
 |_,_,.iface t v d h=>.iface t v d (h.mono e)
 |_,_,.niliface=>.niliface
 |_,_,.stamp k b h=>.stamp k b (e _ _ h)
theorem VRs.mono{η η':Nm}(e:η.Sub η'):∀{v:List V} {d:List D},VRs η v d→VRs η' v d
 |_,_,.nil=>.nil
 |_,_,.cons v d vs ds h t=>.cons v d vs ds (h.mono e) (t.mono e)
theorem VRr.mono{η η':Nm}(e:η.Sub η'):∀{s:Nat} {v:List V} {r:Nat→List D},VRr η s v r→VRr η' s v r
 |_,_,_,.nil s row=>.nil s row
 |_,_,_,.cons s cs rs row h hl t=>.cons s cs rs row (h.mono e) hl (t.mono e)
end
section
variable {η:Nm}
theorem VRs.len:∀{vs:List V} {ds:List D},VRs η vs ds→vs.length=ds.length
 |_,_,.nil=>rfl
 |_,_,.cons _ _ _ _ _ t=>by simp[t.len]
theorem VRs.get:∀{vs:List V} {ds:List D},VRs η vs ds→∀{i:Nat} {v:V},vs[i]?=sO v→∃d,ds[i]?=sO d∧VR η v d
 |_,_,.nil,i,v,h=>by grind
 |_,_,.cons v d vs ds h t,0,v',h'=>by grind
 |_,_,.cons v d vs ds h t,i+1,v',h'=>by simp at h';simpa using t.get h'
theorem VRs.take:∀{vs:List V} {ds:List D},VRs η vs ds→∀n,VRs η (vs.take n) (ds.take n)
 |_,_,.nil,n=>by simp;exact .nil
 |_,_,.cons v d vs ds h t,0=>.nil
 |_,_,.cons v d vs ds h t,n+1=>.cons _ _ _ _ h (t.take n)
theorem VRs.drop:∀{vs:List V} {ds:List D},VRs η vs ds→∀n,VRs η (vs.drop n) (ds.drop n)
 |_,_,.nil,n=>by simp;exact .nil
 |_,_,.cons v d vs ds h t,0=>.cons _ _ _ _ h t
 |_,_,.cons v d vs ds h t,n+1=>t.drop n
theorem VRs.append:∀{vs vs':List V} {ds ds':List D},VRs η vs ds→VRs η vs' ds'→VRs η (vs++vs') (ds++ds')
 |_,_,_,_,.nil,h=>h
 |_,_,_,_,.cons v d vs ds h t,h'=>.cons _ _ _ _ h (t.append h')
theorem VRs.one{v:V}{d:D}(h:VR η v d):VRs η [v] [d]:=.cons _ _ _ _ h .nil
theorem VRs.inv{v:V}{vs:List V}(h:VRs η (v::vs) ds):∃d ds',ds=d::ds'∧VR η v d∧VRs η vs ds':=by
 cases h with
 |cons _ d _ ds h t=>exact⟨d,ds,rfl,h,t⟩
theorem VRs.inv0(h:VRs η [] ds):ds=[]:=by cases h;rfl
theorem VRs.inv1{v:V}(h:VRs η [v] ds):∃d,ds=[d]∧VR η v d:=by
 obtain⟨d,ds',rfl,h1,h2⟩:=h.inv;obtain rfl:=h2.inv0;grind
theorem VRs.inv2{v v':V}(h:VRs η [v,v'] ds):∃d d',ds=[d,d']∧VR η v d∧VR η v' d':=by
 obtain⟨d,ds',rfl,h1,h2⟩:=h.inv;obtain⟨d',rfl,h'⟩:=h2.inv1;grind
theorem VRs.partv{vs r:List V}(h:VRs η vs ds){o n:Nat}(hp:ZpY o n vs=sO r):o+n≤ds.length∧VRs η r (part ds o n):=by
 obtain⟨h1,rfl⟩:=Zxv hp;exact⟨by rw[←h.len];exact h1,(h.drop o).take n⟩
theorem VRs.over{vs xs r:List V}{ds ys:List D}(h:VRs η vs ds)(hx:VRs η xs ys){o n:Nat}(hs:Zji o n xs vs=sO r):xs.length=n∧o+n≤ds.length∧VRs η r (Zt ds o ys):=by
 obtain⟨h0,h1,rfl⟩:=Zod hs;refine⟨h0,by rw[←h.len];exact h1,?_⟩;unfold Zt;have e:ys.length=n:=by rw[←hx.len,h0]
 rw[e];exact((h.take o).append hx).append (h.drop _)
theorem VRr.inv{s:Nat}{v:V}{rs:List V}(h:VRr η s (v::rs) row):∃cs,v=.agg cs∧VRs η cs (row 0)∧cs.length=s∧VRr η s rs (fun i=>row (i+1)):=by
 cases h with
 |cons s cs rs row h hl t=>exact⟨cs,rfl,h,hl,t⟩
theorem VRr.get{s:Nat}:∀{rs:List V} {row:Nat→List D},VRr η s rs row→∀{i:Nat} {v:V},rs[i]?=sO v→∃cs,v=.agg cs∧VRs η cs (row i)∧cs.length=s
 | [],row,h,i,v,hv=>by grind
 |r::rs,row,h,0,v,hv=>by obtain⟨cs,rfl,h1,h2,_⟩:=h.inv;grind
 |r::rs,row,h,i+1,v,hv=>by obtain⟨cs,rfl,h1,h2,h3⟩:=h.inv;exact h3.get (by grind)
theorem VRr.congr{s:Nat}:∀{rs:List V} {row row':Nat→List D},VRr η s rs row→(∀i,i<rs.length→row' i=row i)→VRr η s rs row'
 | [],row,row',h,e=>.nil s row'
 |r::rs,row,row',h,e=>by obtain⟨cs,rfl,h1,h2,h3⟩:=h.inv;exact .cons s cs rs row' (by grind) h2 (h3.congr fun i hi=>e (i+1) (by grind))
theorem VRr.drop{s:Nat}:∀{rs:List V} {row:Nat→List D},VRr η s rs row→∀k,VRr η s (rs.drop k) (fun i=>row (k+i))
 |rs,row,h,0=>by grind
 | [],row,h,k+1=>by simp;exact .nil s _
 |r::rs,row,h,k+1=>by obtain⟨cs,rfl,h1,h2,h3⟩:=h.inv;have:=h3.drop k;grind
theorem VRr.take{s:Nat}:∀{rs:List V} {row:Nat→List D},VRr η s rs row→∀k,VRr η s (rs.take k) row
 |rs,row,h,0=>by simp;exact .nil s _
 | [],row,h,k+1=>by grind
 |r::rs,row,h,k+1=>by obtain⟨cs,rfl,h1,h2,h3⟩:=h.inv;exact .cons s cs _ row h1 h2 (h3.take k)
theorem VRr.append{s:Nat}:∀{rs rs':List V} {row row':Nat→List D},VRr η s rs row→VRr η s rs' row'→VRr η s (rs++rs') (YG rs.length row row')
 | [],rs',row,row',h,h'=>h'.congr fun i _=>by simp[YG]
 |r::rs,rs',row,row',h,h'=>by obtain⟨cs,rfl,h1,h2,h3⟩:=h.inv;refine .cons s cs _ _ (by simpa[YG]using h1) h2 ((h3.append h').congr fun i _=>?_);grind [YG]
theorem VRr.bytes:∀{rs:List V} {row:Nat→List D} {l:List Nat},VRr η 1 rs row→Zqw rs=sO l→(∀i,i<rs.length→Zhc (row i))∧l.map UInt8.ofNat=(ZEa rs.length).map fun i=>ZaE (row i)
 | [],row,l,h,hb=>by cases hb;simp
 |r::rs,row,l,h,hb=>by
  obtain⟨cs,rfl,h1,h2,h3⟩:=h.inv
  match cs,h1,h2,hb with
  | [.int .u8 n],h1,h2,hb =>
   obtain⟨q,hq,rfl⟩:=Kr hb;obtain⟨i1,i2⟩:=h3.bytes hq;obtain⟨d,hd,hv⟩:=h1.inv1;cases hv;refine⟨fun i hi=>?_,?_⟩
   ·cases i with
    |zero=>exact⟨n,hd⟩
    |succ i=>exact i1 i (by grind)
   simp only[ZEc,ZEf,List.range_succ_eq_map,List.map_map,i2];refine _root_.congr (congrArg _ ?_) rfl;rw[hd];rfl
theorem VRs.bytes:∀{vs:List V} {ds:List D} {l:List Nat},VRs η vs ds→Zl5 vs=sO l→(∀i,i<vs.length→Zhc (part ds i 1))∧l.map UInt8.ofNat=(ZEa vs.length).map fun i=>ZaE (part ds i 1)
 | [],ds,l,h,hb=>by cases hb;simp
 |v::vs,ds,l,h,hb=>by
  obtain⟨d,ds',rfl,h1,h2⟩:=h.inv
  match v,h1,hb with
  |.int .u8 n,h1,hb =>
   obtain⟨q,hq,rfl⟩:=Kr hb;obtain⟨i1,i2⟩:=h2.bytes hq;cases h1;refine⟨fun i hi=>?_,?_⟩
   ·cases i with
    |zero=>exact⟨n,by simp[part]⟩
    |succ i=>simpa[part]using i1 i (by grind)
   simp only[ZEc,ZEf,List.range_succ_eq_map,List.map_map,i2];refine _root_.congr (congrArg _ ?_) ?_;simp[part,ZaE];apply List.map_congr_left;intro i _;simp[part]
theorem ZkN(s:List UInt8):(s.map UInt8.toNat).map UInt8.ofNat=s:=by
 rw[List.map_map];conv=>rhs;rw[←List.map_id s]
 congr 1
 funext x;simp
mutual
theorem Zgu:∀{d:D} {v:V},ofD d=sO v→VR η v d
 |.int k n,v,h=>by cases h;exact .int k n
 |.bool b,v,h=>by cases h;exact .bool b
 |.str s,v,h=>by
  cases h;have:=VR.str (η:=η) (s.map UInt8.toNat)
  rwa [ZkN]at this
 |.agg cs,v,h=>by simp[ofD]at h;obtain⟨vs,h1,rfl⟩:=h;exact .agg _ _ (ofDs_ok h1)
 |.nilsl,v,h=>by cases h;exact .nilsl
 |.nilptr,v,h=>by cases h;exact .nilptr
 |.nilmap,v,h=>by cases h;exact .nilmap
 |.fn (.func f) [] [],v,h=>by cases h;exact .fn f [] [] [] [] .nil .nil
 |.nilfn,v,h=>by cases h;exact .nilfn
 |.niliface,v,h=>by cases h;exact .niliface
 |.ep cs o,v,h=>by simp[ofD]at h;obtain⟨vs,h1,rfl⟩:=h;exact .ep _ _ _ (ofDs_ok h1)
 |.fn (.func f) (_::_) _,v,h=>by cases h
 |.fn (.func f) [] (_::_),v,h=>by cases h
 |.tup _,v,h|.sl _ _ _ _,v,h|.ptr _ _,v,h|.msl _ _ _ _ _,v,h|.map _,v,h|.fn (.yield _) _ _,v,h|.iface _ _,v,h|.stamp _,v,h|.undef,v,h|.any,v,h=>by cases h
 |.fn (.method ..) _ _,v,h|.fn (.methodOf ..) _ _,v,h|.fn (.via ..) _ _,v,h=>by cases h
theorem ofDs_ok:∀{ds:List D} {vs:List V},ofDs ds=sO vs→VRs η vs ds
 | [],vs,h=>by cases h;exact .nil
 |d::r,vs,h=>by simp[ofDs]at h;split at h<;>simp at h;rename_i v vs' h1 h2;subst h;exact .cons _ _ _ _ (Zgu h1) (ofDs_ok h2)
end
end
def ZnK:List Nat:=ZEa 32768
def ZAv(P:Program)(N id:Nat)(ops:Array Oper):Ann :=
 match QW P N ops (ZEa ops.size) with
 |some l =>
  let ds:=ops.toList.map Jh
  match Zrt (l.zip ds) (Zfj ds []) ops.size (ZEa ops.size) []with
  | (od,fl,fk)=>(id+1000000,od)::(id,ZnK)::(fl.map (fun x=>(id+1000000*(x.1+4),x.2))++(match fk with
   | []=>[]
   |_::_=>[(id+3000000,fk)]))
 |none=>[]
def ZfF(P:Program)(N:Nat):Code→Ann
 |.region id ops true=>ZAv P N id ops
 |.seq a b=>ZfF P N a++ZfF P N b
 |.cond _ a b=>ZfF P N a++ZfF P N b
 |.block _ a=>ZfF P N a
 |.loop a=>ZfF P N a
 |.scope a=>ZfF P N a
 |.rangeFunc _ _ a b=>ZfF P N a++ZfF P N b
 |_=>[]
def ZAu(P:Program)(f:FuncId):Ann :=
 match P.funcs[f]? with
 |some fn=>match fn.body with
  |some c=>ZfF P fn.ntmps c
  |none=>[]
 |none=>[]
structure Cx where
 P:Program
 lib:FuncId→Option (S→List V→Option V)
 mu:FuncId→Option Nat→Bool
def Cx.an(C:Cx)(f:FuncId):Ann:=ZAu C.P f
def Cx.df(C:Cx)(f:FuncId):Option DF:=cf C.P (C.an f) f
inductive Dd where
 |mark (q:Nat)
 |fn (i:FuncId) (args caps:List V)
inductive Fk where
 |fn (res:List RV)
 |rnd (l:Nat)
 |dfd (pd:Option V) (rec:Bool)
structure Fm where
 f:FuncId
 n:Nat
 k:Fk
 ds:List Dd
structure Out where
 pan:Bool
 v:V
 σ:S
 nx:Nat
abbrev Ih:=Fm→List Zh→T W→S→Nat→Option Out
def wV:Option W→Option V
 |some w=>match w with
  |.v x=>sO x
  |_=>nO
 |none=>nO
def YM:Opd→Bx (T W→Option V)
 |.cst d=>match ofD d with
  |some v=>⟨fun _=>sO v⟩
  |none=>⟨fun _=>nO⟩
 |.tmp t=>⟨fun ρ=>wV ((T.getF t).run ρ)⟩
def ZbR:List Opd→Bx (T W→Option (List V))
 | []=>⟨fun _=>sO []⟩
 |x::xs=>⟨fun ρ=>match (YM x).run ρ with
  |some v=>match (ZbR xs).run ρ with
   |some vs=>sO (v::vs)
   |none=>nO
  |none=>nO⟩
def Ziw:Option (Nat×Bool)→Bx (T W→Option Bool)
 |none=>⟨fun _=>sO true⟩
 |some (t,want)=>⟨fun ρ=>match (T.getF t).run ρ with
  |some w=>match w with
   |.v x=>match x with
    |.bool b=>sO (ZhG b want)
    |_=>nO
   |.skip=>sO false
   |_=>nO
  |none=>nO⟩
def Zb8:Option Nat→Bx (T W→W→T W)
 |some t=>⟨fun ρ w=>(T.setF t).run (sO w) ρ⟩
 |none=>⟨fun ρ _=>ρ⟩
def ZiJ:Opd→Bx (T W→Bool)
 |.cst d=>match d with
  |.bool _=>⟨fun _=>true⟩
  |_=>⟨fun _=>false⟩
 |.tmp t=>⟨fun ρ=>match (T.getF t).run ρ with
  |some w=>match w with
   |.v x=>match x with
    |.bool _=>true
    |_=>false
   |.skip=>true
   |_=>false
  |none=>false⟩
def Zmz:Nat→List V→T W→T W
 |_,[],ρ=>ρ
 |i,v::vs,ρ=>Zmz (i+1) vs (ρ.set (sO (.v v)) i)
def ZeD:List Nat→List V→T W→T W
 |t::ts,a::as9,ρ=>ZeD ts as9 (ρ.set (sO (.v a)) t)
 |_,_,ρ=>ρ
def ZfU(zero:List V)(ps:List (Nat×V))(i:Nat):List V :=
 match ps with
 | []=>zero
 | (k,d)::r=>if Nat.beq k i then ZeZ d else ZfU zero r i
def ZjR(zero:List V)(ps:List (Nat×V)):Nat→Nat→List V
 |0,_=>[]
 |n+1,i=>.agg (ZfU zero ps i)::ZjR zero ps n (i+1)
def ZeA(s:Nat):List V→Bool
 | []=>true
 |d::r=>Znv d&&Nat.beq (ZeZ d).length s&&ZeA s r
def ZgO(z:List V):Nat→List V
 |0=>[]
 |n+1=>z++ZgO z n
def u8V(l:List Nat):List V:=l.map fun m=>.agg [.int .u8 (Int.ofNat (m % 256))]
def ZxO(σ:S)(s:Nat):V→Option (Nat×List V)
 |.nilsl=>sO (0,[])
 |.sl _ m s' rs=>noV (Nat.beq s' s) (sO (m,rs))
 |.str l=>noV (Nat.beq s 1) (sO (l.length,u8V l))
 |.msl b o n _ s'=>match Zay (σ.get b) with
  |some cs=>noV (Nat.beq s' s&&Nat.ble (o+n*s) cs.length) (match ZuH s n (Zbd o cs) with
   |some rs=>sO (n,rs)
   |none=>nO)
  |none=>nO
 |_=>nO
def Zom(σ:S)(t k:Nat):Option S :=
 if Nat.beq t 1 then sO σ else match σ.get t with
  |some (.tok m)=>noV (Nat.beq m k) (sO (σ.set nO t))
  |_=>nO
def ZgJ(σ:S)(a:V)(n:Nat)(xs:List V):Option S :=
 match a with
 |.ptr b o=>match σ.get b with
  |some (.cells cs)=>match Zji o n xs cs with
   |some cs'=>sO (σ.set (sO (.cells cs')) b)
   |none=>nO
  |some (.buf cs)=>match Zji o n xs cs with
   |some cs'=>sO (σ.set (sO (.buf cs')) b)
   |none=>nO
  |_=>nO
 |_=>nO
structure R3 where
 v:V
 σ:S
 nx:Nat
def Zia(s:Nat)(σ:S)(nx m:Nat)(cs:List V):Option R3:=sO ⟨.msl nx 0 m nO s,σ.set (sO (.buf cs)) nx,nx+2⟩
def Zqq(s bytes:Nat)(σ:S)(nx m:Nat)(rs:List V):Option R3 :=
 noV (Nat.ble (m*bytes) 140737488355328&&Nat.ble m big) <|match Zmr s m rs with
  |some cs=>Zia s σ nx m cs
  |none=>nO
def Zqr(s bytes:Nat)(σ:S)(nx t n m:Nat)(rs rs2:List V):Option R3 :=
 noV (Nat.ble ((n+m)*bytes) 140737488355328&&Nat.ble (n+m) big) <|match Zom σ t (n*s) with
  |some σ'=>sO ⟨.sl nx (n+m) s (ZnN n rs rs2),σ'.set (sO (.tok ((n+m)*s))) nx,nx+1⟩
  |none=>nO
def ZwL(mu:Bool)(s bytes:Nat)(σ:S)(nx:Nat)(x:V)(m:Nat)(rs2:List V):Option R3 :=
 match x with
 |.nilsl=>if mu&&Nat.ble 1 m then Zqq s bytes σ nx m rs2 else Zqr s bytes σ nx 1 0 m [] rs2
 |.sl t n s' rs=>noV (Nat.beq s' s) <|if mu&&Nat.ble 1 m&&Nat.beq t 1&&Nat.beq n 0 then Zqq s bytes σ nx m rs2 else Zqr s bytes σ nx t n m rs rs2
 |.msl b o n cap s'=>noV (Nat.beq s' s&&Nat.ble ((n+m)*bytes) 140737488355328&&Nat.ble (n+m) big) <|match Zmr s m rs2 with
  |some cs2=>match cap with
   |none=>match σ.get b with
    |some (.buf cs)=>noV (Nat.beq o 0) <|match ZaS (n*s) cs with
     |some c1=>Zia s (σ.set nO b) nx (n+m) (ZnN (n*s) c1 cs2)
     |none=>nO
    |_=>nO
   |some cap=>match σ.get b with
    |some (.cells cs)=>if Nat.ble (n+m) cap then noV (Nat.beq o 0) <|match Zji (n*s) (m*s) cs2 cs with
      |some cs'=>sO ⟨.msl b 0 (n+m) (sO cap) s,σ.set (sO (.cells cs')) b,nx⟩
      |none=>nO
     else noV (Nat.ble (o+n*s) cs.length) <|match ZaS (n*s) (Zbd o cs) with
      |some c1=>Zia s σ nx (n+m) (ZnN (n*s) c1 cs2)
      |none=>nO
    |_=>nO
  |none=>nO
 |_=>nO
def gk:K→Bool
 |.q _ _=>true
 |.pick _ _ _=>true
 |.bsl _ _ _ _ _=>true
 |.s2b _=>true
 |.append ..=>true
 |.clear ..=>true
 |_=>false
def mp2(x:Option V)(f:V→Option R3):Option R3:=match x with
 |some v=>f v
 |none=>nO
def up(x:Option S)(v:V)(nx:Nat):Option R3:=match x with
 |some σ=>sO ⟨v,σ,nx⟩
 |none=>nO
def ZAe:K→Bool
 |.store1 _ _=>true
 |.storeN _ _ _=>true
 |.mkmap=>true
 |_=>false
def opF(mu dst:Bool):K→Bx (T W→S→Nat→Option R3)
 |.q q xs=>⟨fun ρ σ nx=>match (ZbR xs).run ρ with
  |some vs=>match (Bx.mk (qV q)).run σ vs with
   |some v=>sO ⟨v,σ,nx⟩
   |none=>nO
  |none=>nO⟩
 |.pick c a b=>⟨fun ρ σ nx=>mp2 ((YM c).run ρ) fun x=>match x with
  |.bool v=>match v with
   |true=>noV ((ZiJ b).run ρ) (mp2 ((YM a).run ρ) fun y=>match y with
    |.bool y=>sO ⟨.bool y,σ,nx⟩
    |_=>nO)
   |false=>noV ((ZiJ a).run ρ) (mp2 ((YM b).run ρ) fun y=>match y with
    |.bool y=>sO ⟨.bool y,σ,nx⟩
    |_=>nO)
  |_=>nO⟩
 |.alloc z=>match ofDs z with
  |some z=>⟨fun _ σ nx=>noV dst (sO ⟨.ptr nx 0,σ.set (sO (.cells z)) nx,nx+1⟩)⟩
  |none=>⟨fun _ _ _=>nO⟩
 |.box x=>⟨fun ρ σ nx=>noV dst (mp2 ((YM x).run ρ) fun v=>noV (Znv v) (sO ⟨.ptr nx 0,σ.set (sO (.cells (ZeZ v))) nx,nx+1⟩))⟩
 |.bsl len n z is xs=>match ofDs z with
  |some z=>⟨fun ρ σ nx=>match (ZbR xs).run ρ with
   |some vs=>noV (ZeA n vs&&Nat.beq z.length n) (if mu&&dst&&Nat.ble 1 len then match Zmr n len (ZjR z (is.zip vs) len 0) with
     |some cs=>sO ⟨.msl nx 0 len (sO len) n,σ.set (sO (.cells cs)) nx,nx+1⟩
     |none=>nO
    else sO ⟨.sl 1 len n (ZjR z (is.zip vs) len 0),σ,nx⟩)
   |none=>nO⟩
  |none=>⟨fun _ _ _=>nO⟩
 |.s2b x=>⟨fun ρ σ nx=>mp2 ((YM x).run ρ) fun v=>match v with
  |.str l=>sO ⟨.sl 0 l.length 1 (u8V l),σ,nx⟩
  |_=>nO⟩
 |.store1 a v=>⟨fun ρ σ nx=>noV (!dst) (mp2 ((YM a).run ρ) fun a=>mp2 ((YM v).run ρ) fun x=>noV (ZuZ x) (up (ZgJ σ a 1 [x]) .nilsl nx))⟩
 |.storeN n a v=>⟨fun ρ σ nx=>noV (!dst) (mp2 ((YM a).run ρ) fun a=>mp2 ((YM v).run ρ) fun x=>match x with
  |.agg xs=>up (ZgJ σ a n xs) .nilsl nx
  |_=>nO)⟩
 |.mkmap=>⟨fun _ σ nx=>noV dst (sO ⟨.map nx,σ.set (sO (.map [])) nx,nx+1⟩)⟩
 |.mkslice _ n bytes z l h=>match ofDs z with
  |some z=>⟨fun ρ σ nx=>noV dst (mp2 ((YM l).run ρ) fun l=>mp2 ((YM h).run ρ) fun h=>match l with
   |.int _ l=>match h with
    |.int _ h=>noV (leI 0 l&&leI l h&&leI (Int.mul bytes h) 140737488355328&&leI h big) (sO ⟨.msl nx 0 l.toNat (sO h.toNat) n,σ.set (sO (.cells (ZgO z h.toNat))) nx,nx+1⟩)
    |_=>nO
   |_=>nO)⟩
  |none=>⟨fun _ _ _=>nO⟩
 |.mapupd kp m k v=>⟨fun ρ σ nx=>noV (!dst) (mp2 ((YM m).run ρ) fun m=>mp2 ((YM k).run ρ) fun k=>mp2 ((YM v).run ρ) fun v=>match m with
  |.map b=>match σ.get b with
   |some (.map es)=>noV (Zdz kp k k).isSome (match Zon kp k v es with
    |some es'=>sO ⟨.nilsl,σ.set (sO (.map es')) b,nx⟩
    |none=>nO)
   |_=>nO
  |_=>nO)⟩
 |.delete kp m k=>⟨fun ρ σ nx=>noV (!dst) (mp2 ((YM m).run ρ) fun m=>mp2 ((YM k).run ρ) fun k=>match m with
  |.map b=>match σ.get b with
   |some (.map es)=>noV (Zdz kp k k).isSome (match ZqS kp k es with
    |some es'=>sO ⟨.nilsl,σ.set (sO (.map es')) b,nx⟩
    |none=>nO)
   |_=>nO
  |_=>nO)⟩
 |.mapent kp z m k=>match ofD z with
  |some z=>⟨fun ρ σ nx=>noV dst (mp2 ((YM m).run ρ) fun m=>mp2 ((YM k).run ρ) fun k=>match m with
   |.map b=>match σ.get b with
    |some (.map es)=>noV (Zdz kp k k).isSome (match ZqZ kp k z es with
     |some v=>sO ⟨.tup [v,.stamp nx],σ.set (sO (.mapE kp es k nx)) b,nx+1⟩
     |none=>nO)
    |_=>nO
   |_=>nO)⟩
  |none=>⟨fun _ _ _=>nO⟩
 |.entst m st v=>⟨fun ρ σ nx=>noV (!dst) (mp2 ((YM m).run ρ) fun m=>mp2 ((YM st).run ρ) fun st=>mp2 ((YM v).run ρ) fun v=>match m with
  |.map b=>match st with
   |.stamp n=>match σ.get b with
    |some (.mapE kp es k n')=>noV (Nat.beq n n') (match Zon kp k v es with
     |some es'=>sO ⟨.nilsl,σ.set (sO (.map es')) b,nx⟩
     |none=>nO)
    |_=>nO
   |_=>nO
  |_=>nO)⟩
 |.clear s z x=>match ofDs z with
  |some z=>⟨fun ρ σ nx=>mp2 ((YM x).run ρ) fun x=>match x with
   |.msl b o n _ s'=>noV (Nat.beq s' s) (up (ZgJ σ (.ptr b o) (n*s) (ZgO z n)) (.tup []) nx)
   |_=>nO⟩
  |none=>⟨fun _ _ _=>nO⟩
 |.fork k=>match ZAe k with
  |true=>opF mu dst k
  |false=>⟨fun _ _ _=>nO⟩
 |.append _ s bytes _ x y=>⟨fun ρ σ nx=>mp2 ((YM x).run ρ) fun x=>mp2 ((YM y).run ρ) fun y=>match ZxO σ s y with
  |some (m,rs2)=>ZwL mu s bytes σ nx x m rs2
  |none=>nO⟩
 |_=>⟨fun _ _ _=>nO⟩
def rvV(ρ:T W)(σ:S):RV→Option V
 |.tmp t=>(YM (.tmp t)).run ρ
 |.cell1 t=>match (YM (.tmp t)).run ρ with
  |some a=>qV .load1 σ [a]
  |none=>nO
 |.cellN t n=>match (YM (.tmp t)).run ρ with
  |some a=>qV (.loadN n) σ [a]
  |none=>nO
def ZrJ(ρ:T W)(σ:S):List RV→Option (List V)
 | []=>sO []
 |r::rs=>match rvV ρ σ r with
  |some v=>match ZrJ ρ σ rs with
   |some vs=>sO (v::vs)
   |none=>nO
  |none=>nO
def mkV:List V→V
 | [v]=>v
 |vs=>.tup vs
def ZpP(C:Cx)(f:FuncId):Bx (Ih→List V→S→Nat→Option Out) :=
 match C.df f with
 |some df=>⟨fun ih args σ nx=>ih ⟨f,df.n,.fn df.res,[]⟩ [.code df.body] (Zmz 0 args T.nil) σ nx⟩
 |none=>⟨fun _ _ _ _=>nO⟩
def ZgT(C:Cx)(f:FuncId):Bx (Ih→List V→S→Nat→Option Out) :=
 match C.lib f with
 |some g=>⟨fun ih args σ nx=>match g σ args with
  |some v=>sO ⟨false,v,σ,nx⟩
  |none=>(ZpP C f).run ih args σ nx⟩
 |none=>ZpP C f
def Zl6(C:Cx)(ih:Ih)(f:V)(args:List V)(σ:S)(nx:Nat):Option Out :=
 match f with
 |.fn f first caps=>(ZgT C f).run ih (first++(args++caps)) σ nx
 |.yield l=>match σ.get l with
  |some (.loop f n ps a b ρ nO false)=>noV (Nat.beq args.length ps.length) (ih ⟨f,n,.rnd l,[]⟩ [.code a,.beginR,.code b] (ZeD ps args ρ) σ nx)
  |_=>nO
 |_=>nO
def ZuF:V→Bool
 |.int k n=>Zt8 k n
 |.bool _=>true
 |.str l=>Nat.ble l.length big
 |.nilsl=>true
 |.nilptr=>true
 |.ptr _ _=>true
 |.map _=>true
 |.nilmap=>true
 |.nilfn=>true
 |.niliface=>true
 |_=>false
def Zj5:List V→Bool
 | []=>true
 |v::r=>ZuF v&&Zj5 r
def ZuE:Option V→Bool
 |some x=>match x with
  |.iface _ v=>match v with
   |.agg cs=>Zj5 cs
   |v=>ZuF v
  |_=>false
 |none=>true
def ZlO(C:Cx)(ih:Ih):List Dd→Option V→S→Nat→Option (Option V×S×Nat)
 | [],m,σ,nx=>sO (m,σ,nx)
 |.mark q::r,m,σ,nx=>match σ.get q with
  |some .dfr=>ZlO C ih r m (σ.set nO q) nx
  |_=>nO
 |.fn i args caps::r,m,σ,nx=>match C.df i with
  |some ⟨n,[],body⟩=>noV (ZuE m) <|match ih ⟨i,n,.dfd m false,[]⟩ [.code body] (Zmz 0 (args++caps) T.nil) σ nx with
   |some ⟨false,.bool b,σ',nx'⟩=>ZlO C ih r (if b then nO else m) σ' nx'
   |_=>nO
  |_=>nO
def loopTo(σ:S)(l:Nat)(st:Option DC)(now busy:Bool):Option S :=
 match σ.get l with
 |some (.loop f n ps a b ρ nO bs)=>noV (bs==now) (sO (σ.set (sO (.loop f n ps a b ρ st busy)) l))
 |_=>nO
def ZuD(C:Cx)(ih:Ih)(fm:Fm)(ρ:T W)(σ:S)(nx:Nat)(fell:Bool):Option Out :=
 match fm.k with
 |.fn res=>match ZlO C ih fm.ds nO σ nx with
  |some (nO,σ',nx')=>match ZrJ ρ σ' res with
   |some vs=>sO ⟨false,mkV vs,σ',nx'⟩
   |none=>nO
  |_=>nO
 |.rnd l=>match loopTo σ l (if fell then nO else sO .ret) true false with
  |some σ'=>sO ⟨false,.bool fell,σ',nx⟩
  |none=>nO
 |.dfd pd rec=>match fm.ds with
  | []=>sO ⟨false,.bool (pd.isNone ||rec),σ,nx⟩
  |_=>nO
def ZlA(C:Cx)(ih:Ih)(fm:Fm)(ρ:T W)(v:V)(σ:S)(nx:Nat):Option Out :=
 match fm.k with
 |.fn res=>match ZlO C ih fm.ds (sO v) σ nx with
  |some (nO,σ',nx')=>match ZrJ ρ σ' res with
   |some vs=>sO ⟨false,mkV vs,σ',nx'⟩
   |none=>nO
  |some (sO v,σ',nx')=>sO ⟨true,v,σ',nx'⟩
  |none=>nO
 |.rnd _=>match C.P.funcs[fm.f]? with
  |some _=>sO ⟨true,v,σ,nx⟩
  |none=>nO
 |.dfd _ _=>nO
abbrev Rg:=Ih→List Zh→Fm→T W→S→Nat→Option Out
def goF(C:Cx)(f:FuncId)(rest:Bx Rg)(dst:Option Nat)(g:Option (Nat×Bool))(k:K):Bx Rg :=
 match k with
 |.call fx xs=>⟨fun ih dk fm ρ σ nx=>match (YM fx).run ρ with
  |some fv=>match (ZbR xs).run ρ with
   |some vs=>match Zl6 C ih fv vs σ nx with
    |some ⟨pan,v,σ',nx'⟩=>match pan with
     |false=>rest.run ih dk fm ((Zb8 dst).run ρ (.v v)) σ' nx'
     |true=>ZlA C ih fm ρ v σ' nx'
    |none=>nO
   |none=>nO
  |none=>nO⟩
 |.panic x=>⟨fun ih _ fm ρ σ nx=>match (YM x).run ρ with
  |some (.iface t v)=>ZlA C ih fm ρ (.iface t v) σ nx
  |_=>nO⟩
 |.defer fx xs=>match g,dst with
  |none,nO=>⟨fun ih dk fm ρ σ nx=>match (YM fx).run ρ,(ZbR xs).run ρ with
   |some (.fn j first caps),sO vs=>match fm.k with
    |.fn _=>noV (Zj5 (first++vs)&&Zj5 caps) (rest.run ih dk { fm with ds:=.fn j (first++vs) caps::fm.ds } ρ σ nx)
    |_=>nO
   |_,_=>nO⟩
  |_,_=>⟨fun _ _ _ _ _ _=>nO⟩
 |.recover=>match g with
  |none=>⟨fun ih dk fm ρ σ nx=>match fm.k with
   |.dfd (sO v) false=>rest.run ih dk { fm with k:=.dfd (sO v) true } ((Zb8 dst).run ρ (.v v)) σ nx
   |.dfd nO _=>rest.run ih dk fm ((Zb8 dst).run ρ (.v .niliface)) σ nx
   |_=>nO⟩
  |_=>⟨fun _ _ _ _ _ _=>nO⟩
 |k=>match gk k ||g.isNone with
  |true=>⟨fun ih dk fm ρ σ nx=>match (opF (C.mu f dst) dst.isSome k).run ρ σ nx with
   |some ⟨v,σ',nx'⟩=>rest.run ih dk fm ((Zb8 dst).run ρ (.v v)) σ' nx'
   |none=>nO⟩
  |false=>⟨fun _ _ _ _ _ _=>nO⟩
def Zn9(C:Cx)(f:FuncId):List DOp→Bx Rg
 | []=>⟨fun ih dk fm ρ σ nx=>ih fm dk ρ σ nx⟩
 |⟨dst,g,k⟩::os=>match g with
  |none=>goF C f (Zn9 C f os) dst g k
  |some _=>⟨fun ih dk fm ρ σ nx=>match (Ziw g).run ρ with
   |some b=>match b with
    |true=>(goF C f (Zn9 C f os) dst g k).run ih dk fm ρ σ nx
    |false=>(Zn9 C f os).run ih dk fm ((Zb8 dst).run ρ .skip) σ nx
   |none=>nO⟩
def ZiH:K→Bool
 |.fork _=>false
 |_=>true
structure Rl where
 cs:List (Nat×List V)
 ad:List (Nat×Nat×Nat)
 bn:List (Nat×Nat)
 bl:List (Nat×Nat)
def Rl.nil:Rl:=⟨[],[],[],[]⟩
def Zis(u:Nat):List (Nat×Nat×Nat)→Option (Nat×Nat)
 | []=>nO
 | (t,a)::r=>if Nat.beq t u then sO a else Zis u r
def Ke(l:Nat):List (Nat×List V)→Option (List V)
 | []=>nO
 | (t,c)::r=>if Nat.beq t l then sO c else Ke l r
def Zjh(l:Nat)(vs:List V):List (Nat×List V)→List (Nat×List V)
 | []=>[]
 | (t,c)::r=>if Nat.beq t l then (t,vs)::r else (t,c)::Zjh l vs r
def ZfV(n:Nat):List Nat→Bool
 | []=>false
 |a::r=>if Nat.beq a n then true else ZfV n r
def ZwJ(n:Nat)(l:List Nat):List Nat:=if ZfV n l then l else n::l
def ZlG(fl:List Nat):List (Nat×Nat)→List Nat
 | []=>[]
 | (t,n)::r=>if ZfV t fl then ZwJ n (ZlG fl r) else ZlG fl r
def Zfe(fl:List Nat):List (Nat×Nat)→List (Nat×Nat)
 | []=>[]
 | (t,n)::r=>if ZfV t fl then (t,n)::Zfe fl r else Zfe fl r
def noA(u:Nat)(r:Rl):Bool:=match Zis u r.ad with
 |none=>Nat.blt u 32768
 |some _=>false
def ZdW(dst:Option Nat)(r:Rl):Bool:=match dst with
 |none=>true
 |some t=>noA t r
def Zun(t:Nat)(r:Rl):Bool:=(match Ke t r.cs with
 |none=>true
 |some _=>false)&&noA t r
def ZjV(fl:List Nat)(r:Rl):Rl:=match fl with
 | []=>⟨r.cs,r.ad,[],[]⟩
 |fl=>⟨r.cs,r.ad,Zfe fl r.bn,Zfe fl r.bl⟩
def Zi0:O→Bool
 |.cells _=>true
 |.buf _=>true
 |.map _=>true
 |_=>false
def ZiL:List Nat→S→Option (S×List (Nat×O))
 | [],σ=>sO (σ,[])
 |k::r,σ=>match σ.get k with
  |some o=>match Zi0 o with
   |true=>match ZiL r (σ.set (sO (.ro o)) k) with
    |some (σ',l)=>sO (σ',(k,o)::l)
    |none=>nO
   |false=>match Zbn o with
    |true=>ZiL r σ
    |false=>nO
  |none=>nO
def ZjJ:List (Nat×O)→S→Option S
 | [],σ=>sO σ
 | (k,o)::r,σ=>match σ.get k with
  |some (.ro _)=>match ZjJ r σ with
   |some σ'=>sO (σ'.set (sO o) k)
   |none=>nO
  |_=>nO
def Zxu(fl:List Nat)(r:Rl)(σ:S):Option (S×List (Nat×O)):=match fl with
 | []=>sO (σ,[])
 |fl=>ZiL (ZlG fl r.bn) σ
def Zqk:Opd→Rl→Option (Nat×Nat)
 |.tmp t,r=>Zis t r.ad
 |.cst _,_=>nO
def ZxU(t:Nat)(v:V)(r:Rl):Rl:=match v with
 |.ptr k _=>⟨r.cs,r.ad,(t,k)::r.bn,r.bl⟩
 |.msl k _ _ _ _=>⟨r.cs,r.ad,(t,k)::r.bn,r.bl⟩
 |.map k=>⟨r.cs,r.ad,(t,k)::r.bn,r.bl⟩
 |_=>r
def rdR(t:Nat)(k:K):Bx (T W→Rl→Rl):=match k with
 |.q q xs=>match YP (.q q xs) with
  |true=>match xs with
   |x::_=>⟨fun ρ r=>match (YM x).run ρ with
    |some v=>ZxU t v r
    |none=>r⟩
   | []=>⟨fun _ r=>r⟩
  |false=>⟨fun _ r=>r⟩
 |_=>⟨fun _ r=>r⟩
abbrev RgD:=Rl→Rg
def ZiT(rest:Bx RgD)(dst:Option Nat)(k:K):Bx RgD :=
 ⟨fun r ih dk fm ρ σ nx=>match (opF false dst.isSome k).run ρ σ nx with
  |some ⟨v,_,_⟩=>noV (ZdW dst r) (rest.run ((rdR (dst.getD 0) k).run ρ r) ih dk fm ((Zb8 dst).run ρ (.v v)) σ nx)
  |none=>nO⟩
def ZqV(C:Cx)(f:FuncId)(rest:Bx RgD)(dst:Option Nat)(g:Option (Nat×Bool))(fl:List Nat)(k:K):Bx RgD :=
 match gk k ||g.isNone with
 |true=>⟨fun r ih dk fm ρ σ nx=>match Zxu fl r σ with
  |some (σ0,l)=>match (opF (C.mu f dst) dst.isSome k).run ρ σ0 nx with
   |some ⟨v,σ',nx'⟩=>match ZjJ l σ' with
    |some σ2=>noV (ZdW dst r) (rest.run (ZjV fl r) ih dk fm ((Zb8 dst).run ρ (.v v)) σ2 nx')
    |none=>nO
   |none=>nO
  |none=>nO⟩
 |false=>⟨fun _ _ _ _ _ _ _=>nO⟩
def adD(rest:Bx RgD)(dst:Option Nat)(l o:Nat):Bx RgD :=
 match dst with
 |some u=>⟨fun r ih dk fm ρ σ nx=>noV (noA u r) (rest.run ⟨r.cs,(u,l,o)::r.ad,r.bn,r.bl⟩ ih dk fm ((T.setF u).run nO ρ) σ nx)⟩
 |none=>⟨fun _ _ _ _ _ _ _=>nO⟩
def Zxn(rest:Bx RgD)(dst:Option Nat)(q:Q)(xs:List Opd):Bx (Nat→Nat→RgD) :=
 match q with
 |.mv=>match xs with
  | []=>⟨fun l o=>(adD rest dst l o).run⟩
  |_=>⟨fun _ _ _ _ _ _ _ _ _=>nO⟩
 |.nilck=>match xs with
  | []=>⟨fun l o=>(adD rest dst l o).run⟩
  |_=>⟨fun _ _ _ _ _ _ _ _ _=>nO⟩
 |.faddr off=>match xs with
  | []=>⟨fun l o=>(adD rest dst l (o+off)).run⟩
  |_=>⟨fun _ _ _ _ _ _ _ _ _=>nO⟩
 |.iaddrA m z=>match xs with
  | [x]=>⟨fun l o r ih dk fm ρ σ nx=>match (YM x).run ρ with
   |some (.int _ i)=>noV (leI 0 i&&!leI m i) ((adD rest dst l (o+i.toNat*z)).run r ih dk fm ρ σ nx)
   |_=>nO⟩
  |_=>⟨fun _ _ _ _ _ _ _ _ _=>nO⟩
 |.load1=>match xs with
  | []=>⟨fun l o r ih dk fm ρ σ nx=>match Ke l r.cs with
   |some cs=>match Zg8 o cs with
    |some v=>noV (ZdW dst r) (rest.run ⟨r.cs,r.ad,r.bn,(dst.getD 0,l)::r.bl⟩ ih dk fm ((Zb8 dst).run ρ (.v v)) σ nx)
    |none=>nO
   |none=>nO⟩
  |_=>⟨fun _ _ _ _ _ _ _ _ _=>nO⟩
 |.loadN n=>match xs with
  | []=>⟨fun l o r ih dk fm ρ σ nx=>match Ke l r.cs with
   |some cs=>match Zju cs o n with
    |some v=>noV (ZdW dst r) (rest.run ⟨r.cs,r.ad,r.bn,(dst.getD 0,l)::r.bl⟩ ih dk fm ((Zb8 dst).run ρ (.v v)) σ nx)
    |none=>nO
   |none=>nO⟩
  |_=>⟨fun _ _ _ _ _ _ _ _ _=>nO⟩
 |_=>⟨fun _ _ _ _ _ _ _ _ _=>nO⟩
def ZrU(rest:Bx RgD)(fl:List Nat)(l o n:Nat)(xs:List V):RgD:=fun r ih dk fm ρ σ nx=>match Ke l r.cs with
 |some cs=>match Zji o n xs cs with
  |some cs'=>noV (!ZfV l (ZlG fl r.bl)) (rest.run (ZjV fl ⟨Zjh l cs' r.cs,r.ad,r.bn,r.bl⟩) ih dk fm ρ σ nx)
  |none=>nO
 |none=>nO
def goD(C:Cx)(f:FuncId)(rest:Bx RgD)(dst:Option Nat)(g:Option (Nat×Bool))(fl:List Nat)(k:K):Bx RgD :=
 match k with
 |.call fx xs=>⟨fun r ih dk fm ρ σ nx=>match (YM fx).run ρ with
  |some fv=>match (ZbR xs).run ρ with
   |some vs=>match Zxu fl r σ with
    |some (σ0,l)=>match Zl6 C ih fv vs σ0 nx with
     |some ⟨pan,v,σ',nx'⟩=>match ZjJ l σ' with
      |some σ2=>match pan with
       |false=>noV (ZdW dst r) (rest.run (ZjV fl r) ih dk fm ((Zb8 dst).run ρ (.v v)) σ2 nx')
       |true=>ZlA C ih fm T.nil v σ2 nx'
      |none=>nO
     |none=>nO
    |none=>nO
   |none=>nO
  |none=>nO⟩
 |.panic x=>⟨fun _ ih _ fm ρ σ nx=>match (YM x).run ρ with
  |some (.iface t v)=>ZlA C ih fm T.nil (.iface t v) σ nx
  |_=>nO⟩
 |.defer _ _=>⟨fun _ _ _ _ _ _ _=>nO⟩
 |.recover=>⟨fun _ _ _ _ _ _ _=>nO⟩
 |.fork _=>⟨fun _ _ _ _ _ _ _=>nO⟩
 |.alloc z=>match g,dst,ofDs z with
  |none,sO t,sO z=>⟨fun r ih dk fm ρ σ nx=>noV (Zun t r) (rest.run ⟨(t,z)::r.cs,(t,t,0)::r.ad,r.bn,r.bl⟩ ih dk fm ((T.setF t).run nO ρ) σ nx)⟩
  |_,_,_=>⟨fun _ _ _ _ _ _ _=>nO⟩
 |.box x=>match g,dst with
  |none,sO t=>⟨fun r ih dk fm ρ σ nx=>match (YM x).run ρ with
   |some v=>noV (Znv v&&Zun t r&&!ZfV t (ZlG fl r.bl)) (rest.run (ZjV fl ⟨(t,ZeZ v)::r.cs,(t,t,0)::r.ad,r.bn,r.bl⟩) ih dk fm ((T.setF t).run nO ρ) σ nx)
   |none=>nO⟩
  |_,_=>⟨fun _ _ _ _ _ _ _=>nO⟩
 |.store1 a v=>match g,dst with
  |none,nO=>⟨fun r ih dk fm ρ σ nx=>match Zqk a r with
   |some (l,o)=>match (YM v).run ρ with
    |some x=>noV (ZuZ x) (ZrU rest fl l o 1 [x] r ih dk fm ρ σ nx)
    |none=>nO
   |none=>(ZqV C f rest dst g fl (.store1 a v)).run r ih dk fm ρ σ nx⟩
  |_,_=>⟨fun _ _ _ _ _ _ _=>nO⟩
 |.storeN n a v=>match g,dst with
  |none,nO=>⟨fun r ih dk fm ρ σ nx=>match Zqk a r with
   |some (l,o)=>match (YM v).run ρ with
    |some (.agg xs)=>ZrU rest fl l o n xs r ih dk fm ρ σ nx
    |_=>nO
   |none=>(ZqV C f rest dst g fl (.storeN n a v)).run r ih dk fm ρ σ nx⟩
  |_,_=>⟨fun _ _ _ _ _ _ _=>nO⟩
 |.q q xs=>match xs with
  |x::ys=>⟨fun r ih dk fm ρ σ nx=>match Zqk x r with
   |some (l,o)=>(Zxn rest dst q ys).run l o r ih dk fm ρ σ nx
   |none=>(ZiT rest dst (.q q xs)).run r ih dk fm ρ σ nx⟩
  | []=>ZiT rest dst (.q q xs)
 |k=>match YB k with
  |true=>ZiT rest dst k
  |false=>ZqV C f rest dst g fl k
def ZmT:List (Nat×Nat×Nat)→Nat→Nat→T W→T W
 | [],_,_,ρ=>ρ
 | (u,l,o)::r,t,nx,ρ=>if Nat.beq l t then (ZmT r t nx ρ).set (sO (.v (.ptr nx o))) u else ZmT r t nx ρ
def Zq2:List (Nat×List V)→List (Nat×Nat×Nat)→Rg
 | [],_=>fun ih dk fm ρ σ nx=>ih fm dk ρ σ nx
 | (t,vs)::r,ad=>fun ih dk fm ρ σ nx=>match Zis t ad with
  |some (l,_)=>noV (Nat.beq l t) (Zq2 r ad ih dk fm (ZmT ad t nx ρ) (σ.set (sO (.cells vs)) nx) (nx+1))
  |none=>nO
def Zj0(C:Cx)(f:FuncId):List (DOp×List Nat)→Bx RgD
 | []=>⟨fun r ih dk fm ρ σ nx=>Zq2 r.cs r.ad ih dk fm ρ σ nx⟩
 | (⟨dst,g,k⟩,fl)::os=>match k with
  |.fork _=>⟨fun _ _ _ _ _ _ _=>nO⟩
  |k=>match g with
   |none=>goD C f (Zj0 C f os) dst g fl k
   |some _=>⟨fun r ih dk fm ρ σ nx=>match (Ziw g).run ρ with
    |some b=>match b with
     |true=>(goD C f (Zj0 C f os) dst g fl k).run r ih dk fm ρ σ nx
     |false=>match k with
      |.alloc _=>nO
      |k=>noV (ZdW dst r) ((Zj0 C f os).run (if YB k then r else ZjV fl r) ih dk fm ((Zb8 dst).run ρ .skip) σ nx)
    |none=>nO⟩
abbrev Cd:=Ih→Fm→List Zh→T W→S→Nat→Option Out
def Zaa(C:Cx)(f:FuncId):DC→Bx Cd
 |.skip=>⟨fun ih fm k ρ σ nx=>ih fm k ρ σ nx⟩
 |.label _=>⟨fun ih fm k ρ σ nx=>ih fm k ρ σ nx⟩
 |.seq a b=>⟨fun ih fm k ρ σ nx=>(Zaa C f a).run ih fm (.code b::k) ρ σ nx⟩
 |.cond c a b=>⟨fun ih fm k ρ σ nx=>match (YM c).run ρ with
  |some v=>match v with
   |.bool t=>match t with
    |true=>(Zaa C f a).run ih fm k ρ σ nx
    |false=>(Zaa C f b).run ih fm k ρ σ nx
   |_=>nO
  |none=>nO⟩
 |.block id a=>⟨fun ih fm k ρ σ nx=>(Zaa C f a).run ih fm (.inBlock id::k) ρ σ nx⟩
 |.loop a=>⟨fun ih fm k ρ σ nx=>(Zaa C f a).run ih fm (.inLoop a::k) ρ σ nx⟩
 |.scope a=>⟨fun ih fm k ρ σ nx=>(Zaa C f a).run ih fm (.inScope a::k) ρ σ nx⟩
 |.exit id=>⟨fun ih fm k ρ σ nx=>match Qv id k with
  |some k'=>ih fm k' ρ σ nx
  |none=>match fm.k with
   |.rnd l=>match loopTo σ l (sO (.exit id)) true false with
    |some σ'=>sO ⟨false,.bool false,σ',nx⟩
    |none=>nO
   |_=>nO⟩
 |.goto l=>⟨fun ih fm k ρ σ nx=>match ZcU l k with
  |some k'=>ih fm k' ρ σ nx
  |none=>nO⟩
 |.ret=>⟨fun ih fm _ ρ σ nx=>ZuD C ih fm ρ σ nx false⟩
 |.reg ops kp=>match kp with
  |none=>match ops.all fun o=>ZiH o.k with
   |true=>⟨fun ih fm k ρ σ nx=>(Zn9 C f ops).run ih k fm ρ σ nx⟩
   |false=>⟨fun _ _ _ _ _ _=>nO⟩
  |some _=>⟨fun _ _ _ _ _ _=>nO⟩
 |.regD _ ops _=>⟨fun ih fm k ρ σ nx=>(Zj0 C f ops).run Rl.nil ih k fm ρ σ nx⟩
 |.rangeF g ps a b=>⟨fun ih fm k ρ σ nx=>match fm.k with
  |.fn _=>match (YM g).run ρ with
   |some fv=>match Zl6 C ih fv [.yield (nx+1)] ((σ.set (sO .dfr) nx).set (sO (.loop fm.f fm.n ps a b ρ nO false)) (nx+1)) (nx+2) with
    |some ⟨pan,v,σ',nx'⟩=>match pan with
     |false=>match σ'.get (nx+1) with
      |some (.loop _ _ _ _ _ _ nO false)=>ih { fm with ds:=.mark nx::fm.ds } k ρ (σ'.set nO (nx+1)) nx'
      |some (.loop f' n' _ _ _ _ (sO j) false)=>noV (Nat.beq f' fm.f&&Nat.beq n' fm.n) (ih { fm with ds:=.mark nx::fm.ds } (.code j::k) ρ (σ'.set nO (nx+1)) nx')
      |_=>nO
     |true=>ZlA C ih { fm with ds:=.mark nx::fm.ds } ρ v σ' nx'
    |none=>nO
   |none=>nO
  |_=>nO⟩
def step(C:Cx)(ih:Ih)(fm:Fm)(dk:List Zh)(ρ:T W)(σ:S)(nx:Nat):Option Out :=
 match dk with
 | []=>ZuD C ih fm ρ σ nx true
 |it::k=>match it with
  |.inBlock _=>ih fm k ρ σ nx
  |.inScope _=>ih fm k ρ σ nx
  |.inLoop c=>(Zaa C fm.f c).run ih fm (.inLoop c::k) ρ σ nx
  |.beginR=>match fm.k with
   |.rnd l=>match loopTo σ l nO false true with
    |some σ'=>ih fm k ρ σ' nx
    |none=>nO
   |_=>nO
  |.code c=>(Zaa C fm.f c).run ih fm k ρ σ nx
def run(C:Cx)(n:Nat):Ih:=Nat.rec (motive:=fun _=>Ih) (fun _ _ _ _ _=>nO) (fun _ ih=>step C ih) n
theorem ZxV(a b:Nat):UInt8.ofNat a=UInt8.ofNat b↔a % 256=b % 256:=by
 rw[←UInt8.toNat_inj];simp
theorem Zmi:∀(a b:List Nat),eqS a b=dC (a.map UInt8.ofNat=b.map UInt8.ofNat)
 | [],[]=>by simp[eqS]
 | [],b::y=>by simp[eqS]
 |a::x,[]=>by simp[eqS]
 |a::x,b::y=>by simp only[eqS,ZEc,List.cons.injEq,ZxV,Zmi x y];by_cases h:a % 256=b % 256<;>simp
theorem Zrd:∀(a b:List Nat),ZcW a b=Op.bytesLess (a.map UInt8.ofNat) (b.map UInt8.ofNat)
 | [],[]=>by simp[ZcW,Op.bytesLess]
 | [],b::y=>by simp[ZcW,Op.bytesLess]
 |a::x,[]=>by simp[ZcW,Op.bytesLess]
 |a::x,b::y=>by
  have e1:(UInt8.ofNat a<UInt8.ofNat b)↔a % 256<b % 256:=by rw[UInt8.lt_iff_toNat_lt];simp
  have e2:=ZxV a b;simp[ZcW,Op.bytesLess,Zrd x y];by_cases h1:a % 256<b % 256;simp[h1,e1];by_cases h2:a % 256=b % 256;simp[h2,e1,e2];simp[h2,e1,e2]
section
variable {η:Nm}
theorem Zm1{k:SK}{x y:V}{dx dy:D}(hx:VR η x dx)(hy:VR η y dy){b:Bool}(h:Zj6 k x y=sO b):Yi k dx dy=sO b:=by
 cases k<;>cases hx<;>cases hy<;>simp only[Zj6,reduceCtorEq]at h;split at h<;>simp only[ZDV,reduceCtorEq]at h;rename_i hk;obtain rfl:=Zet hk;simp only[Yi,if_true,ZDV];rw[←Zim];exact h;simp only[ZDV]at h;simp only[Yi,ZDV];rw[←Zmi];exact h;simpa only[Yi]using h
theorem Zid{xs ys:List V}{ds es:List D}(hx:VRs η xs ds)(hy:VRs η ys es):∀{l:List (Nat×SK)} {b:Bool},Zgj xs ys l=sO b→Wg ds es l=sO b
 | [],b,h=>by simpa only[Zgj,Wg]using h
 | (o,k)::r,b,h=>by simp only[Zgj]at h;split at h<;>(try(simp at h;done));rename_i x y h1 h2;split at h<;>simp only[ZDV,reduceCtorEq]at h;rename_i b1 b2 h3 h4;obtain⟨dx,n,i⟩:=hx.get h1;obtain⟨dy,t,j⟩:=hy.get h2;simp only[Wg,n,t,Zm1 i j h3,Zid hx hy h4,h]
theorem ZaL{kp:KP}{x y:V}{dx dy:D}(hx:VR η x dx)(hy:VR η y dy){b:Bool}(h:Zdz kp x y=sO b):W6 kp dx dy=sO b:=by
 cases kp with
 |sc k=>exact Zm1 hx hy h
 |st l =>cases hx<;>cases hy<;>simp only[Zdz,reduceCtorEq]at h;rename_i cs ds h1 cs' ds' h2;split at h<;>(try(simp at h;done));rename_i hl;simp only[W6];rw[if_pos ⟨by rw[←h1.len];exact hl.1,by rw[←h2.len];exact hl.2⟩];exact Zid h1 h2 h
theorem Zfh{kp:KP}{x:V}{dx:D}(hx:VR η x dx)(h:(Zdz kp x x).isSome=true):K9 kp dx=true:=by
 cases hk:Zdz kp x x with
 |none=>rw[hk]at h;grind
 |some b=>simp[K9,ZaL hx hx hk]
theorem Zry{p:J0}{x y:V}{dx dy:D}(hx:VR η x dx)(hy:VR η y dy){b:Bool}(h:ZpZ p x y=sO b):∃side,YH p dx dy=sO (side,b)∧side:=by
 cases p<;>cases hx<;>cases hy<;>simp only[ZpZ,reduceCtorEq,ZDV]at h;case cells.agg.agg l cs ds h1 cs' ds' h2=>exact⟨True,by simp[YH,Zid h1 h2 h],trivial⟩
 case sl.sl.nilsl t n s rs τ row h1 h2 h3 =>split at h<;>simp only[ZDV,reduceCtorEq]at h;subst h;exact⟨_,rfl,‹_›⟩
 all_goals (subst h;exact⟨True,rfl,trivial⟩)
theorem ZbB{k:IntKind}{n:Int}{v:V}(h:ZfR k n=sO v):v=.int k n∧inR k n:=by
 unfold ZfR at h;split at h<;>simp at h;exact⟨h.symm,ZsW ‹_›⟩
theorem ZyP{op:BinOp}{k k':IntKind}{a b:Int}{v:V}(hk:ZrM op=true∨k=k')(h:Zxz op k a b=sO v):∃side d,J2 op nO (.int k a) (.int k' b)=sO (side,d)∧side∧VR η v d:=by
 have i:ZrM op=false→k=k':=fun h=>hk.resolve_left (by rw[h];simp);cases op<;>simp only[Zxz]at h;case shl =>split at h<;>(try(simp at h;done));rename_i h0;obtain⟨rfl,hr⟩:=ZbB h;rw[Zgt,decide_eq_true_eq]at h0;exact⟨_,_,rfl,⟨h0,hr⟩,.int _ _⟩
 case shr =>split at h<;>(try(simp at h;done));rename_i h0;obtain⟨rfl,hr⟩:=ZbB h;rw[Zgt,decide_eq_true_eq]at h0;exact⟨_,_,rfl,⟨h0,hr⟩,.int _ _⟩
 all_goals
  obtain rfl:=i rfl;simp only[J2,if_true,Qz]
 case add=>obtain⟨rfl,hr⟩:=ZbB h;exact⟨_,_,rfl,hr,.int _ _⟩
 case sub=>obtain⟨rfl,hr⟩:=ZbB h;exact⟨_,_,rfl,hr,.int _ _⟩
 case mul=>obtain⟨rfl,hr⟩:=ZbB h;exact⟨_,_,rfl,hr,.int _ _⟩
 case quo =>split at h<;>(try(simp at h;done));rename_i h0;obtain⟨rfl,hr⟩:=ZbB h;rw[Zim,decide_eq_false_iff_not]at h0;exact⟨_,_,rfl,⟨h0,hr⟩,.int _ _⟩
 case rem =>split at h<;>(try(simp at h;done));rename_i h0;obtain⟨rfl,hr⟩:=ZbB h;rw[Zim,decide_eq_false_iff_not]at h0;exact⟨_,_,rfl,⟨h0,hr⟩,.int _ _⟩
 all_goals
  simp only[ZDV]at h;subst h;refine⟨_,_,rfl,trivial,?_⟩;try simp only[Zim,Zgt]
 case lss=>rw[show(!dC (b≤a))=dC (a<b) by by_cases hh:a<b<;>simp[hh]<;>omega];exact .bool _
 case gtr=>rw[show(!dC (a≤b))=dC (b<a) by by_cases hh:b<a<;>simp[hh]<;>omega];exact .bool _
 case geq=>exact .bool _
 all_goals first|exact .bool _|exact .int _ _
theorem ZyR{op:BinOp}{a b:List Nat}{v:V}(h:ZxA op a b=sO v):∃side d,Zdv op (a.map UInt8.ofNat) (b.map UInt8.ofNat)=sO (side,d)∧side∧VR η v d:=by
 cases op<;>simp only[ZxA,reduceCtorEq]at h;case add =>split at h<;>simp at h;rename_i hb;subst h;refine⟨_,_,rfl,by simpa using hb,?_⟩;rw[←List.map_append];exact .str _
 all_goals
  cases h;refine⟨_,_,rfl,trivial,?_⟩;simp[Zmi,Zrd];exact .bool _
theorem ZyQ{op:BinOp}{p:Option J0}{x y:V}{dx dy:D}(hx:VR η x dx)(hy:VR η y dy){v:V}(h:ZrE op p x y=sO v):∃side d,eqO op p dx dy=sO (side,d)∧side∧VR η v d:=by
 cases p with
 |none=>simp[ZrE]at h
 |some p =>
  cases op<;>simp only[ZrE,reduceCtorEq]at h;case eql =>split at h<;>simp only[ZDV,reduceCtorEq]at h;subst h;obtain⟨side,h1,h2⟩:=Zry hx hy ‹_›;exact⟨side,_,by simp only[eqO,h1,ZEp],h2,.bool _⟩
  case neq =>split at h<;>simp only[ZDV,reduceCtorEq]at h;subst h;obtain⟨side,h1,h2⟩:=Zry hx hy ‹_›;exact⟨side,_,by simp only[eqO,h1,ZEp],h2,.bool _⟩
theorem ZyO{op:BinOp}{p:Option J0}{x y:V}{dx dy:D}(hx:VR η x dx)(hy:VR η y dy){v:V}(h:ZrD op p x y=sO v):∃side d,J2 op p dx dy=sO (side,d)∧side∧VR η v d:=by
 have i:(∀k a,dx≠.int k a)→(∀l,dx≠.str l)→ZrE op p x y=sO v→∃side d,J2 op p dx dy=sO (side,d)∧side∧VR η v d:=fun h1 h2 h3=>by obtain⟨side,d,e1,e2,e3⟩:=ZyQ hx hy h3;refine⟨side,d,?_,e2,e3⟩;rw[←e1];cases dx<;>first|rfl|exact absurd rfl (h1 _ _)|exact absurd rfl (h2 _)
 cases hx;case int k a =>cases hy<;>simp only[ZrD,reduceCtorEq]at h;rename_i k' b;split at h<;>(try(simp at h;done));rename_i hb;rw[ZEk]at hb;obtain⟨side,d,e1,e2,e3⟩:=ZyP (η:=η) (k':=k') (hb.imp id Zet) h;refine⟨side,d,?_,e2,e3⟩;rw[←e1];rfl
 case str s =>cases hy<;>simp only[ZrD,reduceCtorEq]at h;exact ZyR h
 all_goals exact i (fun _ _=>by simp) (fun _=>by simp) (by simpa only[ZrD]using h)
def MR(η:Nm)(e:V×V)(d:D×D):Prop:=VR η e.1 d.1∧VR η e.2 d.2
theorem MR.mono{η':Nm}(h:η.Sub η'){e:V×V}{d:D×D}(m:MR η e d):MR η' e d:=⟨m.1.mono h,m.2.mono h⟩
theorem Zq4{kp:KP}{k:V}{dk:D}(hk:VR η k dk):∀{es:List (V×V)} {ds:List (D×D)} {r:Option V},ZJ (MR η) es ds→Zmo kp k es=sO r →
  ∃r',Zbf kp dk ds=sO r'∧(match r,r' with|some v,sO d=>VR η v d|none,nO=>True|_,_=>False)
 | [],ds,r,h,hf=>by cases h;simp only[Zmo,ZDV]at hf;subst hf;exact⟨nO,rfl,trivial⟩
 |e::es,ds,r,h,hf=>by
  cases h with
  |cons h1 h2 =>
  simp only[Zmo]at hf;split at hf<;>(try(simp at hf;done));rename_i hb;simp only[ZDV]at hf;subst hf;exact⟨sO _,by simp only[Zbf,ZaL hk h1.1 hb],h1.2⟩;rename_i hb;obtain⟨r',e1,e2⟩:=Zq4 hk h2 hf;exact⟨r',by simp only[Zbf,ZaL hk h1.1 hb,e1],e2⟩
theorem Zoo{kp:KP}{k v:V}{dk dv:D}(hk:VR η k dk)(hv:VR η v dv):∀{es r:List (V×V)} {ds:List (D×D)},ZJ (MR η) es ds→Zon kp k v es=sO r →
  ∃r',JO kp dk dv ds=sO r'∧ZJ (MR η) r r'
 | [],r,ds,h,hf=>by cases h;simp only[Zon,ZDV]at hf;subst hf;exact⟨_,rfl,.cons ⟨hk,hv⟩ .nil⟩
 |e::es,r,ds,h,hf=>by
  cases h with
  |cons h1 h2 =>
  simp only[Zon]at hf;split at hf<;>(try(simp at hf;done));rename_i hb;simp only[ZDV]at hf;subst hf;exact⟨(dk,dv)::_,by simp only[JO,ZaL hk h1.1 hb],.cons ⟨hk,hv⟩ h2⟩;rename_i hb;simp only[ZD9]at hf;obtain⟨r0,hr,rfl⟩:=hf;obtain⟨r',e1,e2⟩:=Zoo hk hv h2 hr;exact⟨_,by simp only[JO,ZaL hk h1.1 hb,e1,ZEp],.cons h1 e2⟩
theorem ZsP{kp:KP}{k:V}{dk:D}(hk:VR η k dk):∀{es r:List (V×V)} {ds:List (D×D)},ZJ (MR η) es ds→ZqS kp k es=sO r →
  ∃r',ZfJ kp dk ds=sO r'∧ZJ (MR η) r r'
 | [],r,ds,h,hf=>by cases h;simp only[ZqS,ZDV]at hf;subst hf;exact⟨_,rfl,.nil⟩
 |e::es,r,ds,h,hf=>by
  cases h with
  |cons h1 h2 =>
  simp only[ZqS]at hf;split at hf<;>(try(simp at hf;done));rename_i hb;simp only[ZDV]at hf;subst hf;exact⟨_,by simp only[ZfJ,ZaL hk h1.1 hb],h2⟩;rename_i hb;simp only[ZD9]at hf;obtain⟨r0,hr,rfl⟩:=hf;obtain⟨r',e1,e2⟩:=ZsP hk h2 hr;exact⟨_,by simp only[ZfJ,ZaL hk h1.1 hb,e1,ZEp],.cons h1 e2⟩
theorem ZsQ{kp:KP}{k z:V}{dk dz:D}(hk:VR η k dk)(hz:VR η z dz):∀{es:List (V×V)} {ds:List (D×D)} {v:V},ZJ (MR η) es ds→ZqZ kp k z es=sO v →
  ∃d,Zdy kp dk dz ds=sO d∧VR η v d
 | [],ds,v,h,hf=>by cases h;simp only[ZqZ,ZDV]at hf;subst hf;exact⟨_,rfl,hz⟩
 |e::es,ds,v,h,hf=>by
  cases h with
  |cons h1 h2 =>
  simp only[ZqZ]at hf;split at hf<;>(try(simp at hf;done));rename_i hb;simp only[ZDV]at hf;subst hf;exact⟨_,by simp only[Zdy,ZaL hk h1.1 hb],h1.2⟩;rename_i hb;obtain⟨d,e1,e2⟩:=ZsQ hk hz h2 hf;exact⟨d,by simp only[Zdy,ZaL hk h1.1 hb,e1],e2⟩
theorem Zrf{z:V}{dz:D}(hz:VR η z dz){ok:Bool}{r:Option V}{r':Option D}(h:match r,r' with|some v,sO d=>VR η v d|none,nO=>True|_,_=>False):VR η (ZpW z ok r) (Y7 dz ok r'):=by
 cases r<;>cases r'<;>simp only at h<;>cases ok<;>simp only[ZpW,Y7,if_true,if_false,ZEq];exact hz;exact .tup _ _ (.cons _ _ _ _ hz (.one (.bool _)));exact h;exact .tup _ _ (.cons _ _ _ _ h (.one (.bool _)))
end
def WR(η:Nm)(L:Loc):W→E→Prop
 |.v x,e=>∃d,VR η x d∧(e=.d d∨e=.when true (.d d))
 |.loc l o,e=>e=.loc l o∨e=.when true (.loc l o)
 |.skip,e=>e=.when false (.d (.bool false))
def live(_:Loc):W→Bool
 |.loc _ _=>false
 |_=>true
def Z5(η:Nm)(L:Loc)(ρ:T W)(ρd:Env):Prop:=∀t w,ρ.get t=sO w→live L w=true→∃e,ZM ρd t=sO e∧WR η L w e
theorem Z5.anyL{η:Nm}{L L':Loc}{ρ:T W}{ρd:Env}(h:Z5 η L ρ ρd):Z5 η L' ρ ρd:=fun t w hw hl=>by
 cases w with
 |v x=>exact h t _ hw rfl
 |loc l o=>cases hl
 |skip=>exact h t _ hw rfl
structure Px extends Cx where
 t:St
instance:Coe Px Cx:=⟨Px.toCx⟩
inductive OR(C:Cx)(η:Nm)(k0:Nat):O→Z1→Prop where
 |cells (vs:List V) (ds ex:List D) (h:VRs η vs ds):OR C η k0 (.cells vs) (.cells (ds++ex))
 |buf (vs:List V) (ds ex:List D) (h:VRs η vs ds) (hc:η (k0+1)=some (.tip (ds++ex).length)):OR C η k0 (.buf vs) (.cells (ds++ex))
 |map (es:List (V×V)) (ds:List (D×D)) (h:ZJ (MR η) es ds):OR C η k0 (.map es) (.map ds)
 |tok (n:Nat):OR C η k0 (.tok n) (.tip n)
 |mapE (kp:KP) (es:List (V×V)) (ds:List (D×D)) (k:V) (dk:D) (n m:Nat) (h:ZJ (MR η) es ds) (hk:VR η k dk) (hn:η n=some (.tip m)):OR C η k0 (.mapE kp es k n) (.mapE kp ds dk m)
 |dfr:OR C η k0 .dfr .dfr
 |ro (o:O) (d:Z1) (h:OR C η k0 o d) (hr:Zbn o=false) (hk:∀n,o≠.tok n):OR C η k0 (.ro o) d
 |loop (f:FuncId) (n:Nat) (ps:List Nat) (a b:DC) (ρ:T W) (st:Option DC) (busy:Bool) (r:We) (lst:LSt) (hf:r.fn=f) (hn:r.N=n) (hps:r.params=ps) (hlt:∀t∈ps,t<n)
   (ha:cc C.P (C.an f) n r.assign=some a) (hb:cc C.P (C.an f) n r.body=some b) (hρ:Z5 η [] ρ r.ρ)
   (hst:match st,busy,lst with
    |none,false,.ready=>True
    |none,true,.busy=>True
    |some dj,false,.done j=>cc C.P (C.an f) n j=some dj
    |_,_,_=>False):OR C η k0 (.loop f n ps a b ρ st busy) (.loop r lst)
structure Sim(C:Px)(η:Nm)(σ:S)(s:St):Prop where
 obj:∀k o,σ.get k=some o→∃t,η k=some t∧((∃b d,t=.tip b∧s b=some d∧OR C η k o d)∨(∃n,o=.tok n∧t=.full))
 inj:∀k k' o o' b,σ.get k=some o→σ.get k'=some o'→η k=some (.tip b)→η k'=some (.tip b)→k=k'
 kp:∀b d,C.t b=some d→s b=some d∧∀k o,σ.get k=some o→Zbn o=false→η k≠some (.tip b)
 ro:∀k o b,σ.get k=some (.ro o)→η k=some (.tip b)→∃d,C.t b=some d
theorem WR.mono{η η':Nm}(h:η.Sub η'){w:W}{e:E}(x:WR η L w e):WR η' L w e:=by
 cases w with
 |v v=>obtain⟨d,h1,h2⟩:=x;exact⟨d,h1.mono h,h2⟩
 |_=>exact x
theorem Z5.mono{η η':Nm}(h:η.Sub η'){ρ:T W}{ρd:Env}(x:Z5 η L ρ ρd):Z5 η' L ρ ρd:=fun t w hw hl=>by
 obtain⟨e,h1,h2⟩:=x t w hw hl;exact⟨e,h1,h2.mono h⟩
theorem OR.mono{C:Cx}{η η':Nm}(h:η.Sub η'){k0:Nat}{o:O}{d:Z1}(x:OR C η k0 o d):OR C η' k0 o d:=by
 induction x with
 |cells vs ds ex h1=>exact .cells vs ds ex (h1.mono h)
 |buf vs ds ex h1 hc=>exact .buf vs ds ex (h1.mono h) (h _ _ hc)
 |map es ds h1=>exact .map es ds (h1.imp fun _ _ m=>m.mono h)
 |tok n=>exact .tok n
 |mapE kp es ds k dk n m h1 hk hn=>exact .mapE kp es ds k dk n m (h1.imp fun _ _ m=>m.mono h) (hk.mono h) (h _ _ hn)
 |dfr=>exact .dfr
 |ro o d h1 hr hk ih=>exact .ro o d ih hr hk
 |loop f n ps a b ρ st busy r lst hf hn hps hlt ha hb hρ hst=>exact .loop f n ps a b ρ st busy r lst hf hn hps hlt ha hb (hρ.mono h) hst
theorem Sim.name{C:Px}{η η':Nm}{σ:S}(x:Sim C η σ s)(hs:η.Sub η'){k:Nat}{o:O}(h:σ.get k=sO o){t:Tok}(e:η' k=sO t):η k=sO t:=by
 obtain⟨t0,h0,_⟩:=x.obj k o h;rw[hs _ _ h0]at e;rw[h0,e]
theorem Sim.mono{C:Px}{η η':Nm}(h:η.Sub η'){σ:S}(x:Sim C η σ s):Sim C η' σ s:={
 obj k o hk:=by obtain⟨t,h1,h2⟩:=x.obj k o hk;refine⟨t,h _ _ h1,h2.imp (fun⟨b,d,a1,a2,a3⟩=>⟨b,d,a1,a2,a3.mono h⟩) id⟩
 inj k k' o o' b hk hk' e e':=x.inj k k' o o' b hk hk' (x.name h hk e) (x.name h hk' e')
 kp b d hb:=⟨(x.kp b d hb).1,fun k o hk hr e=>(x.kp b d hb).2 k o hk hr (x.name h hk e)⟩
 ro k o b hk e:=x.ro k o b hk (x.name h hk e) }
section
variable {C:Px} {η:Nm} {σ:S} {s:St}
theorem Sim.get(x:Sim C η σ s){k:Nat}{o:O}(h:σ.get k=sO o)(ho:∀n,o≠.tok n):∃b d,η k=sO (.tip b)∧s b=sO d∧OR C η k o d:=by
 obtain⟨t,h1,⟨b,d,rfl,a1,a2⟩|⟨n,rfl,_⟩⟩:=x.obj k o h;exact⟨b,d,h1,a1,a2⟩;exact absurd rfl (ho n)
theorem OR.cellsO{C:Cx}{k0:Nat}{o:O}{d:Z1}{vs:List V}(h:OR C η k0 o d)(hc:cellsO o=sO vs):∃ds ex,d=.cells (ds++ex)∧VRs η vs ds:=by
 have i:∀{o:O} {d:Z1},OR C η k0 o d→(o=.cells vs∨o=.buf vs)→∃ds ex,d=.cells (ds++ex)∧VRs η vs ds:=fun{o d} h ho=>by
  rcases ho with rfl|rfl
  ·cases h with
   |cells vs ds ex h=>exact⟨ds,ex,rfl,h⟩
  cases h with
  |buf vs ds ex h=>exact⟨ds,ex,rfl,h⟩
 cases o<;>simp[Go.DL.cellsO]at hc;subst hc;exact i h (.inl rfl);subst hc;exact i h (.inr rfl);rename_i o;cases h with
 |ro _ _ h _ _ =>cases o<;>simp at hc;subst hc;exact i h (.inl rfl);subst hc;exact i h (.inr rfl)
theorem ZtK{o:O}{vs:List V}(h:cellsO o=sO vs)(n:Nat):o≠.tok n:=fun e=>by subst e;cases h
theorem Sim.cells(x:Sim C η σ s){k b:Nat}{vs:List V}(h:Zay (σ.get k)=sO vs)(hb:η k=sO (.tip b)):∃ds ex,s b=sO (.cells (ds++ex))∧VRs η vs ds:=by
 cases hk:σ.get k with
 |none=>rw[hk]at h;cases h
 |some o =>rw[hk]at h;obtain⟨b',d,h1,h2,h3⟩:=x.get hk (ZtK h);rw[hb]at h1;cases h1;obtain⟨ds,ex,rfl,h4⟩:=h3.cellsO h;exact⟨ds,ex,h2,h4⟩
theorem Sim.map(x:Sim C η σ s){k b:Nat}{es:List (V×V)}(h:σ.get k=sO (.map es))(hb:η k=sO (.tip b)):∃ds,s b=sO (.map ds)∧ZJ (MR η) es ds:=by
 obtain⟨b',d,h1,h2,h3⟩:=x.get h (fun n=>by simp);rw[hb]at h1;cases h1;cases h3 with
 |map es ds h=>exact⟨ds,h2,h⟩
theorem Sim.mapO(x:Sim C η σ s){k b:Nat}{es:List (V×V)}(h:mapO (σ.get k)=sO es)(hb:η k=sO (.tip b)):∃ds,s b=sO (.map ds)∧ZJ (MR η) es ds:=by
 cases hk:σ.get k with
 |none=>rw[hk]at h;cases h
 |some o =>
  rw[hk]at h;cases o<;>simp[Go.DL.mapO]at h;subst h;exact x.map hk hb;rename_i o;cases o<;>cases h;obtain⟨b',d,h1,h2,h3⟩:=x.get hk (fun n=>by simp);rw[hb]at h1;cases h1;cases h3 with
  |ro _ _ h3 _ _=>cases h3 with
   |map es ds h=>exact⟨ds,h2,h⟩
theorem ZsU{σ:S}{k k':Nat}{o:O}(h:(σ.set nO k).get k'=sO o):k'≠k∧σ.get k'=sO o:=by
 rcases T.get_set h with ⟨_,h'⟩|⟨h0,h'⟩;simp at h';exact⟨h0,h'⟩
theorem Sim.subT{σ':S}(x:Sim C η σ s)(h:∀k o,σ'.get k=sO o→σ.get k=sO o):Sim C η σ' s:={
 obj k o hk:=x.obj k o (h k o hk)
 inj k k' o o' b hk hk':=x.inj k k' o o' b (h _ _ hk) (h _ _ hk')
 kp b d hb:=⟨(x.kp b d hb).1,fun k o hk=>(x.kp b d hb).2 k o (h _ _ hk)⟩
 ro k o b hk:=x.ro k o b (h _ _ hk) }
theorem Sim.forget(x:Sim C η σ s)(k:Nat):Sim C η (σ.set nO k) s:=x.subT fun _ _ h=>(ZsU h).2
theorem Sim.upd(x:Sim C η σ s){k b:Nat}{o o':O}{d:Z1}(h:σ.get k=sO o)(hb:η k=sO (.tip b))(ho:OR C η k o' d)(hr:Zbn o=false:=by rfl)(hr':Zbn o'=false:=by rfl):Sim C η (σ.set (sO o') k) (s.upd b d) where
 obj k' o1 h':=by rcases T.get_set h' with ⟨rfl,h1⟩|⟨j,h1⟩;cases h1;exact⟨_,hb,.inl ⟨b,d,rfl,ZD4 s b d,ho⟩⟩;obtain⟨t,e1,⟨b',d',rfl,e2,e3⟩|e2⟩:=x.obj k' o1 h1;refine⟨_,e1,.inl ⟨b',d',rfl,?_,e3⟩⟩;have:b'≠b:=fun i=>j (x.inj k' k _ _ b h1 h (by rw[←i];exact e1) hb);rw[ZD6 s d this];exact e2;exact⟨t,e1,.inr e2⟩
 inj k1 k2 o1 o2 b' h1 h2 e1 e2:=by
  have:∀k' o1,(σ.set (sO o') k).get k'=sO o1→∃o,σ.get k'=sO o:=fun k' o1 h'=>by rcases T.get_set h' with ⟨rfl,_⟩|⟨_,h'⟩;exact⟨_,h⟩;exact⟨_,h'⟩
  obtain⟨p1,q1⟩:=this _ _ h1;obtain⟨p2,q2⟩:=this _ _ h2;exact x.inj k1 k2 p1 p2 b' q1 q2 e1 e2
 kp c e hc:=by obtain⟨h1,h2⟩:=x.kp c e hc;have:c≠b:=fun ec=>h2 k o h hr (by rw[ec];exact hb);refine⟨by rw[ZD6 s d this];exact h1,fun k' o1 h' n=>?_⟩;rcases T.get_set h' with ⟨rfl,_⟩|⟨_,h'⟩;exact h2 _ o h hr;exact h2 k' o1 h' n
 ro k' o1 b' h' e:=by rcases T.get_set h' with ⟨rfl,h1⟩|⟨_,h'⟩;cases h1;simp[Zbn]at hr';exact x.ro k' o1 b' h' e
end
def Nm.put(η:Nm)(k:Nat)(t:Tok):Nm:=fun k'=>if k'=k then sO t else η k'
theorem Nm.put_sub{η:Nm}{k:Nat}(h:η k=nO)(t:Tok):η.Sub (η.put k t):=fun k' t' hk=>by
 have:k'≠k:=fun e=>by rw[e,h]at hk;grind
 simp[Nm.put,this,hk]
theorem Nm.put_same(η:Nm)(k:Nat)(t:Tok):(η.put k t) k=sO t:=by simp[Nm.put]
structure Yr(η:Nm)(nx:Nat):Prop where
 z:η 0=some .none
 o:η 1=some .full
 two:2≤nx
 free:∀k,nx≤k→η k=none
theorem Yr.put{η:Nm}{nx:Nat}(h:Yr η nx)(t:Tok):Yr (η.put nx t) (nx+1):={
 z:=by have:=h.two;simp[Nm.put];rw[if_neg (by omega)];exact h.z
 o:=by have:=h.two;simp[Nm.put];rw[if_neg (by omega)];exact h.o
 two:=by have:=h.two;omega
 free k hk:=by simp[Nm.put];rw[if_neg (by omega)];exact h.free k (by omega) }
section
variable {C:Px} {η:Nm} {σ:S} {s:St}
theorem Sim.fresh(x:Sim C η σ s){b:Nat}(hb:s b=nO){k:Nat}{o:O}(h:σ.get k=sO o):η k≠sO (.tip b):=fun e=>by
 obtain⟨t,h1,⟨b',d,rfl,h2,_⟩|⟨n,_,rfl⟩⟩:=x.obj k o h;rw[e]at h1;cases h1;rw[hb]at h2;grind;rw[e]at h1;grind
theorem Sim.new(x:Sim C η σ s){nx:Nat}(hn:η nx=nO){b:Nat}(hb:s b=nO){o:O}{d:Z1}(ho:OR C (η.put nx (.tip b)) nx o d)(hr:Zbn o=false:=by rfl):Sim C (η.put nx (.tip b)) (σ.set (sO o) nx) (s.upd b d):=by
 have n:=Nm.put_sub hn (.tip b);have x':=x.mono n;refine⟨fun k o1 h=>?_,fun k1 k2 o1 o2 b' h1 h2 e1 e2=>?_,fun c e hc=>?_,fun k o1 c h e=>?_⟩;rcases T.get_set h with ⟨rfl,h1⟩|⟨j,h1⟩;cases h1;exact⟨_,Nm.put_same _ _ _,.inl ⟨b,d,rfl,ZD4 s b d,ho⟩⟩;obtain⟨t,e1,⟨b',d',rfl,e2,e3⟩|e2⟩:=x'.obj k o1 h1;refine⟨_,e1,.inl ⟨b',d',rfl,?_,e3⟩⟩;have:b'≠b:=fun z=>by rw[z,hb]at e2;grind
 rw[ZD6 s d this];exact e2;exact⟨t,e1,.inr e2⟩;have i:∀k o1 b',(σ.set (sO o) nx).get k=sO o1→(η.put nx (.tip b)) k=sO (.tip b')→k≠nx→σ.get k=sO o1∧η k=sO (.tip b'):=fun k o1 b' h e j=>by rcases T.get_set h with ⟨rfl,_⟩|⟨_,h⟩;exact absurd rfl j;exact⟨h,by simpa[Nm.put,j]using e⟩
 by_cases c1:k1=nx<;>by_cases c2:k2=nx;simp_all;exfalso;obtain⟨q1,q2⟩:=i k2 o2 b' h2 e2 c2;rw[c1,Nm.put_same]at e1;cases e1;exact x.fresh hb q1 q2;exfalso;obtain⟨q1,q2⟩:=i k1 o1 b' h1 e1 c1;rw[c2,Nm.put_same]at e2;cases e2;exact x.fresh hb q1 q2;obtain⟨q1,q2⟩:=i k1 o1 b' h1 e1 c1;obtain⟨q3,q4⟩:=i k2 o2 b' h2 e2 c2;exact x.inj k1 k2 o1 o2 b' q1 q3 q2 q4;obtain⟨h1,h2⟩:=x'.kp c e hc;have u:c≠b:=fun ec=>by rw[ec,hb]at h1;grind
 refine⟨by rw[ZD6 s d u];exact h1,fun k o1 h ab e1=>?_⟩;rcases T.get_set h with ⟨rfl,_⟩|⟨_,h⟩;rw[Nm.put_same]at e1;simp at e1;exact u e1.symm;exact h2 k o1 h ab e1;rcases T.get_set h with ⟨rfl,h1⟩|⟨_,h⟩;cases h1;cases hr;exact x'.ro k o1 c h e
end
section
variable {η:Nm} {L:Loc} {ρ:T W} {ρd:Env}
theorem ZxY{x:Option W}{v:V}(h:wV x=sO v):x=sO (.v v):=by
 unfold wV at h;split at h;split at h<;>cases h;rfl;grind
theorem Kh(hρ:Z5 η L ρ ρd){x:Opd}{v:V}(h:(YM x).run ρ=sO v):∃p d,ZE ρd true x=sO (p,.d d)∧p∧VR η v d:=by
 cases x with
 |cst d =>simp[YM]at h;split at h<;>cases h;exact⟨True,d,rfl,trivial,Zgu ‹_›⟩
 |tmp t =>obtain⟨e,h1,d,h2,rfl|rfl⟩:=hρ t _ (ZxY h) rfl;exact⟨True,d,by simp[ZE,h1],trivial,h2⟩;exact⟨True→True,d,by simp[ZE,h1],fun _=>trivial,h2⟩
theorem Zal(hρ:Z5 η L ρ ρd):∀{xs:List Opd} {vs:List V},(ZbR xs).run ρ=sO vs→∃p ds,Ya ρd true xs=sO (p,ds.map .d)∧p∧VRs η vs ds
 | [],vs,h=>by cases h;exact⟨True,[],rfl,trivial,.nil⟩
 |x::xs,vs,h=>by simp[ZbR]at h;split at h<;>(try(grind;done));rename_i v h1;split at h<;>simp at h;rename_i vs' h2;subst h;obtain⟨p,d,a1,a2,a3⟩:=Kh hρ h1;obtain⟨q,ds,b1,b2,b3⟩:=Zal hρ h2;exact⟨p∧q,d::ds,by simp[Ya,a1,b1],⟨a2,b2⟩,.cons _ _ _ _ a3 b3⟩
theorem Zaq:∀(ds:List D),WX (ds.map .d)=sO ds
 | []=>rfl
 |d::ds=>by simp[WX,Zaq ds]
theorem ZoX(hρ:Z5 η L ρ ρd){g:Option (Nat×Bool)}{b:Bool}(h:(Ziw g).run ρ=sO b):Zk ρd g=sO b:=by
 cases g with
 |none=>simpa[Ziw,Zk]using h
 |some x =>
  obtain⟨t,want⟩:=x;simp[Ziw]at h;split at h<;>(try(grind;done));rename_i w hw;cases w with
  |v x =>obtain⟨e,h1,h2⟩:=hρ t _ hw rfl;cases x<;>cases h;obtain⟨d,h3,rfl|rfl⟩:=h2<;>cases h3;simp[Zk,h1];simp[Zk,h1]
  |loc l o=>grind
  |skip =>obtain⟨e,h1,h2⟩:=hρ t _ hw rfl;cases h;have i:e=.when false (.d (.bool false)):=h2;subst i;simp[Zk,h1]
theorem Ji(hρ:Z5 η L ρ ρd){w:W}{e:E}(hw:WR η L w e)(dst:Option Nat):Z5 η L ((Zb8 dst).run ρ w) (Zw ρd dst e):=by
 cases dst with
 |none=>exact hρ
 |some t =>intro t' w' h hl;rcases T.get_set (t:=ρ) (x:=sO w) (k:=t) h with ⟨rfl,h1⟩|⟨i,h1⟩;cases h1;exact⟨e,by simp[Zw,ZM],hw⟩;obtain⟨e',h2,h3⟩:=hρ t' w' h1 hl;exact⟨e',by simp[Zw,ZM];rw[if_neg (Ne.symm i)];exact h2,h3⟩
theorem Zv0(hρ:Z5 η L ρ ρd){x:Opd}{c:Bool}(h:(ZiJ x).run ρ=true)(hc:c=false):∃p z,ZE ρd c x=sO (p,.d (.bool z))∧p:=by
 subst hc;cases x with
 |cst d =>cases d<;>cases h;exact⟨True,_,rfl,trivial⟩
 |tmp t =>
  simp[ZiJ]at h;split at h<;>(try(grind;done));rename_i w hw;cases w with
  |v x =>obtain⟨e,h1,h2⟩:=hρ t _ hw rfl;cases x<;>cases h;obtain⟨d,h3,rfl|rfl⟩:=h2<;>cases h3;exact⟨True,_,by simp[ZE,h1];rfl,trivial⟩;exact⟨_,_,by simp only[ZE,h1];rfl,fun h=>by simp at h⟩
  |loc l o=>grind
  |skip =>obtain⟨e,h1,h2⟩:=hρ t _ hw rfl;have i:e=.when false (.d (.bool false)):=h2;subst i;exact⟨_,_,by simp only[ZE,h1];rfl,fun h=>by simp at h⟩
end
theorem WB{vs:List V}{f:V→Option V}{v:V}(h:a1 vs f=sO v):∃x,vs=[x]∧f x=sO v:=by
 unfold a1 at h;split at h;exact⟨_,rfl,h⟩;grind
theorem Zc6{vs:List V}{f:V→V→Option V}{v:V}(h:a2 vs f=sO v):∃x y,vs=[x,y]∧f x y=sO v:=by
 unfold a2 at h;split at h;exact⟨_,_,rfl,h⟩;grind
theorem Zz{α:Type}{b:Bool}{r:Option α}{v:α}(h:noV b r=sO v):b=true∧r=sO v:=by
 cases b<;>simp[noV]at h;exact⟨rfl,h⟩
theorem ZbA{i:Int}{n:Nat}{r:Option V}{v:V}(h:Zfc i n r=sO v):0≤i∧i<n∧r=sO v:=by
 unfold Zfc at h;split at h<;>(try(grind;done));rename_i hb;simp[Zgt]at hb;exact⟨hb.1,by omega,h⟩
theorem JW{a b:Nat}:Nat.ble a b=true↔a≤b:=by rw[Nat.ble_eq]
theorem Z2{a b:Nat}:Nat.beq a b=true↔a=b:=by rw[Nat.beq_eq]
theorem Jf{a b:Int}:leI a b=true↔a≤b:=by rw[Zgt,decide_eq_true_eq]
theorem QD{a b:Int}:eqI a b=true↔a=b:=by rw[Zim,decide_eq_true_eq]
theorem isub(a b:Int):Int.sub a b=a-b:=rfl
section
variable {C:Px} {η:Nm} {σ:S} {s:St} {L:Loc}
theorem ZdN{b:Nat}{f:List V→Option V}{v:V}(h:Zic σ b f=sO v):∃cs,Zay (σ.get b)=sO cs∧f cs=sO v:=by
 unfold Zic at h;split at h;rename_i hg;exact⟨_,hg,h⟩;grind
theorem ZgU(hS:Sim C η σ s){k b:Nat}{cs:List V}(h:Zay (σ.get k)=sO cs)(hb:η k=sO (.tip b)):∃ds ex,Yc s b=sO (ds++ex)∧VRs η cs ds:=by
 obtain⟨ds,ex,h1,h2⟩:=hS.cells h hb;exact⟨ds,ex,by simp[Yc,h1],h2⟩
theorem Zgp{cs:List V}(ex:List D)(h:VRs η cs ds){o:Nat}{v:V}(hv:Zg8 o cs=sO v):∃d,(ds++ex)[o]?=sO d∧VR η v d:=by
 rw[ZjP]at hv;obtain⟨d,h1,h2⟩:=h.get hv;refine⟨d,?_,h2⟩;rw[ZEt (List.getElem?_eq_some_iff.1 h1).1];exact h1
theorem Zrw{ds ex:List D}{o n:Nat}(h:o+n≤ds.length):part (ds++ex) o n=part ds o n:=by
 unfold part;rw[List.drop_append_of_le_length (by omega),List.take_append_of_le_length (by simp;omega)]
theorem ZkU{ds ex ys:List D}{o:Nat}(h:o+ys.length≤ds.length):Zt (ds++ex) o ys=Zt ds o ys++ex:=by
 unfold Zt;rw[List.take_append_of_le_length (by omega),List.drop_append_of_le_length (by omega),ZEA,ZEA,ZEA]
theorem Zj8{cs:List V}(ex:List D)(h:VRs η cs ds){o n:Nat}{v:V}(hv:Zju cs o n=sO v):o+n≤(ds++ex).length∧VR η v (.agg (part (ds++ex) o n)):=by
 unfold Zju at hv;split at hv<;>simp at hv;rename_i r hr;subst hv;obtain⟨h1,h2⟩:=h.partv hr;exact⟨by simp;omega,by rw[Zrw h1];exact .agg _ _ h2⟩
theorem Za4:∀{bs:List Bool} {vs:List V} {ds:List D} {r:List (Option Int)},VRs η vs ds→JD bs vs=sO r→Wq bs (ds.map .d)=sO r
 | [],vs,ds,r,hv,h=>by
  cases vs with
  |nil=>obtain rfl:=hv.inv0;simpa[JD,Wq]using h
  |cons v vs=>cases h
 |true::bs,vs,ds,r,hv,h=>by
  cases vs with
  |nil=>cases h
  |cons v vs =>obtain⟨d,ds',rfl,h1,h2⟩:=hv.inv;cases h1<;>simp[JD]at h;obtain⟨q,hq,rfl⟩:=h;simp[Wq,Za4 h2 hq]
 |false::bs,vs,ds,r,hv,h=>by simp[JD]at h;obtain⟨q,hq,rfl⟩:=h;simp[Wq,Za4 hv hq]
theorem Zy8{t n:Nat}{τ:Tok}(h1:η 1=sO .full)(ht:t=0∨η t=sO τ){l h:Int}{mx:Option Int}:ZuW t n l h mx=0∨η (ZuW t n l h mx)=sO (Zbj τ n l h mx):=by
 unfold ZuW Zbj;cases mx with
 |some m =>simp only[QD];split;exact .inr h1;exact .inl rfl
 |none =>simp only[QD,Z2];split;split;rename_i i;subst i;rcases ht with h|h;simp at h;rw[h1]at h;cases h;exact .inr h1;split;rcases ht with h|h;exact .inl h;refine .inr ?_;cases τ<;>simp_all;exact .inl rfl;exact .inl rfl
theorem Zwm(h1:η 1=sO .full){z:Nat}{lo hi mx:Option Int}{x v:V}{d:D}(hx:VR η x d)(h:ZrO z lo hi mx x=sO v):∃side r,ZaC z lo hi mx d=sO (side,r)∧side∧VR η v r:=by
 cases hx<;>simp only[ZrO,reduceCtorEq]at h;case nilsl =>split at h<;>simp only[ZDV,reduceCtorEq]at h;rename_i hc;subst h;simp only[ZD5,QD]at hc;exact⟨_,_,rfl,⟨hc.1.1,hc.1.2,hc.2⟩,.nilsl⟩
 case sl t n s rs τ row hr hn ht =>split at h<;>(try(simp at h;done));rename_i hc;split at h<;>simp only[ZDV,reduceCtorEq]at h;rename_i r u;subst h;simp only[ZD5,Z2,Jf]at hc;obtain⟨⟨⟨⟨rfl,c1⟩,c2⟩,c3⟩,c4⟩:=hc;rw[QX]at u;obtain⟨l1,rfl⟩:=JN u;simp only[ZaC,if_true];refine⟨_,_,rfl,⟨c1,c2,c3,fun m hm=>?_⟩,?_⟩;subst hm;simp only[ZzM,ZD5,Jf]at c4;exact c4;refine .sl _ _ _ _ _ _ ((hr.drop (lo.getD 0).toNat).take _) ?_ (Zy8 h1 ht);rw[ZEh];exact Nat.min_eq_left l1
 case msl k b o n cap s hb =>split at h<;>(try(simp at h;done));rename_i hc;split at h<;>simp only[ZDV,reduceCtorEq]at h;rename_i i;subst h;simp only[ZD5,Z2,Jf]at hc i;obtain⟨⟨rfl,c1⟩,c2⟩:=hc;simp only[ZaC,if_true];refine⟨_,_,rfl,⟨c1,c2,i.1,i.2⟩,?_⟩;by_cases he:mx.getD (cap:Int)=lo.getD 0;rw[if_pos he,if_pos (QD.2 he)];exact .msl _ _ _ _ _ _ hb;rw[if_neg he,if_neg (fun h=>he (QD.1 h))];exact .msl _ _ _ _ _ _ hb
 case gsl k b o n cap s c hb hb2 hcap hl =>
  split at h<;>(try(simp at h;done));rename_i hc;split at h<;>(try(simp at h;done));rename_i i;simp[Jf,QD,Zgt]at hc i;obtain⟨⟨rfl,c1⟩,c2⟩:=hc;obtain⟨c3,c4⟩:=i;simp only[ZaC,if_true];cases mx with
  |none =>
   cases h;refine⟨_,_,rfl,⟨c1,c2,by simp only[Option.getD_none];omega,by simp⟩,?_⟩;simp only[Option.getD_none];by_cases he:(cap:Int)=lo.getD 0;rw[if_pos he];rcases c4 with c4|c4;rw[c4]at he⊢;simp only[Int.toNat_zero,Nat.zero_mul,Nat.add_zero];exact .gsl _ _ _ _ _ _ c hb hb2 (by rw[isub];omega) (by have:=Nat.le_trans (Nat.le_add_right o (cap*s)) hl;rw[he];simpa using this);omega;rw[if_neg he];refine .gsl _ _ _ _ _ _ c hb hb2 (by rw[isub];omega) ?_;have e:(lo.getD 0).toNat+((cap:Int)-lo.getD 0).toNat=cap:=by omega
   calc o+(lo.getD 0).toNat*s+((cap:Int)-lo.getD 0).toNat*s=o+((lo.getD 0).toNat+((cap:Int)-lo.getD 0).toNat)*s:=by rw[ZEo];omega
    _=o+cap*s:=by rw[e]
    _≤c:=hl
  |some m =>simp only at h;split at h<;>simp at h;rename_i j;simp only[ZD5,Jf]at j;subst h;refine⟨_,_,rfl,⟨c1,c2,by simpa using j.1,by simp only[ZEB];omega⟩,?_⟩;simp only[ZEB];by_cases he:m=lo.getD 0;rw[if_pos he,if_pos (QD.2 he)];exact .msl _ _ _ _ _ _ hb;rw[if_neg he,if_neg (fun h=>he (QD.1 h))];exact .msl _ _ _ _ _ _ hb
theorem Zq1:∀{cells:List V} {ps:List (Nat×Nat)} {vs r:List V} {cds ds:List D},VRs η cells cds→VRs η vs ds→ZpR cells ps vs=sO r→∃rd,Zbe cds ps ds=sO rd∧VRs η r rd
 |cells,[],vs,r,cds,ds,hc,hv,h=>by
  cases vs with
  |nil =>obtain rfl:=hv.inv0;cases h;exact⟨_,rfl,hc⟩
  |cons v vs=>cases h
 |cells,(o,n)::ps,vs,r,cds,ds,hc,hv,h=>by
  cases vs with
  |nil=>cases h
  |cons v vs =>
   obtain⟨d,ds',rfl,h1,h2⟩:=hv.inv;simp only[ZpR]at h;split at h<;>(try(grind;done));rename_i hp;split at h<;>(try(grind;done));rename_i cs t;have i:VRs η (ZeZ v) (cellsOf d):=by cases h1<;>first|exact .one (by constructor<;>assumption)|assumption
   have j:WS d=true:=by cases h1<;>first|rfl|cases hp
   obtain⟨e0,e1,e2⟩:=hc.over i t;obtain⟨rd,e3,e4⟩:=Zq1 e2 h2 h;refine⟨rd,?_,e4⟩;simp only[Zbe];rw[if_pos ⟨j,by rw[←i.len,e0],e1⟩];exact e3
theorem Zo7{b o n cap:Nat}{cs r:List V}{ds ex:List D}{l:List Nat}(e0:Yc s b=sO (ds++ex))(e1:VRs η cs ds)(hle:o+n≤cs.length)(hr:ZaS n (Zbd o cs)=sO r)(hl:Zl5 r=sO l):
  ∃side d,qv L s (.conv .b2s) ([D.msl b o n cap 1].map .d)=sO (side,.d d)∧side∧VR η (.str l) d:=by
 rw[QX]at hr;obtain⟨l1,rfl⟩:=JN hr;have hlen:o+n≤ds.length:=by rw[←e1.len];exact hle
 obtain⟨i1,i2⟩:=((e1.drop o).take n).bytes hl;have hn:((cs.drop o).take n).length=n:=by rw[ZEh];exact Nat.min_eq_left l1
 rw[hn]at i1 i2;have hp:∀i,i<n→part (ds++ex) (o+i) 1=part ((ds.drop o).take n) i 1:=fun i hi=>by
  rw[Zrw (by omega)];unfold part;rw[List.drop_take,List.take_take,List.drop_drop]
  congr 1;omega
 refine⟨o+n≤(ds++ex).length∧∀i,i<n→Zhc (part (ds++ex) (o+i) 1),.str ((ZEa n).map fun i=>ZaE (part (ds++ex) (o+i) 1)),by simp[qv,e0],⟨by simp;omega,fun i hi=>by rw[hp i hi];exact i1 i hi⟩,?_⟩;have:((ZEa n).map fun i=>ZaE (part (ds++ex) (o+i) 1))=l.map UInt8.ofNat:=by rw[i2];exact List.map_congr_left fun i hi=>by simp_all
 rw[this];exact .str _
theorem ZAC(a b:Int):(if leI a b=true then a else b)=Min.min a b:=by simp[Jf];exact(Int.min_def a b).symm
theorem ZAB(a b:Int):(if leI a b=true then b else a)=Max.max a b:=by simp[Jf];exact(Int.max_def a b).symm
theorem Zuw(hS:Sim C η σ s)(h1:η 1=sO .full){q:Q}{vs:List V}(hv:VRs η vs ds){v:V}(h:qV q σ vs=sO v):∃side d,qv L s q (ds.map .d)=sO (side,.d d)∧side∧VR η v d:=by
 cases q<;>(try simp only[qV]at h);case mv =>obtain⟨x,rfl,hh⟩:=WB h;replace h:=hh;clear hh;obtain⟨d,rfl,hx⟩:=hv.inv1;simp only[ZDV]at h;subst h;exact⟨True,d,rfl,trivial,hx⟩
 case nilck =>obtain⟨x,rfl,hh⟩:=WB h;replace h:=hh;clear hh;obtain⟨d,rfl,hx⟩:=hv.inv1;cases hx<;>simp only[reduceCtorEq,ZDV]at h<;>subst h;exact⟨True,_,rfl,trivial,by constructor;assumption⟩;exact⟨True,_,rfl,trivial,by constructor;assumption⟩;exact⟨True,_,rfl,trivial,by constructor<;>assumption⟩;exact⟨True,_,rfl,trivial,by constructor;assumption⟩
 case load1 =>
  obtain⟨x,rfl,hh⟩:=WB h;replace h:=hh;clear hh;obtain⟨d,rfl,hx⟩:=hv.inv1;cases hx<;>simp only[reduceCtorEq]at h;case ep cs o ds hc =>obtain⟨d,e1,e2⟩:=Zgp [] hc h;rw[ZEw]at e1;exact⟨True,d,by simp only[ZEc,ZEs,qv,Y6,e1,ZEp],trivial,e2⟩
  case ptr k b o hb =>obtain⟨cs,hg,hh⟩:=ZdN h;replace h:=hh;clear hh;obtain⟨ds,ex,e0,e1⟩:=ZgU hS hg hb;obtain⟨d,e2,e3⟩:=Zgp ex e1 h;exact⟨True,d,by simp only[ZEc,ZEs,qv,Y6,e0,e2,ZEp],trivial,e3⟩
 case loadN n =>
  obtain⟨x,rfl,hh⟩:=WB h;replace h:=hh;clear hh;obtain⟨d,rfl,hx⟩:=hv.inv1;cases hx<;>simp only[reduceCtorEq]at h;case ep cs o ds hc =>obtain⟨e1,e2⟩:=Zj8 [] hc h;rw[ZEw]at e1 e2;exact⟨_,_,by simp only[ZEc,ZEs,qv,W2,ZEp]<;>rfl,e1,e2⟩
  case ptr k b o hb =>obtain⟨cs,hg,hh⟩:=ZdN h;replace h:=hh;clear hh;obtain⟨ds,ex,e0,e1⟩:=ZgU hS hg hb;obtain⟨e2,e3⟩:=Zj8 ex e1 h;exact⟨_,_,by simp only[ZEc,ZEs,qv,W2,e0,ZEp]<;>rfl,e2,e3⟩
 case bin op p =>obtain⟨x,y,rfl,hh⟩:=Zc6 h;replace h:=hh;clear hh;obtain⟨d,d',rfl,hx,hy⟩:=hv.inv2;obtain⟨side,r,e1,e2,e3⟩:=ZyO hx hy h;exact⟨side,r,by simp only[ZEc,ZEs,qv,e1,ZEp],e2,e3⟩
 case not =>obtain⟨x,rfl,hh⟩:=WB h;replace h:=hh;clear hh;obtain⟨d,rfl,hx⟩:=hv.inv1;cases hx<;>simp only[reduceCtorEq,ZDV]at h;subst h;exact⟨True,_,rfl,trivial,.bool _⟩
 case neg =>obtain⟨x,rfl,hh⟩:=WB h;replace h:=hh;clear hh;obtain⟨d,rfl,hx⟩:=hv.inv1;cases hx<;>simp only[reduceCtorEq]at h;obtain⟨rfl,hr⟩:=ZbB h;exact⟨_,_,rfl,hr,.int _ _⟩
 case xorm =>obtain⟨x,rfl,hh⟩:=WB h;replace h:=hh;clear hh;obtain⟨d,rfl,hx⟩:=hv.inv1;cases hx<;>simp only[reduceCtorEq,ZDV]at h;subst h;exact⟨True,_,rfl,trivial,.int _ _⟩
 case conv c =>
  cases c<;>simp only at h;case int k =>obtain⟨x,rfl,hh⟩:=WB h;replace h:=hh;clear hh;obtain⟨d,rfl,hx⟩:=hv.inv1;cases hx<;>simp only[reduceCtorEq,ZDV]at h;subst h;simp only[ZEc,ZEs,qv];split;exact⟨True,_,rfl,trivial,.int _ _⟩;exact⟨True,_,rfl,trivial,.int _ _⟩
  case str =>obtain⟨x,rfl,hh⟩:=WB h;replace h:=hh;clear hh;obtain⟨d,rfl,hx⟩:=hv.inv1;cases hx<;>simp only[reduceCtorEq,ZDV]at h;subst h;exact⟨True,_,rfl,trivial,.str _⟩
  case i2s =>
   obtain⟨x,rfl,hh⟩:=WB h;replace h:=hh;clear hh;obtain⟨d,rfl,hx⟩:=hv.inv1;cases hx<;>simp only[reduceCtorEq]at h;obtain⟨hb,hh⟩:=Zz h;replace h:=hh;clear hh;rw[JW]at hb;simp only[ZDV]at h;subst h;refine⟨_,_,rfl,hb,?_⟩;have:=VR.str (η:=η) ((Utf8.encode ‹Int›).data.toList.map UInt8.toNat)
   rwa [ZkN]at this
  case b2s =>
   obtain⟨x,rfl,hh⟩:=WB h;replace h:=hh;clear hh;obtain⟨d,rfl,hx⟩:=hv.inv1;cases hx<;>simp only[reduceCtorEq]at h;case nilsl =>simp only[ZDV]at h;subst h;exact⟨True,_,rfl,trivial,.str []⟩
   case sl t n z rs τ row hr hn ht =>obtain⟨hb,hh⟩:=Zz h;replace h:=hh;clear hh;rw[Z2]at hb;subst hb;simp only[ZD9]at h;obtain⟨l,hl,rfl⟩:=h;obtain⟨e1,e2⟩:=hr.bytes hl;subst hn;refine⟨_,_,by simp only[ZEc,ZEs,qv,if_true]<;>rfl,e1,?_⟩;rw[←e2];exact .str _
   case msl k b o n cap z hb =>obtain⟨hz,hh⟩:=Zz h;replace h:=hh;clear hh;rw[Z2]at hz;subst hz;obtain⟨cs,hg,hh⟩:=ZdN h;replace h:=hh;clear hh;obtain⟨ds,ex,e0,e1⟩:=ZgU hS hg hb;obtain⟨j,hh⟩:=Zz h;replace h:=hh;clear hh;rw[JW]at j;split at h<;>simp only[reduceCtorEq,ZD9]at h;rename_i r hr;obtain⟨l,hl,rfl⟩:=h;exact Zo7 e0 e1 j hr hl
   case gsl k b o n cap z c hb hb2 hcap hl =>obtain⟨hz,hh⟩:=Zz h;replace h:=hh;clear hh;rw[Z2]at hz;subst hz;obtain⟨cs,hg,hh⟩:=ZdN h;replace h:=hh;clear hh;obtain⟨ds,ex,e0,e1⟩:=ZgU hS hg hb;obtain⟨j,hh⟩:=Zz h;replace h:=hh;clear hh;rw[JW]at j;split at h<;>simp only[reduceCtorEq,ZD9]at h;rename_i r hr;obtain⟨l,hl,rfl⟩:=h;exact Zo7 e0 e1 j hr hl
 case faddr off =>obtain⟨x,rfl,hh⟩:=WB h;replace h:=hh;clear hh;obtain⟨d,rfl,hx⟩:=hv.inv1;cases hx<;>simp only[reduceCtorEq,ZDV]at h<;>subst h;exact⟨True,_,rfl,trivial,by constructor;assumption⟩;exact⟨True,_,rfl,trivial,by constructor;assumption⟩
 case fld1 off =>obtain⟨x,rfl,hh⟩:=WB h;replace h:=hh;clear hh;obtain⟨d,rfl,hx⟩:=hv.inv1;cases hx<;>simp only[reduceCtorEq]at h;rename_i cs ds hc;obtain⟨d,e1,e2⟩:=Zgp [] hc h;rw[ZEw]at e1;exact⟨True,d,by simp only[ZEc,ZEs,qv,e1,ZEp],trivial,e2⟩
 case fldN off n =>obtain⟨x,rfl,hh⟩:=WB h;replace h:=hh;clear hh;obtain⟨d,rfl,hx⟩:=hv.inv1;cases hx<;>simp only[reduceCtorEq]at h;rename_i cs ds hc;obtain⟨e1,e2⟩:=Zj8 [] hc h;rw[ZEw]at e1 e2;exact⟨_,_,rfl,e1,e2⟩
 case iaddr z =>
  obtain⟨x,y,rfl,hh⟩:=Zc6 h;replace h:=hh;clear hh;obtain⟨d,d',rfl,hx,hy⟩:=hv.inv2;cases hy<;>simp only[reduceCtorEq]at h;cases hx<;>simp only[reduceCtorEq]at h;case int.sl k i t n z' rs τ row hr hn ht =>obtain⟨hz,hh⟩:=Zz h;replace h:=hh;clear hh;rw[Z2]at hz;obtain⟨i0,i1,hh⟩:=ZbA h;replace h:=hh;clear hh;split at h<;>simp only[reduceCtorEq,ZDV]at h;rename_i cs ad;rw[ZjP]at ad;obtain⟨cs',e1,e2,_⟩:=hr.get ad;simp only[V.agg.injEq]at e1;subst e1;subst h;exact⟨_,_,by simp only[ZEc,ZEs,qv,hz,if_true]<;>rfl,ZDX i0 i1,.ep _ _ _ e2⟩
  case int.msl k i kb b o n cap z' hb =>obtain⟨hz,hh⟩:=Zz h;replace h:=hh;clear hh;rw[Z2]at hz;obtain⟨i0,i1,hh⟩:=ZbA h;replace h:=hh;clear hh;simp only[ZDV]at h;subst h;exact⟨_,_,by simp only[ZEc,ZEs,qv,hz,if_true]<;>rfl,ZDX i0 i1,.ptr _ _ _ hb⟩
  case int.gsl k i kb b o n cap z' c hb hb2 hcap hl =>obtain⟨hz,hh⟩:=Zz h;replace h:=hh;clear hh;rw[Z2]at hz;obtain⟨i0,i1,hh⟩:=ZbA h;replace h:=hh;clear hh;simp only[ZDV]at h;subst h;exact⟨_,_,by simp only[ZEc,ZEs,qv,hz,if_true]<;>rfl,ZDX i0 i1,.ptr _ _ _ hb⟩
 case iaddrA m z =>obtain⟨x,y,rfl,hh⟩:=Zc6 h;replace h:=hh;clear hh;obtain⟨d,d',rfl,hx,hy⟩:=hv.inv2;cases hy<;>simp only[reduceCtorEq]at h;cases hx<;>simp only[reduceCtorEq]at h<;>obtain⟨i0,i1,h⟩:=ZbA h<;>simp only[ZDV]at h<;>subst h;exact⟨_,_,rfl,ZDX i0 i1,by constructor;assumption⟩;exact⟨_,_,rfl,ZDX i0 i1,by constructor;assumption⟩
 case idxA m z one =>obtain⟨x,y,rfl,hh⟩:=Zc6 h;replace h:=hh;clear hh;obtain⟨d,d',rfl,hx,hy⟩:=hv.inv2;cases hy<;>simp only[reduceCtorEq]at h;cases hx<;>simp only[reduceCtorEq]at h;rename_i k i cs ds hc;obtain⟨i0,i1,hh⟩:=ZbA h;replace h:=hh;clear hh;cases one;simp only[ZEq,if_false]at h;obtain⟨e1,e2⟩:=Zj8 [] hc h;rw[ZEw]at e1 e2;exact⟨_,_,rfl,⟨i0,i1,e1⟩,e2⟩;simp only[if_true]at h;obtain⟨d,e1,e2⟩:=Zgp [] hc h;rw[ZEw]at e1;exact⟨_,d,by simp only[ZEc,ZEs,qv,e1,ZEp]<;>rfl,ZDX i0 i1,e2⟩
 case sliceA m z lo hi mx =>
  cases vs with
  |nil=>simp at h
  |cons x r =>
  obtain⟨d,ac,rfl,hx,hr⟩:=hv.inv;cases hx<;>simp only[reduceCtorEq]at h;rename_i k b o hb;split at h<;>(try(simp at h;done));rename_i l hh mm u;obtain⟨hc,hh⟩:=Zz h;replace h:=hh;clear hh;simp only[ZDV]at h;subst h;simp only[ZD5,Jf,JW]at hc;have e:=Za4 hr u;simp only[ZEc,qv,e];refine⟨_,_,rfl,⟨hc.1.1.1.1,hc.1.1.1.2,hc.1.1.2,hc.1.2,hc.2⟩,?_⟩;by_cases he:mm.getD (m:Int)=l.getD 0;rw[if_pos he,if_pos (QD.2 he)];exact .msl _ _ _ _ _ _ hb;rw[if_neg he,if_neg (fun h=>he (QD.1 h))];exact .msl _ _ _ _ _ _ hb
 case idxS =>
  obtain⟨x,y,rfl,hh⟩:=Zc6 h;replace h:=hh;clear hh;obtain⟨d,d',rfl,hx,hy⟩:=hv.inv2;cases hy<;>simp only[reduceCtorEq]at h;cases hx<;>simp only[reduceCtorEq]at h;rename_i k i l;obtain⟨i0,i1,hh⟩:=ZbA h;replace h:=hh;clear hh;simp only[ZDV]at h;subst h;refine⟨_,_,rfl,⟨i0,by simpa using i1⟩,?_⟩;have:(((l.map UInt8.ofNat).getD i.toNat 0).toNat:Int)=Int.ofNat (l.getD i.toNat 0 % 256):=by simp only[ZEb,List.getElem?_map];cases l[i.toNat]?<;>simp
  rw[this];exact .int _ _
 case lenS =>obtain⟨x,rfl,hh⟩:=WB h;replace h:=hh;clear hh;obtain⟨d,rfl,hx⟩:=hv.inv1;cases hx<;>simp only[reduceCtorEq,ZDV]at h;subst h;refine⟨True,_,rfl,trivial,?_⟩;rw[List.length_map];exact .int _ _
 case lenL =>obtain⟨x,rfl,hh⟩:=WB h;replace h:=hh;clear hh;obtain⟨d,rfl,hx⟩:=hv.inv1;cases hx<;>simp only[reduceCtorEq,ZDV]at h<;>subst h<;>exact⟨True,_,rfl,trivial,.int _ _⟩
 case lenA n =>obtain⟨x,rfl,hh⟩:=WB h;replace h:=hh;clear hh;obtain⟨d,rfl,hx⟩:=hv.inv1;obtain⟨hb,hh⟩:=Zz h;replace h:=hh;clear hh;rw[JW]at hb;simp only[ZDV]at h;subst h;exact⟨_,_,rfl,Kv hb,.int _ _⟩
 case ext k =>obtain⟨x,rfl,hh⟩:=WB h;replace h:=hh;clear hh;obtain⟨d,rfl,hx⟩:=hv.inv1;cases hx<;>simp only[reduceCtorEq]at h;rename_i cs ds hc;obtain⟨d,e1,e2⟩:=Zgp [] hc h;rw[ZEw]at e1;exact⟨True,d,by simp only[ZEc,ZEs,qv,e1,ZEp],trivial,e2⟩
 case build zero parts =>cases hz:ofDs zero<;>simp only[hz,reduceCtorEq,ZD9]at h;rename_i z;obtain⟨r,hr,rfl⟩:=h;obtain⟨rd,e1,e2⟩:=Zq1 (ofDs_ok hz) hv hr;exact⟨True,_,by simp only[qv,Zaq,e1,ZEp]<;>rfl,trivial,.agg _ _ e2⟩
 case mkfn f k =>cases f<;>simp only[reduceCtorEq,ZDV]at h;subst h;exact⟨True,_,by simp only[qv,Zaq,ZEp]<;>rfl,trivial,.fn _ _ _ _ _ (hv.take k) (hv.drop k)⟩
 case mkif t =>obtain⟨x,rfl,hh⟩:=WB h;replace h:=hh;clear hh;obtain⟨d,rfl,hx⟩:=hv.inv1;simp only[ZDV]at h;subst h;exact⟨True,_,rfl,trivial,.iface _ _ _ hx⟩
 case sliceS lo hi =>
  cases vs with
  |nil=>simp at h
  |cons x r =>
  obtain⟨d,ac,rfl,hx,hr⟩:=hv.inv;cases hx<;>simp only[reduceCtorEq]at h;rename_i l;split at h<;>(try(simp at h;done));rename_i a b c u;obtain⟨hc,hh⟩:=Zz h;replace h:=hh;clear hh;simp only[ZDV]at h;subst h;simp only[ZD5,Jf]at hc;have e:=Za4 hr u;simp only[ZEc,qv,e,List.length_map];refine⟨_,_,rfl,⟨hc.1.1,hc.1.2,hc.2⟩,?_⟩;rw[←List.map_drop,←List.map_take];exact .str _
 case slice z lo hi mx =>
  cases vs with
  |nil=>simp at h
  |cons x r =>
  obtain⟨d,ac,rfl,hx,hr⟩:=hv.inv;simp only at h;split at h<;>(try(simp at h;done));rename_i l hh m u;have e:=Za4 hr u;obtain⟨side,r',e1,e2,e3⟩:=Zwm h1 hx h;exact⟨side,r',by simp only[ZEc,qv,e,e1,ZEp],e2,e3⟩
 case min =>obtain⟨x,y,rfl,hh⟩:=Zc6 h;replace h:=hh;clear hh;obtain⟨d,d',rfl,hx,hy⟩:=hv.inv2;cases hx<;>simp only[reduceCtorEq]at h;cases hy<;>simp only[reduceCtorEq]at h;obtain⟨hk,hh⟩:=Zz h;replace h:=hh;clear hh;obtain rfl:=Zet hk;simp only[ZDV]at h;subst h;refine⟨True,_,by simp only[ZEc,ZEs,qv,if_true]<;>rfl,trivial,?_⟩;rw[ZAC];exact .int _ _
 case max =>obtain⟨x,y,rfl,hh⟩:=Zc6 h;replace h:=hh;clear hh;obtain⟨d,d',rfl,hx,hy⟩:=hv.inv2;cases hx<;>simp only[reduceCtorEq]at h;cases hy<;>simp only[reduceCtorEq]at h;obtain⟨hk,hh⟩:=Zz h;replace h:=hh;clear hh;obtain rfl:=Zet hk;simp only[ZDV]at h;subst h;refine⟨True,_,by simp only[ZEc,ZEs,qv,if_true]<;>rfl,trivial,?_⟩;rw[ZAB];exact .int _ _
 case tassert t ok zero =>cases ok<;>simp only at h;obtain⟨x,rfl,hh⟩:=WB h;replace h:=hh;clear hh;obtain⟨d,rfl,hx⟩:=hv.inv1;cases hx<;>simp only[reduceCtorEq]at h;obtain⟨ht,hh⟩:=Zz h;replace h:=hh;clear hh;rw[Z2]at ht;simp only[ZDV]at h;subst h;exact⟨True,_,by simp only[ZEc,ZEs,qv,ht,if_true]<;>rfl,trivial,by assumption⟩;obtain⟨x,rfl,hh⟩:=WB h;replace h:=hh;clear hh;obtain⟨d,rfl,hx⟩:=hv.inv1;cases hx<;>simp only[reduceCtorEq]at h;obtain⟨ht,hh⟩:=Zz h;replace h:=hh;clear hh;rw[Z2]at ht;simp only[ZDV]at h;subst h;exact⟨True,_,by simp only[ZEc,ZEs,qv,ht,if_true]<;>rfl,trivial,.tup _ _ (.cons _ _ _ _ ‹_› (.one (.bool _)))⟩;simp only[ZD9]at h;obtain⟨z,hz,rfl⟩:=h;exact⟨True,_,rfl,trivial,.tup _ _ (.cons _ _ _ _ (Zgu hz) (.one (.bool _)))⟩
 case lookup kp zero ok =>cases hz:ofD zero<;>simp only[hz,reduceCtorEq]at h;rename_i z;obtain⟨x,y,rfl,hh⟩:=Zc6 h;replace h:=hh;clear hh;obtain⟨d,d',rfl,hx,hy⟩:=hv.inv2;obtain⟨hk,hh⟩:=Zz h;replace h:=hh;clear hh;have ae:=Zfh hy hk;cases hx<;>simp only[reduceCtorEq]at h;rename_i k b hb;split at h<;>simp only[reduceCtorEq,ZD9]at h;rename_i es ab;obtain⟨r,hr,rfl⟩:=h;obtain⟨af,e1,e2⟩:=hS.mapO ab hb;obtain⟨r',e3,e4⟩:=Zq4 hy e2 hr;exact⟨_,_,by simp only[ZEc,ZEs,qv,Kw,e1,e3,ZEp]<;>rfl,ae,Zrf (Zgu hz) e4⟩;simp only[ZDV]at h;subst h;exact⟨_,_,rfl,ae,Zrf (r':=nO) (Zgu hz) trivial⟩
 case lenM =>
  obtain⟨x,rfl,hh⟩:=WB h;replace h:=hh;clear hh;obtain⟨d,rfl,hx⟩:=hv.inv1;cases hx<;>simp only[reduceCtorEq]at h;·rename_i k b hb;split at h<;>(try(simp at h;done));rename_i es ab;obtain⟨hl,hh⟩:=Zz h;replace h:=hh;clear hh;rw[JW]at hl;simp only[ZDV]at h;subst h;obtain⟨af,e1,e2⟩:=hS.mapO ab hb;refine⟨_,_,by simp only[ZEc,ZEs,qv,Kw,e1]<;>rfl,by rw[←e2.len];exact hl,?_⟩;rw[←e2.len];exact .int _ _
  simp only[ZDV]at h;subst h;exact⟨True,_,rfl,trivial,.int _ _⟩
end
section
variable {C:Px} {η:Nm} {σ:S} {s:St} {L:Loc} {ρ:T W} {ρd:Env} {nx:Nat}
theorem Zwz:∀(l:List Nat) (k:Nat),VRr η 1 (u8V (l.drop k)) (fun i=>[D.int .u8 (((l.map UInt8.ofNat).getD (k+i) 0).toNat:Int)])
 |l,k=>by
  have key:∀(m:List Nat) (k:Nat),l.drop k=m→VRr η 1 (u8V m) (fun i=>[D.int .u8 (((l.map UInt8.ofNat).getD (k+i) 0).toNat:Int)]):=by
   intro m;induction m with
   |nil=>intro k _;exact .nil _ _
   |cons a m ih =>
    intro k hk;have h1:l[k]?=sO a:=by have:=congrArg (fun x=>x[0]?) hk;simpa using this
    have h2:l.drop (k+1)=m:=by have:=congrArg List.tail hk;simpa using this
    refine .cons 1 _ _ _ ?_ rfl ((ih (k+1) h2).congr fun i _=>by rw[show k+1+i=k+(i+1) by omega]);have:(((l.map UInt8.ofNat).getD (k+0) 0).toNat:Int)=Int.ofNat (a % 256):=by simp[h1]
    rw[this];exact .one (.int _ _)
  exact key _ k rfl
theorem ZsY{z:List V}{zd:List D}(hz:VRs η z zd){i:Nat}:∀{is:List Nat} {vs:List V} {ds:List D},VRs η vs ds→VRs η (ZfU z (is.zip vs) i) (Z8 zd (is.zip ds) i)
 | [],vs,ds,h=>by simpa[ZfU,Z8]using hz
 |k::is,vs,ds,h=>by
  cases vs with
  |nil=>obtain rfl:=h.inv0;simpa[ZfU,Z8]using hz
  |cons v vs =>
   obtain⟨d,ds',rfl,h1,h2⟩:=h.inv;simp[ZfU,Z8];by_cases hk:k=i;simp_all;cases h1<;>first|exact .one (by constructor<;>assumption)|assumption
   simp_all;exact ZsY hz h2
theorem Zjx{v:V}{d:D}(h:VR η v d):VRs η (ZeZ v) (cellsOf d):=by
 cases h<;>first|exact .one (by constructor<;>assumption)|assumption
theorem ZlQ{v:V}{d:D}(h:VR η v d)(hp:Znv v=true):WS d=true:=by
 cases h<;>first|rfl|cases hp
theorem ZrY{v:V}{d:D}(h:VR η v d)(hp:ZuZ v=true):Qn d=true:=by
 cases h<;>first|rfl|cases hp
theorem ZiN{n:Nat}:∀{vs:List V} {ds:List D},VRs η vs ds→ZeA n vs=true→KN n ds=true
 | [],ds,h,hp=>by obtain rfl:=h.inv0;rfl
 |v::vs,ds,h,hp=>by obtain⟨d,ds',rfl,h1,h2⟩:=h.inv;simp[ZeA]at hp;simp[KN];exact⟨⟨ZlQ h1 hp.1.1,by rw[←(Zjx h1).len];exact hp.1.2⟩,ZiN h2 hp.2⟩
theorem Zre{n:Nat}{z:List V}(hz:z.length=n){i:Nat}:∀{is:List Nat} {vs:List V},ZeA n vs=true→(ZfU z (is.zip vs) i).length=n
 | [],vs,_=>by simpa[ZfU]using hz
 |k::is,[],_=>by simpa[ZfU]using hz
 |k::is,v::vs,hp=>by simp[ZeA]at hp;simp[ZfU];split;exact hp.1.2;exact Zre hz hp.2
theorem Zlw{n:Nat}{z:List V}{zd:List D}(hz:VRs η z zd)(hzl:z.length=n){is:List Nat}{vs:List V}{ds:List D}(hv:VRs η vs ds)(hp:ZeA n vs=true):∀(len i:Nat),VRr η n (ZjR z (is.zip vs) len i) (fun j=>Z8 zd (is.zip ds) (i+j))∧(ZjR z (is.zip vs) len i).length=len
 |0,i=>⟨.nil _ _,rfl⟩
 |len+1,i=>by obtain⟨h1,h2⟩:=Zlw hz hzl hv hp len (i+1);refine⟨.cons _ _ _ _ (ZsY hz hv) (Zre hzl hp) (h1.congr fun j _=>by rw[show i+1+j=i+(j+1) by omega]),by simp[ZjR,h2]⟩
theorem Zo9(hS:Sim C η σ s)(h1:η 1=sO .full)(hρ:Z5 η L ρ ρd){g:Option (Nat×Bool)}(hg:Zk ρd g=sO true){k:K}{r:R3}(hk:YB k=true){db:Bool}(h:(opF false db k).run ρ σ nx=sO r):
  r.σ=σ∧r.nx=nx∧∃side e,side∧ZD ⟨dst,g,k⟩ ρd L s=.ok side (Zw ρd dst e) L s∧WR η L (.v r.v) e:=by
 have fin:∀{side:Prop} {d:D} {v:V},side→VR η v d→ZD ⟨dst,g,k⟩ ρd L s=(match g with
   |none=>.ok side (Zw ρd dst (.d d)) L s
   |some _=>.ok (true=true→side) (Zw ρd dst (.when true (.d d))) L s)→∃side e,side∧ZD ⟨dst,g,k⟩ ρd L s=.ok side (Zw ρd dst e) L s∧WR η L (.v v) e:=by
  intro side d v hs hv t;cases g with
  |none=>exact⟨side,.d d,hs,t,d,hv,.inl rfl⟩
  |some x=>exact⟨_,.when true (.d d),fun _=>hs,t,d,hv,.inr rfl⟩
 cases k<;>simp only[YB,ZEq]at hk;case q q xs =>simp only[opF]at h;split at h<;>(try(simp at h;done));rename_i vs j;split at h<;>simp only[ZDV,reduceCtorEq]at h;rename_i v hv;subst h;obtain⟨p,ds,a1,a2,a3⟩:=Zal hρ j;obtain⟨side,d,b1,b2,b3⟩:=Zuw (L:=L) hS h1 a3 hv;refine⟨rfl,rfl,fin (side:=p∧side) ⟨a2,b2⟩ b3 ?_⟩;unfold ZD;simp only[hg,a1,b1];cases g<;>rfl
 case pick c a b =>
  simp only[opF]at h;unfold mp2 at h;split at h<;>(try(simp at h;done));rename_i cv hc;obtain⟨pc,dc,c1,c2,c3⟩:=Kh hρ hc;cases c3<;>simp only[reduceCtorEq]at h;rename_i cb;have u:∀{x y:Opd} {yb:Bool},(ZiJ x).run ρ=true→(YM y).run ρ=sO (.bool yb)→(∃p z,ZE ρd false x=sO (p,.d (.bool z))∧p)∧∃p,ZE ρd true y=sO (p,.d (.bool yb))∧p:=by intro x y yb hx hy;obtain⟨p,d,e1,e2,e3⟩:=Kh hρ hy;cases e3;exact⟨Zv0 hρ hx rfl,p,e1,e2⟩
  cases cb;·simp only at h;obtain⟨hb,h⟩:=Zz h;split at h<;>(try(simp at h;done));rename_i yv hy;split at h<;>cases h;obtain⟨⟨p1,z,e1,e2⟩,p2,e3,e4⟩:=u hb hy;refine⟨rfl,rfl,fin (side:=pc∧p1∧p2) ⟨c2,e2,e4⟩ (.bool _) ?_⟩;unfold ZD Zc0;simp[hg,c1,e1,e3];cases g<;>rfl
  simp only at h;obtain⟨hb,h⟩:=Zz h;split at h<;>(try(simp at h;done));rename_i yv hy;split at h<;>cases h;obtain⟨⟨p1,z,e1,e2⟩,p2,e3,e4⟩:=u hb hy;refine⟨rfl,rfl,fin (side:=pc∧p2∧p1) ⟨c2,e4,e2⟩ (.bool _) ?_⟩;unfold ZD Zc0;simp[hg,c1,e1,e3];cases g<;>rfl
 case bsl len n z is xs =>simp only[opF]at h;cases hz:ofDs z<;>simp only[hz,reduceCtorEq]at h;rename_i zv;split at h<;>(try(simp at h;done));rename_i vs j;obtain⟨hb,h⟩:=Zz h;cases h;simp only[ZD5,Z2]at hb;obtain⟨p,ds,a1,a2,a3⟩:=Zal hρ j;obtain⟨l1,l2⟩:=Zlw (is:=is) (ofDs_ok hz) hb.2 a3 hb.1 len 0;refine⟨rfl,rfl,fin (side:=p∧KN n ds=true) ⟨a2,ZiN a3 hb.1⟩ (.sl 1 len n _ .full (Z8 z (is.zip ds)) (l1.congr fun i _=>by rw[Nat.zero_add]) l2 (.inr h1)) ?_⟩;unfold ZD;simp only[hg,a1,Zaq];cases g<;>rfl
 case s2b x =>simp only[opF]at h;unfold mp2 at h;split at h<;>(try(simp at h;done));rename_i xv hx;obtain⟨p,d,a1,a2,a3⟩:=Kh hρ hx;cases a3<;>simp only[reduceCtorEq,ZDV]at h;rename_i l;subst h;refine⟨rfl,rfl,fin (side:=p) a2 (.sl 0 l.length 1 (u8V l) .none _ (Zwz l 0) (by simp[u8V]) (.inl rfl)) ?_⟩;unfold ZD;simp only[hg,a1,List.length_map,Nat.zero_add];cases g<;>rfl
end
def YT(C:Px)(η:Nm)(r:R3)(e:E)(s2:St):Prop:=∃η',η.Sub η'∧Yr η' r.nx∧Sim C η' r.σ s2∧∃d,VR η' r.v d∧e=.d d
theorem OR.cells0{C:Cx}{η:Nm}{k:Nat}{vs:List V}(h:VRs η vs ds):OR C η k (.cells vs) (.cells ds):=by
 simpa using OR.cells (C:=C) (k0:=k) vs ds [] h
theorem Zsm{cs ys:List D}{o:Nat}(h:o+ys.length≤cs.length):(Zt cs o ys).length=cs.length:=by
 simp[Zt];omega
theorem Jc{b:Nat}{cs:List D}(h:s b=sO (.cells cs)):Yc s b=sO cs:=by simp[Yc,h]
section
variable {C:Px} {η:Nm} {σ:S} {s:St} {L:Loc} {ρ:T W} {ρd:Env} {nx:Nat}
theorem Wr{x:Option V}{f:V→Option R3}{r:R3}(h:mp2 x f=sO r):∃v,x=sO v∧f v=sO r:=by
 cases x with
 |none=>cases h
 |some v=>exact⟨v,rfl,h⟩
theorem ZrX{x:Option S}{v:V}{r:R3}(h:up x v nx=sO r):∃σ',x=sO σ'∧r=⟨v,σ',nx⟩:=by
 cases x with
 |none=>cases h
 |some σ'=>simp[up]at h;exact⟨σ',rfl,h.symm⟩
theorem YT.new(hS:Sim C η σ s)(hN:Yr η nx){b:Nat}(hb:s b=nO){o:O}{d:Z1}(ho:OR C (η.put nx (.tip b)) nx o d){v:V}{e:D}(hv:VR (η.put nx (.tip b)) v e)(hr:Zbn o=false:=by rfl):YT C η ⟨v,σ.set (sO o) nx,nx+1⟩ (.d e) (s.upd b d) :=
 ⟨_,Nm.put_sub (hN.free nx (ZEd _)) _,hN.put _,hS.new (hN.free nx (ZEd _)) hb ho hr,e,hv,rfl⟩
theorem YT.turn(hS:Sim C η σ s)(hN:Yr η nx){k b:Nat}{o o':O}{d:Z1}(h:σ.get k=sO o)(hb:η k=sO (.tip b))(ho:OR C η k o' d){v:V}{e:D}(hv:VR η v e)(hr:Zbn o=false:=by rfl)(hr':Zbn o'=false:=by rfl):YT C η ⟨v,σ.set (sO o') k,nx⟩ (.d e) (s.upd b d) :=
 ⟨η,Nm.Sub.refl _,hN,hS.upd h hb ho hr hr',e,hv,rfl⟩
theorem Zjt(hS:Sim C η σ s){a:V}{n:Nat}{xs:List V}{σ':S}(h:ZgJ σ a n xs=sO σ'){da:D}(ha:VR η a da){ys:List D}(hx:VRs η xs ys):
  ∃b off cs,da=.ptr b off∧Yc s b=sO cs∧off+ys.length≤cs.length∧ys.length=n∧Sim C η σ' (s.upd b (.cells (Zt cs off ys))):=by
 cases ha<;>simp only[ZgJ,reduceCtorEq]at h;rename_i k b o hb;split at h<;>(try(simp at h;done));all_goals
  rename_i cs i;split at h<;>simp at h;rename_i cs' u;subst h;obtain⟨ds,ex,e1,e2⟩:=hS.cells (vs:=cs) (by rw[i];rfl) hb;obtain⟨f0,f1,f2⟩:=e2.over hx u;have hl:ys.length=n:=by rw[←hx.len,f0]
  have j:Zt (ds++ex) o ys=Zt ds o ys++ex:=ZkU (by omega);refine⟨b,o,_,rfl,Jc e1,by simp;omega,hl,?_⟩;rw[j]
 exact hS.upd i hb (.cells _ _ _ f2);refine hS.upd i hb (.buf _ _ _ f2 ?_);obtain⟨b',d,g1,g2,g3⟩:=hS.get i (fun n=>by simp);rw[hb]at g1;cases g1;rw[e1]at g2;cases g2;generalize t:(Z1.cells (ds++ex))=dd at g3;cases g3 with
 |buf _ ds2 ex2 _ hc =>
  simp only[Z1.cells.injEq]at t;rw[hc];have:(Zt ds o ys++ex).length=(ds2++ex2).length:=by rw[←t,ZD8,ZD8,Zsm (by omega)]
  rw[this]
variable {P:Program} {F:Fr P} {kp:Option (List Nat)} {dk:List Zh} {os:List DOp} {ρ':Env} {L':Loc}
theorem Wp(hρ:Z5 η L ρ ρd){x:Opd}{v:V}(h:(YM x).run ρ=sO v)(hag:ZA ρd ρ' (ZS x)):∃p d,ZE ρ' true x=sO (p,.d d)∧p∧VR η v d:=by
 obtain⟨p,d,h1,h2,h3⟩:=Kh hρ h;exact⟨p,d,by rw[ZR hag];exact h1,h2,h3⟩
theorem Zvs(hS:Sim C η σ s)(hN:Yr η nx){z:List D}{mu:Bool}{r:R3}(h:(opF mu dst.isSome (.alloc z)).run ρ σ nx=sO r)(hc:∀e s2,YT C η r e s2→DO F kp dk os (Zw ρ' dst e) L' s2):DO F kp dk (⟨dst,nO,.alloc z⟩::os) ρ' L' s:=by
 simp[opF]at h;cases hz:ofDs z<;>simp[hz]at h;obtain⟨hd,hh⟩:=Zz h;replace h:=hh;clear hh;cases h;cases dst with
 |none=>grind
 |some t=>exact Zu6 rfl rfl rfl fun b hb=>hc (.d (.ptr b 0)) _ (YT.new hS hN hb (OR.cells0 (ofDs_ok hz)) (.ptr _ _ _ (Nm.put_same _ _ _)))
theorem Zyx(hS:Sim C η σ s)(hN:Yr η nx)(hρ:Z5 η L ρ ρd){x:Opd}{mu:Bool}{r:R3}(h:(opF mu dst.isSome (.box x)).run ρ σ nx=sO r)(hag:ZA ρd ρ' (ZS x))(hc:∀e s2,YT C η r e s2→DO F kp dk os (Zw ρ' dst e) L' s2):DO F kp dk (⟨dst,nO,.box x⟩::os) ρ' L' s:=by
 obtain⟨hd,hh⟩:=Zz h;replace h:=hh;clear hh;obtain⟨v,hv,hh⟩:=Wr h;replace h:=hh;clear hh;obtain⟨hp,hh⟩:=Zz h;replace h:=hh;clear hh;cases h;obtain⟨p,d,a1,a2,a3⟩:=Wp hρ hv hag;cases dst with
 |none=>grind
 |some t=>exact Zx0 rfl rfl rfl a1 a2 (ZlQ a3 hp) fun b hb=>hc (.d (.ptr b 0)) _ (YT.new hS hN hb (OR.cells0 ((Zjx a3).mono (Nm.put_sub (hN.free nx (ZEd _)) _))) (.ptr _ _ _ (Nm.put_same _ _ _)))
theorem ZtW(hS:Sim C η σ s)(hN:Yr η nx)(hρ:Z5 η L ρ ρd){a v:Opd}{mu:Bool}{r:R3}(h:(opF mu dst.isSome (.store1 a v)).run ρ σ nx=sO r)(hag:ZA ρd ρ' (ZS a++ZS v))(hc:∀e s2,YT C η r e s2→DO F kp dk os (Zw ρ' dst e) L' s2):DO F kp dk (⟨dst,nO,.store1 a v⟩::os) ρ' L' s:=by
 obtain⟨hd,hh⟩:=Zz h;replace h:=hh;clear hh;obtain⟨av,ha,hh⟩:=Wr h;replace h:=hh;clear hh;obtain⟨xv,hx,hh⟩:=Wr h;replace h:=hh;clear hh;obtain⟨u,hh⟩:=Zz h;replace h:=hh;clear hh;obtain⟨σ',z,rfl⟩:=ZrX h;obtain⟨p,da,a1,a2,a3⟩:=Wp hρ ha (fun t ht=>hag t (by simp[ht]));obtain⟨q,dx,b1,b2,b3⟩:=Wp hρ hx (fun t ht=>hag t (by simp[ht]));have i:=ZrY b3 u;have j:cellsOf dx=[dx]:=by cases dx<;>first|rfl|cases i
 obtain⟨b,off,cs,rfl,c1,c2,c3,c4⟩:=Zjt hS z a3 (.one b3);cases dst with
 |some t=>grind
 |none =>refine Ze5 rfl (.inl ⟨rfl,trivial⟩) a1 b1 a2 b2 c1 (fun _=>i) (fun n hn=>by grind) (by rw[j];exact c2) rfl ?_;rw[j];exact hc (.d .nilsl) _ ⟨η,Nm.Sub.refl _,hN,c4,.nilsl,.nilsl,rfl⟩
theorem ZtX(hS:Sim C η σ s)(hN:Yr η nx)(hρ:Z5 η L ρ ρd){a v:Opd}{n:Nat}{mu:Bool}{r:R3}(h:(opF mu dst.isSome (.storeN n a v)).run ρ σ nx=sO r)(hag:ZA ρd ρ' (ZS a++ZS v))(hc:∀e s2,YT C η r e s2→DO F kp dk os (Zw ρ' dst e) L' s2):DO F kp dk (⟨dst,nO,.storeN n a v⟩::os) ρ' L' s:=by
 obtain⟨hd,hh⟩:=Zz h;replace h:=hh;clear hh;obtain⟨av,ha,hh⟩:=Wr h;replace h:=hh;clear hh;obtain⟨xv,hx,hh⟩:=Wr h;replace h:=hh;clear hh;obtain⟨p,da,a1,a2,a3⟩:=Wp hρ ha (fun t ht=>hag t (by simp[ht]));obtain⟨q,dx,b1,b2,b3⟩:=Wp hρ hx (fun t ht=>hag t (by simp[ht]));cases b3<;>simp at h;rename_i xs ys i;obtain⟨σ',j,rfl⟩:=ZrX h;obtain⟨b,off,cs,rfl,c1,c2,c3,c4⟩:=Zjt hS j a3 i;cases dst with
 |some t=>grind
 |none =>refine Ze5 rfl (.inr ⟨n,rfl⟩) a1 b1 a2 b2 c1 (fun hn=>by grind) (fun m hm=>?_) c2 rfl ?_;simp only[K.storeN.injEq]at hm;exact⟨⟨_,rfl⟩,by rw[←hm.1];exact c3⟩;exact hc (.d .nilsl) _ ⟨η,Nm.Sub.refl _,hN,c4,.nilsl,.nilsl,rfl⟩
theorem Zvv(hS:Sim C η σ s)(hN:Yr η nx){mu:Bool}{r:R3}(h:(opF mu dst.isSome .mkmap).run ρ σ nx=sO r)(hc:∀e s2,YT C η r e s2→DO F kp dk os (Zw ρ' dst e) L' s2):DO F kp dk (⟨dst,nO,.mkmap⟩::os) ρ' L' s:=by
 obtain⟨hd,hh⟩:=Zz h;replace h:=hh;clear hh;cases h;cases dst with
 |none=>grind
 |some t=>exact Zp9 rfl rfl rfl fun b hb=>hc (.d (.map b)) _ (YT.new hS hN hb (.map [] [] .nil) (.map _ _ (Nm.put_same _ _ _)))
theorem ZjC{z:List V}{zd:List D}(hz:VRs η z zd):∀n,VRs η (ZgO z n) (KT zd n)
 |0=>by simp[ZgO];exact .nil
 |n+1=>by exact hz.append (ZjC hz n)
theorem Zsa(hS:Sim C η σ s)(hN:Yr η nx)(hρ:Z5 η L ρ ρd){e:TypeId}{n bytes:Nat}{z:List D}{l hx:Opd}{mu:Bool}{r:R3}(h:(opF mu dst.isSome (.mkslice e n bytes z l hx)).run ρ σ nx=sO r)(hag:ZA ρd ρ' (ZS l++ZS hx))(hc:∀e s2,YT C η r e s2→DO F kp dk os (Zw ρ' dst e) L' s2):DO F kp dk (⟨dst,nO,.mkslice e n bytes z l hx⟩::os) ρ' L' s:=by
 simp[opF]at h;cases hz:ofDs z<;>simp[hz]at h;obtain⟨hd,hh⟩:=Zz h;replace h:=hh;clear hh;obtain⟨lv,hl,hh⟩:=Wr h;replace h:=hh;clear hh;obtain⟨hv,hh,hh⟩:=Wr h;replace h:=hh;clear hh;obtain⟨p,dl,a1,a2,a3⟩:=Wp hρ hl (fun t ht=>hag t (by simp[ht]));obtain⟨q,dh,b1,b2,b3⟩:=Wp hρ hh (fun t ht=>hag t (by simp[ht]));cases a3<;>simp at h;cases b3<;>simp at h;obtain⟨hb,hh⟩:=Zz h;replace h:=hh;clear hh;cases h;simp[Jf]at hb;cases dst with
 |none=>grind
 |some t =>refine ZlV rfl rfl rfl a1 b1 a2 b2 hb.1.1.1 hb.1.1.2 hb.1.2 hb.2 fun b i=>hc (.d (.msl b 0 _ _ n)) _ (YT.new hS hN i (OR.cells0 (ZjC (ofDs_ok hz) _)) (.msl _ _ _ _ _ _ (Nm.put_same _ _ _)))
theorem ZtV(hS:Sim C η σ s)(hN:Yr η nx)(hρ:Z5 η L ρ ρd){mk:KP}{m k v:Opd}{mu:Bool}{r:R3}(h:(opF mu dst.isSome (.mapupd mk m k v)).run ρ σ nx=sO r)(hag:ZA ρd ρ' (ZS m++ZS k++ZS v))(hc:∀e s2,YT C η r e s2→DO F kp dk os (Zw ρ' dst e) L' s2):DO F kp dk (⟨dst,nO,.mapupd mk m k v⟩::os) ρ' L' s:=by
 simp only[opF]at h;obtain⟨hd,hh⟩:=Zz h;replace h:=hh;clear hh;obtain⟨mv,hm,hh⟩:=Wr h;replace h:=hh;clear hh;obtain⟨kv,hk,hh⟩:=Wr h;replace h:=hh;clear hh;obtain⟨vv,hv,hh⟩:=Wr h;replace h:=hh;clear hh;obtain⟨p,dm,a1,a2,a3⟩:=Wp hρ hm (fun t ht=>hag t (by simp[ht]));obtain⟨q,dk',b1,b2,b3⟩:=Wp hρ hk (fun t ht=>hag t (by simp[ht]));obtain⟨q',dv,c1,c2,c3⟩:=Wp hρ hv (fun t ht=>hag t (by simp[ht]));cases a3<;>simp only[reduceCtorEq]at h;rename_i kb b hb;split at h<;>(try(simp at h;done));rename_i es j;obtain⟨n,hh⟩:=Zz h;replace h:=hh;clear hh;split at h<;>simp only[ZDV,reduceCtorEq]at h;rename_i es' i;subst h;obtain⟨ds,e1,e2⟩:=hS.map j hb;obtain⟨ds',e3,e4⟩:=Zoo b3 c3 e2 i;cases dst with
 |some t=>simp at hd
 |none=>exact Zoz rfl rfl rfl a1 b1 c1 a2 b2 c2 (by simp only[Kw,e1]) e3 (Zfh b3 n) (hc (.d .nilsl) _ (YT.turn hS hN j hb (.map _ _ e4) .nilsl))
theorem ZtT(hS:Sim C η σ s)(hN:Yr η nx)(hρ:Z5 η L ρ ρd){mk:KP}{m k:Opd}{mu:Bool}{r:R3}(h:(opF mu dst.isSome (.delete mk m k)).run ρ σ nx=sO r)(hag:ZA ρd ρ' (ZS m++ZS k))(hc:∀e s2,YT C η r e s2→DO F kp dk os (Zw ρ' dst e) L' s2):DO F kp dk (⟨dst,nO,.delete mk m k⟩::os) ρ' L' s:=by
 obtain⟨hd,hh⟩:=Zz h;replace h:=hh;clear hh;obtain⟨mv,hm,hh⟩:=Wr h;replace h:=hh;clear hh;obtain⟨kv,hk,hh⟩:=Wr h;replace h:=hh;clear hh;obtain⟨p,dm,a1,a2,a3⟩:=Wp hρ hm (fun t ht=>hag t (by simp[ht]));obtain⟨q,dk',b1,b2,b3⟩:=Wp hρ hk (fun t ht=>hag t (by simp[ht]));cases a3<;>simp only[reduceCtorEq]at h;rename_i kb b hb;split at h<;>(try(simp at h;done));rename_i es j;obtain⟨n,hh⟩:=Zz h;replace h:=hh;clear hh;split at h<;>simp only[ZDV,reduceCtorEq]at h;rename_i es' i;subst h;obtain⟨ds,e1,e2⟩:=hS.map j hb;obtain⟨ds',e3,e4⟩:=ZsP b3 e2 i;cases dst with
 |some t=>simp at hd
 |none=>exact Zox rfl rfl rfl a1 b1 a2 b2 (by simp only[Kw,e1]) e3 (Zfh b3 n) (hc (.d .nilsl) _ (YT.turn hS hN j hb (.map _ _ e4) .nilsl))
theorem ZtU(hS:Sim C η σ s)(hN:Yr η nx)(hρ:Z5 η L ρ ρd){mk:KP}{z:D}{m k:Opd}{mu:Bool}{r:R3}(h:(opF mu dst.isSome (.mapent mk z m k)).run ρ σ nx=sO r)(hag:ZA ρd ρ' (ZS m++ZS k))(hc:∀e s2,YT C η r e s2→DO F kp dk os (Zw ρ' dst e) L' s2):DO F kp dk (⟨dst,nO,.mapent mk z m k⟩::os) ρ' L' s:=by
 simp[opF]at h;cases hz:ofD z<;>simp[hz]at h;obtain⟨hd,hh⟩:=Zz h;replace h:=hh;clear hh;obtain⟨mv,hm,hh⟩:=Wr h;replace h:=hh;clear hh;obtain⟨kv,hk,hh⟩:=Wr h;replace h:=hh;clear hh;obtain⟨p,dm,a1,a2,a3⟩:=Wp hρ hm (fun t ht=>hag t (by simp[ht]));obtain⟨q,dk',b1,b2,b3⟩:=Wp hρ hk (fun t ht=>hag t (by simp[ht]));cases a3<;>simp at h;rename_i kb b hb;split at h<;>(try(grind;done));rename_i es j;obtain⟨u,hh⟩:=Zz h;replace h:=hh;clear hh;split at h<;>simp at h;rename_i v hv;subst h;obtain⟨ds,e1,e2⟩:=hS.map j hb;obtain⟨d,e3,e4⟩:=ZsQ b3 (Zgu hz) e2 hv;cases dst with
 |none=>grind
 |some t =>refine Zoy rfl rfl rfl a1 b1 a2 b2 (by simp[Kw,e1]) e3 (Zfh b3 u) fun n=>hc (.d (.tup [d,.stamp n])) _ ?_;have i:=Nm.put_sub (hN.free nx (ZEd _)) (.tip n);exact⟨_,i,hN.put _,(hS.mono i).upd j (i _ _ hb) (.mapE _ _ _ _ _ _ _ (e2.imp fun _ _ m=>m.mono i) (b3.mono i) (Nm.put_same _ _ _)),_,.tup _ _ (.cons _ _ _ _ (e4.mono i) (.one (.stamp _ _ (Nm.put_same _ _ _)))),rfl⟩
theorem Zvu(hS:Sim C η σ s)(hN:Yr η nx)(hρ:Z5 η L ρ ρd){m st v:Opd}{mu:Bool}{r:R3}(h:(opF mu dst.isSome (.entst m st v)).run ρ σ nx=sO r)(hag:ZA ρd ρ' (ZS m++ZS st++ZS v))(hc:∀e s2,YT C η r e s2→DO F kp dk os (Zw ρ' dst e) L' s2):DO F kp dk (⟨dst,nO,.entst m st v⟩::os) ρ' L' s:=by
 simp only[opF]at h;obtain⟨hd,hh⟩:=Zz h;replace h:=hh;clear hh;obtain⟨mv,hm,hh⟩:=Wr h;replace h:=hh;clear hh;obtain⟨kv,hk,hh⟩:=Wr h;replace h:=hh;clear hh;obtain⟨vv,hv,hh⟩:=Wr h;replace h:=hh;clear hh;obtain⟨p,dm,a1,a2,a3⟩:=Wp hρ hm (fun t ht=>hag t (by simp[ht]));obtain⟨q,dk',b1,b2,b3⟩:=Wp hρ hk (fun t ht=>hag t (by simp[ht]));obtain⟨q',dv,c1,c2,c3⟩:=Wp hρ hv (fun t ht=>hag t (by simp[ht]));cases a3<;>simp only[reduceCtorEq]at h;rename_i kb b hb;cases b3<;>simp only[reduceCtorEq]at h;rename_i kn n hn;split at h<;>(try(simp at h;done));rename_i mk es key n' j;obtain⟨u,hh⟩:=Zz h;replace h:=hh;clear hh;rw[Z2]at u;subst u;split at h<;>simp only[ZDV,reduceCtorEq]at h;rename_i es' i;subst h;obtain⟨b',d,e0,e1,e2⟩:=hS.get j (fun n=>by simp);rw[hb]at e0;simp only[ZDV,Tok.tip.injEq]at e0;subst e0;cases e2 with
 |mapE _ _ ds _ dkey _ m' g1 g2 g3 =>
  rw[hn]at g3;simp only[ZDV,Tok.tip.injEq]at g3;subst g3;obtain⟨ds',e3,e4⟩:=Zoo g2 c3 g1 i;cases dst with
  |some t=>simp at hd
  |none=>exact Zp8 rfl rfl rfl a1 b1 c1 a2 b2 c2 e1 e3 (hc (.d .nilsl) _ (YT.turn hS hN j hb (.map _ _ e4) .nilsl))
end
theorem St.del_upd(s:St)(b:Nat)(d:Z1):(s.del b).upd b d=s.upd b d:=by
 funext c;simp[ZEv,St.del];split<;>rfl
theorem St.upd_del{b:Nat}{d:Z1}(h:s b=sO d):(s.del b).upd b d=s:=by
 funext c;simp[ZEv,St.del];split;rename_i hc;rw[hc,h];rfl
section
variable {C:Px} {η:Nm} {σ:S} {s:St}
theorem Sim.take(x:Sim C η σ s){k b:Nat}{o:O}(h:σ.get k=sO o)(hb:η k=sO (.tip b))(hr:Zbn o=false:=by rfl):Sim C η (σ.set nO k) (s.del b) where
 obj k' o' h':=by obtain⟨j,h1⟩:=ZsU h';obtain⟨t,e1,⟨b',d',rfl,e2,e3⟩|e2⟩:=x.obj k' o' h1;refine⟨_,e1,.inl ⟨b',d',rfl,?_,e3⟩⟩;have:b'≠b:=fun i=>j (x.inj k' k _ _ b h1 h (by rw[←i];exact e1) hb);simp[St.del,this];exact e2;exact⟨t,e1,.inr e2⟩
 inj:=(x.forget k).inj
 kp c e hc:=by obtain⟨h1,h2⟩:=(x.forget k).kp c e hc;have:c≠b:=fun ec=>(x.kp c e hc).2 k o h hr (by rw[ec];exact hb);exact⟨by simp[St.del,this];exact h1,h2⟩
 ro:=(x.forget k).ro
theorem Sim.newFull(x:Sim C η σ s){nx:Nat}(hn:η nx=nO)(m:Nat):Sim C (η.put nx .full) (σ.set (sO (.tok m)) nx) s:=by
 have x':=x.mono (Nm.put_sub hn .full);have i:∀k o1 b,(σ.set (sO (O.tok m)) nx).get k=sO o1→(η.put nx .full) k=sO (.tip b)→σ.get k=sO o1:=fun k o1 b h e=>by
  have j:k≠nx:=fun hk=>by rw[hk,Nm.put_same]at e;grind
  rcases T.get_set h with ⟨rfl,_⟩|⟨_,h⟩;exact absurd rfl j;exact h
 refine⟨fun k o h=>?_,fun k1 k2 o1 o2 b h1 h2 e1 e2=>x'.inj k1 k2 o1 o2 b (i _ _ _ h1 e1) (i _ _ _ h2 e2) e1 e2,fun c e hc=>⟨(x'.kp c e hc).1,fun k o1 h hr e1=>(x'.kp c e hc).2 k o1 (i _ _ _ h e1) hr e1⟩,fun k o1 c h e=>x'.ro k o1 c (i _ _ _ h e) e⟩;rcases T.get_set h with ⟨rfl,h1⟩|⟨_,h1⟩;cases h1;exact⟨_,Nm.put_same _ _ _,.inr ⟨m,rfl,rfl⟩⟩;exact x'.obj k o h1
theorem Zuy(row:Nat→List D)(m:Nat):(ZEa (m+1)).flatMap row=row 0++(ZEa m).flatMap fun i=>row (i+1):=by
 rw[List.range_succ_eq_map,List.flatMap_cons,List.flatMap_map]
theorem VRr.flat{z:Nat}:∀{m:Nat} {rs cs:List V} {row:Nat→List D},VRr η z rs row→Zmr z m rs=sO cs→VRs η cs ((ZEa m).flatMap row)∧cs.length=m*z
 |0,rs,cs,row,_,h=>by have:sO []=sO cs:=h;cases this;exact⟨.nil,by simp⟩
 |m+1,rs,cs,row,hr,h=>by
  cases hr with
  |nil=>cases h
  |cons _ c rs row h1 hl t =>
   have h':(match Zmr z m rs with
    |some r=>sO (ZnN z c r)
    |none=>nO)=sO cs:=h
   split at h'<;>simp at h';rename_i r hr;subst h';obtain⟨g1,g2⟩:=t.flat hr;rw[Zgh hl,Zuy];exact⟨h1.append g1,by rw[ZD8,g2,hl,ZEo];omega⟩
theorem ZlC{z:Nat}:∀{n:Nat} {vs rs:List V} {ds:List D},VRs η vs ds→ZuH z n vs=sO rs→VRr η z rs (fun i=>part ds (i*z) z)∧rs.length=n∧n*z≤ds.length
 |0,vs,rs,ds,_,h=>by have:sO []=sO rs:=h;cases this;exact⟨.nil _ _,rfl,by omega⟩
 |n+1,vs,rs,ds,hv,h=>by
  have h':(match ZaS z vs with
   |some r=>Jz (.agg r) (ZuH z n (Zbd z vs))
   |none=>nO)=sO rs:=h
  split at h'<;>(try(simp at h';done));rename_i r hr;obtain⟨q,hq,rfl⟩:=Kr h';obtain⟨t1,rfl⟩:=JN hr;rw[QX]at hq;obtain⟨g1,g2,g3⟩:=ZlC (hv.drop z) hq;have hlen:=hv.len;rw[ZEx]at g3;refine⟨.cons _ _ _ _ ?_ (by rw[ZEh];omega) (g1.congr fun i _=>?_),by simp[g2],by rw[ZEo];omega⟩;simpa[part]using hv.take z;simp[part]
  congr 2
  rw[ZEo];omega
theorem Zy2{P:Program}(hS:Sim C η σ s){z:Nat}{v:V}{d:D}(hv:VR η v d){m:Nat}{rs:List V}(h:ZxO σ z v=sO (m,rs)):∃row,QI P s z d m row∧VRr η z rs row∧rs.length=m:=by
 cases hv<;>simp only[ZxO,reduceCtorEq]at h;case nilsl =>cases h;exact⟨fun _=>[],QI.elems rfl,.nil _ _,rfl⟩
 case sl t n z' rs' τ row h1 h2 h3 =>obtain⟨hz,hh⟩:=Zz h;rw[Z2]at hz;subst hz;cases hh;exact⟨row,QI.elems (by simp[Jd]),h1,h2⟩
 case str l =>obtain⟨hz,hh⟩:=Zz h;rw[Z2]at hz;subst hz;cases hh;refine⟨fun i=>[D.int .u8 (((l.map UInt8.ofNat).getD i 0).toNat:Int)],QI.elems (m:=l.length) (by simp[Jd]),?_,by simp[u8V]⟩;have:=Zwz (η:=η) l 0;simpa using this
 case msl k b o n cap z' hb =>
  split at h<;>(try(grind;done));rename_i cs j;obtain⟨hc,hh⟩:=Zz h;simp at hc;obtain⟨rfl,hc⟩:=hc;split at hh<;>simp at hh;rename_i r hr;obtain⟨rfl,rfl⟩:=hh;obtain⟨ds,ex,e1,e2⟩:=hS.cells j hb;rw[QX]at hr;obtain⟨g1,g2,g3⟩:=ZlC (e2.drop o) hr;have hl:=e2.len;refine⟨_,QI.msl (Jc e1) (by rw[ZD8];omega),g1.congr fun i hi=>?_,g2⟩;have h1:i*z'+z'≤n*z':=by rw[←Nat.succ_mul];exact ZEi _ (by omega)
  simp[part];rw[List.drop_append_of_le_length (by omega),List.take_append_of_le_length (by rw[ZEx];omega)]
 case gsl k b o n cap z' c hb h2 hcap hl0 =>
  split at h<;>(try(grind;done));rename_i cs j;obtain⟨hc,hh⟩:=Zz h;simp at hc;obtain⟨rfl,hc⟩:=hc;split at hh<;>simp at hh;rename_i r hr;obtain⟨rfl,rfl⟩:=hh;obtain⟨ds,ex,e1,e2⟩:=hS.cells j hb;rw[QX]at hr;obtain⟨g1,g2,g3⟩:=ZlC (e2.drop o) hr;have hl:=e2.len;refine⟨_,QI.msl (Jc e1) (by rw[ZD8];omega),g1.congr fun i hi=>?_,g2⟩;have h1:i*z'+z'≤n*z':=by rw[←Nat.succ_mul];exact ZEi _ (by omega)
  simp[part];rw[List.drop_append_of_le_length (by omega),List.take_append_of_le_length (by rw[ZEx];omega)]
end
section
variable {C:Px} {η:Nm} {σ:S} {s:St} {L:Loc} {ρ:T W} {ρd:Env} {nx:Nat}
variable {P:Program} {F:Fr P} {kp:Option (List Nat)} {dk:List Zh} {os:List DOp} {ρ':Env} {L':Loc}
theorem Zvt(hS:Sim C η σ s)(hN:Yr η nx)(hρ:Z5 η L ρ ρd){g:Option (Nat×Bool)}(hg:Zk ρ' g=sO true){n0:Nat}{z:List D}{x:Opd}{mu:Bool}{r:R3}{db:Bool}(h:(opF mu db (.clear n0 z x)).run ρ σ nx=sO r)(hag:ZA ρd ρ' (ZS x))(hc:∀e s2,YT C η r e s2→DO F kp dk os (Zw ρ' dst e) L' s2):DO F kp dk (⟨dst,g,.clear n0 z x⟩::os) ρ' L' s:=by
 simp[opF]at h;cases hz:ofDs z<;>simp[hz]at h;rename_i zv;obtain⟨v,hv,hh⟩:=Wr h;replace h:=hh;clear hh;obtain⟨p,d,a1,a2,a3⟩:=Wp hρ hv hag;have fin:∀{k b o n cap:Nat} {z':Nat} ,VR η (.ptr k o) (.ptr b o)→d=.msl b o n cap z'→noV (Nat.beq z' n0) (up (ZgJ σ (.ptr k o) (n*n0) (ZgO zv n)) (.tup []) nx)=sO r→DO F kp dk (⟨dst,g,.clear n0 z x⟩::os) ρ' L' s:=by intro k b o n cap z' hp hd h;obtain⟨i,hh⟩:=Zz h;replace h:=hh;clear hh;rw[Z2]at i;subst i;obtain⟨σ',j,rfl⟩:=ZrX h;obtain⟨b',off,cs,e1,c1,c2,c3,c4⟩:=Zjt hS j hp (ZjC (ofDs_ok hz) n);cases e1;subst hd;exact Zk1 hg rfl a1 a2 c1 (by omega) (hc (.d (.tup [])) _ ⟨η,Nm.Sub.refl _,hN,c4,_,.tup _ _ .nil,rfl⟩)
 cases a3<;>simp at h;case msl k b o n cap z' hb=>exact fin (.ptr _ _ _ hb) rfl h
 case gsl k b o n cap z' c hb h2 hcap hl0=>exact fin (.ptr _ _ _ hb) rfl h
theorem YT.buf(hS:Sim C η σ s)(hN:Yr η nx){b:Nat}(hb:s b=nO){z m cap:Nat}{cs:List V}{ds ex:List D}(hv:VRs η cs ds)(hm:m≤cap)(hl:(ds++ex).length=cap*z){r:R3}(h:Zia z σ nx m cs=sO r):YT C η r (.d (.msl b 0 m cap z)) (s.upd b (.cells (ds++ex))):=by
 cases h;have f0:=hN.free nx (ZEd _);have f1:=hN.free (nx+1) (by omega);have s1:η.Sub (η.put (nx+1) (.tip (ds++ex).length)):=Nm.put_sub f1 _;have f2:(η.put (nx+1) (.tip (ds++ex).length)) nx=nO:=by simp only[Nm.put];rw[if_neg (by omega)];exact f0
 have s2:=Nm.put_sub f2 (.tip b);have hx:((η.put (nx+1) (.tip (ds++ex).length)).put nx (.tip b)) (nx+1)=sO (.tip (ds++ex).length):=by simp[Nm.put]
 refine⟨_,s1.trans s2,⟨?_,?_,?_,?_⟩,(hS.mono s1).new f2 hb (.buf _ _ _ ((hv.mono s1).mono s2) hx),_,.gsl _ _ _ _ _ _ _ (Nm.put_same _ _ _) hx hm (by omega),rfl⟩;exact s2 _ _ (s1 _ _ hN.z);exact s2 _ _ (s1 _ _ hN.o);have:=hN.two;show 2≤nx+2;omega;intro k hk;have hk:nx+2≤k:=hk;simp[Nm.put];rw[if_neg (by omega),if_neg (by omega)];exact hN.free k (by omega)
theorem YT.bufMove(hS:Sim C η σ s)(hN:Yr η nx){k b:Nat}{o:O}(hk:σ.get k=sO o)(hb:η k=sO (.tip b))(hr:Zbn o=false){z m cap:Nat}{cs:List V}{ds ex:List D}(hv:VRs η cs ds)(hm:m≤cap)(hl:cap*z≤(ds++ex).length){r:R3}(h:Zia z (σ.set nO k) nx m cs=sO r):YT C η r (.d (.msl b 0 m cap z)) (s.upd b (.cells (ds++ex))):=by
 rw[←St.del_upd s b];cases h;have f0:=hN.free nx (ZEd _);have f1:=hN.free (nx+1) (by omega);have s1:η.Sub (η.put (nx+1) (.tip (ds++ex).length)):=Nm.put_sub f1 _;have f2:(η.put (nx+1) (.tip (ds++ex).length)) nx=nO:=by simp only[Nm.put];rw[if_neg (by omega)];exact f0
 have s2:=Nm.put_sub f2 (.tip b);have hx:((η.put (nx+1) (.tip (ds++ex).length)).put nx (.tip b)) (nx+1)=sO (.tip (ds++ex).length):=by simp[Nm.put]
 refine⟨_,s1.trans s2,⟨?_,?_,?_,?_⟩,((hS.take hk hb hr).mono s1).new f2 (by simp[St.del]) (.buf _ _ _ ((hv.mono s1).mono s2) hx),_,.gsl _ _ _ _ _ _ _ (Nm.put_same _ _ _) hx hm (by omega),rfl⟩;exact s2 _ _ (s1 _ _ hN.z);exact s2 _ _ (s1 _ _ hN.o);have:=hN.two;show 2≤nx+2;omega;intro k hk;have hk:nx+2≤k:=hk;simp[Nm.put];rw[if_neg (by omega),if_neg (by omega)];exact hN.free k (by omega)
end
section
variable {C:Px} {η:Nm} {σ:S} {s:St} {L:Loc} {ρ:T W} {ρd:Env} {nx:Nat}
variable {P:Program} {F:Fr P} {kp:Option (List Nat)} {dk:List Zh} {os:List DOp} {ρ':Env} {L':Loc}
theorem ZuV(hS:Sim C η σ s)(hN:Yr η nx){t k:Nat}{τ:Tok}{σ':S}(ht:t=0∨η t=sO τ)(h:Zom σ t k=sO σ'):
  ∃s0,s=s0.own τ k∧τ.okIn s0∧Sim C η σ' s0:=by
 unfold Zom at h;split at h;rename_i h1;rw[Z2]at h1;subst h1;cases h;have:=ht.resolve_left (by omega);rw[hN.o]at this;cases this;exact⟨s,rfl,trivial,hS⟩;split at h<;>(try(grind;done));rename_i m hm;obtain⟨hk,hh⟩:=Zz h;rw[Z2]at hk;subst hk;cases hh;obtain⟨t0,e0,e1⟩:=hS.obj t _ hm;have hτ:τ=t0:=by rcases ht with rfl|ht;rw[hN.z]at e0;cases e0;obtain⟨_,_,h,_⟩|⟨_,_,h⟩:=e1<;>grind;rw[e0]at ht;simpa using ht.symm
 subst hτ;obtain⟨b,d,rfl,g1,g2⟩|⟨n,g1,rfl⟩:=e1;cases g2;refine⟨s.del b,?_,by simp[Tok.okIn,St.del],hS.take hm e0⟩;exact(St.upd_del g1).symm;exact⟨s,rfl,trivial,hS.forget t⟩
theorem YT.tok{s0:St}{σ':S}(hS:Sim C η σ' s0)(hN:Yr η nx){t':Tok}(ht:t'.okIn s0){n z:Nat}{rs:List V}(hr:VRr η z rs row)(hl:rs.length=n):
  YT C η ⟨.sl nx n z rs,σ'.set (sO (.tok (n*z))) nx,nx+1⟩ (.d (.sl t' n z row)) (s0.own t' (n*z)):=by
 have f0:=hN.free nx (ZEd _);have i:=Nm.put_sub f0 t';refine⟨_,i,hN.put _,?_,_,.sl _ _ _ _ _ _ (hr.mono i) hl (.inr (Nm.put_same _ _ _)),rfl⟩;cases t' with
 |tip b=>exact hS.new f0 ht (.tok _)
 |full=>exact hS.newFull f0 _
 |none=>exact ht.elim
theorem Zmg(hS:Sim C η σ s)(hN:Yr η nx){g:Option (Nat×Bool)}(hg:Zk ρ' g=sO true){e z b:Nat}{zd:List D}{x y:Opd}{p q:Prop}{dx dy:D}(hx:ZE ρ' true x=sO (p,.d dx))(hy:ZE ρ' true y=sO (q,.d dy))(hp:p)(hq:q){t n m:Nat}{τ:Tok}{row row2:Nat→List D}{rs rs2:List V}(hsl:ZbS z dx=sO (τ,n,row))(ht:t=0∨η t=sO τ)(hr:VRr η z rs row)(hl:rs.length=n)(hel:QI P s z dy m row2)(hr2:VRr η z rs2 row2)(hl2:rs2.length=m){r:R3}(h:Zqr z b σ nx t n m rs rs2=sO r)(hc:∀e s2,YT C η r e s2→DO F kp dk os (Zw ρ' dst e) L' s2):DO F kp dk (⟨dst,g,.append e z b zd x y⟩::os) ρ' L' s:=by
 obtain⟨hb,hh⟩:=Zz h;replace h:=hh;clear hh;simp at hb;split at h<;>simp at h;rename_i σ' hσ;subst h;obtain⟨s0,rfl,j,u⟩:=ZuV hS hN ht hσ;refine Ztu hg rfl hx hsl hy hp hq hel j hb.1 hb.2 fun t' i=>hc _ _ ?_;have:=hr.append hr2;rw[hl]at this;rw[Zgh hl];exact YT.tok u hN i this (by simp[hl,hl2])
theorem Zmf(hS:Sim C η σ s)(hN:Yr η nx){g:Option (Nat×Bool)}(hg:Zk ρ' g=sO true){e z b:Nat}{zd:List D}{x y:Opd}{p q:Prop}{dx dy:D}(hx:ZE ρ' true x=sO (p,.d dx))(hy:ZE ρ' true y=sO (q,.d dy))(hp:p)(hq:q){m:Nat}{row row2:Nat→List D}{rs2:List V}(hsl:ZbS z dx=sO (.full,0,row))(hm:0<m)(hel:QI P s z dy m row2)(hr2:VRr η z rs2 row2){r:R3}(h:Zqq z b σ nx m rs2=sO r)(hc:∀e s2,YT C η r e s2→DO F kp dk os (Zw ρ' dst e) L' s2):DO F kp dk (⟨dst,g,.append e z b zd x y⟩::os) ρ' L' s:=by
 obtain⟨hb,hh⟩:=Zz h;replace h:=hh;clear hh;simp at hb;split at h<;>(try(grind;done));rename_i cs j;obtain⟨g1,g2⟩:=hr2.flat j;refine ZwG hg rfl hx hsl hy hel hp hq hm hb.1 hb.2 fun c cap n i=>hc _ _ (YT.buf hS hN n g1 i ?_ h);have:=g1.len;have e1:m*z+(cap-m)*z=cap*z:=by rw[←ZEo];congr 1;omega
 simp_all
theorem ZuI{cs:List D}{o:Nat}{xs:List D}:Zt cs o xs=cs.take o++xs++cs.drop (o+xs.length):=rfl
theorem ZqW(hS:Sim C η σ s)(hN:Yr η nx){g:Option (Nat×Bool)}(hg:Zk ρ' g=sO true){e z bt:Nat}{zd:List D}{x y:Opd}{p q:Prop}{dx dy:D}(hx:ZE ρ' true x=sO (p,.d dx))(hy:ZE ρ' true y=sO (q,.d dy))(hp:p)(hq:q){k o n m:Nat}{cap:Option Nat}{z':Nat}{row2:Nat→List D}{rs2:List V}(hv:VR η (.msl k o n cap z') dx)(hel:QI P s z dy m row2)(hr2:VRr η z rs2 row2){mu:Bool}{r:R3}(h:ZwL mu z bt σ nx (.msl k o n cap z') m rs2=sO r)(hc:∀e s2,YT C η r e s2→DO F kp dk os (Zw ρ' dst e) L' s2):DO F kp dk (⟨dst,g,.append e z bt zd x y⟩::os) ρ' L' s:=by
 obtain⟨hb,hh⟩:=Zz h;replace h:=hh;clear hh;simp at hb;obtain⟨⟨rfl,af⟩,ab⟩:=hb;split at h<;>(try(simp at h;done));rename_i am ah;obtain⟨g1,g2⟩:=hr2.flat ah;have ac:((ZEa m).flatMap row2).length=m*z':=by rw[←g1.len,g2]
 cases hv with
 |gsl _ b _ _ cap' _ c hb h2 hcap hlc =>
  simp only at h;split at h<;>(try(simp at h;done));rename_i cs u;obtain⟨ho,hh⟩:=Zz h;replace h:=hh;clear hh;rw[Z2]at ho;subst ho;split at h<;>(try(simp at h;done));rename_i c1 ad;obtain⟨t1,rfl⟩:=JN ad;obtain⟨b',d,e0,e1,e2⟩:=hS.get u (fun n=>by simp);rw[hb]at e0;cases e0;cases e2 with
  |buf _ ds ex hds hce =>
   rw[h2]at hce;cases hce;have hl:=hds.len;have ag:(cs.take (n*z')).length=n*z':=by rw[ZEh];omega
   rw[Zgh ag]at h;have hnc:n*z'≤cap'*z':=ZEi _ hcap;have ak:(n+m)*z'=n*z'+m*z':=ZEo _ _ _;have al:VRs η (cs.take (n*z')++am) ((ds++ex).take (n*z')++(ZEa m).flatMap row2):=by rw[List.take_append_of_le_length (by omega)];exact(hds.take _).append g1
   refine ZnE hg rfl hx hy hp hq (Jc e1) (by omega) hel (fun j=>⟨rfl,?_⟩) af ab (fun j=>?_) (fun c i _ ae t=>?_);have:=ZEi z' j;omega;rw[ZuI];refine hc _ _ (YT.bufMove hS hN u hb rfl al j ?_ h);simp at hlc⊢;omega;have aj:part (ds++ex) 0 (n*z')=(ds++ex).take (n*z'):=by simp[part]
   refine hc _ _ (YT.buf (hS.forget k) hN ae al t ?_ h);have e1:(n+m)*z'+(i-(n+m))*z'=i*z':=by rw[←ZEo];congr 1;omega
   simp[ac]at hlc⊢;omega
 |msl _ b _ _ cap _ hb =>
  simp only at h;split at h<;>(try(simp at h;done));rename_i cs u;obtain⟨ds,ex,e1,e2⟩:=hS.cells (vs:=cs) (by rw[u];rfl) hb;have hl:=e2.len;have ak:(n+m)*z'=n*z'+m*z':=ZEo _ _ _;split at h;rename_i j;rw[JW]at j;obtain⟨ho,hh⟩:=Zz h;replace h:=hh;clear hh;rw[Z2]at ho;subst ho;split at h<;>simp at h;rename_i cs' ai;subst h;obtain⟨f0,f1,f2⟩:=e2.over g1 ai;refine ZnE hg rfl hx hy hp hq (Jc e1) (by simp;omega) hel (fun _=>⟨rfl,by simp;omega⟩) af ab (fun _=>?_) (fun c i hlt _ _=>by omega);rw[ZkU (by rw[ac];omega)];exact hc _ _ (YT.turn hS hN u hb (.cells _ _ _ f2) (.msl _ _ _ _ _ _ hb));rename_i j;have j:cap<n+m:=by have:¬n+m≤cap:=fun h=>j (JW.2 h);omega
  obtain⟨ho,hh⟩:=Zz h;replace h:=hh;clear hh;rw[JW]at ho;split at h<;>(try(simp at h;done));rename_i c1 ad;obtain⟨t1,rfl⟩:=JN ad;rw[QX]at h t1;have ag:((cs.drop o).take (n*z')).length=n*z':=by rw[ZEh];omega
  rw[Zgh ag]at h;have aj:part (ds++ex) o (n*z')=(ds.drop o).take (n*z'):=by simp only[part];rw[List.drop_append_of_le_length (by omega),List.take_append_of_le_length (by rw[ZEx];omega)]
  refine ZnE hg rfl hx hy hp hq (Jc e1) (by simp;omega) hel (fun h=>by omega) af ab (fun h=>by omega) (fun c i _ ae t=>?_);rw[aj];refine hc _ _ (YT.buf hS hN ae (((e2.drop o).take _).append g1) t ?_ h);have e1:(n+m)*z'+(i-(n+m))*z'=i*z':=by rw[←ZEo];congr 1;omega
  have:((ds.drop o).take (n*z')).length=n*z':=by rw[ZEh,ZEx];omega
  simp[ac];omega
theorem ZtS(hS:Sim C η σ s)(hN:Yr η nx)(hρ:Z5 η L ρ ρd){g:Option (Nat×Bool)}(hg:Zk ρ' g=sO true){e z b:Nat}{zd:List D}{x y:Opd}{mu db:Bool}{r:R3}(h:(opF mu db (.append e z b zd x y)).run ρ σ nx=sO r)(hag:ZA ρd ρ' (ZS x++ZS y))(hc:∀e s2,YT C η r e s2→DO F kp dk os (Zw ρ' dst e) L' s2):DO F kp dk (⟨dst,g,.append e z b zd x y⟩::os) ρ' L' s:=by
 obtain⟨xv,hx,hh⟩:=Wr h;replace h:=hh;clear hh;obtain⟨yv,hy,hh⟩:=Wr h;replace h:=hh;clear hh;split at h<;>(try(grind;done));rename_i m rs2 u;obtain⟨p,dx,a1,a2,a3⟩:=Wp hρ hx (fun t ht=>hag t (by simp[ht]));obtain⟨q,dy,b1,b2,b3⟩:=Wp hρ hy (fun t ht=>hag t (by simp[ht]));obtain⟨row2,j,i,ab⟩:=Zy2 (P:=P) hS b3 u;cases a3<;>(try(cases h;done));case nilsl =>simp only[ZwL]at h;split at h;rename_i hm;simp at hm;exact Zmf hS hN hg a1 b1 a2 b2 rfl (by omega) j i h hc;exact Zmg hS hN hg a1 b1 a2 b2 rfl (.inr hN.o) (.nil _ _) rfl j i ab h hc
 case sl t n z' rs τ row h1 h2 h3 =>obtain⟨hz,hh⟩:=Zz h;replace h:=hh;clear hh;rw[Z2]at hz;subst hz;split at h;rename_i hm;simp at hm;obtain⟨⟨⟨_,hm⟩,rfl⟩,rfl⟩:=hm;have hτ:=h3.resolve_left (by omega);rw[hN.o]at hτ;cases hτ;exact Zmf (row:=row) hS hN hg a1 b1 a2 b2 (by simp[ZbS]) (by omega) j i h hc;exact Zmg hS hN hg a1 b1 a2 b2 (by simp[ZbS]) h3 h1 h2 j i ab h hc
 case msl k b' o n cap z' hb=>exact ZqW hS hN hg a1 b1 a2 b2 (.msl _ _ _ _ _ _ hb) j i h hc
 case gsl k b' o n cap z' c hb h2 hcap hl0=>exact ZqW hS hN hg a1 b1 a2 b2 (.gsl _ _ _ _ _ _ _ hb h2 hcap hl0) j i h hc
theorem Zw1(hS:Sim C η σ s)(hN:Yr η nx)(hρ:Z5 η L ρ ρd){g:Option (Nat×Bool)}(hg:Zk ρ' g=sO true){len n:Nat}{z:List D}{is:List Nat}{mu db:Bool}{r:R3}(h:(opF mu db (.bsl len n z is xs)).run ρ σ nx=sO r)(hag:ZA ρd ρ' (ZaO xs))(hmu:(mu&&db&&Nat.ble 1 len)=true)(hc:∀e s2,YT C η r e s2→DO F kp dk os (Zw ρ' dst e) L' s2):DO F kp dk (⟨dst,g,.bsl len n z is xs⟩::os) ρ' L' s:=by
 simp only[opF]at h;cases hz:ofDs z<;>simp only[hz,reduceCtorEq]at h;split at h<;>(try(grind;done));rename_i vs j;obtain⟨hp,hh⟩:=Zz h;replace h:=hh;clear hh;rw[hmu,if_pos rfl]at h;split at h<;>simp at h;rename_i cs i;subst h;simp at hp hmu;obtain⟨p,ds,a1,a2,a3⟩:=Zal hρ j;rw[←WO hag]at a1;obtain⟨g1,g2⟩:=Zlw (is:=is) (ofDs_ok hz) hp.2 a3 hp.1 len 0;obtain⟨g3,g4⟩:=g1.flat i;simp at g3;exact ZsE hg rfl a1 (Zaq ds) a2 (ZiN a3 hp.1) hmu.2 fun b hb=>hc _ _ (YT.new hS hN hb (OR.cells0 (g3.mono (Nm.put_sub (hN.free nx (ZEd _)) _))) (.msl _ _ _ _ _ _ (Nm.put_same _ _ _)))
end
section
variable {C:Px} {η:Nm} {σ:S} {s:St} {L:Loc} {ρ:T W} {ρd:Env} {nx:Nat}
variable {P:Program} {F:Fr P} {kp:Option (List Nat)} {dk:List Zh} {os:List DOp} {ρ':Env} {L':Loc}
theorem Zvw(hS:Sim C η σ s)(hN:Yr η nx)(hρ:Z5 η L ρ ρd){g:Option (Nat×Bool)}{k:K}(hg:Zk ρ' g=sO true)(hgk:(gk k ||g.isNone)=true)(hk:YB k=false)(hf:ZiH k=true){mu:Bool}{r:R3}(h:(opF mu dst.isSome k).run ρ σ nx=sO r)(hag:ZA ρd ρ' (ZB ⟨dst,g,k⟩))(hc:∀e s2,YT C η r e s2→DO F kp dk os (Zw ρ' dst e) L' s2):DO F kp dk (⟨dst,g,k⟩::os) ρ' L' s:=by
 have hag:ZA ρd ρ' (Yk k):=fun t ht=>hag t (by simp[ZB,ht]);have i:gk k=false→g=nO:=fun hh=>by rw[hh,Bool.false_or]at hgk;cases g<;>simp_all
 cases k<;>simp only[YB,Bool.true_eq_false]at hk;case alloc z=>obtain rfl:=i rfl;exact Zvs hS hN h hc
 case box x=>obtain rfl:=i rfl;exact Zyx hS hN hρ h hag hc
 case store1 a v=>obtain rfl:=i rfl;exact ZtW hS hN hρ h hag hc
 case storeN n a v=>obtain rfl:=i rfl;exact ZtX hS hN hρ h hag hc
 case append e z b zd x y=>exact ZtS hS hN hρ hg h hag hc
 case mkmap=>obtain rfl:=i rfl;exact Zvv hS hN h hc
 case mapupd kp' m k v=>obtain rfl:=i rfl;exact ZtV hS hN hρ h hag hc
 case mapent kp' z m k=>obtain rfl:=i rfl;exact ZtU hS hN hρ h hag hc
 case entst m st v=>obtain rfl:=i rfl;exact Zvu hS hN hρ h hag hc
 case mkslice e n b z l c=>obtain rfl:=i rfl;exact Zsa hS hN hρ h hag hc
 case delete kp' m k=>obtain rfl:=i rfl;exact ZtT hS hN hρ h hag hc
 case clear n z x=>exact Zvt hS hN hρ hg h hag hc
 case fork k=>simp[ZiH]at hf
 all_goals simp[opF]at h
theorem ZzR{mu db:Bool}{k:K}(hk:YB k=true)(hb:(∃len n z is xs,k=.bsl len n z is xs∧(mu&&db&&Nat.ble 1 len)=true)→False){r:R3}(h:(opF mu db k).run ρ σ nx=sO r):(opF false db k).run ρ σ nx=sO r:=by
 cases k<;>simp only[YB,ZEq]at hk;case bsl len n z is xs =>
  have hm:(mu&&db&&Nat.ble 1 len)=false:=by cases hh:(mu&&db&&Nat.ble 1 len);rfl;exact(hb ⟨_,_,_,_,_,rfl,hh⟩).elim
  simp only[opF]at h⊢;cases hz:ofDs z<;>simp only[hz,reduceCtorEq]at h⊢;simp only[hm,ZEq,if_false]at h;simpa only[ZEu,ZEq,if_false]using h
 all_goals exact h
theorem Zl3(ρ:Env)(l:List Nat):ZA ρ ρ l:=fun _ _=>rfl
theorem ZAr(hS:Sim C η σ s)(hN:Yr η nx)(hρ:Z5 η L ρ ρd){g:Option (Nat×Bool)}{k:K}(hg:Zk ρd g=sO true)(hgk:(gk k ||g.isNone)=true)(hf:ZiH k=true){mu:Bool}{r:R3}(h:(opF mu dst.isSome k).run ρ σ nx=sO r)(hc:∀η' e s2,η.Sub η'→Yr η' r.nx→Sim C η' r.σ s2→WR η' L (.v r.v) e→DO F kp dk os (Zw ρd dst e) L s2):DO F kp dk (⟨dst,g,k⟩::os) ρd L s:=by
 have i:∀e s2,YT C η r e s2→DO F kp dk os (Zw ρd dst e) L s2:=fun e s2 hr=>by obtain⟨η',h1,h2,h3,d,h4,rfl⟩:=hr;exact hc η' _ s2 h1 h2 h3 ⟨d,h4,.inl rfl⟩
 cases hk:YB k with
 |false=>exact Zvw hS hN hρ hg hgk hk hf h (Zl3 _ _) i
 |true =>by_cases hb:∃len n z is xs,k=.bsl len n z is xs∧(mu&&dst.isSome&&Nat.ble 1 len)=true;obtain⟨len,n,z,is,xs,rfl,hm⟩:=hb;exact Zw1 hS hN hρ hg h (Zl3 _ _) hm i;obtain⟨e1,e2,side,e,e3,e4,e5⟩:=Zo9 (L:=L) hS hN.o hρ hg hk (ZzR hk hb h);exact Qg e4 e3 (hc η e s (Nm.Sub.refl _) (by rw[e2];exact hN) (by rw[e1];exact hS) e5)
end
theorem T.get_lt{α:Type}{t:T α}{k:Nat}{a:α}(h:t.get k=sO a):k<32768:=by
 unfold T.get T.getF at h;cases hb:Nat.blt k 32768 with
 |false=>rw[hb]at h;grind
 |true=>simpa using hb
theorem QZ{ρ:Env}{t:Nat}{e:E}(he:ZM ρ t=sO e):∀{ks:List Nat},t∈ks→ZM (Yj ρ ks) t=sO e
 | [],h=>by grind
 |k::ks,h=>by
  simp[Yj];by_cases hk:k=t;subst hk;simp[he,ZM];have ht:t∈ks:=by simpa[Ne.symm hk]using h
  split;simp[ZM,hk];exact QZ he ht;exact QZ he ht
theorem Zer{t:Nat}{e:E}(hl:WU e=[]):∀{ρ:Env},ZM ρ t=sO e→ZM (Qy ρ) t=sO e
 | [],h=>by cases h
 | (k,x)::r,h=>by simp[ZM]at h;simp[Qy];by_cases hk:k=t;simp[hk]at h;subst h;simp[hl,ZM,hk];simp[hk]at h;split;simp[ZM,hk];exact Zer hl h;exact Zer hl h
section
variable {η:Nm} {L:Loc} {ρ:T W} {ρd:Env}
theorem WR.locs{w:W}{e:E}(h:WR η [] w e)(hl:live [] w=true):WU e=[]:=by
 cases w with
 |v x =>obtain⟨d,_,rfl|rfl⟩:=h<;>rfl
 |loc l o=>cases hl
 |skip =>have h':e=.when false (.d (.bool false)):=h;subst h';rfl
theorem Z5.keep(h:Z5 η L ρ ρd):Z5 η L ρ (Yj ρd ZnK):=fun t w hw hl=>by
 obtain⟨e,h1,h2⟩:=h t w hw hl;exact⟨e,QZ h1 (List.mem_range.2 (T.get_lt hw)),h2⟩
theorem Z5.round(h:Z5 η [] ρ ρd):Z5 η [] ρ (WG ZnK ρd):=fun t w hw hl=>by
 obtain⟨e,h1,h2⟩:=h.keep t w hw hl;exact⟨e,Zer (h2.locs hl) h1,h2⟩
theorem Z5.nil:Z5 η L T.nil ρd:=fun t w hw=>by simp[T.get_nil]at hw
theorem Z5.set(h:Z5 η L ρ ρd){v:V}{d:D}(hv:VR η v d)(t:Nat):Z5 η L (ρ.set (sO (.v v)) t) ((t,.d d)::ρd):=fun t' w hw hl=>by
 rcases T.get_set hw with ⟨rfl,h1⟩|⟨i,h1⟩;cases h1;exact⟨.d d,by simp[ZM],d,hv,.inl rfl⟩;obtain⟨e,h2,h3⟩:=h t' w h1 hl;exact⟨e,by simp[ZM];rw[if_neg (Ne.symm i)];exact h2,h3⟩
theorem Zpc:∀{ts:List Nat} {vs:List V} {ds:List D} {ρ:T W} {ρd:Env},Z5 η L ρ ρd→VRs η vs ds→Z5 η L (ZeD ts vs ρ) (Ws ts ds ρd)
 | [],_,_,_,_,h,_=>by simpa[ZeD,Ws]using h
 |_::_,[],_,_,_,h,hv=>by cases hv;simpa[ZeD,Ws]using h
 |t::ts,v::vs,_,_,_,h,hv=>by obtain⟨d,ds,rfl,h1,h2⟩:=hv.inv;exact Zpc (ts:=ts) (h.set h1 t) h2
theorem Zo0:∀{vs:List V} {i:Nat} {ρ:T W} {t:Nat} {w:W},(Zmz i vs ρ).get t=sO w→(∃j v,t=i+j∧vs[j]?=sO v∧w=.v v)∨ρ.get t=sO w
 | [],i,ρ,t,w,h=>.inr h
 |v::vs,i,ρ,t,w,h=>by rcases Zo0 (vs:=vs) (i:=i+1) h with ⟨j,v',rfl,h1,h2⟩|h1;exact .inl ⟨j+1,v',by omega,by simpa using h1,h2⟩;rcases T.get_set h1 with ⟨rfl,h2⟩|⟨_,h2⟩;simp at h2;exact .inl ⟨0,v,rfl,rfl,h2.symm⟩;exact .inr h2
theorem ZkE:∀{ds:List D} {i j:Nat} {d:D},ds[j]?=sO d→ZM (KL i ds) (i+j)=sO (.d d)
 | [],i,j,d,h=>by grind
 |x::ds,i,0,d,h=>by cases h;simp[KL,ZM]
 |x::ds,i,j+1,d,h=>by have:=ZkE (ds:=ds) (i:=i+1) (j:=j) (by simpa using h);simp only[KL,ZM];rw[if_neg (by omega),show i+(j+1)=i+1+j by omega];exact this
theorem ZvI{vs:List V}(hv:VRs η vs ds):Z5 η L (Zmz 0 vs T.nil) (KL 0 ds):=fun t w hw _=>by
 rcases Zo0 hw with ⟨j,v,rfl,h1,rfl⟩|h;obtain⟨d,h2,h3⟩:=hv.get h1;exact⟨.d d,ZkE h2,d,h3,.inl rfl⟩;simp[T.get_nil]at h
end
end Go.DL
