/- Lemmas: W24, W25, W26, W27, V01, V02, W28, W29, W30, W31, W32, W33, W34, W35, W36, W37, X04, X05, W38, W39, W40, W41, W42, W43, W44, W45, W46, W47, W48, W49, W50, X11, X12, X13, X02, Y01, Z14, Z15, Z16, Z17, Z07, Z08, Z18, Z01, Z02, Z03, Z04, Z19, Z20, Z21, Z22, Z23. -/
import Derived.Test.YtnkifankoijebaaGreatDoorT04
set_option maxHeartbeats 16000000
set_option maxRecDepth 100000
set_option linter.all false
open List renaming length->I
open Option renaming some -> sO, none -> nO
open Inhabited renaming default -> dE
open Decidable renaming decide -> dC
open Go.Proofs.Tryz
open And renaming intro -> ZHZ
open Bool renaming and_eq_true -> ZH1, false_and -> ZIl, or_eq_true -> ZId, true_and -> ZIf
open Go.DL.D.Le renaming refl -> ZHT
open Go.DL.St renaming single -> ZIk, sub_refl -> ZHU, sub_trans -> ZIu, sub_upd -> ZIg, upd_ne -> ZH0, upd_same -> ZHW, upd_upd -> ZH7
open Go.DL.Val renaming cells_eq -> ZIe
open Go.Proofs.Tryz renaming prog -> ZHP
open Int renaming reduceEq -> ZIt, reduceToNat -> ZHV
open List renaming append_assoc -> ZIh, append_nil -> ZIj, getD -> ZH6, getElem?_append_right -> ZIw, getElem?_eq_getElem -> ZIn, getElem?_eq_none -> ZIz, getElem?_take -> ZIv, getElem_of_mem -> ZIc, length_append -> ZHX, length_cons -> ZH3, length_drop -> ZIq, length_map -> ZH4, length_take -> ZIa, map_cons -> ZIo, mem_cons -> ZIs, range -> ZH5, take_length -> ZIb
open Nat renaming add_mul -> ZIp, le_refl -> ZH9, le_trans -> ZIy, mul_le_mul_right -> ZIi, reduceAdd -> ZHY, reduceEqDiff -> ZHR, reduceLeDiff -> ZHS
open Option renaming getD_some -> ZIr
open Option.some renaming injEq -> ZHQ
namespace Go.DL
open Go Go.Proofs
variable {kp:Option (List Nat)}{L:Loc}{H:Env}{s:St}{w:World}{os:List DOp}{ds:List D}{B:List (Nat × Rd)}{dst:Option Nat}{tmps:Array Value}{g:G}{Φ:Res->St->Prop}{Z:Nat->Nat}{xs:List Opd}{side:Prop}{row:Nat->List D}
def Zs(d:Dfn)(s:Str):Msg:=d.msgs.getD (ixS d s) dE
def Ky(f:Fld)(x:Val)(b:Int):Int :=
 if f.kind=1\/f.kind=2 then b+f.bits
 else if f.kind=3 then b+8*(Z5 x.int.toNat+1:Nat)
 else if f.kind=4 then b+8*I x.bytes
 else if f.kind=5 then b+8*I x.bytes+8
 else if f.kind=6 then b+8*(Qf x.hdrs).length
 else if f.kind=10 then upS b f.bits
 else if f.kind=11 then b+Wm f.check
 else b
def YL(rec:Val->Int):List Val->Int->Int
 | [],b=>b
 |y::r,b=>YL rec r (b+8*rec y)
def Ws(rec:Val->Int):List Fld->List Val->Int->Int
 | [],_,b=>b
 |f::r,ps,b=>if YD f then Ws rec r (ps.drop 1) (YL rec (ps.getD 0 dE).parts (Ky f (ps.getD 0 dE) b)) else Ws rec r ps (Ky f dE b)
def lenS(d:Dfn):Nat->Msg->Val->Int
 |0,_,_=>0
 |n+1,m,v=>(Ws (λy=>lenS d n (Zs d y.name) y) m.fields v.parts 0).tdiv 8
structure FOk(f:Fld):Prop where
 num:f.kind=1\/f.kind=2->0<=f.bits/\f.bits<=600
 pad:f.kind=10->Zci f.bits=true
 chk:f.kind=11->f.check=1\/f.check=2\/f.check=3
structure MOk(m:Msg):Prop where
 few:I m.fields<=40
 fld:∀f∈m.fields,FOk f
def Zbx{n}(h:Zci n=true):2<=n/\n<=512:=by
 unfold Zci at h;simp only[ZId,ZH1,decide_eq_true_eq]at h;omega
def ZoX(l):(Qf l).length=Jp l+4*I l+2:=by
 unfold Qf;rw[ZHX];have:(l.flatMap ZgT).length=Jp l+4*I l:=by
  induction l with
  |nil=>rfl
  |cons h r ih=>rw[List.flatMap_cons,ZHX,ih];simp only[ZgT,Jp,ZHX,ZH3,List.length_nil];omega
 rw[this];rfl
def Zk6(v):Z5 v<=4:=by
 unfold Z5
 repeat' split
 all_goals omega
def ZbF{f x b}(hf:FOk f)(hb:0<=b)(hh:I x.hdrs<=100):b<=Ky f x b/\Ky f x b<=b+600+8*(I x.bytes+Jp x.hdrs:Nat)+3300:=by
 have h3:=Zk6 x.int.toNat;have h6:=ZoX x.hdrs;have hck:Wm f.check=32\/Wm f.check=16:=by unfold Wm;split<;>simp
 unfold Ky;by_cases r:f.kind=1\/f.kind=2;have:=hf.num r;rw[if_pos r];omega;rw[if_neg r];by_cases t:f.kind=3;rw[if_pos t];omega;rw[if_neg t];by_cases u:f.kind=4;rw[if_pos u];omega;rw[if_neg u];by_cases c5:f.kind=5;rw[if_pos c5];omega;rw[if_neg c5];by_cases c6:f.kind=6;rw[if_pos c6];omega;rw[if_neg c6];by_cases i:f.kind=10;rw[if_pos i];have h1:=Zbx (hf.pad i);have h2:=(JB hb (show 1<=f.bits by omega)).1;omega;rw[if_neg i];by_cases o:f.kind=11;rw[if_pos o];omega;rw[if_neg o];omega
def Qz{rec}:∀{l b},(∀y∈l,0<=rec y/\8*rec y<=20000*(wtN y:Int))->b<=YL rec l b/\YL rec l b<=b+20000*(wtL l:Int)
 | [],b,_=>by simp[YL,wtL]
 |y::r,b,h=>by have h1:=h y ψ;have h2:=Qz (rec:=rec) (l:=r) (b:=b+8*rec y) λz i=>h z (by simp[i]);simp only[YL,wtL];omega
def Q5{rec}:∀{l ps b},(∀f∈l,FOk f)->0<=b->(∀x∈ps,I x.hdrs<=100/\∀y∈x.parts,0<=rec y/\8*rec y<=20000*(wtN y:Int)) ->
  b<=Ws rec l ps b/\Ws rec l ps b<=b+600*(I l:Int)+3300*(I l:Int)+20000*(wtL ps:Int)
 | [],ps,b,_,hb,_=>by simp only[Ws,List.length_nil];omega
 |f::r,ps,b,hf,hb,hp=>by
  have i:=hf f ψ;have o:∀g∈r,FOk g:=λg hg=>hf g (by simp[hg]);simp only[Ws,ZH3];split
  .cases ps with
   |nil =>have t:=ZbF (x:=dE) i hb (by simp[show(dE:Val).hdrs=[] from rfl]);have e1:(dE:Val).bytes.length=0:=rfl;have e2:Jp (dE:Val).hdrs=0:=rfl;have h2:=Q5 (rec:=rec) (l:=r) (ps:=[]) (b:=Ky f dE b) o ω (λx u=>by simp at u);rw[show Ws rec r (List.drop 1 []) (YL rec (([]:List Val).getD 0 dE).parts (Ky f (([]:List Val).getD 0 dE) b))=Ws rec r [] (Ky f dE b) from rfl];rw[e1,e2]at t;simp only[wtL]at h2⊢;omega
   |cons x q =>have u:=hp x ψ;have t:=ZbF i hb u.1;have h3:=Qz (b:=Ky f x b) u.2;have h2:=Q5 (rec:=rec) (l:=r) (ps:=q) (b:=YL rec x.parts (Ky f x b)) o ω (λz hz=>hp z (by simp[hz]));have hw:=JT x;rw[show Ws rec r ((x::q).drop 1) (YL rec ((x::q).getD 0 dE).parts (Ky f ((x::q).getD 0 dE) b))=Ws rec r q (YL rec x.parts (Ky f x b)) from rfl];simp only[wtL];omega
  have t:=ZbF (x:=dE) i hb (by simp[show(dE:Val).hdrs=[] from rfl]);have e1:(dE:Val).bytes.length=0:=rfl;have e2:Jp (dE:Val).hdrs=0:=rfl;rw[e1,e2]at t;have h2:=Q5 (rec:=rec) (l:=r) (ps:=ps) (b:=Ky f dE b) o ω hp;omega
def DOk(d:Dfn):Prop:=∀m∈d.msgs,MOk m
def DOk.of{d}(h:DOk d)(s):MOk (Zs d s):=by
 unfold Zs;by_cases i:ixS d s<I d.msgs;exact h _ (Zr i);rw[show d.msgs.getD (ixS d s) dE=dE by simp[ZH6,ZIz (Nat.le_of_not_lt i)]];exact⟨by decide,λf o=>by simp[show(dE:Msg).fields=[] from rfl]at o⟩
def YA{v x}(h:Yz v=true)(i:x∈v.parts):Yz x=true:=by
 rw[ZfG,ZH1,ZeY]at h;exact List.all_eq_true.1 h.1 x i
def Kw{v}(h:Yz v=true):JM v=true:=by
 rw[ZfG,ZH1]at h;exact h.2
def ZbL{d}(o:DOk d):∀(n m v),MOk m->Yz v=true->0<=lenS d n m v/\8*lenS d n m v<=20000*(wtN v:Int)
 |0,m,v,_,_=>by simp only[lenS];omega
 |n+1,m,v,hm,hv=>by
  have h1:=Q5 (rec:=λy=>lenS d n (Zs d y.name) y) (l:=m.fields) (ps:=v.parts) (b:=0) hm.fld ω λx r=>by have i:=YA hv r;exact⟨(KY (Kw i)).2.2.2.1,λy u=>ZbL o n (Zs d y.name) y (o.of _) (YA i u)⟩
  have h2:=JT v;have h3:=hm.few;simp only[lenS];generalize Ws (λy=>lenS d n (Zs d y.name) y) m.fields v.parts 0=t at *;rw[Int.tdiv_eq_ediv_of_nonneg ω];omega
structure XOk(f:Fld)(x:Val):Prop where
 unused:WH f.kind x=false
 vint:f.kind=3->0<=x.int/\x.int<34359738368
 hdrs:f.kind=6->W0 x.hdrs=true/\Zbc x.hdrs
def J5(d:Dfn):Nat->Msg->Val->Prop
 |0,_,_=>False
 |n+1,m,v=>(vfs m.fields).length=I v.parts/\∀k,k<I v.parts->XOk ((vfs m.fields).getD k dE) (v.parts.getD k dE)/\∀y∈(v.parts.getD k dE).parts,0<=Zm d y.name (I d.msgs)/\J5 d n (Zs d y.name) y
def Zb9{l i k}(t:k=(vfs (l.take i)).length)(r:i<I l)(u:YD (l.getD i dE)=true):k<(vfs l).length/\(vfs l).getD k dE=l.getD i dE:=by
 have o:=ZqR r;rw[if_pos u]at o;refine⟨by rw[o];simp;omega,?_⟩;rw[o,t];simp[ZH6]
def Zza{b c n}(t:1<=n)(r:0<=b)(h1:b<=c)(h2:c<=upS b n)(i:c.tmod n=0):c=upS b n:=by
 obtain⟨⟨_,hlt⟩,hm,_⟩:=JB r t;rw[Int.tmod_eq_emod_of_nonneg ω]at i;have o:(upS b n-c) % n=0:=by rw[Int.sub_emod,hm,i];simp
 rw[Int.emod_eq_of_lt ω ω]at o;omega
def Zzb{b c n}(r:1<=n)(o:0<=b)(h1:b<=c)(h2:c<=upS b n)(i:¬c.tmod n=0):c+1<=upS b n:=by
 obtain⟨_,hm,_⟩:=JB o r;have hne:c≠upS b n:=λe=>i (by rw[e,Int.tmod_eq_emod_of_nonneg ω];exact hm);omega
def Zom(d)(hd:DOk d)(hmsg:I d.msgs<=1000)(n i0)(hi0:i0<I d.msgs)(v)(hv:Yz v=true)(hw:wtN v<=5100)(hL:J5 d (n+1) (d.msgs.getD i0 dE) v)(ih:∀x∈v.parts,∀y∈x.parts,Zc ZHP 79 [.agg d.cells,.i (Zm d y.name (I d.msgs)),.agg y.cells] (.i (lenS d n (Zs d y.name) y))):
  Zc ZHP 79 [.agg d.cells,.i i0,.agg v.cells] (.i (lenS d (n+1) (d.msgs.getD i0 dE) v)):=by
 refine Ze (cR 79 f79) λF st a4=>?_;have hm:MOk (d.msgs.getD i0 dE):=hd _ (Zr hi0);generalize bk:d.msgs.getD i0 dE=m at *;obtain⟨a1,hX⟩:=hL;have hrec:∀x∈v.parts,I x.hdrs<=100/\∀y∈x.parts,0<=lenS d n (Zs d y.name) y/\8*lenS d n (Zs d y.name) y<=20000*(wtN y:Int):=λx hx =>
  ⟨(KY (Kw (YA hv hx))).2.2.2.1,λy hy=>ZbL hd n _ y (hd.of _) (YA (YA hv hx) hy)⟩
 obtain⟨rec,ak⟩:∃rec:Val->Int,rec=λy=>lenS d n (Zs d y.name) y:=⟨_,rfl⟩;have hS:lenS d (n+1) m v=(Ws rec m.fields v.parts 0).tdiv 8:=by rw[ak];rfl
 have u:∀x∈v.parts,I x.hdrs<=100/\∀y∈x.parts,0<=rec y/\8*rec y<=20000*(wtN y:Int):=by rw[ak];exact hrec
 have bx:∀x∈v.parts,∀y∈x.parts,Zc ZHP 79 [.agg d.cells,.i (Zm d y.name (I d.msgs)),.agg y.cells] (.i (rec y)):=by rw[ak];exact ih
 have hT:=Q5 (rec:=rec) (l:=m.fields) (ps:=v.parts) (b:=0) hm.fld ω u;have hwn:=JT v;have hfew:=hm.few;generalize be:Ws rec m.fields v.parts 0=T at *;clear hrec ih ak;generalize lenS d (n+1) m v=LV at *;rw[ZIe];refine rx @eQ2 ?_;refine xA (nd2 @atM (nd2 @bk @eQ3)) ?_;refine gG ?_;refine Zb (fr (I m.fields) (λi Q=>∀(b:Int) (k:Nat),i<=I m.fields->k=(vfs (m.fields.take i)).length->0<=b->b<=T->Ws rec (m.fields.drop i) (v.parts.drop k) b=T->Q [(3,.loc 3 0),(5,.loc 5 0),(7,.loc 7 0),(8,.d (.i b)),(9,.d (.i k)),(10,.d (.i i))] [(3,[.str d.name,Z0 d.msgs,.str d.start]),(5,[.str v.name,.i v.int,Zg v.bytes,Zx v.hdrs,Zu v.parts]),(7,[.str m.name,Zp m.fields])] st) (λn ao=>?_) λbz=>?_)
 .intro i hn b k hi hk ai hbT t;refine rx @ZaI ?_;refine cd (λh1=>?_) (λh1=>?_)
  .simp at h1;have bg:m.fields.getD i dE∈m.fields:=Zr h1;have ay:=hm.fld _ bg;have a0:=λhh=>Zb9 hk h1 hh;have ac:=ZcC h1;rw[Yf h1]at t;simp only[Ws]at t;generalize hf:m.fields.getD i dE=f at *;refine xA (nd2 @atF (nd2 @hf (nd2 @QL @Zau))) ?_;refine rg ?_;refine rx (nd2 @QL @Zau) ?_;refine cl (JO f) ?_;refine jU [0,1,1] (λQ=>∀(x:Val) (k:Nat),k=(vfs (m.fields.take (i+1))).length->Ws rec (m.fields.drop (i+1)) (v.parts.drop k) (YL rec x.parts (Ky f x b))=T->(f.kind=3->0<=x.int/\x.int<34359738368)->(f.kind=6->W0 x.hdrs=true/\Zbc x.hdrs)->I x.hdrs<=100->I x.bytes<=1048576->I x.parts<=5000->(∀y∈x.parts,0<=rec y/\8*rec y<=20000*(wtN y:Int))->(∀y∈x.parts,Zc ZHP 79 [.agg d.cells,.i (Zm d y.name (I d.msgs)),.agg y.cells] (.i (rec y)))->Q F [(3,.loc 3 0),(5,.loc 5 0),(7,.loc 7 0),(8,.d (.i b)),(9,.d (.i k)),(10,.d (.i i)),(11,.loc 11 0),(12,.loc 12 0)] [(3,[.str d.name,Z0 d.msgs,.str d.start]),(5,[.str v.name,.i v.int,Zg v.bytes,Zx v.hdrs,Zu v.parts]),(7,[.str m.name,Zp m.fields]),(11,f.cells),(12,[.str x.name,.i x.int,Zg x.bytes,Zx x.hdrs,Zu x.parts])] st) ?_ λap=>?_;clear t hk a0 ac;intro x k hk t al am bq hxb bv ad ax;have hA:=ZbF (x:=x) ay ai bq;have hP:=Qz (rec:=rec) (l:=x.parts) (b:=Ky f x b) ad;have hB:=Q5 (rec:=rec) (l:=m.fields.drop (i+1)) (ps:=v.parts.drop k) (b:=YL rec x.parts (Ky f x b)) (λg hg=>hm.fld g (List.mem_of_mem_drop hg)) ω (λz hz=>u z (List.mem_of_mem_drop hz));have o:=Ky.eq_1 f x b;refine jU [0,0,1] (λQ=>∀c:Int,c=Ky f x b->Q F [(3,.loc 3 0),(5,.loc 5 0),(7,.loc 7 0),(8,.d (.i c)),(9,.d (.i k)),(10,.d (.i i)),(12,.loc 12 0)] [(3,[.str d.name,Z0 d.msgs,.str d.start]),(5,[.str v.name,.i v.int,Zg v.bytes,Zx v.hdrs,Zu v.parts]),(7,[.str m.name,Zp m.fields]),(12,[.str x.name,.i x.int,Zg x.bytes,Zx x.hdrs,Zu x.parts])] st) ?_ λfin=>?_;clear o;intro c hc;rw[<-hc]at hA hP hB t;refine rg ?_;refine Zb (fr (I x.parts) (λj Q=>∀e:Int,0<=e->e<=T->YL rec (x.parts.drop j) e=YL rec x.parts c->j<=I x.parts->Q [(3,.loc 3 0),(5,.loc 5 0),(7,.loc 7 0),(8,.d (.i e)),(9,.d (.i k)),(10,.d (.i i)),(12,.loc 12 0),(14,.d (.i j))] [(3,[.str d.name,Z0 d.msgs,.str d.start]),(5,[.str v.name,.i v.int,Zg v.bytes,Zx v.hdrs,Zu v.parts]),(7,[.str m.name,Zp m.fields]),(12,[.str x.name,.i x.int,Zg x.bytes,Zx x.hdrs,Zu x.parts])] st) (λn ah=>?_) λbc=>?_);intro j hnj e he0 heT ab hj;refine rx @KN ?_;refine cd (λg1=>?_) (λg1=>?_);simp at g1;have a9:x.parts.getD j dE∈x.parts:=Zr g1;have hyr:=ad _ a9;have a8:=ax _ a9;have bw:=YX (l:=x.parts) (i:=j) g1;rw[Yf g1]at ab;simp only[YL]at ab;have hPj:=Qz (rec:=rec) (l:=x.parts.drop (j+1)) (b:=e+8*rec (x.parts.getD j dE)) λz hz=>ad z (List.mem_of_mem_drop hz);rw[ZIe]at a8;generalize x.parts.getD j dE=y at *;generalize rec y=ry at *;refine xA (nd2 @atV (nd2 @bw @ZeU)) ?_;refine clD (WG d y.name (I d.msgs) (ZH9 _)) ?_;refine clD (a8) ?_;refine aa ?_;refine gA ?_;refine Za ?_;exact ah ((I x.parts)-(j+1)) ω (j+1) rfl (e+8*ry) ω ω ab ω;simp at g1;obtain rfl:j=I x.parts:=ω;rw[List.drop_eq_nil_of_le (ZH9 _)]at ab;simp only[YL]at ab;rw[<-ab]at t;refine gA ?_;refine Za ?_;exact ao ((I m.fields)-(i+1)) ω (i+1) rfl e k ω hk ω ω t;exact bc _ 0 rfl c ω ω rfl ω;refine rx @eQ0 ?_;refine rg ?_;refine cd (λc1=>?_) (λc1=>?_);rw[if_pos (by simp at c1;omega)]at o;refine Zo (Zj rfl trivial (λ_=>?_) (λh=>by rw[c1]at h;simp at h));refine xA @eQ0 ?_;refine Zi (Zd ?_);exact fin _ o.symm;refine rg ?_;refine cd (λc2=>?_) (λc2=>?_);rw[if_pos (by simp at c2;omega)]at o;refine xA @eQ0 ?_;refine Zi (Zd ?_);exact fin _ o.symm;rw[if_neg (by simp at c1 c2;omega)]at o;refine rg ?_;refine cd (λc3=>?_) (λc3=>?_);rw[if_pos (by simpa using c3)]at o;obtain⟨hv0,hv1⟩:=al (by simpa using c3);obtain⟨vn,a7⟩:∃vn:Nat,x.int=vn:=⟨x.int.toNat,ω⟩;rw[a7,Int.toNat_natCast]at o;have bp:vn<34359738368:=ω;have hg4:=Zk6 vn;have bn:Yc vn 0=vn:=by simp[Yc]
   have hq:x.int.tdiv 128=((Yc vn 1:Nat):Int):=by rw[a7,Int.tdiv_eq_ediv_of_nonneg ω,Qk,bn];omega
   have ae:∀c,Yc vn c<=vn:=λc=>by unfold Yc;exact Nat.div_le_self _ _
   refine gA ?_;refine rg ?_;refine⟨by decide,by rw[hq];have:=ae 1;omega,by rw[hq];have:=ae 1;omega,?_⟩;rw[hq,show b+8=b+8+8*((0:Nat):Int) by omega];refine Zb (fr ((Z5 vn)) (λc Q=>c<=Z5 vn->Q [(3,.loc 3 0),(5,.loc 5 0),(7,.loc 7 0),(8,.d (.i (b+8+8*(c:Int)))),(9,.d (.i k)),(10,.d (.i i)),(12,.loc 12 0),(13,.d (.i ((Yc vn (c+1):Nat):Int)))] [(3,[.str d.name,Z0 d.msgs,.str d.start]),(5,[.str v.name,.i v.int,Zg v.bytes,Zx v.hdrs,Zu v.parts]),(7,[.str m.name,Zp m.fields]),(12,[.str x.name,.i x.int,Zg x.bytes,Zx x.hdrs,Zu x.parts])] st) (λn af=>?_) λba=>?_);intro c bl hc;have hi1:=ZmW bp (i:=c) ω;have hs1:=Qk vn c;have bo:=Qk vn (c+1);have hb1:=ae (c+1);refine rg ?_;refine cd (λg3=>?_) (λg3=>?_);have hlt:c<Z5 vn:=by simp at g3;omega
   have aw:(((Yc vn (c+1):Nat):Int)).tdiv 128=((Yc vn (c+1+1):Nat):Int):=by rw[Int.tdiv_eq_ediv_of_nonneg ω,bo];omega
   refine gA ?_;refine rg ?_;refine⟨by decide,by rw[aw];have:=ae (c+1+1);omega,by rw[aw];have:=ae (c+1+1);omega,?_⟩;rw[aw,show b+8+8*(c:Int)+8=b+8+8*((c+1:Nat):Int) by omega];refine Za ?_;exact af (((Z5 vn))-(c+1)) ω (c+1) rfl ω;have bf:c=Z5 vn:=by simp at g3;omega
   refine ZG rfl (Zi (Zd ?_));refine kE [3,5,7,8,9,10,12] ?_;exact fin (b+8+8*(c:Int)) (by rw[o,bf];omega);exact ba _ 0 rfl ω;rw[if_neg (by simpa using c3)]at o;refine rg ?_;refine cd (λc4=>?_) (λc4=>?_);rw[if_pos (by simpa using c4)]at o;refine xA @Wc ?_;refine Zi (Zd ?_);exact fin _ o.symm;rw[if_neg (by simpa using c4)]at o;refine rg ?_;refine cd (λc5=>?_) (λc5=>?_);rw[if_pos (by simpa using c5)]at o;refine xA @Wc ?_;refine Zi (Zd ?_);exact fin _ o.symm;rw[if_neg (by simpa using c5)]at o;refine rg ?_;refine cd (λc6=>?_) (λc6=>?_);rw[if_pos (by simpa using c6)]at o;obtain⟨bh,bi⟩:=am (by simpa using c6);refine rg ?_;refine cX @Wc (ZfL bh bi) ?_;refine aa ?_;refine Zi (Zd ?_);exact fin _ o.symm;rw[if_neg (by simpa using c6)]at o;refine rg ?_;refine cd (λar=>?_) (λar=>?_);have aq:f.kind=10:=by simpa using ar
   rw[if_pos aq]at o;have hpd:=Zbx (ay.pad aq);have hup:=JB ai (show 1<=f.bits by omega);refine Zb ?_;refine kE [3,5,7,8,9,10,11,12] ?_;rw[show b=b+((0:Nat):Int) by omega];refine fr (((upS b f.bits-b).toNat)) (λc Q=>b+c<=upS b f.bits->Q [(3,.loc 3 0),(5,.loc 5 0),(7,.loc 7 0),(8,.d (.i (b+(c:Int)))),(9,.d (.i k)),(10,.d (.i i)),(11,.loc 11 0),(12,.loc 12 0)] [(3,[.str d.name,Z0 d.msgs,.str d.start]),(5,[.str v.name,.i v.int,Zg v.bytes,Zx v.hdrs,Zu v.parts]),(7,[.str m.name,Zp m.fields]),(11,[.str f.name,.i f.kind,.i f.bits,.bool f.little,.bool f.loose,.i f.low,.i f.high,.i f.size.base,Z4 f.size.terms,.str f.of,.str f.tag,.str f.from_,Z2 f.cases,.i f.check,.i f.key]),(12,[.str x.name,.i x.int,Zg x.bytes,Zx x.hdrs,Zu x.parts])] st) (λn ag=>?_) λbb=>?_;intro c bl hc;have a2:(b+(c:Int)).tmod f.bits=(b+c) % f.bits:=Int.tmod_eq_emod_of_nonneg ω;have hm1:=Int.emod_nonneg (b+(c:Int)) (show f.bits≠0 by omega);have hm2:=Int.emod_lt_of_pos (b+(c:Int)) (show 0<f.bits by omega);refine rg ?_;refine⟨ω,by rw[a2];omega,by rw[a2];omega,?_⟩;refine cd (λg4=>?_) (λg4=>?_);have a6:=Zzb (b:=b) (c:=b+c) (n:=f.bits) ω ai ω hc (by simpa using g4);refine gA ?_;rw[show b+(c:Int)+1=b+((c+1:Nat):Int) by omega];refine Zi (Za ?_);exact ag ((((upS b f.bits-b).toNat))-(c+1)) ω (c+1) rfl ω;have a6:=Zza (b:=b) (c:=b+c) (n:=f.bits) ω ai ω hc (by simpa using g4);refine ZG rfl (Zi (Zd ?_));refine kE [3,5,7,8,9,10,12] ?_;exact fin (b+(c:Int)) (by rw[o,a6]);exact bb _ 0 rfl ω;rw[if_neg (by simpa using ar)]at o;refine rg ?_;refine cd (λau=>?_) (λau=>?_);rw[if_pos (by simpa using au)]at o;refine gA ?_;refine rx @eQ0 ?_;refine cd (λav=>?_) (λav=>?_);refine gA ?_;refine Zi (Zd ?_);exact fin (b+16+16) (by rw[o];unfold Wm;rw[if_pos (by simpa using av)];omega);refine Zo (Zi (Zd ?_));refine kE [3,5,7,8,9,10,12] ?_;exact fin (b+16) (by rw[o];unfold Wm;rw[if_neg (by simpa using av)]);rw[if_neg (by simpa using au)]at o;refine Zo (Zi (Zd ?_));refine kE [3,5,7,8,9,10,12] ?_;exact fin _ o.symm;refine cd (λhh=>?_) (λhh=>?_)
   .rw[if_pos hh]at t;obtain⟨aj,bj⟩:=a0 hh;rw[a1]at aj;have an:v.parts.getD k dE∈v.parts:=Zr aj;obtain⟨⟨hun,al,am⟩,bv⟩:=hX k aj;have a5:=YX (l:=v.parts) (i:=k) aj;have ad:=u _ an;have ax:=bx _ an;have bu:=YA hv an;have bt:=KY (Kw bu);have hxw:=ZpY an;have hk40:k<=i:=by rw[hk];exact Zpt
    rw[show(v.parts.drop k).getD 0 dE=v.parts.getD k dE by simp[ZH6],List.drop_drop]at t;rw[bj]at al am;rw[if_pos hh]at ac;generalize v.parts.getD k dE=x at *;have br:I x.parts<=5000:=by
     have h1:=JT x;have h2:10*I x.parts<=wtL x.parts:=by
      have h3:∀l:List Val,10*I l<=wtL l:=λl=>by
       induction l with
       |nil=>simp
       |cons a r ih3=>have:=JT a;simp only[wtL,ZH3];omega
      exact h3 _
     omega
    refine xA (nd2 @atV (nd2 @a5 (nd2 @QL @Zau))) ?_;refine gA ?_;refine Zd (Zd ?_);rw[show(k:Int)+1=((k+1:Nat):Int) by omega];exact ap x (k+1) (by rw[ac,ZHX,<-hk];rfl) t al am ad.1 bt.2.2.1 br ad.2 ax
   rw[if_neg (by rw[hh];simp)]at t ac;rw[ZIj]at ac;refine Zo (Zd (Zd ?_));refine kE [3,5,7,8,9,10,11,12] ?_;refine kl (st) [(3,.loc 3 0),(5,.loc 5 0),(7,.loc 7 0),(8,.d (.i b)),(9,.d (.i k)),(10,.d (.i i)),(11,.loc 11 0),(12,.loc 12 0)] [(3,[.str d.name,Z0 d.msgs,.str d.start]),(5,[.str v.name,.i v.int,Zg v.bytes,Zx v.hdrs,Zu v.parts]),(7,[.str m.name,Zp m.fields]),(11,[.str f.name,.i f.kind,.i f.bits,.bool f.little,.bool f.loose,.i f.low,.i f.high,.i f.size.base,Z4 f.size.terms,.str f.of,.str f.tag,.str f.from_,Z2 f.cases,.i f.check,.i f.key]),(12,[.str (dE:Val).name,.i (dE:Val).int,Zg (dE:Val).bytes,Zx (dE:Val).hdrs,Zu (dE:Val).parts])] Wx (.skip (.skip (.skip (.skip (.cons (.cons (ZHT _) (.cons (ZHT _) (.cons (Z1 λb h=>by cases h) (.cons (Z1 λb h=>by cases h) (.cons (Z1 λb h=>by cases h) .nil))))) .nil))))) ?_;have az:¬f.kind=3/\¬f.kind=6:=by unfold YD at hh;simp at hh;omega
   exact ap dE k (by rw[ac];exact hk) t (λh=>absurd h az.1) (λh=>absurd h az.2) (by simp[show(dE:Val).hdrs=[] from rfl]) (by simp[show(dE:Val).bytes=[] from rfl]) (by simp[show(dE:Val).parts=[] from rfl]) (λy hy=>by simp[show(dE:Val).parts=[] from rfl]at hy) (λy hy=>by simp[show(dE:Val).parts=[] from rfl]at hy)
  simp at h1;obtain rfl:i=I m.fields:=ω;rw[List.drop_eq_nil_of_le (ZH9 _)]at t;simp only[Ws]at t;have a3:b.tdiv 8=b / 8:=Int.tdiv_eq_ediv_of_nonneg ω;subst t;refine rg ?_;refine⟨by decide,by rw[a3];omega,by rw[a3];omega,?_⟩;refine ri a4 ?_;rw[hS]
 exact bz _ 0 rfl 0 0 ω rfl ω ω be
def ZkP{v x}(h:x∈v.parts):wtN x<=wtN v:=by
 have h1:=ZpY h;have h2:=JT v;omega
def Zi0(d)(t:DOk d)(i:I d.msgs<=1000):∀(n i0 v),i0<I d.msgs->Yz v=true->wtN v<=5100->J5 d n (d.msgs.getD i0 dE) v ->
  Zc ZHP 79 [.agg d.cells,.i i0,.agg v.cells] (.i (lenS d n (d.msgs.getD i0 dE) v))
 |0,_,_,_,_,_,hL=>hL.elim
 |n+1,i0,v,hi,hv,hw,hL=>by refine Zom d t i n i0 hi v hv hw hL λx hx y hy=>?_;obtain⟨k,hk,rfl⟩:=ZIc hx;have o:=(hL.2 k hk).2 y (by simpa[ZH6,hk]using hy);have r:=WD o.1;rw[r.1];exact Zi0 d t i n (ixS d y.name) y r.2 (YA (YA hv hx) hy) (ZIy (ZIy (ZkP hy) (ZkP hx)) hw) o.2
def ZfZ(rec:Val->Int):List Val->Int
 | []=>0
 |y::r=>rec y+ZfZ rec r
def ZeZ{rec}:∀(l b),YL rec l b=b+8*ZfZ rec l
 | [],b=>by simp[YL,ZfZ]
 |y::r,b=>by simp only[YL,ZfZ];rw[ZeZ r];omega
def ZpL(l f rec st)(hl:I l<=5000)(hr:∀y∈l,0<=rec y/\8*rec y<=20000*(wtN y:Int))(hw:wtL l<=5100)(hf:∀y∈l,VT ZHP f [.agg y.cells] st (.i (rec y)) st):
  ZL ZHP 245 [Zu l,f] st (.i (ZfZ rec l)) st:=by
 refine ZE (cR 245 f245) λad F t=>?_;clear ad;have hT:=Qz (b:=0) hr;have hTe:=ZeZ (rec:=rec) l 0;generalize ac:ZfZ rec l=T at *;refine rg ?_;refine rx @KN ?_;refine Zb (fr (I l) (λi Q=>∀b:Int,0<=b->b<=T->b+ZfZ rec (l.drop i)=T->i<=I l->Q [(1,.d f),(4,.d (.i b)),(7,.d (Zu l)),(8,.d (.i (I l))),(9,.d (.i i))] [] st) (λn r=>?_) λaf=>?_);intro i hn b hb0 hbT o hi;refine rg ?_;refine Zd (Zj rfl trivial (λh1=>?_) (λh1=>?_));simp at h1;have ab:l.getD i dE∈l:=Zr h1;have hyr:=hr _ ab;have u:=hf _ ab;have ae:=YX (l:=l) (i:=i) h1;rw[Yf h1]at o;simp only[ZfZ]at o;have hP:=Qz (rec:=rec) (l:=l.drop (i+1)) (b:=0) λz hz=>hr z (List.mem_of_mem_drop hz);rw[ZeZ]at hP;rw[ZIe]at u;generalize l.getD i dE=y at *;generalize rec y=ry at *;refine xA (nd2 @atV @ae) ?_;refine rg ?_;refine cW (u) ?_;refine aa ?_;refine gA ?_;refine Za ?_;exact r ((I l)-(i+1)) ω (i+1) rfl (b+ry) ω ω ω ω;simp at h1;obtain rfl:i=I l:=ω;rw[List.drop_eq_nil_of_le (ZH9 _)]at o;simp only[ZfZ]at o;refine rg ?_;exact t rfl φ (Zhe ω) ZHU;exact af _ 0 rfl 0 ω ω (by rw[List.drop_zero,ac];omega) ω
def ZlR(d)(y:Val)(ry zd st)(u:st zd=sO (.cells [.str d.name,Z0 d.msgs,.str d.start]))(t:0<=Zm d y.name (I d.msgs))(r:Zc ZHP 203 [.agg d.cells,.agg (Zs d y.name).cells,.agg y.cells] (.i ry)):ZL ZHP 246 [.agg y.cells,.ptr zd 0] st (.i ry) st:=by
 refine ZE (cR 246 f246) λo F i=>?_;clear o;have hm:=JR d y.name t;rw[show d.msgs.getD (ixS d y.name) dE=Zs d y.name from rfl]at hm;rw[ZIe]at r⊢;refine rg ?_;refine xA @u ?_;refine clD (hm) ?_;refine clD (r) ?_;exact i rfl φ (ZHT _) ZHU
def ZlS(d)(hd:DOk d)(n m)(hm:MOk m)(v)(hv:Yz v=true)(hw:wtN v<=5100)(hL:J5 d (n+1) m v)(ih:∀x∈v.parts,∀y∈x.parts,0<=Zm d y.name (I d.msgs)/\Zc ZHP 203 [.agg d.cells,.agg (Zs d y.name).cells,.agg y.cells] (.i (lenS d n (Zs d y.name) y))):
  Zc ZHP 203 [.agg d.cells,.agg m.cells,.agg v.cells] (.i (lenS d (n+1) m v)):=by
 refine Ze (cR 203 f203) λF st a9=>?_;obtain⟨a7,hX⟩:=hL;have hrec:∀x∈v.parts,I x.hdrs<=100/\∀y∈x.parts,0<=lenS d n (Zs d y.name) y/\8*lenS d n (Zs d y.name) y<=20000*(wtN y:Int):=λx hx =>
  ⟨(KY (Kw (YA hv hx))).2.2.2.1,λy hy=>ZbL hd n _ y (hd.of _) (YA (YA hv hx) hy)⟩
 obtain⟨rec,ao⟩:∃rec:Val->Int,rec=λy=>lenS d n (Zs d y.name) y:=⟨_,rfl⟩;have hS:lenS d (n+1) m v=(Ws rec m.fields v.parts 0).tdiv 8:=by rw[ao];rfl
 have ac:∀x∈v.parts,I x.hdrs<=100/\∀y∈x.parts,0<=rec y/\8*rec y<=20000*(wtN y:Int):=by rw[ao];exact hrec
 have bu:∀x∈v.parts,∀y∈x.parts,0<=Zm d y.name (I d.msgs)/\Zc ZHP 203 [.agg d.cells,.agg (Zs d y.name).cells,.agg y.cells] (.i (rec y)):=by rw[ao];exact ih
 have hT:=Q5 (rec:=rec) (l:=m.fields) (ps:=v.parts) (b:=0) hm.fld ω ac;have hwn:=JT v;have hfew:=hm.few;generalize bi:Ws rec m.fields v.parts 0=T at *;clear hrec ih ao;generalize lenS d (n+1) m v=LV at *;rw[ZIe];refine rx (nd2 @eQ2 @eQ3) ?_;refine rg ?_;refine Zd (Zd ?_);refine xP 3 λzd hz=>?_;have bl:(st.upd zd (.cells [.str d.name,Z0 d.msgs,.str d.start])) zd=sO (.cells [.str d.name,Z0 d.msgs,.str d.start]):=ZHW _ _ _;have bb:=ZIg (s:=st) (.cells [.str d.name,Z0 d.msgs,.str d.start]) hz;generalize st.upd zd (.cells [.str d.name,Z0 d.msgs,.str d.start])=S at *;refine rx @ZaI ?_;refine Zb (fr (I m.fields) (λi Q=>∀(b:Int) (k:Nat),i<=I m.fields->k=(vfs (m.fields.take i)).length->0<=b->b<=T->Ws rec (m.fields.drop i) (v.parts.drop k) b=T->Q [(3,.d (.ptr zd 0)),(5,.loc 5 0),(7,.d (.i b)),(8,.d (.i k)),(20,.d (Zp m.fields)),(21,.d (.i (I m.fields))),(22,.d (.i i))] [(5,[.str v.name,.i v.int,Zg v.bytes,Zx v.hdrs,Zu v.parts])] S) (λn aw=>?_) λbv=>?_)
 .intro i hn b k hi hk a4 hbT t;refine rg ?_;refine Zd (Zj rfl trivial (λh1=>?_) (λh1=>?_))
  .simp at h1;have bk:m.fields.getD i dE∈m.fields:=Zr h1;have al:=hm.fld _ bk;have a6:=λhh=>Zb9 hk h1 hh;have ah:=ZcC h1;rw[Yf h1]at t;simp only[Ws]at t;generalize hf:m.fields.getD i dE=f at *;refine xA (nd2 @atF (nd2 @hf @eQ0)) ?_;refine gG ?_;refine cl (Zen f) ?_;refine jU [0,1] (λQ=>∀(x:Val) (k:Nat),k=(vfs (m.fields.take (i+1))).length->Ws rec (m.fields.drop (i+1)) (v.parts.drop k) (YL rec x.parts (Ky f x b))=T->(f.kind=3->0<=x.int/\x.int<34359738368)->(f.kind=6->W0 x.hdrs=true/\Zbc x.hdrs)->I x.hdrs<=100->I x.bytes<=1048576->I x.parts<=5000->wtL x.parts<=5100->(∀y∈x.parts,0<=rec y/\8*rec y<=20000*(wtN y:Int))->(∀y∈x.parts,0<=Zm d y.name (I d.msgs)/\Zc ZHP 203 [.agg d.cells,.agg (Zs d y.name).cells,.agg y.cells] (.i (rec y)))->(¬f.kind=4->¬f.kind=5->I x.bytes=0)->(f.kind<7\/f.kind=10\/f.kind=11->x.parts=[])->Q F [(3,.d (.ptr zd 0)),(5,.loc 5 0),(7,.d (.i b)),(8,.d (.i k)),(10,.loc 10 0),(11,.loc 11 0),(20,.d (Zp m.fields)),(21,.d (.i (I m.fields))),(22,.d (.i i))] [(5,[.str v.name,.i v.int,Zg v.bytes,Zx v.hdrs,Zu v.parts]),(10,[.str f.name,.i f.kind,.i f.bits,.bool f.little,.bool f.loose,.i f.low,.i f.high,.i f.size.base,Z4 f.size.terms,.str f.of,.str f.tag,.str f.from_,Z2 f.cases,.i f.check,.i f.key]),(11,[.str x.name,.i x.int,Zg x.bytes,Zx x.hdrs,Zu x.parts])] S) ?_ λax=>?_;clear t hk a6 ah;intro x k hk t aq ar bp hxb bf bg ak au aj ae;have hA:=ZbF (x:=x) al a4 bp;have hP:=Qz (rec:=rec) (l:=x.parts) (b:=Ky f x b) ak;have bh:=ZeZ (rec:=rec) x.parts (Ky f x b);have hB:=Q5 (rec:=rec) (l:=m.fields.drop (i+1)) (ps:=v.parts.drop k) (b:=YL rec x.parts (Ky f x b)) (λg hg=>hm.fld g (List.mem_of_mem_drop hg)) ω (λz hz=>ac z (List.mem_of_mem_drop hz));have o:=Ky.eq_1 f x b;have ht:=ZpL x.parts (.fn (.func 246) [] [.ptr zd 0]) rec S bf ak bg λy hy=>(ZlR d y (rec y) zd S bl (au y hy).1 (au y hy).2).VT (first:=[]) (args:=[_]) (caps:=[_]);have ad:x.parts=[]->ZfZ rec x.parts=0:=λh=>by rw[h];rfl
   generalize ZfZ rec x.parts=bw at *;refine rx @Wc ?_;refine ctD (ht) ?_;refine aa ?_;refine jU [1,0] (λQ=>∀(c n':Int),c+8*n'=Ky f x b+8*bw->0<=c->0<=n'->Q F [(3,.d (.ptr zd 0)),(5,.loc 5 0),(7,.d (.i c)),(8,.d (.i k)),(12,.d (.i n')),(20,.d (Zp m.fields)),(21,.d (.i (I m.fields))),(22,.d (.i i))] [(5,[.str v.name,.i v.int,Zg v.bytes,Zx v.hdrs,Zu v.parts])] S) ?_ λfin=>?_;clear o;intro c n' hc hc0 hn0;refine gA ?_;refine gA ?_;refine Za ?_;exact aw ((I m.fields)-(i+1)) ω (i+1) rfl (c+8*n') k ω hk ω ω (by rw[hc,<-bh];exact t);refine rx @eQ0 ?_;refine rg ?_;refine cd (λc1=>?_) (λc1=>?_);have ag:f.kind=1:=by simpa using c1
   rw[if_pos ω]at o;have:=aj ω ω;have:=ad (ae ω);refine Zo (Zj rfl trivial (λ_=>?_) (λh=>by rw[c1]at h;simp at h));refine xA @eQ0 ?_;refine Zi ?_;exact fin _ _ (by rw[o];omega) ω ω;refine rg ?_;refine cd (λc2=>?_) (λc2=>?_);have a1:f.kind=2:=by simpa using c2
   rw[if_pos ω]at o;have:=aj ω ω;have:=ad (ae ω);refine xA @eQ0 ?_;refine Zi ?_;exact fin _ _ (by rw[o];omega) ω ω;have ag:¬f.kind=1:=by simpa using c1
   have a1:¬f.kind=2:=by simpa using c2
   rw[if_neg ω]at o;refine rg ?_;refine cd (λay=>?_) (λay=>?_);have ab:f.kind=10:=by simpa using ay
   rw[if_neg ω,if_neg ω,if_neg ω,if_neg ω,if_pos ab]at o;have:=aj ω ω;have:=ad (ae ω);have hpd:=Zbx (al.pad ab);have hup:=JB a4 (show 1<=f.bits by omega);have a3:=Zfi (v:=b) (al.pad ab) ⟨ω,ω⟩;generalize upS b f.bits=u at *;refine rx @eQ0 ?_;refine cl (a3) ?_;refine gA ?_;refine Zi ?_;exact fin _ _ (by rw[o];omega) ω ω;have ab:¬f.kind=10:=by simpa using ay
   refine rg ?_;refine cd (λaz=>?_) (λaz=>?_);have af:f.kind=11:=by simpa using az
   rw[if_neg ω,if_neg ω,if_neg ω,if_neg ω,if_neg ω,if_pos af]at o;have:=aj ω ω;have:=ad (ae ω);have hcb:Wm f.check=32\/Wm f.check=16:=by unfold Wm;split<;>simp
   have a3:=ZqY (al.chk af);generalize Wm f.check=u at *;refine rx @eQ0 ?_;refine cl (a3) ?_;refine gA ?_;refine Zi ?_;exact fin _ _ (by rw[o];omega) ω ω;have af:¬f.kind=11:=by simpa using az
   refine rg ?_;refine cd (λc3=>?_) (λc3=>?_);have am:f.kind=3:=by simpa using c3
   rw[if_pos am]at o;have:=ad (ae ω);obtain⟨hv0,hv1⟩:=aq am;obtain⟨vn,be⟩:∃vn:Nat,x.int=vn:=⟨x.int.toNat,ω⟩;rw[be,Int.toNat_natCast]at o;have bc:=Zrv (v:=vn) ω;rw[<-be]at bc;refine rg ?_;refine cl (bc) ?_;refine Zi ?_;refine kE [3,5,7,8,12,20,21,22] ?_;exact fin _ _ (by rw[o];omega) ω ω;have am:¬f.kind=3:=by simpa using c3
   rw[if_neg am]at o;refine rg ?_;refine cd (λc5=>?_) (λc5=>?_);have ai:f.kind=5:=by simpa using c5
   rw[if_neg ω,if_pos ai]at o;have:=ad (ae ω);refine gA ?_;refine Zi ?_;refine kE [3,5,7,8,12,20,21,22] ?_;exact fin _ _ (by rw[o];omega) ω ω;have ai:¬f.kind=5:=by simpa using c5
   refine rg ?_;refine cd (λc6=>?_) (λc6=>?_);have an:f.kind=6:=by simpa using c6
   rw[if_neg ω,if_neg ai,if_pos an]at o;have:=ad (ae ω);obtain⟨bn,bo⟩:=ar an;have a0:=Zew bo;unfold ZhT at a0;rw[if_pos bn]at a0;refine rg ?_;refine cl (a0) ?_;refine rx @Wc ?_;refine Zi ?_;exact fin _ _ (by rw[o];omega) ω ω;have an:¬f.kind=6:=by simpa using c6
   have bj:Ky f x b=b+8*(I x.bytes:Int):=by by_cases a2:f.kind=4;rw[o,if_pos a2];have:=aj a2 ai;rw[o,if_neg a2,if_neg ai,if_neg an,if_neg ab,if_neg af];omega
   refine Zo (Zi ?_);refine kE [3,5,7,8,12,20,21,22] ?_;exact fin _ _ (by rw[bj];omega) ω ω;refine cd (λhh=>?_) (λhh=>?_)
   .rw[if_pos hh]at t;obtain⟨ag,a1⟩:=a6 hh;rw[a7]at ag;have av:v.parts.getD k dE∈v.parts:=Zr ag;obtain⟨⟨ap,aq,ar⟩,bf⟩:=hX k ag;have ba:=YX (l:=v.parts) (i:=k) ag;have ak:=ac _ av;have au:=bu _ av;have bt:=YA hv av;have br:=KY (Kw bt);have bg:=ZpY av;have hk40:k<=i:=by rw[hk];exact Zpt
    rw[show(v.parts.drop k).getD 0 dE=v.parts.getD k dE by simp[ZH6],List.drop_drop]at t;rw[a1]at aq ar ap;rw[if_pos hh]at ah;generalize v.parts.getD k dE=x at *;have hwx:=JT x;have bq:I x.parts<=5000:=by
     have h2:10*I x.parts<=wtL x.parts:=by
      have h3:∀l:List Val,10*I l<=wtL l:=λl=>by
       induction l with
       |nil=>simp
       |cons a r ih3=>have:=JT a;simp only[wtL,ZH3];omega
      exact h3 _
     omega
    unfold WH Zpb at ap;simp only[Bool.or_eq_false_iff,Bool.and_eq_false_iff,Bool.not_eq_false',ZId,decide_eq_true_eq,decide_eq_false_iff_not]at ap;obtain⟨⟨⟨_,hu1⟩,_⟩,hu2⟩:=ap;have hno:¬f.kind=10/\¬f.kind=11:=by unfold YD at hh;simp at hh;omega
    refine xA (nd2 @atV (nd2 @ba (nd2 @QL @Zau))) ?_;refine gA ?_;refine Zd ?_;rw[show(k:Int)+1=((k+1:Nat):Int) by omega];exact ax x (k+1) (by rw[ah,ZHX,<-hk];rfl) t aq ar ak.1 br.2.2.1 bq ω ak.2 au (λh4 h5=>by omega) (λh=>List.eq_nil_of_length_eq_zero ω)
   rw[if_neg (by rw[hh];simp)]at t ah;rw[ZIj]at ah;refine Zo (Zd ?_);refine kE [3,5,7,8,10,11,20,21,22] ?_;refine kl (S) [(3,.d (.ptr zd 0)),(5,.loc 5 0),(7,.d (.i b)),(8,.d (.i k)),(10,.loc 10 0),(11,.loc 11 0),(20,.d (Zp m.fields)),(21,.d (.i (I m.fields))),(22,.d (.i i))] [(5,[.str v.name,.i v.int,Zg v.bytes,Zx v.hdrs,Zu v.parts]),(10,[.str f.name,.i f.kind,.i f.bits,.bool f.little,.bool f.loose,.i f.low,.i f.high,.i f.size.base,Z4 f.size.terms,.str f.of,.str f.tag,.str f.from_,Z2 f.cases,.i f.check,.i f.key]),(11,[.str (dE:Val).name,.i (dE:Val).int,Zg (dE:Val).bytes,Zx (dE:Val).hdrs,Zu (dE:Val).parts])] Wx (.skip (.skip (.cons (.cons (ZHT _) (.cons (ZHT _) (.cons (Z1 λb h=>by cases h) (.cons (Z1 λb h=>by cases h) (.cons (Z1 λb h=>by cases h) .nil))))) .nil))) ?_;have a5:¬f.kind=3/\¬f.kind=6:=by unfold YD at hh;simp at hh;omega
   exact ax dE k (by rw[ah];exact hk) t (λh=>absurd h a5.1) (λh=>absurd h a5.2) (by simp[show(dE:Val).hdrs=[] from rfl]) (by simp[show(dE:Val).bytes=[] from rfl]) (by simp[show(dE:Val).parts=[] from rfl]) (by simp[show(dE:Val).parts=[] from rfl,wtL]) (λy hy=>by simp[show(dE:Val).parts=[] from rfl]at hy) (λy hy=>by simp[show(dE:Val).parts=[] from rfl]at hy) (λ_ _=>rfl) (λ_=>rfl)
  simp at h1;obtain rfl:i=I m.fields:=ω;rw[List.drop_eq_nil_of_le (ZH9 _)]at t;simp only[Ws]at t;have a8:b.tdiv 8=b / 8:=Int.tdiv_eq_ediv_of_nonneg ω;subst t;refine rg ?_;refine⟨by decide,by rw[a8];omega,by rw[a8];omega,?_⟩;exact a9 rfl φ (Zhe hS.symm) bb
 exact bv _ 0 rfl 0 0 ω rfl ω ω bi
def Ztg(f):Zc ZHP 121 [.agg f.cells] (.bool (Je f)):=by
 refine Ze (cR 121 f121) λF st i=>?_;have o:=Je.eq_1 f;refine rx @eQ0 ?_;refine rx @eQ0 ?_;refine rb i ?_;rw[o];unfold Zcb;cases f.little<;>cases dC (f.kind=1)<;>cases dC (f.kind=2)<;>cases dC (f.kind=10)<;>rfl
structure Zhg(f:Fld):Prop where
 num:f.kind=1\/f.kind=2->1<=f.bits/\f.bits<=32
 pad:f.kind=10->f.bits=2\/f.bits=4\/(8<=f.bits/\f.bits<=512/\f.bits.tmod 8=0)
def Zxs{d j i m f}(h:WY d j m i f=0):Zhg f:=by
 unfold WY at h;split at h;· omega
 split at h;· omega
 split at h;· omega
 split at h;· omega
 unfold Kp at h;refine⟨λhk=>?_,λhk=>?_⟩;have r:Kd f=0:=by rcases hk with hk|hk<;>simp only[hk,ZIt,if_true,if_false]at h<;>exact h
 unfold Kd at r;split at r;· omega
 rename_i o;simp only[Q8,ZId,ZH1,Bool.not_eq_true',decide_eq_true_eq,decide_eq_false_iff_not,not_or]at o;omega;simp only[hk,ZIt,if_true,if_false]at h;split at h;· omega
 rename_i o;simp only[ZfI,ZH1,ZId,Bool.not_eq_true',decide_eq_true_eq,decide_eq_false_iff_not,not_and,not_or]at o;omega
def Zvc{o b}(h0:0<=o)(hb:0<b):upS o b=(o+b-1) / b*b:=by
 unfold upS;rw[Int.tdiv_eq_ediv_of_nonneg ω]
def Zy7{f}(i:Zhg f){o}(r:0<=o):0<=Jq f o:=by
 unfold Jq;split;rename_i h;have:=i.num h;exact Int.tmod_nonneg 8 ω;split;rename_i h;have t:0<f.bits:=by have:=i.pad h;omega
 rw[Zvc r t];exact Int.tmod_nonneg 8 (Int.mul_nonneg (Int.ediv_nonneg ω ω) ω);omega
def Zu1{l}(hl:∀f∈l,Zhg f):∀i,i<=I l->0<=YH l i
 |0,_=>by simp[YH]
 |i+1,h=>Zy7 (hl _ (Zr ω)) (Zu1 hl i ω)
def Zwk(x:Int):-8<x.tmod 8/\x.tmod 8<8:=⟨Int.lt_tmod_of_pos x (by decide),Int.tmod_lt_of_pos x (by decide)⟩
def ZCe{f}(i:f.kind=10)(t:f.bits.tmod 8=0)(o):Jq f o=0:=by
 unfold Jq;rw[if_neg ω,if_pos i];unfold upS;generalize ((o+f.bits)-1).tdiv f.bits=q;have r:=Int.mul_tdiv_add_tmod f.bits 8;rw[t,Int.add_zero]at r;rw[<-r,<-Int.mul_assoc,Int.mul_comm q 8,Int.mul_assoc];exact Int.mul_tmod_right 8 _
def Zt8{f}(hf:Zhg f){o}(h0:0<=o)(h8:o<8):Zc ZHP 164 [.agg f.cells,.i o] (.i (Jq f o)):=by
 refine Ze (cR 164 f164) λF st t=>?_;have hN:=Jq.eq_1 f o;have ad:=hf.num;have aj:=hf.pad;refine rx @eQ0 ?_;refine rx @eQ0 ?_;by_cases h1:f.kind=1;have e1:=decide_eq_true h1;rw[if_pos (.inl h1)]at hN;have hb:=ad (.inl h1);refine rx @e1 ?_;refine i1 ?_;refine i1 ?_;have hr:=Zwk (o+f.bits);refine rx @eQ0 ?_;generalize (o+f.bits).tmod 8=r at *;refine aa ?_;refine ri t ?_;exact hN.symm;have e1:=decide_eq_false h1;refine rx @e1 ?_;refine i0 ?_;by_cases h2:f.kind=2;have e2:=decide_eq_true h2;rw[if_pos (.inr h2)]at hN;have hb:=ad (.inr h2);refine rx @e2 ?_;refine i1 ?_;have hr:=Zwk (o+f.bits);refine rx @eQ0 ?_;generalize (o+f.bits).tmod 8=r at *;refine aa ?_;refine ri t ?_;exact hN.symm;have e2:=decide_eq_false h2;rw[if_neg ω]at hN;refine rx @e2 ?_;refine i0 ?_;by_cases ab:f.kind=10;have ae:=decide_eq_true ab;have hp:=aj ab;rw[if_pos ab]at hN;refine rx @ae ?_;refine i1 ?_;by_cases hs:f.bits=2\/f.bits=4;have hu:upS o f.bits=(o+f.bits-1) / f.bits*f.bits:=Zvc h0 ω;have an:∃u:Nat,upS o f.bits=u/\o<=u/\u<o+f.bits/\u<=16/\((u:Int) % f.bits=0):=by rw[hu];rcases hs with hs|hs<;>rw[hs];exact⟨((o+2-1) / 2*2).toNat,ω,ω,ω,ω,ω⟩;exact⟨((o+4-1) / 4*4).toNat,ω,ω,ω,ω,ω⟩
 obtain⟨u,am,hu3,ao,hu5,ap⟩:=an;obtain⟨i0,al⟩:∃i0:Nat,(i0:Int)=o:=⟨o.toNat,ω⟩;have ai:∀i:Nat,i0<=i->i<=u->(dC ((i:Int).tmod f.bits=0)=dC (i=u)):=λi ag ah=>by rw[Int.tmod_eq_emod_of_nonneg ω,Bool.eq_iff_iff,decide_eq_true_eq,decide_eq_true_eq];rcases hs with hs|hs<;>rw[hs]at ao ap⊢<;>omega
 rw[<-al];refine rx @eQ0 ?_;refine Zj rfl trivial (λ_=>?_) (λh=>by rcases hs with hs|hs<;>simp[hs]at h);refine Zd (Zb (Zd9 [1,2] ?_));simp only[Eqs,reduceCtorEq,ZHV,reduceIte,ZHR,ZHY,ZHS];refine fr (u) (λi Q=>i0<=i->i<=u->Q [(1,.d (.i i)),(2,.loc 2 0)] [(2,f.cells)] st) (λn ac=>?_) λaq=>?_;intro i hn ag ah;have hm:=ai i ag ah;have hb0:f.bits≠0:=ω;have hq:0<=(i:Int).tmod f.bits/\(i:Int).tmod f.bits<5:=by rw[Int.tmod_eq_emod_of_nonneg ω];rcases hs with hs|hs<;>rw[hs]<;>omega
 refine rx (nd2 @eQ0 @hm) ?_;generalize (i:Int).tmod f.bits=tm at *;refine aa ?_;refine cd (λhc=>?_) (λhc=>?_);have af:i≠u:=by simpa using hc
 refine gA ?_;refine Zi (Za ?_);exact ac ((u)-(i+1)) ω (i+1) rfl ω ω;have af:i=u:=by simpa using hc
 subst af;have hr:=Zwk (i:Int);rw[am]at hN;refine rg ?_;generalize (i:Int).tmod 8=r at *;refine aa ?_;refine ri t ?_;exact hN.symm;exact aq _ i0 rfl (ZH9 _) ω;have ak:f.bits.tmod 8=0:=ω;have hz:=ZCe ab ak o;refine rx @eQ0 ?_;refine Zj rfl trivial (λh=>by simp at h;omega) (λ_=>?_);refine rg ?_;refine ri t ?_;exact hz.symm;have ae:=decide_eq_false ab;rw[if_neg ab]at hN;refine rx @ae ?_;refine iG ?_;refine ri t ?_;exact hN.symm
def ZnX(l:List Int):D:=slD 1 (λx:Int=>[.i x]) l
def ZeX(l:List Fld):List Int:=(ZH5 (I l)).map (YH l)
def ZpB{m:Msg}(hm:I m.fields<=1000)(hb:∀f∈m.fields,Zhg f):Zc ZHP 120 [.agg m.cells] (.tup [ZnX (ZeX m.fields),.i (YH m.fields (I m.fields))]):=by
 refine Ze (cR 120 f120) λF st ab=>?_;refine rx @eQ3 ?_;refine gG ?_;refine rg ?_;refine kl (st) [(1,.loc 1 0),(4,.d (.sl .full 0 1 λ_=>[])),(5,.d (.i (YH m.fields 0))),(6,.d (.i (0:Nat)))] [(1,[.str m.name,Zp m.fields])] (.skip (.cons (.d (Z1 λb h=>by cases h)) (.skip (.skip .nil)))) Y6 ?_;refine Zb (fr (I m.fields) (λi Q=>∀tk row o,tk.okIn st->Zy (λx:Int=>[.i x]) row o->o=(ZH5 i).map (YH m.fields)->i<=I m.fields->Q [(1,.loc 1 0),(4,.d (.sl tk (I o) 1 row)),(5,.d (.i (YH m.fields i))),(6,.d (.i i))] [(1,[.str m.name,Zp m.fields])] (st.own tk (I o*1))) (λn u=>?_) λal=>?_);intro i hn tk row o ak ac t hi;have hol:I o=i:=by rw[t];simp
 refine rx @ZaI ?_;refine cd (λhd=>?_) (λhd=>?_);have ad:i<I m.fields:=by simp at hd;omega
 have ag:=hb _ (Zr ad);have ah:=Zu1 hb i ω;have ae:=(Zpu m.fields i).2;have af:YH m.fields (i+1)=Jq (m.fields.getD i dE) (YH m.fields i):=rfl;generalize hf:m.fields.getD i dE=f at *;refine rg ?_;refine Y2 (st) (tk) rfl rfl rfl rfl rfl rfl φ φ rfl (by first|trivial|assumption) ω (by (unfold big;omega)) λt1 aj=>Zk ?_;simp only[Eqs,reduceCtorEq,ZHV,reduceIte,ZHR,ZHY,ZHS];refine xA (nd2 @atF (nd2 @hf (nd2 @QL @Zau))) ?_;refine cl (Zt8 ag ah ae) ?_;rw[<-af];refine gA ?_;have r:=u (I m.fields-(i+1)) ω (i+1) rfl t1 _ (o++[YH m.fields i]) aj (ac.snoc (x:=YH m.fields i) (row2:=ZI [.i 0] ([0].zip [.i (YH m.fields i)])) rfl rfl) (by rw[t,List.range_succ];simp) ω;rw[ZHX]at r;refine Za ?_;exact r;have ad:i=I m.fields:=by simp at hd;omega
 subst ad;refine rg ?_;have ai:ZeX m.fields=o:=t.symm;rw[ai]at ab;exact ab rfl ψ (Zdz rfl (LeC.two (ac.le rfl) (ZHT _))) (Yj ak);exact al _ 0 rfl .full _ [] trivial Zy.nil rfl ω
def Zxv(l):(ZeX l).length=I l:=by simp[ZeX]
def Zqy{l i}(h:i<I l):(ZeX l).getD i 0=YH l i:=by simp[ZeX,ZH6,h]
def atI{L s}(l i):qv L s (.iaddr 1) [.d (ZnX l),.d (.i i)]=sO (0<=i/\i<I l,.d (.ep [.i (l.getD i.toNat 0)] 0)):=rfl
def ZzH{d a m}(hm:ZdV d a m){i}(hi:i<I m.fields):
  W9 m.fields i=(Je (m.fields.getD i dE)&&!dC (YH m.fields i=0) ||(dC ((m.fields.getD i dE).kind=11)&&!dC (YH m.fields (Yi m (m.fields.getD i dE).from_ i).toNat=0))) /\
   ((m.fields.getD i dE).kind=11->0<=Yi m (m.fields.getD i dE).from_ i):=by
 have r:=(ZyY (hm.field i hi)).1;generalize hf:m.fields.getD i dE=f at *;have o:f.kind=11->0<=Yi m f.from_ i:=λh=>by
  unfold Kp at r;simp only[h,ZIt,if_true,if_false]at r;split at r;· omega
  split at r;· omega
  omega
 refine⟨?_,o⟩;unfold W9;rw[if_neg ω,hf];by_cases h:f.kind=11;have t:=ZnI (o h);have u:max (Zl (λx=>dC (x.name=f.from_)) m.fields) 0=Yi m f.from_ i:=by
  have e:Zl (λx=>dC (x.name=f.from_)) m.fields=Yi m f.from_ (I m.fields):=by unfold Yi;rw[ZIb]
  rw[e,t.1];have:=o h;omega
 rw[u];simp only[h,decide_true,Bool.not_true,Bool.false_or,ZIf];generalize dC (YH m.fields (Yi m f.from_ i).toNat=0)=x;generalize dC (YH m.fields i=0)=y;generalize Je f=z;cases x<;>cases y<;>cases z<;>rfl;simp only[h,decide_false,Bool.not_false,Bool.true_or,Bool.not_true,Bool.or_false,ZIl];generalize dC (YH m.fields i=0)=y;generalize Je f=z;cases y<;>cases z<;>rfl
def Ztf(d st):Zf ZHP 66 [.agg d.cells] st λr S=>S=st/\∃a f c,r=.ret (.tup [.agg [.i a,.i f,.i c],.bool (!Yk d)]):=by
 refine Zh (cR 66 f66) λF hF=>?_;have ac:=Yk.eq_1 d;obtain⟨fa,ff,fc,ar⟩:∃a f c,ZzL (ZbX d)=[.i a,.i f,.i c]:=by
  cases ZbX d with
  |none=>exact⟨_,_,_,rfl⟩
  |some x=>exact⟨_,_,_,rfl⟩
 have am:Zb8 d=!(ZbX d).isSome:=by unfold Zb8;cases ZbX d<;>rfl
 refine rx @eQ2 ?_;refine rx @eQ2 ?_;refine cX (nd2 @ZzM.eq_1 @ar) (Zs2 d) ?_;refine rg ?_;refine cd (λh=>?_) (λh=>?_);have hA:Yk d=false:=by rw[ac,am,h];rfl
 refine rg ?_;exact hF.ret _ st rfl ψ (ZHT _) ZHU ⟨rfl,_,_,_,by rw[hA];rfl⟩;have hv:Zb8 d=true:=by rw[am,h];rfl
 have hV:=ZkL hv;have hmany:=hV.many;rw[hv,ZIf]at ac;refine rg ?_;refine Zb (fr (I d.msgs) (λk Q=>k<=I d.msgs->(∀q,q<k->ZaJ (d.msgs.getD q dE)=true)->Q [(1,.loc 1 0),(2,.loc 2 0),(6,.d (.i k))] [(1,[.str d.name,Z0 d.msgs,.str d.start]),(2,[.i 0,.i 0,.i 0])] st) (λn ad=>?_) λa0=>?_);intro k hn hk ae;refine rx @ZeU ?_;refine cd (λh1=>?_) (λh1=>?_);have u:k<I d.msgs:=by simp at h1;omega
 have ah:=hV.msg u;have hmf:=ah.many;have ak:d.msgs.getD k dE∈d.msgs:=Zr u;have ax:∀f∈(d.msgs.getD k dE).fields,Zhg f:=λf hf=>by obtain⟨i,hi,rfl⟩:=Zbv hf;exact Zxs (ah.field i hi)
 have af:ZaJ (d.msgs.getD k dE)=false->Yk d=false:=λh=>by rw[ac,List.all_eq_false];exact⟨_,ak,by rw[h];simp⟩
 generalize hm:d.msgs.getD k dE=m at *;refine xA (nd2 @atM (nd2 @hm @eQ3)) ?_;refine rx @eQ3 ?_;have c9:=ZpB (m:=m) ω ax;refine cl (c9) ?_;refine rg ?_;refine Zb (fr (I m.fields) (λi Q=>i<=I m.fields->(∀q,q<i->W9 m.fields q=false)->Q [(1,.loc 1 0),(2,.loc 2 0),(6,.d (.i k)),(7,.loc 7 0),(8,.d (ZnX (ZeX m.fields))),(9,.d (.i (YH m.fields (I m.fields)))),(10,.d (.i i))] [(1,[.str d.name,Z0 d.msgs,.str d.start]),(2,[.i 0,.i 0,.i 0]),(7,[.str m.name,Zp m.fields])] st) (λn t=>?_) λap=>?_);intro i hn2 hi al;refine rx @ZaI ?_;refine cd (λh2=>?_) (λh2=>?_);have ab:i<I m.fields:=by simp at h2;omega
 obtain⟨hw,ag⟩:=ZzH ah ab;have ai:=Zxv m.fields;have av:=Zqy ab;generalize hf:m.fields.getD i dE=f at *;refine jU [0,1,2,1,0,1,0,1] (λQ=>∀w:Bool,W9 m.fields i=w->Q F [(1,.loc 1 0),(2,.loc 2 0),(6,.d (.i k)),(7,.loc 7 0),(8,.d (ZnX (ZeX m.fields))),(9,.d (.i (YH m.fields (I m.fields)))),(10,.d (.i i)),(11,.d (.bool w))] [(1,[.str d.name,Z0 d.msgs,.str d.start]),(2,[.i 0,.i 0,.i 0]),(7,[.str m.name,Zp m.fields])] st) ?_ λfin=>?_;intro w ao;refine rg ?_;refine cd (λh5=>?_) (λh5=>?_);have hA:=af (ZgX (i:=i) ω (by rw[ao];exact h5));refine rg ?_;exact hF.ret _ st rfl ψ (ZHT _) ZHU ⟨rfl,_,_,_,by rw[hA];rfl⟩;refine gA ?_;refine Za ?_;exact t ((I m.fields)-(i+1)) ω (i+1) rfl ω (ZV (q:=λq=>W9 m.fields q=false) al (by rw[ao];exact h5));refine jU [0,1,2,1,0,1,1] (λQ=>∀w1:Bool,w1=(Je f&&!dC (YH m.fields i=0))->Q F [(1,.loc 1 0),(2,.loc 2 0),(6,.d (.i k)),(7,.loc 7 0),(8,.d (ZnX (ZeX m.fields))),(9,.d (.i (YH m.fields (I m.fields)))),(10,.d (.i i)),(11,.d (.bool w1))] [(1,[.str d.name,Z0 d.msgs,.str d.start]),(2,[.i 0,.i 0,.i 0]),(7,[.str m.name,Zp m.fields])] st) ?_ λa1=>?_;intro w1 az;rw[<-az]at hw;refine xA (nd2 @atF (nd2 @hf @eQ0)) ?_;by_cases o:f.kind=11;have ag:=ag o;have au:=ZnI ag;obtain⟨p,hp⟩:∃p:Nat,Yi m f.from_ i=p:=⟨(Yi m f.from_ i).toNat,ω⟩;rw[hp,Int.toNat_natCast,o]at hw;rw[hp]at au;have aw:=Zqy (l:=m.fields) (i:=p) ω;refine Zj rfl trivial (λ_=>?_) (λh=>by simp[o]at h);refine xA (nd2 @atF (nd2 @hf (nd2 @eQ0 @ZdM))) ?_;have c9:=Zan m f.from_ i ω;refine ZlX rfl rfl rfl rfl rfl (λaq=>⟨by first|trivial|(simpa[ZbO]using aq),trivial,c9⟩) (Ye ?_);simp only[Eqs,reduceCtorEq,ZHV,reduceIte,ZHR,ZHY,ZHS,hp,atI,ai,aw,ZdM];refine aa ?_;refine Zd ?_;exact fin _ (by rw[hw];rfl);rw[decide_eq_false o,ZIl,Bool.or_false]at hw;refine Zj rfl trivial (λh=>by simp at h;exact absurd h o) (λ_=>?_);refine Zo (Zd (Zd9 [1,2,6,7,8,9,10,11] ?_));simp only[Eqs,reduceCtorEq,ZHV,reduceIte,ZHR,ZHY,ZHS];exact fin w1 hw;refine xA (nd2 @atF (nd2 @hf (nd2 @QL @Zau))) ?_;refine cX (nd2 @atI (nd2 @ai (nd2 @av @ZdM))) (Ztg f) ?_;refine aa ?_;refine Zd (Zd ?_);exact a1 _ rfl;have ab:i=I m.fields:=by simp at h2;omega
 subst ab;have an:W9 m.fields (I m.fields)=!dC (YH m.fields (I m.fields)=0):=by unfold W9;rw[if_pos rfl]
 refine rg ?_;refine cd (λh6=>?_) (λh6=>?_);have hA:=af (ZgX (Nat.lt_succ_self _) (by rw[an];exact h6));refine rg ?_;exact hF.ret _ st rfl ψ (ZHT _) ZHU ⟨rfl,_,_,_,by rw[hA];rfl⟩;have aj:ZaJ m=true:=Zn7 λq hq=>by by_cases ay:q=I m.fields;subst ay;rw[an];exact h6;exact al q ω
 refine gA ?_;refine Za ?_;exact ad ((I d.msgs)-(k+1)) ω (k+1) rfl ω (ZV (q:=λq=>ZaJ (d.msgs.getD q dE)=true) ae (by rw[hm];exact aj));exact ap _ 0 rfl ω (by intro q hq;omega);have u:k=I d.msgs:=by simp at h1;omega
 subst u;have hA:Yk d=true:=by rw[ac,List.all_eq_true];intro x hx;obtain⟨q,hq,rfl⟩:=Zbv hx;exact ae q hq
 refine rg ?_;exact hF.ret _ st rfl ψ (ZHT _) ZHU ⟨rfl,_,_,_,by rw[hA];rfl⟩;exact a0 _ 0 rfl ω (by intro q hq;omega)
def ZpA(d):Zc ZHP 32 [.agg d.cells] (.bool (Yk d)):=by
 refine Ze (cR 32 f32) λF st i=>?_;refine rx @eQ2 ?_;refine rg ?_;rw[show(D.agg [.str d.name,Z0 d.msgs,.str d.start])=.agg d.cells from rfl];refine cV (Ztf d st) ?_ ?_;rintro o S ⟨rfl,a,f,c,h⟩;cases h;refine gR0 ?_;refine rg ?_;exact i rfl φ (by cases Yk d<;>exact ZHT _) ZHU;rintro o S ⟨_,a,f,c,h⟩;cases h
def Zgx(d)(i:DOk d):∀(n m v),MOk m->Yz v=true->wtN v<=5100->J5 d n m v ->
  Zc ZHP 203 [.agg d.cells,.agg m.cells,.agg v.cells] (.i (lenS d n m v))
 |0,_,_,_,_,_,hL=>hL.elim
 |n+1,m,v,hm,hv,hw,hL=>by refine ZlS d i n m hm v hv hw hL λx hx y hy=>?_;obtain⟨k,hk,rfl⟩:=ZIc hx;have o:=(hL.2 k hk).2 y (by simpa[ZH6,hk]using hy);exact⟨o.1,Zgx d i n (Zs d y.name) y (i.of _) (YA (YA hv hx) hy) (ZIy (ZIy (ZkP hy) (ZkP hx)) hw) o.2⟩
def atS(d:Dfn)(s:Str)(v:Val):Int×Int:=if Yk d&&Kt v then (if Zm d s (I d.msgs)<0 then (-1,9) else (Zm d s (I d.msgs),0)) else (-1,2)
def ZxA(d s v)(hb:Yz v=true->KF v<=1099511627776):Zc ZHP 19 [.agg d.cells,.str s,.agg v.cells] (.tup [.i (atS d s v).1,.i (atS d s v).2]):=by
 refine Ze (cR 19 f19) λF st i=>?_;have hV:=Ztd v hb;have r:=ZpA d;have o:=atS.eq_1 d s v;rw[ZIe]at hV⊢;cases ha:Yk d with
 |false =>rw[ha]at r o;simp only[ZIl]at o;rw[if_neg ψ]at o;rw[o]at i;refine rx @eQ2 ?_;refine rg ?_;refine cl (r) ?_;refine Jv rfl (e:=.d (.bool false)) (Zk ?_);simp only[Eqs,reduceCtorEq,ZHV,reduceIte,ZHR,ZHY,ZHS];refine i1 ?_;refine rg ?_;refine rt i ?_;rfl
 |true =>rw[ha]at r o;simp only[ZIf]at o;refine rx @eQ2 ?_;refine rg ?_;refine cl (r) ?_;refine cG (hV) ?_;refine cd (λu=>?_) (λu=>?_);rw[if_neg (by simpa using u)]at o;rw[o]at i;refine rg ?_;refine rt i ?_;rfl;rw[if_pos (by simpa using u)]at o;refine rx @ZeU ?_;refine cl (WG d s (I d.msgs) (ZH9 _)) ?_;refine rg ?_;refine cd (λt=>?_) (λt=>?_);rw[if_pos (by simpa using t)]at o;rw[o]at i;refine rg ?_;refine rt i ?_;rfl;rw[if_neg (by simpa using t)]at o;rw[o]at i;refine rg ?_;refine rt i ?_;rfl
def atR(d:Dfn)(s:Str)(v:Val):D:=if Yk d&&Kt v then (if Zm d s (I d.msgs)<0 then .tup [.agg [.str [],.nilsl],.i 9] else .tup [.agg (Zs d s).cells,.i 0]) else .tup [.agg [.str [],.nilsl],.i 2]
def Zue(d s v):Zc ZHP 51 [.agg d.cells,.str s,.agg v.cells] (atR d s v):=by
 refine Ze (cR 51 f51) λF st i=>?_;have hV:=ZhP v;have hA:=Zmz d;have u:=atR.eq_1 d s v;have r:Zl (λx:Msg=>dC (x.name=s)) d.msgs=Zm d s (I d.msgs):=by unfold Zm;rw[ZIb]
 rw[ZIe]at hV⊢;cases ha:Yk d with
 |false =>rw[ha]at hA u;simp only[ZIl]at u;rw[if_neg ψ]at u;rw[u]at i;refine rx @eQ2 ?_;refine rg ?_;refine cl (hA) ?_;refine Jv rfl (e:=.d (.bool false)) (Zk ?_);simp only[Eqs,reduceCtorEq,ZHV,reduceIte,ZHR,ZHY,ZHS];refine i1 ?_;refine rg ?_;refine rt i ?_;rfl
 |true =>
  rw[ha]at hA u;simp only[ZIf]at u;refine rx @eQ2 ?_;refine rg ?_;refine cl (hA) ?_;refine cG (hV) ?_;refine cd (λhv=>?_) (λhv=>?_);rw[if_neg (by simpa using hv)]at u;rw[u]at i;refine rg ?_;refine rt i ?_;rfl;rw[if_pos (by simpa using hv)]at u;refine rg ?_;refine cX @r (Zaq d s) ?_;refine rg ?_;refine cd (λhf=>?_) (λhf=>?_);rw[if_pos (by simpa using hf)]at u;rw[u]at i;refine rg ?_;refine rt i ?_;rfl;have o:0<=Zm d s (I d.msgs):=by simpa using hf
  rw[if_neg ω]at u;rw[u]at i;have hix:=WD o;have t:max (Zm d s (I d.msgs)) 0=ixS d s:=ω;unfold Zs at i;generalize hm:d.msgs.getD (ixS d s) dE=m at *;rw[t];refine xA (nd2 @atM (nd2 @hm @eQ3)) ?_;refine rt i ?_;rfl
def mfD(q:Str)(no:Int):D:=.iface 97 (.agg [.str q,.i no])
def mfR(q:Str)(no:Int):Res:=if no=0 then .ret (.tup []) else .panic (mfD q no)
def ZeC(fine q no st):Zf ZHP 145 [.bool fine,.str q,.i no] st λr S=>S=st/\r=if fine then .ret (.tup []) else .panic (mfD q no):=by
 refine Zh (cR 145 f145) λF o=>?_;refine rg ?_;refine cd (λh=>?_) (λh=>?_);have i:fine=false:=by simpa using h
 refine rg ?_;refine ZrL rfl rfl rfl trivial ?_;exact o.pan st ZHU ⟨rfl,by rw[i];rfl⟩;have i:fine=true:=by simpa using h
 refine Zo ?_;exact o.fin (.tup []) st rfl trivial (ZHT _) ZHU ⟨rfl,by rw[i];rfl⟩
def Zud(a b q st):Zf ZHP 190 [.i a,.i b,.str q] st λr S=>S=st/\r=mfR q (K3 a b):=by
 refine Zh (cR 190 f190) λF hF=>?_;have o:=K3.eq_1 a b;refine rg ?_;refine cV (ZeC (dC (b<=a)) q 4 st) ?_ ?_;rintro d S ⟨t,i⟩;obtain rfl:=t.symm;by_cases u:b<=a;rw[decide_eq_true u,if_pos rfl]at i;cases i;rw[if_neg (by simp;omega)]at o;refine gR0 ?_;refine rg ?_;refine cV (ZeC (dC (a<=b)) q 5 st) ?_ ?_;rintro d S ⟨t,i⟩;obtain rfl:=t.symm;by_cases h2:a<=b;rw[decide_eq_true h2,if_pos rfl]at i;cases i;rw[if_neg (by simp;omega)]at o;refine gR0 ?_;exact hF.fin (.tup []) st rfl trivial (ZHT _) ZHU ⟨rfl,by rw[o];rfl⟩;rw[decide_eq_false h2,if_neg ψ]at i;cases i;rintro d S ⟨t,i⟩;obtain rfl:=t.symm;by_cases h2:a<=b;rw[decide_eq_true h2,if_pos rfl]at i;cases i;rw[decide_eq_false h2,if_neg ψ]at i;cases i;rw[if_pos (by simp;omega)]at o;exact hF.pan st ZHU ⟨rfl,by rw[o];rfl⟩;rw[decide_eq_false u,if_neg ψ]at i;cases i;rintro d S ⟨t,i⟩;obtain rfl:=t.symm;by_cases u:b<=a;rw[decide_eq_true u,if_pos rfl]at i;cases i;rw[decide_eq_false u,if_neg ψ]at i;cases i;rw[if_pos (by simp;omega)]at o;exact hF.pan st ZHU ⟨rfl,by rw[o];rfl⟩
def KE(g:Nat->Str×Int):List Nat->Option (Str×Int)
 | []=>nO
 |i::r=>if (g i).2=0 then KE g r else sO (g i)
def Zl3{g}:∀{l},KE g l=nO->∀i∈l,(g i).2=0
 | [],_,i,hi=>by simp at hi
 |a::r,h,i,hi=>by simp only[KE]at h;split at h;rename_i o;rcases List.mem_cons.1 hi with rfl|hi;exact o;exact Zl3 h i hi;simp at h
def J1(mis:Msg->Val->Str->Str×Int)(d:Dfn)(of:Str)(x:Val)(q:Str):Str×Int :=
 if (I x.parts)=1 then mis (Zs d of) (x.parts.getD 0 dE) (ZD q (ZT x.parts 0)) else (q,6)
def Za7(mis:Msg->Val->Str->Str×Int)(len:Msg->Val->Int)(d:Dfn)(f:Fld)(x:Val)(q:Str)(l:List (Str×Int)):Str×Int :=
 if f.kind=1\/f.kind=3 then (if x.int<f.low\/f.high<x.int then (q,3) else (q,0))
 else if f.kind=4 then (q,K3 (I x.bytes) (Ze1 f.size l))
 else if f.kind=5 then (if f.high<I x.bytes then (q,5) else if x.bytes.any (λc=>dC ((c.toNat:Int)=f.low)) then (q,6) else (q,0))
 else if f.kind=6 then (if W0 x.hdrs=false then (q,6) else if f.high<(Qf x.hdrs).length then (q,5) else (q,0))
 else if f.kind=7 then (if K3 (I x.parts) (Ze1 f.size l)=0 then (KE (λi=>mis (Zs d f.of) (x.parts.getD i dE) (ZD q (ZT x.parts i))) (ZH5 (I x.parts))).getD (q,0) else (q,K3 (I x.parts) (Ze1 f.size l)))
 else if f.kind=8 then J1 mis d f.of x q
 else if f.kind=9 then (if Jo f (YZ f.tag l)<0 then (q,9) else J1 mis d (f.cases.getD (Jo f (YZ f.tag l)).toNat dE).of x q)
 else if f.kind=12 then (if (J1 mis d f.of x q).2=0 then (q,K3 (len (Zs d f.of) (x.parts.getD 0 dE)) (Ze1 f.size l)) else J1 mis d f.of x q)
 else (q,0)
def ZW(d:Dfn):Nat->Msg->Val->Str->Str×Int
 |0,_,_,p=>(p,6)
 |n+1,m,v,p =>
  if dC (v.name=m.name)&&(dC (v.int=0)&&(dC (I v.bytes=0)&&(dC (I v.hdrs=0)&&Kr m v.parts))) then
   (KE (λk=>if WH ((vfs m.fields).getD k dE).kind (v.parts.getD k dE) then (ZD p (ZT v.parts k),6)
    else Za7 (ZW d n) (lenS d n) d ((vfs m.fields).getD k dE) (v.parts.getD k dE) (ZD p (ZT v.parts k)) (Zdg m v.parts)) (ZH5 (I v.parts))).getD ([],0)
  else (p,6)
def Zn8{d s}(h:0<=Zm d s (I d.msgs)):(Zs d s).name=s:=by
 have o:=WD h;unfold Zm at h o;have i:=(Q6 h).1;rw[o.1]at i;rw[ZIb]at i;simpa[Zs]using i
def Zme{d}:∀{n m v p},(ZW d n m v p).2=0->v.name=m.name
 |0,_,_,_,h=>by simp[ZW]at h
 |n+1,m,v,p,h=>by simp only[ZW]at h;split at h;rename_i hc;simp only[ZH1,decide_eq_true_eq]at hc;exact hc.1;simp at h
structure ZgK(d:Dfn)(f:Fld):Prop where
 kind:1<=f.kind/\f.kind<=12
 ref:f.kind=7\/f.kind=8\/f.kind=12->0<=Zm d f.of (I d.msgs)
 cas:f.kind=9->∀c∈f.cases,0<=Zm d c.of (I d.msgs)
def ZrO(d:Dfn):Prop:=∀m∈d.msgs,∀f∈m.fields,ZgK d f
def ZrO.of{d}(h:ZrO d)(s):∀f∈(Zs d s).fields,ZgK d f:=by
 unfold Zs;by_cases i:ixS d s<I d.msgs;exact h _ (Zr i);rw[show d.msgs.getD (ixS d s) dE=dE by simp[ZH6,ZIz (Nat.le_of_not_lt i)]];intro f o;simp[show(dE:Msg).fields=[] from rfl]at o
def Zl4{g r}:∀{l},KE g l=sO r->¬r.2=0
 | [],h=>by simp[KE]at h
 |a::t,h=>by simp only[KE]at h;split at h;exact Zl4 h;rename_i i;simp only[ZHQ]at h;rw[<-h];exact i
def ZjL{g n q}(h:((KE g (ZH5 n)).getD q).2=0):∀i,i<n->(g i).2=0:=by
 cases o:KE g (ZH5 n) with
 |none=>exact λi t=>Zl3 o i (List.mem_range.2 t)
 |some r=>rw[o]at h;exact absurd h (Zl4 o)
def ZxY{v}(h:JM v=true):Zbc v.hdrs:=by
 unfold JM at h;simp only[ZH1,Bool.not_eq_true']at h;intro x r;have o:=h.2;have i:=List.any_eq_false.1 o x r;unfold Zai at i;simp only[ZId,decide_eq_true_eq,not_or]at i;omega
def Zpv{i d of x q}(h:(J1 i d of x q).2=0):I x.parts=1/\(i (Zs d of) (x.parts.getD 0 dE) (ZD q (ZT x.parts 0))).2=0:=by
 unfold J1 at h;split at h;rename_i o;exact⟨o,h⟩;simp at h
def Zqz{r len d f x q l}(u:ZgK d f)(hv:YD f=true)(hu:WH f.kind x=false)(h:(Za7 r len d f x q l).2=0):
  ∀y∈x.parts,∃of q',0<=Zm d of (I d.msgs)/\(r (Zs d of) y q').2=0:=by
 intro y hy;have hpos:0<I x.parts:=List.length_pos_iff.2 λe=>by rw[e]at hy;simp at hy
 have h7:7<=f.kind:=by unfold WH at hu;simp only[Bool.or_eq_false_iff,Bool.and_eq_false_iff,Bool.not_eq_false',decide_eq_true_eq,decide_eq_false_iff_not]at hu;have:=hu.2;omega
 have hk:f.kind=7\/f.kind=8\/f.kind=9\/f.kind=12:=by have:=u.kind;unfold YD at hv;simp only[ZH1,Bool.not_eq_true',decide_eq_false_iff_not]at hv;omega
 have one:∀of,0<=Zm d of (I d.msgs)->(J1 r d of x q).2=0->∃of q',0<=Zm d of (I d.msgs)/\(r (Zs d of) y q').2=0:=λof h0 t=>by
  obtain⟨hl,h2⟩:=Zpv t;refine⟨of,ZD q (ZT x.parts 0),h0,?_⟩;rw[show y=x.parts.getD 0 dE by
   obtain⟨i,hi,rfl⟩:=ZIc hy;have:i=0:=ω;subst this;simp[ZH6,hi]]
  exact h2
 unfold Za7 at h;rw[if_neg ω,if_neg ω,if_neg ω,if_neg ω]at h;rcases hk with hk|hk|hk|hk;rw[if_pos hk]at h;split at h;obtain⟨i,hi,rfl⟩:=ZIc hy;have t:=ZjL h i hi;exact⟨f.of,_,u.ref ω,by simpa[ZH6,hi]using t⟩;rename_i o;exact absurd h o;rw[if_neg ω,if_pos hk]at h;exact one _ (u.ref ω) h;rw[if_neg ω,if_neg ω,if_pos hk]at h;split at h;simp at h;rename_i hc;have hlt:=YC (λc:YE=>dC (c.low<=YZ f.tag l)&&dC (YZ f.tag l<=c.high)) f.cases;exact one _ (u.cas hk _ (Zr (by unfold Jo at hc⊢;omega))) h;rw[if_neg ω,if_neg ω,if_neg ω,if_pos hk]at h;split at h;rename_i t;exact one _ (u.ref ω) t;rename_i t;exact absurd h t
def ZdF{d}(hd:ZrO d):∀(n m v p),(∀f∈m.fields,ZgK d f)->Yz v=true->(ZW d n m v p).2=0->J5 d n m v
 |0,_,_,_,_,_,h=>by simp[ZW]at h
 |n+1,m,v,p,hm,hv,h=>by
  simp only[ZW]at h;split at h
  .rename_i hc;simp only[ZH1,decide_eq_true_eq]at hc;have hr:=hc.2.2.2.2;unfold Kr at hr;rw[decide_eq_true_eq]at hr;have r:(vfs m.fields).length=I v.parts:=by simpa using congrArg List.length hr
   refine⟨r,λk hk=>?_⟩;have hg:=ZjL h k hk;have u:v.parts.getD k dE∈v.parts:=Zr hk;have t:(vfs m.fields).getD k dE∈vfs m.fields:=Zr ω;have i:=List.mem_filter.1 t;have o:=YA hv u;have ab:=KY (Kw o);have ac:=ZxY (Kw o);generalize v.parts.getD k dE=x at *;generalize (vfs m.fields).getD k dE=f at *;cases hu:WH f.kind x with
   |true=>rw[hu,if_pos rfl]at hg;simp at hg
   |false =>
    rw[hu,if_neg ψ]at hg;refine⟨⟨hu,λ_=>ab.2.1,λh6=>⟨?_,ac⟩⟩,λy hy=>?_⟩
    .unfold Za7 at hg;rw[if_neg ω,if_neg ω,if_neg ω,if_pos h6]at hg;cases hh:W0 x.hdrs with
     |true=>rfl
     |false=>rw[hh,if_pos rfl]at hg;simp at hg
    obtain⟨of,q',h0,h1⟩:=Zqz (hm f i.1) i.2 hu hg y hy;have hn:y.name=of:=by rw[Zme h1,Zn8 h0]
    rw[hn];exact⟨h0,ZdF hd n _ y q' (hd.of _) (YA o hy) h1⟩
  simp at h
def mfT(r:Str×Int):D:=.tup [.str r.1,.i r.2]
def Zv0(d of x q mis)(hps:I x.parts<=100000)(hn:∀y∈x.parts,I y.name<=1000)(hq:I q<=1000000)(t:I x.parts=1->Zc ZHP 20 [.agg d.cells,.i (Zm d of (I d.msgs)),.agg (x.parts.getD 0 dE).cells,.str (ZD q (ZT x.parts 0))] (mfT (mis (Zs d of) (x.parts.getD 0 dE) (ZD q (ZT x.parts 0))))):
  Zc ZHP 76 [.agg d.cells,.i (Zm d of (I d.msgs)),.agg x.cells,.str q] (mfT (J1 mis d of x q)):=by
 refine Ze (cR 76 f76) λF st o=>?_;have u:=J1.eq_1 mis d of x q;generalize Zm d of (I d.msgs)=ix at *;rw[ZIe];refine rx @eQ2 ?_;refine rx @KN ?_;refine cd (λh1=>?_) (λh1=>?_);rw[if_neg (by simp at h1;omega)]at u;rw[u]at o;refine rg ?_;refine rt o ?_;rfl;have hl:I x.parts=1:=by simp at h1;omega
 rw[if_pos hl]at u;rw[u]at o;have hm:=t hl;have r:Zc ZHP 38 [.str q,Zu x.parts,.i 0] (.str (ZD q (ZT x.parts 0))):=Zb5 q x.parts 0 ω hps hn hq;generalize ZD q (ZT x.parts 0)=q2 at *;have hr:=YX (l:=x.parts) (i:=0) ω;rw[ZIe]at hm;generalize mis (Zs d of) (x.parts.getD 0 dE) (ZD q (ZT x.parts 0))=res at *;obtain⟨p,no⟩:=res;simp only[mfT]at hm o;refine xA (nd2 @atV @hr) ?_;refine clD (r) ?_;refine clD (hm) ?_;refine rt o ?_;rfl
def ZgQ{g}:∀{a b},(∀i∈a,(g i).2=0)->KE g (a++b)=KE g b
 | [],_,_=>rfl
 |i::a,b,h=>by rw[List.cons_append,KE,if_pos (h i ψ)];exact ZgQ λk o=>h k (by simp[o])
def ZeP{g n}(h:∀i,i<n->(g i).2=0):KE g (ZH5 n)=nO:=by
 rw[<-ZIj (ZH5 n),ZgQ λi o=>h i (List.mem_range.1 o)];rfl
def Zgh{g n j}(hj:j<n)(h:∀i,i<j->(g i).2=0)(o:¬(g j).2=0):KE g (ZH5 n)=sO (g j):=by
 rw[show ZH5 n=ZH5 j++(j::(List.range' (j+1) (n-(j+1)))) by rw[List.range_eq_range',List.range_eq_range',show n=j+(n-(j+1)+1) by omega,<-List.range'_append_1,List.range'_succ];simp;omega,ZgQ λi r=>h i (List.mem_range.1 r),KE,if_neg o]
def ZgL{L s}(l i):qv L s (.iaddr 1) [.d (Zg l),.d (.i i)]=sO (0<=i/\i<I l,.d (.ep (u8C (l.getD i.toNat dE)) 0)):=rfl
def Zt9(d f x q l mis len)(hsz:f.kind=4\/f.kind=7\/f.kind=12->ZU f.size=true/\∀t∈f.size.terms,0<=YZ t.field l/\YZ t.field l<34359738368)(hx6:Zbc x.hdrs)(hxb:I x.bytes<=1048576)(hlen:f.kind=12->(J1 mis d f.of x q).2=0->I x.parts=1/\Zc ZHP 79 [.agg d.cells,.i (Zm d f.of (I d.msgs)),.agg (x.parts.getD 0 dE).cells] (.i (len (Zs d f.of) (x.parts.getD 0 dE))))(hps:I x.parts<=100000)(hnm:∀y∈x.parts,I y.name<=1000)(hq:I q<=1000000)(hmis:f.kind=7->∀i,i<I x.parts->Zc ZHP 20 [.agg d.cells,.i (Zm d f.of (I d.msgs)),.agg (x.parts.getD i dE).cells,.str (ZD q (ZT x.parts i))] (mfT (mis (Zs d f.of) (x.parts.getD i dE) (ZD q (ZT x.parts i)))))(hfr:ZgK d f)(hone:∀of,0<=Zm d of (I d.msgs)->Zc ZHP 76 [.agg d.cells,.i (Zm d of (I d.msgs)),.agg x.cells,.str q] (mfT (J1 mis d of x q))):
  Zc ZHP 40 [.agg d.cells,.agg f.cells,.agg x.cells,.str q,ZfF l] (mfT (Za7 mis len d f x q l)):=by
 refine Ze (cR 40 f40) λF st o=>?_;have hS:=Za7.eq_1 mis len d f x q l;generalize Za7 mis len d f x q l=res at *;rw[ZIe]at hone⊢;refine rx (nd2 @eQ2 @eQ0) ?_;refine rx @ZeU ?_;refine cl (WG d f.of (I d.msgs) (ZH9 _)) ?_;refine gG ?_;refine jU [0,0,0,1] (λQ=>res=(q,0)->Q F [(3,.d (.str q))] [] st) ?_ λfin=>?_;intro he;rw[he]at o;refine rg ?_;refine rt o ?_;rfl;refine cd (λc1=>?_) (λc1=>?_);refine Zo (Zj rfl trivial (λ_=>?_) (λh=>by rw[c1]at h;simp at h));have ac:f.kind=1\/f.kind=3:=by simp at c1;omega
 rw[if_pos ac]at hS;refine rx @eQ0 ?_;refine cd (λh2=>?_) (λh2=>?_);rw[if_pos (by simpa using h2)]at hS;rw[hS]at o;refine rg ?_;refine rt o ?_;rfl;rw[if_neg (by simpa using h2)]at hS;refine Zo (Zi (Zd ?_));refine kE [3] ?_;exact fin hS;refine rg ?_;refine cd (λc3=>?_) (λc3=>?_);have ac:f.kind=1\/f.kind=3:=by simp at c3;omega
 rw[if_pos ac]at hS;refine rx @eQ0 ?_;refine cd (λh2=>?_) (λh2=>?_);rw[if_pos (by simpa using h2)]at hS;rw[hS]at o;refine rg ?_;refine rt o ?_;rfl;rw[if_neg (by simpa using h2)]at hS;refine Zo (Zi (Zd ?_));refine kE [3] ?_;exact fin hS;rw[if_neg (by simp at c1 c3;omega)]at hS;refine rg ?_;refine cd (λc4=>?_) (λc4=>?_);have ay:f.kind=4:=by simpa using c4
 rw[if_pos ay]at hS;rw[hS]at o;obtain⟨ae,af⟩:=hsz ω;refine rx (nd2 @Wc @eQ0) ?_;refine clD (Zg1 f.size ae l af) ?_;refine clD Zg2 ?_;refine rt o ?_;rfl;rw[if_neg (by simpa using c4)]at hS;refine rg ?_;refine cd (λc5=>?_) (λc5=>?_);rw[if_pos (by simpa using c5)]at hS;refine rx (nd2 @Wc @eQ0) ?_;refine cd (λh5=>?_) (λh5=>?_);rw[if_pos (by simpa using h5)]at hS;rw[hS]at o;refine rg ?_;refine rt o ?_;rfl;rw[if_neg (by simpa using h5)]at hS;refine rg ?_;refine Zb (fr (I x.bytes) (λj Q=>j<=I x.bytes->(∀i,i<j->(λc:UInt8=>dC ((c.toNat:Int)=f.low)) (x.bytes.getD i dE)=false)->Q [(3,.d (.str q)),(6,.loc 6 0),(7,.loc 7 0),(13,.d (.i j))] [(6,[.str f.name,.i f.kind,.i f.bits,.bool f.little,.bool f.loose,.i f.low,.i f.high,.i f.size.base,Z4 f.size.terms,.str f.of,.str f.tag,.str f.from_,Z2 f.cases,.i f.check,.i f.key]),(7,[.str x.name,.i x.int,Zg x.bytes,Zx x.hdrs,Zu x.parts])] st) (λn ag=>?_) λaq=>?_);intro j a0 hj ad;refine rx @Wc ?_;refine cd (λg1=>?_) (λg1=>?_);simp at g1;generalize hc:x.bytes.getD j dE=c at *;have a3:IntKind.i64.wrap (c.toNat:Int)=c.toNat:=Wn ⟨ω,by have:=c.toNat_lt;omega⟩;refine xA (nd2 @ZgL (nd2 @hc (nd2 @u8C.eq_1 @a3))) ?_;refine cd (λg2=>?_) (λg2=>?_);have u:x.bytes.any (λc=>dC ((c.toNat:Int)=f.low))=true:=List.any_eq_true.2 ⟨c,by rw[<-hc];exact Zr g1,g2⟩;rw[u,if_pos rfl]at hS;rw[hS]at o;refine rg ?_;refine rt o ?_;rfl;refine gA ?_;refine Za ?_;exact ag ((I x.bytes)-(j+1)) ω (j+1) rfl ω (ZV (q:=λi=>(λc:UInt8=>dC ((c.toNat:Int)=f.low)) (x.bytes.getD i dE)=false) ad (by rw[hc];exact g2));simp at g1;obtain rfl:j=I x.bytes:=ω;have u:x.bytes.any (λc=>dC ((c.toNat:Int)=f.low))=false:=Zhk ad;rw[u,if_neg ψ]at hS;refine ZG rfl (Zi (Zd ?_));refine kE [3] ?_;exact fin hS;exact aq _ 0 rfl ω (by intro i hi;omega);rw[if_neg (by simpa using c5)]at hS;refine rg ?_;refine cd (λc6=>?_) (λc6=>?_);rw[if_pos (by simpa using c6)]at hS;refine rg ?_;refine cl (Ztc x.hdrs) ?_;refine cd (λh6=>?_) (λh6=>?_);rw[if_pos (by simpa using h6)]at hS;rw[hS]at o;refine rg ?_;refine rt o ?_;rfl;have hh:W0 x.hdrs=true:=by simpa using h6
 rw[if_neg (by rw[hh];simp)]at hS;refine rx @eQ0 ?_;refine cXD @Wc (ZfL hh hx6) ?_;refine cd (λh7=>?_) (λh7=>?_);rw[if_pos (by simpa using h7)]at hS;rw[hS]at o;refine rg ?_;refine rt o ?_;rfl;rw[if_neg (by simpa using h7)]at hS;refine Zo (Zi (Zd ?_));refine kE [3] ?_;exact fin hS;rw[if_neg (by simpa using c6)]at hS;refine rg ?_;refine cd (λc7=>?_) (λc7=>?_);have an:f.kind=7:=by simpa using c7
 rw[if_pos an]at hS;have az:=hmis an;obtain⟨ae,af⟩:=hsz ω;refine rx (nd2 @KN @eQ0) ?_;refine clD (Zg1 f.size ae l af) ?_;refine clD Zg2 ?_;generalize K3 (I x.parts) (Ze1 f.size l)=no at *;refine rg ?_;refine cd (λh0=>?_) (λh0=>?_);rw[if_neg (by simpa using h0)]at hS;rw[hS]at o;refine rg ?_;refine rt o ?_;rfl;rw[if_pos (by simpa using h0)]at hS;refine rg ?_;refine Zb (fr (I x.parts) (λj Q=>j<=I x.parts->(∀i,i<j->(mis (Zs d f.of) (x.parts.getD i dE) (ZD q (ZT x.parts i))).2=0)->Q [(3,.d (.str q)),(5,.loc 5 0),(7,.loc 7 0),(12,.d (.i (Zm d f.of (I d.msgs)))),(15,.d (.i j))] [(5,[.str d.name,Z0 d.msgs,.str d.start]),(7,[.str x.name,.i x.int,Zg x.bytes,Zx x.hdrs,Zu x.parts])] st) (λn ah=>?_) λar=>?_);intro j a0 hj r;refine rx @KN ?_;refine cd (λg1=>?_) (λg1=>?_);simp at g1;have a2:=Zb5 q x.parts j g1 hps hnm hq;have al:=az j g1;have hr:=YX (l:=x.parts) (i:=j) g1;have aw:=Zgh (g:=λi=>mis (Zs d f.of) (x.parts.getD i dE) (ZD q (ZT x.parts i))) g1 r;rw[ZIe]at al;generalize hy:mis (Zs d f.of) (x.parts.getD j dE) (ZD q (ZT x.parts j))=r7 at *;obtain⟨p,a5⟩:=r7;simp only[mfT]at al;generalize a1:ZD q (ZT x.parts j)=q2 at *;generalize a4:x.parts.getD j dE=y at *;refine xA (nd2 @atV @hr) ?_;refine clD (a2) ?_;refine clD (al) ?_;refine rg ?_;refine cd (λg2=>?_) (λg2=>?_);rw[aw (by simpa using g2)]at hS;rw[hS]at o;simp only[mfT,ZIr]at o;refine rg ?_;refine rt o ?_;rfl;have ap:a5=0:=by simpa using g2
 refine gA ?_;refine Za ?_;exact ah ((I x.parts)-(j+1)) ω (j+1) rfl ω (λi hi=>by
  by_cases ax:i=j;rw[ax,a4,a1,hy];exact ap;exact r i ω)
 simp at g1;obtain rfl:j=I x.parts:=ω;rw[ZeP r]at hS;refine ZG rfl (Zi (Zd ?_));refine kE [3] ?_;exact fin hS;exact ar _ 0 rfl ω (by intro i hi;omega);rw[if_neg (by simpa using c7)]at hS;refine rg ?_;refine cd (λc8=>?_) (λc8=>?_);rw[if_pos (by simpa using c8)]at hS;have h8:=hone f.of (hfr.ref (.inr (.inl (by simpa using c8))));generalize J1 mis d f.of x q=r8 at *;obtain⟨p,no⟩:=r8;rw[hS]at o;simp only[mfT]at h8 o;refine rg ?_;refine cl (h8) ?_;refine rt o ?_;rfl;rw[if_neg (by simpa using c8)]at hS;refine rg ?_;refine cd (λc9=>?_) (λc9=>?_);rw[if_pos (by simpa using c9)]at hS;refine rx @eQ0 ?_;refine clD (Zoo f.tag l) ?_;refine clD (ZtY f (YZ f.tag l)) ?_;refine rg ?_;have av:=YC (λc:YE=>dC (c.low<=YZ f.tag l)&&dC (YZ f.tag l<=c.high)) f.cases;rw[show Zl (λc:YE=>dC (c.low<=YZ f.tag l)&&dC (YZ f.tag l<=c.high)) f.cases=Jo f (YZ f.tag l) from rfl]at av;generalize Jo f (YZ f.tag l)=ci at *;refine cd (λai=>?_) (λai=>?_);rw[if_pos (by simpa using ai)]at hS;rw[hS]at o;refine rg ?_;refine rt o ?_;rfl;rw[if_neg (by simpa using ai)]at hS;have hci0:0<=ci:=by simpa using ai
 have h9:=hone (f.cases.getD ci.toNat dE).of (hfr.cas (by simpa using c9) _ (Zr ω));generalize au:f.cases.getD ci.toNat dE=cc at *;generalize J1 mis d cc.of x q=r9 at *;obtain⟨p,no⟩:=r9;rw[hS]at o;simp only[mfT]at h9 o;refine xA (nd2 @ZeU (nd2 @eQ0 (nd2 @Zpc (nd2 @au @YE.cells.eq_1)))) ?_;refine clD (WG d cc.of (I d.msgs) (ZH9 _)) ?_;refine clD (h9) ?_;refine rt o ?_;rfl;rw[if_neg (by simpa using c9)]at hS;refine rg ?_;refine cd (λak=>?_) (λak=>?_);have ab:f.kind=12:=by simpa using ak
 rw[if_pos ab]at hS;have am:=hone f.of (hfr.ref (.inr (.inr ab)));have aj:=hlen ab;obtain⟨ae,af⟩:=hsz ω;generalize J1 mis d f.of x q=a6 at *;obtain⟨p,no⟩:=a6;simp only[mfT]at am aj hS;refine rg ?_;refine cl (am) ?_;refine rg ?_;refine cd (λh0=>?_) (λh0=>?_);rw[if_neg (by simpa using h0)]at hS;rw[hS]at o;refine rg ?_;refine rt o ?_;rfl;have ad:no=0:=by simpa using h0
 rw[if_pos ad]at hS;rw[hS]at o;obtain⟨hl1,ao⟩:=aj ad;have hr:=YX (l:=x.parts) (i:=0) ω;rw[ZIe]at ao;generalize x.parts.getD 0 dE=y at *;refine xA (nd2 @atV (nd2 @hr @eQ0)) ?_;refine clD (ao) ?_;refine clD (Zg1 f.size ae l af) ?_;refine clD Zg2 ?_;refine rt o ?_;rfl;rw[if_neg (by simpa using ak)]at hS;refine Zo (Zi (Zd ?_));refine kE [3] ?_;exact fin hS
def Za0(d:Dfn)(n:Nat)(m:Msg)(v:Val)(p:Str)(k:Nat):Str×Int :=
 if WH ((vfs m.fields).getD k dE).kind (v.parts.getD k dE) then (ZD p (ZT v.parts k),6)
 else Za7 (ZW d n) (lenS d n) d ((vfs m.fields).getD k dE) (v.parts.getD k dE) (ZD p (ZT v.parts k)) (Zdg m v.parts)
def ZjY(d n m v p):ZW d (n+1) m v p =
  if dC (v.name=m.name)&&(dC (v.int=0)&&(dC (I v.bytes=0)&&(dC (I v.hdrs=0)&&Kr m v.parts))) then (KE (Za0 d n m v p) (ZH5 (I v.parts))).getD ([],0) else (p,6):=rfl
def Zon(d fu im)(him:im<I d.msgs)(hm:(d.msgs.getD im dE).fields.length<=1000)(v p)(hps:I v.parts<=100000)(hnm:∀y∈v.parts,I y.name<=1000)(hq:I p<=1000000)(hpart:Kr (d.msgs.getD im dE) v.parts=true->∀k,k<I v.parts->(∀j,j<k->(Za0 d fu (d.msgs.getD im dE) v p j).2=0)->WH ((vfs (d.msgs.getD im dE).fields).getD k dE).kind (v.parts.getD k dE)=false ->
   Zc ZHP 40 [.agg d.cells,.agg ((vfs (d.msgs.getD im dE).fields).getD k dE).cells,.agg (v.parts.getD k dE).cells,.str (ZD p (ZT v.parts k)),ZfF (Zdg (d.msgs.getD im dE) v.parts)] (mfT (Za0 d fu (d.msgs.getD im dE) v p k))):
  Zc ZHP 20 [.agg d.cells,.i im,.agg v.cells,.str p] (mfT (ZW d (fu+1) (d.msgs.getD im dE) v p)):=by
 refine Ze (cR 20 f20) λF st o=>?_;generalize aj:d.msgs.getD im dE=m at *;have hS:=ZjY d fu m v p;generalize ZW d (fu+1) m v p=res at *;have hR:=Zth m v.parts;have hN:=ZpD m hm v.parts;rw[ZIe];have e1:dC (I v.bytes=0)=!dC (0<(I v.bytes:Int)):=by by_cases h:I v.bytes=0<;>simp[h];omega
 have e2:dC (I v.hdrs=0)=!dC (0<(I v.hdrs:Int)):=by by_cases h:I v.hdrs=0<;>simp[h];omega
 rw[e1,e2]at hS;cases hX:(((!dC (v.name=m.name)||!dC (v.int=0)) ||decide (0<(I v.bytes:Int))) ||decide (0<(I v.hdrs:Int))) with
 |true =>
  rw[if_neg (by
   clear hS;generalize dC (v.name=m.name)=b1 at *;generalize dC (v.int=0)=b2 at *;generalize dC (0<(I v.bytes:Int))=b3 at *;generalize dC (0<(I v.hdrs:Int))=b4 at *;cases b1<;>cases b2<;>cases b3<;>cases b4<;>simp_all)]at hS
  rw[hS]at o;simp only[mfT]at o;refine rx @eQ2 ?_;refine xA (nd2 @atM (nd2 @aj @eQ3)) ?_;refine rx (nd2 @Wc (nd2 @Zbt @hX)) ?_;refine Jv rfl (e:=.d (.bool false)) (Zk ?_);simp only[Eqs,reduceCtorEq,ZHV,reduceIte,ZHR,ZHY,ZHS];refine i1 ?_;refine rg ?_;refine rt o ?_;rfl
 |false =>
  refine rx @eQ2 ?_;refine xA (nd2 @atM (nd2 @aj @eQ3)) ?_;refine rx (nd2 @Wc (nd2 @Zbt @hX)) ?_;refine cG (hR) ?_;have hA:(dC (v.name=m.name)&&(dC (v.int=0)&&((!dC (0<(I v.bytes:Int)))&&((!dC (0<(I v.hdrs:Int)))&&Kr m v.parts))))=Kr m v.parts:=by clear hS;generalize dC (v.name=m.name)=b1 at *;generalize dC (v.int=0)=b2 at *;generalize dC (0<(I v.bytes:Int))=b3 at *;generalize dC (0<(I v.hdrs:Int))=b4 at *;cases b1<;>cases b2<;>cases b3<;>cases b4<;>simp_all
  rw[hA]at hS;refine cd (λhr=>?_) (λhr=>?_);rw[if_neg (by simpa using hr)]at hS;rw[hS]at o;simp only[mfT]at o;refine rg ?_;refine rt o ?_;rfl;have af:Kr m v.parts=true:=by simpa using hr
  rw[if_pos af]at hS;have ar:=hpart af;have ag:=af;unfold Kr at ag;rw[decide_eq_true_eq]at ag;have ad:(vfs m.fields).length=I v.parts:=by simpa using congrArg List.length ag
  refine rg ?_;refine cl (hN) ?_;refine gG ?_;refine Zb (fr (I m.fields) (λi Q=>∀k:Nat,i<=I m.fields->k=(vfs (m.fields.take i)).length->(∀j,j<k->(Za0 d fu m v p j).2=0)->Q [(3,.d (.str p)),(4,.loc 4 0),(6,.loc 6 0),(10,.loc 10 0),(11,.d (ZfF (Zdg m v.parts))),(12,.d (.i k)),(13,.d (.i i))] [(4,[.str d.name,Z0 d.msgs,.str d.start]),(6,[.str v.name,.i v.int,Zg v.bytes,Zx v.hdrs,Zu v.parts]),(10,[.str m.name,Zp m.fields])] st) (λn t=>?_) λav=>?_)
  .intro i hn k hi hk r;refine rx @ZaI ?_;refine cd (λh1=>?_) (λh1=>?_)
   .simp at h1;have ap:=λhh=>Zb9 hk h1 hh;have ac:=ZcC h1;generalize hf:m.fields.getD i dE=f at *;refine xA (nd2 @atF (nd2 @hf (nd2 @QL @Zau))) ?_;refine rx (nd2 @QL @Zau) ?_;refine cl (JO f) ?_;refine cd (λhh=>?_) (λhh=>?_);have ab:YD f=false:=by simpa using hh
    rw[if_neg (by rw[ab];simp),ZIj]at ac;refine gA ?_;refine Za ?_;exact t ((I m.fields)-(i+1)) ω (i+1) rfl k ω (by rw[ac];exact hk) r;have ab:YD f=true:=by simpa using hh
    rw[if_pos ab]at ac;obtain⟨u,ao⟩:=ap ab;rw[ad]at u;have ae:=ar k u r;have au:=Zb5 p v.parts k u hps hnm hq;have al:=YX (l:=v.parts) (i:=k) u;have hG:=Za0.eq_1 d fu m v p k;have ai:=Zgh (g:=Za0 d fu m v p) u r;have hk40:k<=i:=by rw[hk];exact Zpt
    rw[ao]at ae hG;have ah:=Zrg f.kind (v.parts.getD k dE);rw[ZIe]at ae ah;generalize v.parts.getD k dE=x at *;generalize ZD p (ZT v.parts k)=q at *;refine xA (nd2 @atV (nd2 @al (nd2 @QL @Zau))) ?_;refine cXD @ZdM (au) ?_;refine aa ?_;refine gA ?_;refine rx @eQ0 ?_;refine cl (ah) ?_;cases hu:WH f.kind x with
    |true =>rw[hu,if_pos rfl]at hG;rw[ai (by rw[hG];simp),hG]at hS;rw[hS]at o;simp only[mfT,ZIr]at o;refine i1 ?_;refine rg ?_;refine rt o ?_;rfl
    |false =>
     have ak:=ae hu;clear hG ah;generalize am:Za0 d fu m v p k=gk at *;obtain⟨pp,no⟩:=gk;simp only[mfT]at ak;refine i0 ?_;refine rx @eQ0 ?_;refine cl (ak) ?_;refine rg ?_;refine cd (λh0=>?_) (λh0=>?_);rw[ai (by simpa using h0)]at hS;rw[hS]at o;simp only[mfT,ZIr]at o;refine rg ?_;refine rt o ?_;rfl;have aq:no=0:=by simpa using h0
     rw[show(k:Int)+1=((k+1:Nat):Int) by omega];refine gA ?_;refine Za ?_;exact t ((I m.fields)-(i+1)) ω (i+1) rfl (k+1) ω (by rw[ac,ZHX,<-hk];rfl) (λj hj=>by
      by_cases an:j=k;rw[an,am];exact aq;exact r j ω)
   simp at h1;obtain rfl:i=I m.fields:=ω;rw[ZIb,ad]at hk;subst hk;rw[ZeP r]at hS;rw[hS]at o;simp only[mfT,Option.getD_none]at o;refine rg ?_;refine rt o ?_;rfl
  exact av _ 0 rfl 0 ω rfl (by intro j hj;omega)
structure ZbP(d:Dfn)(j i:Nat)(m:Msg)(f:Fld):Prop where
 nm:Yl f.name=true
 fresh:Yi m f.name i<0
 kind:1<=f.kind/\f.kind<=12
 ks:Kp d j m i f=0
def ZzY{d j i m f}(h:WY d j m i f=0):ZbP d j i m f:=by
 unfold WY at h;split at h;· omega
 rename_i o;split at h;· omega
 rename_i h2;split at h;· omega
 rename_i r;split at h;· omega
 simp only[ZId,decide_eq_true_eq,not_or,Int.not_lt]at r;exact⟨by simpa using o,ω,ω,h⟩
def ZdV.at_{d j m}(h:ZdV d j m){i}(o:i<I m.fields):ZbP d j i m (m.fields.getD i dE):=ZzY (h.field i o)
def NmU(l:List Fld):Prop:=∀a b,a<b->b<I l->(l.getD a dE).name≠(l.getD b dE).name
def ZdV.nmU{d j m}(h:ZdV d j m):NmU m.fields:=λa b o r=>by
 have i:=Zc7 (h.at_ r).fresh ((m.fields.take b).getD a dE) (Zr (by simp;omega));rw[W8 o]at i;simpa using i
def Zuf{i s}(h:Zat i s=0):ZU s=true/\∀t∈s.terms,∃j,j<I i/\(i.getD j dE).name=t.field/\Yy (i.getD j dE)=true:=by
 unfold Zat at h;split at h;· omega
 rename_i hv;split at h;· omega
 rename_i ha;refine⟨by simpa using hv,λt ht=>?_⟩;have o:=List.any_eq_false.1 (Bool.eq_false_iff.2 ha) t ht;unfold YO Z3 at o;split at o;simp at o;rename_i h2;split at o;rename_i r;have u:=Q6 (show 0<=Zl (λf=>dC (f.name=t.field)) i by omega);have h5:=YC (λf:Fld=>dC (f.name=t.field)) i;exact⟨_,ω,by simpa using u.1,r⟩;simp at o
def Zzd{n:Int}(h:n<=32):(2:Int) ^ n.toNat<=4294967296:=by
 have h1:2 ^ n.toNat<=2 ^ 32:=Nat.pow_le_pow_right ω ω;have h2:(2:Int) ^ n.toNat=((2 ^ n.toNat:Nat):Int):=(Int.natCast_pow 2 n.toNat).symm;generalize 2 ^ n.toNat=p at *;omega
def Zj2{f}(h:Kd f=0):(1<=f.bits/\f.bits<=32)/\0<=f.low/\f.low<=ZfY f/\ZfY f<4294967296:=by
 unfold Kd Q8 Zbw at h;split at h;· omega
 rename_i i;split at h;· omega
 rename_i o;simp only[ZId,decide_eq_true_eq,not_or]at i o;have:=Zzd (n:=f.bits) ω;omega
def ZbP.num{d j i m f}(h:ZbP d j i m f)(t:Yy f=true):0<=f.low/\(f.kind=2->f.low<34359738368)/\(f.kind≠2->f.high<34359738368):=by
 have o:=h.ks;unfold Yy at t;simp only[ZH1,decide_eq_true_eq]at t;unfold Kp at o;rcases(by omega:f.kind=1\/f.kind=2\/f.kind=3) with h1|h1|h1<;>simp only[h1,ZIt,if_true,if_false]at o;have:=Zj2 o;unfold ZfY at this;rw[if_neg ω]at this;omega;have:=Zj2 o;unfold ZfY at this;rw[if_pos h1]at this;omega;by_cases r:ZgG f.low f.high=true;unfold ZgG at r;simp only[ZH1,decide_eq_true_eq]at r;omega;rw[if_neg r]at o;omega
def ZbP.size{d j i m f}(h:ZbP d j i m f)(hi:i<I m.fields)(hz:f.kind=4\/f.kind=7\/f.kind=12):ZU f.size=true/\∀t∈f.size.terms,∃k,k<i/\(m.fields.getD k dE).name=t.field/\Yy (m.fields.getD k dE)=true:=by
 have hs:Zat (m.fields.take i) f.size=0:=by have o:=h.ks;unfold Kp at o;rcases hz with hz|hz|hz<;>simp only[hz,ZIt,if_true,if_false]at o;exact o;split at o;omega;exact o;split at o;omega;split at o;omega;exact o
 obtain⟨hv,ht⟩:=Zuf hs;refine⟨hv,λt h1=>?_⟩;obtain⟨k,h2,r,u⟩:=ht t h1;have o:k<i:=by rw[ZIa]at h2;omega
 rw[W8 o]at r u;exact⟨k,o,r,u⟩
def ZbP.tag{d j i m f}(h:ZbP d j i m f)(hi:i<I m.fields)(h9:f.kind=9):∃k,k<i/\(m.fields.getD k dE).name=f.tag/\Yy (m.fields.getD k dE)=true:=by
 have r:=h.ks;unfold Kp at r;simp only[h9,ZIt,if_true,if_false]at r;split at r;omega;rename_i o;unfold Zge at o;simp only[ZId,decide_eq_true_eq,Bool.not_eq_true',not_or]at o;have u:=Q6 (show 0<=Yi m f.tag i by omega);have h5:=YC (λg:Fld=>dC (g.name=f.tag)) (m.fields.take i);rw[ZIa,show Zl (λg:Fld=>dC (g.name=f.tag)) (m.fields.take i)=Yi m f.tag i from rfl]at h5;have t:=u.1;rw[show(Zl (λg=>dC (g.name=f.tag)) (m.fields.take i))=Yi m f.tag i from rfl,W8 ω]at t;exact⟨(Yi m f.tag i).toNat,ω,by simpa using t,by simpa using o.2.1⟩
def ZbP.fok{d j i m f}(h:ZbP d j i m f):FOk f:=by
 have o:=h.ks;unfold Kp at o;refine⟨λh1=>?_,λh1=>?_,λh1=>?_⟩;have:Kd f=0:=by rcases h1 with h1|h1<;>simp only[h1,ZIt,if_true,if_false]at o<;>exact o
 have:=(Zj2 this).1;omega;simp only[h1,ZIt,if_true,if_false]at o;split at o;omega;rename_i r;unfold ZfI at r;unfold Zci;simp only[ZH1,ZId,decide_eq_true_eq,Bool.not_eq_true',decide_eq_false_iff_not]at r⊢;omega;simp only[h1,ZIt,if_true,if_false]at o;split at o;omega;rename_i r;simp only[ZId,decide_eq_true_eq]at r;omega
def ZbP.fref{d j i m f}(h:ZbP d j i m f)(r:Zvl d j f):ZgK d f:=by
 refine⟨h.kind,λo=>(r.ref f.of ?_).1,λo c t=>(r.ref c.of ?_).1⟩;unfold Ya QA;rw[if_pos (by simp;omega)];simp;unfold Ya;rw[if_pos o,List.mem_append];exact .inr (List.mem_map_of_mem t)
def Qa.dok{d}(h:Qa d):DOk d:=λm hm=>by
 obtain⟨j,o,rfl⟩:=Zbv hm;refine⟨(h.msg o).many,λf r=>?_⟩;obtain⟨i,t,rfl⟩:=Zbv r;exact((h.msg o).at_ t).fok
def Qa.dref{d}(h:Qa d):ZrO d:=λm hm f t=>by
 obtain⟨j,r,rfl⟩:=Zbv hm;obtain⟨i,o,rfl⟩:=Zbv t;exact((h.msg r).at_ o).fref (h.fld r o)
def ZaX:∀{l k},k<(vfs l).length->∃a,a<I l/\YD (l.getD a dE)=true/\k=(vfs (l.take a)).length/\(vfs l).getD k dE=l.getD a dE
 | [],k,h=>by simp[vfs]at h
 |f::r,k,h=>by
  by_cases i:YD f=true
  .have e:vfs (f::r)=f::vfs r:=by unfold vfs;rw[List.filter_cons,if_pos i]
   cases k with
   |zero=>exact⟨0,ψ,by simpa using i,rfl,by rw[e];rfl⟩
   |succ k =>rw[e]at h;obtain⟨a,o,u,h3,h4⟩:=ZaX (l:=r) (k:=k) (by simpa using h);refine⟨a+1,by simpa using o,by simpa using u,?_,by rw[e];simpa using h4⟩;rw[List.take_succ_cons,show vfs (f::r.take a)=f::vfs (r.take a) by unfold vfs;rw[List.filter_cons,if_pos i],ZH3,h3]
  have e:∀t,vfs (f::t)=vfs t:=λt=>by unfold vfs;rw[List.filter_cons,if_neg i]
  rw[e]at h;obtain⟨a,o,u,h3,h4⟩:=ZaX (l:=r) (k:=k) h;exact⟨a+1,by simpa using o,by simpa using u,by rw[List.take_succ_cons,e];exact h3,by rw[e];simpa using h4⟩
def ZpV{l:List Fld}{a b}(h:a<b)(hb:b<I l)(r:YD (l.getD a dE)=true):(vfs (l.take a)).length<(vfs (l.take b)).length:=by
 have o:=(Zb9 (l:=l.take b) (i:=a) (k:=(vfs (l.take a)).length) (by rw[List.take_take,Nat.min_eq_left ω]) (by simp;omega) (by rw[W8 h];exact r)).1;exact o
def Zcg(l:List Fld)(ps:List Val)(i:Nat):Int:=if (l.getD i dE).kind=2 then (l.getD i dE).low else (ps.getD (vfs (l.take i)).length dE).int
def Zii{f}(h:Yy f=true)(h2:¬f.kind=2):YD f=true:=by
 unfold Yy at h;unfold YD;simp only[ZH1,decide_eq_true_eq,Bool.not_eq_true',decide_eq_false_iff_not]at h⊢;omega
def NmU.tail{f r}(h:NmU (f::r)):NmU r:=λa b ha i=>by
 have:=h (a+1) (b+1) ω (by simpa using i);simpa using this
def Zlm:∀{l ps i},i<I l->NmU l->Yy (l.getD i dE)=true->(YD (l.getD i dE)=true->(vfs (l.take i)).length<I ps)->YZ (l.getD i dE).name (J9 l ps)=Zcg l ps i
 | [],_,_,h,_,_,_=>by simp at h
 |f::r,ps,0,_,_,hn,hp=>by
  simp only[List.getD_cons_zero]at hn hp⊢;unfold Zcg J9;simp only[List.getD_cons_zero];by_cases h2:f.kind=2;rw[if_pos h2,if_pos h2];simp[YZ];have hv:=Zii hn h2;have h0:0<I ps:=by simpa[vfs]using hp hv
  rw[if_neg h2,if_neg h2,if_pos hv,hn,if_pos (by simp;omega)];simp[YZ,vfs]
 |f::r,ps,i+1,hi,hu,hn,hp=>by
  have o:=hu 0 (i+1) ω hi;simp only[List.getD_cons_zero,List.getD_cons_succ]at hn hp o⊢;have u:=hu.tail;unfold J9;have e1:YZ (r.getD i dE).name ((if f.kind=2 then [(f.name,f.low)] else [])++(if YD f then (if (dC (0<(I ps:Int))&&Yy f) then [(f.name,(ps.getD 0 dE).int)] else [])++J9 r (ps.drop 1) else J9 r ps))=YZ (r.getD i dE).name (if YD f then J9 r (ps.drop 1) else J9 r ps):=by
   have sk:∀{c:Prop} [Decidable c] (x:Int) (t:List (Str×Int)),YZ (r.getD i dE).name ((if c then [(f.name,x)] else [])++t)=YZ (r.getD i dE).name t:=λx t=>by split;exact if_neg o;rfl
   rw[sk];split;rw[sk];rfl
  rw[e1];by_cases hv:YD f=true;have e:vfs (f::r.take i)=f::vfs (r.take i):=by unfold vfs;rw[List.filter_cons,if_pos hv]
  rw[List.take_succ_cons,e,ZH3]at hp;rw[if_pos hv,Zlm (by simpa using hi) u hn (λh=>by have:=hp h;rw[ZIq];omega)];unfold Zcg;simp only[List.getD_cons_succ];rw[List.take_succ_cons,e,ZH3];simp[ZH6,List.getElem?_drop,Nat.add_comm];have e:vfs (f::r.take i)=vfs (r.take i):=by unfold vfs;rw[List.filter_cons,if_neg hv]
  rw[List.take_succ_cons,e]at hp;rw[if_neg hv,Zlm (by simpa using hi) u hn hp];unfold Zcg;simp only[List.getD_cons_succ];rw[List.take_succ_cons,e]
def Zis{l ps E s}:∀{n},(∀k,k<n->Yy (l.getD k dE)=true->(l.getD k dE).name≠s)->Zv s (Zd4 l ps E n)=Zv s E
 |0,_=>rfl
 |n+1,h=>by rw[Zd4];split;rename_i hn;rw[WZ,if_neg (λe=>h n ω hn e.symm)];exact Zis λk hk=>h k ω;exact Zis λk hk=>h k ω
def ZsP{l ps E k}:∀{n},k<n->Yy (l.getD k dE)=true->(∀j,k<j->j<n->(l.getD j dE).name≠(l.getD k dE).name)->Zv (l.getD k dE).name (Zd4 l ps E n)=sO (ps.getD k dE).int
 |0,h,_,_=>by omega
 |n+1,h,hn,hu=>by rw[Zd4];by_cases hk:k=n;subst hk;rw[if_pos hn,WZ,if_pos rfl];have ih:=ZsP (E:=E) (ps:=ps) (show k<n by omega) hn (λj i h2=>hu j i ω);split;rw[WZ,if_neg (λe=>hu n ω ω e.symm)];exact ih;exact ih
def ZsO{l k}:∀{n},k<n->(l.getD k dE).kind=2->(∀j,k<j->j<n->(l.getD j dE).name≠(l.getD k dE).name)->Zv (l.getD k dE).name (Zdf l n)=sO (l.getD k dE).low
 |0,h,_,_=>by omega
 |n+1,h,hn,hu=>by rw[Zdf];by_cases hk:k=n;subst hk;rw[if_pos hn,WZ,if_pos rfl];have ih:=ZsO (show k<n by omega) hn (λj i h2=>hu j i ω);split;rw[WZ,if_neg (λe=>hu n ω ω e.symm)];exact ih;exact ih
def NmU.ne{l}(h:NmU l){a b}(i:a≠b)(o:a<I l)(r:b<I l):(l.getD a dE).name≠(l.getD b dE).name:=by
 rcases Nat.lt_or_gt_of_ne i with h1|h1;exact h a b h1 r;exact(h b a h1 o).symm
def ZAp{m}(hu:NmU m.fields)(ps){i}(hi:i<I m.fields)(hn:Yy (m.fields.getD i dE)=true):Zv (m.fields.getD i dE).name (Zd3 m ps)=sO (Zcg m.fields ps i):=by
 unfold Zd3 Zcg;by_cases u:(m.fields.getD i dE).kind=2;rw[if_pos u,Zis λk hk _=>?_];exact ZsO hi u λj h1 h3=>hu.ne ω h3 hi;obtain⟨a,h3,t,_,h6⟩:=ZaX hk;rw[h6];refine hu.ne (λe=>?_) h3 hi;rw[e]at t;unfold YD at t;rw[u]at t;simp at t;have hv:=Zii hn u;obtain⟨h3,t⟩:=Zb9 rfl hi hv;rw[if_neg u];have h5:=ZsP (l:=vfs m.fields) (ps:=ps) (E:=Zdf m.fields (I m.fields)) h3 (by rw[t];exact hn) (λj h6 h7=>by
  obtain⟨a,h8,h9,o,r⟩:=ZaX h7;rw[r,t];exact hu.ne (λe=>by rw[e]at o;omega) h8 hi)
 rw[t]at h5;exact h5
def Zxu{d j m}(hm:ZdV d j m){n v p k a i}(hi:i<I m.fields)(hk:k=(vfs (m.fields.take i)).length)(r:∀j,j<k->(Za0 d n m v p j).2=0)(ha:a<i)(u:Yy (m.fields.getD a dE)=true):
  0<=Zcg m.fields v.parts a/\Zcg m.fields v.parts a<34359738368:=by
 have h1:=(hm.at_ (show a<I m.fields by omega)).num u;unfold Zcg;split;rename_i t;exact⟨h1.1,h1.2.1 t⟩;rename_i t;have hv:=Zii u t;obtain⟨h3,h4⟩:=Zb9 rfl (show a<I m.fields by omega) hv;have o:=r _ (by rw[hk];exact ZpV ha hi hv);unfold Za0 at o;rw[h4]at o;generalize v.parts.getD (vfs (m.fields.take a)).length dE=x at *;generalize m.fields.getD a dE=f at *;split at o;simp at o;unfold Yy at u;simp only[ZH1,decide_eq_true_eq]at u;unfold Za7 at o;rw[if_pos ω]at o;split at o;simp at o;have:=h1.2.2 t;omega
def Ziz{m}(hu:NmU m.fields){ps}(hr:Kr m ps=true){k}(hk:k<I ps):ZT ps k=(ps.getD k dE).name/\(ps.getD k dE).name=((vfs m.fields).getD k dE).name:=by
 unfold Kr at hr;rw[decide_eq_true_eq]at hr;have o:(vfs m.fields).length=I ps:=by simpa using congrArg List.length hr
 have r:∀i,i<I ps->(ps.getD i dE).name=((vfs m.fields).getD i dE).name:=λi u=>by
  have t:((vfs m.fields).map (·.name))[i]?=(ps.map Val.name)[i]?:=by rw[hr]
  simp[u,o]at t;simp[ZH6,u,o,t]
 refine⟨?_,r k hk⟩;have h0:QJ ps k=0:=by unfold QJ;rw[List.length_eq_zero_iff,List.filter_eq_nil_iff];intro x hx;obtain⟨i,u,rfl⟩:=Zbv hx;rw[ZIa]at u;rw[W8 ω,r i ω,r k hk];obtain⟨a,t,_,h3,h4⟩:=ZaX (l:=m.fields) (k:=i) ω;obtain⟨b,h5,_,h7,h8⟩:=ZaX (l:=m.fields) (k:=k) ω;rw[h4,h8,decide_eq_true_eq];exact hu.ne (λe=>by rw[e]at h3;omega) t h5
 unfold ZT;rw[if_pos h0]
def Qu(a s):(ZD a s).length<=I a+1+I s:=by
 unfold ZD;split;omega;simp;omega
def ZcR{ps}(hp:I ps<=5000)(o:∀y∈ps,I y.name<=32){k}(i:k<I ps):(ZT ps k).length<=5040:=by
 have h1:=o _ (Zr i);have h2:=Zhr ps k;have h3:=Zbm (QJ ps k);unfold ZT;split;omega;simp only[ZHX,ZH3,List.length_nil];omega
structure VOk(v:Val):Prop where
 ok:Yz v=true
 wt:wtN v<=5100
def VOk.part{v x}(h:VOk v)(i:x∈v.parts):VOk x:=⟨YA h.ok i,ZIy (ZkP i) h.wt⟩
def VOk.few{v}(h:VOk v):I v.parts<=5000:=by
 have h1:=Zps v;have h2:=h.wt;have h3:I v.parts<=nodesL v.parts:=by
  induction v.parts with
  |nil=>simp
  |cons x r ih=>have:=JN x;simp only[ZH3,nodesL];omega
 have h4:=JN v;omega
def VOk.node{v}(h:VOk v):(1<=I v.name/\I v.name<=32)/\(0<=v.int/\v.int<34359738368)/\I v.bytes<=1048576/\Zbc v.hdrs:=by
 have i:=KY (Kw h.ok);exact⟨i.1,i.2.1,i.2.2.1,ZxY (Kw h.ok)⟩
def VOk.name{v}(h:VOk v):∀y∈v.parts,I y.name<=32:=λy i=>(h.part i).node.1.2
def Zu6{d}(o:Qa d){n s y q}(u:0<=Zm d s (I d.msgs))(r:VOk y)(h:(ZW d n (Zs d s) y q).2=0):
  Zc ZHP 79 [.agg d.cells,.i (Zm d s (I d.msgs)),.agg y.cells] (.i (lenS d n (Zs d s) y)):=by
 have i:=WD u;have t:=ZdF o.dref n _ y q (o.dref.of s) r.ok h;rw[i.1];exact Zi0 d o.dok (by have:=o.many;omega) n (ixS d s) y i.2 r.ok r.wt t
def Zi1{d}(hd:Qa d):∀(n im v p),im<I d.msgs->VOk v->ZY v<=n->I p+10200*n<=1000000 ->
  Zc ZHP 20 [.agg d.cells,.i im,.agg v.cells,.str p] (mfT (ZW d n (d.msgs.getD im dE) v p))
 |0,_,v,_,_,_,hh,_=>by have:=KW v;omega
 |n+1,im,v,p,him,hv,hh,hp=>by
  have r:=hd.msg him;have hm40:=r.many;refine Zon d n im him ω v p (by have:=hv.few;omega) (λy hy=>by have:=hv.name y hy;omega) ω λhr k hk ac hu=>?_;have hlen:(vfs (d.msgs.getD im dE).fields).length=I v.parts:=by unfold Kr at hr;rw[decide_eq_true_eq]at hr;simpa using congrArg List.length hr
  obtain⟨i,hi,hvv,aj,ai⟩:=ZaX (l:=(d.msgs.getD im dE).fields) (k:=k) ω;have ab:=r.at_ hi;have u:=ab.fref (hd.fld him hi);have ag:v.parts.getD k dE∈v.parts:=Zr hk;have o:=hv.part ag;have hql:(ZD p (ZT v.parts k)).length<=I p+5041:=by have h1:=Qu p (ZT v.parts k);have h2:=ZcR hv.few hv.name hk;omega
  have hxh:ZY (v.parts.getD k dE)<=n:=by have h1:=ZaV ag;have h2:=KW v;omega
  have hG:=Za0.eq_1 d n (d.msgs.getD im dE) v p k;rw[hu,if_neg ψ]at hG;have ae:=λa ha hn=>Zxu r (n:=n) (v:=v) (p:=p) hi aj ac (a:=a) ha hn;have af:∀a,a<i->Yy ((d.msgs.getD im dE).fields.getD a dE)=true->YZ ((d.msgs.getD im dE).fields.getD a dE).name (Zdg (d.msgs.getD im dE) v.parts)=Zcg (d.msgs.getD im dE).fields v.parts a:=λa ha hn =>
   Zlm ω r.nmU hn λal=>by have:=ZpV ha hi al;omega
  rw[hG,ai];generalize ZD p (ZT v.parts k)=q at *;generalize v.parts.getD k dE=x at *;have hrec:∀s,0<=Zm d s (I d.msgs)->∀j,j<I x.parts->Zc ZHP 20 [.agg d.cells,.i (Zm d s (I d.msgs)),.agg (x.parts.getD j dE).cells,.str (ZD q (ZT x.parts j))] (mfT (ZW d n (Zs d s) (x.parts.getD j dE) (ZD q (ZT x.parts j)))):=λs hs j hj=>by have ad:=WD hs;have ah:x.parts.getD j dE∈x.parts:=Zr hj;have h1:=Qu q (ZT x.parts j);have h2:=ZcR o.few o.name hj;have h3:=ZaV ah;have h4:=KW x;rw[ad.1];exact Zi1 hd n (ixS d s) _ _ ad.2 (o.part ah) ω ω
  refine Zt9 d _ x q _ (ZW d n) (lenS d n) (λhz=>?_) o.node.2.2.2 o.node.2.2.1 (λh12 h0=>?_) (by have:=o.few;omega) (λy hy=>by have:=o.name y hy;omega) ω (λh7 j hj=>?_) u (λs hs=>?_);obtain⟨h1,h2⟩:=ab.size hi hz;refine⟨h1,λt ht=>?_⟩;obtain⟨a,ha,ak,hn⟩:=h2 t ht;rw[<-ak,af a ha hn];exact ae a ha hn;obtain⟨h1,h2⟩:=Zpv h0;exact⟨h1,Zu6 hd (u.ref ω) (o.part (Zr ω)) h2⟩;exact hrec _ (u.ref ω) j hj;exact Zv0 d s x q (ZW d n) (by have:=o.few;omega) (λy hy=>by have:=o.name y hy;omega) ω λhl=>hrec s hs 0 ω
def ZcQ(l)(hl:I l<=140737488351232)(st):Zf ZHP 18 [Zg l] st (λr s=>r=.ret (Zg l)/\s=st):=by
 refine Zh (cR 18 f18) λF hF=>?_;by_cases h0:I l=0;have ab:l=[]:=List.eq_nil_of_length_eq_zero h0;subst ab;refine ZeK 0 rfl ?_ λb off cap=>?_
 skip
 refine rx (nd2 @Zg.eq_1 @eQ1) ?_;refine rg ?_;refine i1 ?_;refine rg ?_;exact hF.ret _ st rfl φ (K1 (Z1 λb h=>by cases h)) ZHU ⟨rfl,rfl⟩
 skip
 refine rx (nd2 @Zg.eq_1 @eQ1) ?_;refine rg ?_;refine iG ?_;refine ZeJ (s:=st) (t:=.full) (m:=0) (row2:=λ_=>[]) rfl rfl rfl rfl rfl φ φ (λg w v h=>Zgn h) trivial (by decide) (by unfold big;decide) λt1 o=>?_;refine gR0 ?_;exact hF.ret _ st rfl φ (K1 ((Zy.nil (f:=u8C)).le rfl)) (Yj o) ⟨rfl,rfl⟩
 skip
 refine rx (nd2 @Zg.eq_1 @eQ1) ?_;refine gA ?_;refine iG ?_;refine Y2 (st) (.full) rfl rfl rfl rfl rfl rfl φ φ rfl (by first|trivial|assumption) ω (by (unfold big;omega)) λt1 o=>Zk ?_;simp only[Eqs,reduceCtorEq,ZHV,reduceIte,ZHR,ZHY,ZHS];have u:Zy u8C (Yd 0 (ZI [.int .u8 0] ([].zip [])) λi=>u8C (l.getD i dE)) ([]++l):=Zy.nil.app Zy.self rfl;exact hF.ret _ st rfl φ (K1 (u.le ψ)) (Yj o) ⟨rfl,rfl⟩
def Q1(l)(hl:I l<=1000000000)(st):Zf ZHP 18 [Zg l] st (λr s=>r=.ret (Zg l)/\s=st):=ZcQ l ω st
def Zg8(l)(hl:I l*32<=140737488351232)(st):Zf ZHP 22 [Zx l] st (λr s=>r=.ret (Zx l)/\s=st):=by
 refine Zh (cR 22 f22) λF hF=>?_;by_cases h0:I l=0;have ab:l=[]:=List.eq_nil_of_length_eq_zero h0;subst ab;refine ZeK 0 rfl ?_ λb off cap=>?_
 skip
 refine rx (nd2 @Zx.eq_1 @eQ1) ?_;refine rg ?_;refine i1 ?_;refine rg ?_;exact hF.ret _ st rfl φ (K1 (Z1 λb h=>by cases h)) ZHU ⟨rfl,rfl⟩
 skip
 refine rx (nd2 @Zx.eq_1 @eQ1) ?_;refine rg ?_;refine iG ?_;refine ZeJ (s:=st) (t:=.full) (m:=0) (row2:=λ_=>[]) rfl rfl rfl rfl rfl φ φ (λg w v h=>Zgn h) trivial (by decide) (by unfold big;decide) λt1 o=>?_;refine gR0 ?_;exact hF.ret _ st rfl φ (K1 ((Zy.nil (f:=Hdr.cells)).le rfl)) (Yj o) ⟨rfl,rfl⟩
 skip
 refine rx (nd2 @Zx.eq_1 @eQ1) ?_;refine gA ?_;refine iG ?_;refine Y2 (st) (.full) rfl rfl rfl rfl rfl rfl φ φ rfl (by first|trivial|assumption) ω (by (unfold big;omega)) λt1 o=>Zk ?_;simp only[Eqs,reduceCtorEq,ZHV,reduceIte,ZHR,ZHY,ZHS];have u:Zy Hdr.cells (Yd 0 (ZI [.str [],.str []] ([].zip [])) λi=>Hdr.cells (l.getD i dE)) ([]++l):=Zy.nil.app Zy.self rfl;exact hF.ret _ st rfl φ (K1 (u.le ψ)) (Yj o) ⟨rfl,rfl⟩
def ZtO(row n):(ZH5 n).flatMap row=Wg row n:=by
 induction n with
 |zero=>rfl
 |succ n ih=>rw[List.range_succ,List.flatMap_append,ih,Wg];simp
def Zja(st):Zf ZHP 23 [Zu []] st (λr s=>r=.ret (Zu [])/\s=st):=by
 refine Zh (cR 23 f23) λF hF=>?_;have hz:∀(tk:Tok) (row:Nat->List D),(D.sl tk 0 5 row).Le (Zu []):=λtk row g w v hv=>by
  cases hv with
  |sl0 a _ _ _ ht=>exact .sl0 _ _ _ _ ψ
  |sl b o n cap s row t f hl hc hp hr one ht hcap hb=>exact .sl _ _ _ _ _ _ _ f (λi hi=>by omega) hc hp (λi j d hi=>by omega) one trivial hcap hb
 refine ZeK 0 rfl ?_ λb off cap=>?_
 skip
 refine gG ?_;refine i1 ?_;refine rg ?_;exact hF.ret _ st rfl φ (K1 (Z1 λb h=>by cases h)) ZHU ⟨rfl,rfl⟩
 skip
 refine gG ?_;refine iG ?_;refine ZeJ (s:=st) (t:=.full) (m:=0) (row2:=λ_=>[]) rfl rfl rfl rfl rfl φ φ (λg w v h=>Zgn h) trivial (by decide) (by unfold big;decide) λt1 u=>?_;refine gR0 ?_;exact hF.ret _ st rfl φ (K1 (hz _ _)) (Yj u) ⟨rfl,rfl⟩
def Zjb(l)(hl:I l*96<=140737488351232)(hp:0<I l)(st):Zf ZHP 23 [Zu l] st λr S=>∃b c X,st b=nO/\I l<=c/\r=.ret (.msl b 0 (I l) c 5)/\S=st.upd b (.cells (Wg (Za8 l) (I l)++X)):=by
 refine Zh (cR 23 f23) λF u=>?_;have o:=ZtO (Za8 l) (I l);refine rx @Zu.eq_1 ?_;refine gA ?_;refine iG ?_;refine ZkT rfl rfl rfl rfl rfl rfl φ φ (by exact hp) ω (by unfold big;omega) λb t hb i=>Zk ?_;simp only[Eqs,reduceCtorEq,ZHV,reduceIte,ZHR,ZHY,ZHS];rw[o];exact u.ret _ _ rfl φ (ZHT _) ZHU ⟨b,t,_,hb,i,rfl,rfl⟩
structure CpI(T A:St)(v:Val)(x:Nat)(row:Nat->List D)(f:Nat->List Nat)(X:List D)(i:Nat):Prop where
 b:A x=some (.cells (Wg row (I v.parts)++X))
 x0:T x=none
 done:∀j,j<i->j<I v.parts->MT A (v.parts.getD j default) (row j) (f j)
 rest:∀j,i<=j->j<I v.parts->row j=(v.parts.getD j default).cells
 n:∀j,j<i->x∉f j
 fr:∀j,j<i->∀y∈f j,T y=none
 d:∀j k,j<i->k<i->j≠k->∀y∈f j,y∉f k
 out:∀y,y≠x->(∀j,j<i->y∉f j)->A y=T y
def CpI.len{T A v x row f X i}(h:CpI T A v x row f X i):∀j,j<I v.parts->(row j).length=5:=λj o=>by
 by_cases r:j<i;exact(h.done j r o).len;rw[h.rest j ω o];exact Val.len _
def Zub{c d}(h:I c=I d):ZF c 0 d=d:=by
 unfold ZF;rw[List.take_zero,Nat.zero_add,List.drop_eq_nil_of_le ω];simp
def CpI.step{T A v x row f X i}(h:CpI T A v x row f X i)(hi:i<I v.parts){S c fp}(hm:MT S (v.parts.getD i dE) c fp)(hf:∀y∈fp,A y=nO)(ho:∀y,y∉fp->S y=A y):CpI T (S.upd x (.cells (ZF (Wg row (I v.parts)++X) (i*5) c))) v x (λj=>if j=i then c else row j) (λj=>if j=i then fp else f j) X (i+1):=by
 have hx:x∉fp:=λhx=>by have:=hf x hx;rw[h.b]at this;simp at this
 have hj:∀j,j<i->∀y∈f j,y∉fp:=λj hj y hy r=>by obtain⟨ds,ac⟩:=(h.done j hj ω).live y hy;have:=hf y r;rw[ac]at this;simp at this
 have u:∀{y:Nat},y≠x->(S.upd x (.cells (ZF (Wg row (I v.parts)++X) (i*5) c))) y=S y:=λhy=>ZH0 _ _ hy;refine⟨?_,h.x0,λj o t=>?_,λj o t=>?_,λj o=>?_,λj o y hy=>?_,λj k o hk1 ad y hy=>?_,λy hy r=>?_⟩;rw[ZHW];have:=Zql X 0 c (by rw[hm.len];decide) (λj hj=>h.len j hj) hi;rw[Nat.add_zero]at this;rw[this,Zub (by rw[h.len i hi,hm.len])];by_cases e:j=i;subst e;rw[if_pos rfl,if_pos rfl];exact hm.mono λy hy=>u λe=>hx (e▸hy);rw[if_neg e,if_neg e];refine(h.done j ω t).mono λy hy=>?_;rw[u (λe2=>h.n j ω (e2▸hy))];exact ho y (hj j ω y hy);rw[if_neg ω];exact h.rest j ω t;by_cases e:j=i;rw[if_pos e];exact hx;rw[if_neg e];exact h.n j ω;by_cases e:j=i;rw[if_pos e]at hy;have h1:=hf y hy;rw[h.out y (λe2=>hx (e2▸hy)) (λk hk ab=>hj k hk y ab hy)]at h1;exact h1;rw[if_neg e]at hy;exact h.fr j ω y hy;by_cases e:j=i;rw[if_pos e]at hy;rw[if_neg ω];exact λab=>hj k ω y ab hy;rw[if_neg e]at hy;by_cases e2:k=i;rw[if_pos e2];exact hj j ω y hy;rw[if_neg e2];exact h.d j k ω ω ad y hy;have h1:=r i ω;rw[if_pos rfl]at h1;rw[u hy,ho y h1];refine h.out y hy λj hj=>?_;have:=r j ω
 rwa [if_neg ω]at this
def CpI.fin{T A v x cap row f X}(h:CpI T A v x row f X (I v.parts))(u:0<I v.parts)(r:I v.parts<=cap):
  ∃fp,MT A v [.str v.name,.i v.int,Zg v.bytes,Zx v.hdrs,.msl x 0 (I v.parts) cap 5] fp/\(∀y∈fp,T y=nO)/\∀y,y∉fp->A y=T y:=by
 refine⟨x::(ZH5 (I v.parts)).flatMap f,MN.mt ⟨rfl,h.b,r,λj i=>h.done j i i,λj i=>h.n j i,λj k i t=>h.d j k i t,rfl⟩ u,λy o=>?_,λy o=>?_⟩;simp only[ZIs,List.mem_flatMap,List.mem_range]at o;rcases o with rfl|⟨j,i,o⟩;exact h.x0;exact h.fr j i y o;simp only[ZIs,List.mem_flatMap,List.mem_range,not_or,not_exists,not_and]at o;exact h.out y o.1 λj i=>o.2 j i
structure SmV(v:Val):Prop where
 b:I v.bytes<=2000000
 h:I v.hdrs<=2000000
 p:I v.parts<=1000000
def VOk.sm{v}(h:VOk v):SmV v:=by
 have h1:=KY (Kw h.ok);have i:=h.wt;have o:∀l:List Val,10*I l<=wtL l:=λl=>by
  induction l with
  |nil=>simp
  |cons x r ih=>have:=JT x;simp only[wtL,ZH3];omega
 have h4:=o v.parts;rw[JT]at i;exact⟨ω,ω,ω⟩
def ZBF(v:Val):Prop:=I v.bytes<=140737488351232/\I v.hdrs*32<=140737488351232/\I v.parts*96<=140737488351232
mutual
def ZeB:Val->Prop
 |.mk n i b h p=>ZBF (.mk n i b h p)/\rchL p
def rchL:List Val->Prop
 | []=>True
 |v::r=>ZeB v/\rchL r
end
def Zzl{l}:rchL l↔∀x∈l,ZeB x:=by
 induction l with
 |nil=>simp[rchL]
 |cons v r ih=>simp[rchL,ih]
def Ziv{v}:ZeB v↔ZBF v/\∀x∈v.parts,ZeB x:=by
 cases v;simp only[ZeB,Zzl];rfl
def VOk.rch{v}:VOk v->ZeB v:=by
 induction v using Val.ind with
 |h v ih =>intro o;have i:=o.sm;have hsb:=i.b;have hsh:=i.h;have hsp:=i.p;exact Ziv.2 ⟨⟨ω,ω,ω⟩,λx r=>ih x r (o.part r)⟩
def ZhN(v):ZeB v->∀T:St,Zf ZHP 11 [.agg v.cells] T λr S=>∃c fp,r=.ret (.agg c)/\MT S v c fp/\(∀y∈fp,T y=nO)/\∀y,y∉fp->S y=T y:=by
 induction v using Val.ind with
 |h v ih =>
  intro hv T;obtain⟨⟨hsb,hsh,ah⟩,ag⟩:=Ziv.1 hv;refine Zh (cR 11 f11) λF hF=>?_;rw[v.cells_eq];refine gG ?_;have c9:=(ZcQ v.bytes ω T);refine cVD (c9) ?_ ?_;rintro dd S ⟨hr,hS⟩;obtain rfl:=hS.symm;cases hr;refine kF ?_;refine gR0 ?_;have c9:=(Zg8 v.hdrs ω T);refine cVD (c9) ?_ ?_;rintro dd S ⟨hr,hS⟩;obtain rfl:=hS.symm;cases hr;refine kF ?_;refine gR0 ?_;by_cases h0:I v.parts=0;have u:v.parts=[]:=List.eq_nil_of_length_eq_zero h0;rw[u];refine cVD ((Zja T)) ?_ ?_;rintro dd S ⟨hr,hS⟩;obtain rfl:=hS.symm;cases hr;refine kF ?_;refine gR0 ?_;refine aa ?_;refine rx @KN ?_;refine Zb (Qm ?_);refine rg ?_;refine iG ?_;exact hF.ret _ T rfl ψ (ZHT _) ZHU ⟨_,[],rfl,by cases v;simp only[Val.parts]at u;subst u;exact .leaf _ _ _ _,ψ,λ_ _=>rfl⟩;rintro d S ⟨hr,_⟩;cases hr
  skip
  have c9:=(Zjb v.parts ah ω T);refine cVD (c9) ?_ ?_;rintro dd S ⟨x,c,X,hx,hc,hr,hS⟩;subst hS;cases hr;refine kF ?_;refine gR0 ?_;refine aa ?_;refine rg ?_;refine Zb (fr (I v.parts) (λi Q=>∀row f A,CpI T A v x row f X i->i<=I v.parts->Q [(1,.loc 1 0),(2,.loc 2 0),(18,.d (.i (I v.parts))),(19,.d (.i i))] [(1,[.str v.name,.i v.int,Zg v.bytes,Zx v.hdrs,.msl x 0 (I v.parts) c 5]),(2,[.str [],.i 0,.nilsl,.nilsl,.nilsl])] A) (λn ab=>?_) λai=>?_);intro i hn row f A hA hi;refine rg ?_;refine Zd (Zj rfl trivial (λhd=>?_) (λhd=>?_));simp only[decide_eq_true_eq]at hd;have t:i<I v.parts:=ω;have o:=Zib X hA.len t;unfold part at o;rw[hA.rest i (ZH9 _) t]at o;have ac:=ZcK hA.len;have hb:=hA.b;refine rg ?_;refine rx (nd2 @hb @o) ?_;refine⟨ω,ω,by rw[ZHX,ac];omega,?_⟩;refine cVD (ih _ (Zr t) (ag _ (Zr t)) A) ?_ ?_;rintro dd S ⟨cc,fp,hr,hm,hf,ho⟩;cases hr;have ae:S x=A x:=ho x λhx=>by have:=hf x hx;rw[hb]at this;simp at this
  rw[hb]at ae;have ad:=hA.step t hm hf ho;have af:=hm.len;unfold ZF at ad;rw[af]at ad;refine kF ?_;refine gQ (nd2 @ae @af) ?_;refine⟨ω,ω,by rw[ZHX,ac];omega,?_⟩;refine gA ?_;refine Za ?_;exact ab ((I v.parts)-(i+1)) ω (i+1) rfl _ _ _ ad ω;rintro d S ⟨_,_,hr,_⟩;cases hr;simp only[decide_eq_false_iff_not]at hd;obtain rfl:i=I v.parts:=ω;obtain⟨fp,h1,h2,h3⟩:=hA.fin ω hc;refine rg ?_;exact hF.ret _ A rfl ψ (ZHT _) ZHU ⟨_,fp,rfl,h1,h2,h3⟩;exact ai _ 0 rfl (Za8 v.parts) (λ_=>[]) _ ⟨ZHW _ _ _,hx,λj hj=>by omega,λj _ hj=>ZcP hj,λj hj=>by omega,λj hj=>by omega,λj k hj=>by omega,λy hy _=>ZH0 _ _ hy⟩ ω;rintro d S ⟨_,_,_,_,_,hr,_⟩;cases hr;rintro d S ⟨hr,_⟩;cases hr;rintro d S ⟨hr,_⟩;cases hr
def Zrq(v)(i:VOk v)(T:St):Zf ZHP 11 [.agg v.cells] T λr S=>∃c fp,r=.ret (.agg c)/\MT S v c fp/\(∀y∈fp,T y=nO)/\∀y,y∉fp->S y=T y:=ZhN v i.rch T
abbrev ZoL(l:List Str):D:=slD 1 Zdo l
def ZhJ(l)(hl:I l<=1000000)(f st)(hf:∀x∈l,VT ZHP f [.str x] st (.bool false) st):ZL ZHP 291 [ZoL l,f] st (.i (-1)) st:=by
 refine ZE (cR 291 f291) λ_ F r=>?_;refine rg ?_;refine rx @eQ1 ?_;refine Zb (fr (I l) (λi Q=>i<=I l->Q [(0,.d (ZoL l)),(1,.d f),(7,.d (.i (I l))),(8,.d (.i i))] [] st) (λn o=>?_) λu=>?_);intro i hn hi;refine rg ?_;refine Zd (Zj rfl trivial (λh1=>?_) (λh1=>?_));simp at h1;have t:=hf _ (Zr h1);refine rg ?_;refine xA (nd2 @eQ1 @Zdo.eq_1) ?_;refine cW (t) ?_;refine i0 ?_;refine gA ?_;refine Za ?_;exact o ((I l)-(i+1)) ω (i+1) rfl ω;refine rg ?_;exact r rfl φ (ZHT _) ZHU;exact u _ 0 rfl ω
def Zg9(l)(t:I l<=1000000)(f st)(r:∀x∈l,VT ZHP f [.str x] st (.bool false) st):ZL ZHP 239 [ZoL l,f] st (ZoL l) st:=by
 refine ZE (cR 239 f239) λ_ F i=>?_;have o:=ZhJ l t f st r;refine gG ?_;refine ct (o) ?_;refine aa ?_;refine rg ?_;refine i1 ?_;refine rg ?_;exact i rfl φ (ZHT _) ZHU
def ZpJ{a s}(t:a≠[])(hs:s≠[])(hl:I a<=10000000)(hl2:I s<=10000000):Zc ZHP 186 [ZoL [a,s]] (.str (ZD a s)):=by
 refine Ze (cR 186 f186) λF st o=>?_;have u:=Zg9 [a,s] ψ (.fn (.func 240) [] []) st (λx hx=>by
  have h:=(Zgw x).VT (first:=[]) (args:=[_]) (caps:=[]) st;rw[decide_eq_false (λe=>by rw[e]at hx;simp at hx;rcases hx with hx|hx<;>simp_all)]at h;exact h)
 have i:joinL [a,s] [46]=ZD a s:=by simp[joinL,ZD,t,List.intercalate]
 have r:=ZgB [a,s] ψ (by rw[i];have:=Qu a s;omega);rw[i]at r;refine gG ?_;refine ct (u) ?_;refine cl (r) ?_;refine rs o ?_;rfl
def Zqp{a s}(r:a≠[])(u:s≠[])(t:I a<=10000000)(o:I s<=10000000):Zc ZHP 186 [.sl .full 2 1 (ZI [.str []] ([0,1].zip [.str a,.str s]))] (.str (ZD a s)) :=
 Zc.leA (LeC.one (Zca rfl λi hi=>by rcases(by omega:i=0\/i=1) with rfl|rfl<;>rfl)) (ZpJ r u t o)
def ZK(r:Str×Int)(st:St)(x:Res)(S:St):Prop:=S=st/\x=mfR r.1 r.2
def WA(a b:Str×Int):Str×Int:=if a.2=0 then b else a
def mfK{r st}{A:D->St->Prop}(h:r.2=0->A (.tup []) st):∀d S,ZK r st (.ret d) S->A d S:=λd S ⟨t,i⟩=>by
 subst t;unfold mfR at i;split at i;rename_i o;cases i;exact h o;cases i
def mfP{r st}{A:D->St->Prop}(h:¬r.2=0->A (mfD r.1 r.2) st):∀d S,ZK r st (.panic d) S->A d S:=λd S ⟨t,i⟩=>by
 subst t;unfold mfR at i;split at i;cases i;rename_i o;cases i;exact h o
def ZK.ok{r st}(h:r.2=0):ZK r st (.ret (.tup [])) st:=⟨rfl,by unfold mfR;rw[if_pos h]⟩
def ZK.bad{r R st}(h:¬r.2=0)(i:R=r):ZK R st (.panic (mfD r.1 r.2)) st:=by
 subst i;exact⟨rfl,by unfold mfR;rw[if_neg h]⟩
def Qd{a b}(h:a.2=0):WA a b=b:=if_pos h
def KJ{a b}(h:¬a.2=0):WA a b=a:=if_neg h
def KR(fine q no)(i:¬no=0)(st):Zf ZHP 145 [.bool fine,.str q,.i no] st (ZK (q,if fine then 0 else no) st) :=
 (ZeC fine q no st).mono λr S ⟨o,t⟩=>⟨o,by rw[t];cases fine<;>simp[mfR,i]⟩
def Zkt(a b q st):Zf ZHP 190 [.i a,.i b,.str q] st (ZK (q,K3 a b) st) :=
 (Zud a b q st).mono λr S ⟨i,o⟩=>⟨i,o⟩
def ZoR(n b h p:Bool)(x:Val):Bool:=(((n ||decide (x.int=0))&&(b ||decide ((I x.bytes:Int)=0)))&&(h ||decide ((I x.hdrs:Int)=0)))&&(p ||decide ((I x.parts:Int)=0))
def Zdt(n b h p:Bool)(x:Val)(q:Str):Str×Int:=(q,if ZoR n b h p x then 0 else 6)
structure ZcV(st:St)(b3 b4 b5 b6 b7 b:Nat)(d:Dfn)(m:Msg)(pth:Str)(l:List (Str×Int))(f:Fld)(x:Val)(q:Str):Prop where
 p:st b3=some (.cells (Ke m d pth b))
 f:st b4=some (.cells f.cells)
 x:st b5=some (.cells [.str x.name,.i x.int,Zg x.bytes,Zx x.hdrs,Zu x.parts])
 q:st b6=some (.cells [.str q])
 u:st b7=some (.cells [.fn (.func 187) [] [.ptr b5 0,.ptr b6 0]])
 m:st b=some (.map (KB l))
section
variable {st:St} {b3 b4 b5 b6 b7 bm:Nat} {d:Dfn} {m:Msg} {pth:Str} {l:List (Str × Int)} {f:Fld} {x:Val} {q:Str}
def QP(r:ZcV st b3 b4 b5 b6 b7 bm d m pth l f x q)(n b h p):KC ZHP (.fn (.func 187) [] [.ptr b5 0,.ptr b6 0]) [.bool n,.bool b,.bool h,.bool p] st (ZK (Zdt n b h p x q) st):=by
 refine Zf.V (first:=[]) (args:=[_,_,_,_]) (caps:=[_,_]) ?_;refine Zh (cR 187 f187) λF o=>?_;have u:=r.x;have h6:=r.q;have hU:=ZoR.eq_1 n b h p x;refine rx (nd2 @u (nd2 @h6 (nd2 @Wc (nd2 @Zbt @KN)))) ?_;rw[<-hU];have t:=KR (ZoR n b h p x) q 6 (by decide) st;refine cV (t) ?_ ?_;refine mfK λi=>?_;refine gR0 ?_;exact o.fin (.tup []) st rfl trivial (ZHT _) ZHU (ZK.ok i);exact mfP λi=>o.pan st ZHU (ZK.bad i rfl)
def Zgy(i:ZcV st b3 b4 b5 b6 b7 bm d m pth l f x q):
  Zf ZHP 188 [.ptr b7 0,.ptr b5 0,.ptr b4 0,.ptr b6 0] st (ZK (WA (Zdt true false false false x q) (q,if dC (f.low<=x.int)&&dC (x.int<=f.high) then 0 else 3)) st):=by
 refine Zh (cR 188 f188) λF r=>?_;have hu:=QP i true false false false;refine rx @i.u ?_;refine vV (hu) ?_ ?_;refine mfK λo=>?_;rw[Qd o]at r;refine gR0 ?_;refine rx (nd2 @i.x (nd2 @i.f (nd2 @i.q @eQ0))) ?_;have u:=KR (dC (f.low<=x.int)&&dC (x.int<=f.high)) q 3 (by decide) st;refine cV (u) ?_ ?_;refine mfK λt=>?_;refine gR0 ?_;exact r.fin (.tup []) st rfl trivial (ZHT _) ZHU (ZK.ok t);exact mfP λt=>r.pan st ZHU (ZK.bad t rfl);exact mfP λo=>r.pan st ZHU (ZK.bad o (KJ o))
def Zoy(i:ZcV st b3 b4 b5 b6 b7 bm d m pth l f x q)(hv:ZU f.size=true)(hk:∀t∈f.size.terms,∃v,Zv t.field l=sO v/\0<=v/\v<34359738368):
  Zf ZHP 189 [.ptr b7 0,.ptr b5 0,.ptr b3 0,.ptr b4 0,.ptr b6 0] st (ZK (WA (Zdt false true false false x q) (q,K3 (I x.bytes) (Za4 f.size l))) st):=by
 refine Zh (cR 189 f189) λF r=>?_;have hu:=QP i false true false false;have hz:=Za1 m d pth f hv bm l st i.m hk;refine rx @i.u ?_;refine vV (hu) ?_ ?_;refine mfK λo=>?_;rw[Qd o]at r;refine gR0 ?_;have hp:=i.p;have hf:=i.f;refine rx (nd2 @i.x (nd2 @hp (nd2 @hf (nd2 @i.q (nd2 @Wc (nd2 @Ke.eq_1 @eQ0)))))) ?_;refine cVD (hz) ?_ ?_;rintro dd S ⟨hd,rfl⟩;cases hd;refine kF ?_;refine gR0 ?_;refine cVD (Zkt (I x.bytes) (Za4 f.size l) q S) ?_ ?_;refine mfK λu=>?_;refine kF ?_;refine gR0 ?_;exact r.fin (.tup []) S rfl trivial (ZHT _) ZHU (ZK.ok u);exact mfP λu=>r.pan S ZHU (ZK.bad u rfl);rintro dd S ⟨hd,_⟩;cases hd;exact mfP λo=>r.pan st ZHU (ZK.bad o (KJ o))
end
def ZiI(l v):Zc ZHP 242 [Zg l,.int .u8 v] (.i (Zl (λx=>dC (v=x.toNat)) l)):=by
 refine ZO (cR 242 f242) λab F st r=>?_;have hw:=(Y4 (ab (Zg l) ψ)).1;unfold big at hw;clear ab;refine rg ?_;refine rx @Wc ?_;refine Zb (fr (I l) (λi Q=>i<=I l->(∀j,j<i->dC (v=(l.getD j dE).toNat)=false)->Q [(0,.d (Zg l)),(1,.d (.int .u8 v)),(7,.d (.i (I l))),(8,.d (.i i))] [] st) (λn o=>?_) λac=>?_);intro i hn hi t;refine rg ?_;refine Zd (Zj rfl trivial (λh1=>?_) (λh1=>?_));simp at h1;refine rg ?_;refine xA (nd2 @ZgL @u8C.eq_1) ?_;refine cd (λh2=>?_) (λh2=>?_);have e1:=Wv (p:=λx:UInt8=>dC (v=x.toNat)) h1 h2 t;refine rg ?_;refine ri r ?_;exact e1.symm;refine gA ?_;refine Za ?_;exact o ((I l)-(i+1)) ω (i+1) rfl ω (ZV (q:=λj=>dC (v=(l.getD j dE).toNat)=false) t h2);simp at h1;obtain rfl:i=I l:=ω;have u:∀x∈l,(λx:UInt8=>dC (v=x.toNat)) x=false:=λx hx=>by obtain⟨j,hj,rfl⟩:=ZIc hx;have:=t j hj;simpa[ZH6,hj]using this
 refine rg ?_;refine ri r ?_;exact(Wd u).symm;exact ac _ 0 rfl ω (by intro j hj;omega)
def Zf5(l v):Zc ZHP 193 [Zg l,.int .u8 v] (.bool (l.any λx=>dC (v=x.toNat))):=by
 refine Ze (cR 193 f193) λF st i=>?_;refine gG ?_;refine cl (ZiI l v) ?_;refine rb i ?_;rw[<-JE]
section
variable {st:St} {b3 b4 b5 b6 b7 bm:Nat} {d:Dfn} {m:Msg} {pth:Str} {l:List (Str × Int)} {f:Fld} {x:Val} {q:Str}
def Zoz(i:ZcV st b3 b4 b5 b6 b7 bm d m pth l f x q)(hl:0<=f.low/\f.low<=255):
  Zf ZHP 192 [.ptr b7 0,.ptr b5 0,.ptr b4 0,.ptr b6 0] st (ZK (WA (Zdt false true false false x q) (WA (q,if dC ((I x.bytes:Int)<=f.high) then 0 else 5) (q,if !x.bytes.any (λc=>dC (f.low=c.toNat)) then 0 else 6))) st):=by
 refine Zh (cR 192 f192) λF o=>?_;have hu:=QP i false true false false;have hw:IntKind.u8.wrap f.low=f.low:=Zav .u8 f.low (by have r:IntKind.u8.min=0:=rfl;have u:IntKind.u8.max=255:=rfl;unfold inR;omega);refine rx @i.u ?_;refine vV (hu) ?_ ?_;refine mfK λt=>?_;rw[Qd t]at o;refine gR0 ?_;refine rx (nd2 @i.x (nd2 @i.f (nd2 @i.q (nd2 @Wc @eQ0)))) ?_;have c9:=KR (dC ((I x.bytes:Int)<=f.high)) q 5 (by decide) st;refine cV (c9) ?_ ?_;refine mfK λr=>?_;rw[Qd r]at o;refine gR0 ?_;refine rx (nd2 @i.x (nd2 @i.f (nd2 @i.q (nd2 @eQ0 @hw)))) ?_;refine clD (Zf5 x.bytes f.low) ?_;refine ZhW rfl rfl rfl rfl rfl φ φ (by exact KR (!x.bytes.any λc=>dC (f.low=c.toNat)) q 6 (by decide) st) ?_ ?_;refine mfK λu=>?_;refine kF ?_;refine gR0 ?_;exact o.fin (.tup []) st rfl trivial (ZHT _) ZHU (ZK.ok u);exact mfP λu=>o.pan st ZHU (ZK.bad u rfl);exact mfP λr=>o.pan st ZHU (ZK.bad r (KJ r));exact mfP λt=>o.pan st ZHU (ZK.bad t (KJ t))
def ZoA(i:ZcV st b3 b4 b5 b6 b7 bm d m pth l f x q)(ht:Zbc x.hdrs):
  Zf ZHP 194 [.ptr b7 0,.ptr b5 0,.ptr b6 0,.ptr b4 0] st (ZK (WA (Zdt false false true false x q) (WA (q,if W0 x.hdrs then 0 else 6) (q,if dC (((Qf x.hdrs).length:Int)<=f.high) then 0 else 5))) st):=by
 refine Zh (cR 194 f194) λF r=>?_;have hu:=QP i false false true false;have hW:=Zew ht;have hR:=ZhT.eq_1 x.hdrs;generalize ZhT x.hdrs=w at *;refine rx @i.u ?_;refine vV (hu) ?_ ?_
 .refine mfK λu=>?_;rw[Qd u]at r;refine gR0 ?_;refine rx @i.x ?_;cases hk:W0 x.hdrs with
  |false =>rw[hk,if_neg ψ]at hR;subst hR;refine cl (hW) ?_;refine rx @i.q ?_;have t:=KR false q 6 (by decide) st;refine cV (t) ?_ ?_;exact mfK λo=>absurd o ψ;exact mfP λo=>r.pan st ZHU (ZK.bad o (by rw[hk,KJ ψ]))
  |true =>rw[hk,if_pos rfl]at hR;rw[hk,Qd ψ]at r;subst hR;refine cl (hW) ?_;refine rx @i.q ?_;have t:=KR true q 6 (by decide) st;refine cV (t) ?_ ?_;refine mfK λo=>?_;refine gR0 ?_;refine rx (nd2 @i.f (nd2 @i.q (nd2 @Wc @eQ0))) ?_;have t:=KR (dC (((Qf x.hdrs).length:Int)<=f.high)) q 5 (by decide) st;refine cV (t) ?_ ?_;refine mfK λh2=>?_;refine gR0 ?_;exact r.fin (.tup []) st rfl trivial (ZHT _) ZHU (ZK.ok h2);exact mfP λh2=>r.pan st ZHU (ZK.bad h2 rfl);exact mfP λo=>absurd rfl o
 exact mfP λu=>r.pan st ZHU (ZK.bad u (KJ u))
end
def Qn:Prop:=∀n:Nat,n<510->Zc ZHP 172 [.i n] (.str (Kn n))
def Zi3(hI:Qn)(ps)(k:Nat)(hk:k<I ps)(hps:I ps<=510)(hn:∀x∈ps,I x.name<=32):Zc ZHP 197 [Zu ps,.i k] (.str (ZT ps k)):=by
 refine Ze (cR 197 f197) λF st r=>?_;have t:=YX hk;have hnk:=hn _ (Zr hk);have u:=λi=>Zqf (ps:=ps) (k:=k) (i:=i);have hO:=ZT.eq_1 ps k;have ab:QJ ps k=Zbo ps k k:=rfl;have hdl:=Zhr ps k;have hdec:=Zbm (QJ ps k);have hD:=hI (QJ ps k) ω;generalize hx:ps.getD k dE=x at *;refine gG ?_;refine rx @Zu.eq_1 ?_;simp only[ite_self];refine⟨ω,ω,ω,?_⟩;refine kl (st) [(0,.d (Zu ps)),(1,.d (.i k)),(5,.d (.i (0:Nat))),(10,.d (.sl .none k 5 (Za8 ps))),(11,.d (.i k)),(12,.d (.i (0:Nat)))] [] Wx Y6 ?_;refine Zb (fr (k) (λi Q=>i<=k->Q [(0,.d (Zu ps)),(1,.d (.i k)),(5,.d (.i (Zbo ps k i))),(10,.d (.sl .none k 5 (Za8 ps))),(11,.d (.i k)),(12,.d (.i i))] [] st) (λn o=>?_) λad=>?_);intro i hn2 hi;refine rg ?_;refine Zd (Zj rfl trivial (λh1=>?_) (λh1=>?_));simp at h1;have ac:=YX (show i<I ps by omega);have hs:=u i ω;have hdi:=ZuP ps k i;generalize hy:ps.getD i dE=y at *;refine xA @ac ?_;refine xA (nd2 @atV @t) ?_;refine cd (λh2=>?_) (λh2=>?_);rw[if_pos (by simpa using h2)]at hs;refine gA ?_;refine gA ?_;rw[show((Zbo ps k i:Nat):Int)+1=((Zbo ps k (i+1):Nat):Int) by rw[hs];rfl];refine Za ?_;exact o ((k)-(i+1)) ω (i+1) rfl ω;rw[if_neg (by simpa using h2)]at hs;refine gA ?_;rw[show((Zbo ps k i:Nat):Int)=((Zbo ps k (i+1):Nat):Int) by rw[hs];rfl];refine Za ?_;exact o ((k)-(i+1)) ω (i+1) rfl ω;simp at h1;obtain rfl:i=k:=ω;rw[<-ab];refine rg ?_;refine cd (λh3=>?_) (λh3=>?_);simp at h3;rw[if_pos h3]at hO;refine xA (nd2 @atV @t) ?_;refine rs r ?_;exact hO.symm;simp at h3;rw[if_neg h3]at hO;refine xA (nd2 @atV @t) ?_;refine⟨by unfold big;omega,?_⟩;refine cXD @ZdM (hD) ?_;repeat(refine ZHZ (by first|omega|trivial|(intro h0;simp at h0;omega)|(((try simp only[ZHX,ZH3,List.length_nil]);unfold big;omega))) ?_)
 refine rs r ?_;exact hO.symm;exact ad _ 0 rfl ω
section
variable {d:Dfn} {m:Msg} {pth:Str} {bm:Nat} {x:Val} {q:Str} {st:St}
def ZsS(mis:Msg->Val->Str->Str×Int)(d:Dfn)(of:Str)(x:Val)(q:Str):Str×Int :=
 WA (Zdt false false false true x q) (WA (q,if dC ((I x.parts:Int)=1) then 0 else 6) (mis (Zs d of) (x.parts.getD 0 dE) (ZD q (ZT x.parts 0))))
def Ztr(hI:Qn)(of)(hof:0<=Zm d of (I d.msgs))(hx:VOk x)(hq:q≠[]/\I q<=1000000){fu}(hu:KC ZHP fu [.bool false,.bool false,.bool false,.bool true] st (ZK (Zdt false false false true x q) st))(mis)(hmis:I x.parts=1->Zf ZHP 104 [.agg d.cells,.agg (Zs d of).cells,.agg (x.parts.getD 0 dE).cells,.str (ZD q (ZT x.parts 0))] st (ZK (mis (Zs d of) (x.parts.getD 0 dE) (ZD q (ZT x.parts 0))) st)):
  Zf ZHP 199 [.agg (Ke m d pth bm),.str of,.agg x.cells,.str q,fu] st (ZK (ZsS mis d of x q) st):=by
 refine Zh (cR 199 f199) λF u=>?_;have o:=JR d of hof;rw[show d.msgs.getD (ixS d of) dE=Zs d of from rfl]at o;unfold ZsS at u;rw[ZIe];refine rx @Ke.eq_1 ?_;refine rg ?_;refine vV (hu) ?_ ?_;refine mfK λh0=>?_;rw[Qd h0]at u;refine gR0 ?_;refine rx @KN ?_;have c9:=KR (dC ((I x.parts:Int)=1)) q 6 (by decide) st;refine cV (c9) ?_ ?_;refine mfK λh1=>?_;rw[Qd h1]at u;have hl:I x.parts=1:=by simp at h1;omega
 have t:=Zi3 hI x.parts 0 ω ω hx.name;have hsn:=ZcR hx.few hx.name (k:=0) ω;have r:ZT x.parts 0≠[]:=by have h2:=(hx.part (Zr (show 0<I x.parts by omega))).node.1.1;unfold ZT;rw[if_pos (by have:=Zhr x.parts 0;omega)];exact λe=>by rw[e]at h2;simp at h2
 have hj:=Zqp hq.1 r ω ω;have hr:=YX (l:=x.parts) (i:=0) ω;have hm:=hmis hl;generalize ZD q (ZT x.parts 0)=q2 at *;rw[ZIe]at hm;generalize mis (Zs d of) (x.parts.getD 0 dE) q2=R at *;generalize x.parts.getD 0 dE=y at *;refine gR0 ?_;refine xA (nd2 @atV @hr) ?_;refine clD (o) ?_;refine clD (t) ?_;refine clD (hj) ?_;refine cVD (hm) ?_ ?_;refine mfK λh2=>?_;refine kF ?_;refine gR0 ?_;exact u.fin (.tup []) st rfl trivial (ZHT _) ZHU (ZK.ok h2);exact mfP λh2=>u.pan st ZHU (ZK.bad h2 rfl);exact mfP λh1=>u.pan st ZHU (ZK.bad h1 (KJ h1));exact mfP λh0=>u.pan st ZHU (ZK.bad h0 (KJ h0))
end
def VOk.few2{v}(h:VOk v):I v.parts<=510:=by
 have h1:=Zps v;have h2:=h.wt;have h3:I v.parts<=nodesL v.parts:=by
  induction v.parts with
  |nil=>simp
  |cons x r ih=>have:=JN x;simp only[ZH3,nodesL];omega
 have h4:=JN v;omega
def ZAM{ps k}(h:1<=(ps.getD k dE).name.length):ZT ps k≠[]:=by
 unfold ZT;split;exact λe=>by rw[e]at h;simp at h
 simp
abbrev ZeV(mis:Msg->Val->Str->Str×Int)(d:Dfn)(of:Str)(x:Val)(q:Str)(i:Nat):Str×Int:=mis (Zs d of) (x.parts.getD i dE) (ZD q (ZT x.parts i))
section
variable {st:St} {b3 b4 b5 b6 b7 bm:Nat} {d:Dfn} {m:Msg} {pth:Str} {l:List (Str × Int)} {f:Fld} {x:Val} {q:Str}
def ZoB(hI:Qn)(hs:ZcV st b3 b4 b5 b6 b7 bm d m pth l f x q)(hx:VOk x)(hq:q≠[]/\I q<=1000000)(hv:ZU f.size=true)(hk:∀t∈f.size.terms,∃v,Zv t.field l=sO v/\0<=v/\v<34359738368)(hof:0<=Zm d f.of (I d.msgs))(mis)(hmis:∀i,i<I x.parts->Zf ZHP 104 [.agg d.cells,.agg (Zs d f.of).cells,.agg (x.parts.getD i dE).cells,.str (ZD q (ZT x.parts i))] st (ZK (ZeV mis d f.of x q i) st)):
  Zf ZHP 195 [.ptr b7 0,.ptr b5 0,.ptr b3 0,.ptr b4 0,.ptr b6 0] st (ZK (WA (Zdt false false false true x q) (WA (q,K3 (I x.parts) (Za4 f.size l)) ((KE (ZeV mis d f.of x q) (ZH5 (I x.parts))).getD (q,0)))) st):=by
 refine Zh (cR 195 f195) λF hF=>?_;have hu:=QP hs false false false true;have hz:=Za1 m d pth f hv bm l st hs.m hk;have ae:=JR d f.of hof;rw[show d.msgs.getD (ixS d f.of) dE=Zs d f.of from rfl]at ae;have ab:=hs.x;have af:=hs.p;have ac:=hs.f;have ag:=hs.q;have ad:=hx.few2;refine rx @hs.u ?_;refine vV (hu) ?_ ?_;refine mfK λh0=>?_;rw[Qd h0]at hF;refine gR0 ?_;refine rx (nd2 @ab (nd2 @af (nd2 @ac (nd2 @ag (nd2 @KN (nd2 @Ke.eq_1 @eQ0)))))) ?_;refine cVD (hz) ?_ ?_;rintro dd S ⟨hd,hS⟩;obtain rfl:=hS.symm;cases hd;refine kF ?_;refine gR0 ?_;refine cVD (Zkt (I x.parts) (Za4 f.size l) q st) ?_ ?_;refine mfK λh1=>?_;rw[Qd h1]at hF;refine kF ?_;refine gR0 ?_;refine rx (nd2 @ab @KN) ?_;refine Zb (fr (I x.parts) (λi Q=>i<=I x.parts->(∀j,j<i->(ZeV mis d f.of x q j).2=0)->Q [(1,.d (.ptr b5 0)),(2,.d (.ptr b3 0)),(3,.d (.ptr b4 0)),(4,.d (.ptr b6 0)),(18,.d (Zu x.parts)),(19,.d (.i (I x.parts))),(20,.d (.i i))] [] st) (λn r=>?_) λal=>?_);intro i hn hi o;refine rg ?_;refine Zd (Zj rfl trivial (λu=>?_) (λu=>?_));simp at u;have ak:x.parts.getD i dE∈x.parts:=Zr u;have ai:=Zi3 hI x.parts i u ad hx.name;have hsl:=ZcR hx.few hx.name u;have hj:=Zqp hq.1 (ZAM (hx.part ak).node.1.1) ω ω;have hr:=YX (l:=x.parts) (i:=i) u;have hm:=hmis i u;have ah:=Zgh (g:=ZeV mis d f.of x q) u o;have aj:=λh=>ZV (q:=λj=>(ZeV mis d f.of x q j).2=0) o h;generalize hR:ZeV mis d f.of x q i=R at *;generalize ZD q (ZT x.parts i)=q2 at *;rw[ZIe]at hm;generalize x.parts.getD i dE=y at *;refine xA (nd2 @atV @hr) ?_;refine rx (nd2 @ab (nd2 @af (nd2 @ac (nd2 @ag (nd2 @Ke.eq_1 @eQ0))))) ?_;refine clD (ae) ?_;refine clD (ai) ?_;refine clD (hj) ?_;refine cVD (hm) ?_ ?_;refine mfK λh2=>?_;refine kF ?_;refine gR0 ?_;refine gA ?_;refine Za ?_;exact r ((I x.parts)-(i+1)) ω (i+1) rfl ω (aj h2);exact mfP λh2=>hF.pan st ZHU (ZK.bad h2 (by rw[ah h2];rfl));simp at u;obtain rfl:i=I x.parts:=ω;rw[ZeP o]at hF;refine ZG rfl ?_;exact hF.fin (.tup []) st rfl trivial (ZHT _) ZHU (ZK.ok rfl);exact al _ 0 rfl ω (by intro j hj;omega);exact mfP λh1=>hF.pan st ZHU (ZK.bad h1 (KJ h1));rintro dd S ⟨hd,_⟩;cases hd;exact mfP λh0=>hF.pan st ZHU (ZK.bad h0 (KJ h0))
def ZoC(o:ZcV st b3 b4 b5 b6 b7 bm d m pth l f x q){R}(i:Zf ZHP 199 [.agg (Ke m d pth bm),.str f.of,.agg x.cells,.str q,.fn (.func 187) [] [.ptr b5 0,.ptr b6 0]] st (ZK R st)):
  Zf ZHP 198 [.ptr b3 0,.ptr b4 0,.ptr b5 0,.ptr b6 0,.ptr b7 0] st (ZK R st):=by
 refine Zh (cR 198 f198) λF t=>?_;rw[ZIe]at i;refine rx (nd2 @o.p (nd2 @o.f (nd2 @o.x (nd2 @o.q (nd2 @o.u (nd2 @Ke.eq_1 @eQ0)))))) ?_;refine cV (i) ?_ ?_;refine mfK λr=>?_;refine gR0 ?_;exact t.fin (.tup []) st rfl trivial (ZHT _) ZHU (ZK.ok r);exact mfP λr=>t.pan st ZHU (ZK.bad r rfl)
def ZoD(u:ZcV st b3 b4 b5 b6 b7 bm d m pth l f x q){tag}(ht:(Zv f.tag l).getD 0=tag){R}(hone:0<=Jo f tag->Zf ZHP 199 [.agg (Ke m d pth bm),.str (f.cases.getD (Jo f tag).toNat dE).of,.agg x.cells,.str q,.fn (.func 187) [] [.ptr b5 0,.ptr b6 0]] st (ZK R st)):
  Zf ZHP 200 [.ptr b7 0,.ptr b4 0,.ptr b3 0,.ptr b6 0,.ptr b5 0] st (ZK (WA (Zdt false false false true x q) (WA (q,if dC (0<=Jo f tag) then 0 else 9) R)) st):=by
 refine Zh (cR 200 f200) λF hF=>?_;have hu:=QP u false false false true;have e1:=YR (vD:=Y7) ZS f.tag l;have e3:=Y8 ZS f.tag;simp only[show K5 f.tag=D.str f.tag from rfl]at e1 e3;have hC:=ZpE f tag;have r:=YC (λc:YE=>dC (c.low<=tag)&&dC (tag<=c.high)) f.cases;rw[show Zl (λc:YE=>dC (c.low<=tag)&&dC (tag<=c.high)) f.cases=Jo f tag from rfl]at r;rw[ZIe]at hone;generalize Jo f tag=ci at *;refine rx @u.u ?_;refine vV (hu) ?_ ?_;refine mfK λh0=>?_;rw[Qd h0]at hF;refine gR0 ?_;refine rx (nd2 @u.f (nd2 @u.p (nd2 @u.m (nd2 @Ke.eq_1 (nd2 @eQ0 (nd2 @e1 (nd2 @e3 (nd2 @Zfc @ht)))))))) ?_;refine cl (hC) ?_;refine rx @u.q ?_;have c9:=KR (dC (0<=ci)) q 9 (by decide) st;refine cV (c9) ?_ ?_;refine mfK λh1=>?_;rw[Qd h1]at hF;have i:0<=ci:=by by_cases h:0<=ci;exact h;rw[decide_eq_false h]at h1;simp at h1
 have ho:=hone i;have t:max ci 0=ci:=ω;generalize o:f.cases.getD ci.toNat dE=cc at *;rw[t];refine gR0 ?_;refine xA (nd2 @u.p (nd2 @u.f (nd2 @u.x (nd2 @u.q (nd2 @u.u (nd2 @Ke.eq_1 (nd2 @eQ0 (nd2 @Zpc (nd2 @o @YE.cells.eq_1))))))))) ?_;refine cV0 (ho) ?_ ?_;refine mfK λh2=>?_;refine gR0 ?_;exact hF.fin (.tup []) st rfl trivial (ZHT _) ZHU (ZK.ok h2);exact mfP λh2=>hF.pan st ZHU (ZK.bad h2 rfl);exact mfP λh1=>hF.pan st ZHU (ZK.bad h1 (KJ h1));exact mfP λh0=>hF.pan st ZHU (ZK.bad h0 (KJ h0))
def ZoE(hs:ZcV st b3 b4 b5 b6 b7 bm d m pth l f x q)(hv:ZU f.size=true)(hk:∀t∈f.size.terms,∃v,Zv t.field l=sO v/\0<=v/\v<34359738368)(hof:0<=Zm d f.of (I d.msgs)){R len}(u:Zf ZHP 199 [.agg (Ke m d pth bm),.str f.of,.agg x.cells,.str q,.fn (.func 187) [] [.ptr b5 0,.ptr b6 0]] st (ZK R st))(hlen:R.2=0->I x.parts=1/\Zc ZHP 203 [.agg d.cells,.agg (Zs d f.of).cells,.agg (x.parts.getD 0 dE).cells] (.i len)):
  Zf ZHP 202 [.ptr b3 0,.ptr b4 0,.ptr b5 0,.ptr b6 0,.ptr b7 0] st (ZK (WA R (q,K3 len (Za4 f.size l))) st):=by
 refine Zh (cR 202 f202) λF hF=>?_;have hz:=Za1 m d pth f hv bm l st hs.m hk;have r:=JR d f.of hof;rw[show d.msgs.getD (ixS d f.of) dE=Zs d f.of from rfl]at r;rw[ZIe]at u;have ab:=hs.p;have o:=hs.f;have ac:=hs.q;refine rx (nd2 @ab (nd2 @o (nd2 @hs.x (nd2 @ac (nd2 @hs.u (nd2 @Ke.eq_1 @eQ0)))))) ?_;refine cV (u) ?_ ?_;refine mfK λh0=>?_;rw[Qd h0]at hF;obtain⟨hl,hL⟩:=hlen h0;have hr:=YX (l:=x.parts) (i:=0) ω;rw[ZIe]at hL;generalize x.parts.getD 0 dE=y at *;refine gR0 ?_;refine xA (nd2 @ab (nd2 @o (nd2 @hs.x (nd2 @ac (nd2 @Ke.eq_1 (nd2 @eQ0 (nd2 @atV @hr))))))) ?_;refine clD (r) ?_;refine clD (hL) ?_;refine cVD (hz) ?_ ?_;rintro dd S ⟨hd,hS⟩;obtain rfl:=hS.symm;cases hd;refine kF ?_;refine gR0 ?_;refine cVD (Zkt len (Za4 f.size l) q st) ?_ ?_;refine mfK λh1=>?_;refine kF ?_;refine gR0 ?_;exact hF.fin (.tup []) st rfl trivial (ZHT _) ZHU (ZK.ok h1);exact mfP λh1=>hF.pan st ZHU (ZK.bad h1 rfl);rintro dd S ⟨hd,_⟩;cases hd;exact mfP λh0=>hF.pan st ZHU (ZK.bad h0 (KJ h0))
end
def ZoM{v w}:∀{l},(∀t∈l,v t=w t)->QR v l=QR w l
 | [],_=>rfl
 |t::r,h=>by simp only[QR];rw[h t ψ,ZoM λs i=>h s (by simp[i])]
def ZBT(k)(x):ZoR (ZsN k) (Zpb k) (dC (k=6)) (dC (7<=k)) x=!WH k x:=by
 have e:∀n:Nat,dC ((n:Int)=0)=!dC (0<(n:Int)):=λn=>by by_cases h:n=0<;>simp[h];omega
 unfold ZoR WH;rw[e,e,e];generalize dC (x.int=0)=i;generalize dC (0<(I x.bytes:Int))=o;generalize dC (0<(I x.hdrs:Int))=r;generalize dC (0<(I x.parts:Int))=t;generalize ZsN k=u;generalize Zpb k=c2;generalize dC (k=6)=c3;generalize dC (7<=k)=c4;revert i o r t u c2 c3 c4;decide
def ZAL{k x q n b h p}{R}(i:ZsN k=n)(o:Zpb k=b)(r:dC (k=6)=h)(t:dC (7<=k)=p):WA (Zdt n b h p x q) R=if WH k x then (q,6) else R:=by
 subst i;subst o;subst r;subst t;unfold WA Zdt;rw[ZBT];cases WH k x<;>rfl
def ZxN(a b c):WA (WA a b) c=WA a (WA b c):=by
 unfold WA;by_cases h:a.2=0<;>simp[h]
def ZAK(a b c):WA a (WA b (WA a c))=WA a (WA b c):=by
 unfold WA;by_cases h:a.2=0<;>simp[h]
def Zob(mis)(d)(of)(x)(q):ZsS mis d of x q=WA (Zdt false false false true x q) (J1 mis d of x q):=by
 unfold ZsS J1
 congr 1
 by_cases h:I x.parts=1;rw[if_pos h,Qd (by simp[h])];rw[if_neg h,KJ (by simp;omega),if_neg (by simp;omega)]
def Zrz(b3 b4 b5 b6 b7:Nat):List (Int×D):=[
 (1,.fn (.func 188) [] [.ptr b7 0,.ptr b5 0,.ptr b4 0,.ptr b6 0]),
 (3,.fn (.func 188) [] [.ptr b7 0,.ptr b5 0,.ptr b4 0,.ptr b6 0]),
 (4,.fn (.func 189) [] [.ptr b7 0,.ptr b5 0,.ptr b3 0,.ptr b4 0,.ptr b6 0]),
 (5,.fn (.func 192) [] [.ptr b7 0,.ptr b5 0,.ptr b4 0,.ptr b6 0]),
 (6,.fn (.func 194) [] [.ptr b7 0,.ptr b5 0,.ptr b6 0,.ptr b4 0]),
 (7,.fn (.func 195) [] [.ptr b7 0,.ptr b5 0,.ptr b3 0,.ptr b4 0,.ptr b6 0]),
 (8,.fn (.func 198) [] [.ptr b3 0,.ptr b4 0,.ptr b5 0,.ptr b6 0,.ptr b7 0]),
 (9,.fn (.func 200) [] [.ptr b7 0,.ptr b4 0,.ptr b3 0,.ptr b6 0,.ptr b5 0]),
 (12,.fn (.func 202) [] [.ptr b3 0,.ptr b4 0,.ptr b5 0,.ptr b6 0,.ptr b7 0])]
structure ZhY(f:Fld)(l nv:List (Str×Int)):Prop where
 size:f.kind=4\/f.kind=7\/f.kind=12->ZU f.size=true/\∀t∈f.size.terms,∃v,Zv t.field l=some v/\0<=v/\v<34359738368/\YZ t.field nv=v
 tag:f.kind=9->(Zv f.tag l).getD 0=YZ f.tag nv
 low:f.kind=5->0<=f.low/\f.low<=255
def ZhY.eval{f l nv}(h:ZhY f l nv)(r:f.kind=4\/f.kind=7\/f.kind=12):Za4 f.size l=Ze1 f.size nv:=by
 unfold Za4 Ze1
 congr 1
 refine ZoM λt u=>?_;obtain⟨v,i,_,_,o⟩:=(h.size r).2 t u;rw[i,o];rfl
def ZhY.sz{f l nv}(h:ZhY f l nv)(i:f.kind=4\/f.kind=7\/f.kind=12):ZU f.size=true/\∀t∈f.size.terms,∃v,Zv t.field l=sO v/\0<=v/\v<34359738368 :=
 ⟨(h.size i).1,λt ht=>by obtain⟨v,o,r,u,_⟩:=(h.size i).2 t ht;exact⟨v,o,r,u⟩⟩
section
variable {st:St} {b3 b4 b5 b6 b7 bm:Nat} {d:Dfn} {m:Msg} {pth:Str} {l nv:List (Str × Int)} {f:Fld} {x:Val} {q:Str}
def ZAt(hI:Qn)(hs:ZcV st b3 b4 b5 b6 b7 bm d m pth l f x q)(hfr:ZgK d f)(hv:YD f=true)(hx:VOk x)(hq:q≠[]/\I q<=1000000)(hn:ZhY f l nv)(mis len)(hmis:∀s,0<=Zm d s (I d.msgs)->∀i,i<I x.parts->Zf ZHP 104 [.agg d.cells,.agg (Zs d s).cells,.agg (x.parts.getD i dE).cells,.str (ZD q (ZT x.parts i))] st (ZK (ZeV mis d s x q i) st))(hlen:f.kind=12->(J1 mis d f.of x q).2=0->I x.parts=1/\Zc ZHP 203 [.agg d.cells,.agg (Zs d f.of).cells,.agg (x.parts.getD 0 dE).cells] (.i (len (Zs d f.of) (x.parts.getD 0 dE)))):
  ∃fn,Zv f.kind (Zrz b3 b4 b5 b6 b7)=sO fn/\KC ZHP fn [] st (ZK (if WH f.kind x then (q,6) else Za7 mis len d f x q nv) st):=by
 have hk:f.kind=1\/f.kind=3\/f.kind=4\/f.kind=5\/f.kind=6\/f.kind=7\/f.kind=8\/f.kind=9\/f.kind=12:=by have:=hfr.kind;unfold YD at hv;simp only[ZH1,Bool.not_eq_true',decide_eq_false_iff_not]at hv;omega
 have r:∀of,0<=Zm d of (I d.msgs)->Zf ZHP 199 [.agg (Ke m d pth bm),.str of,.agg x.cells,.str q,.fn (.func 187) [] [.ptr b5 0,.ptr b6 0]] st (ZK (ZsS mis d of x q) st):=λof ho =>
  Ztr hI of ho hx hq (QP hs false false false true) mis λh1=>hmis of ho 0 ω
 have hP:=Za7.eq_1 mis len d f x q nv;generalize Za7 mis len d f x q nv=R at *;have o:∀{Q:Str×Int} {n b h p:Bool},ZsN f.kind=n->Zpb f.kind=b->dC (f.kind=6)=h->dC (7<=f.kind)=p->R=Q->(if WH f.kind x then (q,6) else R)=WA (Zdt n b h p x q) Q:=λh1 h2 h3 h4 h5=>by rw[ZAL h1 h2 h3 h4,h5]
 have num:f.kind=1\/f.kind=3->(if WH f.kind x then (q,6) else R)=WA (Zdt true false false false x q) (q,if dC (f.low<=x.int)&&dC (x.int<=f.high) then 0 else 3):=λh=>by refine o (by rcases h with h|h<;>rw[h]<;>rfl) (by rcases h with h|h<;>rw[h]<;>rfl) (by rcases h with h|h<;>rw[h]<;>rfl) (by rcases h with h|h<;>rw[h]<;>rfl) ?_;rw[hP,if_pos h];by_cases h1:x.int<f.low\/f.high<x.int;rw[if_pos h1,if_neg (by simp;omega)];rw[if_neg h1,if_pos (by simp;omega)]
 rcases hk with h|h|h|h|h|h|h|h|h;refine⟨_,by rw[h];rfl,?_⟩;rw[num ω];exact Zf.V (first:=[]) (args:=[]) (caps:=[_,_,_,_]) (Zgy hs);refine⟨_,by rw[h];rfl,?_⟩;rw[num ω];exact Zf.V (first:=[]) (args:=[]) (caps:=[_,_,_,_]) (Zgy hs);refine⟨_,by rw[h];rfl,?_⟩;obtain⟨h1,h2⟩:=hn.sz ω;rw[o (Q:=(q,K3 (I x.bytes) (Za4 f.size l))) (by rw[h]<;>rfl) (by rw[h]<;>rfl) (by rw[h]<;>rfl) (by rw[h]<;>rfl) (by rw[hP,if_neg ω,if_pos h,hn.eval ω])];exact Zf.V (first:=[]) (args:=[]) (caps:=[_,_,_,_,_]) (Zoy hs h1 h2);refine⟨_,by rw[h];rfl,?_⟩;rw[o (by rw[h]<;>rfl) (by rw[h]<;>rfl) (by rw[h]<;>rfl) (by rw[h]<;>rfl) (Q:=WA (q,if dC ((I x.bytes:Int)<=f.high) then 0 else 5) (q,if !x.bytes.any (λc=>dC (f.low=c.toNat)) then 0 else 6)) (by
  rw[hP,if_neg ω,if_neg ω,if_pos h];rw[show(λc:UInt8=>dC ((c.toNat:Int)=f.low))=λc=>dC (f.low=c.toNat) from funext λc=>by rw[decide_eq_decide];exact eq_comm];by_cases h1:f.high<I x.bytes;rw[if_pos h1,KJ (by simp;omega),if_neg (by simp;omega)];rw[if_neg h1,Qd (by simp;omega)];cases x.bytes.any λc=>dC (f.low=c.toNat)<;>rfl)]
 exact Zf.V (first:=[]) (args:=[]) (caps:=[_,_,_,_]) (Zoz hs (hn.low h))
 .refine⟨_,by rw[h];rfl,?_⟩;rw[o (by rw[h]<;>rfl) (by rw[h]<;>rfl) (by rw[h]<;>rfl) (by rw[h]<;>rfl) (Q:=WA (q,if W0 x.hdrs then 0 else 6) (q,if dC (((Qf x.hdrs).length:Int)<=f.high) then 0 else 5)) (by
   rw[hP,if_neg ω,if_neg ω,if_neg ω,if_pos h];cases W0 x.hdrs with
   |false=>rfl
   |true =>
    rw[if_neg ψ,Qd ψ];by_cases h1:f.high<(Qf x.hdrs).length;rw[if_pos h1,if_neg (by simp;omega)];rw[if_neg h1,if_pos (by simp;omega)])]
  exact Zf.V (first:=[]) (args:=[]) (caps:=[_,_,_,_]) (ZoA hs hx.node.2.2.2)
 refine⟨_,by rw[h];rfl,?_⟩;obtain⟨h1,h2⟩:=hn.sz ω;have ho:=hfr.ref ω;rw[o (by rw[h]<;>rfl) (by rw[h]<;>rfl) (by rw[h]<;>rfl) (by rw[h]<;>rfl) (Q:=WA (q,K3 (I x.parts) (Za4 f.size l)) ((KE (ZeV mis d f.of x q) (ZH5 (I x.parts))).getD (q,0))) (by
  rw[hP,if_neg ω,if_neg ω,if_neg ω,if_neg ω,if_pos h,hn.eval ω];rfl)]
 exact Zf.V (first:=[]) (args:=[]) (caps:=[_,_,_,_,_]) (ZoB hI hs hx hq h1 h2 ho mis λi hi=>hmis _ ho i hi);refine⟨_,by rw[h];rfl,?_⟩;rw[o (n:=false) (b:=false) (h:=false) (p:=true) (by rw[h]<;>rfl) (by rw[h]<;>rfl) (by rw[h]<;>rfl) (by rw[h]<;>rfl) (Q:=J1 mis d f.of x q) (by
  rw[hP,if_neg ω,if_neg ω,if_neg ω,if_neg ω,if_neg ω,if_pos h]),<-Zob]
 exact Zf.V (first:=[]) (args:=[]) (caps:=[_,_,_,_,_]) (ZoC hs (r _ (hfr.ref ω)));refine⟨_,by rw[h];rfl,?_⟩;have t:=YC (λc:YE=>dC (c.low<=YZ f.tag nv)&&dC (YZ f.tag nv<=c.high)) f.cases;rw[show Zl (λc:YE=>dC (c.low<=YZ f.tag nv)&&dC (YZ f.tag nv<=c.high)) f.cases=Jo f (YZ f.tag nv) from rfl]at t;rw[o (n:=false) (b:=false) (h:=false) (p:=true) (by rw[h]<;>rfl) (by rw[h]<;>rfl) (by rw[h]<;>rfl) (by rw[h]<;>rfl) (Q:=WA (q,if dC (0<=Jo f (YZ f.tag nv)) then 0 else 9) (J1 mis d (f.cases.getD (Jo f (YZ f.tag nv)).toNat dE).of x q)) (by
  rw[hP,if_neg ω,if_neg ω,if_neg ω,if_neg ω,if_neg ω,if_neg ω,if_pos h];by_cases h1:Jo f (YZ f.tag nv)<0;rw[if_pos h1,KJ (by simp;omega),if_neg (by simp;omega)];rw[if_neg h1,Qd (by simp;omega)]),<-ZAK,<-Zob]
 exact Zf.V (first:=[]) (args:=[]) (caps:=[_,_,_,_,_]) (ZoD hs (hn.tag h) λh0=>r _ (hfr.cas h _ (Zr ω)));refine⟨_,by rw[h];rfl,?_⟩;obtain⟨h1,h2⟩:=hn.sz ω;have ho:=hfr.ref ω;rw[o (n:=false) (b:=false) (h:=false) (p:=true) (by rw[h]<;>rfl) (by rw[h]<;>rfl) (by rw[h]<;>rfl) (by rw[h]<;>rfl) (Q:=WA (J1 mis d f.of x q) (q,K3 (len (Zs d f.of) (x.parts.getD 0 dE)) (Za4 f.size l))) (by
  rw[hP,if_neg ω,if_neg ω,if_neg ω,if_neg ω,if_neg ω,if_neg ω,if_neg ω,if_pos h,hn.eval ω];rfl),<-ZxN,<-Zob]
 refine Zf.V (first:=[]) (args:=[]) (caps:=[_,_,_,_,_]) (ZoE hs h1 h2 ho (r _ ho) λh0=>hlen h ?_);rw[Zob]at h0;unfold WA at h0;split at h0;exact h0;rename_i u;exact absurd h0 u
end
def ex3{st:St}{a b c p q r}(u:st a=nO)(i:(st.upd a p) b=nO)(o:((st.upd a p).upd b q) c=nO):
  (((st.upd a p).upd b q).upd c r) a=sO p/\(((st.upd a p).upd b q).upd c r) b=sO q/\(((st.upd a p).upd b q).upd c r) c=sO r/\st.sub (((st.upd a p).upd b q).upd c r):=by
 have k1:=Zn i;have t:=Zn o;have k3:=Zn t.2;refine⟨by rw[ZH0 _ _ (Ne.symm k3.1),ZH0 _ _ (Ne.symm k1.1),ZHW],by rw[ZH0 _ _ (Ne.symm t.1),ZHW],ZHW _ _ _,ZIu (ZIu (ZIg _ u) (ZIg _ i)) (ZIg _ o)⟩
def ZcV.mono{st A b3 b4 b5 b6 b7 bm d m pth l f x q}(h:ZcV st b3 b4 b5 b6 b7 bm d m pth l f x q)(i:st.sub A):ZcV A b3 b4 b5 b6 b7 bm d m pth l f x q :=
 ⟨i _ _ h.p,i _ _ h.f,i _ _ h.x,i _ _ h.q,i _ _ h.u,i _ _ h.m⟩
section
variable {st:St} {bm:Nat} {d:Dfn} {m:Msg} {pth:Str} {l nv:List (Str × Int)} {f:Fld} {x:Val}
def Zrk(hI:Qn)(hm:st bm=sO (.map (KB l)))(hnm:f.name≠[]/\I f.name<=1000)(hp:I pth<=900000)(hfr:ZgK d f)(hv:YD f=true)(hx:VOk x)(hn:ZhY f l nv)(mis len)(hmis:∀S s,0<=Zm d s (I d.msgs)->∀i,i<I x.parts->Zf ZHP 104 [.agg d.cells,.agg (Zs d s).cells,.agg (x.parts.getD i dE).cells,.str (ZD (ZD pth f.name) (ZT x.parts i))] S (ZK (ZeV mis d s x (ZD pth f.name) i) S))(hlen:f.kind=12->(J1 mis d f.of x (ZD pth f.name)).2=0->I x.parts=1/\Zc ZHP 203 [.agg d.cells,.agg (Zs d f.of).cells,.agg (x.parts.getD 0 dE).cells] (.i (len (Zs d f.of) (x.parts.getD 0 dE)))):
  Zf ZHP 148 [.agg (Ke m d pth bm),.agg f.cells,.agg x.cells] st (ZK (if WH f.kind x then (ZD pth f.name,6) else Za7 mis len d f x (ZD pth f.name) nv) st):=by
 refine Zh (cR 148 f148) λF hF=>?_;have hjl:=Qu pth f.name;have ai:ZD pth f.name≠[]:=by unfold ZD;split;exact hnm.1;simp
 generalize hR:(if WH f.kind x then (ZD pth f.name,6) else Za7 mis len d f x (ZD pth f.name) nv)=R at *;rw[ZIe];refine rx (nd2 @Ke.eq_1 @eQ0) ?_;refine Zd ?_;refine xP 3 λb3 h3=>?_;refine xP 4 λb4 h4=>?_;refine xP 5 λb5 h5=>?_;obtain⟨g3,g4,g5,ac⟩:=ex3 (r:=.cells [.str x.name,.i x.int,Zg x.bytes,Zx x.hdrs,Zu x.parts]) h3 h4 h5;generalize ((st.upd b3 _).upd b4 _).upd b5 _=S at *;have gm:=ac _ _ hm;refine rh ?_;refine ZkU ?_;simp only[Eqs,reduceCtorEq,ZHV,reduceIte,ZHR,ZHY,ZHS,Zk4,ZoJ,g3,g4];refine ZzW rfl rfl rfl rfl φ (by rfl) (by decide) λbj ag=>ZkU ?_;simp only[Eqs,reduceCtorEq,ZHV,reduceIte,ZHR,ZHY,ZHS,Zk4,ZoJ];refine Ze8 rfl rfl rfl rfl rfl φ φ (by exact(Zrj (ZHW _ _ _) hnm.1 ω ω)) ?_ ?_;rintro dd T ⟨hr,o,rfl⟩;cases hr;rw[ZH7];have hsj:=ZIg o ag;refine gR0 ?_;refine kl (S) [(3,.d (.ptr b3 0)),(4,.d (.ptr b4 0)),(5,.d (.ptr b5 0)),(6,.loc 6 0)] [(6,[.str (ZD pth f.name)])] Wx Y6 ?_;refine Zd ?_;refine xP 6 λb6 h6=>?_;refine rg ?_;refine Zd ?_;refine xP 7 λb7 h7=>?_;have ab:=ZIg (.cells [.str (ZD pth f.name)]) h6;have t:=ZIg (.cells [.fn (.func 187) [] [.ptr b5 0,.ptr b6 0]]) h7;have k7:=Zn h7;have hs:ZcV ((S.upd b6 (.cells [.str (ZD pth f.name)])).upd b7 (.cells [.fn (.func 187) [] [.ptr b5 0,.ptr b6 0]])) b3 b4 b5 b6 b7 bm d m pth l f x (ZD pth f.name) :=
  ⟨t _ _ (ab _ _ g3),t _ _ (ab _ _ g4),t _ _ (ab _ _ g5),t _ _ (ZHW _ _ _),ZHW _ _ _,t _ _ (ab _ _ gm)⟩
 have af:=ZIu ac (ZIu ab t);refine rg ?_;generalize ((S.upd b6 _).upd b7 _)=T at *;refine rh ?_;refine Zk ?_;simp only[Eqs,reduceCtorEq,ZHV,reduceIte,ZHR,ZHY,ZHS,ZbD,ZIt,decide_false,ZHW,ZH7,Yv,Yw];intro b hb;have ad:=ZIg (.map (Kc Y7 id (Zrz b3 b4 b5 b6 b7))) hb;have ae:=hs.mono ad;obtain⟨fn,ah,u⟩:=ZAt hI ae hfr hv hx ⟨ai,ω⟩ hn mis len (hmis _) hlen;rw[hR]at u;have e1:=YR (vD:=id) ZdH f.kind (Zrz b3 b4 b5 b6 b7);have e3:=Y8 ZdH f.kind;simp only[show Y7 f.kind=D.i f.kind from rfl]at e1 e3;rw[ah]at e1;refine kl ((T.upd b (.map (Kc Y7 id (Zrz b3 b4 b5 b6 b7))))) [(4,.d (.ptr b4 0)),(9,.d (.map b))] [] Wx Y6 ?_;refine rx (nd2 @ae.f (nd2 @eQ0 (nd2 @ZHW (nd2 @e1 (nd2 @e3 (nd2 @ZHW (nd2 @ZH7 (nd2 @Yv @Yw)))))))) ?_;rw[show id fn=fn from rfl];refine vV (u) ?_ ?_;refine mfK λh0=>?_;refine gR0 ?_;exact hF.fin (.tup []) st rfl trivial (ZHT _) (ZIu af ad) (ZK.ok h0);exact mfP λh0=>hF.pan st (ZIu af ad) (ZK.bad h0 rfl);rintro dd T ⟨hr,_⟩;cases hr
end
def ZvN(d n m v p):ZW d (n+1) m v p =
  WA (p,if (((dC (v.name=m.name)&&dC (v.int=0))&&dC ((I v.bytes:Int)=0))&&dC ((I v.hdrs:Int)=0))&&Jd (vfs m.fields) v.parts then 0 else 6) ((KE (Za0 d n m v p) (ZH5 (I v.parts))).getD ([],0)):=by
 rw[ZjY,show Kr m v.parts=Jd (vfs m.fields) v.parts from rfl];have e:∀n:Nat,dC ((n:Int)=0)=dC (n=0):=λn=>by simp
 rw[e,e];unfold WA;generalize dC (v.name=m.name)=i;generalize dC (v.int=0)=o;generalize dC (I v.bytes=0)=r;generalize dC (I v.hdrs=0)=t;generalize Jd (vfs m.fields) v.parts=u;cases i<;>cases o<;>cases r<;>cases t<;>cases u<;>rfl
def ZpI(d fu){m}(hm0:0<I m.fields)(hm:I m.fields<=1000)(v p st)(hpart:Kr m v.parts=true->∀S b,S b=sO (.map (KB (Zd3 m v.parts)))->∀k,k<I v.parts->(∀j,j<k->(Za0 d fu m v p j).2=0) ->
   Zf ZHP 148 [.agg (Ke m d p b),.agg ((vfs m.fields).getD k dE).cells,.agg (v.parts.getD k dE).cells] S (ZK (Za0 d fu m v p k) S)):
  Zf ZHP 104 [.agg d.cells,.agg m.cells,.agg v.cells,.str p] st (ZK (ZW d (fu+1) m v p) st):=by
 refine Zh (cR 104 f104) λF hF=>?_;have aj:=Zgz m hm0 ω;have ae:=ZpK (vfs m.fields) v.parts;have af:=λhr=>Zkx m hm0 hm v.parts hr st;have hvl:(vfs m.fields).length<=I m.fields:=List.length_filter_le ..;rw[ZvN,show Kr m v.parts=Jd (vfs m.fields) v.parts from rfl]at *;rw[ZIe];refine rx (nd2 @eQ2 @eQ3) ?_;refine rg ?_;refine clD (aj) ?_;refine rx (nd2 @Wc @Zbt) ?_;refine cG (ae) ?_;generalize hc:((((dC (v.name=m.name)&&dC (v.int=0))&&dC ((I v.bytes:Int)=0))&&dC ((I v.hdrs:Int)=0))&&Jd (vfs m.fields) v.parts)=u at *;have c9:=KR u p 6 (by decide) st;refine cV (c9) ?_ ?_
 .refine mfK λh0=>?_;rw[Qd h0]at hF;have hr:Jd (vfs m.fields) v.parts=true:=by
   cases u with
   |false=>simp at h0
   |true=>simp only[ZH1]at hc;exact hc.2
  have ag:=hpart hr;have t:(vfs m.fields).length=I v.parts:=by unfold Jd at hr;rw[decide_eq_true_eq]at hr;simpa using congrArg List.length hr
  refine gR0 ?_;refine rg ?_;refine cV (af t) ?_ ?_;rintro dd S ⟨b,hb,hd,rfl⟩;cases hd;refine gR0 ?_;refine rx @ZaI ?_;have ab:=ZIg (.map (KB (Zd3 m v.parts))) hb;have ad:=ZHW st b (.map (KB (Zd3 m v.parts)));generalize st.upd b (.map (KB (Zd3 m v.parts)))=S at *;refine Zb (fr ((vfs m.fields).length) (λi Q=>i<=(vfs m.fields).length->(∀j,j<i->(Za0 d fu m v p j).2=0)->Q [(6,.loc 6 0),(8,.loc 8 0),(54,.d (Zp (vfs m.fields))),(55,.d (.i (vfs m.fields).length)),(56,.d (.i i))] [(6,[.str v.name,.i v.int,Zg v.bytes,Zx v.hdrs,Zu v.parts]),(8,Ke m d p b)] S) (λn r=>?_) λak=>?_);intro i hn hi o;refine rg ?_;refine Zd (Zj rfl trivial (λg1=>?_) (λg1=>?_));simp at g1;have hp:=ag S b ad i ω o;have ac:=Zgh (g:=Za0 d fu m v p) (show i<I v.parts by omega) o;have ai:=λh=>ZV (q:=λj=>(Za0 d fu m v p j).2=0) o h;have ah:=YX (l:=v.parts) (i:=i) ω;generalize Za0 d fu m v p i=R at *;rw[ZIe]at hp;generalize v.parts.getD i dE=y at *;generalize hf:(vfs m.fields).getD i dE=f at *;refine xA (nd2 @atF (nd2 @hf (nd2 @QL @Zau))) ?_;refine xA (nd2 @Ke.eq_1 (nd2 @QL (nd2 @Zau (nd2 @atV @ah)))) ?_;refine cV0 (hp) ?_ ?_;refine mfK λh2=>?_;refine gR0 ?_;refine gA ?_;refine Za ?_;exact r (((vfs m.fields).length)-(i+1)) ω (i+1) rfl ω (ai h2);exact mfP λh2=>hF.pan st ab (ZK.bad h2 (by rw[ac h2];rfl));simp at g1;obtain rfl:i=(vfs m.fields).length:=ω;rw[t]at o;rw[ZeP o]at hF;refine ZG rfl ?_;exact hF.fin (.tup []) st rfl trivial (ZHT _) ab (ZK.ok rfl);exact ak _ 0 rfl ω (by intro j hj;omega);rintro dd S ⟨b,_,hd,_⟩;cases hd
 exact mfP λh0=>hF.pan st ZHU (ZK.bad h0 (KJ h0))
def Qa.pos{d}(h:Qa d){j}(r:j<I d.msgs):0<(d.msgs.getD j dE).fields.length:=by
 have i:=h.flaw j r;unfold WV at i;split at i;· simp at i
 split at i;· simp at i
 split at i;· simp at i
 rename_i o;simp only[ZId,decide_eq_true_eq,not_or,Nat.not_lt]at o;omega
def ZbP.low{d j i m f}(h:ZbP d j i m f)(r:f.kind=5):0<=f.low/\f.low<=255:=by
 have o:=h.ks;unfold Kp at o;simp only[r,ZIt,if_true,if_false]at o;split at o;omega;rename_i t;simp only[ZId,decide_eq_true_eq]at t;omega
def Zzf{d}(i:Qa d){n s y q}(o:VOk y)(h:(ZW d n (Zs d s) y q).2=0):
  Zc ZHP 203 [.agg d.cells,.agg (Zs d s).cells,.agg y.cells] (.i (lenS d n (Zs d s) y)) :=
 Zgx d i.dok n _ y (i.dok.of s) o.ok o.wt (ZdF i.dref n _ y q (i.dref.of s) o.ok h)
def Zkw(hI:Qn){d}(hd:Qa d):∀(n im v p st),im<I d.msgs->VOk v->ZY v<=n->I p+10200*n<=900000 ->
  Zf ZHP 104 [.agg d.cells,.agg (d.msgs.getD im dE).cells,.agg v.cells,.str p] st (ZK (ZW d n (d.msgs.getD im dE) v p) st)
 |0,_,v,_,_,_,_,hh,_=>by have:=KW v;omega
 |n+1,im,v,p,st,him,hv,hh,hp=>by
  have o:=hd.msg him;have hm40:=o.many;refine ZpI d n (hd.pos him) ω v p st λhr S b hb k hk ag=>?_;have hlen:(vfs (d.msgs.getD im dE).fields).length=I v.parts:=by unfold Kr at hr;rw[decide_eq_true_eq]at hr;simpa using congrArg List.length hr
  obtain⟨i,hi,ar,an,af⟩:=ZaX (l:=(d.msgs.getD im dE).fields) (k:=k) ω;have r:=o.at_ hi;have al:=r.fref (hd.fld him hi);have aj:v.parts.getD k dE∈v.parts:=Zr hk;have u:=hv.part aj;have ah:=Zl8 r.nm;obtain⟨ai,ap⟩:=Ziz o.nmU hr hk;rw[ap,af]at ai;have hxh:ZY (v.parts.getD k dE)<=n:=by have h1:=ZaV aj;have h2:=KW v;omega
  have hG:=Za0.eq_1 d n (d.msgs.getD im dE) v p k;rw[ai,af]at hG;have ad:=λa ha hn=>Zxu o (n:=n) (v:=v) (p:=p) hi an ag (a:=a) ha hn;have ae:∀a,a<i->Yy ((d.msgs.getD im dE).fields.getD a dE)=true->YZ ((d.msgs.getD im dE).fields.getD a dE).name (Zdg (d.msgs.getD im dE) v.parts)=Zcg (d.msgs.getD im dE).fields v.parts a:=λa ha hn =>
   Zlm ω o.nmU hn λaq=>by have:=ZpV ha hi aq;omega
  have ac:∀a,a<i->Yy ((d.msgs.getD im dE).fields.getD a dE)=true->Zv ((d.msgs.getD im dE).fields.getD a dE).name (Zd3 (d.msgs.getD im dE) v.parts)=sO (Zcg (d.msgs.getD im dE).fields v.parts a):=λa ha hn =>
   ZAp o.nmU v.parts ω hn
  have ao:ZhY ((d.msgs.getD im dE).fields.getD i dE) (Zd3 (d.msgs.getD im dE) v.parts) (Zdg (d.msgs.getD im dE) v.parts):=by refine⟨λhz=>?_,λh9=>?_,r.low⟩;obtain⟨h1,h2⟩:=r.size hi hz;refine⟨h1,λt ht=>?_⟩;obtain⟨a,ha,ab,hn⟩:=h2 t ht;exact⟨_,by rw[<-ab];exact ac a ha hn,(ad a ha hn).1,(ad a ha hn).2,by rw[<-ab];exact ae a ha hn⟩;obtain⟨a,ha,ab,hn⟩:=r.tag hi h9;rw[<-ab,ac a ha hn,ae a ha hn];rfl
  have hq:=Qu p ((d.msgs.getD im dE).fields.getD i dE).name;rw[af,hG];generalize v.parts.getD k dE=x at *;refine Zrk hI hb ⟨λe=>by rw[e]at ah;simp at ah,ω⟩ ω al ar u ao (ZW d n) (lenS d n) (λT s hs j hj=>?_) (λh12 h0=>?_);have am:=WD hs;have ak:x.parts.getD j dE∈x.parts:=Zr hj;have h1:=Qu (ZD p ((d.msgs.getD im dE).fields.getD i dE).name) (ZT x.parts j);have h2:=ZcR u.few u.name hj;have h3:=ZaV ak;have h4:=KW x;exact Zkw hI hd n (ixS d s) _ _ T am.2 (u.part ak) ω ω;obtain⟨h1,h2⟩:=Zpv h0;exact⟨h1,Zzf hd (u.part (Zr ω)) h2⟩
def Zku{z st}:ZaB ZHP 103 [.ptr z 0] nO st λ_ S=>S=st:=by
 refine Zbe (cR 103 f103) rfl ψ λF i=>?_;refine rg ?_;refine ZgI i rfl rfl ?_;refine gR0 ?_;refine rg ?_;refine cd (λh=>?_) (λh=>?_);simp at h;refine Zo ?_;exact i.fin ZHU rfl
def Zkv{z st c}(hc:I c=2)(q no)(hn:inR .i64 no)(hq:I q<=big)(hz:st z=sO (.cells c)):
  ZaB ZHP 103 [.ptr z 0] (sO (mfD q no)) st λb S=>b=true/\S=st.upd z (.cells [.str q,.i no]):=by
 obtain⟨o,r,rfl⟩:∃o r,c=[o,r]:=by
  match c,hc with
  | [o,r],_=>exact⟨o,r,rfl⟩
 refine Zbe (cR 103 f103) rfl (by rintro d ⟨⟩;exact⟨hq,hn,trivial⟩) λF u=>?_;refine rg ?_;refine Znh u rfl rfl λF2 i=>?_;refine gR0 ?_;refine rx @mfD.eq_1 ?_;refine cd (λh=>?_) (λh=>?_);refine rx @mfD.eq_1 ?_;refine rg ?_;refine cd (λt=>?_) (λt=>?_);simp at t;refine rx @hz ?_;exact i.fin ZHU ⟨rfl,rfl⟩;simp[mfD]at h
def Zss(r:Str×Int):D:=.agg [.str (if r.2=0 then [] else r.1),.i r.2]
def ZpH(d:Dfn)(m:Msg)(v:Val)(R st)(u:∀S,Zf ZHP 104 [.agg d.cells,.agg m.cells,.agg v.cells,.str []] S (ZK R S)):
  Zf ZHP 52 [.agg d.cells,.agg m.cells,.agg v.cells] st λr S=>S=st/\r=.ret (Zss R):=by
 refine Zh (cR 52 f52) λF hF=>?_;rw[ZIe]at u⊢;have i:=Zss.eq_1 R;generalize Zss R=W at *;refine rx (nd2 @eQ2 @eQ3) ?_;refine Zd ?_;refine xP 6 λz hz=>?_;refine rg ?_;refine Zmu (by obtain⟨_,_,_,_,_,_,rfl⟩:=hF;rfl) rfl rfl rfl rfl rfl rfl trivial trivial ?_ ?_ ?_;trivial;exact⟨rfl,trivial⟩;have o:=hF.defer 103 [] [.ptr z 0];clear hF;refine gR0 ?_;generalize F.defer 103 [] [.ptr z 0]=F at o⊢;refine rg ?_;refine cV (u _) ?_ ?_;refine mfK λh0=>?_;rw[if_pos h0,h0]at i;refine gR0 ?_;refine rx (nd2 @ZHW @ZH7) ?_;refine o.retU ⟨trivial,⟨rfl,trivial⟩,ZaM Zku ?_⟩;rintro b S3 rfl;rw[ite_self];have g3:=ZHW st z (.cells [.str [],.i 0]);refine⟨_,[.agg [.str [],.i 0]],_,st,by simp only[Eqs,reduceCtorEq,ZHV,reduceIte,ZHR,ZHY,ZHS,YP,K7,g3];rfl,φ,ZHT _,ZIg _ hz,rfl,by rw[i];rfl⟩;refine mfP λh0=>?_;rw[if_neg h0]at i;refine Zp4 λhw=>?_;have t:=DWf.agg_inv (DWf.iface_inv hw);have h1:inR .i64 R.2:=(t _ ψ).int_inv;have h2:=(t (.str R.1) ψ).str_inv;refine o.panU ⟨trivial,⟨rfl,trivial⟩,ZaM (Zkv rfl R.1 R.2 h1 h2 (ZHW _ _ _)) ?_⟩;rintro b S2 ⟨rfl,rfl⟩;have g3:=ZHW (st.upd z (.cells [.str [],.i 0])) z (.cells [.str R.1,.i R.2]);refine⟨_,[.agg [.str R.1,.i R.2]],_,st,by simp only[Eqs,reduceCtorEq,ZHV,reduceIte,ZHR,ZHY,ZHS,YP,K7,g3];rfl,φ,ZHT _,?_,rfl,by rw[i];rfl⟩;rw[ZH7];exact ZIg _ hz
def YG(d:Dfn)(s:Str)(v:Val):(Str×Int)×Int:=if Yk d&&Kt v then (if Zm d s (I d.msgs)<0 then (([],0),9) else ((if (ZW d 51 (Zs d s) v []).2=0 then [] else (ZW d 51 (Zs d s) v []).1,(ZW d 51 (Zs d s) v []).2),(ZW d 51 (Zs d s) v []).2)) else (([],0),2)
def ZbE{v}(h:Kt v=true)(o:Yz v=true->wtN v<=5100/\ZY v<=51):VOk v/\ZY v<=51:=by
 have i:Yz v=true:=by unfold Kt at h;simp only[ZH1]at h;simp_all
 exact⟨⟨i,(o i).1⟩,(o i).2⟩
def Zi2(hI:Qn)(d s v)(hs:Yz v=true->wtN v<=5100/\ZY v<=51):
  Zc ZHP 29 [.agg d.cells,.str s,.agg v.cells] (.tup [.agg [.str (YG d s v).1.1,.i (YG d s v).1.2],.i (YG d s v).2]):=by
 refine Ze (cR 29 f29) λF st i=>?_;have hA:=Zue d s v;have t:=YG.eq_1 d s v;have u:=atR.eq_1 d s v;generalize YG d s v=W at *;generalize atR d s v=X at *;cases ha:Yk d&&Kt v with
 |false =>rw[ha,if_neg ψ]at t u;subst t;subst u;rw[ZIe]at *;refine rx @eQ2 ?_;refine rg ?_;refine cl (hA) ?_;refine rg ?_;refine i1 ?_;refine rg ?_;refine rt i ?_;rfl
 |true =>
  rw[ha,if_pos rfl]at t u;by_cases hf:Zm d s (I d.msgs)<0;rw[if_pos hf]at t u;subst t;subst u;rw[ZIe]at *;refine rx @eQ2 ?_;refine rg ?_;refine cl (hA) ?_;refine rg ?_;refine i1 ?_;refine rg ?_;refine rt i ?_;rfl;rw[if_neg hf]at t u;subst u;simp only[ZH1]at ha;have o:=WD (d:=d) (s:=s) ω;obtain⟨hv,hh⟩:=ZbE ha.2 hs;have hF:Zc ZHP 52 [.agg d.cells,.agg (Zs d s).cells,.agg v.cells] (Zss (ZW d 51 (Zs d s) v [])):=λst =>
   (ZpH d (Zs d s) v (ZW d 51 (Zs d s) v []) st λS=>Zkw hI (Jy ha.1) 51 (ixS d s) v [] S o.2 hv hh ψ).mono λr S ⟨h1,h2⟩=>⟨h2,h1⟩
  generalize ZW d 51 (Zs d s) v []=R at *;unfold Zss at hF;generalize (if R.2=0 then [] else R.1)=q at *;subst t;generalize Zs d s=m at *;rw[ZIe]at *;refine rx @eQ2 ?_;refine rg ?_;refine cX @eQ3 (hA) ?_;refine rg ?_;refine iG ?_;refine cl (hF) ?_;refine rg ?_;refine rt i ?_;rfl
def ZcJ{d s v}(h:(YG d s v).2=0):Qa d/\Kt v=true/\0<=Zm d s (I d.msgs)/\(ZW d 51 (Zs d s) v []).2=0:=by
 unfold YG at h;split at h;rename_i i;rw[ZH1]at i;split at h;simp at h;exact⟨Jy i.1,i.2,ω,h⟩;simp at h
def ZBv(d:Dfn)(s:Str)(v:Val):Int:=if (YG d s v).2=0 then lenS d 51 (Zs d s) v else 0
def ZBV{d s v}(h:(atS d s v).2=0):Qa d/\Kt v=true/\0<=Zm d s (I d.msgs)/\(atS d s v).1=Zm d s (I d.msgs):=by
 unfold atS at h⊢;split at h;rename_i i;rw[if_pos i];rw[ZH1]at i;split at h;simp at h;rename_i o;rw[if_neg o];exact⟨Jy i.1,i.2,ω,rfl⟩;simp at h
def ZtW{v}(i:Yz v=true->wtN v<=5100/\ZY v<=51):Yz v=true->KF v<=1099511627776:=λh=>by
 have h1:=Zps v;have h2:=(i h).1;omega
def ZAy{d s v}(hs:Yz v=true->wtN v<=5100/\ZY v<=51)(h:(atS d s v).2=0):
  Zc ZHP 20 [.agg d.cells,.i (atS d s v).1,.agg v.cells,.str []] (mfT (ZW d 51 (Zs d s) v [])) /\
  ((ZW d 51 (Zs d s) v []).2=0->Zc ZHP 79 [.agg d.cells,.i (atS d s v).1,.agg v.cells] (.i (lenS d 51 (Zs d s) v))):=by
 obtain⟨u,hv,hf,t⟩:=ZBV h;have i:=WD hf;obtain⟨o,r⟩:=ZbE hv hs;refine⟨?_,λhm=>?_⟩;rw[t,i.1];exact Zi1 u 51 (ixS d s) v [] i.2 o r ψ;rw[t];exact Zu6 u hf o hm
def ZBj(d s v):YG d s v=if (atS d s v).2=0 then ((if (ZW d 51 (Zs d s) v []).2=0 then [] else (ZW d 51 (Zs d s) v []).1,(ZW d 51 (Zs d s) v []).2),(ZW d 51 (Zs d s) v []).2) else (([],0),(atS d s v).2):=by
 unfold YG atS;split;split;simp;simp;simp
mutual
def ZBB:Val->Val
 |.mk n _ b h p=>.mk n 0 b h (plainL p)
def plainL:List Val->List Val
 | []=>[]
 |v::r=>ZBB v::plainL r
end
section
variable {d:Dfn} {m:Msg} {rec:Msg->Val->Val} (hrec:∀ s y,ZBB (rec (Zs d s) y)=ZBB y)
include hrec
end
def ZCg(m:Msg):Prop:=∀f∈vfs m.fields,Yy f=true->0<=f.low/\f.high<34359738368
section
variable {d:Dfn} {m:Msg} {rec:Msg->Val->Val} (hrec:∀ s y,Yz y=true->Yz (rec (Zs d s) y)=true) (hm:ZCg m)
include hrec
end
def MN.xmem{T v c fp x cap row f X}(h:MN T v c fp x cap row f X):x∈fp:=by rw[h.fp];simp
section
variable {T A S:St} {v:Val} {l:List Fld} {P:List Val} {c:List D} {fp:List Nat} {x cap:Nat} {row row':Nat->List D} {f:Nat->List Nat} {X:List D} {z5 z6 z7:Nat}
end
def MT.cells4{T v c fp}(h:MT T v c fp):∃p,c=[.str v.name,.i v.int,Zg v.bytes,Zx v.hdrs,p]/\Y1 T fp p (Zu v.parts)/\(I v.parts=0->p=Zu [])/\Qy p=true/\∀L s,qv L s .lenL [.d p]=sO (True,.d (.i (I v.parts))):=by
 cases h with
 |leaf n i b h=>exact⟨_,rfl,.refl _,λ_=>rfl,rfl,λ_ _=>rfl⟩
 |node n i b h ps x cap row f X hp hb hc hx hn hd =>refine⟨_,rfl,?_,λo=>by simp only[Val.parts]at o;omega,rfl,λ_ _=>rfl⟩;have hm:MT T (.mk n i b h ps) _ _:=.node n i b h ps x cap row f X hp hb hc hx hn hd;have:=hm.ld (Ln:=x::(ZH5 (I ps)).flatMap f) λ_ r=>r;rw[ZIe]at this;cases this with|cons _ this=>cases this with|cons _ this=>cases this with|cons _ this=>cases this with|cons _ this=>cases this with|cons h5 _=>exact h5
def ZzN{f args i T Ln d}(u:∀b∈Ln,∃ds,T b=sO (.cells ds))(hl:LdC T Ln args i)(hc:Zc ZHP f i d)(hd:SC (λb=>((λ_=>nO:St) b).isSome=true) d):Zf ZHP f args T λr S=>r=.ret d/\S=T:=by
 have h:=Zf.lend u hl (hc λ_=>nO) (λr S t=>by
  obtain⟨rfl,rfl⟩:=t;exact⟨hd,λb o h=>by simp at h⟩)
 refine h.mono λr S hS=>?_;obtain⟨S',⟨t,rfl⟩,_,rfl⟩:=hS;exact⟨t,ZgY T⟩
section
variable {T A S:St} {v:Val} {l:List Fld} {P:List Val} {c:List D} {fp:List Nat} {x cap:Nat} {row row':Nat->List D} {f:Nat->List Nat} {X:List D} {z5 z6 z7:Nat}
end
def Zx0(b):(ZH5 (I b)).map (λi=>ZcB (u8C (b.getD i dE)))=b:=by
 refine List.ext_getElem ψ λi h1 o=>?_;have:=b[i].toNat_lt;simp[ZH6,o,u8C,ZcB]
def ZzA{L s}(b):qv L s (.conv .b2s) [.d (Zg b)]=sO (∀i,i<I b->ZmY (u8C (b.getD i dE)),.d (.str b)):=by
 have:qv L s (.conv .b2s) [.d (Zg b)]=sO (∀i,i<I b->ZmY (u8C (b.getD i dE)),.d (.str ((ZH5 (I b)).map λi=>ZcB (u8C (b.getD i dE))))):=rfl;rw[this,Zx0]
def Zlo(b:Str):∀i,i<I b->ZmY (u8C (b.getD i dE)):=λi _=>⟨_,rfl⟩
def ZjN{g w t Ln}(u:Ym g t w)(hL:∀b∈Ln,∃ds,t b=sO (.cells ds)):Ym (WK g t Ln) (t.delL Ln) w:=by
 have hx:=JZ u hL;have o:∀c,c∉Ln->(WK g t Ln).prot c=g.prot c:=λc r=>by simp only[WK,if_neg r]
 refine⟨λc x i=>?_,λc x i=>?_,λc r=>?_,λn cs r=>(u.tabs n cs r).mono hx⟩;simp only[St.delL]at i;by_cases r:c∈Ln;simp[r]at i;simp only[r,if_false]at i;exact(u.obj c x i).mono hx rfl (o c r);simp only[St.delL]at i;by_cases r:c∈Ln;simp[r]at i;simp only[r,if_false]at i;exact u.kept c x i;have h1:=u.fresh c r;refine⟨(o c λh=>?_).trans h1.1,h1.2⟩;obtain⟨ds,hd⟩:=hL c h;have:=(u.obj c _ hd).lt;omega
def Zf.freeze{f args T Φ Ψ}(h:Zf ZHP f args T Φ)(hΦ:∀r S,Φ r S->∃Ln d i,r=.ret d/\(∀b∈Ln,∃ds,S b=sO (.cells ds))/\Y1 S Ln d i/\Ψ (.ret i) (S.delL Ln)):Zf ZHP f args T Ψ :=
 ⟨h.1,λg w vs hs ha=>(h.2 g w vs hs ha).mono λe w' ⟨g',S',r,he,t,u,hq⟩=>by
  obtain⟨Ln,d,i,rfl,o,hl,hΨ⟩:=hΦ _ _ hq;have hx:=JZ t o;refine⟨WK g' S' Ln,S'.delL Ln,.ret i,he.trans hx,ZjN t o,?_,hΨ⟩;cases e<;>simp only[Zgc]at u⊢;exact hl _ w' _ (ZcL t o) (Rep.mono u hx)⟩
def Y1.mslO{t:St}{Ln:List Nat}{b off n cap sz:Nat}(hb:b∈Ln)(ht:t b=sO (.cells ds))(hlen:off+n*sz<=I ds)(hrow:∀i,i<n->LdC t Ln ((ds.drop (off+i*sz)).take sz) (row i)):Y1 t Ln (.msl b off n cap sz) (.sl .none n sz row):=by
 intro g w v hf hr;obtain⟨vs,T,hh,hsz,hc,one,hp⟩:=hf b hb ds ht;cases hr with
 |mslx a _ _ _=>exact .sl0 _ _ _ _ ψ
 |msl _ _ _ _ _ hcap hbig =>
 have r:∀i j,i<n->j<sz->off+i*sz+j<I ds:=λi j hi hj=>by have:(i+1)*sz<=n*sz:=ZIi _ hi;rw[ZIp,Nat.one_mul]at this;omega
 have o:∀i j,i<n->j<sz->vs[off+i*sz+j]?=sO (vs.getD (off+i*sz+j) undef):=λi j hi hj=>by have h1:=r i j hi hj;simp only[Array.getD_eq_getD_getElem?,Array.getElem?_eq_getElem (show off+i*sz+j<vs.size by omega),ZIr]
 have u:∀i j,i<n->j<sz->vs.getD (off+i*sz+j) undef∈vs:=λi j hi hj=>by have h1:=r i j hi hj;simp only[Array.getD_eq_getD_getElem?,Array.getElem?_eq_getElem (show off+i*sz+j<vs.size by omega),ZIr];exact Array.getElem_mem _
 have ab:∀i,i<n->(row i).length=sz:=λi hi=>by rw[<-(hrow i hi).len,ZIa,ZIq];have:(i+1)*sz<=n*sz:=ZIi _ hi;rw[ZIp,Nat.one_mul]at this;omega
 refine .sl b off n cap sz row .none (λi j=>vs.getD (off+i*sz+j) undef) ab (λi j hi hj=>?_) (λi j hi hj=>?_) (λi j d hi hd=>?_) (λi j hi hj=>one _ (u i j hi hj)) trivial hcap hbig;rw[Zbk hh];exact o i j hi hj;have:=r i j hi hj;omega;have hj:j<sz:=by rw[<-ab i hi];exact(List.getElem?_eq_some_iff.1 hd).1
 obtain⟨x,hx,ac⟩:=(hrow i hi).get hd;rw[ZIv,if_pos hj,List.getElem?_drop]at hx;exact ac g w _ hf (hc _ _ x (o i j hi hj) hx)
def ZrB{l:List UInt8}{x n c off:Nat}{X:List D}{Ln:List Nat}(r:x∈Ln)(h:s x=sO (.cells ((l.map u8C).flatten++X)))(o:n=(l.drop off).length)(ho:off<=I l):Y1 s Ln (.msl x off n c 1) (Zg (l.drop off)):=by
 subst o;rw[ZcS]at h;refine Y1.mslO r h (by rw[ZHX,ZH4,ZIq];omega) λj i=>?_;rw[ZIq]at i;rw[Nat.mul_one];have:(((l.map λc=>D.int .u8 c.toNat)++X).drop (off+j)).take 1=u8C ((l.drop off).getD j dE):=by rw[List.drop_append_of_le_length (by rw[ZH4];omega),<-List.map_drop,Yf ω,ZIo,List.cons_append,List.take_succ_cons,List.take_zero];simp[u8C,ZH6,List.getElem?_drop]
 rw[this];exact LdC.refl _
def Zga{P}{F:Fr P}{dk:List QU}{s T:St}{l:List UInt8}{D1 ob t}(hB:Buf s 1 (l.map u8C) D1 ob)(r:T.sub s)(u:∀x,ob=sO x->T x=nO)(k:ZA F dk [(t,.d (Zg l))] [] T):ZA F dk [(t,.d D1)] [] s:=by
 cases hB with
 |nil h =>have hl:l=[]:=List.map_eq_nil_iff.1 h;subst hl;exact Ww r (ZuA (.cons (.d (Z1 λb h=>by cases h)) .nil) .nil k)
 |obj x cap X h hX hc =>
  have i:(l.map u8C).length=I l:=by rw[ZH4]
  refine Zjf (H':=[(t,.d (Zg l))]) (L':=[]) [x] (λb hb=>by simp only[List.mem_singleton]at hb;subst hb;exact⟨_,h⟩) ?_ ?_ (Ww (λy o hy=>?_) k);refine .cons ?_ .nil;rw[i];exact ZrB (off:=0) ψ h rfl (Nat.zero_le _);exact .nil;have:=u x rfl;simp only[St.delL,List.mem_singleton];rw[if_neg λe=>by rw[e,this]at hy;cases hy];exact r y o hy
def ZAn{f args}{T:St}{n c sz:Nat}(h:Zf ZHP f args T λr S=>∃z,T z=nO/\r=.ret (.msl z 0 n c sz)/\S=T.upd z (.cells ds))(hl:n*sz<=I ds)(hr:∀j,j<n->(ds.drop (j*sz)).take sz=row j):
  Zf ZHP f args T λr S=>r=.ret (.sl .none n sz row)/\S=T:=Zf.freeze h λr S ⟨z,hz,i,o⟩=>by
 subst o;refine⟨[z],_,_,i,λb t=>?_,Y1.msl (List.mem_singleton.2 rfl) (ZHW _ _ _) hl λj u=>?_,rfl,?_⟩;rw[List.mem_singleton.1 t];exact⟨_,ZHW _ _ _⟩;rw[hr j u];exact LdC.refl _;funext y;simp only[St.delL,List.mem_singleton];by_cases h:y=z;rw[if_pos h,h,hz];rw[if_neg h,ZH0 _ _ h]
def Zna(k:Int):Zc ZHP 211 [Wi [k],.i 8] (Wi (List.replicate 8 k)):=λT=>by
 refine ZAn (n:=8) (c:=8) (sz:=1) (row:=λi=>itC ((List.replicate 8 k).getD i dE)) (ZlU k T) (by rw[List.length_replicate];omega) λj hj=>?_;rcases(by omega:j=0\/j=1\/j=2\/j=3\/j=4\/j=5\/j=6\/j=7) with rfl|rfl|rfl|rfl|rfl|rfl|rfl|rfl<;>rfl
def Zg4:Nat->List Nat->List Nat
 |0,s=>s
 |n+1,s=>Zg4 n (Zeu 8 0 s)
def ZqF(s):Zg4 0 s=s:=rfl
def ZqE(n s):Zg4 (n+1) s=Zg4 n (Zeu 8 0 s):=rfl
def S16.rnd:∀{n s},S16 s->S16 (Zg4 n s)
 |0,_,h=>h
 |n+1,s,h=>S16.rnd (n:=n) h.dbl
def leW(v:Nat):List UInt8:=[UInt8.ofNat v,UInt8.ofNat (v / 256),UInt8.ofNat (v / 65536),UInt8.ofNat (v / 16777216)]
def Zdh(R s:List Nat):Nat->List UInt8
 |0=>[]
 |i+1=>Zdh R s i++leW ((R.getD i 0+s.getD i 0) % 4294967296)
def ZfH{R s}:∀{n},(Zdh R s n).length=4*n
 |0=>rfl
 |n+1=>by rw[Zdh,ZHX,ZfH];simp only[leW,ZH3,List.length_nil];omega
def Zbh(s:List Nat):List UInt8:=Zdh (Zg4 10 s) s 16
def ZrC(v:Nat)(k:Nat):IntKind.u8.wrap ((v / k:Nat):Int)=((UInt8.ofNat (v / k)).toNat:Int):=by
 rw[UInt8.toNat_ofNat'];have i:∀n:Nat,IntKind.u8.wrap (n:Int)=(n:Int) % 256:=λn=>rfl;rw[i];omega
def ZpM(v:Nat){k:Nat}(i:k<=32):WL .u32 (v:Int) (k:Int)=((v / 2 ^ k:Nat):Int):=by
 unfold WL;rw[Int.toNat_natCast,show Nat.min k IntKind.u32.bits=k from Nat.min_eq_left i,Int.fdiv_eq_ediv_of_nonneg _ (by exact_mod_cast Nat.zero_le _)]
 push_cast
 rfl
def Zns{s:List Nat}(hs:S16 s):Zc ZHP 263 [.agg (s.map w32)] (Zg (Zbh s)):=by
 refine Ze (cR 263 f263) λF st ad=>?_;obtain⟨R,hR⟩:∃R,Zg4 10 s=R:=⟨_,rfl⟩;have hB:Zbh s=Zdh R s 16:=by unfold Zbh;rw[hR]
 have hRS:S16 R:=by rw[<-hR];exact hs.rnd
 rw[hB]at ad;have hL:(List.map w32 s).length=16:=by rw[ZH4];exact hs.1
 have hT:List.take 16 (List.map w32 s)=List.map w32 s:=List.take_of_length_le ω;refine rg ?_;refine xA (nd2 @hL @hT) ?_;refine Zd (Zd ?_);refine xP 3 λz hz=>?_;refine rg ?_;refine Zb (fr (10) (λi Q=>∀s1,S16 s1->Zg4 (10-i) s1=R->i<=10->Q [(1,.loc 1 0),(3,.d (.ptr z 0)),(8,.d (.i i))] [(1,s.map w32)] (st.upd z (.cells (s1.map w32)))) (λn ac=>?_) λav=>?_)
 .intro i hn2 s1 ab hp hi;refine rg ?_;refine Zd (Zj rfl trivial (λhd=>?_) (λhd=>?_));simp only[decide_eq_true_eq]at hd;rw[show 10-i=(10-(i+1))+1 by omega,ZqE]at hp;refine rg ?_;refine cV (ZmI ab (ZHW _ _ _)) ?_ ?_;rintro d S ⟨hr,hS⟩;rw[ZH7]at hS;subst hS;cases hr;refine gR0 ?_;refine gA ?_;refine Za ?_;exact ac ((10)-(i+1)) ω (i+1) rfl _ ab.dbl hp ω;rintro d S ⟨hr,_⟩;cases hr;simp only[decide_eq_false_iff_not]at hd;obtain rfl:i=10:=ω;rw[Nat.sub_self,ZqF]at hp;subst hp;refine rg ?_;refine⟨ω,ω,ω,by unfold big;omega,λx hx=>?_⟩;obtain⟨ar,ai⟩:=Zn hx;have an:(List.map w32 s1).length=16:=by rw[ZH4];exact ab.1
  have ao:List.take 16 (List.map w32 s1)=List.map w32 s1:=List.take_of_length_le ω;have au:∀o,((st.upd z (.cells (s1.map w32))).upd x o) z=sO (.cells (s1.map w32)):=λo=>by rw[ZH0 _ _ ar.symm,ZHW]
  have am:Buf ((st.upd z (.cells (s1.map w32))).upd x (.cells (WT [D.int .u8 0] 64))) 1 ((Zdh s1 s 0).map u8C) (.msl x 0 0 64 1) (sO x):=.obj x 64 (WT [D.int .u8 0] 64) (ZHW _ _ _) rfl (Nat.zero_le _);refine xA (nd2 @au (nd2 @an @ao)) ?_;refine Zb (fr (16) (λj Q=>∀D1 ob S1,Buf S1 1 ((Zdh s1 s j).map u8C) D1 ob->st.sub S1->(∀y,ob=sO y->st y=nO)->j<=16->Q [(1,.loc 1 0),(4,.d D1),(13,.d (.agg (s1.map w32))),(14,.d (.i j))] [(1,s.map w32)] S1) (λn t=>?_) λaj=>?_)
  .intro j hn3 D1 ob S1 u r ah hj;refine rg ?_;refine Zd (Zj rfl trivial (λae=>?_) (λae=>?_))
   .simp only[decide_eq_true_eq]at ae;have hRl:=ab.1;have hsl:=hs.1;have r1:=ZhQ (s:=s1) (q:=j) ω;have r2:=ZhQ (s:=s) (q:=j) ω;have aq:Zdh s1 s (j+1)=Zdh s1 s j++leW ((s1.getD j 0+s.getD j 0) % 4294967296):=rfl;have hol:=ZfH (R:=s1) (s:=s) (n:=j);refine xA @r1 ?_;have wv:IntKind.u32.wrap ((s1.getD j 0:Nat)+(s.getD j 0:Nat):Int)=(((s1.getD j 0+s.getD j 0) % 4294967296:Nat):Int):=by rw[<-ZcA];push_cast;rfl
    have lv:(s1.getD j 0+s.getD j 0) % 4294967296<4294967296:=Nat.mod_lt _ (by decide);refine rh ?_;refine We ?_;simp only[Eqs,reduceCtorEq,ZHV,reduceIte,ZHR,ZHY,ZHS,Wy,WW,r2,hL];refine aa ?_;refine ZaU rfl rfl rfl φ (We ?_);simp only[Eqs,reduceCtorEq,ZHV,reduceIte,ZHR,ZHY,ZHS,Wy,WW,wv];generalize (s1.getD j 0+s.getD j 0) % 4294967296=v at *;have h8:WL .u32 (v:Int) 8=((v / 256:Nat):Int):=ZpM v (k:=8) (by decide);have ak:WL .u32 (v:Int) 16=((v / 65536:Nat):Int):=ZpM v (k:=16) (by decide);have al:WL .u32 (v:Int) 24=((v / 16777216:Nat):Int):=ZpM v (k:=24) (by decide);have c0:IntKind.u8.wrap (v:Int)=((UInt8.ofNat v).toNat:Int):=by have:=ZrC v 1;rwa [Nat.div_one]at this
    have c1:=ZrC v 256;have c2:=ZrC v 65536;have c3:=ZrC v 16777216;refine xA (nd2 @h8 (nd2 @ak (nd2 @al (nd2 @c0 (nd2 @c1 (nd2 @c2 @c3)))))) ?_;refine ZaT rfl rfl (u) (by exact JA) rfl rfl φ φ (.elems rfl) (by rw[ZH4];omega) (by rw[ZH4];unfold big;omega) (by (show _=(leW v).map u8C;rfl)) (by exact JA) λs1 D1 ob1 u af=>?_;refine gR0 ?_;refine gA ?_;have ag:∀y o,st y=sO o->ob≠sO y:=λy o hy e=>by rw[ah y e]at hy;cases hy
    refine Za ?_;exact t ((16)-(j+1)) ω (j+1) rfl D1 ob1 s1 (by rw[aq,List.map_append];exact u) (λy o hy=>(af y o (r y o hy) (ag y o hy)).1) (λy e=>by
     cases hy:st y with
     |none=>rfl
     |some o=>exact absurd e (af y o (r y o hy) (ag y o hy)).2) ω
   simp only[decide_eq_false_iff_not]at ae;obtain rfl:j=16:=ω;refine rg ?_;refine Zga u r ah ?_;exact ad rfl φ (ZHT _) ZHU
  have ap:st.sub ((st.upd z (.cells (s1.map w32))).upd x (.cells (WT [D.int .u8 0] 64))):=λy o hy=>by
   have e1:y≠x:=λe=>by rw[e,ai]at hy;cases hy
   have e2:y≠z:=λe=>by rw[e,hz]at hy;cases hy
   rw[ZH0 _ _ e1,ZH0 _ _ e2];exact hy
  exact aj _ 0 rfl _ _ _ am ap (λy e=>by cases e;exact ai) ω
 exact av _ 0 rfl s hs hR ω
def Ze7(v:Int):Bool:=dC (0<=v)&&dC (v<=4294967295)
def Zho(v:Int):Zc ZHP 210 [.i v] (.bool (Ze7 v)):=by
 refine Ze (cR 210 f210) λF st i=>?_;refine gG ?_;refine rb i ?_;unfold Ze7;cases dC (0<=v)<;>rfl
def Zlu{v:Int}:Zc ZHP 262 [.i v] (.bool (!Ze7 v)):=by
 refine Ze (cR 262 f262) λF st i=>?_;refine gG ?_;refine cl (Zho v) ?_;refine rb i ?_;rfl
def Kf(k c:Nat):List Nat:=[1634760805,857760878,2036477234,1797285236,k,k,k,k,k,k,k,k,c,0,0,0]
def Zbs(k c:Nat):List Int:=[1634760805,857760878,2036477234,1797285236,k,k,k,k,k,k,k,k,c,0,0,0]
def ZuU{k c}(hk:k<4294967296)(hc:c<4294967296):S16 (Kf k c):=⟨rfl,λx i=>by
 simp only[Kf,ZIs,List.not_mem_nil,or_false]at i;omega⟩
def ZAs{k c}(r:k<4294967296)(o:c<4294967296)(i:Nat)(hi:i<16):IntKind.u32.wrap ((Zbs k c).getD i dE)=((Kf k c).getD i 0:Nat):=by
 have h:∀n:Nat,n<4294967296->IntKind.u32.wrap (n:Int)=(n:Int):=λn t=>by rw[ZcA,Nat.mod_eq_of_lt t]
 rcases(by omega:i=0\/i=1\/i=2\/i=3\/i=4\/i=5\/i=6\/i=7\/i=8\/i=9\/i=10\/i=11\/i=12\/i=13\/i=14\/i=15) with rfl|rfl|rfl|rfl|rfl|rfl|rfl|rfl|rfl|rfl|rfl|rfl|rfl|rfl|rfl|rfl;all_goals first|exact h k r|exact h c o|rfl
def ZB0(a b c d:Int):(D.sl .full 4 1 (ZI [.i 0] ([0,1,2,3].zip [.i a,.i b,.i c,.i d]))).Le (Wi [a,b,c,d]):=Zca rfl λi hi=>by
 rcases(by omega:i=0\/i=1\/i=2\/i=3) with rfl|rfl|rfl|rfl<;>rfl
def ZzO(a:Int):(D.sl .full 1 1 (ZI [.i 0] ([0].zip [.i a]))).Le (Wi [a]):=Zca rfl λi hi=>by
 obtain rfl:i=0:=ω;rfl
def ZB1{t1 t2 t3 t4:Tok}{n1 n2 n3 n4:Nat}{r1 r2 r3 r4:Nat->List D}{o r t u:List Int}(h1:(D.sl t1 n1 1 r1).Le (Wi o))(h2:(D.sl t2 n2 1 r2).Le (Wi r))(h3:(D.sl t3 n3 1 r3).Le (Wi t))(h4:(D.sl t4 n4 1 r4).Le (Wi u)):
  (D.sl .full 4 1 (ZI [.nilsl] ([0,1,2,3].zip [.sl t1 n1 1 r1,.sl t2 n2 1 r2,.sl t3 n3 1 r3,.sl t4 n4 1 r4]))).Le (slD 1 liC [o,r,t,u]) :=
 ZkW.trans (Znj λi hi=>by
  rcases(by omega:i=0\/i=1\/i=2\/i=3) with rfl|rfl|rfl|rfl;exact LeC.one h1;exact LeC.one h2;exact LeC.one h3;exact LeC.one h4)
def ZeR(K:List Nat)(i:Nat):List D:=(K.take i).map w32++List.replicate (16-i) (.int .u32 0)
def Zw5{K:List Nat}(h:K.length=16){i}(hi:i<=16):(ZeR K i).length=16:=by
 unfold ZeR;rw[ZHX,ZH4,ZIa,List.length_replicate];omega
def Zw6{K:List Nat}(h:K.length=16){i}(hi:i<16):(ZeR K i).take i++[.int .u32 (K.getD i 0:Nat)]++(ZeR K i).drop (i+1)=ZeR K (i+1):=by
 have o:((K.take i).map w32).length=i:=by rw[ZH4,ZIa];omega
 have r:K.take (i+1)=K.take i++[K.getD i 0]:=by rw[List.take_succ,ZIn ω];simp[ZH6,show i<K.length by omega]
 unfold ZeR;rw[List.take_left' o,show 16-i=1+(16-(i+1)) by omega,<-List.replicate_append_replicate,<-ZIh ((K.take i).map w32),List.drop_left' (by rw[ZHX,o];rfl),r,List.map_append];rfl
def Znr{k c:Nat}(hk:k<4294967296)(hc:c<4294967296):Zc ZHP 212 [Wi (List.replicate 8 (k:Int)),Wi [0,0,0],.i c] (.tup [Zg (Zbh (Kf k c)),.i 0]):=by
 refine Ze (cR 212 f212) λF st ad=>?_;have am:=ZB1 (ZB0 1634760805 857760878 2036477234 1797285236) (ZHT (Wi (List.replicate 8 (k:Int)))) (ZzO (c:Int)) (ZHT (Wi [0,0,0]));have af:([[1634760805,857760878,2036477234,1797285236],List.replicate 8 (k:Int),[(c:Int)],[0,0,0]]:List (List Int)).flatten=Zbs k c:=rfl;have r:=Zf.leA (LeC.one am) (ZiE [[1634760805,857760878,2036477234,1797285236],List.replicate 8 (k:Int),[(c:Int)],[0,0,0]] (Nat.le_of_ble_eq_true rfl) (Nat.le_of_ble_eq_true rfl) st);rw[af]at r;have u:((Zbs k c).any λv=>!Ze7 v)=false:=by simp only[Zbs,List.any_cons,List.any_nil,Ze7];simp;omega
 have ag:Zc ZHP 261 [Wi (Zbs k c),.fn (.func 262) [] []] (.bool false):=λst=>by have:=ZeF (Zbs k c) (.fn (.func 262) [] []) (λv=>!Ze7 v) (λ_=>st) λi _=> Zlu.VT (first:=[]) (caps:=[]) st;rw[u]at this;exact this
 have al:(Zbs k c).length=16:=rfl;have aj:=ZAs hk hc;have hS:=ZuU hk hc;generalize Zbs k c=KI at *;generalize Kf k c=KS at *;refine gG ?_;refine⟨rfl,?_⟩;refine cV (r) ?_ ?_;rintro d S ⟨hr,ae⟩;obtain rfl:=ae.symm;cases hr;refine gR0 ?_;have hlk:((List.replicate 8 (k:Int)).length:Int)=8:=rfl;have hl0:(([0,0,0]:List Int).length:Int)=3:=rfl;refine rx (nd2 @Wi.eq_1 @eQ1) ?_;refine cG (ag) ?_;refine iG ?_;refine rg ?_;rw[al];have t:=hS.1;refine Zb (fr (16) (λi Q=>i<=16->Q [(9,.loc 9 0),(31,.d (.sl .none 16 1 λi=>itC (KI.getD i dE))),(32,.d (.i (16:Nat))),(33,.d (.i i))] [(9,ZeR KS i)] st) (λn o=>?_) λap=>?_);intro i hn2 hi;refine rg ?_;refine Zd (Zj rfl trivial (λhd=>?_) (λhd=>?_));simp only[decide_eq_true_eq]at hd;have ab:i<16:=ω;have ah:=Zw5 t hi;have ai:=Zw6 t ab;have ak:=aj i ab;refine xA @itC.eq_1 ?_;refine xA (nd2 @ak (nd2 @ah (nd2 @ai @Nat.mul_one))) ?_;refine gA ?_;refine Za ?_;exact o ((16)-(i+1)) ω (i+1) rfl ω;simp only[decide_eq_false_iff_not]at hd;obtain rfl:i=16:=ω;have ac:ZeR KS 16=KS.map w32:=by unfold ZeR;rw[List.take_of_length_le ω,Nat.sub_self];simp
 rw[ac];have an:(KS.map w32).length=16:=by rw[ZH4];exact t
 have ao:List.take 16 (KS.map w32)=KS.map w32:=List.take_of_length_le ω;refine xA (nd2 @an @ao) ?_;refine cl (Zns hS) ?_;refine rt ad ?_;rfl;exact ap _ 0 rfl ω;rintro d S ⟨hr,_⟩;cases hr
def ZiN(k i:Nat):UInt8:=(Zbh (Kf k (i / 64))).getD (i % 64) dE
def J3(k:Nat):Nat->List UInt8->List UInt8
 |_,[]=>[]
 |i,x::r=>(x ^^^ ZiN k i)::J3 k (i+1) r
def Qr(k:Nat)(b:List UInt8):List UInt8:=if k=0 then b else J3 k 0 b
def ZcD{k}:∀{b i},(J3 k i b).length=I b
 | [],_=>rfl
 |x::r,i=>by rw[J3,ZH3,ZcD,ZH3]
def ZqS{k}:∀{b i x},J3 k i (b++[x])=J3 k i b++[x ^^^ ZiN k (i+I b)]
 | [],i,x=>rfl
 |y::r,i,x=>by rw[List.cons_append,J3,ZqS,J3,ZH3,show i+1+I r=i+(I r+1) by omega];rfl
def Zsf{k b}:(Qr k b).length=I b:=by
 unfold Qr;split;rfl;exact ZcD
def Qw(k:Nat)(b:List UInt8)(n:Nat):List UInt8:=J3 k 0 (b.take n)++b.drop n
def ZsJ{k b n}:(Qw k b n).length=I b:=by
 unfold Qw;rw[ZHX,ZcD,<-ZHX,List.take_append_drop]
def ZuY{k b n}(h:n<I b):(Qw k b n).getD n dE=b.getD n dE:=by
 unfold Qw;have i:(J3 k 0 (b.take n)).length=n:=by rw[ZcD,ZIa];omega
 rw[Yf h];simp only[ZH6];rw[ZIw ω,i,Nat.sub_self];rfl
def ZsK{k b n}(h:n<I b):(Qw k b n).set n (b.getD n dE ^^^ ZiN k n)=Qw k b (n+1):=by
 have r:(J3 k 0 (b.take n)).length=n:=by rw[ZcD,ZIa];omega
 have i:(b.take n).length=n:=by rw[ZIa];omega
 have o:Qw k b (n+1)=J3 k 0 (b.take n)++[b.getD n dE ^^^ ZiN k n]++b.drop (n+1):=by unfold Qw;rw[ZQ h,ZqS,i,Nat.zero_add]
 rw[o];unfold Qw;rw[Yf h,List.set_append_right _ _ ω,r,Nat.sub_self];simp
def Zx5(x y:UInt8):Qp .xor .u8 (x.toNat:Int) (y.toNat:Int)=((x ^^^ y).toNat:Int):=by
 have t:=x.toNat_lt;have u:=y.toNat_lt;unfold Qp;simp only;have i:(BitVec.ofInt 8 (x.toNat:Int)).toNat=x.toNat:=by rw[BitVec.toNat_ofInt];omega
 have o:(BitVec.ofInt 8 (y.toNat:Int)).toNat=y.toNat:=by rw[BitVec.toNat_ofInt];omega
 show IntKind.u8.wrap ((BitVec.ofInt 8 (x.toNat:Int) ^^^ BitVec.ofInt 8 (y.toNat:Int)).toNat:Int)=_;rw[BitVec.toNat_xor,i,o,UInt8.toNat_xor];have h:=Nat.xor_lt_two_pow (n:=8) t u;have r:IntKind.u8.wrap ((x.toNat ^^^ y.toNat:Nat):Int)=((x.toNat ^^^ y.toNat:Nat):Int) % 256:=rfl;rw[r];omega
def Znt{k n:Int}(o:Ze7 k=true)(hn:0<=n/\n<=274877906944):Zc ZHP 157 [.agg [.i k,.i 0],.i n] (.i 0):=by
 refine Ze (cR 157 f157) λF st i=>?_;refine gG ?_;refine cX @o (Zho k) ?_;refine i0 ?_;refine gA ?_;refine Zj rfl trivial (λh=>by simp at h;omega) (λ_=>?_);refine rg ?_;refine ri i ?_;rfl
def Zf.giveL{f args o}{t:St}{Ln Φ}(u:∀b∈Ln,∃ds,t b=sO (.cells ds))(hl:LdC t Ln args o)(h:Zf ZHP f o (t.delL Ln) Φ):Zf ZHP f args t Φ :=
 ⟨h.1,λg w vs hs ha=>by
  have hx:=JZ hs u;have i:=ZN.ldC (ZcL hs u) (ha.imp λ_ _ h=>Rep.mono h hx) hl;exact(h.2 (WK g t Ln) w vs (ZjN hs u) i).mono λe w' ⟨g',S',r,he,hS,hr,hq⟩=>⟨g',S',r,hx.trans he,hS,hr,hq⟩⟩
def Zyz{S:St}{y o}(h:S y=nO):(S.upd y o).delL [y]=S:=by
 funext x;simp only[St.delL,List.mem_singleton];by_cases e:x=y;rw[if_pos e,e,h];rw[if_neg e,ZH0 _ _ e]
def ZkB(l:List UInt8)(i:0<I l)(hl:I l<=1000000000)(T):Zf ZHP 18 [Zg l] T λr S=>∃z c X,T z=nO/\r=.ret (.msl z 0 (I l) c 1)/\S=T.upd z (.cells ((l.map u8C).flatten++X))/\X.length=(c-I l)*1/\I l<=c:=by
 refine Zh (cR 18 f18) λF o=>?_;refine rx (nd2 @Zg.eq_1 @eQ1) ?_;refine gA ?_;refine iG ?_;refine ZrJ rfl rfl rfl rfl rfl (.elems rfl) φ φ i ω (by unfold big;omega) λz c u t=>?_;rw[List.flatMap_def,Ja];refine gR0 ?_;exact o.ret _ _ rfl φ (ZHT _) ZHU ⟨z,c,_,u,rfl,rfl,List.length_replicate,t⟩
def Zq0{k:Nat}(hk:k<4294967296)(b:List UInt8)(hb:I b<=1000000000):Zc ZHP 158 [.agg [.i k,.i 0],Zg b] (Zg (Qr k b)):=by
 refine Ze (cR 158 f158) λF st u=>?_;have af:Zc ZHP 211 [D.sl .full 1 1 (ZI [.i 0] ([0].zip [.i (k:Int)])),.i 8] (Wi (List.replicate 8 (k:Int))):=λT=>Zf.leA (.cons (ZzO (k:Int)) (.cons (ZHT _) .nil)) (Zna (k:Int) T);by_cases hq:k=0\/I b=0;have ap:Zc ZHP 18 [Zg b] (Zg b):=Q1 b hb;have aj:Qr k b=b:=by unfold Qr;split;rfl;rename_i h;have:b=[]:=List.eq_nil_of_length_eq_zero (hq.resolve_left h);subst this;rfl
 rw[aj]at u;refine gG ?_;refine cl (ap) ?_;refine rg ?_;by_cases ab:k=0;subst ab;refine i1 ?_;refine rg ?_;refine ro u ?_;rfl;have ah:b=[]:=List.eq_nil_of_length_eq_zero (hq.resolve_left ab);subst ah;refine Zj rfl trivial (λh=>by simp at h;exact absurd h ab) (λ_=>?_);refine rg ?_;refine cl (af) ?_;refine rg ?_;refine Zb (Qm ?_);refine rx (nd2 @Zg.eq_1 @eQ1) ?_;refine iG ?_;refine ro u ?_;rfl;have ab:¬k=0:=λe=>hq (.inl e);have ah:0<I b:=ω;have aj:Qr k b=J3 k 0 b:=by unfold Qr;rw[if_neg ab]
 rw[aj]at u;refine gG ?_;refine cV (ZkB b ah hb st) ?_ ?_;rintro d S ⟨z,c,X,hz,hr,hS,hX,az⟩;subst hS;cases hr;refine gR0 ?_;refine rg ?_;refine Zj rfl trivial (λh=>by simp at h;exact absurd h ab) (λ_=>?_);refine rg ?_;refine cl (af) ?_;refine rg ?_;obtain⟨N,hN⟩:∃N,(I b+63) / 64=N:=⟨_,rfl⟩;refine Zb (fr (N) (λm Q=>∀dn S1,dn=min (64*m) (I b)->S1=st.upd z (.cells (((Qw k b dn).map u8C).flatten++X))->m<=N->Q [(2,.loc 2 0),(5,.d (.msl z 0 (I b) c 1)),(6,.d (Wi (List.replicate 8 (k:Int)))),(7,.d (.i (dn:Nat)))] [(2,[.i k,.i 0])] S1) (λn ae=>?_) λa8=>?_);intro m hn2 dn S1 hdn ad hm;refine rg ?_;refine cd (λhd=>?_) (λhd=>?_);simp only[decide_eq_true_eq]at hd;have hdm:dn=64*m:=ω;have aq:(0+(dn:Int)).tmod 64=0:=by rw[Int.zero_add,Int.tmod_eq_emod_of_nonneg ω];omega
 have au:(0+(dn:Int)).tdiv 64=(m:Int):=by rw[Int.zero_add,Int.tdiv_eq_ediv_of_nonneg ω];omega
 refine xA @aq ?_;refine rx @au ?_;refine⟨ω,ω,ω,ω,ω,ω,ω,ω,by unfold big;omega,λy hy=>?_⟩;have a1:Zf ZHP 212 [Wi (List.replicate 8 (k:Int)),.msl y 0 3 3 1,.i m] (S1.upd y (.cells (WT [D.i 0] 3))) λr S=>r=.ret (.tup [Zg (Zbh (Kf k m)),.i 0])/\S=S1:=by
  have h1:=Zf.giveL (t:=S1.upd y (.cells (WT [D.i 0] 3))) (Ln:=[y]) (λb hb=>by obtain rfl:=List.mem_singleton.1 hb;exact⟨_,ZHW _ _ _⟩) (.cons (Y1.refl _) (.cons (Y1.msl (cap:=3) (row:=λi=>itC (([0,0,0]:List Int).getD i dE)) (List.mem_singleton.2 rfl) (ZHW _ _ _) (Nat.le_of_ble_eq_true rfl) λj hj=>by
   have hj:j<3:=hj;rcases(by omega:j=0\/j=1\/j=2) with rfl|rfl|rfl<;>exact LdC.refl _) (.cons (Y1.refl _) .nil))) (Znr (k:=k) (c:=m) hk ω _)
  rw[Zyz hy]at h1;exact h1
 refine cVD (a1) ?_ ?_;rintro d S ⟨hr,hS⟩;obtain rfl:=hS.symm;cases hr;refine kF ?_;refine gR0 ?_;have hbl:(Zbh (Kf k m)).length=64:=ZfH;obtain⟨L,hL⟩:∃L,min 64 (I b-dn)=L:=⟨_,rfl⟩;have a4:min (64:Int) (0+(I b:Int)-dn)=(L:Int):=ω;refine xA (nd2 @Zg.eq_1 (nd2 @eQ1 @a4)) ?_;refine rg ?_;generalize (if (64:Int) = ↑L then Tok.full else Tok.none)=tk;have a5:∀n,(Qw k b n).length=I b:=λn=>ZsJ;have ao:∀i,i<L->ZiN k (dn+i)=(Zbh (Kf k m)).getD i dE:=λi hi=>by unfold ZiN;rw[show(dn+i) / 64=m by omega,show(dn+i) % 64=i by omega]
 generalize Zbh (Kf k m)=bk at *;refine Zb (fr (L) (λi Q=>∀S2,S2=st.upd z (.cells (((Qw k b (dn+i)).map u8C).flatten++X))->i<=L->Q [(2,.loc 2 0),(5,.d (.msl z 0 (I b) c 1)),(6,.d (Wi (List.replicate 8 (k:Int)))),(7,.d (.i (dn:Nat))),(11,.d (.sl tk L 1 λi=>u8C (bk.getD i dE))),(54,.d (.sl tk L 1 λi=>u8C (bk.getD i dE))),(55,.d (.i L)),(56,.d (.i i))] [(2,[.i k,.i 0])] S2) (λn ac=>?_) λax=>?_);intro i hn3 S2 ag hi;refine rg ?_;refine Zd (Zj rfl trivial (λak=>?_) (λak=>?_));simp only[decide_eq_true_eq]at ak;have a2:i<L:=ω;have ar:dn+i<I b:=ω;have aw:=ZsK (k:=k) ar;have ay:=ZuY (k:=k) ar;rw[ao i a2]at aw;have hml:=a5 (dn+i);have am:S2 z=sO (.cells (((Qw k b (dn+i)).map u8C).flatten++X)):=by rw[ag,ZHW]
 have a6:∀o,S2.upd z o=st.upd z o:=λo=>by rw[ag,ZH7]
 generalize Qw k b (dn+i)=mx at *;have an:(dn:Int)+(i:Int)=((dn+i:Nat):Int):=ω;have ai:=Zwl (b:=mx) (X:=X) (q:=dn+i) ω;rw[ay]at ai;have av:=ZoQ (b:=mx) (X:=X) (b.getD (dn+i) dE ^^^ bk.getD i dE) (q:=dn+i) ω;rw[aw]at av;have a7:=Zx5 (b.getD (dn+i) dE) (bk.getD i dE);have ap:(dn+i)+1<=((mx.map u8C).flatten++X).length:=by rw[ZHX,ZcS,ZH4];omega
 refine xA @u8C.eq_1 ?_;generalize ((mx.map u8C).flatten++X)=cs at *;rw[Nat.mul_one]at ai;refine xA (nd2 @an (nd2 @am (nd2 @Nat.mul_one (nd2 @ai (nd2 @a7 @a6))))) ?_;rw[av];refine gA ?_;refine Za ?_;exact ac ((L)-(i+1)) ω (i+1) rfl _ rfl ω;simp only[decide_eq_false_iff_not]at ak;obtain rfl:i=L:=ω;refine gA ?_;rw[show(dn:Int)+(i:Int)=((dn+i:Nat):Int) by omega];refine Zi (Za ?_);exact ae ((N)-(m+1)) ω (m+1) rfl (dn+i) S2 ω ag ω;exact ax _ 0 rfl S1 ad ω;rintro d S ⟨hr,_⟩;cases hr;simp only[decide_eq_false_iff_not]at hd;have a0:dn=I b:=ω;refine rg ?_;have a3:Qw k b dn=J3 k 0 b:=by unfold Qw;rw[a0,ZIb,List.drop_length,ZIj]
 rw[a3]at ad;have al:((J3 k 0 b).map u8C).length=I b:=by rw[ZH4,ZcD]
 have hB:=Buf.obj (S:=S1) (sz:=1) (rows:=(J3 k 0 b).map u8C) z c X (by rw[ad,ZHW]) (by rw[al];exact hX) (by rw[al];exact az);rw[al]at hB;refine Zga (T:=st) hB (λy o hy=>by rw[ad,ZH0 _ _ λe=>by rw[e,hz]at hy;cases hy];exact hy) (λy e=>by cases e;exact hz) ?_;refine ro u ?_;rfl;exact a8 _ 0 rfl 0 _ ω (by unfold Qw;rw[List.take_zero,List.drop_zero];rfl) ω;rintro d S ⟨_,_,_,_,hr,_⟩;cases hr
def ZqZ{k:Nat}(t:k<4294967296)(b:List UInt8)(r:I b<=1000000000):Zc ZHP 117 [.i k,.i 0,Zg b] (.tup [Zg (Qr k b),.i 0]):=by
 refine Ze (cR 117 f117) λF st i=>?_;have u:Ze7 (k:Int)=true:=by unfold Ze7;simp;omega
 have o:=Znt (n:=(I b:Int)) u ⟨ω,ω⟩;refine gG ?_;refine rx @Zla ?_;refine cl (o) ?_;refine rg ?_;refine iG ?_;refine cl (Zq0 t b r) ?_;refine rt i ?_;rfl
def Zus(v)(hv:VOk v):Zc ZHP 11 [.agg v.cells] (.agg v.cells):=λT=>by
 refine Zf.freeze (Zrq v hv T) λr S ⟨c,fp,u,hm,o,t⟩=>⟨fp,_,_,u,λb i=>hm.live b i,Y1.agg (hm.ld λy h=>h),rfl,?_⟩;funext y;simp only[St.delL];by_cases e:y∈fp;rw[if_pos e,o y e];rw[if_neg e,t y e]
def Zfs(nm:Str)(l:List Val):Nat:=(l.filter λx=>dC (x.name=nm)).length
def Ze4(l:List Val)(f)(p:Val->Bool)(sts:Nat->St)(hw:I l<=1000000)(hf:∀i,i<I l->VT ZHP f [.agg (l.getD i dE).cells] (sts i) (.bool (p (l.getD i dE))) (sts (i+1))):
  ZL ZHP 159 [Zu l,f] (sts 0) (.i (Zl p l)) (sts (K9 p l)):=by
 refine ZE (cR 159 f159) λad F o=>?_;clear ad;refine rg ?_;refine rx @KN ?_;refine Zb (fr (I l) (λi Q=>i<=I l->(∀j,j<i->p (l.getD j dE)=false)->Q [(0,.d (Zu l)),(1,.d f),(7,.d (.i (I l))),(8,.d (.i i))] [] (sts i)) (λn t=>?_) λae=>?_);intro i hn hi r;refine rg ?_;refine Zd (Zj rfl trivial (λh1=>?_) (λh1=>?_));simp at h1;have ac:=YX (l:=l) (i:=i) h1;have ab:=hf i h1;rw[ZIe]at ab;refine rg ?_;refine xA (nd2 @atV @ac) ?_;refine cW (ab) ?_;refine cd (λh2=>?_) (λh2=>?_);have e1:=Wv h1 h2 r;have e2:=Zbz h1 h2 r;rw[e1,e2]at o;refine rg ?_;exact o rfl φ (ZHT _) ZHU;refine gA ?_;refine Za ?_;exact t ((I l)-(i+1)) ω (i+1) rfl ω (ZV (q:=λj=>p (l.getD j dE)=false) r h2);simp at h1;obtain rfl:i=I l:=ω;have u:∀x∈l,p x=false:=λx hx=>by obtain⟨j,hj,rfl⟩:=ZIc hx;have:=r j hj;simpa[ZH6,hj]using this
 rw[Wd u,JQ u]at o;refine rg ?_;exact o rfl φ (ZHT _) ZHU;exact ae _ 0 rfl ω (by intro j hj;omega)
def ZoT(x:Val){T:St}{zs zn:Nat}{nm:Str}{n0 c:Int}(hs:T zs=sO (.cells [.str nm,.i n0]))(hn:T zn=sO (.cells [.i c]))(hc:-1000000<=c/\c<=0):
  ZL ZHP 160 [.agg x.cells,.ptr zs 0,.ptr zn 0] T (.bool (dC (x.name=nm))) (if x.name=nm then T.upd zn (.cells [.i (c-1)]) else T):=by
 refine ZE (cR 160 f160) λt F i=>?_;clear t;rw[x.cells_eq];refine rg ?_;refine rx @hs ?_;refine cd (λu=>?_) (λu=>?_);have o:¬x.name=nm:=by simpa using u
 rw[if_neg o,decide_eq_false o]at i;refine rg ?_;exact i rfl φ (ZHT _) ZHU;have he:x.name=nm:=by simpa using u
 rw[if_pos he,decide_eq_true he]at i;refine xA @hn ?_;refine rx @ZHW ?_;have r:dC (c-1<0)=true:=by simp;omega
 rw[r];exact i rfl φ (ZHT _) ZHU
def Zp9{nm:Str}{l:List Val}{i}(h:i<I l):Zfs nm (l.take (i+1))=Zfs nm (l.take i)+if (l.getD i dE).name=nm then 1 else 0:=by
 unfold Zfs;rw[ZQ h,List.filter_append,ZHX]
 congr 1
 generalize l.getD i dE=x;by_cases e:x.name=nm;rw[List.filter_cons,if_pos (by simpa using e),if_pos e];rfl;rw[List.filter_cons,if_neg (by simpa using e),if_neg e];rfl
def ZAh{nm:Str}{l:List Val}:Zfs nm l<=I l:=List.length_filter_le _ _
def Zrt(v:Val)(nm:Str)(hl:I v.parts<=1000000):Zc ZHP 118 [.agg v.cells,.agg [.str nm,.i 0]] (.i (Zl (λx=>dC (x.name=nm)) v.parts)):=by
 refine Ze (cR 118 f118) λF st u=>?_;rw[v.cells_eq];refine gG ?_;refine Zd ?_;refine xP 3 λzs ai=>?_;refine xP 5 λzn ah=>?_;obtain⟨ag,ab⟩:=Zn ah;obtain⟨r,t⟩:∃r:Nat->St,r=λi=>((st.upd zs (.cells [.str nm,.i 0])).upd zn (.cells [.i (-(Zfs nm (v.parts.take i):Int))])):=⟨_,rfl⟩;have h0:((st.upd zs (.cells [.str nm,.i 0])).upd zn (.cells [.i 0]))=r 0:=by rw[t];simp[Zfs]
 have ac:∀i,i<I v.parts->ZL ZHP 160 [.agg (v.parts.getD i dE).cells,.ptr zs 0,.ptr zn 0] (r i) (.bool (dC ((v.parts.getD i dE).name=nm))) (r (i+1)):=λi hi=>by
  have ad:=Zp9 (nm:=nm) hi;have af:=ZAh (nm:=nm) (l:=v.parts.take i);rw[ZIa]at af;have h1:=ZoT (v.parts.getD i dE) (T:=r i) (zs:=zs) (zn:=zn) (nm:=nm) (n0:=0) (c:=-(Zfs nm (v.parts.take i):Int)) (by rw[t];simp only;rw[ZH0 _ _ ag.symm,ZHW]) (by rw[t];simp only;rw[ZHW]) ⟨ω,ω⟩;have h2:(if (v.parts.getD i dE).name=nm then (r i).upd zn (.cells [.i (-(Zfs nm (v.parts.take i):Int)-1)]) else r i)=r (i+1):=by rw[t];simp only;rw[ad];split;rw[ZH7];congr 3;push_cast;congr 1;omega;simp
  rw[h2]at h1;exact h1
 have ae:=Ze4 v.parts (.fn (.func 160) [] [.ptr zs 0,.ptr zn 0]) (λx=>dC (x.name=nm)) r ω λi hi=>(ac i hi).VT (first:=[]) (args:=[_]) (caps:=[_,_]);rw[h0];refine rg ?_;refine ct (ae) ?_;refine u rfl φ (ZHT _) ?_;rw[t];exact λy o hy=>by
  have e1:y≠zn:=λe=>by rw[e,ab]at hy;cases hy
  have e2:y≠zs:=λe=>by rw[e,ai]at hy;cases hy
  simp only;rw[ZH0 _ _ e1,ZH0 _ _ e2];exact hy
def Zod(v:Val)(nm:Str):Val:=if Zl (λx:Val=>dC (x.name=nm)) v.parts<0 then dE else v.parts.getD (Zl (λx:Val=>dC (x.name=nm)) v.parts).toNat dE
def Zrr(v:Val)(nm:Str)(hv:VOk v):∃is,Zc ZHP 65 [.agg v.cells,.str nm] (.tup [.agg (Zod v nm).cells,.bool is]):=by
 have hl:I v.parts<=1000000:=by have:=hv.sm.p;omega
 have r:=Zrt v nm hl;have t:=Zod.eq_1 v nm;have hlt:=YC (λx:Val=>dC (x.name=nm)) v.parts;generalize Zl (λx:Val=>dC (x.name=nm)) v.parts=q at *;by_cases h0:q<0;rw[if_pos h0]at t;refine⟨false,Ze (cR 65 f65) λF st o=>?_⟩;rw[t]at o;rw[v.cells_eq]at r⊢;refine gG ?_;refine cl (r) ?_;refine rg ?_;refine Zj rfl trivial (λ_=>?_) (λh=>by simp at h;omega);refine rg ?_;exact o rfl φ (Zo3 (.cons (Zjk (.cons (ZHT _) (.cons (ZHT _) (.cons (Z1 λb h=>by cases h) (.cons (Z1 λb h=>by cases h) (.cons (Z1 λb h=>by cases h) .nil)))))) (.cons (ZHT _) .nil))) ZHU;rw[if_neg h0]at t;refine⟨true,Ze (cR 65 f65) λF st o=>?_⟩;have hqn:(q.toNat:Int)=q:=ω;have ab:q.toNat<I v.parts:=ω;have ac:=YX (l:=v.parts) (i:=q.toNat) ab;have u:=Zus (v.parts.getD q.toNat dE) (hv.part (Zr ab));rw[t]at o;rw[ZIe]at u o;rw[v.cells_eq]at r⊢;generalize v.parts.getD q.toNat dE=x at *;refine gG ?_;refine cl (r) ?_;refine rg ?_;refine Zj rfl trivial (λh=>by simp at h;omega) (λ_=>?_);refine xA (nd2 @atV @ac) ?_;refine cl (u) ?_;refine rt o ?_;rfl
def Zgg{S z ob b n rest dl}(l:List UInt8)(i:dl.Le (Zg l))(o:Wb S z ob b n rest)(r:(n:Int)+8*(I b+I l)<=100000000000):Zf ZHP 107 [.ptr z 0,dl] S (WbP S z ob (b++l) (n+8*I l) rest) :=
 Zf.leA (.cons (ZHT _) (.cons i .nil)) (KT l o r)
def ZuW(y:UInt8):(D.sl .full 1 1 (ZI [.int .u8 0] ([0].zip [.int .u8 (y.toNat:Int)]))).Le (Zg [y]):=Zca rfl λi hi=>by
 obtain rfl:i=0:=ω;rfl
def WbP.bad{S z ob b n rest r S'}(h:WbP S z ob b n rest (.panic r) S'):False:=by cases h.1
def Zm1(l:Bool)(v k:Nat)(b:List UInt8)(n:Nat):List UInt8:=if l then b++leS v ((k+7) / 8) else putS v k b n
def Zir(l:Bool)(k n:Nat):Nat:=if l then n+8*((k+7) / 8) else n+k
def ZuV:∀{k v},(leS v k).length=k
 |0,_=>rfl
 |k+1,v=>by rw[leS,ZH3,ZuV]
def ZsD(v k):leS v (k+1)=UInt8.ofNat v::leS (v / 256) k:=rfl
def ZsE(v):leS v 0=[]:=rfl
def ZBQ{v:Nat}(hv:v<4611686018427387904)(j:Nat):IntKind.u8.wrap ((v / 2 ^ j:Nat):Int)=((UInt8.ofNat (v / 2 ^ j)).toNat:Int):=by
 rw[UInt8.toNat_ofNat'];have i:∀n:Nat,IntKind.u8.wrap (n:Int)=(n:Int) % 256:=λn=>rfl;rw[i];omega
def Zfv{S z ob b n rest}(f:Fld)(x:Val){v k:Nat}(hb:Wb S z ob b n rest)(hbo:BOk b n)(hx:x.int=v)(hv:v<4611686018427387904)(hk:f.bits=k)(hk2:k<=600)(hn:n<=10000000000):
  Zf ZHP 55 [.ptr z 0,.agg f.cells,.agg x.cells] S (WbP S z ob (Zm1 f.little v k b n) (Zir f.little k n) rest):=by
 refine Zh (cR 55 f55) λF hF=>?_;have ag:=hbo;unfold BOk at ag;rw[x.cells_eq];refine rg ?_;refine rx @eQ0 ?_;refine cd (λhl=>?_) (λhl=>?_);have t:f.little=false:=by simpa using hl
 rw[t]at hF;refine rx @eQ0 ?_;rw[hx,hk];have c9:=ZiU v k hv ω hb hbo ω;refine cV0 (c9) ?_ ?_;rintro d S1 ⟨hr,h1⟩;cases hr;refine gR0 ?_;exact hF.ret (.tup []) S1 rfl φ (ZHT _) ZHU ⟨rfl,h1⟩;exact λd S1 h=>(WbP.bad h).elim;have t:f.little=true:=by simpa using hl
 rw[t]at hF;refine rg ?_;obtain⟨k8,ac⟩:∃k8,(k+7) / 8=k8:=⟨_,rfl⟩;have hR:Zm1 true v k b n=b++leS v k8:=by unfold Zm1;rw[if_pos rfl,ac]
 have hN:Zir true k n=n+8*k8:=by unfold Zir;rw[if_pos rfl,ac]
 rw[hR,hN]at hF;refine Zb (fr (k8) (λi Q=>∀b1 n1 ob1 S1,Wb S1 z ob1 b1 n1 rest->WbF z S ob S1 ob1->BOk b1 n1->n1=n+8*i->b1++leS (v / 2 ^ (8*i)) (k8-i)=b++leS v k8->i<=k8->Q [(0,.d (.ptr z 0)),(4,.loc 4 0),(5,.loc 5 0),(6,.d (.i ((8*i:Nat):Int)))] [(4,[.str f.name,.i f.kind,.i f.bits,.bool f.little,.bool f.loose,.i f.low,.i f.high,.i f.size.base,Z4 f.size.terms,.str f.of,.str f.tag,.str f.from_,Z2 f.cases,.i f.check,.i f.key]),(5,[.str x.name,.i x.int,Zg x.bytes,Zx x.hdrs,Zu x.parts])] S1) (λn o=>?_) λal=>?_);intro i hn2 b1 n1 ob1 S1 ae ab r ai hp hi;refine rg ?_;refine cd (λhd=>?_) (λhd=>?_);simp only[decide_eq_true_eq]at hd;have hi2:i<k8:=ω;have aj:=ZBQ hv (8*i);have ad:=Zlk hv (8*i);have hle:v / 2 ^ (8*i)<=v:=Nat.div_le_self _ _;rw[show k8-i=(k8-(i+1))+1 by omega,ZsD,Nat.div_div_eq_div_mul,show 2 ^ (8*i)*256=2 ^ (8*(i+1)) by rw[Nat.mul_add,Nat.pow_add]]at hp;have u:=r;unfold BOk at u;rw[<-hx]at ad;generalize v / 2 ^ (8*i)=vi at *;have af:=Zgg [UInt8.ofNat vi] (ZuW _) ae (by simp only[ZH3,List.length_nil];omega);refine xA (nd2 @ad @aj) ?_;refine cV0 (af) ?_ ?_;rintro d S2 ⟨hr,am,ak,ah⟩;cases hr;refine gR0 ?_;refine gA ?_;rw[show((8*i:Nat):Int)+8=((8*(i+1):Nat):Int) by omega];refine Za ?_;exact o ((k8)-(i+1)) ω (i+1) rfl (b1++[UInt8.ofNat vi]) (n1+8) am S2 ak (ab.trans ah) (r.bytes _) ω (by rw[ZIh];exact hp) ω;exact λd S1 h=>(WbP.bad h).elim;simp only[decide_eq_false_iff_not]at hd;obtain rfl:i=k8:=ω;rw[Nat.sub_self,ZsE,ZIj]at hp;refine ZG rfl ?_;exact hF.fin (.tup []) _ rfl trivial (ZHT _) ZHU ⟨rfl,ob1,by rw[<-hp,<-ai];exact ae,ab⟩;exact al _ 0 rfl b n ob S hb .refl hbo rfl ψ ω
section
variable {S:St} {z:Nat} {ob:Option Nat} {b:List UInt8} {n:Nat} {rest:List D} (f:Fld) (x:Val)
def ZjG{v k:Nat}(hb:Wb S z ob b n rest)(r:BOk b n)(hx:f.low=v)(hv:v<4611686018427387904)(hk:f.bits=k)(t:k<=600)(hn:n<=10000000000):
  Zf ZHP 56 [.ptr z 0,.agg f.cells,.agg x.cells] S (WbP S z ob (Zm1 f.little v k b n) (Zir f.little k n) rest):=by
 refine Zh (cR 56 f56) λF hF=>?_;rw[x.cells_eq];have hc:=Zfv f (⟨[],f.low,[],[],[]⟩:Val) hb r hx hv hk t hn;have o:(D.agg [.str [],.i f.low,.nilsl,.nilsl,.nilsl]).Le (.agg (⟨[],f.low,[],[],[]⟩:Val).cells):=by rw[ZIe];exact Zjk (.cons (ZHT _) (.cons (ZHT _) (.cons (Z1 λb h=>by cases h) (.cons (Z1 λb h=>by cases h) (.cons (Z1 λb h=>by cases h) .nil)))))
 have i:=Zf.leA (.cons (ZHT _) (.cons (ZHT _) (.cons o .nil))) hc;refine rg ?_;refine rx @eQ0 ?_;refine cV (i) ?_ ?_;rintro d S1 ⟨hr,u⟩;cases hr;refine gR0 ?_;exact hF.fin (.tup []) _ rfl trivial (ZHT _) ZHU ⟨rfl,u⟩;exact λd S1 h=>(WbP.bad h).elim
def ZjH{v:Nat}(hb:Wb S z ob b n rest)(r:BOk b n)(hx:x.int=v)(hv:v<34359738368)(hn:n<=10000000000):
  Zf ZHP 57 [.ptr z 0,.agg f.cells,.agg x.cells] S (WbP S z ob (b++YW v (Z5 v)) (n+8*(YW v (Z5 v)).length) rest):=by
 refine Zh (cR 57 f57) λF hF=>?_;have i:=r;unfold BOk at i;have hg:=Zk6 v;have hfl:(YW v (Z5 v)).length=Z5 v+1:=by unfold YW;rw[ZHX,QN];rfl
 rw[x.cells_eq];refine gG ?_;rw[hx];refine cV (Zf1 hv S) ?_ ?_;rintro d S1 ⟨o,rfl⟩;cases o;refine gR0 ?_;refine rg ?_;have t:=KT (YW v (Z5 v)) hb ω;refine cV (t) ?_ ?_;rintro d S1 ⟨o,u⟩;cases o;refine gR0 ?_;exact hF.fin (.tup []) _ rfl trivial (ZHT _) ZHU ⟨rfl,u⟩;exact λd S1 h=>(WbP.bad h).elim;rintro d S1 ⟨o,_⟩;cases o
def ZnC(hb:Wb S z ob b n rest)(o:BOk b n)(hl:I x.bytes<=1048576)(hn:n<=10000000000):
  Zf ZHP 58 [.ptr z 0,.agg f.cells,.agg x.cells] S (WbP S z ob (b++x.bytes) (n+8*I x.bytes) rest):=by
 refine Zh (cR 58 f58) λF u=>?_;have i:=o;unfold BOk at i;rw[x.cells_eq];refine gG ?_;have r:=KT x.bytes hb ω;refine cV0 (r) ?_ ?_;rintro d S1 ⟨hr,t⟩;cases hr;refine gR0 ?_;exact u.fin (.tup []) _ rfl trivial (ZHT _) ZHU ⟨rfl,t⟩;exact λd S1 h=>(WbP.bad h).elim
def ZnD{c:UInt8}(hb:Wb S z ob b n rest)(hbo:BOk b n)(hl:I x.bytes<=1048576)(hc:f.low=c.toNat)(hn:n<=10000000000):
  Zf ZHP 59 [.ptr z 0,.agg f.cells,.agg x.cells] S (WbP S z ob (b++(x.bytes++[c])) (n+8*(x.bytes++[c]).length) rest):=by
 refine Zh (cR 59 f59) λF hF=>?_;have i:=hbo;unfold BOk at i;have hcl:=c.toNat_lt;have ac:IntKind.u8.wrap f.low=(c.toNat:Int):=by rw[hc];exact ZcT ω
 have t:(x.bytes++[c]).length=I x.bytes+1:=by rw[ZHX];rfl
 rw[x.cells_eq];refine gG ?_;have c9:=KT x.bytes hb ω;refine cV0 (c9) ?_ ?_;rintro d S1 ⟨hr,ob1,u,o⟩;cases hr;refine gR0 ?_;have hbo1:=hbo.bytes x.bytes;refine xA (nd2 @eQ0 @ac) ?_;have c9:=Zgg [c] (ZuW c) u (by rw[ZHX];simp only[ZH3,List.length_nil];omega);refine cV0 (c9) ?_ ?_;rintro d S2 ⟨hr,ad,ab,r⟩;cases hr;refine gR0 ?_;exact hF.fin (.tup []) _ rfl trivial (ZHT _) ZHU ⟨rfl,ad,by rw[<-ZIh,t,Nat.mul_add,<-Nat.add_assoc];exact ab,o.trans r⟩;exact λd S1 h=>(WbP.bad h).elim;exact λd S1 h=>(WbP.bad h).elim
def Zly(hb:Wb S z ob b n rest)(r:BOk b n)(hh:W0 x.hdrs=true)(ht:Zbc x.hdrs)(hl:(Qf x.hdrs).length<=1048576)(hn:n<=10000000000):
  Zf ZHP 60 [.ptr z 0,.agg f.cells,.agg x.cells] S (WbP S z ob (b++Qf x.hdrs) (n+8*(Qf x.hdrs).length) rest):=by
 refine Zh (cR 60 f60) λF hF=>?_;have o:=r;unfold BOk at o;have i:=Zew ht;unfold ZhT at i;rw[if_pos hh]at i;rw[x.cells_eq];refine gG ?_;refine cl (i) ?_;refine rg ?_;have t:=KT (Qf x.hdrs) hb ω;refine cV (t) ?_ ?_;rintro d S1 ⟨hr,u⟩;cases hr;refine gR0 ?_;exact hF.fin (.tup []) _ rfl trivial (ZHT _) ZHU ⟨rfl,u⟩;exact λd S1 h=>(WbP.bad h).elim
def Zq1(hb:Wb S z ob b n rest)(u:BOk b n)(hp:Zci f.bits=true)(hn:n<=110000000):
  Zf ZHP 62 [.ptr z 0,.agg f.cells,.agg x.cells] S (WbP S z ob (putS 0 (upS n f.bits-n).toNat b n) (upS n f.bits).toNat rest):=by
 refine Zh (cR 62 f62) λF hF=>?_;have r:=u;unfold BOk at r;have hpd:=Zbx hp;have hup:=JB (v:=(n:Int)) (of:=f.bits) ω ω;obtain⟨bD,hz,hB,hne⟩:=id hb;have t:=Zfi (v:=(n:Int)) hp ⟨ω,ω⟩;obtain⟨p,i⟩:∃p:Nat,upS n f.bits-n=p:=⟨(upS n f.bits-n).toNat,ω⟩;have o:(upS n f.bits).toNat=n+p:=ω;rw[i,Int.toNat_natCast,o]at hF;refine rg ?_;refine rx (nd2 @eQ0 @hz) ?_;refine cl0 (t) ?_;rw[i];refine rg ?_;have c9:=ZiU 0 p (by decide) ω hb u ω;refine cV (c9) ?_ ?_;rintro d S1 ⟨hr,h1⟩;cases hr;refine gR0 ?_;exact hF.fin (.tup []) _ rfl trivial (ZHT _) ZHU ⟨rfl,h1⟩;exact λd S1 h=>(WbP.bad h).elim
end
def Zc4(p s:Str)(hp:I p<=110000000)(hs:I s<=110000000):Zc ZHP 115 [.str p,.str s] (.str (ZD p s)):=by
 refine Ze (cR 115 f115) λF st i=>?_;have o:=ZD.eq_1 p s;refine gG ?_;refine cd (λh=>?_) (λh=>?_);rw[if_pos (by simpa using h)]at o;rw[o]at i;refine rg ?_;refine ro i ?_;rfl;rw[if_neg (by simpa using h)]at o;rw[o]at i;refine rg ?_;refine⟨by unfold big;omega,by simp only[ZHX,ZH3,List.length_nil];unfold big;omega,?_⟩;refine ro i ?_;rfl
def ZAW{d:Nat}(h:d<10):(Utf8.encode ((48+d:Nat):Int)).data.toList=[UInt8.ofNat (48+d)]:=by
 rcases(by omega:d=0\/d=1\/d=2\/d=3\/d=4\/d=5\/d=6\/d=7\/d=8\/d=9) with rfl|rfl|rfl|rfl|rfl|rfl|rfl|rfl|rfl|rfl<;>rfl
def Zph(n:Nat):Str:=if n=0 then [] else Kn n
def ZwQ{n}(h:n≠0):Zph n=Zph (n / 10)++[UInt8.ofNat (48+n % 10)]:=by
 unfold Zph;rw[if_neg h];by_cases i:n<10;rw[Kb i,if_pos ω,Nat.mod_eq_of_lt i];rfl;rw[Zbl i,if_neg ω,Kb (n:=n % 10) ω]
def ZmM{n:Nat}(h0:n≠0)(hn:n<1000000):Zc ZHP 151 [.i n] (.str (Kn n)):=by
 refine Ze (cR 151 f151) λF st r=>?_;have hR:Zph n=Kn n:=by unfold Zph;rw[if_neg h0]
 have hl0:=Zbm n;generalize Kn n=R at *;refine rg ?_;refine Zd (Zb ?_);refine lpU (λQ=>∀(k:Nat) (m:Nat) s,m<k->m<1000000->Zph m++s=R->Q F [(0,.d (.i m)),(2,.d (.str s))] [] st) ?_ λad=>?_
 .intro k;induction k with
  |zero=>intro m s h;omega
  |succ k ih =>
  intro m s hk hm hs;refine rg ?_;refine cd (λhd=>?_) (λhd=>?_);simp only[decide_eq_true_eq]at hd;have u:m≠0:=ω;rw[ZwQ u,ZIh]at hs;have o:(m:Int).tmod 10=((m % 10:Nat):Int):=by rw[Int.tmod_eq_emod_of_nonneg ω];omega
  have i:(m:Int).tdiv 10=((m / 10:Nat):Int):=by rw[Int.tdiv_eq_ediv_of_nonneg ω];omega
  have t:(48:Int)+((m % 10:Nat):Int)=((48+m % 10:Nat):Int):=ω;have hw:IntKind.i32.wrap ((48+m % 10:Nat):Int)=((48+m % 10:Nat):Int):=Zav .i32 _ (by have h1:IntKind.i32.min=-2147483648:=rfl;have h2:IntKind.i32.max=2147483647:=rfl;unfold inR;omega);have hu:=ZAW (d:=m % 10) (Nat.mod_lt _ (by decide));have ac:=congrArg List.length hs;simp only[ZHX,ZH3,List.length_nil]at ac;have hsn:I s<=R.length:=ω;have hc:[UInt8.ofNat (48+m % 10)]++s=UInt8.ofNat (48+m % 10)::s:=rfl;refine rx (nd2 @o (nd2 @t (nd2 @hw @hu))) ?_;refine⟨by decide,ω,ω,ω,ω,by unfold big;omega,by unfold big;omega,?_⟩;refine xA @i ?_;refine Za ?_;exact ih (m / 10) (UInt8.ofNat (48+m % 10)::s) ω ω hs;simp only[decide_eq_false_iff_not]at hd;obtain rfl:m=0:=ω;have ab:s=R:=by rw[<-hs];rfl
  subst ab;refine rg ?_;refine ro r ?_;rfl
 exact ad (n+1) n [] ω hn (by rw[ZIj];exact hR)
def KL(a i:Int):List UInt8->Int
 | []=>a
 |x::r=>KL ((a+(if i % 2=0 then (x.toNat:Int)*256 else x.toNat)) % 65536+(a+(if i % 2=0 then (x.toNat:Int)*256 else x.toNat)) / 65536) (i+1) r
def ZiR:∀{l:List UInt8} {a i:Int},0<=a/\a<65536->0<=KL a i l/\KL a i l<65536
 | [],_,_,h=>h
 |x::r,a,i,h=>by unfold KL;refine ZiR ?_;have:=x.toNat_lt;split<;>omega
def Zh4(l:List UInt8){T:St}{z:Nat}{a b c k:Int}(hz:T z=sO (.cells [.i a,.i b,.i c,.i k]))(ha:0<=a/\a<65536)(hc:0<=c)(hl:c+I l<=4611686018427387904):
  Zf ZHP 253 [.ptr z 0,Zg l] T λr S=>r=.ret (.tup [])/\S=T.upd z (.cells [.i (KL a c l),.i b,.i (c+I l),.i k]):=by
 refine Zh (cR 253 f253) λF hF=>?_;refine rx @Wc ?_;refine Zb (fr (I l) (λi Q=>∀e S,S=T.upd z (.cells [.i e,.i b,.i c,.i k])->KL e (c+i) (l.drop i)=KL a c l->(0<=e/\e<65536)->i<=I l->Q [(0,.d (.ptr z 0)),(1,.d (Zg l)),(7,.d (Zg l)),(8,.d (.i (I l))),(9,.d (.i i))] [] S) (λn t=>?_) λae=>?_);intro i hn2 e S hS hw he hi;have u:S z=sO (.cells [.i e,.i b,.i c,.i k]):=by rw[hS];exact ZHW _ _ _
 have ac:∀o,S.upd z o=T.upd z o:=λo=>by rw[hS,ZH7]
 refine rg ?_;refine Zd (Zj rfl trivial (λhd=>?_) (λhd=>?_));simp only[decide_eq_true_eq]at hd;have hx:=(l.getD i dE).toNat_lt;rw[Yf (show i<I l by omega),KL]at hw;refine xA (nd2 @ZgL @u8C.eq_1) ?_;refine rg ?_;rw[Wn ω];generalize (l.getD i dE).toNat=x at *;refine rx @u ?_;rw[Int.tmod_eq_emod_of_nonneg (show 0<=c+(i:Int) by omega)];refine aa ?_;refine jU [0] (λQ=>∀y:Int,0<=y->y<=65280->KL ((e+y) % 65536+(e+y) / 65536) (c+i+1) (l.drop (i+1))=KL a c l->Q F [(0,.d (.ptr z 0)),(1,.d (Zg l)),(6,.d (.i y)),(7,.d (Zg l)),(8,.d (.i (I l))),(9,.d (.i i))] [] S) ?_ λj1=>?_;intro y hy0 hy1 ad;refine xA @u ?_;refine rx (nd2 @ZHW @ac) ?_;rw[Int.tmod_eq_emod_of_nonneg (show 0<=e+y by omega),Int.tdiv_eq_ediv_of_nonneg (show 0<=e+y by omega)];refine aa ?_;refine gA ?_;refine Za ?_;exact t ((I l)-(i+1)) ω (i+1) rfl _ _ (by rw[ZH7]) (by rw[<-ad];congr 1;omega) ω ω;refine cd (λh2=>?_) (λh2=>?_);simp only[decide_eq_true_eq]at h2;rw[if_pos h2]at hw;have ab:QQ .i64 (x:Int) 8=x*256:=rfl;refine rx @ab ?_;refine⟨ω,ω,ω,?_⟩;exact j1 _ ω ω hw;simp only[decide_eq_false_iff_not]at h2;rw[if_neg h2]at hw;refine Zo ?_;refine kE [0,1,6,7,8,9] ?_;exact j1 _ ω ω hw;simp only[decide_eq_false_iff_not]at hd;obtain rfl:i=I l:=ω;rw[List.drop_length,KL]at hw;refine xA (nd2 @u @Wc) ?_;exact hF.fin (.tup []) _ rfl trivial (ZHT _) ZHU ⟨rfl,by rw[hS,ZH7,hw]⟩;exact ae _ 0 rfl a T (St.upd_self hz).symm ψ ha ω
def WC(a b:Int):List UInt8->Int×Int
 | []=>(a,b)
 |x::r=>WC ((a+x.toNat) % 65521) ((b+(a+x.toNat) % 65521) % 65521) r
def ZeL:∀{l:List UInt8} {a b:Int},(0<=a/\a<65521)->(0<=b/\b<65521)->(0<=(WC a b l).1/\(WC a b l).1<65521)/\0<=(WC a b l).2/\(WC a b l).2<65521
 | [],_,_,h,h'=>⟨h,h'⟩
 |x::r,a,b,h,h'=>by unfold WC;exact ZeL ω ω
def Zh3(l:List UInt8){T:St}{z:Nat}{a b c k:Int}(hz:T z=sO (.cells [.i a,.i b,.i c,.i k]))(ha:0<=a/\a<65521)(hb:0<=b/\b<65521)(hc:0<=c)(hl:c+I l<=4611686018427387904):
  Zf ZHP 257 [.ptr z 0,Zg l] T λr S=>r=.ret (.tup [])/\S=T.upd z (.cells [.i (WC a b l).1,.i (WC a b l).2,.i (c+I l),.i k]):=by
 refine Zh (cR 257 f257) λF hF=>?_;refine rx @Wc ?_;refine Zb (fr (I l) (λi Q=>∀e g S,S=T.upd z (.cells [.i e,.i g,.i c,.i k])->WC e g (l.drop i)=WC a b l->(0<=e/\e<65521)->(0<=g/\g<65521)->i<=I l->Q [(0,.d (.ptr z 0)),(1,.d (Zg l)),(6,.d (Zg l)),(7,.d (.i (I l))),(8,.d (.i i))] [] S) (λn t=>?_) λad=>?_);intro i hn2 e g S hS hw he hg hi;have u:S z=sO (.cells [.i e,.i g,.i c,.i k]):=by rw[hS];exact ZHW _ _ _
 have ab:∀o,S.upd z o=T.upd z o:=λo=>by rw[hS,ZH7]
 refine rg ?_;refine Zd (Zj rfl trivial (λhd=>?_) (λhd=>?_));simp only[decide_eq_true_eq]at hd;have hx:=(l.getD i dE).toNat_lt;rw[Yf (show i<I l by omega),WC]at hw;have ac:IntKind.i64.wrap ((l.getD i dE).toNat:Int)=(l.getD i dE).toNat:=Wn ω;refine xA (nd2 @ZgL @u8C.eq_1) ?_;generalize (l.getD i dE).toNat=x at *;refine rx (nd2 @u @ac) ?_;rw[Int.tmod_eq_emod_of_nonneg (show 0<=e+(x:Int) by omega)];refine aa ?_;generalize he2:(e+(x:Int)) % 65521=e2 at *;refine rx (nd2 @ab (nd2 @ZHW @ZH7)) ?_;rw[Int.tmod_eq_emod_of_nonneg (show 0<=g+e2 by omega)];refine aa ?_;refine gA ?_;refine Za ?_;exact t ((I l)-(i+1)) ω (i+1) rfl _ _ _ rfl hw ω ω ω;simp only[decide_eq_false_iff_not]at hd;obtain rfl:i=I l:=ω;rw[List.drop_length,WC]at hw;refine xA (nd2 @u @Wc) ?_;exact hF.fin (.tup []) _ rfl trivial (ZHT _) ZHU ⟨rfl,by rw[hS,ZH7,<-hw]⟩;exact ad _ 0 rfl a b T (St.upd_self hz).symm ψ ha hb ω
def Zjv{a b c:Int}(ha:0<=a/\a<65536):Zc ZHP 254 [.agg [.i a,.i b,.i c]] (.i (65535-a)):=by
 refine Ze (cR 254 f254) λF st i=>?_;refine rg ?_;refine gA ?_;refine ri i ?_;rfl
def Zjw{a b c:Int}:Zc ZHP 256 [.agg [.i a,.i b,.i c]] (.i a):=by
 refine Ze (cR 256 f256) λF st i=>?_;refine gG ?_;refine ri i ?_;rfl
def Zjx{a b c:Int}(ha:0<=a/\a<65521)(hb:0<=b/\b<65521):Zc ZHP 258 [.agg [.i a,.i b,.i c]] (.i (b*65536+a)):=by
 refine Ze (cR 258 f258) λF st i=>?_;refine rg ?_;refine gA ?_;refine ri i ?_;rfl
def Zlt{n m:Nat}(r:n<4611686018427387904)(hm:m<4611686018427387904):Qp .xor .i64 (n:Int) (m:Int)=((n ^^^ m:Nat):Int):=by
 have h1:n ^^^ m<2 ^ 62:=Nat.xor_lt_two_pow r hm;unfold Qp;simp only;have i:(BitVec.ofInt 64 (n:Int)).toNat=n:=by rw[BitVec.toNat_ofInt];omega
 have o:(BitVec.ofInt 64 (m:Int)).toNat=m:=by rw[BitVec.toNat_ofInt];omega
 show IntKind.i64.wrap ((BitVec.ofInt 64 (n:Int) ^^^ BitVec.ofInt 64 (m:Int)).toNat:Int)=_;rw[BitVec.toNat_xor,i,o];exact Wn ω
def Zft(c:Nat):Nat:=if 65536<=c*2 then c*2 % 65536 ^^^ 4129 else c*2
def ZdD:Nat->Nat->Nat
 |0,c=>c
 |n+1,c=>ZdD n (Zft c)
def Zcn(n a:Nat):List UInt8->Nat
 | []=>a
 |x::r=>Zcn n (ZdD n (a ^^^ x.toNat*256)) r
def Zsl(n a:Nat):Zcn n a []=a:=rfl
def ZjE(n a:Nat)(x:UInt8)(r:List UInt8):Zcn n a (x::r)=Zcn n (ZdD n (a ^^^ x.toNat*256)) r:=rfl
def Zqd(n c:Nat):ZdD (n+1) c=ZdD n (Zft c):=rfl
def Zqe(c:Nat):ZdD 0 c=c:=rfl
def ZuN{c:Nat}(h:c<65536):Zft c<65536:=by
 unfold Zft;split;exact Nat.xor_lt_two_pow (n:=16) (Nat.mod_lt _ (by decide)) (by decide);omega
def ZuO:∀{n c:Nat},c<65536->ZdD n c<65536
 |0,_,h=>h
 |n+1,c,h=>ZuO (n:=n) (ZuN h)
def ZwR{a:Nat}(h:a<65536)(x:UInt8):a ^^^ x.toNat*256<65536:=Nat.xor_lt_two_pow (n:=16) h (by have:=x.toNat_lt;omega)
def Zpi{n:Nat}:∀{l:List UInt8} {a:Nat},a<65536->Zcn n a l<65536
 | [],_,h=>h
 |x::r,a,h=>by rw[ZjE];exact Zpi (ZuO (ZwR h x))
structure EqN(a b:Nat):Prop where
 h:a=b
def Zhm(l:List UInt8){T:St}{z a:Nat}{b c k:Int}(hz:T z=sO (.cells [.i a,.i b,.i c,.i k]))(ha:a<65536)(hc:0<=c)(hl:c+I l<=4611686018427387904):
  Zf ZHP 255 [.ptr z 0,Zg l] T λr S=>r=.ret (.tup [])/\S=T.upd z (.cells [.i (Zcn 8 a l),.i b,.i (c+I l),.i k]):=by
 refine Zh (cR 255 f255) λF hF=>?_;refine rx @Wc ?_;refine Zb (fr (I l) (λi Q=>∀(e:Nat) S,S=T.upd z (.cells [.i e,.i b,.i c,.i k])->EqN (Zcn 8 e (l.drop i)) (Zcn 8 a l)->e<65536->i<=I l->Q [(0,.d (.ptr z 0)),(1,.d (Zg l)),(6,.d (Zg l)),(7,.d (.i (I l))),(8,.d (.i i))] [] S) (λn ad=>?_) λaw=>?_);intro i hn2 e S hS hw he hi;have ai:S z=sO (.cells [.i e,.i b,.i c,.i k]):=by rw[hS];exact ZHW _ _ _
 have aq:∀o,S.upd z o=T.upd z o:=λo=>by rw[hS,ZH7]
 refine rg ?_;refine Zd (Zj rfl trivial (λhd=>?_) (λhd=>?_));simp only[decide_eq_true_eq]at hd;have hx:=(l.getD i dE).toNat_lt;have aj:∀c0,EqN (e ^^^ (l.getD i dE).toNat*256) c0->c0<65536:=λc0 h=>by rw[<-h.h];exact ZwR he _
 rw[Yf (show i<I l by omega),ZjE]at hw;have ar:IntKind.i64.wrap ((l.getD i dE).toNat:Int)=(l.getD i dE).toNat:=Wn ω;refine xA (nd2 @ZgL @u8C.eq_1) ?_;generalize (l.getD i dE).toNat=x at *;have ao:QQ .i64 (x:Int) 8=((x*256:Nat):Int):=by show(x:Int)*256=_;omega
 obtain⟨c0,ac⟩:∃c0,EqN (e ^^^ x*256) c0:=⟨_,⟨rfl⟩⟩;have au:Qp .xor .i64 (e:Int) ((x*256:Nat):Int)=(c0:Int):=by rw[<-ac.h];exact Zlt ω ω
 have ab:=aj c0 ac;rw[ac.h]at hw;clear aj ac;refine rx (nd2 @ai (nd2 @ar (nd2 @ao (nd2 @au @aq)))) ?_;refine⟨ω,ω,ω,?_⟩;refine rg ?_;refine Zb (fr (8) (λj Q=>∀(g:Nat) S2,S2=T.upd z (.cells [.i g,.i b,.i c,.i k])->EqN (ZdD (8-j) g) (ZdD 8 c0)->g<65536->j<=8->Q [(0,.d (.ptr z 0)),(1,.d (Zg l)),(6,.d (Zg l)),(7,.d (.i (I l))),(8,.d (.i i)),(22,.d (.i j))] [] S2) (λn t=>?_) λan=>?_);intro j hn3 g S2 ae u hg hj;have ah:S2 z=sO (.cells [.i g,.i b,.i c,.i k]):=by rw[ae];exact ZHW _ _ _
 have al:∀o,S2.upd z o=T.upd z o:=λo=>by rw[ae,ZH7]
 refine rg ?_;refine Zd (Zj rfl trivial (λag=>?_) (λag=>?_));simp only[decide_eq_true_eq]at ag;have ak:QQ .i64 (g:Int) 1=((g*2:Nat):Int):=by show(g:Int)*2=_;omega
 rw[show 8-j=(8-(j+1))+1 by omega,Zqd]at u;have af:∀y,EqN (Zft g) y->y<65536:=λy h=>by rw[<-h.h];exact ZuN hg
 refine rx (nd2 @ah (nd2 @ak @al)) ?_;refine⟨ω,ω,ω,?_⟩;refine rx @ZHW ?_;refine cd (λab=>?_) (λab=>?_);simp only[decide_eq_true_eq]at ab;obtain⟨y,hy⟩:∃y,EqN (g*2 % 65536 ^^^ 4129) y:=⟨_,⟨rfl⟩⟩;have hb:EqN (Zft g) y:=⟨by unfold Zft;rw[if_pos ω];exact hy.h⟩;have am:Qp .xor .i64 (((g*2:Nat):Int) % 65536) 4129=(y:Int):=by rw[<-hy.h,<-Zlt (n:=g*2 % 65536) (m:=4129) ω ω];rfl
 have ap:(((g*2:Nat):Int)).tmod 65536=((g*2:Nat):Int) % 65536:=Int.tmod_eq_emod_of_nonneg ω;have av:=af y hb;rw[hb.h]at u;clear af hb hy;refine xA (nd2 @ZHW (nd2 @ap (nd2 @am @ZH7))) ?_;refine gA ?_;refine Za ?_;exact t ((8)-(j+1)) ω (j+1) rfl _ _ rfl u av ω;simp only[decide_eq_false_iff_not]at ab;have hb:EqN (Zft g) (g*2):=⟨by unfold Zft;rw[if_neg ω]⟩;rw[hb.h]at u;clear af hb;refine gA ?_;refine Za ?_;exact t ((8)-(j+1)) ω (j+1) rfl _ _ rfl u ω ω;simp only[decide_eq_false_iff_not]at ag;obtain rfl:j=8:=ω;rw[Nat.sub_self,Zqe]at u;rw[<-u.h]at hw;refine gA ?_;refine Za ?_;exact ad ((I l)-(i+1)) ω (i+1) rfl _ S2 ae hw hg ω;exact an _ 0 rfl c0 _ rfl ⟨rfl⟩ ab ω;simp only[decide_eq_false_iff_not]at hd;obtain rfl:i=I l:=ω;rw[List.drop_length,Zsl]at hw;refine xA (nd2 @ai @Wc) ?_;exact hF.fin (.tup []) _ rfl trivial (ZHT _) ZHU ⟨rfl,by rw[hS,ZH7,<-hw.h]⟩;exact aw _ 0 rfl a T (St.upd_self hz).symm ⟨ψ⟩ ha ω
def Zyp(n:Int):Int:=if n=1 then 0 else if n=2 then 65535 else 1
def Zjz(n:Int)(l:List UInt8):Int×Int:=if n=1 then (KL 0 0 l,0) else if n=2 then (Zcn 8 65535 l,0) else WC 1 0 l
def Zaf(n:Int)(l:List UInt8):Int:=if n=1 then 65535-KL 0 0 l else if n=2 then Zcn 8 65535 l else (WC 1 0 l).2*65536+(WC 1 0 l).1
def ZBe(n:Int):FuncId:=if n=1 then 253 else if n=2 then 255 else 257
def ZBd(n:Int):FuncId:=if n=1 then 254 else if n=2 then 256 else 258
def Zc2{n:Int}(h:n=1\/n=2\/n=3):Zc ZHP 156 [.i n] (.tup [.agg [.i (Wm n),.i (Zyp n),.i 0,.i 0,.fn (.func (ZBe n)) [] [],.fn (.func (ZBd n)) [] []],.bool true]):=by
 refine ZlY h ?_;rcases h with rfl|rfl|rfl<;>rfl
def Zr4{n:Int}(h:n=1\/n=2\/n=3)(l:List UInt8):0<=Zaf n l/\Zaf n l<4294967296/\(n≠3->Zaf n l<65536):=by
 unfold Zaf;rcases h with rfl|rfl|rfl;have:=ZiR (l:=l) (a:=0) (i:=0) ω;simp;omega;have:=Zpi (n:=8) (l:=l) (a:=65535) ω;simp;omega;have:=ZeL (l:=l) (a:=1) (b:=0) ω ω;simp;omega
def ZeH{T:St}{z:Nat}{a b c k:Int}(u:T z=sO (.cells [.i a,.i b,.i c,.i k]))(t:k≠0):ZL ZHP 208 [.ptr z 0] T (.bool false) T:=by
 refine ZE (cR 208 f208) λr F i=>?_;clear r;have o:dC (k=0)=false:=decide_eq_false t;refine rg ?_;refine rx (nd2 @u @o) ?_;exact i rfl φ (ZHT _) ZHU
def Zr3{n:Int}(h:n=1\/n=2\/n=3)(T:St):Zf ZHP 153 [.i n] T λr S=>∃z,T z=nO/\r=.ret (.tup [.ptr z 0,.i 0])/\S=T.upd z (.cells [.i (Zyp n),.i 0,.i 0,.i n]):=by
 refine Zh (cR 153 f153) λF i=>?_;refine gG ?_;refine cl (Zc2 h) ?_;refine rg ?_;refine iG ?_;refine xP 17 λz o=>?_;exact i.ret _ _ rfl (by first|trivial|simp) (ZHT _) ZHU ⟨z,o,rfl,rfl⟩
def Zju{n:Int}(h:n=1\/n=2\/n=3)(l:List UInt8)(hl:I l<=4611686018427387904){T:St}{z:Nat}(i:T z=sO (.cells [.i (Zyp n),.i 0,.i 0,.i n])):
  Zf ZHP 154 [.ptr z 0,Zg l] T λr S=>r=.ret (.i 0)/\S=T.upd z (.cells [.i (Zjz n l).1,.i (Zjz n l).2,.i (I l),.i n]):=by
 have hw:Zf ZHP (ZBe n) [.ptr z 0,Zg l] T λr S=>r=.ret (.tup [])/\S=T.upd z (.cells [.i (Zjz n l).1,.i (Zjz n l).2,.i (I l),.i n]):=by rcases h with rfl|rfl|rfl;have:=Zh4 l i (by decide) (by decide) ω;rw[Int.zero_add]at this;exact this;have:=Zhm l (a:=65535) i (by decide) (by decide) ω;rw[Int.zero_add]at this;exact this;have:=Zh3 l i (by decide) (by decide) (by decide) ω;rw[Int.zero_add]at this;exact this
 refine Zh (cR 154 f154) λF u=>?_;refine gG ?_;have t:=ZeH i ω;refine ct (t) ?_;refine i0 ?_;refine rx @i ?_;refine cl (Zc2 h) ?_;refine rg ?_;refine vV0 (hw.V (first:=[]) (caps:=[])) ?_ ?_;rintro d S ⟨o,hS⟩;cases o;refine gR0 ?_;refine rg ?_;exact u.ret _ S rfl φ (ZHT _) ZHU ⟨rfl,hS⟩;rintro d S ⟨o,_⟩;cases o
def ZmG{n:Int}(h:n=1\/n=2\/n=3)(l:List UInt8){T:St}{z:Nat}(o:T z=sO (.cells [.i (Zjz n l).1,.i (Zjz n l).2,.i (I l),.i n])):
  Zf ZHP 155 [.ptr z 0] T λr S=>r=.ret (.tup [.i (Zaf n l),.i 0])/\S=T:=by
 have hw:Zc ZHP (ZBd n) [.agg [.i (Zjz n l).1,.i (Zjz n l).2,.i (I l)]] (.i (Zaf n l)):=by rcases h with rfl|rfl|rfl;exact Zjv (ZiR (by decide));exact Zjw;have:=ZeL (l:=l) (a:=1) (b:=0) ω ω;exact Zjx this.1 this.2
 refine Zh (cR 155 f155) λF u=>?_;refine gG ?_;have t:=ZeH o ω;refine ct (t) ?_;refine i0 ?_;refine rx @o ?_;refine cl (Zc2 h) ?_;refine rx @o ?_;refine vV0 ((hw T).V (first:=[]) (caps:=[])) ?_ ?_;rintro d S ⟨i,hS⟩;obtain rfl:=hS.symm;cases i;refine gR0 ?_;exact u.ret _ T rfl φ (ZHT _) ZHU ⟨rfl,rfl⟩;rintro d S ⟨i,_⟩;cases i
def ZtM{n:Int}(h:n=1\/n=2\/n=3)(l:List UInt8)(t:I l<=4611686018427387904):Zc ZHP 113 [.i n,Zg l] (.tup [.i (Zaf n l),.i 0]):=by
 intro T;refine Zh (cR 113 f113) λF r=>?_;refine gG ?_;refine cV (Zr3 h T) ?_ ?_;rintro d S ⟨z,u,i,o⟩;subst o;cases i;refine gR0 ?_;refine rg ?_;refine iG ?_;refine cV (Zju h l t (ZHW _ _ _)) ?_ ?_;rintro d S ⟨i,o⟩;rw[ZH7]at o;subst o;cases i;refine gR0 ?_;refine rg ?_;refine cV (ZmG h l (ZHW _ _ _)) ?_ ?_;rintro d S ⟨i,o⟩;obtain rfl:=o.symm;cases i;refine gR0 ?_;exact r.ret _ T rfl φ (ZHT _) (ZIg _ u) ⟨rfl,rfl⟩;rintro d S ⟨i,_⟩;cases i;rintro d S ⟨i,_⟩;cases i;rintro d S ⟨_,_,i,_⟩;cases i
def Ku(v:Int)(k:Nat):UInt8:=UInt8.ofNat (v.toNat / 2 ^ k)
def KM(n v:Int):List UInt8:=if n=3 then [Ku v 24,Ku v 16,Ku v 8,Ku v 0] else [Ku v 8,Ku v 0]
def ZhM{v:Int}(h:0<=v)(k:Nat):IntKind.u8.wrap (v / 2 ^ k)=((Ku v k).toNat:Int):=by
 have i:IntKind.u8.wrap (v / 2 ^ k)=(v / 2 ^ k) % 256:=rfl;rw[i];unfold Ku;obtain⟨n,rfl⟩:∃n:Nat,v=n:=⟨v.toNat,ω⟩;rw[Int.toNat_natCast,UInt8.toNat_ofNat'];have:((n:Int) / 2 ^ k)=((n / 2 ^ k:Nat):Int):=by simp
 rw[this];omega
def Zpe{n v:Int}(h:n=1\/n=2\/n=3)(hv:0<=v)(hv2:v<4294967296)(hv3:n≠3->v<65536):Zc ZHP 114 [.i n,.i v] (.tup [Zg (KM n v),.i 0]):=by
 intro T;refine Zh (cR 114 f114) λF hF=>?_;have hb:Wm n=if n=3 then 32 else 16:=rfl
 have u:QQ .i64 1 (Wm n)=if n=3 then 4294967296 else 65536:=by rcases h with rfl|rfl|rfl<;>rfl
 refine gG ?_;refine cl (Zc2 h) ?_;refine rg ?_;refine⟨λ_=>by rw[u,hb];split<;>omega,?_⟩;have hc:(dC (v<0) ||decide (QQ .i64 1 (Wm n)<=v))=false:=by rw[u,Bool.or_eq_false_iff,decide_eq_false_iff_not,decide_eq_false_iff_not];split<;>omega
 rw[hc];refine i0 ?_;have t:∀k:Nat,k<=64->WL .i64 v (k:Int)=v / 2 ^ k:=λk hk=>by unfold WL;rw[Int.fdiv_eq_ediv_of_nonneg _ (by exact_mod_cast Nat.zero_le _)];simp[IntKind.bits,Nat.min_eq_left hk]
 have ac:WL .i64 v 24=v / 2 ^ 24:=t 24 (by decide);have ab:WL .i64 v 16=v / 2 ^ 16:=t 16 (by decide);have h8:WL .i64 v 8=v / 2 ^ 8:=t 8 (by decide);have ae:=ZhM hv 24;have ad:=ZhM hv 16;have w8:=ZhM hv 8;have w0:=ZhM hv 0;rw[Int.pow_zero,Int.ediv_one]at w0;refine rx (nd2 @ac (nd2 @ab (nd2 @h8 (nd2 @ae (nd2 @ad (nd2 @w8 @w0)))))) ?_;refine⟨ω,ω,ω,ω,ω,ω,ω,ω,ω,?_⟩;have e3:(32:Int).tdiv 8=4:=rfl;have e2:(16:Int).tdiv 8=2:=rfl;by_cases h3:n=3
 .rw[if_pos h3]at hb;have o:KM n v=[Ku v 24,Ku v 16,Ku v 8,Ku v 0]:=by unfold KM;rw[if_pos h3]
  refine xA (nd2 @hb @e3) ?_;have r:(D.sl .full 4 1 λi=>ZI [.int .u8 0] ([0,1,2,3].zip [.int .u8 (Ku v 24).toNat,.int .u8 (Ku v 16).toNat,.int .u8 (Ku v 8).toNat,.int .u8 (Ku v 0).toNat]) i).Le (Zg (KM n v)):=by
   rw[o];refine Zca rfl λi hi=>?_
   match i,hi with
   |0,_=>rfl
   |1,_=>rfl
   |2,_=>rfl
   |3,_=>rfl
  have c9:=Zf.leA (.cons r .nil) (Q1 (KM n v) (by rw[o];simp) T);refine cV (c9) ?_ ?_;rintro d S ⟨hr,hS⟩;obtain rfl:=hS.symm;cases hr;refine gR0 ?_;exact hF.ret _ T rfl φ (ZHT _) ZHU ⟨rfl,rfl⟩;rintro d S ⟨hr,_⟩;cases hr
 rw[if_neg h3]at hb;have o:KM n v=[Ku v 8,Ku v 0]:=by unfold KM;rw[if_neg h3]
 refine xA (nd2 @hb @e2) ?_;have r:(D.sl .full (4-(4-2):Int).toNat 1 λi=>ZI [.int .u8 0] ([0,1,2,3].zip [.int .u8 (Ku v 24).toNat,.int .u8 (Ku v 16).toNat,.int .u8 (Ku v 8).toNat,.int .u8 (Ku v 0).toNat]) ((4-2:Int).toNat+i)).Le (Zg (KM n v)):=by
  rw[o];refine Zca rfl λi hi=>?_
  match i,hi with
  |0,_=>rfl
  |1,_=>rfl
 have c9:=Zf.leA (.cons r .nil) (Q1 (KM n v) (by rw[o];simp) T);refine cV (c9) ?_ ?_;rintro d S ⟨hr,hS⟩;obtain rfl:=hS.symm;cases hr;refine gR0 ?_;exact hF.ret _ T rfl φ (ZHT _) ZHU ⟨rfl,rfl⟩;rintro d S ⟨hr,_⟩;cases hr
structure Wr where
 b:List UInt8
 n:Nat
 sums:List (Str×Int)
def Wr.add(w:Wr)(l:List UInt8):Wr:=⟨w.b++l,w.n+8*I l,w.sums⟩
def Wr.num(w:Wr)(f:Fld)(v:Int):Wr:=⟨Zm1 f.little v.toNat f.bits.toNat w.b w.n,Zir f.little f.bits.toNat w.n,w.sums⟩
def Wr.app(w:Wr)(chg:List UInt8->List UInt8)(o:Wr):Wr:=⟨w.b++chg o.b,w.n+8*(chg o.b).length,w.sums++o.sums⟩
def Wr.pad(w:Wr)(k:Int):Wr:=⟨putS 0 (upS w.n k-w.n).toNat w.b w.n,(upS w.n k).toNat,w.sums⟩
def Wr.chk(w:Wr)(path:Str)(f:Fld)(E:List (Str×Int)):Wr :=
 let c:=Zaf f.check (w.b.drop ((Zv f.from_ E).getD 0).toNat)
 ⟨w.b++KM f.check c,w.n+8*(KM f.check c).length,w.sums++[(ZD path f.name,c)]⟩
def Wp(chg:List UInt8->List UInt8)(rec:Val->Str->Wr)(q:Str)(ps:List Val):Nat->Nat->Wr->Wr
 |0,_,w=>w
 |n+1,j,w=>Wp chg rec q ps n (j+1) (w.app chg (rec (ps.getD j dE) (ZD q (ZT ps j))))
def ZaF(rec:Val->Str->Wr)(path:Str)(f:Fld)(x:Val)(E:List (Str×Int))(w:Wr):Wr :=
 if f.kind=1 then w.num f x.int
 else if f.kind=2 then w.num f f.low
 else if f.kind=3 then w.add (YW x.int.toNat (Z5 x.int.toNat))
 else if f.kind=4 then w.add x.bytes
 else if f.kind=5 then w.add (x.bytes++[UInt8.ofNat f.low.toNat])
 else if f.kind=6 then w.add (Qf x.hdrs)
 else if f.kind=10 then w.pad f.bits
 else if f.kind=11 then w.chk path f E
 else Wp (if f.kind=12 then Qr f.key.toNat else id) rec (ZD path f.name) x.parts (I x.parts) 0 w
def xAt(l:List Fld)(ps:List Val)(i:Nat):Val:=if YD (l.getD i dE) then ps.getD (vfs (l.take i)).length dE else dE
def stF(rec:Val->Str->Wr)(path:Str)(l:List Fld)(ps:List Val):Nat->List (Str×Int)×Wr
 |0=>([],⟨[],0,[]⟩)
 |i+1=>(YY (l.getD i dE).name ((stF rec path l ps i).2.n / 8:Nat) (stF rec path l ps i).1,ZaF rec path (l.getD i dE) (xAt l ps i) (YY (l.getD i dE).name ((stF rec path l ps i).2.n / 8:Nat) (stF rec path l ps i).1) (stF rec path l ps i).2)
def Wj(d:Dfn):Nat->Msg->Val->Str->Wr
 |0,_,_,_=>⟨[],0,[]⟩
 |n+1,m,v,path=>(stF (λy p=>Wj d n (Zs d y.name) y p) path m.fields v.parts (I m.fields)).2
def KO(s:Str×Int):List D:=[.str s.1,.i s.2]
def Wu(l:List (Str×Int)):D:=slD 2 KO l
def wrR(d:Dfn)(path:Str)(mz:Nat)(sD:D):List D:=[.str d.name,Z0 d.msgs,.str d.start,.str path,.map mz,sD]
structure IsW(S:St)(d:Dfn)(path:Str)(E:List (Str×Int))(w:Wr)(z mz:Nat)(ob os:Option Nat)(sD:D):Prop where
 wb:Wb S z ob w.b w.n (wrR d path mz sD)
 m:S mz=some (.map (KB E))
 s:Buf S 2 (w.sums.map KO) sD os
 zs:os≠some z
 bs:∀x,ob=some x->os≠some x
section
variable {S:St} {d:Dfn} {path:Str} {E:List (Str × Int)} {w:Wr} {z mz:Nat} {ob os:Option Nat} {sD:D}
def IsW.mne(h:IsW S d path E w z mz ob os sD):mz≠z/\ob≠sO mz/\os≠sO mz:=by
 obtain⟨bD,r,i,hne⟩:=h.wb;have hm:=h.m;refine⟨λe=>(by rw[e,r]at hm;cases hm),λe=>?_,λe=>?_⟩
 .subst e;cases i with
  |obj x cap X h1 _ _=>rw[h1]at hm;cases hm
 have o:=h.s;subst e;cases o with
 |obj x cap X h1 _ _=>rw[h1]at hm;cases hm
end
def WF(z:Nat)(S:St)(ob os:Option Nat)(S':St)(ob' os':Option Nat):Prop:=∀y o,S y=sO o->y≠z->ob≠sO y->os≠sO y->S' y=sO o/\ob'≠sO y/\os'≠sO y
def WF.trans{z S ob os S1 ob1 r S2 i t}(h:WF z S ob os S1 ob1 r)(h2:WF z S1 ob1 r S2 i t):WF z S ob os S2 i t:=λy o hy u h3 h4=>by
 obtain⟨h5,h6,h7⟩:=h y o hy u h3 h4;exact h2 y o h5 u h6 h7
def Zo2(d:Dfn)(path:Str)(E:List (Str×Int))(w:Wr)(z mz:Nat)(S:St)(ob os:Option Nat)(r:Res)(S':St):Prop:=r=.ret (.tup [])/\∃ob' os' sD',IsW S' d path E w z mz ob' os' sD'/\WF z S ob os S' ob' os'
section
variable {S:St} {d:Dfn} {path:Str} {E:List (Str × Int)} {w:Wr} {z mz:Nat} {ob os:Option Nat} {sD:D}
def IsW.ofQ(h:IsW S d path E w z mz ob os sD){b' n' r S'}(hp:WbP S z ob b' n' (wrR d path mz sD) r S'):r=.ret (.tup [])/\∃u,IsW S' d path E ⟨b',n',w.sums⟩ z mz u os sD/\WF z S ob os S' u os:=by
 obtain⟨hr,u,hw,hf⟩:=hp;obtain⟨h1,h2,h3⟩:=h.mne;refine⟨hr,u,⟨hw,(hf mz _ h.m h1 h2).1,?_,h.zs,?_⟩,λy o hy hz h4 h5=>⟨(hf y o hy hz h4).1,(hf y o hy hz h4).2,h5⟩⟩
 .have hs:=h.s;cases hs with
  |nil h0=>exact .nil h0
  |obj x cap X hx hX hc =>have i:x≠z:=λe=>h.zs (by rw[e]);exact .obj x cap X (hf x _ hx i λe=>h.bs x e rfl).1 hX hc
 intro x hx e;have hs:=h.s;subst e;cases hs with
 |obj y cap X hy hX hc =>have t:x≠z:=λe=>h.zs (by rw[e]);exact(hf x _ hy t λe=>h.bs x e rfl).2 hx
end
def Jn{l:List (Str×Int)}:∀r∈l.map KO,I r=2:=λr i=>by
 obtain⟨x,_,rfl⟩:=List.mem_map.1 i;rfl
def ZBN{l:List UInt8}{x i:Nat}{X:List D}(h:s x=sO (.cells ((l.map u8C).flatten++X)))(u:i<=I l):Y1 s [x] (.msl x (if (I l:Int)=i then 0 else i*1) ((I l:Int)-i).toNat ((I l:Int)-i).toNat 1) (Zg (l.drop i)):=by
 have r:((I l:Int)-i).toNat=(l.drop i).length:=by rw[ZIq];omega
 by_cases e:(I l:Int)=i;rw[if_pos e,r];have o:(l.drop i).length=0:=by rw[ZIq];omega
 refine Y1.mslO (List.mem_singleton.2 rfl) h (by rw[o];simp) λj t=>absurd t (by rw[o];exact Nat.not_lt_zero _);rw[if_neg e,Nat.mul_one];exact ZrB (List.mem_singleton.2 rfl) h r u
def ZnB{S:St}{d:Dfn}{path:Str}{E:List (Str×Int)}{w:Wr}{z mz:Nat}{ob os:Option Nat}{sD:D}(f:Fld)(x:Val){s0:Nat}(h:IsW S d path E w z mz ob os sD)(hk:f.check=1\/f.check=2\/f.check=3)(hE:Zv f.from_ E=sO (s0:Int))(hs:s0<=I w.b)(hb:I w.b<=1000000000)(hn:w.n<=10000000000)(hl:I w.sums<=1000000)(hp:I path<=1000000)(hfn:I f.name<=1000):
  Zf ZHP 63 [.ptr z 0,.agg f.cells,.agg x.cells] S (Zo2 d path E (w.chk path f E) z mz S ob os):=by
 refine Zh (cR 63 f63) λF hF=>?_;have hm:=h.mne;obtain⟨bD,hz,hB,hne⟩:=h.wb;have e1:=YR (vD:=Y7) ZS f.from_ E;have e3:=Y8 ZS f.from_;simp only[show K5 f.from_=D.str f.from_ from rfl]at e1 e3;rw[hE]at e1;have am:=h.m;have hW:w.chk path f E=⟨w.b++KM f.check (Zaf f.check (w.b.drop s0)),w.n+8*(KM f.check (Zaf f.check (w.b.drop s0))).length,w.sums++[(ZD path f.name,Zaf f.check (w.b.drop s0))]⟩:=by unfold Wr.chk;rw[hE];rfl
 rw[hW]at hF;have r:=Zr4 hk (w.b.drop s0);have ac:=ZtM hk (w.b.drop s0) (by rw[ZIq];omega);have al:=Zpe hk r.1 r.2.1 r.2.2;have an:=Zc4 path f.name ω ω;generalize Zaf f.check (w.b.drop s0)=c at *;refine rg ?_;unfold wrR at hz;refine rx (nd2 @eQ0 (nd2 @hz (nd2 @am (nd2 @e1 (nd2 @e3 @Zfc))))) ?_;rw[show Y7 (s0:Int)=D.i s0 from rfl];refine jU [1,0,1] (λQ =>  Q F [(0,.d (.ptr z 0)),(4,.loc 4 0),(7,.d (.i c))] [(4,[.str f.name,.i f.kind,.i f.bits,.bool f.little,.bool f.loose,.i f.low,.i f.high,.i f.size.base,Z4 f.size.terms,.str f.of,.str f.tag,.str f.from_,Z2 f.cases,.i f.check,.i f.key])] S) ?_ λfin=>?_;refine rx @eQ0 ?_;refine cl (al) ?_;refine rg ?_;have c9:=KT (KM f.check c) h.wb (by unfold KM;split<;>simp only[ZH3,List.length_nil]<;>omega);refine cV (c9) ?_ ?_;rintro dd S1 hP;obtain⟨hr,aq,h1,ah⟩:=h.ofQ hP;cases hr;refine gR0 ?_;have ae:=h1.mne;obtain⟨af,t,ag,u⟩:=id h1.wb;unfold wrR at t;refine rx (nd2 @eQ0 @t) ?_;refine clD (an) ?_;refine ZrH rfl rfl (h1.s) (by exact Jn) rfl rfl φ φ (.elems rfl) (by rw[ZH4];show(I w.sums+1)*24<=_;omega) (by rw[ZH4];show (I w.sums)+1<=_;unfold big;omega) (by (show _=[KO (ZD path f.name,c)];rfl)) (by exact Jn (l:=[_])) λs1 D1 ob1 ad i=>?_;have ap:=(i z _ t h1.zs).1;refine⟨by first|trivial|exact⟨rfl,trivial⟩|simp,?_⟩;refine gQ @ap ?_;refine⟨ad.cell,?_⟩;obtain⟨ai,aj⟩:=ag.fr i h1.bs;refine hF.fin (.tup []) _ rfl trivial (ZHT _) ZHU ⟨rfl,aq,ob1,D1,⟨⟨af,ZHW _ _ _,ai.upd u,u⟩,?_,?_,(i z _ t h1.zs).2,aj⟩,λy o hy e1 e2 e3=>?_⟩;rw[ZH0 _ _ ae.1];exact(i mz _ h1.m ae.2.2).1;rw[List.map_append];exact ad.upd (i z _ t h1.zs).2;obtain⟨h4,h5,h6⟩:=ah y o hy e1 e2 e3;obtain⟨h7,h8⟩:=i y o h4 h6;exact⟨by rw[ZH0 _ _ e1];exact h7,h5,h8⟩;exact λdd S1 h=>(WbP.bad h).elim;cases hB with
 |nil h0 =>
  have ao:w.b=[]:=List.map_eq_nil_iff.1 h0;rw[ao]at hs ac;obtain rfl:s0=0:=by simpa using hs
  have ab:=Zf.leA (.cons (ZHT (.i f.check)) (.cons (show(D.nilsl).Le (Zg (([]:List UInt8).drop 0)) from Z1 λb h=>by cases h) .nil)) (ac S);refine rx (nd2 @eQ0 @hz) ?_;refine⟨by decide,?_⟩;refine cV0 (ab) ?_ ?_;rintro dd S1 ⟨hr,hS⟩;obtain rfl:=hS.symm;cases hr;refine gR0 ?_;refine Zd ?_;exact fin;rintro dd S1 ⟨hr,_⟩;cases hr
 |obj y cap X hy hX hc =>
  have ak:(w.b.map u8C).length=I w.b:=by rw[ZH4]
  rw[ak]at hz hX hc;refine xA (nd2 @eQ0 @hz) ?_;have ab:=ZzN (T:=S) (Ln:=[y]) (λb hb=>by obtain rfl:=List.mem_singleton.1 hb;exact⟨_,hy⟩) (.cons (Y1.refl (.i f.check)) (.cons (ZBN hy hs) .nil)) ac (.tup _ λc hc=>by
   simp only[ZIs,List.not_mem_nil,or_false]at hc;rcases hc with rfl|rfl<;>exact .int _ _)
  refine cV0 (ab) ?_ ?_;rintro dd S1 ⟨hr,hS⟩;obtain rfl:=hS.symm;cases hr;refine gR0 ?_;refine Zd ?_;exact fin;rintro dd S1 ⟨hr,_⟩;cases hr
section
variable {S:St} {d:Dfn} {path:Str} {E:List (Str × Int)} {w:Wr} {z mz:Nat} {ob os:Option Nat} {sD:D}
def IsW.upd(h:IsW S d path E w z mz ob os sD){y}(r:S y=nO)(o:JW):IsW (S.upd y o) d path E w z mz ob os sD/\ob≠sO y/\os≠sO y/\y≠z/\y≠mz:=by
 obtain⟨bD,hz,hB,i⟩:=id h.wb;have t:y≠z:=λe=>by rw[e,hz]at r;cases r
 have u:y≠mz:=λe=>by rw[e,h.m]at r;cases r
 have h3:ob≠sO y:=λe=>by
  subst e;cases hB with
  |obj x cap X hx _ _=>rw[hx]at r;cases r
 have h4:os≠sO y:=λe=>by
  have hs:=h.s;subst e;cases hs with
  |obj x cap X hx _ _=>rw[hx]at r;cases r
 exact⟨⟨⟨bD,by rw[ZH0 _ _ t.symm];exact hz,hB.upd h3,i⟩,by rw[ZH0 _ _ u.symm];exact h.m,h.s.upd h4,h.zs,h.bs⟩,h3,h4,t,u⟩
end
def IsW.nomap{S:St}{d:Dfn}{path:Str}{E:List (Str×Int)}{w:Wr}{z mz:Nat}{ob os:Option Nat}{sD:D}(h:IsW S d path E w z mz ob os sD){i l}(hm:S i=sO (.map l)):i≠z/\ob≠sO i/\os≠sO i:=by
 obtain⟨bD,t,o,hne⟩:=id h.wb;refine⟨λe=>(by rw[e,t]at hm;cases hm),λe=>?_,λe=>?_⟩
 .subst e;cases o with
  |obj x cap X h1 _ _=>rw[h1]at hm;cases hm
 have r:=h.s;subst e;cases r with
 |obj x cap X h1 _ _=>rw[h1]at hm;cases hm
def IsW.put{S:St}{d:Dfn}{path:Str}{E:List (Str×Int)}{w:Wr}{z mz:Nat}{ob os:Option Nat}{sD:D}(h:IsW S d path E w z mz ob os sD){y}(o:JW)(r:y≠z)(t:y≠mz)(u:ob≠sO y)(h4:os≠sO y):IsW (S.upd y o) d path E w z mz ob os sD:=by
 obtain⟨bD,hz,hB,i⟩:=id h.wb;exact⟨⟨bD,by rw[ZH0 _ _ r.symm];exact hz,hB.upd u,i⟩,by rw[ZH0 _ _ t.symm];exact h.m,h.s.upd h4,h.zs,h.bs⟩
def Zb3{chg rec q ps n j w}:Wp chg rec q ps (n+1) j w=Wp chg rec q ps n (j+1) (w.app chg (rec (ps.getD j dE) (ZD q (ZT ps j)))):=rfl
def ZgZ{chg rec q ps j w}:Wp chg rec q ps 0 j w=w:=rfl
def Zd5{chg rec q ps}:∀{n j w},w.n<=(Wp chg rec q ps n j w).n/\I w.b<=(Wp chg rec q ps n j w).b.length/\I w.sums<=(Wp chg rec q ps n j w).sums.length
 |0,_,_=>⟨ZH9 _,ZH9 _,ZH9 _⟩
 |n+1,j,w=>by have h:=Zd5 (chg:=chg) (rec:=rec) (q:=q) (ps:=ps) (n:=n) (j:=j+1) (w:=w.app chg (rec (ps.getD j dE) (ZD q (ZT ps j))));rw[Zb3];simp only[Wr.app,ZHX]at h⊢;omega
def WrP(d:Dfn)(o:Wr)(p:Str)(T:St)(r:Res)(S:St):Prop:=∃z' mz',T z'=nO/\r=.ret (.ptr z' 0)/\S=T.upd z' (.cells (Zg o.b::.i o.n::wrR d p mz' (Wu o.sums)))
def ZAg(ps:List Val)(k:Nat):QJ ps k=Zfs (ps.getD k dE).name (ps.take k):=rfl
def ZoN(l:List (Str×Int)):(ZH5 (I l)).map (λi=>KO (l.getD i dE))=l.map KO:=by
 apply List.ext_getElem?;intro i;simp only[List.getElem?_map,List.getElem?_range,ZH6];by_cases h:i<I l;simp[h];simp[h]
def Zfu{S K:St}{d:Dfn}{path:Str}{E:List (Str×Int)}{w:Wr}{z mz:Nat}{ob os:Option Nat}{sD:D}(f:Fld)(x:Val)(fn:D)(chg:List UInt8->List UInt8)(rec:Val->Str->Wr)(h:IsW S d path E w z mz ob os sD)(hK:K.sub S)(hKf:∀y o,K y=sO o->y≠z/\ob≠sO y/\os≠sO y)(hchg:∀T l,K.sub T->I l<=110000000->KC ZHP fn [Zg l] T λr S=>r=.ret (Zg (chg l))/\S=T)(hps:I x.parts<=5000)(hnm:∀y∈x.parts,I y.name<=32)(hfn:I f.name<=32)(hp:I path<=1000000)(hfind:∀y∈x.parts,0<=Zm d y.name (I d.msgs))(hrec:∀y∈x.parts,∀p T,I p<=I path+6000->Zf ZHP 31 [.agg d.cells,.agg (Zs d y.name).cells,.agg y.cells,.str p] T (WrP d (rec y p) p T))(hlen:∀y∈x.parts,∀p,(rec y p).b.length<=110000000)(hR:(Wp chg rec (ZD path f.name) x.parts (I x.parts) 0 w).n<=1000000000/\(Wp chg rec (ZD path f.name) x.parts (I x.parts) 0 w).b.length<=1000000000/\(Wp chg rec (ZD path f.name) x.parts (I x.parts) 0 w).sums.length<=1000000):
  Zf ZHP 110 [.ptr z 0,.agg f.cells,.agg x.cells,fn] S (Zo2 d path E (Wp chg rec (ZD path f.name) x.parts (I x.parts) 0 w) z mz S ob os):=by
 refine Zh (cR 110 f110) λF hF=>?_;obtain⟨q,hq⟩:∃q,ZD path f.name=q:=⟨_,rfl⟩;obtain⟨R,a6⟩:∃R,Wp chg rec (ZD path f.name) x.parts (I x.parts) 0 w=R:=⟨_,rfl⟩;have ch:=Qu path f.name;rw[hq]at ch;rw[a6]at hR hF;rw[x.cells_eq];refine gG ?_;intro ms aw;obtain⟨bn,_,_,hmz0,be⟩:=h.upd aw (.map []);refine rx @KN ?_;refine Zb (fr (I x.parts) (λj Q=>∀w1 ob1 ad a0 S1 C,IsW S1 d path E w1 z mz ob1 ad a0->WF z S ob os S1 ob1 ad->S1 ms=sO (.map (KB C))->(∀nm,(Zv nm C).getD 0=(Zfs nm (x.parts.take j):Int))->Wp chg rec q x.parts (I x.parts-j) j w1=R->j<=I x.parts->Q [(0,.d (.ptr z 0)),(3,.d fn),(5,.loc 5 0),(8,.d (.map ms)),(18,.d (Zu x.parts)),(19,.d (.i (I x.parts))),(20,.d (.i j))] [(5,[.str f.name,.i f.kind,.i f.bits,.bool f.little,.bool f.loose,.i f.low,.i f.high,.i f.size.base,Z4 f.size.terms,.str f.of,.str f.tag,.str f.from_,Z2 f.cases,.i f.check,.i f.key])] S1) (λn an=>?_) λcu=>?_);intro j hn2 w1 ob1 ad a0 S1 C hI a8 hC ao t hj;refine rg ?_;refine Zd (Zj rfl trivial (λhd=>?_) (λhd=>?_));simp only[decide_eq_true_eq]at hd;have al:x.parts.getD j dE∈x.parts:=Zr ω;have cn:=YX (l:=x.parts) (i:=j) ω;have hyn:=hnm _ al;have ci:=hfind _ al;have cm:=hrec _ al;have cj:=hlen _ al;have ak:=ZT.eq_1 x.parts j;have hsl:=ZcR hps hnm (k:=j) ω;have ba:=ZAg x.parts j;have hdl:=Zhr x.parts j;have bw:=λnm=>Zp9 (nm:=nm) (l:=x.parts) (i:=j) ω;rw[show (I x.parts)-j=(I x.parts-(j+1))+1 by omega,Zb3]at t;generalize x.parts.getD j dE=y at *;have av:=ao y.name;rw[<-ba]at av;have e1:=YR (vD:=Y7) ZS y.name C;have e2:=Zay (vD:=Y7) ZS y.name ((QJ x.parts j:Nat)+1:Int) C;have e3:=Y8 ZS y.name;simp only[show K5 y.name=D.str y.name from rfl,show ∀n,Y7 n=.i n from λ_=>rfl]at e1 e2 e3;refine xA (nd2 @atV @cn) ?_;refine rg ?_;refine rx (nd2 @hC (nd2 @e1 (nd2 @e3 (nd2 @Zfc @av)))) ?_;refine rg ?_;refine jU [0] (λQ =>  Q F [(0,.d (.ptr z 0)),(3,.d fn),(5,.loc 5 0),(8,.d (.map ms)),(10,.loc 10 0),(11,.d (.str (ZT x.parts j))),(18,.d (Zu x.parts)),(19,.d (.i (I x.parts))),(20,.d (.i j))] [(5,[.str f.name,.i f.kind,.i f.bits,.bool f.little,.bool f.loose,.i f.low,.i f.high,.i f.size.base,Z4 f.size.terms,.str f.of,.str f.tag,.str f.from_,Z2 f.cases,.i f.check,.i f.key]),(10,[.str y.name,.i y.int,Zg y.bytes,Zx y.hdrs,Zu y.parts])] S1) ?_ λj1=>?_;obtain⟨ce,ca,cb⟩:=hI.nomap hC;have bz:ms≠mz:=be;refine xA (nd2 @hC (nd2 @e1 (nd2 @e2 (nd2 @e3 (nd2 @Zfc @av))))) ?_;have a5:=hI.put (.map (KB (YY y.name ((QJ x.parts j:Nat)+1:Int) C))) ce bz ca cb;have au:∀nm,(Zv nm (YY y.name ((QJ x.parts j:Nat)+1:Int) C)).getD 0=(Zfs nm (x.parts.take (j+1)):Int):=λnm=>by rw[bw nm];by_cases e:nm=y.name;subst e;rw[WZ,if_pos rfl,if_pos rfl,ba];rfl;rw[WZ,if_neg e,if_neg (Ne.symm e)];exact ao nm
 have a9:WF z S ob os (S1.upd ms (.map (KB (YY y.name ((QJ x.parts j:Nat)+1:Int) C)))) ob1 ad:=λy o hy h1 h2 h3=>by obtain⟨h4,h5,h6⟩:=a8 y o hy h1 h2 h3;exact⟨by rw[ZH0 _ _ λe=>by rw[e,aw]at hy;cases hy];exact h4,h5,h6⟩
 have a2:=ZHW S1 ms (.map (KB (YY y.name ((QJ x.parts j:Nat)+1:Int) C)));generalize YY y.name ((QJ x.parts j:Nat)+1:Int) C=C2 at *;generalize S1.upd ms (.map (KB C2))=S2 at *;obtain⟨bD,hz,hB,hne⟩:=id a5.wb;unfold wrR at hz;have hix:=WD ci;have b0:max (Zm d y.name (I d.msgs)) 0=ixS d y.name:=ω;have bx:Zl (λx:Msg=>dC (x.name=y.name)) d.msgs=Zm d y.name (I d.msgs):=by unfold Zm;rw[ZIb]
 have bb:=Zaq d y.name;rw[bx,b0]at bb;have aq:=Zc4 path f.name ω ω;rw[hq]at aq;have bh:=Zc4 q (ZT x.parts j) ω ω;have hpl:=Qu q (ZT x.parts j);have af:=cm (ZD q (ZT x.parts j)) S2 ω;unfold Zs at af;generalize b1:d.msgs.getD (ixS d y.name) dE=my at *;generalize ZD q (ZT x.parts j)=pj at *;rw[ZIe]at af;refine rx @hz ?_;refine cl0 (bb) ?_;refine xA (nd2 @hz (nd2 @atM (nd2 @b1 @eQ3))) ?_;refine clD (aq) ?_;refine clD (bh) ?_;refine cVD (af) ?_ ?_;rintro dd S3 ⟨z',bj,am,hr,ai⟩;cases hr;refine kF ?_;refine gR0 ?_;have ac:=a5.upd am (.cells (Zg (rec y pj).b::.i (rec y pj).n::wrR d pj bj (Wu (rec y pj).sums)));rw[<-ai]at ac;obtain⟨ac,cp,cr,cs,hzm⟩:=ac;have a3:S3 ms=sO (.map (KB C2)):=by rw[ai,ZH0 _ _ λe=>by rw[<-e,a2]at am;cases am];exact a2
 have a7:WF z S ob os S3 ob1 ad:=λy o hy h1 h2 h3=>by obtain⟨h4,h5,h6⟩:=a9 y o hy h1 h2 h3;exact⟨by rw[ai,ZH0 _ _ λe=>by rw[e,am]at h4;cases h4];exact h4,h5,h6⟩
 have ay:S3 z'=sO (.cells (Zg (rec y pj).b::.i (rec y pj).n::wrR d pj bj (Wu (rec y pj).sums))):=by rw[ai,ZHW]
 unfold wrR at ay;have bp:K.sub S3:=λy o hy=>by obtain⟨h1,h2,h3⟩:=hKf y o hy;exact(a7 y o (hK y o hy) h1 h2 h3).1
 have cg:=cj pj;have bv:=hchg S3 (rec y pj).b bp cg;have ae:=Zd5 (chg:=chg) (rec:=rec) (q:=q) (ps:=x.parts) (n:=I x.parts-(j+1)) (j:=j+1) (w:=w1.app chg (rec y pj));rw[t]at ae;simp only[Wr.app,ZHX]at ae;generalize rec y pj=o at *;refine rx @ay ?_;refine vV0 (bv) ?_ ?_;rintro dd S4 ⟨hr,bq⟩;obtain rfl:=bq.symm;cases hr;refine gR0 ?_;have c9:=KT (chg o.b) ac.wb ω;refine cV0 (c9) ?_ ?_;rintro dd S5 hP;obtain⟨hr,az,u,ar⟩:=ac.ofQ hP;cases hr;refine gR0 ?_;obtain⟨bf,bg,b2⟩:=ac.nomap a3;have a4:=(ar ms _ a3 bf bg b2).1;have bi:=(ar z' _ ay cs cp cr).1;obtain⟨ah,ag,bk,ap⟩:=id u.wb;unfold wrR at ag;have bc:=u.mne;refine rx (nd2 @ag @bi) ?_;refine Zwp rfl rfl (u.s) (by exact Jn) rfl rfl φ φ (.elems rfl) (by rw[ZH4];show(I w1.sums+I o.sums)*24<=_;omega) (by rw[ZH4];show (I w1.sums)+I o.sums<=_;unfold big;omega) (by exact ZoN o.sums) (by exact Jn) λs1 D1 ob1 a1 ab=>?_;have co:=(ab z _ ag u.zs).1;refine gQ @co ?_;refine⟨a1.cell,?_⟩;obtain⟨bt,bu⟩:=bk.fr ab u.bs;have bo:IsW (s1.upd z (.cells [ah,.i ((w1.n+8*(chg o.b).length:Nat):Int),.str d.name,Z0 d.msgs,.str d.start,.str path,.map mz,D1])) d path E (w1.app chg o) z mz az ob1 D1:=by refine⟨⟨ah,ZHW _ _ _,bt.upd ap,ap⟩,?_,?_,(ab z _ ag u.zs).2,bu⟩;rw[ZH0 _ _ bc.1];exact(ab mz _ u.m bc.2.2).1;show Buf _ 2 ((w1.sums++o.sums).map KO) D1 ob1;rw[List.map_append];exact a1.upd (ab z _ ag u.zs).2
 have br:WF z S ob os (s1.upd z (.cells [ah,.i ((w1.n+8*(chg o.b).length:Nat):Int),.str d.name,Z0 d.msgs,.str d.start,.str path,.map mz,D1])) az ob1:=λy o hy h1 h2 h3=>by obtain⟨h4,h5,h6⟩:=(a7.trans ar) y o hy h1 h2 h3;obtain⟨h7,h8⟩:=ab y o h4 h6;exact⟨by rw[ZH0 _ _ h1];exact h7,h5,h8⟩
 have bl:(s1.upd z (.cells [ah,.i ((w1.n+8*(chg o.b).length:Nat):Int),.str d.name,Z0 d.msgs,.str d.start,.str path,.map mz,D1])) ms=sO (.map (KB C2)):=by rw[ZH0 _ _ bf];exact(ab ms _ a4 (u.nomap a4).2.2).1
 refine gA ?_;refine Za ?_;exact an ((I x.parts)-(j+1)) ω (j+1) rfl (w1.app chg o) az ob1 D1 _ C2 bo br bl au t ω;exact λdd S5 h=>(WbP.bad h).elim;rintro dd S4 ⟨hr,_⟩;cases hr;rintro dd S3 ⟨_,_,_,hr,_⟩;cases hr;refine cd (λax=>?_) (λax=>?_);have aj:QJ x.parts j≠0:=by simp at ax;omega
 rw[if_neg aj]at ak;refine rg ?_;have hdc:=Zbm (QJ x.parts j);refine JV rfl rfl rfl rfl rfl φ φ (by exact ZmM aj ω) (Zk ?_);simp only[Eqs,reduceCtorEq,ZHV,reduceIte,ZHR,ZHY,ZHS];refine⟨by unfold big;omega,by unfold big;omega,?_⟩;rw[show y.name++58::Kn (QJ x.parts j)=ZT x.parts j by rw[ak,ZIh];rfl];exact j1;refine Zo ?_;have aj:QJ x.parts j=0:=by simp at ax;omega
 rw[if_pos aj]at ak;rw[ak]at j1;refine kE [0,3,5,8,10,11,18,19,20] ?_;exact j1;simp only[decide_eq_false_iff_not]at hd;obtain rfl:j=I x.parts:=ω;rw[Nat.sub_self,ZgZ]at t;subst t;refine ZG rfl ?_;exact hF.fin (.tup []) _ rfl trivial (ZHT _) ZHU ⟨rfl,ob1,ad,a0,hI,a8⟩;have h0:=cu _ 0 rfl w ob os sD (S.upd ms (.map [])) [] bn (λy o hy hyz h1 h2=>⟨by rw[ZH0 _ _ λe=>by rw[e,aw]at hy;cases hy];exact hy,h1,h2⟩) (ZHW _ _ _) (λnm=>rfl) (by rw[<-hq];exact a6) ω;exact h0
def Zlz(l:List UInt8):Zc ZHP 111 [Zg l] (Zg l):=by
 refine Ze (cR 111 f111) λF st i=>?_;refine gG ?_;refine ro i ?_;rfl
def ZmN(f:Fld){k:Nat}(hk:f.key=k)(t:k<4294967296)(l:List UInt8)(hl:I l<=110000000){T:St}{zf:Nat}(r:T zf=sO (.cells f.cells)):ZL ZHP 116 [Zg l,.ptr zf 0] T (Zg (Qr k l)) T:=by
 refine ZE (cR 116 f116) λo F i=>?_;clear o;unfold Fld.cells at r;rw[hk]at r;have hx:=ZqZ t l ω;have u:=Qr.eq_1 k l;refine rg ?_;refine rx @r ?_;refine cd (λh=>?_) (λh=>?_);rw[if_pos (by simp at h;omega)]at u;rw[u]at i;refine rg ?_;refine ro i ?_;rfl;refine rx @r ?_;refine cl (hx) ?_;refine rg ?_;refine ro i ?_;rfl
section
variable {S:St} {d:Dfn} {path:Str} {E:List (Str × Int)} {w:Wr} {z mz:Nat} {ob os:Option Nat} {sD:D} (f:Fld) (x:Val) (rec:Val->Str->Wr)
structure Zyc(d:Dfn)(path:Str)(f:Fld)(x:Val)(chg:List UInt8->List UInt8)(rec:Val->Str->Wr)(w:Wr):Prop where
 few:I x.parts<=5000
 nm:∀y∈x.parts,I y.name<=32
 fn:I f.name<=32
 pth:I path<=1000000
 find:∀y∈x.parts,0<=Zm d y.name (I d.msgs)
 rc:∀y∈x.parts,∀p T,I p<=I path+6000->Zf ZHP 31 [.agg d.cells,.agg (Zs d y.name).cells,.agg y.cells,.str p] T (WrP d (rec y p) p T)
 len:∀y∈x.parts,∀p,(rec y p).b.length<=110000000
 R:(Wp chg rec (ZD path f.name) x.parts (I x.parts) 0 w).n<=1000000000/\(Wp chg rec (ZD path f.name) x.parts (I x.parts) 0 w).b.length<=1000000000/\(Wp chg rec (ZD path f.name) x.parts (I x.parts) 0 w).sums.length<=1000000
def Zc3(h:IsW S d path E w z mz ob os sD)(r:Zyc d path f x id rec w):
  Zf ZHP 61 [.ptr z 0,.agg f.cells,.agg x.cells] S (Zo2 d path E (Wp id rec (ZD path f.name) x.parts (I x.parts) 0 w) z mz S ob os):=by
 refine Zh (cR 61 f61) λF hF=>?_;have i:=Zfu (K:=λ_=>nO) f x (.fn (.func 111) [] []) id rec h (λy o u=>by cases u) (λy o u=>by cases u)
  (λT l _ _=>Zf.V (first:=[]) (args:=[_]) (caps:=[]) (Zlz l T)) r.few r.nm r.fn r.pth r.find r.rc r.len r.R
 rw[x.cells_eq]at i⊢;refine rg ?_;refine rx @eQ0 ?_;refine cV (i) ?_ ?_;rintro dd S1 ⟨t,h1⟩;cases t;refine gR0 ?_;exact hF.fin (.tup []) _ rfl trivial (ZHT _) ZHU ⟨rfl,h1⟩;rintro dd S1 ⟨t,_⟩;cases t
def Zpk{k:Nat}(h:IsW S d path E w z mz ob os sD)(hp:Zyc d path f x (Qr k) rec w)(hk:f.key=k)(hk2:k<4294967296):
  Zf ZHP 64 [.ptr z 0,.agg f.cells,.agg x.cells] S (Zo2 d path E (Wp (Qr k) rec (ZD path f.name) x.parts (I x.parts) 0 w) z mz S ob os):=by
 refine Zh (cR 64 f64) λF hF=>?_;have t:f.cells=[.str f.name,.i f.kind,.i f.bits,.bool f.little,.bool f.loose,.i f.low,.i f.high,.i f.size.base,Z4 f.size.terms,.str f.of,.str f.tag,.str f.from_,Z2 f.cases,.i f.check,.i f.key]:=rfl;have u:=λzf (i:S zf=nO)=>Zfu (S:=S.upd zf (.cells f.cells)) (K:=ZIk zf (.cells f.cells)) f x (.fn (.func 116) [] [.ptr zf 0]) (Qr k) rec (h.upd i _).1
  (λy o hy=>by
   by_cases e:y=zf;subst e;rw[Yt]at hy;rw[ZHW];exact hy;rw[ZbA e]at hy;cases hy) (λy o hy=>by
   by_cases e:y=zf;subst e;obtain⟨_,h1,h2,h3,_⟩:=h.upd i (.cells []);exact⟨h3,h1,h2⟩;rw[ZbA e]at hy;cases hy)
  (λT l hT hl=>((ZmN f hk hk2 l hl (hT zf _ Yt)).VT (first:=[]) (args:=[_]) (caps:=[_]))) hp.few hp.nm hp.fn hp.pth hp.find hp.rc hp.len hp.R
 rw[x.cells_eq]at u⊢;refine rg ?_;refine xP 4 λzf i=>?_;have r:=u zf i;rw[t]at r;refine rx (nd2 @ZHW @t) ?_;refine cV (r) ?_ ?_;rintro dd S1 ⟨hr,ob1,ab,ac,h1,h2⟩;cases hr;refine gR0 ?_;refine hF.fin (.tup []) _ rfl trivial (ZHT _) ZHU ⟨rfl,ob1,ab,ac,h1,λy o hy h3 h4 h5=>h2 y o ?_ h3 h4 h5⟩;rw[ZH0 _ _ λe=>by rw[e,i]at hy;cases hy];exact hy;rintro dd S1 ⟨hr,_⟩;cases hr
end
def ZgU:List (Int×D):=[(1,.fn (.func 55) [] []),(2,.fn (.func 56) [] []),(3,.fn (.func 57) [] []),(4,.fn (.func 58) [] []),(5,.fn (.func 59) [] []),(6,.fn (.func 60) [] []),(7,.fn (.func 61) [] []),(8,.fn (.func 61) [] []),(9,.fn (.func 61) [] []),(10,.fn (.func 62) [] []),(11,.fn (.func 63) [] []),(12,.fn (.func 64) [] [])]
structure Zvo(d:Dfn)(path:Str)(f:Fld)(x:Val)(rec:Val->Str->Wr)(E:List (Str×Int))(w:Wr):Prop where
 kind:1<=f.kind/\f.kind<=12
 bok:BOk w.b w.n
 n:w.n<=110000000
 sums:I w.sums<=1000000
 nm:I f.name<=32
 pth:I path<=1000000
 num:f.kind=1\/f.kind=2->0<=f.bits/\f.bits<=600
 low:f.kind=2->0<=f.low/\f.low<34359738368
 vint:f.kind=1\/f.kind=3->0<=x.int/\x.int<34359738368
 byt:I x.bytes<=1048576
 unt:f.kind=5->0<=f.low/\f.low<=255
 hdr:f.kind=6->W0 x.hdrs=true/\Zbc x.hdrs/\(Qf x.hdrs).length<=1048576
 pad:f.kind=10->Zci f.bits=true
 chk:f.kind=11->(f.check=1\/f.check=2\/f.check=3)/\∃s0:Nat,Zv f.from_ E=some (s0:Int)/\s0<=I w.b
 key:f.kind=12->0<=f.key/\f.key<4294967296
 prt:7<=f.kind/\f.kind<=9\/f.kind=12->Zyc d path f x (if f.kind=12 then Qr f.key.toNat else id) rec w
section
variable {S:St} {d:Dfn} {path:Str} {E:List (Str × Int)} {w:Wr} {z mz:Nat} {ob os:Option Nat} {sD:D} {f:Fld} {x:Val} {rec:Val->Str->Wr}
def Zcw{o:FuncId}{args t u}(h:IsW S d path E w z mz ob os sD)(hc:Zf ZHP o args S (WbP S z ob t u (wrR d path mz sD))){w'}(hw:w'=⟨t,u,w.sums⟩):Zf ZHP o args S (Zo2 d path E w' z mz S ob os):=by
 subst hw;exact hc.mono λr S' hp=>by obtain⟨hr,i,h1,h2⟩:=h.ofQ hp;exact⟨hr,i,os,sD,h1,h2⟩
def ZyF(h:IsW S d path E w z mz ob os sD)(r:Zvo d path f x rec E w):∃fid:FuncId,Zv f.kind ZgU=sO (.fn (.func fid) [] [])/\Zf ZHP fid [.ptr z 0,.agg f.cells,.agg x.cells] S (Zo2 d path E (ZaF rec path f x E w) z mz S ob os):=by
 have hk:=r.kind;have hW:=ZaF.eq_1 rec path f x E w;have hn:=r.n;have o:=r.bok;unfold BOk at o;have i:f.kind=1\/f.kind=2\/f.kind=3\/f.kind=4\/f.kind=5\/f.kind=6\/f.kind=7\/f.kind=8\/f.kind=9\/f.kind=10\/f.kind=11\/f.kind=12:=ω;rcases i with hk1|hk1|hk1|hk1|hk1|hk1|hk1|hk1|hk1|hk1|hk1|hk1<;>rw[hk1]at hW⊢<;>simp only[ZIt,if_true,if_false]at hW<;>rw[hW];obtain⟨b1,b2⟩:=r.num ω;obtain⟨v1,v2⟩:=r.vint ω;exact⟨_,rfl,Zcw h (Zfv f x (v:=x.int.toNat) (k:=f.bits.toNat) h.wb r.bok ω ω ω ω ω) rfl⟩;obtain⟨b1,b2⟩:=r.num ω;obtain⟨v1,v2⟩:=r.low hk1;exact⟨_,rfl,Zcw h (ZjG f x (v:=f.low.toNat) (k:=f.bits.toNat) h.wb r.bok ω ω ω ω ω) rfl⟩;obtain⟨v1,v2⟩:=r.vint ω;exact⟨_,rfl,Zcw h (ZjH f x (v:=x.int.toNat) h.wb r.bok ω ω ω) rfl⟩;exact⟨_,rfl,Zcw h (ZnC f x h.wb r.bok r.byt ω) rfl⟩;obtain⟨v1,v2⟩:=r.unt hk1;exact⟨_,rfl,Zcw h (ZnD f x (c:=UInt8.ofNat f.low.toNat) h.wb r.bok r.byt (by rw[u8n ω];omega) ω) rfl⟩;obtain⟨t,u,h3⟩:=r.hdr hk1;exact⟨_,rfl,Zcw h (Zly f x h.wb r.bok t u h3 ω) rfl⟩;have:=r.prt ω;rw[if_neg ω]at this;exact⟨_,rfl,Zc3 f x rec h this⟩;have:=r.prt ω;rw[if_neg ω]at this;exact⟨_,rfl,Zc3 f x rec h this⟩;have:=r.prt ω;rw[if_neg ω]at this;exact⟨_,rfl,Zc3 f x rec h this⟩;exact⟨_,rfl,Zcw h (Zq1 f x h.wb r.bok (r.pad hk1) hn) rfl⟩;obtain⟨t,s0,u,h3⟩:=r.chk hk1;exact⟨_,rfl,ZnB f x h t u h3 ω ω r.sums r.pth (by have:=r.nm;omega)⟩;obtain⟨t,u⟩:=r.key hk1;have:=r.prt ω;rw[if_pos hk1]at this;exact⟨_,rfl,Zpk (k:=f.key.toNat) f x rec h this ω ω⟩
end
end Go.DL
