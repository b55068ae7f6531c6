/- Lemmas: EvV, EvW, EvR, EvY, EvZ, EvLib, EvZa, EvZb, Tab0, FCode0, FCode1, FCode2, FCode3, Api, R04a, Lst, R04b, R04c, Iv, R04d, R04e, R05a, R05b, R05c, R05d, R05e, R05f. -/
import Derived.Test.YtaaaefcmpgpkgaaGreatDoorT03
set_option maxHeartbeats 16000000
set_option linter.all false
open Option renaming some → sO, none → nO
open Inhabited renaming default → dE
open Decidable renaming decide → dC
open And renaming intro → Zyf
open Bool renaming and_eq_true → Zyk, false_eq_true → Zyt, or_eq_true → Zyu
open Go.DL.D.Le renaming refl → Zyj
open Go.DL.Nm renaming put_same → ZyS
open Go.DL.St renaming sub_refl → Zyi, upd_ne → Zyn, upd_same → Zyo, upd_upd → Zyz
open Go.Proofs.Tryz renaming prog → Zyg
open List renaming getD → Zyx, getElem?_append_left → ZyM, getElem?_take → ZyO, getElem_of_mem → ZyC, length_append → Zyr, length_cons → ZyE, length_drop → ZyU, length_take → Zyw, map_cons → Zyp, mem_cons → ZyP, range → Zyl, take_length → ZyA
open Nat renaming add_mul → ZyI, le_refl → Zys, mul_le_mul_right → ZyD, reduceAdd → ZyB, reduceEqDiff → Zye, reduceLeDiff → Zyq
open Option renaming getD_some → ZyL
open Option.some renaming injEq → Zyd
open Prod.mk renaming injEq → Zyh
namespace Go.DL
open Go
variable [Zpk]
variable {kp:Option (List Nat)}{L:Loc}{ρ:Env}{s:St}{w:World}{os:List DOp}{ds:List D}{B:List (Nat × Rd)}{dst:Option Nat}{tmps:Array Value}{g:G}{Φ:Res→St→Prop}{ν:Nat→Nat}{xs:List Opd}{side:Prop}{row:Nat→List D}{vs:List V}
theorem Zld:∀{ρ:Env} {t:Nat} {e:E},Yv ρ t=sO e→(t,e)∈ρ
 | [],t,e,h=>by simp[Yv]at h
 | (k,x)::r,t,e,h=>by
  simp only[Yv]at h
  split at h
  ·rename_i hk
   simp only[Zyd]at h
   subst h;subst hk;simp
  ·exact List.mem_cons_of_mem _ (Zld h)
theorem Zvo:∀{L:Loc},(∀l,Zo L l=nO)→L=[]
 | [],_=>rfl
 | (k,c)::r,h=>by have:=h k;simp[Zo]at this
theorem Zi9{t nx:Nat}:∀{ad:List (Nat×Nat×Nat)} {ρ:T W} {u:Nat} {w:W},(Zmx ad t nx ρ).get u=sO w→(∃o,(u,t,o)∈ad∧w=.v (.ptr nx o))∨ρ.get u=sO w
 | [],ρ,u,w,h=>.inr h
 | (u',l,o)::r,ρ,u,w,h=>by
  simp only[Zmx]at h
  split at h
  ·rename_i hl
   rw[Yf]at hl
   subst hl
   rcases T.get_set h with ⟨rfl,h3⟩|⟨_,h3⟩
   ·simp only[Zyd]at h3
    exact .inl ⟨o,by simp,h3.symm⟩
   ·rcases Zi9 h3 with ⟨o',h1,h2⟩|h3
    ·exact .inl ⟨o',by simp[h1],h2⟩
    ·exact .inr h3
  ·rcases Zi9 h with ⟨o',h1,h2⟩|h
   ·exact .inl ⟨o',by simp[h1],h2⟩
   ·exact .inr h
section
variable {C:Px} {ih:Ih} {dk:List Zu}
theorem ZrP(hih:ZaU C ih):∀{cs:List (Nat×List V)} {ad:List (Nat×Nat×Nat)} {fm:Fm} {ρ:T W} {σ:S} {nx:Nat} {o:Out},ZpZ cs ad ih dk fm ρ σ nx=sO o →
  ∀{F:Fr C.P} {η:Nm} {ρd:Env} {L:Loc} {s:St},FmR C η fm o F→Y5 η [] ρ ρd→WT η nx→Sim C η σ s→(∀l vs,Jk l cs=sO vs→(∃u o,(u,l,o)∈ad)→∃ds,Zo L l=sO ds∧VRs η vs ds) →
   (∀l,Jk l cs=nO→Zo L l=nO)→(cs.map (·.1)).Nodup→(∀u l o,(u,l,o)∈ad→(Jk l cs).isSome=true→Zea ρd u l o)→ZS F dk ρd L s
 | [],ad,fm,ρ,σ,nx,o,h,F,η,ρd,L,s,hF,hρ,hN,hS,hc,hn,hd,ha=>by
  obtain rfl:=Zvo fun l=>hn l rfl
  exact hih.at _ _ _ _ _ _ h F η ρd s hF hρ hN hS
 | (t,vs)::cs,ad,fm,ρ,σ,nx,o,h,F,η,ρd,L,s,hF,hρ,hN,hS,hc,hn,hd,ha=>by
  simp only[ZpZ]at h
  split at h<;>(try(simp at h;done))
  rename_i l' o' hget
  obtain⟨hl,hh⟩:=ZR h
  rw[Yf]at hl
  subst hl
  have hsome:Jk l' ((l',vs)::cs)=sO vs:=by simp[Jk,Yf.2 rfl]
  obtain⟨ds,d1,d2⟩:=hc l' vs hsome ⟨_,_,Zlb hget⟩
  simp only[Zyp,List.nodup_cons]at hd
  have hcons:∀{l:Nat},l≠l'→Jk l ((l',vs)::cs)=Jk l cs:=fun{l} hne=>by
   simp only[Jk]
   rw[if_neg (fun h=>hne (Yf.1 h).symm)]
  have hkey:∀{l:Nat} {x:List V},Jk l cs=sO x→l≠l':=fun{l x} hx e=>by
   subst e
   have:∀{r:List (Nat×List V)} {x:List V},Jk l r=sO x→l∈r.map (·.1):=fun{r}=>by
    induction r with
    |nil=>intro x h;simp[Jk]at h
    |cons a r ih =>
     obtain⟨t,c⟩:=a
     intro x h
     simp only[Jk]at h
     split at h
     ·rename_i ht;rw[Yf]at ht;simp[ht]
     ·simp only[Zyp,ZyP];exact .inr (ih h)
   exact hd.1 (this hx)
  refine Z1 l' d1 fun b hb=>?_
  have f0:=hN.free nx (Zys _)
  have n1:η.Sub (η.put nx (.tip b)):=Nm.put_sub f0 _
  refine ZrP hih hh (η:=η.put nx (.tip b)) (hF.mono n1) ?_ (hN.put _) (hS.new f0 hb (OR.cells0 (d2.mono n1))) ?_ ?_ hd.2 ?_
  ·intro u w hw hlv
   rw[Zeh]
   rcases Zi9 hw with ⟨o2,h1,rfl⟩|h1
   ·rcases ha u l' o2 h1 (by rw[hsome];rfl) with h2|h2
    ·exact⟨.d (.ptr b o2),by rw[h2];simp[Yz],.ptr b o2,.ptr _ _ _ (ZyS _ _ _),.inl rfl⟩
    ·exact⟨.when true (.d (.ptr b o2)),by rw[h2];simp[Yz],.ptr b o2,.ptr _ _ _ (ZyS _ _ _),.inr rfl⟩
   ·obtain⟨e,h2,h3⟩:=hρ u w h1 hlv
    cases w with
    |v x =>
     obtain⟨d,h4,rfl|rfl⟩:=h3
     ·exact⟨_,by rw[h2];rfl,d,h4.mono n1,.inl rfl⟩
     ·exact⟨_,by rw[h2];rfl,d,h4.mono n1,.inr rfl⟩
    |loc l o=>simp[Zqg]at hlv
    |skip =>
     have h3':e=.when false (.d (.bool false)):=h3
     subst h3'
     exact⟨_,by rw[h2];rfl,rfl⟩
  ·intro l vs2 hl hx
   have hne:=hkey hl
   obtain⟨ds2,g1,g2⟩:=hc l vs2 (by rw[hcons hne];exact hl) hx
   exact⟨ds2,by rw[ZdV,if_neg hne];exact g1,g2.mono n1⟩
  ·intro l hl
   rw[ZdV]
   by_cases hne:l=l'
   ·rw[if_pos hne]
   ·rw[if_neg hne]
    exact hn l (by rw[hcons hne];exact hl)
  ·intro u l o2 hm hs
   obtain⟨x,hx⟩:=Option.isSome_iff_exists.1 hs
   have hne:=hkey hx
   unfold Zea
   rw[Zeh]
   rcases ha u l o2 hm (by rw[hcons hne];exact hs) with h2|h2
   ·exact .inl (by rw[h2];simp[Yz,hne])
   ·exact .inr (by rw[h2];simp[Yz,hne])
theorem Zwz(hih:ZaU C ih):ZbO C ih ⟨fun r ih dk fm ρ σ nx=>ZpZ r.cs r.ad ih dk fm ρ σ nx⟩ dk []:=by
 intro r fm ρ σ nx o h F η ρd L s B hF hρ hN hS hR
 show DOA F (sO Zk0) dk [] ρd L s B
 refine ZmU (ZrP hih h hF hρ.keep hN hS (fun l vs hl hx=>?_) (fun l hl=>?_) hR.nd (fun u l o hm _=>?_))
 ·obtain⟨u,o',hm⟩:=hx
  obtain⟨ds,d1,d2⟩:=hR.cs l vs hl
  refine⟨ds,?_,d2⟩
  have hat:Zea (WV ρd Zk0) u l o':=(hR.ad u l o' hm).imp (fun h=>ZaY h (List.mem_range.2 (hR.lt u l o' hm))) (fun h=>ZaY h (List.mem_range.2 (hR.lt u l o' hm)))
  refine Zgn L _ l ds ?_ d1
  rw[List.mem_flatMap]
  rcases hat with h|h
  ·exact⟨_,Zld h,by simp[JK]⟩
  ·exact⟨_,Zld h,by simp[JK]⟩
 ·cases hg:Zo (ZcS (WV ρd Zk0) L) l with
  |none=>rfl
  |some cs =>
   have:=Zbj L _ l cs hg
   rw[hR.no l hl]at this;simp at this
 ·exact(hR.ad u l o hm).imp (fun h=>ZaY h (List.mem_range.2 (hR.lt u l o hm))) (fun h=>ZaY h (List.mem_range.2 (hR.lt u l o hm)))
end
theorem ZqL{cs xs ys:List D}{i j:Nat}(h1:i+xs.length≤cs.length)(h2:j+ys.length≤cs.length)(h:i+xs.length≤j∨j+ys.length≤i):ZF (ZF cs i xs) j ys=ZF (ZF cs j ys) i xs:=by
 have key:∀{cs xs ys:List D} {i j:Nat},j+ys.length≤cs.length→i+xs.length≤j→ZF (ZF cs i xs) j ys=ZF (ZF cs j ys) i xs:=by
  intro cs xs ys i j h2 h
  apply List.ext_getElem?
  intro n
  simp only[ZF,List.append_assoc]
  simp only[List.getElem?_append,ZyO,List.getElem?_drop,Zyw,Zyr,ZyU]
  by_cases a1:n<i
  ·simp only[show n<min j (min i cs.length+(xs.length+(cs.length-(i+xs.length)))) by omega,show n<min i cs.length by omega,show n<j by omega,a1,if_true,show n<min i (min j cs.length+(ys.length+(cs.length-(j+ys.length)))) by omega,show n<min j cs.length by omega]
  ·by_cases a2:n<i+xs.length
   ·simp only[show n<min j (min i cs.length+(xs.length+(cs.length-(i+xs.length)))) by omega,show ¬n<min i cs.length by omega,show n<j by omega,if_true,if_false,show n-min i cs.length<xs.length by omega,show ¬n<min i (min j cs.length+(ys.length+(cs.length-(j+ys.length)))) by omega,show n-min i (min j cs.length+(ys.length+(cs.length-(j+ys.length))))<xs.length by omega]
    congr 1;omega
   ·by_cases a3:n<j
    ·simp only[show n<min j (min i cs.length+(xs.length+(cs.length-(i+xs.length)))) by omega,show ¬n<min i cs.length by omega,a3,if_true,if_false,show ¬n-min i cs.length<xs.length by omega,show ¬n<min i (min j cs.length+(ys.length+(cs.length-(j+ys.length)))) by omega,show ¬n-min i (min j cs.length+(ys.length+(cs.length-(j+ys.length))))<xs.length by omega,
      show i+xs.length+(n-min i (min j cs.length+(ys.length+(cs.length-(j+ys.length))))-xs.length)<min j cs.length by omega]
     rw[if_pos (by omega)]
     congr 1;omega
    ·by_cases a4:n<j+ys.length
     ·simp only[show ¬n<min j (min i cs.length+(xs.length+(cs.length-(i+xs.length)))) by omega,if_false,show n-min j (min i cs.length+(xs.length+(cs.length-(i+xs.length))))<ys.length by omega,if_true,show ¬n<min i (min j cs.length+(ys.length+(cs.length-(j+ys.length)))) by omega,show ¬n-min i (min j cs.length+(ys.length+(cs.length-(j+ys.length))))<xs.length by omega,
       show ¬i+xs.length+(n-min i (min j cs.length+(ys.length+(cs.length-(j+ys.length))))-xs.length)<min j cs.length by omega,show i+xs.length+(n-min i (min j cs.length+(ys.length+(cs.length-(j+ys.length))))-xs.length)-min j cs.length<ys.length by omega]
      congr 1;omega
     ·simp only[show ¬n<min j (min i cs.length+(xs.length+(cs.length-(i+xs.length)))) by omega,if_false,show ¬n-min j (min i cs.length+(xs.length+(cs.length-(i+xs.length))))<ys.length by omega,show ¬n<min i (min j cs.length+(ys.length+(cs.length-(j+ys.length)))) by omega,show ¬n-min i (min j cs.length+(ys.length+(cs.length-(j+ys.length))))<xs.length by omega,
       show ¬i+xs.length+(n-min i (min j cs.length+(ys.length+(cs.length-(j+ys.length))))-xs.length)<min j cs.length by omega,show ¬i+xs.length+(n-min i (min j cs.length+(ys.length+(cs.length-(j+ys.length))))-xs.length)-min j cs.length<ys.length by omega,
       show ¬j+ys.length+(n-min j (min i cs.length+(xs.length+(cs.length-(i+xs.length))))-ys.length)<min i cs.length by omega,show ¬j+ys.length+(n-min j (min i cs.length+(xs.length+(cs.length-(i+xs.length))))-ys.length)-min i cs.length<xs.length by omega]
      congr 1;omega
 rcases h with h|h
 ·exact key h2 h
 ·exact(key h1 h).symm
section
variable {C:Px} {ih:Ih} {dk:List Zu} {os:List (DOp × List Nat)} {rest:Bx RgD}
variable {r:Rl} {fm:Fm} {ρ:T W} {σ:S} {nx:Nat} {o:Out} {F:Fr C.P} {η:Nm} {ρd:Env} {L:Loc} {s:St} {B:List (Nat × Rd)}
theorem ZuN(hρ:Y5 η [] ρ ρd){k:K}{a:Opd}{n:Nat}(hk:ZjH k=sO (a,n)){mu:Bool}{r3:R3}(h:(opF mu false k).run ρ σ nx=sO r3):∃v da xs ys σ',(Kf a).run ρ=sO v∧VR η v da∧VRs η xs ys∧ZcH σ v n xs=sO σ'∧r3=⟨.nilsl,σ',nx⟩∧Kh k=false ∧
  ∀{F:Fr C.P} {kp:Option (List Nat)} {dk:List Zu} {os':List DOp} {ρ':Env} {L':Loc} {s':St} {b off:Nat} {cs:List D},Z3 ρd ρ' (WP k)→da=.ptr b off→Wk s' b=sO cs→off+ys.length≤cs.length→ys.length=n→DO F kp dk os' ρ' L' (s'.upd b (.cells (ZF cs off ys)))→DO F kp dk (⟨nO,nO,k⟩::os') ρ' L' s':=by
 cases k<;>simp only[ZjH,Zyd,Zyh,reduceCtorEq]at hk
 case store1 a' v =>
  obtain⟨rfl,rfl⟩:=hk
  simp only[opF]at h
  obtain⟨hd,hh⟩:=ZR h;replace h:=hh;clear hh
  obtain⟨av,ha,hh⟩:=K9 h;replace h:=hh;clear hh
  obtain⟨xv,hx,hh⟩:=K9 h;replace h:=hh;clear hh
  obtain⟨hcl,hh⟩:=ZR h;replace h:=hh;clear hh
  obtain⟨σ',hst,rfl⟩:=ZjM h
  obtain⟨p,da,a1,a2,a3⟩:=QN hρ ha
  obtain⟨q,dx,b1,b2,b3⟩:=QN hρ hx
  have hok:=Zly b3 hcl
  have hcx:cellsOf dx=[dx]:=by cases dx<;>first|rfl|simp[Zad]at hok
  refine⟨av,da,[xv],[dx],σ',ha,a3,.one b3,hst,rfl,rfl,fun{F kp dk os' ρ' L' s' b off cs} hag hda hcs hle hl hc=>?_⟩
  subst hda
  refine Zc6 rfl (.inl ⟨rfl,trivial⟩) (by rw[YD (fun t ht=>hag t (by simp[WP,ht]))];exact a1) (by rw[YD (fun t ht=>hag t (by simp[WP,ht]))];exact b1) a2 b2 hcs (fun _=>hok) (fun n hn=>by simp at hn) (by rw[hcx];exact hle) rfl ?_
  rw[hcx];exact hc
 case storeN n' a' v =>
  obtain⟨rfl,rfl⟩:=hk
  simp only[opF]at h
  obtain⟨hd,hh⟩:=ZR h;replace h:=hh;clear hh
  obtain⟨av,ha,hh⟩:=K9 h;replace h:=hh;clear hh
  obtain⟨xv,hx,hh⟩:=K9 h;replace h:=hh;clear hh
  obtain⟨p,da,a1,a2,a3⟩:=QN hρ ha
  obtain⟨q,dx,b1,b2,b3⟩:=QN hρ hx
  cases b3<;>simp only[reduceCtorEq]at h
  rename_i xs ys hxs
  obtain⟨σ',hst,rfl⟩:=ZjM h
  refine⟨av,da,xs,ys,σ',ha,a3,hxs,hst,rfl,rfl,fun{F kp dk os' ρ' L' s' b off cs} hag hda hcs hle hl hc=>?_⟩
  subst hda
  refine Zc6 rfl (.inr ⟨_,rfl⟩) (by rw[YD (fun t ht=>hag t (by simp[WP,ht]))];exact a1) (by rw[YD (fun t ht=>hag t (by simp[WP,ht]))];exact b1) a2 b2 hcs (fun hn=>by simp at hn) (fun m hm=>?_) hle rfl hc
  simp only[K.storeN.injEq]at hm
  exact⟨⟨_,rfl⟩,by rw[←hm.1];exact hl⟩
theorem ZqS{f:FuncId}{k:K}{a:Opd}{n:Nat}(hk:ZjH k=sO (a,n))(ha:ZeK a r=nO)(h:(goD C f rest nO nO [] k).run r ih dk fm ρ σ nx=sO o):
  ∃r3,(opF (C.mu f nO) false k).run ρ σ nx=sO r3∧rest.run (Za2 [] r) ih dk fm ρ r3.σ r3.nx=sO o:=by
 cases k<;>simp only[ZjH,Zyd,Zyh,reduceCtorEq]at hk
 all_goals
  obtain⟨rfl,rfl⟩:=hk
  simp only[goD,ha,Znc,Option.isNone_none,Bool.or_true,Zno,Option.isSome_none]at h
  split at h<;>(try(simp at h;done))
  rename_i v σ1 nx1 hop
  simp only[Zf8]at h
  obtain⟨_,hh⟩:=ZR h
  exact⟨_,hop,hh⟩
theorem Zvm(hrest:ZbO C ih rest dk os){f:FuncId}{k k2:K}{a a2:Opd}{n n2:Nat}(hk:ZjH k=sO (a,n))(hk2:ZjH k2=sO (a2,n2))(ha:ZeK a r=nO)(ha2:ZeK a2 r=nO){b o1 b2 o2:Nat}(hv:(Kf a).run ρ=sO (.ptr b o1))(hv2:(Kf a2).run ρ=sO (.ptr b2 o2))(hdis:b≠b2∨o1+n≤o2∨o2+n2≤o1){rest2:Bx RgD}(hr2:rest2=goD C f rest nO nO [] k2)(h:(goD C f rest2 nO nO [] k).run r ih dk fm ρ σ nx=sO o)(hF:FmR C η fm o F)(hρ:Y5 η [] ρ ρd)(hN:WT η nx)(hS:Sim C η σ s)(hR:K2 η r ρd L B):DOA F nO dk ((⟨nO,nO,.fork k⟩,[])::(⟨nO,nO,k2⟩,[])::os) ρd L s B:=by
 subst hr2
 obtain⟨r3,e1,h1⟩:=ZqS hk ha h
 obtain⟨v,da,xs,ys,σ1,f1,f2,f3,f4,rfl,hp1,f6⟩:=ZuN hρ hk e1
 obtain⟨r4,e2,h2⟩:=ZqS hk2 (r:=Za2 [] r) (by cases a2<;>exact ha2) h1
 obtain⟨v2,da2,xs2,ys2,σ2,g1,g2,g3,g4,rfl,hp2,g6⟩:=ZuN hρ hk2 e2
 rw[hv]at f1;rw[hv2]at g1
 simp only[Zyd]at f1 g1
 subst f1;subst g1
 obtain⟨bd,off,cs,rfl,c1,c2,c3,c4⟩:=ZeI hS f4 f2 f3
 obtain⟨bd2,off2,cs2,rfl,d1,d2,d3,d4⟩:=ZeI c4 g4 g2 g3
 cases f2 with
 |ptr _ _ _ hb =>
 cases g2 with
 |ptr _ _ _ hb2 =>
 have hobj:∃ob,σ.get b=sO ob:=by
  simp only[ZcH]at f4
  cases hg:σ.get b with
  |none=>simp[hg]at f4
  |some ob=>exact⟨ob,rfl⟩
 have hobj2:∃ob,σ.get b2=sO ob:=by
  have hσ1:∃x,σ1=σ.set (sO x) b:=by
   simp only[ZcH]at f4
   split at f4<;>(try(simp at f4;done))
   all_goals
    split at f4<;>simp only[Zyd,reduceCtorEq]at f4
    exact⟨_,f4.symm⟩
  obtain⟨x,rfl⟩:=hσ1
  have:∃ob,(σ.set (sO x) b).get b2=sO ob:=by
   simp only[ZcH]at g4
   cases hg:(σ.set (sO x) b).get b2 with
   |none=>simp[hg]at g4
   |some ob=>exact⟨ob,rfl⟩
  obtain⟨ob,hob⟩:=this
  rcases T.get_set hob with ⟨rfl,_⟩|⟨_,h⟩
  ·exact hobj
  ·exact⟨ob,h⟩
 obtain⟨ob,hob⟩:=hobj
 obtain⟨ob2,hob2⟩:=hobj2
 have hbb:bd=bd2→b=b2:=fun e=>hS.inj b b2 ob ob2 bd hob hob2 hb (by rw[e];exact hb2)
 have hR':K2 η (Za2 [] (Za2 [] r)) ρd L []:=by
  have:=(hR.next []).next []
  rwa [Zdc]at this
 have fin:DOA F nO dk os ρd L ((s.upd bd (.cells (ZF cs o1 ys))).upd bd2 (.cells (ZF cs2 o2 ys2))) []:=hrest _ _ _ _ _ _ h2 F η ρd L _ [] hF hρ hN d4 hR'
 obtain⟨cs',q1,q2,q3,q4⟩:∃cs',Wk s bd2=sO cs'∧o2+ys2.length≤cs'.length∧(∃cs'',Wk (s.upd bd2 (.cells (ZF cs' o2 ys2))) bd=sO cs''∧o1+ys.length≤cs''.length ∧
   (s.upd bd2 (.cells (ZF cs' o2 ys2))).upd bd (.cells (ZF cs'' o1 ys))=(s.upd bd (.cells (ZF cs o1 ys))).upd bd2 (.cells (ZF cs2 o2 ys2)))∧True:=by
  by_cases he:bd=bd2
  ·subst he
   have hbe:=hbb rfl
   have hcs2:cs2=ZF cs o1 ys:=by
    have:Wk (s.upd bd (.cells (ZF cs o1 ys))) bd=sO (ZF cs o1 ys):=JV (Zyo _ _ _)
    rw[this]at d1
    simpa using d1.symm
   subst hcs2
   have hl:=ZgJ c2
   have hd:o1+ys.length≤o2∨o2+ys2.length≤o1:=by
    rw[c3,d3]
    exact hdis.resolve_left (fun h=>h hbe)
   have hl2:o2+ys2.length≤cs.length:=by rw[hl]at d2;exact d2
   refine⟨cs,c1,hl2,⟨ZF cs o2 ys2,JV (Zyo _ _ _),by rw[ZgJ hl2];exact c2,?_⟩,trivial⟩
   rw[Zyz,Zyz,ZqL c2 hl2 hd]
  ·have h3:(s.upd bd (.cells (ZF cs o1 ys))) bd2=s bd2:=Zyn _ _ (Ne.symm he)
   have h4:Wk s bd2=sO cs2:=by
    simp only[Wk,h3]at d1
    simpa only[Wk]using d1
   have h5:(s.upd bd2 (.cells (ZF cs2 o2 ys2))) bd=s bd:=Zyn _ _ he
   refine⟨cs2,h4,d2,⟨cs,by simp only[Wk,h5];simpa only[Wk]using c1,c2,St.upd_comm _ _ _ he⟩,trivial⟩
 obtain⟨cs'',q3,q5,q6⟩:=q3
 refine Zpa (fun _ s2=>s2=s.upd bd (.cells (ZF cs o1 ys))) (fun _ s2=>s2=s.upd bd2 (.cells (ZF cs' o2 ys2))) (o1:=⟨nO,nO,k⟩) (o2:=⟨nO,nO,k2⟩) hp2 (fun ρ' L' os' hag hc=>?_) (fun e s2 hs2=>?_) (fun ρ' L' os' hag hc=>?_) (fun e s2 hs2=>?_)
 ·exact f6 (fun t ht=>hag t (by simp[ZT,ht])) rfl c1 c2 c3 (hc (.d .nilsl) _ rfl)
 ·subst hs2
  refine⟨Zbp,?_⟩
  refine ZbA (fun _ s2=>s2=(s.upd bd (.cells (ZF cs o1 ys))).upd bd2 (.cells (ZF cs2 o2 ys2))) hp2 (fun ρ' L' os' hag hc=>?_) (fun e s2 hs2=>?_)
  ·exact g6 (fun t ht=>hag t (by simp[ZT,ht])) rfl d1 d2 d3 (hc (.d .nilsl) _ rfl)
  ·subst hs2;exact⟨Zbp,by rw[Zdc];exact fin⟩
 ·exact g6 (fun t ht=>hag t (by simp[ZT,ht])) rfl q1 q2 d3 (hc (.d .nilsl) _ rfl)
 ·subst hs2
  refine⟨Zbp,?_⟩
  refine ZbA (fun _ s2=>s2=(s.upd bd (.cells (ZF cs o1 ys))).upd bd2 (.cells (ZF cs2 o2 ys2))) hp1 (fun ρ' L' os' hag hc=>?_) (fun e s2 hs2=>?_)
  ·exact f6 (fun t ht=>hag t (by simp[ZT,ht])) rfl q3 q5 c3 (by rw[q6];exact hc (.d .nilsl) _ rfl)
  ·subst hs2;exact⟨Zbp,by rw[Zdc];exact fin⟩
end
section
variable {C:Px} {ih:Ih} {dk:List Zu} {os:List (DOp × List Nat)} {rest:Bx RgD}
variable {r:Rl} {fm:Fm} {ρ:T W} {σ:S} {nx:Nat} {o:Out} {F:Fr C.P} {η:Nm} {ρd:Env} {L:Loc} {s:St} {B:List (Nat × Rd)}
theorem Zt1:∀{x y:List Nat},eqL x y=true→x=y
 | [],[],_=>rfl
 | [],_::_,h=>by simp[eqL]at h
 |_::_,[],h=>by simp[eqL]at h
 |a::x,b::y,h=>by
  simp only[eqL,Zyk,Yf]at h
  rw[h.1,Zt1 h.2]
theorem Zvl(hrest:ZbO C ih rest dk os){t t2:Nat}{fl:List Nat}(hne:t≠t2){σ0:S}{l:List (Nat×O)}(hout:Zno fl r σ=sO (σ0,l))(hd1:noA t r=true)(hd2:noA t2 r=true)(h2:rest.run (Za2 fl (Za2 fl r)) ih dk fm ((ρ.set (sO (.v (.map nx))) t).set (sO (.v (.map (nx+1)))) t2) ((σ.set (sO (.map [])) nx).set (sO (.map [])) (nx+1)) (nx+2)=sO o)(hF:FmR C η fm o F)(hρ:Y5 η [] ρ ρd)(hN:WT η nx)(hS:Sim C η σ s)(hR:K2 η r ρd L B):DOA F nO dk ((⟨sO t,nO,.fork .mkmap⟩,fl)::(⟨sO t2,nO,.mkmap⟩,fl)::os) ρd L s B:=by
 obtain⟨ks,o1,o2⟩:=Znp hout
 have hthere:∀n b,n∈fl→(n,.blk b)∈B→∃d,s b=sO d:=fun n b hf hb=>by
  obtain⟨kn,n1,n2⟩:=hR.bn n b hb
  obtain⟨e1,e2,e3⟩:=Zg9 o1
  have:∃o,σ.get kn=sO o∧∀n,o≠.tok n:=by
   rcases e3 kn (o2 n kn hf n1) with ⟨o,h⟩|⟨o,h⟩
   ·exact⟨o,(e2 kn o h).1,(Zcf (e2 kn o h).2).2⟩
   ·exact⟨_,h,fun n=>by simp⟩
  obtain⟨o,ho,hn⟩:=this
  obtain⟨b',d,f1,f2,_⟩:=hS.get ho hn
  rw[n2]at f1
  simp only[Zyd,Tok.tip.injEq]at f1
  subst f1
  exact⟨d,f2⟩
 have kp1:∀{b:Nat} {B':List (Nat×Rd)} {s1:St} {x:Wt},(∀n c,n∈fl→(n,.blk c)∈B'→∃d,s1 c=sO d)→s1 b=nO→KB fl s1 (s1.upd b x) L L B':=fun{b B' s1 x} h hb =>
  Zez (fun n c hf hc=>by
   obtain⟨d,hd⟩:=h n c hf hc
   have:c≠b:=fun e=>by rw[e,hb]at hd;simp at hd
   rw[Zyn s1 _ this]) (fun _ _ _ _=>rfl)
 have there2:∀{b:Nat},∀n c,n∈fl→(n,.blk c)∈Kx fl B→∃d,(s.upd b (.map [])) c=sO d:=fun{b} n c hf hc=>by
  obtain⟨d,hd⟩:=hthere n c hf (JY.1 hc).2
  by_cases hcb:c=b
  ·exact⟨_,by rw[hcb,Zyo]⟩
  ·exact⟨d,by rw[Zyn s _ hcb];exact hd⟩
 have fin:∀{b b2:Nat} {ρ2:Env} {s2:St},s b=nO→s b2=nO→b≠b2→(∀u,Yv ρ2 u=if u=t then sO (.d (.map b)) else if u=t2 then sO (.d (.map b2)) else Yv ρd u)→s2=(s.upd b (.map [])).upd b2 (.map [])→DOA F nO dk os ρ2 L s2 (Kx fl (Kx fl B)):=by
  intro b b2 ρ2 s2 hb hb2 hbb hE hs2
  subst hs2
  have f0:=hN.free nx (Zys _)
  have n1:η.Sub (η.put nx (.tip b)):=Nm.put_sub f0 _
  have hN1:=hN.put (.tip b)
  have f1:=hN1.free (nx+1) (Zys _)
  have n2:(η.put nx (.tip b)).Sub ((η.put nx (.tip b)).put (nx+1) (.tip b2)):=Nm.put_sub f1 _
  have S1:=hS.new f0 hb (o:=.map []) (d:=.map []) (.map [] [] .nil)
  have S2:=S1.new f1 (b:=b2) (by rw[Zyn s _ (Ne.symm hbb)];exact hb2) (o:=.map []) (d:=.map []) (.map [] [] .nil)
  refine hrest _ _ _ _ _ _ h2 F _ ρ2 L _ _ (hF.mono (n1.trans n2)) (fun u w hw hl=>?_) (hN1.put _) S2 ?_
  ·rw[hE]
   rcases T.get_set hw with ⟨rfl,hw2⟩|⟨hne2,hw2⟩
   ·simp only[Zyd]at hw2
    subst hw2
    rw[if_neg (Ne.symm hne),if_pos rfl]
    exact⟨_,rfl,.map b2,.map _ _ (ZyS _ _ _),.inl rfl⟩
   ·rcases T.get_set hw2 with ⟨rfl,hw3⟩|⟨hne1,hw3⟩
    ·simp only[Zyd]at hw3
     subst hw3
     rw[if_pos rfl]
     exact⟨_,rfl,.map b,.map _ _ (n2 _ _ (ZyS _ _ _)),.inl rfl⟩
    ·rw[if_neg hne1,if_neg hne2]
     exact(hρ.mono (n1.trans n2)) u w hw3 hl
  ·have h0:=((hR.next fl).next fl).mono (n1.trans n2)
   have had:(Za2 fl (Za2 fl r)).ad=r.ad:=by cases fl<;>rfl
   refine{ h0 with ad:=fun u l o' hm=>?_ }
   have:=h0.ad u l o' hm
   rw[had]at hm
   unfold Zea at this⊢
   rw[hE,if_neg (Ne.symm (Zms hd1 u l o' hm)),if_neg (Ne.symm (Zms hd2 u l o' hm))]
   exact this
 have one:∀{F:Fr C.P} {u:Nat} {ρ':Env} {L':Loc} {s':St} {os':List DOp},(∀e s2,(∃b,s' b=nO∧e=.d (.map b)∧s2=s'.upd b (.map []))→DO F nO dk os' (ZX ρ' (sO u) e) L' s2)→DO F nO dk (⟨sO u,nO,.mkmap⟩::os') ρ' L' s':=fun{F u ρ' L' s' os'} hc =>
  ZkT rfl rfl rfl fun b hb=>hc (.d (.map b)) _ ⟨b,hb,rfl,rfl⟩
 have Ya:∀{b b':Nat},(s.upd b (.map [])) b'=nO→b≠b'∧s b'=nO:=fun{b b'} h=>by
  by_cases e:b'=b
  ·subst e;rw[Zyo]at h;simp at h
  ·rw[Zyn s _ e]at h;exact⟨Ne.symm e,h⟩
 refine Zpa (o1:=⟨sO t,nO,.mkmap⟩) (o2:=⟨sO t2,nO,.mkmap⟩) (fun e s2=>∃b,s b=nO∧e=.d (.map b)∧s2=s.upd b (.map [])) (fun e s2=>∃b,s b=nO∧e=.d (.map b)∧s2=s.upd b (.map [])) rfl (fun ρ' L' os' _ hc=>one hc) (fun e s2 hs2=>?_) (fun ρ' L' os' _ hc=>one hc) (fun e s2 hs2=>?_)
 ·obtain⟨b,hb,rfl,rfl⟩:=hs2
  refine⟨kp1 hthere hb,ZbA (fun e s2=>∃b2,(s.upd b (.map [])) b2=nO∧e=.d (.map b2)∧s2=(s.upd b (.map [])).upd b2 (.map [])) rfl (fun ρ' L' os' _ hc=>one hc) (fun e s2 hs2=>?_)⟩
  obtain⟨b2,hb2,rfl,rfl⟩:=hs2
  obtain⟨e1,e2⟩:=Ya hb2
  refine⟨kp1 there2 hb2,fin hb e2 e1 (fun u=>?_) rfl⟩
  rw[KW,KW]
  by_cases c1:u=t
  ·subst c1;simp[Ne.symm hne]
  ·by_cases c2:u=t2
   ·subst c2;simp[c1]
   ·simp[c1,c2,Ne.symm c1,Ne.symm c2]
 ·obtain⟨b2,hb2,rfl,rfl⟩:=hs2
  refine⟨kp1 hthere hb2,ZbA (fun e s2=>∃b,(s.upd b2 (.map [])) b=nO∧e=.d (.map b)∧s2=(s.upd b2 (.map [])).upd b (.map [])) rfl (fun ρ' L' os' _ hc=>one hc) (fun e s2 hs2=>?_)⟩
  obtain⟨b,hb,rfl,rfl⟩:=hs2
  obtain⟨e1,e2⟩:=Ya hb
  refine⟨kp1 there2 hb,fin e2 hb2 (Ne.symm e1) (fun u=>?_) (St.upd_comm _ _ _ (Ne.symm e1))⟩
  rw[KW,KW]
  by_cases c1:u=t
  ·subst c1;simp
  ·by_cases c2:u=t2
   ·subst c2;simp[c1,Ne.symm c1]
   ·simp[c1,c2,Ne.symm c1,Ne.symm c2]
theorem ZwA(hrest:ZbO C ih rest dk os){f:FuncId}{dst dst2:Option Nat}{g g2:Option (Nat×Bool)}{k k2:K}{fl fl2:List Nat}(h:(ZsI C f rest dst g k fl dst2 g2 k2 fl2).run r ih dk fm ρ σ nx=sO o)(hF:FmR C η fm o F)(hρ:Y5 η [] ρ ρd)(hN:WT η nx)(hS:Sim C η σ s)(hR:K2 η r ρd L B):DOA F nO dk ((⟨dst,g,.fork k⟩,fl)::(⟨dst2,g2,k2⟩,fl2)::os) ρd L s B:=by
 unfold ZsI at h
 split at h<;>(try(simp at h;done))
 split at h<;>(try(simp at h;done))
 split at h
 ·rename_i a n hs1
  split at h<;>(try(simp at h;done))
  rename_i a2 n2 hs2
  split at h<;>(try(simp at h;done))
  obtain⟨hk,hh⟩:=ZR h
  simp only[Zxl]at hk
  split at hk<;>(try(simp at hk;done))
  rename_i b o1 b2 o2 c1 c2 c3 c4
  refine Zvm hrest hs1 hs2 c1 c2 c3 c4 ?_ rfl hh hF hρ hN hS hR
  simp only[Zyu,Bool.not_eq_true',QZ]at hk
  rcases hk with (hk|hk)|hk
  ·exact .inl fun e=>by rw[Yf.2 e]at hk;simp at hk
  ·exact .inr (.inl hk)
  ·exact .inr (.inr hk)
 ·split at h<;>(try(simp at h;done))
  split at h<;>(try(simp at h;done))
  split at h<;>(try(simp at h;done))
  rename_i t
  split at h<;>(try(simp at h;done))
  rename_i t2
  split at h<;>(try(simp at h;done))
  rename_i hc
  simp only[Zyk,Bool.not_eq_true']at hc
  obtain⟨hc1,hne⟩:=hc
  obtain rfl:=Zt1 hc1
  simp only[Zv3]at h
  split at h<;>(try(simp at h;done))
  rename_i x hout
  obtain⟨σ0,l⟩:=x
  obtain⟨hd,hh⟩:=ZR h
  simp only[Zyk]at hd
  exact Zvl hrest (fun e=>by rw[Yf.2 e]at hne;simp at hne) hout hd.1 hd.2 hh hF hρ hN hS hR
theorem Zln(hlib:Zav C)(hih:ZaU C ih){f:FuncId}:∀{os:List (DOp×List Nat)},ZbO C ih (Zh1 C f os) dk os
 | []=>Zwz hih
 | (⟨dst,g,k⟩,fl)::os=>fun r fm ρ σ nx o h F η ρd L s B hF hρ hN hS hR=>by
  unfold Zh1 at h
  split at h
  ·rename_i k1
   split at h
   ·rename_i dst2 g2 k2 fl2 os2
    exact ZwA (Zln hlib hih (f:=f) (os:=os2)) h hF hρ hN hS hR
   ·simp at h
  ·rename_i hnf
   have IH:=Zln hlib hih (f:=f) (os:=os)
   split at h
   ·exact Zt5 hlib hih IH h rfl hF hρ hN hS hR
   ·rename_i g0
    simp only at h
    split at h<;>(try(simp at h;done))
    rename_i b hb
    have hg:=Zod hρ hb
    split at h
    ·exact Zt5 hlib hih IH h hg hF hρ hN hS hR
    ·split at h<;>(try(simp at h;done))
     rename_i hna
     obtain⟨hd,hh⟩:=ZR h
     cases hq:KD k with
     |true =>
      rw[hq,if_pos rfl]at hh
      exact Ztv hg hq (.d (.bool false)) (IH _ _ _ _ _ _ hh F η _ L s _ hF (Zbb hρ WR.skp dst) hN hS (hR.put hd _))
     |false =>
      rw[hq]at hh
      simp only[Zyt,if_false]at hh
      have hp:Kh k=false:=by
       cases k<;>simp[KD]at hq<;>first|rfl|exact absurd rfl (hna _)|exact absurd rfl (hnf _)
      exact Zfk (e:=.d (.bool false)) hg hp (IH _ _ _ _ _ _ hh F η _ L s _ hF (Zbb hρ WR.skp dst) hN hS ((hR.put hd _).next fl))
theorem Zr2(hlib:Zav C)(hih:ZaU C ih):ZlG C ih:=by
 intro f order ops kp fm k ρ σ nx o h hf F η ρd s hF hρ hN hS
 simp only[Zbm]at h
 exact Zep (show DOA F nO k ops ρd [] s [] from Zln hlib hih _ _ _ _ _ _ h F η ρd [] s [] hF hρ hN hS K2.nil)
end
section
variable {P:Program}
theorem ZN.subM{f:FuncId}{args:List D}{Φ Φ':Res→St→Prop}(h:ZN P f args s Φ)(hp:∀r s',Φ r s'→∃s2,St.sub s2 s'∧Φ' r s2):ZN P f args s Φ' :=
 ⟨h.1,fun g w vs hs ha=>(h.2 g w vs hs ha).mono fun _ _ ⟨g',s',r,a,b,c,d⟩=>let ⟨s2,e1,e2⟩:=hp r s' d;⟨g',s2,r,a,b.sub e1,c,e2⟩⟩
def St.emp:St:=fun _=>nO
theorem Zt0(s:St):St.emp.or s=s:=by funext b;simp[St.or,St.emp]
theorem ZlE{f:FuncId}{args:List D}{d:D}(h:ZN P f args St.emp fun r _=>r=.ret d):ZA P f args d:=fun s=>by
 have h1:ZN P f args St.emp fun r s'=>r=.ret d∧s'=St.emp:=h.subM fun r s' hr=>⟨St.emp,fun b o hb=>by simp[St.emp]at hb,hr,rfl⟩
 have hdj:Kz St.emp s:=fun b o _=>rfl
 have h2:=h1.frame hdj
 rw[Zt0]at h2
 refine h2.mono fun r S ⟨s',⟨e1,e2⟩,_,e3⟩=>⟨e1,?_⟩
 rw[e3,e2,Zt0]
end
def nm0:Nm:=fun k=>if k=0 then sO .none else if k=1 then sO .full else nO
theorem Zuo:WT nm0 2:={
 z:=rfl
 o:=rfl
 two:=Zys _
 free k hk:=by simp only[nm0];rw[if_neg (by omega),if_neg (by omega)] }
theorem ZvU(C:Cx)(η:Nm)(s:St):Sim ⟨C,St.emp⟩ η T.nil s:={
 obj k o h:=by simp[T.get_nil]at h
 inj k k' o o' b h:=by simp[T.get_nil]at h
 kp b d h:=by simp[St.emp]at h
 ro k o b h:=by simp[T.get_nil]at h }
section
variable {P:Program}
theorem ZtA{F:Fr P}{dk:List Zu}{o:DOp}(hg:Zy ρ o.guard=sO true){n:FuncId}(hk:o.k=.call (.cst (.fn (.func n) [] [])) xs){p:Prop}{es:List E}(ha:WE ρ true xs=sO (p,es))(hds:QR es=sO ds)(hp:p){fn:Func}(h0:P.funcs[n]?=sO fn)(h1:fn.body=nO)(h2:(fn.name == "runtime.NumGoroutine")=false)(h3:Extern.findNext fn=nO){e:Array Value→Sem Value}(h4:Extern.find fn=sO e){d:D}(he:∀g w vs,Yh (Rep g w) vs ds→∃v,(e vs.toArray).run P w=.ok v w∧Rep g w v d)(h:DO F kp dk os (ZX ρ o.dst (.d d)) L s):DO F kp dk (o::os) ρ L s:=by
 refine Qu fun oo g ν w tmps ops i r k hoo hck hcg hdst hd hN m hr hkk=>?_
 have hw:=WC m hcg hg
 have hnd:=WS hck (by rw[hk];rfl)
 rw[hk]at hck
 obtain⟨f',args,ats,hop,hf',hxs⟩:=ZrJ hck
 have hfr:Rep g w _ _:=Wx (ρ:=ρ) m hf' rfl rfl trivial F.ds
 have hargs:=J0 (Zd3 m rfl F.ds hxs ha hp) hds
 obtain⟨v,hv1,hv2⟩:=he g w _ hargs
 generalize hfv:(Act.mk tmps F.ds).eval f'=fv at hfr
 have hfv':fv=.func (.func n) #[] #[]:=by
  cases hfr with
  |fn _ fs cs _ _ e1 e2 _ _ =>
   obtain rfl:fs=[]:=by simpa using e1
   obtain rfl:cs=[]:=by simpa using e2
   rfl
 subst hfv'
 have hmap:(Array.map (Act.mk tmps F.ds).eval args)=(args.toList.map (Act.mk tmps F.ds).eval).toArray:=by apply Array.ext';simp
 refine Zme (e:=.d d) hN m hoo hdst hd hw hnd ⟨v,?_,hv2⟩ (h ops r k hr hkk)
 have hcall:(callFunc n ((args.toList.map (Act.mk tmps F.ds).eval).toArray++#[])).run P w=.ok (.value v) w:=by
  have h2':¬fn.name = "runtime.NumGoroutine":=by simpa using h2
  simp[callFunc,h0,h2',h1,h3,h4,hv1]
 simp[execOp,hop,resolve,hfv,hmap,Deferred.ofValue,invoke]
 simpa using hcall
def Zp5(c:Nat):List Nat→Int
 | []=>-1
 |b::l=>if Nat.beq (b % 256) (c % 256) then 0 else match Zp5 c l with
  |.ofNat n=>.ofNat (n+1)
  |.negSucc _=>-1
theorem ZrV(c:Nat):∀(l:List Nat),Zp5 c l=Lib.indexByte (l.map UInt8.ofNat) (UInt8.ofNat c)
 | []=>rfl
 |b::l=>by
  have ih:=ZrV c l
  simp only[Zp5,Zyp,Lib.indexByte]
  have hbc:Nat.beq (b % 256) (c % 256)=(UInt8.ofNat b==UInt8.ofNat c):=by
   rw[Bool.eq_iff_iff,Nat.beq_eq,beq_iff_eq]
   constructor
   ·intro h
    apply UInt8.toNat_inj.1
    simpa using h
   ·intro h
    have:=congrArg UInt8.toNat h
    simpa using this
  rw[hbc]
  split
  ·rfl
  ·have hge:=Lib.indexByte_ge (l.map UInt8.ofNat) (UInt8.ofNat c)
   rw[←ih]at hge⊢
   cases hx:Zp5 c l with
   |ofNat n =>
    have:(Int.ofNat n==-1)=false:=by rw[beq_eq_false_iff_ne];simp only[Int.ofNat_eq_natCast,ne_eq];omega
    rw[this];rfl
   |negSucc n =>
    rw[hx]at hge
    have:n=0:=by have e:=Int.negSucc_eq n;omega
    subst this;rfl
theorem Zi2:∀(l:List UInt8) (c:UInt8),Lib.indexByte l c<l.length∨Lib.indexByte l c=-1
 | [],c=>.inr rfl
 |b::l,c=>by
  simp only[Lib.indexByte]
  split
  ·left;simp
  ·split
   ·exact .inr rfl
   ·rename_i h
    rcases Zi2 l c with h1|h1
    ·left;simp;omega
    ·rw[h1]at h;simp at h
def Zxv(n:FuncId):DF:=⟨8,[.tmp 4],.seq (.reg [⟨sO 4,nO,.q .mv [.cst (.int .i64 0)]⟩] nO) (.seq (.reg [⟨sO 5,nO,.q .mv [.tmp 0]⟩,⟨sO 6,nO,.q .mv [.tmp 1]⟩,⟨sO 7,nO,.call (.cst (.fn (.func n) [] [])) [.tmp 5,.tmp 6]⟩,⟨sO 4,nO,.q .mv [.tmp 7]⟩] nO) .ret)⟩
theorem Zp7{an:Ann}{f n:FuncId}(hf:cf P an f=sO (Zxv n)){fn:Func}(h0:P.funcs[n]?=sO fn)(h1:fn.body=nO)(h2:(fn.name == "runtime.NumGoroutine")=false)(h3:Extern.findNext fn=nO)(h4:Extern.find fn=sO Extern.BytealgIndexByte.indexByte)(l:List UInt8)(c:Int):
  ZA P f [.str l,.int .u8 c] (.int .i64 (Lib.indexByte l c.toNat.toUInt8)):=by
 refine ZP hf fun F s hret=>?_
 refine Zi (Ys (Za3 rfl (by repeat(first|trivial|constructor)) (ZiD (Zi (Ys (Za3 rfl (by repeat(first|trivial|constructor)) (Za3 rfl (by repeat(first|trivial|constructor)) (ZtA rfl rfl rfl rfl (by repeat(first|trivial|constructor)) h0 h1 h2 h3 h4 (d:=.int .i64 (Lib.indexByte l c.toNat.toUInt8)) (fun g w vs ha=>?_)
  (Za3 rfl (by repeat(first|trivial|constructor)) (ZiD (hret rfl (by repeat(first|trivial|constructor)) (Zyj _) (Zyi _))))))))))))
 cases ha with
 |cons a1 ha =>
 cases ha with
 |cons a2 ha =>
 cases ha
 cases a1 with
 |str s _ hs hb =>
 cases a2 with
 |int _ _ hc =>
 subst hs
 refine⟨_,Lib.run_indexByteString s c w,.int _ _ ?_⟩
 have h1:=Lib.indexByte_ge s.data.toList c.toNat.toUInt8
 have h2:=Zi2 s.data.toList c.toNat.toUInt8
 simp only[big]at hb
 simp only[inR,IntKind.min,IntKind.max,IntKind.signed,IntKind.bits]
 generalize Lib.indexByte s.data.toList c.toNat.toUInt8=z at h1 h2⊢
 rcases h2 with h2|h2<;>simp<;>omega
end
def ZbE(f:V→V→Bool):List V→List V→Bool
 | [],[]=>true
 |a::x,b::y=>if f a b then ZbE f x y else false
 |_,_=>false
def Zvy(ih:V→V→Bool)(k v:V):Bool:=match k with
 |.int i a=>match v with
  |.int j b=>ZhR i j&&eqI a b
  |_=>false
 |.bool a=>match v with
  |.bool b=>a==b
  |_=>false
 |.str a=>match v with
  |.str b=>eqS a b
  |_=>false
 |.agg a=>match v with
  |.agg b=>ZbE ih a b
  |_=>false
 |.nilsl=>match v with
  |.nilsl=>true
  |_=>false
 |.sl _ m s a=>match v with
  |.sl _ m' s' b=>Nat.beq m m'&&Nat.beq s s'&&ZbE ih a b
  |_=>false
 |.nilptr=>match v with
  |.nilptr=>true
  |_=>false
 |.nilmap=>match v with
  |.nilmap=>true
  |_=>false
 |.niliface=>match v with
  |.niliface=>true
  |_=>false
 |_=>false
def ZhX(n:Nat):V→V→Bool:=Nat.rec (motive:=fun _=>V→V→Bool) (fun _ _=>false) (fun _ ih=>Zvy ih) n
def zV(n:Nat):V→V:=Nat.rec (motive:=fun _=>V→V) (fun k=>k) (fun _ ih k=>match k with
 |.agg a=>.agg (a.map ih)
 |.sl _ m s a=>.sl 0 m s (a.map ih)
 |k=>k) n
theorem Zuh{η η':Nm}:∀(n:Nat) {k v:V} {d:D},ZhX n k v=true→VR η v d→VR η' (zV n k) d
 |0,k,v,d,h,_=>by simp[ZhX]at h
 |n+1,k,v,d,h,hv=>by
  have ih:=fun{k v:V} {d:D}=>Zuh (η:=η) (η':=η') n (k:=k) (v:=v) (d:=d)
  have ihs:∀{a b:List V} {ds:List D},ZbE (ZhX n) a b=true→VRs η b ds→VRs η' (a.map (zV n)) ds:=by
   intro a
   induction a with
   |nil =>
    intro b ds h hb
    cases b with
    |nil=>obtain rfl:=hb.inv0;exact .nil
    |cons _ _=>simp[ZbE]at h
   |cons x a iha =>
    intro b ds h hb
    cases b with
    |nil=>simp[ZbE]at h
    |cons y b =>
     simp only[ZbE]at h
     split at h<;>(try(simp at h;done))
     rename_i hx
     obtain⟨d,ds',rfl,h1,h2⟩:=hb.inv
     exact .cons _ _ _ _ (ih hx h1) (iha h h2)
  have ihr:∀{s:Nat} {a b:List V} {row:Nat→List D},ZbE (ZhX n) a b=true→VRr η s b row→VRr η' s (a.map (zV n)) row∧a.length=b.length:=by
   intro s a
   induction a with
   |nil =>
    intro b row h hb
    cases b with
    |nil=>exact⟨.nil _ _,rfl⟩
    |cons _ _=>simp[ZbE]at h
   |cons x a iha =>
    intro b row h hb
    cases b with
    |nil=>simp[ZbE]at h
    |cons y b =>
     simp only[ZbE]at h
     split at h<;>(try(simp at h;done))
     rename_i hx
     obtain⟨cs,rfl,h1,h2,h3⟩:=hb.inv
     obtain⟨g1,g2⟩:=iha h h3
     have hz:=ih hx (.agg _ _ h1)
     obtain⟨cs',hcs,hl⟩:∃cs',zV n x=.agg cs'∧VRs η' cs' (row 0):=by
      generalize he:zV n x=z at hz
      cases hz with
      |agg cs' _ h=>exact⟨cs',rfl,h⟩
     refine⟨?_,by simp[g2]⟩
     rw[Zyp,hcs]
     exact .cons _ _ _ _ hl (by rw[hl.len,←h1.len,h2]) g1
  have h':Zvy (ZhX n) k v=true:=h
  cases k<;>simp only[Zvy,Zyt]at h'<;>cases hv<;>simp only[Zyt]at h'
  case int =>
   simp only[Zyk,Za7]at h'
   obtain⟨h1,rfl⟩:=h'
   obtain rfl:=ZfC h1
   exact .int _ _
  case bool=>simp only[beq_iff_eq]at h';subst h';exact .bool _
  case str a b =>
   rw[Zl2,decide_eq_true_eq]at h'
   show VR η' (.str a) _
   rw[←h']
   exact .str _
  case agg a b ds hb=>exact .agg _ _ (ihs h' hb)
  case nilsl=>exact .nilsl
  case sl =>
   simp only[Zyk,Yf]at h'
   obtain⟨⟨rfl,rfl⟩,h3⟩:=h'
   obtain⟨g1,g2⟩:=ihr h3 ‹VRr η _ _ _›
   exact .sl _ _ _ _ _ _ g1 (by rw[List.length_map,g2];assumption) (.inl rfl)
  case nilptr=>exact .nilptr
  case nilmap=>exact .nilmap
  case niliface=>exact .niliface
def Zmj:Option Out→Bool
 |some o=>match o.pan with
  |false=>match o.v with
   |.bool b=>b
   |_=>false
  |true=>false
 |none=>false
theorem Zua{x:Option Out}(h:Zmj x=true):∃σ nx,x=sO ⟨false,.bool true,σ,nx⟩:=by
 cases x with
 |none=>simp[Zmj]at h
 |some o =>
  obtain⟨pan,v,σ,nx⟩:=o
  cases pan<;>cases v<;>simp[Zmj]at h
  subst h
  exact⟨σ,nx,rfl⟩
def Zgz(f0:FuncId)(f:FuncId):Option (S→List V→Option V):=match Nat.beq f f0 with
 |true=>sO fun _ vs=>match vs with
  | [.str s,.int k c]=>match k with
   |.u8=>sO (.int .i64 (Zp5 c.toNat s))
   |_=>nO
  |_=>nO
 |false=>nO
theorem ZwE{P:Program}{mu:FuncId→Option Nat→Bool}{f0 n:FuncId}(hf:cf P [] f0=sO (Zxv n)){fn:Func}(h0:P.funcs[n]?=sO fn)(h1:fn.body=nO)(h2:(fn.name == "runtime.NumGoroutine")=false)(h3:Extern.findNext fn=nO)(h4:Extern.find fn=sO Extern.BytealgIndexByte.indexByte)(t:St):Zav ⟨⟨P,Zgz f0,mu⟩,t⟩:=by
 intro f g σ vs v hfg hg η ds s hv hS
 simp only[Zgz]at hfg
 split at hfg<;>simp only[Zyd,reduceCtorEq]at hfg
 rename_i hb
 rw[Yf]at hb
 subst hb;subst hfg
 simp only at hg
 split at hg<;>(try(simp at hg;done))
 split at hg<;>simp only[Zyd,reduceCtorEq]at hg
 subst hg
 obtain⟨d,d',rfl,a1,a2⟩:=hv.inv2
 cases a1
 cases a2
 refine⟨_,.int _ _,?_⟩
 rename_i l c
 rw[ZrV]
 exact Zp7 hf h0 h1 h2 h3 h4 _ _ s
theorem Zw3{C:Cx}(hlib:∀t,Zav ⟨C,t⟩){f:FuncId}{m:Nat}(h:Zmj ((ZjX C f).run (run C m) [] T.nil 2)=true):ZA C.P f [] (.bool true):=by
 obtain⟨σ,nx,h⟩:=Zua h
 refine ZlE ?_
 have hih:=ZmE hlib (fun C' ih he hih=>Zr2 (by subst he;exact hlib _) hih) m St.emp
 refine(Zk6 (C:=⟨C,St.emp⟩) (hlib _) hih h .nil Zuo (ZvU C nm0 St.emp)).mono fun r s hp=>?_
 obtain⟨η',d',k1,k2,k3,k4,k5⟩:=hp
 cases k4
 exact k5
theorem QY.mslo{t:St}{Ln:List Nat}{b o n cap sz:Nat}(hb:b∈Ln)(ht:t b=sO (.cells ds))(hlen:n*sz≤ds.length-o)(hrow:∀i,i<n→LdC t Ln ((ds.drop (o+i*sz)).take sz) (row i)):QY t Ln (.msl b o n cap sz) (.sl .none n sz row):=by
 intro g w v hf hr
 obtain⟨vs,T,hh,hsz,hc,one,hp⟩:=hf b hb ds ht
 cases hr with
 |mslx a _ _ _=>exact .sl0 _ _ _ _ (by simp)
 |msl _ _ _ _ _ hcap hbig =>
 have hin:∀i j,i<n→j<sz→o+i*sz+j<ds.length:=fun i j hi hj=>by
  have:(i+1)*sz≤n*sz:=ZyD _ hi
  rw[ZyI,Nat.one_mul]at this
  omega
 have hget:∀i j,i<n→j<sz→vs[o+i*sz+j]?=sO (vs.getD (o+i*sz+j) undef):=fun i j hi hj=>by
  have h1:=hin i j hi hj
  simp only[Array.getD_eq_getD_getElem?,Array.getElem?_eq_getElem (show o+i*sz+j<vs.size by omega),ZyL]
 have hmem:∀i j,i<n→j<sz→vs.getD (o+i*sz+j) undef∈vs:=fun i j hi hj=>by
  have h1:=hin i j hi hj
  simp only[Array.getD_eq_getD_getElem?,Array.getElem?_eq_getElem (show o+i*sz+j<vs.size by omega),ZyL]
  exact Array.getElem_mem _
 have hrl:∀i,i<n→(row i).length=sz:=fun i hi=>by
  rw[←(hrow i hi).len,Zyw,ZyU]
  have:(i+1)*sz≤n*sz:=ZyD _ hi
  rw[ZyI,Nat.one_mul]at this
  omega
 refine .sl b o n cap sz row .none (fun i j=>vs.getD (o+i*sz+j) undef) hrl (fun i j hi hj=>?_) (fun i j hi hj=>?_) (fun i j d hi hd=>?_) (fun i j hi hj=>one _ (hmem i j hi hj)) trivial hcap hbig
 ·rw[Zc7 hh];exact hget i j hi hj
 ·have:=hin i j hi hj;omega
 ·have hj:j<sz:=by rw[←hrl i hi];exact(List.getElem?_eq_some_iff.1 hd).1
  obtain⟨x,hx,hle⟩:=(hrow i hi).get hd
  rw[ZyO,if_pos hj,List.getElem?_drop]at hx
  exact hle g w _ hf (hc _ _ x (hget i j hi hj) hx)
theorem QY.tup{t:St}{Ln:List Nat}{l l':List D}(h:LdC t Ln l l'):QY t Ln (.tup l) (.tup l'):=by
 intro g w v hf hr
 cases hr with
 |tup vs _ hn hc =>
  refine .tup vs _ (hn.trans h.len) (fun i v d hv hd=>?_)
  obtain⟨x,hx,hle⟩:=h.get hd
  exact hle g w v hf (hc i v x hv hx)
theorem QY.iface{t:St}{Ln:List Nat}{T:TypeId}{d d':D}(h:QY t Ln d d'):QY t Ln (.iface T d) (.iface T d'):=by
 intro g w v hf hr
 cases hr with
 |iface _ v _ hv=>exact .iface T v d' (h g w v hf hv)
theorem QY.sl{t:St}{Ln:List Nat}{τ:Tok}{n sz:Nat}{row row':Nat→List D}(hrow:∀i,i<n→LdC t Ln (row i) (row' i)):QY t Ln (.sl τ n sz row) (.sl .none n sz row'):=by
 intro g w v hf hr
 cases hr with
 |sl0 a _ _ _ _=>exact .sl0 a _ _ _ (by simp)
 |sl b o _ cap _ _ _ f hl hc hp hrr one ht hcap hb =>
  refine .sl b o n cap sz row' .none f (fun i hi=>by rw[←(hrow i hi).len];exact hl i hi) hc hp (fun i j d hi hd=>?_) one trivial hcap hb
  obtain⟨x,hx,hle⟩:=(hrow i hi).get hd
  exact hle g w _ hf (hrr i j x hi hx)
theorem QY.more{t:St}{Ln Ln':List Nat}{d d':D}(h:QY t Ln d d')(hs:∀b∈Ln,b∈Ln'):QY t Ln' d d':=fun g w v hf hr=>h g w v (fun b hb=>hf b (hs b hb)) hr
theorem LdC.more{t:St}{Ln Ln':List Nat}{l l':List D}(h:LdC t Ln l l')(hs:∀b∈Ln,b∈Ln'):LdC t Ln' l l':=by
 induction h with
 |nil=>exact .nil
 |cons h _ ih=>exact .cons (h.more hs) ih
theorem WQ.frz(m:WQ g s w){Ln:List Nat}(hL:∀b∈Ln,∃ds,s b=sO (.cells ds)):WQ (Zct g s Ln) (s.delL Ln) w:=by
 have hx:=Zfz m hL
 have hpe:∀c,c∉Ln→(Zct g s Ln).prot c=g.prot c:=fun c hc=>by simp only[Zct,if_neg hc]
 refine⟨fun c x hx'=>?_,fun c x hx'=>?_,fun c hc=>?_,fun n cs hc=>(m.tabs n cs hc).mono hx⟩
 ·simp only[St.delL]at hx'
  by_cases hc:c∈Ln
  ·simp[hc]at hx'
  ·simp only[hc,if_false]at hx';exact(m.obj c x hx').mono hx rfl (hpe c hc)
 ·simp only[St.delL]at hx'
  by_cases hc:c∈Ln
  ·simp[hc]at hx'
  ·simp only[hc,if_false]at hx';exact m.kept c x hx'
 ·have h1:=m.fresh c hc
  refine⟨(hpe c fun h=>?_).trans h1.1,h1.2⟩
  obtain⟨ds,hd⟩:=hL c h
  have:=(m.obj c _ hd).lt
  omega
theorem ZN.frz{P:Program}{f:FuncId}{args:List D}{d0:D}(h:ZN P f args s Φ)(hp:∀r s',Φ r s'→∃d Ln,r=.ret d∧(∀b∈Ln,∃ds,s' b=sO (.cells ds))∧QY s' Ln d d0):ZN P f args s fun r _=>r=.ret d0:=by
 refine⟨h.1,fun g w vs hs ha=>(h.2 g w vs hs ha).mono fun e w' ⟨g',s',r,hx,hs',hr,hΦ⟩=>?_⟩
 obtain⟨d,Ln,rfl,hL,hle⟩:=hp r s' hΦ
 refine⟨Zct g' s' Ln,s'.delL Ln,.ret d0,hx.trans (Zfz hs' hL),hs'.frz hL,?_,rfl⟩
 cases e with
 |returned v=>exact hle _ w' v (ZrT hs' hL) (Rep.mono hr (Zfz hs' hL))
 |_=>exact hr.elim
def rdL(f:V→Option V):List V→Option (List V)
 | []=>sO []
 |v::l=>match f v with
  |some r=>Za1 r (rdL f l)
  |none=>nO
def ZdF(f:V→Option V)(s:Nat):List V→Option (List V)
 | []=>sO []
 |.agg cs::l=>match Nat.beq cs.length s with
  |true=>match rdL f cs with
   |some r=>Za1 (.agg r) (ZdF f s l)
   |none=>nO
  |false=>nO
 |_::_=>nO
def Zds(s:Nat):Nat→List V→Option (List V)
 |0,_=>sO []
 |n+1,l=>match Zcq s l with
  |some c=>Za1 (.agg c) (Zds s n (ZcP s l))
  |none=>nO
def rd(σ:S):Nat→V→Option V
 |0,_=>nO
 |n+1,v=>match v with
  |.int k a=>sO (.int k a)
  |.bool b=>sO (.bool b)
  |.str s=>sO (.str s)
  |.nilsl=>sO .nilsl
  |.nilptr=>sO .nilptr
  |.nilmap=>sO .nilmap
  |.nilfn=>sO .nilfn
  |.niliface=>sO .niliface
  |.agg cs=>match rdL (rd σ n) cs with
   |some r=>sO (.agg r)
   |none=>nO
  |.tup cs=>match rdL (rd σ n) cs with
   |some r=>sO (.tup r)
   |none=>nO
  |.iface t x=>match rd σ n x with
   |some r=>sO (.iface t r)
   |none=>nO
  |.sl _ m s rs=>match Nat.beq rs.length m with
   |true=>match ZdF (rd σ n) s rs with
    |some r=>sO (.sl 0 m s r)
    |none=>nO
   |false=>nO
  |.msl k o m _ s=>match Zbt (σ.get k) with
   |some vs=>match Zcq (m*s) (ZcP o vs) with
    |some cs=>match Zds s m cs with
     |some rs=>match ZdF (rd σ n) s rs with
      |some r=>sO (.sl 0 m s r)
      |none=>nO
     |none=>nO
    |none=>nO
   |none=>nO
  |_=>nO
def dV:Nat→V→D
 |0,_=>.undef
 |n+1,v=>match v with
  |.int k a=>.int k a
  |.bool b=>.bool b
  |.str s=>.str (s.map UInt8.ofNat)
  |.nilsl=>.nilsl
  |.nilptr=>.nilptr
  |.nilmap=>.nilmap
  |.nilfn=>.nilfn
  |.niliface=>.niliface
  |.agg cs=>.agg (cs.map (dV n))
  |.tup cs=>.tup (cs.map (dV n))
  |.iface t x=>.iface t (dV n x)
  |.sl _ m s rs=>.sl .none m s fun i=>match rs[i]? with
   |some (.agg cs)=>cs.map (dV n)
   |_=>[]
  |_=>.undef
def ZvR(n:Nat)(rs:List V)(i:Nat):List D:=match rs[i]? with
 |some (.agg cs)=>cs.map (dV n)
 |_=>[]
theorem Zr1{f:V→Option V}:∀{vs rs:List V},rdL f vs=sO rs→rs.length=vs.length
 | [],rs,h=>by simp only[rdL,Zyd]at h;subst h;rfl
 |v::vs,rs,h=>by
  simp only[rdL]at h
  split at h<;>(try(simp at h;done))
  obtain⟨q,hq,rfl⟩:=JO h
  simp[Zr1 hq]
theorem ZfP{σ:S}{n:Nat}(ih:∀v r,rd σ n v=sO r→∀η,VR η r (dV n r)):∀{vs rs:List V},rdL (rd σ n) vs=sO rs→∀η,VRs η rs (rs.map (dV n))
 | [],rs,h,η=>by
  simp only[rdL,Zyd]at h
  subst h
  exact .nil
 |v::vs,rs,h,η=>by
  simp only[rdL]at h
  split at h<;>(try(simp at h;done))
  rename_i r hr
  obtain⟨q,hq,rfl⟩:=JO h
  exact .cons _ _ _ _ (ih v r hr η) (ZfP ih hq η)
theorem ZgF{σ:S}{n sz:Nat}(ih:∀v r,rd σ n v=sO r→∀η,VR η r (dV n r)):∀{vs rs:List V},ZdF (rd σ n) sz vs=sO rs→rs.length=vs.length∧∀η,VRr η sz rs (ZvR n rs)
 | [],rs,h=>by
  simp only[ZdF,Zyd]at h
  subst h
  exact⟨rfl,fun _=>.nil _ _⟩
 |v::vs,rs,h=>by
  cases v<;>simp only[ZdF,reduceCtorEq]at h
  rename_i cs
  split at h<;>(try(simp at h;done))
  rename_i hb
  rw[Yf]at hb
  split at h<;>(try(simp at h;done))
  rename_i r hr
  obtain⟨q,hq,rfl⟩:=JO h
  obtain⟨h1,h2⟩:=ZgF ih hq
  exact⟨by simp[h1],fun η=>.cons _ _ _ _ (ZfP ih hr η) (by rw[Zr1 hr,hb]) (h2 η)⟩
theorem ZlS{sz:Nat}:∀{m:Nat} {cs rs:List V},Zds sz m cs=sO rs→rs.length=m
 |0,cs,rs,h=>by simp only[Zds,Zyd]at h;subst h;rfl
 |m+1,cs,rs,h=>by
  simp only[Zds]at h
  split at h<;>(try(simp at h;done))
  obtain⟨q,hq,rfl⟩:=JO h
  simp[ZlS hq]
theorem Zj8{σ:S}:∀(n:Nat) (v r:V),rd σ n v=sO r→∀η,VR η r (dV n r)
 |0,v,r,h=>by simp[rd]at h
 |n+1,v,r,h=>fun η=>by
  have ih:=Zj8 (σ:=σ) n
  cases v<;>simp only[rd,Zyd,reduceCtorEq]at h
  case int=>subst h;exact .int _ _
  case bool=>subst h;exact .bool _
  case str=>subst h;exact .str _
  case nilsl=>subst h;exact .nilsl
  case nilptr=>subst h;exact .nilptr
  case nilmap=>subst h;exact .nilmap
  case nilfn=>subst h;exact .nilfn
  case niliface=>subst h;exact .niliface
  case agg cs =>
   split at h<;>simp only[Zyd,reduceCtorEq]at h
   rename_i q hq
   subst h
   exact .agg _ _ (ZfP ih hq η)
  case tup cs =>
   split at h<;>simp only[Zyd,reduceCtorEq]at h
   rename_i q hq
   subst h
   exact .tup _ _ (ZfP ih hq η)
  case iface t x =>
   split at h<;>simp only[Zyd,reduceCtorEq]at h
   rename_i q hq
   subst h
   exact .iface _ _ _ (ih x q hq η)
  case sl t m sz rs =>
   split at h<;>(try(simp only[reduceCtorEq]at h;done))
   rename_i hb
   rw[Yf]at hb
   split at h<;>simp only[Zyd,reduceCtorEq]at h
   rename_i q hq
   subst h
   obtain⟨h1,h2⟩:=ZgF ih hq
   exact .sl _ _ _ _ _ _ (h2 η) (h1.trans hb) (.inl rfl)
  case msl k o m cap sz =>
   split at h<;>(try(simp only[reduceCtorEq]at h;done))
   split at h<;>(try(simp only[reduceCtorEq]at h;done))
   split at h<;>(try(simp only[reduceCtorEq]at h;done))
   rename_i rs hrs
   split at h<;>simp only[Zyd,reduceCtorEq]at h
   rename_i q hq
   subst h
   obtain⟨h1,h2⟩:=ZgF ih hq
   exact .sl _ _ _ _ _ _ (h2 η) (h1.trans (ZlS hrs)) (.inl rfl)
def Zsl(η:Nm)(σ:S)(s:St)(n:Nat):Prop:=∀v r d,rd σ n v=sO r→VR η v d→∃Ln,(∀b∈Ln,∃ds,s b=sO (.cells ds))∧QY s Ln d (dV n r)
theorem Zhd{η:Nm}{σ:S}{s:St}{n:Nat}(ih:Zsl η σ s n):∀{vs rs:List V} {ds:List D},rdL (rd σ n) vs=sO rs→VRs η vs ds →
  ∃Ln,(∀b∈Ln,∃ds,s b=sO (.cells ds))∧LdC s Ln ds (rs.map (dV n))
 | [],rs,ds,h,hv=>by
  obtain rfl:=hv.inv0
  simp only[rdL,Zyd]at h
  subst h
  exact⟨[],by simp,.nil⟩
 |v::vs,rs,ds,h,hv=>by
  obtain⟨d,ds',rfl,h1,h2⟩:=hv.inv
  simp only[rdL]at h
  split at h<;>(try(simp at h;done))
  rename_i r hr
  obtain⟨q,hq,rfl⟩:=JO h
  obtain⟨L1,a1,a2⟩:=ih v r d hr h1
  obtain⟨L2,b1,b2⟩:=Zhd ih hq h2
  refine⟨L1++L2,fun b hb=>?_,.cons (a2.more fun b hb=>by simp[hb]) (b2.more fun b hb=>by simp[hb])⟩
  rcases List.mem_append.1 hb with hb|hb
  ·exact a1 b hb
  ·exact b1 b hb
theorem Zjg{η:Nm}{σ:S}{s:St}{n sz:Nat}(ih:Zsl η σ s n):∀{vs rs:List V} {row:Nat→List D},ZdF (rd σ n) sz vs=sO rs→VRr η sz vs row →
  ∃Ln,(∀b∈Ln,∃ds,s b=sO (.cells ds))∧∀i,i<vs.length→LdC s Ln (row i) (ZvR n rs i)
 | [],rs,row,h,hv=>⟨[],by simp,by simp⟩
 |v::vs,rs,row,h,hv=>by
  obtain⟨cs,rfl,h1,h2,h3⟩:=hv.inv
  simp only[ZdF]at h
  split at h<;>(try(simp at h;done))
  split at h<;>(try(simp at h;done))
  rename_i r hr
  obtain⟨q,hq,rfl⟩:=JO h
  obtain⟨L1,a1,a2⟩:=Zhd ih hr h1
  obtain⟨L2,b1,b2⟩:=Zjg ih hq h3
  refine⟨L1++L2,fun b hb=>?_,fun i hi=>?_⟩
  ·rcases List.mem_append.1 hb with hb|hb
   ·exact a1 b hb
   ·exact b1 b hb
  ·cases i with
   |zero=>exact a2.more fun b hb=>by simp[hb]
   |succ i =>
    have:=b2 i (by simpa using hi)
    exact LdC.more this fun b hb=>by simp[hb]
theorem Zn0{η:Nm}{sz:Nat}:∀{m:Nat} {cs rs:List V} {ds:List D},Zds sz m cs=sO rs→VRs η cs ds→rs.length=m∧VRr η sz rs fun i=>(ds.drop (i*sz)).take sz
 |0,cs,rs,ds,h,hv=>by
  simp only[Zds,Zyd]at h
  subst h
  exact⟨rfl,.nil _ _⟩
 |m+1,cs,rs,ds,h,hv=>by
  simp only[Zds]at h
  split at h<;>(try(simp at h;done))
  rename_i c hc
  obtain⟨q,hq,rfl⟩:=JO h
  obtain⟨c1,rfl⟩:=Zbv hc
  rw[ZaW]at hq
  obtain⟨d1,d2⟩:=Zn0 hq (hv.drop sz)
  refine⟨by simp[d1],.cons _ _ _ _ (by simpa using hv.take sz) (by simp only[Zyw];omega) ?_⟩
  have e:(fun i=>((ds.drop sz).drop (i*sz)).take sz)=fun i=>(ds.drop ((i+1)*sz)).take sz:=by
   funext i
   rw[List.drop_drop,ZyI,Nat.one_mul,Nat.add_comm]
  rw[e]at d2
  exact d2
theorem Zuy{η:Nm}{σ:S}{n:Nat}(ih:Zsl η σ s n)(hS:Zo8 η σ s){k b o m cap sz:Nat}{cv cs rs q:List V}(hk:η k=sO (.tip b))(hcv:Zbt (σ.get k)=sO cv)(hcs:Zcq (m*sz) (ZcP o cv)=sO cs)(hrs:Zds sz m cs=sO rs)(hq:ZdF (rd σ n) sz rs=sO q):
  ∃Ln,(∀b∈Ln,∃ds,s b=sO (.cells ds))∧QY s Ln (.msl b o m cap sz) (.sl .none m sz (ZvR n q)):=by
 obtain⟨ds,ex,hb,hv⟩:=hS _ _ _ hcv hk
 rw[ZaW]at hcs
 obtain⟨c1,rfl⟩:=Zbv hcs
 obtain⟨e1,e2⟩:=Zn0 hrs ((hv.drop o).take (m*sz))
 obtain⟨L,a1,a2⟩:=Zjg ih hq e2
 have hl:=hv.len
 rw[ZyU,hl]at c1
 refine⟨b::L,fun c hc=>?_,QY.mslo (ds:=ds++ex) (by simp) hb (by rw[Zyr];omega) (fun i hi=>?_)⟩
 ·rcases List.mem_cons.1 hc with rfl|hc
  ·exact⟨_,hb⟩
  ·exact a1 c hc
 ·have h1:=a2 i (by omega)
  have hm:(i+1)*sz≤m*sz:=ZyD _ hi
  rw[ZyI,Nat.one_mul]at hm
  have e:((((ds.drop o).take (m*sz)).drop (i*sz)).take sz)=((ds++ex).drop (o+i*sz)).take sz:=by
   rw[List.drop_take,List.take_take,List.drop_drop,Nat.min_eq_left (by omega),List.drop_append,List.take_append_of_le_length (by rw[ZyU];omega)]
  rw[e]at h1
  exact h1.more fun b hb=>by simp[hb]
theorem Zo5{η:Nm}{σ:S}{s:St}(hS:Zo8 η σ s):∀n,Zsl η σ s n
 |0=>fun v r d h _=>by simp[rd]at h
 |n+1=>fun v r d h hv=>by
  have ih:=Zo5 hS n
  have nn:∀b∈([]:List Nat),∃ds,s b=sO (.cells ds):=by simp
  cases hv<;>simp only[rd,Zyd,reduceCtorEq]at h
  case int=>subst h;exact⟨[],nn,QY.refl _⟩
  case bool=>subst h;exact⟨[],nn,QY.refl _⟩
  case str=>subst h;exact⟨[],nn,QY.refl _⟩
  case nilsl=>subst h;exact⟨[],nn,QY.refl _⟩
  case nilptr=>subst h;exact⟨[],nn,QY.refl _⟩
  case nilmap=>subst h;exact⟨[],nn,QY.refl _⟩
  case nilfn=>subst h;exact⟨[],nn,QY.refl _⟩
  case niliface=>subst h;exact⟨[],nn,QY.refl _⟩
  case agg cs ds hc =>
   split at h<;>simp only[Zyd,reduceCtorEq]at h
   rename_i q hq
   subst h
   obtain⟨L,a1,a2⟩:=Zhd ih hq hc
   exact⟨L,a1,QY.agg a2⟩
  case tup cs ds hc =>
   split at h<;>simp only[Zyd,reduceCtorEq]at h
   rename_i q hq
   subst h
   obtain⟨L,a1,a2⟩:=Zhd ih hq hc
   exact⟨L,a1,QY.tup a2⟩
  case iface t x d hx =>
   split at h<;>simp only[Zyd,reduceCtorEq]at h
   rename_i q hq
   subst h
   obtain⟨L,a1,a2⟩:=ih x q d hq hx
   exact⟨L,a1,QY.iface a2⟩
  case sl t m sz rs τ row hr hn ht =>
   split at h<;>(try(simp only[reduceCtorEq]at h;done))
   split at h<;>simp only[Zyd,reduceCtorEq]at h
   rename_i q hq
   subst h
   obtain⟨L,a1,a2⟩:=Zjg ih hq hr
   exact⟨L,a1,QY.sl (fun i hi=>a2 i (by omega))⟩
  case msl k b o m cap sz hk =>
   split at h<;>(try(simp only[reduceCtorEq]at h;done))
   rename_i cv hcv
   split at h<;>(try(simp only[reduceCtorEq]at h;done))
   rename_i cs hcs
   split at h<;>(try(simp only[reduceCtorEq]at h;done))
   rename_i rs hrs
   split at h<;>simp only[Zyd,reduceCtorEq]at h
   rename_i q hq
   subst h
   exact Zuy ih hS hk hcv hcs hrs hq
  case gsl k b o m cap sz c hk _ _ _ =>
   split at h<;>(try(simp only[reduceCtorEq]at h;done))
   rename_i cv hcv
   split at h<;>(try(simp only[reduceCtorEq]at h;done))
   rename_i cs hcs
   split at h<;>(try(simp only[reduceCtorEq]at h;done))
   rename_i rs hrs
   split at h<;>simp only[Zyd,reduceCtorEq]at h
   rename_i q hq
   subst h
   exact Zuy ih hS hk hcv hcs hrs hq
def ZvO(n:Nat):Option Out→Option V
 |some o=>match o.pan with
  |false=>rd o.σ n o.v
  |true=>nO
 |none=>nO
theorem Znl{η η':Nm}{a:Nat}:∀{ks vs:List V} {ds:List D},ZbE (ZhX a) ks vs=true→VRs η vs ds→VRs η' (ks.map (zV a)) ds
 | [],[],ds,_,hb=>by obtain rfl:=hb.inv0;exact .nil
 | [],_::_,ds,h,_=>by simp[ZbE]at h
 |_::_,[],ds,h,_=>by simp[ZbE]at h
 |x::ks,y::vs,ds,h,hb=>by
  simp only[ZbE]at h
  split at h<;>(try(simp at h;done))
  rename_i hx
  obtain⟨d,ds',rfl,h1,h2⟩:=hb.inv
  exact .cons _ _ _ _ (Zuh a hx h1) (Znl h h2)
structure QX where
 f:FuncId
 a:Nat
 n:Nat
 ks:List V
 r:V
def Qq(P:Program)(k:QX):Prop:=∀(vs:List V) (η:Nm) (ds:List D),ZbE (ZhX k.a) k.ks vs=true→VRs η vs ds→ZA P k.f ds (dV k.n k.r)∧VR η k.r (dV k.n k.r)
theorem Za8{C:Cx}(hlib:∀t,Zav ⟨C,t⟩)(k:QX){m:Nat}(h:ZvO k.n ((ZjX C k.f).run (run C m) (k.ks.map (zV k.a)) T.nil 2)=sO k.r):Qq C.P k:=by
 intro vs η ds hm hv
 cases ho:(ZjX C k.f).run (run C m) (k.ks.map (zV k.a)) T.nil 2 with
 |none=>rw[ho]at h;simp[ZvO]at h
 |some o =>
  rw[ho]at h
  simp only[ZvO]at h
  split at h<;>(try(simp at h;done))
  rename_i hpan
  have hih:=ZmE hlib (fun C' ih he hih=>Zr2 (by subst he;exact hlib _) hih) m St.emp
  have hcall:=Zk6 (C:=⟨C,St.emp⟩) (hlib _) hih ho (Znl hm hv) Zuo (ZvU C nm0 St.emp)
  refine⟨ZlE (hcall.frz fun r s hp=>?_),?_⟩
  ·obtain⟨η',d',k1,k2,k3,k4,k5⟩:=hp
   rw[hpan]at k5
   obtain⟨Ln,a1,a2⟩:=Zo5 (fun _ _ _ h hb=>k3.cells h hb) k.n o.v k.r d' h k4
   exact⟨d',Ln,k5,a1,a2⟩
  ·exact Zj8 k.n o.v k.r h η
def Znz(f:FuncId):List QX→List QX
 | []=>[]
 |k::l=>match Nat.beq f k.f with
  |true=>k::Znz f l
  |false=>Znz f l
def ZhG:List QX→List V→Option V
 | [],_=>nO
 |k::l,vs=>match ZbE (ZhX k.a) k.ks vs with
  |true=>sO k.r
  |false=>ZhG l vs
def ZsG(ih:V→Bool):V→Bool
 |.int _ _=>true
 |.bool _=>true
 |.str _=>true
 |.nilsl=>true
 |.nilptr=>true
 |.nilmap=>true
 |.nilfn=>true
 |.niliface=>true
 |.agg cs=>cs.all ih
 |.tup cs=>cs.all ih
 |_=>false
def Zma(n:Nat):V→Bool:=Nat.rec (motive:=fun _=>V→Bool) (fun _=>false) (fun _ ih=>ZsG ih) n
theorem ZrS{N:Nat→Prop}{m:Nat}:∀(n:Nat) {v:V},Zma n v=true→SC N (dV m v)
 |0,v,h=>by simp[Zma]at h
 |n+1,v,h=>by
  have h':ZsG (Zma n) v=true:=h
  cases m with
  |zero=>exact .undef
  |succ m =>
   have hl:∀{cs:List V},cs.all (Zma n)=true→∀c∈cs.map (dV m),SC N c:=fun{cs} hc c hm=>by
    obtain⟨x,hx,rfl⟩:=List.mem_map.1 hm
    exact ZrS n (List.all_eq_true.1 hc x hx)
   cases v<;>simp only[ZsG,Zyt]at h'<;>simp only[dV]
   case int=>exact .int _ _
   case bool=>exact .bool _
   case str=>exact .str _
   case nilsl=>exact .nilsl
   case nilptr=>exact .nilptr
   case nilmap=>exact .nilmap
   case nilfn=>exact .nilfn
   case niliface=>exact .niliface
   case agg cs=>exact .agg _ (hl h')
   case tup cs=>exact .tup _ (hl h')
def ZhT(f0:FuncId)(K:List QX)(f:FuncId):Option (S→List V→Option V):=match Znz f K with
 | []=>Zgz f0 f
 |k::l=>sO fun σ vs=>match ZhG (k::l) vs with
  |some r=>sO r
  |none=>match rdL (rd σ 40) vs with
   |some ws=>match ZhG (k::l) ws with
    |some r=>noV (Zma 40 r) (sO r)
    |none=>nO
   |none=>nO
theorem ZfU{f:FuncId}:∀{K:List QX} {k:QX},k∈Znz f K→k∈K∧k.f=f
 | [],k,h=>by simp[Znz]at h
 |x::K,k,h=>by
  simp only[Znz]at h
  split at h
  ·rename_i hb
   rw[Yf]at hb
   rcases List.mem_cons.1 h with rfl|h
   ·exact⟨by simp,hb.symm⟩
   ·exact⟨by simp[(ZfU h).1],(ZfU h).2⟩
  ·exact⟨by simp[(ZfU h).1],(ZfU h).2⟩
theorem Zn6{vs:List V}{v:V}:∀{K:List QX},ZhG K vs=sO v→∃k∈K,ZbE (ZhX k.a) k.ks vs=true∧v=k.r
 | [],h=>by simp[ZhG]at h
 |x::K,h=>by
  simp only[ZhG]at h
  split at h
  ·rename_i hm
   simp only[Zyd]at h
   exact⟨x,by simp,hm,h.symm⟩
  ·obtain⟨k,h1,h2⟩:=Zn6 h
   exact⟨k,by simp[h1],h2⟩
theorem Zux{σ:S}{n:Nat}{vs rs:List V}(h:rdL (rd σ n) vs=sO rs)(η:Nm):VRs η rs (rs.map (dV n)):=ZfP (fun v r h η=>Zj8 n v r h η) h η
theorem ZdZ{P:Program}{mu:FuncId→Option Nat→Bool}{f0:FuncId}{K:List QX}(h0:∀t,Zav ⟨⟨P,Zgz f0,mu⟩,t⟩)(hK:∀k∈K,Qq P k)(t:St):Zav ⟨⟨P,ZhT f0 K,mu⟩,t⟩:=by
 intro f g σ vs v hfg hg η ds s hv hS
 simp only[ZhT]at hfg
 split at hfg
 ·exact h0 t f g σ vs v hfg hg η ds s hv hS
 ·rename_i k l hs
  simp only[Zyd]at hfg
  subst hfg
  have key:∀{ws:List V} {v:V},ZhG (k::l) ws=sO v→∃k':QX,f=k'.f∧v=k'.r∧∀(η:Nm) (ds:List D),VRs η ws ds→ZA P k'.f ds (dV k'.n k'.r)∧VR η k'.r (dV k'.n k'.r):=fun{ws v} hk=>by
   obtain⟨k',h1,h2,rfl⟩:=Zn6 hk
   rw[←hs]at h1
   obtain⟨h3,rfl⟩:=ZfU h1
   exact⟨k',rfl,rfl,fun η ds hv=>hK k' h3 ws η ds h2 hv⟩
  simp only at hg
  split at hg
  ·rename_i r hr
   simp only[Zyd]at hg
   subst hg
   obtain⟨k',rfl,rfl,hk⟩:=key hr
   obtain⟨h4,h5⟩:=hk η ds hv
   exact⟨_,h5,h4 s⟩
  ·split at hg<;>(try(simp at hg;done))
   rename_i ws hws
   split at hg<;>(try(simp at hg;done))
   rename_i r hr
   unfold noV at hg
   split at hg<;>simp only[Zyd,reduceCtorEq]at hg
   rename_i hfl
   subst hg
   obtain⟨k',rfl,rfl,hk⟩:=key hr
   obtain⟨Ln,a1,a2⟩:=Zhd (Zo5 hS 40) hws hv
   obtain⟨h4,h5⟩:=hk η _ (Zux hws η)
   refine⟨_,h5,(ZN.lend a1 a2 (h4 _) ?_).mono ?_⟩
   ·rintro r S ⟨rfl,rfl⟩
    exact⟨ZrS 40 hfl,fun b o hb=>by simp at hb⟩
   ·rintro r S ⟨S',⟨rfl,rfl⟩,_,rfl⟩
    exact⟨rfl,rfl⟩
theorem LdC.le0{Ln:List Nat}{l l':List D}(h:LdC St.emp Ln l l'):LeC l l':=by
 induction h with
 |nil=>exact .nil
 |cons h _ ih=>exact .cons (fun g w v hr=>h g w v (fun b _ ds hd=>by simp[St.emp]at hd) hr) ih
theorem Zb7{P:Program}(k:QX)(hc:ZA P k.f (k.ks.map (dV 40)) (dV k.n k.r))(h1:rdL (rd T.nil 40) (k.ks.map (zV k.a))=sO k.ks)(h2:rd T.nil k.n k.r=sO k.r):Qq P k:=by
 intro vs η ds hm hv
 obtain⟨Ln,_,a2⟩:=Zhd (s:=St.emp) (Zo5 (fun _ _ _ h hb=>(ZvU ⟨P,fun _=>nO,fun _ _=>false⟩ nm0 St.emp).cells h hb) 40) h1 (Znl (η':=nm0) hm hv)
 exact⟨hc.leA a2.le0,Zj8 k.n k.r k.r h2 η⟩
end Go.DL
namespace Go.DL
open Go
variable {kp:Option (List Nat)}{L:Loc}{ρ:Env}{s:St}{w:World}{os:List DOp}{ds:List D}{B:List (Nat × Rd)}{dst:Option Nat}{tmps:Array Value}{g:G}{Φ:Res→St→Prop}{ν:Nat→Nat}{xs:List Opd}{side:Prop}{row:Nat→List D}{vs:List V}
def Zqt:List Int:=[1,10,100,1000,10000,100000,1000000,10000000,100000000,1000000000,10000000000,100000000000,1000000000000,10000000000000,100000000000000,1000000000000000,10000000000000000,100000000000000000,1000000000000000000,10000000000000000000]
instance theTabs:Zpk:=⟨fun n=>match Nat.beq n 3 with
 |true=>sO (Zqt.map fun z=>.int .u64 z)
 |false=>nO⟩
open Go.Proofs
def Yl.r0:=[qB 2 0,qb 4 false]
def Yl.r1:=qQ 6 [wL 3 2,wf 5 [.tmp 7],vk .not]
def Yl.r2:=[qf 10 6 [],qm 4 10]
def Yl.r3:=[qL 11 3 2,qf 12 7 [.tmp 11],qm 5 12]
def Yl.r4:=[qL 13 3 2,qf 14 8 [.tmp 13],qm 6 14]
def Yl.r5:=[qu (qm 15 6),qu (qm 16 5),qu (qm 17 1),qu (qf 18 9 [.tmp 15,.tmp 16,.tmp 17]),qu (qm 19 18),qu (qy 19 (qm 20 6)),qu (qy 19 (qm 21 5)),qu (qy 19 (qf 22 9 [.tmp 20,.tmp 21,.cst (.int .i64 9999)])),qu (qO 23 19 22),qu (qm 24 23),qu (qy 24 (qL 25 3 2)),qu (qy 24 (qL 27 3 2)),(qy 24 (qf 26 10 [.tmp 25]),[27]),qu (qy 24 (qf 28 11 [.tmp 27])),qu (qy 24 (qm 29 28)),qu (qy 29 (qm 30 5)),qu (qy 29 (qk 31 .lenL 30)),qu (qy 29 (qe 32 .eql 31 0)),qu (qy 24 (qO 33 29 32)),qu (qy 24 ⟨sO 34,nO,.q (.bin .eql (sO .bool)) [.tmp 26,.tmp 33]⟩),qu (qO 35 24 34),qu (qm 36 35),qu (qy 36 (qf 37 6 [])),qu (qO 38 36 37),qu (qm 4 38)]
abbrev Yl.id:Nat:=3
def Yl.an:Ann:=[(0,[1,2]),(1,[1,2,9]),(2,[4]),(3,[1,2,5]),(4,[1,2,5,6]),(5,[4]),(1000005,[0,1,2,3,4,5,6,7,8,9,10,12,11,13,14,15,16,17,18,19,20,21,22,23,24]),(15000005,[27])]
def Yl.body:DC:=.seq (qR Yl.r0 [1,2]) (.seq (.seq (qR Yl.r1 [1,2,9]) (qC 9 (.seq (qR Yl.r2 [4]) .ret) .skip)) (.seq (qR Yl.r3 [1,2,5]) (.seq (qR Yl.r4 [1,2,5,6]) (.seq (.regD [0,1,2,3,4,5,6,7,8,9,10,12,11,13,14,15,16,17,18,19,20,21,22,23,24] Yl.r5 (sO [4])) .ret))))
def Yl.df:DF:=⟨39,[.tmp 4],Yl.body⟩
theorem Yl.ok:kO Zyg Yl.an Yl.id Yl.df:=by unfold kO;kernel_rfl
def Zx.r0:=[qB 1 0,qb 2 false]
def Zx.r1:=qQ 9 [wa 1 1,vl,vk .lenL,ve .gtr 8,vm,wn 14 (wa 0 1),wn 14 vl,wn 14 (vk .lenS),wn 14 (ve .gtr 100),vo 14,vm,wn 20 (wa 2 1),wn 20 vl,wn 20 (vk .lenS),wn 20 (ve .gtr 100),vo 20]
def Zx.r2:=[qb 2 false]
def Zx.r3:=[qi 3 0]
def Zx.r4:=qQ 25 [wm 3,wa 1 1,vl,vk .lenL,vd .lss 26]
def Zx.r6:=qQ 32 [wa 1 1,vl,wm 3,vX 2 34,vL 2]++[qA 4 [.str [],.nilsl],qS 2 4 37]
def Zx.r7:=qQ 37 [wa 1 4,vl,vk .lenL,ve .gtr 16,vm,wn 42 (wa 0 4),wn 42 vl,wn 42 (vk .lenS),wn 42 (ve .gtr 100),vo 42]
def Zx.r8:=[qb 2 false]
def Zx.r9:=[qi 5 0]
def Zx.r10:=qQ 47 [wm 5,wa 1 4,vl,vk .lenL,vd .lss 48]
def Zx.r12:=qQ 54 [wa 1 4,vl,wm 5,vX 15 56,vL 15]++[qA 6 zF,qS 15 6 59]
def Zx.r13:=qQ 59 [wa 0 6,vl,vk .lenS,ve .gtr 100,vm,wn 64 (wa 12 6),wn 64 vl,wn 64 (vk .lenL),wn 64 (ve .gtr 10),vo 64,vm,wn 70 (wa 7 6),wn 70 (va 1),wn 70 vl,wn 70 (vk .lenL),wn 70 (ve .gtr 6),vo 70,vm,wn 77 (wa 7 6),wn 77 (va 0),wn 77 vl,wn 77 (ve .gtr 100),vo 77,vm,wn 83 (wa 1 6),wn 83 vl,wn 83 (ve .eql 5),wn 83 vm,wn 87 (wa 1 6),wn 87 vl,wn 87 (ve .eql 6),wn 83 (vo 87),wn 83 vm,wy 92 (wa 6 6),wy 92 vl,wy 92 (ve .gtr 100),wn 83 (vO 92),vo 83]
def Zx.r14:=[qb 2 false]
def Zx.r15:=[qi 7 0]
def Zx.r16:=qQ 97 [wm 7,wa 7 6,va 1,vl,vk .lenL,vd .lss 98]
def Zx.r18:=qQ 106 [wL 2 4,wa 7 6,va 1,vl,wm 7,vX 2 110,va 0,vl,wf 15 [.tmp 107,.tmp 114]]++[qm 106 115,qx 116 0 106,qx 117 1 106,qm 8 116,qm 9 117]
def Zx.r19:=qQ 117 [wm 9,vm,wy 119 (wa 7 6),wy 119 (va 1),wy 119 vl,wy 119 (wm 7),wy 119 (vX 2 122),wy 119 (va 1),wy 119 vl,wy 119 (ve .gtr 4),wy 119 vm,wn 128 (wa 1 4),wn 128 vl,wn 128 (wm 8),wn 128 (vX 15 130),wn 128 (va 5),wn 128 vl,wn 128 (wa 1 4),wn 128 vl,wn 128 (wm 8),wn 128 (vX 15 136),wn 128 (va 6),wn 128 vl]++[qn 128 ⟨sO 141,nO,.q .max [.tmp 134,.tmp 140]⟩]++qQ 141 [wn 128 (ve .gtr 300),wy 119 (vo 128),vO 119]
def Zx.r20:=[qb 2 false]
def Zx.r17:=[qm 104 7,qe 105 .add 104 1,qm 7 105]
def Zx.l2:DC:=.seq (.seq (qR Zx.r16 [1,3,4,5,6,7,103]) (qC 103 .skip (.exit 4))) (.seq (.block 5 (.seq (.regD [0,1,2,3,4,5,6,7,8,9,10,11,12,13] (Jo Zx.r18) (sO [1,3,4,5,6,7,8,9])) (.seq (.regD [0,1,2,3,4,5,6,7,8,9,10,11,12,13,14,15,16,17,18,19,20,21,22,23,24,25,26] (Jo Zx.r19) (sO [1,3,4,5,6,7,144])) (qC 144 (.seq (qR Zx.r20 [2]) .ret) .skip)))) (qR Zx.r17 [1,3,4,5,6,7]))
def Zx.r11:=[qm 53 5,qe 54 .add 53 1,qm 5 54]
def Zx.l1:DC:=.seq (.seq (qR Zx.r10 [1,3,4,5,52]) (qC 52 .skip (.exit 2))) (.seq (.block 3 (.seq (qR Zx.r12 [1,3,4,5,6]) (.seq (.seq (qR Zx.r13 [1,3,4,5,6,97]) (qC 97 (.seq (qR Zx.r14 [2]) .ret) .skip)) (.seq (qR Zx.r15 [1,3,4,5,6,7]) (.block 4 (.loop Zx.l2)))))) (qR Zx.r11 [1,3,4,5]))
def Zx.r5:=[qm 31 3,qe 32 .add 31 1,qm 3 32]
def Zx.l0:DC:=.seq (.seq (qR Zx.r4 [1,3,30]) (qC 30 .skip (.exit 0))) (.seq (.block 1 (.seq (qR Zx.r6 [1,3,4]) (.seq (.seq (qR Zx.r7 [1,3,4,47]) (qC 47 (.seq (qR Zx.r8 [2]) .ret) .skip)) (.seq (qR Zx.r9 [1,3,4,5]) (.block 2 (.loop Zx.l1)))))) (qR Zx.r5 [1,3]))
def Zx.r21:=[qb 2 true]
abbrev Zx.id:Nat:=5
def Zx.an:Ann:=[(0,[1]),(1,[1,25]),(2,[2]),(3,[1,3]),(4,[1,3,30]),(5,[1,3]),(6,[1,3,4]),(7,[1,3,4,47]),(8,[2]),(9,[1,3,4,5]),(10,[1,3,4,5,52]),(11,[1,3,4,5]),(12,[1,3,4,5,6]),(13,[1,3,4,5,6,97]),(14,[2]),(15,[1,3,4,5,6,7]),(16,[1,3,4,5,6,7,103]),(17,[1,3,4,5,6,7]),(18,[1,3,4,5,6,7,8,9]),(19,[1,3,4,5,6,7,144]),(20,[2]),(21,[2]),(1000018,[0,1,2,3,4,5,6,7,8,9,10,11,12,13]),(1000019,[0,1,2,3,4,5,6,7,8,9,10,11,12,13,14,15,16,17,18,19,20,21,22,23,24,25,26])]
def Zx.body:DC:=.seq (qR Zx.r0 [1]) (.seq (.seq (qR Zx.r1 [1,25]) (qC 25 (.seq (qR Zx.r2 [2]) .ret) .skip)) (.seq (.seq (qR Zx.r3 [1,3]) (.block 0 (.loop Zx.l0))) (.seq (qR Zx.r21 [2]) .ret)))
def Zx.df:DF:=⟨145,[.tmp 2],Zx.body⟩
theorem Zx.ok:kO Zyg Zx.an Zx.id Zx.df:=by unfold kO;kernel_rfl
def ZE.r0:List DOp:=[qB 1 0,⟨sO 2,nO,.q .mv [.cst (.nilsl)]⟩]
def ZE.r1:=qQ 9 [wL 3 1,wf 21 [.tmp 10],vk .not]
def ZE.r2:List DOp:=[⟨sO 2,nO,.q .mv [.cst (.nilsl)]⟩]
def ZE.r3:List DOp:=[⟨sO 3,nO,.q .mv [.cst (.nilsl)]⟩]
def ZE.r4:=[qL 13 3 1,qf 14 14 [.tmp 13],qm 4 14]
def ZE.r5:=[qi 5 0]
def ZE.r6:=qQ 14 [wm 5,wa 1 1,vl,vk .lenL,vd .lss 15]
def ZE.r8:=[qi 6 0]
def ZE.r9:=qQ 21 [wm 4,wm 5,vX 1 22,vl,vm,wy 26 (wm 6),wy 26 (wa 1 1),wy 26 vl,wy 26 (wm 5),wy 26 (vX 2 29),wy 26 (va 1),wy 26 vl,wy 26 (vk .lenL),wy 26 (vd .lss 27),vO 26]
def ZE.r11:=qQ 38 [wa 1 1,vl,wm 5,vX 2 40,va 1,vl,wm 6,vX 15 44,vL 15]++[qA 7 zF,qS 15 7 47]
def ZE.r12:=qQ 48 [wa 1 1,vl,wm 5,vX 2 50,vL 2,wL 15 7,wf 22 [.tmp 53,.tmp 54]]++[qm 48 55,qx 56 0 48,qx 57 1 48,qm 8 56,qm 9 57]
def ZE.r13:=qQ 57 [wa 4 7,vl,vm,wy 60 (wa 1 7),wy 60 vl,wy 60 (ve .eql 3),wy 60 vm,wy 64 (wm 8),wy 64 (ve .lss 268435456),wy 60 (vO 64),wy 60 vm,wn 68 (wa 1 7),wn 68 vl,wn 68 (ve .eql 6),wn 68 vm,wy 72 (wa 6 7),wy 72 vl,wy 72 (ve .geq 7),wn 68 (vO 72),wy 60 (vo 68),vO 60]
def ZE.r14:List DOp:=qQ 78 [wm 3,wm 5,wm 6]++[⟨sO 82,nO,.q (.build [.int .i64 0,.int .i64 0] [(0,1),(1,1)]) [.tmp 80,.tmp 81]⟩,⟨sO 83,nO,.bsl 1 2 [.int .i64 0,.int .i64 0] [0] [.tmp 82]⟩,⟨sO 84,nO,.append 63 2 16 [.int .i64 0,.int .i64 0] (.tmp 79) (.tmp 83)⟩,qm 3 84]
def ZE.r10:=[qm 37 6,qe 38 .add 37 1,qm 6 38]
def ZE.l1:DC:=.seq (.seq (qR ZE.r9 [1,3,4,5,6,36]) (qC 36 .skip (.exit 2))) (.seq (.block 3 (.seq (qR ZE.r11 [1,3,4,5,6,7]) (.seq (.regD [0,1,2,3,4,5,6,7,8,9,10,11] (Jo ZE.r12) (sO [1,3,4,5,6,7,8])) (.seq (qR ZE.r13 [1,3,4,5,6,78]) (qC 78 (qR ZE.r14 [1,3,4,5,6]) .skip))))) (qR ZE.r10 [1,3,4,5,6]))
def ZE.r7:=[qm 20 5,qe 21 .add 20 1,qm 5 21]
def ZE.l0:DC:=.seq (.seq (qR ZE.r6 [1,3,4,5,19]) (qC 19 .skip (.exit 0))) (.seq (.block 1 (.seq (qR ZE.r8 [1,3,4,5,6]) (.block 2 (.loop ZE.l1)))) (qR ZE.r7 [1,3,4,5]))
def ZE.r15:=[qm 85 3,qm 2 85]
abbrev ZE.id:Nat:=7
def ZE.an:Ann:=[(0,[1]),(1,[1,12]),(2,[2]),(3,[1,3]),(4,[1,3,4]),(5,[1,3,4,5]),(6,[1,3,4,5,19]),(7,[1,3,4,5]),(8,[1,3,4,5,6]),(9,[1,3,4,5,6,36]),(10,[1,3,4,5,6]),(11,[1,3,4,5,6,7]),(12,[1,3,4,5,6,7,8]),(13,[1,3,4,5,6,78]),(14,[1,3,4,5,6]),(15,[2]),(1000012,[0,1,2,3,4,5,6,7,8,9,10,11])]
def ZE.body:DC:=.seq (qR ZE.r0 [1]) (.seq (.seq (qR ZE.r1 [1,12]) (qC 12 (.seq (qR ZE.r2 [2]) .ret) .skip)) (.seq (qR ZE.r3 [1,3]) (.seq (qR ZE.r4 [1,3,4]) (.seq (.seq (qR ZE.r5 [1,3,4,5]) (.block 0 (.loop ZE.l0))) (.seq (qR ZE.r15 [2]) .ret)))))
def ZE.df:DF:=⟨86,[.tmp 2],ZE.body⟩
theorem ZE.ok:kO Zyg ZE.an ZE.id ZE.df:=by unfold kO;kernel_rfl
def Zk.r0:List DOp:=[qB 1 0,⟨sO 2,nO,.q .mv [.cst (.nilfn)]⟩]
def Zk.r1:=[qA 3 [.nilsl]]
def Zk.r2:=[qL 10 3 1,qf 11 11 [.tmp 10]]
def Zk.r3:=[qL 12 3 1,qf 13 23 [.tmp 12],qm 4 13]
def Zk.r4:=qQ 13 [wa 1 1,vl,vk .lenL,wi 0]
def Zk.r5:=[qd 18 .lss 17 16]
def Zk.r6:=qQ 18 [wm 17,wX 2 15 17,vL 2]++[qA 6 [.str [],.nilsl],qm 5 19,qS 2 6 21]
def Zk.r7:=qQ 21 [wa 1 6,vl,vk .lenL,wi 0]
def Zk.r8:=[qd 26 .lss 25 24]
def Zk.r9:=qQ 26 [wm 25,wX 15 23 25,vL 15]++[qA 8 zF,qm 7 27,qS 15 8 29]
def Zk.r10:=qQ 29 [wa 1 8,vl,ve .eql 6,vm,wy 33 (wa 6 8),wy 33 vl,wy 33 (ve .geq 7),vO 33,vm,wn 38 (wa 1 8),wn 38 vl,wn 38 (ve .eql 3),wn 38 vm,wy 42 (wL 2 6),wy 42 (wL 15 8),wy 42 (wf 24 [.tmp 43,.tmp 44]),wy 42 (vk (.fld1 0)),wy 42 (ve .lss 268435456),wn 38 (vO 42),vo 38]++[qm 9 49]
def Zk.r11:List DOp:=qQ 49 [wm 4,wa 0 6,vl]++[⟨sO 53,nO,.q (.lookup (.sc .str) (.bool false) false) [.tmp 50,.tmp 52]⟩]++qQ 53 [vm,wy 54 (wa 4 8),wy 54 vl,vO 54,vm,wy 58 (wm 9),vO 58]
def Zk.r12:List DOp:=qQ 60 [wl 3,wm 5,wm 7]++[⟨sO 64,nO,.q (.build [.int .i64 0,.int .i64 0] [(0,1),(1,1)]) [.tmp 62,.tmp 63]⟩,⟨sO 65,nO,.bsl 1 2 [.int .i64 0,.int .i64 0] [0] [.tmp 64]⟩,⟨sO 66,nO,.append 63 2 16 [.int .i64 0,.int .i64 0] (.tmp 61) (.tmp 65)⟩,qs 3 66]
def Zk.r13:=[qe 67 .add 25 1,qm 25 67]
def Zk.l1:DC:=.seq (qR Zk.r8 [3,4,5,6,15,16,17,23,24,25,26]) (.seq (qC 26 .skip (.exit 2)) (.seq (.block 3 (.seq (qR Zk.r9 [3,4,5,6,7,8,15,16,17,23,24,25]) (.seq (qR Zk.r10 [3,4,5,6,7,8,9,15,16,17,23,24,25]) (.seq (qR Zk.r11 [3,4,5,6,7,15,16,17,23,24,25,60]) (qC 60 (qR Zk.r12 [3,4,5,6,15,16,17,23,24,25]) .skip))))) (qR Zk.r13 [3,4,5,6,15,16,17,23,24,25])))
def Zk.r14:=[qe 68 .add 17 1,qm 17 68]
def Zk.l0:DC:=.seq (qR Zk.r5 [3,4,15,16,17,18]) (.seq (qC 18 .skip (.exit 0)) (.seq (.block 1 (.seq (qR Zk.r6 [3,4,5,6,15,16,17]) (.seq (qR Zk.r7 [3,4,5,6,15,16,17,23,24,25]) (.block 2 (.loop Zk.l1))))) (qR Zk.r14 [3,4,15,16,17])))
def Zk.r15:List DOp:=[⟨sO 69,nO,.q (.mkfn (.func 25) 0) [.tmp 3]⟩,qm 2 69]
abbrev Zk.id:Nat:=8
def Zk.body:DC:=.seq (qR Zk.r0 [1]) (.seq (qR Zk.r1 [1,3]) (.seq (.seq (qR Zk.r2 [1,3,11]) (qC 11 (.seq (qR Zk.r3 [1,3,4]) (.seq (qR Zk.r4 [3,4,15,16,17]) (.block 0 (.loop Zk.l0)))) .skip)) (.seq (qR Zk.r15 [2]) .ret)))
def Zk.an:=kA Zk.body (Zyl 16)
def Zk.df:DF:=⟨70,[.tmp 2],Zk.body⟩
theorem Zk.ok:kO Zyg Zk.an Zk.id Zk.df:=by unfold kO;kernel_rfl
def Z6.r0:=qQ 3 [wB 1,wB 2,wA [.bool false]]
def Z6.r1:List DOp:=[qm 10 0,⟨sO 11,nO,.q (.bin .eql (sO .fn)) [.tmp 10,.cst (.nilfn)]⟩]
def Z6.r2:List DOp:=[⟨nO,nO,.store1 (.tmp 6) (.cst (.bool false))⟩]
def Z6.r3:List DOp:=[qA 7 [.int .i64 0],⟨nO,nO,.store1 (.tmp 7) (.cst (.int .i64 0))⟩]
def Z6.r4:=[qm 12 0]
def Z6.r5:=[qm 8 13]
def Z6.r6:=[qm 9 14]
def Z6.r7:=qQ 14 [wl 7,wl 4,vk .lenL,vd .geq 15,vm,wn 19 (wl 4),wn 19 (wl 7),wn 19 (vX 2 20),wn 19 (vL 2),wn 19 (wm 8),wn 19 (wm 9)]++[qn 19 ⟨sO 26,nO,.q (.build [.int .i64 0,.int .i64 0] [(0,1),(1,1)]) [.tmp 24,.tmp 25]⟩,qn 19 ⟨sO 27,nO,.q (.bin .neq (sO (.cells [(0,.int),(1,.int)]))) [.tmp 23,.tmp 26]⟩,qo 28 19 27]
def Z6.r8:List DOp:=[⟨nO,nO,.store1 (.tmp 6) (.cst (.bool false))⟩]
def Z6.r9:=[ql 29 7,qe 30 .add 29 1,qs 7 30]
def Z6.r10:=qQ 30 [wl 7,wl 5,vd .geq 31]
def Z6.a0:DC:=.seq (qR Z6.r5 [4,5,6,7,8,13,14]) (qR Z6.r6 [4,5,6,7,8,9,13,14])
def Z6.b0:DC:=.block 1 (.seq (.seq (qR Z6.r7 [4,5,6,7,13,14,28]) (qC 28 (.seq (qR Z6.r8 [6]) .ret) .skip)) (.seq (qR Z6.r9 [4,5,6,7,13,14]) (.seq (qR Z6.r10 [4,5,6,7,13,14,33]) (qC 33 (.exit 0) .skip))))
def Z6.r11:List DOp:=qQ 33 [wl 7,wl 4,vk .lenL,wl 5]++[⟨sO 38,nO,.q .max [.cst (.int .i64 1),.tmp 37]⟩,⟨sO 39,nO,.q .min [.tmp 36,.tmp 38]⟩,qd 40 .eql 34 39,qs 6 40]
abbrev Z6.id:Nat:=9
def Z6.body:DC:=.seq (qR Z6.r0 [0,4,5,6,13,14]) (.seq (.seq (qR Z6.r1 [0,4,5,6,11,13,14]) (qC 11 (.seq (qR Z6.r2 [6]) .ret) .skip)) (.seq (qR Z6.r3 [0,4,5,6,7,13,14]) (.seq (.seq (qR Z6.r4 [4,5,6,7,12,13,14]) (.block 0 (.rangeF (.tmp 12) [13,14] Z6.a0 Z6.b0))) (.seq (qR Z6.r11 [6]) .ret))))
def Z6.an:=kA Z6.body (Zyl 12)
def Z6.df:DF:=⟨41,[.cell1 6],Z6.body⟩
theorem Z6.ok:kO Zyg Z6.an Z6.id Z6.df:=by unfold kO;kernel_rfl
def YA.r0:=[qB 1 0,qA 2 [.bool false]]
def YA.r1:=[qL 3 3 1,qf 4 8 [.tmp 3]]
def YA.r2:List DOp:=[⟨nO,nO,.store1 (.tmp 2) (.cst (.bool false))⟩]
def YA.a0:DC:=.skip
def YA.b0:DC:=.block 1 (.seq (qR YA.r2 [2]) .ret)
def YA.r3:=[qL 7 3 1,qf 8 11 [.tmp 7],qs 2 8]
abbrev YA.id:Nat:=10
def YA.body:DC:=.seq (qR YA.r0 [1,2]) (.seq (.seq (qR YA.r1 [1,2,4]) (.block 0 (.rangeF (.tmp 4) [5,6] YA.a0 YA.b0))) (.seq (qR YA.r3 [2]) .ret))
def YA.an:=kA YA.body (Zyl 4)
def YA.df:DF:=⟨9,[.cell1 2],YA.body⟩
theorem YA.ok:kO Zyg YA.an YA.id YA.df:=by unfold kO;kernel_rfl
def WM.r0:=[qB 1 0,qb 2 false]
def WM.r1:=[qL 6 3 1,qf 7 26 [.tmp 6],qm 5 7,qx 8 0 5,qx 9 1 5,qA 3 [.int .i64 0,.int .i64 0,.int .i64 0],qS 3 3 8,qm 4 9]
def WM.r2:=[qm 10 4,qk 11 .not 10,qm 2 11]
abbrev WM.id:Nat:=11
def WM.body:DC:=.seq (qR WM.r0 [1]) (.seq (qR WM.r1 [4]) (.seq (qR WM.r2 [2]) .ret))
def WM.an:=kA WM.body (Zyl 3)
def WM.df:DF:=⟨12,[.tmp 2],WM.body⟩
theorem WM.ok:kO Zyg WM.an WM.id WM.df:=by unfold kO;kernel_rfl
def K7.r0:=qQ 1 [wB 0,wB 1,wi 0]++[qb 5 false]
def K7.r1:List DOp:=[qa 6 1 2,ql 7 6,⟨sO 8,nO,.q (.mkfn (.func 28) 0) [.tmp 3]⟩]++qQ 8 [wf 27 [.tmp 7,.tmp 8],wx 0 9,wx 1 9]++[qm 4 10,qm 5 11]
abbrev K7.id:Nat:=13
def K7.body:DC:=.seq (qR K7.r0 [2,3]) (.seq (qR K7.r1 [4,5]) .ret)
def K7.an:=kA K7.body (Zyl 2)
def K7.df:DF:=⟨12,[.tmp 4,.tmp 5],K7.body⟩
theorem K7.ok:kO Zyg K7.an K7.id K7.df:=by unfold kO;kernel_rfl
def ZV.r0:List DOp:=[qB 1 0,⟨sO 2,nO,.q .mv [.cst (.nilsl)]⟩]
def ZV.r1:List DOp:=qQ 8 [wa 1 1,vl,vk .lenL]++[⟨sO 12,nO,.mkslice 4 1 1 [.bool false] (.tmp 11) (.tmp 11)⟩,qm 3 12]
def ZV.r2:List DOp:=qQ 12 [wm 3,wL 3 1,wa 2 1,vl,wa 1 1,vl,vk .lenL,wf 29 [.tmp 14,.tmp 16,.tmp 19],vX 1 13]++[⟨nO,nO,.store1 (.tmp 21) (.cst (.bool true))⟩]
def ZV.r3:=qQ 21 [wa 1 1,vl,vk .lenL,ve .sub 1]++[qm 4 25]
def ZV.r4:=[qm 26 4,qe 27 .geq 26 0]
def ZV.r6:=qQ 29 [wa 1 1,vl,wm 4,vX 2 31,vL 2]++[qA 5 [.str [],.nilsl],qS 2 5 34]
def ZV.r7:=[qi 6 0]
def ZV.r8:=qQ 34 [wm 3,wm 4,vX 1 35,vl,vm,wy 39 (wm 6),wy 39 (wa 1 5),wy 39 vl,wy 39 (vk .lenL),wy 39 (vd .lss 40),vO 39]
def ZV.r10:=qQ 47 [wa 1 5,vl,wm 6,vX 15 49,vL 15]++[qA 7 zF,qS 15 7 52]
def ZV.r11:=[qi 8 0]
def ZV.r12:=qQ 52 [wm 8,wa 12 7,vl,vk .lenL,vd .lss 53]
def ZV.r14:List DOp:=qQ 59 [wm 3,wL 3 1,wa 12 7,vl,wm 8,vX 3 63,va 2,vl,wa 1 1,vl,vk .lenL,wf 29 [.tmp 61,.tmp 67,.tmp 70],vX 1 60]++[⟨nO,nO,.store1 (.tmp 72) (.cst (.bool true))⟩]
def ZV.r13:=[qm 58 8,qe 59 .add 58 1,qm 8 59]
def ZV.l2:DC:=.seq (.seq (qR ZV.r12 [1,3,4,5,6,7,8,57]) (qC 57 .skip (.exit 4))) (.seq (.block 5 (.regD [0,1,2,3,4,5,6,7,8,9,10,11,12,13] (Jo ZV.r14) (sO [1,3,4,5,6,7,8]))) (qR ZV.r13 [1,3,4,5,6,7,8]))
def ZV.r15:=qQ 72 [wa 1 7,vl,ve .eql 8,vm,wn 76 (wa 1 7),wn 76 vl,wn 76 (ve .eql 12),vo 76,vm,wn 81 (wa 1 7),wn 81 vl,wn 81 (ve .eql 7),wn 81 vm,wy 85 (wL 2 5),wy 85 (wa 7 7),wy 85 (vL 2),wy 85 (wf 30 [.tmp 86,.tmp 88]),wy 85 (ve .gtr 0),wn 81 (vO 85),vo 81]
def ZV.r16:List DOp:=qQ 92 [wm 3,wL 3 1,wa 9 7,vl,wa 1 1,vl,vk .lenL,wf 29 [.tmp 94,.tmp 96,.tmp 99],vX 1 93]++[⟨nO,nO,.store1 (.tmp 101) (.cst (.bool true))⟩]
def ZV.r9:=[qm 46 6,qe 47 .add 46 1,qm 6 47]
def ZV.l1:DC:=.seq (.seq (qR ZV.r8 [1,3,4,5,6,45]) (qC 45 .skip (.exit 2))) (.seq (.block 3 (.seq (qR ZV.r10 [1,3,4,5,6,7]) (.seq (.seq (qR ZV.r11 [1,3,4,5,6,7,8]) (.block 4 (.loop ZV.l2))) (.seq (qR ZV.r15 [1,3,4,5,6,7,92]) (qC 92 (qR ZV.r16 [1,3,4,5,6]) .skip))))) (qR ZV.r9 [1,3,4,5,6]))
def ZV.r5:=[qm 28 4,qe 29 .sub 28 1,qm 4 29]
def ZV.l0:DC:=.seq (.seq (qR ZV.r4 [1,3,4,27]) (qC 27 .skip (.exit 0))) (.seq (.block 1 (.seq (qR ZV.r6 [1,3,4,5]) (.seq (qR ZV.r7 [1,3,4,5,6]) (.block 2 (.loop ZV.l1))))) (qR ZV.r5 [1,3,4]))
def ZV.r17:=[qm 102 3,qm 2 102]
abbrev ZV.id:Nat:=14
def ZV.an:Ann:=[(0,[1]),(1,[1,3]),(2,[1,3]),(3,[1,3,4]),(4,[1,3,4,27]),(5,[1,3,4]),(6,[1,3,4,5]),(7,[1,3,4,5,6]),(8,[1,3,4,5,6,45]),(9,[1,3,4,5,6]),(10,[1,3,4,5,6,7]),(11,[1,3,4,5,6,7,8]),(12,[1,3,4,5,6,7,8,57]),(13,[1,3,4,5,6,7,8]),(14,[1,3,4,5,6,7,8]),(15,[1,3,4,5,6,7,92]),(16,[1,3,4,5,6]),(17,[2]),(1000014,[0,1,2,3,4,5,6,7,8,9,10,11,12,13])]
def ZV.body:DC:=.seq (qR ZV.r0 [1]) (.seq (qR ZV.r1 [1,3]) (.seq (qR ZV.r2 [1,3]) (.seq (.seq (qR ZV.r3 [1,3,4]) (.block 0 (.loop ZV.l0))) (.seq (qR ZV.r17 [2]) .ret))))
def ZV.df:DF:=⟨103,[.tmp 2],ZV.body⟩
theorem ZV.ok:kO Zyg ZV.an ZV.id ZV.df:=by unfold kO;kernel_rfl
def KN.r0:=qQ 1 [wB 0,wB 1,wi 0]++[qb 5 false]
def KN.r1:List DOp:=[qa 6 1 2,ql 7 6,⟨sO 8,nO,.q (.mkfn (.func 32) 0) [.tmp 3]⟩]++qQ 8 [wf 31 [.tmp 7,.tmp 8],wx 0 9,wx 1 9]++[qm 4 10,qm 5 11]
abbrev KN.id:Nat:=15
def KN.body:DC:=.seq (qR KN.r0 [2,3]) (.seq (qR KN.r1 [4,5]) .ret)
def KN.an:=kA KN.body (Zyl 2)
def KN.df:DF:=⟨12,[.tmp 4,.tmp 5],KN.body⟩
theorem KN.ok:kO Zyg KN.an KN.id KN.df:=by unfold kO;kernel_rfl
def KE.r0:=[qB 1 0,qb 2 false]
def KE.r1:=[qL 6 3 1,qf 7 39 [.tmp 6],qm 5 7,qx 8 0 5,qx 9 1 5,qA 3 [.int .i64 0,.int .i64 0,.int .i64 0],qS 3 3 8,qm 4 9]
def KE.r2:=[qm 10 4,qk 11 .not 10,qm 2 11]
abbrev KE.id:Nat:=21
def KE.body:DC:=.seq (qR KE.r0 [1]) (.seq (qR KE.r1 [4]) (.seq (qR KE.r2 [2]) .ret))
def KE.an:=kA KE.body (Zyl 3)
def KE.df:DF:=⟨12,[.tmp 2],KE.body⟩
theorem KE.ok:kO Zyg KE.an KE.id KE.df:=by unfold kO;kernel_rfl
def YS.r0:=qQ 1 [wB 0,wB 1,wi 0,wi 0]
def YS.r1:=[qi 6 0]
def YS.r2:=qQ 7 [wm 6,wa 1 2,vl,vk .lenL,vd .lss 8]
def YS.r4:=qQ 14 [wa 1 2,vl,wm 6,vX 15 16,vL 15]++[qA 7 zF,qS 15 7 19]
def YS.r5:=qQ 19 [wa 1 7,vl,ve .eql 9,vm,wy 23 (wa 10 7),wy 23 vl,wy 23 (wa 0 3),wy 23 vl,wy 23 (vd .eql 25),vO 23]
def YS.r6:List DOp:=[qa 30 12 7,ql 31 30,⟨sO 32,nO,.q (.iaddr 3) [.tmp 31,.cst (.int .i64 0)]⟩]++qQ 32 [va 0,vl,wa 12 7,vl,wa 12 7,vl,vk .lenL,ve .sub 1,vX 3 36,va 1,vl]++[qm 4 34,qm 5 43]
def YS.r3:=[qm 13 6,qe 14 .add 13 1,qm 6 14]
def YS.l0:DC:=.seq (.seq (qR YS.r2 [2,3,6,12]) (qC 12 .skip (.exit 0))) (.seq (.block 1 (.seq (qR YS.r4 [2,3,6,7]) (.seq (qR YS.r5 [2,3,6,7,29]) (qC 29 (.seq (.regD [0,1,2,3,4,5,6,7,8,9,10,11,12,13,14,15] (Jo YS.r6) (sO [4,5])) .ret) .skip)))) (qR YS.r3 [2,3,6]))
def YS.r7:=qQ 43 [wL 15 3,wf 40 [.tmp 44],wx 0 45,wx 1 45]++[qm 4 46,qm 5 47]
abbrev YS.id:Nat:=22
def YS.an:Ann:=[(0,[2,3]),(1,[2,3,6]),(2,[2,3,6,12]),(3,[2,3,6]),(4,[2,3,6,7]),(5,[2,3,6,7,29]),(6,[4,5]),(7,[4,5]),(1000006,[0,1,2,3,4,5,6,7,8,9,10,11,12,13,14,15])]
def YS.body:DC:=.seq (qR YS.r0 [2,3]) (.seq (.seq (qR YS.r1 [2,3,6]) (.block 0 (.loop YS.l0))) (.seq (qR YS.r7 [4,5]) .ret))
def YS.df:DF:=⟨48,[.tmp 4,.tmp 5],YS.body⟩
theorem YS.ok:kO Zyg YS.an YS.id YS.df:=by unfold kO;kernel_rfl
def Yu.r0:List DOp:=[qB 1 0,⟨sO 2,nO,.q .mv [.cst (.nilmap)]⟩]
def Yu.r1:List DOp:=[⟨sO 5,nO,.mkmap⟩,qA 3 [.nilmap],qs 3 5]
def Yu.r2:=[qA 4 [.nilfn]]
def Yu.r3:List DOp:=[⟨sO 6,nO,.q (.mkfn (.func 41) 0) [.tmp 3,.tmp 1,.tmp 4]⟩,qs 4 6]
def Yu.r4:List DOp:=qQ 6 [wl 4,wa 2 1,vl]++[⟨sO 10,nO,.bsl 1 1 [.str []] [0] [.tmp 9]⟩,⟨sO 11,nO,.call (.tmp 7) [.tmp 10]⟩]
def Yu.r5:=[ql 12 3,qm 2 12]
abbrev Yu.id:Nat:=23
def Yu.body:DC:=.seq (qR Yu.r0 [1]) (.seq (qR Yu.r1 [1,3]) (.seq (qR Yu.r2 [1,3,4]) (.seq (qR Yu.r3 [1,3,4]) (.seq (qR Yu.r4 [3]) (.seq (qR Yu.r5 [2]) .ret)))))
def Yu.an:=kA Yu.body (Zyl 6)
def Yu.df:DF:=⟨13,[.tmp 2],Yu.body⟩
theorem Yu.ok:kO Zyg Yu.an Yu.id Yu.df:=by unfold kO;kernel_rfl
def Z2.r0:=qQ 1 [wB 0,wB 1,wA [.int .i64 0,.int .i64 0]]
def Z2.r1:=qQ 10 [wa 1 2,vl,vk .lenL,wi 0]
def Z2.r2:=[qd 15 .lss 14 13]
def Z2.r3:=[qX 16 15 12 14,qL 17 15 16,qA 6 zF,qS 15 6 17]
def Z2.r4:=qQ 17 [wa 1 6,vl,ve .eql 9,vm,wy 21 (wa 10 6),wy 21 vl,wy 21 (wa 0 3),wy 21 vl,wy 21 (vd .eql 23),vO 21]
def Z2.r5:=qQ 28 [wa 12 6,vl,wf 43 [.tmp 30,.cst (.fn (.func 44) [] [])]]++[qm 28 31,qx 32 0 28,qx 33 1 28,qm 7 32,qm 8 33]
def Z2.r6:List DOp:=[qm 34 7,qm 35 8,⟨sO 36,nO,.q (.build [.int .i64 0,.int .i64 0] [(0,1),(1,1)]) [.tmp 34,.tmp 35]⟩,qS 2 4 36]
def Z2.r7:=[qe 37 .add 14 1,qm 14 37]
def Z2.l0:DC:=.seq (qR Z2.r2 [3,4,12,13,14,15]) (.seq (qC 15 .skip (.exit 0)) (.seq (.block 1 (.seq (qR Z2.r3 [3,4,6,12,13,14]) (.seq (qR Z2.r4 [3,4,6,12,13,14,27]) (qC 27 (.seq (qR Z2.r5 [4,7,8]) (.seq (qR Z2.r6 [4]) .ret)) .skip)))) (qR Z2.r7 [3,4,12,13,14])))
def Z2.r8:=[qL 39 15 3,qf 40 45 [.tmp 39],qm 38 40,qx 41 0 38,qx 42 1 38,qA 9 [.int .i64 0,.int .i64 0],qS 2 9 41,qm 10 42]
def Z2.r9:=[qL 43 2 9,qS 2 4 43]
abbrev Z2.id:Nat:=24
def Z2.body:DC:=.seq (qR Z2.r0 [2,3,4]) (.seq (.seq (qR Z2.r1 [3,4,12,13,14]) (.block 0 (.loop Z2.l0))) (.seq (qR Z2.r8 [4,9]) (.seq (qR Z2.r9 [4]) .ret)))
def Z2.an:=kA Z2.body (Zyl 10)
def Z2.df:DF:=⟨44,[.cellN 4 2],Z2.body⟩
theorem Z2.ok:kO Zyg Z2.an Z2.id Z2.df:=by unfold kO;kernel_rfl
def Z4.r0:=qQ 4 [wl 1,vk .lenL,wi 0]
def Z4.r1:=[qd 8 .lss 7 6]
def Z4.r2:=[qX 9 2 5 7,qL 10 2 9,qA 4 [.int .i64 0,.int .i64 0],qS 2 4 10]
def Z4.r3:List DOp:=[qm 11 0,⟨sO 12,nO,.q (.iaddrA 2 1) [.tmp 4,.cst (.int .i64 0)]⟩,ql 13 12,⟨sO 14,nO,.q (.iaddrA 2 1) [.tmp 4,.cst (.int .i64 1)]⟩,ql 15 14,⟨sO 16,nO,.call (.tmp 11) [.tmp 13,.tmp 15]⟩,qk 17 .not 16]
def Z4.r4:=[qe 18 .add 7 1,qm 7 18]
def Z4.l0:DC:=.seq (qR Z4.r1 [0,5,6,7,8]) (.seq (qC 8 .skip (.exit 0)) (.seq (.block 1 (.seq (qR Z4.r2 [0,4,5,6,7]) (.seq (qR Z4.r3 [0,5,6,7,17]) (qC 17 (.exit 0) .skip)))) (qR Z4.r4 [0,5,6,7])))
abbrev Z4.id:Nat:=25
def Z4.body:DC:=.scope (.seq (.label 0) (.seq (qR Z4.r0 [0,5,6,7]) (.block 0 (.loop Z4.l0))))
def Z4.an:=kA Z4.body (Zyl 5)
def Z4.df:DF:=⟨19,[],Z4.body⟩
theorem Z4.ok:kO Zyg Z4.an Z4.id Z4.df:=by unfold kO;kernel_rfl
def Zl.r0:=qQ 0 [wB 0,wA [.int .i64 0,.int .i64 0,.int .i64 0],wA [.bool false]]
def Zl.r1:=[qL 9 3 1,qf 10 46 [.tmp 9],qm 8 10,qx 11 0 8,qx 12 1 8,qS 3 2 11,qs 3 12]
def Zl.r2:=[ql 13 3]
def Zl.r3:=[qu (qL 14 3 2),qu (ql 15 3),(qS 3 2 14,[15]),qu (qs 3 15)]
def Zl.r4:=qQ 15 [wa 1 1,vl,vk .lenL,wi 0]
def Zl.r5:=[qd 20 .lss 19 18]
def Zl.r6:=qQ 20 [wm 19,wX 2 17 19,vL 2]++[qA 4 [.int .i64 0],qA 5 [.str [],.nilsl],qs 4 21,qS 2 5 23]
def Zl.r7:=qQ 23 [wa 1 5,vl,wf 47 [.tmp 25]]
def Zl.r8:=[qm 6 27]
def Zl.r9:=[qm 7 28]
def Zl.r10:=qQ 28 [wa 1 5,vl,wm 6,wm 7,wf 48 [.tmp 30,.tmp 31,.tmp 32]]++[qs 3 33]
def Zl.r11:=[ql 34 3]
def Zl.r12:List DOp:=[ql 35 4,qm 36 6,⟨sO 37,nO,.q (.build [.int .i64 0,.int .i64 0,.int .i64 0] [(0,1),(1,1),(2,1)]) [.tmp 35,.tmp 36,.cst (.int .i64 12)]⟩,qS 3 2 37]
def Zl.r13:=qQ 37 [wm 6,wa 1 5,vl,vk .lenL,vd .eql 38]
def Zl.r14:List DOp:=[qa 43 1 2,⟨nO,nO,.store1 (.tmp 43) (.cst (.int .i64 (-1)))⟩]
def Zl.a1:DC:=.seq (qR Zl.r8 [2,3,4,5,6,17,18,19,27,28]) (qR Zl.r9 [2,3,4,5,6,7,17,18,19,27,28])
def Zl.b1:DC:=.block 3 (.seq (qR Zl.r10 [2,3,4,5,6,17,18,19,27,28]) (.seq (qR Zl.r11 [2,3,4,5,6,17,18,19,27,28,34]) (qC 34 (.seq (qR Zl.r12 [2,3,5,6]) (.seq (.seq (qR Zl.r13 [2,3,42]) (qC 42 (qR Zl.r14 [2,3]) .skip)) (.exit 0))) .skip)))
def Zl.r15:=[qe 44 .add 19 1,qm 19 44]
def Zl.l0:DC:=.seq (qR Zl.r5 [2,3,17,18,19,20,27,28]) (.seq (qC 20 .skip (.exit 0)) (.seq (.block 1 (.seq (qR Zl.r6 [2,3,4,5,17,18,19,27,28]) (.seq (qR Zl.r7 [2,3,4,5,17,18,19,26,27,28]) (.block 2 (.rangeF (.tmp 26) [27,28] Zl.a1 Zl.b1))))) (qR Zl.r15 [2,3,17,18,19,27,28])))
def Zl.r16:=[qu (qL 45 3 2),qu (ql 46 3),(qS 3 2 45,[46]),qu (qs 3 46)]
abbrev Zl.id:Nat:=26
def Zl.an:Ann:=[(0,[1,2,3,27,28]),(1,[1,2,3,27,28]),(2,[1,2,3,13,27,28]),(3,[2,3]),(4,[2,3,17,18,19,27,28]),(5,[2,3,17,18,19,20,27,28]),(6,[2,3,4,5,17,18,19,27,28]),(7,[2,3,4,5,17,18,19,26,27,28]),(8,[2,3,4,5,6,17,18,19,27,28]),(9,[2,3,4,5,6,7,17,18,19,27,28]),(10,[2,3,4,5,6,17,18,19,27,28]),(11,[2,3,4,5,6,17,18,19,27,28,34]),(12,[2,3,5,6]),(13,[2,3,42]),(14,[2,3]),(15,[2,3,17,18,19,27,28]),(16,[2,3]),(1000003,[0,1,2,3]),(1000016,[0,1,2,3]),(6000003,[15]),(6000016,[46])]
def Zl.body:DC:=.seq (qR Zl.r0 [1,2,3,27,28]) (.scope (.seq (.seq (qR Zl.r1 [1,2,3,27,28]) (.seq (qR Zl.r2 [1,2,3,13,27,28]) (qC 13 (.seq (.regD [0,1,2,3] Zl.r3 (sO [2,3])) .ret) .skip))) (.seq (.label 0) (.seq (.seq (qR Zl.r4 [2,3,17,18,19,27,28]) (.block 0 (.loop Zl.l0))) (.seq (.regD [0,1,2,3] Zl.r16 (sO [2,3])) .ret)))))
def Zl.df:DF:=⟨47,[.cellN 2 3,.cell1 3],Zl.body⟩
theorem Zl.ok:kO Zyg Zl.an Zl.id Zl.df:=by unfold kO;kernel_rfl
def YE.r0:=[qi 4 0,qb 5 false]
def YE.r1:=qQ 6 [wm 0,wm 1,wf 49 [.tmp 7,.tmp 8]]++[qm 6 9]
def YE.r2:List DOp:=[qm 10 6,⟨sO 11,nO,.q .max [.tmp 10,.cst (.int .i64 0)]⟩,qm 12 6,qe 13 .geq 12 0,qm 4 11,qm 5 13]
abbrev YE.id:Nat:=27
def YE.body:DC:=.seq (qR YE.r0 [0,1]) (.seq (qR YE.r1 [6]) (.seq (qR YE.r2 [4,5]) .ret))
def YE.an:=kA YE.body (Zyl 3)
def YE.df:DF:=⟨14,[.tmp 4,.tmp 5],YE.body⟩
theorem YE.ok:kO Zyg YE.an YE.id YE.df:=by unfold kO;kernel_rfl
def W8.r0:=[qB 2 0,qb 3 false]
def W8.r1:=qQ 3 [wa 0 2,vl,wl 1,vd .eql 5]++[qm 3 7]
abbrev W8.id:Nat:=28
def W8.body:DC:=.seq (qR W8.r0 [1,2]) (.seq (qR W8.r1 [3]) .ret)
def W8.an:=kA W8.body (Zyl 2)
def W8.df:DF:=⟨8,[.tmp 3],W8.body⟩
theorem W8.ok:kO Zyg W8.an W8.id W8.df:=by unfold kO;kernel_rfl
def W5.r0:=[qB 3 0,qi 6 0]
def W5.r1:=[qi 7 0]
def W5.r2:=qQ 7 [vm,wm 2,vd .lss 8]
def W5.r4:=qQ 12 [wa 1 3,vl,wm 7,vX 2 14,va 0,vl,wm 1,vd .eql 18]
def W5.r5:=[qm 21 7,qm 6 21]
def W5.r3:=[qm 11 7,qe 12 .add 11 1,qm 7 12]
def W5.l0:DC:=.seq (.seq (qR W5.r2 [1,2,3,7,10]) (qC 10 .skip (.exit 0))) (.seq (.block 1 (.seq (qR W5.r4 [1,2,3,7,20]) (qC 20 (.seq (qR W5.r5 [6]) .ret) .skip))) (qR W5.r3 [1,2,3,7]))
def W5.r6:=[qi 6 (-1)]
abbrev W5.id:Nat:=29
def W5.body:DC:=.seq (qR W5.r0 [1,2,3]) (.seq (.seq (qR W5.r1 [1,2,3,7]) (.block 0 (.loop W5.l0))) (.seq (qR W5.r6 [6]) .ret))
def W5.an:=kA W5.body [0,1,2,4,5,3,6]
def W5.df:DF:=⟨22,[.tmp 6],W5.body⟩
theorem W5.ok:kO Zyg W5.an W5.id W5.df:=by unfold kO;kernel_rfl
def YI.r0:=qQ 1 [wB 0,wB 1,wi 0]
def YI.r1:=[qa 9 0 3,ql 10 9,qm 5 10]
def YI.r2:=[qi 6 0]
def YI.r3:=qQ 10 [wm 6,wa 1 3,vl,vk .lenL,vd .lss 11]
def YI.r5:=[qu (qL 19 2 2),qu (qa 20 1 2),qu (ql 21 20),qu (qL 22 2 2),qu (qa 23 1 3),qu (ql 24 23),qu (qm 25 6),qu (qX 26 2 24 25),qu (qa 27 0 26),qu (ql 28 27),qu (qa 29 1 2),qu (ql 30 29),qu (qk 31 .lenL 30),(qf 32 50 [.tmp 22,.tmp 28,.tmp 31],[21,19]),qu (qX 33 15 21 32),qu (qL 34 15 33),qu (qf 35 22 [.tmp 19,.tmp 34]),qu (qm 18 35),qu (qx 36 0 18),qu (qx 37 1 18),qu (qm 7 36),qu (qm 8 37)]
def YI.r6:List DOp:=qQ 37 [wm 5,wa 1 3,vl,wm 6,vX 2 40,va 1,vl,wm 7,vd .mul 44,wa 1 3,vl,wm 6,vX 2 48,va 1,vl,wm 8,vd .mul 52]++[⟨sO 55,nO,.q .max [.tmp 46,.tmp 54]⟩,qd 56 .add 38 55,qm 5 56]
def YI.r4:=[qm 16 6,qe 17 .add 16 1,qm 6 17]
def YI.l0:DC:=.seq (.seq (qR YI.r3 [2,3,5,6,15]) (qC 15 .skip (.exit 0))) (.seq (.block 1 (.seq (.regD [0,1,2,3,4,5,6,7,8,9,10,11,12,13,14,15,16,17,18,19,20,21] YI.r5 (sO [2,3,5,6,7,8])) (.regD [0,1,2,3,4,5,6,7,8,9,10,11,12,13,14,15,16,17,18,19] (Jo YI.r6) (sO [2,3,5,6])))) (qR YI.r4 [2,3,5,6]))
def YI.r7:=[qm 57 5,qm 4 57]
abbrev YI.id:Nat:=30
def YI.an:Ann:=[(0,[2,3]),(1,[2,3,5]),(2,[2,3,5,6]),(3,[2,3,5,6,15]),(4,[2,3,5,6]),(5,[2,3,5,6,7,8]),(6,[2,3,5,6]),(7,[4]),(1000005,[0,1,2,3,4,5,6,7,8,9,10,11,12,13,14,15,16,17,18,19,20,21]),(1000006,[0,1,2,3,4,5,6,7,8,9,10,11,12,13,14,15,16,17,18,19]),(17000005,[21,19])]
def YI.body:DC:=.seq (qR YI.r0 [2,3]) (.seq (qR YI.r1 [2,3,5]) (.seq (.seq (qR YI.r2 [2,3,5,6]) (.block 0 (.loop YI.l0))) (.seq (qR YI.r7 [4]) .ret)))
def YI.df:DF:=⟨58,[.tmp 4],YI.body⟩
theorem YI.ok:kO Zyg YI.an YI.id YI.df:=by unfold kO;kernel_rfl
def YO.r0:=[qi 4 0,qb 5 false]
def YO.r1:=qQ 6 [wm 0,wm 1,wf 51 [.tmp 7,.tmp 8]]++[qm 6 9]
def YO.r2:List DOp:=[qm 10 6,⟨sO 11,nO,.q .max [.tmp 10,.cst (.int .i64 0)]⟩,qm 12 6,qe 13 .geq 12 0,qm 4 11,qm 5 13]
abbrev YO.id:Nat:=31
def YO.body:DC:=.seq (qR YO.r0 [0,1]) (.seq (qR YO.r1 [6]) (.seq (qR YO.r2 [4,5]) .ret))
def YO.an:=kA YO.body (Zyl 3)
def YO.df:DF:=⟨14,[.tmp 4,.tmp 5],YO.body⟩
theorem YO.ok:kO Zyg YO.an YO.id YO.df:=by unfold kO;kernel_rfl
def WK.r0:=[qB 2 0,qb 3 false]
def WK.r1:=qQ 3 [wa 0 2,vl,wl 1,vd .eql 5]++[qm 3 7]
abbrev WK.id:Nat:=32
def WK.body:DC:=.seq (qR WK.r0 [1,2]) (.seq (qR WK.r1 [3]) .ret)
def WK.an:=kA WK.body (Zyl 2)
def WK.df:DF:=⟨8,[.tmp 3],WK.body⟩
theorem WK.ok:kO Zyg WK.an WK.id WK.df:=by unfold kO;kernel_rfl
def Zw.r0:=[qB 1 0,qA 2 [.int .i64 0,.int .i64 0,.int .i64 0],qb 3 false]
def Zw.r1:=[qL 13 3 1,qf 14 63 [.tmp 13],qm 12 14,qx 15 0 12,qx 16 1 12,qA 4 [.int .i64 0,.int .i64 0,.int .i64 0],qS 3 4 15,qm 5 16]
def Zw.r2:=[qm 17 5]
def Zw.r3:=[qL 18 3 4,qS 3 2 18,qb 3 true]
def Zw.r4:=[qi 6 0]
def Zw.r5:=qQ 18 [wm 6,wa 1 1,vl,vk .lenL,vd .lss 19]
def Zw.r7:=qQ 25 [wa 1 1,vl,wm 6,vX 2 27,vL 2]++[qA 7 [.str [],.nilsl],qS 2 7 30]
def Zw.r8:=[qL 32 2 7,qf 33 64 [.tmp 32],qm 31 33,qx 34 0 31,qx 35 1 31,qm 8 34,qm 9 35]
def Zw.r9:=[qi 10 0]
def Zw.r10:=qQ 35 [wm 10,wa 1 7,vl,vk .lenL,vd .lss 36]
def Zw.r12:=qQ 42 [wa 1 7,vl,wm 10,vX 15 44,vL 15,wf 65 [.tmp 47],vm,wy 49 (wm 8),wy 49 (wm 10),wy 49 (vX 1 50),wy 49 vl,wy 49 (ve .neq 0),vO 49]++[qm 11 55]
def Zw.r13:=qQ 55 [wa 1 7,vl,wm 10,vX 15 57,va 1,vl,ve .eql 11]
def Zw.r14:=qQ 62 [wm 11,vm,wn 64 (wm 8),wn 64 (wL 2 7),wn 64 (wa 1 7),wn 64 vl,wn 64 (wm 10),wn 64 (vX 15 68),wn 64 (va 11),wn 64 vl,wn 64 (wm 10),wn 64 (wf 50 [.tmp 66,.tmp 72,.tmp 73]),wn 64 (vX 1 65),wn 64 vl,wn 64 (ve .neq 0),vo 64]++[qm 11 78]
def Zw.r15:=[qm 79 11]
def Zw.r16:List DOp:=[qm 80 6,qm 81 10,⟨sO 82,nO,.q (.build [.int .i64 0,.int .i64 0,.int .i64 0] [(0,1),(1,1),(2,1)]) [.tmp 80,.tmp 81,.cst (.int .i64 12)]⟩,qS 3 2 82,qb 3 true]
def Zw.r11:=[qm 41 10,qe 42 .add 41 1,qm 10 42]
def Zw.l1:DC:=.seq (.seq (qR Zw.r10 [1,2,6,7,8,9,10,40]) (qC 40 .skip (.exit 2))) (.seq (.block 3 (.seq (qR Zw.r12 [1,2,6,7,8,9,10,11]) (.seq (.seq (qR Zw.r13 [1,2,6,7,8,9,10,11,62]) (qC 62 (.regD [0,1,2,3,4,5,6,7,8,9,10,11,12,13,14,15,16] (Jo Zw.r14) (sO [1,2,6,7,8,9,10,11])) .skip)) (.seq (qR Zw.r15 [1,2,6,7,8,9,10,79]) (qC 79 (.seq (qR Zw.r16 [2,3]) .ret) .skip))))) (qR Zw.r11 [1,2,6,7,8,9,10]))
def Zw.r17:=[qm 83 9,qe 84 .neq 83 0]
def Zw.r18:List DOp:=[qm 85 6,⟨sO 86,nO,.q (.build [.int .i64 0,.int .i64 0,.int .i64 0] [(0,1),(1,1),(2,1)]) [.tmp 85,.cst (.int .i64 (-1)),.cst (.int .i64 12)]⟩,qS 3 2 86,qb 3 true]
def Zw.r6:=[qm 24 6,qe 25 .add 24 1,qm 6 25]
def Zw.l0:DC:=.seq (.seq (qR Zw.r5 [1,2,6,23]) (qC 23 .skip (.exit 0))) (.seq (.block 1 (.seq (qR Zw.r7 [1,2,6,7]) (.seq (qR Zw.r8 [1,2,6,7,8,9]) (.seq (.seq (qR Zw.r9 [1,2,6,7,8,9,10]) (.block 2 (.loop Zw.l1))) (.seq (qR Zw.r17 [1,2,6,84]) (qC 84 (.seq (qR Zw.r18 [2,3]) .ret) .skip)))))) (qR Zw.r6 [1,2,6]))
def Zw.r19:List DOp:=[⟨sO 87,nO,.q (.build [.int .i64 0,.int .i64 0,.int .i64 0] []) []⟩,qS 3 2 87,qb 3 false]
abbrev Zw.id:Nat:=39
def Zw.an:Ann:=[(0,[1,2]),(1,[1,2,4,5]),(2,[1,2,4,17]),(3,[2,3]),(4,[1,2,6]),(5,[1,2,6,23]),(6,[1,2,6]),(7,[1,2,6,7]),(8,[1,2,6,7,8,9]),(9,[1,2,6,7,8,9,10]),(10,[1,2,6,7,8,9,10,40]),(11,[1,2,6,7,8,9,10]),(12,[1,2,6,7,8,9,10,11]),(13,[1,2,6,7,8,9,10,11,62]),(14,[1,2,6,7,8,9,10,11]),(15,[1,2,6,7,8,9,10,79]),(16,[2,3]),(17,[1,2,6,84]),(18,[2,3]),(19,[2,3]),(1000014,[0,1,2,3,4,5,6,7,8,9,10,11,12,13,14,15,16])]
def Zw.body:DC:=.seq (qR Zw.r0 [1,2]) (.seq (qR Zw.r1 [1,2,4,5]) (.seq (.seq (qR Zw.r2 [1,2,4,17]) (qC 17 (.seq (qR Zw.r3 [2,3]) .ret) .skip)) (.seq (.seq (qR Zw.r4 [1,2,6]) (.block 0 (.loop Zw.l0))) (.seq (qR Zw.r19 [2,3]) .ret))))
def Zw.df:DF:=⟨88,[.cellN 2 3,.tmp 3],Zw.body⟩
theorem Zw.ok:kO Zyg Zw.an Zw.id Zw.df:=by unfold kO;kernel_rfl
def Qb.r0:=qQ 0 [wB 0,wi 0,wi 0]
def Qb.r1:=qQ 3 [wa 1 1,vl,ve .eql 2]
def Qb.r2:=qQ 6 [wa 5 1,vl,wa 5 1,vl]++[qm 2 8,qm 3 10]
def Qb.r3:=qQ 10 [wa 5 1,vl,wa 6 1,vl]++[qm 2 12,qm 3 14]
abbrev Qb.id:Nat:=40
def Qb.an:Ann:=[(0,[1]),(1,[1,6]),(2,[2,3]),(3,[2,3]),(1000002,[0,1,2,3,4,5]),(1000003,[0,1,2,3,4,5])]
def Qb.body:DC:=.seq (qR Qb.r0 [1]) (.seq (.seq (qR Qb.r1 [1,6]) (qC 6 (.seq (.regD [0,1,2,3,4,5] (Jo Qb.r2) (sO [2,3])) .ret) .skip)) (.seq (.regD [0,1,2,3,4,5] (Jo Qb.r3) (sO [2,3])) .ret))
def Qb.df:DF:=⟨15,[.tmp 2,.tmp 3],Qb.body⟩
theorem Qb.ok:kO Zyg Qb.an Qb.id Qb.df:=by unfold kO;kernel_rfl
def Zb.r0:=qQ 13 [wm 0,vk .lenL,wi 0]
def Zb.r1:=[qd 17 .lss 16 15]
def Zb.r2:=[qX 18 1 14 16,ql 19 18,qm 6 19]
def Zb.r3:List DOp:=[ql 20 1,qm 21 6,⟨sO 22,nO,.q (.lookup (.sc .str) (.bool false) false) [.tmp 20,.tmp 21]⟩]
def Zb.r4:List DOp:=[ql 23 1,qm 24 6,⟨nO,nO,.mapupd (.sc .str) (.tmp 23) (.tmp 24) (.cst (.bool true))⟩]
def Zb.r5:=qQ 25 [wL 3 2,wm 6,wf 13 [.tmp 26,.tmp 27]]++[qm 25 28,qx 29 0 25,qx 30 1 25,qm 7 29,qm 8 30]
def Zb.r6:=qQ 30 [wa 1 2,vl,wm 7,vX 2 32,vL 2]++[qA 9 [.str [],.nilsl],qS 2 9 35]
def Zb.r7:=qQ 35 [wa 1 9,vl,vk .lenL,wi 0]
def Zb.r8:=[qd 40 .lss 39 38]
def Zb.r9:=[qX 41 15 37 39,qL 42 15 41,qA 11 zF,qS 15 11 42]
def Zb.r10:=[qa 43 1 11,ql 44 43]
def Zb.r11:=[qe 46 .eql 44 7,qm 45 46]
def Zb.r12:=qQ 46 [wL 2 9,wa 7 11,vL 2,wf 42 [.tmp 47,.tmp 49]]
def Zb.r13:List DOp:=qQ 50 [wl 3,wa 9 11,vl]++[⟨sO 54,nO,.bsl 1 1 [.str []] [0] [.tmp 53]⟩,⟨sO 55,nO,.call (.tmp 51) [.tmp 54]⟩]
def Zb.r14:=[qe 57 .eql 44 8,qm 56 57]
def Zb.r15:=[qe 58 .eql 44 12,qm 56 58]
def Zb.r16:List DOp:=qQ 58 [wl 3,wa 9 11,vl]++[⟨sO 62,nO,.bsl 1 1 [.str []] [0] [.tmp 61]⟩,⟨sO 63,nO,.call (.tmp 59) [.tmp 62]⟩]
def Zb.r17:=[qe 65 .eql 44 9,qm 64 65]
def Zb.r18:=qQ 65 [wa 12 11,vl,vk .lenL,wi 0]
def Zb.r19:=[qd 70 .lss 69 68]
def Zb.r20:=[qX 71 3 67 69,qL 72 3 71,qA 13 [.int .i64 0,.int .i64 0,.str []],qS 3 13 72]
def Zb.r21:List DOp:=qQ 72 [wl 3,wa 2 13,vl]++[⟨sO 76,nO,.bsl 1 1 [.str []] [0] [.tmp 75]⟩,⟨sO 77,nO,.call (.tmp 73) [.tmp 76]⟩]
def Zb.r22:=[qe 78 .add 69 1,qm 69 78]
def Zb.l2:DC:=.seq (qR Zb.r19 [1,2,3,9,14,15,16,37,38,39,67,68,69,70]) (.seq (qC 70 .skip (.exit 5)) (.seq (.block 6 (.seq (qR Zb.r20 [1,2,3,9,13,14,15,16,37,38,39,67,68,69]) (qR Zb.r21 [1,2,3,9,14,15,16,37,38,39,67,68,69]))) (qR Zb.r22 [1,2,3,9,14,15,16,37,38,39,67,68,69])))
def Zb.r23:=[qe 79 .add 39 1,qm 39 79]
def Zb.l1:DC:=.seq (qR Zb.r8 [1,2,3,9,14,15,16,37,38,39,40]) (.seq (qC 40 .skip (.exit 2)) (.seq (.block 3 (.seq (qR Zb.r9 [1,2,3,9,11,14,15,16,37,38,39]) (.seq (qR Zb.r10 [1,2,3,9,11,14,15,16,37,38,39,44]) (.block 4 (.seq (qR Zb.r11 [1,2,3,9,11,14,15,16,37,38,39,44,45]) (qC 45 (.seq (qR Zb.r12 [1,2,3,9,11,14,15,16,37,38,39,50]) (qC 50 (qR Zb.r13 [1,2,3,9,14,15,16,37,38,39]) .skip)) (.seq (.seq (qR Zb.r14 [1,2,3,9,11,14,15,16,37,38,39,44,56]) (qC 56 .skip (qR Zb.r15 [1,2,3,9,11,14,15,16,37,38,39,44,56]))) (qC 56 (qR Zb.r16 [1,2,3,9,14,15,16,37,38,39]) (.seq (qR Zb.r17 [1,2,3,9,11,14,15,16,37,38,39,64]) (qC 64 (.seq (qR Zb.r18 [1,2,3,9,14,15,16,37,38,39,67,68,69]) (.block 5 (.loop Zb.l2))) .skip)))))))))) (qR Zb.r23 [1,2,3,9,14,15,16,37,38,39])))
def Zb.r24:=[qe 80 .add 16 1,qm 16 80]
def Zb.l0:DC:=.seq (qR Zb.r1 [1,2,3,14,15,16,17]) (.seq (qC 17 .skip (.exit 0)) (.seq (.block 1 (.seq (qR Zb.r2 [1,2,3,6,14,15,16]) (.seq (.seq (qR Zb.r3 [1,2,3,6,14,15,16,22]) (qC 22 (.exit 1) .skip)) (.seq (qR Zb.r4 [1,2,3,6,14,15,16]) (.seq (qR Zb.r5 [1,2,3,7,14,15,16]) (.seq (qR Zb.r6 [1,2,3,9,14,15,16]) (.seq (qR Zb.r7 [1,2,3,9,14,15,16,37,38,39]) (.block 2 (.loop Zb.l1))))))))) (qR Zb.r24 [1,2,3,14,15,16])))
abbrev Zb.id:Nat:=41
def Zb.body:DC:=.seq (qR Zb.r0 [1,2,3,14,15,16]) (.block 0 (.loop Zb.l0))
def Zb.an:=kA Zb.body (Zyl 25)
def Zb.df:DF:=⟨81,[],Zb.body⟩
theorem Zb.ok:kO Zyg Zb.an Zb.id Zb.df:=by unfold kO;kernel_rfl
def YB.r0:=[qB 2 0,qB 3 1,qb 4 false]
def YB.r1:=[qL 10 2 2,qf 11 66 [.tmp 10],qm 5 11]
def YB.r2:=qQ 11 [wa 1 2,vl,vk .lenL,wi 0]
def YB.r3:=[qd 16 .lss 15 14]
def YB.r4:=[qX 17 15 13 15,qL 18 15 17,qA 7 zF,qS 15 7 18]
def YB.r5:=[qL 19 15 7,qf 20 67 [.tmp 19]]
def YB.r6:=[qu (qm 21 5),qu (qa 22 0 7),qu (ql 23 22),qu (qL 24 2 2),qu (qL 25 15 7),(qf 26 24 [.tmp 24,.tmp 25],[23]),qu (⟨nO,nO,.mapupd (.sc .str) (.tmp 21) (.tmp 23) (.tmp 26)⟩)]
def YB.r7:=[qe 27 .add 15 1,qm 15 27]
def YB.l0:DC:=.seq (qR YB.r3 [2,3,5,13,14,15,16]) (.seq (qC 16 .skip (.exit 0)) (.seq (.block 1 (.seq (qR YB.r4 [2,3,5,7,13,14,15]) (.seq (qR YB.r5 [2,3,5,7,13,14,15,20]) (qC 20 (.regD [0,1,2,3,4,5,6] YB.r6 (sO [2,3,5,13,14,15])) .skip)))) (qR YB.r7 [2,3,5,13,14,15])))
def YB.r8:=qQ 28 [wL 2 3,wm 5,wf 68 [.tmp 29,.tmp 30]]++[qm 28 31,qx 32 0 28,qx 33 1 28,qA 8 [.int .i64 0,.int .i64 0],qS 2 8 32,qm 9 33]
def YB.r9:=qQ 33 [wa 1 8,vl,ve .gtr 0]++[qm 4 36]
abbrev YB.id:Nat:=42
def YB.an:Ann:=[(0,[2,3]),(1,[2,3,5]),(2,[2,3,5,13,14,15]),(3,[2,3,5,13,14,15,16]),(4,[2,3,5,7,13,14,15]),(5,[2,3,5,7,13,14,15,20]),(6,[2,3,5,13,14,15]),(7,[2,3,5,13,14,15]),(8,[8]),(9,[4]),(1000006,[0,1,2,3,4,5,6]),(9000006,[23])]
def YB.body:DC:=.seq (qR YB.r0 [2,3]) (.seq (qR YB.r1 [2,3,5]) (.seq (.seq (qR YB.r2 [2,3,5,13,14,15]) (.block 0 (.loop YB.l0))) (.seq (qR YB.r8 [8]) (.seq (qR YB.r9 [4]) .ret))))
def YB.df:DF:=⟨37,[.tmp 4],YB.body⟩
theorem YB.ok:kO Zyg YB.an YB.id YB.df:=by unfold kO;kernel_rfl
def ZZ.r0:=[qi 4 0,qi 5 0]
def ZZ.r1:=qQ 9 [wm 0,vk .lenL,wi 0]
def ZZ.r2:=[qd 13 .lss 12 11]
def ZZ.r3:=qQ 13 [wm 12,wX 3 10 12,vL 3]++[qA 7 [.int .i64 0,.int .i64 0,.str []],qm 6 14,qS 3 7 16]
def ZZ.r4:List DOp:=[qm 18 1,qL 19 3 7,⟨sO 20,nO,.call (.tmp 18) [.tmp 19]⟩,qm 17 20,qx 21 0 17,qx 22 1 17,qm 8 21,qm 9 22]
def ZZ.r5:=[qm 23 6,qe 24 .eql 23 0]
def ZZ.r6:=[qm 25 8,qm 26 9,qm 4 25,qm 5 26]
def ZZ.r7:List DOp:=[qm 27 4,qm 28 8,⟨sO 29,nO,.q .min [.tmp 27,.tmp 28]⟩,qm 30 5,qm 31 9,⟨sO 32,nO,.q .max [.tmp 30,.tmp 31]⟩,qm 4 29,qm 5 32]
def ZZ.r8:=[qe 33 .add 12 1,qm 12 33]
def ZZ.l0:DC:=.seq (qR ZZ.r2 [1,4,5,10,11,12,13]) (.seq (qC 13 .skip (.exit 0)) (.seq (.block 1 (.seq (qR ZZ.r3 [1,4,5,6,7,10,11,12]) (.seq (qR ZZ.r4 [1,4,5,6,8,9,10,11,12]) (.seq (.seq (qR ZZ.r5 [1,4,5,8,9,10,11,12,24]) (qC 24 (qR ZZ.r6 [1,4,5,8,9,10,11,12]) .skip)) (qR ZZ.r7 [1,4,5,10,11,12]))))) (qR ZZ.r8 [1,4,5,10,11,12])))
def ZZ.r9:=[qm 34 4,qm 35 5,qm 4 34,qm 5 35]
abbrev ZZ.id:Nat:=43
def ZZ.body:DC:=.seq (qR ZZ.r0 [0,1,4,5]) (.seq (.seq (qR ZZ.r1 [1,4,5,10,11,12]) (.block 0 (.loop ZZ.l0))) (.seq (qR ZZ.r9 [4,5]) .ret))
def ZZ.an:=kA ZZ.body (Zyl 10)
def ZZ.df:DF:=⟨36,[.tmp 4,.tmp 5],ZZ.body⟩
theorem ZZ.ok:kO Zyg ZZ.an ZZ.id ZZ.df:=by unfold kO;kernel_rfl
def Wl.r0:=qQ 0 [wB 0,wi 0,wi 0]
def Wl.r1:=qQ 3 [wa 0 1,vl,wa 1 1,vl]++[qm 2 5,qm 3 7]
abbrev Wl.id:Nat:=44
def Wl.an:Ann:=[(0,[1]),(1,[2,3]),(1000001,[0,1,2,3,4,5])]
def Wl.body:DC:=.seq (qR Wl.r0 [1]) (.seq (.regD [0,1,2,3,4,5] (Jo Wl.r1) (sO [2,3])) .ret)
def Wl.df:DF:=⟨8,[.tmp 2,.tmp 3],Wl.body⟩
theorem Wl.ok:kO Zyg Wl.an Wl.id Wl.df:=by unfold kO;kernel_rfl
def Y9.r0:=qQ 0 [wB 0,wA [.int .i64 0,.int .i64 0],wi 0]
def Y9.r1:=qQ 4 [wL 15 1,wf 67 [.tmp 5],vk .not]++[qm 4 7]
def Y9.r2:List DOp:=[⟨sO 8,nO,.q (.build [.int .i64 0,.int .i64 0] []) []⟩,qS 2 2 8,qi 3 2]
def Y9.r3:=qQ 9 [wa 1 1,vl,ve .eql 2]++[qm 9 12]
def Y9.r4:List DOp:=qQ 12 [wa 5 1,vl,wa 5 1,vl]++[⟨sO 17,nO,.q (.build [.int .i64 0,.int .i64 0] [(0,1),(1,1)]) [.tmp 14,.tmp 16]⟩,qS 2 2 17,qi 3 0]
def Y9.r5:List DOp:=qQ 17 [wa 5 1,vl,wa 6 1,vl]++[⟨sO 22,nO,.q (.build [.int .i64 0,.int .i64 0] [(0,1),(1,1)]) [.tmp 19,.tmp 21]⟩,qS 2 2 22,qi 3 0]
abbrev Y9.id:Nat:=45
def Y9.body:DC:=.seq (qR Y9.r0 [1,2]) (.seq (.block 0 (.seq (qR Y9.r1 [1,2,4]) (qC 4 (.seq (qR Y9.r2 [2,3]) .ret) (.seq (qR Y9.r3 [1,2,9]) (qC 9 (.seq (qR Y9.r4 [2,3]) .ret) .skip))))) (.seq (qR Y9.r5 [2,3]) .ret))
def Y9.an:=kA Y9.body (Zyl 6)
def Y9.df:DF:=⟨23,[.cellN 2 2,.tmp 3],Y9.body⟩
theorem Y9.ok:kO Zyg Y9.an Y9.id Y9.df:=by unfold kO;kernel_rfl
def Kd.r0:=[qB 1 0,qA 2 [.int .i64 0,.int .i64 0,.int .i64 0],qb 3 false]
def Kd.r1:=[qL 8 3 1,qf 9 69 [.tmp 8],qm 7 9]++qQ 9 [wx 0 7,wx 1 7,wx 2 7]++[qA 5 [.int .i64 0,.int .i64 0,.int .i64 0],qm 4 10,qS 3 5 11,qm 6 12]
def Kd.r2:=[qL 13 3 5,qm 14 6,qS 3 2 13,qm 3 14]
abbrev Kd.id:Nat:=46
def Kd.body:DC:=.seq (qR Kd.r0 [1,2]) (.seq (qR Kd.r1 [2,5,6]) (.seq (qR Kd.r2 [2,3]) .ret))
def Kd.an:=kA Kd.body (Zyl 3)
def Kd.df:DF:=⟨15,[.cellN 2 3,.tmp 3],Kd.body⟩
theorem Kd.ok:kO Zyg Kd.an Kd.id Kd.df:=by unfold kO;kernel_rfl
def Kp.r0:List DOp:=[qB 1 0,⟨sO 2,nO,.q .mv [.cst (.nilfn)]⟩]
def Kp.r1:List DOp:=[⟨sO 3,nO,.q (.mkfn (.func 70) 0) [.tmp 1]⟩,qm 2 3]
abbrev Kp.id:Nat:=47
def Kp.body:DC:=.seq (qR Kp.r0 [1]) (.seq (qR Kp.r1 [2]) .ret)
def Kp.an:=kA Kp.body (Zyl 2)
def Kp.df:DF:=⟨4,[.tmp 2],Kp.body⟩
theorem Kp.ok:kO Zyg Kp.an Kp.id Kp.df:=by unfold kO;kernel_rfl
def Wp.r0:=[qB 3 0,qB 5 2,qb 6 false]
def Wp.r1:=qQ 8 [wm 1,wl 3,vk .lenL,vd .eql 9]
def Wp.r2:=[ql 13 5,qe 14 .neq 13 0,qm 6 14]
def Wp.r3:=qQ 14 [wl 3,wm 1,vX 15 15,vL 15]++[qA 7 zF,qS 15 7 18]
def Wp.r4:List DOp:=[⟨sO 19,nO,.q (.mkfn (.func 72) 0) [.tmp 5,.tmp 7]⟩,⟨sO 20,nO,.q (.mkfn (.func 74) 0) [.tmp 3,.tmp 7]⟩,⟨sO 21,nO,.q (.build [.nilfn,.nilfn] [(0,1),(1,1)]) [.tmp 19,.tmp 20]⟩,qA 8 [.nilfn,.nilfn],qS 2 8 21]
def Wp.r5:=[qk 22 (.sliceA 2 1 false false false) 8,qf 23 76 [.tmp 22,.cst (.fn (.func 77) [] [])],qm 6 23]
abbrev Wp.id:Nat:=48
def Wp.body:DC:=.seq (qR Wp.r0 [1,3,5]) (.seq (.seq (qR Wp.r1 [1,3,5,12]) (qC 12 (.seq (qR Wp.r2 [6]) .ret) .skip)) (.seq (qR Wp.r3 [3,5,7]) (.seq (qR Wp.r4 [8]) (.seq (qR Wp.r5 [6]) .ret))))
def Wp.an:=kA Wp.body (Zyl 6)
def Wp.df:DF:=⟨24,[.tmp 6],Wp.body⟩
theorem Wp.ok:kO Zyg Wp.an Wp.id Wp.df:=by unfold kO;kernel_rfl
def Zt.r0:=[qi 4 0]
def Zt.r1:=qQ 5 [wm 0,vk .lenL,wi 0]
def Zt.r2:=[qd 9 .lss 8 7]
def Zt.r3:=[qm 10 8,qm 5 10]
def Zt.r4:List DOp:=qQ 10 [wm 1,wm 0,wm 5,vX 2 12,vL 2]++[⟨sO 16,nO,.call (.tmp 11) [.tmp 15]⟩]
def Zt.r5:=[qm 17 5,qm 4 17]
def Zt.r6:=[qe 18 .add 8 1,qm 8 18]
def Zt.l0:DC:=.seq (qR Zt.r2 [0,1,7,8,9]) (.seq (qC 9 .skip (.exit 0)) (.seq (.block 1 (.seq (qR Zt.r3 [0,1,5,7,8]) (.seq (qR Zt.r4 [0,1,5,7,8,16]) (qC 16 (.seq (qR Zt.r5 [4]) .ret) .skip)))) (qR Zt.r6 [0,1,7,8])))
def Zt.r7:=[qi 4 (-1)]
abbrev Zt.id:Nat:=49
def Zt.body:DC:=.seq (qR Zt.r0 [0,1]) (.seq (.seq (qR Zt.r1 [0,1,7,8]) (.block 0 (.loop Zt.l0))) (.seq (qR Zt.r7 [4]) .ret))
def Zt.an:=kA Zt.body (Zyl 8)
def Zt.df:DF:=⟨19,[.tmp 4],Zt.body⟩
theorem Zt.ok:kO Zyg Zt.an Zt.id Zt.df:=by unfold kO;kernel_rfl
def Wy.r0:=[qB 3 0,qi 6 0]
def Wy.r1:=[qi 7 0]
def Wy.r2:=qQ 7 [vm,wm 2,vd .lss 8]
def Wy.r4:=qQ 12 [wa 1 3,vl,wm 7,vX 15 14,va 0,vl,wm 1,vd .eql 18]
def Wy.r5:=[qm 21 7,qm 6 21]
def Wy.r3:=[qm 11 7,qe 12 .add 11 1,qm 7 12]
def Wy.l0:DC:=.seq (.seq (qR Wy.r2 [1,2,3,7,10]) (qC 10 .skip (.exit 0))) (.seq (.block 1 (.seq (qR Wy.r4 [1,2,3,7,20]) (qC 20 (.seq (qR Wy.r5 [6]) .ret) .skip))) (qR Wy.r3 [1,2,3,7]))
def Wy.r6:=[qi 6 (-1)]
abbrev Wy.id:Nat:=50
def Wy.body:DC:=.seq (qR Wy.r0 [1,2,3]) (.seq (.seq (qR Wy.r1 [1,2,3,7]) (.block 0 (.loop Wy.l0))) (.seq (qR Wy.r6 [6]) .ret))
def Wy.an:=kA Wy.body [0,1,2,4,5,3,6]
def Wy.df:DF:=⟨22,[.tmp 6],Wy.body⟩
theorem Wy.ok:kO Zyg Wy.an Wy.id Wy.df:=by unfold kO;kernel_rfl
def Zz.r0:=[qi 4 0]
def Zz.r1:=qQ 5 [wm 0,vk .lenL,wi 0]
def Zz.r2:=[qd 9 .lss 8 7]
def Zz.r3:=[qm 10 8,qm 5 10]
def Zz.r4:List DOp:=qQ 10 [wm 1,wm 0,wm 5,vX 15 12,vL 15]++[⟨sO 16,nO,.call (.tmp 11) [.tmp 15]⟩]
def Zz.r5:=[qm 17 5,qm 4 17]
def Zz.r6:=[qe 18 .add 8 1,qm 8 18]
def Zz.l0:DC:=.seq (qR Zz.r2 [0,1,7,8,9]) (.seq (qC 9 .skip (.exit 0)) (.seq (.block 1 (.seq (qR Zz.r3 [0,1,5,7,8]) (.seq (qR Zz.r4 [0,1,5,7,8,16]) (qC 16 (.seq (qR Zz.r5 [4]) .ret) .skip)))) (qR Zz.r6 [0,1,7,8])))
def Zz.r7:=[qi 4 (-1)]
abbrev Zz.id:Nat:=51
def Zz.body:DC:=.seq (qR Zz.r0 [0,1]) (.seq (.seq (qR Zz.r1 [0,1,7,8]) (.block 0 (.loop Zz.l0))) (.seq (qR Zz.r7 [4]) .ret))
def Zz.an:=kA Zz.body (Zyl 8)
def Zz.df:DF:=⟨19,[.tmp 4],Zz.body⟩
theorem Zz.ok:kO Zyg Zz.an Zz.id Zz.df:=by unfold kO;kernel_rfl
def Qj.r0:=[qb 2 false]
def Qj.r1:List DOp:=[⟨sO 3,nO,.q .mv [.cst (.fn (.func 78) [] [])]⟩]
def Qj.r2:List DOp:=qQ 3 [wm 0,vk .lenS,ve .geq 1,wm 0,vk .lenS,ve .leq 32]++[⟨sO 10,nO,.bsl 2 1 [.bool false] [0,1] [.tmp 6,.tmp 9]⟩]++qQ 10 [wf 81 [.tmp 10],vm,wy 12 (wm 0)]++[qy 12 ⟨sO 14,nO,.q .idxS [.tmp 13,.cst (.int .i64 0)]⟩]++qQ 14 [wy 12 (wf 79 [.tmp 14]),vO 12,vm,wy 17 (wm 0)]++[qy 17 ⟨sO 19,nO,.s2b (.tmp 18)⟩]++qQ 19 [wy 17 (wm 3),wy 17 (wf 82 [.tmp 19,.tmp 20]),wy 17 (vk .not),vO 17]++[qm 2 23]
abbrev Qj.id:Nat:=54
def Qj.body:DC:=.seq (qR Qj.r0 [0]) (.seq (qR Qj.r1 [0,3]) (.seq (qR Qj.r2 [2]) .ret))
def Qj.an:=kA Qj.body (Zyl 3)
def Qj.df:DF:=⟨24,[.tmp 2],Qj.body⟩
theorem Qj.ok:kO Zyg Qj.an Qj.id Qj.df:=by unfold kO;kernel_rfl
def Zr.r0:=[qB 1 0,qA 2 [.int .i64 0,.int .i64 0,.int .i64 0],qb 3 false]
def Zr.r1:=qQ 10 [wa 0 1,vl,wf 96 [.tmp 12],vk .not]
def Zr.r2:List DOp:=[⟨sO 15,nO,.q (.build [.int .i64 0,.int .i64 0,.int .i64 0] [(0,1),(1,1),(2,1)]) [.cst (.int .i64 (-1)),.cst (.int .i64 (-1)),.cst (.int .i64 1)]⟩,qS 3 2 15,qb 3 true]
def Zr.r3:=qQ 15 [wa 1 1,vl,vk .lenL,ve .lss 1,vm,wn 20 (wa 1 1),wn 20 vl,wn 20 (vk .lenL),wn 20 (ve .gtr 60),vo 20]
def Zr.r4:List DOp:=[⟨sO 26,nO,.q (.build [.int .i64 0,.int .i64 0,.int .i64 0] [(0,1),(1,1),(2,1)]) [.cst (.int .i64 (-1)),.cst (.int .i64 (-1)),.cst (.int .i64 3)]⟩,qS 3 2 26,qb 3 true]
def Zr.r5:List DOp:=qQ 26 [wa 1 1,vl,vk .lenL]++[⟨sO 30,nO,.mkslice 3 1 8 [.int .i64 0] (.tmp 29) (.tmp 29)⟩,qm 4 30]
def Zr.r6:=[qi 5 0]
def Zr.r7:=qQ 30 [wm 5,wa 1 1,vl,vk .lenL,vd .lss 31]
def Zr.r9:=qQ 37 [wa 1 1,vl,wm 5,vX 2 39,vL 2]++[qA 6 [.str [],.nilsl],qS 2 6 42]
def Zr.r10:=qQ 42 [wa 0 6,vl,wf 96 [.tmp 44],vk .not]
def Zr.r11:List DOp:=[qm 47 5,⟨sO 48,nO,.q (.build [.int .i64 0,.int .i64 0,.int .i64 0] [(0,1),(1,1),(2,1)]) [.tmp 47,.cst (.int .i64 (-1)),.cst (.int .i64 1)]⟩,qS 3 2 48,qb 3 true]
def Zr.r12:=qQ 48 [wL 3 1,wa 0 6,vl,wm 5,wf 29 [.tmp 49,.tmp 51,.tmp 52],ve .geq 0]
def Zr.r13:List DOp:=[qm 55 5,⟨sO 56,nO,.q (.build [.int .i64 0,.int .i64 0,.int .i64 0] [(0,1),(1,1),(2,1)]) [.tmp 55,.cst (.int .i64 (-1)),.cst (.int .i64 2)]⟩,qS 3 2 56,qb 3 true]
def Zr.r14:=qQ 56 [wa 1 6,vl,vk .lenL,ve .lss 1,vm,wn 61 (wa 1 6),wn 61 vl,wn 61 (vk .lenL),wn 61 (ve .gtr 40),vo 61]
def Zr.r15:List DOp:=[qm 67 5,⟨sO 68,nO,.q (.build [.int .i64 0,.int .i64 0,.int .i64 0] [(0,1),(1,1),(2,1)]) [.tmp 67,.cst (.int .i64 (-1)),.cst (.int .i64 3)]⟩,qS 3 2 68,qb 3 true]
def Zr.r16:=[qi 7 0]
def Zr.r17:=qQ 68 [wm 7,wa 1 6,vl,vk .lenL,vd .lss 69]
def Zr.r19:=qQ 75 [wL 3 1,wm 5,wm 7,wf 97 [.tmp 76,.tmp 77,.tmp 78]]++[qm 8 79]
def Zr.r20:=[qm 80 8,qe 81 .neq 80 0]
def Zr.r21:List DOp:=qQ 81 [wm 5,wm 7,wm 8]++[⟨sO 85,nO,.q (.build [.int .i64 0,.int .i64 0,.int .i64 0] [(0,1),(1,1),(2,1)]) [.tmp 82,.tmp 83,.tmp 84]⟩,qS 3 2 85,qb 3 true]
def Zr.r18:=[qm 74 7,qe 75 .add 74 1,qm 7 75]
def Zr.l1:DC:=.seq (.seq (qR Zr.r17 [1,2,4,5,6,7,73]) (qC 73 .skip (.exit 2))) (.seq (.block 3 (.seq (qR Zr.r19 [1,2,4,5,6,7,8]) (.seq (qR Zr.r20 [1,2,4,5,6,7,8,81]) (qC 81 (.seq (qR Zr.r21 [2,3]) .ret) .skip)))) (qR Zr.r18 [1,2,4,5,6,7]))
def Zr.r22:=[qL 86 2 6,qf 87 98 [.tmp 86],qm 9 87]
def Zr.r23:=[qi 10 0]
def Zr.r24:=qQ 87 [wm 10,wm 9,vk .lenL,vd .lss 88]
def Zr.r26:=[qu (qm 94 4),qu (qm 95 5),qu (qm 96 4),qu (qm 97 5),qu (qX 98 1 96 97),qu (ql 99 98),qu (qm 100 4),qu (qL 101 3 1),qu (qm 102 9),qu (qm 103 10),qu (qX 104 1 102 103),qu (ql 105 104),qu (qm 106 5),(qf 107 29 [.tmp 101,.tmp 105,.tmp 106],[99]),qu (qX 108 1 100 107),qu (ql 109 108),qu (⟨sO 110,nO,.q .max [.tmp 99,.tmp 109]⟩),qu (qX 111 1 94 95),qu (qs 111 110)]
def Zr.r25:=[qm 92 10,qe 93 .add 92 1,qm 10 93]
def Zr.l2:DC:=.seq (.seq (qR Zr.r24 [1,2,4,5,9,10,91]) (qC 91 .skip (.exit 4))) (.seq (.block 5 (.regD [0,1,2,3,4,5,6,7,8,9,10,11,12,13,14,15,16,17,18] Zr.r26 (sO [1,2,4,5,9,10]))) (qR Zr.r25 [1,2,4,5,9,10]))
def Zr.r27:=qQ 111 [wm 4,wm 5,vX 1 112,vl,ve .add 1,wX 1 112 113]++[qs 117 116]
def Zr.r28:=qQ 117 [wm 4,wm 5,vX 1 118,vl,ve .gtr 16]
def Zr.r29:List DOp:=[qm 123 5,⟨sO 124,nO,.q (.build [.int .i64 0,.int .i64 0,.int .i64 0] [(0,1),(1,1),(2,1)]) [.tmp 123,.cst (.int .i64 (-1)),.cst (.int .i64 10)]⟩,qS 3 2 124,qb 3 true]
def Zr.r8:=[qm 36 5,qe 37 .add 36 1,qm 5 37]
def Zr.l0:DC:=.seq (.seq (qR Zr.r7 [1,2,4,5,35]) (qC 35 .skip (.exit 0))) (.seq (.block 1 (.seq (qR Zr.r9 [1,2,4,5,6]) (.seq (.seq (qR Zr.r10 [1,2,4,5,6,46]) (qC 46 (.seq (qR Zr.r11 [2,3]) .ret) .skip)) (.seq (.seq (qR Zr.r12 [1,2,4,5,6,54]) (qC 54 (.seq (qR Zr.r13 [2,3]) .ret) .skip)) (.seq (.seq (qR Zr.r14 [1,2,4,5,6,66]) (qC 66 (.seq (qR Zr.r15 [2,3]) .ret) .skip)) (.seq (.seq (qR Zr.r16 [1,2,4,5,6,7]) (.block 2 (.loop Zr.l1))) (.seq (qR Zr.r22 [1,2,4,5,9]) (.seq (.seq (qR Zr.r23 [1,2,4,5,9,10]) (.block 4 (.loop Zr.l2))) (.seq (qR Zr.r27 [1,2,4,5]) (.seq (qR Zr.r28 [1,2,4,5,122]) (qC 122 (.seq (qR Zr.r29 [2,3]) .ret) .skip))))))))))) (qR Zr.r8 [1,2,4,5]))
def Zr.r30:=qQ 124 [wL 3 1,wa 2 1,vl,wa 1 1,vl,vk .lenL,wf 29 [.tmp 125,.tmp 127,.tmp 130],ve .lss 0]
def Zr.r31:List DOp:=[⟨sO 133,nO,.q (.build [.int .i64 0,.int .i64 0,.int .i64 0] [(0,1),(1,1),(2,1)]) [.cst (.int .i64 (-1)),.cst (.int .i64 (-1)),.cst (.int .i64 11)]⟩,qS 3 2 133,qb 3 true]
def Zr.r32:List DOp:=[⟨sO 134,nO,.q (.build [.int .i64 0,.int .i64 0,.int .i64 0] []) []⟩,qS 3 2 134,qb 3 false]
abbrev Zr.id:Nat:=63
def Zr.an:Ann:=[(0,[1,2]),(1,[1,2,14]),(2,[2,3]),(3,[1,2,25]),(4,[2,3]),(5,[1,2,4]),(6,[1,2,4,5]),(7,[1,2,4,5,35]),(8,[1,2,4,5]),(9,[1,2,4,5,6]),(10,[1,2,4,5,6,46]),(11,[2,3]),(12,[1,2,4,5,6,54]),(13,[2,3]),(14,[1,2,4,5,6,66]),(15,[2,3]),(16,[1,2,4,5,6,7]),(17,[1,2,4,5,6,7,73]),(18,[1,2,4,5,6,7]),(19,[1,2,4,5,6,7,8]),(20,[1,2,4,5,6,7,8,81]),(21,[2,3]),(22,[1,2,4,5,9]),(23,[1,2,4,5,9,10]),(24,[1,2,4,5,9,10,91]),(25,[1,2,4,5,9,10]),(26,[1,2,4,5,9,10]),(27,[1,2,4,5]),(28,[1,2,4,5,122]),(29,[2,3]),(30,[2,132]),(31,[2,3]),(32,[2,3]),(1000026,[0,1,2,3,4,5,6,7,8,9,10,11,12,13,14,15,16,17,18]),(17000026,[99])]
def Zr.body:DC:=.seq (qR Zr.r0 [1,2]) (.seq (.seq (qR Zr.r1 [1,2,14]) (qC 14 (.seq (qR Zr.r2 [2,3]) .ret) .skip)) (.seq (.seq (qR Zr.r3 [1,2,25]) (qC 25 (.seq (qR Zr.r4 [2,3]) .ret) .skip)) (.seq (qR Zr.r5 [1,2,4]) (.seq (.seq (qR Zr.r6 [1,2,4,5]) (.block 0 (.loop Zr.l0))) (.seq (.seq (qR Zr.r30 [2,132]) (qC 132 (.seq (qR Zr.r31 [2,3]) .ret) .skip)) (.seq (qR Zr.r32 [2,3]) .ret))))))
def Zr.df:DF:=⟨135,[.cellN 2 3,.tmp 3],Zr.body⟩
theorem Zr.ok:kO Zyg Zr.an Zr.id Zr.df:=by unfold kO;kernel_rfl
def YG.r0:List DOp:=[qB 1 0,⟨sO 2,nO,.q .mv [.cst (.nilsl)]⟩,qi 3 0]
def YG.r1:List DOp:=[⟨sO 4,nO,.q .mv [.cst (.nilsl)]⟩]
def YG.r2:=[qi 5 0]
def YG.r3:=[qi 6 0]
def YG.r4:=qQ 6 [vm,wa 1 1,vl,vk .lenL,vd .lss 7]
def YG.r6:List DOp:=[qm 14 4,qm 15 5,⟨sO 16,nO,.bsl 1 1 [.int .i64 0] [0] [.tmp 15]⟩,⟨sO 17,nO,.append 3 1 8 [.int .i64 0] (.tmp 14) (.tmp 16)⟩,qm 4 17]
def YG.r7:=qQ 17 [wa 1 1,vl,wm 6,vX 15 19,vL 15,wm 5,wf 99 [.tmp 22,.tmp 23]]++[qm 5 24]
def YG.r5:=[qm 12 6,qe 13 .add 12 1,qm 6 13]
def YG.l0:DC:=.seq (.seq (qR YG.r4 [1,4,5,6,11]) (qC 11 .skip (.exit 0))) (.seq (.block 1 (.seq (qR YG.r6 [1,4,5,6]) (qR YG.r7 [1,4,5,6]))) (qR YG.r5 [1,4,5,6]))
def YG.r8:=[qm 25 4,qm 26 5,qm 2 25,qm 3 26]
abbrev YG.id:Nat:=64
def YG.body:DC:=.seq (qR YG.r0 [1]) (.seq (qR YG.r1 [1,4]) (.seq (qR YG.r2 [1,4,5]) (.seq (.seq (qR YG.r3 [1,4,5,6]) (.block 0 (.loop YG.l0))) (.seq (qR YG.r8 [2,3]) .ret))))
def YG.an:=kA YG.body [0,1,2,3,4,6,7,5,8]
def YG.df:DF:=⟨27,[.tmp 2,.tmp 3],YG.body⟩
theorem YG.ok:kO Zyg YG.an YG.id YG.df:=by unfold kO;kernel_rfl
def QU.r0:=[qB 1 0,qb 2 false]
def QU.r1:=qQ 2 [wa 3 1,vl,vm,wn 5 (wa 1 1),wn 5 vl,wn 5 (ve .neq 1),wn 5 vm,wy 9 (wa 1 1),wy 9 vl,wy 9 (ve .neq 2),wn 5 (vO 9),wn 5 vm,wy 14 (wa 1 1),wy 14 vl,wy 14 (ve .neq 10),wn 5 (vO 14),vo 5]++[qm 2 19]
abbrev QU.id:Nat:=65
def QU.body:DC:=.seq (qR QU.r0 [1]) (.seq (qR QU.r1 [2]) .ret)
def QU.an:=kA QU.body (Zyl 2)
def QU.df:DF:=⟨20,[.tmp 2],QU.body⟩
theorem QU.ok:kO Zyg QU.an QU.id QU.df:=by unfold kO;kernel_rfl
def Ks.r0:List DOp:=[qB 1 0,⟨sO 2,nO,.q .mv [.cst (.nilmap)]⟩]
def Ks.r1:=qQ 2 [wa 1 1,vl,wf 100 [.tmp 4]]++[qm 2 5]
abbrev Ks.id:Nat:=66
def Ks.body:DC:=.seq (qR Ks.r0 [1]) (.seq (qR Ks.r1 [2]) .ret)
def Ks.an:=kA Ks.body (Zyl 2)
def Ks.df:DF:=⟨6,[.tmp 2],Ks.body⟩
theorem Ks.ok:kO Zyg Ks.an Ks.id Ks.df:=by unfold kO;kernel_rfl
def Kr.r0:=[qB 1 0,qb 2 false]
def Kr.r1:=qQ 2 [wa 1 1,vl,ve .eql 1,vm,wn 6 (wa 1 1),wn 6 vl,wn 6 (ve .eql 2),vo 6,vm,wn 11 (wa 1 1),wn 11 vl,wn 11 (ve .eql 3),vo 11]++[qm 2 15]
abbrev Kr.id:Nat:=67
def Kr.body:DC:=.seq (qR Kr.r0 [1]) (.seq (qR Kr.r1 [2]) .ret)
def Kr.an:=kA Kr.body (Zyl 2)
def Kr.df:DF:=⟨16,[.tmp 2],Kr.body⟩
theorem Kr.ok:kO Zyg Kr.an Kr.id Kr.df:=by unfold kO;kernel_rfl
def YL.r0:=qQ 1 [wB 0,wB 1,wA [.int .i64 0,.int .i64 0],wi 0]
def YL.r1:List DOp:=[⟨sO 6,nO,.q .mv [.cst (.fn (.func 101) [] [])]⟩]
def YL.r2:=qQ 8 [wL 2 2,wl 3,wm 6,wf 102 [.tmp 9,.cst (.str []),.tmp 10,.tmp 11]]++[qm 7 12]
def YL.r3:=[qm 13 7,qe 14 .neq 13 0]
def YL.r4:List DOp:=[⟨sO 15,nO,.q (.build [.int .i64 0,.int .i64 0] []) []⟩,qm 16 7,qS 2 4 15,qm 5 16]
def YL.r5:List DOp:=[⟨sO 17,nO,.q (.mkfn (.func 103) 0) [.tmp 2,.tmp 3]⟩,qm 8 17]
def YL.r6:List DOp:=[qm 18 8,⟨sO 19,nO,.call (.tmp 18) [.cst (.bool true)]⟩,qm 20 8,⟨sO 21,nO,.call (.tmp 20) [.cst (.bool false)]⟩,⟨sO 22,nO,.q (.build [.int .i64 0,.int .i64 0] [(0,1),(1,1)]) [.tmp 19,.tmp 21]⟩,qS 2 4 22,qi 5 0]
abbrev YL.id:Nat:=68
def YL.body:DC:=.seq (qR YL.r0 [2,3,4]) (.seq (qR YL.r1 [2,3,4,6]) (.seq (.seq (qR YL.r2 [2,3,4,7]) (.seq (qR YL.r3 [2,3,4,7,14]) (qC 14 (.seq (qR YL.r4 [4,5]) .ret) .skip))) (.seq (qR YL.r5 [4,8]) (.seq (qR YL.r6 [4,5]) .ret))))
def YL.an:=kA YL.body (Zyl 7)
def YL.df:DF:=⟨23,[.cellN 4 2,.tmp 5],YL.body⟩
theorem YL.ok:kO Zyg YL.an YL.id YL.df:=by unfold kO;kernel_rfl
def Zn.r0:List DOp:=[qB 1 0,⟨sO 2,nO,.q .mv [.cst (.nilptr)]⟩,qA 3 [.int .i64 0,.int .i64 0,.int .i64 0],qA 4 [.bool false]]
def Zn.r1:List DOp:=[qL 9 3 1,⟨sO 10,nO,.mkmap⟩,⟨sO 11,nO,.mkmap⟩,⟨sO 12,nO,.q (.build [.str [],.nilsl,.str [],.nilmap,.nilmap,.int .i64 0,.int .i64 0,.str [],.nilsl] [(0,3),(3,1),(4,1),(5,1),(6,1)]) [.tmp 9,.tmp 10,.tmp 11,.cst (.int .i64 (-1)),.cst (.int .i64 (-1))]⟩,qB 13 12,qm 2 13]
def Zn.r2:List DOp:=[⟨sO 14,nO,.q (.mkfn (.func 106) 0) [.tmp 3,.tmp 4]⟩,⟨nO,nO,.defer (.tmp 14) []⟩]
def Zn.r3:=qQ 14 [wm 2,wa 0 1,vl,wf 54 [.tmp 17],wf 107 [.tmp 15,.tmp 18,.cst (.int .i64 1)]]
def Zn.r4:=qQ 19 [wm 2,wa 1 1,vl,vk .lenL,ve .geq 1,vm,wy 25 (wa 1 1),wy 25 vl,wy 25 (vk .lenL),wy 25 (ve .leq 60),vO 25,wf 107 [.tmp 20,.tmp 30,.cst (.int .i64 3)]]
def Zn.r5:=qQ 31 [wa 1 1,vl,vk .lenL,wi 0]
def Zn.r6:=[qd 36 .lss 35 34]
def Zn.r7:=qQ 36 [wm 35,wX 2 33 35,vL 2]++[qA 6 [.str [],.nilsl],qm 5 37,qS 2 6 39]
def Zn.r8:=qQ 39 [wm 2,wm 5,wk .nilck 40,va 5]++[qs 43 41]
def Zn.r9:=qQ 43 [wm 2,wL 2 6,wf 108 [.tmp 44,.tmp 45]]
def Zn.r10:=[qe 47 .add 35 1,qm 35 47]
def Zn.l0:DC:=.seq (qR Zn.r6 [1,2,3,4,33,34,35,36]) (.seq (qC 36 .skip (.exit 0)) (.seq (.block 1 (.seq (qR Zn.r7 [1,2,3,4,5,6,33,34,35]) (.seq (qR Zn.r8 [1,2,3,4,6,33,34,35]) (qR Zn.r9 [1,2,3,4,33,34,35])))) (qR Zn.r10 [1,2,3,4,33,34,35])))
def Zn.r11:List DOp:=qQ 47 [wm 2,vk .nilck,va 5]++[⟨nO,nO,.store1 (.tmp 50) (.cst (.int .i64 (-1)))⟩]
def Zn.r12:List DOp:=qQ 51 [wm 2,vk .nilck,va 3,vl,wa 2 1,vl]++[⟨sO 58,nO,.q (.lookup (.sc .str) (.int .i64 0) true) [.tmp 55,.tmp 57]⟩,qm 51 58,qx 59 0 51,qx 60 1 51,qm 7 59,qm 8 60]
def Zn.r13:=qQ 60 [wm 2,wm 8,wf 107 [.tmp 61,.tmp 62,.cst (.int .i64 11)]]
def Zn.r14:List DOp:=[qm 64 2,⟨sO 65,nO,.q (.build [.int .i64 0,.int .i64 0,.int .i64 0] []) []⟩,qm 2 64,qS 3 3 65,⟨nO,nO,.store1 (.tmp 4) (.cst (.bool false))⟩]
abbrev Zn.id:Nat:=69
def Zn.an:Ann:=[(0,[1,3,4]),(1,[1,2,3,4]),(2,[1,2,3,4]),(3,[1,2,3,4]),(4,[1,2,3,4]),(5,[1,2,3,4,33,34,35]),(6,[1,2,3,4,33,34,35,36]),(7,[1,2,3,4,5,6,33,34,35]),(8,[1,2,3,4,6,33,34,35]),(9,[1,2,3,4,33,34,35]),(10,[1,2,3,4,33,34,35]),(11,[1,2,3,4]),(12,[2,3,4,8]),(13,[2,3,4]),(14,[2,3,4]),(1000012,[0,1,2,3,4,5,6,7,8,9,10,11])]
def Zn.body:DC:=.seq (qR Zn.r0 [1,3,4]) (.seq (qR Zn.r1 [1,2,3,4]) (.seq (qR Zn.r2 [1,2,3,4]) (.seq (qR Zn.r3 [1,2,3,4]) (.seq (qR Zn.r4 [1,2,3,4]) (.seq (.seq (qR Zn.r5 [1,2,3,4,33,34,35]) (.block 0 (.loop Zn.l0))) (.seq (qR Zn.r11 [1,2,3,4]) (.seq (.regD [0,1,2,3,4,5,6,7,8,9,10,11] (Jo Zn.r12) (sO [2,3,4,8])) (.seq (qR Zn.r13 [2,3,4]) (.seq (qR Zn.r14 [2,3,4]) .ret)))))))))
def Zn.df:DF:=⟨66,[.tmp 2,.cellN 3 3,.cell1 4],Zn.body⟩
theorem Zn.ok:kO Zyg Zn.an Zn.id Zn.df:=by unfold kO;kernel_rfl
def ZH.r0:=[qi 3 0]
def ZH.r1:=qQ 7 [wl 1,vk .lenL,wi 0]
def ZH.r2:=[qd 11 .lss 10 9]
def ZH.r3:=qQ 11 [wm 10,wX 15 8 10,vL 15]++[qA 5 zF,qm 4 12,qS 15 5 14]
def ZH.r4:List DOp:=qQ 14 [wm 0,wm 4,wm 3]++[⟨sO 18,nO,.call (.tmp 15) [.tmp 16,.tmp 17]⟩,qk 19 .not 18]
def ZH.r5:=[qu (qa 22 1 5),qu (ql 23 22),(qf 21 71 [],[23]),qu (⟨sO 24,nO,.q (.lookup (.sc .int) (.nilfn) true) [.tmp 21,.tmp 23]⟩),qu (qm 20 24),qu (qx 25 0 20),qu (qx 26 1 20),qu (qm 6 25),qu (qm 7 26)]
def ZH.r6:=[qm 27 7]
def ZH.r7:List DOp:=qQ 27 [wm 6,wL 15 5,wm 3]++[⟨sO 31,nO,.call (.tmp 28) [.tmp 29,.tmp 30]⟩,qe 32 .rem 31 8,qm 3 32]
def ZH.r8:=[qi 3 0]
def ZH.r9:=[qe 33 .add 10 1,qm 10 33]
def ZH.l0:DC:=.seq (qR ZH.r2 [0,1,3,8,9,10,11]) (.seq (qC 11 .skip (.exit 0)) (.seq (.block 1 (.seq (qR ZH.r3 [0,1,3,4,5,8,9,10]) (.seq (.seq (qR ZH.r4 [0,1,3,5,8,9,10,19]) (qC 19 .ret .skip)) (.seq (.regD [1,2,0,3,4,5,6,7,8] ZH.r5 (sO [0,1,3,5,6,7,8,9,10])) (.seq (qR ZH.r6 [0,1,3,5,6,8,9,10,27]) (qC 27 (qR ZH.r7 [0,1,3,8,9,10]) (qR ZH.r8 [0,1,3,8,9,10]))))))) (qR ZH.r9 [0,1,3,8,9,10])))
def ZH.r10:List DOp:=qQ 33 [wm 0,wl 1,vk .lenL,wm 3]++[⟨sO 38,nO,.call (.tmp 34) [.tmp 36,.tmp 37]⟩]
abbrev ZH.id:Nat:=70
def ZH.an:Ann:=[(0,[0,1,3]),(1,[0,1,3,8,9,10]),(2,[0,1,3,8,9,10,11]),(3,[0,1,3,4,5,8,9,10]),(4,[0,1,3,5,8,9,10,19]),(5,[0,1,3,5,6,7,8,9,10]),(6,[0,1,3,5,6,8,9,10,27]),(7,[0,1,3,8,9,10]),(8,[0,1,3,8,9,10]),(9,[0,1,3,8,9,10]),(10,[]),(1000005,[1,2,0,3,4,5,6,7,8]),(4000005,[23])]
def ZH.body:DC:=.seq (qR ZH.r0 [0,1,3]) (.seq (.seq (qR ZH.r1 [0,1,3,8,9,10]) (.block 0 (.loop ZH.l0))) (qR ZH.r10 []))
def ZH.df:DF:=⟨39,[],ZH.body⟩
theorem ZH.ok:kO Zyg ZH.an ZH.id ZH.df:=by unfold kO;kernel_rfl
def Ko.r0:List DOp:=[⟨sO 0,nO,.q .mv [.cst (.nilmap)]⟩]
def Ko.r1:List DOp:=[⟨sO 1,nO,.q .mv [.cst (.fn (.func 109) [] [])]⟩]
def Ko.r2:List DOp:=[⟨sO 2,nO,.mkmap⟩,qm 3 1,⟨nO,nO,.mapupd (.sc .int) (.tmp 2) (.cst (.int .i64 1)) (.tmp 3)⟩,qm 4 1,⟨nO,nO,.mapupd (.sc .int) (.tmp 2) (.cst (.int .i64 2)) (.tmp 4)⟩,⟨nO,nO,.mapupd (.sc .int) (.tmp 2) (.cst (.int .i64 10)) (.cst (.fn (.func 110) [] []))⟩,qm 5 2,qm 0 5]
abbrev Ko.id:Nat:=71
def Ko.body:DC:=.seq (qR Ko.r0 []) (.seq (qR Ko.r1 [1]) (.seq (qR Ko.r2 [0]) .ret))
def Ko.an:=kA Ko.body (Zyl 3)
def Ko.df:DF:=⟨6,[.tmp 0],Ko.body⟩
theorem Ko.ok:kO Zyg Ko.an Ko.id Ko.df:=by unfold kO;kernel_rfl
def WN.r0:=[qb 2 false]
def WN.r1:=qQ 2 [wl 0,ve .eql 0,vm,wn 5 (wL 15 1),wn 5 (wf 73 [.tmp 6]),wn 5 (vk .not),vo 5]++[qm 2 9]
abbrev WN.id:Nat:=72
def WN.body:DC:=.seq (qR WN.r0 [0,1]) (.seq (qR WN.r1 [2]) .ret)
def WN.an:=kA WN.body (Zyl 2)
def WN.df:DF:=⟨10,[.tmp 2],WN.body⟩
theorem WN.ok:kO Zyg WN.an WN.id WN.df:=by unfold kO;kernel_rfl
def KT.r0:=[qB 1 0,qb 2 false]
def KT.r1:=[qu (qa 7 1 1),qu (ql 8 7),(qf 6 71 [],[8]),qu (⟨sO 9,nO,.q (.lookup (.sc .int) (.nilfn) true) [.tmp 6,.tmp 8]⟩),qu (qm 5 9),qu (qx 10 0 5),qu (qx 11 1 5),qu (qm 3 10),qu (qm 4 11)]
def KT.r2:=qQ 11 [wm 4,vk .not,vm,wn 14 (wa 3 1),wn 14 vl,vo 14]++[qm 2 17]
abbrev KT.id:Nat:=73
def KT.an:Ann:=[(0,[1]),(1,[1,4]),(2,[2]),(1000001,[1,2,0,3,4,5,6,7,8]),(4000001,[8])]
def KT.body:DC:=.seq (qR KT.r0 [1]) (.seq (.regD [1,2,0,3,4,5,6,7,8] KT.r1 (sO [1,4])) (.seq (qR KT.r2 [2]) .ret))
def KT.df:DF:=⟨18,[.tmp 2],KT.body⟩
theorem KT.ok:kO Zyg KT.an KT.id KT.df:=by unfold kO;kernel_rfl
def Ws.r0:=[qb 2 false]
def Ws.r1:List DOp:=[ql 6 0,⟨sO 7,nO,.q (.build [.str [],.nilsl] [(1,1)]) [.tmp 6]⟩]++qQ 7 [wa 11 1,vl,wf 15 [.tmp 7,.tmp 9]]++[qm 5 10,qx 11 0 5,qx 12 1 5,qm 3 11,qm 4 12]
def Ws.r2:=qQ 12 [wa 1 1,vl,ve .neq 11,vm,wn 16 (wl 0),wn 16 (wm 3),wn 16 (wf 75 [.tmp 17,.tmp 18]),wn 16 (ve .eql 0),vo 16]++[qm 2 21]
abbrev Ws.id:Nat:=74
def Ws.body:DC:=.seq (qR Ws.r0 [0,1]) (.seq (qR Ws.r1 [0,1,3]) (.seq (qR Ws.r2 [2]) .ret))
def Ws.an:=kA Ws.body (Zyl 3)
def Ws.df:DF:=⟨22,[.tmp 2],Ws.body⟩
theorem Ws.ok:kO Zyg Ws.an Ws.id Ws.df:=by unfold kO;kernel_rfl
def Wo.r0:=[qB 3 1,qA 4 [.int .i64 0]]
def Wo.r1:=[qm 7 0,qf 8 47 [.tmp 7]]
def Wo.r2:=[qm 5 9]
def Wo.r3:=[qm 6 10]
def Wo.r4:=qQ 10 [wm 5,wl 3,vd .eql 11]
def Wo.r5:=[qm 14 6,qs 4 14]
def Wo.a0:DC:=.seq (qR Wo.r2 [3,4,5,9,10]) (qR Wo.r3 [3,4,5,6,9,10])
def Wo.b0:DC:=.block 1 (.seq (qR Wo.r4 [3,4,6,9,10,13]) (qC 13 (.seq (qR Wo.r5 [4]) .ret) .skip))
def Wo.r6:List DOp:=[⟨nO,nO,.store1 (.tmp 4) (.cst (.int .i64 0))⟩]
abbrev Wo.id:Nat:=75
def Wo.body:DC:=.seq (qR Wo.r0 [0,3,4,9,10]) (.seq (.seq (qR Wo.r1 [3,4,8,9,10]) (.block 0 (.rangeF (.tmp 8) [9,10] Wo.a0 Wo.b0))) (.seq (qR Wo.r6 [4]) .ret))
def Wo.an:=kA Wo.body (Zyl 7)
def Wo.df:DF:=⟨15,[.cell1 4],Wo.body⟩
theorem Wo.ok:kO Zyg Wo.an Wo.id Wo.df:=by unfold kO;kernel_rfl
def Yb.r0:=[qb 4 false]
def Yb.r1:=qQ 4 [wm 0,wm 1,wf 112 [.tmp 5,.tmp 6],ve .geq 0]++[qm 4 8]
abbrev Yb.id:Nat:=76
def Yb.body:DC:=.seq (qR Yb.r0 [0,1]) (.seq (qR Yb.r1 [4]) .ret)
def Yb.an:=kA Yb.body (Zyl 2)
def Yb.df:DF:=⟨9,[.tmp 4],Yb.body⟩
theorem Yb.ok:kO Zyg Yb.an Yb.id Yb.df:=by unfold kO;kernel_rfl
def WO.r0:=[qb 2 false]
def WO.r1:List DOp:=[qm 3 0,⟨sO 4,nO,.call (.tmp 3) []⟩,qk 5 .not 4,qm 2 5]
abbrev WO.id:Nat:=77
def WO.body:DC:=.seq (qR WO.r0 [0]) (.seq (qR WO.r1 [2]) .ret)
def WO.an:=kA WO.body (Zyl 2)
def WO.df:DF:=⟨6,[.tmp 2],WO.body⟩
theorem WO.ok:kO Zyg WO.an WO.id WO.df:=by unfold kO;kernel_rfl
def KU.r0:=[qb 2 false]
def KU.r1:=qQ 2 [wm 0,wf 79 [.tmp 3],vk .not,vm,wy 6 (wm 0),wy 6 (wf 80 [.tmp 7]),wy 6 (vk .not),vO 6,vm,wy 11 (wm 0)]++[qy 11 ⟨sO 13,nO,.q (.bin .neq (nO)) [.tmp 12,.cst (.int .u8 95)]⟩,qO 14 11 13,qm 2 14]
abbrev KU.id:Nat:=78
def KU.body:DC:=.seq (qR KU.r0 [0]) (.seq (qR KU.r1 [2]) .ret)
def KU.an:=kA KU.body (Zyl 2)
def KU.df:DF:=⟨15,[.tmp 2],KU.body⟩
theorem KU.ok:kO Zyg KU.an KU.id KU.df:=by unfold kO;kernel_rfl
def K8.r0:=[qb 2 false]
def K8.r1:List DOp:=[qm 3 0,⟨sO 4,nO,.q (.bin .geq (nO)) [.tmp 3,.cst (.int .u8 65)]⟩,qm 5 4,qy 5 (qm 6 0),qy 5 ⟨sO 7,nO,.q (.bin .leq (nO)) [.tmp 6,.cst (.int .u8 90)]⟩]++qQ 7 [vO 5,vm,wn 9 (wm 0)]++[qn 9 ⟨sO 11,nO,.q (.bin .geq (nO)) [.tmp 10,.cst (.int .u8 97)]⟩,qn 9 (qm 12 11),qy 12 (qm 13 0),qy 12 ⟨sO 14,nO,.q (.bin .leq (nO)) [.tmp 13,.cst (.int .u8 122)]⟩,qn 9 (qO 15 12 14),qo 16 9 15,qm 2 16]
abbrev K8.id:Nat:=79
def K8.body:DC:=.seq (qR K8.r0 [0]) (.seq (qR K8.r1 [2]) .ret)
def K8.an:=kA K8.body (Zyl 2)
def K8.df:DF:=⟨17,[.tmp 2],K8.body⟩
theorem K8.ok:kO Zyg K8.an K8.id K8.df:=by unfold kO;kernel_rfl
def Qo.r0:=[qb 2 false]
def Qo.r1:List DOp:=[qm 3 0,⟨sO 4,nO,.q (.bin .geq (nO)) [.tmp 3,.cst (.int .u8 48)]⟩,qm 5 4,qy 5 (qm 6 0),qy 5 ⟨sO 7,nO,.q (.bin .leq (nO)) [.tmp 6,.cst (.int .u8 57)]⟩,qO 8 5 7,qm 2 8]
abbrev Qo.id:Nat:=80
def Qo.body:DC:=.seq (qR Qo.r0 [0]) (.seq (qR Qo.r1 [2]) .ret)
def Qo.an:=kA Qo.body (Zyl 2)
def Qo.df:DF:=⟨9,[.tmp 2],Qo.body⟩
theorem Qo.ok:kO Zyg Qo.an Qo.id Qo.df:=by unfold kO;kernel_rfl
def QV.r0:=[qb 2 false]
def QV.r1:=qQ 2 [wm 0,wf 113 [.tmp 3,.cst (.bool false)],vk .not]++[qm 2 5]
abbrev QV.id:Nat:=81
def QV.body:DC:=.seq (qR QV.r0 [0]) (.seq (qR QV.r1 [2]) .ret)
def QV.an:=kA QV.body (Zyl 2)
def QV.df:DF:=⟨6,[.tmp 2],QV.body⟩
theorem QV.ok:kO Zyg QV.an QV.id QV.df:=by unfold kO;kernel_rfl
def Yn.r0:=[qb 4 false]
def Yn.r1:=qQ 4 [wm 0,wm 1,wf 114 [.tmp 5,.tmp 6],ve .geq 0]++[qm 4 8]
abbrev Yn.id:Nat:=82
def Yn.body:DC:=.seq (qR Yn.r0 [0,1]) (.seq (qR Yn.r1 [4]) .ret)
def Yn.an:=kA Yn.body (Zyl 2)
def Yn.df:DF:=⟨9,[.tmp 4],Yn.body⟩
theorem Yn.ok:kO Zyg Yn.an Yn.id Yn.df:=by unfold kO;kernel_rfl
def Wg.r0:=[qb 2 false]
def Wg.r1:=qQ 3 [wm 0,vk .lenS,ve .lss 1,vm,wn 7 (wm 0),wn 7 (vk .lenS),wn 7 (ve .gtr 32),vo 7,vm,wn 12 (wm 0)]++[qn 12 ⟨sO 14,nO,.q .idxS [.tmp 13,.cst (.int .i64 0)]⟩]++qQ 14 [wn 12 (wf 138 [.tmp 14]),wn 12 (vk .not),vo 12]
def Wg.r2:=[qb 2 false]
def Wg.r3:=[qi 3 0]
def Wg.r4:=qQ 17 [wm 3,wm 0,vk .lenS,vd .lss 18]
def Wg.r6:List DOp:=[qm 24 0,qm 25 3,⟨sO 26,nO,.q .idxS [.tmp 24,.tmp 25]⟩]++qQ 26 [wf 138 [.tmp 26],vk .not,vm,wy 29 (wm 0),wy 29 (wm 3)]++[qy 29 ⟨sO 32,nO,.q .idxS [.tmp 30,.tmp 31]⟩]++qQ 32 [wy 29 (wf 139 [.tmp 32]),wy 29 (vk .not),vO 29,vm,wy 36 (wm 0),wy 36 (wm 3)]++[qy 36 ⟨sO 39,nO,.q .idxS [.tmp 37,.tmp 38]⟩,qy 36 ⟨sO 40,nO,.q (.bin .neq (nO)) [.tmp 39,.cst (.int .u8 95)]⟩,qO 41 36 40]
def Wg.r7:=[qb 2 false]
def Wg.r5:=[qm 22 3,qe 23 .add 22 1,qm 3 23]
def Wg.l0:DC:=.seq (.seq (qR Wg.r4 [0,3,21]) (qC 21 .skip (.exit 0))) (.seq (.block 1 (.seq (qR Wg.r6 [0,3,41]) (qC 41 (.seq (qR Wg.r7 [2]) .ret) .skip))) (qR Wg.r5 [0,3]))
def Wg.r8:=[qb 2 true]
abbrev Wg.id:Nat:=96
def Wg.body:DC:=.seq (qR Wg.r0 [0]) (.seq (.seq (qR Wg.r1 [0,17]) (qC 17 (.seq (qR Wg.r2 [2]) .ret) .skip)) (.seq (.seq (qR Wg.r3 [0,3]) (.block 0 (.loop Wg.l0))) (.seq (qR Wg.r8 [2]) .ret)))
def Wg.an:=kA Wg.body [0,1,2,3,4,6,7,5,8]
def Wg.df:DF:=⟨42,[.tmp 2],Wg.body⟩
theorem Wg.ok:kO Zyg Wg.an Wg.id Wg.df:=by unfold kO;kernel_rfl
def Y4.r0:=[qB 3 0,qi 6 0]
def Y4.r1:=qQ 7 [wa 1 3,vl,wm 1,vX 2 9,va 1,vl,wm 2,vX 15 13,vL 15]++[qA 7 zF,qS 15 7 16]
def Y4.r2:=qQ 16 [wa 0 7,vl,wf 96 [.tmp 18],vk .not]
def Y4.r3:=[qi 6 1]
def Y4.r4:=qQ 20 [wa 1 3,vl,wm 1,vX 2 22,vL 2,wa 0 7,vl,wm 2,wf 50 [.tmp 25,.tmp 27,.tmp 28],ve .geq 0]
def Y4.r5:=[qi 6 2]
def Y4.r6:=qQ 30 [wa 1 7,vl,ve .lss 1,vm,wn 34 (wa 1 7),wn 34 vl,wn 34 (ve .gtr 12),vo 34]
def Y4.r7:=[qi 6 4]
def Y4.r8:=qQ 38 [wL 15 7,wf 140 [.tmp 39],vk .not]
def Y4.r9:=[qi 6 5]
def Y4.r10:=qQ 41 [wL 3 3,wm 1,wm 2,wf 141 [.tmp 42,.tmp 43,.tmp 44]]++[qm 6 45]
abbrev Y4.id:Nat:=97
def Y4.an:Ann:=[(0,[1,2,3]),(1,[1,2,3,7]),(2,[1,2,3,7,20]),(3,[6]),(4,[1,2,3,7,30]),(5,[6]),(6,[1,2,3,7,38]),(7,[6]),(8,[1,2,3,41]),(9,[6]),(10,[6]),(1000004,[0,1,2,3,4,5,6,7,8,9])]
def Y4.body:DC:=.seq (qR Y4.r0 [1,2,3]) (.seq (qR Y4.r1 [1,2,3,7]) (.seq (.seq (qR Y4.r2 [1,2,3,7,20]) (qC 20 (.seq (qR Y4.r3 [6]) .ret) .skip)) (.seq (.seq (.regD [0,1,2,3,4,5,6,7,8,9] (Jo Y4.r4) (sO [1,2,3,7,30])) (qC 30 (.seq (qR Y4.r5 [6]) .ret) .skip)) (.seq (.seq (qR Y4.r6 [1,2,3,7,38]) (qC 38 (.seq (qR Y4.r7 [6]) .ret) .skip)) (.seq (.seq (qR Y4.r8 [1,2,3,41]) (qC 41 (.seq (qR Y4.r9 [6]) .ret) .skip)) (.seq (qR Y4.r10 [6]) .ret))))))
def Y4.df:DF:=⟨46,[.tmp 6],Y4.body⟩
theorem Y4.ok:kO Zyg Y4.an Y4.id Y4.df:=by unfold kO;kernel_rfl
def Zs.r0:List DOp:=[qB 1 0,⟨sO 2,nO,.q .mv [.cst (.nilsl)]⟩]
def Zs.r1:List DOp:=[⟨sO 3,nO,.q .mv [.cst (.nilsl)]⟩]
def Zs.r2:=[qi 4 0]
def Zs.r3:=qQ 10 [wm 4,wa 1 1,vl,vk .lenL,vd .lss 11]
def Zs.r5:=qQ 17 [wa 1 1,vl,wm 4,vX 15 19,vL 15]++[qA 5 zF,qS 15 5 22]
def Zs.r6:List DOp:=[⟨sO 6,nO,.q .mv [.cst (.nilsl)]⟩]
def Zs.r7:=qQ 22 [wa 1 5,vl,ve .eql 7,vm,wn 26 (wa 1 5),wn 26 vl,wn 26 (ve .eql 8),vo 26,vm,wn 31 (wa 1 5),wn 31 vl,wn 31 (ve .eql 12),vo 31]
def Zs.r8:List DOp:=qQ 35 [wm 6,wa 9 5,vl]++[⟨sO 39,nO,.bsl 1 1 [.str []] [0] [.tmp 38]⟩,⟨sO 40,nO,.append 9 1 16 [.str []] (.tmp 36) (.tmp 39)⟩,qm 6 40]
def Zs.r9:=[qi 7 0]
def Zs.r10:=qQ 40 [wa 1 5,vl,ve .eql 9,vm,wy 44 (wm 7),wy 44 (wa 12 5),wy 44 vl,wy 44 (vk .lenL),wy 44 (vd .lss 45),vO 44]
def Zs.r12:List DOp:=qQ 52 [wm 6,wa 12 5,vl,wm 7,vX 3 55,va 2,vl]++[⟨sO 60,nO,.bsl 1 1 [.str []] [0] [.tmp 59]⟩,⟨sO 61,nO,.append 9 1 16 [.str []] (.tmp 53) (.tmp 60)⟩,qm 6 61]
def Zs.r11:=[qm 51 7,qe 52 .add 51 1,qm 7 52]
def Zs.l1:DC:=.seq (.seq (qR Zs.r10 [1,3,4,5,6,7,50]) (qC 50 .skip (.exit 2))) (.seq (.block 3 (qR Zs.r12 [1,3,4,5,6,7])) (qR Zs.r11 [1,3,4,5,6,7]))
def Zs.r13:=[qi 8 0]
def Zs.r14:=qQ 61 [wm 8,wm 6,vk .lenL,vd .lss 62]
def Zs.r16:=[qb 9 false]
def Zs.r17:=[qi 10 0]
def Zs.r18:=qQ 67 [wm 10,wm 3,vk .lenL,vd .lss 68]
def Zs.r20:=qQ 73 [wm 9,vm,wn 75 (wm 3),wn 75 (wm 10),wn 75 (vX 1 76),wn 75 vl,wn 75 (wm 6),wn 75 (wm 8),wn 75 (vX 1 80),wn 75 vl,wn 75 (vd .eql 79),vo 75]++[qm 9 85]
def Zs.r19:=[qm 72 10,qe 73 .add 72 1,qm 10 73]
def Zs.l3:DC:=.seq (.seq (qR Zs.r18 [1,3,4,6,8,9,10,71]) (qC 71 .skip (.exit 6))) (.seq (.block 7 (.regD [0,1,2,3,4,5,6,7,8,9,10,11,12] (Jo Zs.r20) (sO [1,3,4,6,8,9,10]))) (qR Zs.r19 [1,3,4,6,8,9,10]))
def Zs.r21:=[qm 86 9,qk 87 .not 86]
def Zs.r22:List DOp:=qQ 87 [wm 3,wm 6,wm 8,vX 1 89,vl]++[⟨sO 93,nO,.bsl 1 1 [.str []] [0] [.tmp 92]⟩,⟨sO 94,nO,.append 9 1 16 [.str []] (.tmp 88) (.tmp 93)⟩,qm 3 94]
def Zs.r15:=[qm 66 8,qe 67 .add 66 1,qm 8 67]
def Zs.l2:DC:=.seq (.seq (qR Zs.r14 [1,3,4,6,8,65]) (qC 65 .skip (.exit 4))) (.seq (.block 5 (.seq (qR Zs.r16 [1,3,4,6,8,9]) (.seq (.seq (qR Zs.r17 [1,3,4,6,8,9,10]) (.block 6 (.loop Zs.l3))) (.seq (qR Zs.r21 [1,3,4,6,8,87]) (qC 87 (qR Zs.r22 [1,3,4,6,8]) .skip))))) (qR Zs.r15 [1,3,4,6,8]))
def Zs.r4:=[qm 16 4,qe 17 .add 16 1,qm 4 17]
def Zs.l0:DC:=.seq (.seq (qR Zs.r3 [1,3,4,15]) (qC 15 .skip (.exit 0))) (.seq (.block 1 (.seq (qR Zs.r5 [1,3,4,5]) (.seq (qR Zs.r6 [1,3,4,5,6]) (.seq (.seq (qR Zs.r7 [1,3,4,5,6,35]) (qC 35 (qR Zs.r8 [1,3,4,5,6]) .skip)) (.seq (.seq (qR Zs.r9 [1,3,4,5,6,7]) (.block 2 (.loop Zs.l1))) (.seq (qR Zs.r13 [1,3,4,6,8]) (.block 4 (.loop Zs.l2)))))))) (qR Zs.r4 [1,3,4]))
def Zs.r23:=[qm 95 3,qm 2 95]
abbrev Zs.id:Nat:=98
def Zs.an:Ann:=[(0,[1]),(1,[1,3]),(2,[1,3,4]),(3,[1,3,4,15]),(4,[1,3,4]),(5,[1,3,4,5]),(6,[1,3,4,5,6]),(7,[1,3,4,5,6,35]),(8,[1,3,4,5,6]),(9,[1,3,4,5,6,7]),(10,[1,3,4,5,6,7,50]),(11,[1,3,4,5,6,7]),(12,[1,3,4,5,6,7]),(13,[1,3,4,6,8]),(14,[1,3,4,6,8,65]),(15,[1,3,4,6,8]),(16,[1,3,4,6,8,9]),(17,[1,3,4,6,8,9,10]),(18,[1,3,4,6,8,9,10,71]),(19,[1,3,4,6,8,9,10]),(20,[1,3,4,6,8,9,10]),(21,[1,3,4,6,8,87]),(22,[1,3,4,6,8]),(23,[2]),(1000020,[0,1,2,3,4,5,6,7,8,9,10,11,12])]
def Zs.body:DC:=.seq (qR Zs.r0 [1]) (.seq (qR Zs.r1 [1,3]) (.seq (.seq (qR Zs.r2 [1,3,4]) (.block 0 (.loop Zs.l0))) (.seq (qR Zs.r23 [2]) .ret)))
def Zs.df:DF:=⟨96,[.tmp 2],Zs.body⟩
theorem Zs.ok:kO Zyg Zs.an Zs.id Zs.df:=by unfold kO;kernel_rfl
def Y8.r0:=[qB 2 0,qi 4 0]
def Y8.r1:=[qa 5 1 2,ql 6 5]
def Y8.r2:=[qe 8 .eql 6 1,qm 7 8]
def Y8.r3:=[qe 9 .eql 6 2,qm 7 9]
def Y8.r4:=qQ 9 [wm 1,wa 2 2,vl,vd .add 10,ve .rem 8]++[qm 4 14]
def Y8.r5:=[qe 16 .eql 6 10,qm 15 16]
def Y8.r6:=qQ 16 [wa 2 2,vl,ve .eql 2,vm,wn 20 (wa 2 2),wn 20 vl,wn 20 (ve .eql 4),vo 20]
def Y8.r7:=qQ 24 [wm 1,wa 2 2,vl,vd .rem 25,ve .neq 0]
def Y8.r8:=[qm 30 1,qe 31 .add 30 1,qm 1 31]
def Y8.l0:DC:=.seq (.seq (qR Y8.r7 [1,2,29]) (qC 29 .skip (.exit 1))) (.block 2 (qR Y8.r8 [1,2]))
def Y8.r9:=[qm 32 1,qe 33 .rem 32 8,qm 4 33]
def Y8.r10:=[qi 4 0]
abbrev Y8.id:Nat:=99
def Y8.body:DC:=.seq (qR Y8.r0 [1,2]) (.seq (.seq (qR Y8.r1 [1,2,6]) (.block 0 (.seq (.seq (qR Y8.r2 [1,2,6,7]) (qC 7 .skip (qR Y8.r3 [1,2,6,7]))) (qC 7 (.seq (qR Y8.r4 [4]) .ret) (.seq (qR Y8.r5 [1,2,15]) (qC 15 (.seq (qR Y8.r6 [1,2,24]) (qC 24 (.seq (.block 1 (.loop Y8.l0)) (.seq (qR Y8.r9 [4]) .ret)) .skip)) .skip)))))) (.seq (qR Y8.r10 [4]) .ret))
def Y8.an:=kA Y8.body (Zyl 11)
def Y8.df:DF:=⟨34,[.tmp 4],Y8.body⟩
theorem Y8.ok:kO Zyg Y8.an Y8.id Y8.df:=by unfold kO;kernel_rfl
def Yc.r0:List DOp:=[⟨sO 2,nO,.q .mv [.cst (.nilmap)]⟩]
def Yc.r1:List DOp:=[⟨sO 8,nO,.mkmap⟩,qm 3 8]
def Yc.r2:=qQ 8 [wm 0,vk .lenL,wi 0]
def Yc.r3:=[qd 12 .lss 11 10]
def Yc.r4:=[qX 13 15 9 11,qL 14 15 13,qA 5 zF,qS 15 5 14]
def Yc.r5:=[qL 16 15 5,qf 17 45 [.tmp 16],qm 15 17,qx 18 0 15,qx 19 1 15,qA 6 [.int .i64 0,.int .i64 0],qS 2 6 18,qm 7 19]
def Yc.r6:=[qm 20 7,qe 21 .eql 20 0]
def Yc.r7:List DOp:=qQ 21 [wm 3,wa 0 5,vl,wL 2 6]++[⟨nO,nO,.mapupd (.sc .str) (.tmp 22) (.tmp 24) (.tmp 25)⟩]
def Yc.r8:=[qe 26 .add 11 1,qm 11 26]
def Yc.l0:DC:=.seq (qR Yc.r3 [3,9,10,11,12]) (.seq (qC 12 .skip (.exit 0)) (.seq (.block 1 (.seq (qR Yc.r4 [3,5,9,10,11]) (.seq (qR Yc.r5 [3,5,6,7,9,10,11]) (.seq (qR Yc.r6 [3,5,6,9,10,11,21]) (qC 21 (qR Yc.r7 [3,9,10,11]) .skip))))) (qR Yc.r8 [3,9,10,11])))
def Yc.r9:=[qm 27 3,qm 2 27]
abbrev Yc.id:Nat:=100
def Yc.body:DC:=.seq (qR Yc.r0 [0]) (.seq (qR Yc.r1 [0,3]) (.seq (.seq (qR Yc.r2 [3,9,10,11]) (.block 0 (.loop Yc.l0))) (.seq (qR Yc.r9 [2]) .ret)))
def Yc.an:=kA Yc.body (Zyl 10)
def Yc.df:DF:=⟨28,[.tmp 2],Yc.body⟩
theorem Yc.ok:kO Zyg Yc.an Yc.id Yc.df:=by unfold kO;kernel_rfl
def Y3.r0:=[qB 1 0,qb 2 false]
def Y3.r1:List DOp:=qQ 2 [wa 0 1,vl,ve .geq 0,wa 0 1,vl,wa 1 1,vl,vd .leq 7,wa 1 1,vl,ve .lss 34359738368]++[⟨sO 14,nO,.bsl 3 1 [.bool false] [0,1,2] [.tmp 5,.tmp 10,.tmp 13]⟩,qf 15 81 [.tmp 14],qm 2 15]
abbrev Y3.id:Nat:=101
def Y3.body:DC:=.seq (qR Y3.r0 [1]) (.seq (qR Y3.r1 [2]) .ret)
def Y3.an:=kA Y3.body (Zyl 2)
def Y3.df:DF:=⟨16,[.tmp 2],Y3.body⟩
theorem Y3.ok:kO Zyg Y3.an Y3.id Y3.df:=by unfold kO;kernel_rfl
def Ze.r0:=qQ 3 [wB 0,wB 1,wB 2,wB 3,wA [.int .i64 0]]
def Ze.r1:=qQ 12 [wL 2 4,wf 142 [.tmp 13],vk .not]
def Ze.r2:List DOp:=[⟨nO,nO,.store1 (.tmp 8) (.cst (.int .i64 2))⟩]
def Ze.r3:List DOp:=[qA 9 [.bool false],⟨nO,nO,.store1 (.tmp 9) (.cst (.bool false))⟩]
def Ze.r4:=[qL 16 2 4,qf 17 143 [.tmp 16]]
def Ze.r5:=[qm 10 18]
def Ze.r6:List DOp:=[ql 20 6,qm 21 10,⟨sO 22,nO,.q (.lookup (.sc .str) (.agg [.int .i64 0,.int .i64 0]) true) [.tmp 20,.tmp 21]⟩,qm 19 22,qx 23 0 19,qx 24 1 19,qA 11 [.int .i64 0,.int .i64 0],qS 2 11 23,qm 12 24]
def Ze.r7:=qQ 25 [wm 10,wl 5,vd .eql 26]++[qm 25 28]
def Ze.r8:=[qm 30 12,qk 31 .not 30,qm 29 31]
def Ze.r9:List DOp:=[⟨nO,nO,.store1 (.tmp 9) (.cst (.bool true))⟩]
def Ze.r10:List DOp:=[ql 33 7,qL 34 2 11,⟨sO 35,nO,.call (.tmp 33) [.tmp 34]⟩,qk 36 .not 35,qm 32 36]
def Ze.r11:List DOp:=[⟨nO,nO,.store1 (.tmp 8) (.cst (.int .i64 2))⟩]
def Ze.a0:DC:=qR Ze.r5 [5,6,7,8,9,10,18]
def Ze.b0:DC:=.block 1 (.seq (qR Ze.r6 [5,6,7,8,9,10,11,12,18]) (.block 2 (.seq (qR Ze.r7 [5,6,7,8,9,11,12,18,25]) (qC 25 .skip (.seq (qR Ze.r8 [5,6,7,8,9,11,18,29]) (qC 29 (qR Ze.r9 [5,6,7,8,9,18]) (.seq (qR Ze.r10 [5,6,7,8,9,18,32]) (qC 32 (.seq (qR Ze.r11 [8]) .ret) .skip))))))))
def Ze.r12:=[ql 37 9]
def Ze.r13:List DOp:=[⟨nO,nO,.store1 (.tmp 8) (.cst (.int .i64 9))⟩]
def Ze.r14:List DOp:=[⟨nO,nO,.store1 (.tmp 8) (.cst (.int .i64 0))⟩]
abbrev Ze.id:Nat:=102
def Ze.body:DC:=.seq (qR Ze.r0 [4,5,6,7,8,18]) (.seq (.seq (qR Ze.r1 [4,5,6,7,8,15,18]) (qC 15 (.seq (qR Ze.r2 [8]) .ret) .skip)) (.seq (qR Ze.r3 [4,5,6,7,8,9,18]) (.seq (.seq (qR Ze.r4 [5,6,7,8,9,17,18]) (.block 0 (.rangeF (.tmp 17) [18] Ze.a0 Ze.b0))) (.seq (.seq (qR Ze.r12 [8,37]) (qC 37 (.seq (qR Ze.r13 [8]) .ret) .skip)) (.seq (qR Ze.r14 [8]) .ret)))))
def Ze.an:=kA Ze.body (Zyl 15)
def Ze.df:DF:=⟨38,[.cell1 8],Ze.body⟩
theorem Ze.ok:kO Zyg Ze.an Ze.id Ze.df:=by unfold kO;kernel_rfl
def WJ.r0:=[qB 3 0,qi 4 0]
def WJ.r1:List DOp:=[qL 5 2 1,⟨sO 6,nO,.q (.mkfn (.func 105) 0) [.tmp 2,.tmp 3]⟩,qf 7 104 [.tmp 5,.tmp 6],qm 4 7]
abbrev WJ.id:Nat:=103
def WJ.body:DC:=.seq (qR WJ.r0 [1,2,3]) (.seq (qR WJ.r1 [4]) .ret)
def WJ.an:=kA WJ.body (Zyl 2)
def WJ.df:DF:=⟨8,[.tmp 4],WJ.body⟩
theorem WJ.ok:kO Zyg WJ.an WJ.id WJ.df:=by unfold kO;kernel_rfl
def YT.r0:=[qB 2 0,qi 4 0]
def YT.r1:=[qa 8 0 2,ql 9 8,qm 5 9]
def YT.r2:=qQ 9 [wa 1 2,vl,vk .lenL,wi 0]
def YT.r3:=[qd 14 .lss 13 12]
def YT.r4:=[qX 15 2 11 13,qL 16 2 15,qA 7 [.str [],.int .i64 0],qS 2 7 16]
def YT.r5:List (DOp×List Nat):=[qu (qm 17 5),qu (qa 18 1 7),qu (ql 19 18),qu (qm 20 1),qu (qL 21 2 7),(⟨sO 22,nO,.call (.tmp 20) [.tmp 21]⟩,[19]),qu (qd 23 .mul 19 22),qu (qd 24 .add 17 23),qu (qm 5 24)]
def YT.r6:=[qe 25 .add 13 1,qm 13 25]
def YT.l0:DC:=.seq (qR YT.r3 [1,5,11,12,13,14]) (.seq (qC 14 .skip (.exit 0)) (.seq (.block 1 (.seq (qR YT.r4 [1,5,7,11,12,13]) (.regD [0,1,2,3,4,5,6,7,8] YT.r5 (sO [1,5,11,12,13])))) (qR YT.r6 [1,5,11,12,13])))
def YT.r7:=[qm 26 5,qm 4 26]
abbrev YT.id:Nat:=104
def YT.an:Ann:=[(0,[1,2]),(1,[1,2,5]),(2,[1,5,11,12,13]),(3,[1,5,11,12,13,14]),(4,[1,5,7,11,12,13]),(5,[1,5,11,12,13]),(6,[1,5,11,12,13]),(7,[4]),(1000005,[0,1,2,3,4,5,6,7,8]),(9000005,[19])]
def YT.body:DC:=.seq (qR YT.r0 [1,2]) (.seq (qR YT.r1 [1,2,5]) (.seq (.seq (qR YT.r2 [1,5,11,12,13]) (.block 0 (.loop YT.l0))) (.seq (qR YT.r7 [4]) .ret)))
def YT.df:DF:=⟨27,[.tmp 4],YT.body⟩
theorem YT.ok:kO Zyg YT.an YT.id YT.df:=by unfold kO;kernel_rfl
def Ym.r0:=[qB 3 0,qi 4 0]
def Ym.r1:List DOp:=qQ 5 [wl 1,wa 0 3,vl]++[⟨sO 9,nO,.q (.lookup (.sc .str) (.agg [.int .i64 0,.int .i64 0]) false) [.tmp 6,.tmp 8]⟩,qA 5 [.int .i64 0,.int .i64 0],qS 2 5 9]
def Ym.r2:List DOp:=qQ 9 [wl 2,wa 1 3,vl,ve .gtr 0]++[⟨sO 14,nO,.q (.bin .eql (sO .bool)) [.tmp 10,.tmp 13]⟩]
def Ym.r3:=[qa 15 0 5,ql 16 15,qm 4 16]
def Ym.r4:List DOp:=qQ 16 [wl 1,wa 0 3,vl]++[⟨sO 20,nO,.q (.lookup (.sc .str) (.agg [.int .i64 0,.int .i64 0]) false) [.tmp 17,.tmp 19]⟩,qk 21 (.fld1 1) 20,qm 4 21]
abbrev Ym.id:Nat:=105
def Ym.body:DC:=.seq (qR Ym.r0 [1,2,3]) (.seq (.seq (qR Ym.r1 [1,2,3,5]) (.seq (qR Ym.r2 [1,3,5,14]) (qC 14 (.seq (qR Ym.r3 [4]) .ret) .skip))) (.seq (qR Ym.r4 [4]) .ret))
def Ym.an:=kA Ym.body (Zyl 5)
def Ym.df:DF:=⟨22,[.tmp 4],Ym.body⟩
theorem Ym.ok:kO Zyg Ym.an Ym.id Ym.df:=by unfold kO;kernel_rfl
def Yg.r0:List DOp:=[⟨sO 3,nO,.recover⟩,qm 2 3]
def Yg.r1:List DOp:=[qm 4 2,⟨sO 5,nO,.q (.bin .neq (sO .ifc)) [.tmp 4,.cst (.niliface)]⟩]
def Yg.r2:List DOp:=[qm 7 2,⟨sO 8,nO,.q (.tassert 76 true (.agg [.int .i64 0,.int .i64 0,.int .i64 0])) [.tmp 7]⟩,qm 6 8,qx 9 0 6,qx 10 1 6,qS 3 0 9,qs 1 10]
def Yg.r3:=[ql 11 1,qk 12 .not 11]
def Yg.r4:List DOp:=[qm 13 2,⟨nO,nO,.panic (.tmp 13)⟩]
abbrev Yg.id:Nat:=106
def Yg.body:DC:=.seq (qR Yg.r0 [0,1,2]) (.seq (qR Yg.r1 [0,1,2,5]) (qC 5 (.seq (qR Yg.r2 [1,2]) (.seq (qR Yg.r3 [2,12]) (qC 12 (qR Yg.r4 []) .skip))) .skip))
def Yg.an:=kA Yg.body (Zyl 5)
def Yg.df:DF:=⟨14,[],Yg.body⟩
theorem Yg.ok:kO Zyg Yg.an Yg.id Yg.df:=by unfold kO;kernel_rfl
def Y0.r0:=[qm 6 1,qk 7 .not 6]
def Y0.r1:List DOp:=qQ 7 [wm 0,vk .nilck,va 5,vl,wm 0,vk .nilck,va 6,vl,wm 2]++[⟨sO 17,nO,.q (.build [.int .i64 0,.int .i64 0,.int .i64 0] [(0,1),(1,1),(2,1)]) [.tmp 11,.tmp 15,.tmp 16]⟩,qk 18 (.mkif 76) 17,⟨nO,nO,.panic (.tmp 18)⟩]
abbrev Y0.id:Nat:=107
def Y0.an:Ann:=[(0,[0,2,7]),(1,[]),(1000001,[0,1,2,3,4,5,6,7,8,9,10,11])]
def Y0.body:DC:=.seq (qR Y0.r0 [0,2,7]) (qC 7 (.regD [0,1,2,3,4,5,6,7,8,9,10,11] (Jo Y0.r1) (sO [])) .skip)
def Y0.df:DF:=⟨19,[],Y0.body⟩
theorem Y0.ok:kO Zyg Y0.an Y0.id Y0.df:=by unfold kO;kernel_rfl
def Zc.r0:=[qB 2 0,qB 3 1]
def Zc.r1:=[qu (ql 11 2),qu (ql 12 2),qu (qL 13 2 3),qu (qk 14 .nilck 11),qu (qa 15 7 14),(qS 2 15 13,[12]),qu (qk 16 .nilck 12),qu (qa 17 6 16),qu (⟨nO,nO,.store1 (.tmp 17) (.cst (.int .i64 (-1)))⟩)]
def Zc.r2:=[qu (ql 18 2),qu (qa 19 0 3),qu (ql 20 19),(qf 21 54 [.tmp 20],[18]),qu (qf 22 107 [.tmp 18,.tmp 21,.cst (.int .i64 1)])]
def Zc.r3:List DOp:=qQ 23 [wl 2,vk .nilck,va 3,vl,wa 0 3,vl]++[⟨sO 30,nO,.q (.lookup (.sc .str) (.int .i64 0) true) [.tmp 27,.tmp 29]⟩,qm 23 30,qx 31 0 23,qx 32 1 23,qm 4 31,qm 5 32]
def Zc.r4:=qQ 32 [wl 2,wm 5,vk .not,wf 107 [.tmp 33,.tmp 35,.cst (.int .i64 2)]]
def Zc.r5:=qQ 36 [wl 2,wa 1 3,vl,vk .lenL,ve .geq 1,vm,wy 42 (wa 1 3),wy 42 vl,wy 42 (vk .lenL),wy 42 (ve .leq 40),vO 42,wf 107 [.tmp 37,.tmp 47,.cst (.int .i64 3)]]
def Zc.r6:List DOp:=[qA 6 [.bool false],⟨nO,nO,.store1 (.tmp 6) (.cst (.bool true))⟩]
def Zc.r7:=qQ 48 [wa 1 3,vl,vk .lenL,wi 0]
def Zc.r8:=[qd 53 .lss 52 51]
def Zc.r9:=qQ 53 [wm 52,wX 15 50 52,vL 15]++[qA 8 zF,qm 7 54,qS 15 8 56]
def Zc.r10:=qQ 56 [wl 2,wm 7,wk .nilck 57,va 6]++[qs 60 58]
def Zc.r11:=qQ 60 [wl 2,wL 15 8,wf 144 [.tmp 61,.tmp 62]]
def Zc.r12:=qQ 63 [wl 6,vm,wy 65 (wa 4 8),wy 65 vl,wy 65 (vk .not),vO 65]++[qs 6 69]
def Zc.r13:=[qe 70 .add 52 1,qm 52 70]
def Zc.l0:DC:=.seq (qR Zc.r8 [2,3,6,50,51,52,53,76]) (.seq (qC 53 .skip (.exit 0)) (.seq (.block 1 (.seq (qR Zc.r9 [2,3,6,7,8,50,51,52,76]) (.seq (qR Zc.r10 [2,3,6,8,50,51,52,76]) (.seq (qR Zc.r11 [2,3,6,8,50,51,52,76]) (qR Zc.r12 [2,3,6,50,51,52,76]))))) (qR Zc.r13 [2,3,6,50,51,52,76])))
def Zc.r14:List DOp:=qQ 70 [wl 2,vk .nilck,va 6]++[⟨nO,nO,.store1 (.tmp 73) (.cst (.int .i64 (-1)))⟩]
def Zc.r15:List DOp:=[qA 9 [.int .i64 0],⟨nO,nO,.store1 (.tmp 9) (.cst (.int .i64 0))⟩]
def Zc.r16:=[qL 74 2 3,qf 75 145 [.tmp 74]]
def Zc.r17:=[qm 10 76]
def Zc.r18:List DOp:=qQ 76 [wl 9,wl 2,vk .nilck,va 3,vl,wm 10]++[⟨sO 83,nO,.q (.lookup (.sc .str) (.int .i64 0) false) [.tmp 81,.tmp 82]⟩,⟨sO 84,nO,.q .max [.tmp 77,.tmp 83]⟩,qs 9 84]
def Zc.r19:=qQ 84 [wl 6,vm,wy 86 (wl 2),wy 86 (vk .nilck),wy 86 (va 4),wy 86 vl,wy 86 (wm 10)]++[qy 86 ⟨sO 92,nO,.q (.lookup (.sc .str) (.bool false) false) [.tmp 90,.tmp 91]⟩,qO 93 86 92,qs 6 93]
def Zc.a1:DC:=qR Zc.r17 [2,3,6,9,10,76]
def Zc.b1:DC:=.block 3 (.seq (.regD [0,1,2,3,4,5,6,7,8] (Jo Zc.r18) (sO [2,3,6,9,10,76])) (qR Zc.r19 [2,3,6,9,76]))
def Zc.r20:List (DOp×List Nat):=[qu (ql 94 2),qu (qk 95 .nilck 94),qu (qa 96 3 95),qu (ql 97 96),qu (qa 98 0 3),qu (ql 99 98),qu (ql 100 2),qu (qk 101 .nilck 100),qu (qa 102 4 101),qu (ql 103 102),qu (qa 104 0 3),qu (ql 105 104),qu (ql 106 9),qu (qe 107 .add 106 1),qu (ql 108 6),(⟨sO 109,nO,.mapent (.sc .str) (.int .i64 0) (.tmp 97) (.tmp 99)⟩,[108,106,105]),qu (qx 110 1 109),(⟨nO,nO,.entst (.tmp 97) (.tmp 110) (.tmp 107)⟩,[108,105]),(⟨sO 111,nO,.mapent (.sc .str) (.bool false) (.tmp 103) (.tmp 105)⟩,[108]),qu (qx 112 1 111),qu (⟨nO,nO,.entst (.tmp 103) (.tmp 112) (.tmp 108)⟩)]
def Zc.r21:=qQ 112 [wl 2,wl 9,ve .lss 16,wf 107 [.tmp 113,.tmp 115,.cst (.int .i64 10)]]
abbrev Zc.id:Nat:=108
def Zc.an:Ann:=[(0,[2,3,76]),(1,[2,3,76]),(2,[2,3,76]),(3,[2,3,5,76]),(4,[2,3,76]),(5,[2,3,76]),(6,[2,3,6,76]),(7,[2,3,6,50,51,52,76]),(8,[2,3,6,50,51,52,53,76]),(9,[2,3,6,7,8,50,51,52,76]),(10,[2,3,6,8,50,51,52,76]),(11,[2,3,6,8,50,51,52,76]),(12,[2,3,6,50,51,52,76]),(13,[2,3,6,50,51,52,76]),(14,[2,3,6,76]),(15,[2,3,6,9,76]),(16,[2,3,6,9,75,76]),(17,[2,3,6,9,10,76]),(18,[2,3,6,9,10,76]),(19,[2,3,6,9,76]),(20,[2,9]),(21,[]),(1000001,[0,1,2,3,4,5,6,7,8]),(1000002,[0,1,2,3,4]),(1000003,[0,1,2,3,4,5,6,7,8,9,10,11]),(1000018,[0,1,2,3,4,5,6,7,8]),(1000020,[0,1,2,3,4,5,6,7,8,9,10,11,12,13,14,15,16,17,18,19,20]),(7000002,[18]),(9000001,[12]),(19000020,[108,106,105]),(21000020,[108,105]),(22000020,[108])]
def Zc.body:DC:=.seq (qR Zc.r0 [2,3,76]) (.seq (.regD [0,1,2,3,4,5,6,7,8] Zc.r1 (sO [2,3,76])) (.seq (.regD [0,1,2,3,4] Zc.r2 (sO [2,3,76])) (.seq (.regD [0,1,2,3,4,5,6,7,8,9,10,11] (Jo Zc.r3) (sO [2,3,5,76])) (.seq (qR Zc.r4 [2,3,76]) (.seq (qR Zc.r5 [2,3,76]) (.seq (qR Zc.r6 [2,3,6,76]) (.seq (.seq (qR Zc.r7 [2,3,6,50,51,52,76]) (.block 0 (.loop Zc.l0))) (.seq (qR Zc.r14 [2,3,6,76]) (.seq (qR Zc.r15 [2,3,6,9,76]) (.seq (.seq (qR Zc.r16 [2,3,6,9,75,76]) (.block 2 (.rangeF (.tmp 75) [76] Zc.a1 Zc.b1))) (.seq (.regD [0,1,2,3,4,5,6,7,8,9,10,11,12,13,14,15,16,17,18,19,20] Zc.r20 (sO [2,9])) (qR Zc.r21 []))))))))))))
def Zc.df:DF:=⟨117,[],Zc.body⟩
theorem Zc.ok:kO Zyg Zc.an Zc.id Zc.df:=by unfold kO;kernel_rfl
def Wj.r0:=[qB 2 0,qi 4 0]
def Wj.r1:=qQ 4 [wm 1,wa 2 2,vl,vd .add 5]++[qm 4 8]
abbrev Wj.id:Nat:=109
def Wj.body:DC:=.seq (qR Wj.r0 [1,2]) (.seq (qR Wj.r1 [4]) .ret)
def Wj.an:=kA Wj.body (Zyl 2)
def Wj.df:DF:=⟨9,[.tmp 4],Wj.body⟩
theorem Wj.ok:kO Zyg Wj.an Wj.id Wj.df:=by unfold kO;kernel_rfl
def WD.r0:=[qB 2 0,qi 4 0]
def WD.r1:=qQ 4 [wm 1,wa 2 2,vl,wf 111 [.tmp 5,.tmp 7]]++[qm 4 8]
abbrev WD.id:Nat:=110
def WD.body:DC:=.seq (qR WD.r0 [1,2]) (.seq (qR WD.r1 [4]) .ret)
def WD.an:=kA WD.body (Zyl 2)
def WD.df:DF:=⟨9,[.tmp 4],WD.body⟩
theorem WD.ok:kO Zyg WD.an WD.id WD.df:=by unfold kO;kernel_rfl
def Jj.r0:=[qi 4 0]
def Jj.r1:=qQ 4 [wm 0,wm 1,vd .add 5,ve .sub 1,wm 1,vd .quo 8,wm 1,vd .mul 10]++[qm 4 12]
abbrev Jj.id:Nat:=111
def Jj.body:DC:=.seq (qR Jj.r0 [0,1]) (.seq (qR Jj.r1 [4]) .ret)
def Jj.an:=kA Jj.body (Zyl 2)
def Jj.df:DF:=⟨13,[.tmp 4],Jj.body⟩
theorem Jj.ok:kO Zyg Jj.an Jj.id Jj.df:=by unfold kO;kernel_rfl
def Zq.r0:=[qi 4 0]
def Zq.r1:=qQ 5 [wm 0,vk .lenL,wi 0]
def Zq.r2:=[qd 9 .lss 8 7]
def Zq.r3:=[qm 10 8,qm 5 10]
def Zq.r4:List DOp:=qQ 10 [wm 1,wm 0,wm 5,vX 1 12,vl]++[⟨sO 16,nO,.call (.tmp 11) [.tmp 15]⟩]
def Zq.r5:=[qm 17 5,qm 4 17]
def Zq.r6:=[qe 18 .add 8 1,qm 8 18]
def Zq.l0:DC:=.seq (qR Zq.r2 [0,1,7,8,9]) (.seq (qC 9 .skip (.exit 0)) (.seq (.block 1 (.seq (qR Zq.r3 [0,1,5,7,8]) (.seq (qR Zq.r4 [0,1,5,7,8,16]) (qC 16 (.seq (qR Zq.r5 [4]) .ret) .skip)))) (qR Zq.r6 [0,1,7,8])))
def Zq.r7:=[qi 4 (-1)]
abbrev Zq.id:Nat:=112
def Zq.body:DC:=.seq (qR Zq.r0 [0,1]) (.seq (.seq (qR Zq.r1 [0,1,7,8]) (.block 0 (.loop Zq.l0))) (.seq (qR Zq.r7 [4]) .ret))
def Zq.an:=kA Zq.body (Zyl 8)
def Zq.df:DF:=⟨19,[.tmp 4],Zq.body⟩
theorem Zq.ok:kO Zyg Zq.an Zq.id Zq.df:=by unfold kO;kernel_rfl
def YR.r0:=[qb 4 false]
def YR.r1:=qQ 4 [wm 0,wm 1,wf 146 [.tmp 5,.tmp 6],ve .geq 0]++[qm 4 8]
abbrev YR.id:Nat:=113
def YR.body:DC:=.seq (qR YR.r0 [0,1]) (.seq (qR YR.r1 [4]) .ret)
def YR.an:=kA YR.body (Zyl 2)
def YR.df:DF:=⟨9,[.tmp 4],YR.body⟩
theorem YR.ok:kO Zyg YR.an YR.id YR.df:=by unfold kO;kernel_rfl
def ZD.r0:=[qi 4 0]
def ZD.r1:=qQ 5 [wm 0,vk .lenL,wi 0]
def ZD.r2:=[qd 9 .lss 8 7]
def ZD.r3:=[qm 10 8,qm 5 10]
def ZD.r4:List DOp:=qQ 10 [wm 1,wm 0,wm 5,vX 1 12,vl]++[⟨sO 16,nO,.call (.tmp 11) [.tmp 15]⟩]
def ZD.r5:=[qm 17 5,qm 4 17]
def ZD.r6:=[qe 18 .add 8 1,qm 8 18]
def ZD.l0:DC:=.seq (qR ZD.r2 [0,1,7,8,9]) (.seq (qC 9 .skip (.exit 0)) (.seq (.block 1 (.seq (qR ZD.r3 [0,1,5,7,8]) (.seq (qR ZD.r4 [0,1,5,7,8,16]) (qC 16 (.seq (qR ZD.r5 [4]) .ret) .skip)))) (qR ZD.r6 [0,1,7,8])))
def ZD.r7:=[qi 4 (-1)]
abbrev ZD.id:Nat:=114
def ZD.body:DC:=.seq (qR ZD.r0 [0,1]) (.seq (.seq (qR ZD.r1 [0,1,7,8]) (.block 0 (.loop ZD.l0))) (.seq (qR ZD.r7 [4]) .ret))
def ZD.an:=kA ZD.body (Zyl 8)
def ZD.df:DF:=⟨19,[.tmp 4],ZD.body⟩
theorem ZD.ok:kO Zyg ZD.an ZD.id ZD.df:=by unfold kO;kernel_rfl
def Qm.r0:=[qb 2 false]
def Qm.r1:List DOp:=[qm 3 0,⟨sO 4,nO,.q (.bin .geq (nO)) [.tmp 3,.cst (.int .u8 65)]⟩,qm 5 4,qy 5 (qm 6 0),qy 5 ⟨sO 7,nO,.q (.bin .leq (nO)) [.tmp 6,.cst (.int .u8 90)]⟩]++qQ 7 [vO 5,vm,wn 9 (wm 0)]++[qn 9 ⟨sO 11,nO,.q (.bin .geq (nO)) [.tmp 10,.cst (.int .u8 97)]⟩,qn 9 (qm 12 11),qy 12 (qm 13 0),qy 12 ⟨sO 14,nO,.q (.bin .leq (nO)) [.tmp 13,.cst (.int .u8 122)]⟩,qn 9 (qO 15 12 14),qo 16 9 15,qm 2 16]
abbrev Qm.id:Nat:=138
def Qm.body:DC:=.seq (qR Qm.r0 [0]) (.seq (qR Qm.r1 [2]) .ret)
def Qm.an:=kA Qm.body (Zyl 2)
def Qm.df:DF:=⟨17,[.tmp 2],Qm.body⟩
theorem Qm.ok:kO Zyg Qm.an Qm.id Qm.df:=by unfold kO;kernel_rfl
def QS.r0:=[qb 2 false]
def QS.r1:List DOp:=[qm 3 0,⟨sO 4,nO,.q (.bin .geq (nO)) [.tmp 3,.cst (.int .u8 48)]⟩,qm 5 4,qy 5 (qm 6 0),qy 5 ⟨sO 7,nO,.q (.bin .leq (nO)) [.tmp 6,.cst (.int .u8 57)]⟩,qO 8 5 7,qm 2 8]
abbrev QS.id:Nat:=139
def QS.body:DC:=.seq (qR QS.r0 [0]) (.seq (qR QS.r1 [2]) .ret)
def QS.an:=kA QS.body (Zyl 2)
def QS.df:DF:=⟨9,[.tmp 2],QS.body⟩
theorem QS.ok:kO Zyg QS.an QS.id QS.df:=by unfold kO;kernel_rfl
def Kq.r0:=[qB 1 0,qb 2 false]
def Kq.r1:=qQ 3 [wa 1 1,vl,wf 175 [.tmp 5]]++[qm 3 6]
def Kq.r2:=qQ 6 [wm 3,wf 176 [.tmp 7,.cst (.int .u8 98)],vk .not,vm,wy 10 (wa 2 1),wy 10 vl,wy 10 (ve .neq 0),vO 10,vm,wn 15 (wm 3),wn 15 (wf 176 [.tmp 16,.cst (.int .u8 108)]),wn 15 (vk .not),wn 15 vm,wy 19 (wa 3 1),wy 19 vl,wn 15 (vO 19),vo 15,vm,wn 24 (wm 3),wn 24 (wf 176 [.tmp 25,.cst (.int .u8 111)]),wn 24 (vk .not),wn 24 vm,wy 28 (wa 4 1),wy 28 vl,wn 24 (vO 28),vo 24,vm,wn 33 (wm 3),wn 33 (wf 176 [.tmp 34,.cst (.int .u8 120)]),wn 33 (vk .not),wn 33 vm,wy 37 (wa 5 1),wy 37 vl,wy 37 (ve .neq 0),wn 33 (vO 37),vo 33,vm,wn 43 (wm 3),wn 43 (wf 176 [.tmp 44,.cst (.int .u8 104)]),wn 43 (vk .not),wn 43 vm,wy 47 (wa 6 1),wy 47 vl,wy 47 (ve .neq 0),wn 43 (vO 47),vo 43]
def Kq.r3:=[qb 2 false]
def Kq.r4:=qQ 52 [wm 3,wf 176 [.tmp 53,.cst (.int .u8 115)],vk .not,vm,wy 56 (wa 7 1),wy 56 (va 0),wy 56 vl,wy 56 (ve .neq 0),wy 56 vm,wn 61 (wa 7 1),wn 61 (va 1),wn 61 vl,wn 61 (vk .lenL),wn 61 (ve .neq 0),wy 56 (vo 61),vO 56,vm,wn 69 (wm 3),wn 69 (wf 176 [.tmp 70,.cst (.int .u8 102)]),wn 69 (vk .not),wn 69 vm,wy 73 (wa 9 1),wy 73 vl]++[qy 73 ⟨sO 76,nO,.q (.bin .neq (nO)) [.tmp 75,.cst (.str [])]⟩]++qQ 76 [wn 69 (vO 73),vo 69,vm,wn 79 (wm 3),wn 79 (wf 176 [.tmp 80,.cst (.int .u8 116)]),wn 79 (vk .not),wn 79 vm,wy 83 (wa 10 1),wy 83 vl]++[qy 83 ⟨sO 86,nO,.q (.bin .neq (nO)) [.tmp 85,.cst (.str [])]⟩]++qQ 86 [wn 79 (vO 83),vo 79,vm,wn 89 (wm 3),wn 89 (wf 176 [.tmp 90,.cst (.int .u8 114)]),wn 89 (vk .not),wn 89 vm,wy 93 (wa 11 1),wy 93 vl]++[qy 93 ⟨sO 96,nO,.q (.bin .neq (nO)) [.tmp 95,.cst (.str [])]⟩,qn 89 (qO 97 93 96),qo 98 89 97]
def Kq.r5:=[qb 2 false]
def Kq.r6:=qQ 98 [wm 3,wf 176 [.tmp 99,.cst (.int .u8 99)],vm,wn 101 (wa 12 1),wn 101 vl,wn 101 (vk .lenL),wn 101 (ve .eql 0),vo 101,vm,wy 107 (wm 3),wy 107 (wf 176 [.tmp 108,.cst (.int .u8 107)]),wy 107 vm,wn 110 (wa 13 1),wn 110 vl,wn 110 (ve .eql 0),wy 107 (vo 110),vO 107,vm,wy 116 (wm 3),wy 116 (wf 176 [.tmp 117,.cst (.int .u8 121)]),wy 116 vm,wn 119 (wa 14 1),wn 119 vl,wn 119 (ve .eql 0),wy 116 (vo 119),vO 116]++[qm 2 124]
abbrev Kq.id:Nat:=140
def Kq.body:DC:=.seq (qR Kq.r0 [1]) (.seq (qR Kq.r1 [1,3]) (.seq (.seq (qR Kq.r2 [1,3,52]) (qC 52 (.seq (qR Kq.r3 [2]) .ret) .skip)) (.seq (.seq (qR Kq.r4 [1,3,98]) (qC 98 (.seq (qR Kq.r5 [2]) .ret) .skip)) (.seq (qR Kq.r6 [2]) .ret))))
def Kq.an:=kA Kq.body (Zyl 7)
def Kq.df:DF:=⟨125,[.tmp 2],Kq.body⟩
theorem Kq.ok:kO Zyg Kq.an Kq.id Kq.df:=by unfold kO;kernel_rfl
def Zd.r0:=[qB 3 0,qi 6 0]
def Zd.r1:=qQ 12 [wa 1 3,vl,wm 1,vX 2 14,vL 2]++[qA 7 [.str [],.nilsl],qS 2 7 17]
def Zd.r2:=qQ 17 [wa 1 7,vl,wm 2,vX 15 19,vL 15]++[qA 8 zF,qS 15 8 22]
def Zd.r3:=[qa 23 1 8,ql 24 23]
def Zd.r4:=[qe 26 .eql 24 1,qm 25 26]
def Zd.r5:=[qe 27 .eql 24 2,qm 25 27]
def Zd.r6:=[qL 28 15 8,qf 29 177 [.tmp 28],qm 6 29]
def Zd.r7:=[qe 31 .eql 24 3,qm 30 31]
def Zd.r8:=qQ 31 [wa 5 8,vl,wa 6 8,vl,wf 178 [.tmp 33,.tmp 35],vk .not]
def Zd.r9:=[qi 6 7]
def Zd.r10:=[qe 39 .eql 24 4,qm 38 39]
def Zd.r11:=qQ 39 [wL 2 7,wm 2,wf 179 [.tmp 40,.tmp 41]]++[qm 6 42]
def Zd.r12:=[qe 44 .eql 24 5,qm 43 44]
def Zd.r13:=qQ 44 [wa 5 8,vl,ve .lss 0,vm,wn 48 (wa 5 8),wn 48 vl,wn 48 (ve .gtr 255),vo 48,vm,wn 53 (wa 6 8),wn 53 vl,wn 53 (ve .lss 0),vo 53,vm,wn 58 (wa 6 8),wn 58 vl,wn 58 (ve .gtr 1048576),vo 58]
def Zd.r14:=[qi 6 7]
def Zd.r15:=[qe 64 .eql 24 6,qm 63 64]
def Zd.r16:=qQ 64 [wa 6 8,vl,ve .lss 2,vm,wn 68 (wa 6 8),wn 68 vl,wn 68 (ve .gtr 1048576),vo 68]
def Zd.r17:=[qi 6 7]
def Zd.r18:=[qe 74 .eql 24 7,qm 73 74]
def Zd.r19:=qQ 74 [wL 3 3,wa 9 8,vl,wm 1,wf 29 [.tmp 75,.tmp 77,.tmp 78],ve .lss 0]
def Zd.r20:=[qi 6 8]
def Zd.r21:=qQ 80 [wL 2 7,wm 2,wf 179 [.tmp 81,.tmp 82]]++[qm 6 83]
def Zd.r22:=[qe 85 .eql 24 8,qm 84 85]
def Zd.r23:=qQ 85 [wL 3 3,wa 9 8,vl,wm 1,wf 29 [.tmp 86,.tmp 88,.tmp 89],ve .lss 0]
def Zd.r24:=[qi 6 8]
def Zd.r25:=[qe 93 .eql 24 9,qm 92 93]
def Zd.r26:=qQ 93 [wL 2 7,wa 10 8,vl,wm 2,wf 50 [.tmp 94,.tmp 96,.tmp 97]]++[qm 9 98]
def Zd.r27:=qQ 98 [wm 9,ve .lss 0,vm,wn 101 (wa 1 7),wn 101 vl,wn 101 (wm 9),wn 101 (vX 15 103),wn 101 (vL 15),wn 101 (wf 180 [.tmp 106]),wn 101 (vk .not),vo 101,vm,wn 110 (wL 2 7),wn 110 (wa 10 8),wn 110 vl,wn 110 (wm 2),wn 110 (wf 181 [.tmp 111,.tmp 113,.tmp 114]),vo 110]
def Zd.r28:=[qi 6 8]
def Zd.r29:=qQ 117 [wa 1 7,vl,wm 9,vX 15 119,vL 15,wf 40 [.tmp 122]]++[qm 117 123,qx 124 0 117,qx 125 1 117,qm 10 124,qm 11 125]
def Zd.r30:=qQ 125 [wL 3 3,wm 1,wL 15 8,wm 10,wm 11,wf 182 [.tmp 126,.tmp 127,.tmp 128,.tmp 129,.tmp 130]]++[qm 6 131]
def Zd.r31:=[qe 133 .eql 24 10,qm 132 133]
def Zd.r32:=qQ 133 [wa 2 8,vl,ve .neq 2,vm,wy 137 (wa 2 8),wy 137 vl,wy 137 (ve .neq 4),vO 137,vm,wy 142 (wa 2 8),wy 142 vl,wy 142 (ve .lss 8),wy 142 vm,wn 146 (wa 2 8),wn 146 vl,wn 146 (ve .gtr 512),wy 142 (vo 146),wy 142 vm,wn 151 (wa 2 8),wn 151 vl,wn 151 (ve .rem 8),wn 151 (ve .neq 0),wy 142 (vo 151),vO 142]
def Zd.r33:=[qi 6 6]
def Zd.r34:=[qe 159 .eql 24 11,qm 158 159]
def Zd.r35:=qQ 159 [wa 13 8,vl,ve .lss 1,vm,wn 163 (wa 13 8),wn 163 vl,wn 163 (ve .gtr 3),vo 163]
def Zd.r36:=[qi 6 7]
def Zd.r37:=qQ 167 [wL 2 7,wa 11 8,vl,wm 2,wf 50 [.tmp 168,.tmp 170,.tmp 171],ve .lss 0]
def Zd.r38:=[qi 6 8]
def Zd.r39:=[qe 175 .eql 24 12,qm 174 175]
def Zd.r40:=qQ 175 [wa 14 8,vl,ve .lss 0,vm,wn 179 (wa 14 8),wn 179 vl,wn 179 (ve .gtr 4294967295),vo 179]
def Zd.r41:=[qi 6 7]
def Zd.r42:=qQ 183 [wL 3 3,wa 9 8,vl,wm 1,wf 29 [.tmp 184,.tmp 186,.tmp 187]]++[qm 12 188]
def Zd.r43:=qQ 188 [wm 12,ve .lss 0,vm,wn 191 (wL 3 3),wn 191 (wm 1),wn 191 (wf 183 [.tmp 192,.tmp 193]),wn 191 (wm 12),wn 191 (vX 1 194),wn 191 vl,wn 191 (vk .not),vo 191]
def Zd.r44:=[qi 6 8]
def Zd.r45:=qQ 199 [wL 2 7,wm 2,wf 179 [.tmp 200,.tmp 201]]++[qm 6 202]
def Zd.r46:=[qi 6 0]
abbrev Zd.id:Nat:=141
def Zd.body:DC:=.seq (qR Zd.r0 [1,2,3]) (.seq (qR Zd.r1 [1,2,3,7]) (.seq (qR Zd.r2 [1,2,3,7,8]) (.seq (.seq (qR Zd.r3 [1,2,3,7,8,24]) (.block 0 (.seq (.seq (qR Zd.r4 [1,2,3,7,8,24,25]) (qC 25 .skip (qR Zd.r5 [1,2,3,7,8,24,25]))) (qC 25 (.seq (qR Zd.r6 [6]) .ret) (.seq (qR Zd.r7 [1,2,3,7,8,24,30]) (qC 30 (.seq (qR Zd.r8 [37]) (qC 37 (.seq (qR Zd.r9 [6]) .ret) .skip)) (.seq (qR Zd.r10 [1,2,3,7,8,24,38]) (qC 38 (.seq (qR Zd.r11 [6]) .ret) (.seq (qR Zd.r12 [1,2,3,7,8,24,43]) (qC 43 (.seq (qR Zd.r13 [62]) (qC 62 (.seq (qR Zd.r14 [6]) .ret) .skip)) (.seq (qR Zd.r15 [1,2,3,7,8,24,63]) (qC 63 (.seq (qR Zd.r16 [72]) (qC 72 (.seq (qR Zd.r17 [6]) .ret) .skip)) (.seq (qR Zd.r18 [1,2,3,7,8,24,73]) (qC 73 (.seq (.seq (qR Zd.r19 [2,7,80]) (qC 80 (.seq (qR Zd.r20 [6]) .ret) .skip)) (.seq (qR Zd.r21 [6]) .ret)) (.seq (qR Zd.r22 [1,2,3,7,8,24,84]) (qC 84 (.seq (qR Zd.r23 [91]) (qC 91 (.seq (qR Zd.r24 [6]) .ret) .skip)) (.seq (qR Zd.r25 [1,2,3,7,8,24,92]) (qC 92 (.seq (qR Zd.r26 [1,2,3,7,8,9]) (.seq (.seq (qR Zd.r27 [1,3,7,8,9,116]) (qC 116 (.seq (qR Zd.r28 [6]) .ret) .skip)) (.seq (qR Zd.r29 [1,3,8,10,11]) (.seq (qR Zd.r30 [6]) .ret)))) (.seq (qR Zd.r31 [1,2,3,7,8,24,132]) (qC 132 (.seq (qR Zd.r32 [157]) (qC 157 (.seq (qR Zd.r33 [6]) .ret) .skip)) (.seq (qR Zd.r34 [1,2,3,7,8,24,158]) (qC 158 (.seq (.seq (qR Zd.r35 [2,7,8,167]) (qC 167 (.seq (qR Zd.r36 [6]) .ret) .skip)) (.seq (qR Zd.r37 [173]) (qC 173 (.seq (qR Zd.r38 [6]) .ret) .skip))) (.seq (qR Zd.r39 [1,2,3,7,8,174]) (qC 174 (.seq (.seq (qR Zd.r40 [1,2,3,7,8,183]) (qC 183 (.seq (qR Zd.r41 [6]) .ret) .skip)) (.seq (qR Zd.r42 [1,2,3,7,12]) (.seq (.seq (qR Zd.r43 [2,7,199]) (qC 199 (.seq (qR Zd.r44 [6]) .ret) .skip)) (.seq (qR Zd.r45 [6]) .ret)))) .skip)))))))))))))))))))))))) (.seq (qR Zd.r46 [6]) .ret))))
def Zd.an:=kA Zd.body (Zyl 47)
def Zd.df:DF:=⟨203,[.tmp 6],Zd.body⟩
theorem Zd.ok:kO Zyg Zd.an Zd.id Zd.df:=by unfold kO;kernel_rfl
def KS.r0:=[qB 1 0,qb 2 false]
def KS.r1:List DOp:=[⟨sO 5,nO,.mkmap⟩,qA 3 [.nilmap],qs 3 5]
def KS.r2:List DOp:=[⟨sO 6,nO,.q (.mkfn (.func 184) 0) [.tmp 3]⟩,qm 4 6]
def KS.r3:=[qu (qa 7 0 1),qu (ql 8 7),qu (qa 10 1 1),qu (ql 11 10),qu (qk 12 .lenL 11),qu (qe 13 .leq 12 4),(qf 9 185 [.tmp 8],[11]),qu (⟨sO 14,nO,.bsl 2 1 [.bool false] [0,1] [.tmp 9,.tmp 13]⟩),qu (qf 15 81 [.tmp 14]),qu (qm 16 15),qu (qy 16 (qa 17 1 1)),qu (qy 16 (ql 18 17)),qu (qy 16 (qm 19 4)),qu (qy 16 (qf 20 186 [.tmp 18,.tmp 19])),qu (qy 16 (qk 21 .not 20)),qu (qO 22 16 21),qu (qm 2 22)]
abbrev KS.id:Nat:=142
def KS.an:Ann:=[(0,[1]),(1,[1,3]),(2,[1,4]),(3,[2]),(1000003,[0,1,3,4,5,6,2,7,8,9,10,11,12,13,14,15,16]),(6000003,[11])]
def KS.body:DC:=.seq (qR KS.r0 [1]) (.seq (qR KS.r1 [1,3]) (.seq (qR KS.r2 [1,4]) (.seq (.regD [0,1,3,4,5,6,2,7,8,9,10,11,12,13,14,15,16] KS.r3 (sO [2])) .ret)))
def KS.df:DF:=⟨23,[.tmp 2],KS.body⟩
theorem KS.ok:kO Zyg KS.an KS.id KS.df:=by unfold kO;kernel_rfl
def Kb.r0:List DOp:=[qB 1 0,⟨sO 2,nO,.q .mv [.cst (.nilfn)]⟩]
def Kb.r1:=[qA 3 [.nilsl]]
def Kb.r2:=[qL 4 2 1,qf 5 142 [.tmp 4]]
def Kb.r3:=qQ 5 [wa 1 1,vl,wf 187 [.tmp 7]]++[qs 3 8]
def Kb.r4:List DOp:=[⟨sO 9,nO,.q (.mkfn (.func 188) 0) [.tmp 3]⟩,qm 2 9]
abbrev Kb.id:Nat:=143
def Kb.body:DC:=.seq (qR Kb.r0 [1]) (.seq (qR Kb.r1 [1,3]) (.seq (.seq (qR Kb.r2 [1,3,5]) (qC 5 (qR Kb.r3 [3]) .skip)) (.seq (qR Kb.r4 [2]) .ret)))
def Kb.an:=kA Kb.body (Zyl 5)
def Kb.df:DF:=⟨10,[.tmp 2],Kb.body⟩
theorem Kb.ok:kO Zyg Kb.an Kb.id Kb.df:=by unfold kO;kernel_rfl
def Zv.r0:=[qB 3 1]
def Zv.r1:=qQ 7 [wm 0,wa 0 3,vl,wf 54 [.tmp 10],wf 107 [.tmp 8,.tmp 11,.cst (.int .i64 1)]]
def Zv.r2:=[qu (qm 14 0),qu (qa 17 0 3),qu (ql 18 17),(qf 15 189 [.tmp 14],[18]),qu (⟨sO 16,nO,.q (.build [.str [],.nilsl] [(1,1)]) [.tmp 15]⟩),qu (qf 19 15 [.tmp 16,.tmp 18]),qu (qm 13 19),qu (qx 20 0 13),qu (qx 21 1 13),qu (qm 4 20),qu (qm 5 21)]
def Zv.r3:=qQ 21 [wm 0,wm 5,vk .not,wf 107 [.tmp 22,.tmp 24,.cst (.int .i64 2)]]
def Zv.r4:=[qu (qa 28 1 3),qu (ql 29 28),qu (qA 6 [.nilfn,.nilfn]),(qf 27 190 [],[29]),qu (⟨sO 30,nO,.q (.lookup (.sc .int) (.agg [.nilfn,.nilfn]) true) [.tmp 27,.tmp 29]⟩),qu (qm 26 30),qu (qx 31 0 26),qu (qx 32 1 26),qu (qS 2 6 31),qu (qm 5 32)]
def Zv.r5:=qQ 32 [wm 0,wm 5,wf 107 [.tmp 33,.tmp 34,.cst (.int .i64 4)]]
def Zv.r6:=[qL 36 15 3,qA 7 zF,qS 15 7 36]
def Zv.r7:List DOp:=[qa 37 0 6,ql 38 37,⟨sO 39,nO,.call (.tmp 38) [.tmp 7]⟩]
def Zv.r8:List DOp:=qQ 39 [wm 0,wL 15 7,wa 0 3,vl,wa 1 3,vl]++[⟨sO 46,nO,.q (.build [.str [],.int .i64 0,.int .i64 0,.bool false,.bool false,.int .i64 0,.int .i64 0,.int .i64 0,.nilsl,.str [],.str [],.str [],.nilsl,.int .i64 0,.int .i64 0] [(0,1),(1,1)]) [.tmp 43,.tmp 45]⟩,qf 47 191 [.tmp 41,.tmp 46],qf 48 107 [.tmp 40,.tmp 47,.cst (.int .i64 5)]]
def Zv.r9:List DOp:=qQ 48 [wa 1 6,vl,wm 0,wL 15 3]++[⟨sO 53,nO,.call (.tmp 50) [.tmp 51,.tmp 52]⟩]
abbrev Zv.id:Nat:=144
def Zv.an:Ann:=[(0,[0,3]),(1,[0,3]),(2,[0,3,5]),(3,[0,3]),(4,[0,3,5,6]),(5,[0,3,6]),(6,[0,3,6,7]),(7,[0,3,6,7]),(8,[0,3,6]),(9,[]),(1000002,[0,3,4,1,2,5,6,7,8,9,10]),(1000004,[1,2,7,0,3,4,5,6,8,9]),(4000004,[29]),(5000002,[18])]
def Zv.body:DC:=.seq (qR Zv.r0 [0,3]) (.seq (qR Zv.r1 [0,3]) (.seq (.regD [0,3,4,1,2,5,6,7,8,9,10] Zv.r2 (sO [0,3,5])) (.seq (qR Zv.r3 [0,3]) (.seq (.regD [1,2,7,0,3,4,5,6,8,9] Zv.r4 (sO [0,3,5,6])) (.seq (qR Zv.r5 [0,3,6]) (.seq (qR Zv.r6 [0,3,6,7]) (.seq (qR Zv.r7 [0,3,6,7]) (.seq (qR Zv.r8 [0,3,6]) (qR Zv.r9 [])))))))))
def Zv.df:DF:=⟨54,[],Zv.body⟩
theorem Zv.ok:kO Zyg Zv.an Zv.id Zv.df:=by unfold kO;kernel_rfl
def Zm.r0:List DOp:=[qB 1 0,⟨sO 2,nO,.q .mv [.cst (.nilfn)]⟩]
def Zm.r1:=[qA 3 [.nilsl]]
def Zm.r2:=qQ 7 [wa 1 1,vl,vk .lenL,wi 0]
def Zm.r3:=[qd 12 .lss 11 10]
def Zm.r4:=[qX 13 15 9 11,qL 14 15 13,qA 5 zF,qS 15 5 14]
def Zm.r5:=[qa 15 1 5,ql 16 15]
def Zm.r6:=[qe 18 .eql 16 7,qm 17 18]
def Zm.r7:=[qe 19 .eql 16 8,qm 17 19]
def Zm.r8:=[qe 20 .eql 16 12,qm 17 20]
def Zm.r9:List DOp:=qQ 20 [wl 3,wa 9 5,vl]++[⟨sO 24,nO,.bsl 1 1 [.str []] [0] [.tmp 23]⟩,⟨sO 25,nO,.append 9 1 16 [.str []] (.tmp 21) (.tmp 24)⟩,qs 3 25]
def Zm.r10:=[qe 27 .eql 16 9,qm 26 27]
def Zm.r11:=qQ 27 [wa 12 5,vl,vk .lenL,wi 0]
def Zm.r12:=[qd 32 .lss 31 30]
def Zm.r13:=[qX 33 3 29 31,qL 34 3 33,qA 7 [.int .i64 0,.int .i64 0,.str []],qS 3 7 34]
def Zm.r14:List DOp:=qQ 34 [wl 3,wa 2 7,vl]++[⟨sO 38,nO,.bsl 1 1 [.str []] [0] [.tmp 37]⟩,⟨sO 39,nO,.append 9 1 16 [.str []] (.tmp 35) (.tmp 38)⟩,qs 3 39]
def Zm.r15:=[qe 40 .add 31 1,qm 31 40]
def Zm.l1:DC:=.seq (qR Zm.r12 [3,9,10,11,29,30,31,32]) (.seq (qC 32 .skip (.exit 3)) (.seq (.block 4 (.seq (qR Zm.r13 [3,7,9,10,11,29,30,31]) (qR Zm.r14 [3,9,10,11,29,30,31]))) (qR Zm.r15 [3,9,10,11,29,30,31])))
def Zm.r16:=[qe 41 .add 11 1,qm 11 41]
def Zm.l0:DC:=.seq (qR Zm.r3 [3,9,10,11,12]) (.seq (qC 12 .skip (.exit 0)) (.seq (.block 1 (.seq (qR Zm.r4 [3,5,9,10,11]) (.seq (qR Zm.r5 [3,5,9,10,11,16]) (.block 2 (.seq (.seq (qR Zm.r6 [3,5,9,10,11,16,17]) (qC 17 .skip (.seq (qR Zm.r7 [3,5,9,10,11,16,17]) (qC 17 .skip (qR Zm.r8 [3,5,9,10,11,16,17]))))) (qC 17 (qR Zm.r9 [3,9,10,11]) (.seq (qR Zm.r10 [3,5,9,10,11,26]) (qC 26 (.seq (qR Zm.r11 [3,9,10,11,29,30,31]) (.block 3 (.loop Zm.l1))) .skip)))))))) (qR Zm.r16 [3,9,10,11])))
def Zm.r17:List DOp:=[⟨sO 42,nO,.q (.mkfn (.func 192) 0) [.tmp 3]⟩,qm 2 42]
abbrev Zm.id:Nat:=145
def Zm.body:DC:=.seq (qR Zm.r0 [1]) (.seq (qR Zm.r1 [1,3]) (.seq (.seq (qR Zm.r2 [3,9,10,11]) (.block 0 (.loop Zm.l0))) (.seq (qR Zm.r17 [2]) .ret)))
def Zm.an:=kA Zm.body (Zyl 18)
def Zm.df:DF:=⟨43,[.tmp 2],Zm.body⟩
theorem Zm.ok:kO Zyg Zm.an Zm.id Zm.df:=by unfold kO;kernel_rfl
def ZY.r0:=[qi 4 0]
def ZY.r1:=qQ 5 [wm 0,vk .lenL,wi 0]
def ZY.r2:=[qd 9 .lss 8 7]
def ZY.r3:=[qm 10 8,qm 5 10]
def ZY.r4:List DOp:=qQ 10 [wm 1,wm 0,wm 5,vX 1 12,vl]++[⟨sO 16,nO,.q (.bin .eql (sO .bool)) [.tmp 11,.tmp 15]⟩]
def ZY.r5:=[qm 17 5,qm 4 17]
def ZY.r6:=[qe 18 .add 8 1,qm 8 18]
def ZY.l0:DC:=.seq (qR ZY.r2 [0,1,7,8,9]) (.seq (qC 9 .skip (.exit 0)) (.seq (.block 1 (.seq (qR ZY.r3 [0,1,5,7,8]) (.seq (qR ZY.r4 [0,1,5,7,8,16]) (qC 16 (.seq (qR ZY.r5 [4]) .ret) .skip)))) (qR ZY.r6 [0,1,7,8])))
def ZY.r7:=[qi 4 (-1)]
abbrev ZY.id:Nat:=146
def ZY.body:DC:=.seq (qR ZY.r0 [0,1]) (.seq (.seq (qR ZY.r1 [0,1,7,8]) (.block 0 (.loop ZY.l0))) (.seq (qR ZY.r7 [4]) .ret))
def ZY.an:=kA ZY.body (Zyl 8)
def ZY.df:DF:=⟨19,[.tmp 4],ZY.body⟩
theorem ZY.ok:kO Zyg ZY.an ZY.id ZY.df:=by unfold kO;kernel_rfl
def Jm.r0:List DOp:=[⟨sO 2,nO,.q .mv [.cst (.str [])]⟩]
def Jm.r1:List DOp:=[⟨sO 3,nO,.bsl 13 1 [.str []] [0,1,2,3,4,5,6,7,8,9,10,11,12] [.cst (.str []),.cst (.str [98,108,120,104]),.cst (.str [98,108,120]),.cst (.str [111,120,104]),.cst (.str [115]),.cst (.str [120,104]),.cst (.str [111,104]),.cst (.str [102,115]),.cst (.str [102]),.cst (.str [116,99]),.cst (.str [98]),.cst (.str [114,107]),.cst (.str [102,115,121])]⟩]++qQ 3 [wm 0,vX 1 3,vl]++[qm 2 6]
abbrev Jm.id:Nat:=175
def Jm.body:DC:=.seq (qR Jm.r0 [0]) (.seq (qR Jm.r1 [2]) .ret)
def Jm.an:=kA Jm.body (Zyl 2)
def Jm.df:DF:=⟨7,[.tmp 2],Jm.body⟩
theorem Jm.ok:kO Zyg Jm.an Jm.id Jm.df:=by unfold kO;kernel_rfl
def KH.r0:=[qb 4 false]
def KH.r1:=[qi 5 0]
def KH.r2:=qQ 5 [vm,wm 0,vk .lenS,vd .lss 6]
def KH.r4:List DOp:=[qm 12 0,qm 13 5,⟨sO 14,nO,.q .idxS [.tmp 12,.tmp 13]⟩,qm 15 1,qd 16 .eql 14 15]
def KH.r5:=[qb 4 true]
def KH.r3:=[qm 10 5,qe 11 .add 10 1,qm 5 11]
def KH.l0:DC:=.seq (.seq (qR KH.r2 [0,1,5,9]) (qC 9 .skip (.exit 0))) (.seq (.block 1 (.seq (qR KH.r4 [0,1,5,16]) (qC 16 (.seq (qR KH.r5 [4]) .ret) .skip))) (qR KH.r3 [0,1,5]))
def KH.r6:=[qb 4 false]
abbrev KH.id:Nat:=176
def KH.body:DC:=.seq (qR KH.r0 [0,1]) (.seq (.seq (qR KH.r1 [0,1,5]) (.block 0 (.loop KH.l0))) (.seq (qR KH.r6 [4]) .ret))
def KH.an:=kA KH.body [0,1,2,4,5,3,6]
def KH.df:DF:=⟨17,[.tmp 4],KH.body⟩
theorem KH.ok:kO Zyg KH.an KH.id KH.df:=by unfold kO;kernel_rfl
def Y1.r0:=[qB 1 0,qi 2 0]
def Y1.r1:=qQ 3 [wa 2 1,vl,ve .lss 1,vm,wn 7 (wa 2 1),wn 7 vl,wn 7 (ve .gtr 32),vo 7,vm,wn 12 (wa 3 1),wn 12 vl,wn 12 vm,wy 15 (wa 2 1),wy 15 vl,wy 15 (ve .neq 16),wn 12 (vO 15),wn 12 vm,wy 20 (wa 2 1),wy 20 vl,wy 20 (ve .neq 24),wn 12 (vO 20),wn 12 vm,wy 25 (wa 2 1),wy 25 vl,wy 25 (ve .neq 32),wn 12 (vO 25),vo 12]
def Y1.r2:=[qi 2 6]
def Y1.r3:=[qa 31 6 1,ql 32 31,qm 3 32]
def Y1.r4:=qQ 32 [wa 1 1,vl,ve .eql 2]
def Y1.r5:=[qa 36 5 1,ql 37 36,qm 3 37]
def Y1.r6:=qQ 37 [wa 5 1,vl,ve .lss 0,vm,wn 41 (wa 5 1),wn 41 vl,wn 41 (wm 3),wn 41 (vd .gtr 43),vo 41,vm,wn 47 (wm 3),wn 47 (wa 2 1),wn 47 vl]++[qn 47 ⟨sO 51,nO,.q (.bin .shl (nO)) [.cst (.int .i64 1),.tmp 50]⟩,qn 47 (qd 52 .geq 48 51),qo 53 47 52]
def Y1.r7:=[qi 2 7]
def Y1.r8:=[qi 2 0]
abbrev Y1.id:Nat:=177
def Y1.body:DC:=.seq (qR Y1.r0 [1]) (.seq (.seq (qR Y1.r1 [1,30]) (qC 30 (.seq (qR Y1.r2 [2]) .ret) .skip)) (.seq (qR Y1.r3 [1,3]) (.seq (.seq (qR Y1.r4 [1,3,35]) (qC 35 (qR Y1.r5 [1,3]) .skip)) (.seq (.seq (qR Y1.r6 [53]) (qC 53 (.seq (qR Y1.r7 [2]) .ret) .skip)) (.seq (qR Y1.r8 [2]) .ret)))))
def Y1.an:=kA Y1.body (Zyl 9)
def Y1.df:DF:=⟨54,[.tmp 2],Y1.body⟩
theorem Y1.ok:kO Zyg Y1.an Y1.id Y1.df:=by unfold kO;kernel_rfl
def Jn.r0:=[qb 4 false]
def Jn.r1:=qQ 4 [wm 0,ve .geq 0,vm,wy 7 (wm 0),wy 7 (wm 1),wy 7 (vd .leq 8),vO 7,vm,wy 12 (wm 1),wy 12 (ve .lss 34359738368),vO 12]++[qm 4 15]
abbrev Jn.id:Nat:=178
def Jn.body:DC:=.seq (qR Jn.r0 [0,1]) (.seq (qR Jn.r1 [4]) .ret)
def Jn.an:=kA Jn.body (Zyl 2)
def Jn.df:DF:=⟨16,[.tmp 4],Jn.body⟩
theorem Jn.ok:kO Zyg Jn.an Jn.id Jn.df:=by unfold kO;kernel_rfl
def Yi.r0:=[qB 2 0,qi 4 0]
def Yi.r1:=qQ 13 [wa 1 2,vl,wm 1,vX 15 15,va 7,vL 2]++[qA 5 [.int .i64 0,.nilsl],qS 2 5 19]
def Yi.r2:=qQ 19 [wL 2 5,wf 234 [.tmp 20],vk .not]
def Yi.r3:=[qi 4 9]
def Yi.r4:List DOp:=[⟨sO 6,nO,.q .mv [.cst (.nilsl)]⟩]
def Yi.r5:=[qi 7 0]
def Yi.r6:=qQ 22 [wm 7,wa 1 5,vl,vk .lenL,vd .lss 23]
def Yi.r8:=qQ 29 [wL 2 2,wa 1 5,vl,wm 7,vX 2 32,va 0,vl,wm 1,wf 50 [.tmp 30,.tmp 36,.tmp 37]]++[qm 8 38]
def Yi.r9:=qQ 38 [wm 8,ve .lss 0,vm,wn 41 (wa 1 2),wn 41 vl,wn 41 (wm 8),wn 41 (vX 15 43),wn 41 (vL 15),wn 41 (wf 180 [.tmp 46]),wn 41 (vk .not),vo 41]
def Yi.r10:=[qi 4 8]
def Yi.r11:=qQ 50 [wa 1 2,vl,wm 8,vX 15 52,vL 15,wf 40 [.tmp 55]]++[qm 50 56,qx 57 0 50,qx 58 1 50,qm 9 57,qm 10 58]
def Yi.r12:List DOp:=qQ 58 [wm 6,wa 1 5,vl,wm 7,vX 2 61,va 0,vl,wm 9,wm 10]++[⟨sO 68,nO,.q (.build [.str [],.int .i64 0,.int .i64 0] [(0,1),(1,1),(2,1)]) [.tmp 65,.tmp 66,.tmp 67]⟩,⟨sO 69,nO,.bsl 1 3 [.str [],.int .i64 0,.int .i64 0] [0] [.tmp 68]⟩,⟨sO 70,nO,.append 322 3 32 [.str [],.int .i64 0,.int .i64 0] (.tmp 59) (.tmp 69)⟩,qm 6 70]
def Yi.r7:=[qm 28 7,qe 29 .add 28 1,qm 7 29]
def Yi.l0:DC:=.seq (.seq (qR Yi.r6 [1,2,5,6,7,27]) (qC 27 .skip (.exit 0))) (.seq (.block 1 (.seq (.regD [0,1,2,3,4,5,6,7,8,9] (Jo Yi.r8) (sO [1,2,5,6,7,8])) (.seq (.seq (qR Yi.r9 [1,2,5,6,7,8,49]) (qC 49 (.seq (qR Yi.r10 [4]) .ret) .skip)) (.seq (qR Yi.r11 [1,2,5,6,7,9,10]) (qR Yi.r12 [1,2,5,6,7]))))) (qR Yi.r7 [1,2,5,6,7]))
def Yi.r13:=qQ 71 [wL 2 5,wm 6,wf 235 [.tmp 72,.tmp 73]]++[qm 71 74]++qQ 74 [wx 0 71,wx 1 71,wx 2 71]++qQ 10 [wm 75,wm 76,wm 77]
def Yi.r14:=qQ 77 [wm 13,ve .neq 0,vm,wn 80 (wm 11),wn 80 (ve .lss 0),vo 80,vm,wn 84 (wm 12),wn 84 (ve .gtr 1048576),vo 84]
def Yi.r15:=[qi 4 9]
def Yi.r16:=[qi 4 0]
abbrev Yi.id:Nat:=179
def Yi.an:Ann:=[(0,[1,2]),(1,[1,2,5]),(2,[1,2,5,22]),(3,[4]),(4,[1,2,5,6]),(5,[1,2,5,6,7]),(6,[1,2,5,6,7,27]),(7,[1,2,5,6,7]),(8,[1,2,5,6,7,8]),(9,[1,2,5,6,7,8,49]),(10,[4]),(11,[1,2,5,6,7,9,10]),(12,[1,2,5,6,7]),(13,[11,12,13]),(14,[87]),(15,[4]),(16,[4]),(1000008,[0,1,2,3,4,5,6,7,8,9])]
def Yi.body:DC:=.seq (qR Yi.r0 [1,2]) (.seq (qR Yi.r1 [1,2,5]) (.seq (.seq (qR Yi.r2 [1,2,5,22]) (qC 22 (.seq (qR Yi.r3 [4]) .ret) .skip)) (.seq (qR Yi.r4 [1,2,5,6]) (.seq (.seq (qR Yi.r5 [1,2,5,6,7]) (.block 0 (.loop Yi.l0))) (.seq (qR Yi.r13 [11,12,13]) (.seq (.seq (qR Yi.r14 [87]) (qC 87 (.seq (qR Yi.r15 [4]) .ret) .skip)) (.seq (qR Yi.r16 [4]) .ret)))))))
def Yi.df:DF:=⟨88,[.tmp 4],Yi.body⟩
theorem Yi.ok:kO Zyg Yi.an Yi.id Yi.df:=by unfold kO;kernel_rfl
def Qn.r0:=[qB 1 0,qb 2 false]
def Qn.r1:=qQ 2 [wa 1 1,vl,ve .geq 1,vm,wy 6 (wa 1 1),wy 6 vl,wy 6 (ve .leq 3),vO 6]++[qm 2 10]
abbrev Qn.id:Nat:=180
def Qn.body:DC:=.seq (qR Qn.r0 [1]) (.seq (qR Qn.r1 [2]) .ret)
def Qn.an:=kA Qn.body (Zyl 2)
def Qn.df:DF:=⟨11,[.tmp 2],Qn.body⟩
theorem Qn.ok:kO Zyg Qn.an Qn.id Qn.df:=by unfold kO;kernel_rfl
def Wh.r0:=[qB 3 0,qb 6 false]
def Wh.r1:=[qi 7 0]
def Wh.r2:=qQ 7 [vm,wm 2,vd .lss 8]
def Wh.r4:=qQ 12 [wa 1 3,vl,wm 7,vX 15 14,va 1,vl,ve .eql 9,vm,wy 20 (wa 1 3),wy 20 vl,wy 20 (wm 7),wy 20 (vX 15 22),wy 20 (va 10),wy 20 vl,wy 20 (wm 1),wy 20 (vd .eql 26),vO 20]
def Wh.r5:=[qb 6 true]
def Wh.r3:=[qm 11 7,qe 12 .add 11 1,qm 7 12]
def Wh.l0:DC:=.seq (.seq (qR Wh.r2 [1,2,3,7,10]) (qC 10 .skip (.exit 0))) (.seq (.block 1 (.seq (qR Wh.r4 [1,2,3,7,29]) (qC 29 (.seq (qR Wh.r5 [6]) .ret) .skip))) (qR Wh.r3 [1,2,3,7]))
def Wh.r6:=[qb 6 false]
abbrev Wh.id:Nat:=181
def Wh.body:DC:=.seq (qR Wh.r0 [1,2,3]) (.seq (.seq (qR Wh.r1 [1,2,3,7]) (.block 0 (.loop Wh.l0))) (.seq (qR Wh.r6 [6]) .ret))
def Wh.an:=kA Wh.body [0,1,2,4,5,3,6]
def Wh.df:DF:=⟨30,[.tmp 6],Wh.body⟩
theorem Wh.ok:kO Zyg Wh.an Wh.id Wh.df:=by unfold kO;kernel_rfl
def YM.r0:=[qB 5 0,qB 7 2,qi 10 0]
def YM.r1:=qQ 12 [wa 12 7,vl,vk .lenL,ve .lss 1,vm,wn 17 (wa 12 7),wn 17 vl,wn 17 (vk .lenL),wn 17 (ve .gtr 40),vo 17]
def YM.r2:=[qi 10 3]
def YM.r3:=[qi 11 0]
def YM.r4:=qQ 22 [wm 11,wa 12 7,vl,vk .lenL,vd .lss 23]
def YM.r6:=qQ 29 [wa 12 7,vl,wm 11,vX 3 31,vL 3]++[qA 12 [.int .i64 0,.int .i64 0,.str []],qS 3 12 34]
def YM.r7:=qQ 34 [wa 0 12,vl,wm 3,vd .lss 36,vm,wn 39 (wa 0 12),wn 39 vl,wn 39 (wa 1 12),wn 39 vl,wn 39 (vd .gtr 41),vo 39,vm,wn 46 (wa 1 12),wn 46 vl,wn 46 (wm 4),wn 46 (vd .gtr 48),vo 46,vm,wn 52 (wm 11),wn 52 (ve .gtr 0),wn 52 vm,wy 55 (wa 0 12),wy 55 vl,wy 55 (wa 12 7),wy 55 vl,wy 55 (wm 11),wy 55 (ve .sub 1),wy 55 (vX 3 59),wy 55 (va 1),wy 55 vl,wy 55 (vd .leq 57),wn 52 (vO 55),vo 52]
def YM.r8:=[qi 10 7]
def YM.r9:=qQ 67 [wL 3 5,wa 2 12,vl,wm 1,wf 29 [.tmp 68,.tmp 70,.tmp 71],ve .lss 0]
def YM.r10:=[qi 10 8]
def YM.r5:=[qm 28 11,qe 29 .add 28 1,qm 11 29]
def YM.l0:DC:=.seq (.seq (qR YM.r4 [1,3,4,5,7,11,27]) (qC 27 .skip (.exit 0))) (.seq (.block 1 (.seq (qR YM.r6 [1,3,4,5,7,11,12]) (.seq (.seq (.regD [0,1,2,3,4,5,6,7,8,9,10,11,12,13,14,15,16,17,18,19,20,21,22,23,24,25,26,27,28,29,30,31,32] (Jo YM.r7) (sO [1,3,4,5,7,11,12,67])) (qC 67 (.seq (qR YM.r8 [10]) .ret) .skip)) (.seq (qR YM.r9 [1,3,4,5,7,11,73]) (qC 73 (.seq (qR YM.r10 [10]) .ret) .skip))))) (qR YM.r5 [1,3,4,5,7,11]))
def YM.r11:=[qi 10 0]
abbrev YM.id:Nat:=182
def YM.an:Ann:=[(0,[1,3,4,5,7]),(1,[1,3,4,5,7,22]),(2,[10]),(3,[1,3,4,5,7,11]),(4,[1,3,4,5,7,11,27]),(5,[1,3,4,5,7,11]),(6,[1,3,4,5,7,11,12]),(7,[1,3,4,5,7,11,12,67]),(8,[10]),(9,[1,3,4,5,7,11,73]),(10,[10]),(11,[10]),(1000007,[0,1,2,3,4,5,6,7,8,9,10,11,12,13,14,15,16,17,18,19,20,21,22,23,24,25,26,27,28,29,30,31,32])]
def YM.body:DC:=.seq (qR YM.r0 [1,3,4,5,7]) (.seq (.seq (qR YM.r1 [1,3,4,5,7,22]) (qC 22 (.seq (qR YM.r2 [10]) .ret) .skip)) (.seq (.seq (qR YM.r3 [1,3,4,5,7,11]) (.block 0 (.loop YM.l0))) (.seq (qR YM.r11 [10]) .ret)))
def YM.df:DF:=⟨74,[.tmp 10],YM.body⟩
theorem YM.ok:kO Zyg YM.an YM.id YM.df:=by unfold kO;kernel_rfl
def ZJ.r0:List DOp:=[qB 2 0,⟨sO 4,nO,.q .mv [.cst (.nilsl)]⟩]
def ZJ.r1:List DOp:=[⟨sO 5,nO,.q .mv [.cst (.nilsl)]⟩]
def ZJ.r2:=[qi 6 0]
def ZJ.r3:=qQ 10 [wm 6,wm 1,vd .lss 11]
def ZJ.r5:=[qb 7 true]
def ZJ.r6:=[qi 8 0]
def ZJ.r7:=qQ 15 [wm 8,wa 1 2,vl,wm 6,vX 2 18,va 1,vl,vk .lenL,vd .lss 16]
def ZJ.r9:=qQ 26 [wm 7,vm,wy 28 (wa 1 2),wy 28 vl,wy 28 (wm 6),wy 28 (vX 2 30),wy 28 (va 1),wy 28 vl,wy 28 (wm 8),wy 28 (vX 15 34),wy 28 (va 4),wy 28 vl,wy 28 (vk .not),vO 28]++[qm 7 40]
def ZJ.r8:=[qm 25 8,qe 26 .add 25 1,qm 8 26]
def ZJ.l1:DC:=.seq (.seq (qR ZJ.r7 [1,2,5,6,7,8,24]) (qC 24 .skip (.exit 2))) (.seq (.block 3 (qR ZJ.r9 [1,2,5,6,7,8])) (qR ZJ.r8 [1,2,5,6,7,8]))
def ZJ.r10:=qQ 40 [wa 1 2,vl,wm 6,vX 2 42,vL 2,wf 98 [.tmp 45]]++[qm 9 46]
def ZJ.r11:=[qi 10 0]
def ZJ.r12:=qQ 46 [wm 10,wm 9,vk .lenL,vd .lss 47]
def ZJ.r14:=qQ 52 [wm 7,vm,wy 54 (wm 5),wy 54 (wL 3 2),wy 54 (wm 9),wy 54 (wm 10),wy 54 (vX 1 57),wy 54 vl,wy 54 (wm 6),wy 54 (wf 29 [.tmp 56,.tmp 60,.tmp 61]),wy 54 (vX 1 55),wy 54 vl,vO 54]++[qm 7 65]
def ZJ.r13:=[qm 51 10,qe 52 .add 51 1,qm 10 52]
def ZJ.l2:DC:=.seq (.seq (qR ZJ.r12 [1,2,5,6,7,9,10,50]) (qC 50 .skip (.exit 4))) (.seq (.block 5 (.regD [0,1,2,3,4,5,6,7,8,9,10,11,12,13] (Jo ZJ.r14) (sO [1,2,5,6,7,9,10]))) (qR ZJ.r13 [1,2,5,6,7,9,10]))
def ZJ.r15:List DOp:=[qm 66 5,qm 67 7,⟨sO 68,nO,.bsl 1 1 [.bool false] [0] [.tmp 67]⟩,⟨sO 69,nO,.append 4 1 1 [.bool false] (.tmp 66) (.tmp 68)⟩,qm 5 69]
def ZJ.r4:=[qm 14 6,qe 15 .add 14 1,qm 6 15]
def ZJ.l0:DC:=.seq (.seq (qR ZJ.r3 [1,2,5,6,13]) (qC 13 .skip (.exit 0))) (.seq (.block 1 (.seq (qR ZJ.r5 [1,2,5,6,7]) (.seq (.seq (qR ZJ.r6 [1,2,5,6,7,8]) (.block 2 (.loop ZJ.l1))) (.seq (qR ZJ.r10 [1,2,5,6,7,9]) (.seq (.seq (qR ZJ.r11 [1,2,5,6,7,9,10]) (.block 4 (.loop ZJ.l2))) (qR ZJ.r15 [1,2,5,6])))))) (qR ZJ.r4 [1,2,5,6]))
def ZJ.r16:=[qm 70 5,qm 4 70]
abbrev ZJ.id:Nat:=183
def ZJ.an:Ann:=[(0,[1,2]),(1,[1,2,5]),(2,[1,2,5,6]),(3,[1,2,5,6,13]),(4,[1,2,5,6]),(5,[1,2,5,6,7]),(6,[1,2,5,6,7,8]),(7,[1,2,5,6,7,8,24]),(8,[1,2,5,6,7,8]),(9,[1,2,5,6,7,8]),(10,[1,2,5,6,7,9]),(11,[1,2,5,6,7,9,10]),(12,[1,2,5,6,7,9,10,50]),(13,[1,2,5,6,7,9,10]),(14,[1,2,5,6,7,9,10]),(15,[1,2,5,6]),(16,[4]),(1000014,[0,1,2,3,4,5,6,7,8,9,10,11,12,13])]
def ZJ.body:DC:=.seq (qR ZJ.r0 [1,2]) (.seq (qR ZJ.r1 [1,2,5]) (.seq (.seq (qR ZJ.r2 [1,2,5,6]) (.block 0 (.loop ZJ.l0))) (.seq (qR ZJ.r16 [4]) .ret)))
def ZJ.df:DF:=⟨71,[.tmp 4],ZJ.body⟩
theorem ZJ.ok:kO Zyg ZJ.an ZJ.id ZJ.df:=by unfold kO;kernel_rfl
def Wq.r0:=[qB 2 0,qb 3 false]
def Wq.r1:List DOp:=qQ 4 [wl 1,wa 0 2,vl]++[⟨sO 8,nO,.q (.lookup (.sc .str) (.bool false) false) [.tmp 5,.tmp 7]⟩,qm 4 8]
def Wq.r2:List DOp:=qQ 8 [wl 1,wa 0 2,vl]++[⟨nO,nO,.mapupd (.sc .str) (.tmp 9) (.tmp 11) (.cst (.bool true))⟩]
def Wq.r3:=[qu (qm 12 4),qu (qm 13 12),qu (qn 13 (qa 14 0 2)),qu (qn 13 (ql 15 14)),qu (qn 13 (qa 17 1 2)),qu (qn 13 (ql 18 17)),qu (qn 13 (qe 19 .neq 18 0)),qu (qn 13 (qa 20 1 2)),qu (qn 13 (ql 21 20)),(qn 13 (qf 16 54 [.tmp 15]),[21,18]),(qn 13 (qf 22 185 [.tmp 21]),[18]),qu (qn 13 ⟨sO 23,nO,.bsl 3 1 [.bool false] [0,1,2] [.tmp 16,.tmp 19,.tmp 22]⟩),qu (qn 13 (qf 24 81 [.tmp 23])),qu (qn 13 (qk 25 .not 24)),qu (qo 26 13 25),qu (qm 3 26)]
abbrev Wq.id:Nat:=184
def Wq.an:Ann:=[(0,[1,2]),(1,[1,2,4]),(2,[2,4]),(3,[3]),(1000003,[0,1,2,3,5,6,7,8,9,4,10,11,12,13,14,15]),(8000003,[21,18]),(14000003,[18])]
def Wq.body:DC:=.seq (qR Wq.r0 [1,2]) (.seq (qR Wq.r1 [1,2,4]) (.seq (qR Wq.r2 [2,4]) (.seq (.regD [0,1,2,3,5,6,7,8,9,4,10,11,12,13,14,15] Wq.r3 (sO [3])) .ret)))
def Wq.df:DF:=⟨27,[.tmp 3],Wq.body⟩
theorem Wq.ok:kO Zyg Wq.an Wq.id Wq.df:=by unfold kO;kernel_rfl
def Qp.r0:=[qb 2 false]
def Qp.r1:List DOp:=[qm 3 0,⟨sO 4,nO,.q (.bin .geq (nO)) [.tmp 3,.cst (.int .i64 (-1048576))]⟩]++qQ 4 [vm,wy 5 (wm 0),wy 5 (ve .leq 1048576),vO 5]++[qm 2 8]
abbrev Qp.id:Nat:=185
def Qp.body:DC:=.seq (qR Qp.r0 [0]) (.seq (qR Qp.r1 [2]) .ret)
def Qp.an:=kA Qp.body (Zyl 2)
def Qp.df:DF:=⟨9,[.tmp 2],Qp.body⟩
theorem Qp.ok:kO Zyg Qp.an Qp.id Qp.df:=by unfold kO;kernel_rfl
def Yt.r0:=[qb 4 false]
def Yt.r1:=qQ 4 [wm 0,wm 1,wf 236 [.tmp 5,.tmp 6],ve .geq 0]++[qm 4 8]
abbrev Yt.id:Nat:=186
def Yt.body:DC:=.seq (qR Yt.r0 [0,1]) (.seq (qR Yt.r1 [4]) .ret)
def Yt.an:=kA Yt.body (Zyl 2)
def Yt.df:DF:=⟨9,[.tmp 4],Yt.body⟩
theorem Yt.ok:kO Zyg Yt.an Yt.id Yt.df:=by unfold kO;kernel_rfl
def YK.r0:List DOp:=[⟨sO 2,nO,.q .mv [.cst (.nilsl)]⟩]
def YK.r1:List DOp:=[qm 3 0,⟨sO 4,nO,.q (.bin .eql (sO .sl)) [.tmp 3,.cst (.nilsl)]⟩]
def YK.r2:List DOp:=[⟨sO 2,nO,.q .mv [.cst (.nilsl)]⟩]
def YK.r3:List DOp:=[⟨sO 5,nO,.bsl 0 2 [.str [],.int .i64 0] [] []⟩,qm 6 0,⟨sO 7,nO,.append 51 2 24 [.str [],.int .i64 0] (.tmp 5) (.tmp 6)⟩,qm 2 7]
abbrev YK.id:Nat:=187
def YK.body:DC:=.seq (qR YK.r0 [0]) (.seq (.seq (qR YK.r1 [0,4]) (qC 4 (.seq (qR YK.r2 [2]) .ret) .skip)) (.seq (qR YK.r3 [2]) .ret))
def YK.an:=kA YK.body (Zyl 4)
def YK.df:DF:=⟨8,[.tmp 2],YK.body⟩
theorem YK.ok:kO Zyg YK.an YK.id YK.df:=by unfold kO;kernel_rfl
def YX.r0:=qQ 4 [wl 1,vk .lenL,wi 0]
def YX.r1:=[qd 8 .lss 7 6]
def YX.r2:=[qX 9 2 5 7,qL 10 2 9,qA 4 [.str [],.int .i64 0],qS 2 4 10]
def YX.r3:List DOp:=qQ 10 [wm 0,wa 0 4,vl]++[⟨sO 14,nO,.call (.tmp 11) [.tmp 13]⟩,qk 15 .not 14]
def YX.r4:=[qe 16 .add 7 1,qm 7 16]
def YX.l0:DC:=.seq (qR YX.r1 [0,5,6,7,8]) (.seq (qC 8 .skip (.exit 0)) (.seq (.block 1 (.seq (qR YX.r2 [0,4,5,6,7]) (.seq (qR YX.r3 [0,5,6,7,15]) (qC 15 .ret .skip)))) (qR YX.r4 [0,5,6,7])))
abbrev YX.id:Nat:=188
def YX.body:DC:=.seq (qR YX.r0 [0,5,6,7]) (.block 0 (.loop YX.l0))
def YX.an:=kA YX.body (Zyl 5)
def YX.df:DF:=⟨17,[],YX.body⟩
theorem YX.ok:kO Zyg YX.an YX.id YX.df:=by unfold kO;kernel_rfl
def YU.r0:List DOp:=[⟨sO 2,nO,.q .mv [.cst (.nilsl)]⟩]
def YU.r1:List DOp:=qQ 2 [wm 0,vk .nilck,va 7,va 1,vl,wm 0,vk .nilck,va 6,vl]++[⟨sO 12,nO,.q (.slice 15 false true false) [.tmp 7,.tmp 11]⟩,qm 2 12]
abbrev YU.id:Nat:=189
def YU.an:Ann:=[(0,[0]),(1,[2]),(1000001,[0,1,2,3,4,5,6,7,8,9,10])]
def YU.body:DC:=.seq (qR YU.r0 [0]) (.seq (.regD [0,1,2,3,4,5,6,7,8,9,10] (Jo YU.r1) (sO [2])) .ret)
def YU.df:DF:=⟨13,[.tmp 2],YU.body⟩
theorem YU.ok:kO Zyg YU.an YU.id YU.df:=by unfold kO;kernel_rfl
def Ky.r0:List DOp:=[⟨sO 0,nO,.q .mv [.cst (.nilmap)]⟩]
def Ky.r1:List DOp:=[⟨sO 1,nO,.mkmap⟩,⟨sO 2,nO,.q (.build [.nilfn,.nilfn] [(0,1),(1,1)]) [.cst (.fn (.func 237) [] []),.cst (.fn (.func 238) [] [])]⟩,⟨nO,nO,.mapupd (.sc .int) (.tmp 1) (.cst (.int .i64 1)) (.tmp 2)⟩,⟨sO 3,nO,.q (.build [.nilfn,.nilfn] [(0,1),(1,1)]) [.cst (.fn (.func 241) [] []),.cst (.fn (.func 242) [] [])]⟩,⟨nO,nO,.mapupd (.sc .int) (.tmp 1) (.cst (.int .i64 2)) (.tmp 3)⟩,⟨sO 4,nO,.q (.build [.nilfn,.nilfn] [(0,1),(1,1)]) [.cst (.fn (.func 243) [] []),.cst (.fn (.func 244) [] [])]⟩,⟨nO,nO,.mapupd (.sc .int) (.tmp 1) (.cst (.int .i64 3)) (.tmp 4)⟩,⟨sO 5,nO,.q (.build [.nilfn,.nilfn] [(0,1),(1,1)]) [.cst (.fn (.func 245) [] []),.cst (.fn (.func 246) [] [])]⟩,⟨nO,nO,.mapupd (.sc .int) (.tmp 1) (.cst (.int .i64 4)) (.tmp 5)⟩,⟨sO 6,nO,.q (.build [.nilfn,.nilfn] [(0,1),(1,1)]) [.cst (.fn (.func 247) [] []),.cst (.fn (.func 248) [] [])]⟩,⟨nO,nO,.mapupd (.sc .int) (.tmp 1) (.cst (.int .i64 5)) (.tmp 6)⟩,⟨sO 7,nO,.q (.build [.nilfn,.nilfn] [(0,1),(1,1)]) [.cst (.fn (.func 249) [] []),.cst (.fn (.func 250) [] [])]⟩,⟨nO,nO,.mapupd (.sc .int) (.tmp 1) (.cst (.int .i64 6)) (.tmp 7)⟩,⟨sO 8,nO,.q (.build [.nilfn,.nilfn] [(0,1),(1,1)]) [.cst (.fn (.func 251) [] []),.cst (.fn (.func 252) [] [])]⟩,⟨nO,nO,.mapupd (.sc .int) (.tmp 1) (.cst (.int .i64 7)) (.tmp 8)⟩,⟨sO 9,nO,.q (.build [.nilfn,.nilfn] [(0,1),(1,1)]) [.cst (.fn (.func 254) [] []),.cst (.fn (.func 255) [] [])]⟩,⟨nO,nO,.mapupd (.sc .int) (.tmp 1) (.cst (.int .i64 8)) (.tmp 9)⟩,⟨sO 10,nO,.q (.build [.nilfn,.nilfn] [(0,1),(1,1)]) [.cst (.fn (.func 256) [] []),.cst (.fn (.func 257) [] [])]⟩,⟨nO,nO,.mapupd (.sc .int) (.tmp 1) (.cst (.int .i64 9)) (.tmp 10)⟩,⟨sO 11,nO,.q (.build [.nilfn,.nilfn] [(0,1),(1,1)]) [.cst (.fn (.func 258) [] []),.cst (.fn (.func 259) [] [])]⟩,⟨nO,nO,.mapupd (.sc .int) (.tmp 1) (.cst (.int .i64 10)) (.tmp 11)⟩,⟨sO 12,nO,.q (.build [.nilfn,.nilfn] [(0,1),(1,1)]) [.cst (.fn (.func 260) [] []),.cst (.fn (.func 261) [] [])]⟩,⟨nO,nO,.mapupd (.sc .int) (.tmp 1) (.cst (.int .i64 11)) (.tmp 12)⟩,⟨sO 13,nO,.q (.build [.nilfn,.nilfn] [(0,1),(1,1)]) [.cst (.fn (.func 262) [] []),.cst (.fn (.func 263) [] [])]⟩,⟨nO,nO,.mapupd (.sc .int) (.tmp 1) (.cst (.int .i64 12)) (.tmp 13)⟩,qm 14 1,qm 0 14]
abbrev Ky.id:Nat:=190
def Ky.body:DC:=.seq (qR Ky.r0 []) (.seq (qR Ky.r1 [0]) .ret)
def Ky.an:=kA Ky.body (Zyl 2)
def Ky.df:DF:=⟨15,[.tmp 0],Ky.body⟩
theorem Ky.ok:kO Zyg Ky.an Ky.id Ky.df:=by unfold kO;kernel_rfl
def WI.r0:=[qB 2 0,qB 3 1,qb 4 false]
def WI.r1:=[qu (qL 5 15 2),qu (qL 7 15 3),(qf 6 264 [.tmp 5],[7]),qu (qf 8 264 [.tmp 7]),qu (⟨sO 9,nO,.q (.bin .eql (sO (.cells [(0,.str),(1,.str),(2,.str),(3,.str),(4,.int),(5,.int),(6,.int),(7,.int),(8,.int),(9,.int),(10,.int),(11,.bool),(12,.bool)]))) [.tmp 6,.tmp 8]⟩),qu (qm 10 9),qu (qy 10 (qa 11 7 2)),qu (qy 10 (qa 12 1 11)),qu (qy 10 (ql 13 12)),qu (qy 10 (qa 14 7 3)),qu (qy 10 (qa 15 1 14)),qu (qy 10 (ql 16 15)),qu (qy 10 (qf 17 265 [.tmp 13,.tmp 16])),qu (qO 18 10 17),qu (qm 19 18),qu (qy 19 (qa 20 12 2)),qu (qy 19 (ql 21 20)),qu (qy 19 (qa 22 12 3)),qu (qy 19 (ql 23 22)),qu (qy 19 (qf 24 266 [.tmp 21,.tmp 23])),qu (qO 25 19 24),qu (qm 4 25)]
abbrev WI.id:Nat:=191
def WI.an:Ann:=[(0,[2,3]),(1,[4]),(1000001,[0,2,1,3,4,5,6,7,8,9,10,11,12,13,14,15,16,17,18,19,20,21]),(5000001,[7])]
def WI.body:DC:=.seq (qR WI.r0 [2,3]) (.seq (.regD [0,2,1,3,4,5,6,7,8,9,10,11,12,13,14,15,16,17,18,19,20,21] WI.r1 (sO [4])) .ret)
def WI.df:DF:=⟨26,[.tmp 4],WI.body⟩
theorem WI.ok:kO Zyg WI.an WI.id WI.df:=by unfold kO;kernel_rfl
def Yk.r0:=qQ 4 [wl 1,vk .lenL,wi 0]
def Yk.r1:=[qd 8 .lss 7 6]
def Yk.r2:=qQ 8 [wm 7,wX 1 5 7,vl]++[qm 3 9,qm 4 11]
def Yk.r3:List DOp:=[ql 12 1,qm 13 3,⟨sO 14,nO,.q (.slice 1 false true false) [.tmp 12,.tmp 13]⟩]++qQ 14 [wm 4,wf 193 [.tmp 14,.tmp 15],vk .not,vm,wy 18 (wm 0),wy 18 (wm 4)]++[qy 18 ⟨sO 21,nO,.call (.tmp 19) [.tmp 20]⟩,qy 18 (qk 22 .not 21),qO 23 18 22]
def Yk.r4:=[qe 24 .add 7 1,qm 7 24]
def Yk.l0:DC:=.seq (qR Yk.r1 [0,1,5,6,7,8]) (.seq (qC 8 .skip (.exit 0)) (.seq (.block 1 (.seq (qR Yk.r2 [0,1,3,4,5,6,7]) (.seq (qR Yk.r3 [0,1,5,6,7,23]) (qC 23 .ret .skip)))) (qR Yk.r4 [0,1,5,6,7])))
abbrev Yk.id:Nat:=192
def Yk.body:DC:=.seq (qR Yk.r0 [0,1,5,6,7]) (.block 0 (.loop Yk.l0))
def Yk.an:=kA Yk.body (Zyl 5)
def Yk.df:DF:=⟨25,[],Yk.body⟩
theorem Yk.ok:kO Zyg Yk.an Yk.id Yk.df:=by unfold kO;kernel_rfl
def Yy.r0:=[qb 4 false]
def Yy.r1:=qQ 4 [wm 0,wm 1,wf 267 [.tmp 5,.tmp 6],ve .geq 0]++[qm 4 8]
abbrev Yy.id:Nat:=193
def Yy.body:DC:=.seq (qR Yy.r0 [0,1]) (.seq (qR Yy.r1 [4]) .ret)
def Yy.an:=kA Yy.body (Zyl 2)
def Yy.df:DF:=⟨9,[.tmp 4],Yy.body⟩
theorem Yy.ok:kO Zyg Yy.an Yy.id Yy.df:=by unfold kO;kernel_rfl
def Z8.r0:=[qB 1 0,qb 2 false]
def Z8.r1:=qQ 4 [wa 0 1,vl,wf 297 [.tmp 6],vk .not,vm,wn 9 (wa 1 1),wn 9 vl,wn 9 (vk .lenL),wn 9 (ve .gtr 4),vo 9]
def Z8.r2:=[qb 2 false]
def Z8.r3:=[qi 3 0]
def Z8.r4:=qQ 14 [wm 3,wa 1 1,vl,vk .lenL,vd .lss 15]
def Z8.r6:=qQ 21 [wa 1 1,vl,wm 3,vX 2 23,va 0,vl,wf 96 [.tmp 27],vk .not,vm,wn 30 (wa 1 1),wn 30 vl,wn 30 (wm 3),wn 30 (vX 2 32),wn 30 (va 1),wn 30 vl,wn 30 (ve .eql 0),vo 30,vm,wn 39 (wa 1 1),wn 39 vl,wn 39 (wm 3),wn 39 (vX 2 41),wn 39 (va 1),wn 39 vl,wn 39 (wf 297 [.tmp 45]),wn 39 (vk .not),vo 39]
def Z8.r7:=[qb 2 false]
def Z8.r8:=[qi 4 0]
def Z8.r9:=qQ 48 [wm 4,wm 3,vd .lss 49]
def Z8.r11:=qQ 53 [wa 1 1,vl,wm 4,vX 2 55,va 0,vl,wa 1 1,vl,wm 3,vX 2 61,va 0,vl,vd .eql 59]
def Z8.r12:=[qb 2 false]
def Z8.r10:=[qm 52 4,qe 53 .add 52 1,qm 4 53]
def Z8.l1:DC:=.seq (.seq (qR Z8.r9 [1,3,4,51]) (qC 51 .skip (.exit 2))) (.seq (.block 3 (.seq (.regD [0,1,2,3,4,5,6,7,8,9,10,11,12] (Jo Z8.r11) (sO [1,3,4,66])) (qC 66 (.seq (qR Z8.r12 [2]) .ret) .skip))) (qR Z8.r10 [1,3,4]))
def Z8.r5:=[qm 20 3,qe 21 .add 20 1,qm 3 21]
def Z8.l0:DC:=.seq (.seq (qR Z8.r4 [1,3,19]) (qC 19 .skip (.exit 0))) (.seq (.block 1 (.seq (.seq (qR Z8.r6 [1,3,48]) (qC 48 (.seq (qR Z8.r7 [2]) .ret) .skip)) (.seq (qR Z8.r8 [1,3,4]) (.block 2 (.loop Z8.l1))))) (qR Z8.r5 [1,3]))
def Z8.r13:=[qb 2 true]
abbrev Z8.id:Nat:=234
def Z8.an:Ann:=[(0,[1]),(1,[1,14]),(2,[2]),(3,[1,3]),(4,[1,3,19]),(5,[1,3]),(6,[1,3,48]),(7,[2]),(8,[1,3,4]),(9,[1,3,4,51]),(10,[1,3,4]),(11,[1,3,4,66]),(12,[2]),(13,[2]),(1000011,[0,1,2,3,4,5,6,7,8,9,10,11,12])]
def Z8.body:DC:=.seq (qR Z8.r0 [1]) (.seq (.seq (qR Z8.r1 [1,14]) (qC 14 (.seq (qR Z8.r2 [2]) .ret) .skip)) (.seq (.seq (qR Z8.r3 [1,3]) (.block 0 (.loop Z8.l0))) (.seq (qR Z8.r13 [2]) .ret)))
def Z8.df:DF:=⟨67,[.tmp 2],Z8.body⟩
theorem Z8.ok:kO Zyg Z8.an Z8.id Z8.df:=by unfold kO;kernel_rfl
def Zg.r0:=[qB 2 0]++qQ 3 [wi 0,wi 0,wi 0]
def Zg.r1:=qQ 16 [wL 2 2,wf 234 [.tmp 17],vk .not]
def Zg.r2:=qQ 3 [wi 0,wi 0,wi 2]
def Zg.r3:=[qb 7 false]
def Zg.r4:=[qi 8 0]
def Zg.r5:=qQ 19 [wm 8,wa 1 2,vl,vk .lenL,vd .lss 20]
def Zg.r7:=qQ 26 [wm 1,wa 1 2,vl,wm 8,vX 2 29,va 0,vl,wf 298 [.tmp 27,.tmp 33]]++[qm 9 34]
def Zg.r8:=[qm 35 9,qe 36 .lss 35 0]
def Zg.r9:=[qb 7 true]
def Zg.r10:=qQ 36 [wm 1,wm 9,vX 3 37,va 1,vl,ve .lss 0,vm,wn 43 (wm 1),wn 43 (wm 9),wn 43 (vX 3 44),wn 43 (va 1),wn 43 vl,wn 43 (wm 1),wn 43 (wm 9),wn 43 (vX 3 49),wn 43 (va 2),wn 43 vl,wn 43 (vd .gtr 48),vo 43,vm,wn 56 (wm 1),wn 56 (wm 9),wn 56 (vX 3 57),wn 56 (va 2),wn 56 vl,wn 56 (ve .geq 34359738368),vo 56]
def Zg.r11:=qQ 3 [wi 0,wi 0,wi 2]
def Zg.r6:=[qm 25 8,qe 26 .add 25 1,qm 8 26]
def Zg.l0:DC:=.seq (.seq (qR Zg.r5 [1,2,7,8,24]) (qC 24 .skip (.exit 0))) (.seq (.block 1 (.seq (qR Zg.r7 [1,2,7,8,9]) (.seq (.seq (qR Zg.r8 [1,2,7,8,9,36]) (qC 36 (.seq (qR Zg.r9 [1,2,7,8]) (.exit 1)) .skip)) (.seq (.regD [0,1,2,3,4,5,6,7,8,9,10,11,12,13,14,15,16,17,18,19,20,21,22,23,24,25,26] (Jo Zg.r10) (sO [1,2,7,8,63])) (qC 63 (.seq (qR Zg.r11 [4,5,6]) .ret) .skip))))) (qR Zg.r6 [1,2,7,8]))
def Zg.r12:=[qm 64 7]
def Zg.r13:=qQ 3 [wi 0,wi 0,wi 9]
def Zg.r14:=[qi 10 0,qi 11 0]
def Zg.r15:=[qi 12 0]
def Zg.r16:List DOp:=qQ 64 [wm 12,wa 1 2,vl,vk .lenL]++[⟨sO 69,nO,.q (.bin .shl (nO)) [.cst (.int .i64 1),.tmp 68]⟩,qd 70 .lss 65 69]
def Zg.r18:=[qa 73 0 2,ql 74 73,qm 13 74]
def Zg.r19:=[qi 14 0]
def Zg.r20:=qQ 74 [wm 14,wa 1 2,vl,vk .lenL,vd .lss 75]
def Zg.r22:=qQ 81 [wm 1,wm 1,wa 1 2,vl,wm 14,vX 2 85,va 0,vl,wf 298 [.tmp 83,.tmp 89],vX 3 82,vL 3]++[qA 15 [.str [],.int .i64 0,.int .i64 0],qS 3 15 92]
def Zg.r23:=[qa 93 1 15,ql 94 93,qm 16 94]
def Zg.r24:=qQ 94 [wm 12,wm 14,vd .shr 95,ve .rem 2,ve .eql 1]
def Zg.r25:=[qa 100 2 15,ql 101 100,qm 16 101]
def Zg.r26:=qQ 101 [wm 13,wa 1 2,vl,wm 14,vX 2 104,va 1,vl,wm 16,vd .mul 108,vd .add 102]++[qm 13 111]
def Zg.r21:=[qm 80 14,qe 81 .add 80 1,qm 14 81]
def Zg.l2:DC:=.seq (.seq (qR Zg.r20 [1,2,10,11,12,13,14,79]) (qC 79 .skip (.exit 4))) (.seq (.block 5 (.seq (qR Zg.r22 [1,2,10,11,12,13,14,15]) (.seq (qR Zg.r23 [1,2,10,11,12,13,14,15,16]) (.seq (.seq (qR Zg.r24 [1,2,10,11,12,13,14,15,16,99]) (qC 99 (qR Zg.r25 [1,2,10,11,12,13,14,16]) .skip)) (qR Zg.r26 [1,2,10,11,12,13,14]))))) (qR Zg.r21 [1,2,10,11,12,13,14]))
def Zg.r27:=qQ 111 [wm 12,ve .eql 0,vm,wn 114 (wm 13),wn 114 (wm 10),wn 114 (vd .lss 115),vo 114]
def Zg.r28:=[qm 119 13,qm 10 119]
def Zg.r29:=qQ 119 [wm 12,ve .eql 0,vm,wn 122 (wm 13),wn 122 (wm 11),wn 122 (vd .gtr 123),vo 122]
def Zg.r30:=[qm 127 13,qm 11 127]
def Zg.r17:=[qm 71 12,qe 72 .add 71 1,qm 12 72]
def Zg.l1:DC:=.seq (.seq (qR Zg.r16 [1,2,10,11,12,70]) (qC 70 .skip (.exit 2))) (.seq (.block 3 (.seq (qR Zg.r18 [1,2,10,11,12,13]) (.seq (.seq (qR Zg.r19 [1,2,10,11,12,13,14]) (.block 4 (.loop Zg.l2))) (.seq (.seq (qR Zg.r27 [1,2,10,11,12,13,118]) (qC 118 (qR Zg.r28 [1,2,10,11,12,13]) .skip)) (.seq (qR Zg.r29 [1,2,10,11,12,13,126]) (qC 126 (qR Zg.r30 [1,2,10,11,12]) .skip)))))) (qR Zg.r17 [1,2,10,11,12]))
def Zg.r31:=[qm 128 10,qm 129 11]++qQ 3 [wm 128,wm 129,wi 0]
abbrev Zg.id:Nat:=235
def Zg.an:Ann:=[(0,[1,2]),(1,[1,2,19]),(2,[4,5,6]),(3,[1,2,7]),(4,[1,2,7,8]),(5,[1,2,7,8,24]),(6,[1,2,7,8]),(7,[1,2,7,8,9]),(8,[1,2,7,8,9,36]),(9,[1,2,7,8]),(10,[1,2,7,8,63]),(11,[4,5,6]),(12,[1,2,64]),(13,[4,5,6]),(14,[1,2,10,11]),(15,[1,2,10,11,12]),(16,[1,2,10,11,12,70]),(17,[1,2,10,11,12]),(18,[1,2,10,11,12,13]),(19,[1,2,10,11,12,13,14]),(20,[1,2,10,11,12,13,14,79]),(21,[1,2,10,11,12,13,14]),(22,[1,2,10,11,12,13,14,15]),(23,[1,2,10,11,12,13,14,15,16]),(24,[1,2,10,11,12,13,14,15,16,99]),(25,[1,2,10,11,12,13,14,16]),(26,[1,2,10,11,12,13,14]),(27,[1,2,10,11,12,13,118]),(28,[1,2,10,11,12,13]),(29,[1,2,10,11,12,13,126]),(30,[1,2,10,11,12]),(31,[4,5,6]),(1000010,[0,1,2,3,4,5,6,7,8,9,10,11,12,13,14,15,16,17,18,19,20,21,22,23,24,25,26])]
def Zg.body:DC:=.seq (qR Zg.r0 [1,2]) (.seq (.seq (qR Zg.r1 [1,2,19]) (qC 19 (.seq (qR Zg.r2 [4,5,6]) .ret) .skip)) (.seq (qR Zg.r3 [1,2,7]) (.seq (.seq (qR Zg.r4 [1,2,7,8]) (.block 0 (.loop Zg.l0))) (.seq (.seq (qR Zg.r12 [1,2,64]) (qC 64 (.seq (qR Zg.r13 [4,5,6]) .ret) .skip)) (.seq (qR Zg.r14 [1,2,10,11]) (.seq (.seq (qR Zg.r15 [1,2,10,11,12]) (.block 2 (.loop Zg.l1))) (.seq (qR Zg.r31 [4,5,6]) .ret)))))))
def Zg.df:DF:=⟨130,[.tmp 4,.tmp 5,.tmp 6],Zg.body⟩
theorem Zg.ok:kO Zyg Zg.an Zg.id Zg.df:=by unfold kO;kernel_rfl
def ZC.r0:=[qi 4 0]
def ZC.r1:=qQ 5 [wm 0,vk .lenL,wi 0]
def ZC.r2:=[qd 9 .lss 8 7]
def ZC.r3:=[qm 10 8,qm 5 10]
def ZC.r4:List DOp:=qQ 10 [wm 1,wm 0,wm 5,vX 2 12,vL 2]++[⟨sO 16,nO,.call (.tmp 11) [.tmp 15]⟩]
def ZC.r5:=[qm 17 5,qm 4 17]
def ZC.r6:=[qe 18 .add 8 1,qm 8 18]
def ZC.l0:DC:=.seq (qR ZC.r2 [0,1,7,8,9]) (.seq (qC 9 .skip (.exit 0)) (.seq (.block 1 (.seq (qR ZC.r3 [0,1,5,7,8]) (.seq (qR ZC.r4 [0,1,5,7,8,16]) (qC 16 (.seq (qR ZC.r5 [4]) .ret) .skip)))) (qR ZC.r6 [0,1,7,8])))
def ZC.r7:=[qi 4 (-1)]
abbrev ZC.id:Nat:=236
def ZC.body:DC:=.seq (qR ZC.r0 [0,1]) (.seq (.seq (qR ZC.r1 [0,1,7,8]) (.block 0 (.loop ZC.l0))) (.seq (qR ZC.r7 [4]) .ret))
def ZC.an:=kA ZC.body (Zyl 8)
def ZC.df:DF:=⟨19,[.tmp 4],ZC.body⟩
theorem ZC.ok:kO Zyg ZC.an ZC.id ZC.df:=by unfold kO;kernel_rfl
def Ki.r0:List DOp:=qQ 1 [wm 0,wm 0,wm 0,wm 0,wk .nilck 2,va 2]++[⟨nO,nO,.store1 (.tmp 7) (.cst (.int .i64 0))⟩,qk 8 .nilck 3,qa 9 3 8,⟨nO,nO,.store1 (.tmp 9) (.cst (.bool false))⟩,qk 10 .nilck 4,qa 11 5 10,⟨nO,nO,.store1 (.tmp 11) (.cst (.int .i64 0))⟩,qk 12 .nilck 5,qa 13 6 12,⟨nO,nO,.store1 (.tmp 13) (.cst (.int .i64 0))⟩]
abbrev Ki.id:Nat:=237
def Ki.body:DC:=qR Ki.r0 []
def Ki.an:=kA Ki.body (Zyl 1)
def Ki.df:DF:=⟨14,[],Ki.body⟩
theorem Ki.ok:kO Zyg Ki.an Ki.id Ki.df:=by unfold kO;kernel_rfl
def WA.r0:=[qB 3 1]
def WA.r1:=qQ 3 [wm 0,wL 15 3,wf 239 [.tmp 4,.tmp 5]]
def WA.r2:List DOp:=qQ 6 [wm 0,wa 2 3,vl]++[⟨sO 10,nO,.q (.bin .shl (nO)) [.cst (.int .i64 1),.tmp 9]⟩]++qQ 10 [ve .sub 1,wa 5 3,vl,wa 6 3,vl]++[⟨sO 16,nO,.bsl 2 1 [.int .i64 0] [0,1] [.tmp 13,.tmp 15]⟩,qf 17 240 [.tmp 7,.cst (.int .i64 0),.tmp 11,.tmp 16]]
abbrev WA.id:Nat:=238
def WA.an:Ann:=[(0,[0,3]),(1,[0,3]),(2,[]),(1000002,[0,1,2,3,4,5,6,7,8,9,10])]
def WA.body:DC:=.seq (qR WA.r0 [0,3]) (.seq (qR WA.r1 [0,3]) (.regD [0,1,2,3,4,5,6,7,8,9,10] (Jo WA.r2) (sO [])))
def WA.df:DF:=⟨18,[],WA.body⟩
theorem WA.ok:kO Zyg WA.an WA.id WA.df:=by unfold kO;kernel_rfl
def YZ.r0:=[qB 3 1]
def YZ.r1:=qQ 3 [wm 0,wa 2 3,vl,ve .geq 1,vm,wy 8 (wa 2 3),wy 8 vl,wy 8 (ve .leq 32),vO 8,vm,wy 13 (wa 3 3),wy 13 vl,wy 13 (vk .not),wy 13 vm,wn 17 (wa 2 3),wn 17 vl,wn 17 (ve .gtr 8),wn 17 vm,wy 21 (wa 2 3),wy 21 vl,wy 21 (ve .rem 8),wy 21 (ve .eql 0),wn 17 (vO 21),wy 13 (vo 17),vO 13,wf 107 [.tmp 4,.tmp 28,.cst (.int .i64 6)]]
abbrev YZ.id:Nat:=239
def YZ.body:DC:=.seq (qR YZ.r0 [0,3]) (qR YZ.r1 [])
def YZ.an:=kA YZ.body (Zyl 2)
def YZ.df:DF:=⟨30,[],YZ.body⟩
theorem YZ.ok:kO Zyg YZ.an YZ.id YZ.df:=by unfold kO;kernel_rfl
def ZG.r0:=qQ 9 [wm 3,vk .lenL,wi 0]
def ZG.r1:=[qd 13 .lss 12 11]
def ZG.r2:=[qX 14 1 10 12,ql 15 14,qm 9 15]
def ZG.r3:=qQ 15 [wm 0,wm 9,wm 1,vd .geq 17,vm,wy 20 (wm 9),wy 20 (wm 2),wy 20 (vd .leq 21),vO 20,wf 107 [.tmp 16,.tmp 24,.cst (.int .i64 7)]]
def ZG.r4:=[qm 26 9,qm 1 26]
def ZG.r5:=[qe 27 .add 12 1,qm 12 27]
def ZG.l0:DC:=.seq (qR ZG.r1 [0,1,2,10,11,12,13]) (.seq (qC 13 .skip (.exit 0)) (.seq (.block 1 (.seq (qR ZG.r2 [0,1,2,9,10,11,12]) (.seq (qR ZG.r3 [0,2,9,10,11,12]) (qR ZG.r4 [0,1,2,10,11,12])))) (qR ZG.r5 [0,1,2,10,11,12])))
abbrev ZG.id:Nat:=240
def ZG.body:DC:=.seq (qR ZG.r0 [0,1,2,10,11,12]) (.block 0 (.loop ZG.l0))
def ZG.an:=kA ZG.body (Zyl 6)
def ZG.df:DF:=⟨28,[],ZG.body⟩
theorem ZG.ok:kO Zyg ZG.an ZG.id ZG.df:=by unfold kO;kernel_rfl
def Kj.r0:List DOp:=qQ 1 [wm 0,wm 0,wm 0,wk .nilck 2,va 2]++[⟨nO,nO,.store1 (.tmp 6) (.cst (.int .i64 0))⟩,qk 7 .nilck 3,qa 8 3 7,⟨nO,nO,.store1 (.tmp 8) (.cst (.bool false))⟩,qk 9 .nilck 4,qa 10 5 9,⟨nO,nO,.store1 (.tmp 10) (.cst (.int .i64 0))⟩]
abbrev Kj.id:Nat:=241
def Kj.body:DC:=qR Kj.r0 []
def Kj.an:=kA Kj.body (Zyl 1)
def Kj.df:DF:=⟨11,[],Kj.body⟩
theorem Kj.ok:kO Zyg Kj.an Kj.id Kj.df:=by unfold kO;kernel_rfl
def WB.r0:=[qB 3 1]
def WB.r1:=qQ 3 [wm 0,wL 15 3,wf 239 [.tmp 4,.tmp 5]]
def WB.r2:List DOp:=qQ 6 [wm 0,wa 2 3,vl]++[⟨sO 10,nO,.q (.bin .shl (nO)) [.cst (.int .i64 1),.tmp 9]⟩]++qQ 10 [ve .sub 1,wa 5 3,vl]++[⟨sO 14,nO,.bsl 1 1 [.int .i64 0] [0] [.tmp 13]⟩,qf 15 240 [.tmp 7,.cst (.int .i64 0),.tmp 11,.tmp 14]]
abbrev WB.id:Nat:=242
def WB.an:Ann:=[(0,[0,3]),(1,[0,3]),(2,[]),(1000002,[0,1,2,3,4,5,6,7,8])]
def WB.body:DC:=.seq (qR WB.r0 [0,3]) (.seq (qR WB.r1 [0,3]) (.regD [0,1,2,3,4,5,6,7,8] (Jo WB.r2) (sO [])))
def WB.df:DF:=⟨16,[],WB.body⟩
theorem WB.ok:kO Zyg WB.an WB.id WB.df:=by unfold kO;kernel_rfl
def Kk.r0:List DOp:=qQ 1 [wm 0,wm 0,wm 0,wk .nilck 2,va 4]++[⟨nO,nO,.store1 (.tmp 6) (.cst (.bool false))⟩,qk 7 .nilck 3,qa 8 5 7,⟨nO,nO,.store1 (.tmp 8) (.cst (.int .i64 0))⟩,qk 9 .nilck 4,qa 10 6 9,⟨nO,nO,.store1 (.tmp 10) (.cst (.int .i64 0))⟩]
abbrev Kk.id:Nat:=243
def Kk.body:DC:=qR Kk.r0 []
def Kk.an:=kA Kk.body (Zyl 1)
def Kk.df:DF:=⟨11,[],Kk.body⟩
theorem Kk.ok:kO Zyg Kk.an Kk.id Kk.df:=by unfold kO;kernel_rfl
def WL.r0:=[qB 3 1]
def WL.r1:List DOp:=qQ 3 [wm 0,wa 5 3,vl,wa 6 3,vl]++[⟨sO 9,nO,.bsl 2 1 [.int .i64 0] [0,1] [.tmp 6,.tmp 8]⟩,qf 10 240 [.tmp 4,.cst (.int .i64 0),.cst (.int .i64 34359738367),.tmp 9]]
abbrev WL.id:Nat:=244
def WL.body:DC:=.seq (qR WL.r0 [0,3]) (qR WL.r1 [])
def WL.an:=kA WL.body (Zyl 2)
def WL.df:DF:=⟨11,[],WL.body⟩
theorem WL.ok:kO Zyg WL.an WL.id WL.df:=by unfold kO;kernel_rfl
def Kl.r0:List DOp:=[qm 2 0,⟨sO 3,nO,.q (.build [.int .i64 0,.nilsl] []) []⟩,qk 4 .nilck 2,qa 5 7 4,qS 2 5 3]
abbrev Kl.id:Nat:=245
def Kl.body:DC:=qR Kl.r0 []
def Kl.an:=kA Kl.body (Zyl 1)
def Kl.df:DF:=⟨6,[],Kl.body⟩
theorem Kl.ok:kO Zyg Kl.an Kl.id Kl.df:=by unfold kO;kernel_rfl
def Zp.r0:=[qB 2 0,qB 3 1]
def Zp.r1:=[qu (ql 10 2),qu (qa 11 7 3),qu (qL 12 2 11),(qf 13 142 [.tmp 12],[10]),qu (qf 14 107 [.tmp 10,.tmp 13,.cst (.int .i64 9)])]
def Zp.r2:=qQ 14 [wl 2,wf 189 [.tmp 15],wf 100 [.tmp 16]]++[qA 4 [.nilmap],qs 4 17]
def Zp.r3:=qQ 17 [wa 7 3,vL 2,wf 143 [.tmp 19]]
def Zp.r4:=[qm 5 21]
def Zp.r5:List DOp:=[ql 23 4,qm 24 5,⟨sO 25,nO,.q (.lookup (.sc .str) (.agg [.int .i64 0,.int .i64 0]) true) [.tmp 23,.tmp 24]⟩,qm 22 25,qx 26 0 22,qx 27 1 22,qA 6 [.int .i64 0,.int .i64 0],qS 2 6 26,qm 7 27]
def Zp.r6:=qQ 27 [wl 2,wm 7,wf 107 [.tmp 28,.tmp 29,.cst (.int .i64 8)]]
def Zp.a0:DC:=qR Zp.r4 [2,3,4,5,21]
def Zp.b0:DC:=.block 1 (.seq (qR Zp.r5 [2,3,4,7,21]) (qR Zp.r6 [2,3,4,21]))
def Zp.r7:=qQ 31 [wa 7 3,vL 2,wl 4,wf 68 [.tmp 33,.tmp 34]]++[qm 31 35,qx 36 0 31,qx 37 1 31,qA 8 [.int .i64 0,.int .i64 0],qS 2 8 36,qm 9 37]
def Zp.r8:=qQ 37 [wl 2,wm 9,ve .eql 0,vm,wy 41 (wa 0 8),wy 41 vl,wy 41 (ve .geq 0),vO 41,vm,wy 46 (wa 1 8),wy 46 vl,wy 46 (ve .leq 1048576),vO 46,wf 107 [.tmp 38,.tmp 50,.cst (.int .i64 9)]]
abbrev Zp.id:Nat:=246
def Zp.an:Ann:=[(0,[2,3,21]),(1,[2,3,21]),(2,[2,3,4,21]),(3,[2,3,4,20,21]),(4,[2,3,4,5,21]),(5,[2,3,4,7,21]),(6,[2,3,4,21]),(7,[2,8,9]),(8,[]),(1000001,[0,1,2,3,4]),(7000001,[10])]
def Zp.body:DC:=.seq (qR Zp.r0 [2,3,21]) (.seq (.regD [0,1,2,3,4] Zp.r1 (sO [2,3,21])) (.seq (qR Zp.r2 [2,3,4,21]) (.seq (.seq (qR Zp.r3 [2,3,4,20,21]) (.block 0 (.rangeF (.tmp 20) [21] Zp.a0 Zp.b0))) (.seq (qR Zp.r7 [2,8,9]) (qR Zp.r8 [])))))
def Zp.df:DF:=⟨52,[],Zp.body⟩
theorem Zp.ok:kO Zyg Zp.an Zp.id Zp.df:=by unfold kO;kernel_rfl
def Km.r0:List DOp:=qQ 1 [wm 0,wm 0,wk .nilck 2,va 5]++[⟨nO,nO,.store1 (.tmp 5) (.cst (.int .i64 0))⟩,qk 6 .nilck 3,qa 7 6 6,⟨nO,nO,.store1 (.tmp 7) (.cst (.int .i64 0))⟩]
abbrev Km.id:Nat:=247
def Km.body:DC:=qR Km.r0 []
def Km.an:=kA Km.body (Zyl 1)
def Km.df:DF:=⟨8,[],Km.body⟩
theorem Km.ok:kO Zyg Km.an Km.id Km.df:=by unfold kO;kernel_rfl
def Wn.r0:=[qB 3 1]
def Wn.r1:List DOp:=qQ 3 [wm 0,wa 5 3,vl]++[⟨sO 7,nO,.bsl 1 1 [.int .i64 0] [0] [.tmp 6]⟩,qf 8 240 [.tmp 4,.cst (.int .i64 0),.cst (.int .i64 255),.tmp 7]]
def Wn.r2:List DOp:=qQ 8 [wm 0,wa 6 3,vl]++[⟨sO 12,nO,.bsl 1 1 [.int .i64 0] [0] [.tmp 11]⟩,qf 13 240 [.tmp 9,.cst (.int .i64 0),.cst (.int .i64 1048576),.tmp 12]]
abbrev Wn.id:Nat:=248
def Wn.body:DC:=.seq (qR Wn.r0 [0,3]) (.seq (qR Wn.r1 [0,3]) (qR Wn.r2 []))
def Wn.an:=kA Wn.body (Zyl 3)
def Wn.df:DF:=⟨14,[],Wn.body⟩
theorem Wn.ok:kO Zyg Wn.an Wn.id Wn.df:=by unfold kO;kernel_rfl
def WW.r0:List DOp:=qQ 1 [wm 0,wm 0,wk .nilck 2,va 4]++[⟨nO,nO,.store1 (.tmp 5) (.cst (.bool false))⟩,qk 6 .nilck 3,qa 7 6 6,⟨nO,nO,.store1 (.tmp 7) (.cst (.int .i64 0))⟩]
abbrev WW.id:Nat:=249
def WW.body:DC:=qR WW.r0 []
def WW.an:=kA WW.body (Zyl 1)
def WW.df:DF:=⟨8,[],WW.body⟩
theorem WW.ok:kO Zyg WW.an WW.id WW.df:=by unfold kO;kernel_rfl
def Wu.r0:=[qB 3 1]
def Wu.r1:List DOp:=qQ 3 [wm 0,wa 6 3,vl]++[⟨sO 7,nO,.bsl 1 1 [.int .i64 0] [0] [.tmp 6]⟩,qf 8 240 [.tmp 4,.cst (.int .i64 2),.cst (.int .i64 1048576),.tmp 7]]
abbrev Wu.id:Nat:=250
def Wu.body:DC:=.seq (qR Wu.r0 [0,3]) (qR Wu.r1 [])
def Wu.an:=kA Wu.body (Zyl 2)
def Wu.df:DF:=⟨9,[],Wu.body⟩
theorem Wu.ok:kO Zyg Wu.an Wu.id Wu.df:=by unfold kO;kernel_rfl
def WX.r0:List DOp:=[qm 2 0,qm 3 0,⟨sO 4,nO,.q (.build [.int .i64 0,.nilsl] []) []⟩,qk 5 .nilck 2,qa 6 9 5,⟨nO,nO,.store1 (.tmp 6) (.cst (.str []))⟩,qk 7 .nilck 3,qa 8 7 7,qS 2 8 4]
abbrev WX.id:Nat:=251
def WX.body:DC:=qR WX.r0 []
def WX.an:=kA WX.body (Zyl 1)
def WX.df:DF:=⟨9,[],WX.body⟩
theorem WX.ok:kO Zyg WX.an WX.id WX.df:=by unfold kO;kernel_rfl
def Wc.r0:=[qB 3 1]
def Wc.r1:=qQ 3 [wm 0,wa 9 3,vl,wf 253 [.tmp 4,.tmp 6]]
def Wc.r2:=qQ 7 [wm 0,wL 15 3,wf 246 [.tmp 8,.tmp 9]]
abbrev Wc.id:Nat:=252
def Wc.body:DC:=.seq (qR Wc.r0 [0,3]) (.seq (qR Wc.r1 [0,3]) (qR Wc.r2 []))
def Wc.an:=kA Wc.body (Zyl 3)
def Wc.df:DF:=⟨11,[],Wc.body⟩
theorem Wc.ok:kO Zyg Wc.an Wc.id Wc.df:=by unfold kO;kernel_rfl
def YJ.r0:List DOp:=qQ 6 [wm 0,vk .nilck,va 3,vl,wm 1]++[⟨sO 12,nO,.q (.lookup (.sc .str) (.int .i64 0) true) [.tmp 10,.tmp 11]⟩,qm 6 12,qx 13 0 6,qx 14 1 6,qm 4 13,qm 5 14]
def YJ.r1:=qQ 14 [wm 0,wm 5,wf 107 [.tmp 15,.tmp 16,.cst (.int .i64 8)]]
abbrev YJ.id:Nat:=253
def YJ.body:DC:=.seq (qR YJ.r0 [0,5]) (qR YJ.r1 [])
def YJ.an:=kA YJ.body (Zyl 2)
def YJ.df:DF:=⟨18,[],YJ.body⟩
theorem YJ.ok:kO Zyg YJ.an YJ.id YJ.df:=by unfold kO;kernel_rfl
def WY.r0:List DOp:=qQ 1 [wm 0,vk .nilck,va 9]++[⟨nO,nO,.store1 (.tmp 4) (.cst (.str []))⟩]
abbrev WY.id:Nat:=254
def WY.body:DC:=qR WY.r0 []
def WY.an:=kA WY.body (Zyl 1)
def WY.df:DF:=⟨5,[],WY.body⟩
theorem WY.ok:kO Zyg WY.an WY.id WY.df:=by unfold kO;kernel_rfl
def Wv.r0:=[qB 3 1]
def Wv.r1:=qQ 3 [wm 0,wa 9 3,vl,wf 253 [.tmp 4,.tmp 6]]
abbrev Wv.id:Nat:=255
def Wv.body:DC:=.seq (qR Wv.r0 [0,3]) (qR Wv.r1 [])
def Wv.an:=kA Wv.body (Zyl 2)
def Wv.df:DF:=⟨8,[],Wv.body⟩
theorem Wv.ok:kO Zyg Wv.an Wv.id Wv.df:=by unfold kO;kernel_rfl
def WZ.r0:List DOp:=qQ 1 [wm 0,wm 0,wk .nilck 2,va 10]++[⟨nO,nO,.store1 (.tmp 5) (.cst (.str []))⟩,qk 6 .nilck 3,qa 7 12 6,⟨nO,nO,.store1 (.tmp 7) (.cst (.nilsl))⟩]
abbrev WZ.id:Nat:=256
def WZ.body:DC:=qR WZ.r0 []
def WZ.an:=kA WZ.body (Zyl 1)
def WZ.df:DF:=⟨8,[],WZ.body⟩
theorem WZ.ok:kO Zyg WZ.an WZ.id WZ.df:=by unfold kO;kernel_rfl
def Zj.r0:=[qB 3 1]
def Zj.r1:=[qu (qm 11 0),qu (qa 14 10 3),qu (ql 15 14),qu (qA 4 [.int .i64 0,.int .i64 0]),(qf 12 189 [.tmp 11],[15]),(qf 13 100 [.tmp 12],[15]),qu (⟨sO 16,nO,.q (.lookup (.sc .str) (.agg [.int .i64 0,.int .i64 0]) true) [.tmp 13,.tmp 15]⟩),qu (qm 10 16),qu (qx 17 0 10),qu (qx 18 1 10),qu (qS 2 4 17),qu (qm 5 18)]
def Zj.r2:List DOp:=[qm 19 0,qf 20 189 [.tmp 19],⟨sO 21,nO,.q (.mkfn (.func 300) 0) [.tmp 3]⟩,qf 22 299 [.tmp 20,.tmp 21],qm 6 22]
def Zj.r3:=qQ 22 [wm 0,wm 5,vm,wy 25 (wm 6),wy 25 (vk .not),vO 25,wf 107 [.tmp 23,.tmp 28,.cst (.int .i64 8)]]
def Zj.r4:=qQ 29 [wm 0,wa 12 3,vl,vk .lenL,ve .geq 1,vm,wy 35 (wa 12 3),wy 35 vl,wy 35 (vk .lenL),wy 35 (ve .leq 40),vO 35,wf 107 [.tmp 30,.tmp 40,.cst (.int .i64 3)]]
def Zj.r5:=[qa 42 0 4,ql 43 42,qm 7 43]
def Zj.r6:=qQ 43 [wa 12 3,vl,vk .lenL,wi 0]
def Zj.r7:=[qd 48 .lss 47 46]
def Zj.r8:=[qX 49 3 45 47,qL 50 3 49,qA 9 [.int .i64 0,.int .i64 0,.str []],qS 3 9 50]
def Zj.r9:List DOp:=qQ 50 [wm 0,wm 7,wa 1 4,vl,wa 0 9,vl,wa 1 9,vl]++[⟨sO 59,nO,.bsl 2 1 [.int .i64 0] [0,1] [.tmp 56,.tmp 58]⟩,qf 60 240 [.tmp 51,.tmp 52,.tmp 54,.tmp 59]]
def Zj.r10:=qQ 60 [wm 0,wa 2 9,vl,wf 253 [.tmp 61,.tmp 63]]
def Zj.r11:=qQ 64 [wa 1 9,vl,ve .add 1]++[qm 7 67]
def Zj.r12:=[qe 68 .add 47 1,qm 47 68]
def Zj.l0:DC:=.seq (qR Zj.r7 [0,4,7,45,46,47,48]) (.seq (qC 48 .skip (.exit 0)) (.seq (.block 1 (.seq (qR Zj.r8 [0,4,7,9,45,46,47]) (.seq (qR Zj.r9 [0,4,9,45,46,47]) (.seq (qR Zj.r10 [0,4,9,45,46,47]) (qR Zj.r11 [0,4,7,45,46,47]))))) (qR Zj.r12 [0,4,7,45,46,47])))
abbrev Zj.id:Nat:=257
def Zj.an:Ann:=[(0,[0,3]),(1,[0,3,4,5]),(2,[0,3,4,5,6]),(3,[0,3,4]),(4,[0,3,4]),(5,[0,3,4,7]),(6,[0,4,7,45,46,47]),(7,[0,4,7,45,46,47,48]),(8,[0,4,7,9,45,46,47]),(9,[0,4,9,45,46,47]),(10,[0,4,9,45,46,47]),(11,[0,4,7,45,46,47]),(12,[0,4,7,45,46,47]),(1000001,[0,3,4,9,1,2,5,6,7,8,10,11]),(5000001,[15]),(6000001,[15])]
def Zj.body:DC:=.seq (qR Zj.r0 [0,3]) (.seq (.regD [0,3,4,9,1,2,5,6,7,8,10,11] Zj.r1 (sO [0,3,4,5])) (.seq (qR Zj.r2 [0,3,4,5,6]) (.seq (qR Zj.r3 [0,3,4]) (.seq (qR Zj.r4 [0,3,4]) (.seq (qR Zj.r5 [0,3,4,7]) (.seq (qR Zj.r6 [0,4,7,45,46,47]) (.block 0 (.loop Zj.l0))))))))
def Zj.df:DF:=⟨69,[],Zj.body⟩
theorem Zj.ok:kO Zyg Zj.an Zj.id Zj.df:=by unfold kO;kernel_rfl
def W0.r0:List DOp:=qQ 1 [wm 0,vk .nilck,va 2]++[⟨nO,nO,.store1 (.tmp 4) (.cst (.int .i64 0))⟩]
abbrev W0.id:Nat:=258
def W0.body:DC:=qR W0.r0 []
def W0.an:=kA W0.body (Zyl 1)
def W0.df:DF:=⟨5,[],W0.body⟩
theorem W0.ok:kO Zyg W0.an W0.id W0.df:=by unfold kO;kernel_rfl
def Ww.r0:=[qB 3 1]
def Ww.r1:=qQ 3 [wm 0,wa 2 3,vl,ve .eql 2,vm,wn 8 (wa 2 3),wn 8 vl,wn 8 (ve .eql 4),vo 8,vm,wn 13 (wa 2 3),wn 13 vl,wn 13 (ve .geq 8),wn 13 vm,wy 17 (wa 2 3),wy 17 vl,wy 17 (ve .leq 512),wn 13 (vO 17),wn 13 vm,wy 22 (wa 2 3),wy 22 vl,wy 22 (ve .rem 8),wy 22 (ve .eql 0),wn 13 (vO 22),vo 13,wf 107 [.tmp 4,.tmp 28,.cst (.int .i64 6)]]
abbrev Ww.id:Nat:=259
def Ww.body:DC:=.seq (qR Ww.r0 [0,3]) (qR Ww.r1 [])
def Ww.an:=kA Ww.body (Zyl 2)
def Ww.df:DF:=⟨30,[],Ww.body⟩
theorem Ww.ok:kO Zyg Ww.an Ww.id Ww.df:=by unfold kO;kernel_rfl
def W1.r0:List DOp:=qQ 1 [wm 0,wm 0,wk .nilck 2,va 11]++[⟨nO,nO,.store1 (.tmp 5) (.cst (.str []))⟩,qk 6 .nilck 3,qa 7 13 6,⟨nO,nO,.store1 (.tmp 7) (.cst (.int .i64 0))⟩]
abbrev W1.id:Nat:=260
def W1.body:DC:=qR W1.r0 []
def W1.an:=kA W1.body (Zyl 1)
def W1.df:DF:=⟨8,[],W1.body⟩
theorem W1.ok:kO Zyg W1.an W1.id W1.df:=by unfold kO;kernel_rfl
def Y2.r0:=[qB 3 1]
def Y2.r1:List DOp:=qQ 5 [wm 0,wa 13 3,vl]++[⟨sO 9,nO,.bsl 1 1 [.int .i64 0] [0] [.tmp 8]⟩,qf 10 240 [.tmp 6,.cst (.int .i64 1),.cst (.int .i64 3),.tmp 9]]
def Y2.r2:=[qu (qm 12 0),qu (qa 15 11 3),qu (ql 16 15),(qf 13 189 [.tmp 12],[16]),qu (⟨sO 14,nO,.q (.build [.str [],.nilsl] [(1,1)]) [.tmp 13]⟩),qu (qf 17 15 [.tmp 14,.tmp 16]),qu (qm 11 17),qu (qx 18 0 11),qu (qx 19 1 11),qu (qm 4 18),qu (qm 5 19)]
def Y2.r3:=qQ 19 [wm 0,wm 5,wf 107 [.tmp 20,.tmp 21,.cst (.int .i64 8)]]
abbrev Y2.id:Nat:=261
def Y2.an:Ann:=[(0,[0,3]),(1,[0,3]),(2,[0,5]),(3,[]),(1000002,[0,3,4,1,2,5,6,7,8,9,10]),(5000002,[16])]
def Y2.body:DC:=.seq (qR Y2.r0 [0,3]) (.seq (qR Y2.r1 [0,3]) (.seq (.regD [0,3,4,1,2,5,6,7,8,9,10] Y2.r2 (sO [0,5])) (qR Y2.r3 [])))
def Y2.df:DF:=⟨23,[],Y2.body⟩
theorem Y2.ok:kO Zyg Y2.an Y2.id Y2.df:=by unfold kO;kernel_rfl
def W2.r0:List DOp:=qQ 1 [wm 0,wm 0,wm 0]++[⟨sO 5,nO,.q (.build [.int .i64 0,.nilsl] []) []⟩,qk 6 .nilck 2,qa 7 9 6,⟨nO,nO,.store1 (.tmp 7) (.cst (.str []))⟩,qk 8 .nilck 3,qa 9 7 8,qS 2 9 5,qk 10 .nilck 4,qa 11 14 10,⟨nO,nO,.store1 (.tmp 11) (.cst (.int .i64 0))⟩]
abbrev W2.id:Nat:=262
def W2.body:DC:=qR W2.r0 []
def W2.an:=kA W2.body (Zyl 1)
def W2.df:DF:=⟨12,[],W2.body⟩
theorem W2.ok:kO Zyg W2.an W2.id W2.df:=by unfold kO;kernel_rfl
def YV.r0:=[qB 3 1]
def YV.r1:List DOp:=qQ 3 [wm 0,wa 14 3,vl]++[⟨sO 7,nO,.bsl 1 1 [.int .i64 0] [0] [.tmp 6]⟩,qf 8 240 [.tmp 4,.cst (.int .i64 0),.cst (.int .i64 4294967295),.tmp 7]]
def YV.r2:List DOp:=qQ 8 [wm 0,wm 0,vk .nilck,va 4,vl,wa 9 3,vl]++[⟨sO 16,nO,.q (.lookup (.sc .str) (.bool false) false) [.tmp 13,.tmp 15]⟩,qf 17 107 [.tmp 9,.tmp 16,.cst (.int .i64 8)]]
def YV.r3:=qQ 17 [wm 0,wL 15 3,wf 246 [.tmp 18,.tmp 19]]
abbrev YV.id:Nat:=263
def YV.an:Ann:=[(0,[0,3]),(1,[0,3]),(2,[0,3]),(3,[]),(1000002,[0,1,2,3,4,5,6,7,8])]
def YV.body:DC:=.seq (qR YV.r0 [0,3]) (.seq (qR YV.r1 [0,3]) (.seq (.regD [0,1,2,3,4,5,6,7,8] (Jo YV.r2) (sO [0,3])) (qR YV.r3 [])))
def YV.df:DF:=⟨21,[],YV.body⟩
theorem YV.ok:kO Zyg YV.an YV.id YV.df:=by unfold kO;kernel_rfl
def KO.r0:=[qB 1 0,qA 2 [.str [],.str [],.str [],.str [],.int .i64 0,.int .i64 0,.int .i64 0,.int .i64 0,.int .i64 0,.int .i64 0,.int .i64 0,.bool false,.bool false]]
def KO.r1:List DOp:=qQ 2 [wa 0 1,vl,wa 9 1,vl,wa 10 1,vl,wa 11 1,vl,wa 1 1,vl,wa 2 1,vl,wa 5 1,vl,wa 6 1,vl,wa 7 1,va 0,vl,wa 13 1,vl,wa 14 1,vl,wa 3 1,vl,wa 4 1,vl]++[⟨sO 30,nO,.q (.build [.str [],.str [],.str [],.str [],.int .i64 0,.int .i64 0,.int .i64 0,.int .i64 0,.int .i64 0,.int .i64 0,.int .i64 0,.bool false,.bool false] [(0,1),(1,1),(2,1),(3,1),(4,1),(5,1),(6,1),(7,1),(8,1),(9,1),(10,1),(11,1),(12,1)]) [.tmp 4,.tmp 6,.tmp 8,.tmp 10,.tmp 12,.tmp 14,.tmp 16,.tmp 18,.tmp 21,.tmp 23,.tmp 25,.tmp 27,.tmp 29]⟩,qS 13 2 30]
abbrev KO.id:Nat:=264
def KO.body:DC:=.seq (qR KO.r0 [1,2]) (.seq (qR KO.r1 [2]) .ret)
def KO.an:=kA KO.body (Zyl 2)
def KO.df:DF:=⟨31,[.cellN 2 13],KO.body⟩
theorem KO.ok:kO Zyg KO.an KO.id KO.df:=by unfold kO;kernel_rfl
def ZL.r0:=[qb 4 false]
def ZL.r1:=qQ 5 [wm 0,vk .lenL,wm 1,vk .lenL,vd .neq 7]
def ZL.r2:=[qb 4 false]
def ZL.r3:=qQ 10 [wm 0,vk .lenL,wi 0]
def ZL.r4:=[qd 14 .lss 13 12]
def ZL.r5:=[qm 15 13,qm 5 15]
def ZL.r6:List DOp:=qQ 15 [wm 0,wm 5,vX 2 16,vL 2,wm 1,wm 5,vX 2 20,vL 2]++[⟨sO 24,nO,.q (.bin .neq (sO (.cells [(0,.str),(1,.int)]))) [.tmp 19,.tmp 23]⟩]
def ZL.r7:=[qb 4 false]
def ZL.r8:=[qe 25 .add 13 1,qm 13 25]
def ZL.l0:DC:=.seq (qR ZL.r4 [0,1,12,13,14]) (.seq (qC 14 .skip (.exit 0)) (.seq (.block 1 (.seq (qR ZL.r5 [0,1,5,12,13]) (.seq (.regD [0,1,2,3,4,5,6,7,8] (Jo ZL.r6) (sO [0,1,12,13,24])) (qC 24 (.seq (qR ZL.r7 [4]) .ret) .skip)))) (qR ZL.r8 [0,1,12,13])))
def ZL.r9:=[qb 4 true]
abbrev ZL.id:Nat:=265
def ZL.an:Ann:=[(0,[0,1]),(1,[0,1,10]),(2,[4]),(3,[0,1,12,13]),(4,[0,1,12,13,14]),(5,[0,1,5,12,13]),(6,[0,1,12,13,24]),(7,[4]),(8,[0,1,12,13]),(9,[4]),(1000006,[0,1,2,3,4,5,6,7,8])]
def ZL.body:DC:=.seq (qR ZL.r0 [0,1]) (.seq (.seq (qR ZL.r1 [0,1,10]) (qC 10 (.seq (qR ZL.r2 [4]) .ret) .skip)) (.seq (.seq (qR ZL.r3 [0,1,12,13]) (.block 0 (.loop ZL.l0))) (.seq (qR ZL.r9 [4]) .ret)))
def ZL.df:DF:=⟨26,[.tmp 4],ZL.body⟩
theorem ZL.ok:kO Zyg ZL.an ZL.id ZL.df:=by unfold kO;kernel_rfl
def ZK.r0:=[qb 4 false]
def ZK.r1:=qQ 5 [wm 0,vk .lenL,wm 1,vk .lenL,vd .neq 7]
def ZK.r2:=[qb 4 false]
def ZK.r3:=qQ 10 [wm 0,vk .lenL,wi 0]
def ZK.r4:=[qd 14 .lss 13 12]
def ZK.r5:=[qm 15 13,qm 5 15]
def ZK.r6:List DOp:=qQ 15 [wm 0,wm 5,vX 3 16,vL 3,wm 1,wm 5,vX 3 20,vL 3]++[⟨sO 24,nO,.q (.bin .neq (sO (.cells [(0,.int),(1,.int),(2,.str)]))) [.tmp 19,.tmp 23]⟩]
def ZK.r7:=[qb 4 false]
def ZK.r8:=[qe 25 .add 13 1,qm 13 25]
def ZK.l0:DC:=.seq (qR ZK.r4 [0,1,12,13,14]) (.seq (qC 14 .skip (.exit 0)) (.seq (.block 1 (.seq (qR ZK.r5 [0,1,5,12,13]) (.seq (.regD [0,1,2,3,4,5,6,7,8] (Jo ZK.r6) (sO [0,1,12,13,24])) (qC 24 (.seq (qR ZK.r7 [4]) .ret) .skip)))) (qR ZK.r8 [0,1,12,13])))
def ZK.r9:=[qb 4 true]
abbrev ZK.id:Nat:=266
def ZK.an:Ann:=[(0,[0,1]),(1,[0,1,10]),(2,[4]),(3,[0,1,12,13]),(4,[0,1,12,13,14]),(5,[0,1,5,12,13]),(6,[0,1,12,13,24]),(7,[4]),(8,[0,1,12,13]),(9,[4]),(1000006,[0,1,2,3,4,5,6,7,8])]
def ZK.body:DC:=.seq (qR ZK.r0 [0,1]) (.seq (.seq (qR ZK.r1 [0,1,10]) (qC 10 (.seq (qR ZK.r2 [4]) .ret) .skip)) (.seq (.seq (qR ZK.r3 [0,1,12,13]) (.block 0 (.loop ZK.l0))) (.seq (qR ZK.r9 [4]) .ret)))
def ZK.df:DF:=⟨26,[.tmp 4],ZK.body⟩
theorem ZK.ok:kO Zyg ZK.an ZK.id ZK.df:=by unfold kO;kernel_rfl
def ZI.r0:=[qi 4 0]
def ZI.r1:=qQ 5 [wm 0,vk .lenL,wi 0]
def ZI.r2:=[qd 9 .lss 8 7]
def ZI.r3:=[qm 10 8,qm 5 10]
def ZI.r4:=qQ 10 [wm 1,wm 0,wm 5,vX 1 12,vl,vd .eql 11]
def ZI.r5:=[qm 17 5,qm 4 17]
def ZI.r6:=[qe 18 .add 8 1,qm 8 18]
def ZI.l0:DC:=.seq (qR ZI.r2 [0,1,7,8,9]) (.seq (qC 9 .skip (.exit 0)) (.seq (.block 1 (.seq (qR ZI.r3 [0,1,5,7,8]) (.seq (qR ZI.r4 [0,1,5,7,8,16]) (qC 16 (.seq (qR ZI.r5 [4]) .ret) .skip)))) (qR ZI.r6 [0,1,7,8])))
def ZI.r7:=[qi 4 (-1)]
abbrev ZI.id:Nat:=267
def ZI.body:DC:=.seq (qR ZI.r0 [0,1]) (.seq (.seq (qR ZI.r1 [0,1,7,8]) (.block 0 (.loop ZI.l0))) (.seq (qR ZI.r7 [4]) .ret))
def ZI.an:=kA ZI.body (Zyl 8)
def ZI.df:DF:=⟨19,[.tmp 4],ZI.body⟩
theorem ZI.ok:kO Zyg ZI.an ZI.id ZI.df:=by unfold kO;kernel_rfl
def QT.r0:=[qb 2 false]
def QT.r1:List DOp:=[qm 3 0,⟨sO 4,nO,.q (.bin .geq (nO)) [.tmp 3,.cst (.int .i64 (-1048576))]⟩]++qQ 4 [vm,wy 5 (wm 0),wy 5 (ve .leq 1048576),vO 5]++[qm 2 8]
abbrev QT.id:Nat:=297
def QT.body:DC:=.seq (qR QT.r0 [0]) (.seq (qR QT.r1 [2]) .ret)
def QT.an:=kA QT.body (Zyl 2)
def QT.df:DF:=⟨9,[.tmp 2],QT.body⟩
theorem QT.ok:kO Zyg QT.an QT.id QT.df:=by unfold kO;kernel_rfl
def Yq.r0:=[qi 4 0]
def Yq.r1:=[qi 5 (-1)]
def Yq.r2:=[qi 6 0]
def Yq.r3:=qQ 6 [vm,wm 0,vk .lenL,vd .lss 7]
def Yq.r5:=qQ 12 [wm 0,wm 6,vX 3 13,va 0,vl,wm 1,vd .eql 17]
def Yq.r6:=[qm 20 6,qm 5 20]
def Yq.r4:=[qm 11 6,qe 12 .add 11 1,qm 6 12]
def Yq.l0:DC:=.seq (.seq (qR Yq.r3 [0,1,5,6,10]) (qC 10 .skip (.exit 0))) (.seq (.block 1 (.seq (qR Yq.r5 [0,1,5,6,19]) (qC 19 (qR Yq.r6 [0,1,5,6]) .skip))) (qR Yq.r4 [0,1,5,6]))
def Yq.r7:=[qm 21 5,qm 4 21]
abbrev Yq.id:Nat:=298
def Yq.body:DC:=.seq (qR Yq.r0 [0,1]) (.seq (qR Yq.r1 [0,1,5]) (.seq (.seq (qR Yq.r2 [0,1,5,6]) (.block 0 (.loop Yq.l0))) (.seq (qR Yq.r7 [4]) .ret)))
def Yq.an:=kA Yq.body [0,1,2,3,5,6,4,7]
def Yq.df:DF:=⟨22,[.tmp 4],Yq.body⟩
theorem Yq.ok:kO Zyg Yq.an Yq.id Yq.df:=by unfold kO;kernel_rfl
def Yp.r0:=[qb 4 false]
def Yp.r1:=qQ 4 [wm 0,wm 1,wf 51 [.tmp 5,.tmp 6],ve .geq 0]++[qm 4 8]
abbrev Yp.id:Nat:=299
def Yp.body:DC:=.seq (qR Yp.r0 [0,1]) (.seq (qR Yp.r1 [4]) .ret)
def Yp.an:=kA Yp.body (Zyl 2)
def Yp.df:DF:=⟨9,[.tmp 4],Yp.body⟩
theorem Yp.ok:kO Zyg Yp.an Yp.id Yp.df:=by unfold kO;kernel_rfl
def Yx.r0:=[qB 2 0,qb 3 false]
def Yx.r1:=qQ 3 [wa 1 2,vl,ve .eql 9,vm,wy 7 (wa 10 2),wy 7 vl,wy 7 (wa 10 1),wy 7 vl,wy 7 (vd .eql 9),vO 7]++[qm 3 13]
abbrev Yx.id:Nat:=300
def Yx.body:DC:=.seq (qR Yx.r0 [1,2]) (.seq (qR Yx.r1 [3]) .ret)
def Yx.an:=kA Yx.body (Zyl 2)
def Yx.df:DF:=⟨14,[.tmp 3],Yx.body⟩
theorem Yx.ok:kO Zyg Yx.an Yx.id Yx.df:=by unfold kO;kernel_rfl
end Go.DL
namespace Go.DL
open Go
variable {kp:Option (List Nat)}{L:Loc}{ρ:Env}{s:St}{w:World}{os:List DOp}{ds:List D}{B:List (Nat × Rd)}{dst:Option Nat}{tmps:Array Value}{g:G}{Φ:Res→St→Prop}{ν:Nat→Nat}{xs:List Opd}{side:Prop}{row:Nat→List D}{vs:List V}
abbrev Str:=List UInt8
structure YN where
 field:Str
 factor:Int
deriving Inhabited,DecidableEq
structure Qr where
 base:Int
 terms:List YN
deriving Inhabited,DecidableEq
structure QB where
 low:Int
 high:Int
 of:Str
deriving Inhabited,DecidableEq
structure Fld where
 name:Str
 kind:Int
 bits:Int
 little:Bool
 loose:Bool
 low:Int
 high:Int
 size:Qr
 of:Str
 tag:Str
 from_:Str
 cases:List QB
 check:Int
 key:Int
deriving Inhabited,DecidableEq
structure Msg where
 name:Str
 fields:List Fld
deriving Inhabited,DecidableEq
structure Dfn where
 name:Str
 msgs:List Msg
 start:Str
deriving Inhabited,DecidableEq
def slD{α:Type}[Inhabited α](n:Nat)(f:α→List D)(l:List α):D:=.sl .none l.length n (fun i=>f (l.getD i dE))
def eQ1:=@slD.eq_1
def YN.cells(t:YN):List D:=[.str t.field,.int .i64 t.factor]
def eQ8:=@YN.cells.eq_1
def QB.cells(c:QB):List D:=[.int .i64 c.low,.int .i64 c.high,.str c.of]
def eQ9:=@QB.cells.eq_1
def Qk(l:List YN):D:=slD 2 YN.cells l
def eQ6:=@Qk.eq_1
def K3(l:List QB):D:=slD 3 QB.cells l
def Qr.cells(s:Qr):List D:=[.int .i64 s.base,Qk s.terms]
def eQ7:=@Qr.cells.eq_1
def Fld.cells(f:Fld):List D:=[.str f.name,.int .i64 f.kind,.int .i64 f.bits,.bool f.little,.bool f.loose,.int .i64 f.low,.int .i64 f.high,.int .i64 f.size.base,Qk f.size.terms,.str f.of,.str f.tag,.str f.from_,K3 f.cases,.int .i64 f.check,.int .i64 f.key]
def eQ0:=@Fld.cells.eq_1
def Z0(l:List Fld):D:=slD 15 Fld.cells l
def eQ4:=@Z0.eq_1
def Msg.cells(m:Msg):List D:=[.str m.name,Z0 m.fields]
def eQ2:=@Msg.cells.eq_1
def Ka(l:List Msg):D:=slD 2 Msg.cells l
def eQ5:=@Ka.eq_1
def Dfn.cells(d:Dfn):List D:=[.str d.name,Ka d.msgs,.str d.start]
def eQ3:=@Dfn.cells.eq_1
theorem JE{α:Type}[Inhabited α]{n:Nat}{f:α→List D}{l:List α}(h:DWf (slD n f l)):l.length≤big∧∀x∈l,∀c∈f x,DWf c:=by
 obtain⟨h1,h2,h3⟩:=h.sl_inv
 refine⟨h1,fun x hx c hc=>?_⟩
 obtain⟨i,hi,rfl⟩:=ZyC hx
 exact h3 i hi c (by simpa[Zyx,hi]using hc)
structure YN.Wf(t:YN):Prop where
 field:t.field.length≤big
 factor:inR .i64 t.factor
structure QB.Wf(c:QB):Prop where
 low:inR .i64 c.low
 high:inR .i64 c.high
 of:c.of.length≤big
structure Qr.Wf(s:Qr):Prop where
 base:inR .i64 s.base
 nterms:s.terms.length≤big
 terms:∀t∈s.terms,t.Wf
structure Fld.Wf(f:Fld):Prop where
 name:f.name.length≤big
 kind:inR .i64 f.kind
 bits:inR .i64 f.bits
 low:inR .i64 f.low
 high:inR .i64 f.high
 size:f.size.Wf
 of:f.of.length≤big
 tag:f.tag.length≤big
 from_:f.from_.length≤big
 ncases:f.cases.length≤big
 cases:∀c∈f.cases,c.Wf
 check:inR .i64 f.check
 key:inR .i64 f.key
structure Msg.Wf(m:Msg):Prop where
 name:m.name.length≤big
 nfields:m.fields.length≤big
 fields:∀f∈m.fields,f.Wf
structure Dfn.Wf(d:Dfn):Prop where
 name:d.name.length≤big
 nmsgs:d.msgs.length≤big
 msgs:∀m∈d.msgs,m.Wf
 start:d.start.length≤big
theorem YN.wf_of{t:YN}(h:∀c∈t.cells,DWf c):t.Wf:=by
 simp only[YN.cells,ZyP,List.not_mem_nil,or_false,forall_eq_or_imp,forall_eq]at h
 exact⟨h.1.str_inv,h.2.int_inv⟩
theorem QB.wf_of{t:QB}(h:∀c∈t.cells,DWf c):t.Wf:=by
 simp only[QB.cells,ZyP,List.not_mem_nil,or_false,forall_eq_or_imp,forall_eq]at h
 exact⟨h.1.int_inv,h.2.1.int_inv,h.2.2.str_inv⟩
theorem Zif{l:List YN}(h:DWf (Qk l)):l.length≤big∧∀t∈l,t.Wf:=⟨(JE h).1,fun t ht=>YN.wf_of ((JE h).2 t ht)⟩
theorem Zpw{l:List QB}(h:DWf (K3 l)):l.length≤big∧∀t∈l,t.Wf:=⟨(JE h).1,fun t ht=>QB.wf_of ((JE h).2 t ht)⟩
theorem Qr.wf_of{s:Qr}(h:∀c∈s.cells,DWf c):s.Wf:=by
 simp only[Qr.cells,ZyP,List.not_mem_nil,or_false,forall_eq_or_imp,forall_eq]at h
 exact⟨h.1.int_inv,(Zif h.2).1,(Zif h.2).2⟩
theorem Fld.wf_of{f:Fld}(h:∀c∈f.cells,DWf c):f.Wf:=by
 simp only[Fld.cells,ZyP,List.not_mem_nil,or_false,forall_eq_or_imp,forall_eq]at h
 obtain⟨h1,h2,h3,h4,h5,h6,h7,h8,h9,h10,h11,h12,h13,h14,h15⟩:=h
 exact⟨h1.str_inv,h2.int_inv,h3.int_inv,h6.int_inv,h7.int_inv,⟨h8.int_inv,(Zif h9).1,(Zif h9).2⟩,h10.str_inv,h11.str_inv,h12.str_inv,(Zpw h13).1,(Zpw h13).2,h14.int_inv,h15.int_inv⟩
theorem Zew{l:List Fld}(h:DWf (Z0 l)):l.length≤big∧∀t∈l,t.Wf:=⟨(JE h).1,fun t ht=>Fld.wf_of ((JE h).2 t ht)⟩
theorem Msg.wf_of{m:Msg}(h:∀c∈m.cells,DWf c):m.Wf:=by
 simp only[Msg.cells,ZyP,List.not_mem_nil,or_false,forall_eq_or_imp,forall_eq]at h
 exact⟨h.1.str_inv,(Zew h.2).1,(Zew h.2).2⟩
theorem ZrY{l:List Msg}(h:DWf (Ka l)):l.length≤big∧∀t∈l,t.Wf:=⟨(JE h).1,fun t ht=>Msg.wf_of ((JE h).2 t ht)⟩
theorem Dfn.wf_of{m:Dfn}(h:∀c∈m.cells,DWf c):m.Wf:=by
 simp only[Dfn.cells,ZyP,List.not_mem_nil,or_false,forall_eq_or_imp,forall_eq]at h
 exact⟨h.1.str_inv,(ZrY h.2.1).1,(ZrY h.2.1).2,h.2.2.str_inv⟩
theorem Zr7{s:Qr}(h:DWf (.agg s.cells)):s.Wf:=Qr.wf_of h.agg_inv
theorem Zxm{s:Fld}(h:DWf (.agg s.cells)):s.Wf:=Fld.wf_of h.agg_inv
theorem ZfG{s:Msg}(h:DWf (.agg s.cells)):s.Wf:=Msg.wf_of h.agg_inv
theorem ZgW{s:Dfn}(h:DWf (.agg s.cells)):s.Wf:=Dfn.wf_of h.agg_inv
theorem W4{α:Type}[Inhabited α]{l:List α}{i:Nat}(h:i<l.length):l.getD i dE∈l:=by
 simp[Zyx,h]
open Go.Proofs
def ZeA(c:UInt8):Bool:=(dC ((65:Int)≤c.toNat)&&dC ((c.toNat:Int)≤90)) ||(dC ((97:Int)≤c.toNat)&&dC ((c.toNat:Int)≤122))
def Zj0(c:UInt8):Bool:=dC ((48:Int)≤c.toNat)&&dC ((c.toNat:Int)≤57)
def ZaO(c:UInt8):Bool:=ZeA c ||Zj0 c ||decide ((c.toNat:Int)=95)
def K4(s:Str):Bool:=match s with
 | []=>false
 |c::_=>dC (s.length≤32)&&ZeA c&&s.all ZaO
def J1(v:Int):Bool:=dC (-1048576≤v)&&dC (v≤1048576)
theorem Ziq(c:UInt8):ZA Zyg Qm.id [.int .u8 c.toNat] (.bool (ZeA c)):=by
 refine ZP Qm.ok fun F st hret=>?_
 refine rg ?_
 refine rg ?_
 refine rb hret ?_
 rfl
theorem Zqy(c:UInt8):ZA Zyg QS.id [.int .u8 c.toNat] (.bool (Zj0 c)):=by
 refine ZP QS.ok fun F st hret=>?_
 refine rg ?_
 refine rg ?_
 refine rb hret ?_
 rfl
theorem Zjf(v:Int):ZA Zyg QT.id [.int .i64 v] (.bool (J1 v)):=by
 refine ZP QT.ok fun F st hret=>?_
 refine rg ?_
 refine rg ?_
 refine rb hret ?_
 simp only[J1]
theorem Zu0(s:Str)(k:Nat)(h:k<s.length):(s.drop k).all ZaO=(ZaO (s.getD k 0)&&(s.drop (k+1)).all ZaO):=by
 rw[List.drop_eq_getElem_cons h,List.all_cons];simp[Zyx,h]
theorem Zel(s:Str):ZA Zyg Wg.id [.str s] (.bool (K4 s)):=by
 refine Kn Wg.ok fun hwf F st hret=>?_
 have hs:=(hwf (.str s) (by simp)).str_inv
 unfold big at hs
 refine rg ?_
 refine rg ?_
 refine aa ?_
 refine Kt rfl rfl rfl rfl rfl (fun hcg=>⟨by first|trivial|(simpa[Qa]using hcg),trivial,Ziq _⟩) (Za ?_)
 simp only[Eqs,reduceCtorEq,reduceIte,Zye]
 refine cd (fun hc=>?_) (fun hc=>?_)
 ·refine rg ?_
  refine rb hret ?_
  cases s with|nil=>rfl|cons c r=>(simp[K4]at hc⊢;intro h1 h2;simp[h2]at hc;omega)
 ·refine rg ?_
  have he:K4 s=(s.drop 0).all ZaO:=by
   cases s with
   |nil=>simp at hc
   |cons c r=>simp at hc;simp[K4,hc];omega
  refine Zh (ZaG ?_)
  have key:∀n k,n+k=s.length→K4 s=(s.drop k).all ZaO→ZS F [.code (Wg.l0),.inLoop Wg.l0,.inBlock 0,.code (.seq (qR Wg.r8 [2]) .ret)] [(0,.d (.str s)),(3,.d (.int .i64 k))] [] st:=by
   intro n
   induction n with
   |zero =>
    intro k hk he
    refine rg ?_
    refine cd (fun hd=>?_) (fun hd=>?_)
    ·simp at hd;omega
    ·refine rg ?_
     refine rb hret ?_
     rw[he,show k=s.length by omega];simp
   |succ n ih =>
    intro k hk he
    have hall:=Zu0 s k (by omega)
    refine rg ?_
    refine cd (fun hd=>?_) (fun hd=>?_)
    ·refine rg ?_
     refine aa ?_
     refine YF rfl rfl rfl rfl rfl (by trivial) (by trivial) (by exact Ziq _) (Za ?_)
     simp only[Eqs,reduceCtorEq,reduceIte,Zye]
     refine aa ?_
     refine Kt rfl rfl rfl rfl rfl (fun hcg=>⟨by first|trivial|(simpa[Qa]using hcg),trivial,Zqy _⟩) (Za ?_)
     simp only[Eqs,reduceCtorEq,reduceIte,Zye]
     refine aa ?_
     refine cd (fun h3=>?_) (fun h3=>?_)
     ·refine rg ?_
      have hn:ZaO (s.getD k 0)=false:=by
       cases h1:ZeA (s.getD k 0)<;>cases h2:Zj0 (s.getD k 0)<;>simp_all[ZaO]
      refine rb hret ?_
      rw[he,hall,hn];rfl
     ·refine rg ?_
      refine aa ?_
      refine Zf ?_
      have hn:ZaO (s.getD k 0)=true:=by
       cases h1:ZeA (s.getD k 0)<;>cases h2:Zj0 (s.getD k 0)<;>simp_all[ZaO]
      exact ih (k+1) (by omega) (by rw[he,hall,hn];rfl)
    ·simp at hd;omega
  exact key s.length 0 (by omega) he
end Go.DL
namespace Go.DL
open Go
variable {kp:Option (List Nat)}{L:Loc}{ρ:Env}{s:St}{w:World}{os:List DOp}{ds:List D}{B:List (Nat × Rd)}{dst:Option Nat}{tmps:Array Value}{g:G}{Φ:Res→St→Prop}{ν:Nat→Nat}{xs:List Opd}{side:Prop}{row:Nat→List D}{vs:List V}
theorem ZaK{α:Type}[Inhabited α]{l:List α}{k:Nat}(h:k<l.length):l.drop k=l.getD k dE::l.drop (k+1):=by
 rw[List.drop_eq_getElem_cons h];simp[Zyx,h]
theorem WF{α:Type}[Inhabited α]{l:List α}{k:Nat}(h:k<l.length):l.take (k+1)=l.take k++[l.getD k dE]:=by
 rw[List.take_succ_eq_append_getElem h];simp[Zyx,h]
theorem Zbx{α:Type}[Inhabited α]{l:List α}{k:Nat}{x:α}(hk:k≤l.length):x∈l.take k↔∃j,j<k∧l.getD j dE=x:=by
 constructor
 ·intro h
  obtain⟨j,hj,rfl⟩:=ZyC h
  simp only[Zyw]at hj
  exact⟨j,by omega,by simp[Zyx,show j<l.length by omega]⟩
 ·rintro⟨j,hj,rfl⟩
  rw[List.mem_take_iff_getElem]
  exact⟨j,by omega,by simp[Zyx,show j<l.length by omega]⟩
theorem Zi6{α:Type}[Inhabited α]{β:Type}{f:α→β}{l:List α}{k:Nat}(hk:k≤l.length)(x:β):x∈(l.take k).map f↔∃j,j<k∧f (l.getD j dE)=x:=by
 simp only[List.mem_map]
 constructor
 ·rintro⟨a,ha,rfl⟩
  obtain⟨j,hj,rfl⟩:=(Zbx hk).1 ha
  exact⟨j,hj,rfl⟩
 ·rintro⟨j,hj,rfl⟩
  exact⟨_,(Zbx hk).2 ⟨j,hj,rfl⟩,rfl⟩
def We{α:Type}[Inhabited α](f:α→List D)(row:Nat→List D)(l:List α):Prop:=∀i,i<l.length→row i=f (l.getD i dE)
section
variable {α:Type} [Inhabited α] {f:α→List D} {row row2:Nat→List D} {l a b:List α}
theorem We.self:We f (fun i=>f (l.getD i dE)) l:=fun _ _=>rfl
theorem We.nil:We f row []:=fun i h=>absurd h (Nat.not_lt_zero i)
theorem We.one{x:α}(h:row 0=f x):We f row [x]:=fun i hi=>by
 obtain rfl:i=0:=by simp at hi;exact hi
 exact h
theorem We.app{n:Nat}(h:We f row a)(h2:We f row2 b)(hn:n=a.length):We f (Q2 n row row2) (a++b):=fun i hi=>by
 subst hn
 unfold Q2
 split
 ·rename_i h1;rw[h i h1];simp[Zyx,ZyM h1]
 ·rename_i h1
  rw[h2 (i-a.length) (by simp at hi;omega)];simp[Zyx,List.getElem?_append_right (Nat.not_lt.1 h1)]
theorem We.snoc{n:Nat}{x:α}(h:We f row a)(h2:row2 0=f x)(hn:n=a.length):We f (Q2 n row row2) (a++[x]):=h.app (.one h2) hn
theorem We.take(h:We f row l)(k:Nat):We f row (l.take k):=fun i hi=>by
 rw[Zyw]at hi
 rw[h i (by omega)];simp[Zyx,List.getElem?_take_of_lt (show i<k by omega)]
theorem We.le{t:Tok}{n s:Nat}(h:We f row l)(hn:n=l.length):(D.sl t n s row).Le (slD s f l):=ZxQ hn fun i hi=>h i (by omega)
end
open Go.Proofs
def JD(t:YN):Bool:=K4 t.field&&!dC (t.factor=0)&&J1 t.factor
def Jh:List Str→List YN→Bool
 |_,[]=>true
 |seen,t::r=>JD t&&!dC (t.field∈seen)&&Jh (seen++[t.field]) r
def Wm(s:Qr):Bool:=J1 s.base&&dC (s.terms.length≤4)&&Jh [] s.terms
theorem Zje(s:Qr):ZA Zyg Z8.id [.agg s.cells] (.bool (Wm s)):=by
 refine Kn Z8.ok fun hwf F st hret=>?_
 have hw:=(Zr7 (s:=s) (hwf _ (by simp))).nterms
 unfold big at hw
 clear hwf
 refine rx (nd2 @eQ7 (nd2 @eQ6 @eQ1)) ?_
 refine rg ?_
 refine YF rfl rfl rfl rfl rfl (by trivial) (by trivial) (by exact Zjf _) (Za ?_)
 simp only[Eqs,reduceIte,Zye]
 refine cd (fun hc=>?_) (fun hc=>?_)
 ·refine rg ?_
  refine rb hret ?_
  simp[Wm];cases h:J1 s.base<;>simp[h]at hc⊢;intro h2;omega
 ·have he:Wm s=Jh ((s.terms.take 0).map (·.field)) (s.terms.drop 0):=by
   simp[Wm]at hc⊢;simp[hc];intro h;omega
  refine rg ?_
  refine Zh (ZaG ?_)
  have key:∀n i,n+i=s.terms.length→Wm s=Jh ((s.terms.take i).map (·.field)) (s.terms.drop i)→ZS F [.code (Z8.l0),.inLoop Z8.l0,.inBlock 0,.code (.seq (qR Z8.r13 [2]) .ret)] [(1,.loc 1 0),(3,.d (.int .i64 i))] [(1,[.int .i64 s.base,.sl .none s.terms.length 2 fun i=>(s.terms.getD i dE).cells])] st:=by
   intro n
   induction n with
   |zero =>
    intro i hi he
    refine rg ?_
    refine cd (fun hd=>?_) (fun hd=>?_)
    ·simp at hd;omega
    ·refine rg ?_
     refine rb hret ?_
     rw[he,show i=s.terms.length by omega];simp[Jh]
   |succ n ih =>
    intro i hi he
    have hdr:=ZaK (l:=s.terms) (k:=i) (by omega)
    have htk:=WF (l:=s.terms) (k:=i) (by omega)
    rw[hdr]at he
    simp only[Jh]at he
    generalize hx:s.terms.getD i dE=x at *
    refine rg ?_
    refine cd (fun hd=>?_) (fun hd=>?_)
    ·refine rx (nd2 @eQ8 @hx) ?_
     refine aa ?_
     refine YF rfl rfl rfl rfl rfl (by trivial) (by trivial) (by exact Zel _) (Za ?_)
     simp only[Eqs,reduceIte,Zye]
     refine aa ?_
     refine Kt rfl rfl rfl rfl rfl (fun hcg=>⟨by first|trivial|(simpa[Qa]using hcg),trivial,Zjf _⟩) (Za ?_)
     simp only[Eqs,reduceIte,Zye,hx]
     refine cd (fun h3=>?_) (fun h3=>?_)
     ·refine rg ?_
      have:JD x=false:=by revert h3;unfold JD;generalize K4 x.field=a;generalize dC (x.factor=0)=b;generalize J1 x.factor=c;cases a<;>cases b<;>cases c<;>decide
      refine rb hret ?_
      rw[he,this];rfl
     ·have hok:JD x=true:=by revert h3;unfold JD;generalize K4 x.field=a;generalize dC (x.factor=0)=b;generalize J1 x.factor=c;cases a<;>cases b<;>cases c<;>decide
      refine rg ?_
      refine Zh (ZaG ?_)
      have key2:∀m j,m+j=i→(∀j',j'<j→(s.terms.getD j' dE).field≠x.field)→ZS F [.code (Z8.l1),.inLoop Z8.l1,.inBlock 2,.inBlock 1,.code (qR Z8.r5 [1,3]),.inLoop Z8.l0,.inBlock 0,.code (.seq (qR Z8.r13 [2]) .ret)] [(1,.loc 1 0),(3,.d (.int .i64 i)),(4,.d (.int .i64 j))] [(1,[.int .i64 s.base,.sl .none s.terms.length 2 fun i=>(s.terms.getD i dE).cells])] st:=by
       intro m
       induction m with
       |zero =>
        intro j hj hno
        refine rg ?_
        refine cd (fun h4=>?_) (fun h4=>?_)
        ·simp at h4;omega
        ·refine rg ?_
         refine aa ?_
         refine Zf ?_
         refine ih (i+1) (by omega) ?_
         have hnc:x.field∉(s.terms.take i).map (·.field):=by
          intro h
          obtain⟨j',h1,h2⟩:=(Zi6 (f:=(·.field)) (l:=s.terms) (k:=i) (by omega) x.field).1 h
          exact hno j' (by omega) h2
         rw[he,hok,decide_eq_false hnc,htk];simp
       |succ m ih2 =>
        intro j hj hno
        refine rg ?_
        refine cd (fun h4=>?_) (fun h4=>?_)
        ·refine rx (nd2 @eQ8 @hx) ?_
         refine aa ?_
         refine cd (fun h5=>?_) (fun h5=>?_)
         ·refine rg ?_
          have hnc:x.field∈(s.terms.take i).map (·.field):=(Zi6 (f:=(·.field)) (l:=s.terms) (k:=i) (by omega) x.field).2 ⟨j,by omega,by simpa using h5⟩
          refine rb hret ?_
          rw[he,decide_eq_true hnc];simp
         ·refine rg ?_
          refine aa ?_
          refine Zf ?_
          refine ih2 (j+1) (by omega) fun j' hj'=>?_
          by_cases hjj:j'=j
          ·subst hjj;simpa using h5
          ·exact hno j' (by omega)
        ·simp at h4;omega
      exact key2 i 0 (by omega) (fun j' h=>by omega)
    ·simp at hd;omega
  exact key s.terms.length 0 (by omega) he
structure Ran where
 name:Str
 low:Int
 high:Int
deriving Inhabited,DecidableEq
def Ran.cells(r:Ran):List D:=[.str r.name,.int .i64 r.low,.int .i64 r.high]
def Zcp(l:List Ran):D:=slD 3 Ran.cells l
def Kg(s:Str):List Ran→Int
 | []=>-1
 |x::r=>if 0≤Kg s r then Kg s r+1 else if x.name=s then 0 else -1
theorem Zqa(s:Str)(l:List Ran):-1≤Kg s l:=by
 induction l with
 |nil=>simp[Kg]
 |cons x r ih=>simp only[Kg];split<;>(try split)<;>omega
theorem Zqb(s:Str)(l:List Ran):Kg s l<l.length:=by
 induction l with
 |nil=>simp[Kg]
 |cons x r ih=>simp only[Kg,ZyE];split<;>(try split)<;>omega
theorem Zml(s:Str)(l:List Ran)(x:Ran):Kg s (l++[x])=if x.name=s then (l.length:Int) else Kg s l:=by
 induction l with
 |nil=>simp[Kg]
 |cons y r ih =>
  simp only[List.cons_append,Kg,ih,ZyE]
  have:=Zqa s r
  by_cases h:x.name=s<;>simp[h]
theorem ZfM(l:List Ran)(s:Str):ZA Zyg Yq.id [Zcp l,.str s] (.int .i64 (Kg s l)):=by
 refine Kn Yq.ok fun hwf F st hret=>?_
 have hw:=(JE (hwf (Zcp l) (by simp))).1
 unfold big at hw
 clear hwf
 refine rx (nd2 @Zcp.eq_1 @eQ1) ?_
 refine rg ?_
 refine rg ?_
 refine Zh (fr (l.length) (fun i Q=>i≤l.length→Q [(0,.d (Zcp l)),(1,.d (.str s)),(5,.d (.int .i64 (Kg s (l.take i)))),(6,.d (.int .i64 i))] [] st) (fun n ih_key=>?_) fun key=>?_)
 ·intro i hn hi
  have hge:=Zqa s (l.take i)
  refine rx (nd2 @Zcp.eq_1 @eQ1) ?_
  refine cd (fun hd=>?_) (fun hd=>?_)
  ·simp at hd
   refine rx @Ran.cells.eq_1 ?_
   refine aa ?_
   refine cd (fun h5=>?_) (fun h5=>?_)
   ·refine rg ?_
    refine rg ?_
    refine aa ?_
    have:Kg s (l.take (i+1))=i:=by rw[WF (by omega),Zml,if_pos (by simpa using h5)];simp;omega
    refine Zf ?_
    have hnext:=ih_key ((l.length)-(i+1)) (by omega) (i+1) rfl (by omega)
    rw[this]at hnext
    exact hnext
   ·refine rg ?_
    refine aa ?_
    have:Kg s (l.take (i+1))=Kg s (l.take i):=by rw[WF (by omega),Zml,if_neg (by simpa using h5)]
    refine Zf ?_
    have hnext:=ih_key ((l.length)-(i+1)) (by omega) (i+1) rfl (by omega)
    rw[this]at hnext
    exact hnext
  ·refine rg ?_
   refine ri hret ?_
   simp at hd;rw[List.take_of_length_le (by omega)]
 exact key _ 0 rfl (by omega)
abbrev QQ:=Str→Option (Int×Int)
def JP(r:Int×Int):Bool:=dC (r.1<0) ||decide (r.2<r.1) ||decide (34359738368≤r.2)
def Qv(look:QQ)(t:YN):Bool:=match look t.field with|some r=>JP r|none=>false
def W6(look:QQ)(t:YN):Bool:=(look t.field).isNone
def Zah(s:Qr)(look:QQ):Int:=if Wm s=false then 2 else if s.terms.any (Qv look) then 2 else if s.terms.any (W6 look) then 9 else 0
def Q4(look:QQ)(t:YN):Int×Int:=(look t.field).getD (0,0)
def loT(look:QQ)(t:YN):Int:=if 0<t.factor then t.factor*(Q4 look t).1 else t.factor*(Q4 look t).2
def hiT(look:QQ)(t:YN):Int:=if 0<t.factor then t.factor*(Q4 look t).2 else t.factor*(Q4 look t).1
def loS(look:QQ):List YN→Int
 | []=>0
 |t::r=>loT look t+loS look r
def hiS(look:QQ):List YN→Int
 | []=>0
 |t::r=>hiT look t+hiS look r
def WU(s:Qr)(look:QQ):Int×Int×Int:=if Zah s look=0 then (s.base+loS look s.terms,s.base+hiS look s.terms,0) else (0,0,Zah s look)
def Zcu(look:QQ)(t:YN)(mix:Nat):Int:=t.factor*(if mix % 2=1 then (Q4 look t).2 else (Q4 look t).1)
def Zba(look:QQ):List YN→Nat→Int
 | [],_=>0
 |t::r,mix=>Zcu look t mix+Zba look r (mix / 2)
structure ZdP(look:QQ)(t:YN):Prop where
 le:(Q4 look t).1≤(Q4 look t).2
 lo:0≤(Q4 look t).1
 hi:(Q4 look t).2<34359738368
 f1:-1048576≤t.factor
 f2:t.factor≤1048576
theorem ZsZ{f v:Int}(h1:-1048576≤f)(h2:f≤1048576)(h3:0≤v)(h4:v<34359738368):-36028797018963968≤f*v∧f*v≤36028797018963968:=by
 have a:f*v≤1048576*v:=Int.mul_le_mul_of_nonneg_right h2 h3
 have b:-1048576*v≤f*v:=Int.mul_le_mul_of_nonneg_right h1 h3
 omega
theorem ZdP.ends_mix{look:QQ}{t:YN}(h:ZdP look t)(m:Nat):-36028797018963968≤Zcu look t m∧Zcu look t m≤36028797018963968:=by
 have a:=h.le;have b:=h.lo;have c:=h.hi
 unfold Zcu;split
 ·exact ZsZ h.f1 h.f2 (by omega) c
 ·exact ZsZ h.f1 h.f2 b (by omega)
theorem ZdP.lo_le{look:QQ}{t:YN}(h:ZdP look t)(m:Nat):loT look t≤Zcu look t m∧Zcu look t m≤hiT look t:=by
 have a:=h.le
 unfold loT hiT Zcu
 by_cases hf:0<t.factor
 ·have:=Int.mul_le_mul_of_nonneg_left a (show 0≤t.factor by omega)
  simp only[hf,if_true];split<;>omega
 ·have:=Int.mul_le_mul_of_nonpos_left (show t.factor≤0 by omega) a
  simp only[hf,if_false];split<;>omega
theorem Zuf{look:QQ}{l:List YN}(h:∀t∈l,ZdP look t)(m:Nat):loS look l≤Zba look l m∧Zba look l m≤hiS look l:=by
 induction l generalizing m with
 |nil=>simp[loS,Zba,hiS]
 |cons t r ih =>
  have:=(h t (by simp)).lo_le m
  have:=ih (fun t ht=>h t (by simp[ht])) (m / 2)
  simp only[loS,Zba,hiS];omega
theorem Zx1{look:QQ}(l:List YN):(∃m,m<2 ^ l.length∧Zba look l m=loS look l)∧∃m,m<2 ^ l.length∧Zba look l m=hiS look l:=by
 induction l with
 |nil=>exact⟨⟨0,by simp,rfl⟩,⟨0,by simp,rfl⟩⟩
 |cons t r ih =>
  obtain⟨⟨m,hm,he⟩,⟨n,hn,hf⟩⟩:=ih
  simp only[ZyE,Nat.pow_succ,loS,Zba,hiS,loT,hiT]
  by_cases hf':0<t.factor
  ·refine⟨⟨2*m,by omega,?_⟩,⟨2*n+1,by omega,?_⟩⟩
   ·rw[show 2*m / 2=m by omega,he];simp[Zcu,hf']
   ·rw[show(2*n+1) / 2=n by omega,hf];simp[Zcu,hf',show(2*n+1) % 2=1 by omega]
  ·refine⟨⟨2*m+1,by omega,?_⟩,⟨2*n,by omega,?_⟩⟩
   ·rw[show(2*m+1) / 2=m by omega,he];simp[Zcu,hf',show(2*m+1) % 2=1 by omega]
   ·rw[show 2*n / 2=n by omega,hf];simp[Zcu,hf']
theorem Zuk{look:QQ}{l:List YN}{i:Nat}(h:i<l.length)(m:Nat):Zba look (l.drop i) (m / 2 ^ i)=Zcu look (l.getD i dE) (m / 2 ^ i)+Zba look (l.drop (i+1)) (m / 2 ^ (i+1)):=by
 rw[ZaK h,Zba,Nat.div_div_eq_div_mul,Nat.pow_succ]
structure ZmT(look:QQ)(l:List YN)(b:Int)(k:Nat)(low high:Int):Prop where
 zero:k=0→low=0∧high=0
 le:∀m,m<k→low≤b+Zba look l m∧b+Zba look l m≤high
 ex:0<k→(∃m,m<k∧low=b+Zba look l m)∧∃m,m<k∧high=b+Zba look l m
theorem ZmT.fin{look:QQ}{l:List YN}{b low high:Int}(h:ZmT look l b (2 ^ l.length) low high)(hl:∀t∈l,ZdP look t):low=b+loS look l∧high=b+hiS look l:=by
 obtain⟨⟨m,hm,he⟩,⟨n,hn,hf⟩⟩:=Zx1 (look:=look) l
 obtain⟨⟨m',hm',he'⟩,⟨n',hn',hf'⟩⟩:=h.ex (Nat.two_pow_pos _)
 have h1:=h.le m hm
 have h2:=h.le n hn
 have h3:=Zuf hl m'
 have h4:=Zuf hl n'
 omega
theorem ZmT.step{look:QQ}{l:List YN}{b low high:Int}{k:Nat}{n low' high':Int}(h:ZmT look l b k low high)(hn:n=b+Zba look l k)(h1:low'=if k=0∨n<low then n else low)(h2:high'=if k=0∨high<n then n else high):ZmT look l b (k+1) low' high':=by
 by_cases hk:k=0
 ·subst hk
  simp only[true_or,if_true]at h1 h2
  refine⟨by omega,fun m hm=>?_,fun _=>⟨⟨0,by omega,by omega⟩,⟨0,by omega,by omega⟩⟩⟩
  obtain rfl:m=0:=by omega
  omega
 ·simp only[hk,false_or]at h1 h2
  obtain⟨⟨m',hm',he'⟩,⟨n',hn',hf'⟩⟩:=h.ex (by omega)
  refine⟨by omega,fun m hm=>?_,fun _=>⟨?_,?_⟩⟩
  ·rcases Nat.lt_succ_iff_lt_or_eq.1 hm with hm|rfl
   ·have:=h.le m hm
    constructor
    ·rw[h1];split<;>omega
    ·rw[h2];split<;>omega
   ·constructor
    ·rw[h1];split<;>omega
    ·rw[h2];split<;>omega
  ·rw[h1];split
   ·exact⟨k,by omega,hn⟩
   ·exact⟨m',by omega,he'⟩
  ·rw[h2];split
   ·exact⟨k,by omega,hn⟩
   ·exact⟨n',by omega,hf'⟩
theorem ZnM{seen:List Str}{l:List YN}(h:Jh seen l=true):∀t∈l,JD t=true:=by
 induction l generalizing seen with
 |nil=>simp
 |cons x r ih =>
  simp only[Jh,Zyk]at h
  intro t ht
  rcases List.mem_cons.1 ht with rfl|ht
  ·exact h.1.1
  ·exact ih h.2 t ht
structure ZlI(s:Qr):Prop where
 b1:-1048576≤s.base
 b2:s.base≤1048576
 len:s.terms.length≤4
 f1:∀t∈s.terms,-1048576≤t.factor
 f2:∀t∈s.terms,t.factor≤1048576
 f0:∀t∈s.terms,t.factor≠0
 nm:∀t∈s.terms,K4 t.field=true
theorem ZlI.of{s:Qr}(h:Wm s=true):ZlI s:=by
 simp only[Wm,Zyk,decide_eq_true_eq,J1]at h
 have ht:=ZnM h.2
 refine⟨h.1.1.1,h.1.1.2,h.1.2,?_,?_,?_,?_⟩<;>intro t h'<;>have:=ht t h'<;>simp[JD,J1]at this<;>simp_all
def Qe(l:List Ran):QQ:=fun s=>if Kg s l<0 then nO else sO ((l.getD (Kg s l).toNat dE).low,(l.getD (Kg s l).toNat dE).high)
theorem Zhu{α:Type}[Inhabited α]{p:α→Bool}{l:List α}{i:Nat}(h:i<l.length):(l.take (i+1)).any p=((l.take i).any p ||p (l.getD i dE)):=by
 rw[WF h,List.any_append];simp
theorem Zpp{α:Type}[Inhabited α]{p:α→Bool}{l:List α}{i:Nat}(h:i<l.length)(hp:p (l.getD i dE)=true):l.any p=true :=
 List.any_eq_true.2 ⟨_,W4 h,hp⟩
theorem Zmy(s:Qr)(l:List Ran):ZA Zyg Zg.id [.agg s.cells,Zcp l] (.tup [.int .i64 (WU s (Qe l)).1,.int .i64 (WU s (Qe l)).2.1,.int .i64 (WU s (Qe l)).2.2]):=by
 refine Kn Zg.ok fun hwf F st hret=>?_
 have hw:=(Zr7 (s:=s) (hwf _ (by simp))).nterms
 have hwl:=(JE (hwf (Zcp l) (by simp))).1
 unfold big at hw hwl
 clear hwf
 refine rx (nd2 @eQ7 (nd2 @eQ6 @eQ1)) ?_
 refine rg ?_
 refine YF rfl rfl rfl rfl rfl (by trivial) (by trivial) (by exact Zje s) (Za ?_)
 simp only[Eqs,reduceIte,Zye]
 refine cd (fun hc=>?_) (fun hc=>?_)
 ·refine rg ?_
  simp at hc
  refine rt hret ?_
  simp[WU,Zah,hc]
 ·simp at hc
  have hv:=ZlI.of hc
  refine rg ?_
  refine rg ?_
  refine Zh (fr (s.terms.length) (fun i Q=>i≤s.terms.length→(s.terms.take i).any (Qv (Qe l))=false→Q [(1,.d (Zcp l)),(2,.loc 2 0),(7,.d (.bool ((s.terms.take i).any (W6 (Qe l))))),(8,.d (.int .i64 i))] [(2,[.int .i64 s.base,Qk s.terms])] st) (fun n ih_key=>?_) fun key=>?_)
  ·intro i hn hi hbad
   refine rx (nd2 @eQ6 @eQ1) ?_
   refine cd (fun hd=>?_) (fun hd=>?_)
   ·simp at hd
    have hbs:=Zhu (p:=Qv (Qe l)) hd
    have hns:=Zhu (p:=W6 (Qe l)) hd
    refine rx (nd2 @eQ8 (nd2 @eQ6 @eQ1)) ?_
    refine aa ?_
    refine YF rfl rfl rfl rfl rfl (by trivial) (by trivial) (by exact ZfM l _) (Za ?_)
    simp only[Eqs,reduceIte,Zye]
    refine rg ?_
    refine cd (fun h5=>?_) (fun h5=>?_)
    ·refine rg ?_
     refine rg ?_
     refine aa ?_
     have hnn:W6 (Qe l) (s.terms.getD i dE)=true:=by simp only[W6,Qe];rw[if_pos (of_decide_eq_true h5)];rfl
     have hnb:Qv (Qe l) (s.terms.getD i dE)=false:=by simp only[Qv,Qe];rw[if_pos (of_decide_eq_true h5)]
     rw[hnn,Bool.or_true]at hns
     rw[hnb,Bool.or_false]at hbs
     refine Zf ?_
     have hnext:=ih_key ((s.terms.length)-(i+1)) (by omega) (i+1) rfl (by omega) (by rw[hbs,hbad])
     rw[hns]at hnext
     exact hnext
    ·have hge:=Zqb (s.terms.getD i dE).field l
     have h5':¬Kg (s.terms.getD i dE).field l<0:=of_decide_eq_false h5
     refine rx (nd2 @Ran.cells.eq_1 (nd2 @Zcp.eq_1 @eQ1)) ?_
     refine aa ?_
     have hnn:W6 (Qe l) (s.terms.getD i dE)=false:=by simp only[W6,Qe];rw[if_neg h5'];rfl
     have hnb:Qv (Qe l) (s.terms.getD i dE)=JP ((l.getD (Kg (s.terms.getD i dE).field l).toNat dE).low,(l.getD (Kg (s.terms.getD i dE).field l).toNat dE).high):=by simp only[Qv,Qe];rw[if_neg h5']
     refine cd (fun h6=>?_) (fun h6=>?_)
     ·refine rg ?_
      rw[←JP.eq_1 (_,_)]at h6
      rw[h6]at hnb
      have:=Zpp hd hnb
      refine rt hret ?_
      simp[WU,Zah,hc,this]
     ·refine rg ?_
      refine aa ?_
      rw[show JP (_,_)=false from h6]at hnb
      rw[hnn,Bool.or_false]at hns
      rw[hnb,Bool.or_false]at hbs
      refine Zf ?_
      have hnext:=ih_key ((s.terms.length)-(i+1)) (by omega) (i+1) rfl (by omega) (by rw[hbs,hbad])
      rw[hns]at hnext
      exact hnext
   ·simp at hd
    obtain rfl:i=s.terms.length:=by omega
    rw[ZyA]at hbad
    rw[ZyA]
    refine rg ?_
    refine cd (fun h7=>?_) (fun h7=>?_)
    ·refine rg ?_
     refine rt hret ?_
     simp[WU,Zah,hc,hbad,h7]
    ·have hfine:∀t∈s.terms,ZdP (Qe l) t:=by
      intro t ht
      have h1:=List.any_eq_false.1 hbad t ht
      have h2:=List.any_eq_false.1 h7 t ht
      simp only[Qv,W6,Qe]at h1 h2
      have hlt:¬Kg t.field l<0:=fun h=>h2 (by rw[if_pos h];rfl)
      rw[if_neg hlt]at h1
      simp[JP]at h1
      refine⟨?_,?_,?_,hv.f1 t ht,hv.f2 t ht⟩<;>simp only[Q4,Qe]<;>rw[if_neg hlt]<;>simp<;>omega
     have he:Zah s (Qe l)=0:=by simp[Zah,hc,hbad,h7]
     have hfound:∀t∈s.terms,0≤Kg t.field l∧Q4 (Qe l) t=((l.getD (Kg t.field l).toNat dE).low,(l.getD (Kg t.field l).toNat dE).high):=by
      intro t ht
      have h:=List.any_eq_false.1 h7 t ht
      simp only[W6,Qe]at h
      by_cases hlt:Kg t.field l<0
      ·rw[if_pos hlt]at h;simp at h
      ·simp only[Q4,Qe];rw[if_neg hlt];exact⟨by omega,rfl⟩
     have hsh:ZjA .i64 1 (s.terms.length:Int)=((2 ^ s.terms.length:Nat):Int):=by
      have:=hv.len
      generalize s.terms.length=n at this
      match n,this with
      |0,_=>decide
      |1,_=>decide
      |2,_=>decide
      |3,_=>decide
      |4,_=>decide
      |n+5,h=>omega
     have hle16:2 ^ s.terms.length≤16:=by
      have:=hv.len
      exact Nat.pow_le_pow_right (n:=2) (by omega) this
     clear ih_key hbad h7 hn hi hd
     refine rg ?_
     refine rg ?_
     refine Zh (fr ((2 ^ s.terms.length)) (fun k Q=>∀low high,k≤2 ^ s.terms.length→ZmT (Qe l) s.terms s.base k low high→Q [(1,.d (Zcp l)),(2,.loc 2 0),(10,.d (.int .i64 low)),(11,.d (.int .i64 high)),(12,.d (.int .i64 k))] [(2,[.int .i64 s.base,Qk s.terms])] st) (fun n ih_key2=>?_) fun key2=>?_)
     ·intro k hn low high hk hb
      have h2n:=Nat.two_pow_pos s.terms.length
      refine rx (nd2 @eQ6 (nd2 @eQ1 @hsh)) ?_
      refine aa ?_
      refine cd (fun h8=>?_) (fun h8=>?_)
      ·have h8':k<2 ^ s.terms.length:=by have:=of_decide_eq_true h8;omega
       clear h8
       refine rg ?_
       refine rg ?_
       have hbase:∀j,j≤s.terms.length→True:=fun _ _=>trivial
       refine Zh (fr (s.terms.length) (fun j Q=>∀x,j≤s.terms.length→x+Zba (Qe l) (s.terms.drop j) (k / 2 ^ j)=s.base+Zba (Qe l) s.terms k→-1048576-j*36028797018963968≤x→x≤1048576+j*36028797018963968→Q [(1,.d (Zcp l)),(2,.loc 2 0),(10,.d (.int .i64 low)),(11,.d (.int .i64 high)),(12,.d (.int .i64 k)),(13,.d (.int .i64 x)),(14,.d (.int .i64 j))] [(2,[.int .i64 s.base,Qk s.terms])] st) (fun n ih_key3=>?_) fun key3=>?_)
       ·intro j hn3 x hj hx hx1 hx2
        have hlen:=hv.len
        refine rx (nd2 @eQ6 @eQ1) ?_
        refine cd (fun h9=>?_) (fun h9=>?_)
        ·simp at h9
         have hstep:=Zuk (look:=Qe l) h9 k
         have hf:=hfine _ (W4 h9)
         have hem:=hf.ends_mix (k / 2 ^ j)
         have hsome:=hfound _ (W4 h9)
         have hlt:=Zqb (s.terms.getD j dE).field l
         have hshr:ZnC .i64 (k:Int) (j:Int)=((k / 2 ^ j:Nat):Int):=by
          unfold ZnC
          rw[Int.toNat_natCast,show Nat.min j IntKind.i64.bits=j from Nat.min_eq_left (show j≤IntKind.i64.bits by simp[IntKind.bits];omega)]
          rw[Int.fdiv_eq_ediv_of_nonneg _ (by exact_mod_cast Nat.zero_le _)]
          simp
         have hk2:k / 2 ^ j≤k:=Nat.div_le_self _ _
         have hrem:Int.tmod ((k / 2 ^ j:Nat):Int) 2=((k / 2 ^ j % 2:Nat):Int):=by simp[Int.tmod]
         generalize hq:k / 2 ^ j=q at *
         refine rx (nd2 @eQ8 (nd2 @Ran.cells.eq_1 (nd2 @eQ6 @eQ1))) ?_
         refine aa ?_
         refine YF rfl rfl rfl rfl rfl (by trivial) (by trivial) (by exact ZfM l _) (Za ?_)
         simp only[Eqs,reduceIte,Zye,ZyB,Zyq,Ran.cells,Zcp,slD]
         refine aa ?_
         refine rg ?_
         refine rx (nd2 @hshr @hrem) ?_
         refine aa ?_
         refine cd (fun h10=>?_) (fun h10=>?_)
         ·simp at h10
          have hmt:Zcu (Qe l) (s.terms.getD j dE) q=(s.terms.getD j dE).factor*(l.getD (Kg (s.terms.getD j dE).field l).toNat dE).high:=by
           unfold Zcu;rw[hsome.2,if_pos (by omega)]
          refine rg ?_
          refine rx (nd2 @eQ8 (nd2 @eQ6 @eQ1)) ?_
          rw[hmt]at hem hstep
          generalize (s.terms.getD j dE).factor*(l.getD (Kg (s.terms.getD j dE).field l).toNat dE).high=p at *
          refine aa ?_
          refine rg ?_
          refine aa ?_
          refine Zf ?_
          exact ih_key3 ((s.terms.length)-(j+1)) (by omega) (j+1) rfl _ (by omega) (by rw[←hx,hstep];omega) (by omega) (by omega)
         ·simp at h10
          have hmt:Zcu (Qe l) (s.terms.getD j dE) q=(s.terms.getD j dE).factor*(l.getD (Kg (s.terms.getD j dE).field l).toNat dE).low:=by
           unfold Zcu;rw[hsome.2,if_neg (by omega)]
          refine rx (nd2 @eQ8 (nd2 @eQ6 @eQ1)) ?_
          rw[hmt]at hem hstep
          generalize (s.terms.getD j dE).factor*(l.getD (Kg (s.terms.getD j dE).field l).toNat dE).low=p at *
          refine aa ?_
          refine rg ?_
          refine aa ?_
          refine Zf ?_
          exact ih_key3 ((s.terms.length)-(j+1)) (by omega) (j+1) rfl _ (by omega) (by rw[←hx,hstep];omega) (by omega) (by omega)
        ·simp at h9
         obtain rfl:j=s.terms.length:=by omega
         have hxx:x=s.base+Zba (Qe l) s.terms k:=by rw[List.drop_length,Zba,Int.add_zero]at hx;exact hx
         refine rg ?_
         refine cd (fun h11=>?_) (fun h11=>?_)
         ·refine rg ?_
          refine rg ?_
          refine cd (fun h12=>?_) (fun h12=>?_)
          ·refine rg ?_
           refine rg ?_
           refine aa ?_
           refine Zf ?_
           exact ih_key2 (((2 ^ s.terms.length))-(k+1)) (by omega) (k+1) rfl _ _ (by omega) (hb.step hxx (by simp at h11;simp[h11]<;>omega) (by simp at h12;simp[h12]<;>omega))
          ·refine rg ?_
           refine aa ?_
           refine Zf ?_
           exact ih_key2 (((2 ^ s.terms.length))-(k+1)) (by omega) (k+1) rfl _ _ (by omega) (hb.step hxx (by simp at h11;simp[h11]<;>omega) (by simp at h12;simp[h12]<;>omega))
         ·refine rg ?_
          refine cd (fun h12=>?_) (fun h12=>?_)
          ·refine rg ?_
           refine rg ?_
           refine aa ?_
           refine Zf ?_
           exact ih_key2 (((2 ^ s.terms.length))-(k+1)) (by omega) (k+1) rfl _ _ (by omega) (hb.step hxx (by simp at h11;simp[h11]<;>omega) (by simp at h12;simp[h12]<;>omega))
          ·refine rg ?_
           refine aa ?_
           refine Zf ?_
           exact ih_key2 (((2 ^ s.terms.length))-(k+1)) (by omega) (k+1) rfl _ _ (by omega) (hb.step hxx (by simp at h11;simp[h11]<;>omega) (by simp at h12;simp[h12]<;>omega))
       exact key3 _ 0 rfl s.base (by omega) (by simp) (by have:=hv.b1;omega) (by have:=hv.b2;omega)
      ·have h8':¬k<2 ^ s.terms.length:=fun h=>of_decide_eq_false h8 (by exact_mod_cast h)
       obtain rfl:k=2 ^ s.terms.length:=Nat.le_antisymm hk (Nat.not_lt.1 h8')
       obtain⟨rfl,rfl⟩:=hb.fin hfine
       refine rg ?_
       refine rt hret ?_
       unfold WU;rw[if_pos he]
     exact key2 _ 0 rfl 0 0 (Nat.zero_le _) ⟨by simp,by simp,by simp⟩
  exact key _ 0 rfl (by omega) (by simp)
theorem ZsH{α β:Type}[Inhabited α]{f:β→α→β}{b:β}{l:List α}{i:Nat}(h:i<l.length):(l.take (i+1)).foldl f b=f ((l.take i).foldl f b) (l.getD i dE):=by
 rw[WF h,List.foldl_append];rfl
def ZB{α:Type}(p:α→Bool):List α→Int
 | []=>-1
 |x::r=>if p x then 0 else if ZB p r<0 then -1 else ZB p r+1
theorem ZaX{α:Type}{p:α→Bool}{l:List α}(h:∀x∈l,p x=false):ZB p l=-1:=by
 induction l with
 |nil=>rfl
 |cons x r ih=>simp[ZB,h x (by simp),ih (fun y hy=>h y (by simp[hy]))]
theorem ZaM{α:Type}[Inhabited α]{p:α→Bool}{l:List α}{i:Nat}(hi:i<l.length)(hp:p (l.getD i dE)=true)(h:∀j,j<i→p (l.getD j dE)=false):ZB p l=i:=by
 induction l generalizing i with
 |nil=>simp at hi
 |cons x r ih =>
  cases i with
  |zero=>simp at hp;simp[ZB,hp]
  |succ i =>
   have h0:=h 0 (by omega)
   have:=ih (i:=i) (by simpa using hi) (by simpa using hp) (fun j hj=>by simpa using h (j+1) (by omega))
   simp at h0
   simp[ZB,h0,this];omega
theorem Zbi{α:Type}(p:α→Bool)(l:List α):-1≤ZB p l:=by
 induction l with
 |nil=>simp[ZB]
 |cons x r ih=>simp only[ZB];split<;>(try split)<;>omega
theorem QA{α:Type}(p:α→Bool)(l:List α):ZB p l<l.length:=by
 induction l with
 |nil=>simp[ZB]
 |cons x r ih=>simp only[ZB,ZyE];split<;>(try split)<;>omega
theorem ZsF{α:Type}{p:α→Bool}{l:List α}(h:ZB p l<0):∀x∈l,p x=false:=by
 induction l with
 |nil=>simp
 |cons x r ih =>
  have:=Zbi p r
  simp only[ZB]at h
  split at h
  ·omega
  ·rename_i hx
   split at h
   ·rename_i hr;intro y hy;rcases List.mem_cons.1 hy with rfl|hy
    ·simpa using hx
    ·exact ih hr y hy
   ·omega
theorem Zef{α:Type}[Inhabited α]{p:α→Bool}{l:List α}(h:0≤ZB p l):p (l.getD (ZB p l).toNat dE)=true∧∀j,j<(ZB p l).toNat→p (l.getD j dE)=false:=by
 induction l with
 |nil=>simp[ZB]at h
 |cons x r ih =>
  have:=Zbi p r
  by_cases hx:p x=true
  ·simp[ZB,hx]
  ·simp only[ZB,hx,if_false,Zyt]at h⊢
   by_cases hr:ZB p r<0
   ·simp[hr]at h
   ·rw[if_neg hr]
    obtain⟨h1,h2⟩:=ih (by omega)
    rw[show(ZB p r+1).toNat=(ZB p r).toNat+1 by omega]
    refine⟨by simpa using h1,fun j hj=>?_⟩
    cases j with
    |zero=>simpa using hx
    |succ j=>simpa using h2 j (by omega)
theorem Zau{α:Type}[Inhabited α]{l:List α}{n j:Nat}(h:j<n):(l.take n).getD j dE=l.getD j dE:=by
 simp[Zyx,List.getElem?_take_of_lt h]
theorem Zg0{α:Type}[Inhabited α]{p:α→Bool}{l:List α}{i n:Nat}(hn:n≤l.length)(hi:i<n)(hp:p (l.getD i dE)=true)(h:∀j,j<i→p (l.getD j dE)=false):ZB p (l.take n)=i :=
 ZaM (by simp;omega) (by rw[Zau hi];exact hp) (fun j hj=>by rw[Zau (by omega)];exact h j hj)
theorem Zfy{α:Type}[Inhabited α]{p:α→Bool}{l:List α}{n:Nat}(hn:n≤l.length)(h:∀j,j<n→p (l.getD j dE)=false):ZB p (l.take n)=-1 :=
 ZaX fun x hx=>by
  obtain⟨j,hj,rfl⟩:=(Zbx hn).1 hx
  exact h j hj
def Z5(d:Dfn)(s:Str)(n:Nat):Int:=ZB (fun m=>dC (m.name=s)) (d.msgs.take n)
def Yr(m:Msg)(s:Str)(n:Nat):Int:=ZB (fun f=>dC (f.name=s)) (m.fields.take n)
def KV(f:Fld):Bool:=dC (1≤f.kind)&&dC (f.kind≤3)
def Wz(f:Fld):Int×Int:=if f.kind=2 then (f.low,f.low) else (f.low,f.high)
def Zij(a b:Int):Bool:=dC (0≤a)&&(dC (a≤b)&&dC (b<34359738368))
theorem Qy(d:Dfn)(s:Str)(sm:Nat)(hs:sm≤d.msgs.length):ZA Zyg W5.id [.agg d.cells,.str s,.int .i64 sm] (.int .i64 (Z5 d s sm)):=by
 refine Kn W5.ok fun hwf F st hret=>?_
 have hw:=(ZgW (s:=d) (hwf _ (by simp))).nmsgs
 unfold big at hw
 clear hwf
 refine rx (nd2 @eQ3 (nd2 @eQ5 @eQ1)) ?_
 refine rg ?_
 refine Zh (fr (sm) (fun i Q=>i≤sm→(∀j,j<i→dC ((d.msgs.getD j dE).name=s)=false)→Q [(1,.d (.str s)),(2,.d (.int .i64 sm)),(3,.loc 3 0),(7,.d (.int .i64 i))] [(3,d.cells)] st) (fun n ih_key=>?_) fun key=>?_)
 ·intro i hn hi hno
  refine rx (nd2 @eQ3 (nd2 @eQ5 @eQ1)) ?_
  refine cd (fun hd=>?_) (fun hd=>?_)
  ·simp at hd
   refine rx (nd2 @eQ2 (nd2 @eQ3 (nd2 @eQ5 @eQ1))) ?_
   refine aa ?_
   refine cd (fun h5=>?_) (fun h5=>?_)
   ·refine rg ?_
    refine ri hret ?_
    exact(Zg0 hs hd h5 hno).symm
   ·refine rg ?_
    refine aa ?_
    have hno2:∀j,j<i+1→dC ((d.msgs.getD j dE).name=s)=false:=by
     intro j hj
     rcases Nat.lt_succ_iff_lt_or_eq.1 hj with hj|rfl
     ·exact hno j hj
     ·exact h5
    refine Zf ?_
    exact ih_key ((sm)-(i+1)) (by omega) (i+1) rfl (by omega) hno2
  ·simp at hd
   refine rg ?_
   refine ri hret ?_
   exact(Zfy hs (fun j hj=>hno j (by omega))).symm
 exact key _ 0 rfl (by omega) (fun j h=>by omega)
theorem Zbc(m:Msg)(s:Str)(sm:Nat)(hs:sm≤m.fields.length):ZA Zyg Wy.id [.agg m.cells,.str s,.int .i64 sm] (.int .i64 (Yr m s sm)):=by
 refine Kn Wy.ok fun hwf F st hret=>?_
 have hw:=(ZfG (s:=m) (hwf _ (by simp))).nfields
 unfold big at hw
 clear hwf
 refine rx (nd2 @eQ2 (nd2 @eQ4 @eQ1)) ?_
 refine rg ?_
 refine Zh (fr (sm) (fun i Q=>i≤sm→(∀j,j<i→dC ((m.fields.getD j dE).name=s)=false)→Q [(1,.d (.str s)),(2,.d (.int .i64 sm)),(3,.loc 3 0),(7,.d (.int .i64 i))] [(3,m.cells)] st) (fun n ih_key=>?_) fun key=>?_)
 ·intro i hn hi hno
  refine rx (nd2 @eQ2 (nd2 @eQ4 @eQ1)) ?_
  refine cd (fun hd=>?_) (fun hd=>?_)
  ·simp at hd
   refine rx (nd2 @eQ0 (nd2 @eQ2 (nd2 @eQ4 @eQ1))) ?_
   refine aa ?_
   refine cd (fun h5=>?_) (fun h5=>?_)
   ·refine rg ?_
    refine ri hret ?_
    exact(Zg0 hs hd h5 hno).symm
   ·refine rg ?_
    refine aa ?_
    have hno2:∀j,j<i+1→dC ((m.fields.getD j dE).name=s)=false:=by
     intro j hj
     rcases Nat.lt_succ_iff_lt_or_eq.1 hj with hj|rfl
     ·exact hno j hj
     ·exact h5
    refine Zf ?_
    exact ih_key ((sm)-(i+1)) (by omega) (i+1) rfl (by omega) hno2
  ·simp at hd
   refine rg ?_
   refine ri hret ?_
   exact(Zfy hs (fun j hj=>hno j (by omega))).symm
 exact key _ 0 rfl (by omega) (fun j h=>by omega)
theorem Zir(f:Fld):ZA Zyg Qn.id [.agg f.cells] (.bool (KV f)):=by
 refine ZP Qn.ok fun F st hret=>?_
 refine rx @eQ0 ?_
 refine rg ?_
 refine rb hret ?_
 rfl
theorem ZfN(f:Fld):ZA Zyg Qb.id [.agg f.cells] (.tup [.int .i64 (Wz f).1,.int .i64 (Wz f).2]):=by
 refine ZP Qb.ok fun F st hret=>?_
 refine rx @eQ0 ?_
 refine rg ?_
 refine cd (fun hc=>?_) (fun hc=>?_)
 ·refine rg ?_
  refine rt hret ?_
  simp at hc;simp[Wz,hc]
 ·refine rg ?_
  refine rt hret ?_
  simp at hc;simp[Wz,hc]
theorem Zrk(a b:Int):ZA Zyg Jn.id [.int .i64 a,.int .i64 b] (.bool (Zij a b)):=by
 refine ZP Jn.ok fun F st hret=>?_
 refine rg ?_
 refine rg ?_
 refine rb hret ?_
 simp[Zij,Bool.and_assoc]
def Ztu:List Str:=[[],[98,108,120,104],[98,108,120],[111,120,104],[115],[120,104],[111,104],[102,115],[102],[116,99],[98],[114,107],[102,115,121]]
def Zfc(k:Int):Str:=Ztu.getD k.toNat []
theorem Zq7{k:Int}(h0:0≤k)(h1:k<13):Wd [D.str []] ([0,1,2,3,4,5,6,7,8,9,10,11,12].zip [D.str [],.str [98,108,120,104],.str [98,108,120],.str [111,120,104],.str [115],.str [120,104],.str [111,104],.str [102,115],.str [102],.str [116,99],.str [98],.str [114,107],.str [102,115,121]]) k.toNat=[.str (Zfc k)]:=by
 unfold Zfc
 have h:k.toNat<13:=by omega
 generalize k.toNat=n at h
 match n,h with
 |0,_|1,_|2,_|3,_|4,_|5,_|6,_|7,_|8,_|9,_|10,_|11,_|12,_=>rfl
 |n+13,h=>omega
theorem Zrj(k:Int)(h0:0≤k)(h1:k<13):ZA Zyg Jm.id [.int .i64 k] (.str (Zfc k)):=by
 refine ZP Jm.ok fun F st hret=>?_
 have hl:=Zq7 h0 h1
 refine rg ?_
 refine rx @hl ?_
 refine aa ?_
 refine rs hret ?_
 rfl
def JX(s:Str)(c:UInt8):Bool:=dC (c∈s)
theorem Zvz{s:Str}{i:Nat}(h:i<s.length):s.getD i 0∈s:=by simp[Zyx,h]
theorem Jg(s:Str)(c:UInt8):ZA Zyg KH.id [.str s,.int .u8 (c.toNat:Int)] (.bool (JX s c)):=by
 refine Kn KH.ok fun hwf F st hret=>?_
 have hw:=(hwf (.str s) (by simp)).str_inv
 unfold big at hw
 clear hwf
 refine rg ?_
 refine rg ?_
 refine Zh (fr (s.length) (fun i Q=>i≤s.length→(∀j,j<i→s.getD j 0≠c)→Q [(0,.d (.str s)),(1,.d (.int .u8 (c.toNat:Int))),(5,.d (.int .i64 i))] [] st) (fun n ih_key=>?_) fun key=>?_)
 ·intro i hn hi hno
  refine rg ?_
  refine cd (fun hd=>?_) (fun hd=>?_)
  ·simp at hd
   refine rg ?_
   refine aa ?_
   have hcc:=UInt8.toNat_inj (a:=s.getD i 0) (b:=c)
   refine cd (fun h5=>?_) (fun h5=>?_)
   ·simp only[decide_eq_true_eq]at h5
    have h6:s.getD i 0=c:=hcc.1 (by omega)
    refine rg ?_
    refine rb hret ?_
    simp only[JX];exact(decide_eq_true (h6▸Zvz hd)).symm
   ·simp only[decide_eq_false_iff_not]at h5
    refine rg ?_
    refine aa ?_
    have hno2:∀j,j<i+1→s.getD j 0≠c:=by
     intro j hj
     rcases Nat.lt_succ_iff_lt_or_eq.1 hj with hj|rfl
     ·exact hno j hj
     ·intro h;rw[h]at h5;exact h5 rfl
    refine Zf ?_
    exact ih_key ((s.length)-(i+1)) (by omega) (i+1) rfl (by omega) hno2
  ·simp at hd
   refine rg ?_
   refine rb hret ?_
   simp only[JX];refine(decide_eq_false fun h=>?_).symm;obtain⟨j,hj,he⟩:=ZyC h;exact hno j (by omega) (by simp[Zyx,hj,he])
 exact key _ 0 rfl (by omega) (fun j h=>by omega)
def zrA(u:Str)(f:Fld):Bool:=(JX u 98 ||decide (f.bits=0))&&((JX u 108||!f.little)&&((JX u 111||!f.loose)&&((JX u 120 ||decide (f.low=0))&&(JX u 104 ||decide (f.high=0)))))
def zrB(u:Str)(f:Fld):Bool:=(JX u 115 ||(dC (f.size.base=0)&&dC (f.size.terms.length=0)))&&((JX u 102 ||decide (f.of=[]))&&((JX u 116 ||decide (f.tag=[]))&&(JX u 114 ||decide (f.from_=[]))))
def zrC(u:Str)(f:Fld):Bool:=(JX u 99 ||decide (f.cases.length=0))&&((JX u 107 ||decide (f.check=0))&&(JX u 121 ||decide (f.key=0)))
def Zeo(f:Fld):Bool:=zrA (Zfc f.kind) f&&(zrB (Zfc f.kind) f&&zrC (Zfc f.kind) f)
theorem ZuS(u:Str)(f:Fld):zrA u f=!(!JX u 98&&!dC (f.bits=0)||!JX u 108&&f.little||!JX u 111&&f.loose||!JX u 120&&!dC (f.low=0)||!JX u 104&&!dC (f.high=0)):=by
 simp[zrA,Bool.and_assoc]
theorem ZuT(u:Str)(f:Fld):zrB u f=!(!JX u 115&&(!dC (f.size.base=0)||!dC ((f.size.terms.length:Int)=0))||!JX u 102&&!dC (f.of=[])||!JX u 116&&!dC (f.tag=[])||!JX u 114&&!dC (f.from_=[])):=by
 simp[zrB,Bool.and_assoc]
theorem Zrl(f:Fld)(h0:0≤f.kind)(h1:f.kind<13):ZA Zyg Kq.id [.agg f.cells] (.bool (Zeo f)):=by
 refine ZP Kq.ok fun F st hret=>?_
 refine rx (nd2 @eQ0 (nd2 @eQ6 (nd2 @K3.eq_1 @eQ1))) ?_
 refine rg ?_
 refine cl (Zrj f.kind h0 h1) ?_
 refine rg ?_
 refine YF rfl rfl rfl rfl rfl (by trivial) (by trivial) (by exact Jg _ 98) (Za ?_)
 simp only[Eqs,reduceIte,Zye]
 refine Kt rfl rfl rfl rfl rfl (fun hcg=>⟨by first|trivial|(simpa[Qa]using hcg),trivial,Jg _ 108⟩) (Za ?_)
 simp only[Eqs,reduceIte,Zye]
 refine Kt rfl rfl rfl rfl rfl (fun hcg=>⟨by first|trivial|(simpa[Qa]using hcg),trivial,Jg _ 111⟩) (Za ?_)
 simp only[Eqs,reduceIte,Zye]
 refine Kt rfl rfl rfl rfl rfl (fun hcg=>⟨by first|trivial|(simpa[Qa]using hcg),trivial,Jg _ 120⟩) (Za ?_)
 simp only[Eqs,reduceIte,Zye]
 refine Kt rfl rfl rfl rfl rfl (fun hcg=>⟨by first|trivial|(simpa[Qa]using hcg),trivial,Jg _ 104⟩) (Za ?_)
 simp only[Eqs,reduceIte,Zye]
 generalize hu:Zfc f.kind=u
 refine cd (fun hc=>?_) (fun hc=>?_)
 ·have hz:zrA u f=false:=by rw[ZuS,hc];rfl
  refine rg ?_
  refine rb hret ?_
  simp[Zeo,hu,hz]
 ·have hz:zrA u f=true:=by rw[ZuS,hc];rfl
  clear hc
  refine rg ?_
  refine YF rfl rfl rfl rfl rfl (by trivial) (by trivial) (by exact Jg _ 115) (Za ?_)
  simp only[Eqs,reduceIte,Zye,ZyB]
  refine Kt rfl rfl rfl rfl rfl (fun hcg=>⟨by first|trivial|(simpa[Qa]using hcg),trivial,Jg _ 102⟩) (Za ?_)
  simp only[Eqs,reduceIte,Zye]
  refine Kt rfl rfl rfl rfl rfl (fun hcg=>⟨by first|trivial|(simpa[Qa]using hcg),trivial,Jg _ 116⟩) (Za ?_)
  simp only[Eqs,reduceIte,Zye]
  refine Kt rfl rfl rfl rfl rfl (fun hcg=>⟨by first|trivial|(simpa[Qa]using hcg),trivial,Jg _ 114⟩) (Za ?_)
  simp only[Eqs,reduceIte,Zye]
  refine cd (fun hd=>?_) (fun hd=>?_)
  ·have hz2:zrB u f=false:=by rw[ZuT,hd];rfl
   refine rg ?_
   refine rb hret ?_
   simp[Zeo,hu,hz2]
  ·have hz2:zrB u f=true:=by rw[ZuT,hd];rfl
   clear hd
   refine rg ?_
   refine YF rfl rfl rfl rfl rfl (by trivial) (by trivial) (by exact Jg _ 99) (Za ?_)
   simp only[Eqs,reduceIte,Zye]
   refine Kt rfl rfl rfl rfl rfl (fun hcg=>⟨by first|trivial|(simpa[Qa]using hcg),trivial,Jg _ 107⟩) (Za ?_)
   simp only[Eqs,reduceIte,Zye]
   refine Kt rfl rfl rfl rfl rfl (fun hcg=>⟨by first|trivial|(simpa[Qa]using hcg),trivial,Jg _ 121⟩) (Za ?_)
   simp only[Eqs,reduceIte,Zye]
   refine rb hret ?_
   simp only[Zeo,hu,hz,hz2];simp[zrC,Bool.and_assoc]
def ZaC(f:Fld):Bool:=dC (f.bits<1) ||(dC (32<f.bits) ||(f.little&&(!dC (f.bits=16)&&(!dC (f.bits=24)&&!dC (f.bits=32)))))
def ZjJ(f:Fld):Int:=if f.kind=2 then f.low else f.high
def Zcc(f:Fld):Bool:=dC (f.low<0) ||(dC (ZjJ f<f.low) ||decide (2 ^ f.bits.toNat≤ZjJ f))
def JF(f:Fld):Int:=if ZaC f then 6 else if Zcc f then 7 else 0
theorem ZvT{b:Int}(h0:0≤b)(h1:b≤32):ZjA .i64 1 b=2 ^ b.toNat:=by
 unfold ZjA
 rw[show Nat.min b.toNat IntKind.i64.bits=b.toNat from Nat.min_eq_left (show b.toNat≤IntKind.i64.bits by simp[IntKind.bits];omega)]
 simp
theorem Zdg{b:Int}(h0:0≤b)(h1:b≤32):(0:Int)<2 ^ b.toNat∧(2:Int) ^ b.toNat≤4294967296:=by
 have h:=Nat.pow_le_pow_right (n:=2) (by omega) (show b.toNat≤32 by omega)
 have h2:=Nat.two_pow_pos b.toNat
 rw[show(2:Int) ^ b.toNat=((2 ^ b.toNat:Nat):Int) from(Int.natCast_pow 2 b.toNat).symm]
 generalize 2 ^ b.toNat=x at h h2⊢
 omega
theorem Zit(f:Fld):ZA Zyg Y1.id [.agg f.cells] (.int .i64 (JF f)):=by
 refine ZP Y1.ok fun F st hret=>?_
 refine rx (nd2 @eQ0 (nd2 @eQ6 (nd2 @K3.eq_1 @eQ1))) ?_
 refine rg ?_
 refine cd (fun hc=>?_) (fun hc=>?_)
 ·have hb:ZaC f=true:=by rw[←hc];simp[ZaC,Bool.or_assoc,Bool.and_assoc]
  refine rg ?_
  refine ri hret ?_
  simp[JF,hb]
 ·have hb:ZaC f=false:=by rw[←hc];simp[ZaC,Bool.or_assoc,Bool.and_assoc]
  have hb2:=hb
  simp[ZaC]at hb2
  have hsh:=ZvT (b:=f.bits) (by omega) (by omega)
  have h32:=Zdg (b:=f.bits) (by omega) (by omega)
  have hbits:1≤f.bits∧f.bits≤32:=by omega
  clear hc hb2
  refine rg ?_
  refine rg ?_
  refine cd (fun h2=>?_) (fun h2=>?_)
  ·have ht:ZjJ f=f.low:=by simp at h2;simp[ZjJ,h2]
   refine rg ?_
   refine rx @hsh ?_
   refine Zyf (fun _=>by omega) ?_
   refine cd (fun h3=>?_) (fun h3=>?_)
   ·have hn:Zcc f=true:=by rw[←h3];simp[Zcc,ht]
    refine rg ?_
    refine ri hret ?_
    simp[JF,hb,hn]
   ·have hn:Zcc f=false:=by rw[←h3];simp[Zcc,ht]
    refine rg ?_
    refine ri hret ?_
    simp[JF,hb,hn]
  ·have ht:ZjJ f=f.high:=by simp at h2;simp[ZjJ,h2]
   refine rx @hsh ?_
   refine Zyf (fun _=>by omega) ?_
   refine cd (fun h3=>?_) (fun h3=>?_)
   ·have hn:Zcc f=true:=by rw[←h3];simp[Zcc,ht,Bool.or_assoc]
    refine rg ?_
    refine ri hret ?_
    simp[JF,hb,hn]
   ·have hn:Zcc f=false:=by rw[←h3];simp[Zcc,ht,Bool.or_assoc]
    refine rg ?_
    refine ri hret ?_
    simp[JF,hb,hn]
def ZnF(m:Msg)(s:Str)(n:Nat):Bool:=(m.fields.take n).any fun f=>dC (f.kind=9)&&dC (f.tag=s)
theorem Zm3{α:Type}[Inhabited α]{p:α→Bool}{l:List α}{n:Nat}(hn:n≤l.length)(h:∀j,j<n→p (l.getD j dE)=false):(l.take n).any p=false:=by
 rw[List.any_eq_false];intro x hx
 obtain⟨j,hj,rfl⟩:=(Zbx hn).1 hx
 rw[h j hj];simp
theorem ZoB{α:Type}[Inhabited α]{p:α→Bool}{l:List α}{n i:Nat}(hn:n≤l.length)(hi:i<n)(h:p (l.getD i dE)=true):(l.take n).any p=true :=
 List.any_eq_true.2 ⟨_,(Zbx hn).2 ⟨i,hi,rfl⟩,h⟩
theorem ZoJ(m:Msg)(s:Str)(sm:Nat)(hs:sm≤m.fields.length):ZA Zyg Wh.id [.agg m.cells,.str s,.int .i64 sm] (.bool (ZnF m s sm)):=by
 refine Kn Wh.ok fun hwf F st hret=>?_
 have hw:=(ZfG (s:=m) (hwf _ (by simp))).nfields
 unfold big at hw
 clear hwf
 refine rx (nd2 @eQ2 (nd2 @eQ4 @eQ1)) ?_
 refine rg ?_
 refine Zh (fr (sm) (fun i Q=>i≤sm→(∀j,j<i→(dC ((m.fields.getD j dE).kind=9)&&dC ((m.fields.getD j dE).tag=s))=false)→Q [(1,.d (.str s)),(2,.d (.int .i64 sm)),(3,.loc 3 0),(7,.d (.int .i64 i))] [(3,m.cells)] st) (fun n ih_key=>?_) fun key=>?_)
 ·intro i hn hi hno
  refine rx (nd2 @eQ2 (nd2 @eQ4 @eQ1)) ?_
  refine cd (fun hd=>?_) (fun hd=>?_)
  ·simp at hd
   refine rx (nd2 @eQ0 (nd2 @eQ2 (nd2 @eQ4 @eQ1))) ?_
   refine aa ?_
   refine cd (fun h5=>?_) (fun h5=>?_)
   ·refine rg ?_
    refine rb hret ?_
    exact(ZoB hs hd h5).symm
   ·refine rg ?_
    refine aa ?_
    have hno2:∀j,j<i+1→(dC ((m.fields.getD j dE).kind=9)&&dC ((m.fields.getD j dE).tag=s))=false:=by
     intro j hj
     rcases Nat.lt_succ_iff_lt_or_eq.1 hj with hj|rfl
     ·exact hno j hj
     ·exact h5
    refine Zf ?_
    exact ih_key ((sm)-(i+1)) (by omega) (i+1) rfl (by omega) hno2
  ·simp at hd
   refine rg ?_
   refine rb hret ?_
   exact(Zm3 hs (fun j hj=>hno j (by omega))).symm
 exact key _ 0 rfl (by omega) (fun j h=>by omega)
def Za5(d:Dfn)(at_:Nat)(high:Int):Int→List QB→Int
 |_,[]=>0
 |low,c::r=>if dC (c.low<low) ||(dC (c.high<c.low) ||decide (high<c.high)) then 7 else if Z5 d c.of at_<0 then 8 else Za5 d at_ high (c.high+1) r
def Zdq(d:Dfn)(at_:Nat)(f:Fld)(low high:Int):Int:=if dC (f.cases.length<1) ||decide (40<f.cases.length) then 3 else Za5 d at_ high low f.cases
theorem ZqA(d:Dfn)(at_:Nat)(f:Fld)(low high:Int)(ha:at_≤d.msgs.length):ZA Zyg YM.id [.agg d.cells,.int .i64 at_,.agg f.cells,.int .i64 low,.int .i64 high] (.int .i64 (Zdq d at_ f low high)):=by
 refine ZP YM.ok fun F st hret=>?_
 refine rx (nd2 @eQ0 (nd2 @eQ3 (nd2 @eQ6 (nd2 @K3.eq_1 @eQ1)))) ?_
 refine rg ?_
 refine cd (fun hc=>?_) (fun hc=>?_)
 ·refine rg ?_
  have hcc:(dC (f.cases.length<1) ||decide (40<f.cases.length))=true:=by
   rw[Zyu,decide_eq_true_eq,decide_eq_true_eq]at hc⊢;omega
  refine ri hret ?_
  unfold Zdq;rw[if_pos hcc]
 ·rw[Bool.or_eq_false_iff,decide_eq_false_iff_not,decide_eq_false_iff_not]at hc
  have hcc:¬(dC (f.cases.length<1) ||decide (40<f.cases.length))=true:=by
   rw[Zyu,decide_eq_true_eq,decide_eq_true_eq];omega
  have he:Zdq d at_ f low high=Za5 d at_ high low (f.cases.drop 0):=by unfold Zdq;rw[if_neg hcc];rfl
  have hlen:f.cases.length≤40:=by omega
  clear hc
  refine rg ?_
  refine Zh (fr (f.cases.length) (fun i Q=>∀lo,i≤f.cases.length→Zdq d at_ f low high=Za5 d at_ high lo (f.cases.drop i)→(low≤lo∧(i=0→lo=low)∧(0<i→lo=(f.cases.getD (i-1) dE).high+1))→Q [(1,.d (.int .i64 at_)),(3,.d (.int .i64 low)),(4,.d (.int .i64 high)),(5,.loc 5 0),(7,.loc 7 0),(11,.d (.int .i64 i))] [(5,d.cells),(7,f.cells)] st) (fun n ih_key=>?_) fun key=>?_)
  ·intro i hn lo hi hcs hlo
   refine rx (nd2 @eQ0 (nd2 @eQ3 (nd2 @eQ6 (nd2 @K3.eq_1 @eQ1)))) ?_
   refine cd (fun hd=>?_) (fun hd=>?_)
   ·simp at hd
    rw[ZaK hd,Za5]at hcs
    refine rx (nd2 @eQ0 (nd2 @eQ3 (nd2 @eQ9 (nd2 @eQ6 (nd2 @K3.eq_1 @eQ1))))) ?_
    refine aa ?_
    refine rx (nd2 @eQ0 (nd2 @eQ3 (nd2 @eQ9 (nd2 @eQ6 (nd2 @K3.eq_1 @eQ1))))) ?_
    rw[show((i:Int)-1).toNat=i-1 by omega]
    refine Zyf (fun h=>by omega) (Zyf (fun h=>by simp at h;omega) ?_)
    obtain⟨hlo1,hlo2,hlo3⟩:=hlo
    have hcond:(dC ((f.cases.getD i dE).low<low) ||decide ((f.cases.getD i dE).high<(f.cases.getD i dE).low) ||decide (high<(f.cases.getD i dE).high) ||decide (0<(i:Int))&&dC ((f.cases.getD i dE).low≤(f.cases.getD (i-1) dE).high))=(dC ((f.cases.getD i dE).low<lo) ||(dC ((f.cases.getD i dE).high<(f.cases.getD i dE).low) ||decide (high<(f.cases.getD i dE).high))):=by
     rw[Bool.eq_iff_iff];simp only[Zyu,Zyk,decide_eq_true_eq]
     rcases Nat.eq_zero_or_pos i with h|h
     ·have:=hlo2 h;omega
     ·have:=hlo3 h;omega
    rw[hcond]
    generalize hx:f.cases.getD i dE=x at *
    refine cd (fun h4=>?_) (fun h4=>?_)
    ·rw[if_pos h4]at hcs
     refine rg ?_
     refine ri hret ?_
     exact hcs.symm
    ·rw[h4,if_neg (by decide)]at hcs
     refine rx @eQ3 ?_
     refine YF rfl rfl rfl rfl rfl (by trivial) (by trivial) (by exact Qy d x.of at_ ha) (Za ?_)
     simp only[Eqs,reduceIte,Zye]
     refine cd (fun h5=>?_) (fun h5=>?_)
     ·rw[if_pos (of_decide_eq_true h5)]at hcs
      refine rg ?_
      refine ri hret ?_
      exact hcs.symm
     ·rw[if_neg (of_decide_eq_false h5)]at hcs
      simp at h4
      refine rg ?_
      refine aa ?_
      refine Zf ?_
      exact ih_key ((f.cases.length)-(i+1)) (by omega) (i+1) rfl _ (by omega) hcs ⟨by omega,by omega,fun _=>by rw[show i+1-1=i by omega,hx]⟩
   ·simp at hd
    rw[List.drop_of_length_le (by omega),Za5]at hcs
    refine rg ?_
    refine ri hret ?_
    exact hcs.symm
  exact key _ 0 rfl low (by omega) he ⟨by omega,fun _=>rfl,fun h=>by omega⟩
def YH(fs:List Fld):QQ:=fun s=>if ZB (fun f=>dC (f.name=s)) fs<0 then nO else if KV (fs.getD (ZB (fun f=>dC (f.name=s)) fs).toNat dE) then sO (Wz (fs.getD (ZB (fun f=>dC (f.name=s)) fs).toNat dE)) else nO
def Zbz(fs:List Fld)(s:Qr):Int:=if Wm s=false then 9 else if s.terms.any (W6 (YH fs)) then 8 else if !dC ((WU s (YH fs)).2.2=0) ||(dC ((WU s (YH fs)).1<0) ||decide (1048576<(WU s (YH fs)).2.1)) then 9 else 0
theorem ZnV{α:Type}{p q:α→Bool}{l:List α}(h:∀x∈l,p x=q x):l.any p=l.any q:=by
 induction l with
 |nil=>rfl
 |cons x r ih=>simp only[List.any_cons,h x (by simp),ih fun y hy=>h y (by simp[hy])]
theorem Zue{look look':QQ}{l:List YN}(h:∀t∈l,look t.field=look' t.field):loS look l=loS look' l∧hiS look l=hiS look' l:=by
 induction l with
 |nil=>exact⟨rfl,rfl⟩
 |cons x r ih =>
  have h1:=ih fun y hy=>h y (by simp[hy])
  have h2:=h x (by simp)
  simp only[loS,hiS,loT,hiT,Q4,h1.1,h1.2,h2,and_self]
theorem Zmg{s:Qr}{look look':QQ}(h:∀t∈s.terms,look t.field=look' t.field):WU s look=WU s look':=by
 have h1:=ZnV (p:=Qv look) (q:=Qv look') (l:=s.terms) fun t ht=>by simp only[Qv,h t ht]
 have h2:=ZnV (p:=W6 look) (q:=W6 look') (l:=s.terms) fun t ht=>by simp only[W6,h t ht]
 have h3:=Zue h
 unfold WU Zah;rw[h1,h2,h3.1,h3.2]
theorem Zuc{s:Str}{l:List YN}{g:Str→Int×Int}(h:∃t∈l,t.field=s):Qe (l.map fun t=>⟨t.field,(g t.field).1,(g t.field).2⟩) s=sO (g s):=by
 have key:0≤Kg s (l.map fun t=>⟨t.field,(g t.field).1,(g t.field).2⟩)∧(((l.map fun t=>(⟨t.field,(g t.field).1,(g t.field).2⟩:Ran)).getD (Kg s (l.map fun t=>⟨t.field,(g t.field).1,(g t.field).2⟩)).toNat dE).low,((l.map fun t=>(⟨t.field,(g t.field).1,(g t.field).2⟩:Ran)).getD (Kg s (l.map fun t=>⟨t.field,(g t.field).1,(g t.field).2⟩)).toNat dE).high)=g s:=by
  induction l with
  |nil=>simp at h
  |cons x r ih =>
   simp only[Zyp,Kg]
   by_cases hr:0≤Kg s (r.map fun t=>⟨t.field,(g t.field).1,(g t.field).2⟩)
   ·have hex:∃t∈r,t.field=s:=by
     apply Classical.byContradiction
     intro hno
     have:Kg s (r.map fun t=>⟨t.field,(g t.field).1,(g t.field).2⟩)=-1:=by
      clear ih h hr
      induction r with
      |nil=>rfl
      |cons y q ih2 =>
       have h1:=ih2 fun⟨t,ht,he⟩=>hno ⟨t,by simp[ht],he⟩
       have h2:y.field≠s:=fun he=>hno ⟨y,by simp,he⟩
       simp[Kg,h1,h2]
     omega
    have h1:=ih hex
    rw[if_pos hr]
    refine⟨by omega,?_⟩
    rw[show((Kg s (r.map fun t=>⟨t.field,(g t.field).1,(g t.field).2⟩))+1).toNat=(Kg s (r.map fun t=>⟨t.field,(g t.field).1,(g t.field).2⟩)).toNat+1 by omega]
    simpa using h1.2
   ·have hx:x.field=s:=by
     apply Classical.byContradiction
     intro hno
     obtain⟨t,ht,he⟩:=h
     rcases List.mem_cons.1 ht with rfl|ht
     ·exact hno he
     ·exact hr (ih ⟨t,ht,he⟩).1
    rw[if_neg hr,if_pos hx]
    subst hx
    exact⟨by omega,by simp⟩
 unfold Qe
 rw[if_neg (by omega),key.2]
def ZcT(look:QQ)(t:YN):Ran:=⟨t.field,(Q4 look t).1,(Q4 look t).2⟩
theorem ZvQ{look:QQ}{l:List YN}{t:YN}(ht:t∈l)(hs:W6 look t=false):Qe (l.map (ZcT look)) t.field=look t.field:=by
 have:=Zuc (s:=t.field) (l:=l) (g:=fun s=>(look s).getD (0,0)) ⟨t,ht,rfl⟩
 rw[show(ZcT look)=fun t=>⟨t.field,((look t.field).getD (0,0)).1,((look t.field).getD (0,0)).2⟩ from rfl,this]
 simp only[W6]at hs
 cases h:look t.field with
 |none=>rw[h]at hs;simp at hs
 |some r=>rfl
theorem Qt(m:Msg)(i:Nat)(hi:i<m.fields.length):ZA Zyg Yi.id [.agg m.cells,.int .i64 i] (.int .i64 (Zbz (m.fields.take i) (m.fields.getD i dE).size)):=by
 refine Kn Yi.ok fun hwf F st hret=>?_
 have hw:=(ZfG (s:=m) (hwf _ (by simp))).nfields
 unfold big at hw
 clear hwf
 generalize hs:(m.fields.getD i dE).size=s at *
 refine rx (nd2 @eQ2 (nd2 @eQ4 @eQ1)) ?_
 refine rx (nd2 @eQ2 (nd2 @eQ0 (nd2 @eQ4 (nd2 @eQ1 @hs)))) ?_
 refine aa ?_
 refine rg ?_
 refine cl (Zje s) ?_
 refine cd (fun hc=>?_) (fun hc=>?_)
 ·simp at hc
  refine rg ?_
  refine ri hret ?_
  simp[Zbz,hc]
 ·simp at hc
  have hv:=ZlI.of hc
  have hlen:=hv.len
  refine rg ?_
  refine rg ?_
  refine kl (st) [(1,.d (.int .i64 i)),(2,.loc 2 0),(5,.loc 5 0),(6,.d (.sl .full 0 3 fun _=>[])),(7,.d (.int .i64 (0:Nat)))] [(2,m.cells),(5,s.cells)] (.skip (.skip (.skip (.cons (.d (JL (by simp))) (.skip .nil))))) (ZaV _) ?_
  refine Zh (fr (s.terms.length) (fun k Q=>∀tk row,tk.okIn st→We Ran.cells row ((s.terms.take k).map (ZcT (YH (m.fields.take i))))→k≤s.terms.length→(s.terms.take k).any (W6 (YH (m.fields.take i)))=false→Q [(1,.d (.int .i64 i)),(2,.loc 2 0),(5,.loc 5 0),(6,.d (.sl tk k 3 row)),(7,.d (.int .i64 k))] [(2,m.cells),(5,s.cells)] (st.own tk (k*3))) (fun n ih_key=>?_) fun key=>?_)
  ·intro k hn tk row htk hrow hk hno
   refine rx (nd2 @eQ7 (nd2 @eQ6 @eQ1)) ?_
   refine cd (fun hd=>?_) (fun hd=>?_)
   ·simp at hd
    have hns:=Zhu (p:=W6 (YH (m.fields.take i))) hd
    generalize hx:s.terms.getD k dE=x at *
    refine rx (nd2 @eQ2 (nd2 @eQ7 (nd2 @eQ8 (nd2 @eQ6 (nd2 @eQ1 @hx))))) ?_
    refine aa ?_
    refine Zdh rfl rfl rfl rfl rfl (by trivial) (by trivial) (by exact Zbc m x.field i (by omega)) (Ql ?_)
    simp only[Eqs,reduceIte,Zye]
    have hge:=Zbi (fun f=>dC (f.name=x.field)) (m.fields.take i)
    have hlt:=QA (fun f=>dC (f.name=x.field)) (m.fields.take i)
    rw[Zyw]at hlt
    have hlk:YH (m.fields.take i) x.field=if Yr m x.field i<0 then nO else if KV (m.fields.getD (Yr m x.field i).toNat dE) then sO (Wz (m.fields.getD (Yr m x.field i).toNat dE)) else nO:=by
     unfold YH Yr
     by_cases h:ZB (fun f=>dC (f.name=x.field)) (m.fields.take i)<0
     ·rw[if_pos h,if_pos h]
     ·rw[if_neg h,if_neg h,Zau (by omega)]
    rw[show ZB (fun f=>dC (f.name=x.field)) (m.fields.take i)=Yr m x.field i from rfl]at hge hlt
    generalize Yr m x.field i=q at *
    refine rx (nd2 @eQ2 (nd2 @eQ0 (nd2 @eQ4 @eQ1))) ?_
    refine aa ?_
    refine Kt rfl rfl rfl rfl rfl (fun hcg=>⟨by first|trivial|(simpa[Qa]using hcg),trivial,Zir (m.fields.getD q.toNat dE)⟩) (Za ?_)
    simp only[Eqs,reduceIte,Zye]
    refine aa ?_
    refine cd (fun h5=>?_) (fun h5=>?_)
    ·have hnn:W6 (YH (m.fields.take i)) x=true:=by
      unfold W6;rw[hlk]
      by_cases hq:q<0
      ·rw[if_pos hq];rfl
      ·rw[decide_eq_false hq,Bool.false_or,Bool.not_eq_true']at h5;rw[if_neg hq,h5];rfl
     have:=Zpp (p:=W6 (YH (m.fields.take i))) hd (by rw[hx];exact hnn)
     refine rg ?_
     refine ri hret ?_
     unfold Zbz;rw[hc,this];rfl
    ·rw[Bool.or_eq_false_iff,decide_eq_false_iff_not]at h5
     obtain⟨hq,hnum⟩:=h5
     rw[Bool.not_eq_false']at hnum
     rw[if_neg hq,if_pos hnum]at hlk
     have hnn:W6 (YH (m.fields.take i)) x=false:=by unfold W6;rw[hlk];rfl
     rw[hnn,Bool.or_false]at hns
     refine rx (nd2 @eQ2 (nd2 @eQ0 (nd2 @eQ4 @eQ1))) ?_
     refine aa ?_
     refine cl (ZfN (m.fields.getD q.toNat dE)) ?_
     refine rx (nd2 @eQ7 (nd2 @eQ8 (nd2 @eQ6 (nd2 @eQ1 @hx)))) ?_
     refine aa ?_
     refine ZbX (st) (tk) rfl rfl rfl rfl rfl rfl (by trivial) (by trivial) rfl (by first|trivial|assumption) (by omega) (by (unfold big;omega)) fun t1 ht1=>Za ?_
     simp only[Eqs,reduceIte,Zye]
     refine rg ?_
     refine aa ?_
     have hmk:ZcT (YH (m.fields.take i)) x=⟨x.field,(Wz (m.fields.getD q.toNat dE)).1,(Wz (m.fields.getD q.toNat dE)).2⟩:=by unfold ZcT Q4;rw[hlk];rfl
     have hrow2:=hrow.snoc (x:=ZcT (YH (m.fields.take i)) x) (row2:=Wd [.str [],.int .i64 0,.int .i64 0] ([0].zip [.agg [.str x.field,.int .i64 (Wz (m.fields.getD q.toNat dE)).1,.int .i64 (Wz (m.fields.getD q.toNat dE)).2]])) (by rw[hmk];rfl) (show k=_ by simp;omega)
     rw[show(s.terms.take k).map (ZcT (YH (m.fields.take i)))++[ZcT (YH (m.fields.take i)) x]=(s.terms.take (k+1)).map (ZcT (YH (m.fields.take i))) by rw[WF hd,hx];simp]at hrow2
     refine Zf ?_
     exact ih_key ((s.terms.length)-(k+1)) (by omega) (k+1) rfl t1 _ ht1 hrow2 (by omega) (by rw[hns];exact hno)
   ·simp at hd
    obtain rfl:k=s.terms.length:=by omega
    rw[ZyA]at hrow hno
    have hcg:WU s (Qe (s.terms.map (ZcT (YH (m.fields.take i)))))=WU s (YH (m.fields.take i)):=Zmg fun t ht=>ZvQ ht (by have:=List.any_eq_false.1 hno t ht;simpa using this)
    have hok:=Zmy s (s.terms.map (ZcT (YH (m.fields.take i))))
    rw[hcg]at hok
    generalize hr:WU s (YH (m.fields.take i))=r at *
    obtain⟨lo,hi2,er⟩:=r
    refine Wr rfl (Zi (JH [2,5,6] ?_))
    simp only[Eqs,reduceIte,Zye]
    refine kl (st) [(2,.loc 2 0),(5,.loc 5 0),(6,.d (Zcp (s.terms.map (ZcT (YH (m.fields.take i))))))] [(2,m.cells),(5,s.cells)] (.skip (.skip (.cons (.d (hrow.le (by simp))) .nil))) (ZaV _) ?_
    refine rx (nd2 @eQ7 @eQ2) ?_
    refine cl (hok) ?_
    refine rg ?_
    have hf:Zbz (m.fields.take i) s=if !dC (er=0) ||(dC (lo<0) ||decide (1048576<hi2)) then 9 else 0:=by
     unfold Zbz;rw[hc,hno,hr];rfl
    rw[←Bool.or_assoc]at hf
    refine cd (fun h6=>?_) (fun h6=>?_)
    ·rw[h6]at hf
     refine rg ?_
     refine ri hret ?_
     exact hf.symm
    ·rw[h6]at hf
     refine rg ?_
     refine ri hret ?_
     exact hf.symm
  exact key _ 0 rfl .full _ trivial We.nil (by omega) (by simp)
end Go.DL
