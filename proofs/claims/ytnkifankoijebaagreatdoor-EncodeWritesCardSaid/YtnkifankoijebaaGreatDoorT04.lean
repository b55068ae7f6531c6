/- Lemmas: S15, S16, S17, S18, S19, S20, S21, S22, S23, A04, A05, U03, U04, U05, W04, W05, W06, W07, W08, Z10, Z11, Z12, Z13, W09, W10, W11, W12, X03, W13, SLay3, W14, W15, W16, W17, W18, W19, W20, W21, W22, W23. -/
import Derived.Test.YtnkifankoijebaaGreatDoorT03
set_option maxHeartbeats 16000000
set_option maxRecDepth 100000
set_option linter.all false
open List renaming length->I
open Option renaming some -> sO, none -> nO
open Inhabited renaming default -> dE
open Decidable renaming decide -> dC
open Go.Proofs.Tryz
open And renaming intro -> ZHZ
open Bool renaming and_eq_true -> ZH1, false_and -> ZIl, false_eq_true -> ZIx, or_eq_true -> ZId, true_and -> ZIf
open Go.DL.D.Le renaming refl -> ZHT
open Go.DL.St renaming single -> ZIk, sub_refl -> ZHU, sub_trans -> ZIu, sub_upd -> ZIg, upd_ne -> ZH0, upd_same -> ZHW, upd_upd -> ZH7
open Go.DL.Val renaming cells_eq -> ZIe
open Go.Proofs.Tryz renaming prog -> ZHP
open Int renaming reduceEq -> ZIt, reduceToNat -> ZHV
open List renaming append_assoc -> ZIh, append_nil -> ZIj, getD -> ZH6, getElem?_append_left -> ZIm, getElem?_append_right -> ZIw, getElem?_eq_getElem -> ZIn, getElem?_eq_none -> ZIz, getElem_of_mem -> ZIc, length_append -> ZHX, length_cons -> ZH3, length_drop -> ZIq, length_map -> ZH4, length_take -> ZIa, map_cons -> ZIo, mem_cons -> ZIs, range -> ZH5, take_length -> ZIb
open Nat renaming le_refl -> ZH9, le_trans -> ZIy, reduceAdd -> ZHY, reduceEqDiff -> ZHR, reduceLeDiff -> ZHS
open Option renaming getD_some -> ZIr
namespace Go.DL
open Go Go.Proofs
variable {kp:Option (List Nat)}{L:Loc}{H:Env}{s:St}{w:World}{os:List DOp}{ds:List D}{B:List (Nat × Rd)}{dst:Option Nat}{tmps:Array Value}{g:G}{Φ:Res->St->Prop}{Z:Nat->Nat}{xs:List Opd}{side:Prop}{row:Nat->List D}
def Zr6(f:Fld):Fld:={ f with bits:=0,little:=false,low:=0,high:=0 }
def ZlI(f y s)(o:s y=sO (.cells f.cells)):ZL ZHP 346 [.ptr y 0] s (.tup []) (s.upd y (.cells (Zr6 f).cells)):=by
 refine Zh (cR 346 f346) λF i=>?_;refine rx (nd2 @o (nd2 @eQ0 (nd2 @ZHW (nd2 @ZH7 (nd2 @Yv @Yw))))) ?_;exact i.fin (.tup []) _ rfl trivial (ZHT _) ZHU ⟨rfl,rfl⟩
def Zr7(f:Fld):Fld:={ f with bits:=0,little:=false,low:=0 }
def ZlK(f y s)(o:s y=sO (.cells f.cells)):ZL ZHP 350 [.ptr y 0] s (.tup []) (s.upd y (.cells (Zr7 f).cells)):=by
 refine Zh (cR 350 f350) λF i=>?_;refine rx (nd2 @o (nd2 @eQ0 (nd2 @ZHW (nd2 @ZH7 (nd2 @Yv @Yw))))) ?_;exact i.fin (.tup []) _ rfl trivial (ZHT _) ZHU ⟨rfl,rfl⟩
def Zr8(f:Fld):Fld:={ f with loose:=false,low:=0,high:=0 }
def ZlM(f y s)(o:s y=sO (.cells f.cells)):ZL ZHP 352 [.ptr y 0] s (.tup []) (s.upd y (.cells (Zr8 f).cells)):=by
 refine Zh (cR 352 f352) λF i=>?_;refine rx (nd2 @o (nd2 @eQ0 (nd2 @ZHW (nd2 @ZH7 (nd2 @Yv @Yw))))) ?_;exact i.fin (.tup []) _ rfl trivial (ZHT _) ZHU ⟨rfl,rfl⟩
def Znv(f:Fld):Fld:={ f with size:=⟨0,[]⟩ }
def ZlO(f y s)(o:s y=sO (.cells f.cells)):ZL ZHP 354 [.ptr y 0] s (.tup []) (s.upd y (.cells (Znv f).cells)):=by
 refine Zh (cR 354 f354) λF i=>?_;refine rx (nd2 @o (nd2 @eQ0 (nd2 @ZHW (nd2 @ZH7 (nd2 @Yv @Yw))))) ?_;refine Q3 (ds':=(Znv f).cells) (ZHW _ _ _) (.cons (ZHT _) (.cons (ZHT _) (.cons (ZHT _) (.cons (ZHT _) (.cons (ZHT _) (.cons (ZHT _) (.cons (ZHT _) (.cons (ZHT _) (.cons (Z1 ψ) (.cons (ZHT _) (.cons (ZHT _) (.cons (ZHT _) (.cons (ZHT _) (.cons (ZHT _) (.cons (ZHT _) (.nil)))))))))))))))) ?_;rw[ZH7];exact i.fin (.tup []) _ rfl trivial (ZHT _) ZHU ⟨rfl,rfl⟩
def Zr9(f:Fld):Fld:={ f with low:=0,high:=0 }
def ZlP(f y s)(o:s y=sO (.cells f.cells)):ZL ZHP 356 [.ptr y 0] s (.tup []) (s.upd y (.cells (Zr9 f).cells)):=by
 refine Zh (cR 356 f356) λF i=>?_;refine rx (nd2 @o (nd2 @eQ0 (nd2 @ZHW (nd2 @ZH7 (nd2 @Yv @Yw))))) ?_;exact i.fin (.tup []) _ rfl trivial (ZHT _) ZHU ⟨rfl,rfl⟩
def Zsa(f:Fld):Fld:={ f with loose:=false,high:=0 }
def Zkg(f y s)(o:s y=sO (.cells f.cells)):ZL ZHP 358 [.ptr y 0] s (.tup []) (s.upd y (.cells (Zsa f).cells)):=by
 refine Zh (cR 358 f358) λF i=>?_;refine rx (nd2 @o (nd2 @eQ0 (nd2 @ZHW (nd2 @ZH7 (nd2 @Yv @Yw))))) ?_;exact i.fin (.tup []) _ rfl trivial (ZHT _) ZHU ⟨rfl,rfl⟩
def Znw(f:Fld):Fld:={ f with of:=[],size:=⟨0,[]⟩ }
def Zki(f y s)(o:s y=sO (.cells f.cells)):ZL ZHP 360 [.ptr y 0] s (.tup []) (s.upd y (.cells (Znw f).cells)):=by
 refine Zh (cR 360 f360) λF i=>?_;refine rx (nd2 @o (nd2 @eQ0 (nd2 @ZHW (nd2 @ZH7 (nd2 @Yv @Yw))))) ?_;refine Q3 (ds':=(Znw f).cells) (ZHW _ _ _) (.cons (ZHT _) (.cons (ZHT _) (.cons (ZHT _) (.cons (ZHT _) (.cons (ZHT _) (.cons (ZHT _) (.cons (ZHT _) (.cons (ZHT _) (.cons (Z1 ψ) (.cons (ZHT _) (.cons (ZHT _) (.cons (ZHT _) (.cons (ZHT _) (.cons (ZHT _) (.cons (ZHT _) (.nil)))))))))))))))) ?_;rw[ZH7];exact i.fin (.tup []) _ rfl trivial (ZHT _) ZHU ⟨rfl,rfl⟩
def Zsb(f:Fld):Fld:={ f with of:=[] }
def Zkk(f y s)(o:s y=sO (.cells f.cells)):ZL ZHP 363 [.ptr y 0] s (.tup []) (s.upd y (.cells (Zsb f).cells)):=by
 refine Zh (cR 363 f363) λF i=>?_;refine rx (nd2 @o (nd2 @eQ0 (nd2 @ZHW (nd2 @ZH7 (nd2 @Yv @Yw))))) ?_;exact i.fin (.tup []) _ rfl trivial (ZHT _) ZHU ⟨rfl,rfl⟩
def Znx(f:Fld):Fld:={ f with tag:=[],cases:=[] }
def Zkm(f y s)(o:s y=sO (.cells f.cells)):ZL ZHP 365 [.ptr y 0] s (.tup []) (s.upd y (.cells (Znx f).cells)):=by
 refine Zh (cR 365 f365) λF i=>?_;refine rx (nd2 @o (nd2 @eQ0 (nd2 @ZHW (nd2 @ZH7 (nd2 @Yv @Yw))))) ?_;refine Q3 (ds':=(Znx f).cells) (ZHW _ _ _) (.cons (ZHT _) (.cons (ZHT _) (.cons (ZHT _) (.cons (ZHT _) (.cons (ZHT _) (.cons (ZHT _) (.cons (ZHT _) (.cons (ZHT _) (.cons (ZHT _) (.cons (ZHT _) (.cons (ZHT _) (.cons (ZHT _) (.cons (Z1 ψ) (.cons (ZHT _) (.cons (ZHT _) (.nil)))))))))))))))) ?_;rw[ZH7];exact i.fin (.tup []) _ rfl trivial (ZHT _) ZHU ⟨rfl,rfl⟩
def Zpf(f:Fld):Fld:={ f with bits:=0 }
def Zkn(f y s)(o:s y=sO (.cells f.cells)):ZL ZHP 367 [.ptr y 0] s (.tup []) (s.upd y (.cells (Zpf f).cells)):=by
 refine Zh (cR 367 f367) λF i=>?_;refine rx (nd2 @o (nd2 @eQ0 (nd2 @ZHW (nd2 @ZH7 (nd2 @Yv @Yw))))) ?_;exact i.fin (.tup []) _ rfl trivial (ZHT _) ZHU ⟨rfl,rfl⟩
def Zpg(f:Fld):Fld:={ f with from_:=[],check:=0 }
def Zkp(f y s)(o:s y=sO (.cells f.cells)):ZL ZHP 369 [.ptr y 0] s (.tup []) (s.upd y (.cells (Zpg f).cells)):=by
 refine Zh (cR 369 f369) λF i=>?_;refine rx (nd2 @o (nd2 @eQ0 (nd2 @ZHW (nd2 @ZH7 (nd2 @Yv @Yw))))) ?_;exact i.fin (.tup []) _ rfl trivial (ZHT _) ZHU ⟨rfl,rfl⟩
def Zk1(f:Fld):Fld:={ f with of:=[],size:=⟨0,[]⟩,key:=0 }
def Zkr(f y s)(o:s y=sO (.cells f.cells)):ZL ZHP 371 [.ptr y 0] s (.tup []) (s.upd y (.cells (Zk1 f).cells)):=by
 refine Zh (cR 371 f371) λF i=>?_;refine rx (nd2 @o (nd2 @eQ0 (nd2 @ZHW (nd2 @ZH7 (nd2 @Yv @Yw))))) ?_;refine Q3 (ds':=(Zk1 f).cells) (ZHW _ _ _) (.cons (ZHT _) (.cons (ZHT _) (.cons (ZHT _) (.cons (ZHT _) (.cons (ZHT _) (.cons (ZHT _) (.cons (ZHT _) (.cons (ZHT _) (.cons (Z1 ψ) (.cons (ZHT _) (.cons (ZHT _) (.cons (ZHT _) (.cons (ZHT _) (.cons (ZHT _) (.cons (ZHT _) (.nil)))))))))))))))) ?_;rw[ZH7];exact i.fin (.tup []) _ rfl trivial (ZHT _) ZHU ⟨rfl,rfl⟩
def ck1(f:Fld):Bool:=ZdW f&&YB 0 (2 ^ f.bits.toNat-1) [f.low,f.high]
def ck2(f:Fld):Bool:=ZdW f&&YB 0 (2 ^ f.bits.toNat-1) [f.low]
def ck3(f:Fld):Bool:=YB 0 34359738367 [f.low,f.high]
def ck5(f:Fld):Bool:=YB 0 255 [f.low]&&YB 0 1048576 [f.high]
def ck6(f:Fld):Bool:=YB 2 1048576 [f.high]
def ck7(fs:List Fld)(dl:List (Str×Int))(f:Fld):Bool:=(Zv f.of dl).isSome&&ZfQ fs f.size
def ck8(dl:List (Str×Int))(f:Fld):Bool:=(Zv f.of dl).isSome
def Zvt(f:Fld):Bool:=dC (f.bits=2) ||decide (f.bits=4) ||(dC (8<=f.bits)&&dC (f.bits<=512)&&dC (f.bits.tmod 8=0))
def Zvu(fs:List Fld)(f:Fld):Bool:=YB 1 3 [f.check]&&dC (0<=Zl (λx=>dC (x.name=f.from_)) fs)
def Zvv(fs:List Fld)(sl:List (Str×Bool))(f:Fld):Bool:=YB 0 4294967295 [f.key]&&((Zv f.of sl).getD false&&ZfQ fs f.size)
def Zej(f:Fld):D.agg [D.str f.name,D.int IntKind.i64 f.kind,D.int IntKind.i64 f.bits,D.bool f.little,D.bool f.loose,D.int IntKind.i64 f.low,D.int IntKind.i64 f.high,D.int IntKind.i64 f.size.base,Z4 f.size.terms,D.str f.of,D.str f.tag,D.str f.from_,Z2 f.cases,D.int IntKind.i64 f.check,D.int IntKind.i64 f.key]=.agg f.cells:=rfl
def ZlJ{x bd bs k dl sl st}(u:QI st x bd bs k dl sl){n:Nat}(hn:k.field=n)(hl:n<=I k.m.fields)(f):
  Zf ZHP 347 [.ptr x 0,.agg f.cells] st (WM (ck1 f) st):=by
 refine Zh (cR 347 f347) λF hF=>?_;have t:=ck1.eq_1 f;refine rx @eQ0 ?_;refine rx @eQ0 ?_;simp only[Zej];refine cV (ZhF u.x f) ?_ ?_;rintro d S h;obtain⟨i,rfl,rfl⟩:=YN h;rw[i,ZIf]at t;first|refine⟨by first|trivial|exact⟨rfl,trivial⟩,?_⟩|skip
 refine gR0 ?_;have hb1:1<=f.bits/\f.bits<=32:=by unfold ZdW at i;simp only[ZH1,decide_eq_true_eq]at i;exact i.1
 have r:=Zzv (b:=f.bits) ω ω;have h2p:=Zes (b:=f.bits) ω ω;refine rx @eQ0 ?_;rw[r];generalize hpw:(2:Int) ^ f.bits.toNat=pw at *;refine⟨ω,ω,ω,ω,ω,?_⟩;refine cV0 (ZdP u.x 0 (pw-1) f.low f.high) ?_ ?_;rintro d S h;obtain⟨i,rfl,rfl⟩:=YN h;rw[i]at t;refine gR0 ?_;exact hF.fin (.tup []) _ rfl trivial (ZHT _) ZHU (ZbR t);rintro d S h;obtain⟨i,o,rfl⟩:=YM h;rw[i]at t;exact hF.pan _ ZHU (Wt t o);rintro d S h;obtain⟨i,o,rfl⟩:=YM h;rw[i,ZIl]at t;exact hF.pan _ ZHU (Wt t o)
def ZlL{x bd bs k dl sl st}(u:QI st x bd bs k dl sl){n:Nat}(hn:k.field=n)(hl:n<=I k.m.fields)(f):
  Zf ZHP 351 [.ptr x 0,.agg f.cells] st (WM (ck2 f) st):=by
 refine Zh (cR 351 f351) λF hF=>?_;have t:=ck2.eq_1 f;refine rx @eQ0 ?_;refine rx @eQ0 ?_;simp only[Zej];refine cV (ZhF u.x f) ?_ ?_;rintro d S h;obtain⟨i,rfl,rfl⟩:=YN h;rw[i,ZIf]at t;first|refine⟨by first|trivial|exact⟨rfl,trivial⟩,?_⟩|skip
 refine gR0 ?_;have hb1:1<=f.bits/\f.bits<=32:=by unfold ZdW at i;simp only[ZH1,decide_eq_true_eq]at i;exact i.1
 have r:=Zzv (b:=f.bits) ω ω;have h2p:=Zes (b:=f.bits) ω ω;refine rx @eQ0 ?_;rw[r];generalize hpw:(2:Int) ^ f.bits.toNat=pw at *;refine⟨ω,ω,ω,ω,ω,?_⟩;refine cV0 (Jb u.x 0 (pw-1) f.low) ?_ ?_;rintro d S h;obtain⟨i,rfl,rfl⟩:=YN h;rw[i]at t;refine gR0 ?_;exact hF.fin (.tup []) _ rfl trivial (ZHT _) ZHU (ZbR t);rintro d S h;obtain⟨i,o,rfl⟩:=YM h;rw[i]at t;exact hF.pan _ ZHU (Wt t o);rintro d S h;obtain⟨i,o,rfl⟩:=YM h;rw[i,ZIl]at t;exact hF.pan _ ZHU (Wt t o)
def ZlN{x bd bs k dl sl st}(t:QI st x bd bs k dl sl){n:Nat}(hn:k.field=n)(hl:n<=I k.m.fields)(f):
  Zf ZHP 353 [.ptr x 0,.agg f.cells] st (WM (ck3 f) st):=by
 refine Zh (cR 353 f353) λF u=>?_;have r:=ck3.eq_1 f;refine rx @eQ0 ?_;refine rx @eQ0 ?_;refine cV (ZdP t.x 0 34359738367 f.low f.high) ?_ ?_;rintro d S h;obtain⟨i,rfl,rfl⟩:=YN h;rw[i]at r;refine gR0 ?_;exact u.fin (.tup []) _ rfl trivial (ZHT _) ZHU (ZbR r);rintro d S h;obtain⟨i,o,rfl⟩:=YM h;rw[i]at r;exact u.pan _ ZHU (Wt r o)
def ZlQ{x bd bs k dl sl st}(t:QI st x bd bs k dl sl){n:Nat}(hn:k.field=n)(hl:n<=I k.m.fields)(f):
  Zf ZHP 357 [.ptr x 0,.agg f.cells] st (WM (ck5 f) st):=by
 refine Zh (cR 357 f357) λF u=>?_;have r:=ck5.eq_1 f;refine rx @eQ0 ?_;refine rx @eQ0 ?_;refine cV (Jb t.x 0 255 f.low) ?_ ?_;rintro d S h;obtain⟨i,rfl,rfl⟩:=YN h;rw[i,ZIf]at r;first|refine⟨by first|trivial|exact⟨rfl,trivial⟩,?_⟩|skip
 refine gR0 ?_;refine rx @eQ0 ?_;refine cV (Jb t.x 0 1048576 f.high) ?_ ?_;rintro d S h;obtain⟨i,rfl,rfl⟩:=YN h;rw[i]at r;refine gR0 ?_;exact u.fin (.tup []) _ rfl trivial (ZHT _) ZHU (ZbR r);rintro d S h;obtain⟨i,o,rfl⟩:=YM h;rw[i]at r;exact u.pan _ ZHU (Wt r o);rintro d S h;obtain⟨i,o,rfl⟩:=YM h;rw[i,ZIl]at r;exact u.pan _ ZHU (Wt r o)
def Zkh{x bd bs k dl sl st}(t:QI st x bd bs k dl sl){n:Nat}(hn:k.field=n)(hl:n<=I k.m.fields)(f):
  Zf ZHP 359 [.ptr x 0,.agg f.cells] st (WM (ck6 f) st):=by
 refine Zh (cR 359 f359) λF u=>?_;have r:=ck6.eq_1 f;refine rx @eQ0 ?_;refine rx @eQ0 ?_;refine cV (Jb t.x 2 1048576 f.high) ?_ ?_;rintro d S h;obtain⟨i,rfl,rfl⟩:=YN h;rw[i]at r;refine gR0 ?_;exact u.fin (.tup []) _ rfl trivial (ZHT _) ZHU (ZbR r);rintro d S h;obtain⟨i,o,rfl⟩:=YM h;rw[i]at r;exact u.pan _ ZHU (Wt r o)
def Zkj{x bd bs k dl sl st}(t:QI st x bd bs k dl sl){n:Nat}(hn:k.field=n)(hl:n<=I k.m.fields)(f):
  Zf ZHP 361 [.ptr x 0,.agg f.cells] st (WM (ck7 (k.m.fields.take n) dl f) st):=by
 refine Zh (cR 361 f361) λF u=>?_;have r:=ck7.eq_1 (k.m.fields.take n) dl f;refine rx @eQ0 ?_;refine rx @eQ0 ?_;refine cV (Zdl t f.of) ?_ ?_;rintro d S h;obtain⟨i,rfl,rfl⟩:=YN h;rw[i,ZIf]at r;first|refine⟨by first|trivial|exact⟨rfl,trivial⟩,?_⟩|skip
 refine gR0 ?_;refine rx @eQ0 ?_;simp only[Zej];refine cV (Zdm t.x hn hl f) ?_ ?_;rintro d S h;obtain⟨i,rfl,rfl⟩:=YN h;rw[i]at r;refine gR0 ?_;exact u.fin (.tup []) _ rfl trivial (ZHT _) ZHU (ZbR r);rintro d S h;obtain⟨i,o,rfl⟩:=YM h;rw[i]at r;exact u.pan _ ZHU (Wt r o);rintro d S h;obtain⟨i,o,rfl⟩:=YM h;rw[i,ZIl]at r;exact u.pan _ ZHU (Wt r o)
def Zkl{x bd bs k dl sl st}(t:QI st x bd bs k dl sl){n:Nat}(hn:k.field=n)(hl:n<=I k.m.fields)(f):
  Zf ZHP 364 [.ptr x 0,.agg f.cells] st (WM (ck8 dl f) st):=by
 refine Zh (cR 364 f364) λF u=>?_;have r:=ck8.eq_1 dl f;refine rx @eQ0 ?_;refine rx @eQ0 ?_;refine cV (Zdl t f.of) ?_ ?_;rintro d S h;obtain⟨i,rfl,rfl⟩:=YN h;rw[i]at r;refine gR0 ?_;exact u.fin (.tup []) _ rfl trivial (ZHT _) ZHU (ZbR r);rintro d S h;obtain⟨i,o,rfl⟩:=YM h;rw[i]at r;exact u.pan _ ZHU (Wt r o)
def Zko{x bd bs k dl sl st}(t:QI st x bd bs k dl sl){n:Nat}(hn:k.field=n)(hl:n<=I k.m.fields)(f):
  Zf ZHP 368 [.ptr x 0,.agg f.cells] st (WM (Zvt f) st):=by
 refine Zh (cR 368 f368) λF u=>?_;have r:=Zvt.eq_1 f;refine rx @eQ0 ?_;refine rx @eQ0 ?_;have ht1:=Int.tmod_lt_of_pos f.bits (by decide:(0:Int)<8);have ht2:=Int.lt_tmod_of_pos f.bits (by decide:(0:Int)<8);refine⟨λ_=>⟨by decide,ω,ω⟩,?_⟩;refine cV (ZZ t.x (dC (f.bits=2) ||decide (f.bits=4) ||decide (8<=f.bits)&&dC (f.bits<=512)&&dC (f.bits.tmod 8=0)) 6) ?_ ?_;rintro d S h;obtain⟨i,rfl,rfl⟩:=YN h;rw[i]at r;refine gR0 ?_;exact u.fin (.tup []) _ rfl trivial (ZHT _) ZHU (ZbR r);rintro d S h;obtain⟨i,o,rfl⟩:=YM h;rw[i]at r;exact u.pan _ ZHU (Wt r o)
def Zkq{x bd bs k dl sl st}(t:QI st x bd bs k dl sl){n:Nat}(hn:k.field=n)(hl:n<=I k.m.fields)(f):
  Zf ZHP 370 [.ptr x 0,.agg f.cells] st (WM (Zvu (k.m.fields.take n) f) st):=by
 refine Zh (cR 370 f370) λF u=>?_;have r:=Zvu.eq_1 (k.m.fields.take n) f;refine rx @eQ0 ?_;refine rx @eQ0 ?_;refine cV (Jb t.x 1 3 f.check) ?_ ?_;rintro d S h;obtain⟨i,rfl,rfl⟩:=YN h;rw[i,ZIf]at r;first|refine⟨by first|trivial|exact⟨rfl,trivial⟩,?_⟩|skip
 refine gR0 ?_;refine rx @eQ0 ?_;refine tXD (nd2 @eQ4 @eQ1) (Jj t.x hn hl) ?_;refine clD ((Zdk ⟨[],k.m.fields.take n⟩ f.from_)) ?_;refine rg ?_;refine cV (ZZ t.x (dC (0<=Zl (λx=>dC (x.name=f.from_)) (k.m.fields.take n))) 8) ?_ ?_;rintro d S h;obtain⟨i,rfl,rfl⟩:=YN h;rw[i]at r;refine gR0 ?_;exact u.fin (.tup []) _ rfl trivial (ZHT _) ZHU (ZbR r);rintro d S h;obtain⟨i,o,rfl⟩:=YM h;rw[i]at r;exact u.pan _ ZHU (Wt r o);rintro d S h;obtain⟨i,o,rfl⟩:=YM h;rw[i,ZIl]at r;exact u.pan _ ZHU (Wt r o)
def Zks{x bd bs k dl sl st}(r:QI st x bd bs k dl sl){n:Nat}(hn:k.field=n)(hl:n<=I k.m.fields)(f):
  Zf ZHP 372 [.ptr x 0,.agg f.cells] st (WM (Zvv (k.m.fields.take n) sl f) st):=by
 refine Zh (cR 372 f372) λF u=>?_;have t:=Zvv.eq_1 (k.m.fields.take n) sl f;refine rx @eQ0 ?_;refine rx @eQ0 ?_;refine cV (Jb r.x 0 4294967295 f.key) ?_ ?_;rintro d S h;obtain⟨i,rfl,rfl⟩:=YN h;rw[i,ZIf]at t;first|refine⟨by first|trivial|exact⟨rfl,trivial⟩,?_⟩|skip
 refine gR0 ?_;have e1:=YR (vD:=D.bool) ZS f.of sl;have e3:=Y8 ZS f.of;simp only[show K5 f.of=D.str f.of from rfl]at e1 e3;refine rh ?_;refine Ye ?_;simp only[Eqs,reduceCtorEq,ZHV,reduceIte,ZHR,ZHY,ZHS,Fld.cells,r.x,r.bs,Ck.cells,e1,e3,ZmZ];refine cV0 (ZZ r.x ((Zv f.of sl).getD false) 8) ?_ ?_;rintro d S h;obtain⟨i,rfl,rfl⟩:=YN h;rw[i,ZIf]at t;first|refine⟨by first|trivial|exact⟨rfl,trivial⟩,?_⟩|skip
 refine gR0 ?_;refine rx @eQ0 ?_;simp only[Zej];refine cV (Zdm r.x hn hl f) ?_ ?_;rintro d S h;obtain⟨i,rfl,rfl⟩:=YN h;rw[i]at t;refine gR0 ?_;exact u.fin (.tup []) _ rfl trivial (ZHT _) ZHU (ZbR t);rintro d S h;obtain⟨i,o,rfl⟩:=YM h;rw[i]at t;exact u.pan _ ZHU (Wt t o);rintro d S h;obtain⟨i,o,rfl⟩:=YM h;rw[i,ZIl]at t;exact u.pan _ ZHU (Wt t o);rintro d S h;obtain⟨i,o,rfl⟩:=YM h;rw[i,ZIl]at t;exact u.pan _ ZHU (Wt t o)
def Zxx(f:Fld):List D:=[.str f.name,.str f.of,.str f.tag,.str f.from_,.i f.kind,.i f.bits,.i f.low,.i f.high,.i f.size.base,.i f.check,.i f.key,.bool f.little,.bool f.loose]
def Zgv(f):Zc ZHP 373 [.agg f.cells] (.agg (Zxx f)):=by
 refine Ze (cR 373 f373) λF st i=>?_;refine rx @eQ0 ?_;refine rx @eQ0 ?_;exact i rfl (by first|trivial|simp) (ZHT _) ZHU
def Zi8(a b:Fld):Zc ZHP 331 [.agg a.cells,.agg b.cells] (.bool (dC (a=b))):=by
 refine Ze (cR 331 f331) λF st ac=>?_;refine rx @eQ0 ?_;refine rx @eQ0 ?_;simp only[Zej];refine clD (Zgv a) ?_;refine cXD @Zxx.eq_1 (Zgv b) ?_;refine cGD (ZiG a.size.terms b.size.terms) ?_;refine cGD (ZiF a.cases b.cases) ?_;refine ac rfl φ (Ze9 ?_) ZHU;rw[Bool.eq_iff_iff];simp only[ZH1,decide_eq_true_eq];constructor;rintro⟨⟨⟨h1,h2,h3,h4,h5,h6,h7,h8,h9,i,o,r,t⟩,u⟩,ab⟩;obtain⟨n1,k1,b1,l1,o1,lo1,hi1,⟨sb1,st1⟩,of1,t1,f1,c1,ch1,ke1⟩:=a;obtain⟨n2,k2,b2,l2,o2,lo2,hi2,⟨sb2,st2⟩,of2,t2,f2,c2,ch2,ke2⟩:=b;simp only at h1 h2 h3 h4 h5 h6 h7 h8 h9 i o r t u ab;subst h1;subst h2;subst h3;subst h4;subst h5;subst h6;subst h7;subst h8;subst h9;subst i;subst o;subst r;subst t;subst u;subst ab;rfl;rintro rfl;simp
abbrev Zry(x:Nat×Nat):D:=.agg [.fn (.func x.1) [] [],.fn (.func x.2) [] []]
def Zim:List (Int×(Nat×Nat)):=[(1,(346,347)),(2,(350,351)),(3,(352,353)),(4,(354,355)),(5,(356,357)),(6,(358,359)),(7,(360,361)),(8,(363,364)),(9,(365,366)),(10,(367,368)),(11,(369,370)),(12,(371,372))]
def Zow(st):Zf ZHP 330 [] st λr S=>∃b,st b=nO/\r=.ret (.map b)/\S=st.upd b (.map (Kc Y7 Zry Zim)):=by
 refine Zh (cR 330 f330) λF i=>?_;refine rg ?_;refine rh ?_;refine Zk ?_;simp only[Eqs,reduceCtorEq,ZHV,reduceIte,ZHR,ZHY,ZHS,ZbD,ZIt,decide_false,ZHW,ZH7,Yv,Yw];intro b o;exact i.ret _ _ rfl φ (ZHT _) ZHU ⟨b,o,rfl,rfl⟩
def Zfe(n:Str)(k:Int):Fld:=⟨n,k,0,false,false,0,0,⟨0,[]⟩,[],[],[],[],0,0⟩
def Zfr(f:Fld):Fld :=
 if f.kind=1 then Zr6 f else if f.kind=2 then Zr7 f else if f.kind=3 then Zr8 f else if f.kind=4 then Znv f else if f.kind=5 then Zr9 f else if f.kind=6 then Zsa f
 else if f.kind=7 then Znw f else if f.kind=8 then Zsb f else if f.kind=9 then Znx f else if f.kind=10 then Zpf f else if f.kind=11 then Zpg f else Zk1 f
def Zfo(fs:List Fld)(dl:List (Str×Int))(sl:List (Str×Bool))(f:Fld):Bool :=
 if f.kind=1 then ck1 f else if f.kind=2 then ck2 f else if f.kind=3 then ck3 f else if f.kind=4 then ZfQ fs f.size else if f.kind=5 then ck5 f else if f.kind=6 then ck6 f
 else if f.kind=7 then ck7 fs dl f else if f.kind=8 then ck8 dl f else if f.kind=9 then Zjs fs dl f else if f.kind=10 then Zvt f else if f.kind=11 then Zvu fs f else Zvv fs sl f
def JL(f:Fld):Bool:=dC (1<=f.kind)&&dC (f.kind<=12)
def ZAu{x bd bs k dl sl st}(o:QI st x bd bs k dl sl){n:Nat}(hn:k.field=n)(u:n<=I k.m.fields)(f)(hR:((Zv f.tag (Q0 (k.m.fields.take n))).getD (0,0)).2<4611686018427387904)(hk:JL f=true):
  ∃c q,Zv f.kind Zim=sO (c,q)/\(∀y s,s y=sO (.cells f.cells)->ZL ZHP c [.ptr y 0] s (.tup []) (s.upd y (.cells (Zfr f).cells))) /\
   ∀A,st.sub A->Zf ZHP q [.ptr x 0,.agg f.cells] A (WM (Zfo (k.m.fields.take n) dl sl f) A):=by
 unfold JL at hk;simp only[ZH1,decide_eq_true_eq]at hk;have i:f.kind=1\/f.kind=2\/f.kind=3\/f.kind=4\/f.kind=5\/f.kind=6\/f.kind=7\/f.kind=8\/f.kind=9\/f.kind=10\/f.kind=11\/f.kind=12:=ω;unfold Zfr Zfo;rcases i with h|h|h|h|h|h|h|h|h|h|h|h<;>simp only[h,ZIt,if_true,if_false];exact⟨_,_,rfl,λy s t=>ZlI f y s t,λA r=>ZlJ (o.mono r) hn u f⟩;exact⟨_,_,rfl,λy s t=>ZlK f y s t,λA r=>ZlL (o.mono r) hn u f⟩;exact⟨_,_,rfl,λy s t=>ZlM f y s t,λA r=>ZlN (o.mono r) hn u f⟩;exact⟨_,_,rfl,λy s t=>ZlO f y s t,λA r=>Zdm (o.mono r).x hn u f⟩;exact⟨_,_,rfl,λy s t=>ZlP f y s t,λA r=>ZlQ (o.mono r) hn u f⟩;exact⟨_,_,rfl,λy s t=>Zkg f y s t,λA r=>Zkh (o.mono r) hn u f⟩;exact⟨_,_,rfl,λy s t=>Zki f y s t,λA r=>Zkj (o.mono r) hn u f⟩;exact⟨_,_,rfl,λy s t=>Zkk f y s t,λA r=>Zkl (o.mono r) hn u f⟩;exact⟨_,_,rfl,λy s t=>Zkm f y s t,λA r=>Zov (o.mono r) hn u f hR⟩;exact⟨_,_,rfl,λy s t=>Zkn f y s t,λA r=>Zko (o.mono r) hn u f⟩;exact⟨_,_,rfl,λy s t=>Zkp f y s t,λA r=>Zkq (o.mono r) hn u f⟩;exact⟨_,_,rfl,λy s t=>Zkr f y s t,λA r=>Zks (o.mono r) hn u f⟩
def Zxf{f}(i:JL f=false):Zv f.kind Zim=nO:=by
 rw[Zw7];unfold JL at i;simp only[Bool.and_eq_false_iff,decide_eq_false_iff_not]at i;simp only[Zim,ZIo,List.map_nil,ZIs,List.not_mem_nil,or_false];omega
def Jc(fs:List Fld)(dl:List (Str×Int))(sl:List (Str×Bool))(f:Fld):Bool :=
 Yl f.name&&(!dC (0<=Zl (λx=>dC (x.name=f.name)) fs)&&(JL f&&(dC (Zfr f=Zfe f.name f.kind)&&Zfo fs dl sl f)))
def ZlH{x bd bs k dl sl st}(hst:QI st x bd bs k dl sl){n:Nat}(hn:k.field=n)(hl:n<=I k.m.fields)(f)(hR:((Zv f.tag (Q0 (k.m.fields.take n))).getD (0,0)).2<4611686018427387904):
  Zf ZHP 316 [.ptr x 0,.agg f.cells] st (WM (Jc (k.m.fields.take n) dl sl f) st):=by
 refine Zh (cR 316 f316) λF hF=>?_;have hS:=Jc.eq_1 (k.m.fields.take n) dl sl f;refine rx @eQ0 ?_;refine rx @eQ0 ?_;refine cl (Zas f.name) ?_;refine cV (ZZ hst.x (Yl f.name) 1) ?_ ?_
 .rintro d S h;obtain⟨ag,rfl,rfl⟩:=YN h;rw[ag,ZIf]at hS;refine gR0 ?_;refine rx @eQ0 ?_;refine tXD (nd2 @eQ4 @eQ1) (Jj hst.x hn hl) ?_;refine clD ((Zdk ⟨[],k.m.fields.take n⟩ f.name)) ?_;refine rg ?_;refine cV (ZZ hst.x (!dC (0<=Zl (λx=>dC (x.name=f.name)) (k.m.fields.take n))) 2) ?_ ?_
  .rintro d S2 h;obtain⟨r,rfl,rfl⟩:=YN h;rw[r,ZIf]at hS;refine gR0 ?_;refine rx @eQ0 ?_;refine cVD (Zow S2) ?_ ?_
   .rintro d S3 ⟨b,hb,hd,rfl⟩;cases hd;refine⟨by first|trivial|exact⟨rfl,trivial⟩,?_⟩;have e1:=YR (vD:=Zry) ZdH f.kind Zim;have e3:=Y8 ZdH f.kind;simp only[show Y7 f.kind=D.i f.kind from rfl]at e1 e3;have af:=ZIg (.map (Kc Y7 Zry Zim)) hb;cases ae:JL f with
    |false =>rw[ae,ZIl]at hS;rw[Zxf ae]at e1;refine gQ (nd2 @e1 (nd2 @e3 (nd2 @ZHW (nd2 @ZH7 (nd2 @Yv @Yw))))) ?_;refine rg ?_;refine cV (ZZ (hst.mono af).x false 4) ?_ ?_;rintro d S4 h;exact absurd (YN h).1 ψ;rintro d S4 h;obtain⟨_,i,rfl⟩:=YM h;exact hF.pan S2 af (Wt hS i)
    |true =>rw[ae,ZIf]at hS;obtain⟨c,q,hg,ad,ac⟩:=ZAu hst hn hl f hR ae;rw[hg]at e1;refine gQ (nd2 @e1 (nd2 @e3 (nd2 @ZHW (nd2 @ZH7 (nd2 @Yv @Yw))))) ?_;refine rg ?_;refine cV (ZZ (hst.mono af).x true 4) ?_ ?_;rintro d S4 h;obtain⟨_,rfl,rfl⟩:=YN h;refine gR0 ?_;refine rx @eQ0 ?_;refine Zd ?_;refine xP 7 λy hy=>?_;have ah:[D.str f.name,D.int IntKind.i64 f.kind,D.int IntKind.i64 f.bits,D.bool f.little,D.bool f.loose,D.int IntKind.i64 f.low,D.int IntKind.i64 f.high,D.int IntKind.i64 f.size.base,Z4 f.size.terms,D.str f.of,D.str f.tag,D.str f.from_,Z2 f.cases,D.int IntKind.i64 f.check,D.int IntKind.i64 f.key]=f.cells:=rfl;simp only[ah];have ab:∀o,S2.sub (((S2.upd b (.map (Kc Y7 Zry Zim)))).upd y o):=λo=>ZIu af (ZIg _ hy);refine rg ?_;refine ct (ad y _ (ZHW _ _ _)) ?_;simp only[ZH7];refine rx (nd2 @eQ0 (nd2 @ZHW (nd2 @ZH7 (nd2 @Yv @Yw)))) ?_;simp only[Zej];refine JV rfl rfl rfl rfl rfl φ φ (by exact(Zi8 (Zfr f) (Zfe f.name f.kind)).leA (LeC.two (ZHT _) (Zjk (cs':=(Zfe f.name f.kind).cells) (.cons (ZHT _) (.cons (ZHT _) (.cons (ZHT _) (.cons (ZHT _) (.cons (ZHT _) (.cons (ZHT _) (.cons (ZHT _) (.cons (ZHT _) (.cons (Z1 ψ) (.cons (ZHT _) (.cons (ZHT _) (.cons (ZHT _) (.cons (Z1 ψ) (.cons (ZHT _) (.cons (ZHT _) .nil)))))))))))))))))) (Zk ?_);simp only[Eqs,reduceCtorEq,ZHV,reduceIte,ZHR,ZHY,ZHS];refine cV (ZZ (hst.mono (ab _)).x (dC (Zfr f=Zfe f.name f.kind)) 5) ?_ ?_;rintro d S5 h;obtain⟨t,rfl,rfl⟩:=YN h;rw[t,ZIf]at hS;refine gR0 ?_;refine rx @eQ0 ?_;simp only[Zej];refine cV (ac _ (ab _)) ?_ ?_;rintro d S6 h;obtain⟨u,rfl,rfl⟩:=YN h;rw[u]at hS;refine gR0 ?_;exact hF.fin (.tup []) S2 rfl trivial (ZHT _) (ab _) (ZbR hS);rintro d S6 h;obtain⟨u,i,rfl⟩:=YM h;rw[u]at hS;exact hF.pan S2 (ab _) (Wt hS i);rintro d S5 h;obtain⟨t,i,rfl⟩:=YM h;rw[t,ZIl]at hS;exact hF.pan S2 (ab _) (Wt hS i);rintro d S4 h;exact absurd (YM h).1 ψ
   rintro d S3 ⟨b,hb,hd,_⟩;cases hd
  rintro d S2 h;obtain⟨r,i,rfl⟩:=YM h;rw[r,ZIl]at hS;exact hF.pan _ ZHU (Wt hS i)
 rintro d S h;obtain⟨ag,i,rfl⟩:=YM h;rw[ag,ZIl]at hS;exact hF.pan _ ZHU (Wt hS i)
def ddS(l:List Str):List Str:=l.foldl Jr []
def ZtH(l i:List Str):∃r,l.foldl Jr i=i++r:=by
 induction l generalizing i with
 |nil=>exact⟨[],ψ⟩
 |cons x r ih =>obtain⟨q,o⟩:=ih (Jr i x);rw[List.foldl_cons,o];unfold Jr;split;exact⟨q,rfl⟩;exact⟨[x]++q,ψ⟩
def Zsg{l:List Str}{i}(h:i<I l):ddS (l.take (i+1))=Jr (ddS (l.take i)) (l.getD i dE):=by
 unfold ddS;rw[ZQ h,List.foldl_append];rfl
def ZuM{l s}:s∈ddS l↔s∈l:=by unfold ddS;rw[Zhw];simp
def ZAi(l i):∃r,ddS l=ddS (l.take i)++r:=by
 conv=>enter [1,r];lhs;rw[<-List.take_append_drop i l]
 unfold ddS;rw[List.foldl_append];exact ZtH _ _
def ZBi{l i}(h:i<I l)(u:l.getD i dE∉l.take i):(ddS (l.take i)).length<(ddS l).length/\(ddS l).getD (ddS (l.take i)).length dE=l.getD i dE/\(ddS (l.take (i+1))).length=(ddS (l.take i)).length+1:=by
 have o:=Zsg h;have hm:l.getD i dE∉ddS (l.take i):=λhm=>u (ZuM.1 hm);rw[Jr,if_neg hm]at o;obtain⟨r,t⟩:=ZAi l (i+1);rw[o]at t;refine⟨by rw[t];simp,by rw[t];simp[ZH6],by rw[o];simp⟩
def Zyx{l:List Str}{i}(h:i<I l)(o:l.getD i dE∈l.take i):ddS (l.take (i+1))=ddS (l.take i):=by
 rw[Zsg h,Jr,if_pos (ZuM.2 o)]
def ZjB(l:List Str)(i)(h:i<=I l){tk s}:Zc ZHP 333 [.sl tk i 1 (λi=>[.str (l.getD i dE)]),.str s] (.bool (dC (s∈l.take i))):=by
 have o:Zy Zdo (λi=>[.str (l.getD i dE)]) (l.take i):=(Zy.self (f:=Zdo) (l:=l)).take i;exact(Ze2 (l.take i) s).leA (LeC.two (o.le (by rw[ZIa];omega)) (ZHT _))
def Zke(l)(hl:I l<=big)(x):Zdy ZHP (.fn (.func 332) [] [.ptr x 0]) (ddS l).length (λj=>[.str ((ddS l).getD j dE)]) (ZIk x (.cells [WS l])):=by
 intro y go A a0 ad hA hd;have hw:=hl;unfold big at hw;refine Zf.V (first:=[]) (args:=[y]) (caps:=[.ptr x 0]) (Zh (cR 332 f332) λF hF=>?_);have hx:∀a,Z7 a (ZIk x (.cells [WS l]))->(a.or (ZIk x (.cells [WS l]))) x=sO (.cells [WS l]):=λa ag=>by rw[Zz (ag x _ Yt),Yt]
 generalize hT:ZIk x (.cells [WS l])=T at *;refine rh ?_;refine Zk ?_;simp only[Eqs,reduceCtorEq,ZHV,reduceIte,ZHR,ZHY,ZHS,hx a0 hd,WS,slD];refine Zb (fr (I l) (λi Q=>∀a,A (ddS (l.take i)).length a->Z7 a T->(∀j,j<(ddS (l.take i)).length->go j=.next)->i<=I l->Q [(0,.d y),(1,.d (.ptr x 0)),(5,.d (WS l)),(6,.d (.i (I l))),(7,.d (.i i))] [] (a.or T)) (λn t=>?_) λah=>?_)
 .clear hA hd;intro i hn a hA hd r hi;refine rg ?_;refine Zd (Zj rfl trivial (λh1=>?_) (λh1=>?_))
  .simp at h1;by_cases hm:l.getD i dE∈l.take i;have af:=Zyx h1 hm;refine xA (nd2 @WS.eq_1 @eQ1) ?_;refine rh ?_;refine Zk ?_;simp only[Eqs,reduceCtorEq,ZHV,reduceIte,ZHR,ZHY,ZHS,hx a hd,WS,slD];refine aa ?_;refine JV rfl rfl rfl rfl rfl φ φ (by exact ZjB l i ω) (Zk ?_);simp only[Eqs,reduceCtorEq,ZHV,reduceIte,ZHR,ZHY,ZHS,decide_eq_true hm];refine Jv rfl (e:=.d (.bool false)) (Zk ?_);simp only[Eqs,reduceCtorEq,ZHV,reduceIte,ZHR,ZHY,ZHS];refine i0 ?_;refine gA ?_;refine Za ?_;exact t ((I l)-(i+1)) ω (i+1) rfl a (by rw[af];exact hA) hd (by rw[af];exact r) ω;have u:=ZBi h1 hm;refine xA (nd2 @WS.eq_1 @eQ1) ?_;refine rh ?_;refine Zk ?_;simp only[Eqs,reduceCtorEq,ZHV,reduceIte,ZHR,ZHY,ZHS,hx a hd,WS,slD];refine aa ?_;refine JV rfl rfl rfl rfl rfl φ φ (by exact ZjB l i ω) (Zk ?_);simp only[Eqs,reduceCtorEq,ZHV,reduceIte,ZHR,ZHY,ZHS,decide_eq_false hm];have ab:=(ad _ u.1 r a hA).frame hd;simp only[u.2.1]at ab;refine vV (ab) ?_ ?_
   .rintro d S ⟨s',⟨hr,ac⟩,ae,rfl⟩;cases o:go (ddS (l.take i)).length with
    |next =>rw[o]at hr;cases hr;refine gR0 ?_;refine i0 ?_;refine gA ?_;refine Za ?_;exact t ((I l)-(i+1)) ω (i+1) rfl s' (by rw[u.2.2];exact ac) ae (by rw[u.2.2];exact ZV (q:=λi=>go i=.next) r o) ω
    |stop c =>rw[o]at hr;cases hr;refine gR0 ?_;refine i1 ?_;exact hF.ret (.tup []) _ rfl trivial (ZHT _) ZHU ⟨s',.stop _ c u.1 r o ac,KK⟩
    |pan d=>rw[o]at hr;cases hr
   rintro d S ⟨s',⟨hr,ac⟩,ae,rfl⟩;cases o:go (ddS (l.take i)).length with
   |pan d' =>rw[o]at hr;cases hr;exact hF.pan _ ZHU ⟨s',.pan _ d u.1 r o ac,KK⟩
   |next=>rw[o]at hr;cases hr
   |stop c=>rw[o]at hr;cases hr
  simp at h1;obtain rfl:i=I l:=ω;rw[ZIb]at hA r;refine ZG rfl ?_;exact hF.fin (.tup []) _ rfl trivial (ZHT _) ZHU ⟨a,.all r hA,KK⟩
 exact ah _ 0 rfl a0 hA hd (by intro i hi;simp[ddS]at hi) ω
def Zm5(m:Msg)(hb:(m.fields.flatMap Ya).length<=1000000){st}:Zf ZHP 317 [.agg m.cells] st λr S=>∃x,st x=nO/\r=.ret (.fn (.func 332) [] [.ptr x 0])/\S=st.or (ZIk x (.cells [WS (m.fields.flatMap Ya)])):=by
 refine ZaS (cR 317 f317) λal F hF=>?_;have hw:=(ZfE (s:=m) (al _ ψ)).nfields;have ao:=(ZfE (s:=m) (al _ ψ)).fields;unfold big at hw;clear al;refine rx @eQ3 ?_;refine rg ?_;refine rx (nd2 @eQ3 (nd2 @eQ4 @eQ1)) ?_;refine Zb ?_;refine kl (st) [(3,.loc 3 0),(9,.d (Zp m.fields)),(10,.d (.i (I m.fields))),(11,.d (.i (0:Nat)))] [(3,[.sl .full 0 1 λ_=>[]])] Wx (.cons (.cons (Z1 ψ) .nil) .nil) ?_;refine fr (I m.fields) (λi Q=>∀tk row t,tk.okIn st->Zy (λs=>[.str s]) row t->t=(m.fields.take i).flatMap Ya->i<=I m.fields->Q [(3,.loc 3 0),(9,.d (Zp m.fields)),(10,.d (.i (I m.fields))),(11,.d (.i i))] [(3,[.sl tk (I t) 1 row])] (st.own tk (I t*1))) (λn ae=>?_) λaq=>?_;intro i hn tk row t ag u ad hi;refine rg ?_;refine Zd (Zj rfl trivial (λh1=>?_) (λh1=>?_));simp at h1;have af:=ZeI m.fields i h1;have ac:=ZaY m.fields (i+1);rw[af,ZHX,<-ad]at ac;have ap:=(ao _ (Zr h1)).ncases;unfold big at ap;generalize hf:m.fields.getD i dE=f at *;refine xA (nd2 @eQ4 (nd2 @eQ1 (nd2 @eQ0 @hf))) ?_;refine rx @eQ0 ?_;refine rg ?_;refine jU [0] (λQ=>∀bb:Bool,bb=(dC (f.kind=7) ||(dC (f.kind=8) ||decide (f.kind=12)))->Q F [(3,.loc 3 0),(5,.loc 5 0),(9,.d (Zp m.fields)),(10,.d (.int .i64 (I m.fields))),(11,.d (.int .i64 i)),(16,.d (.int .i64 f.kind)),(17,.d (.bool bb))] [(3,[.sl tk (I t) 1 row]),(5,f.cells)] (st.own tk (I t*1))) ?_ λjn=>?_;intro bb ai;refine cd (λh3=>?_) (λh3=>?_);have aj:Ya f=[f.of]:=by
  subst h3;have h9:¬f.kind=9:=by intro e;rw[e]at ai;simp at ai
  unfold Ya QA;rw[<-ai,if_pos rfl,if_neg h9,ZIj]
 rw[aj]at af ac;simp only[ZH3,List.length_nil]at ac;refine rx @eQ0 ?_;refine Y2 (st) (tk) rfl rfl rfl rfl rfl rfl φ φ rfl (by first|trivial|assumption) ω (by (unfold big;omega)) λt1 ak=>Zk ?_;simp only[Eqs,reduceCtorEq,ZHV,reduceIte,ZHR,ZHY,ZHS];refine gA ?_;refine Za ?_;have ab:=ae ((I m.fields)-(i+1)) ω (i+1) rfl t1 _ (t++[f.of]) ak (u.snoc (x:=f.of) (row2:=ZI [.str []] ([0].zip [.str f.of])) rfl rfl) (by rw[af,ad]) ω;rw[ZHX]at ab;exact ab;have aj:Ya f=if f.kind=9 then f.cases.map (·.of) else []:=by subst h3;unfold Ya QA;rw[<-ai,if_neg ψ,List.nil_append]
 rw[aj]at af ac;refine rg ?_;refine cd (λh4=>?_) (λh4=>?_);have h9:f.kind=9:=by simpa using h4
 rw[if_pos h9]at af ac;simp only[ZH4]at ac;refine rx (nd2 @eQ0 (nd2 @Z2.eq_1 @eQ1)) ?_;refine Zb (fr (I f.cases) (λq Q=>∀tk row o,tk.okIn st->Zy (λs=>[.str s]) row o->o=t++(f.cases.take q).map (·.of)->q<=I f.cases->Q [(3,.loc 3 0),(9,.d (Zp m.fields)),(10,.d (.i (I m.fields))),(11,.d (.i i)),(29,.d (Z2 f.cases)),(30,.d (.i (I f.cases))),(31,.d (.i q))] [(3,[.sl tk (I o) 1 row])] (st.own tk (I o*1))) (λn ah=>?_) λan=>?_);clear u ag;intro q hnq tk row o ag u ho hq;have hol:I o=I t+q:=by rw[ho];simp;omega
 refine rg ?_;refine Zd (Zj rfl trivial (λh5=>?_) (λh5=>?_));simp at h5;have am:(f.cases.take (q+1)).map (·.of)=(f.cases.take q).map (·.of)++[(f.cases.getD q dE).of]:=by rw[ZQ h5,List.map_append];rfl
 generalize hc:f.cases.getD q dE=c at *;refine xA (nd2 @Z2.eq_1 (nd2 @eQ1 (nd2 @YE.cells.eq_1 @hc))) ?_;refine rx @YE.cells.eq_1 ?_;refine Y2 (st) (tk) rfl rfl rfl rfl rfl rfl φ φ rfl (by first|trivial|assumption) ω (by (unfold big;omega)) λt1 ak=>Zk ?_;simp only[Eqs,reduceCtorEq,ZHV,reduceIte,ZHR,ZHY,ZHS];refine gA ?_;refine Za ?_;have ab:=ah ((I f.cases)-(q+1)) ω (q+1) rfl t1 _ (o++[c.of]) ak (u.snoc (x:=c.of) (row2:=ZI [.str []] ([0].zip [.str c.of])) rfl rfl) (by rw[am,ho,ZIh]) ω;rw[ZHX]at ab;exact ab;simp at h5;obtain rfl:q=I f.cases:=ω;rw[ZIb]at ho;refine gA ?_;refine Za ?_;exact ae ((I m.fields)-(i+1)) ω (i+1) rfl tk row o ag u (by rw[af,ho,ad]) ω;exact an _ 0 rfl tk row t ag u ψ ω;have h9:¬f.kind=9:=by simpa using h4
 rw[if_neg h9,ZIj]at af;refine Zo ?_;refine gA ?_;refine Za ?_;exact ae ((I m.fields)-(i+1)) ω (i+1) rfl tk row t ag u (by rw[af,ad]) ω;refine cd (λh2=>?_) (λh2=>?_);refine Zo ?_;refine jn _ ?_;rw[h2,Bool.true_or];refine rg ?_;refine cd (λh3=>?_) (λh3=>?_);refine Zo ?_;refine jn _ ?_;rw[h2,h3];rfl;refine rg ?_;refine jn _ ?_;rw[h2,h3];rfl;simp at h1;obtain rfl:i=I m.fields:=ω;rw[ZIb]at ad;refine ZG rfl (Zd ?_);refine kl (st) [(3,.loc 3 0),(9,.d (Zp m.fields)),(10,.d (.i (I m.fields))),(11,.d (.i (I m.fields))),(12,.d (.bool (dC ((I m.fields:Int)<I m.fields))))] [(3,[WS t])] Wx (.cons (.cons (u.le rfl) .nil) .nil) ?_;refine xP 3 λx hx=>?_;refine rg ?_;exact hF.ret _ _ rfl φ (ZHT _) ZHU ⟨x,hx,rfl,by rw[<-ad];exact QD hx⟩;exact aq _ 0 rfl .full _ [] trivial Zy.nil rfl ω
def KD(dl:List (Str×Int))(m:Msg):Int:=(Y9 m).foldl (λa s=>max a ((Zv s dl).getD 0)) 0
def J2(sl:List (Str×Bool))(m:Msg):Bool:=(m.fields.all λf=>!f.loose)&&(Y9 m).all λs=>(Zv s sl).getD false
def Q9(dl:List (Str×Int))(sl:List (Str×Bool))(m:Msg)(n:Nat):Bool:=(ZH5 n).all λi=>Jc (m.fields.take i) dl sl (m.fields.getD i dE)
def Zez(dl:List (Str×Int))(sl:List (Str×Bool))(m:Msg):Bool :=
 Yl m.name&&(!(Zv m.name dl).isSome&&((dC (1<=(I m.fields:Int))&&dC ((I m.fields:Int)<=40))&&(Q9 dl sl m (I m.fields)&&dC (KD dl m<16))))
def ZoW:Int:=4611686018427387904
def Zpl{r dl sl f}(h:Jc r dl sl f=true)(o:Yy f=true):(Wq f).2<ZoW:=by
 unfold Jc at h;simp only[ZH1]at h;have i:=h.2.2.2.2;unfold Yy at o;simp only[ZH1,decide_eq_true_eq]at o;have hk:f.kind=1\/f.kind=2\/f.kind=3:=ω;unfold Zfo at i;unfold Wq ZoW;rcases hk with hk|hk|hk<;>simp only[hk,ZIt,if_true,if_false]at i⊢;unfold ck1 ZdW at i;simp only[YB,ZH1,decide_eq_true_eq,Bool.and_true]at i;have:=Zes (b:=f.bits) ω ω;generalize (2:Int) ^ f.bits.toNat=t at *;omega;unfold ck2 ZdW at i;simp only[YB,ZH1,decide_eq_true_eq,Bool.and_true]at i;have:=Zes (b:=f.bits) ω ω;generalize (2:Int) ^ f.bits.toNat=t at *;omega;unfold ck3 at i;simp only[YB,ZH1,decide_eq_true_eq,Bool.and_true]at i;omega
def Zv1{o i}(h:∀j,j<i->Yy (o.getD j dE)=true->(Wq (o.getD j dE)).2<ZoW)(k):((Zv k (Zap o i)).getD (0,0)).2<ZoW:=by
 induction i with
 |zero=>simp[Zap,Zv,ZoW]
 |succ i ih =>have r:=ih λj hj=>h j ω;simp only[Zap];split;rename_i t;rw[WZ];split;exact h i ω t;exact r;exact r
def Zq5{dl sl m i}(h:Q9 dl sl m i=true)(hi:i<=I m.fields)(k):((Zv k (Q0 (m.fields.take i))).getD (0,0)).2<4611686018427387904:=by
 refine Zv1 (λj r o=>?_) k;rw[ZIa]at r;rw[W8 ω]at o⊢;exact Zpl (List.all_eq_true.1 h j (by simp;omega)) o
def Zq3{o dl sl f}(h:Jc o dl sl f=true):(Ya f).length<=41:=by
 unfold Jc at h;simp only[ZH1]at h;have i:=h.2.2.2.2;unfold Ya;rw[ZHX];have h1:(QA f).length<=1:=by unfold QA;split<;>simp
 split;rename_i r;unfold Zfo at i;simp only[r,ZIt,if_true,if_false]at i;unfold Zjs at i;simp only[ZH1,decide_eq_true_eq]at i;simp only[ZH4];omega;simp;omega
def Zso{dl sl m}(h:Q9 dl sl m (I m.fields)=true)(hm:I m.fields<=40):(m.fields.flatMap Ya).length<=1000000:=by
 have o:∀l:List Fld,(∀f∈l,(Ya f).length<=41)->(l.flatMap Ya).length<=41*I l:=by
  intro l;induction l with
  |nil=>simp
  |cons x r ih =>intro hx;have:=ih λf t=>hx f (by simp[t]);have:=hx x ψ;simp only[List.flatMap_cons,ZHX,ZH3];omega
 have:=o m.fields λf t=>by obtain⟨i,u,rfl⟩:=ZIc t;have:=Zq3 (List.all_eq_true.1 h i (by simpa using u));simpa[ZH6,u]using this
 omega
def ZjI{dl sl m i}:Q9 dl sl m (i+1)=(Q9 dl sl m i&&Jc (m.fields.take i) dl sl (m.fields.getD i dE)):=by
 unfold Q9;rw[List.range_succ,List.all_append];simp
def Zq4{dl sl m i n}(o:i<n)(h:Jc (m.fields.take i) dl sl (m.fields.getD i dE)=false):Q9 dl sl m n=false :=
 List.all_eq_false.2 ⟨i,by simpa using o,by rw[h];simp⟩
def QI.ne{st x bd bs k dl sl}(h:QI st x bd bs k dl sl):x≠bd/\x≠bs :=
 ⟨λe=>by have:=h.x;rw[e,h.bd]at this;simp at this,λe=>by have:=h.x;rw[e,h.bs]at this;simp at this⟩
def QI.updX{st x bd bs k dl sl}(h:QI st x bd bs k dl sl)(k'):QI (st.upd x (.cells (k'.cells bd bs))) x bd bs k' dl sl :=
 ⟨ZHW _ _ _,by rw[ZH0 _ _ h.ne.1.symm];exact h.bd,by rw[ZH0 _ _ h.ne.2.symm];exact h.bs⟩
def Zfh(ok:Bool)(st:St)(x bd bs:Nat)(k:Ck)(dl:List (Str×Int))(sl:List (Str×Bool))(r:Res)(S:St):Prop :=
 if ok then r=.ret (.tup [])/\S=((st.upd x (.cells (k.cells bd bs))).upd bd (.map (KB dl))).upd bs (.map (ZeN sl)) else (∃d,Zeb d/\r=.panic d)/\∀b,b≠x->b≠bd->b≠bs->S b=st b
def ZuZ{ok st x bd bs k dl sl d c}(h:ok=false)(o:Zeb d):Zfh ok st x bd bs k dl sl (.panic d) (st.upd x (.cells c)):=by
 subst h;exact⟨⟨d,o,rfl⟩,λb i _ _=>ZH0 _ _ i⟩
def Zqh{K V}[DecidableEq K]{kp i}{vD:V->D}(h:ZkV kp i)(k:K)(z:D)(l:List (K×V)):Zh9 kp (i k) z (Kc i vD l)=sO ((Zv k l).elim z vD):=by
 induction l with
 |nil=>rfl
 |cons e r ih =>simp only[Kc,ZIo,Zh9,h k e.1,Zv];by_cases o:k=e.1;simp[o];simp only[o,decide_false,if_false];exact ih
def nxS(s1:St)(x z2 z6 z9:Nat)(sb:Bool)(dp:Int):St:=((s1.upd z2 (.cells [.ptr x 0])).upd z6 (.cells [.bool sb])).upd z9 (.cells [.i dp])
structure QV(s1:St)(z2 z6 z9:Nat):Prop where
 n2:s1 z2=none
 n6:z6≠z2/\s1 z6=none
 n9:z9≠z6/\z9≠z2/\s1 z9=none
section
variable {s1:St} {x z2 z6 z9:Nat} {sb:Bool} {dp:Int}
def QV.g2(h:QV s1 z2 z6 z9):(nxS s1 x z2 z6 z9 sb dp) z2=sO (.cells [.ptr x 0]):=by
 simp[nxS,St.upd,h.n6.1.symm,h.n9.2.1.symm]
def QV.g6(h:QV s1 z2 z6 z9):(nxS s1 x z2 z6 z9 sb dp) z6=sO (.cells [.bool sb]):=by
 simp[nxS,St.upd,h.n9.1.symm]
def QV.g9:(nxS s1 x z2 z6 z9 sb dp) z9=sO (.cells [.i dp]):=by
 simp[nxS,St.upd]
def QV.gs(h:QV s1 z2 z6 z9){b o}(i:s1 b=sO o):(nxS s1 x z2 z6 z9 sb dp) b=sO o:=by
 have r:b≠z2:=λe=>by rw[e,h.n2]at i;simp at i
 have t:b≠z6:=λe=>by rw[e,h.n6.2]at i;simp at i
 have u:b≠z9:=λe=>by rw[e,h.n9.2.2]at i;simp at i
 simp[nxS,St.upd,r,t,u,i]
def QV.sub(h:QV s1 z2 z6 z9):s1.sub (nxS s1 x z2 z6 z9 sb dp):=λb o i=>h.gs i
def QV.u9(dp'):(nxS s1 x z2 z6 z9 sb dp).upd z9 (.cells [.i dp'])=nxS s1 x z2 z6 z9 sb dp':=by
 unfold nxS;rw[ZH7]
def QV.u6(h:QV s1 z2 z6 z9)(sb'):(nxS s1 x z2 z6 z9 sb dp).upd z6 (.cells [.bool sb'])=nxS s1 x z2 z6 z9 sb' dp:=by
 unfold nxS;rw[St.upd_comm _ _ h.n9.1.symm,ZH7]
def QV.disj{r i t}(h:Z7 (nxS s1 x z2 z6 z9 sb dp) t):Z7 (nxS s1 x z2 z6 z9 r i) t:=λc o hc=>by
 have:=h c o hc;unfold nxS at this⊢;have k9:=Zn this;have u:=Zn k9.2;rw[ZH0 _ _ k9.1,ZH0 _ _ u.1];exact u.2
def QV.ub(h:QV s1 z2 z6 z9){b o o'}(i:s1 b=sO o):(nxS s1 x z2 z6 z9 sb dp).upd b o'=nxS (s1.upd b o') x z2 z6 z9 sb dp:=by
 have r:b≠z2:=λe=>by rw[e,h.n2]at i;simp at i
 have t:b≠z6:=λe=>by rw[e,h.n6.2]at i;simp at i
 have u:b≠z9:=λe=>by rw[e,h.n9.2.2]at i;simp at i
 unfold nxS;rw[St.upd_comm _ _ u,St.upd_comm _ _ t,St.upd_comm _ _ r]
def QV.of(h:QV s1 z2 z6 z9){b o o'}(i:s1 b=sO o):QV (s1.upd b o') z2 z6 z9:=by
 have r:z2≠b:=λe=>by rw[<-e,h.n2]at i;simp at i
 have t:z6≠b:=λe=>by rw[<-e,h.n6.2]at i;simp at i
 have u:z9≠b:=λe=>by rw[<-e,h.n9.2.2]at i;simp at i
 exact⟨by rw[ZH0 _ _ r];exact h.n2,⟨h.n6.1,by rw[ZH0 _ _ t];exact h.n6.2⟩,⟨h.n9.1,h.n9.2.1,by rw[ZH0 _ _ u];exact h.n9.2.2⟩⟩
end
def ZiT{dl m}(h:∀s,0<=(Zv s dl).getD 0/\(Zv s dl).getD 0<=16):0<=KD dl m/\KD dl m<=16:=by
 unfold KD;have:∀(l:List Str) (b:Int),0<=b->b<=16->0<=l.foldl (λa s=>max a ((Zv s dl).getD 0)) b/\l.foldl (λa s=>max a ((Zv s dl).getD 0)) b<=16:=by
  intro l;induction l with
  |nil=>intro b i o;exact⟨i,o⟩
  |cons s r ih =>intro b i o;have:=h s;exact ih (max b ((Zv s dl).getD 0)) ω ω
 exact this _ 0 ω ω
def ZpF{x bd bs k dl sl st}(hst:QI st x bd bs k dl sl)(hdd:bd≠bs)(hdl:∀s,0<=(Zv s dl).getD 0/\(Zv s dl).getD 0<=16)(m):
  Zf ZHP 282 [.ptr x 0,.agg m.cells] st (Zfh (Zez dl sl m) st x bd bs { k with field:=-1,m:=m } (YY m.name (KD dl m+1) dl) (YY m.name (J2 sl m) sl)):=by
 refine Zh (cR 282 f282) λF hF=>?_;have hS:=Zez.eq_1 dl sl m;have hx:=hst.x;have a5:=hst.ne;refine rx @eQ3 ?_;refine rx (nd2 @eQ3 (nd2 @hx (nd2 @Ck.cells.eq_1 (nd2 @ZHW (nd2 @ZH7 (nd2 @Yv @Yw)))))) ?_;obtain⟨k1,aq⟩:∃k1:Ck,k1={ k with field:=-1,m:=m }:=⟨_,rfl⟩;have r:=hst.updX k1;have az:(st.upd x (.cells [.str k.d.name,Z0 k.d.msgs,.str k.d.start,.map bd,.map bs,.i k.at_,.i (-1),.str m.name,Zp m.fields]))=st.upd x (.cells (k1.cells bd bs)):=by rw[aq];rfl
 rw[az];rw[<-aq]at hF;generalize ad:st.upd x (.cells (k1.cells bd bs))=S1 at *;have e1:=YR (vD:=Y7) ZS m.name dl;have e3:=Y8 ZS m.name;simp only[show K5 m.name=D.str m.name from rfl]at e1 e3;have ag:∀d,Zez dl sl m=false->Zeb d->Zfh (Zez dl sl m) st x bd bs k1 (YY m.name (KD dl m+1) dl) (YY m.name (J2 sl m) sl) (.panic d) S1:=λd h hd=>by rw[<-ad];exact ZuZ h hd
 clear az;refine rx @eQ3 ?_;refine clD (Zas m.name) ?_;refine cVD (ZZ r.x (Yl m.name) 1) ?_ ?_;rintro d S h;obtain⟨ab,rfl,rfl⟩:=YN h;rw[ab,ZIf]at hS;first|refine⟨by first|trivial|exact⟨rfl,trivial⟩,?_⟩|skip
 refine gR0 ?_;refine rh ?_;refine Ye ?_;simp only[Eqs,reduceCtorEq,ZHV,reduceIte,ZHR,ZHY,ZHS,Msg.cells,r.x,r.bd,Ck.cells,e1,e3,Zm0];refine rg ?_;refine cV (ZZ r.x (!(Zv m.name dl).isSome) 2) ?_ ?_;rintro d S h;obtain⟨ab,rfl,rfl⟩:=YN h;rw[ab,ZIf]at hS;refine gR0 ?_;refine rx (nd2 @eQ3 (nd2 @eQ4 @eQ1)) ?_;refine cV (ZZ r.x (dC (1<=(I m.fields:Int))&&dC ((I m.fields:Int)<=40)) 3) ?_ ?_;rintro d S h;obtain⟨ab,rfl,rfl⟩:=YN h;rw[ab,ZIf]at hS;simp only[ZH1,decide_eq_true_eq]at ab;refine gR0 ?_;refine rg ?_;refine rx (nd2 @eQ3 (nd2 @eQ4 @eQ1)) ?_;subst aq;refine Zb (fr (I m.fields) (λi Q=>∀fl:Int,Q9 dl sl m i=true->i<=I m.fields->Q [(2,.loc 2 0),(3,.loc 3 0),(6,.loc 6 0),(50,.d (Zp m.fields)),(51,.d (.i (I m.fields))),(52,.d (.i i))] [(2,[.ptr x 0]),(3,m.cells),(6,[.bool ((m.fields.take i).all λf=>!f.loose)])] (st.upd x (.cells (({ k with field:=fl,m:=m }:Ck).cells bd bs)))) (λn am=>?_) λbh=>?_);intro i hn fl ak hi;refine rg ?_;refine Zd (Zj rfl trivial (λh1=>?_) (λh1=>?_));simp at h1;have hR:=Zq5 ak hi;have au:=ZjI (dl:=dl) (sl:=sl) (m:=m) (i:=i);have af:=ZhZ (p:=λf:Fld=>!f.loose) h1;generalize hf:m.fields.getD i dE=f at *;refine xA (nd2 @eQ4 (nd2 @eQ1 (nd2 @eQ0 @hf))) ?_;refine rx (nd2 @eQ0 (nd2 @Ck.cells.eq_1 (nd2 @ZHW (nd2 @ZH7 (nd2 @Yv @Yw))))) ?_;have bf:=hst.updX ({ k with field:=(i:Int),m:=m }:Ck);refine rx @eQ0 ?_;simp only[Zej];refine cV (ZlH bf (n:=i) rfl hi f (hR _)) ?_ ?_;rintro d S2 h;obtain⟨ai,rfl,rfl⟩:=YN h;refine gR0 ?_;refine rx @eQ0 ?_;refine gA ?_;rw[show(m.fields.take i)=({ k with field:=(i:Int),m:=m }:Ck).m.fields.take i from rfl]at au;rw[ai,Bool.and_true]at au;refine Za ?_;have ah:=am ((I m.fields)-(i+1)) ω (i+1) rfl i (au.trans ak) ω;rw[af]at ah;exact ah;rintro d S2 h;obtain⟨ai,ac,rfl⟩:=YM h;rw[Zq4 h1 (by rw[hf];exact ai),ZIl]at hS;exact hF.pan _ ZHU (ZuZ hS ac);simp at h1;obtain rfl:i=I m.fields:=ω;rw[ZIb];rw[ak,ZIf]at hS;have ar:=Zso ak ω;refine rx (nd2 @Ck.cells.eq_1 (nd2 @ZHW (nd2 @ZH7 (nd2 @Yv @Yw)))) ?_;refine rg ?_;refine Zd (Zd ?_);refine xP 2 λz2 h2=>?_;refine xP 6 λz6 h6=>?_;refine xP 9 λz9 h9=>?_;have k6:=Zn h6;have k9:=Zn h9;have av:=Zn k9.2;have a0:(st.upd x (.cells [.str k.d.name,Z0 k.d.msgs,.str k.d.start,.map bd,.map bs,.i k.at_,.i (-1),.str m.name,Zp m.fields]))=S:=ad;rw[a0]at h2 k6 k9 av⊢;have u:QV S z2 z6 z9:=⟨h2,k6,⟨k9.1,av⟩⟩;clear h6 h9 k6 k9 av h2;have hlen:(Y9 m).length<=1000000:=by have:=QS (m.fields.flatMap Ya) [];unfold Y9;simp only[List.length_nil,Nat.zero_add]at this;omega
 have hmst:S.sub (nxS S x z2 z6 z9 (m.fields.all λf=>!f.loose) 0):=u.sub;rw[show((S.upd z2 (.cells [.ptr x 0])).upd z6 (.cells [.bool (m.fields.all λf=>!f.loose)])).upd z9 (.cells [.i 0])=nxS S x z2 z6 z9 (m.fields.all λf=>!f.loose) 0 from rfl];refine rx @eQ3 ?_;refine cV (Zm5 m ar) ?_ ?_;rintro d S2 ⟨y,hy,hd,rfl⟩;cases hd;refine gR0 ?_;refine Zb ?_;have bb:ddS (m.fields.flatMap Ya)=Y9 m:=rfl;have a3:=Zke (m.fields.flatMap Ya) (by unfold big;omega) y;rw[bb]at a3;refine Qh hF rfl trivial [2,6,9] (by show([2,6,9]:List Nat).Nodup;decide) (Ko hy) a3.Y (λj hj=>rfl) (λ_=>.next)
  (λj a=>a=nxS S x z2 z6 z9 ((m.fields.all λf=>!f.loose)&&((Y9 m).take j).all λs=>(Zv s sl).getD false) (((Y9 m).take j).foldl (λa s=>max a ((Zv s dl).getD 0)) 0)) ψ ?_ ?_ ?_ ?_ ?_ ?_
 intro j a hj al hB F' ready busy hdr a2 an;subst hB;simp only[Eqs,reduceCtorEq,ZHV,reduceIte,ZHR,ZHY,ZHS,KG,K0,J8,Qj,List.isEmpty_nil,List.isEmpty_cons];refine rg ?_;refine a2 λba=>?_;have af:=ZhZ (p:=λs:Str=>(Zv s sl).getD false) hj;have ap:=ZvD (f:=λa s=>max a ((Zv s dl).getD 0)) (b:=(0:Int)) hj;generalize hnm:(Y9 m).getD j dE=nm at *;have e1:=YR (vD:=Y7) ZS nm dl;have e2:=YR (vD:=D.bool) ZS nm sl;have e3:=Y8 ZS nm;simp only[show K5 nm=D.str nm from rfl]at e1 e2 e3;rw[af,ap]at an;generalize ((Y9 m).take j).foldl (λa s=>max a ((Zv s dl).getD 0)) 0=dp at *;generalize ((Y9 m).take j).all (λs=>(Zv s sl).getD false)=sb at *;generalize (m.fields.all λf=>!f.loose)=lo at *;refine rh ?_;refine Ye ?_;simp only[Eqs,reduceCtorEq,ZHV,reduceIte,ZHR,ZHY,ZHS,Zt (u.g2 ),Zt (QV.g9 ),Zt (u.gs r.x),Zt (u.gs r.bd),Ck.cells,e1,e3,Zfc,W5,QV.u9];refine rh ?_;refine Zk ?_;simp only[Eqs,reduceCtorEq,ZHV,reduceIte,ZHR,ZHY,ZHS,Zt (u.g2 ),Zt (u.g6 ),Zt (u.gs r.x),Zt (u.gs r.bs),Ck.cells,e2,e3,ZmZ,W5,u.u6];refine Zi ?_;exact an.fin ⟨rfl,by rw[<-Bool.and_assoc]⟩ (QV.disj ba) ZHU;intro q a al hB hq;subst hB;rw[ZIb]at hq⊢;rw[QD hq];rw[show((m.fields.all λf=>!f.loose)&&(Y9 m).all λs=>(Zv s sl).getD false)=J2 sl m from rfl,show(Y9 m).foldl (λa s=>max a ((Zv s dl).getD 0)) 0=KD dl m from rfl]at hq⊢;have hdp:=ZiT (m:=m) hdl;generalize J2 sl m=sb at *;generalize KD dl m=dp at *;have aw:=Zt (t:=ZIk q .dfr) (u.g2 (x:=x) (sb:=sb) (dp:=dp));have a7:=Zt (t:=ZIk q .dfr) (u.g6 (x:=x) (sb:=sb) (dp:=dp));have ax:=Zt (t:=ZIk q .dfr) (QV.g9 (s1:=S) (x:=x) (z2:=z2) (z6:=z6) (z9:=z9) (sb:=sb) (dp:=dp));have ay:=Zt (t:=ZIk q .dfr) (u.gs (x:=x) (sb:=sb) (dp:=dp) r.x);have a8:=Zt (t:=ZIk q .dfr) (u.gs (x:=x) (sb:=sb) (dp:=dp) r.bd);have a9:=Zt (t:=ZIk q .dfr) (u.gs (x:=x) (sb:=sb) (dp:=dp) r.bs);generalize hX:(nxS S x z2 z6 z9 sb dp).or (ZIk q .dfr)=X at *;have n2:∀b o,S b=sO o->z2≠b:=λb o h e=>by rw[<-e,u.n2]at h;simp at h
 have n6:∀b o,S b=sO o->z6≠b:=λb o h e=>by rw[<-e,u.n6.2]at h;simp at h
 have n9:∀b o,S b=sO o->z9≠b:=λb o h e=>by rw[<-e,u.n9.2.2]at h;simp at h
 have u2:∀(Y:St) o,(Y.upd bd o) z2=Y z2:=λY o=>ZH0 _ _ (n2 _ _ r.bd);have u6:∀(Y:St) o,(Y.upd bd o) z6=Y z6:=λY o=>ZH0 _ _ (n6 _ _ r.bd);have u9:∀(Y:St) o,(Y.upd bd o) z9=Y z9:=λY o=>ZH0 _ _ (n9 _ _ r.bd);have ux:∀(Y:St) o,(Y.upd bd o) x=Y x:=λY o=>ZH0 _ _ a5.1;have us:∀(Y:St) o,(Y.upd bd o) bs=Y bs:=λY o=>ZH0 _ _ hdd.symm;have v2:∀(Y:St) o,(Y.upd bs o) z2=Y z2:=λY o=>ZH0 _ _ (n2 _ _ r.bs);have v6:∀(Y:St) o,(Y.upd bs o) z6=Y z6:=λY o=>ZH0 _ _ (n6 _ _ r.bs);have v9:∀(Y:St) o,(Y.upd bs o) z9=Y z9:=λY o=>ZH0 _ _ (n9 _ _ r.bs);have vx:∀(Y:St) o,(Y.upd bs o) x=Y x:=λY o=>ZH0 _ _ a5.2;have d1:=Zqh (vD:=Y7) ZS m.name (D.i 0) dl;have d2:=Zay (vD:=Y7) ZS m.name (dp+1) dl;have s1:=Zqh (vD:=D.bool) ZS m.name (D.bool false) sl;have s2:=Zay (vD:=D.bool) ZS m.name sb sl;simp only[show K5 m.name=D.str m.name from rfl,show Y7 (dp+1)=D.i (dp+1) from rfl]at d1 d2 s1 s2;refine xA (nd2 @eQ3 (nd2 @aw (nd2 @a7 (nd2 @ax (nd2 @ay (nd2 @a8 (nd2 @a9 (nd2 @u2 (nd2 @u6 (nd2 @u9 (nd2 @ux (nd2 @us (nd2 @v2 (nd2 @v6 (nd2 @v9 (nd2 @vx (nd2 @d1 (nd2 @d2 (nd2 @s1 (nd2 @s2 (nd2 @e3 (nd2 @Ck.cells.eq_1 (nd2 @ZHW (nd2 @ZH7 (nd2 @Yv @Yw))))))))))))))))))))))))) ?_;refine rx (nd2 @u2 (nd2 @v2 (nd2 @aw (nd2 @u9 (nd2 @v9 @ax))))) ?_;have a1:(X.upd bd (.map (Kc K5 Y7 (YY m.name (dp+1) dl)))).upd bs (.map (Kc K5 D.bool (YY m.name sb sl)))=(nxS ((S.upd bd (.map (KB (YY m.name (dp+1) dl)))).upd bs (.map (ZeN (YY m.name sb sl)))) x z2 z6 z9 sb dp).or (ZIk q .dfr):=by rw[<-hX,W5,W5,u.ub r.bd,(u.of r.bd).ub (by rw[us];exact r.bs)]
 have ao:QV ((S.upd bd (.map (KB (YY m.name (dp+1) dl)))).upd bs (.map (ZeN (YY m.name sb sl)))) z2 z6 z9:=(u.of r.bd).of (by rw[us];exact r.bs);have a6:(nxS ((S.upd bd (.map (KB (YY m.name (dp+1) dl)))).upd bs (.map (ZeN (YY m.name sb sl)))) x z2 z6 z9 sb dp) q=nO:=by
  have bc:q≠bs:=λe=>by have:=u.gs (x:=x) (sb:=sb) (dp:=dp) r.bs;rw[<-e,hq]at this;simp at this
  have be:q≠bd:=λe=>by have:=u.gs (x:=x) (sb:=sb) (dp:=dp) r.bd;rw[<-e,hq]at this;simp at this
  rw[<-(u.of r.bd).ub (by rw[us];exact r.bs),<-u.ub r.bd,ZH0 _ _ bc,ZH0 _ _ be];exact hq
 have bg:((X.upd bd (.map (Kc K5 Y7 (YY m.name (dp+1) dl)))).upd bs (.map (Kc K5 D.bool (YY m.name sb sl)))) x=sO (.cells (({ k with field:=-1,m:=m }:Ck).cells bd bs)):=by rw[vx,ux];exact ay
 refine cV (ZZ bg (dC (dp<16)) 10) ?_ ?_;rintro d S3 h;obtain⟨aj,rfl,rfl⟩:=YN h;rw[aj]at hS;refine gR0 ?_;rw[a1];exact hF.fin1 a6 (.tup []) _ rfl trivial (ZHT _) ao.sub (by rw[hS];exact⟨rfl,by rw[<-ad]⟩);rintro d S3 h;obtain⟨aj,ac,rfl⟩:=YM h;rw[aj]at hS;rw[a1];exact hF.pan1 a6 _ ao.sub (by rw[hS];exact⟨⟨d,ac,rfl⟩,λb h1 h2 h3=>by rw[ZH0 _ _ h3,ZH0 _ _ h2,<-ad,ZH0 _ _ h1]⟩);intro q a m hm al ae;simp at ae;intro q a m id hm al ae;simp at ae;intro q a m d hm al ae;simp at ae;intro m c ae;simp at ae;rintro d S2 ⟨y,hy,hd,_⟩;cases hd;have a4:=bh _ 0 rfl (-1) (by simp[Q9]) ω;rw[ad]at a4;exact a4;rintro d S h;obtain⟨ab,ac,rfl⟩:=YM h;rw[ab,ZIl]at hS;exact hF.pan _ ZHU (ag _ hS ac);rintro d S h;obtain⟨ab,ac,rfl⟩:=YM h;rw[ab,ZIl]at hS;exact hF.pan _ ZHU (ag _ hS ac);rintro d S h;obtain⟨ab,ac,rfl⟩:=YM h;rw[ab,ZIl]at hS;exact hF.pan _ ZHU (ag _ hS ac)
def Zp4{P}{F:Fr P}{H L d s}(h:DWf d->WB F H L d s):WB F H L d s :=
 λg Z w v i tmps r m o=>h o.wf g Z w v i tmps r m o
def DWf.iface_inv{t d}(h:DWf (.iface t d)):DWf d:=by
 cases h with
 |iface _ _ h=>exact h
 |other _ h=>exact absurd h ψ
def ZaM{P i args m s Ψ Ψ'}(h:ZaB P i args m s Ψ)(hi:∀b S,Ψ b S->Ψ' b S):ZaB P i args m s Ψ' :=
 ⟨h.1,λg w vs cf cs h1 h2 h3=>by
  obtain⟨g',w',s',b,o,r,t,u⟩:=h.2 g w vs cf cs h1 h2 h3;exact⟨g',w',s',b,o,r,hi _ _ t,u⟩⟩
def Zg6{z3 z4 c b st}(h3:st z3=sO c)(h4:st z4=sO (.cells [.bool b])):
  ZaB ZHP 280 [.ptr z3 0,.ptr z4 0] nO st λ_ S=>S=st:=by
 refine Zbe (cR 280 f280) rfl ψ λF i=>?_;refine rg ?_;refine ZgI i rfl rfl ?_;refine gR0 ?_;refine rg ?_;refine cd (λh=>?_) (λh=>?_);simp at h;refine Zo ?_;exact i.fin ZHU rfl
def Zg7{z3 z4 b st}(hz:z3≠z4)(x y z)(hx:inR .i64 x)(hy:inR .i64 y)(hw:inR .i64 z)(h3:st z3=sO (.cells [.i 0,.i 0,.i 0]))(t:st z4=sO (.cells [.bool b])):
  ZaB ZHP 280 [.ptr z3 0,.ptr z4 0] (sO (Zic x y z)) st λb S=>b=true/\S=(st.upd z3 (.cells [.i x,.i y,.i z])).upd z4 (.cells [.bool true]):=by
 refine Zbe (cR 280 f280) rfl (by rintro d ⟨⟩;exact⟨hx,hy,hw,trivial⟩) λF hF=>?_;have i:∀o,(st.upd z3 o) z4=sO (.cells [.bool b]):=λo=>by rw[ZH0 _ _ (Ne.symm hz)];exact t
 refine rg ?_;refine Znh hF rfl rfl λF2 r=>?_;refine gR0 ?_;refine rx @Zic.eq_1 ?_;refine cd (λh=>?_) (λh=>?_);refine rx (nd2 @Zic.eq_1 (nd2 @h3 (nd2 @t (nd2 @i (nd2 @ZHW (nd2 @ZH7 (nd2 @Yv @Yw))))))) ?_;refine rx (nd2 @t (nd2 @i (nd2 @ZHW (nd2 @ZH7 (nd2 @Yv @Yw))))) ?_;refine cd (λu=>?_) (λu=>?_);simp at u;refine Zo ?_;exact r.fin ZHU ⟨rfl,rfl⟩;simp[Zic]at h
def Zdi(dl:List (Str×Int))(sl:List (Str×Bool)):List Msg->Option (List (Str×Int)×List (Str×Bool))
 | []=>sO (dl,sl)
 |m::r=>if Zez dl sl m then Zdi (YY m.name (KD dl m+1) dl) (YY m.name (J2 sl m) sl) r else nO
def Zem(d:Dfn):Bool :=
 Yl d.name&&((dC (1<=(I d.msgs:Int))&&dC ((I d.msgs:Int)<=60))&&(Zdi [] [] d.msgs).elim false λp=>(Zv d.start p.1).isSome)
def Zml(dl sl l l'):Zdi dl sl (l++l')=(Zdi dl sl l).elim nO λp=>Zdi p.1 p.2 l':=by
 induction l generalizing dl sl with
 |nil=>rfl
 |cons m r ih =>simp only[List.cons_append,Zdi];split;exact ih _ _;rfl
def ZqG{l:List Msg}{i dl sl}(h:Zdi [] [] (l.take i)=sO (dl,sl))(o:i<I l):Zdi [] [] (l.take (i+1))=if Zez dl sl (l.getD i dE) then sO (YY (l.getD i dE).name (KD dl (l.getD i dE)+1) dl,YY (l.getD i dE).name (J2 sl (l.getD i dE)) sl) else nO:=by
 rw[ZQ o,Zml,h];rfl
def Zzs{l i dl sl}(h:Zdi [] [] (l.take i)=sO (dl,sl))(t:i<I l)(r:Zez dl sl (l.getD i dE)=false):Zdi [] [] l=nO:=by
 have o:=ZqG h t;rw[r]at o;rw[<-List.take_append_drop (i+1) l,Zml,o];rfl
structure ZbQ(S st:St)(x bd bs z3 z4:Nat)(k:Ck)(dl:List (Str×Int))(sl:List (Str×Bool)):Prop where
 ck:QI S x bd bs k dl sl
 c3:S z3=some (.cells [.i 0,.i 0,.i 0])
 c4:S z4=some (.cells [.bool false])
 sub:st.sub S
 fx:st x=none
 fd:st bd=none
 fs:st bs=none
 f3:st z3=none
 f4:st z4=none
 nd:bd≠bs
 n34:z3≠z4
section
variable {S st:St} {x bd bs z3 z4:Nat} {k:Ck} {dl:List (Str × Int)} {sl:List (Str × Bool)}
def ZbQ.n3(h:ZbQ S st x bd bs z3 z4 k dl sl):z3≠x/\z3≠bd/\z3≠bs:=by
 refine⟨λe=>?_,λe=>?_,λe=>?_⟩;have i:=h.c3;rw[e,h.ck.x]at i;simp[Ck.cells]at i;have i:=h.c3;rw[e,h.ck.bd]at i;simp at i;have i:=h.c3;rw[e,h.ck.bs]at i;simp at i
def ZbQ.n4(h:ZbQ S st x bd bs z3 z4 k dl sl):z4≠x/\z4≠bd/\z4≠bs:=by
 refine⟨λe=>?_,λe=>?_,λe=>?_⟩;have i:=h.c4;rw[e,h.ck.x]at i;simp[Ck.cells]at i;have i:=h.c4;rw[e,h.ck.bd]at i;simp at i;have i:=h.c4;rw[e,h.ck.bs]at i;simp at i
def ZbQ.move(h:ZbQ S st x bd bs z3 z4 k dl sl){S':St}{k':Ck}{dl':List (Str×Int)}{sl':List (Str×Bool)}(r:QI S' x bd bs k' dl' sl')(i:∀b,b≠x->b≠bd->b≠bs->S' b=S b):ZbQ S' st x bd bs z3 z4 k' dl' sl':={
 ck:=r
 c3:=by rw[i _ h.n3.1 h.n3.2.1 h.n3.2.2];exact h.c3
 c4:=by rw[i _ h.n4.1 h.n4.2.1 h.n4.2.2];exact h.c4
 sub b o hb:=by rw[i b (λe=>by rw[e,h.fx]at hb;simp at hb) (λe=>by rw[e,h.fd]at hb;simp at hb) (λe=>by rw[e,h.fs]at hb;simp at hb)];exact h.sub b o hb
 fx:=h.fx
 fd:=h.fd
 fs:=h.fs
 f3:=h.f3
 f4:=h.f4
 nd:=h.nd
 n34:=h.n34 }
def ZbQ.updX(h:ZbQ S st x bd bs z3 z4 k dl sl)(k'):ZbQ (S.upd x (.cells (k'.cells bd bs))) st x bd bs z3 z4 k' dl sl :=
 h.move (h.ck.updX k') λb i _ _=>ZH0 _ _ i
def ZbQ.bad(h:ZbQ S st x bd bs z3 z4 k dl sl){S':St}(ho:∀b,b≠x->b≠bd->b≠bs->S' b=S b){F:Fr ZHP}(hF:Y0 F [.tmp 2,.cellN 3 3,.cell1 4] (λr S=>S=st/\∃a f c,r=Res.ret (.tup [.any,.agg [.i a,.i f,.i c],.bool true])) [.fn 280 [] [.ptr z3 0,.ptr z4 0]]){d:D}(hd:Zeb d)(hr:∀s' c3,s' z3=sO (.cells c3)->I c3=3->s' z4=sO (.cells [.bool true])->∃p,YP H L s' [.tmp 2,.cellN 3 3,.cell1 4]=sO (p,[.ptr x 0,.agg c3,.bool true])/\p):WB F H L d S':=by
 obtain⟨a,f,c,rfl⟩:=hd;refine Zp4 λhw=>?_;have i:=DWf.agg_inv (DWf.iface_inv hw);have h1:inR .i64 a:=(i _ ψ).int_inv;have h2:inR .i64 f:=(i _ ψ).int_inv;have h3:inR .i64 c:=(i _ ψ).int_inv;have ab:S' z3=sO (.cells [.i 0,.i 0,.i 0]):=by rw[ho _ h.n3.1 h.n3.2.1 h.n3.2.2];exact h.c3
 have ac:S' z4=sO (.cells [.bool false]):=by rw[ho _ h.n4.1 h.n4.2.1 h.n4.2.2];exact h.c4
 refine hF.panU ⟨trivial,⟨rfl,rfl,trivial⟩,ZaM (Zg7 h.n34 a f c h1 h2 h3 ab ac) ?_⟩;rintro b S2 ⟨rfl,rfl⟩;obtain⟨p,t,u⟩:=hr ((S'.upd z3 (.cells [.i a,.i f,.i c])).upd z4 (.cells [.bool true])) [.i a,.i f,.i c] (by rw[ZH0 _ _ h.n34,ZHW]) rfl (ZHW _ _ _);refine⟨p,_,_,st,t,u,?_,?_,rfl,a,f,c,rfl⟩;exact Zdz rfl (.cons (λ_ _ v _=>.any v) (LeC.refl _));intro b o hb;have e1:b≠z3:=λe=>by rw[e,h.f3]at hb;simp at hb
 have e2:b≠z4:=λe=>by rw[e,h.f4]at hb;simp at hb
 rw[ZH0 _ _ e2,ZH0 _ _ e1];rw[ho b (λe=>by rw[e,h.fx]at hb;simp at hb) (λe=>by rw[e,h.fd]at hb;simp at hb) (λe=>by rw[e,h.fs]at hb;simp at hb)];exact h.sub b o hb
end
def ZbQ.mk0{st bd bs x z3 z4 c}(t:st bd=nO)(hbs:st.upd bd (.map []) bs=nO)(hx:(st.upd bd (.map [])).upd bs (.map []) x=nO)(h3:((st.upd bd (.map [])).upd bs (.map [])).upd x (.cells c) z3=nO)(h4:(((st.upd bd (.map [])).upd bs (.map [])).upd x (.cells c)).upd z3 (.cells [.i 0,.i 0,.i 0]) z4=nO)(k):
  ((((st.upd bd (.map [])).upd bs (.map [])).upd x (.cells c)).upd z3 (.cells [.i 0,.i 0,.i 0])).upd z4 (.cells [.bool false]) x=sO (.cells c) /\
  ZbQ ((((((st.upd bd (.map [])).upd bs (.map [])).upd x (.cells c)).upd z3 (.cells [.i 0,.i 0,.i 0])).upd z4 (.cells [.bool false])).upd x (.cells (k.cells bd bs))) st x bd bs z3 z4 k [] []:=by
 have a4:=Zn h4;have b4:=Zn a4.2;have c4:=Zn b4.2;have d4:=Zn c4.2;have u:=Zn h3;have b3:=Zn u.2;have c3:=Zn b3.2;have ax:=Zn hx;have r:=Zn ax.2;have i:=Zn hbs;refine⟨?_,⟨⟨?_,?_,?_⟩,?_,?_,?_,?_,?_,?_,?_,?_,?_,?_⟩⟩;rw[ZH0 _ _ b4.1.symm,ZH0 _ _ u.1.symm,ZHW];exact ZHW _ _ _;rw[ZH0 _ _ r.1.symm,ZH0 _ _ d4.1.symm,ZH0 _ _ c3.1.symm,ZH0 _ _ r.1.symm,ZH0 _ _ i.1.symm,ZHW];rfl;rw[ZH0 _ _ ax.1.symm,ZH0 _ _ c4.1.symm,ZH0 _ _ b3.1.symm,ZH0 _ _ ax.1.symm,ZHW];rfl;rw[ZH0 _ _ u.1,ZH0 _ _ a4.1.symm,ZHW];rw[ZH0 _ _ b4.1,ZHW];intro b o hb;have e:∀y,st y=nO->b≠y:=λy hy e=>by rw[e,hy]at hb;simp at hb
 rw[ZH0 _ _ (e _ r.2),ZH0 _ _ (e _ d4.2),ZH0 _ _ (e _ c3.2),ZH0 _ _ (e _ r.2),ZH0 _ _ (e _ i.2),ZH0 _ _ (e _ t)];exact hb;exact r.2;exact t;exact i.2;exact c3.2;exact d4.2;exact i.1.symm;exact a4.1.symm
def ZvK{c:List D}(h:I c=3):∃a b d,c=[a,b,d]:=by
 match c,h with
 | [a,b,d],_=>exact⟨a,b,d,rfl⟩
def Zkf(d st):
  Zf ZHP 227 [.agg d.cells] st λr S=>S=st/\∃a f c,r=.ret (.tup [.any,.agg [.i a,.i f,.i c],.bool (!Zem d)]):=by
 refine Zh (cR 227 f227) λF hF=>?_;have hS:=Zem.eq_1 d;refine rx @eQ2 ?_;refine rx @eQ2 ?_;intro bd aj bs ak;refine Zd ?_;refine xP 13 λx hx=>?_;refine xP 3 λz3 h3=>?_;refine xP 4 λz4 h4=>?_;refine rg ?_;refine Zmu (by obtain⟨_,_,_,_,_,_,rfl⟩:=hF;rfl) rfl rfl rfl rfl rfl rfl trivial trivial ?_ ?_ ?_;trivial;exact⟨rfl,rfl,trivial⟩;have ac:=hF.defer 280 [] [.ptr z3 0,.ptr z4 0];clear hF;refine gR0 ?_;generalize F.defer 280 [] [.ptr z3 0,.ptr z4 0]=F at ac⊢;obtain⟨ar,ab⟩:=ZbQ.mk0 aj ak hx h3 h4 ⟨d,-1,-1,⟨[],[]⟩⟩;refine Q3 ar (ds':=Ck.cells ⟨d,-1,-1,⟨[],[]⟩⟩ bd bs) (.cons (ZHT _) (.cons (ZHT _) (.cons (ZHT _) (.cons (ZHT _) (.cons (ZHT _) (.cons (ZHT _) (.cons (ZHT _) (.cons (ZHT _) (.cons (Z1 λb h=>by cases h) .nil))))))))) ?_;generalize (St.upd (St.upd (St.upd (St.upd (St.upd (St.upd st _ _) _ _) _ _) _ _) _ _) _ _)=S at *;clear aj ak hx h3 h4 ar;refine rx @eQ2 ?_;refine cl (Zas d.name) ?_;refine cV (ZZ ab.ck.x (Yl d.name) 1) ?_ ?_;rintro dd S2 h;obtain⟨u,rfl,rfl⟩:=YN h;rw[u,ZIf]at hS;refine gR0 ?_;refine rx (nd2 @eQ2 (nd2 @eQ6 @eQ1)) ?_;refine cV (ZZ ab.ck.x (dC (1<=(I d.msgs:Int))&&dC ((I d.msgs:Int)<=60)) 3) ?_ ?_;rintro dd S2 h;obtain⟨u,rfl,rfl⟩:=YN h;rw[u,ZIf]at hS;simp only[ZH1,decide_eq_true_eq]at u;have hlen:=u.2;refine gR0 ?_;refine rx (nd2 @eQ2 (nd2 @eQ6 @eQ1)) ?_;generalize ao:(⟨d,-1,-1,⟨[],[]⟩⟩:Ck)=k0 at *;have av:k0.d=d:=by rw[<-ao]
 clear ao;refine Zb (fr (I d.msgs) (λi Q=>∀(S:St) (k:Ck) dl sl,ZbQ S st x bd bs z3 z4 k dl sl->k.d=d->Zdi [] [] (d.msgs.take i)=sO (dl,sl)->(∀s,0<=(Zv s dl).getD 0/\(Zv s dl).getD 0<=16)->i<=I d.msgs->Q [(1,.loc 1 0),(2,.d (.ptr x 0)),(3,.d (.ptr z3 0)),(4,.d (.ptr z4 0)),(33,.d (Z0 d.msgs)),(34,.d (.i (I d.msgs))),(35,.d (.i i))] [(1,d.cells)] S) (λn ag=>?_) λay=>?_);intro i hni S k dl sl ab aw ae ah hi;refine rg ?_;refine Zd (Zj rfl trivial (λh1=>?_) (λh1=>?_));simp at h1;refine xA (nd2 @eQ6 (nd2 @eQ1 @eQ3)) ?_;refine rx (nd2 @ab.ck.x (nd2 @Ck.cells.eq_1 (nd2 @ZHW (nd2 @ZH7 (nd2 @Yv @Yw))))) ?_;have af:(S.upd x (.cells [.str k.d.name,Z0 k.d.msgs,.str k.d.start,.map bd,.map bs,.i i,.i k.field,.str k.m.name,Zp k.m.fields]))=S.upd x (.cells (({ k with at_:=i }:Ck).cells bd bs)):=rfl;rw[af];have t:=ab.updX { k with at_:=i };generalize S.upd x (.cells (({ k with at_:=i }:Ck).cells bd bs))=S1 at *;have an:({ k with at_:=(i:Int) }:Ck).d=d:=aw;clear af ab;generalize ({ k with at_:=i }:Ck)=k1 at *;have aq:=ZqG ae h1;have ax:=Zzs ae h1;generalize hm:d.msgs.getD i dE=m at *;refine rx @hm ?_;rw[show(D.agg [.str m.name,Zp m.fields])=.agg m.cells from rfl];refine cV (ZpF t.ck t.nd ah m) ?_ ?_;rintro dd S2 h;unfold Zfh at h;split at h;rename_i u;rw[if_pos u]at aq;obtain⟨h4,h5⟩:=h;cases h4;have am:=t.move (S':=S2) (k':={ k1 with field:=-1,m:=m }) (dl':=YY m.name (KD dl m+1) dl) (sl':=YY m.name (J2 sl m) sl) (by
   subst h5;have ap:=t.ck.ne;exact⟨by rw[ZH0 _ _ ap.2,ZH0 _ _ ap.1,ZHW],by rw[ZH0 _ _ t.nd,ZHW],ZHW _ _ _⟩) (λb h1 h2 h3=>by rw[h5,ZH0 _ _ h3,ZH0 _ _ h2,ZH0 _ _ h1])
 have al:∀s,0<=(Zv s (YY m.name (KD dl m+1) dl)).getD 0/\(Zv s (YY m.name (KD dl m+1) dl)).getD 0<=16:=λs=>by
  rw[WZ];split;have hd16:=ZiT (m:=m) ah;have:KD dl m<16:=by unfold Zez at u;simp only[ZH1,decide_eq_true_eq]at u;exact u.2.2.2.2
  simp only[ZIr];omega;exact ah s
 clear h5;refine gR0 ?_;refine gA ?_;refine Za ?_;exact ag ((I d.msgs)-(i+1)) ω (i+1) rfl _ _ _ _ am an aq al ω;exact absurd h.1 ψ;rintro dd S2 h;unfold Zfh at h;split at h;exact absurd h.1 ψ;rename_i ai;obtain⟨⟨d2,ad,h4⟩,h5⟩:=h;cases h4;have hb:Zez dl sl m=false:=by simpa using ai
 rw[ax hb]at hS;exact t.bad h5 (by rw[hS]at ac;exact ac) ad (λs' c3 h1 h2 h3=>by obtain⟨u1,u2,u3,rfl⟩:=ZvK h2;refine⟨_,by simp only[Eqs,reduceCtorEq,ZHV,reduceIte,ZHR,ZHY,ZHS,YP,K7,h1,h3];rfl,?_⟩;trivial);simp at h1;obtain rfl:i=I d.msgs:=ω;rw[ZIb]at ae;rw[ae]at hS;simp only[Option.elim]at hS;refine rx (nd2 @ab.ck.x (nd2 @Ck.cells.eq_1 (nd2 @ZHW (nd2 @ZH7 (nd2 @Yv @Yw))))) ?_;have af:(S.upd x (.cells [.str k.d.name,Z0 k.d.msgs,.str k.d.start,.map bd,.map bs,.i (-1),.i k.field,.str k.m.name,Zp k.m.fields]))=S.upd x (.cells (({ k with at_:=-1 }:Ck).cells bd bs)):=rfl;rw[af];have t:=ab.updX { k with at_:=-1 };generalize S.upd x (.cells (({ k with at_:=-1 }:Ck).cells bd bs))=S1 at *;clear af ab;generalize ({ k with at_:=-1 }:Ck)=k1 at *;have e1:=YR (vD:=Y7) ZS d.start dl;have e3:=Y8 ZS d.start;simp only[show K5 d.start=D.str d.start from rfl]at e1 e3;refine rh ?_;refine Ye ?_;simp only[Eqs,reduceCtorEq,ZHV,reduceIte,ZHR,ZHY,ZHS,Dfn.cells,t.ck.x,t.ck.bd,Ck.cells,e1,e3,Zm0];refine rg ?_;refine cV (ZZ t.ck.x (Zv d.start dl).isSome 11) ?_ ?_;rintro dd S2 h;obtain⟨u,rfl,rfl⟩:=YN h;rw[u]at hS;refine gR0 ?_;have au:∀o,(S2.upd z3 o) z4=sO (.cells [.bool false]):=λo=>by rw[ZH0 _ _ t.n34.symm];exact t.c4
 refine rx (nd2 @t.c3 (nd2 @t.c4 (nd2 @au (nd2 @ZHW (nd2 @ZH7 (nd2 @Yv @Yw)))))) ?_;refine ac.retU ⟨trivial,⟨rfl,rfl,trivial⟩,ZaM (Zg6 (by rw[ZH0 _ _ t.n34,ZHW]) (ZHW _ _ _)) ?_⟩;rintro b S3 rfl;rw[ite_self];have g3:((S2.upd z3 (.cells [.i 0,.i 0,.i 0])).upd z4 (.cells [.bool false])) z3=sO (.cells [.i 0,.i 0,.i 0]):=by rw[ZH0 _ _ t.n34,ZHW]
 have g4:((S2.upd z3 (.cells [.i 0,.i 0,.i 0])).upd z4 (.cells [.bool false])) z4=sO (.cells [.bool false]):=ZHW _ _ _;refine⟨_,[.ptr x 0,.agg [.i 0,.i 0,.i 0],.bool false],.tup [.any,.agg [.i 0,.i 0,.i 0],.bool false],st,by simp only[Eqs,reduceCtorEq,ZHV,reduceIte,ZHR,ZHY,ZHS,YP,K7,g3,g4];rfl,φ,?_,?_,rfl,0,0,0,by rw[hS];rfl⟩;exact Zdz rfl (.cons (λ_ _ v _=>.any v) (LeC.refl _));intro b o hb;have e1:b≠z3:=λe=>by rw[e,t.f3]at hb;simp at hb
 have e2:b≠z4:=λe=>by rw[e,t.f4]at hb;simp at hb
 rw[ZH0 _ _ e2,ZH0 _ _ e1];exact t.sub b o hb;rintro dd S2 h;obtain⟨u,ad,rfl⟩:=YM h;rw[u]at hS;exact t.bad (λ_ _ _ _=>rfl) (by rw[hS]at ac;exact ac) ad (λs' c3 h1 h2 h3=>by obtain⟨u1,u2,u3,rfl⟩:=ZvK h2;refine⟨_,by simp only[Eqs,reduceCtorEq,ZHV,reduceIte,ZHR,ZHY,ZHS,YP,K7,h1,h3];rfl,?_⟩;trivial);exact ay _ 0 rfl _ k0 [] [] ab av rfl (by simp[Zv]) ω;rintro dd S2 h;obtain⟨u,ad,rfl⟩:=YM h;rw[u,ZIl]at hS;exact ab.bad (λ_ _ _ _=>rfl) (by rw[hS]at ac;exact ac) ad (λs' c3 h1 h2 h3=>by obtain⟨u1,u2,u3,rfl⟩:=ZvK h2;refine⟨_,by simp only[Eqs,reduceCtorEq,ZHV,reduceIte,ZHR,ZHY,ZHS,YP,K7,h1,h3];rfl,?_⟩;trivial);rintro dd S2 h;obtain⟨u,ad,rfl⟩:=YM h;rw[u,ZIl]at hS;exact ab.bad (λ_ _ _ _=>rfl) (by rw[hS]at ac;exact ac) ad (λs' c3 h1 h2 h3=>by obtain⟨u1,u2,u3,rfl⟩:=ZvK h2;refine⟨_,by simp only[Eqs,reduceCtorEq,ZHV,reduceIte,ZHR,ZHY,ZHS,YP,K7,h1,h3];rfl,?_⟩;trivial)
def Zot(d st):
  Zf ZHP 176 [.agg d.cells] st λr S=>S=st/\∃a f c,r=.ret (.tup [.agg [.i a,.i f,.i c],.bool (!Zem d)]):=by
 refine Zh (cR 176 f176) λF o=>?_;refine rx @eQ2 ?_;refine rx @eQ2 ?_;rw[show(D.agg [.str d.name,Z0 d.msgs,.str d.start])=.agg d.cells from rfl];refine cV (Zkf d st) ?_ ?_;rintro i S2 ⟨rfl,a,f,c,h⟩;cases h;refine gR0 ?_;refine rg ?_;exact o.ret _ S2 rfl ψ (ZHT _) ZHU ⟨rfl,a,f,c,rfl⟩;rintro i S2 ⟨_,a,f,c,h⟩;cases h
def Zvy{f}(o:JL f=true):dC (Zfr f=Zfe f.name f.kind)=Zd8 f:=by
 unfold JL at o;simp only[ZH1,decide_eq_true_eq]at o;have i:f.kind=1\/f.kind=2\/f.kind=3\/f.kind=4\/f.kind=5\/f.kind=6\/f.kind=7\/f.kind=8\/f.kind=9\/f.kind=10\/f.kind=11\/f.kind=12:=ω;obtain⟨name,kind,bits,little,loose,low,high,size,of,tag,from_,cases_,check,key⟩:=f;obtain⟨base,terms⟩:=size;simp only at i;clear o;rw[Bool.eq_iff_iff];rcases i with h|h|h|h|h|h|h|h|h|h|h|h<;>subst h<;>simp[Zfr,Zr6,Zr7,Zr8,Znv,Zr9,Zsa,Znw,Zsb,Znx,Zpf,Zpg,Zk1,Zfe,Zd8,zrA,zrB,zrC,Ze6,Zwn,Qt]<;>(try(constructor<;>(intro h;simp_all)))<;>(try(intro _;simp only[and_assoc]))
def ZpX(lo hi a b):YB lo hi [a,b]=!(dC (a<lo) ||(dC (b<a) ||decide (hi<b))):=by
 rw[Bool.eq_iff_iff];simp[YB];omega
def Zz4(f):ZdW f=!Q8 f:=by
 rw[Bool.eq_iff_iff];unfold ZdW Q8;cases f.little<;>simp;by_cases i:0<=f.bits;rw[Int.tmod_eq_emod_of_nonneg i];omega;omega
def Zl1{α p}{l:List α}{x:α}:Zl p (l++[x])=if 0<=Zl p l then Zl p l else if p x then (I l) else -1:=by
 induction l with
 |nil=>simp[Zl]
 |cons y r ih =>have h1:=K4 p r;simp only[List.cons_append,Zl,ih,ZH3];split;simp;by_cases h:0<=Zl p r;simp[h,show ¬Zl p r<0 by omega,show 0<=Zl p r+1 by omega];simp only[h,if_false,show Zl p r<0 by omega,if_true];by_cases i:p x=true;simp[i,show ¬((I r:Int)<0) by omega];simp[i]
def Zjh(fs:List Fld)(n:Nat):Prop:=∀i,i<n->Zl (λx=>dC (x.name=(fs.getD i dE).name)) (fs.take i)<0
def Za5{α}(p:α->Bool)(l:List α)(h:0<=Zl p l):(Zl p l).toNat<I l:=by
 have:=YC p l;omega
def Ztk{u n}(hn:n<=I u)(hd:Zjh u n)(k):Zv k (Zap u n)=Z3 (u.take n) k:=by
 induction n with
 |zero=>simp[Zap,Zv,Z3,Zl]
 |succ n ih =>
  have ih:=ih ω λi hi=>hd i ω;have r:=hd n ω;rw[ZQ (show n<I u by omega)];have o:(u.take n).length=n:=by simp;omega
  simp only[Zap];generalize u.getD n dE=f at *;unfold Z3;rw[Zl1];by_cases hk:f.name=k;rw[hk]at r;rw[if_neg (show ¬0<=Zl (λf=>dC (f.name=k)) (u.take n) by omega)];simp only[hk,decide_true,if_true,o,show ¬((n:Int)<0) by omega,if_false];have hg:(u.take n++[f]).getD ((n:Int)).toNat dE=f:=by simp[ZH6,List.getElem?_append,o]
  rw[hg];split;rw[WZ,if_pos rfl];rw[ih];unfold Z3;rw[if_pos r];have t:¬k=f.name:=λh=>hk h.symm;have h0:Zv k (if Yy f=true then YY f.name (Wq f) (Zap u n) else Zap u n)=Zv k (Zap u n):=by split;rw[WZ,if_neg t];rfl
  rw[h0,ih];unfold Z3;simp only[hk,decide_false,ZIx,if_false];by_cases hp:0<=Zl (λf=>dC (f.name=k)) (u.take n);have hl:=Za5 _ _ hp;rw[if_pos hp];have hg:(u.take n++[f]).getD (Zl (λf=>dC (f.name=k)) (u.take n)).toNat dE=(u.take n).getD (Zl (λf=>dC (f.name=k)) (u.take n)).toNat dE:=by simp[ZH6,ZIm hl]
  rw[hg];rw[if_neg hp,if_pos ω,if_pos ω]
structure ZcW(d:Dfn)(a:Nat)(deps:List Int)(dl:List (Str×Int))(sl:List (Str×Bool)):Prop where
 len:I deps=a
 dep:∀s,Zv s dl=if Zm d s a<0 then none else some (deps.getD (Zm d s a).toNat default)
 str:∀s,Zv s sl=if Zm d s a<0 then none else some ((W7 d a).getD (Zm d s a).toNat default)
def ZcW.has{d a deps dl sl}(h:ZcW d a deps dl sl)(s):(Zv s dl).isSome=!dC (Zm d s a<0):=by
 rw[h.dep];split<;>simp_all
def ZcW.strict{d a deps dl sl}(h:ZcW d a deps dl sl)(s):(Zv s sl).getD false=(!dC (Zm d s a<0)&&(W7 d a).getD (Zm d s a).toNat dE):=by
 rw[h.str];split<;>simp_all
def ZBy{f}(hk:f.kind=1\/f.kind=2):(if f.kind=1 then ck1 f else ck2 f)=dC (Kd f=0):=by
 unfold ck1 ck2 Kd Zbw ZfY;rw[Zz4,ZpX];cases hb:Q8 f
 .have hp:(0:Int)<2 ^ f.bits.toNat:=by have:=Nat.two_pow_pos f.bits.toNat;rw[show(2:Int) ^ f.bits.toNat=((2 ^ f.bits.toNat:Nat):Int) from(Int.natCast_pow 2 f.bits.toNat).symm];omega
  generalize (2:Int) ^ f.bits.toNat=pw at *;rcases hk with hk|hk<;>rw[Bool.eq_iff_iff]<;>simp[hk,YB]<;>(try split)<;>(try omega);all_goals (try simp_all)<;>omega
 simp
def Zm9{fs}(o:Zjh fs (I fs)){s}:ZfQ fs s=dC (Zat fs s=0):=by
 have i:(λk=>Zv k (Q0 fs))=Z3 fs:=by funext k;have:=Ztk (ZH9 _) o k;rw[ZIb]at this;exact this
 unfold ZfQ Zat ivP;rw[i];have r:s.terms.all (Zc9 fs)=!s.terms.any (YO (Z3 fs)):=by
  rw[List.not_any_eq_all_not]
  congr 1;funext t
  have:Zv t.field (Q0 fs)=Z3 fs t.field:=congrFun i _;unfold Zc9 YO;rw[this];simp
 rw[r];cases ZU s;simp;cases s.terms.any (YO (Z3 fs));simp only[ZIf,Bool.not_false,ZIx,if_false,Bool.true_eq_false];rw[Bool.eq_iff_iff];simp;omega;simp
def Zyl{d a deps dl sl}(h:ZcW d a deps dl sl)(hi lo l):Zc1 dl hi lo l=dC (Zbj d a hi lo l=0):=by
 induction l generalizing lo with
 |nil=>simp[Zc1,Zbj]
 |cons c r ih =>simp only[Zc1,Zbj,ZpX,h.has,ih];rcases Bool.eq_false_or_eq_true (dC (c.low<lo) ||(dC (c.high<c.low) ||decide (hi<c.high))) with hb|hb<;>simp only[hb];simp;simp only[Bool.not_false,ZIf,ZIx,if_false];by_cases i:Zm d c.of a<0<;>simp[i]
def ZyB{i}(r:Zjh i (I i))(k):(Zv k (Q0 i)).isSome=(!dC (Zl (λf=>dC (f.name=k)) i<0)&&Yy (i.getD (Zl (λf=>dC (f.name=k)) i).toNat dE)) /\
  ((Zv k (Q0 i)).isSome=true->(Zv k (Q0 i)).getD (0,0)=Wq (i.getD (Zl (λf=>dC (f.name=k)) i).toNat dE)):=by
 have:=Ztk (ZH9 _) r k;rw[ZIb]at this;rw[this];unfold Z3;split;rename_i h;simp[h];rename_i h;split;rename_i o;simp only[h,o];simp;rename_i o;simp only[h,o];simp
def ZyX{d a deps dl sl}(h:ZcW d a deps dl sl){m i}(hi:i<I m.fields)(hd:Zjh m.fields i){f}(hk:JL f=true):
  Zfo (m.fields.take i) dl sl f=dC (Kp d a m i f=0):=by
 have ae:(m.fields.take i).length=i:=by simp;omega
 have r:Zjh (m.fields.take i) (m.fields.take i).length:=λj hj=>by rw[ae]at hj;rw[W8 ω,List.take_take,Nat.min_eq_left ω];exact hd j hj
 unfold JL at hk;simp only[ZH1,decide_eq_true_eq]at hk;have ah:f.kind=1\/f.kind=2\/f.kind=3\/f.kind=4\/f.kind=5\/f.kind=6\/f.kind=7\/f.kind=8\/f.kind=9\/f.kind=10\/f.kind=11\/f.kind=12:=ω;have hn:=ZBy (f:=f);unfold Zfo Kp;rcases ah with h1|h1|h1|h1|h1|h1|h1|h1|h1|h1|h1|h1<;>simp only[h1,ZIt,if_true,if_false,true_or,or_true,or_self,forall_const,false_implies]at hn⊢;exact hn;exact hn;unfold ck3;rw[ZpX,ZgG];by_cases hA:0<=f.low/\f.low<=f.high/\f.high<34359738368;simp[hA];omega;rw[Bool.eq_iff_iff];simp;omega;exact Zm9 r;unfold ck5;rw[Bool.eq_iff_iff];simp[YB]<;>omega;unfold ck6;rw[Bool.eq_iff_iff];simp[YB]<;>omega;unfold ck7;rw[h.has,Zm9 r];by_cases h2:Zm d f.of a<0<;>simp[h2];unfold ck8;rw[h.has];by_cases h2:Zm d f.of a<0<;>simp[h2];have ht:=ZyB r f.tag;unfold Zjs Zge Zee;rw[Zyl h];have ab:Yi m f.tag i=Zl (λf'=>dC (f'.name=f.tag)) (m.fields.take i):=rfl;rw[ab];have ai:ZpR m f.tag i=ZfX (m.fields.take i) f:=rfl;rw[ai];generalize hz:Zl (λf'=>dC (f'.name=f.tag)) (m.fields.take i)=z at *;by_cases ad:z<0;simp[ht.1,ad];have ag:=Za5 (λf':Fld=>dC (f'.name=f.tag)) (m.fields.take i) ω;rw[hz,ae]at ag;have hg:(m.fields.take i).getD z.toNat dE=m.fields.getD z.toNat dE:=W8 ag;rw[hg]at ht;by_cases o:Yy (m.fields.getD z.toNat dE)=true;have hs:(Zv f.tag (Q0 (m.fields.take i))).isSome=true:=by rw[ht.1,o];simp[ad]
 rw[ht.2 hs,hs,o];cases ZfX (m.fields.take i) f;simp only[ad,decide_false,Bool.not_true,Bool.or_self,Bool.not_false,ZIf,ZIx,if_false,Bool.false_or];by_cases hl:1<=I f.cases/\I f.cases<=40;have t:(dC (1<=(I f.cases:Int))&&dC ((I f.cases:Int)<=40))=true:=by simp only[ZH1,decide_eq_true_eq];omega
 have u:(dC (I f.cases<1) ||decide (40<I f.cases))=false:=by simp only[Bool.or_eq_false_iff,decide_eq_false_iff_not];omega
 rw[t,u];simp;have t:(dC (1<=(I f.cases:Int))&&dC ((I f.cases:Int)<=40))=false:=by simp only[Bool.and_eq_false_iff,decide_eq_false_iff_not];omega
 have u:(dC (I f.cases<1) ||decide (40<I f.cases))=true:=by simp only[ZId,decide_eq_true_eq];omega
 rw[t,u];simp;simp;have ac:Yy (m.fields.getD z.toNat dE)=false:=by simpa using o
 rw[ht.1,ac];simp;unfold Zvt ZfI;rw[Bool.eq_iff_iff];generalize f.bits=b;by_cases h0:0<=b;rw[Int.tmod_eq_emod_of_nonneg h0];simp;omega;simp;omega;unfold Zvu;have ab:Yi m f.from_ i=Zl (λf'=>dC (f'.name=f.from_)) (m.fields.take i):=rfl;rw[ab];rw[Bool.eq_iff_iff];simp[YB];generalize Zl (λf'=>dC (f'.name=f.from_)) (m.fields.take i)=z;split;simp;omega;split<;>simp<;>omega;unfold Zvv Zlp;rw[h.strict,Zm9 r];by_cases af:f.key<0\/4294967295<f.key;rw[if_pos (by simpa using af)];simp[YB];omega;rw[if_neg (by simpa using af)];have:YB 0 4294967295 [f.key]=true:=by simp[YB];omega
 rw[this];by_cases h2:Zm d f.of a<0;simp[h2];simp only[h2,decide_false,Bool.not_false,ZIf,Bool.false_or];cases(W7 d a).getD (Zm d f.of a).toNat dE<;>simp
def ZyE{d a deps dl sl}(h:ZcW d a deps dl sl){m i}(hi:i<I m.fields)(hd:Zjh m.fields i)(f):
  Jc (m.fields.take i) dl sl f=dC (WY d a m i f=0):=by
 unfold Jc WY;rw[show Zl (λx=>dC (x.name=f.name)) (m.fields.take i)=Yi m f.name i from rfl];cases Yl f.name;simp;by_cases u:0<=Yi m f.name i;simp[u];by_cases t:JL f=true;have o:(dC (f.kind<1) ||decide (12<f.kind))=false:=by unfold JL at t;simp only[ZH1,decide_eq_true_eq]at t;simp only[Bool.or_eq_false_iff,decide_eq_false_iff_not];omega
 rw[Zvy t,ZyX h hi hd t,t,o];cases Zd8 f<;>simp[u];have r:JL f=false:=by simpa using t
 have o:(dC (f.kind<1) ||decide (12<f.kind))=true:=by unfold JL at t;simp only[ZH1,decide_eq_true_eq]at t;simp only[ZId,decide_eq_true_eq];omega
 rw[r,o];simp[u]
def Zpm{d a m}(j){l l'}(h:Yx d a m j l=nO):Yx d a m j (l++l')=Yx d a m (j+I l) l':=by
 induction l generalizing j with
 |nil=>rfl
 |cons f r ih =>
  simp only[Yx]at h;split at h;rename_i i;simp only[List.cons_append,Yx,i,if_true,ZH3];rw[ih _ h]
  congr 1;omega
  simp at h
def ZwU{d a deps dl sl}(h:ZcW d a deps dl sl){m}(n)(hn:n<=I m.fields):
  (Q9 dl sl m n=true↔Yx d a m 0 (m.fields.take n)=nO)/\(Q9 dl sl m n=true->Zjh m.fields n):=by
 induction n with
 |zero=>simp[Q9,Yx,Zjh]
 |succ n ih =>
  have ih:=ih ω;rw[ZjI,ZQ (show n<I m.fields by omega),ZH1];have i:(m.fields.take n).length=n:=by simp;omega
  by_cases hp:Q9 dl sl m n=true;have hf:=ih.1.1 hp;have hd:=ih.2 hp;rw[Zpm _ hf,ZyE h (show n<I m.fields by omega) hd,i,Nat.zero_add];simp only[Yx];refine⟨?_,λu=>?_⟩;simp only[hp,true_and,decide_eq_true_eq];split<;>simp_all;have hz:WY d a m n (m.fields.getD n dE)=0:=by simpa using u.2
  intro j hj;by_cases o:j<n;exact hd j o;obtain rfl:j=n:=ω;unfold WY at hz;split at hz;· omega
  split at hz;· omega
  rename_i h2;unfold Yi at h2;omega;refine⟨?_,λu=>absurd u.1 hp⟩;constructor;intro u;exact absurd u.1 hp;intro u;exfalso;apply hp;refine ih.1.2 ?_;have t:∀(j:Nat) (l l':List Fld),Yx d a m j (l++l')=nO->Yx d a m j l=nO:=by
   intro j l l';induction l generalizing j with
   |nil=>intro _;rfl
   |cons f r ih2 =>simp only[List.cons_append,Yx];split;exact ih2 _;simp
  exact t _ _ _ u
def ZnR{α:Type}{l:List α}{p q:α->Int}(h:∀s∈l,p s=q s)(b):l.foldl (λa s=>max a (p s)) b=l.foldl (λa s=>max a (q s)) b:=by
 induction l generalizing b with
 |nil=>rfl
 |cons x r ih =>simp only[List.foldl_cons,h x ψ];exact ih (λs i=>h s (by simp[i])) _
def Zvq{α:Type}{p q}{l:List α}(h:∀x∈l,p x=q x):l.all p=l.all q:=by
 induction l with
 |nil=>rfl
 |cons x r ih=>simp only[List.all_cons,h x ψ,ih λy i=>h y (by simp[i])]
def ZBw{d a deps dl sl}(h:ZcW d a deps dl sl){m}(hm:d.msgs.getD a dE=m):
  (Zez dl sl m=true↔WV d a m=nO/\Zeh d a deps m<=16)/\(WV d a m=nO->KD dl m+1=Zeh d a deps m/\J2 sl m=Jm d m (W7 d a)):=by
 have hf:=ZwU h (m:=m) (I m.fields) (ZH9 _);rw[ZIb]at hf;have h2:WV d a m=nO->KD dl m+1=Zeh d a deps m/\J2 sl m=Jm d m (W7 d a):=λhh=>by
  have r:=(Ztn hm hh).ref;rw[hm]at r;constructor;unfold KD Zeh Zbn
  congr 1
  refine ZnR (λs hs=>?_) _;have:=r s hs;rw[h.dep,if_neg ω];rfl;unfold J2 Jm
  congr 1
  refine Zvq λs hs=>?_;have:=r s hs;rw[h.strict,JS];simp[show ¬Zm d s a<0 by omega]
 refine⟨?_,h2⟩;unfold Zez;rw[h.has];by_cases hn:Yl m.name=true;by_cases hd:Zm d m.name a<0;by_cases hl:1<=I m.fields/\I m.fields<=40;have i:(dC (1<=(I m.fields:Int))&&dC ((I m.fields:Int)<=40))=true:=by simp only[ZH1,decide_eq_true_eq];omega
 have o:(dC (I m.fields<1) ||decide (40<I m.fields))=false:=by simp only[Bool.or_eq_false_iff,decide_eq_false_iff_not];omega
 have t:WV d a m=Yx d a m 0 m.fields:=by unfold WV;rw[if_neg (by simp[hn]),if_neg ω,o];rfl
 rw[t]at h2⊢;rw[i,hn];simp only[hd,decide_true,Bool.not_true,Bool.not_false,ZIf,ZH1,decide_eq_true_eq,hf.1];constructor;rintro⟨h3,h4⟩;have:=(h2 h3).1;exact⟨h3,ω⟩;rintro⟨h3,h4⟩;have:=(h2 h3).1;exact⟨h3,ω⟩;have i:(dC (1<=(I m.fields:Int))&&dC ((I m.fields:Int)<=40))=false:=by simp only[Bool.and_eq_false_iff,decide_eq_false_iff_not];omega
 have o:(dC (I m.fields<1) ||decide (40<I m.fields))=true:=by simp only[ZId,decide_eq_true_eq];omega
 unfold WV;rw[i,o,if_neg (by simp[hn]),if_neg ω];simp;unfold WV;rw[if_neg (by simp[hn]),if_pos ω];simp[hd];have u:Yl m.name=false:=by simpa using hn
 unfold WV;rw[u];simp
def ZnJ{d a m}(i:a<I d.msgs)(hm:d.msgs.getD a dE=m)(s):Zm d s (a+1)=if 0<=Zm d s a then Zm d s a else if m.name=s then (a:Int) else -1:=by
 unfold Zm;rw[ZQ i,hm,Zl1];have:(d.msgs.take a).length=a:=by simp;omega
 rw[this];simp
def ZjO{α:Type}[Inhabited α]{l}{a:Nat}{v:α}(h:I l=a):(l++[v]).getD a dE=v:=by subst h;simp[ZH6]
def ZjP{α:Type}[Inhabited α]{l}{a:Nat}{v:α}(h:a<I l):(l++[v]).getD a dE=l.getD a dE:=by simp[ZH6,ZIm h]
def ZcW.step{d:Dfn}{a:Nat}{deps:List Int}{dl:List (Str×Int)}{sl:List (Str×Bool)}(h:ZcW d a deps dl sl){m:Msg}(t:a<I d.msgs)(hm:d.msgs.getD a dE=m)(hnew:Zm d m.name a<0)(v:Int):
  ZcW d (a+1) (deps++[v]) (YY m.name v dl) (YY m.name (Jm d m (W7 d a)) sl):={
 len:=by simp[h.len]
 dep s:=by
  rw[WZ,ZnJ t hm,h.dep];by_cases r:s=m.name;subst r;rw[if_pos rfl,if_neg (show ¬0<=Zm d m.name a by omega),if_pos rfl,if_neg ω];rw[show((a:Int)).toNat=a from rfl,ZjO h.len];rw[if_neg r];by_cases o:0<=Zm d s a;have i:(Zm d s a).toNat<I deps:=by
   have:=Za5 _ _ o;rw[h.len];have u:(d.msgs.take a).length<=a:=by simp;omega
   unfold Zm;omega
  rw[if_pos o,if_neg ω,if_neg ω,ZjP i];rw[if_neg o,if_neg (show ¬m.name=s from λe=>r e.symm),if_pos ω,if_pos ω]
 str s:=by
  rw[WZ,ZnJ t hm,h.str];simp only[W7,hm];by_cases r:s=m.name;subst r;rw[if_pos rfl,if_neg (show ¬0<=Zm d m.name a by omega),if_pos rfl,if_neg ω];rw[show((a:Int)).toNat=a from rfl,ZjO (JS d a)];rw[if_neg r];by_cases o:0<=Zm d s a;have i:(Zm d s a).toNat<(W7 d a).length:=by
   have:=Za5 _ _ o;rw[JS];have u:(d.msgs.take a).length<=a:=by simp;omega
   unfold Zm;omega
  rw[if_pos o,if_neg ω,if_neg ω,ZjP i];rw[if_neg o,if_neg (show ¬m.name=s from λe=>r e.symm),if_pos ω,if_pos ω] }
def ZBJ{d}(n):∀{a deps dl sl},ZcW d a deps dl sl->a+n=I d.msgs ->
  ((Zdi dl sl (d.msgs.drop a)).elim false λp=>(Zv d.start p.1).isSome)=(Qq d a (d.msgs.drop a) deps).isNone:=by
 induction n with
 |zero =>intro a deps dl sl h ha;obtain rfl:a=I d.msgs:=ω;rw[List.drop_length];simp only[Zdi,Qq,Option.elim,h.has];by_cases hs:Zm d d.start (I d.msgs)<0<;>simp[hs]
 |succ n ih =>
  intro a deps dl sl h ha;have o:a<I d.msgs:=ω;rw[Yf o];generalize hm:d.msgs.getD a dE=m;have u:=ZBw h hm;simp only[Zdi,Qq];by_cases t:Zez dl sl m=true;obtain⟨r,h2⟩:=u.1.1 t;obtain⟨h3,h4⟩:=u.2 r;rw[if_pos t,r];simp only;rw[if_neg ω,h3,h4];refine ih (h.step o hm ?_ _) ω;unfold WV at r;split at r;· simp at r
  split at r;· simp at r
  omega;rw[if_neg t];cases r:WV d a m with
  |some x=>obtain⟨i,c⟩:=x;rfl
  |none =>have:¬Zeh d a deps m<=16:=λh2=>t (u.1.2 ⟨r,h2⟩);simp only;rw[if_pos ω];rfl
def ZsX(d):Zem d=Zb8 d:=by
 unfold Zem Zb8 ZbX;cases hn:Yl d.name;rfl;by_cases hl:1<=I d.msgs/\I d.msgs<=60;have i:(dC (1<=(I d.msgs:Int))&&dC ((I d.msgs:Int)<=60))=true:=by simp only[ZH1,decide_eq_true_eq];omega
 have o:(dC (I d.msgs<1) ||decide (60<I d.msgs))=false:=by simp only[Bool.or_eq_false_iff,decide_eq_false_iff_not];omega
 rw[i,o];simp only[ZIf,Bool.true_eq_false,ZIx,if_false];have r:ZcW d 0 [] [] []:=⟨rfl,λs=>by simp[Zv,Zm,Zl],λs=>by simp[Zv,Zm,Zl]⟩;have:=ZBJ (I d.msgs) r ω;rw[List.drop_zero]at this;exact this;have i:(dC (1<=(I d.msgs:Int))&&dC ((I d.msgs:Int)<=60))=false:=by simp only[Bool.and_eq_false_iff,decide_eq_false_iff_not];omega
 have o:(dC (I d.msgs<1) ||decide (60<I d.msgs))=true:=by simp only[ZId,decide_eq_true_eq];omega
 rw[i,o];rfl
def ZrT{st b c0 c1 t u}(hb:st b=sO (.cells [c0,c1]))(h0:VT ZHP c0 [] st (.bool t) st)(h1:VT ZHP c1 [] st (.bool u) st):
  ZL ZHP 287 [.msl b 0 2 2 1,.fn (.func 236) [] []] st (.i (if t then (if u then -1 else 1) else 0)) st:=by
 refine ZE (cR 287 f287) λr F i=>?_;clear r;have g0:=(Zfk h0).VT (first:=[]) (args:=[c0]) (caps:=[]);have g1:=(Zfk h1).VT (first:=[]) (args:=[c1]) (caps:=[]);refine gG ?_;refine Zb (Qm ?_);refine rg ?_;refine i1 ?_;refine rg ?_;refine xA @hb ?_;refine cW (g0) ?_;refine cd (λhc=>?_) (λhc=>?_);have hv:t=false:=by cases t<;>simp_all
 rw[hv]at i;refine rg ?_;exact i rfl φ (ZHT _) ZHU;have hv:t=true:=by cases t<;>simp_all
 rw[hv]at i;refine gA ?_;rw[show(0:Int)+1=1 from rfl];refine Za ?_;refine rg ?_;refine i1 ?_;refine rg ?_;refine xA @hb ?_;refine cW (g1) ?_;refine cd (λhd=>?_) (λhd=>?_);have o:u=false:=by cases u<;>simp_all
 rw[o]at i;refine rg ?_;exact i rfl φ (ZHT _) ZHU;have o:u=true:=by cases u<;>simp_all
 rw[o]at i;refine gA ?_;rw[show(1:Int)+1=2 from rfl];refine Za ?_;refine rg ?_;refine iG ?_;exact i rfl φ (ZHT _) ZHU
def ZqU{st b u c1 r t}(hb:st b=sO (.cells [u,c1]))(h0:VT ZHP u [] st (.bool r) st)(h1:VT ZHP c1 [] st (.bool t) st):
  ZL ZHP 235 [.msl b 0 2 2 1,.fn (.func 236) [] []] st (.bool (!r||!t)) st:=by
 refine ZE (cR 235 f235) λo F i=>?_;clear o;refine gG ?_;refine ct (ZrT hb h0 h1) ?_;exact i rfl φ (by cases r<;>cases t<;>exact ZHT _) ZHU
def ZaI{L s}(l):qv L s .lenL [.d (Zp l)]=sO (True,.d (.i (I l))):=rfl
def atF{L s}(l i):qv L s (.iaddr 15) [.d (Zp l),.d (.i i)]=sO (0<=i/\i<I l,.d (.ep (l.getD i.toNat dE).cells 0)):=rfl
def QL(f:Fld):I f.cells=15:=rfl
def Zau(f:Fld):List.take 15 f.cells=f.cells:=rfl
def Zhj(l)(hl:I l<=1000)(hb:∀f∈l,Zhc f)(i:Nat)(hi:i<=I l){st:St}:ZL ZHP 178 [Zp l,.i i,.i (YH l i)] st (.bool (W9 l i)) st:=by
 refine ZE (cR 178 f178) λae F o=>?_;clear ae;have hW:=W9.eq_1 l i;refine rx (nd2 @okF @ceF) ?_;refine rx @ZaI ?_;refine cd (λhc=>?_) (λhc=>?_);have r:i=I l:=by simp at hc;omega
 rw[if_pos r]at hW;refine rg ?_;exact o rfl φ (by rw[hW];exact ZHT _) ZHU;have r:i<I l:=by simp at hc;omega
 rw[if_neg ω]at hW;generalize hg:l.getD i dE=g at *;refine xA (nd2 @atF (nd2 @hg (nd2 @QL @Zau))) ?_;refine Zd ?_;refine xP 3 λz3 h3=>?_;refine xP 5 λz5 h5=>?_;refine xP 7 λz7 h7=>?_;refine rg ?_;refine Zd ?_;refine xP 8 λz8 h8=>?_;have k5:=Zn h5;have k7:=Zn h7;have af:=Zn k7.2;have k8:=Zn h8;have ab:=Zn k8.2;have ag:=Zn ab.2;obtain⟨A,hA⟩:∃A,A=((((st.upd z3 (.cells [Zp l])).upd z5 (.cells [.i (YH l i)])).upd z7 (.cells g.cells)).upd z8 (.cells [.fn (.func 230) [] [.ptr z5 0,.ptr z7 0],.fn (.func 232) [] [.ptr z3 0,.ptr z7 0]])):=⟨_,rfl⟩;have g3:A z3=sO (.cells [Zp l]):=by rw[hA,ZH0 _ _ ag.1.symm,ZH0 _ _ af.1.symm,ZH0 _ _ k5.1.symm];exact ZHW _ _ _
 have g5:A z5=sO (.cells [.i (YH l i)]):=by rw[hA,ZH0 _ _ ab.1.symm,ZH0 _ _ k7.1.symm];exact ZHW _ _ _
 have g7:A z7=sO (.cells g.cells):=by rw[hA,ZH0 _ _ k8.1.symm];exact ZHW _ _ _
 have g8:A z8=sO (.cells [.fn (.func 230) [] [.ptr z5 0,.ptr z7 0],.fn (.func 232) [] [.ptr z3 0,.ptr z7 0]]):=by rw[hA];exact ZHW _ _ _
 have u:st.sub A:=by rw[hA];exact ZIu (ZIg _ h3) (ZIu (ZIg _ h5) (ZIu (ZIg _ h7) (ZIg _ h8)))
 have ac:=(ZmC g5 g7).VT (first:=[]) (args:=[]) (caps:=[_,_]);have ad:=(ZmD hl hb g3 g7 ω).VT (first:=[]) (args:=[]) (caps:=[_,_]);have t:=ZqU g8 ac ad;rw[<-hA];clear hA;refine rg ?_;refine⟨by decide,by decide,by decide,by decide,by unfold big;decide,?_⟩;rw[show(if ((2:Nat):Int)=0 then 0 else 0*1)=(0:Nat) from rfl];refine ct (t) ?_;exact o rfl φ (by rw[hW];exact ZHT _) u
def Zxw{x z o}(r:s x=nO)(h:(s.or (ZIk x o)) z=nO):z≠x/\s z=nO:=by
 refine⟨λe=>by subst e;rw[Zz r,Yt]at h;simp at h,?_⟩;cases i:s z with
 |none=>rfl
 |some o=>rw[Zt i]at h;simp at h
def Mk(A:St):List Nat->St->Prop
 | [],S=>S=A
 |q::qs,S=>∃S',Mk A qs S'/\S' q=nO/\S=S'.upd q .dfr
def Mk.get{A z o}(h:A z=sO o):∀{qs S},Mk A qs S->S z=sO o
 | [],S,hm=>by rw[show S=A from hm];exact h
 |q::qs,S,hm=>by obtain⟨S',i,r,rfl⟩:=hm;have:=Mk.get h i;rw[ZH0 _ _ (λe=>by rw[e,r]at this;simp at this)];exact this
def upd_comm{a b x y}(h:a≠b):(s.upd a x).upd b y=(s.upd b y).upd a x:=by
 funext c;by_cases o:c=b;subst o;rw[ZHW,ZH0 _ _ (Ne.symm h),ZHW];rw[ZH0 _ _ o];by_cases i:c=a;subst i;rw[ZHW,ZHW];rw[ZH0 _ _ i,ZH0 _ _ i,ZH0 _ _ o]
def Mk.upd{A z o o'}(h:A z=sO o):∀{qs S},Mk A qs S->Mk (A.upd z o') qs (S.upd z o')
 | [],S,hm=>by rw[show S=A from hm];rfl
 |q::qs,S,hm=>by
  obtain⟨S',r,t,rfl⟩:=hm;have:=Mk.get h r;have i:q≠z:=λe=>by rw[<-e,t]at this;simp at this
  exact⟨S'.upd z o',r.upd h,by rw[ZH0 _ _ i];exact t,upd_comm i⟩
def Mk.unw{P A Ψ}(h:Ψ nO A):∀{qs S},Mk A qs S->Unw P (qs.map .mark) nO S Ψ
 | [],S,hm=>by rw[show S=A from hm];exact h
 |q::qs,S,hm=>by
  obtain⟨S',o,r,rfl⟩:=hm;refine⟨ZHW _ _ _,?_⟩;have e:(S'.upd q .dfr).del q=S':=by funext c;by_cases i:c=q;subst i;simp[St.del,r];simp[St.del,St.upd,i]
  rw[e];exact Mk.unw h o
def ZiO{s t:St}{q o}(h:s.sub t):(s.upd q o).sub (t.upd q o):=λb x i=>by
 by_cases r:b=q;subst r;rw[ZHW]at i⊢;exact i;rw[ZH0 _ _ r]at i⊢;exact h b x i
def ZxT{s t:St}{q}(h:s.sub t)(i:t q=nO):s q=nO:=by
 cases r:s q with
 |none=>rfl
 |some o=>rw[h q o r]at i;simp at i
def ZmK{a t z o o'}(h:Z7 a t)(r:a z=sO o):Z7 (a.upd z o') t:=λb x i=>by
 rw[ZH0 _ _ (λe=>by subst e;rw[h b x i]at r;simp at r)];exact h b x i
def St.upd_self{b o}(h:s b=sO o):s.upd b o=s:=by
 funext c;by_cases i:c=b;subst i;rw[ZHW,h];rw[ZH0 _ _ i]
def ZwD{d j i m f}(h:WY d j m i f=0):Zhc f:=by
 unfold WY at h;split at h;· omega
 split at h;· omega
 split at h;· omega
 split at h;· omega
 unfold Kp at h;refine⟨λhk=>?_,λhk=>?_⟩;have r:Kd f=0:=by rcases hk with hk|hk<;>simp only[hk,ZIt,if_true,if_false]at h<;>exact h
 unfold Kd at r;split at r;· omega
 rename_i o;simp only[Q8,ZId,ZH1,Bool.not_eq_true',decide_eq_true_eq,decide_eq_false_iff_not,not_or]at o;omega;simp only[hk,ZIt,if_true,if_false]at h;split at h;· omega
 rename_i o;simp only[ZfI,ZH1,ZId,Bool.not_eq_true',decide_eq_true_eq,decide_eq_false_iff_not,not_and,not_or]at o;omega
def ZdV.bits{d j m}(h:ZdV d j m):∀f∈m.fields,Zhc f:=by
 intro f r;obtain⟨i,o,rfl⟩:=ZIc r;have:=ZwD (h.field i o);simpa[ZH6,o]using this
def ZaJ(m:Msg):Bool:=(ZH5 (I m.fields+1)).all λi=>!W9 m.fields i
def Yk(d:Dfn):Bool:=Zb8 d&&d.msgs.all ZaJ
def Zn7{m}(h:∀i,i<I m.fields+1->W9 m.fields i=false):ZaJ m=true:=by
 unfold ZaJ;rw[List.all_eq_true];intro i o;rw[h i (List.mem_range.1 o)];rfl
def ZgX{m i}(o:i<I m.fields+1)(h:W9 m.fields i=true):ZaJ m=false:=by
 unfold ZaJ;rw[List.all_eq_false];exact⟨i,List.mem_range.2 o,by rw[h];simp⟩
def atM{L s}(l i):qv L s (.iaddr 2) [.d (Z0 l),.d (.i i)]=sO (0<=i/\i<I l,.d (.ep (l.getD i.toNat dE).cells 0)):=rfl
def ZeU{L s}(l):qv L s .lenL [.d (Z0 l)]=sO (True,.d (.i (I l))):=rfl
def Zo6(d st):Zf ZHP 143 [.agg d.cells] st λr S=>S=st/\∃a f c,r=.ret (.tup [.agg [.i a,.i f,.i c],.bool (!Yk d)]):=by
 refine Zh (cR 143 f143) λF hF=>?_;have ac:=Yk.eq_1 d;refine rx @eQ2 ?_;refine rx @eQ2 ?_;rw[show(D.agg [.str d.name,Z0 d.msgs,.str d.start])=.agg d.cells from rfl];refine cV (Zot d st) ?_ ?_
 .rintro dd S ⟨rfl,fa,ff,fc,h⟩;cases h;refine gR0 ?_;rw[ZsX];refine rg ?_;refine cd (λhc=>?_) (λhc=>?_);have hv:Zb8 d=false:=by simpa using hc
  rw[hv,ZIl]at ac;refine rg ?_;refine hF.ret _ S rfl ψ (ZHT _) ZHU ⟨rfl,fa,ff,fc,?_⟩;rw[ac];simp[hv];rfl;have hv:Zb8 d=true:=by simpa using hc
  rw[hv,ZIf]at ac;have hV:=ZkL hv;have hmany:=hV.many;refine rx (nd2 @ZeU @eQ2) ?_;refine Zb ?_;refine xP 2 λz2 h2=>?_;refine xP 3 λz3 h3=>?_;have k3:=Zn h3;have bc:=h2;have be:=k3.2;simp only[hv,Bool.not_true]at h3⊢;obtain⟨A,hA⟩:∃A,A=(S.upd z2 (.cells [.i fa,.i ff,.i fc])).upd z3 (.cells [.bool false]):=⟨_,rfl⟩;have g2:A z2=sO (.cells [.i fa,.i ff,.i fc]):=by rw[hA,ZH0 _ _ k3.1.symm];exact ZHW _ _ _
  have g3:A z3=sO (.cells [.bool false]):=by rw[hA];exact ZHW _ _ _
  have ah:S.sub A:=by rw[hA];exact ZIu (ZIg _ h2) (ZIg _ h3)
  rw[<-hA];clear hA;obtain⟨A0,e0⟩:∃A0,A0=A:=⟨_,rfl⟩;rw[<-e0]at g2 g3 ah⊢;clear e0;refine lpU (λQ=>∀(n k:Nat),(I d.msgs)-k=n->∀(F:Fr ZHP) (qs:List Nat) (A:St),Y0 F [.cellN 2 3,.cell1 3] (λr S'=>S'=S/\∃a f c,r=.ret (.tup [.agg [.i a,.i f,.i c],.bool (!Yk d)])) (qs.map .mark)->Mk A0 qs A->k<=I d.msgs->(∀q,q<k->ZaJ (d.msgs.getD q dE)=true)->Q F [(2,.d (.ptr z2 0)),(3,.d (.ptr z3 0)),(17,.d (Z0 d.msgs)),(18,.d (.i (I d.msgs))),(19,.d (.i k))] [] A) ?_ λbf=>?_
  .intro n;induction n using Nat.strongRecOn with
   |ind n ih_key =>
   intro k hn F qs A hF af hk ak;have ar:=g2;have au:=g3;have g2:=Mk.get g2 af;have g3:=Mk.get g3 af;refine rg ?_;refine Zd (Zj rfl trivial (λh1=>?_) (λh1=>?_))
   .simp at h1;have hM:=hV.msg h1;have ad:=hM.bits;have hmf:=hM.many;have am:=λh=>ZV (q:=λj=>ZaJ (d.msgs.getD j dE)=true) ak h;have av:ZaJ (d.msgs.getD k dE)=false->d.msgs.all ZaJ=false:=λh=>by rw[List.all_eq_false];exact⟨_,Zr h1,by rw[h];simp⟩
    generalize hm:d.msgs.getD k dE=m at *;refine xA (nd2 @atM (nd2 @hm @eQ3)) ?_;refine rg ?_;refine cV (Zfj m.fields A) ?_ ?_
    .rintro dd S2 ⟨x,hx,hd,rfl⟩;cases hd;refine gR0 ?_;refine Zb ?_;refine xP 4 λz4 h4=>?_;refine xP 5 λz5 h5=>?_;have k5:=Zn h5;have o4:=Zxw hx h4;have o5:=Zxw hx k5.2;rw[W5,W5];obtain⟨B,hB⟩:∃B,B=(A.upd z4 (.cells [.i k])).upd z5 (.cells [.str m.name,Zp m.fields]):=⟨_,rfl⟩;have b5:B z5=sO (.cells [.str m.name,Zp m.fields]):=by rw[hB];exact ZHW _ _ _
     have b4:B z4=sO (.cells [.i k]):=by rw[hB,ZH0 _ _ k5.1.symm];exact ZHW _ _ _
     have bg:z2≠z4:=λe=>by rw[e,o4.2]at g2;simp at g2
     have a0:z2≠z5:=λe=>by rw[e,o5.2]at g2;simp at g2
     have a4:z3≠z4:=λe=>by rw[e,o4.2]at g3;simp at g3
     have a5:z3≠z5:=λe=>by rw[e,o5.2]at g3;simp at g3
     have ao:z2≠z3:=λe=>by rw[e,g3]at g2;simp at g2
     have b2:B z2=sO (.cells [.i fa,.i ff,.i fc]):=by rw[hB,ZH0 _ _ a0,ZH0 _ _ bg];exact g2
     have b3:B z3=sO (.cells [.bool false]):=by rw[hB,ZH0 _ _ a5,ZH0 _ _ a4];exact g3
     have bx:B x=nO:=by rw[hB,ZH0 _ _ o5.1.symm,ZH0 _ _ o4.1.symm];exact hx
     have ai:A.sub B:=by rw[hB];exact ZIu (ZIg _ o4.2) (ZIg _ (by rw[ZH0 _ _ k5.1];exact o5.2))
     rw[<-hB];clear hB;refine Qh hF rfl trivial [2,3,4,5,17,18,19] (by show([2,3,4,5,17,18,19]:List Nat).Nodup;decide) (Ko bx) (Zed m.fields ω ad x).Y (λj hj=>rfl)
      (λj=>if W9 m.fields j then .stop (.exit 0) else .next) (λj a=>((∀i,i<j->W9 m.fields i=false)/\a=B)\/((∃i,i<j/\W9 m.fields i=true)/\∃a1 a2 a3,a=(B.upd z3 (.cells [.bool true])).upd z2 (.cells [.i a1,.i a2,.i a3])))
      (.inl ⟨λi hi=>by omega,rfl⟩) ?_ ?_ ?_ ?_ ?_ ?_
     .intro j a hj ae hB F' ready aj hdr aw u;have ab:∀i,i<j->W9 m.fields i=false:=λi hi=>by have:=ae i hi;split at this;simp at this;rename_i h;simpa using h
      rcases hB with ⟨_,rfl⟩|⟨⟨i,hi,ag⟩,_⟩
      .skip
       simp only[Eqs,reduceCtorEq,ZHV,reduceIte,ZHR,ZHY,ZHS,KG,K0,J8,Qj,List.isEmpty_nil,List.isEmpty_cons,ZvS];refine gG ?_;refine aw λaz=>?_;refine rh ?_;refine Zk ?_;simp only[Eqs,reduceCtorEq,ZHV,reduceIte,ZHR,ZHY,ZHS,Zt b5];cases hw:W9 m.fields j with
       |false =>rw[if_neg (by rw[hw];simp)]at u;refine ZaA rfl rfl rfl rfl rfl φ φ (by exact Zhj m.fields ω ad j ω) (Zk ?_);simp only[Eqs,reduceCtorEq,ZHV,reduceIte,ZHR,ZHY,ZHS,hw,Zt b3,W5,St.upd_self b3];refine rh ?_;refine Zk ?_;simp only[Eqs,reduceCtorEq,ZHV,reduceIte,ZHR,ZHY,ZHS,Zt b3];refine i0 ?_;refine Zo (Zi ?_);exact u.fin ⟨rfl,.inl ⟨ZV (q:=λi=>W9 m.fields i=false) ab hw,rfl⟩⟩ az ZHU
       |true =>
        rw[if_pos hw]at u;refine ZaA rfl rfl rfl rfl rfl φ φ (by exact Zhj m.fields ω ad j ω) (Zk ?_);simp only[Eqs,reduceCtorEq,ZHV,reduceIte,ZHR,ZHY,ZHS,hw,Zt b3,W5];obtain⟨C,hC⟩:∃C,C=a.upd z3 (.cells [.bool true]):=⟨_,rfl⟩;have c3:C z3=sO (.cells [.bool true]):=by rw[hC];exact ZHW _ _ _
        have c2:C z2=sO (.cells [.i fa,.i ff,.i fc]):=by rw[hC,ZH0 _ _ ao];exact b2
        have c4:C z4=sO (.cells [.i k]):=by rw[hC,ZH0 _ _ a4.symm];exact b4
        have c5:C z5=sO (.cells [.str m.name,Zp m.fields]):=by rw[hC,ZH0 _ _ a5.symm];exact b5
        have ax:Z7 C aj:=by rw[hC];exact ZmK az b3
        rw[<-hC];refine rh ?_;refine Zk ?_;simp only[Eqs,reduceCtorEq,ZHV,reduceIte,ZHR,ZHY,ZHS,Zt c3];refine i1 ?_;refine rh ?_;refine Zk ?_;simp only[Eqs,reduceCtorEq,ZHV,reduceIte,ZHR,ZHY,ZHS,Zt c4,Zt c2,W5];have a7:(C.upd z2 (.cells [.i k,.i j,.i 12])) z5=sO (.cells [.str m.name,Zp m.fields]):=by rw[ZH0 _ _ a0.symm];exact c5
        have a6:=ZHW C z2 (.cells [.i k,.i j,.i 12]);have ay:Z7 (C.upd z2 (.cells [.i k,.i j,.i 12])) aj:=ZmK ax c2;refine rh ?_;refine Zk ?_;simp only[Eqs,reduceCtorEq,ZHV,reduceIte,ZHR,ZHY,ZHS,Zt a7,ZaI];refine cd (λhe=>?_) (λhe=>?_);refine rh ?_;refine Zk ?_;simp only[Eqs,reduceCtorEq,ZHV,reduceIte,ZHR,ZHY,ZHS,Zt a6,W5,ZH7];exact u.exit rfl ⟨rfl,.inr ⟨⟨j,ω,hw⟩,k,-1,12,by rw[hC]⟩⟩ (ZmK ax c2) ZHU;refine Zo ?_;exact u.exit rfl ⟨rfl,.inr ⟨⟨j,ω,hw⟩,k,j,12,by rw[hC]⟩⟩ ay ZHU
      rw[ab i hi]at ag;simp at ag
     intro q a ae hB hq;have ab:∀i,i<I m.fields+1->W9 m.fields i=false:=λi hi=>by have:=ae i hi;split at this;simp at this;rename_i h;simpa using h
     rcases hB with ⟨_,rfl⟩|⟨⟨i,hi,ag⟩,_⟩;refine Ww (ZiO ai) ?_;refine gA ?_;refine Za ?_;exact ih_key ((I d.msgs)-(k+1)) ω (k+1) rfl _ (q::qs) _ (hF.mark q) ⟨A,af,ZxT ai hq,rfl⟩ ω (am (Zn7 ab));rw[ab i hi]at ag;simp at ag;intro q a i hi ae t;split at t<;>simp at t;intro q a i id hi ae t hB hq;have bb:id=0:=by split at t;simp at t;exact t.symm;simp at t
     subst bb;have an:W9 m.fields i=true:=by split at t;assumption;simp at t
     rcases hB with ⟨h,_⟩|⟨_,a1,a2,a3,rfl⟩;rw[h i ω]at an;simp at an;have a8:=av (ZgX hi an);rw[a8]at ac;have q2:q≠z2:=λe=>by rw[e,ZHW]at hq;simp at hq
     have q3:q≠z3:=λe=>by rw[ZH0 _ _ q2,e,ZHW]at hq;simp at hq
     have ba:B q=nO:=by rw[ZH0 _ _ q2,ZH0 _ _ q3]at hq;exact hq
     refine Ww (ZiO (ZiO (ZiO ai))) ?_;obtain⟨X,hX⟩:∃X,X=((A.upd z3 (.cells [.bool true])).upd z2 (.cells [.i a1,.i a2,.i a3])).upd q .dfr:=⟨_,rfl⟩;have al:Mk ((A0.upd z3 (.cells [.bool true])).upd z2 (.cells [.i a1,.i a2,.i a3])) (q::qs) X:=⟨_,Mk.upd (o:=.cells [.i fa,.i ff,.i fc]) (by rw[ZH0 _ _ ao];exact ar) (Mk.upd au af),by rw[ZH0 _ _ q2,ZH0 _ _ q3];exact ZxT ai ba,hX⟩;have ap:=ZHW (A0.upd z3 (.cells [.bool true])) z2 (.cells [.i a1,.i a2,.i a3]);have aq:((A0.upd z3 (.cells [.bool true])).upd z2 (.cells [.i a1,.i a2,.i a3])) z3=sO (.cells [.bool true]):=by rw[ZH0 _ _ ao.symm];exact ZHW _ _ _
     have x2:=Mk.get ap al;have x3:=Mk.get aq al;rw[<-hX];refine ZG rfl ?_;refine rh ?_;refine Yb ?_;simp only[Eqs,reduceCtorEq,ZHV,reduceIte,ZHR,ZHY,ZHS,x2,x3,St.upd_self x2,St.upd_self x3];refine(hF.mark q).retU (al.unw ⟨_,_,.tup [.agg [.i a1,.i a2,.i a3],.bool true],S,by simp only[Eqs,reduceCtorEq,ZHV,reduceIte,ZHR,ZHY,ZHS,YP,K7,ap,aq];rfl,ψ,ZHT _,?_,rfl,a1,a2,a3,by rw[ac];rfl⟩);intro c o hc;have e2:c≠z2:=λe=>by rw[e,bc]at hc;simp at hc
     have e3:c≠z3:=λe=>by rw[e,be]at hc;simp at hc
     rw[ZH0 _ _ e2,ZH0 _ _ e3];exact ah c o hc;intro q a i d hi ae t;split at t<;>simp at t;intro i c t;split at t<;>simp at t;exact .inr ⟨0,t.symm⟩
    rintro dd S2 ⟨x,hx,hd,_⟩;cases hd
   simp at h1;obtain rfl:k=I d.msgs:=ω;have a9:d.msgs.all ZaJ=true:=by rw[List.all_eq_true];intro x hx;obtain⟨q,hq,rfl⟩:=ZIc hx;have:=ak q hq;simpa[ZH6,hq]using this
   rw[a9]at ac;refine ZG rfl (Zd ?_);refine rh ?_;refine Yb ?_;simp only[Eqs,reduceCtorEq,ZHV,reduceIte,ZHR,ZHY,ZHS,g2,g3,St.upd_self g2,St.upd_self g3];exact hF.retU (af.unw ⟨_,_,.tup [.agg [.i fa,.i ff,.i fc],.bool false],S,by simp only[Eqs,reduceCtorEq,ZHV,reduceIte,ZHR,ZHY,ZHS,YP,K7,ar,au];rfl,ψ,ZHT _,ah,rfl,fa,ff,fc,by rw[ac];rfl⟩)
  exact bf _ 0 rfl F [] A0 hF rfl ω (by intro q hq;omega)
 rintro dd S ⟨_,a,f,c,h⟩;cases h
def Zmz(d):Zc ZHP 102 [.agg d.cells] (.bool (Yk d)):=by
 refine Ze (cR 102 f102) λF st i=>?_;refine rx @eQ2 ?_;refine rx @eQ2 ?_;rw[show(D.agg [.str d.name,Z0 d.msgs,.str d.start])=.agg d.cells from rfl];refine cV (Zo6 d st) ?_ ?_;rintro o S ⟨rfl,a,f,c,h⟩;cases h;refine gR0 ?_;refine rg ?_;exact i rfl φ (by cases Yk d<;>exact ZHT _) ZHU;rintro o S ⟨_,a,f,c,h⟩;cases h
def Zpc{L s}(l i):qv L s (.iaddr 3) [.d (Z2 l),.d (.i i)]=sO (0<=i/\i<I l,.d (.ep (l.getD i.toNat dE).cells 0)):=rfl
def ZrZ{L s}(l):qv L s .lenL [.d (Z2 l)]=sO (True,.d (.i (I l))):=rfl
def Zva{L s}(l i):qv L s (.iaddr 2) [.d (Z4 l),.d (.i i)]=sO (0<=i/\i<I l,.d (.ep (l.getD i.toNat dE).cells 0)):=rfl
def ZtA{L s}(l):qv L s .lenL [.d (Z4 l)]=sO (True,.d (.i (I l))):=rfl
def ZdM(cs o):Ji (.d (.ep cs o))=[]:=rfl
def WD{d s}(h:0<=Zm d s (I d.msgs)):Zm d s (I d.msgs)=ixS d s/\ixS d s<I d.msgs:=by
 have:=YC (λm=>dC (m.name=s)) (d.msgs.take (I d.msgs));rw[ZIa]at this;unfold ixS;unfold Zm at *;omega
def ZyY{d a i m f}(h:WY d a m i f=0):Kp d a m i f=0/\Yi m f.name i<0/\1<=f.kind/\f.kind<=12:=by
 unfold WY at h;split at h;· omega
 split at h;· omega
 rename_i hnf;split at h;· omega
 rename_i o;split at h;· omega
 simp only[ZId,decide_eq_true_eq,not_or]at o;exact⟨h,ω,ω,ω⟩
def ZnI{m s n}(h:0<=Yi m s n):Yi m s (I m.fields)=Yi m s n/\(Yi m s n).toNat<n/\(Yi m s n).toNat<I m.fields:=by
 unfold Yi at *;have i:=YC (λf:Fld=>dC (f.name=s)) (m.fields.take n);rw[ZIa]at i;refine⟨?_,ω,ω⟩;rw[ZIb];exact Zl2 h
def Zbv{α:Type}[Inhabited α]{l:List α}{x}(h:x∈l):∃i,i<I l/\l.getD i dE=x:=by
 obtain⟨i,o,rfl⟩:=ZIc h;exact⟨i,o,by simp[ZH6,o]⟩
def Jy{d}(h:Yk d=true):Qa d:=by
 unfold Yk at h;rw[ZH1]at h;exact ZkL h.1
def YD(f:Fld):Bool:=(!dC (f.kind=2)&&!dC (f.kind=10))&&!dC (f.kind=11)
def vfs(l:List Fld):List Fld:=l.filter YD
def ZcC{l:List Fld}{i}(h:i<I l):vfs (l.take (i+1))=vfs (l.take i)++if YD (l.getD i dE) then [l.getD i dE] else []:=by
 rw[ZQ h];unfold vfs;rw[List.filter_append];congr 1;simp only[List.filter_cons,List.filter_nil]
def ZqR{l i}(h:i<I l):vfs l=vfs (l.take i)++((if YD (l.getD i dE) then [l.getD i dE] else [])++vfs (l.drop (i+1))):=by
 have o:l=l.take (i+1)++l.drop (i+1):=(List.take_append_drop _ _).symm;conv=>lhs;rw[o];unfold vfs;rw[List.filter_append]
 rw[show List.filter YD (l.take (i+1))=vfs (l.take (i+1)) from rfl,ZcC h,ZIh];rfl
def Kr(m:Msg)(ps:List Val):Bool:=dC ((vfs m.fields).map (·.name)=ps.map Val.name)
def KN{L s}(l):qv L s .lenL [.d (Zu l)]=sO (True,.d (.i (I l))):=rfl
def atV{L s}(l i):qv L s (.iaddr 5) [.d (Zu l),.d (.i i)]=sO (0<=i/\i<I l,.d (.ep (Za8 l i.toNat) 0)):=rfl
def Wc{L s}(l):qv L s .lenL [.d (Zg l)]=sO (True,.d (.i (I l))):=rfl
def Zf2{l}(h:DWf (Zu l)):I l<=big:=h.sl_inv.1
def JO(f):Zc ZHP 37 [.agg f.cells] (.bool (YD f)):=by
 refine Ze (cR 37 f37) λF st i=>?_;refine rx @eQ0 ?_;refine rg ?_;refine rb i ?_;rfl
def Zen(f):Zc ZHP 182 [.agg f.cells] (.bool (YD f)):=by
 refine Ze (cR 182 f182) λF st i=>?_;refine rx @eQ0 ?_;refine rg ?_;refine rb i ?_;rfl
def ZtY(f tag):Zc ZHP 77 [.agg f.cells,.i tag] (.i (Jo f tag)):=by
 refine ZO (cR 77 f77) λab F st r=>?_;have hw:=(Y4 ((ab (.agg f.cells) ψ).agg_inv (Z2 f.cases) (by simp[Fld.cells]))).1;unfold big at hw;clear ab;have hS:=Jo.eq_1 f tag;refine rx @eQ0 ?_;refine rg ?_;refine Zb (fr (I f.cases) (λi Q=>i<=I f.cases->(∀j,j<i->(λc:YE=>dC (c.low<=tag)&&dC (tag<=c.high)) (f.cases.getD j dE)=false)->Q [(1,.d (.i tag)),(2,.loc 2 0),(5,.d (.i i))] [(2,f.cells)] st) (λn o=>?_) λac=>?_);intro i hn hi t;refine rx (nd2 @eQ0 @ZrZ) ?_;refine cd (λh1=>?_) (λh1=>?_);simp at h1;generalize hg:f.cases.getD i dE=c at *;refine xA (nd2 @eQ0 (nd2 @Zpc (nd2 @hg @YE.cells.eq_1))) ?_;refine cd (λh2=>?_) (λh2=>?_);rw[Wv (p:=λc:YE=>dC (c.low<=tag)&&dC (tag<=c.high)) h1 (by rw[hg];exact h2) t]at hS;refine rg ?_;refine ri r ?_;exact hS.symm;refine gA ?_;refine Za ?_;exact o ((I f.cases)-(i+1)) ω (i+1) rfl ω (ZV (q:=λj=>(λc:YE=>dC (c.low<=tag)&&dC (tag<=c.high)) (f.cases.getD j dE)=false) t (by show(dC ((f.cases.getD i dE).low<=tag)&&dC (tag<=(f.cases.getD i dE).high))=false;rw[hg];exact h2));simp at h1;obtain rfl:i=I f.cases:=ω;have u:∀x∈f.cases,(λc:YE=>dC (c.low<=tag)&&dC (tag<=c.high)) x=false:=λx hx=>by obtain⟨j,hj,rfl⟩:=ZIc hx;have:=t j hj;simpa[ZH6,hj]using this
 rw[Wd u]at hS;refine rg ?_;refine ri r ?_;exact hS.symm;exact ac _ 0 rfl ω (by intro j hj;omega)
def ZtS{l i k}{ps:List Val}(u:k=(vfs (l.take i)).length)(hi:i<I l)(hv:YD (l.getD i dE)=true)(h:(vfs l).map (·.name)=ps.map Val.name):k<I ps/\(ps.getD k dE).name=(l.getD i dE).name:=by
 have r:=ZqR hi;rw[if_pos hv]at r;have h2:(vfs l).length=I ps:=by have:=congrArg List.length h;simpa using this
 have t:k<I ps:=by rw[<-h2,r];simp;omega
 refine⟨t,?_⟩;have o:((vfs l).map (·.name))[k]?=(ps.map Val.name)[k]?:=by rw[h]
 rw[r]at o;simp only[List.map_append,ZIo,List.map_nil,List.getElem?_map]at o;rw[ZIw (by simp;omega)]at o;simp[u▸Nat.sub_self k,u.symm]at o;have h5:ps[k]?=sO (ps.getD k dE):=by simp[ZH6,t]
 rw[h5]at o;simpa using o.symm
def Zth(m ps):Zc ZHP 35 [.agg m.cells,Zu ps] (.bool (Kr m ps)):=by
 refine ZO (cR 35 f35) λab F st u=>?_;have hw:=(Y4 ((ab (.agg m.cells) ψ).agg_inv (Zp m.fields) (by simp[Msg.cells]))).1;have ai:=Zf2 (ab (Zu ps) ψ);unfold big at hw ai;clear ab;have hS:=Kr.eq_1 m ps;have r:∀i k,k=(vfs (m.fields.take i)).length->i<I m.fields->YD (m.fields.getD i dE)=true->(vfs m.fields).map (·.name)=ps.map Val.name->k<I ps/\(ps.getD k dE).name=(m.fields.getD i dE).name:=λi k hk hi hv h=>ZtS hk hi hv h;refine rx @eQ3 ?_;refine gG ?_;refine Zb (fr (I m.fields) (λi Q=>∀k,k=(vfs (m.fields.take i)).length->k<=I ps->(vfs (m.fields.take i)).map (·.name)=(ps.take k).map Val.name->i<=I m.fields->Q [(1,.d (Zu ps)),(2,.loc 2 0),(5,.d (.i k)),(6,.d (.i i))] [(2,[.str m.name,Zp m.fields])] st) (λn o=>?_) λaj=>?_);intro i hn k hk ah t hi;refine rx @ZaI ?_;refine cd (λh1=>?_) (λh1=>?_);simp at h1;have hT:=ZcC h1;have r:=r i k hk h1;generalize hg:m.fields.getD i dE=f at *;refine xA (nd2 @atF (nd2 @hg @eQ0)) ?_;rw[show D.agg [.str f.name,.i f.kind,.i f.bits,.bool f.little,.bool f.loose,.i f.low,.i f.high,.i f.size.base,Z4 f.size.terms,.str f.of,.str f.tag,.str f.from_,Z2 f.cases,.i f.check,.i f.key]=.agg f.cells from rfl];refine cl (JO f) ?_;refine cd (λh2=>?_) (λh2=>?_);rw[Bool.not_eq_true']at h2;rw[h2,if_neg ψ,ZIj]at hT;refine gA ?_;refine Za ?_;exact o ((I m.fields)-(i+1)) ω (i+1) rfl k (by rw[hT];exact hk) ah (by rw[hT];exact t) ω;rw[Bool.not_eq_false']at h2;rw[h2,if_pos rfl]at hT;have r:=r h2;obtain⟨x,y,b,hh,p,hr,ad⟩:=ZAH ps k;refine xA (nd2 @KN (nd2 @atV (nd2 @hr (nd2 @atF (nd2 @hg @eQ0))))) ?_;refine cd (λh3=>?_) (λh3=>?_);have af:¬(vfs m.fields).map (·.name)=ps.map Val.name:=λh=>by have h4:=r h;rw[<-(ad h4.1).1]at h4;simp[h4.2]at h3;omega
 rw[decide_eq_false af]at hS;refine rg ?_;refine rb u ?_;exact hS.symm;simp at h3;have ae:k<I ps:=ω;have ag:(ps.getD k dE).name=f.name:=by rw[<-(ad ae).1];exact h3.2
 refine gA ?_;refine gA ?_;refine Za ?_;exact o ((I m.fields)-(i+1)) ω (i+1) rfl (k+1) (by rw[hT];simp;omega) ω (by rw[hT,ZQ ae];simp only[List.map_append,ZIo,List.map_nil,t,ag]) ω;simp at h1;obtain rfl:i=I m.fields:=ω;rw[ZIb]at hk t;have ac:dC ((k:Int)=I ps)=Kr m ps:=by rw[hS];refine decide_eq_decide.2 ⟨λh=>?_,λh=>?_⟩;have:k=I ps:=ω;rw[t,this,ZIb];have:=congrArg List.length h;simp at this;omega
 refine rx @KN ?_;refine rb u ?_;exact ac;exact aj _ 0 rfl 0 rfl ω rfl ω
def ZsN(k:Int):Bool:=dC (k=1) ||decide (k=3)
def Zpb(k:Int):Bool:=dC (k=4) ||decide (k=5)
def WH(k:Int)(x:Val):Bool:=(((!ZsN k&&!dC (x.int=0)) ||(!Zpb k&&dC (0<(I x.bytes:Int)))) ||(!dC (k=6)&&dC (0<(I x.hdrs:Int)))) ||(!dC (7<=k)&&dC (0<(I x.parts:Int)))
def Zrg(k x):Zc ZHP 39 [.i k,.agg x.cells] (.bool (WH k x)):=by
 refine Ze (cR 39 f39) λF st i=>?_;rw[x.cells_eq];refine gG ?_;refine gG ?_;refine rx (nd2 @KN (nd2 @Wc @Zbt)) ?_;refine rb i ?_;rfl
def K3(have_ want:Int):Int:=if dC (have_<want) then 4 else if dC (want<have_) then 5 else 0
def Zg2{a b}:Zc ZHP 72 [.i a,.i b] (.i (K3 a b)):=by
 refine Ze (cR 72 f72) λF st i=>?_;have o:=K3.eq_1 a b;refine gG ?_;refine cd (λr=>?_) (λr=>?_);rw[if_pos r]at o;refine rg ?_;refine ri i ?_;exact o.symm;rw[if_neg (by simp[r])]at o;refine rg ?_;refine cd (λt=>?_) (λt=>?_);rw[if_pos t]at o;refine rg ?_;refine ri i ?_;exact o.symm;rw[if_neg (by simp[t])]at o;refine rg ?_;refine ri i ?_;exact o.symm
abbrev nvC(x:Str×Int):List D:=[.str x.1,.i x.2]
def ZfF(l:List (Str×Int)):D:=slD 2 nvC l
def ZB8{L s}(l):qv L s .lenL [.d (ZfF l)]=sO (True,.d (.i (I l))):=rfl
def atN{L s}(l i):qv L s (.iaddr 2) [.d (ZfF l),.d (.i i)]=sO (0<=i/\i<I l,.d (.ep (nvC (l.getD i.toNat dE)) 0)):=rfl
def YZ(s:Str):List (Str×Int)->Int
 | []=>-1
 |x::r=>if x.1=s then x.2 else YZ s r
def ZxU{s}{l:List (Str×Int)}{i}(h:i<I l):YZ s (l.drop i)=if (l.getD i dE).1=s then (l.getD i dE).2 else YZ s (l.drop (i+1)):=by
 rw[Yf h];rfl
def Zoo(s l):Zc ZHP 78 [.str s,ZfF l] (.i (YZ s l)):=by
 refine ZO (cR 78 f78) λt F st r=>?_;have hw:=(Y4 (t (ZfF l) ψ)).1;unfold big at hw;clear t;refine gG ?_;refine Zb (fr (I l) (λi Q=>YZ s (l.drop i)=YZ s l->i<=I l->Q [(0,.d (.str s)),(1,.d (ZfF l)),(5,.d (.i i))] [] st) (λn o=>?_) λu=>?_);intro i hn ht hi;refine rx @ZB8 ?_;refine cd (λh1=>?_) (λh1=>?_);simp at h1;have hd:=ZxU (s:=s) h1;rw[ht]at hd;generalize hg:l.getD i dE=g at *;refine xA (nd2 @atN @hg) ?_;refine cd (λh2=>?_) (λh2=>?_);rw[if_pos (by simpa using h2)]at hd;refine xA (nd2 @atN @hg) ?_;refine ri r ?_;exact hd.symm;rw[if_neg (by simpa using h2)]at hd;refine gA ?_;refine Za ?_;exact o ((I l)-(i+1)) ω (i+1) rfl hd.symm ω;simp at h1;obtain rfl:i=I l:=ω;rw[List.drop_length]at ht;refine rg ?_;refine ri r ?_;rw[<-ht];rfl;exact u _ 0 rfl rfl ω
def J9:List Fld->List Val->List (Str×Int)
 | [],_=>[]
 |f::r,ps=>(if f.kind=2 then [(f.name,f.low)] else [])++(if YD f then (if (dC (0<(I ps:Int))&&Yy f) then [(f.name,(ps.getD 0 dE).int)] else [])++J9 r (ps.drop 1) else J9 r ps)
def Zdg(m:Msg)(ps:List Val):List (Str×Int):=J9 m.fields ps
def Zy8{l:List Fld}{i ps}(h:i<I l):J9 (l.drop i) ps=(if (l.getD i dE).kind=2 then [((l.getD i dE).name,(l.getD i dE).low)] else [])++(if YD (l.getD i dE) then (if (dC (0<(I ps:Int))&&Yy (l.getD i dE)) then [((l.getD i dE).name,(ps.getD 0 dE).int)] else [])++J9 (l.drop (i+1)) (ps.drop 1) else J9 (l.drop (i+1)) ps):=by
 rw[Yf h,J9.eq_2]
def Zpt{l:List Fld}{i}:(vfs (l.take i)).length<=i:=by
 unfold vfs;exact ZIy (List.length_filter_le _ _) (by simp;omega)
def ZpD(m)(hm:I m.fields<=1000)(ps):Zc ZHP 36 [.agg m.cells,Zu ps] (ZfF (Zdg m ps)):=by
 refine ZO (cR 36 f36) λai F st ae=>?_;have am:=Zf2 (ai (Zu ps) ψ);unfold big at am;clear ai;have hS:=Zdg.eq_1 m ps;refine rx @eQ3 ?_;refine gG ?_;refine rg ?_;refine kl (st) [(1,.d (Zu ps)),(2,.loc 2 0),(5,.d (.sl .full 0 2 λ_=>[])),(6,.d (.i (0:Nat))),(7,.d (.i (0:Nat)))] [(2,[.str m.name,Zp m.fields])] (.skip (.skip (.cons (.d (Z1 λb h=>by cases h)) Wx))) Y6 ?_;refine Zb (fr (I m.fields) (λi Q=>∀k tk row u,tk.okIn st->Zy nvC row u->k<=i->I u<=2*i->u++J9 (m.fields.drop i) (ps.drop k)=Zdg m ps->i<=I m.fields->Q [(1,.d (Zu ps)),(2,.loc 2 0),(5,.d (.sl tk (I u) 2 row)),(6,.d (.i k)),(7,.d (.i i))] [(2,[.str m.name,Zp m.fields])] (st.own tk (I u*2))) (λn ab=>?_) λan=>?_);intro i hn k tk row u ac t hk hol r hi;refine rx @ZaI ?_;refine cd (λh1=>?_) (λh1=>?_);simp at h1;have ag:=Zy8 (ps:=ps.drop k) h1;rw[ag]at r;clear ag;generalize hg:m.fields.getD i dE=f at *;refine xA (nd2 @atF (nd2 @hg @eQ0)) ?_;refine rx @eQ0 ?_;refine jU [0] (λQ=>∀tk row o,tk.okIn st->Zy nvC row o->o=u++(if f.kind=2 then [(f.name,f.low)] else [])->Q F [(1,.d (Zu ps)),(2,.loc 2 0),(5,.d (.sl tk (I o) 2 row)),(6,.d (.i k)),(7,.d (.i i)),(8,.loc 8 0)] [(2,[.str m.name,Zp m.fields]),(8,f.cells)] (st.own tk (I o*2))) ?_ λjn=>?_;clear ac t tk row;intro tk row o ac t ho;have hol2:I o<=2*i+1:=by rw[ho,ZHX];split<;>simp<;>omega
 rw[<-ZIh,<-ho]at r;refine rx @eQ0 ?_;rw[show D.agg [.str f.name,.i f.kind,.i f.bits,.bool f.little,.bool f.loose,.i f.low,.i f.high,.i f.size.base,Z4 f.size.terms,.str f.of,.str f.tag,.str f.from_,Z2 f.cases,.i f.check,.i f.key]=.agg f.cells from rfl];refine cl (JO f) ?_;refine cd (λh3=>?_) (λh3=>?_);rw[Bool.not_eq_true']at h3;rw[h3,if_neg ψ]at r;refine gA ?_;refine Za ?_;exact ab (I m.fields-(i+1)) ω (i+1) rfl k tk row o ac t ω ω r ω;rw[Bool.not_eq_false']at h3;rw[h3,if_pos rfl,List.drop_drop,<-ZIh]at r;have al:dC (0<((ps.drop k).length:Int))=dC ((k:Int)<I ps):=decide_eq_decide.2 (by rw[ZIq];omega);rw[al]at r;refine rx (nd2 @KN @eQ0) ?_;rw[show D.agg [.str f.name,.i f.kind,.i f.bits,.bool f.little,.bool f.loose,.i f.low,.i f.high,.i f.size.base,Z4 f.size.terms,.str f.of,.str f.tag,.str f.from_,Z2 f.cases,.i f.check,.i f.key]=.agg f.cells from rfl];refine cG (ZeA f) ?_;refine cd (λh4=>?_) (λh4=>?_);rw[h4,if_pos rfl]at r;rw[ZH1,decide_eq_true_eq]at h4;have ak:k<I ps:=ω;have hr:=YX ak;have aj:(ps.drop k).getD 0 dE=ps.getD k dE:=by simp[ZH6]
 rw[aj]at r;generalize hx:ps.getD k dE=x at *;refine xA (nd2 @atV (nd2 @hr @eQ0)) ?_;refine ZrG (st) (tk) rfl rfl rfl rfl rfl rfl φ φ rfl (by first|trivial|assumption) ω (by (unfold big;omega)) λt1 af=>Ye ?_;simp only[Eqs,reduceCtorEq,ZHV,reduceIte,ZHR,ZHY,ZHS];refine gA ?_;refine gA ?_;have ad:=ab (I m.fields-(i+1)) ω (i+1) rfl (k+1) t1 _ (o++[(f.name,x.int)]) af (t.snoc (x:=(f.name,x.int)) (row2:=ZI [.str [],.i 0] ([0].zip [.agg [.str f.name,.i x.int]])) rfl rfl) ω (by simp;omega) r ω;rw[ZHX]at ad;refine Za ?_;exact ad;rw[h4,if_neg ψ,ZIj]at r;refine gA ?_;refine gA ?_;refine Za ?_;exact ab (I m.fields-(i+1)) ω (i+1) rfl (k+1) tk row o ac t ω ω r ω;refine cd (λh2=>?_) (λh2=>?_);rw[decide_eq_true_eq]at h2;rw[if_pos h2]at jn;refine rx @eQ0 ?_;refine Y2 (st) (tk) rfl rfl rfl rfl rfl rfl φ φ rfl (by first|trivial|assumption) ω (by (unfold big;omega)) λt1 af=>Zk ?_;simp only[Eqs,reduceCtorEq,ZHV,reduceIte,ZHR,ZHY,ZHS];have hj:=jn t1 _ (u++[(f.name,f.low)]) af (t.snoc (x:=(f.name,f.low)) (row2:=ZI [.str [],.i 0] ([0].zip [.agg [.str f.name,.i f.low]])) rfl rfl) rfl;rw[ZHX]at hj;exact hj;rw[decide_eq_false_iff_not]at h2;rw[if_neg h2]at jn;refine Zo ?_;refine kE [1,2,5,6,7,8] ?_;exact jn tk row u ac t (ZIj _).symm;simp at h1;obtain rfl:i=I m.fields:=ω;rw[List.drop_length]at r;have ah:u=Zdg m ps:=by rw[<-r];simp[J9]
 rw[<-ah]at ae;refine rg ?_;exact ae rfl φ (t.le rfl) (Yj ac);exact an _ 0 rfl 0 .full _ [] trivial Zy.nil ω ψ rfl ω
def Ze1(s:JX)(l:List (Str×Int)):Int:=s.base+QR (λt=>YZ t.field l) s.terms
def Zg1(s)(hv:ZU s=true)(l)(hb:∀t∈s.terms,0<=YZ t.field l/\YZ t.field l<34359738368):Zc ZHP 73 [.agg s.cells,ZfF l] (.i (Ze1 s l)):=by
 refine Ze (cR 73 f73) λF st ae=>?_;obtain⟨hbase,o⟩:=ZgD hv;have hlen:I s.terms<=4:=by unfold ZU at hv;simp only[ZH1,decide_eq_true_eq]at hv;exact hv.1.2
 have hS:=Ze1.eq_1 s l;refine rx @eQ7 ?_;refine gG ?_;refine Zb (fr (I s.terms) (λi Q=>∀n,n=s.base+QR (λt=>YZ t.field l) (s.terms.take i)->i<=I s.terms->Q [(1,.d (ZfF l)),(2,.loc 2 0),(5,.d (.i n)),(6,.d (.i i))] [(2,[.i s.base,Z4 s.terms])] st) (λn u=>?_) λaf=>?_);intro i hnn n ab hi;refine rx @ZtA ?_;refine cd (λh1=>?_) (λh1=>?_);simp at h1;have r:=ZqM (v:=λt=>YZ t.field l) h1;have hm:s.terms.getD i dE∈s.terms:=Zr h1;have ac:=ZiP (v:=λt=>YZ t.field l) (l:=s.terms.take (i+1)) λt ht=>⟨o t (List.mem_of_mem_take ht),hb t (List.mem_of_mem_take ht)⟩;rw[ZIa]at ac;have ad:=ZiP (v:=λt=>YZ t.field l) (l:=s.terms.take i) λt ht=>⟨o t (List.mem_of_mem_take ht),hb t (List.mem_of_mem_take ht)⟩;rw[ZIa]at ad;rw[r]at ac;have h3:=ZjZ (o _ hm) (hb _ hm);generalize hg:s.terms.getD i dE=t at *;generalize hp:QR (λt=>YZ t.field l) (s.terms.take i)=pre at *;have r:=r;refine xA (nd2 @Zva (nd2 @hg (nd2 @eQ8 @ZdM))) ?_;refine cXD (nd2 @Zva (nd2 @hg (nd2 @eQ8 @ZdM))) (Zoo t.field l) ?_;generalize hmv:t.factor*YZ t.field l=mv at *;refine aa ?_;refine gA ?_;refine Za ?_;exact u ((I s.terms)-(i+1)) ω (i+1) rfl (n+mv) (by rw[r,ab,Int.add_assoc]) ω;simp at h1;obtain rfl:i=I s.terms:=ω;rw[ZIb]at ab;refine rg ?_;refine ri ae ?_;rw[hS,ab];exact af _ 0 rfl _ (by simp[QR]) ω
def Kn(n:Nat):Str:=if n<10 then [UInt8.ofNat (48+n)] else Kn (n / 10)++[UInt8.ofNat (48+n % 10)]
termination_by n
decreasing_by omega
def Kb{n}(h:n<10):Kn n=[UInt8.ofNat (48+n)]:=by rw[Kn,if_pos h]
def Zbl{n}(h:¬n<10):Kn n=Kn (n / 10)++Kn (n % 10):=by
 rw[Kn,if_neg h,Kb (n:=n % 10) ω]
def Zbm(n):(Kn n).length<=n+1:=by
 induction n using Nat.strongRecOn with
 |ind n ih =>by_cases h:n<10;rw[Kb h];simp;rw[Zbl h,ZHX,Kb (n:=n % 10) ω];have:=ih (n / 10) ω;simp;omega
def ZpC(n:Nat)(hn:n<1000000):Zc ZHP 71 [.i n] (.str (Kn n)):=by
 induction n using Nat.strongRecOn with
 |ind n ih =>
 refine Ze (cR 71 f71) λF st o=>?_;refine gG ?_;refine cd (λt=>?_) (λt=>?_);have r:n<10:=by simp at t;omega
 rw[Kb r]at o;refine rg ?_;rw[Zav .u8 (48+(n:Int)) (by have t:IntKind.u8.min=0:=rfl;have h2:IntKind.u8.max=255:=rfl;unfold inR;omega)];refine⟨ω,ω,λi hi=>?_,?_⟩;obtain rfl:i=0:=ω;exact⟨_,rfl⟩
 skip
 refine rs o ?_;show[UInt8.ofNat (48+(n:Int)).toNat]=_;rw[show(48+(n:Int)).toNat=48+n by omega];have r:¬n<10:=by simp at t;omega
 have i1:=ih (n / 10) ω ω;have i2:=ih (n % 10) ω ω;have hl:=Zbm (n / 10);have hl2:=Zbm (n % 10);rw[Zbl r]at o;have u:(n:Int).tdiv 10=((n / 10:Nat):Int):=by rw[Int.tdiv_eq_ediv_of_nonneg ω];omega
 have e2:(n:Int).tmod 10=((n % 10:Nat):Int):=by rw[Int.tmod_eq_emod_of_nonneg ω];omega
 refine rx @u ?_;refine⟨by decide,ω,ω,?_⟩;refine cX @e2 (i1) ?_;refine⟨by decide,ω,ω,?_⟩;refine cl (i2) ?_;refine⟨by unfold big;omega,?_⟩;refine rs o ?_;rfl
def QJ(ps:List Val)(k:Nat):Nat:=((ps.take k).filter (λx=>dC (x.name=(ps.getD k dE).name))).length
def ZT(ps:List Val)(k:Nat):Str:=if QJ ps k=0 then (ps.getD k dE).name else (ps.getD k dE).name++[58]++Kn (QJ ps k)
def ZD(path s:Str):Str:=if path=[] then s else path++[46]++s
def Zhr(ps k):QJ ps k<=k:=by
 unfold QJ;exact ZIy (List.length_filter_le _ _) (by simp;omega)
def Zbo(ps:List Val)(k i:Nat):Nat:=((ps.take i).filter (λx=>dC (x.name=(ps.getD k dE).name))).length
def Zqf{ps k i}(h:i<I ps):Zbo ps k (i+1)=Zbo ps k i+if (ps.getD i dE).name=(ps.getD k dE).name then 1 else 0:=by
 unfold Zbo;rw[ZQ h,List.filter_append,ZHX]
 congr 1
 simp only[List.filter_cons,List.filter_nil];split<;>rename_i o<;>simp at o<;>simp[o]
def ZuP(ps k i):Zbo ps k i<=i:=by
 unfold Zbo;exact ZIy (List.length_filter_le _ _) (by simp;omega)
def Zb5(path)(ps:List Val)(k:Nat)(hk:k<I ps)(hps:I ps<=100000)(hn:∀x∈ps,I x.name<=1000)(hp:I path<=1000000):Zc ZHP 38 [.str path,Zu ps,.i k] (.str (ZD path (ZT ps k))):=by
 refine Ze (cR 38 f38) λF st r=>?_;have u:=YX hk;have hnk:=hn _ (Zr hk);have t:=λi=>Zqf (ps:=ps) (k:=k) (i:=i);have hO:=ZT.eq_1 ps k;have hJ:=ZD.eq_1 path (ZT ps k);have ab:QJ ps k=Zbo ps k k:=rfl;have hdl:=Zhr ps k;have hdec:=Zbm (QJ ps k);have hD:=ZpC (QJ ps k) ω;generalize hx:ps.getD k dE=x at *;refine gG ?_;refine rg ?_;refine Zb (fr (k) (λi Q=>i<=k->Q [(0,.d (.str path)),(1,.d (Zu ps)),(2,.d (.i k)),(7,.d (.i (Zbo ps k i))),(8,.d (.i i))] [] st) (λn o=>?_) λad=>?_);intro i hn2 hi;refine rg ?_;refine cd (λh1=>?_) (λh1=>?_);simp at h1;have ac:=YX (show i<I ps by omega);have hs:=t i ω;have hdi:=ZuP ps k i;generalize hy:ps.getD i dE=y at *;refine xA (nd2 @atV (nd2 @ac @u)) ?_;refine cd (λh2=>?_) (λh2=>?_);rw[if_pos (by simpa using h2)]at hs;refine gA ?_;refine gA ?_;rw[show((Zbo ps k i:Nat):Int)+1=((Zbo ps k (i+1):Nat):Int) by rw[hs];rfl];refine Za ?_;exact o ((k)-(i+1)) ω (i+1) rfl ω;rw[if_neg (by simpa using h2)]at hs;refine gA ?_;rw[show((Zbo ps k i:Nat):Int)=((Zbo ps k (i+1):Nat):Int) by rw[hs];rfl];refine Za ?_;exact o ((k)-(i+1)) ω (i+1) rfl ω;simp at h1;obtain rfl:i=k:=ω;rw[<-ab];refine xA (nd2 @atV @u) ?_;refine rg ?_;refine jU [0] (λQ=>∀s,s=ZT ps i->I s<=200000->Q F [(0,.d (.str path)),(9,.d (.str s))] [] st) ?_ λjn=>?_;intro s hs hsl;rw[<-hs]at hJ;refine rg ?_;refine cd (λh3=>?_) (λh3=>?_);rw[if_pos (by simpa using h3)]at hJ;refine rg ?_;refine rs r ?_;rw[<-hs];exact hJ.symm;rw[if_neg (by simpa using h3)]at hJ;refine rg ?_;repeat(refine ZHZ (by first|omega|trivial|(intro h0;simp at h0;omega)|(((try simp only[ZHX,ZH3,List.length_nil]);unfold big;omega))) ?_)
 refine rs r ?_;rw[<-hs];exact hJ.symm;refine cd (λh2=>?_) (λh2=>?_);simp at h2;rw[if_neg ω]at hO;refine rg ?_;refine⟨by unfold big;omega,?_⟩;refine cl (hD) ?_;repeat(refine ZHZ (by first|omega|trivial|(intro h0;simp at h0;omega)|(((try simp only[ZHX,ZH3,List.length_nil]);unfold big;omega))) ?_)
 exact jn _ hO.symm (by simp only[ZHX,ZH3,List.length_nil];omega);simp at h2;rw[if_pos h2]at hO;refine Zo ?_;refine kE [0,9] ?_;exact jn _ hO.symm ω;exact ad _ 0 rfl ω
mutual
def KF:Val->Nat
 |.mk _ _ _ _ p=>1+nodesL p
def nodesL:List Val->Nat
 | []=>0
 |v::r=>KF v+nodesL r
end
mutual
def ZY:Val->Nat
 |.mk _ _ _ _ p=>heightL p+1
def heightL:List Val->Nat
 | []=>0
 |v::r=>max (ZY v) (heightL r)
end
def Zai(h:Hdr):Bool:=dC ((1048576:Int)<I h.name) ||decide ((1048576:Int)<I h.text)
def JM(v:Val):Bool:=(((((Yl v.name&&dC (0<=v.int))&&dC (v.int<34359738368))&&dC ((I v.bytes:Int)<=1048576))&&dC ((I v.hdrs:Int)<=100))&&!v.hdrs.any Zai)
mutual
def Yz:Val->Bool
 |.mk n i b h p=>okAllL p&&JM (.mk n i b h p)
def okAllL:List Val->Bool
 | []=>true
 |v::r=>Yz v&&okAllL r
end
def JN(v):KF v=1+nodesL v.parts:=by cases v;rfl
def KW(v):ZY v=heightL v.parts+1:=by cases v;rfl
def ZfG(v):Yz v=(okAllL v.parts&&JM v):=by cases v;rfl
def ZeY{l}:okAllL l=l.all Yz:=by
 induction l with
 |nil=>rfl
 |cons v r ih=>rw[okAllL,ih,List.all_cons]
def ZtV{l:List Val}{i}(h:i<I l):nodesL (l.take (i+1))=nodesL (l.take i)+KF (l.getD i dE):=by
 rw[ZQ h];generalize l.getD i dE=x;induction l.take i with
 |nil=>simp[nodesL]
 |cons y r ih=>simp only[List.cons_append,nodesL,ih];omega
def Zsu{l:List Val}{i}(h:i<I l):heightL (l.take (i+1))=max (heightL (l.take i)) (ZY (l.getD i dE)):=by
 rw[ZQ h];generalize l.getD i dE=x;induction l.take i with
 |nil=>simp[heightL]
 |cons y r ih=>simp only[List.cons_append,heightL,ih];omega
def ZtU{l}(i):nodesL (l.take i)<=nodesL l:=by
 induction l generalizing i with
 |nil=>simp[nodesL]
 |cons v r ih =>
  cases i with
  |zero=>simp[nodesL]
  |succ i=>simp only[List.take_succ_cons,nodesL];have:=ih i;omega
def ZvQ{l x}(h:x∈l):KF x<=nodesL l:=by
 induction l with
 |nil=>simp at h
 |cons v r ih =>rcases List.mem_cons.1 h with rfl|h;simp only[nodesL];omega;have:=ih h;simp only[nodesL];omega
def ZaV{l x}(h:x∈l):ZY x<=heightL l:=by
 induction l with
 |nil=>simp at h
 |cons v r ih =>rcases List.mem_cons.1 h with rfl|h;simp only[heightL];omega;have:=ih h;simp only[heightL];omega
def Zsv(v):ZY v<=KF v:=by
 induction v using Val.ind with
 |h v ih =>
  rw[KW,JN];have:∀l:List Val,(∀x∈l,ZY x<=KF x)->heightL l<=nodesL l:=λl i=>by
   induction l with
   |nil=>simp[heightL]
   |cons a r ih2 =>have h1:=i a ψ;have h2:=ih2 λx o=>i x (by simp[o]);simp only[heightL,nodesL];omega
  have:=this v.parts ih;omega
def ZkO{v:Val}(h:∀a∈[D.agg v.cells],DWf a):I v.parts<=big:=by
 have i:=h (D.agg v.cells) ψ;have o:=i.agg_inv (Zu v.parts) (by rw[ZIe];simp);exact o.sl_inv.1
def ZkH(f:Val->Int)(l:List Val):Int:=l.foldl (λa x=>IntKind.i64.wrap (a+f x)) 1
def ZqN{f}{l:List Val}{i}(h:i<I l):IntKind.i64.wrap (ZkH f (l.take i)+f (l.getD i dE))=ZkH f (l.take (i+1)):=by
 rw[ZQ h];simp[ZkH]
def Wn{n}(h:-9223372036854775808<=n/\n<=9223372036854775807):IntKind.i64.wrap n=n :=
 Zav _ _ (by have h1:IntKind.i64.min=-9223372036854775808:=rfl;have h2:IntKind.i64.max=9223372036854775807:=rfl;unfold inR;omega)
def Zwj{f:Val->Int}{l}(hl:nodesL l<=1099511627776)(t:∀x∈l,f x=KF x):ZkH f l=1+nodesL l:=by
 have o:∀k,k<=I l->ZkH f (l.take k)=1+nodesL (l.take k):=by
  intro k;induction k with
  |zero=>intro _;simp[ZkH,nodesL]
  |succ k ih =>intro hk;have r:=ZtV (l:=l) (i:=k) ω;have h2:=ZtU (l:=l) (k+1);rw[<-ZqN ω,ih ω,t _ (Zr ω),Wn ω,r];omega
 have:=o (I l) (ZH9 _)
 rwa [ZIb]at this
def Zol(v:Val)(f)(hf:∀x∈v.parts,Zc ZHP 67 [.agg x.cells] (.i (f x))):Zc ZHP 67 [.agg v.cells] (.i (ZkH f v.parts)):=by
 refine ZO (cR 67 f67) λab F st u=>?_;have hw:=ZkO ab;unfold big at hw;clear ab;rw[v.cells_eq];refine gG ?_;refine rg ?_;refine Zb (fr (I v.parts) (λi Q=>i<=I v.parts->Q [(1,.loc 1 0),(3,.d (.i (ZkH f (v.parts.take i)))),(4,.d (.i i))] [(1,[.str v.name,.i v.int,Zg v.bytes,Zx v.hdrs,Zu v.parts])] st) (λn o=>?_) λac=>?_);intro i hn hi;refine rx @KN ?_;refine cd (λh=>?_) (λh=>?_);simp at h;have hr:=YX h;have r:=ZqN (f:=f) h;have t:=hf _ (Zr h);rw[ZIe]at t;generalize v.parts.getD i dE=x at *;refine rh ?_;refine We ?_;simp only[Eqs,reduceCtorEq,ZHV,reduceIte,ZHR,ZHY,ZHS,Wy,WW,KN,atV,hr];refine aa ?_;refine JV rfl rfl rfl rfl rfl φ φ (by exact t) (We ?_);simp only[Eqs,reduceCtorEq,ZHV,reduceIte,ZHR,ZHY,ZHS,Wy,WW];refine ZaU rfl rfl rfl φ (We ?_);simp only[Eqs,reduceCtorEq,ZHV,reduceIte,ZHR,ZHY,ZHS,Wy,WW];rw[r];refine gA ?_;refine Za ?_;exact o ((I v.parts)-(i+1)) ω (i+1) rfl ω;simp at h;obtain rfl:i=I v.parts:=ω;rw[ZIb];refine rg ?_;refine ri u ?_;rfl;exact ac _ 0 rfl ω
def Zrf(v):∃n,Zc ZHP 67 [.agg v.cells] (.i n)/\(KF v<=1099511627776->n=KF v):=by
 induction v using Val.ind with
 |h v ih =>
  have o:∀x:Val,∃n,x∈v.parts->Zc ZHP 67 [.agg x.cells] (.i n)/\(KF x<=1099511627776->n=KF x):=λx=>by by_cases i:x∈v.parts;obtain⟨n,r⟩:=ih x i;exact⟨n,λ_=>r⟩;exact⟨0,λh=>absurd h i⟩
  refine⟨_,Zol v (λx=>(o x).choose) λx i=>((o x).choose_spec i).1,λr=>?_⟩;rw[JN]at r⊢;rw[Zwj ω λx i=>((o x).choose_spec i).2 (by have:=ZvQ i;omega)];omega
def ZjV(f:Val->Int)(l:List Val):Int:=l.foldl (λa x=>max a (f x)) 0
def Zqw{f}{l:List Val}{i}(h:i<I l):max (ZjV f (l.take i)) (f (l.getD i dE))=ZjV f (l.take (i+1)):=by
 rw[ZQ h];simp[ZjV]
def ZvM{f:Val->Int}{l}(o:∀x∈l,f x=ZY x):ZjV f l=heightL l:=by
 have i:∀k,k<=I l->ZjV f (l.take k)=heightL (l.take k):=by
  intro k;induction k with
  |zero=>intro _;simp[ZjV,heightL]
  |succ k ih =>intro hk;rw[<-Zqw ω,ih ω,o _ (Zr ω),Zsu ω];omega
 have:=i (I l) (ZH9 _)
 rwa [ZIb]at this
def Zok(v:Val)(f)(hf:∀x∈v.parts,Zc ZHP 68 [.agg x.cells] (.i (f x))):Zc ZHP 68 [.agg v.cells] (.i (IntKind.i64.wrap (ZjV f v.parts+1))):=by
 refine ZO (cR 68 f68) λab F st u=>?_;have hw:=ZkO ab;unfold big at hw;clear ab;rw[v.cells_eq];refine gG ?_;refine rg ?_;refine Zb (fr (I v.parts) (λi Q=>i<=I v.parts->Q [(1,.loc 1 0),(3,.d (.i (ZjV f (v.parts.take i)))),(4,.d (.i i))] [(1,[.str v.name,.i v.int,Zg v.bytes,Zx v.hdrs,Zu v.parts])] st) (λn o=>?_) λac=>?_);intro i hn hi;refine rx @KN ?_;refine cd (λh=>?_) (λh=>?_);simp at h;have hr:=YX h;have r:=Zqw (f:=f) h;have t:=hf _ (Zr h);rw[ZIe]at t;generalize v.parts.getD i dE=x at *;refine xA (nd2 @KN (nd2 @atV @hr)) ?_;refine cl (t) ?_;rw[r];refine gA ?_;refine Za ?_;exact o ((I v.parts)-(i+1)) ω (i+1) rfl ω;simp at h;obtain rfl:i=I v.parts:=ω;rw[ZIb];refine rh ?_;refine We ?_;simp only[Eqs,reduceCtorEq,ZHV,reduceIte,ZHR,ZHY,ZHS,Wy,WW];refine ZaU rfl rfl rfl φ (We ?_);simp only[Eqs,reduceCtorEq,ZHV,reduceIte,ZHR,ZHY,ZHS,Wy,WW];refine ri u ?_;rfl;exact ac _ 0 rfl ω
def Zre(v):∃n,Zc ZHP 68 [.agg v.cells] (.i n)/\(ZY v<=1099511627776->n=ZY v):=by
 induction v using Val.ind with
 |h v ih =>
  have o:∀x:Val,∃n,x∈v.parts->Zc ZHP 68 [.agg x.cells] (.i n)/\(ZY x<=1099511627776->n=ZY x):=λx=>by by_cases i:x∈v.parts;obtain⟨n,r⟩:=ih x i;exact⟨n,λ_=>r⟩;exact⟨0,λh=>absurd h i⟩
  refine⟨_,Zok v (λx=>(o x).choose) λx i=>((o x).choose_spec i).1,λr=>?_⟩;rw[KW]at r⊢;rw[ZvM λx i=>((o x).choose_spec i).2 (by have:=ZaV i;omega),Wn ω];omega
def Zt7(v):Zc ZHP 122 [.agg v.cells] (.bool (JM v)):=by
 refine ZO (cR 122 f122) λac F st o=>?_;have hw:=(Y4 ((ac (.agg v.cells) ψ).agg_inv (slD 2 Hdr.cells v.hdrs) (by rw[v.cells_eq];simp[Zx]))).1;unfold big at hw;clear ac;have hS:=JM.eq_1 v;rw[v.cells_eq];refine rg ?_;refine rx (nd2 @Wc @Zbt) ?_;refine cX (nd2 @Wc @Zbt) (Zb4 _) ?_;have t:(((((!Yl v.name ||decide (v.int<0)) ||decide ((34359738368:Int)<=v.int)) ||decide ((1048576:Int)<I v.bytes)) ||decide ((100:Int)<I v.hdrs)))=!((((Yl v.name&&dC (0<=v.int))&&dC (v.int<34359738368))&&dC ((I v.bytes:Int)<=1048576))&&dC ((I v.hdrs:Int)<=100)):=by simp only[Bool.not_and];rw[show dC (v.int<0)=!dC (0<=v.int) by rw[<-decide_not];exact decide_eq_decide.2 ω,show dC ((34359738368:Int)<=v.int)=!dC (v.int<34359738368) by rw[<-decide_not];exact decide_eq_decide.2 ω,show dC ((1048576:Int)<I v.bytes)=!dC ((I v.bytes:Int)<=1048576) by rw[<-decide_not];exact decide_eq_decide.2 ω,show dC ((100:Int)<I v.hdrs)=!dC ((I v.hdrs:Int)<=100) by rw[<-decide_not];exact decide_eq_decide.2 ω]
 rw[t];generalize ((((Yl v.name&&dC (0<=v.int))&&dC (v.int<34359738368))&&dC ((I v.bytes:Int)<=1048576))&&dC ((I v.hdrs:Int)<=100))=q at *;refine cd (λh1=>?_) (λh1=>?_);rw[Bool.not_eq_true']at h1;rw[h1,ZIl]at hS;refine rg ?_;refine rb o ?_;exact hS.symm;rw[Bool.not_eq_false']at h1;rw[h1,ZIf]at hS;refine rg ?_;refine Zb (fr (I v.hdrs) (λi Q=>i<=I v.hdrs->(∀j,j<i->Zai (v.hdrs.getD j dE)=false)->Q [(1,.loc 1 0),(3,.d (.i i))] [(1,[.str v.name,.i v.int,Zg v.bytes,Zx v.hdrs,Zu v.parts])] st) (λn r=>?_) λad=>?_);intro i hn hi ab;refine rx @Zbt ?_;refine cd (λh2=>?_) (λh2=>?_);simp at h2;have hB:=Zai.eq_1 (v.hdrs.getD i dE);have u:=Zr h2;generalize hg:v.hdrs.getD i dE=g at *;refine xA (nd2 @atH (nd2 @hg @Hdr.cells.eq_1)) ?_;refine cd (λh3=>?_) (λh3=>?_);rw[h3]at hB;rw[show v.hdrs.any Zai=true from List.any_eq_true.2 ⟨_,u,hB⟩]at hS;refine rg ?_;refine rb o ?_;exact hS.symm;rw[h3]at hB;refine gA ?_;refine Za ?_;exact r ((I v.hdrs)-(i+1)) ω (i+1) rfl ω (ZV (q:=λj=>Zai (v.hdrs.getD j dE)=false) ab (by rw[hg];exact hB));simp at h2;obtain rfl:i=I v.hdrs:=ω;have ha:v.hdrs.any Zai=false:=by rw[List.any_eq_false];intro x hx;obtain⟨j,hj,rfl⟩:=ZIc hx;have:=ab j hj;simpa[ZH6,hj]using this
 rw[ha]at hS;refine rg ?_;refine rb o ?_;exact hS.symm;exact ad _ 0 rfl ω (by intro j hj;omega)
def Zte(v):Zc ZHP 69 [.agg v.cells] (.bool (Yz v)):=by
 induction v using Val.ind with
 |h v ih =>
 refine ZO (cR 69 f69) λac F st t=>?_;have hw:=ZkO ac;unfold big at hw;clear ac;have hS:=ZfG v;rw[ZeY]at hS;have hN:=Zt7 v;rw[v.cells_eq]at hN⊢;refine gG ?_;refine Zb (fr (I v.parts) (λi Q=>i<=I v.parts->(∀j,j<i->Yz (v.parts.getD j dE)=true)->Q [(1,.loc 1 0),(3,.d (.i i))] [(1,[.str v.name,.i v.int,Zg v.bytes,Zx v.hdrs,Zu v.parts])] st) (λn o=>?_) λad=>?_);intro i hn hi ab;refine rx @KN ?_;refine cd (λh=>?_) (λh=>?_);simp at h;have hr:=YX h;have r:=Zr h;have u:=ih _ r;rw[ZIe]at u;generalize hg:v.parts.getD i dE=x at *;refine xA (nd2 @KN (nd2 @atV @hr)) ?_;refine cl (u) ?_;refine cd (λh2=>?_) (λh2=>?_);rw[Bool.not_eq_true']at h2;rw[show v.parts.all Yz=false from List.all_eq_false.2 ⟨_,r,by rw[h2];simp⟩,ZIl]at hS;refine rg ?_;refine rb t ?_;exact hS.symm;rw[Bool.not_eq_false']at h2;refine gA ?_;refine Za ?_;exact o ((I v.parts)-(i+1)) ω (i+1) rfl ω (ZV (q:=λj=>Yz (v.parts.getD j dE)=true) ab (by rw[hg];exact h2));simp at h;obtain rfl:i=I v.parts:=ω;rw[Zno (p:=Yz) ab,ZIf]at hS;refine rg ?_;refine cl (hN) ?_;refine rb t ?_;exact hS.symm;exact ad _ 0 rfl ω (by intro j hj;omega)
def Kt(v:Val):Bool:=(dC ((KF v:Int)<=65536)&&dC ((ZY v:Int)<=40))&&Yz v
def Ztd(v)(u:Yz v=true->KF v<=1099511627776):Zc ZHP 33 [.agg v.cells] (.bool (Kt v)):=by
 refine Ze (cR 33 f33) λF st o=>?_;obtain⟨n,hn,t⟩:=Zrf v;obtain⟨k,hk,r⟩:=Zre v;have ho:=Zte v;have hS:=Kt.eq_1 v;have hh:=Zsv v;rw[v.cells_eq]at hn hk ho⊢;refine gG ?_;refine cl (hn) ?_;refine cG (hk) ?_;refine cG (ho) ?_;refine rb o ?_
 (rw[hS];cases i:Yz v with|false=>rw[Bool.and_false,Bool.and_false]|true=>rw[t (u i),r (ZIy hh (u i))])
def Ks(x n:Nat):Nat:=x*2 ^ n % 4294967296+x / 2 ^ (32-n)
def ZcA(n:Nat):IntKind.u32.wrap (n:Int)=((n % 4294967296:Nat):Int):=by
 have:IntKind.u32.wrap (n:Int)=(n:Int) % 4294967296:=rfl;rw[this];omega
def ZBz{a b:Nat}(r:a<4294967296)(t:b<4294967296):Qp .or .u32 (a:Int) (b:Int)=((a |||b:Nat):Int):=by
 have h:=Nat.or_lt_two_pow (n:=32) r t;unfold Qp;simp only;have i:(BitVec.ofInt 32 (a:Int)).toNat=a:=by rw[BitVec.toNat_ofInt];omega
 have o:(BitVec.ofInt 32 (b:Int)).toNat=b:=by rw[BitVec.toNat_ofInt];omega
 show IntKind.u32.wrap ((BitVec.ofInt 32 (a:Int) |||BitVec.ofInt 32 (b:Int)).toNat:Int)=_;rw[BitVec.toNat_or,i,o,ZcA,Nat.mod_eq_of_lt h]
def Zve{a b:Nat}(r:a<4294967296)(t:b<4294967296):Qp .xor .u32 (a:Int) (b:Int)=((a ^^^ b:Nat):Int):=by
 have h:=Nat.xor_lt_two_pow (n:=32) r t;unfold Qp;simp only;have i:(BitVec.ofInt 32 (a:Int)).toNat=a:=by rw[BitVec.toNat_ofInt];omega
 have o:(BitVec.ofInt 32 (b:Int)).toNat=b:=by rw[BitVec.toNat_ofInt];omega
 show IntKind.u32.wrap ((BitVec.ofInt 32 (a:Int) ^^^ BitVec.ofInt 32 (b:Int)).toNat:Int)=_;rw[BitVec.toNat_xor,i,o,ZcA,Nat.mod_eq_of_lt h]
def ZxJ{x n:Nat}(t:x<4294967296)(r:n<=32):x*2 ^ n % 4294967296 |||x / 2 ^ (32-n)=Ks x n:=by
 unfold Ks;have e:(4294967296:Nat)=2 ^ (32-n)*2 ^ n:=by rw[<-Nat.pow_add,Nat.sub_add_cancel r]
 have i:x*2 ^ n % 4294967296=(x % 2 ^ (32-n)) <<< n:=by rw[Nat.shiftLeft_eq,e,Nat.mul_mod_mul_right]
 have o:x / 2 ^ (32-n)<2 ^ n:=Nat.div_lt_of_lt_mul (by rw[<-e];exact t);rw[i,Nat.shiftLeft_add_eq_or_of_lt o]
def ZdN{x n:Nat}(i:x<4294967296)(o:n<=32):Ks x n<4294967296:=by
 rw[<-ZxJ i o];exact Nat.or_lt_two_pow (n:=32) (Nat.mod_lt _ (by decide)) (Nat.lt_of_le_of_lt (Nat.div_le_self _ _) i)
def Zhl{x n:Nat}(hx:x<4294967296)(hn:n=16\/n=12\/n=8\/n=7):Zc ZHP 345 [.int .u32 x,.i n] (.int .u32 (Ks x n)):=by
 refine Ze (cR 345 f345) λF st r=>?_;have i:Qp .and .u64 (n:Int) 31=(n:Int):=by rcases hn with rfl|rfl|rfl|rfl<;>rfl
 have ab:IntKind.u64.wrap (n:Int)=(n:Int):=by rcases hn with rfl|rfl|rfl|rfl<;>rfl
 have t:IntKind.u32.wrap (QQ .u32 (x:Int) (n:Int))=((x*2 ^ n % 4294967296:Nat):Int):=by
  rw[<-ZcA];unfold QQ;rw[Int.toNat_natCast,show Nat.min n IntKind.u32.bits=n from Nat.min_eq_left (by show n<=32;omega)]
  push_cast;rfl
 have u:WL .u32 (x:Int) (32-(n:Int))=((x / 2 ^ (32-n):Nat):Int):=by
  unfold WL;have h1:(32-(n:Int)).toNat=32-n:=ω;rw[h1,show Nat.min (32-n) IntKind.u32.bits=32-n from Nat.min_eq_left (by show 32-n<=32;omega),Int.fdiv_eq_ediv_of_nonneg _ (by exact_mod_cast Nat.zero_le _)]
  push_cast;rfl
 have o:=ZBz (a:=x*2 ^ n % 4294967296) (b:=x / 2 ^ (32-n)) (Nat.mod_lt _ (by decide)) (Nat.lt_of_le_of_lt (Nat.div_le_self _ _) hx);rw[ZxJ hx ω]at o;have hq:x / 2 ^ (32-n)<=x:=Nat.div_le_self _ _;refine rg ?_;refine rx (nd2 @ab @i) ?_;refine rh ?_;refine We ?_;simp only[Eqs,reduceCtorEq,ZHV,reduceIte,ZHR,ZHY,ZHS,Wy,WW];refine Zo1 rfl rfl rfl φ (ZCf ω) (We ?_);simp only[Eqs,reduceCtorEq,ZHV,reduceIte,ZHR,ZHY,ZHS,Wy,WW,t,u,o];generalize x / 2 ^ (32-n)=y at *;refine aa ?_;refine ri r ?_;rfl
def ZbI(r1 r2 a b c d:Nat):Nat×Nat×Nat×Nat :=
 let a1:=(a+b) % 4294967296;let d1:=Ks (d ^^^ a1) r1;let c1:=(c+d1) % 4294967296
 (a1,Ks (b ^^^ c1) r2,c1,d1)
def Jg(a b c d:Nat):Nat×Nat×Nat×Nat :=
 let q:=ZbI 16 12 a b c d
 ZbI 8 7 q.1 q.2.1 q.2.2.1 q.2.2.2
def W4(q:Nat×Nat×Nat×Nat):Prop:=q.1<4294967296/\q.2.1<4294967296/\q.2.2.1<4294967296/\q.2.2.2<4294967296
def Zdu{a b:Nat}(i:a<4294967296)(o:b<4294967296):a ^^^ b<4294967296:=Nat.xor_lt_two_pow (n:=32) i o
def ZmX{r1 r2 a b c d:Nat}(r:r1<=32)(t:r2<=32)(h:W4 (a,b,c,d)):W4 (ZbI r1 r2 a b c d):=by
 have i:(a+b) % 4294967296<4294967296:=Nat.mod_lt _ (by decide);have o:∀x,(c+x) % 4294967296<4294967296:=λx=>Nat.mod_lt _ (by decide);exact⟨i,ZdN (Zdu h.2.1 (o _)) t,o _,ZdN (Zdu h.2.2.2 i) r⟩
def Zpx{a b c d:Nat}(h:W4 (a,b,c,d)):W4 (Jg a b c d):=ZmX (by decide) (by decide) (ZmX (by decide) (by decide) h)
def w32(n:Nat):D:=.int .u32 n
structure Q4(T:St)(za zb zc zd:Nat)(q:Nat×Nat×Nat×Nat):Prop where
 a:T za=some (.cells [.int .u32 q.1])
 b:T zb=some (.cells [.int .u32 q.2.1])
 c:T zc=some (.cells [.int .u32 q.2.2.1])
 d:T zd=some (.cells [.int .u32 q.2.2.2])
structure N4(za zb zc zd:Nat):Prop where
 ab:za≠zb
 ac:za≠zc
 ad:za≠zd
 bc:zb≠zc
 bd:zb≠zd
 cd:zc≠zd
def Q4P(T:St)(za zb zc zd:Nat)(q:Nat×Nat×Nat×Nat)(r:Res)(S:St):Prop:=r=.ret (.tup [])/\Q4 S za zb zc zd q/\∀y,y≠za->y≠zb->y≠zc->y≠zd->S y=T y
def Zhn{T:St}{za zb zc zd a b c d r1 r2:Nat}(hr1:r1=16\/r1=12\/r1=8\/r1=7)(hr2:r2=16\/r2=12\/r2=8\/r2=7)(h:W4 (a,b,c,d))(hN:N4 za zb zc zd)(hT:Q4 T za zb zc zd (a,b,c,d)):
  Zf ZHP 344 [.i r1,.i r2,.ptr za 0,.ptr zb 0,.ptr zd 0,.ptr zc 0] T (Q4P T za zb zc zd (ZbI r1 r2 a b c d)):=by
 refine Zh (cR 344 f344) λF hF=>?_;obtain⟨ha,hb,hc,hd⟩:=hT;simp only at ha hb hc hd;obtain⟨la,lb,lc,ld⟩:=h;simp only at la lb lc ld;have hA:ZbI r1 r2 a b c d=((a+b) % 4294967296,Ks (b ^^^ (c+Ks (d ^^^ (a+b) % 4294967296) r1) % 4294967296) r2,(c+Ks (d ^^^ (a+b) % 4294967296) r1) % 4294967296,Ks (d ^^^ (a+b) % 4294967296) r1):=rfl;have wa:IntKind.u32.wrap ((a:Int)+b)=(((a+b) % 4294967296:Nat):Int):=by rw[<-ZcA];push_cast;rfl
 have i:(a+b) % 4294967296<4294967296:=Nat.mod_lt _ (by decide);generalize (a+b) % 4294967296=a1 at *;have xd:=Zve ld i;have u:=Zhl (Zdu ld i) hr1;have ld1:Ks (d ^^^ a1) r1<4294967296:=ZdN (Zdu ld i) ω;generalize d ^^^ a1=da at *;generalize Ks da r1=d1 at *;have wc:IntKind.u32.wrap ((c:Int)+d1)=(((c+d1) % 4294967296:Nat):Int):=by rw[<-ZcA];push_cast;rfl
 have r:(c+d1) % 4294967296<4294967296:=Nat.mod_lt _ (by decide);generalize (c+d1) % 4294967296=c1 at *;have xb:=Zve lb r;have t:=Zhl (Zdu lb r) hr2;generalize b ^^^ c1=bc at *;generalize Ks bc r2=b1 at *;rw[hA]at hF;have n1:∀(T:St) o,(T.upd za o) zd=T zd:=λT o=>ZH0 _ _ hN.ad.symm;have n2:∀(T:St) o,(T.upd za o) zc=T zc:=λT o=>ZH0 _ _ hN.ac.symm;have n3:∀(T:St) o,(T.upd zd o) zc=T zc:=λT o=>ZH0 _ _ hN.cd;have n4:∀(T:St) o,(T.upd za o) zb=T zb:=λT o=>ZH0 _ _ hN.ab.symm;have n5:∀(T:St) o,(T.upd zd o) zb=T zb:=λT o=>ZH0 _ _ hN.bd;have n6:∀(T:St) o,(T.upd zc o) zb=T zb:=λT o=>ZH0 _ _ hN.bc;refine rh ?_;refine We ?_;simp only[Eqs,reduceCtorEq,ZHV,reduceIte,ZHR,ZHY,ZHS,Wy,WW,ha,hb];refine ZaU rfl rfl rfl φ (We ?_);simp only[Eqs,reduceCtorEq,ZHV,reduceIte,ZHR,ZHY,ZHS,Wy,WW,wa,ha];refine aa ?_;refine rx (nd2 @n1 (nd2 @hd (nd2 @ZHW @xd))) ?_;refine cX (nd2 @n1 @hd) (u) ?_;refine aa ?_;refine rh ?_;refine We ?_;simp only[Eqs,reduceCtorEq,ZHV,reduceIte,ZHR,ZHY,ZHS,Wy,WW,n2,n3,hc,ZHW];refine ZaU rfl rfl rfl φ (We ?_);simp only[Eqs,reduceCtorEq,ZHV,reduceIte,ZHR,ZHY,ZHS,Wy,WW,wc,n2,n3,hc,ZHW];refine aa ?_;refine rx (nd2 @n4 (nd2 @n5 (nd2 @n6 (nd2 @hb (nd2 @ZHW @xb))))) ?_;refine cX (nd2 @n4 (nd2 @n5 (nd2 @n6 @hb))) (t) ?_;refine aa ?_;refine hF.fin (.tup []) _ rfl trivial (ZHT _) ZHU ⟨rfl,⟨?_,?_,?_,?_⟩,λy h1 h2 h3 h4=>?_⟩;rw[ZH0 _ _ hN.ab,ZH0 _ _ hN.ac,ZH0 _ _ hN.ad,ZHW];rw[ZHW];rw[ZH0 _ _ hN.bc.symm,ZHW];rw[ZH0 _ _ hN.bd.symm,ZH0 _ _ hN.cd.symm,ZHW];rw[ZH0 _ _ h2,ZH0 _ _ h3,ZH0 _ _ h4,ZH0 _ _ h1]
def Zlv{a b c d:Nat}(h:W4 (a,b,c,d)):Zc ZHP 326 [.int .u32 a,.int .u32 b,.int .u32 c,.int .u32 d] (.tup [.int .u32 (Jg a b c d).1,.int .u32 (Jg a b c d).2.1,.int .u32 (Jg a b c d).2.2.1,.int .u32 (Jg a b c d).2.2.2]):=by
 refine Ze (cR 326 f326) λF st i=>?_;have hq:Jg a b c d=ZbI 8 7 (ZbI 16 12 a b c d).1 (ZbI 16 12 a b c d).2.1 (ZbI 16 12 a b c d).2.2.1 (ZbI 16 12 a b c d).2.2.2:=rfl;have hh:=ZmX (r1:=16) (r2:=12) (by decide) (by decide) h;rw[hq]at i;refine rg ?_;refine Zd ?_;refine xP 4 λza ha=>?_;refine xP 5 λzb hb=>?_;refine xP 6 λzc hc=>?_;refine xP 7 λzd hd=>?_;obtain⟨me,ah⟩:=Zn hd;obtain⟨am,u⟩:=Zn ah;obtain⟨an,ai⟩:=Zn u;obtain⟨nc,af⟩:=Zn hc;obtain⟨ao,ag⟩:=Zn af;obtain⟨nb,ae⟩:=Zn hb;have hN:N4 za zb zc zd:=⟨nb.symm,ao.symm,an.symm,nc.symm,am.symm,me.symm⟩;generalize t:(((st.upd za (.cells [.int .u32 a])).upd zb (.cells [.int .u32 b])).upd zc (.cells [.int .u32 c])).upd zd (.cells [.int .u32 d])=S0;have hT:Q4 S0 za zb zc zd (a,b,c,d):=by rw[<-t];refine⟨?_,?_,?_,?_⟩;rw[ZH0 _ _ hN.ad,ZH0 _ _ hN.ac,ZH0 _ _ hN.ab,ZHW];rw[ZH0 _ _ hN.bd,ZH0 _ _ hN.bc,ZHW];rw[ZH0 _ _ hN.cd,ZHW];rw[ZHW]
 have ak:∀S:St,(∀y,y≠za->y≠zb->y≠zc->y≠zd->S y=S0 y)->st.sub S:=λS hS y o hy=>by
  have h1:y≠za:=λe=>by rw[e,ha]at hy;cases hy
  have h2:y≠zb:=λe=>by rw[e,ae]at hy;cases hy
  have h3:y≠zc:=λe=>by rw[e,ag]at hy;cases hy
  have h4:y≠zd:=λe=>by rw[e,ai]at hy;cases hy
  rw[hS y h1 h2 h3 h4,<-t,ZH0 _ _ h4,ZH0 _ _ h3,ZH0 _ _ h2,ZH0 _ _ h1];exact hy
 refine gG ?_;refine Zdx rfl rfl rfl rfl rfl φ φ (by exact(Zhn (r1:=16) (r2:=12) (by decide) (by decide) h hN hT).V (first:=[]) (args:=[_,_]) (caps:=[_,_,_,_])) ?_ ?_;rintro dd S1 ⟨hr,hQ,hf⟩;cases hr;refine gR0 ?_;obtain⟨q,al⟩:∃q,ZbI 16 12 a b c d=q:=⟨_,rfl⟩;rw[al]at hQ hh i;refine rg ?_;refine Zdx rfl rfl rfl rfl rfl φ φ (by exact(Zhn (r1:=8) (r2:=7) (by decide) (by decide) hh hN hQ).V (first:=[]) (args:=[_,_]) (caps:=[_,_,_,_])) ?_ ?_;rintro dd S2 ⟨hr,r,aj⟩;cases hr;refine gR0 ?_;refine rx (nd2 @r.a (nd2 @r.b (nd2 @r.c @r.d))) ?_;exact i rfl φ (ZHT _) (ak S2 λy h1 h2 h3 h4=>by rw[aj y h1 h2 h3 h4,hf y h1 h2 h3 h4]);rintro dd S ⟨hr,_⟩;cases hr;rintro dd S ⟨hr,_⟩;cases hr
def qA(i:Nat):Nat:=i % 4
def qB(i:Nat):Nat:=if i<4 then 4+i % 4 else 4+(i+1) % 4
def qC(i:Nat):Nat:=if i<4 then 8+i % 4 else 8+(i+2) % 4
def qD(i:Nat):Nat:=if i<4 then 12+i % 4 else 12+(i+3) % 4
def qSt(i:Nat)(s:List Nat):List Nat :=
 let q:=Jg (s.getD (qA i) 0) (s.getD (qB i) 0) (s.getD (qC i) 0) (s.getD (qD i) 0)
 (((s.set (qA i) q.1).set (qB i) q.2.1).set (qC i) q.2.2.1).set (qD i) q.2.2.2
def Zeu:Nat->Nat->List Nat->List Nat
 |0,_,s=>s
 |n+1,i,s=>Zeu n (i+1) (qSt i s)
def Zqb(i s):Zeu 0 i s=s:=rfl
def Zqa(n i s):Zeu (n+1) i s=Zeu n (i+1) (qSt i s):=rfl
def S16(s:List Nat):Prop:=I s=16/\∀x∈s,x<4294967296
def S16.at_{s}(h:S16 s)(i:Nat):s.getD i 0<4294967296:=by
 by_cases o:i<I s;have:s.getD i 0∈s:=by simp[ZH6,o]
 exact h.2 _ this;simp[ZH6,ZIz (Nat.le_of_not_lt o)]
def S16.set{s}(h:S16 s){i y:Nat}(t:y<4294967296):S16 (s.set i y):=⟨by rw[List.length_set];exact h.1,λx r=>by
 rcases List.mem_or_eq_of_mem_set r with o|rfl;exact h.2 _ o;exact t⟩
def S16.q{s}(h:S16 s)(i:Nat):S16 (qSt i s):=by
 have o:=Zpx (a:=s.getD (qA i) 0) (b:=s.getD (qB i) 0) (c:=s.getD (qC i) 0) (d:=s.getD (qD i) 0) ⟨h.at_ _,h.at_ _,h.at_ _,h.at_ _⟩;exact(((h.set o.1).set o.2.1).set o.2.2.1).set o.2.2.2
def S16.dbl:∀{n i s},S16 s->S16 (Zeu n i s)
 |0,_,_,h=>h
 |n+1,i,s,h=>S16.dbl (n:=n) (h.q i)
def ZhQ{s:List Nat}{q}(h:q<I s):(s.map w32)[q*1]?=sO (.int .u32 (s.getD q 0:Nat)):=by
 rw[Nat.mul_one,List.getElem?_map];simp[ZH6,h,w32]
def Zlq{s:List Nat}{q}(y:Nat)(h:q<I s):(s.map w32).take (q*1)++[.int .u32 (y:Int)]++(s.map w32).drop (q*1+1)=(s.set q y).map w32:=by
 rw[Nat.mul_one,List.set_eq_take_append_cons_drop,if_pos h];simp[w32]
def ZzD:List D:=[.i 0,.i 4,.i 8,.i 12,.i 1,.i 5,.i 9,.i 13,.i 2,.i 6,.i 10,.i 14,.i 3,.i 7,.i 11,.i 15,.i 0,.i 5,.i 10,.i 15,.i 1,.i 6,.i 11,.i 12,.i 2,.i 7,.i 8,.i 13,.i 3,.i 4,.i 9,.i 14]
def ZAR{i:Nat}(h:i<8):List.take 4 (List.drop (i*4) ZzD)=[.i (qA i),.i (qB i),.i (qC i),.i (qD i)]:=by
 rcases(by omega:i=0\/i=1\/i=2\/i=3\/i=4\/i=5\/i=6\/i=7) with rfl|rfl|rfl|rfl|rfl|rfl|rfl|rfl<;>rfl
def ZBD{i:Nat}(h:i<8):qA i<16/\qB i<16/\qC i<16/\qD i<16:=by
 unfold qA qB qC qD;split<;>omega
def ZmI{T:St}{z:Nat}{s:List Nat}(hs:S16 s)(hz:T z=sO (.cells (s.map w32))):Zf ZHP 311 [.ptr z 0] T λr S=>r=.ret (.tup [])/\S=T.upd z (.cells ((Zeu 8 0 s).map w32)):=by
 refine Zh (cR 311 f311) λF hF=>?_;obtain⟨R,hR⟩:∃R,Zeu 8 0 s=R:=⟨_,rfl⟩;rw[hR]at hF;refine rg ?_;refine Zb (fr (8) (λi Q=>∀s1,S16 s1->Zeu (8-i) i s1=R->i<=8->Q [(0,.d (.ptr z 0)),(12,.d (.agg ZzD)),(13,.d (.i i))] [] (T.upd z (.cells (s1.map w32)))) (λn u=>?_) λah=>?_);intro i hn2 s1 o hp hi;refine rg ?_;refine Zd (Zj rfl trivial (λhd=>?_) (λhd=>?_));simp only[decide_eq_true_eq]at hd;have ac:i<8:=ω;have af:ZzD.length=32:=rfl;have ag:=ZAR ac;refine xA (nd2 @af @ag) ?_;have hS:=o.1;have hq4:=Zpx (a:=s1.getD (qA i) 0) (b:=s1.getD (qB i) 0) (c:=s1.getD (qC i) 0) (d:=s1.getD (qD i) 0) ⟨o.at_ _,o.at_ _,o.at_ _,o.at_ _⟩;have ae:=Zlv (a:=s1.getD (qA i) 0) (b:=s1.getD (qB i) 0) (c:=s1.getD (qC i) 0) (d:=s1.getD (qD i) 0) ⟨o.at_ _,o.at_ _,o.at_ _,o.at_ _⟩;obtain⟨la,lb,lc,ld⟩:=ZBD ac;have ra:=ZhQ (s:=s1) (q:=qA i) ω;have rb:=ZhQ (s:=s1) (q:=qB i) ω;have rc:=ZhQ (s:=s1) (q:=qC i) ω;have rd:=ZhQ (s:=s1) (q:=qD i) ω;have t:qSt i s1=(((s1.set (qA i) (Jg (s1.getD (qA i) 0) (s1.getD (qB i) 0) (s1.getD (qC i) 0) (s1.getD (qD i) 0)).1).set (qB i) (Jg (s1.getD (qA i) 0) (s1.getD (qB i) 0) (s1.getD (qC i) 0) (s1.getD (qD i) 0)).2.1).set (qC i) (Jg (s1.getD (qA i) 0) (s1.getD (qB i) 0) (s1.getD (qC i) 0) (s1.getD (qD i) 0)).2.2.1).set (qD i) (Jg (s1.getD (qA i) 0) (s1.getD (qB i) 0) (s1.getD (qC i) 0) (s1.getD (qD i) 0)).2.2.2:=rfl;have ab:=o.q i;rw[show 8-i=(8-(i+1))+1 by omega,Zqa]at hp;generalize qA i=a at *;generalize qB i=b at *;generalize qC i=c at *;generalize qD i=d at *;generalize Jg (s1.getD a 0) (s1.getD b 0) (s1.getD c 0) (s1.getD d 0)=q at *;obtain⟨y1,y2,y3,y4⟩:=q;simp only at t ae;rw[t]at hp ab;have e1:=Zlq (s:=s1) y1 (show a<I s1 by omega);have e2:=Zlq (s:=s1.set a y1) y2 (show b<_ by rw[List.length_set];omega);have e3:=Zlq (s:=(s1.set a y1).set b y2) y3 (show c<_ by rw[List.length_set,List.length_set];omega);have e4:=Zlq (s:=((s1.set a y1).set b y2).set c y3) y4 (show d<_ by rw[List.length_set,List.length_set,List.length_set];omega);refine rh ?_;refine Yb ?_;simp(maxSteps:=1000000) only[Eqs,reduceCtorEq,ZHV,reduceIte,ZHR,ZHY,ZHS,ZHW,ra,rb,rc,rd,hS,Nat.reduceMul];repeat(refine ZHZ (by first|omega|trivial|(intro h0;simp at h0;omega)) ?_)
 refine Zf8 rfl rfl rfl rfl rfl φ φ (by exact ae) (Yb ?_);simp(maxSteps:=1000000) only[Eqs,reduceCtorEq,ZHV,reduceIte,ZHR,ZHY,ZHS,ZHW,ZH7,e1,e2,e3,e4,hS,ZH4,List.length_set,Nat.reduceMul];refine aa ?_;rw[<-t];rw[<-t]at hp ab;refine gA ?_;refine Za ?_;exact u ((8)-(i+1)) ω (i+1) rfl (qSt i s1) ab hp ω;simp only[decide_eq_false_iff_not]at hd;obtain rfl:i=8:=ω;rw[Nat.sub_self,Zqb]at hp;refine ZG rfl ?_;exact hF.fin (.tup []) _ rfl trivial (ZHT _) ZHU ⟨rfl,by rw[hp]⟩;have ad:=ah _ 0 rfl s hs hR ω;rw[St.upd_self hz]at ad;exact ad
end Go.DL
namespace Go.Proofs
open Go.Shelf
def Tryz.growI_ren:Go.Shelf.Ren:=⟨λ|4=>309|n=>n,λ|22=>152|25=>3|3=>3|4=>4|9=>9|20=>20|0=>0|n=>n,λ|n=>n⟩
def Tryz.growI:Go.Proofs.Lays8.n4 ZHP Tryz.growI_ren:={
 mixed:=by kernel_rfl
 f4:=⟨Tryz.f309.name,by decide,Tryz.func309.trans (congrArg sO (by kernel_rfl))⟩
 t0:=Tryz.underlying0
 a0:=Tryz.isAgg0
 z0:=Tryz.sizeOf0
 v0:=Tryz.zeroValue0
 t3:=Tryz.underlying3
 a3:=Tryz.isAgg3
 z3:=Tryz.sizeOf3
 v3:=Tryz.zeroValue3
 t4:=Tryz.underlying4
 a4:=Tryz.isAgg4
 z4:=Tryz.sizeOf4
 v4:=Tryz.zeroValue4
 t9:=Tryz.underlying9
 a9:=Tryz.isAgg9
 z9:=Tryz.sizeOf9
 v9:=Tryz.zeroValue9
 t20:=Tryz.underlying20
 a20:=Tryz.isAgg20
 z20:=Tryz.sizeOf20
 v20:=Tryz.zeroValue20
 t22:=Tryz.underlying152
 a22:=Tryz.isAgg152
 z22:=Tryz.sizeOf152
 v22:=Tryz.zeroValue152 }
end Go.Proofs
namespace Go.DL
open Go Go.Proofs Go.Lib
def itC(x:Int):List D:=[.i x]
def Wi(l:List Int):D:=slD 1 itC l
def liC(l:List Int):List D:=[Wi l]
def ZiV{l:List (List Int)}{i:Nat}(h:i<I l):(l.take (i+1)).flatten=(l.take i).flatten++l.getD i dE:=by
 rw[ZQ h,List.flatten_append];simp
def Zd0(l:List (List Int))(i:Nat):(l.take i).flatten.length<=I l.flatten:=by
 conv=>rhs;rw[<-List.take_append_drop i l,List.flatten_append,ZHX]
 omega
def ZkC(n:Nat)(hn:n<=1000000)(st:St):Zf ZHP 309 [.nilsl,.i n] st λr S=>∃t:Tok,r=.ret (.sl t 0 1 λ_=>[])/\t.okIn st/\S=st.own t 0:=by
 refine⟨⟨_,Tryz.func309,by kernel_rfl,by kernel_rfl⟩,λg w vs hs ha=>?_⟩;cases ha with
 |cons h1 ha =>
 cases ha with
 |cons h2 ha =>
 cases ha;cases h1;cases h2;by_cases h0:n=0;subst h0;refine(Any8.slices_Grow_room Tryz.growI nO 0 0 0 w ω ω ω ω).mono ?_;rintro e w' ⟨rfl,rfl⟩;exact⟨g,st,.ret (.sl .full 0 1 λ_=>[]),Ext.refl g _,hs,.sl0 _ _ _ _ ψ,.full,rfl,trivial,rfl⟩;have hz:ZaL ZHP (Tryz.growI_ren.t 25)=sO [.i 0]:=by kernel_rfl
 have ah:ZX ZHP (Tryz.growI_ren.t 25)=sO 1:=by kernel_rfl
 have ae:Program.bytesOf ZHP (Tryz.growI_ren.t 25)=8:=by kernel_rfl
 obtain⟨zv,hz1,ai,hz3,ie,ab,aj⟩:=JC (g:=g) (w:=w) hz;have hsize:ie.size=1:=by simpa[ZX,ab]using ah
 have o:ie.bytes=8:=by rw[<-ae];simp[Program.bytesOf,ab]
 have ac:zv.cells.size=1:=by have:=ai.len;simpa using this
 refine(Any8.slices_Grow_grow Tryz.growI ie zv ab aj ω nO 0 0 n [] w ω ω (by rw[o];omega) ω ψ (λ_=>rfl) (λa h=>by simp at h)).mono ?_;rintro e w' ⟨rfl,rfl⟩;have hge:=grownCap_ge w (0+n) 0 (Tryz.growI_ren.t 25);have af:=grownCap_le_maxLen w (0+n) 0 (Tryz.growI_ren.t 25) (by simp only[maxLen];omega);have ag:Ka g w 1 0 [] (λ_=>[]):=⟨ψ,λi hi=>by omega,λi j v d hi=>by omega,ψ⟩;have u:=ZuG (T:=Tryz.growI_ren.t 25) (cap:=grownCap w (0+n) 0 (Tryz.growI_ren.t 25)) (rest:=(Builtin.zeroCells zv.cells (0+n-0)++Builtin.zeroCells zv.cells (grownCap w (0+n) 0 (Tryz.growI_ren.t 25)-(0+n))).toList) hs ag (Nat.zero_le _) (by
  simp only[List.length_nil,Array.toList_append,ZHX,Array.length_toList,size_zeroCells,ac];omega) (by simp only[maxLen]at af;simp only[big];omega)
 have ad:∀A B:Array Value,(([]:List Value)++(A++B).toList).toArray=([]:List Value).toArray++A++B:=by intro A B;simp
 rw[ad]at u;obtain⟨a1,a2,a3,a4⟩:=u;refine⟨_,_,.ret (.sl (.tip w.heap.size) 0 1 λ_=>[]),a1.ext hs.fresh,a2,a4,.tip w.heap.size,rfl,a3,rfl⟩
def ZiE(ls:List (List Int))(hls:I ls<=1000)(hb:I ls.flatten<=1000000)(st:St):Zf ZHP 260 [slD 1 liC ls] st (λr S=>r=.ret (Wi ls.flatten)/\S=st):=by
 refine Zh (cR 260 f260) λF hF=>?_;refine gG ?_;refine rx @eQ1 ?_;refine Zb (fr (I ls) (λi Q=>i<=I ls->Q [(0,.d (slD 1 liC ls)),(3,.d (.i ((ls.take i).flatten.length:Nat))),(9,.d (slD 1 liC ls)),(10,.d (.i (I ls))),(11,.d (.i i))] [] st) (λn ae=>?_) λal=>?_);intro i hn hi;have ai:=Zd0 ls i;refine rg ?_;refine Zd (Zj rfl trivial (λh1=>?_) (λh1=>?_));simp at h1;have ab:=congrArg List.length (ZiV h1);have af:=Zd0 ls (i+1);rw[ZHX]at ab;generalize hx:ls.getD i dE=x at *;refine xA (nd2 @eQ1 (nd2 @liC.eq_1 @hx)) ?_;refine xA (nd2 @Wi.eq_1 @eQ1) ?_;refine rg ?_;refine Zj rfl trivial (λh=>by simp at h;omega) (λ_=>?_);refine gA ?_;refine Za ?_;have o:=ae ((I ls)-(i+1)) ω (i+1) rfl ω;rw[ab,Int.natCast_add]at o;exact o;simp at h1;obtain rfl:i=I ls:=ω;rw[ZIb];refine rg ?_;refine cV (ZkC (I ls.flatten) hb st) ?_ ?_;rintro d S ⟨tk,hd,ad,rfl⟩;cases hd;refine gR0 ?_;refine rx @eQ1 ?_;have ah:Zy itC (λ_=>[]) []:=Zy.nil;refine Zb (fr (I ls) (λk Q=>∀tk row u,tk.okIn st->Zy itC row u->u=(ls.take k).flatten->k<=I ls->Q [(6,.d (.sl tk (I u) 1 row)),(25,.d (slD 1 liC ls)),(26,.d (.i (I ls))),(27,.d (.i k))] [] (st.own tk (I u*1))) (λn ac=>?_) λaj=>?_);clear ad;intro k hnk tk row u ad ag t hk;have ai:=Zd0 ls k;rw[<-t]at ai;refine rx @eQ1 ?_;refine Zd (Zj rfl trivial (λh2=>?_) (λh2=>?_));simp at h2;have ab:=ZiV h2;have af:=Zd0 ls (k+1);rw[ab,ZHX,<-t]at af;generalize hx:ls.getD k dE=x at *;refine xA (nd2 @eQ1 (nd2 @liC.eq_1 @hx)) ?_;refine rx (nd2 @Wi.eq_1 @eQ1) ?_;refine Y2 (st) (tk) rfl rfl rfl rfl rfl rfl φ φ rfl (by first|trivial|assumption) ω (by (unfold big;omega)) λt1 ak=>Zk ?_;simp only[Eqs,reduceCtorEq,ZHV,reduceIte,ZHR,ZHY,ZHS];refine gA ?_;refine Za ?_;have o:=ac ((I ls)-(k+1)) ω (k+1) rfl t1 _ (u++x) ak (ag.app (Zy.self (l:=x)) rfl) (by rw[ab,t]) ω;rw[ZHX]at o;exact o;simp at h2;obtain rfl:k=I ls:=ω;rw[ZIb]at t;refine rg ?_;refine hF.ret _ st rfl φ (K1 (ag.le rfl)) (Yj ad) ⟨by rw[t];rfl,rfl⟩;exact aj _ 0 rfl tk _ [] ad ah rfl ω;rintro d S ⟨tk,hd,_⟩;cases hd;have hk:=al _ 0 rfl ω;rw[List.take_zero,List.flatten_nil]at hk;exact hk
def Zf6(l f p)(sts:Nat->St)
  (hf:∀i,i<I l->VT ZHP f [.i (l.getD i dE)] (sts i) (.bool (p (l.getD i dE))) (sts (i+1))) :
  ZL ZHP 310 [slD 1 itC l,f] (sts 0) (.i (Zl p l)) (sts (K9 p l)):=by
 refine ZE (cR 310 f310) λab F o=>?_;have hw:=(Y4 (ab (slD 1 itC l) ψ)).1;unfold big at hw;clear ab;refine rx @eQ1 ?_;refine rx @eQ1 ?_;refine Zb (fr (I l) (λi Q=>i<=I l->(∀j,j<i->p (l.getD j dE)=false)->Q [(0,.d (slD 1 itC l)),(1,.d f),(7,.d (.i (I l))),(8,.d (.i i))] [] (sts i)) (λn t=>?_) λac=>?_);intro i hn hi r;refine rx @eQ1 ?_;refine Zd (Zj rfl trivial (λh1=>?_) (λh1=>?_));simp at h1;refine rx @eQ1 ?_;refine xA (nd2 @eQ1 @itC.eq_1) ?_;refine cW (hf i h1) ?_;refine cd (λh2=>?_) (λh2=>?_);have e1:=Wv h1 h2 r;have e2:=Zbz h1 h2 r;rw[e1,e2]at o;refine rg ?_;exact o rfl φ (ZHT _) ZHU;refine gA ?_;refine Za ?_;exact t ((I l)-(i+1)) ω (i+1) rfl ω (ZV (q:=λj=>p (l.getD j dE)=false) r h2);simp at h1;obtain rfl:i=I l:=ω;have u:∀x∈l,p x=false:=λx hx=>by obtain⟨j,hj,rfl⟩:=ZIc hx;have:=r j hj;simpa[ZH6,hj]using this
 rw[Wd u,JQ u]at o;refine rg ?_;exact o rfl φ (ZHT _) ZHU;exact ac _ 0 rfl ω (by intro j hj;omega)
def ZeF(l f p)(t:Nat->St)
  (u:∀i,i<I l->VT ZHP f [.i (l.getD i dE)] (t i) (.bool (p (l.getD i dE))) (t (i+1))) :
  ZL ZHP 261 [slD 1 itC l,f] (t 0) (.bool (l.any p)) (t (K9 p l)):=by
 refine ZE (cR 261 f261) λr F o=>?_;clear r;refine gG ?_;refine ct (Zf6 l f p t u) ?_;rw[JE]at o;exact o rfl φ (ZHT _) ZHU
end Go.DL
namespace Go.DL
open Go Go.Proofs
variable {kp:Option (List Nat)}{L:Loc}{H:Env}{s:St}{w:World}{os:List DOp}{ds:List D}{B:List (Nat × Rd)}{dst:Option Nat}{tmps:Array Value}{g:G}{Φ:Res->St->Prop}{Z:Nat->Nat}{xs:List Opd}{side:Prop}{row:Nat->List D}
def ZqW:Zc ZHP 308 [.int .u64 1,.int .u64 8] (.tup [.int .u64 0,.int .u64 8]):=by
 refine Ze (cR 308 f308) λF st i=>?_;have u:Qp .and .u64 1 4294967295=1:=rfl;have a2:Qp .and .u64 8 4294967295=8:=rfl;have a3:Qp .and .u64 0 4294967295=0:=rfl;have s1:WL .u64 1 32=0:=rfl;have s8:WL .u64 8 32=0:=rfl;have t:WL .u64 0 32=0:=rfl;have r:(1:Int)*8=8:=rfl;have m2:(0:Int)*8=0:=rfl;have m3:(1:Int)*0=0:=rfl;have m4:(0:Int)*0=0:=rfl;have o:(0:Int)+0=0:=rfl;refine rg ?_;refine rx @u ?_;refine xA @s1 ?_;refine rx @a2 ?_;refine xA @s8 ?_;refine xA @r ?_;refine xA (nd2 @m2 (nd2 @s8 @o)) ?_;refine rx @a3 ?_;refine xA @t ?_;refine xA (nd2 @m3 @o) ?_;refine xA (nd2 @m4 (nd2 @o @t)) ?_;refine xA @r ?_;refine rt i ?_;rfl
def ZtL:Zc ZHP 259 [.int .u64 1,.int .u64 8] (.tup [.int .u64 0,.int .u64 8]):=by
 refine Ze (cR 259 f259) λF st i=>?_;refine rg ?_;refine iG ?_;refine cl (ZqW) ?_;refine rg ?_;refine rt i ?_;rfl
def Zv7(k:Int)(n:Nat):List D:=List.replicate n (.i k)++List.replicate (8-n) (.i 0)
def ZlU(k:Int)(T:St):Zf ZHP 211 [Wi [k],.i 8] T λr S=>∃z,T z=nO/\r=.ret (.msl z 0 8 8 1)/\S=T.upd z (.cells (List.replicate 8 (.i k))):=by
 refine Zh (cR 211 f211) λF t=>?_;have w1:IntKind.u64.wrap 1=1:=rfl;have w8:IntKind.u64.wrap 8=8:=rfl;have i8:IntKind.i64.wrap 8=8:=rfl;refine rg ?_;refine gI ?_;refine rx (nd2 @Wi.eq_1 (nd2 @eQ1 (nd2 @w1 @w8))) ?_;refine cl (ZtL) ?_;refine gI ?_;refine rx @i8 ?_;refine⟨ω,ω,ω,by unfold big;omega,λz u=>?_⟩;rw[show WT [D.i 0] 8=List.replicate 8 (D.i 0) from rfl];refine rg ?_;have o:∀cs,Yq (T.upd z (.cells cs)) z=sO cs:=λcs=>by simp only[Yq,ZHW]
 refine Zux rfl rfl rfl rfl φ φ (o _) (by decide) (.elems (m:=1) (row:=λi=>itC ([k].getD i dE)) rfl) (by decide) (Zk ?_);simp only[Eqs,reduceCtorEq,ZHV,reduceIte,ZHR,ZHY,ZHS,ZH7];show ZA F _ [(7,.d (.msl z 0 8 8 1)),(8,.d (.i 1))] [] (T.upd z (.cells (Zv7 k 1)));refine Zd (Zb ?_);refine Qm ?_;refine rg ?_;refine i1 ?_;refine gA ?_;refine Zjd rfl rfl rfl rfl φ φ (o _) (by exact Nat.le_of_ble_eq_true rfl) (J6.msl (o _) (Nat.le_of_ble_eq_true rfl)) (by exact Nat.le_of_ble_eq_true rfl) (Ye ?_);simp only[Eqs,reduceCtorEq,ZHV,reduceIte,ZHR,ZHY,ZHS,ZH7];refine aa ?_;show ZA F _ [(7,.d (.msl z 0 8 8 1)),(8,.d (.i 2))] [] (T.upd z (.cells (Zv7 k 2)));refine Zi (Za ?_);refine rg ?_;refine i1 ?_;refine gA ?_;refine Zjd rfl rfl rfl rfl φ φ (o _) (by exact Nat.le_of_ble_eq_true rfl) (J6.msl (o _) (Nat.le_of_ble_eq_true rfl)) (by exact Nat.le_of_ble_eq_true rfl) (Ye ?_);simp only[Eqs,reduceCtorEq,ZHV,reduceIte,ZHR,ZHY,ZHS,ZH7];refine aa ?_;show ZA F _ [(7,.d (.msl z 0 8 8 1)),(8,.d (.i 4))] [] (T.upd z (.cells (Zv7 k 4)));refine Zi (Za ?_);refine rg ?_;refine i1 ?_;refine gA ?_;refine Zjd rfl rfl rfl rfl φ φ (o _) (by exact Nat.le_of_ble_eq_true rfl) (J6.msl (o _) (Nat.le_of_ble_eq_true rfl)) (by exact Nat.le_of_ble_eq_true rfl) (Ye ?_);simp only[Eqs,reduceCtorEq,ZHV,reduceIte,ZHR,ZHY,ZHS,ZH7];refine aa ?_;show ZA F _ [(7,.d (.msl z 0 8 8 1)),(8,.d (.i 8))] [] (T.upd z (.cells (Zv7 k 8)));refine Zi (Za ?_);refine rg ?_;refine iG ?_;exact t.ret (.msl z 0 8 8 1) _ rfl φ (ZHT _) ZHU ⟨z,u,rfl,rfl⟩
def Jp:List Hdr->Nat
 | []=>0
 |h::r=>I h.name+I h.text+Jp r
mutual
def wtN:Val->Nat
 |.mk n _ b h p=>10+I n+I b+Jp h+wtL p
def wtL:List Val->Nat
 | []=>0
 |v::r=>wtN v+wtL r
end
def JT(v):wtN v=10+I v.name+I v.bytes+Jp v.hdrs+wtL v.parts:=by cases v;rfl
def Zps(v):10*KF v<=wtN v:=by
 induction v using Val.ind with
 |h v ih =>
  rw[JT,JN];have:∀l:List Val,(∀x∈l,10*KF x<=wtN x)->10*nodesL l<=wtL l:=λl i=>by
   induction l with
   |nil=>simp[nodesL]
   |cons a r ih2 =>have h1:=i a ψ;have h2:=ih2 λx o=>i x (by simp[o]);simp only[nodesL,wtL];omega
  have:=this v.parts ih;omega
def ZpY{l x}(h:x∈l):wtN x<=wtL l:=by
 induction l with
 |nil=>simp at h
 |cons v r ih =>rcases List.mem_cons.1 h with rfl|h;simp only[wtL];omega;have:=ih h;simp only[wtL];omega
def hsW(n:Int)(l:List Hdr):Int:=l.foldl (λa h=>IntKind.i64.wrap (IntKind.i64.wrap (a+I h.name)+I h.text)) n
def ZyS{n}{l:List Hdr}{i}(h:i<I l):IntKind.i64.wrap (IntKind.i64.wrap (hsW n (l.take i)+(l.getD i dE).name.length)+(l.getD i dE).text.length)=hsW n (l.take (i+1)):=by
 rw[ZQ h];simp[hsW]
def ZdO(f:Val->Int):Int->List Val->Int
 |n,[]=>n
 |n,x::r=>if n<=5000 then ZdO f (IntKind.i64.wrap (n+f x)) r else n
def ZqH{f n}{l:List Val}{i}(h:i<I l):ZdO f n (l.drop i)=if n<=5000 then ZdO f (IntKind.i64.wrap (n+f (l.getD i dE))) (l.drop (i+1)) else n:=by
 rw[Yf h];rfl
def ZpW(f:Val->Int)(v:Val)(depth:Int):Int :=
 if (dC (50<depth) ||decide ((500:Int)<I v.parts)) ||decide ((50:Int)<I v.hdrs) then 5001
 else ZdO f (hsW (IntKind.i64.wrap (IntKind.i64.wrap (10+I v.name)+I v.bytes)) v.hdrs) v.parts
def Zqo:∀(l) (n:Int),0<=n->n+Jp l<=1000000000000->hsW n l=n+Jp l
 | [],n,_,_=>by simp[hsW,Jp]
 |h::r,n,h0,h1=>by simp only[Jp]at h1⊢;have e:hsW n (h::r)=hsW (IntKind.i64.wrap (IntKind.i64.wrap (n+I h.name)+I h.text)) r:=rfl;rw[e,Wn (n:=n+I h.name) ω,Wn ω,Zqo r _ ω ω];omega
def ZpQ(f:Val->Int):List Val->Int
 | []=>0
 |x::r=>f x+ZpQ f r
def Zu7{f M}(u:0<=M/\M<=900000000000):∀(l n),0<=n->n<=1000000000000->(∀x∈l,0<=f x/\f x<=M)->n<=ZdO f n l/\ZdO f n l<=max n (5000+M)/\(ZdO f n l<=5000->ZdO f n l=n+ZpQ f l/\∀x∈l,f x<=5000)
 | [],n,h0,h1,_=>by simp only[ZdO,ZpQ];exact⟨ω,ω,λ_=>⟨ω,λx o=>by simp at o⟩⟩
 |x::r,n,h0,h1,hf=>by have o:=hf x ψ;simp only[ZdO,ZpQ];by_cases i:n<=5000;rw[if_pos i,Wn ω];obtain⟨a,b,c⟩:=Zu7 u r (n+f x) ω ω λy hy=>hf y (by simp[hy]);refine⟨ω,ω,λhr=>?_⟩;obtain⟨c1,t⟩:=c hr;refine⟨ω,λy hy=>?_⟩;rcases List.mem_cons.1 hy with rfl|hy;omega;exact t y hy;rw[if_neg i];exact⟨ω,ω,λh=>by omega⟩
def ZvH{l k}(h:∀x∈l,ZY x<=k):heightL l<=k:=by
 induction l with
 |nil=>simp[heightL]
 |cons v r ih =>have h1:=h v ψ;have h2:=ih λx i=>h x (by simp[i]);simp only[heightL];omega
def ZBO{f:Val->Int}{l}(h:∀x∈l,f x=wtN x):ZpQ f l=wtL l:=by
 induction l with
 |nil=>rfl
 |cons v r ih =>have h1:=h v ψ;have h2:=ih λx i=>h x (by simp[i]);simp only[ZpQ,wtL];omega
def Zl8{s}(h:Yl s=true):1<=I s/\I s<=32:=by
 cases s with
 |nil=>simp[Yl]at h
 |cons c r =>simp only[Yl,ZH1,decide_eq_true_eq]at h;exact⟨ψ,h.1.1⟩
def ZyR{l}(h:l.any Zai=false):Jp l<=2097152*I l:=by
 induction l with
 |nil=>simp[Jp]
 |cons a r ih =>rw[List.any_cons,Bool.or_eq_false_iff]at h;have h2:=ih h.2;have i:=h.1;unfold Zai at i;simp only[Bool.or_eq_false_iff,decide_eq_false_iff_not]at i;simp only[Jp,ZH3];omega
def KY{v}(h:JM v=true):(1<=I v.name/\I v.name<=32)/\(0<=v.int/\v.int<34359738368)/\I v.bytes<=1048576/\I v.hdrs<=100/\Jp v.hdrs<=2097152*I v.hdrs/\Yl v.name=true:=by
 unfold JM at h;simp only[ZH1,decide_eq_true_eq,Bool.not_eq_true']at h;obtain⟨⟨⟨⟨⟨i,o⟩,r⟩,h4⟩,h5⟩,t⟩:=h;exact⟨Zl8 i,⟨o,r⟩,ω,ω,ZyR t,i⟩
def ZoU{h:Hdr}:Zc ZHP 140 [.agg h.cells] (.bool (Zai h)):=by
 refine Ze (cR 140 f140) λF st i=>?_;have o:dC ((1048576:Int)<max (I h.name:Int) (I h.text:Int))=Zai h:=by unfold Zai;rw[<-Bool.decide_or];exact decide_eq_decide.2 ω
 refine rx @Hdr.cells.eq_1 ?_;refine rg ?_;refine rb i ?_;exact o
def ZpT(l):Zc ZHP 141 [slD 2 Hdr.cells l,.fn (.func 140) [] []] (.bool (l.any Zai)) :=
 λst=>J4 l (λ_=>st) λi _=> ZoU.VT (first:=[]) (caps:=[]) st
def Zru(v):Zc ZHP 98 [.agg v.cells] (.bool (JM v)):=by
 refine Ze (cR 98 f98) λF st i=>?_;rw[v.cells_eq];refine gG ?_;refine rx (nd2 @Wc @Zbt) ?_;refine cX (nd2 @Wc @Zbt) (Zas _) ?_;refine cG (ZpT v.hdrs) ?_;refine rb i ?_;unfold JM;rfl
mutual
def QO:Val->Int->List (Int×Val)
 |.mk n i b hd p,h=>(h,.mk n i b hd p)::preWL p (IntKind.i64.wrap (h+1))
def preWL:List Val->Int->List (Int×Val)
 | [],_=>[]
 |v::r,h=>QO v h++preWL r h
end
def ZhC(v)(h:Int):QO v h=(h,v)::preWL v.parts (IntKind.i64.wrap (h+1)):=by cases v;rfl
def Zoh{l:List Val}{i}(h:i<I l)(k):preWL (l.take (i+1)) k=preWL (l.take i) k++QO (l.getD i dE) k:=by
 rw[ZQ h];generalize l.getD i dE=x;induction l.take i with
 |nil=>simp[preWL]
 |cons y r ih=>simp only[List.cons_append,preWL,ih,ZIh]
def ZtX{l i}(h:i<I l)(k):preWL l k=preWL (l.take i) k++(QO (l.getD i dE) k++preWL (l.drop (i+1)) k):=by
 have o:∀a b:List Val,preWL (a++b) k=preWL a k++preWL b k:=λa b=>by
  induction a with
  |nil=>rfl
  |cons x r ih=>simp only[List.cons_append,preWL,ih,ZIh]
 conv=>lhs;rw[<-List.take_append_drop (i+1) l]
 rw[o,Zoh h,ZIh]
def hvA(L:List (Int×Val))(j:Nat):List D:=[.i (L.getD j dE).1,.agg (L.getD j dE).2.cells]
def ZdX(v:Val)(h:Int)(za zv:Nat):St:=(ZIk za (.cells [.i h])).or (ZIk zv (.cells v.cells))
def ZAk{v}{h:Int}{za zv}:(ZdX v h za zv) za=sO (.cells [.i h]):=Zt Yt
def ZAl{v}{h:Int}{za zv}(i:zv≠za):(ZdX v h za zv) zv=sO (.cells v.cells):=by
 unfold ZdX;rw[Zz (ZbA i)];exact Yt
def Zqc{st v}{h:Int}{za zv}(t:st za=nO)(u:st zv=nO):Z7 st (ZdX v h za zv):=λb o i=>by
 unfold ZdX at i;cases r:(ZIk za (.cells [.i h])) b with
 |some x=>exact Ko t _ _ r
 |none=>rw[Zz r]at i;exact Ko u _ _ i
def Zi5(v)(h:Int)(st):Zf ZHP 97 [.agg v.cells,.i h] st λr S=>∃o t,st o=nO/\st t=nO/\t≠o/\r=.ret (.fn (.func 139) [] [.ptr o 0,.ptr t 0])/\S=st.or (ZdX v h o t):=by
 refine Zh (cR 97 f97) λF hF=>?_;have u:∀o t,ZdX v h o t=(ZIk o (.cells [.i h])).or (ZIk t (.cells v.cells)):=λ_ _=>rfl;rw[v.cells_eq]at u⊢;refine rg ?_;refine Zd ?_;refine xP 3 λo ha=>?_;refine xP 2 λt hv=>?_;have i:=Zn hv;refine rg ?_;refine hF.ret _ _ rfl φ (ZHT _) ZHU ⟨o,t,ha,i.2,i.1,rfl,?_⟩;rw[QD hv,QD ha,or_assoc,u]
def Mk.or{T a}:∀{qs S},Mk T qs S->Z7 a S->Mk (a.or T) qs (a.or S)
 | [],S,hm,_=>by rw[show S=T from hm];rfl
 |q::qs,S,hm,hd=>by
  obtain⟨S',h1,h2,rfl⟩:=hm;have hq:a q=nO:=hd q _ (ZHW _ _ _);have i:Z7 a S':=λb o t=>hd b o (by rw[ZH0 _ _ (λe=>by rw[e,h2]at t;simp at t)];exact t);refine⟨a.or S',h1.or i,by rw[Zz hq];exact h2,?_⟩;funext c;by_cases u:c=q;subst u;rw[ZHW,Zz hq,ZHW];rw[ZH0 _ _ u];cases r:a c with
  |some x=>rw[Zt r,Zt r]
  |none=>rw[Zz r,Zz r,ZH0 _ _ u]
def Mk.unwS{P A m Ψ}(h:Ψ m A):∀{qs S},Mk A qs S->Unw P (qs.map .mark) m S Ψ
 | [],S,hm=>by rw[show S=A from hm];exact h
 |q::qs,S,hm=>by
  obtain⟨S',o,r,rfl⟩:=hm;refine⟨ZHW _ _ _,?_⟩;have e:(S'.upd q .dfr).del q=S':=by funext c;by_cases i:c=q;subst i;simp[St.del,r];simp[St.del,St.upd,i]
  rw[e];exact Mk.unwS h o
def Jz{s t:St}{b}(h:(s.or t) b=nO):s b=nO/\t b=nO:=by
 cases i:s b with
 |none=>rw[Zz i]at h;exact⟨rfl,h⟩
 |some o=>rw[Zt i]at h;simp at h
def ZAj{a s t}(u:Z7 a s)(h2:Z7 (a.or s) t):Z7 a (s.or t):=λb o i=>by
 cases r:s b with
 |some x=>exact u b x r
 |none =>rw[Zz r]at i;exact(Jz (h2 b o i)).1
def ZhA{s t:St}{b o}(h:s b=nO):(s.or t).upd b o=s.or (t.upd b o):=by
 funext c;by_cases r:c=b;subst r;rw[ZHW,Zz h,ZHW];rw[ZH0 _ _ r];cases i:s c with
 |some x=>rw[Zt i,Zt i]
 |none=>rw[Zz i,Zz i,ZH0 _ _ r]
def Zgf{s t b o}(u:Z7 s t)(h:s b=nO):Z7 s (t.upd b o):=λc x r=>by
 by_cases i:c=b;subst i;exact h;rw[ZH0 _ _ i]at r;exact u c x r
def Zsk{s a t u:St}(r:Z7 s (t.or u))(h2:Z7 (a.or t) u):Z7 s t/\Z7 (s.or t) u:=by
 refine⟨λb o i=>r b o (Zt i),λb o i=>?_⟩;have h3:=(Jz (h2 b o i)).2;have h4:=r b o (by rw[Zz h3];exact i);rw[Zz h4];exact h3
def goE(go:Nat->Oc)(k j:Nat):Oc:=match go (k+j) with
 |.next=>.next
 |.stop _=>.stop (.exit 0)
 |.pan d=>.pan d
def ZyO{i k j}(h:goE i k j=.next):i (k+j)=.next:=by
 unfold goE at h;split at h<;>first|assumption|simp at h
def Zlb{i k n}(o:∀j,j<k->i j=.next)(r:∀j,j<n->goE i k j=.next):∀j,j<k+n->i j=.next:=λj hj=>by
 by_cases h:j<k;exact o j h;have:=ZyO (r (j-k) ω)
 rwa [show k+(j-k)=j by omega]at this
def ZyM{α:Type}[Inhabited α]{a b c:List α}{k j}(o:k=I a)(i:j<I b):(a++(b++c)).getD (k+j) dE=b.getD j dE:=by
 subst o;simp[ZH6,ZIw,ZIm i]
def ZoS(v):∀(h:Int) (za zv),zv≠za->Zji ZHP (.fn (.func 139) [] [.ptr za 0,.ptr zv 0]) (QO v h).length (hvA (QO v h)) (ZdX v h za zv):=by
 induction v using Val.ind with
 |h v ih =>
 intro h za zv a9 l go A a0 al hA hd;have hL:=ZhC v h;obtain⟨h1,a4⟩:∃h1,h1=IntKind.i64.wrap (h+1):=⟨_,rfl⟩;rw[<-a4]at hL;generalize QO v h=LL at *;have ap:0<LL.length:=by rw[hL];simp
 have bb:hvA LL 0=[.i h,.agg [.str v.name,.i v.int,Zg v.bytes,Zx v.hdrs,Zu v.parts]]:=by unfold hvA;rw[hL,<-ZIe];rfl
 refine Zf.V (first:=[]) (args:=[.fn (.yield l) [] []]) (caps:=[.ptr za 0,.ptr zv 0]) (Zh (cR 139 f139) λF hF=>?_);have ga:=ZAk (v:=v) (h:=h) (za:=za) (zv:=zv);have gv:=ZAl (v:=v) (h:=h) a9;rw[ZIe]at gv;generalize ZdX v h za zv=T at *;refine rg ?_;refine YJ (Zd (Zd ?_));refine xP 3 λz3 h3=>?_;obtain⟨au,ak⟩:=Jz h3;have a7:((a0.or T).upd z3 (.cells [.fn (.yield l) [] []]))=a0.or (T.upd z3 (.cells [.fn (.yield l) [] []])):=ZhA au;rw[a7];clear a7;have am:=Zgf (o:=.cells [.fn (.yield l) [] []]) hd au;have g3:(T.upd z3 (.cells [.fn (.yield l) [] []])) z3=sO (.cells [.fn (.yield l) [] []]):=ZHW _ _ _;have ax:(T.upd z3 (.cells [.fn (.yield l) [] []])) za=sO (.cells [.i h]):=by rw[ZH0 _ _ (λe=>by rw[<-e,ga]at ak;simp at ak)];exact ga
 have ay:(T.upd z3 (.cells [.fn (.yield l) [] []])) zv=sO (.cells [.str v.name,.i v.int,Zg v.bytes,Zx v.hdrs,Zu v.parts]):=by rw[ZH0 _ _ (λe=>by rw[<-e,gv]at ak;simp at ak)];exact gv
 clear h3 au ak ga gv hd;generalize (T.upd z3 (.cells [.fn (.yield l) [] []]))=T3 at *;have rd:∀{a Tq:St} {b:Nat} {o:JW},Z7 a Tq->Tq b=sO o->(a.or Tq) b=sO o:=λan hb=>by rw[Zz (an _ _ hb)];exact hb
 have u:=(al 0 ap (λi hi=>absurd hi (Nat.not_lt_zero _)) a0 hA).frame am;rw[bb]at u;refine rh ?_;refine Zk ?_;simp only[Eqs,reduceCtorEq,ZHV,reduceIte,ZHR,ZHY,ZHS,rd am g3,rd am ax,rd am ay];refine vV (u) ?_ ?_
 .rintro d S ⟨s',⟨hr,ac⟩,ad,rfl⟩;cases t:go 0 with
  |next =>
   rw[t]at hr;cases hr;refine gR0 ?_;refine i0 ?_;refine rh ?_;refine Zk ?_;simp only[Eqs,reduceCtorEq,ZHV,reduceIte,ZHR,ZHY,ZHS,rd ad ay,KN];refine ZzX 14 rfl λa8=>?_;have hw:=Zf2 a8;unfold big at hw;clear a8 u am hA;refine Zb ?_;refine lpU (λQ=>∀(n i:Nat),(I v.parts)-i=n->∀(F:Fr ZHP) (qs:List Nat) (Tq a:St),Y0 F [] (λr S=>∃a,Zea LL.length go A a r/\a.sub S) (qs.map .mark)->Mk T3 qs Tq->Z7 a Tq->A (1+(preWL (v.parts.take i) h1).length) a->(∀j,j<1+(preWL (v.parts.take i) h1).length->go j=.next)->i<=I v.parts->Q F [(1,.d (.ptr za 0)),(3,.d (.ptr z3 0)),(14,.d (Zu v.parts)),(15,.d (.i (I v.parts))),(16,.d (.i i))] [] (a.or Tq)) ?_ λbe=>?_
   .intro n;induction n using Nat.strongRecOn with
    |ind n ih_key =>
    clear ad ac t hF s';intro i hn F qs Tq a hF aj an hA ah hi;refine rg ?_;refine Zd (Zj rfl trivial (λhc=>?_) (λhc=>?_))
    .simp at hc;have ba:=YX hc;have a6:=Zr hc;have hT:=Zoh hc h1;have hS:=ZtX hc h1;have bc:=ih _ a6;generalize hk:1+(preWL (v.parts.take i) h1).length=k at *;generalize hx:v.parts.getD i dE=x at *;refine xA (nd2 @atV @ba) ?_;refine rh ?_;refine We ?_;simp only[Eqs,reduceCtorEq,ZHV,reduceIte,ZHR,ZHY,ZHS,Wy,WW,rd an (aj.get ax)];refine ZaU rfl rfl rfl φ (We ?_);simp only[Eqs,reduceCtorEq,ZHV,reduceIte,ZHR,ZHY,ZHS,Wy,WW];rw[<-a4];have a3:=Zi5 x h1 (a.or Tq);rw[ZIe]at a3;refine cV (a3) ?_ ?_
     .rintro dd S ⟨zx,zy,n1,n2,ne,hr,rfl⟩;cases hr;refine gR0 ?_;refine Zb ?_;refine Qh hF rfl trivial [1,3,14,15,16] (by show([1,3,14,15,16]:List Nat).Nodup;decide) (Zqc n1 n2) (bc h1 zx zy ne) (λj hj=>rfl) (goE go k) (λj s=>∃a,s=a.or Tq/\A (k+j) a/\Z7 a Tq) ⟨a,rfl,hA,an⟩ ?_ ?_ ?_ ?_ ?_ ?_
      .rintro j _ hj ab ⟨a1,rfl,af,ae⟩ F' ready busy hdr a2 ao;have a5:LL.getD (k+j) dE=(QO x h1).getD j dE:=by rw[hL,hS,<-hk,<-List.cons_append];exact ZyM (by simp;omega) hj
       have aq:k+j<LL.length:=by rw[hL,hS];simp only[ZH3,ZHX];omega
       have u:=al (k+j) aq (λi hi=>Zlb ah ab i hi) a1 af;unfold hvA at u;rw[a5]at u;simp only[Eqs,reduceCtorEq,ZHV,reduceIte,ZHR,ZHY,ZHS,KG,K0,J8,Qj,List.isEmpty_nil,List.isEmpty_cons,hvA];generalize (QO x h1).getD j dE=g at *;obtain⟨gh,gx⟩:=g;simp only[ZIe]at u⊢;refine gG ?_;refine a2 λaw=>?_;have ai:=u.frame (ZAj ae aw);rw[<-or_assoc]at ai;refine rh ?_;refine Zk ?_;simp only[Eqs,reduceCtorEq,ZHV,reduceIte,ZHR,ZHY,ZHS,Zt (rd ae (aj.get g3))];refine vV (ai) ?_ ?_
       .rintro d S ⟨s',⟨hr,ac⟩,ad,rfl⟩;have ag:=Zsk ad aw;rw[<-or_assoc];cases t:go (k+j) with
        |next =>rw[t]at hr;cases hr;refine gR0 ?_;refine i0 ?_;refine Zo (Zi ?_);exact ao.fin ⟨by unfold goE;rw[t],s',rfl,ac,ag.1⟩ ag.2 ZHU
        |stop c =>rw[t]at hr;cases hr;refine gR0 ?_;refine i1 ?_;exact ao.exit rfl ⟨by unfold goE;rw[t],s',rfl,ac,ag.1⟩ ag.2 ZHU
        |pan d=>rw[t]at hr;cases hr
       rintro d S ⟨s',⟨hr,ac⟩,ad,rfl⟩;have ag:=Zsk ad aw;cases t:go (k+j) with
       |pan d' =>rw[t]at hr;cases hr;rw[<-or_assoc];exact ao.pan ⟨by unfold goE;rw[t],s',rfl,ac,ag.1⟩ ag.2 ZHU
       |next=>rw[t]at hr;cases hr
       |stop c=>rw[t]at hr;cases hr
      rintro q _ ab ⟨a1,rfl,af,ae⟩ hq;obtain⟨q1,q2⟩:=Jz hq;rw[ZhA q1];have ar:1+(preWL (v.parts.take (i+1)) h1).length=k+(QO x h1).length:=by rw[hT,ZHX];omega
      refine gA ?_;refine Za ?_;exact ih_key (I v.parts-(i+1)) ω (i+1) rfl (F.mark q) (q::qs) (Tq.upd q .dfr) a1 (hF.mark q) ⟨Tq,aj,q2,rfl⟩ (Zgf ae q1) (by rw[ar];exact af) (by rw[ar];exact Zlb ah ab) ω;rintro q _ m hm ab t;unfold goE at t;split at t<;>simp at t;rintro q _ m id hm ab t ⟨a1,rfl,af,ae⟩ hq;obtain⟨q1,q2⟩:=Jz hq;rw[ZhA q1];have aq:k+m<LL.length:=by rw[hL,hS];simp only[ZH3,ZHX];omega
      unfold goE at t;split at t;simp at t;rename_i c av;simp only[Oc.stop.injEq,Code.exit.injEq]at t;subst t;refine ZG rfl ?_;refine Z8 ?_;exact(hF.mark q).finU (Mk.unwS (m:=nO) (qs:=q::qs) (A:=a1.or T3) ⟨_,_,.tup [],_,rfl,trivial,ZHT _,ZHU,a1,.stop (k+m) c aq (Zlb ah ab) av af,KK⟩ (Mk.or (qs:=q::qs) (S:=Tq.upd q .dfr) ⟨Tq,aj,q2,rfl⟩ (Zgf ae q1)));simp at t;rintro q _ m d hm ab t ⟨a1,rfl,af,ae⟩ hq;obtain⟨q1,q2⟩:=Jz hq;rw[ZhA q1];have aq:k+m<LL.length:=by rw[hL,hS];simp only[ZH3,ZHX];omega
      unfold goE at t;split at t;simp at t;simp at t;rename_i d' av;simp only[Oc.pan.injEq]at t;subst t;exact(hF.mark q).panU (Mk.unwS (m:=sO _) (qs:=q::qs) (A:=a1.or T3) ⟨_,_,ZHT _,ZHU,a1,.pan (k+m) _ aq (Zlb ah ab) av af,KK⟩ (Mk.or (qs:=q::qs) (S:=Tq.upd q .dfr) ⟨Tq,aj,q2,rfl⟩ (Zgf ae q1)));intro m c t;unfold goE at t;split at t<;>simp at t;exact .inr ⟨0,t.symm⟩
     rintro dd S ⟨zx,zy,n1,n2,ne,hr,_⟩;cases hr
    simp at hc;obtain rfl:i=I v.parts:=ω;rw[ZIb]at hA ah;have az:LL.length=1+(preWL v.parts h1).length:=by rw[hL,ZH3];omega
    rw[<-az]at hA ah;refine ZG rfl (Z8 ?_);exact hF.finU (Mk.unwS (m:=nO) (A:=a.or T3) ⟨_,_,.tup [],_,rfl,trivial,ZHT _,ZHU,a,.all ah hA,KK⟩ (Mk.or aj an))
   exact be _ 0 rfl F [] T3 s' hF rfl ad (by simpa[preWL]using ac) (λj hj=>by
    obtain rfl:j=0:=by simp[preWL]at hj;omega
    exact t) ω
  |stop c =>rw[t]at hr;cases hr;refine gR0 ?_;refine i1 ?_;exact hF.ret (.tup []) _ rfl trivial (ZHT _) ZHU ⟨s',.stop 0 c ap (λi hi=>absurd hi (Nat.not_lt_zero _)) t ac,KK⟩
  |pan d=>rw[t]at hr;cases hr
 rintro d S ⟨s',⟨hr,ac⟩,ad,rfl⟩;cases t:go 0 with
 |pan d' =>rw[t]at hr;cases hr;exact hF.pan _ ZHU ⟨s',.pan 0 d ap (λi hi=>absurd hi (Nat.not_lt_zero _)) t ac,KK⟩
 |next=>rw[t]at hr;cases hr
 |stop c=>rw[t]at hr;cases hr
def Zgm{l}{h:Int}{p}:p∈preWL l h↔∃x∈l,p∈QO x h:=by
 induction l with
 |nil=>simp[preWL]
 |cons v r ih=>simp only[preWL,List.mem_append,ih,ZIs,exists_eq_or_imp]
def ZsW(v):∀h,(QO v h).length=KF v:=by
 induction v using Val.ind with
 |h v ih =>
  intro h;rw[ZhC,JN,ZH3];have:∀(l:List Val) (k:Int),(∀x∈l,∀k,(QO x k).length=KF x)->(preWL l k).length=nodesL l:=λl k i=>by
   induction l with
   |nil=>simp[preWL,nodesL]
   |cons a r ih2=>rw[preWL,ZHX,i a ψ,ih2 λx o=>i x (by simp[o]),nodesL]
  rw[this v.parts _ ih];omega
def Zu4(v):∀h,Yz v=true↔∀p∈QO v h,JM p.2=true:=by
 induction v using Val.ind with
 |h v ih =>intro h;rw[ZhC,ZfG,ZH1,ZeY,List.all_eq_true];constructor;rintro⟨r,t⟩ p hp;rcases List.mem_cons.1 hp with rfl|hp;exact t;obtain⟨x,o,hp⟩:=Zgm.1 hp;exact(ih x o _).1 (r x o) p hp;intro i;refine⟨λx o=>(ih x o _).2 λp hp=>i p (List.mem_cons_of_mem _ (Zgm.2 ⟨x,o,hp⟩)),i (h,v) ψ⟩
def Zze(v):∀h:Int,0<=h->h+ZY v<=4611686018427387904->∀p∈QO v h,p.1<h+ZY v:=by
 induction v using Val.ind with
 |h v ih =>intro h h0 o p hp;rw[ZhC]at hp;rw[KW]at o⊢;rcases List.mem_cons.1 hp with rfl|hp;show h<_;omega;obtain⟨x,i,hp⟩:=Zgm.1 hp;have h1:=ZaV i;rw[Wn ω]at hp;have:=ih x i (h+1) ω ω p hp;omega
def ZvG{l k}(h:k<heightL l):∃x∈l,k<ZY x:=by
 induction l with
 |nil=>simp[heightL]at h
 |cons v r ih =>simp only[heightL]at h;by_cases i:k<ZY v;exact⟨v,ψ,i⟩;obtain⟨x,t,o⟩:=ih ω;exact⟨x,by simp[t],o⟩
def ZvV(v):∀(k:Nat) (h:Int),0<=h->h+k<=4611686018427387904->k<ZY v->∃p∈QO v h,p.1=h+k:=by
 induction v using Val.ind with
 |h v ih =>
  intro k h h0 hb t;rw[ZhC];cases k with
  |zero=>exact⟨(h,v),ψ,ψ⟩
  |succ k =>rw[KW]at t;obtain⟨x,o,i⟩:=ZvG (show k<heightL v.parts by omega);rw[Wn ω];obtain⟨p,u,r⟩:=ih x o k (h+1) ω ω i;exact⟨p,List.mem_cons_of_mem _ (Zgm.2 ⟨x,o,u⟩),by rw[r];omega⟩
def ZgM(L:List (Int×Val))(j:Nat):Bool:=(dC ((65536:Int)<(j:Int)+1) ||decide ((40:Int)<(L.getD j dE).1))||!JM (L.getD j dE).2
def Zx2{v}(h:∀j,j<(QO v 1).length->ZgM (QO v 1) j=false):Kt v=true:=by
 have hl:=ZsW v 1;have o:∀p∈QO v 1,p.1<=40/\JM p.2=true:=λp o=>by obtain⟨j,t,rfl⟩:=ZIc o;have:=h j t;unfold ZgM at this;simp only[Bool.or_eq_false_iff,decide_eq_false_iff_not,Bool.not_eq_false',List.getD_eq_getElem?_getD,ZIn t,ZIr]at this;exact⟨ω,this.2⟩
 have h0:0<KF v:=by rw[JN];omega
 have r:=h ((QO v 1).length-1) ω;unfold ZgM at r;simp only[Bool.or_eq_false_iff,decide_eq_false_iff_not]at r;unfold Kt;rw[(Zu4 v 1).2 λp i=>(o p i).2,Bool.and_true,ZH1,decide_eq_true_eq,decide_eq_true_eq];refine⟨ω,?_⟩;by_cases hh:ZY v<=40;omega;obtain⟨p,i,he⟩:=ZvV v 40 1 ω ω ω;have:=(o p i).1;omega
def Zx1{v j}(t:j<(QO v 1).length)(h:ZgM (QO v 1) j=true):Kt v=false:=by
 cases i:Kt v with
 |false=>rfl
 |true =>exfalso;unfold Kt at i;simp only[ZH1,decide_eq_true_eq]at i;obtain⟨⟨h1,h2⟩,o⟩:=i;have hl:=ZsW v 1;have hm:(QO v 1).getD j dE∈QO v 1:=Zr t;have h4:=Zze v 1 ω ω _ hm;have r:=(Zu4 v 1).1 o _ hm;unfold ZgM at h;rw[r]at h;simp only[Bool.not_true,Bool.or_false,ZId,decide_eq_true_eq]at h;omega
def ZhP(v):Zc ZHP 49 [.agg v.cells] (.bool (Kt v)):=by
 refine λst=>Zh (cR 49 f49) λF hF=>?_;have ah:=Zi5 v 1 st;have ao:=ZoS v 1;have ac:=Zx2 (v:=v);have ae:=λj=>Zx1 (v:=v) (j:=j);rw[ZIe]at ah⊢;generalize QO v 1=L at *;refine gG ?_;refine rg ?_;refine cV (ah) ?_ ?_
 .rintro dd S ⟨za,zv,n1,n2,ne,hr,rfl⟩;cases hr;refine gR0 ?_;refine Zb ?_;refine xP 2 λz2 h2=>?_;obtain⟨ai,aj⟩:=Jz h2;rw[W5];refine xP 3 λz3 h3=>?_;obtain⟨ak,al⟩:=Jz h3;rw[W5];have k3:=Zn ak;have g2:∀c,((st.upd z2 (.cells [.bool false])).upd z3 c) z2=sO (.cells [.bool false]):=λc=>by rw[ZH0 _ _ (Ne.symm k3.1)];exact ZHW _ _ _
  have g3:∀c,((st.upd z2 (.cells [.bool false])).upd z3 c) z3=sO c:=λc=>ZHW _ _ _;have ab:∀c o,st.sub (((st.upd z2 (.cells [.bool false])).upd z3 c).upd z2 o):=λc o b x hb=>by
   have e2:b≠z2:=λe=>by rw[e,ai]at hb;simp at hb
   have e3:b≠z3:=λe=>by rw[e,k3.2]at hb;simp at hb
   rw[ZH0 _ _ e2,ZH0 _ _ e3,ZH0 _ _ e2];exact hb
  have an:∀c,Z7 ((st.upd z2 (.cells [.bool false])).upd z3 c) (ZdX v 1 za zv):=λc b o hb=>by
   have e2:b≠z2:=λe=>by rw[e,aj]at hb;simp at hb
   have e3:b≠z3:=λe=>by rw[e,al]at hb;simp at hb
   rw[ZH0 _ _ e3,ZH0 _ _ e2];exact Zqc n1 n2 b o hb
  refine Qh hF rfl trivial [2,3] (by show([2,3]:List Nat).Nodup;decide) (an _) (ao za zv ne) (λj hj=>rfl) (λj=>if ZgM L j then .stop .ret else .next) (λj a=>a=(st.upd z2 (.cells [.bool false])).upd z3 (.cells [.i j])) rfl ?_ ?_ ?_ ?_ ?_ ?_
  .intro j a hj t hB F' ready ad hdr ag r;subst hB;have hj2:j<=65536:=by refine Nat.le_of_not_lt λap=>?_;have:=t 65536 ap;rw[if_pos (by unfold ZgM;simp)]at this;simp at this
   have hN:=Zru (L.getD j dE).2;have af:=ZgM.eq_1 L j;simp only[Eqs,reduceCtorEq,ZHV,reduceIte,ZHR,ZHY,ZHS,KG,K0,J8,Qj,List.isEmpty_nil,List.isEmpty_cons,hvA];generalize L.getD j dE=g at *;obtain⟨gh,gx⟩:=g;simp only[ZIe]at hN af⊢;refine gG ?_;refine ag λam=>?_;have u:Z7 ((st.upd z2 (.cells [.bool false])).upd z3 (.cells [.i ((j+1:Nat):Int)])) ad:=λb o hb=>by have h1:=Zn (am b o hb);rw[ZH0 _ _ h1.1];exact h1.2
   refine rh ?_;refine Zk ?_;simp only[Eqs,reduceCtorEq,ZHV,reduceIte,ZHR,ZHY,ZHS,Zt (g3 _),W5];refine aa ?_;rw[ZH7,show(j:Int)+1=((j+1:Nat):Int) by omega];refine rh ?_;refine Zk ?_;simp only[Eqs,reduceCtorEq,ZHV,reduceIte,ZHR,ZHY,ZHS,Zt (g3 _)];refine cG (hN) ?_;rw[show((j+1:Nat):Int)=(j:Int)+1 by omega,<-af];cases hb:ZgM L j with
   |true =>rw[hb]at r;refine i1 ?_;refine rh ?_;refine Zk ?_;simp only[Eqs,reduceCtorEq,ZHV,reduceIte,ZHR,ZHY,ZHS,Zt (g2 _),W5];rw[show(j:Int)+1=((j+1:Nat):Int) by omega,St.upd_self (g2 _)];exact r.ret ⟨rfl,rfl⟩ u ZHU
   |false =>rw[hb]at r;refine i0 ?_;refine Zo (Zi ?_);rw[show(j:Int)+1=((j+1:Nat):Int) by omega];exact r.fin ⟨rfl,rfl⟩ u ZHU
  intro q a t hB hq;subst hB;have hv:Kt v=true:=ac λj hj=>by have:=t j hj;split at this;simp at this;rename_i h;simpa using h
  rw[QD hq];have aq:(((st.upd z2 (.cells [.bool false])).upd z3 (.cells [.i L.length])).upd z2 (.cells [.bool true])) q=nO:=by rw[ZH0 _ _ (λe=>by rw[e,g2]at hq;simp at hq)];exact hq
  have gg:(((st.upd z2 (.cells [.bool false])).upd z3 (.cells [.i L.length])).upd z2 (.cells [.bool true])) z2=sO (.cells [.bool true]):=ZHW _ _ _;refine rh ?_;refine Zk ?_;simp only[Eqs,reduceCtorEq,ZHV,reduceIte,ZHR,ZHY,ZHS,Zt (g2 _),W5];exact hF.ret1 aq (.bool true) st (by simp only[Eqs,reduceCtorEq,ZHV,reduceIte,ZHR,ZHY,ZHS,YP,K7,gg];rfl) φ (ZHT _) (ab _ _) ⟨by rw[hv],rfl⟩;intro q a m hm t i hB hq;subst hB;have hb:ZgM L m=true:=by split at i;assumption;simp at i
  rw[QD hq];have hs:st.sub ((st.upd z2 (.cells [.bool false])).upd z3 (.cells [.i ((m+1:Nat):Int)])):=by
   have:=ab (.cells [.i ((m+1:Nat):Int)]) (.cells [.bool false])
   rwa [St.upd_self (g2 _)]at this
  exact hF.ret1 hq (.bool false) st (by simp only[Eqs,reduceCtorEq,ZHV,reduceIte,ZHR,ZHY,ZHS,YP,K7,g2];rfl) φ (ZHT _) hs ⟨by rw[ae m hm hb],rfl⟩;intro q a m id hm t i;split at i<;>simp at i;intro q a m d hm t i;split at i<;>simp at i;intro m c i;split at i<;>simp at i;exact .inl i.symm
 rintro dd S ⟨za,zv,n1,n2,ne,hr,_⟩;cases hr
def Wg(row:Nat->List D):Nat->List D
 |0=>[]
 |n+1=>Wg row n++row n
def ZcK{row}:∀{n},(∀j,j<n->(row j).length=5)->(Wg row n).length=n*5
 |0,_=>rfl
 |n+1,h=>by rw[Wg,ZHX,ZcK λj hj=>h j ω,h n ω];omega
def Zl5{row row'}:∀{n},(∀j,j<n->row j=row' j)->Wg row n=Wg row' n
 |0,_=>rfl
 |n+1,h=>by rw[Wg,Wg,Zl5 λj hj=>h j ω,h n ω]
def Zib{row}(X):∀{n j},(∀j,j<n->(row j).length=5)->j<n->part (Wg row n++X) (j*5) 5=row j
 |0,j,_,hj=>absurd hj (Nat.not_lt_zero _)
 |n+1,j,h,hj=>by rcases Nat.lt_or_eq_of_le (Nat.le_of_lt_succ hj) with h1|rfl;have:=Zib (row n++X) (n:=n) (j:=j) (λk i=>h k ω) h1;rw[Wg,ZIh];exact this;unfold part;rw[Wg,ZIh,List.drop_left' (ZcK λk i=>h k ω),List.take_left' (h j ω)]
def Zql{row}(X k ds)(o:k+I ds<=5):∀{n j},(∀j,j<n->(row j).length=5)->j<n ->
  ZF (Wg row n++X) (j*5+k) ds=Wg (λi=>if i=j then ZF (row j) k ds else row i) n++X
 |0,j,_,hj=>absurd hj (Nat.not_lt_zero _)
 |n+1,j,h,hj=>by
  have hl:(Wg row n).length=n*5:=ZcK λk o=>h k ω;rcases Nat.lt_or_eq_of_le (Nat.le_of_lt_succ hj) with u|rfl;have ih:=Zql (row n++X) k ds o (n:=n) (j:=j) (λk o=>h k ω) u;rw[Wg,ZIh,ih,Wg,if_neg ω,ZIh];have hr:=h j ω;have h2:Wg (λi=>if i=j then ZF (row j) k ds else row i) j=Wg row j:=Zl5 λi hi=>by rw[if_neg ω]
  have r:j*5+k-j*5=k:=ω;have t:j*5+k+I ds-j*5=k+I ds:=ω;have t1:(Wg row j).take (j*5+k)=Wg row j:=List.take_of_length_le ω;have t2:(Wg row j).drop (j*5+k+I ds)=[]:=List.drop_eq_nil_of_le ω;rw[Wg,Wg,h2,if_pos rfl];unfold ZF;rw[ZIh (Wg row j),List.take_append,List.take_append,List.drop_append,List.drop_append,hl,hr,r,t,t1,t2,show k-5=0 by omega,show k+I ds-5=0 by omega];simp
inductive MT(T:St):Val->List D->List Nat->Prop where
 |leaf (n:Str) (i:Int) (b:Str) (h:List Hdr):MT T (.mk n i b h []) [.str n,.i i,Zg b,Zx h,Zu []] []
 |node (n:Str) (i:Int) (b:Str) (h:List Hdr) (ps:List Val) (x cap:Nat) (row:Nat->List D) (fp:Nat->List Nat) (X:List D) (hp:0<I ps) (hb:T x=some (.cells (Wg row (I ps)++X))) (hc:I ps<=cap)
   (hx:∀j,j<I ps->MT T (ps.getD j default) (row j) (fp j)) (hn:∀j,j<I ps->x∉fp j) (hd:∀j k,j<I ps->k<I ps->j≠k->∀y∈fp j,y∉fp k) :
   MT T (.mk n i b h ps) [.str n,.i i,Zg b,Zx h,.msl x 0 (I ps) cap 5] (x::(ZH5 (I ps)).flatMap fp)
def MT.len{T v c fp}(h:MT T v c fp):I c=5:=by cases h<;>rfl
def MT.mono{T T' v c fp}(h:MT T v c fp)(o:∀y∈fp,T' y=T y):MT T' v c fp:=by
 induction h with
 |leaf n i b h=>exact .leaf n i b h
 |node n i b h ps x cap row fp X hp hb hc hx hn hd ih =>refine .node n i b h ps x cap row fp X hp (by rw[o x ψ];exact hb) hc (λj r=>ih j r λy t=>o y ?_) hn hd;simp only[ZIs,List.mem_flatMap,List.mem_range];exact .inr ⟨j,r,t⟩
def MT.live{T v c fp}(h:MT T v c fp):∀y∈fp,∃ds,T y=sO (.cells ds):=by
 induction h with
 |leaf=>intro y o;simp at o
 |node n i b h ps x cap row fp X hp hb hc hx hn hd ih =>intro y o;simp only[ZIs,List.mem_flatMap,List.mem_range]at o;rcases o with rfl|⟨j,r,o⟩;exact⟨_,hb⟩;exact ih j r y o
def MT.ld{T v c fp}(h:MT T v c fp):∀{Ln},(∀y∈fp,y∈Ln)->LdC T Ln c v.cells:=by
 induction h with
 |leaf n i b h=>intro Ln _;rw[ZIe];exact LdC.refl _
 |node n i b h ps x cap row fp X hp hb hc hx hn hd ih =>intro Ln t;rw[ZIe];have r:∀j,j<I ps->(row j).length=5:=λj o=>(hx j o).len;refine .cons (.refl _) (.cons (.refl _) (.cons (.refl _) (.cons (.refl _) (.cons ?_ .nil))));refine Y1.msl (t x ψ) hb (by rw[ZHX,ZcK r];exact Nat.le_add_right _ _) λj o=>?_;rw[show((Wg row (I ps)++X).drop (j*5)).take 5=row j from Zib X r o];show LdC T Ln (row j) (Za8 ps j);rw[ZcP o];refine ih j o λy u=>t y ?_;simp only[ZIs,List.mem_flatMap,List.mem_range];exact .inr ⟨j,o,u⟩
structure MN(T:St)(v:Val)(c:List D)(fp:List Nat)(x cap:Nat)(row:Nat->List D)(f:Nat->List Nat)(X:List D):Prop where
 c:c=[.str v.name,.i v.int,Zg v.bytes,Zx v.hdrs,.msl x 0 (I v.parts) cap 5]
 b:T x=some (.cells (Wg row (I v.parts)++X))
 le:I v.parts<=cap
 kid:∀j,j<I v.parts->MT T (v.parts.getD j default) (row j) (f j)
 n:∀j,j<I v.parts->x∉f j
 d:∀j k,j<I v.parts->k<I v.parts->j≠k->∀y∈f j,y∉f k
 fp:fp=x::(ZH5 (I v.parts)).flatMap f
def MT.inv{T v c fp}(h:MT T v c fp)(o:0<I v.parts):∃x cap row f X,MN T v c fp x cap row f X:=by
 cases h with
 |leaf n i b h=>simp[Val.parts]at o
 |node n i b h ps x cap row f X o hb hc hx hn hd=>exact⟨x,cap,row,f,X,rfl,hb,hc,hx,hn,hd,rfl⟩
def MN.mt{T v c fp x cap row f X}(h:MN T v c fp x cap row f X)(hp:0<I v.parts):MT T v c fp:=by
 obtain⟨i,o,r,t,u,h6,h7⟩:=h;subst i h7;cases v;exact .node _ _ _ _ _ _ _ _ _ _ hp o r t u h6
def MT.leafI{T v c fp}(h:MT T v c fp)(o:I v.parts=0):c=v.cells/\fp=[]:=by
 cases h with
 |leaf n i b h=>exact⟨(ZIe (.mk n i b h [])).symm,rfl⟩
 |node n i b h ps x cap row f X hp'=>simp only[Val.parts]at o;omega
def Ztz{E:List Str}{i}(h:i<E.length):(E.map D.str)[i]?=sO (.str (E.getD i [])):=by simp[ZH6,h]
def ZzB{E:List Str}{i s}(h:i<E.length):List.take (i*1) (E.map D.str)++[.str s]++List.drop (i*1+1) (E.map D.str)=(E.set i s).map D.str:=by
 rw[Nat.mul_one,List.map_set,List.set_eq_take_append_cons_drop,if_pos (by simpa using h)];simp
def Zwo(n):WT [.str []] n=(List.replicate n []).map D.str:=by
 induction n with
 |zero=>rfl
 |succ n ih=>simp_all[WT,List.replicate_succ]
def ZhK{b c l S}(hb:S b=sO (.cells (l.map .str)))(hl:I l<=1000000)(f p)(hf:∀x,VT ZHP f [.str x] S (.bool (p x)) S):
  ZL ZHP 291 [.msl b 0 (I l) c 1,f] S (.i (Zl p l)) S:=by
 refine ZE (cR 291 f291) λhwf F o=>?_;refine gG ?_;refine Zb (fr (I l) (λi Q=>i<=I l->(∀j,j<i->p (l.getD j dE)=false)->Q [(0,.d (.msl b 0 (I l) c 1)),(1,.d f),(7,.d (.i (I l))),(8,.d (.i i))] [] S) (λn r=>?_) λac=>?_);intro i hn hi t;refine rg ?_;refine Zd (Zj rfl trivial (λh1=>?_) (λh1=>?_));simp at h1;have hg:=Ztz h1;have ab:(l.map D.str)[i*1]?=sO (.str (l.getD i [])):=by rw[Nat.mul_one];exact hg
 refine rg ?_;refine xA (nd2 @hb (nd2 @hg @ab)) ?_;refine cW (hf _) ?_;refine cd (λh2=>?_) (λh2=>?_);have e1:=Wv h1 h2 t;rw[e1]at o;refine rg ?_;exact o rfl φ (ZHT _) ZHU;refine gA ?_;refine Za ?_;exact r ((I l)-(i+1)) ω (i+1) rfl ω (ZV (q:=λj=>p (l.getD j dE)=false) t h2);simp at h1;obtain rfl:i=I l:=ω;have u:∀x∈l,p x=false:=λx hx=>by obtain⟨j,hj,rfl⟩:=ZIc hx;have:=t j hj;simpa[ZH6,hj]using this
 rw[Wd u]at o;refine rg ?_;exact o rfl φ (ZHT _) ZHU;exact ac _ 0 rfl ω (by intro j hj;omega)
def JJ(p:Str->Bool)(l:List Str):List Str:=l.filter λx=>!p x
def Zxd{p l}:(JJ p l).length<=I l:=List.length_filter_le ..
def Zil{p}{l:List Str}{j}(h:j<I l):JJ p (l.take (j+1))=JJ p (l.take j)++if p (l.getD j []) then [] else [l.getD j []]:=by
 rw[show l.getD j []=l.getD j dE from rfl,ZQ h];unfold JJ;rw[List.filter_append];congr 1;simp only[List.filter_cons,List.filter_nil];cases p (l.getD j dE)<;>rfl
def Zmb{p}{l:List Str}{i}(h:∀j,j<i->p (l.getD j dE)=false)(hi:i<=I l):JJ p (l.take i)=l.take i:=by
 unfold JJ;rw[List.filter_eq_self];intro x t;obtain⟨j,o,rfl⟩:=ZIc t;have r:=h j (by rw[ZIa]at o;omega);rw[ZIa]at o;simpa[ZH6,show j<I l by omega]using r
def Zqr{p l}(h:∀x∈l,p x=false):JJ p l=l:=by
 unfold JJ;rw[List.filter_eq_self];intro x i;rw[h x i];rfl
def Zrp{E:List Str}{k x}(h:k<E.length):(E.set k x).take (k+1)=E.take k++[x]:=by
 rw[List.set_eq_take_append_cons_drop,if_pos h,show E.take k++x::E.drop (k+1)=(E.take k++[x])++E.drop (k+1) by simp,List.take_left' (by simp;omega)]
def Zvx{E:List Str}{k}(h:k<=E.length):ZF (E.map D.str) (k*1) (WT [.str []] (E.length-k))=((E.take k++List.replicate (E.length-k) []).map .str):=by
 unfold ZF;rw[Nat.mul_one,Zwo,List.drop_eq_nil_of_le (by simp;omega)];simp
def Zha{b c l S}(hb:S b=sO (.cells (l.map .str)))(hl:I l<=1000000)(hc:I l<=c)(f p)(hf:∀x T,VT ZHP f [.str x] T (.bool (p x)) T):
  Zf ZHP 239 [.msl b 0 (I l) c 1,f] S λr T=>r=.ret (.msl b 0 (JJ p l).length c 1)/\T=S.upd b (.cells ((JJ p l++List.replicate (I l-(JJ p l).length) []).map .str)):=by
 refine Zh (cR 239 f239) λF hF=>?_;have an:=ZhK (c:=c) hb hl f p (λx=>hf x S);refine gG ?_;refine ct (an) ?_;refine aa ?_;refine rg ?_;by_cases ad:Zl p l<0;have ap:Zl p l=-1:=by have:=K4 p l;omega
 rw[ap];refine i1 ?_;refine rg ?_;exact hF.ret _ _ rfl φ (ZHT _) ZHU ⟨by rw[Zqr (Zc7 ad)];rfl,by rw[Zqr (Zc7 ad),Nat.sub_self,List.replicate_zero,ZIj];exact(St.upd_self hb).symm⟩;obtain⟨q0,aq⟩:∃q0:Nat,Zl p l=q0:=⟨(Zl p l).toNat,ω⟩;have ao:=YC p l;have ai:=Q6 (p:=p) (l:=l) ω;rw[aq]at ao ai⊢;have ab:=λj hj=>ai.2 j hj;have ah:=ai.1;simp only[Int.toNat_natCast]at ab ah;have ae:q0<I l:=ω;refine i0 ?_;refine gA ?_;refine Zb (fr (I l) (λj Q=>j<=I l->∀(k:Nat) (E:List Str),E.length=I l->k<j->k=(JJ p (l.take j)).length->E.take k=JJ p (l.take j)->E.drop j=l.drop j->Q [(0,.d (.msl b 0 (I l) c 1)),(1,.d f),(5,.d (.i k)),(6,.d (.i j))] [] (S.upd b (.cells (E.map .str)))) (λn t=>?_) λar=>?_)
 .intro j hn hj k E hE hkj hk ac hdr;refine rg ?_;refine cd (λh1=>?_) (λh1=>?_)
  .have af:j<I l:=by simp at h1;omega
   have hx:E.getD j []=l.getD j []:=by
    have h2:(E.drop j)[0]?=(l.drop j)[0]?:=by rw[hdr]
    simpa[ZH6]using congrArg (λo=>o.getD []) h2
   have hg:(E.map D.str)[j*1]?=sO (.str (l.getD j [])):=by rw[Nat.mul_one,Ztz ω,hx]
   have u:=Zil (p:=p) af;have ak:E.drop (j+1)=l.drop (j+1):=by rw[<-List.drop_drop,hdr,List.drop_drop]
   generalize l.getD j []=x at *;refine xA (nd2 @ZHW @hg) ?_;refine rg ?_;refine cW (hf x _) ?_;cases al:p x with
   |true =>rw[al,if_pos rfl,ZIj]at u;refine i0 ?_;refine gA ?_;refine Za ?_;exact t ((I l)-(j+1)) ω (j+1) rfl ω k E hE ω (by rw[u];exact hk) (by rw[u];exact ac) ak
   |false =>
    rw[al,if_neg ψ]at u;have am:=ZzB (E:=E) (i:=k) (s:=x) ω;refine i1 ?_;have ag:(E.map D.str).length=I l:=by rw[ZH4];exact hE
    refine xA (nd2 @ZHW (nd2 @ZH7 (nd2 @am @ag))) ?_;refine gA ?_;refine gA ?_;rw[show(k:Int)+1=((k+1:Nat):Int) by omega];refine Za ?_;exact t ((I l)-(j+1)) ω (j+1) rfl ω (k+1) (E.set k x) (by rw[List.length_set];exact hE) ω (by rw[u,ZHX,<-hk];rfl) (by rw[u,<-ac,Zrp ω]) (by rw[List.drop_set_of_lt ω];exact ak)
  have af:j=I l:=by simp at h1;omega
  subst af;rw[ZIb]at hk ac;have aj:=Zvx (E:=E) (k:=k) ω;have ag:(E.map D.str).length=I l:=by rw[ZH4];exact hE
  rw[hE,ac]at aj;have hck:¬c=k:=ω;refine rg ?_;refine⟨ω,ω,ω,ω,?_⟩;rw[if_neg ω,show((I l:Int)-k).toNat=I l-k by omega,show((c:Int)-k).toNat=c-k by omega];refine ZrK rfl rfl rfl trivial (cs:=E.map .str) (by simp[Yq,ZHW]) (by rw[ag];omega) ?_;rw[aj,ZH7];refine gR0 ?_;refine rg ?_;refine⟨ω,ω,ω,ω,?_⟩;simp only[ite_self,if_pos];exact hF.ret _ _ rfl φ (ZHT _) ZHU ⟨by rw[<-hk];rfl,by rw[<-hk]⟩
 have h0:=ar _ (q0+1) rfl ω q0 l rfl ω (by rw[Zil ae,show l.getD q0 []=l.getD q0 dE from rfl,ah,if_pos rfl,ZIj,Zmb ab ω,ZIa];omega) (by rw[Zil ae,show l.getD q0 []=l.getD q0 dE from rfl,ah,if_pos rfl,ZIj,Zmb ab ω]) rfl;rw[St.upd_self hb]at h0;exact h0
end Go.DL
namespace Go.Proofs
open Go.Shelf Go.RowKit
def Tryz.joinL_ren:Go.Shelf.Ren:=⟨λ|156=>238|165=>288|166=>289|169=>290|240=>318|241=>319|276=>334|277=>335|n=>n,λ|31=>242|9=>9|3=>3|4=>4|0=>0|20=>20|72=>346|76=>120|70=>344|37=>25|75=>119|127=>286|164=>402|5=>5|80=>348|n=>n,λ|n=>n⟩
def Tryz.joinL:Go.Proofs.Lays.n156 ZHP Tryz.joinL_ren:={
 mixed:=by kernel_rfl
 f156:=Tryz.func238.trans (congrArg sO (by kernel_rfl))
 f165:=Tryz.func288.trans (congrArg sO (by kernel_rfl))
 f166:=Tryz.func289.trans (congrArg sO (by kernel_rfl))
 f169:=Tryz.func290.trans (congrArg sO (by kernel_rfl))
 f240:=Tryz.func318.trans (congrArg sO (by kernel_rfl))
 f241:=Tryz.func319.trans (congrArg sO (by kernel_rfl))
 f276:=Tryz.func334.trans (congrArg sO (by kernel_rfl))
 f277:=Tryz.func335.trans (congrArg sO (by kernel_rfl))
 t0:=Tryz.underlying0
 a0:=Tryz.isAgg0
 z0:=Tryz.sizeOf0
 v0:=Tryz.zeroValue0
 t3:=Tryz.underlying3
 a3:=Tryz.isAgg3
 z3:=Tryz.sizeOf3
 v3:=Tryz.zeroValue3
 t4:=Tryz.underlying4
 a4:=Tryz.isAgg4
 z4:=Tryz.sizeOf4
 v4:=Tryz.zeroValue4
 t9:=Tryz.underlying9
 a9:=Tryz.isAgg9
 z9:=Tryz.sizeOf9
 v9:=Tryz.zeroValue9
 t20:=Tryz.underlying20
 a20:=Tryz.isAgg20
 z20:=Tryz.sizeOf20
 v20:=Tryz.zeroValue20
 t31:=Tryz.underlying242
 a31:=Tryz.isAgg242
 z31:=Tryz.sizeOf242
 v31:=Tryz.zeroValue242
 t37:=Tryz.underlying25
 a37:=Tryz.isAgg25
 z37:=Tryz.sizeOf25
 v37:=Tryz.zeroValue25
 t70:=Tryz.underlying344
 a70:=Tryz.isAgg344
 z70:=Tryz.sizeOf344
 v70:=Tryz.zeroValue344
 t72:=Tryz.underlying346
 a72:=Tryz.isAgg346
 z72:=Tryz.sizeOf346
 v72:=Tryz.zeroValue346
 t75:=Tryz.underlying119
 a75:=Tryz.isAgg119
 z75:=Tryz.sizeOf119
 v75:=Tryz.zeroValue119
 t76:=Tryz.underlying120
 a76:=Tryz.isAgg120
 z76:=Tryz.sizeOf120
 v76:=Tryz.zeroValue120
 t127:=Tryz.underlying286
 a127:=Tryz.isAgg286
 z127:=Tryz.sizeOf286
 v127:=Tryz.zeroValue286
 t164:=Tryz.underlying402
 a164:=Tryz.isAgg402
 z164:=Tryz.sizeOf402
 v164:=Tryz.zeroValue402 }
def Tryz.joinX:Builder.Extra ZHP Tryz.joinL_ren:={
 sizeBuilder:=by kernel_rfl
 liesBuilder:=by kernel_rfl
 t5:=Tryz.underlying5
 a5:=Tryz.isAgg5
 z5:=Tryz.sizeOf5
 v5:=Tryz.zeroValue5
 infoByte:=by kernel_rfl
 cellsByte:=by kernel_rfl
 sizeByte:=by kernel_rfl
 neB5:=by decide }
end Go.Proofs
namespace Go.DL
open Go Go.Proofs Go.Lib Go.RowKit
def ZAa{w:World}{b o v}(h:w.cell? ⟨b,o,nO⟩=sO v):b<w.heap.size:=by
 refine Nat.lt_of_not_le λi=>?_;have r:w.heap[b]?=nO:=Array.getElem?_eq_none i;simp[World.cell?,r]at h
def joinL(l:List Str)(sep:Str):Str:=sep.intercalate l
def ZgB(l:List Str)(hn:I l<=100000)(hj:(joinL l [46]).length<=100000000):Zc ZHP 238 [slD 1 Zdo l,.str [46]] (.str (joinL l [46])):=λst=>by
 refine⟨⟨_,Tryz.func238,by kernel_rfl,by kernel_rfl⟩,λg w vs hs ha=>?_⟩;cases ha with
 |cons h1 ha =>
 cases ha with
 |cons h2 ha =>
 cases ha;cases h2 with
 |str sep _ hsep hsb =>
 have ab:sep=⟨#[46]⟩:=by
  obtain⟨a⟩:=sep;have:a.toList=[46]:=hsep;have h2:a = #[46]:=by apply Array.ext';simpa using this
  rw[h2]
 subst ab;unfold slD at h1;have u:∀w':World,Below w.heap.size w w'->ZaC g w g w':=λw' r=>⟨r.size,λc hc=>r.block c hc,λ_ _=>rfl,λc hc=>(hs.fresh c (ZIy r.size hc)).1,rfl,r.os,r.output,r.tape⟩;generalize ag:(λi=>Zdo (l.getD i dE))=row at h1;generalize af:I l=n at h1;cases h1 with
 |sl0 av _ _ _ ht =>obtain rfl:l=[]:=List.eq_nil_of_length_eq_zero af;refine(Any.strings_Join_none Tryz.joinL Tryz.joinX av 0 ⟨#[46]⟩ w).mono ?_;rintro e w' ⟨rfl,rfl⟩;exact⟨g,st,.ret (.str []),Ext.refl g _,hs,.str _ _ rfl (by simp[big]),rfl,rfl⟩
 |sl b o _ cap _ _ _ f hl hc hp hr one ht hcap hb =>
  subst af;subst ag;have hx:∀i (hi:i<I l),∃x:ByteArray,f i 0=.string x/\x.data.toList=l[i]:=λi hi=>by
   have:=hr i 0 (.str (l.getD i dE)) hi rfl;generalize f i 0=v at this;cases this with
   |str x _ h1 h2=>exact⟨x,rfl,by rw[h1];simp[ZH6,hi]⟩
  have am:∃xs:List ByteArray,I xs=I l/\xs.map (·.data.toList)=l/\∀(j:Nat) x,xs[j]?=sO x->f j 0=.string x:=by refine⟨List.ofFn λi:Fin (I l)=>Classical.choose (hx i.1 i.2),ψ,?_,λj x hj=>?_⟩;apply List.ext_getElem;simp;intro i h1 h2;simp at h1;simp only[List.getElem_map,List.getElem_ofFn];exact(Classical.choose_spec (hx i h1)).2;obtain⟨ad,ae⟩:=List.getElem?_eq_some_iff.1 hj;simp only[List.length_ofFn]at ad;simp only[List.getElem_ofFn]at ae;rw[<-ae];exact(Classical.choose_spec (hx j ad)).1
  obtain⟨xs,ah,ak,al⟩:=am;have ai:0<I l->b<w.heap.size:=λh0=>by have:=hc 0 0 h0 ω;exact ZAa this
  have hJ:(Lib.join (xs.map (·.data.toList)) (⟨#[46]⟩:ByteArray).data.toList)=joinL l [46]:=by rw[ak];rfl
  have ac:∀w',Below w.heap.size w w'->∃g' s' res,Ext g w g' w'/\Ym g' s' w'/\Rep g' w' (.string ⟨(joinL l [46]).toArray⟩) (.str (joinL l [46]))/\res=Res.ret (.str (joinL l [46]))/\s'=st:=λw' r =>
   ⟨g,st,.ret (.str (joinL l [46])),(u w' r).ext hs.fresh,hs.grow (u w' r),.str _ _ ψ (by unfold big;omega),rfl,rfl⟩
  by_cases h0:I l=0;obtain rfl:l=[]:=List.eq_nil_of_length_eq_zero h0;refine(Any.strings_Join_none Tryz.joinL Tryz.joinX (sO ⟨b,o,nO⟩) cap ⟨#[46]⟩ w).mono ?_;rintro e w' ⟨rfl,rfl⟩;exact⟨g,st,.ret (.str []),Ext.refl g _,hs,.str _ _ rfl (by simp[big]),rfl,rfl⟩;have t:=Any.strings_Join Tryz.joinL Tryz.joinX b o cap xs ⟨#[46]⟩ w (λj x hj=>by
    have aj:j<I l:=by rw[<-ah];exact(List.getElem?_eq_some_iff.1 hj).1
    have:=hc j 0 aj ω;rw[al j x hj]at this;simpa using this) (ai ω) ω ω (by rw[hJ];omega)
  rw[hJ,ah]at t;refine t.mono ?_;rintro e w' ⟨rfl,r⟩;obtain⟨g',s',res,a1,a2,a3,a4,a5⟩:=ac w' r;exact⟨g',s',res,a1,a2,by rw[a4];exact a3,a4,a5⟩
end Go.DL
namespace Go.DL
open Go Go.Proofs
variable {kp:Option (List Nat)}{L:Loc}{H:Env}{s:St}{w:World}{os:List DOp}{ds:List D}{B:List (Nat × Rd)}{dst:Option Nat}{tmps:Array Value}{g:G}{Φ:Res->St->Prop}{Z:Nat->Nat}{xs:List Opd}{side:Prop}{row:Nat->List D}
def Zgw(s):Zc ZHP 240 [.str s] (.bool (dC (s=[]))):=by
 refine Ze (cR 240 f240) λF st i=>?_;refine gG ?_;refine rb i ?_;rfl
def Zxe(a s)(o:s≠[]):joinL (JJ (λx=>dC (x=[])) [a,s]) [46]=ZD a s:=by
 unfold JJ joinL ZD;by_cases i:a=[];simp[i,o,List.intercalate];simp[i,o,List.intercalate]
def ZgY(T):St.or (λ_=>nO) T=T:=by funext b;exact Zz rfl
def Zxc{b c}{C:List Str}{T}(hb:T b=sO (.cells (C.map .str)))(K)(hl:K.length<=2)(hC:K.length<=C.length)(hK:∀i,i<K.length->C.getD i []=K.getD i [])(hj:(joinL K [46]).length<=100000000):
  Zf ZHP 238 [.msl b 0 K.length c 1,.str [46]] T λr S=>r=.ret (.str (joinL K [46]))/\S=T:=by
 have h:=Zf.lend (P:=ZHP) (Ln:=[b]) (t:=T) (λx hx=>⟨C.map .str,by rw[List.mem_singleton.1 hx];exact hb⟩) (.cons (Y1.msl (row:=λi=>Zdo (K.getD i dE)) (cap:=c) (sz:=1) (n:=K.length) (List.mem_singleton.2 rfl) hb (by simp;omega) ?_) (.cons (.refl (.str [46])) .nil)) (ZgB K ω hj (λ_=>nO)) (λr S u=>?_);refine h.mono λr S hS=>?_;obtain⟨S',⟨u,rfl⟩,_,rfl⟩:=hS;exact⟨u,ZgY T⟩;intro i hi;have h1:((C.map D.str).drop (i*1)).take 1=Zdo (K.getD i dE):=by rw[Nat.mul_one,show K.getD i dE=C.getD i [] from(hK i hi).symm];rw[List.drop_eq_getElem_cons (by simp;omega)];simp[Zdo,ZH6,show i<C.length by omega]
 rw[h1];exact .refl _;obtain⟨rfl,rfl⟩:=u;exact⟨.str _,λb o h=>by simp at h⟩
def Zrj{b a s S}(hb:S b=sO (.cells [.str a,.str s]))(hs:s≠[])(hl:I a<=10000000)(hl2:I s<=10000000):
  Zf ZHP 186 [.msl b 0 2 2 1] S λr T=>r=.ret (.str (ZD a s))/\∃o,T=S.upd b o:=by
 refine Zh (cR 186 f186) λF hF=>?_;have hd:=Zha (c:=2) (l:=[a,s]) hb ψ ψ (.fn (.func 240) [] []) (λx=>dC (x=[])) (λx T=>(Zgw x).VT (first:=[]) (caps:=[]) T);have t:=Zxe a s hs;have ac:(JJ (λx=>dC (x=[])) [a,s]).length<=2:=Zxd;generalize JJ (λx=>dC (x=[])) [a,s]=K at *;have ad:(joinL K [46]).length<=100000000:=by rw[t];unfold ZD;split;omega;simp only[ZHX,ZH3,List.length_nil];omega
 refine gG ?_;refine cV (hd) ?_ ?_;rintro dd T ⟨hr,rfl⟩;cases hr;refine gR0 ?_;generalize hC:(K++List.replicate (2-K.length) [])=C at *;have ab:∀i,i<K.length->C.getD i []=K.getD i []:=λi hi=>by rw[<-hC];simp[ZH6,ZIm hi]
 have u:K.length<=C.length:=by rw[<-hC];simp
 refine cV ((Zxc (S.upd_same b _) K ac u ab ad)) ?_ ?_;rintro dv T hT;obtain⟨hr,rfl⟩:=hT;cases hr;refine gR0 ?_;rw[t];exact hF.ret _ _ rfl φ (ZHT _) ZHU ⟨rfl,_,rfl⟩;rintro v T ⟨hr,_⟩;cases hr;rintro v T ⟨hr,_⟩;cases hr
def Y5(l:List Fld):List D:=l.flatMap Fld.cells
def Zbp(l):(Y5 l).length=I l*15:=by
 unfold Y5;induction l with
 |nil=>rfl
 |cons f r ih=>rw[List.flatMap_cons,ZHX,ih,QL,ZH3];omega
def Zid{l i}(h:i<I l)(X):part (Y5 l++X) (i*15) 15=(l.getD i dE).cells:=by
 have o:l=l.take i++(l.getD i dE::l.drop (i+1)):=by
  conv=>lhs;rw[<-List.take_append_drop i l]
  rw[List.drop_eq_getElem_cons h];simp[ZH6,h]
 have r:Y5 l++X=Y5 (l.take i)++((l.getD i dE).cells++(Y5 (l.drop (i+1))++X)):=by
  conv=>lhs;rw[o]
  unfold Y5;simp
 unfold part;rw[r,List.drop_left' (by rw[Zbp,ZIa,Nat.min_eq_left ω]),List.take_left' (QL _)]
def Zw0{l i}(h:i<I l)(f X):ZF (Y5 l++X) (i*15) f.cells=Y5 (l.set i f)++X:=by
 have r:l=l.take i++(l.getD i dE::l.drop (i+1)):=by
  conv=>lhs;rw[<-List.take_append_drop i l]
  rw[List.drop_eq_getElem_cons h];simp[ZH6,h]
 have t:Y5 l++X=Y5 (l.take i)++((l.getD i dE).cells++(Y5 (l.drop (i+1))++X)):=by
  conv=>lhs;rw[r]
  unfold Y5;simp
 have o:(Y5 (l.take i)).length=i*15:=by rw[Zbp,ZIa,Nat.min_eq_left ω]
 unfold ZF;rw[t,List.take_left' o,<-List.drop_drop,List.drop_left' o,QL,List.drop_left' (QL _),List.set_eq_take_append_cons_drop,if_pos h];unfold Y5;simp
def ZtP{l k m}(h:k<=I l)(z X):∃Y,ZF (Y5 l++X) (k*15) (WT z m)=Y5 (l.take k)++Y:=by
 have i:Y5 l++X=Y5 (l.take k)++(Y5 (l.drop k)++X):=by unfold Y5;rw[<-ZIh,<-List.flatMap_append,List.take_append_drop]
 have o:(Y5 (l.take k)).length=k*15:=by rw[Zbp,ZIa,Nat.min_eq_left ω]
 unfold ZF;rw[i,List.take_left' o,ZIh];exact⟨_,rfl⟩
def ZvC(l):(ZH5 (I l)).flatMap (λk=>(l.getD k dE).cells)=Y5 l:=by
 unfold Y5;have h:l.flatMap Fld.cells=((ZH5 (I l)).map λk=>l.getD k dE).flatMap Fld.cells:=by
  congr 1
  refine List.ext_getElem ψ λi o h2=>?_;simp[ZH6,o]
 rw[h,List.flatMap_map]
def Zi9(l)(hl:I l<=1000000)(hp:0<I l)(st):Zf ZHP 180 [Zp l] st λr S=>∃b c X,st b=nO/\I l<=c/\r=.ret (.msl b 0 (I l) c 15)/\S=st.upd b (.cells (Y5 l++X)):=by
 refine Zh (cR 180 f180) λF u=>?_;have o:=ZvC l;refine rx (nd2 @eQ4 @eQ1) ?_;refine gA ?_;refine iG ?_;refine ZkT rfl rfl rfl rfl rfl rfl φ φ (by exact hp) ω (by unfold big;omega) λb t hb i=>Zk ?_;simp only[Eqs,reduceCtorEq,ZHV,reduceIte,ZHR,ZHY,ZHS];rw[o];exact u.ret _ _ rfl φ (ZHT _) ZHU ⟨b,t,_,hb,i,rfl,rfl⟩
def ZbJ(p:Fld->Bool)(l:List Fld):List Fld:=l.filter λx=>!p x
def Zik{p}{l:List Fld}{j}(h:j<I l):ZbJ p (l.take (j+1))=ZbJ p (l.take j)++if p (l.getD j dE) then [] else [l.getD j dE]:=by
 rw[ZQ h];unfold ZbJ;rw[List.filter_append];congr 1;simp only[List.filter_cons,List.filter_nil];cases p (l.getD j dE)<;>rfl
def Zma{p}{l:List Fld}{i}(h:∀j,j<i->p (l.getD j dE)=false)(hi:i<=I l):ZbJ p (l.take i)=l.take i:=by
 unfold ZbJ;rw[List.filter_eq_self];intro x t;obtain⟨j,o,rfl⟩:=ZIc t;have r:=h j (by rw[ZIa]at o;omega);rw[ZIa]at o;simpa[ZH6,show j<I l by omega]using r
def Zqq{p l}(h:∀x∈l,p x=false):ZbJ p l=l:=by
 unfold ZbJ;rw[List.filter_eq_self];intro x i;rw[h x i];rfl
def ZxV{E:List Fld}{k x}(h:k<E.length):(E.set k x).take (k+1)=E.take k++[x]:=by
 rw[List.set_eq_take_append_cons_drop,if_pos h,show E.take k++x::E.drop (k+1)=(E.take k++[x])++E.drop (k+1) by simp,List.take_left' (by simp;omega)]
def ZyT{b c l X T}(hb:T b=sO (.cells (Y5 l++X)))(hc:I l<=c)(fid p)(hf:∀x,Zc ZHP fid [.agg x.cells] (.bool (p x))):
  Zf ZHP 237 [.msl b 0 (I l) c 15,.fn (.func fid) [] []] T λr S=>r=.ret (.i (Zl p l))/\S=T:=by
 have h:=Zf.lend (P:=ZHP) (Ln:=[b]) (t:=T) (λx hx=>⟨Y5 l++X,by rw[List.mem_singleton.1 hx];exact hb⟩) (.cons (Y1.msl (row:=λi=>(l.getD i dE).cells) (cap:=c) (sz:=15) (n:=I l) (List.mem_singleton.2 rfl) hb (by rw[ZHX,Zbp];omega) ?_) (.cons (.refl (.fn (.func fid) [] [])) .nil))
  (Q2 l (.fn (.func fid) [] []) p (λ_ _=>nO) (λi _=>(hf _).VT (first:=[]) (caps:=[]) _)) (λr S u=>?_)
 refine h.mono λr S hS=>?_;obtain⟨S',⟨u,rfl⟩,_,rfl⟩:=hS;exact⟨u,ZgY T⟩;intro i hi;rw[show((Y5 l++X).drop (i*15)).take 15=(l.getD i dE).cells from Zid hi X];exact .refl _;obtain⟨rfl,rfl⟩:=u;exact⟨.int _ _,λb o h=>by simp at h⟩
def ZfS{b c l X S}(hb:S b=sO (.cells (Y5 l++X)))(hl:I l<=1000000)(hc:I l<=c)(fid p)(hf:∀x,Zc ZHP fid [.agg x.cells] (.bool (p x))):
  Zf ZHP 179 [.msl b 0 (I l) c 15,.fn (.func fid) [] []] S λr T=>r=.ret (.msl b 0 (ZbJ p l).length c 15)/\∃Y,T=S.upd b (.cells (Y5 (ZbJ p l)++Y)):=by
 refine Zh (cR 179 f179) λF hF=>?_;have am:=ZyT hb hc fid p hf;refine gG ?_;refine cV (am) ?_ ?_
 .rintro dd T ⟨hr,hT⟩;obtain rfl:=hT.symm;cases hr;refine gR0 ?_;refine rg ?_;by_cases af:Zl p l<0;have ao:Zl p l=-1:=by have:=K4 p l;omega
  rw[ao];refine i1 ?_;refine rg ?_;exact hF.ret _ _ rfl φ (ZHT _) ZHU ⟨by rw[Zqq (Zc7 af)];rfl,X,by rw[Zqq (Zc7 af)];exact(St.upd_self hb).symm⟩;obtain⟨q0,ap⟩:∃q0:Nat,Zl p l=q0:=⟨(Zl p l).toNat,ω⟩;have an:=YC p l;have aj:=Q6 (p:=p) (l:=l) ω;rw[ap]at an aj⊢;have ab:=λj hj=>aj.2 j hj;have ai:=aj.1;simp only[Int.toNat_natCast]at ab ai;have ag:q0<I l:=ω;refine i0 ?_;refine gA ?_;refine Zb (fr (I l) (λj Q=>j<=I l->∀(k:Nat) (E:List Fld),E.length=I l->k<j->k=(ZbJ p (l.take j)).length->E.take k=ZbJ p (l.take j)->E.drop j=l.drop j->Q [(0,.d (.msl b 0 (I l) c 15)),(1,.d (.fn (.func fid) [] [])),(5,.d (.i k)),(6,.d (.i j))] [] (S.upd b (.cells (Y5 E++X)))) (λn t=>?_) λaq=>?_)
  .intro j hn hj k E hE hkj hk ae hdr;refine rg ?_;refine cd (λh1=>?_) (λh1=>?_)
   .have ah:j<I l:=by simp at h1;omega
    have hx:E.getD j dE=l.getD j dE:=by
     have h2:(E.drop j)[0]?=(l.drop j)[0]?:=by rw[hdr]
     simpa[ZH6]using congrArg (λo=>o.getD dE) h2
    have ad:(Y5 E++X).length=I l*15+X.length:=by rw[ZHX,Zbp,hE]
    have hg:=Zid (l:=E) (i:=j) ω X;rw[hx]at hg;unfold part at hg;have u:=Zik (p:=p) ah;have ak:E.drop (j+1)=l.drop (j+1):=by rw[<-List.drop_drop,hdr,List.drop_drop]
    generalize l.getD j dE=x at *;refine xA (nd2 @ZHW (nd2 @hg (nd2 @ad (nd2 @QL @Zau)))) ?_;refine xA (nd2 @QL @Zau) ?_;refine cl (hf x) ?_;cases al:p x with
    |true =>rw[al,if_pos rfl,ZIj]at u;refine i0 ?_;refine gA ?_;refine Za ?_;exact t ((I l)-(j+1)) ω (j+1) rfl ω k E hE ω (by rw[u];exact hk) (by rw[u];exact ae) ak
    |false =>rw[al,if_neg ψ]at u;have ac:=Zw0 (l:=E) (i:=k) ω x X;unfold ZF at ac;rw[QL]at ac;refine i1 ?_;refine xA (nd2 @ZHW (nd2 @ZH7 (nd2 @ad (nd2 @QL @Zau)))) ?_;rw[ac];refine gA ?_;refine gA ?_;rw[show(k:Int)+1=((k+1:Nat):Int) by omega];refine Za ?_;exact t ((I l)-(j+1)) ω (j+1) rfl ω (k+1) (E.set k x) (by rw[List.length_set];exact hE) ω (by rw[u,ZHX,<-hk];rfl) (by rw[u,<-ae,ZxV ω]) (by rw[List.drop_set_of_lt ω];exact ak)
   have ah:j=I l:=by simp at h1;omega
   subst ah;rw[ZIb]at hk ae;have ad:(Y5 E++X).length=I l*15+X.length:=by rw[ZHX,Zbp,hE]
   refine rg ?_;refine⟨ω,ω,ω,ω,?_⟩;rw[if_neg ω,show((I l:Int)-k).toNat=I l-k by omega,show((c:Int)-k).toNat=c-k by omega];refine ZrK rfl rfl rfl trivial (cs:=Y5 E++X) (by simp[Yq,ZHW]) (by rw[ad];omega) ?_;obtain⟨Y,hY⟩:=ZtP (l:=E) (k:=k) (m:=I l-k) ω [.str [],.i 0,.i 0,.bool false,.bool false,.i 0,.i 0,.i 0,.nilsl,.str [],.str [],.str [],.nilsl,.i 0,.i 0] X;rw[ae]at hY;rw[hY,ZH7];refine gR0 ?_;refine rg ?_;refine⟨ω,ω,ω,ω,?_⟩;simp only[ite_self,if_pos];exact hF.ret _ _ rfl φ (ZHT _) ZHU ⟨by rw[<-hk];rfl,Y,rfl⟩
  have h0:=aq _ (q0+1) rfl ω q0 l rfl ω (by rw[Zik ag,ai,if_pos rfl,ZIj,Zma ab ω,ZIa];omega) (by rw[Zik ag,ai,if_pos rfl,ZIj,Zma ab ω]) rfl;rw[St.upd_self hb]at h0;exact h0
 rintro v T ⟨hr,_⟩;cases hr
def ZlT(f):Zc ZHP 181 [.agg f.cells] (.bool (!YD f)):=by
 refine Ze (cR 181 f181) λF st i=>?_;refine rx @eQ0 ?_;refine rg ?_;refine cl (Zen f) ?_;refine rb i ?_;rfl
def ZyW(l):ZbJ (λf=>!YD f) l=vfs l:=by unfold ZbJ vfs;simp
def Zgz(m:Msg)(hp:0<I m.fields)(hl:I m.fields<=1000000):Zc ZHP 144 [.agg m.cells] (Zp (vfs m.fields)):=by
 refine Ze (cR 144 f144) λF st r=>?_;refine rx @eQ3 ?_;refine rg ?_;refine cV ((Zi9 m.fields hl hp st)) ?_ ?_;rintro dd T ⟨b,c,X,hb,hc,u,rfl⟩;cases u;refine gR0 ?_;refine cV ((ZfS (ZHW _ _ _) hl hc 181 (λf=>!YD f) ZlT)) ?_ ?_;rintro dd2 T2 ⟨u,Y,rfl⟩;cases u;refine gR0 ?_;rw[ZyW,ZH7];refine Zjf [b] (λx hx=>⟨Y5 (vfs m.fields)++Y,by rw[List.mem_singleton.1 hx];exact ZHW _ _ _⟩) (H':=[(2,.d (Zp (vfs m.fields)))]) (L':=[]) (.cons (Y1.msl (row:=λi=>((vfs m.fields).getD i dE).cells) (List.mem_singleton.2 rfl) (ZHW _ _ _) (by rw[ZHX,Zbp];omega) λi hi=>?_) .nil) .nil ?_;rw[show((Y5 (vfs m.fields)++Y).drop (i*15)).take 15=((vfs m.fields).getD i dE).cells from Zid hi Y];exact .refl _;refine r rfl φ (ZHT _) (λx o hx=>?_);have t:x≠b:=λe=>by rw[e,hb]at hx;simp at hx
 simp only[St.delL,List.mem_singleton,t,if_false];rw[ZH0 _ _ t];exact hx;rintro v T2 ⟨u,_⟩;cases u;rintro v T ⟨b,c,X,_,_,u,_⟩;cases u
def Zm6(f:Fld)(x:Val):Zc ZHP 184 [.agg f.cells,.agg x.cells] (.bool (dC (f.name=x.name))):=by
 refine Ze (cR 184 f184) λF st i=>?_;rw[ZIe];refine rx @eQ0 ?_;refine rg ?_;refine rb i ?_;rfl
def Jd(l:List Fld)(ps:List Val):Bool:=dC (l.map (·.name)=ps.map Val.name)
def Zxr{l ps}(h:I l≠I ps):Jd l ps=false:=by
 unfold Jd;rw[decide_eq_false_iff_not];intro i;exact h (by simpa using congrArg List.length i)
def ZvO{l ps}(h:I l=I ps)(u:∀j,j<I l->(l.getD j dE).name=(ps.getD j dE).name):Jd l ps=true:=by
 unfold Jd;rw[decide_eq_true_eq];refine List.ext_getElem (by simpa using h) λi o r=>?_;have t:=u i (by simpa using o);simp at o r;simpa[ZH6,o,r]using t
def ZvP{l ps j}(h:I l=I ps)(t:j<I l)(i:dC ((l.getD j dE).name=(ps.getD j dE).name)=false):Jd l ps=false:=by
 unfold Jd;rw[decide_eq_false_iff_not]at i⊢;intro r;have o:(l.map (·.name))[j]?=(ps.map Val.name)[j]?:=by rw[r]
 refine i ?_;simpa[ZH6,t,show j<I ps by omega]using o
def Ze3(l ps):Zc ZHP 183 [Zp l,Zu ps,.fn (.func 184) [] []] (.bool (Jd l ps)):=by
 refine ZO (cR 183 f183) λu F st o=>?_;have ad:=(Y4 (u (Zp l) ψ)).1;have ae:=Zf2 (u (Zu ps) ψ);unfold big at ad ae;clear u;refine rg ?_;refine rx (nd2 @ZaI @KN) ?_;refine cd (λhc=>?_) (λhc=>?_);refine rg ?_;refine rb o ?_;exact(Zxr (l:=l) (ps:=ps) (by simp at hc;omega)).symm;have t:I l=I ps:=by simp at hc;omega
 refine rx (nd2 @ZaI @KN) ?_;refine Zb (fr (I l) (λi Q=>i<=I l->(∀j,j<i->dC ((l.getD j dE).name=(ps.getD j dE).name)=true)->Q [(1,.d (Zu ps)),(2,.d (.fn (.func 184) [] [])),(15,.d (Zp l)),(16,.d (.i (I l))),(17,.d (.i i))] [] st) (λn r=>?_) λaf=>?_)
 .intro i hn hi ac;refine rg ?_;refine Zd (Zj rfl trivial (λh1=>?_) (λh1=>?_))
  .simp at h1;have ab:=Zm6 (l.getD i dE) (ps.getD i dE);have hr:=YX (l:=ps) (i:=i) ω;rw[ZIe]at ab;refine xA (nd2 @atF (nd2 @QL @Zau)) ?_;refine xA (nd2 @atV @hr) ?_;refine rx (nd2 @QL @Zau) ?_;refine cl (ab) ?_;cases hb:dC ((l.getD i dE).name=(ps.getD i dE).name) with
   |true =>refine i0 ?_;refine gA ?_;refine Za ?_;exact r ((I l)-(i+1)) ω (i+1) rfl ω (ZV (q:=λj=>dC ((l.getD j dE).name=(ps.getD j dE).name)=true) ac hb)
   |false =>refine i1 ?_;refine rg ?_;refine rb o ?_;exact(ZvP t h1 hb).symm
  simp at h1;obtain rfl:i=I l:=ω;refine rg ?_;refine rb o ?_;exact(ZvO t λj hj=>by simpa using ac j hj).symm
 exact af _ 0 rfl ω (by intro j hj;omega)
def ZpK(l ps):Zc ZHP 146 [Zp l,Zu ps] (.bool (Jd l ps)):=by
 refine Ze (cR 146 f146) λF st i=>?_;refine gG ?_;refine cl (Ze3 l ps) ?_;refine rb i ?_;rfl
def JR(d s)(h:0<=Zm d s (I d.msgs)):Zc ZHP 196 [.agg d.cells,.str s] (.agg (d.msgs.getD (ixS d s) dE).cells):=by
 refine Ze (cR 196 f196) λF st i=>?_;have r:=WD h;generalize hm:d.msgs.getD (ixS d s) dE=m at *;have o:Zl (λx:Msg=>dC (x.name=s)) d.msgs=(ixS d s:Int):=by rw[<-r.1];unfold Zm;rw[ZIb]
 have t:max (ixS d s:Int) 0=ixS d s:=ω;refine rx @eQ2 ?_;refine rg ?_;refine cX (nd2 @o @t) (Zaq d s) ?_;refine xA (nd2 @atM (nd2 @hm @eQ3)) ?_;refine ro i ?_;rfl
def Zdf(l:List Fld):Nat->List (Str×Int)
 |0=>[]
 |i+1=>if (l.getD i dE).kind=2 then YY (l.getD i dE).name (l.getD i dE).low (Zdf l i) else Zdf l i
def Zd4(l:List Fld)(ps:List Val)(E:List (Str×Int)):Nat->List (Str×Int)
 |0=>E
 |i+1=>if Yy (l.getD i dE) then YY (l.getD i dE).name (ps.getD i dE).int (Zd4 l ps E i) else Zd4 l ps E i
def Zd3(m:Msg)(ps:List Val):List (Str×Int):=Zd4 (vfs m.fields) ps (Zdf m.fields (I m.fields)) (vfs m.fields).length
def Zkx(m)(hp:0<I m.fields)(hl:I m.fields<=1000)(ps)(hn:(vfs m.fields).length=I ps)(st):
  Zf ZHP 147 [.agg m.cells,Zu ps] st λr S=>∃b,st b=nO/\r=.ret (.map b)/\S=st.upd b (.map (KB (Zd3 m ps))):=by
 refine Zh (cR 147 f147) λF hF=>?_;have hvl:(vfs m.fields).length<=I m.fields:=List.length_filter_le ..;have ad:=Zgz m hp ω;have hM:=Zd3.eq_1 m ps;generalize vfs m.fields=vl at *;refine rx @eQ3 ?_;refine rg ?_;intro b hb;rw[show([]:List (D×D))=KB (Zdf m.fields 0) from rfl];refine rx @ZaI ?_;refine Zb (fr (I m.fields) (λi Q=>i<=I m.fields->Q [(1,.d (Zu ps)),(2,.loc 2 0),(5,.d (.map b)),(12,.d (Zp m.fields)),(13,.d (.i (I m.fields))),(14,.d (.i i))] [(2,[.str m.name,Zp m.fields])] (st.upd b (.map (KB (Zdf m.fields i))))) (λn u=>?_) λae=>?_);intro i hn2 hi;refine rg ?_;refine Zd (Zj rfl trivial (λh1=>?_) (λh1=>?_));simp at h1;have o:=Zdf.eq_2 m.fields i;generalize hf:m.fields.getD i dE=f at *;refine xA (nd2 @atF (nd2 @hf @eQ0)) ?_;refine rg ?_;refine cd (λh2=>?_) (λh2=>?_);rw[if_pos (by simpa using h2)]at o;have e2:=Zay (vD:=Y7) ZS f.name f.low (Zdf m.fields i);have e3:=Y8 ZS f.name;simp only[show K5 f.name=D.str f.name from rfl,show Y7 f.low=.i f.low from rfl]at e2 e3;refine xA (nd2 @ZHW (nd2 @ZH7 (nd2 @e2 @e3))) ?_;refine gA ?_;rw[<-o];refine Za ?_;exact u ((I m.fields)-(i+1)) ω (i+1) rfl ω;rw[if_neg (by simpa using h2)]at o;refine gA ?_;rw[<-o];refine Za ?_;exact u ((I m.fields)-(i+1)) ω (i+1) rfl ω;simp at h1;obtain rfl:i=I m.fields:=ω;generalize Zdf m.fields (I m.fields)=E0 at *;refine rg ?_;refine cX @ZaI (ad) ?_;refine Zb (fr (I vl) (λk Q=>k<=I vl->Q [(1,.d (Zu ps)),(5,.d (.map b)),(28,.d (Zp vl)),(29,.d (.i (I vl))),(30,.d (.i k))] [] (st.upd b (.map (KB (Zd4 vl ps E0 k))))) (λn t=>?_) λac=>?_);intro k hn3 hk;refine rg ?_;refine Zd (Zj rfl trivial (λh3=>?_) (λh3=>?_));simp at h3;have o:=Zd4.eq_2 vl ps E0 k;have ab:=YX (l:=ps) (i:=k) ω;generalize hf:vl.getD k dE=f at *;generalize hg:ps.getD k dE=g at *;refine xA (nd2 @atF (nd2 @hf (nd2 @QL @Zau))) ?_;refine rx (nd2 @QL @Zau) ?_;refine cl (ZfN f) ?_;refine cd (λh4=>?_) (λh4=>?_);rw[if_pos h4]at o;have e2:=Zay (vD:=Y7) ZS f.name g.int (Zd4 vl ps E0 k);have e3:=Y8 ZS f.name;simp only[show K5 f.name=D.str f.name from rfl,show Y7 g.int=.i g.int from rfl]at e2 e3;refine xA (nd2 @eQ0 (nd2 @atV (nd2 @ab (nd2 @ZHW (nd2 @ZH7 (nd2 @e2 @e3)))))) ?_;refine gA ?_;rw[<-o];refine Za ?_;exact t ((I vl)-(k+1)) ω (k+1) rfl ω;rw[if_neg (by simpa using h4)]at o;refine gA ?_;rw[<-o];refine Za ?_;exact t ((I vl)-(k+1)) ω (k+1) rfl ω;simp at h3;obtain rfl:k=I vl:=ω;rw[<-hM];refine rg ?_;exact hF.ret _ _ rfl φ (ZHT _) ZHU ⟨b,hb,rfl,rfl⟩;exact ac _ 0 rfl ω;exact ae _ 0 rfl ω
def ZoG(n):Zc ZHP 293 [.i n] (.bool (dC (0<=n)&&dC (n<34359738368))):=by
 refine Ze (cR 293 f293) λF st i=>?_;refine gG ?_;refine rb i ?_;rfl
def ckI(st:St)(b5 b6 b7 b8 b9 b:Nat):St :=
 ((((st.upd b5 (.cells [.str []])).upd b6 (.cells [.map b])).upd b7 (.cells [.fn (.func 293) [] []])).upd b8 (.cells [.i 0])).upd b9 (.cells [.bool false])
section
variable {st:St} {b5 b6 b7 b8 b9 b:Nat}
def WI.i5(h:WI st b5 b6 b7 b8 b9):(ckI st b5 b6 b7 b8 b9 b) b5=sO (.cells [.str []]):=by
 simp[ckI,St.upd,h.n6.1.symm,h.n7.2.1.symm,h.n8.2.2.1.symm,h.n9.2.2.2.1.symm]
def WI.i6(h:WI st b5 b6 b7 b8 b9):(ckI st b5 b6 b7 b8 b9 b) b6=sO (.cells [.map b]):=by
 simp[ckI,St.upd,h.n7.1.symm,h.n8.2.1.symm,h.n9.2.2.1.symm]
def WI.i7(h:WI st b5 b6 b7 b8 b9):(ckI st b5 b6 b7 b8 b9 b) b7=sO (.cells [.fn (.func 293) [] []]):=by
 simp[ckI,St.upd,h.n8.1.symm,h.n9.2.1.symm]
def WI.i8(h:WI st b5 b6 b7 b8 b9):(ckI st b5 b6 b7 b8 b9 b) b8=sO (.cells [.i 0]):=by
 simp[ckI,St.upd,h.n9.1.symm]
def WI.i9:(ckI st b5 b6 b7 b8 b9 b) b9=sO (.cells [.bool false]):=by
 simp[ckI,St.upd]
def WI.im(h:WI st b5 b6 b7 b8 b9){o}(i:st b=sO o):(ckI st b5 b6 b7 b8 b9 b) b=sO o:=by
 have r:b≠b5:=λe=>by rw[e,h.n5]at i;simp at i
 have t:b≠b6:=λe=>by rw[e,h.n6.2]at i;simp at i
 have u:b≠b7:=λe=>by rw[e,h.n7.2.2]at i;simp at i
 have h8:b≠b8:=λe=>by rw[e,h.n8.2.2.2]at i;simp at i
 have h9:b≠b9:=λe=>by rw[e,h.n9.2.2.2.2]at i;simp at i
 simp[ckI,St.upd,r,t,u,h8,h9,i]
def WI.isub(h:WI st b5 b6 b7 b8 b9):st.sub (ckI st b5 b6 b7 b8 b9 b):=λc o i=>by
 have r:c≠b5:=λe=>by rw[e,h.n5]at i;simp at i
 have t:c≠b6:=λe=>by rw[e,h.n6.2]at i;simp at i
 have u:c≠b7:=λe=>by rw[e,h.n7.2.2]at i;simp at i
 have h8:c≠b8:=λe=>by rw[e,h.n8.2.2.2]at i;simp at i
 have h9:c≠b9:=λe=>by rw[e,h.n9.2.2.2.2]at i;simp at i
 simp[ckI,St.upd,r,t,u,h8,h9,i]
def ZAf(h:WI st b5 b6 b7 b8 b9){H L}(hρ:Z9 H 8=sO (.d (.ptr b8 0)):=by rfl):
  YP H L (ckI st b5 b6 b7 b8 b9 b) [.cell1 8]=sO (True/\True,[.i 0]):=by
 simp[YP,K7,hρ,Kj,Yq,h.i8]
end
def Zm8(s)(hv:ZU s=true)(b l st)(hb:st b=sO (.map (KB l)))(hk:∀t∈s.terms,∃v,Zv t.field l=sO v/\0<=v/\v<34359738368):
  Zf ZHP 292 [.agg s.cells,.str [],.map b,.fn (.func 293) [] []] st (λr S=>r=.ret (.i 0)/\S=st):=by
 refine Zh (cR 292 f292) λF hF=>?_;refine rx @eQ7 ?_;refine rx @eQ7 ?_;refine cl (Zcm s) ?_;rw[hv];refine iG ?_;refine Zd (Zd ?_);refine xP 5 λb5 h5=>?_;refine xP 6 λb6 h6=>?_;refine xP 7 λb7 h7=>?_;refine xP 8 λb8 h8=>?_;refine xP 9 λb9 h9=>?_;refine rx @eQ7 ?_;refine cV (ZeD s hv) ?_ ?_;rintro d S ⟨x,hx,hd,rfl⟩;cases hd;refine gR0 ?_;refine Zb ?_;have i:WI st b5 b6 b7 b8 b9:=by have k6:=Zn h6;have k7:=Zn h7;have al:=Zn k7.2;have k8:=Zn h8;have af:=Zn k8.2;have am:=Zn af.2;have k9:=Zn h9;have ag:=Zn k9.2;have ah:=Zn ag.2;have an:=Zn ah.2;exact⟨h5,k6,⟨k7.1,al⟩,⟨k8.1,af.1,am⟩,⟨k9.1,ag.1,ah.1,an⟩⟩
 have hfew:=ZaQ hv;rw[show(((((st.upd b5 (.cells [.str []])).upd b6 (.cells [.map b])).upd b7 (.cells [.fn (.func 293) [] []])).upd b8 (.cells [.i 0])).upd b9 (.cells [.bool false]))=ckI st b5 b6 b7 b8 b9 b from rfl]at hx⊢;refine Qh hF rfl trivial [5,6,7,8,9] (by show([5,6,7,8,9]:List Nat).Nodup;decide) (Ko hx) (Zdn s.terms (by unfold big;omega) x).Y (λj hj=>rfl)
  (λj=>.next) (λj a=>a=ckI st b5 b6 b7 b8 b9 b) rfl ?_ ?_ ?_ ?_ ?_ ?_
 intro j a hj ab hB F' ready busy hdr ac ad;subst hB;simp only[Eqs,reduceCtorEq,ZHV,reduceIte,ZHR,ZHY,ZHS,KG,K0,J8,Qj,List.isEmpty_nil,List.isEmpty_cons];refine rg ?_;refine ac λai=>?_;have ak:(s.terms.getD j dE).field≠[]:=ZkM hv hj;obtain⟨v,hg,h0,h1⟩:=hk _ (Zr hj);generalize htm:s.terms.getD j dE=tm at *;have e1:=YR (vD:=Y7) ZS tm.field l;have e3:=Y8 ZS tm.field;simp only[show K5 tm.field=D.str tm.field from rfl]at e1 e3;rw[hg]at e1;have ae:(ckI st b5 b6 b7 b8 b9 b).upd b8 (.cells [.i 0])=ckI st b5 b6 b7 b8 b9 b:=St.upd_self i.i8;refine rh ?_;refine Zk ?_;simp only[Eqs,reduceCtorEq,ZHV,reduceIte,ZHR,ZHY,ZHS,Zt (i.i6 ),Zt (i.im hb),e1,e3];refine rh ?_;refine Zk ?_;simp only[Eqs,reduceCtorEq,ZHV,reduceIte,ZHR,ZHY,ZHS,Zt (i.i5 )];refine Zj rfl trivial (λh=>by simp at h;exact absurd h ak) (λ_=>?_);refine gI ?_;rw[show Y7 v=.i v from rfl];refine rh ?_;refine Zk ?_;simp only[Eqs,reduceCtorEq,ZHV,reduceIte,ZHR,ZHY,ZHS,Zt (i.i7 )];refine cl (ZoG v) ?_;refine Zj rfl trivial (λh=>by simp at h;omega) (λ_=>?_);refine Zo (Zi (Zi ?_));exact ad.fin ⟨rfl,rfl⟩ ai ZHU;intro q a ab hB hq;subst hB;rw[QD hq];have aj:=Ko (o:=JW.dfr) hq;have ae:(ckI st b5 b6 b7 b8 b9 b).upd b8 (.cells [.i 0])=ckI st b5 b6 b7 b8 b9 b:=St.upd_self i.i8;refine rh ?_;refine Zk ?_;simp only[Eqs,reduceCtorEq,ZHV,reduceIte,ZHR,ZHY,ZHS,Zt (WI.i9 )];refine i0 ?_;refine rh ?_;refine Zk ?_;simp only[Eqs,reduceCtorEq,ZHV,reduceIte,ZHR,ZHY,ZHS,Zt (i.i8 ),W5,ae];exact hF.ret1 (ZjD aj Yt) (.i 0) st (ZAf i) ⟨trivial,trivial⟩ (ZHT _) i.isub ⟨rfl,rfl⟩;intro q a m hm ab u;simp at u;intro q a m id hm ab u;simp at u;intro q a m d hm ab u;simp at u;intro m c u;simp at u;rintro d S ⟨x,hx,hd,rfl⟩;cases hd
def ZpN(t:YF){b z l st}(hb:st b=sO (.map (KB l)))(hz:st z=sO (.cells [.map b])):
  ZL ZHP 295 [.agg t.cells,.ptr z 0] st (.i ((Zv t.field l).getD 0)) st:=by
 refine ZE (cR 295 f295) λo F i=>?_;clear o;have r:=YR (vD:=Y7) ZS t.field l;have u:=Y8 ZS t.field;simp only[show K5 t.field=D.str t.field from rfl]at r u;refine rx @eQ8 ?_;refine rx (nd2 @hb (nd2 @hz (nd2 @r (nd2 @u @Zfc)))) ?_;exact i rfl φ (ZHT _) ZHU
def Za4(s:JX)(l:List (Str×Int)):Int:=s.base+QR (λt=>(Zv t.field l).getD 0) s.terms
def Zts(s)(hv:ZU s=true)(b l st)(u:st b=sO (.map (KB l)))(hk:∀t∈s.terms,∃v,Zv t.field l=sO v/\0<=v/\v<34359738368):
  Zf ZHP 241 [.agg s.cells,.map b] st (λr S=>r=.ret (.tup [.i (Za4 s l),.i 0])/\S=st):=by
 refine Zh (cR 241 f241) λF hF=>?_;have hE:=Za4.eq_1 s l;have i:∀t∈s.terms,0<=(Zv t.field l).getD 0/\(Zv t.field l).getD 0<34359738368:=λt ht=>by obtain⟨v,h1,h2,h3⟩:=hk t ht;rw[h1];exact⟨h2,h3⟩
 refine rx @eQ7 ?_;refine rx @eQ7 ?_;refine cV (Zm8 s hv b l st u hk) ?_ ?_;rintro d S ⟨hd,hS⟩;obtain rfl:=hS.symm;cases hd;refine gR0 ?_;refine gI ?_;refine Zo (Zd ?_);refine xP 3 λz hz=>?_;have o:b≠z:=λe=>by rw[e,hz]at u;simp at u
 refine rx @eQ7 ?_;refine ZaA rfl rfl rfl rfl rfl φ φ (by exact ZhI s hv (λt=>(Zv t.field l).getD 0) i (λt ht=>(ZpN t (by rw[ZH0 _ _ o];exact u) (ZHW _ _ _)).VT (first:=[]) (args:=[_]) (caps:=[_]))) (Zk ?_);simp only[Eqs,reduceCtorEq,ZHV,reduceIte,ZHR,ZHY,ZHS];exact hF.ret _ _ rfl φ (Zab (by rw[hE]) rfl) (ZIg _ hz) ⟨rfl,rfl⟩;rintro d S ⟨hd,_⟩;cases hd
def Ke(m:Msg)(d:Dfn)(path:Str)(b:Nat):List D:=[.str m.name,Zp m.fields,.str d.name,Z0 d.msgs,.str d.start,.str path,.map b]
def Za1(m d path)(f:Fld)(hv:ZU f.size=true)(b l st)(hb:st b=sO (.map (KB l)))(hk:∀t∈f.size.terms,∃v,Zv t.field l=sO v/\0<=v/\v<34359738368):
  Zf ZHP 191 [.agg (Ke m d path b),.agg f.cells] st (λr S=>r=.ret (.i (Za4 f.size l))/\S=st):=by
 refine Zh (cR 191 f191) λF hF=>?_;have u:=Zts f.size hv b l st hb hk;refine rx (nd2 @eQ0 @Ke.eq_1) ?_;refine rg ?_;refine cV (u) ?_ ?_;rintro o S ⟨i,hS⟩;obtain rfl:=hS.symm;cases i;refine gR0 ?_;refine rg ?_;exact hF.ret _ _ rfl φ (ZHT _) ZHU ⟨rfl,rfl⟩;rintro o S ⟨i,_⟩;cases i
def JB{v of}(hv:0<=v)(u:1<=of):(v<=upS v of/\upS v of<v+of)/\upS v of % of=0/\((v+of)-1).tdiv of<=upS v of/\0<=((v+of)-1).tdiv of:=by
 unfold upS;have e:((v+of)-1).tdiv of=(v+of-1) / of:=Int.tdiv_eq_ediv_of_nonneg ω;rw[e];have o:=Int.emod_add_mul_ediv (v+of-1) of;have h2:=Int.emod_nonneg (v+of-1) (show of≠0 by omega);have h3:=Int.emod_lt_of_pos (v+of-1) (show 0<of by omega);have i:0<=(v+of-1) / of:=Int.ediv_nonneg ω ω;have r:(v+of-1) / of<=(v+of-1) / of*of:=by have:=Int.mul_le_mul_of_nonneg_left u i;rwa [Int.mul_one]at this
 have t:(v+of-1) / of*of % of=0:=Int.mul_emod_left _ _;rw[Int.mul_comm]at o;generalize (v+of-1) / of*of=x at *;exact⟨ω,t,r,i⟩
def ZrU{v of}(t:0<=v/\v<=400000000)(r:1<=of/\of<=1000):Zc ZHP 152 [.i v,.i of] (.i (upS v of)):=by
 obtain⟨hb,_,hb2,hb3⟩:=JB t.1 r.1;have o:((v+of)-1).tdiv of*of=upS v of:=rfl;refine Ze (cR 152 f152) λF st i=>?_;refine gG ?_;generalize ((v+of)-1).tdiv of=q at *;rw[o];generalize upS v of=u at *;refine aa ?_;refine ri i ?_;rfl
def Zci(n:Int):Bool:=(dC (n=2) ||decide (n=4)) ||(dC (8<=n)&&dC (n<=512)&&dC (n.tmod 8=0))
def Zfi{n v}(r:Zci n=true)(hv:0<=v/\v<=335544320):Zc ZHP 112 [.i n,.i v] (.tup [.i (upS v n-v),.i 0]):=by
 have hb:1<=n/\n<=1000:=by unfold Zci at r;simp only[ZId,ZH1,decide_eq_true_eq]at r;omega
 have hU:=JB hv.1 hb.1;have o:=ZrU (v:=v) (of:=n) ⟨ω,ω⟩ hb;have t:=Zci.eq_1 n;have ht:n.tmod 8=n % 8:=Int.tmod_eq_emod_of_nonneg ω;rw[r]at t;refine Ze (cR 112 f112) λF st i=>?_;refine gG ?_;refine⟨λ_=>⟨by decide,by rw[ht];omega,by rw[ht];omega⟩,?_⟩;rw[<-t];refine rg ?_;have hd:(dC (v<0) ||decide (335544320<v))=false:=by simp;omega
 refine Zj rfl trivial (λh=>by simp at h;omega) (λ_=>?_);refine rg ?_;refine cl (o) ?_;generalize upS v n=u at *;refine aa ?_;refine rt i ?_;rfl
def ZrA:List D:=[.i 16,.i 0,.i 0,.i 0,.fn (.func 253) [] [],.fn (.func 254) [] [],.i 16,.i 65535,.i 0,.i 0,.fn (.func 255) [] [],.fn (.func 256) [] [],.i 32,.i 1,.i 0,.i 0,.fn (.func 257) [] [],.fn (.func 258) [] []]
def Zfp:Zc ZHP 209 [] (.agg ZrA):=by
 refine Ze (cR 209 f209) λF st i=>?_;refine gG ?_;exact i rfl φ (ZHT _) ZHU
def Wm(n:Int):Int:=if n=3 then 32 else 16
def Zy4{n}(h:n=1\/n=2\/n=3):∃a b c f g,part ZrA ((n-1).toNat*6) 6=[.i (Wm n),a,b,c,f,g]:=by
 rcases h with rfl|rfl|rfl<;>exact⟨_,_,_,_,_,rfl⟩
def ZlY{n}(h:n=1\/n=2\/n=3){a b c f g}(o:part ZrA ((n-1).toNat*6) 6=[.i (Wm n),a,b,c,f,g]):Zc ZHP 156 [.i n] (.tup [.agg [.i (Wm n),a,b,c,f,g],.bool true]):=by
 refine Ze (cR 156 f156) λF st i=>?_;unfold part at o;have r:ZrA.length=18:=rfl;refine gG ?_;refine cG (Zfp) ?_;refine Zj rfl trivial (λh=>by simp at h;omega) (λ_=>?_);refine rg ?_;refine cX (nd2 @o @r) (Zfp) ?_;refine aa ?_;refine rt i ?_;rfl
def ZqY{n}(h:n=1\/n=2\/n=3):Zc ZHP 247 [.i n] (.tup [.i (Wm n),.i 0]):=by
 obtain⟨a,b,c,f,g,r⟩:=Zy4 h;have o:=ZlY h r;refine Ze (cR 247 f247) λF st i=>?_;refine gG ?_;refine cl (o) ?_;refine rg ?_;refine iG ?_;refine rt i ?_;rfl
def Yc(v i:Nat):Nat:=v / 128 ^ i
def Qk(v i):Yc v (i+1)=Yc v i / 128:=by unfold Yc;rw[Nat.pow_succ,Nat.div_div_eq_div_mul]
def Zdd(v k:Nat):UInt8:=UInt8.ofNat (Yc v k % 128+128)
def Zd2(v k:Nat):UInt8:=UInt8.ofNat (Yc v k % 128)
def Zg0(v i:Nat):Str:=(ZH5 i).map (Zdd v)
def ZqC(v i):Zg0 v (i+1)=Zg0 v i++[Zdd v i]:=by unfold Zg0;rw[List.range_succ,List.map_append];rfl
def QN(v i):(Zg0 v i).length=i:=by simp[Zg0]
def YW(v i:Nat):Str:=Zg0 v i++[Zd2 v i]
def Z5(v:Nat):Nat:=if Yc v 0<128 then 0 else if Yc v 1<128 then 1 else if Yc v 2<128 then 2 else if Yc v 3<128 then 3 else 4
def Zk7{v}(hv:v<34359738368):Z5 v<=4/\(Yc v 0<128↔Z5 v<=0)/\(Yc v 1<128↔Z5 v<=1)/\(Yc v 2<128↔Z5 v<=2)/\(Yc v 3<128↔Z5 v<=3)/\Yc v 4<128:=by
 have e0:Yc v 0=v:=by simp[Yc]
 have e1:=Qk v 0;have e2:=Qk v 1;have e3:=Qk v 2;have e4:=Qk v 3;have o:=Z5.eq_1 v;generalize Z5 v=g at *;generalize Yc v 0=r at *;generalize Yc v 1=t at *;generalize Yc v 2=u at *;generalize Yc v 3=r3 at *;generalize hr4:Yc v 4=r4 at *;have i:g<=4/\(r<128↔g<=0)/\(t<128↔g<=1)/\(u<128↔g<=2)/\(r3<128↔g<=3)/\r4<128:=by
  repeat' (split at o)
  all_goals omega
 exact i
def ZmW{v}(hv:v<34359738368){i}(hi:i<5):Yc v i<128↔Z5 v<=i:=by
 obtain⟨h,o,r,t,u,h4⟩:=Zk7 hv;have h5:i=0\/i=1\/i=2\/i=3\/i=4:=ω;rcases h5 with rfl|rfl|rfl|rfl|rfl;exact o;exact r;exact t;exact u;exact⟨λ_=>h,λ_=>h4⟩
def ZlW(n):Zc ZHP 205 [.i n] (.bool (dC (0<=n)&&dC (n<34359738368))):=by
 refine Ze (cR 205 f205) λF st i=>?_;refine gG ?_;refine rb i ?_;rfl
def Zpw{a T:St}{tk k}(h:∀b,tk=.tip b->a b=nO):(a.or T).own tk k=a.or (T.own tk k):=by
 cases tk with
 |tip b=>exact ZhA (h b rfl)
 |_=>rfl
def ZoV{v}(st):Zf ZHP 149 [.i v] st λr S=>∃x,st x=nO/\r=.ret (.fn (.func 204) [] [.ptr x 0])/\S=st.or (ZIk x (.cells [.i v])):=by
 refine Zh (cR 149 f149) λF o=>?_;refine rg ?_;refine Zd ?_;refine xP 1 λx i=>?_;refine rg ?_;exact o.ret _ _ rfl φ (ZHT _) ZHU ⟨x,i,rfl,QD i⟩
def u8n{n}(h:n<256):(UInt8.ofNat n).toNat=n:=by rw[UInt8.toNat_ofNat'];omega
def ZcT{n}(h:0<=n/\n<=255):IntKind.u8.wrap n=n:=by
 unfold IntKind.wrap;simp[IntKind.bits,IntKind.signed];omega
def ZlV{v}(hv:v<34359738368)(x):Zdy ZHP (.fn (.func 204) [] [.ptr x 0]) (5-Z5 v) (λj=>[Zg (YW v (Z5 v+j))]) (ZIk x (.cells [.i v])):=by
 intro y go A a0 ak hA hd;obtain⟨hg4,-⟩:=Zk7 hv;refine Zf.V (first:=[]) (args:=[y]) (caps:=[.ptr x 0]) (Zh (cR 204 f204) λF hF=>?_);have hx:∀a T,Z7 a T->T x=sO (.cells [.i (v:Int)])->(a.or T) x=sO (.cells [.i (v:Int)]):=λa T a2 hT=>by rw[Zz (a2 x _ hT)];exact hT
 have af:(ZIk x (.cells [.i (v:Int)])) x=sO (.cells [.i (v:Int)]):=Yt;generalize hT:ZIk x (.cells [.i (v:Int)])=T at *;refine rg ?_;refine rh ?_;refine Zk ?_;simp only[Eqs,reduceCtorEq,ZHV,reduceIte,ZHR,ZHY,ZHS,hx a0 T hd af];rw[show(v:Int)=((Yc v 0:Nat):Int) by simp[Yc]];refine kl ((a0.or T)) [(0,.d y),(1,.d (.ptr x 0)),(3,.d (.sl .full 0 1 λ_=>[])),(4,.d (.i ((Yc v 0:Nat):Int)))] [] (.skip (.skip (.cons (.d (Z1 λb h=>by cases h)) Wx))) Y6 ?_;refine Zb (fr (5) (λi Q=>∀a tk row,Z7 a (T.own tk i)->tk.okIn (a.or T)->A (i-Z5 v) a->(∀j,j<i-Z5 v->go j=.next)->Zy byC row (Zg0 v i)->i<=5->Q [(0,.d y),(1,.d (.ptr x 0)),(3,.d (.sl tk i 1 row)),(4,.d (.i ((Yc v i:Nat):Int)))] [] (a.or (T.own tk i))) (λn ai=>?_) λba=>?_)
 .clear hA hd;intro i hn a tk row hd ad hA ab aj hi;have au:=Zpw (a:=a) (T:=T) (tk:=tk) (k:=i) (λb hb=>by subst hb;exact hd b (.tip i) (ZHW _ _ _));have a7:(T.own tk i) x=sO (.cells [.i (v:Int)]):=by
   cases tk with
   |tip b =>
    have hb:x≠b:=λe=>by have:=(Jz ad).2;rw[<-e,af]at this;simp at this
    show(T.upd b _) x=_;rw[ZH0 _ _ hb];exact af
   |full=>exact af
   |none=>exact af
  refine rh ?_;refine Zk ?_;simp only[Eqs,reduceCtorEq,ZHV,reduceIte,ZHR,ZHY,ZHS,hx a _ hd a7];refine cl (ZlW (v:Int)) ?_;refine cd (λh1=>?_) (λh1=>?_)
  .have ay:i<5:=by simp at h1;omega
   have hlt:i=5\/i<5:=ω;obtain⟨r,hr⟩:∃r:Nat,r=Yc v i:=⟨_,rfl⟩;have ac:((r:Nat):Int).tmod 128=((r % 128:Nat):Int):=by rw[Int.tmod_eq_emod_of_nonneg ω];omega
   have az:IntKind.u8.wrap (((r:Nat):Int).tmod 128)=((Zd2 v i).toNat:Int):=by rw[ac,ZcT ω];unfold Zd2;rw[<-hr,u8n ω]
   have a1:IntKind.u8.wrap (((r:Nat):Int).tmod 128+128)=((Zdd v i).toNat:Int):=by rw[ac,show((r % 128:Nat):Int)+128=((r % 128+128:Nat):Int) by omega,ZcT ω];unfold Zdd;rw[<-hr,u8n ω]
   rw[<-hr];refine rx @az ?_;refine⟨ω,ω,ω,by decide,by rw[ac];omega,by rw[ac];omega,?_⟩;refine Y2 ((a.or (T.own tk i))) (.full) rfl rfl rfl rfl rfl rfl φ φ rfl (by first|trivial|assumption) ω (by (unfold big;omega)) λt1 aw=>Zk ?_;simp only[Eqs,reduceCtorEq,ZHV,reduceIte,ZHR,ZHY,ZHS];have ao:Zy byC (Yd i (λi=>row i) (ZI [D.int IntKind.u8 0] ([0].zip [D.int IntKind.u8 ((Zd2 v i).toNat:Int)]))) (YW v i):=aj.snoc (x:=Zd2 v i) rfl (QN v i).symm;have a3:i+1=(YW v i).length:=by unfold YW;rw[ZHX,QN];rfl
   refine Ww (s':=a.or (T.own tk i)) (Yj aw) ?_;refine kl ((a.or (T.own tk i))) [(0,.d y),(1,.d (.ptr x 0)),(3,.d (.sl tk i 1 row)),(4,.d (.i (r:Int))),(5,.d (Zg (YW v i)))] [] (.skip (.skip (.skip (.skip (.cons (.d (ao.le a3)) Wx))))) Y6 ?_;clear aw;refine jU [1,0] (λQ=>∀a,Z7 a (T.own tk i)->tk.okIn (a.or T)->A (i+1-Z5 v) a->(∀j,j<i+1-Z5 v->go j=.next)->Q F [(0,.d y),(1,.d (.ptr x 0)),(3,.d (.sl tk i 1 row)),(4,.d (.i (r:Int))),(34,.d (.bool false))] [] (a.or (T.own tk i))) ?_ λfin=>?_
   .intro a hd ad hA ab;have a9:tk.okIn T:=by
     cases tk with
     |tip b=>exact(Jz ad).2
     |full=>trivial
     |none=>exact ad.elim
    have am:Z7 a T:=λc o hc=>hd c o (Yj a9 c o hc);have au:=Zpw (a:=a) (T:=T) (tk:=tk) (k:=i) (λb hb=>by subst hb;exact hd b (.tip i) (ZHW _ _ _));rw[<-au,show(a.or T).own tk i=(a.or T).own tk (i*1) by rw[Nat.mul_one]];refine rx @a1 ?_;refine⟨by decide,by rw[ac];omega,by rw[ac];omega,by rw[ac];omega,by rw[ac];omega,?_⟩;refine Y2 ((a.or T)) (tk) rfl rfl rfl rfl rfl rfl φ φ (by rw[Nat.mul_one]) ad ω (by (unfold big;omega)) λt2 ax=>Zk ?_;simp only[Eqs,reduceCtorEq,ZHV,reduceIte,ZHR,ZHY,ZHS];have ah:=aj.snoc (x:=Zdd v i) (row2:=ZI [D.int IntKind.u8 0] ([0].zip [D.int IntKind.u8 ((Zdd v i).toNat:Int)])) rfl (QN v i).symm;rw[<-ZqC]at ah;have aq:Z7 a (T.own t2 (i+1)):=by
     cases t2 with
     |tip b =>intro c o hc;by_cases ap:c=b;rw[ap];exact(Jz ax).1;rw[show(T.own (.tip b) (i+1)) c=T c from ZH0 _ _ ap]at hc;exact am c o hc
     |full=>exact am
     |none=>exact am
    have av:=Zpw (a:=a) (T:=T) (tk:=t2) (k:=i+1) (λb hb=>by subst hb;exact aq b (.tip (i+1)) (ZHW _ _ _));rw[Nat.mul_one,av];have a8:WL .i64 (r:Int) 7=((Yc v (i+1):Nat):Int):=by rw[Qk,<-hr];unfold WL;rw[show((2:Int) ^ (Nat.min (7:Int).toNat IntKind.i64.bits))=128 from rfl,Int.fdiv_eq_ediv_of_nonneg _ (by decide)];omega
    have hvb:Yc v (i+1)<=v:=by unfold Yc;exact Nat.div_le_self _ _
    refine rx @a8 ?_;refine⟨by decide,ω,ω,?_⟩;refine Za ?_;exact ai ((5)-(i+1)) ω (i+1) rfl a t2 _ aq ax hA ab ah ω
   have a4:=ZmW hv ay;rw[<-hr]at a4;by_cases hq:r<128
   .have an:dC ((r:Int)<128)=true:=by simpa using(show(r:Int)<128 by omega)
    have a5:i=Z5 v+(i-Z5 v):=ω;have ag:=(ak (i-Z5 v) ω ab a hA).frame hd;simp only[show Z5 v+(i-Z5 v)=i from a5.symm]at ag;refine rx @an ?_;refine vV (ag) ?_ ?_
    .rintro d S ⟨s',⟨t,ae⟩,al,rfl⟩;have ar:tk.okIn (s'.or T):=by
      cases tk with
      |tip b=>show(s'.or T) b=nO;rw[Zz (al b (.tip i) (ZHW _ _ _))];exact(Jz ad).2
      |full=>trivial
      |none=>exact ad.elim
     rw[show i-Z5 v+1=i+1-Z5 v by omega]at ae;cases u:go (i-Z5 v) with
     |next =>rw[u]at t;cases t;refine gR0 ?_;refine i0 ?_;refine Zo ?_;refine fin s' al ar ae λj hj=>?_;by_cases a6:j=i-Z5 v;rw[a6];exact u;exact ab j ω
     |stop c =>rw[u]at t;cases t;refine gR0 ?_;refine i1 ?_;exact hF.ret (.tup []) _ rfl trivial (ZHT _) ZHU ⟨s',.stop (i-Z5 v) c ω ab u (by rw[show i-Z5 v+1=i+1-Z5 v by omega];exact ae),KK⟩
     |pan d=>rw[u]at t;cases t
    rintro d S ⟨s',⟨t,ae⟩,al,rfl⟩;cases u:go (i-Z5 v) with
    |pan d' =>rw[u]at t;cases t;exact hF.pan _ ZHU ⟨s',.pan (i-Z5 v) d ω ab u ae,KK⟩
    |next=>rw[u]at t;cases t
    |stop c=>rw[u]at t;cases t
   have an:dC ((r:Int)<128)=false:=by simpa using(show ¬(r:Int)<128 by omega)
   refine rx @an ?_;refine Jv rfl (e:=.d (.bool false)) (Zk ?_);simp only[Eqs,reduceCtorEq,ZHV,reduceIte,ZHR,ZHY,ZHS];refine i0 ?_;refine Zo ?_;exact fin a hd ad (by rw[show i+1-Z5 v=i-Z5 v by omega];exact hA) (λj hj=>ab j ω)
  have h5:i=5:=by simp at h1;omega
  subst h5;refine ZG rfl ?_;exact hF.fin (.tup []) _ rfl trivial (ZHT _) ZHU ⟨a,.all ab hA,KK⟩
 exact ba _ 0 rfl a0 .full _ hd trivial (by rw[Nat.zero_sub];exact hA) (by intro j hj;omega) Zy.nil ω
def apV(st:St)(b2 b4 b5:Nat)(d:D):St:=((st.upd b2 (.cells [.nilsl])).upd b4 (.cells [d])).upd b5 (.cells [.i 0])
def Zf1{v:Nat}(hv:v<34359738368)(st):Zf ZHP 108 [.nilsl,.i v] st λr S=>r=.ret (.tup [Zg (YW v (Z5 v)),.i 0])/\S=st:=by
 refine Zh (cR 108 f108) λF hF=>?_;obtain⟨hg4,-⟩:=Zk7 hv;have ag:(YW v (Z5 v)).length=Z5 v+1:=by unfold YW;rw[ZHX,QN];rfl
 refine rg ?_;refine Zd (Zd ?_);refine xP 2 λb2 h2=>?_;refine xP 4 λb4 h4=>?_;refine xP 5 λb5 h5=>?_;refine rg ?_;refine cV (ZoV (v:=(v:Int)) _) ?_ ?_;rintro d S ⟨x,hx,hd,rfl⟩;cases hd;refine gR0 ?_;refine Zb ?_;have k4:=Zn h4;have k5:=Zn h5;have al:=Zn k5.2;rw[show((st.upd b2 (.cells [.nilsl])).upd b4 (.cells [.nilsl])).upd b5 (.cells [.i 0])=apV st b2 b4 b5 .nilsl from rfl]at hx⊢;have g2:∀d,(apV st b2 b4 b5 d) b2=sO (.cells [.nilsl]):=λd=>by unfold apV;rw[ZH0 _ _ al.1.symm,ZH0 _ _ k4.1.symm,ZHW]
 have g4:∀d,(apV st b2 b4 b5 d) b4=sO (.cells [d]):=λd=>by unfold apV;rw[ZH0 _ _ k5.1.symm,ZHW]
 have g5:∀d,(apV st b2 b4 b5 d) b5=sO (.cells [.i 0]):=λd=>by unfold apV;rw[ZHW]
 have u4:∀d d',(apV st b2 b4 b5 d).upd b4 (.cells [d'])=apV st b2 b4 b5 d':=λd d'=>by unfold apV;rw[St.upd_comm _ _ k5.1.symm,ZH7]
 have u5:∀d,(apV st b2 b4 b5 d).upd b5 (.cells [.i 0])=apV st b2 b4 b5 d:=λd=>by unfold apV;rw[ZH7]
 have sb:∀d,st.sub (apV st b2 b4 b5 d):=λd=>by unfold apV;exact ZIu (ZIu (ZIg _ h2) (ZIg _ h4)) (ZIg _ (by rw[ZH0 _ _ k5.1];exact k5.2))
 refine Qh hF rfl trivial [2,4,5] (by show([2,4,5]:List Nat).Nodup;decide) (Ko hx) (ZlV hv x).Y (λj hj=>rfl)
  (λj=>.stop .ret) (λj a=>(j=0/\a=apV st b2 b4 b5 .nilsl)\/(0<j/\a=apV st b2 b4 b5 (Zg (YW v (Z5 v))))) (.inl ⟨rfl,rfl⟩) ?_ ?_ ?_ ?_ ?_ ?_
 intro j a hj ab hB F' ready t hdr ad af;have ak:j=0:=by refine Nat.eq_zero_of_not_pos λh=>?_;have:=ab 0 h;simp at this
 subst ak;rcases hB with ⟨_,rfl⟩|⟨h,_⟩
 skip
 simp only[Eqs,reduceCtorEq,ZHV,reduceIte,ZHR,ZHY,ZHS,KG,K0,J8,Qj,List.isEmpty_nil,List.isEmpty_cons];refine rg ?_;refine ad λaj=>?_;have ae:Z7 (apV st b2 b4 b5 (Zg (YW v (Z5 v)))) t:=λc o hc=>by have h1:=aj c o hc;unfold apV at h1⊢;have a1:=Zn h1;have a2:=Zn a1.2;rw[ZH0 _ _ a1.1,ZH0 _ _ a2.1];exact a2.2
 refine rh ?_;refine Zk ?_;simp only[Eqs,reduceCtorEq,ZHV,reduceIte,ZHR,ZHY,ZHS,Zt (g2 _)];refine Y2 (((apV st b2 b4 b5 .nilsl).or t)) (.full) rfl rfl rfl rfl rfl rfl φ φ rfl (by first|trivial|assumption) (by (rw[ag];omega)) (by (rw[ag];unfold big;omega)) λt1 ac=>Zk ?_;simp only[Eqs,reduceCtorEq,ZHV,reduceIte,ZHR,ZHY,ZHS,Zlc ac (Zt (g4 _)),Zlc ac (Zt (g5 _)),ZH0 _ _ k5.1];have ah:Zy u8C (Yd 0 (λ_=>[]) λi=>u8C (ZH6 (YW v (Z5 v)) i dE)) ([]++YW v (Z5 v)):=Zy.nil.app Zy.self rfl;have ai:((apV st b2 b4 b5 (Zg (YW v (Z5 v)))).or t).sub (((((((apV st b2 b4 b5 .nilsl).or t).own t1 (List.length (YW v (Z5 v))*1)).upd b4 (.cells [.sl t1 (List.length (YW v (Z5 v))) 1 (Yd 0 (λ_=>[]) λi=>u8C (ZH6 (YW v (Z5 v)) i dE))])).upd b5 (.cells [.i 0])).upd b4 (.cells [Zg (YW v (Z5 v))]))):=λc o hc=>by
  by_cases c4:c=b4;subst c4;rw[ZHW];rw[Zt (g4 _)]at hc;exact hc;rw[ZH0 _ _ c4];by_cases c5:c=b5;subst c5;rw[ZHW];rw[Zt (g5 _)]at hc;exact hc;rw[ZH0 _ _ c5,ZH0 _ _ c4];refine Zlc ac ?_;have he:(apV st b2 b4 b5 (Zg (YW v (Z5 v)))) c=(apV st b2 b4 b5 .nilsl) c:=by unfold apV;rw[ZH0 _ _ c5,ZH0 _ _ c4,ZH0 _ _ c5,ZH0 _ _ c4]
  unfold St.or at hc⊢;rw[he]at hc;exact hc
 refine Q3 (b:=b4) (by rw[ZH0 _ _ k5.1.symm,ZHW]) (.cons (ah.le ψ) .nil) ?_;refine Ww (s':=(apV st b2 b4 b5 (Zg (YW v (Z5 v)))).or t) ai ?_;exact af.ret ⟨rfl,.inr ⟨ω,rfl⟩⟩ ae ZHU;omega;intro q a ab hB hq;have:=ab 0 ω;simp at this;intro q a m hm ab u hB hq;rcases hB with ⟨h,_⟩|⟨_,rfl⟩;omega;rw[QD hq];exact hF.ret1 hq (.tup [Zg (YW v (Z5 v)),.i 0]) st (ds:=[Zg (YW v (Z5 v)),.i 0]) (p:=True/\True/\True) (by simp[YP,K7,Z9,Kj,Yq,g4,g5]) ⟨trivial,trivial,trivial⟩ (ZHT _) (sb _) ⟨rfl,rfl⟩;intro q a m id hm ab u;simp at u;intro q a m d hm ab u;simp at u;intro m c u;simp at u;exact .inl u.symm;rintro d S ⟨x,hx,hd,rfl⟩;cases hd
def Zrv{v:Nat}(u:v<34359738368):Zc ZHP 248 [.i v] (.tup [.i ((Z5 v:Int)+1),.i 0]):=by
 refine Ze (cR 248 f248) λF st i=>?_;have o:(YW v (Z5 v)).length=Z5 v+1:=by unfold YW;rw[ZHX,QN];rfl
 refine gG ?_;refine cV (Zf1 u _) ?_ ?_;rintro d S ⟨r,t⟩;obtain rfl:=t.symm;cases r;refine gR0 ?_;refine rx @Wc ?_;refine rt i ?_;rw[o];rfl;rintro d S ⟨r,_⟩;cases r
end Go.DL
