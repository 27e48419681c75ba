import Derived.Test.YtdicfgideclbdaaGreatDoorPk11
import Derived.Test.YtdicfgideclbdaaGreatDoorPk40
set_option maxHeartbeats 64000000
set_option linter.all false
namespace Go.Proofs.YtdicfgideclbdaaGreatDoor
open Go Go.TL
attribute [local irreducible] TR TO Then zal RetK Sound zab Kf GG zaR
variable {A B x:Str}{Ka Kb L:List Tk}{c:Int}{es:List En}{d:Decl}{l:List Decl}{q:Equ}{sts:List Sta}{g:Auto->List Tk}{P:Auto->Prop}{e:Ex}{p:Prog}{most:Nat}{α:Type}{o:OnC}{bd:Nat->PR (List Equ×List Auto)}{R:Rd}
abbrev ztw:Tk:=(4,[58])
abbrev tBar:Tk:=(4,[124])
abbrev tEqS:Tk:=(4,[61])
abbrev tVar:Tk:=(3,[118,97,114])
abbrev ztx:Tk:=(3,[110,111,100,101])
abbrev tRet:Tk:=(3,[114,101,116,117,114,110,115])
abbrev tLet:Tk:=(3,[108,101,116])
abbrev tTel:Tk:=(3,[116,101,108])
abbrev zty:Tk:=(3,[116,121,112,101])
abbrev tAss:Tk:=(3,[97,115,115,117,109,101])
abbrev tEns:Tk:=(3,[101,110,115,117,114,101])
abbrev tAut:Tk:=(3,[97,117,116,111,109,97,116,111,110])
abbrev tSta:Tk:=(3,[115,116,97,116,101])
abbrev tUnl:Tk:=(3,[117,110,108,101,115,115])
abbrev tUnt:Tk:=(3,[117,110,116,105,108])
abbrev tDo:Tk:=(3,[100,111])
abbrev zmC:Tk:=(3,[100,111,110,101])
abbrev tEnd:Tk:=(3,[101,110,100])
def tkTy(es:List En)(t:Int):Tk:=if t=1 then(3,[98,111,111,108]) else if t=2 then(3,[105,110,116]) else(1,(zaM es t).1.name)
def tkSm(es:List En)(o:OnC):List Tk:=[zkN,tgTk es o.t.1 o.tag.1,tL,(1,o.name),tR]
def tkDc(es:List En)(d:Decl):List Tk:=(1,d.name)::ztw::tkTy es d.ty.1::(d.clock.map (tkSm es)).flatten
def tkJ(t:Tk):List (List Tk)->List Tk
 | []=>[]
 | x::l=>x++(l.map fun y=>t::y).flatten
def tkDs(es:List En)(l:List Decl):List Tk:=tkJ zck (l.map (tkDc es))
def tkLc(es:List En)(l:List Decl):List Tk:=if 0<l.length then tVar::(tkDs es l++[zck]) else[]
def tkNm(t:Tk)(l:List Str):List Tk:=tkJ t (l.map fun s=>[(1,s)])
def tkLf(l:List Str):List Tk:=if 1<l.length then tL::(tkNm zg2 l++[tR]) else tkNm zg2 l
def tkQ(es:List En)(q:Equ):List Tk:=tkLf q.left++tEqS::(tkF es 400 q.right++[zck])
def tkTr(es:List En)(w:Tk)(sts:List Sta)(q:Tran):List Tk:=w::(tkF es 400 q.cond++[if q.resume=true then zn7 else ziD,(1,((sts[q.to.1.toNat]?).map Sta.name).getD []),zck])
def flT{α:Type}(g:α->List Tk)(l:List α):List Tk:=(l.map g).flatten
def tkSt(es:List En)(f:Auto->List Tk)(sts:List Sta)(s:Sta):List Tk:=
 tSta::(1,s.name)::(tkLc es s.locals++flT (tkTr es tUnl sts) s.unl++tDo::(flT (tkQ es) s.eqs++flT f s.autos++flT (tkTr es tUnt sts) s.unt++[zmC]))
def tkAu(es:List En):Nat->Auto->List Tk
 | 0,_=>[]
 | m+1,a=>tAut::(flT (tkSt es (tkAu es m) a.states) a.states++[tEnd])
def tkCl(es:List En)(w:Tk)(e:Ex):List Tk:=w::(tkF es 400 e++[zck])
def tkNo(es:List En)(n:Nod):List Tk:=
 ztx::(1,n.name)::tL::(tkDs es n.ins++tR::tRet::tL::(tkDs es n.outs++tR::(tkLc es n.locals++flT (tkCl es tAss) n.assume++flT (tkCl es tEns) n.ensure++tLet::(flT (tkQ es) n.eqs++flT (tkAu es 3) n.autos++[tTel]))))
def tkEn(u:En):List Tk:=zty::(1,u.name)::tEqS::(tkNm tBar u.tags++[zck])
def tkPr(p:Prog):List Tk:=flT tkEn p.enums++flT (tkNo p.enums) p.nodes
def LxL(T:Str)(Ks:List Tk):Prop:=∀R K,Lx R K->Lx (T++R) (Ks++K)
theorem LxL.emp:LxL [] []:=fun R K h=>h
theorem LxL.app(hA:LxL A Ka)(hB:LxL B Kb):LxL (A++B) (Ka++Kb):=fun R K h=>by
 rw[qay,qay];exact hA _ _ (hB _ _ h)
theorem LxL.flat{α:Type}{g:α->Str}{h:α->List Tk}:∀ {l:List α},(∀x∈l,LxL (g x) (h x))->LxL (zak g l) (flT h l)
 | [],_=>.emp
 | x::l,hx=>(hx x qah).app (LxL.flat fun y hy=>hx y (qaj _ hy))
theorem zmh{R:Str}{K:List Tk}(h:Lx R K):∀n,Lx (Go.Lib.repeatL [32,32] n++R) K
 | 0=>h
 | n+1=>by
   rw[show Go.Lib.repeatL ([32,32]:Str) (n+1)=[32,32]++Go.Lib.repeatL [32,32] n from rfl,qay];exact Lx.blank oB (Lx.blank oB (zmh h n))
theorem LxP.line(h:LxP A Ka)(lv:Nat):LxL (za1 lv A) Ka:=fun R K hR=>by
 unfold za1;rw[qay,qay];exact zmh (h _ _ (.cons oB) (Lx.blank oB hR)) lv
theorem LxP.semi(h:LxP A Ka):LxP (A++[59]) (Ka++[zck]):=h.app (zcE oB) ⟨59,[],rfl,oB⟩
theorem LxP.sgn{c:UInt8}(hA:LxP A Ka)(hB:LxP B Kb)(hc:c∈sepL)(hs:[c]∈zcj)(h4:c≠45/\c≠60/\c≠62):LxP (A++c::32::B) (Ka++(4,[c])::Kb):=
 hA.app (LxP.sym (x:=[c]) hs (fun R _ c' r e=>⟨fun h=>oI h oB,fun h=>oI h oB,fun _=>⟨fun h=>oI (qcU h).1 h4.1,fun h=>h.elim (fun h=>oI (qcU h).1 h4.2.1) fun h=>oI (qcU h).1 h4.2.2⟩⟩) (hB.blank oB)) ⟨c,_,rfl,hc⟩
structure SepW (sep:Str) (ts:List Tk):Prop where
 lx:∀A K,LxP A K->LxP (sep++A) (ts++K)
 hd:∃c r,sep=c::r/\c∈sepL
theorem zys:SepW [59,32] [zck]:=⟨fun A K h=>LxP.sym (x:=[59]) oB (fun R _ c' r e=>⟨fun h=>oI h oB,fun h=>oI h oB,fun _=>⟨fun h=>oI h oB,fun h=>oI h oB⟩⟩) (h.blank oB),⟨59,_,rfl,oB⟩⟩
theorem zpx:SepW [44,32] [zg2]:=⟨fun A K h=>LxP.sym (x:=[44]) oB (fun R _ c' r e=>⟨fun h=>oI h oB,fun h=>oI h oB,fun _=>⟨fun h=>oI h oB,fun h=>oI h oB⟩⟩) (h.blank oB),⟨44,_,rfl,oB⟩⟩
theorem zAa:SepW [32,124,32] [tBar]:=⟨fun A K h=>LxP.blank oB (LxP.sym (x:=[124]) oB (fun R _ c' r e=>⟨fun h=>oI h oB,fun h=>oI h oB,fun _=>⟨fun h=>oI h oB,fun h=>oI h oB⟩⟩) (h.blank oB)),⟨32,_,rfl,oB⟩⟩
theorem zBt:SepW [32] []:=⟨fun A K h=>h.blank oB,⟨32,_,rfl,oB⟩⟩
def jT(ts:List Tk):List (List Tk)->List Tk
 | []=>[]
 | x::l=>x++(l.map (ts++ ·)).flatten
theorem zv2(t:Tk)(l:List (List Tk)):jT [t] l=tkJ t l:=by cases l <;> rfl
theorem zzp(l:List (List Tk)):jT [] l=l.flatten:=by
 cases l with
 | nil=>rfl
 | cons x l=>show x++(l.map ([]++ ·)).flatten=_;simp
section
variable {α:Type}{f:α->Str}{g:α->List Tk}{sep:Str}{ts:List Tk}
theorem zo1(hs:SepW sep ts):∀(l:List α),(∀x∈l,LxP (f x) (g x))->LxP (Go.Lib.joinTail sep (l.map f)) ((l.map fun y=>ts++g y).flatten)/\(l≠ []->∃c r,Go.Lib.joinTail sep (l.map f)=c::r/\c∈sepL)
 | [],_=>⟨LxP.emp,fun h=>oI rfl h⟩
 | y::l,h=>by
   obtain⟨h2,h3⟩:=zo1 hs l fun z hz=>h z (qaj _ hz)
   have h1:=h y qah;have e:Go.Lib.joinTail sep ((y::l).map f)=sep++(f y++Go.Lib.joinTail sep (l.map f)):=by simp[Go.Lib.joinTail]
   obtain⟨c,r,hc,hm⟩:=hs.hd;refine⟨?_,fun _=>⟨c,r++(f y++Go.Lib.joinTail sep (l.map f)),by rw[e,hc];rfl,hm⟩⟩;rw[e,qaf,qaK,qay];refine hs.lx _ _ ?_;cases l with
   | nil=>
     show LxP (f y++[]) (g y++[]);rw[qaz,qaz];exact h1
   | cons z l=>exact h1.app h2 (h3 oC)
theorem zkl(hs:SepW sep ts)(l:List α)(h:∀x∈l,LxP (f x) (g x)):LxP (Go.Lib.join (l.map f) sep) (jT ts (l.map g)):=by
 cases l with
 | nil=>exact LxP.emp
 | cons x l=>
   obtain⟨h2,h3⟩:=zo1 hs l fun z hz=>h z (qaj _ hz)
   have h1:=h x qah;rw[qaf,Go.Lib.join_cons,qaf,jT,qa7];cases l with
   | nil=>
     show LxP (f x++[]) (g x++[]);rw[qaz,qaz];exact h1
   | cons z l=>exact h1.app h2 (h3 oC)
end
theorem kwT(h:∃c w,x=c::w/\letter c.toNat=true/\(∀d∈x,inner d.toNat=true)/\zcy x=(3,x,0)):LxP x [(3,x)]:=zbX h
structure DcL (es:List En) (d:Decl):Prop where
 nm:zb0 1 d.name
 ty:d.ty.1=1\/d.ty.1=2\/zb0 1 (zaM es d.ty.1).1.name
 ck:∀o∈d.clock,LxP (valS es o.t.1 o.tag.1) [tgTk es o.t.1 o.tag.1]/\zb0 1 o.name
theorem zBy{t:Int}(h:t=1\/t=2\/zb0 1 (zaM es t).1.name):LxP (zdj es t).1 [tkTy es t]:=by
 unfold zdj tkTy;by_cases h1:t=1
 ·rw[oG h1,oG h1];exact kwT ⟨_,_,rfl,oB,oB,oB⟩
 rw[oH h1,oH h1];by_cases h2:t=2
 ·rw[oG h2,oG h2];exact kwT ⟨_,_,rfl,oB,oB,oB⟩
 rw[oH h2,oH h2];rcases h with h|h|h
 ·exact oI h h1
 ·exact oI h h2
 ·exact LxP.nam oB h
theorem zAK(h:DcL es d):LxP (zb9 es d) (tkDc es d):=by
 have h1:LxP (d.name++[58,32]++(zdj es d.ty.1).1) [(1,d.name),ztw,tkTy es d.ty.1]:=by
  rw[qay];exact(LxP.nam oB h.nm).sgn (zBy h.ty) oB oB oB
 unfold zb9 tkDc;by_cases hc:0<d.clock.length
 ·rw[oG hc];have h2:=zkl zBt (f:=smpS es) (g:=tkSm es) d.clock fun o ho=>zwS (h.ck o ho).1 (h.ck o ho).2
  rw[zzp]at h2;exact h1.thn h2
 ·rw[oH hc]
  have:d.clock=[]:=qaF oA
  rw[this];exact h1
theorem zrG(h:∀d∈l,DcL es d):LxP (zca es l) (tkDs es l):=by
 have h2:=zkl zys (f:=zb9 es) (g:=tkDc es) l fun d hd=>zAK (h d hd)
 rw[zv2]at h2;exact h2
theorem zA5:LxP [118,97,114] [tVar]:=kwT ⟨_,_,rfl,oB,oB,oB⟩
theorem zv8(lv:Nat)(h:∀d∈l,DcL es d):LxL (zbY es lv l) (tkLc es l):=by
 unfold zbY tkLc;by_cases hl:0<l.length
 ·rw[oG hl,oG hl]
  have:=(zA5.cnc (zrG h).semi).line lv
  rw[qay];exact this
 ·rw[oH hl,oH hl];exact .emp
theorem zsB{sep:Str}{t:Tk}(hs:SepW sep [t]){l:List Str}(h:∀s∈l,zb0 1 s):LxP (Go.Lib.join l sep) (tkNm t l):=by
 have h2:=zkl hs (f:=fun s:Str=>s) (g:=fun s=>[(1,s)]) l fun s hs=>LxP.nam oB (h s hs)
 rw[zv2,List.map_id']at h2;exact h2
theorem zzG{l:List Str}(h:∀s∈l,zb0 1 s):LxP (lhsS l) (tkLf l):=by
 unfold lhsS tkLf;split
 ·have:=LxP.brk (zsB zpx h)
  rw[qay];exact this
 ·exact zsB zpx h
theorem kwEq:LxP [61] [tEqS]:=zcE oB
theorem zvV(lv:Nat)(h1:∀s∈q.left,zb0 1 s)(h2:LxP (shF es 400 q.right) (tkF es 400 q.right)):LxL (zcm es lv q) (tkQ es q):=by
 have h:=((zzG h1).thn ((kwEq.cnc h2).semi)).line lv;unfold zcm tkQ;simpa using h
theorem zzw:LxP [99,111,110,116,105,110,117,101] [zn7]:=kwT ⟨_,_,rfl,oB,oB,oB⟩
theorem ztL{w:Str}{q:Tran}(lv:Nat)(hw:LxP w [(3,w)])(h2:LxP (shF es 400 q.cond) (tkF es 400 q.cond))(h3:zb0 1 (((sts[q.to.1.toNat]?).map Sta.name).getD [])):LxL (zcY es lv w sts q) (tkTr es (3,w) sts q):=by
 unfold zcY tkTr kwS;cases q.resume with
 | true=>
   have h:=(hw.cnc (h2.thn (zzw.cnc (LxP.nam (k:=1) oB h3).semi))).line lv;simpa using h
 | false=>
   have h:=(hw.cnc (h2.thn (zv3.cnc (LxP.nam (k:=1) oB h3).semi))).line lv;simpa using h
structure EqL (es:List En) (q:Equ):Prop where
 left:∀s∈q.left,zb0 1 s
 right:LxP (shF es 400 q.right) (tkF es 400 q.right)
structure TrL (es:List En) (sts:List Sta) (q:Tran):Prop where
 cond:LxP (shF es 400 q.cond) (tkF es 400 q.cond)
 tg:zb0 1 (((sts[q.to.1.toNat]?).map Sta.name).getD [])
structure StL (es:List En) (P:Auto->Prop) (sts:List Sta) (s:Sta):Prop where
 nm:zb0 1 s.name
 lc:∀d∈s.locals,DcL es d
 ul:∀q∈s.unl,TrL es sts q
 eq:∀q∈s.eqs,EqL es q
 au:∀a∈s.autos,P a
 ut:∀q∈s.unt,TrL es sts q
def AuL(es:List En):Nat->Auto->Prop
 | 0,_=>True
 | m+1,a=>∀s∈a.states,StL es (AuL es m) a.states s
structure NoL (es:List En) (n:Nod):Prop where
 nm:zb0 1 n.name
 ins:∀d∈n.ins,DcL es d
 outs:∀d∈n.outs,DcL es d
 lc:∀d∈n.locals,DcL es d
 asm:∀e∈n.assume,LxP (shF es 400 e) (tkF es 400 e)
 en:∀e∈n.ensure,LxP (shF es 400 e) (tkF es 400 e)
 eq:∀q∈n.eqs,EqL es q
 au:∀a∈n.autos,AuL es 3 a
structure EnL (u:En):Prop where
 nm:zb0 1 u.name
 tags:∀s∈u.tags,zb0 1 s
theorem zA1:LxP [115,116,97,116,101] [tSta]:=kwT ⟨_,_,rfl,oB,oB,oB⟩
theorem zA3:LxP [117,110,108,101,115,115] [tUnl]:=kwT ⟨_,_,rfl,oB,oB,oB⟩
theorem zA4:LxP [117,110,116,105,108] [tUnt]:=kwT ⟨_,_,rfl,oB,oB,oB⟩
theorem kwDo:LxP [100,111] [tDo]:=kwT ⟨_,_,rfl,oB,oB,oB⟩
theorem zzx:LxP [100,111,110,101] [zmC]:=kwT ⟨_,_,rfl,oB,oB,oB⟩
theorem zAT:LxP [97,117,116,111,109,97,116,111,110] [tAut]:=kwT ⟨_,_,rfl,oB,oB,oB⟩
theorem zAU:LxP [101,110,100] [tEnd]:=kwT ⟨_,_,rfl,oB,oB,oB⟩
theorem zAS:LxP [97,115,115,117,109,101] [tAss]:=kwT ⟨_,_,rfl,oB,oB,oB⟩
theorem zAV:LxP [101,110,115,117,114,101] [tEns]:=kwT ⟨_,_,rfl,oB,oB,oB⟩
theorem zAX:LxP [108,101,116] [tLet]:=kwT ⟨_,_,rfl,oB,oB,oB⟩
theorem zA2:LxP [116,101,108] [tTel]:=kwT ⟨_,_,rfl,oB,oB,oB⟩
theorem zzz:LxP [110,111,100,101] [ztx]:=kwT ⟨_,_,rfl,oB,oB,oB⟩
theorem zA0:LxP [114,101,116,117,114,110,115] [tRet]:=kwT ⟨_,_,rfl,oB,oB,oB⟩
theorem zzA:LxP [116,121,112,101] [zty]:=kwT ⟨_,_,rfl,oB,oB,oB⟩
theorem zAi{f:Nat->Auto->Str}(hf:∀lv a,P a->LxL (f lv a) (g a))(lv:Nat){s:Sta}(h:StL es P sts s):LxL (staS es f lv sts s) (tkSt es g sts s):=by
 have h1:=(zA1.cnc (LxP.nam (k:=1) oB h.nm)).line (lv+1);have h2:=zv8 (lv+2) h.lc;have h3:LxL (zak (zcY es (lv+2) [117,110,108,101,115,115] sts) s.unl) (flT (tkTr es tUnl sts) s.unl):=LxL.flat fun q hq=>ztL _ zA3 (h.ul q hq).cond (h.ul q hq).tg
 have h4:=kwDo.line (lv+1);have h5:LxL (zak (zcm es (lv+2)) s.eqs) (flT (tkQ es) s.eqs):=LxL.flat fun q hq=>zvV _ (h.eq q hq).left (h.eq q hq).right
 have h6:LxL (zak (f (lv+2)) s.autos) (flT g s.autos):=LxL.flat fun a ha=>hf _ a (h.au a ha)
 have h7:LxL (zak (zcY es (lv+2) [117,110,116,105,108] sts) s.unt) (flT (tkTr es tUnt sts) s.unt):=LxL.flat fun q hq=>ztL _ zA4 (h.ut q hq).cond (h.ut q hq).tg
 have h8:=zzx.line (lv+1)
 have:=(((((((h1.app h2).app h3).app h4).app h5).app h6).app h7).app h8)
 unfold staS tkSt;simpa using this
theorem zri{es:List En}:∀(m lv:Nat) (a:Auto),AuL es m a->LxL (zaU es m lv a) (tkAu es m a)
 | 0,_,_,_=>.emp
 | m+1,lv,a,h=>by
   have h1:LxL (zak (staS es (zaU es m) lv a.states) a.states) (flT (tkSt es (tkAu es m) a.states) a.states):=LxL.flat fun s hs=>zAi (fun lv b hb=>zri m lv b hb) lv (h s hs)
   have:=((zAT.line lv).app h1).app (zAU.line lv)
   unfold zaU tkAu;simpa using this
theorem zoE{w:Str}(hw:LxP w [(3,w)])(h:LxP (shF es 400 e) (tkF es 400 e)):LxL (zaH es w e) (tkCl es (3,w) e):=by
 have:=(hw.cnc h.semi).line 1
 unfold zaH tkCl;simpa using this
theorem zzd(h:∀d∈l,DcL es d)(hA:LxP A Ka)(hh:∃c r,A=c::r/\c∈sepL):LxP (40::(zca es l++41::A)) (tL::(tkDs es l++tR::Ka)):=((zrG h).app hA.cl ⟨41,_,rfl,oB⟩).br
theorem zxK{n:Nod}(h:NoL es n):LxL (zha es n) (ztx::(1,n.name)::tL::(tkDs es n.ins++tR::tRet::tL::(tkDs es n.outs++[tR]))):=by
 have h0:LxP (40::(zca es n.outs++41::[])) (tL::(tkDs es n.outs++tR::[])):=((zrG h.outs).app LxP.emp.cl ⟨41,_,rfl,oB⟩).br;have h2:LxP (32::([114,101,116,117,114,110,115]++32::(40::(zca es n.outs++41::[])))) (tRet::(tL::(tkDs es n.outs++tR::[]))):=(zA0.cnc h0).blank oB;have h3:=zzd h.ins h2 ⟨32,_,rfl,oB⟩;have h4:=(zzz.cnc ((LxP.nam (k:=1) oB h.nm).app h3 ⟨40,_,rfl,oB⟩)).line 0;unfold zha;simpa using h4
theorem zx8{n:Nod}(h:NoL es n):LxL (zbx es n) (tkNo es n):=by
 have h1:=zxK h;have h2:=zv8 1 h.lc;have h3:LxL (zak (zaH es [97,115,115,117,109,101]) n.assume) (flT (tkCl es tAss) n.assume):=LxL.flat fun e he=>zoE zAS (h.asm e he)
 have h4:LxL (zak (zaH es [101,110,115,117,114,101]) n.ensure) (flT (tkCl es tEns) n.ensure):=LxL.flat fun e he=>zoE zAV (h.en e he)
 have h5:=zAX.line 0;have h6:LxL (zak (zcm es 1) n.eqs) (flT (tkQ es) n.eqs):=LxL.flat fun q hq=>zvV _ (h.eq q hq).left (h.eq q hq).right
 have h7:LxL (zak (zaU es 3 1) n.autos) (flT (tkAu es 3) n.autos):=LxL.flat fun a ha=>zri 3 1 a (h.au a ha)
 have h8:=zA2.line 0
 have:=(((((((h1.app h2).app h3).app h4).app h5).app h6).app h7).app h8)
 unfold zbx tkNo;simpa using this
theorem zxz{u:En}(h:EnL u):LxL (zeq u) (tkEn u):=by
 have:=(zzA.cnc ((LxP.nam (k:=1) oB h.nm).thn (kwEq.cnc (zsB zAa h.tags).semi))).line 0
 unfold zeq tkEn;simpa using this
theorem zyf(h1:∀u∈p.enums,EnL u)(h2:∀n∈p.nodes,NoL p.enums n):Lx (ze9 p) (tkPr p):=by
 have h:LxL (ze9 p) (tkPr p):=(LxL.flat fun u hu=>zxz (h1 u hu)).app (LxL.flat fun n hn=>zx8 (h2 n hn))
 have:=h _ _ Lx.nil
 rwa [qaz,qaz]at this
theorem zlP{i:Nat}{s:Str}(ha:At R i ((1,s)::L)):R.id i= .ok s (i+1):=by
 rw[Rd.id,oG (by rw[ha.kind];rfl),ha.txt];rfl
theorem zeJ{n i:Nat}(h:n<most):limR n most i= .ok () i:=by unfold limR;rw[oH (by omega)]
theorem okB{β:Type}{x:α}{j:Nat}{f:α->Nat->PR β}:(PR.ok x j).bind f=f x j:=rfl
theorem At.apl{i:Nat}{A B:List Tk}(h:At R i (A++B++L)):At R i (A++(B++L)):=by rw[<-qay];exact h
structure SmW (R:Rd) (o:OnC):Prop where
 tg:TagW R o.t.1.toNat o.tag.1.toNat (tgTk R.es o.t.1 o.tag.1)
 t0:0≤o.t.1
 v0:0≤o.tag.1
theorem zAg(h:SmW R o){i:Nat}(ha:At R i (tkSm R.es o++L)):R.sampling (i+1)= .ok o (i+5):=by
 have h1:=zin h.tg (s:=o.name) (L:=L) ha.tl;have e1:toI ((o.t.1.toNat:Nat):Int)=o.t:=zdw (by have:=h.t0;omega);have e2:toI ((o.tag.1.toNat:Nat):Int)=o.tag:=zdw (by have:=h.v0;omega);rw[h1,e1,e2]
theorem zvM:∀(l:List OnC) (pre:List OnC) (m i:Nat) (L:List Tk),(∀o∈l,SmW R o)->l.length≤m->pre.length+l.length≤4->At R i ((l.map (tkSm R.es)).flatten++L)->isL L [119,104,101,110]=false->R.clk m pre i= .ok (pre++l) (i+((l.map (tkSm R.es)).flatten).length)
 | [],pre,m,i,L,_,_,_,ha,hL=>by
   rw[qaz];cases m with
   | zero=>rfl
   | succ m=>rw[Rd.clk,oH (by rw[ha.isAt];exact fun h=>Bool.noConfusion (hL.symm.trans h))];rfl
 | o::l,pre,m,i,L,h,hm,h4,ha,hL=>by
   obtain⟨m,rfl⟩:∃k,m=k+1:=⟨m-1,by simp at hm;omega⟩
   have ha2:At R i (tkSm R.es o++((l.map (tkSm R.es)).flatten++L)):=by
    rw[qaf,qaK]at ha;exact ha.apl
   simp only[qae]at hm h4;rw[Rd.clk,oG (by rw[ha2.isAt];rfl),zeJ oA,okB,zAg (h o qah) ha2,okB];have ha3:At R (i+5) ((l.map (tkSm R.es)).flatten++L):=ha2.app;rw[zvM l (pre++[o]) m (i+5) L (fun x hx=>h x (qaj _ hx)) oA (by rw[qab];simp only[qae,qal];omega) ha3 hL,qay,qaf,qaK,qab,<-qa0];rfl
def TyW(R:Rd)(t:I64):Prop:=t.1=1\/t.1=2\/3≤t.1/\zfd (zaM R.es t.1).1.name 0 R.es=some (t.1-3).toNat
theorem zAv{t:I64}(h:TyW R t){i:Nat}(ha:At R i (tkTy R.es t.1::L)):R.typ i= .ok t (i+1):=by
 unfold tkTy at ha;rcases h with h|h|⟨h,hx⟩
 ·rw[oG h]at ha;rw[Rd.typ,oG (by rw[ha.isAt];rfl),zdw h]
 ·rw[oH oA,oG h]at ha;rw[Rd.typ,oH (by rw[ha.isAt];simp[isL]),oG (by rw[ha.isAt];rfl),zdw h]
 ·rw[oH oA,oH oA]at ha;rw[Rd.typ,oH (by rw[ha.isAt];simp[isL]),oH (by rw[ha.isAt];simp[isL]),zlP ha,okB,hx];show PR.ok (toI ((3+(t.1-3).toNat:Nat):Int)) (i+1)=_;rw[zdw (x:=t) oA]
structure DcW (R:Rd) (d:Decl):Prop where
 ty:TyW R d.ty
 ck:∀o∈d.clock,SmW R o
 few:d.clock.length≤4
theorem zwR(es:List En):∀l:List OnC,l.length≤((l.map (tkSm es)).flatten).length
 | []=>qag _
 | o::l=>by
   have:=zwR es l
   rw[qaf,qaK,qab,qae];show _≤5+_;omega
theorem zrL(h:DcW R d){i:Nat}(ha:At R i (tkDc R.es d++L))(hL:isL L [119,104,101,110]=false):R.decl i= .ok d (i+(tkDc R.es d).length):=by
 have h1:At R i ((1,d.name)::ztw::tkTy R.es d.ty.1::((d.clock.map (tkSm R.es)).flatten++L)):=ha;have h2:=h1.tl.tl.tl;have hl:=h2.len;rw[qab]at hl;have hs:=zwR R.es d.clock;rw[Rd.decl,zlP h1,okB,zcx h1.tl rfl,okB,zAv h.ty h1.tl.tl,okB,zvM d.clock [] _ _ L h.ck oA (by simpa using h.few) h2 hL,okB];unfold tkDc;simp only[qae,qaO];congr 1;omega
theorem zoJ{most:Nat}{op:Bool}:∀(l:List Decl) (d:Decl) (pre:List Decl) (m i:Nat) (L:List Tk),(∀x∈d::l,DcW R x)->pre.length+1+l.length≤most->l.length+1≤m->At R i (tkDc R.es d++((l.map fun x=>zck::tkDc R.es x).flatten++L))->isL L [119,104,101,110]=false->(isL L [59]=false\/op=true/\kiL L.tail 1=false)->
  R.decls most op m pre i= .ok (pre++d::l) (i+(tkDc R.es d++(l.map fun x=>zck::tkDc R.es x).flatten).length)
 | l,d,pre,m,i,L,h,hm,hf,ha,hL,hE=>by
   obtain⟨m,rfl⟩:∃k,m=k+1:=⟨m-1,oA⟩;have hk:R.kind i 1=true:=by rw[ha.kind];rfl
   rw[Rd.decls,Rd.zkn,oG hk,zeJ oA,okB];cases l with
   | nil=>
     have ha1:At R i (tkDc R.es d++L):=ha;rw[zrL (h d qah) ha1 hL,okB];have ha2:=ha1.app
     rw[oG (by
      rcases hE with hE|⟨h1,h2⟩
      ·left;rw[ha2.isAt];exact hE
      ·right;refine⟨h1,?_⟩;cases L with
       | nil=>rw[Rd.kind];have:=ha2.get;have e:R.K[i+(tkDc R.es d).length+1]?=none:=by
                have h5:R.K.length≤i+(tkDc R.es d).length:=List.drop_eq_nil_iff.1 ha2;exact qa6 oA
              rw[e]
       | cons t L=>rw[ha2.tl.kind];exact h2)]
     simp
   | cons x l=>
     have ha1:At R i (tkDc R.es d++(zck::(tkDc R.es x++((l.map fun x=>zck::tkDc R.es x).flatten++L)))):=by
      simpa using ha
     rw[zrL (h d qah) ha1 rfl,okB];have ha2:=ha1.app
     rw[oH (by
      rintro(h1|⟨_,h1⟩)
      ·rw[ha2.isAt]at h1;exact oI h1 (by simp[isL])
      ·rw[ha2.tl.kind]at h1;exact oI h1 (by unfold tkDc;simp[kiL]))]
     simp only[qae]at hm hf;rw[zoJ l x (pre++[d]) m _ L (fun y hy=>h y (qaj _ hy)) (by rw[qab];simp only[qae,qal];omega) oA ha2.tl hL hE];simp only[qay,qaZ,qaO,qab,qaf,qaK,qae];congr 1;omega
theorem zvR(es:List En):∀l:List Decl,l.length≤((l.map fun x=>zck::tkDc es x).flatten).length
 | []=>qag _
 | o::l=>by
   have:=zvR es l
   rw[qaf,qaK,qab,qae,qae];omega
theorem zj2{op:Bool}{i:Nat}(h0:l≠ [])(h:∀x∈l,DcW R x)(hm:l.length≤most)(ha:At R i (tkDs R.es l++L))(hL:isL L [119,104,101,110]=false)(hE:isL L [59]=false\/op=true/\kiL L.tail 1=false):
  R.decls most op (R.K.length+1) [] i= .ok l (i+(tkDs R.es l).length):=by
 cases l with
 | nil=>exact oI rfl h0
 | cons d l=>
   have e:tkDs R.es (d::l)=tkDc R.es d++(l.map fun x=>zck::tkDc R.es x).flatten:=by
    unfold tkDs tkJ;rw[qaf];simp only[qa7];rfl
   rw[e]at ha⊢;have hl:=ha.len;have hd:=zvR R.es l;simp only[qab]at hl;simp only[qae]at hm;exact zoJ l d [] (R.K.length+1) i L h (by simp only[qal];omega) oA ha.apl hL hE
theorem zlZ{i:Nat}(h:∀x∈l,DcW R x)(hm:l.length≤256)(ha:At R i (tkLc R.es l++L))(hv:isL L [118,97,114]=false)(hk:kiL L 1=false):R.locals i= .ok l (i+(tkLc R.es l).length):=by
 unfold tkLc at ha⊢;by_cases h0:0<l.length
 ·rw[oG h0]at ha⊢;have ha1:At R i (tVar::(tkDs R.es l++(zck::L))):=by simpa using ha
  rw[Rd.locals,oG (by rw[ha1.isAt];rfl),zj2 (fun e=>by rw[e]at h0;simp at h0) h hm ha1.tl rfl (.inr ⟨rfl,hk⟩),okB,zcx ha1.tl.app rfl,okB];exact zweg
 ·rw[oH h0]at ha⊢;have e:l=[]:=qaF oA;have ha1:At R i L:=ha;rw[Rd.locals,oH (by rw[ha1.isAt,hv];decide),e];rfl
theorem zpd{most:Nat}{w:Str}:∀(l:List Str) (s:Str) (pre:List Str) (m i:Nat) (L:List Tk),pre.length+1+l.length≤most->l.length+1≤m->At R i ((1,s)::((l.map fun x=>(4,w)::[((1:Int),x)]).flatten++L))->isL L w=false->
  R.names most w m pre i= .ok (pre++s::l) (i+((1,s)::(l.map fun x=>((4:Int),w)::[((1:Int),x)]).flatten).length)
 | l,s,pre,m,i,L,hm,hf,ha,hL=>by
   obtain⟨m,rfl⟩:∃k,m=k+1:=⟨m-1,oA⟩;rw[Rd.names,Rd.zkn,oG (by rw[ha.kind];rfl),zeJ oA,okB,zlP ha,okB];cases l with
   | nil=>
     have ha1:At R (i+1) L:=ha.tl;rw[oH (by rw[ha1.isAt,hL];decide)];rfl
   | cons x l=>
     have ha1:At R (i+1) ((4,w)::((1,x)::((l.map fun x=>(4,w)::[((1:Int),x)]).flatten++L))):=ha.tl;rw[oG (by rw[ha1.isAt];simp[isL])];simp only[qae]at hm hf;rw[zpd l x (pre++[s]) m _ L (by rw[qab];simp only[qae,qal];omega) oA ha1.tl hL];simp only[qay,qaZ,qaO,qaf,qaK,qae];congr 1;omega
theorem zwB(t:Tk):∀l:List Str,((l.map fun x=>t::[((1:Int),x)]).flatten).length=2*l.length
 | []=>rfl
 | x::l=>by rw[qaf,qaK,qab,zwB t l];simp only[qae,qal];omega
theorem znI(t:Tk)(s:Str)(l:List Str):tkNm t (s::l)=(1,s)::(l.map fun x=>t::[((1:Int),x)]).flatten:=by
 unfold tkNm tkJ;rw[qaf];simp only[qa7];rfl
theorem zpf{w:Str}{l:List Str}{i:Nat}(h0:l≠ [])(hm:l.length≤most)(ha:At R i (tkNm (4,w) l++L))(hL:isL L w=false):R.names most w (R.K.length+1) [] i= .ok l (i+(tkNm (4,w) l).length):=by
 cases l with
 | nil=>exact oI rfl h0
 | cons s l=>
   rw[znI]at ha⊢;have hl:=ha.len
   have:=zwB (4,w) l
   simp only[qab,qae]at hl;simp only[qae]at hm;exact zpd l s [] _ i L (by simp only[qal];omega) oA ha hL
theorem zxQ{l:List Str}{i:Nat}(h0:l≠ [])(hm:l.length≤64)(ha:At R i (tkLf l++L)):R.left i= .ok l (i+(tkLf l).length):=by
 unfold tkLf at ha⊢;by_cases h1:1<l.length
 ·rw[oG h1]at ha⊢;have ha1:At R i (tL::(tkNm zg2 l++(tR::L))):=by simpa using ha
  rw[Rd.left,oG (by rw[ha1.isAt];rfl),zpf h0 hm ha1.tl rfl,okB,zcx ha1.tl.app rfl,okB];exact zweg
 ·rw[oH h1]at ha⊢;cases l with
  | nil=>exact oI rfl h0
  | cons s l=>
    have e:l=[]:=qaF (by simp only[qae]at h1;omega);subst e;rw[znI]at ha⊢;have ha1:At R i ((1,s)::L):=ha;rw[Rd.left,oH (by rw[ha1.isAt];simp[isL]),zlP ha1,okB];rfl
theorem zj8{T:List Tk}{i:Nat}(h:PE R e T)(ha:At R i (T++L))(he:EndE L):R.expr i= .ok e (i+T.length):=by
 have hl:=ha.len;rw[qab]at hl;exact h _ i L oA ha he
structure EqW (R:Rd) (q:Equ):Prop where
 left:q.left≠ []
 few:q.left.length≤64
 right:PE R q.right (tkF R.es 400 q.right)
theorem zzh(h:EqW R q){i:Nat}(ha:At R i (tkQ R.es q++L)):R.equation R.expr i= .ok q (i+(tkQ R.es q).length):=by
 have ha1:At R i (tkLf q.left++(tEqS::(tkF R.es 400 q.right++(zck::L)))):=by
  unfold tkQ at ha;simpa using ha
 have ha2:=ha1.app;have ha3:=ha2.tl.app;rw[Rd.equation,zxQ h.left h.few ha1,okB,zcx ha2 rfl,okB,zj8 h.right ha2.tl (EndE.cons oB),okB,zcx ha3 rfl,okB];unfold tkQ;exact zweg
def zT(q:Tran):Tran:=⟨q.cond,toI 0,q.resume⟩
def tgN(sts:List Sta)(q:Tran):Str:=((sts[q.to.1.toNat]?).map Sta.name).getD []
theorem zba(g:α->List Tk)(x:α)(l:List α):flT g (x::l)=g x++flT g l:=by unfold flT;rw[qaf,qaK]
theorem zzn{b:Bool}{i:Nat}(ha:At R i ((if b=true then zn7 else ziD)::L)):R.how i= .ok b (i+1):=by
 cases b with
 | true=>rw[Rd.how,oG (by rw[ha.isAt];rfl)]
 | false=>rw[Rd.how,oH (by rw[ha.isAt];simp[isL]),zcx ha rfl,okB]
theorem zkT{w:Str}{sts:List Sta}:∀(l pre:List Tran) (gp:List (Str×Nat)) (m i:Nat) (L:List Tk),(∀q∈l,PE R q.cond (tkF R.es 400 q.cond))->l.length≤m->pre.length+l.length≤4->At R i (flT (tkTr R.es (3,w) sts) l++L)->isL L w=false->
  ∃gs,gs.map Prod.fst=l.map (tgN sts)/\R.trans R.expr w m pre gp i= .ok (pre++l.map zT,gp++gs) (i+(flT (tkTr R.es (3,w) sts) l).length)
 | [],pre,gp,m,i,L,_,_,_,ha,hL=>by
   refine⟨[],rfl,?_⟩;have ha1:At R i L:=ha;rw[qaD,qaz,qaz];cases m with
   | zero=>rfl
   | succ m=>rw[Rd.trans,oH (by rw[ha1.isAt,hL];decide)];rfl
 | q::l,pre,gp,m,i,L,h,hm,h4,ha,hL=>by
   obtain⟨m,rfl⟩:∃k,m=k+1:=⟨m-1,by simp at hm;omega⟩;simp only[qae]at hm h4
   have ha1:At R i ((3,w)::(tkF R.es 400 q.cond++((if q.resume=true then zn7 else ziD)::(1,tgN sts q)::zck::(flT (tkTr R.es (3,w) sts) l++L)))):=by
    rw[zba,show tkTr R.es (3,w) sts q=(3,w)::(tkF R.es 400 q.cond++[if q.resume=true then zn7 else ziD,(1,tgN sts q),zck]) from rfl]at ha;simpa using ha
   have ha2:=ha1.tl.app
   have hE:EndE ((if q.resume=true then zn7 else ziD)::(1,tgN sts q)::zck::(flT (tkTr R.es (3,w) sts) l++L)):=by
    cases q.resume with
    | true=>exact EndE.cons oB
    | false=>exact EndE.cons oB
   obtain⟨gs,h1,h2⟩:=zkT l (pre++[zT q]) (gp++[(tgN sts q,i+1+(tkF R.es 400 q.cond).length+1+1-1)]) m _ L (fun x hx=>h x (qaj _ hx)) oA (by rw[qab];simp only[qae,qal];omega) ha2.tl.tl.tl hL;refine⟨(tgN sts q,i+1+(tkF R.es 400 q.cond).length+1+1-1)::gs,by rw[qaf,qaf,h1],?_⟩;rw[Rd.trans,oG (by rw[ha1.isAt];simp[isL]),zeJ oA,okB,zj8 (h q qah) ha1.tl hE,okB,zzn ha2,okB,zlP ha2.tl,okB,zcx ha2.tl.tl rfl,okB];refine h2.trans ?_
   have e:(flT (tkTr R.es (3,w) sts) (q::l)).length=(tkF R.es 400 q.cond).length+4+(flT (tkTr R.es (3,w) sts) l).length:=by
    rw[zba,qab];unfold tkTr;simp only[qae,qab,qal]
   rw[e];simp only[qay,qaZ,qaO,qaf];congr 1;omega
def TgW(ns:List Str)(sts:List Sta)(q:Tran):Prop:=idxOf (tgN sts q) 0 ns=some q.to.1.toNat/\0≤q.to.1
theorem znn{ns:List Str}{sts:List Sta}:∀(l:List Tran) (g:List (Str×Nat)),g.map Prod.fst=l.map (tgN sts)->(∀q∈l,TgW ns sts q)->fixG ns g= .ok (l.map fun q=>q.to.1.toNat) 0
 | [],[],_,_=>rfl
 | [],_::_,h,_=>by cases h
 | _::_,[],h,_=>by cases h
 | q::l,(s,k)::g,h,hq=>by
   rw[qaf,qaf]at h;injection h with h1 h2
   replace h1:s=tgN sts q:=h1;have h3:=(hq q qah).1;rw[<-h1]at h3;rw[fixG,h3];show(fixG ns g).bind _=_;rw[znn l g h2 fun x hx=>hq x (qaj _ hx)];rfl
theorem zkB{ns:List Str}{sts:List Sta}:∀l:List Tran,(∀q∈l,TgW ns sts q)->ziZ (l.map zT) (l.map fun q=>q.to.1.toNat)=l
 | [],_=>rfl
 | q::l,h=>by
   have h1:=zkB l fun x hx=>h x (qaj _ hx)
   have h2:=(h q qah).2;unfold ziZ at h1⊢;rw[qaf,qaf,qbo,h1];have e:toI ((q.to.1.toNat:Nat):Int)=q.to:=zdw oA;unfold zT;rw[e]
theorem zlD{g:α->List Tk}{t:Tk}(hg:∀x,∃T,g x=t::T)(l:List α)(L:List Tk):(l=[]/\flT g l++L=L)\/∃T,flT g l++L=t::T:=by
 cases l with
 | nil=>exact .inl ⟨rfl,rfl⟩
 | cons x l=>
   obtain⟨T,hT⟩:=hg x;rw[zba,hT];exact .inr ⟨_,rfl⟩
theorem zc4{α:Type}{g:α->List Tk}(hg:∀x,1≤(g x).length):∀l:List α,l.length≤(flT g l).length
 | []=>qaN _
 | x::l=>by
   have h1:=zc4 hg l;have h2:=hg x;rw[zba,qab,qae];omega
theorem zAp(h:q.left≠ []):∃t T,tkQ es q=t::T/\(t=tL\/t.1=1):=by
 unfold tkQ tkLf;split
 ·exact⟨_,_,rfl,.inl rfl⟩
 ·cases hl:q.left with
  | nil=>exact oI hl h
  | cons s l=>rw[znI];exact⟨_,_,rfl,.inr rfl⟩
structure EndB (L:List Tk):Prop where
 aut:isL L [97,117,116,111,109,97,116,111,110]=false
 id:kiL L 1=false
 br:isL L [40]=false
section
variable {au:Nat->PR Auto}{deep:Bool}{g:Auto->List Tk}
theorem zow:∀(l:List Auto) (pq:List Equ) (pa:List Auto) (m i:Nat) (L:List Tk),(∀a∈l,(∃T,g a=tAut::T)/\∀i L,At R i (g a++L)->au (i+1)= .ok a (i+(g a).length))->(deep=false\/l=[])->l.length+1≤m->pa.length+l.length≤8->At R i (flT g l++L)->EndB L->
  R.body R.expr au deep m pq pa i= .ok (pq,pa++l) (i+(flT g l).length)
 | [],pq,pa,m,i,L,_,_,hm,_,ha,hL=>by
   obtain⟨m,rfl⟩:∃k,m=k+1:=⟨m-1,oA⟩;have ha1:At R i L:=ha;rw[Rd.body,oH (by rw[ha1.isAt,hL.aut];decide),oH (by rw[ha1.isAt,ha1.kind,hL.id,hL.br];decide),qaz];rfl
 | a::l,pq,pa,m,i,L,h,hd,hm,h8,ha,hL=>by
   obtain⟨m,rfl⟩:∃k,m=k+1:=⟨m-1,oA⟩;simp only[qae]at hm h8;obtain⟨⟨T,hT⟩,h1⟩:=h a qah;have hdf:deep=false:=by rcases hd with hd|hd;exact hd;cases hd
   rw[zba]at ha;have ha1:=ha.apl;have hat:R.isAt i [97,117,116,111,109,97,116,111,110]=true:=by rw[ha1.isAt,hT];rfl
   rw[Rd.body,oG hat,oH (by rw[hdf];decide),zeJ oA,okB,h1 i _ ha1,okB,
    zow l pq (pa++[a]) m _ L (fun x hx=>h x (qaj _ hx)) (.inl hdf) oA (by rw[qab];simp only[qae,qal];omega) ha1.app hL,zba,qab,qay,<-qa0]
   rfl
theorem zjV{l:List Auto}(hA:∀a∈l,(∃T,g a=tAut::T)/\∀i L,At R i (g a++L)->au (i+1)= .ok a (i+(g a).length))(hd:deep=false\/l=[])(h8:l.length≤8){L:List Tk}(hL:EndB L):∀(qs pq:List Equ) (m i:Nat),(∀q∈qs,EqW R q)->qs.length+l.length+1≤m->pq.length+qs.length≤256->At R i (flT (tkQ R.es) qs++(flT g l++L))->
  R.body R.expr au deep m pq [] i= .ok (pq++qs,l) (i+((flT (tkQ R.es) qs).length+(flT g l).length))
 | [],pq,m,i,_,hm,_,ha=>by
   have:=zow l pq [] m i L hA hd (by simpa using hm) (by simpa using h8) ha hL
   rw[this,qaz,qaO];simp[flT]
 | q::qs,pq,m,i,h,hm,hc,ha=>by
   obtain⟨m,rfl⟩:∃k,m=k+1:=⟨m-1,oA⟩;simp only[qae]at hm hc;rw[zba]at ha;have ha1:=ha.apl;obtain⟨t,T,hT,ht⟩:=zAp (es:=R.es) (h q qah).left
   have h1:R.isAt i [97,117,116,111,109,97,116,111,110]=false:=by
    rw[ha1.isAt,hT];rcases ht with rfl|ht
    ·rfl
    ·simp[isL,ht]
   have h2:(R.kind i 1 || R.isAt i [40])=true:=by
    rw[ha1.isAt,ha1.kind,hT];rcases ht with rfl|ht
    ·rfl
    ·simp[isL,kiL,ht]
   rw[Rd.body,oH (by rw[h1];decide),oG h2,zeJ oA,okB,zzh (h q qah) ha1,okB,
    zjV hA hd h8 hL qs (pq++[q]) m _ (fun x hx=>h x (qaj _ hx)) oA (by rw[qab];simp only[qae,qal];omega) ha1.app,zba,qab,qay]
   simp only[qaZ,qaO];congr 1;omega
end
def zS(s:Sta):Sta:=.mk s.name s.locals s.eqs s.autos (s.unl.map zT) (s.unt.map zT)
structure StW (R:Rd) (P:Auto->Prop) (sts:List Sta) (s:Sta):Prop where
 lc:∀d∈s.locals,DcW R d
 lcn:s.locals.length≤256
 ul:∀q∈s.unl,PE R q.cond (tkF R.es 400 q.cond)
 uln:s.unl.length≤4
 ult:∀q∈s.unl,TgW (sts.map Sta.name) sts q
 eq:∀q∈s.eqs,EqW R q
 eqn:s.eqs.length≤256
 au:∀a∈s.autos,P a
 aun:s.autos.length≤8
 ut:∀q∈s.unt,PE R q.cond (tkF R.es 400 q.cond)
 utn:s.unt.length≤4
 utt:∀q∈s.unt,TgW (sts.map Sta.name) sts q
def AuW(R:Rd):Nat->Auto->Prop
 | 0,_=>False
 | m+1,a=>a.states.length≤8/\∀s∈a.states,StW R (AuW R m) a.states s
def BdW(R:Rd)(bd:Nat->PR (List Equ×List Auto))(g:Auto->List Tk)(P:Auto->Prop):Prop:=∀(qs:List Equ) (l:List Auto) (i:Nat) (L:List Tk),(∀q∈qs,EqW R q)->qs.length≤256->(∀a∈l,P a)->l.length≤8->At R i (flT (tkQ R.es) qs++(flT g l++L))->EndB L->bd i= .ok (qs,l) (i+((flT (tkQ R.es) qs).length+(flT g l).length))
theorem zAq(es:List En)(w:Str)(sts:List Sta)(q:Tran):∃T,tkTr es (3,w) sts q=(3,w)::T:=⟨_,rfl⟩
theorem zve(hB:BdW R bd g P){s:Sta}(h:StW R P sts s){i:Nat}(ha:At R i (tkSt R.es g sts s++L)):
  ∃gu gv,gu.map Prod.fst=s.unl.map (tgN sts)/\gv.map Prod.fst=s.unt.map (tgN sts)/\R.state R.expr bd (i+1)= .ok (zS s,gu,gv) (i+(tkSt R.es g sts s).length):=by
 have ha1:At R i (tSta::(1,s.name)::(tkLc R.es s.locals++(flT (tkTr R.es tUnl sts) s.unl++(tDo::(flT (tkQ R.es) s.eqs++(flT g s.autos++(flT (tkTr R.es tUnt sts) s.unt++(zmC::L)))))))):=by
  unfold tkSt at ha;simpa using ha
 have ha2:=ha1.tl.tl;have hd1:=zlD (zAq R.es [117,110,108,101,115,115] sts) s.unl (tDo::(flT (tkQ R.es) s.eqs++(flT g s.autos++(flT (tkTr R.es tUnt sts) s.unt++(zmC::L)))))
 have hv:isL (flT (tkTr R.es tUnl sts) s.unl++(tDo::(flT (tkQ R.es) s.eqs++(flT g s.autos++(flT (tkTr R.es tUnt sts) s.unt++(zmC::L)))))) [118,97,114]=false:=by
  rcases hd1 with ⟨_,e⟩|⟨T,e⟩ <;> rw[e] <;> rfl
 have hk:kiL (flT (tkTr R.es tUnl sts) s.unl++(tDo::(flT (tkQ R.es) s.eqs++(flT g s.autos++(flT (tkTr R.es tUnt sts) s.unt++(zmC::L)))))) 1=false:=by
  rcases hd1 with ⟨_,e⟩|⟨T,e⟩ <;> rw[e] <;> rfl
 have ha3:=ha2.app;have n1:=zc4 (g:=tkTr R.es tUnl sts) (fun q=>by unfold tkTr;simp) s.unl;have n2:=zc4 (g:=tkTr R.es tUnt sts) (fun q=>by unfold tkTr;simp) s.unt;have l3:=ha3.len;have ha4:=ha3.app;have ha5:=ha4.tl;have ha6:=ha5.app.app;have l6:=ha6.len;rw[qab]at l3 l6;obtain⟨gu,g1,g2⟩:=zkT (w:=[117,110,108,101,115,115]) (sts:=sts) s.unl [] [] R.K.length _ _ h.ul oA (by simpa using h.uln) ha3 rfl;obtain⟨gv,g3,g4⟩:=zkT (w:=[117,110,116,105,108]) (sts:=sts) s.unt [] [] R.K.length _ _ h.ut oA (by simpa using h.utn) ha6 rfl;have hd2:=zlD (zAq R.es [117,110,116,105,108] sts) s.unt (zmC::L)
 have hE:EndB (flT (tkTr R.es tUnt sts) s.unt++(zmC::L)):=by
  rcases hd2 with ⟨_,e⟩|⟨T,e⟩ <;> rw[e] <;> exact⟨rfl,rfl,rfl⟩
 have hb:=hB s.eqs s.autos _ _ h.eq h.eqn h.au h.aun ha5 hE;refine⟨gu,gv,g1,g3,?_⟩;rw[Rd.state,zlP ha1.tl,okB,zlZ h.lc h.lcn ha2 hv hk,okB,g2,okB,zcx ha4 rfl,okB,hb,okB,<-qa0,g4,okB,zcx ha6.app rfl,okB];unfold zS tkSt;simp only[qaO,qae,qab,qal];congr 1;omega
def tgsN(sts l:List Sta):List (List Str):=(l.map fun s=>[s.unl.map (tgN sts),s.unt.map (tgN sts)]).flatten
def ixsT(l:List Sta):List (List Nat):=(l.map fun s=>[s.unl.map fun q=>q.to.1.toNat,s.unt.map fun q=>q.to.1.toNat]).flatten
theorem zBv(es:List En)(g:Auto->List Tk)(sts:List Sta)(s:Sta):∃T,tkSt es g sts s=tSta::T:=⟨_,rfl⟩
theorem zmy{bd:Nat->PR (List Equ×List Auto)}{g:Auto->List Tk}{P:Auto->Prop}(hB:BdW R bd g P){sts:List Sta}:∀(l pre:List Sta) (gp:List (List (Str×Nat))) (m i:Nat) (L:List Tk),(∀s∈l,StW R P sts s)->l.length≤m->pre.length+l.length≤8->At R i (flT (tkSt R.es g sts) l++L)->isL L [115,116,97,116,101]=false->
  ∃gs,gs.map (List.map Prod.fst)=tgsN sts l/\R.states R.expr bd m pre gp i= .ok (pre++l.map zS,gp++gs) (i+(flT (tkSt R.es g sts) l).length)
 | [],pre,gp,m,i,L,_,_,_,ha,hL=>by
   refine⟨[],rfl,?_⟩;have ha1:At R i L:=ha;rw[qaD,qaz,qaz];cases m with
   | zero=>rfl
   | succ m=>rw[Rd.states,oH (by rw[ha1.isAt,hL];decide)];rfl
 | s::l,pre,gp,m,i,L,h,hm,h8,ha,hL=>by
   obtain⟨m,rfl⟩:∃k,m=k+1:=⟨m-1,by simp at hm;omega⟩;simp only[qae]at hm h8;rw[zba]at ha;have ha1:=ha.apl;obtain⟨gu,gv,g1,g2,g3⟩:=zve hB (h s qah) ha1;obtain⟨gs,g4,g5⟩:=zmy hB l (pre++[zS s]) (gp++[gu,gv]) m _ L (fun x hx=>h x (qaj _ hx)) oA (by rw[qab];simp only[qae,qal];omega) ha1.app hL;refine⟨gu::gv::gs,?_,?_⟩
   ·rw[qaf,qaf,g1,g2,g4];rfl
   rw[Rd.states,oG (by rw[ha1.isAt];obtain⟨T,hT⟩:=zBv R.es g sts s;rw[hT];rfl),zeJ oA,okB,g3,okB];refine g5.trans ?_;rw[zba,qab,qay,qay,<-qa0];rfl
theorem zoQ{ns:List Str}{sts:List Sta}:∀(l:List Sta) (gs:List (List (Str×Nat))),gs.map (List.map Prod.fst)=tgsN sts l->(∀s∈l,(∀q∈s.unl,TgW ns sts q)/\∀q∈s.unt,TgW ns sts q)->zd9 ns gs= .ok (ixsT l) 0
 | [],[],_,_=>rfl
 | [],_::_,h,_=>by cases h
 | _::_,[],h,_=>by cases h
 | s::l,[_],h,_=>by
   replace h:_=s.unl.map (tgN sts)::s.unt.map (tgN sts)::tgsN sts l:=h;rw[qaf,qaD]at h;injection h with _ h
   cases h
 | s::l,gu::gv::gs,h,hq=>by
   replace h:_=s.unl.map (tgN sts)::s.unt.map (tgN sts)::tgsN sts l:=h;rw[qaf,qaf]at h;injection h with h1 h
   injection h with h2 h3
   obtain⟨q1,q2⟩:=hq s qah;have h4:=zoQ l gs h3 fun x hx=>hq x (qaj _ hx)
   rw[zd9,znn s.unl gu h1 q1,okB,zd9,znn s.unt gv h2 q2,okB,h4];rfl
theorem zmp{ns:List Str}{sts:List Sta}:∀l:List Sta,(∀s∈l,(∀q∈s.unl,TgW ns sts q)/\∀q∈s.unt,TgW ns sts q)->zf9 (l.map zS) (ixsT l)=l
 | [],_=>rfl
 | .mk nm lc eq au ul ut::l,h=>by
   obtain⟨q1,q2⟩:=h _ qah;have h1:=zmp l fun x hx=>h x (qaj _ hx)
   have e1:ziZ (ul.map zT) (ul.map fun q=>q.to.1.toNat)=ul:=zkB ul q1;have e2:ziZ (ut.map zT) (ut.map fun q=>q.to.1.toNat)=ut:=zkB ut q2;show Sta.mk nm lc eq au (ziZ (ul.map zT) (ul.map fun q=>q.to.1.toNat)) (ziZ (ut.map zT) (ut.map fun q=>q.to.1.toNat))::zf9 (l.map zS) (ixsT l)=_;rw[e1,e2,h1]
theorem zyH(l:List Sta):(l.map zS).map Sta.name=l.map Sta.name:=by
 rw[qa7];rfl
theorem zt9{m:Nat}(hB:BdW R bd (tkAu R.es m) (AuW R m)){a:Auto}(h:AuW R (m+1) a){i:Nat}(ha:At R i (tkAu R.es (m+1) a++L)):R.automaton R.expr bd (i+1)= .ok a (i+(tkAu R.es (m+1) a).length):=by
 obtain⟨sts⟩:=a;obtain⟨h8,hs⟩:=h;replace h8:sts.length≤8:=h8;replace hs:∀s∈sts,StW R (AuW R m) sts s:=hs
 have ha1:At R i (tAut::(flT (tkSt R.es (tkAu R.es m) sts) sts++(tEnd::L))):=by
  have e:tkAu R.es (m+1) (.mk sts)=tAut::(flT (tkSt R.es (tkAu R.es m) sts) sts++[tEnd]):=rfl;rw[e]at ha;simpa using ha
 have ha2:=ha1.tl;have hl:=ha2.len;rw[qab]at hl;have n1:=zc4 (g:=tkSt R.es (tkAu R.es m) sts) (fun q=>by unfold tkSt;simp) sts;have hq:∀s∈sts,(∀q∈s.unl,TgW (sts.map Sta.name) sts q)/\∀q∈s.unt,TgW (sts.map Sta.name) sts q:=fun s hx=>⟨(hs s hx).ult,(hs s hx).utt⟩
 obtain⟨gs,g1,g2⟩:=zmy hB (sts:=sts) sts [] [] R.K.length _ _ hs oA (by simpa using h8) ha2 rfl;rw[Rd.automaton,g2,okB,zcx ha2.app rfl,okB];simp only[qaO];rw[zyH,zoQ sts gs g1 hq,okB,zmp sts hq]
 have e:(tkAu R.es (m+1) (.mk sts)).length=1+(flT (tkSt R.es (tkAu R.es m) sts) sts).length+1:=by
  show(tAut::(flT (tkSt R.es (tkAu R.es m) sts) sts++[tEnd])).length=_;simp only[qae,qab,qal];omega
 rw[e];congr 1;omega
theorem ztC(es:List En)(q:Equ):1≤(tkQ es q).length:=by unfold tkQ;simp;omega
theorem zox:∀m,BdW R (R.zg7 R.expr m) (tkAu R.es m) (AuW R m)
 | 0=>fun qs l i L hq hqn hl hln ha hL=>by
   have e:l=[]:=by
    cases l with
    | nil=>rfl
    | cons a l=>exact(hl a qah).elim
   subst e;have n1:=zc4 (ztC R.es) qs;have n2:=ha.len;rw[qab]at n2;rw[Rd.zg7];exact zjV (fun a ha=>by cases ha) (.inr rfl) oC hL qs [] _ i hq (by simp only[qal];omega) (by simpa using hqn) ha
 | m+1=>fun qs l i L hq hqn hl hln ha hL=>by
   have n1:=zc4 (ztC R.es) qs;have n3:=zc4 (g:=tkAu R.es (m+1)) (fun a=>by unfold tkAu;simp) l;have n2:=ha.len;rw[qab,qab]at n2;rw[Rd.zg7];exact zjV (fun a hm=>⟨⟨_,rfl⟩,fun i L hat=>zt9 (zox m) (hl a hm) hat⟩) (.inl rfl) hln hL qs [] _ i hq oA (by simpa using hqn) ha
theorem zA6{i:Nat}{a b c:Tk}{y z:Str}(ha:At R i (a::b::c::L))(h1:isL [a] x=true)(h2:isL [b] y=true)(h3:isL [c] z=true):R.must [x,y,z] i= .ok () (i+3):=by
 rw[Rd.must,oG (by rw[ha.isAt];exact h1),Rd.must,oG (by rw[ha.tl.isAt];exact h2),Rd.must,oG (by rw[ha.tl.tl.isAt];exact h3)];rfl
theorem zjd:∀(l a pre:List Ex) (m i:Nat) (L:List Tk),(∀e∈l,PE R e (tkF R.es 400 e))->l.length≤m->pre.length+l.length≤8->At R i (flT (tkCl R.es tEns) l++L)->isL L [97,115,115,117,109,101]=false->isL L [101,110,115,117,114,101]=false->
  R.claims R.expr m a pre i= .ok (a,pre++l) (i+(flT (tkCl R.es tEns) l).length)
 | [],a,pre,m,i,L,_,_,_,ha,h1,h2=>by
   have ha1:At R i L:=ha;rw[qaz];cases m with
   | zero=>rfl
   | succ m=>rw[Rd.claims,oH (by rw[ha1.isAt,h1];decide),oH (by rw[ha1.isAt,h2];decide)];rfl
 | e::l,a,pre,m,i,L,h,hm,h8,ha,h1,h2=>by
   obtain⟨m,rfl⟩:∃k,m=k+1:=⟨m-1,by simp at hm;omega⟩;simp only[qae]at hm h8
   have ha1:At R i (tEns::(tkF R.es 400 e++(zck::(flT (tkCl R.es tEns) l++L)))):=by
    rw[zba,show tkCl R.es tEns e=tEns::(tkF R.es 400 e++[zck]) from rfl]at ha;simpa using ha
   have ha2:=ha1.tl.app
   rw[Rd.claims,oH (by rw[ha1.isAt];simp[isL]),oG (by rw[ha1.isAt];rfl),zeJ oA,okB,zj8 (h e qah) ha1.tl (EndE.cons oB),okB,zcx ha2 rfl,okB,
    zjd l a (pre++[e]) m _ L (fun x hx=>h x (qaj _ hx)) oA (by rw[qab];simp only[qae,qal];omega) ha2.tl h1 h2]
   rw[zba,show tkCl R.es tEns e=tEns::(tkF R.es 400 e++[zck]) from rfl];exact zwcb
theorem zy7(es:List En)(w:Str)(e:Ex):∃T,tkCl es (3,w) e=(3,w)::T:=⟨_,rfl⟩
theorem zlq{en:List Ex}:∀(l pre:List Ex) (m i:Nat) (L:List Tk),(∀e∈l,PE R e (tkF R.es 400 e))->(∀e∈en,PE R e (tkF R.es 400 e))->l.length+en.length≤m->pre.length+l.length≤8->en.length≤8->At R i (flT (tkCl R.es tAss) l++(flT (tkCl R.es tEns) en++L))->isL L [97,115,115,117,109,101]=false->isL L [101,110,115,117,114,101]=false->
  R.claims R.expr m pre [] i= .ok (pre++l,en) (i+(flT (tkCl R.es tAss) l).length+(flT (tkCl R.es tEns) en).length)
 | [],pre,m,i,L,_,he,hm,_,h8,ha,h1,h2=>by
   have ha1:At R i (flT (tkCl R.es tEns) en++L):=ha;rw[qaz];exact zjd en pre [] m i L he (by simpa using hm) (by simpa using h8) ha1 h1 h2
 | e::l,pre,m,i,L,h,he,hm,h8,h9,ha,h1,h2=>by
   obtain⟨m,rfl⟩:∃k,m=k+1:=⟨m-1,by simp at hm;omega⟩;simp only[qae]at hm h8
   have ha1:At R i (tAss::(tkF R.es 400 e++(zck::(flT (tkCl R.es tAss) l++(flT (tkCl R.es tEns) en++L))))):=by
    rw[zba,show tkCl R.es tAss e=tAss::(tkF R.es 400 e++[zck]) from rfl]at ha;simpa using ha
   have ha2:=ha1.tl.app
   rw[Rd.claims,oG (by rw[ha1.isAt];rfl),zeJ oA,okB,zj8 (h e qah) ha1.tl (EndE.cons oB),okB,zcx ha2 rfl,okB,
    zlq l (pre++[e]) m _ L (fun x hx=>h x (qaj _ hx)) he oA (by rw[qab];simp only[qae,qal];omega) h9 ha2.tl h1 h2]
   rw[zba,show tkCl R.es tAss e=tAss::(tkF R.es 400 e++[zck]) from rfl];exact zwcb
structure NoW (R:Rd) (n:Nod):Prop where
 ins:∀d∈n.ins,DcW R d
 insn:n.ins.length≤64
 outs:∀d∈n.outs,DcW R d
 outsn:n.outs.length≤64
 out1:n.outs≠ []
 lc:∀d∈n.locals,DcW R d
 lcn:n.locals.length≤256
 asm:∀e∈n.assume,PE R e (tkF R.es 400 e)
 asmn:n.assume.length≤8
 en:∀e∈n.ensure,PE R e (tkF R.es 400 e)
 enn:n.ensure.length≤8
 eq:∀q∈n.eqs,EqW R q
 eqn:n.eqs.length≤256
 au:∀a∈n.autos,AuW R 3 a
 aun:n.autos.length≤8
theorem zAN:∀ {l:List Decl},l≠ []->∃s T,tkDs es l=(1,s)::T
 | [],h=>oI rfl h
 | d::l,_=>⟨_,_,rfl⟩
theorem zzo{i:Nat}(h:∀d∈l,DcW R d)(hn:l.length≤64)(ha:At R i (tkDs R.es l++(tR::L))):R.ins i= .ok l (i+(tkDs R.es l).length):=by
 by_cases h0:l=[]
 ·subst h0;have ha1:At R i (tR::L):=ha;rw[Rd.ins,oG (by rw[ha1.isAt];rfl)];rfl
 ·obtain⟨s,T,hT⟩:=zAN (es:=R.es) h0;rw[Rd.ins,oH (by rw[ha.isAt,hT];simp[isL]),zj2 h0 h hn ha rfl (.inl rfl)]
theorem zvK(es:List En)(w:Str)(e:Ex):1≤(tkCl es (3,w) e).length:=by unfold tkCl;simp
theorem zx5{n:Nod}(h:NoW R n){i:Nat}(ha:At R i (tkNo R.es n++L)):R.node R.expr (i+1)= .ok n (i+(tkNo R.es n).length):=by
 have ha1:At R i (ztx::(1,n.name)::tL::(tkDs R.es n.ins++(tR::tRet::tL::(tkDs R.es n.outs++(tR::(tkLc R.es n.locals++(flT (tkCl R.es tAss) n.assume++(flT (tkCl R.es tEns) n.ensure++(tLet::(flT (tkQ R.es) n.eqs++(flT (tkAu R.es 3) n.autos++(tTel::L)))))))))))):=by
  unfold tkNo at ha;simpa using ha
 have ha2:=ha1.tl.tl.tl;have ha3:=ha2.app;have ha4:=ha3.tl.tl.tl;have ha5:=ha4.app;have ha6:=ha5.tl;have ha7:=ha6.app;have ha8:=ha7.app.app;have ha9:=ha8.tl;have ha10:=ha9.app.app
 have hd:∀L,(∃T,flT (tkCl R.es tAss) n.assume++(flT (tkCl R.es tEns) n.ensure++(tLet::L))=tAss::T)\/(∃T,flT (tkCl R.es tAss) n.assume++(flT (tkCl R.es tEns) n.ensure++(tLet::L))=tEns::T)\/∃T,flT (tkCl R.es tAss) n.assume++(flT (tkCl R.es tEns) n.ensure++(tLet::L))=tLet::T:=by
  intro L;rcases zlD (zy7 R.es [97,115,115,117,109,101]) n.assume (flT (tkCl R.es tEns) n.ensure++(tLet::L))with ⟨_,e⟩|⟨T,e⟩
  ·rcases zlD (zy7 R.es [101,110,115,117,114,101]) n.ensure (tLet::L)with ⟨_,e2⟩|⟨T,e2⟩
   ·rw[e,e2];exact .inr (.inr ⟨_,rfl⟩)
   ·rw[e,e2];exact .inr (.inl ⟨_,rfl⟩)
  ·exact .inl ⟨_,e⟩
 have hv:isL (flT (tkCl R.es tAss) n.assume++(flT (tkCl R.es tEns) n.ensure++(tLet::(flT (tkQ R.es) n.eqs++(flT (tkAu R.es 3) n.autos++(tTel::L)))))) [118,97,114]=false:=by
  exact zwcn
 have hk:kiL (flT (tkCl R.es tAss) n.assume++(flT (tkCl R.es tEns) n.ensure++(tLet::(flT (tkQ R.es) n.eqs++(flT (tkAu R.es 3) n.autos++(tTel::L)))))) 1=false:=by
  exact zwcn
 have n1:n.assume.length≤(flT (tkCl R.es tAss) n.assume).length:=zc4 (zvK R.es _) n.assume;have n2:n.ensure.length≤(flT (tkCl R.es tEns) n.ensure).length:=zc4 (zvK R.es _) n.ensure;have l7:=ha7.len;rw[qab,qab]at l7;have hc:=zlq (en:=n.ensure) n.assume [] R.K.length _ _ h.asm h.en oA (by simpa using h.asmn) h.enn ha7 rfl rfl;have hb:=zox 3 n.eqs n.autos _ _ h.eq h.eqn h.au h.aun ha9 ⟨rfl,rfl,rfl⟩;rw[Rd.node,zlP ha1.tl,okB,zcx ha1.tl.tl rfl,okB,zzo h.ins h.insn ha2,okB,zA6 ha3 rfl rfl rfl,okB,zj2 h.out1 h.outs h.outsn ha4 rfl (.inl rfl),okB,zcx ha5 rfl,okB,zlZ h.lc h.lcn ha6 hv hk,okB,hc,okB,zcx ha8 rfl,okB,hb,okB,<-qa0,zcx ha10 rfl,okB]
 have e:(tkNo R.es n).length=3+(tkDs R.es n.ins).length+3+(tkDs R.es n.outs).length+1+(tkLc R.es n.locals).length+(flT (tkCl R.es tAss) n.assume).length+(flT (tkCl R.es tEns) n.ensure).length+1+(flT (tkQ R.es) n.eqs).length+(flT (tkAu R.es 3) n.autos).length+1:=by
  unfold tkNo;simp only[qae,qab,qal];omega
 rw[e];simp only[qaO];congr 1;omega
structure EnV (u:En):Prop where
 tags:u.tags≠ []
 few:u.tags.length≤16
theorem zpP:∀(l pre:List En) (m i:Nat) (L:List Tk),(∀u∈l,EnV u)->l.length≤m->pre.length+l.length≤24->At R i (flT tkEn l++L)->isL L [116,121,112,101]=false->R.types m pre i= .ok (pre++l) (i+(flT tkEn l).length)
 | [],pre,m,i,L,_,_,_,ha,h1=>by
   have ha1:At R i L:=ha;rw[qaz];cases m with
   | zero=>rfl
   | succ m=>rw[Rd.types,oH (by rw[ha1.isAt,h1];decide)];rfl
 | u::l,pre,m,i,L,h,hm,h8,ha,h1=>by
   obtain⟨m,rfl⟩:∃k,m=k+1:=⟨m-1,by simp at hm;omega⟩;simp only[qae]at hm h8
   have ha1:At R i (zty::(1,u.name)::tEqS::(tkNm tBar u.tags++(zck::(flT tkEn l++L)))):=by
    rw[zba,show tkEn u=zty::(1,u.name)::tEqS::(tkNm tBar u.tags++[zck]) from rfl]at ha;simpa using ha
   have ha2:=ha1.tl.tl.tl;obtain⟨h2,h3⟩:=h u qah
   rw[Rd.types,oG (by rw[ha1.isAt];rfl),zeJ oA,okB,zlP ha1.tl,okB,zcx ha1.tl.tl rfl,okB,zpf h2 h3 ha2 rfl,okB,zcx ha2.app rfl,okB,
    zpP l (pre++[u]) m _ L (fun x hx=>h x (qaj _ hx)) oA (by rw[qab];simp only[qae,qal];omega) ha2.app.tl h1]
   rw[zba,show tkEn u=zty::(1,u.name)::tEqS::(tkNm tBar u.tags++[zck]) from rfl];exact zwcb
theorem zpj:∀(l pre:List Nod) (m i:Nat),(∀n∈l,NoW R n)->l.length≤m->pre.length+l.length≤96->At R i (flT (tkNo R.es) l)->R.nodes m pre i= .ok (pre++l) (i+(flT (tkNo R.es) l).length)
 | [],pre,m,i,_,_,_,ha=>by
   have ha1:At R i []:=ha;rw[qaz];cases m with
   | zero=>rfl
   | succ m=>rw[Rd.nodes,oH (by rw[ha1.isAt];decide)];rfl
 | n::l,pre,m,i,h,hm,h8,ha=>by
   obtain⟨m,rfl⟩:∃k,m=k+1:=⟨m-1,by simp at hm;omega⟩;simp only[qae]at hm h8;rw[zba]at ha
   rw[Rd.nodes,oG (by rw[ha.isAt];unfold tkNo;rfl),zeJ oA,okB,zx5 (h n qah) ha,okB,
    zpj l (pre++[n]) m _ (fun x hx=>h x (qaj _ hx)) oA (by rw[qab];simp only[qae,qal];omega) ha.app]
   rw[zba];simp only[qay,qaZ,qaO,qab];congr 1;omega
theorem zBa(es:List En)(n:Nod):∃T,tkNo es n=ztx::T:=⟨_,rfl⟩
theorem zqO(h1:∀u∈p.enums,EnV u)(h2:p.enums.length≤24)(h3:∀n∈p.nodes,NoW ⟨tkPr p,p.enums⟩ n)(h4:p.nodes.length≤96):Rd.program ⟨tkPr p,[]⟩ 0= .ok p (tkPr p).length:=by
 have hl:(tkPr p).length=(flT tkEn p.enums).length+(flT (tkNo p.enums) p.nodes).length:=by unfold tkPr;rw[qab]
 have n1:=zc4 (g:=tkEn) (fun u=>by unfold tkEn;simp) p.enums;have n2:=zc4 (g:=tkNo p.enums) (fun u=>by unfold tkNo;simp) p.nodes
 have ht:isL (flT (tkNo p.enums) p.nodes) [116,121,112,101]=false:=by
  rcases zlD (zBa p.enums) p.nodes []with ⟨_,e⟩|⟨T,e⟩ <;> rw[qaz]at e <;> rw[e] <;> rfl
 have ha:At ⟨tkPr p,[]⟩ 0 (flT tkEn p.enums++flT (tkNo p.enums) p.nodes):=rfl;have hb:At ⟨tkPr p,p.enums⟩ (0+(flT tkEn p.enums).length) (flT (tkNo p.enums) p.nodes):=At.app (A:=flT tkEn p.enums) (i:=0) rfl;have e1:=zpP (R:=⟨tkPr p,[]⟩) p.enums [] (tkPr p).length 0 _ h1 oA (by simpa using h2) ha ht;have e2:=zpj (R:=⟨tkPr p,p.enums⟩) p.nodes [] (tkPr p).length _ h3 oA (by simpa using h4) hb;rw[qaO]at e1 e2;rw[Rd.program];show((Rd.types ⟨tkPr p,[]⟩ (tkPr p).length [] 0).bind _)=_;rw[e1,okB];show((Rd.nodes ⟨tkPr p,p.enums⟩ (tkPr p).length [] (0+(flT tkEn p.enums).length)).bind _)=_;rw[e2,okB,hl];congr 1;show 0+(flT tkEn p.enums).length+(flT (tkNo p.enums) p.nodes).length=_;omega
structure EnX (es:List En):Prop extends EnW es where
 nm:∀u∈es,ident u.name=true
 nod:(es.map En.name).Nodup
theorem zlv{s:Str}:∀ {es:List En} {k i:Nat},(es.map En.name).Nodup->(es.map En.name)[i]?=some s->zfd s k es=some (k+i)
 | u::es,k,0,_,h=>by
   rw[qaf,qcf]at h;injection h with h
   rw[zfd,oG h];rfl
 | u::es,k,i+1,hn,h=>by
   rw[qaf,qaU]at h;rw[qaf]at hn;have hm:=qau h;rw[zfd,oH (show ¬u.name=s from fun e=>(qbz.1 hn).1 (by rw[e];exact hm)),zlv (qbz.1 hn).2 h];congr 1;omega
theorem zjm:∀(es:List En) (k:Nat),((((es.zipIdx k).map entQ).flatten.map keyQ).Nodup->(es.map En.name).Nodup)/\∀s,s∈es.map En.name->((2:Int),s)∈((es.zipIdx k).map entQ).flatten.map keyQ
 | [],k=>⟨fun _=>oC,fun s hs=>by simp at hs⟩
 | x::es,k=>by
   obtain⟨h1,h2⟩:=zjm es (k+1);rw[qcJ,qaf,qaK,qaw,qaf];constructor
   ·intro hn;rw[qbs]at hn;obtain⟨n1,n2,n3⟩:=hn;refine qbz.2 ⟨fun hm=>?_,h1 n2⟩;exact n3 (2,x.name) (qaL.2 ⟨(2,x.name,(k:Int)),qah,rfl⟩) _ (h2 _ hm) rfl
   ·intro s hs;rw[qbe];rcases qa9.1 hs with rfl|hs
    ·exact .inl (qaL.2 ⟨(2,x.name,(k:Int)),qah,rfl⟩)
    ·exact .inr (h2 s hs)
theorem orN{a b:Int}(h:orE a b=0):a=0/\b=0:=zaG h
theorem ifZ{P:Prop}[Decidable P](hc:c≠0)(h:(if P then 0 else c)=0):P:=by
 split at h
 ·assumption
 ·exact oI h hc
theorem ifN{P:Prop}[Decidable P](hc:c≠0)(h:(if P then c else 0)=0):¬P:=by
 split at h
 ·exact oI h hc
 ·assumption
theorem ziu(h:(zaY p).2=0):(p.enums.length≤24/\p.nodes.length≤96)/\∀u∈p.enums,EnV u/\ident u.name=true/\EnL u:=by
 unfold zaY at h;have h1:limE p=0:=qaA fun hh=>by rw[oG hh]at h;exact hh h
 rw[oH (by simp[h1])]at h;have h2:zad zep p.enums=0:=qaA fun hh=>by rw[oG hh]at h;exact hh h
 refine⟨ifZ oB h1,fun u hu=>?_⟩;have h3:=zac h2 u hu;unfold zep at h3;obtain⟨a1,a2⟩:=orN h3;obtain⟨a3,a4⟩:=orN a2;obtain⟨a5,a6⟩:=orN a4;exact⟨⟨fun e=>ifN oB a3 (by rw[e];rfl),ifZ oB a5⟩,zb1 a1,⟨zbF (zb1 a1),fun s hs=>zbF (zb1 (zac a6 s hs))⟩⟩
theorem zzf(h:(zcL p).2=0):EnX p.enums:=by
 obtain⟨h1,h2,_⟩:=zc1 h;obtain⟨h3,h4⟩:=zkd p.enums.zipIdx [] oC h2;rw[qaO]at h4;exact⟨(zio h).1,fun u hu=>((ziu h1).2 u hu).2.1,(zjm p.enums 0).1 h4⟩
section
variable {es:List En}
structure ExR' (es:List En) (e:Ex):Prop where
 lx:LxP (shF es 400 e) (tkF es 400 e)
 rd:∀K,PE ⟨K,es⟩ e (tkF es 400 e)
theorem zrW(hE:EnX es)(hX:zbg es e=0)(hv:∀x∈flat e,x.kind.1=2->zbs x.name 0 es=none):ExR' es e:=by
 have h0:wEx e≤400/\∀x∈flat e,oneX x=0/\insX es x=0:=by
  have h:=hX;unfold zbg at h;split at h
  ·rename_i hc;unfold zev at hc;split at hc
   ·exact oI hc oB
   ·exact⟨oA,fun x hx=>⟨zac hc x hx,zac h x hx⟩⟩
  ·contradiction
 exact⟨(zpI 400 e h0.1 fun x hx=>(zzN hE.toEnW (K:=[]) (h0.2 x hx).1 (h0.2 x hx).2 (hv x hx)).1).t,fun K=>(zpq (R:=⟨K,es⟩) 400 e h0.1 fun x hx=>(zzN hE.toEnW (h0.2 x hx).1 (h0.2 x hx).2 (hv x hx)).2).pe⟩
theorem ztl{t:Int}(h:0<zbd es t):t=1\/t=2\/3≤t/\∃u,es[(t-3).toNat]?=some u/\zaM es t=(u,true):=by
 by_cases h1:t=1
 ·exact .inl h1
 by_cases h2:t=2
 ·exact .inr (.inl h2)
 unfold zbd at h;rw[oH h1,oH h2]at h;right;right
 unfold zaM at h⊢;split at h
 ·rename_i hc;rw[oG hc];cases hu:es[(t-3).toNat]? with
  | none=>rw[hu]at h;simp at h
  | some u=>exact⟨hc.1,u,rfl,rfl⟩
 ·simp at h
theorem zzT(hE:EnX es)(h:onE es o=0):(LxP (valS es o.t.1 o.tag.1) [tgTk es o.t.1 o.tag.1]/\zb0 1 o.name)/\∀K,SmW ⟨K,es⟩ o:=by
 unfold onE at h;obtain⟨h1,h2⟩:=orN h;obtain⟨h3,h4⟩:=ifZ oB h2;have hn:=zbF (zb1 h1);unfold hasT at h4;rw[oH h3]at h4;simp only[qar,decide_eq_true_eq]at h4;obtain⟨h5,h6⟩:=h4;rcases ztl (es:=es) (t:=o.t.1) (by omega)with ht|ht|⟨ht,u,hu,he⟩
 ·have hv:o.tag.1=0\/o.tag.1=1:=by
   rw[ht]at h6
   have:o.tag.1<2:=h6
   omega
  have k:=fun K=>zkY (es:=es) (K:=K) hv
  rw[<-ht]at k;refine⟨⟨(k []).1,hn⟩,fun K=>⟨?_,oA,h5⟩⟩
  have:=(k K).2.2
  rw[ht];rw[ht]at this;exact this
 ·exact oI ht h3
 ·have hl:o.tag.1<((zaM es o.t.1).1.tags.length:Int):=by
   unfold zbd at h6;rw[oH oA,oH h3]at h6;exact h6
  have k:=fun K=>zpQ hE.toEnW (K:=K) ht h5 hl
  exact⟨⟨(k []).1,hn⟩,fun K=>⟨(k K).2.2,oA,h5⟩⟩
theorem zoI(hE:EnX es){pt:Bool}(h:ze8 es pt d=0):DcL es d/\∀K,DcW ⟨K,es⟩ d:=by
 unfold ze8 at h;obtain⟨h1,h2⟩:=orN h;obtain⟨h3,h4⟩:=orN h2;obtain⟨_,h5⟩:=orN h4;obtain⟨h6,h7⟩:=orN h5;have h8:=zac h7;have hs:=ztl (ifZ oB h3);refine⟨⟨zbF (zb1 h1),?_,fun o ho=>(zzT hE (h8 o ho)).1⟩,fun K=>⟨?_,fun o ho=>(zzT hE (h8 o ho)).2 K,ifZ oB h6⟩⟩
 ·rcases hs with hs|hs|⟨_,u,hu,he⟩
  ·exact .inl hs
  ·exact .inr (.inl hs)
  ·rw[he];exact .inr (.inr (zbF (hE.nm u (qau hu))))
 ·rcases hs with hs|hs|⟨h3,u,hu,he⟩
  ·exact .inl hs
  ·exact .inr (.inl hs)
  ·refine .inr (.inr ⟨h3,?_⟩);show zfd (zaM es d.ty.1).1.name 0 es=_;rw[he,zlv (s:=u.name) (k:=0) (i:=(d.ty.1-3).toNat) hE.nod (by rw[qan,hu];rfl),qaV]
variable {p:Prog}{seen:List (Int×Str×Int)}{node:Int}
def Cl(seen:List (Int×Str×Int))(l:List Str):Prop:=∀s∈l,(zaC seen 0 s).isSome=false
theorem Cl.app{a b:List Str}(h:Cl seen a)(h2:Cl seen b):Cl seen (a++b):=fun s hs=>(qbe.1 hs).elim (h s) (h2 s)
theorem zof(hS:EnS es seen){vis:List Str}(hc:Cl seen vis){left:Int}(h:zd4 p seen node vis left e=0):∀x∈flat e,x.kind.1=2->zbs x.name 0 es=none:=by
 intro x hx hk
 have h4:x.name∈vis:=by
  unfold zd4 at h;obtain⟨h5,h6⟩:=orN h
  have key:∀left,zft p seen node vis left x=0->x.name∈vis:=fun left h7=>by
   unfold zft at h7;rw[oG (.inl hk)]at h7;exact ifZ oB h7
  rw[zbW]at hx;rcases qa9.1 hx with rfl|hx
  ·exact key _ h5
  ·exact key _ (zac h6 x hx)
 refine ziE fun w hw hm=>?_
 have h5:=hS.tag w hw _ hm;rw[hc _ h4]at h5;cases h5
theorem zwI{vis:List Str}(h:(zah (zbD seen vis) lv0 l).2=0):Cl seen (zah (zbD seen vis) lv0 l).1.own/\∀d∈l,(zaC seen 0 d.name).isSome=false:=by
 have key:∀(a:Lv) (d:Decl),(zbD seen vis a d).2=0->(zaC seen 0 d.name).isSome=false:=fun a d h0=>by
  have:=ifN oB h0
  cases hh:(zaC seen 0 d.name).isSome with
  | false=>rfl
  | true=>exact oI (.inl hh) this
 have h1:=zdQ (fun a:Lv=>Cl seen a.own) l lv0 (fun a x hx ha h0 s hs=>(zsh hs).elim (ha s) fun e=>by rw[e];exact key a x h0) (fun s hs=>by cases hs) h;exact⟨h1.1,fun d hd=>by obtain⟨b,_,hb⟩:=h1.2 d hd;exact key b d hb⟩
theorem zrV(hE:EnX es)(hS:EnS es seen){vis low:List Str}{a:Lv}(hv:Cl seen vis)(ha:Cl seen a.own){l:List Equ}(hX:zad (equE es) l=0)(h:(zah (equS p seen node vis low) a l).2=0):(zah (equS p seen node vis low) a l).1.own=a.own/\∀q∈l,EqL es q/\∀K,EqW ⟨K,es⟩ q:=by
 obtain⟨h1,h2⟩:=zdQ (fun b:Lv=>b.own=a.own) l a (fun b v hb hh _=>zxB.trans hh) rfl h;refine⟨h1,fun q hq=>?_⟩;obtain⟨b,hb,h3⟩:=h2 q hq;have h4:=zac hX q hq;unfold equE at h4;obtain⟨a1,a2⟩:=orN h4;obtain⟨a3,a4⟩:=orN a2;obtain⟨a5,a6⟩:=orN a4;obtain⟨a7,_⟩:=orN a6;unfold equS at h3;have h5:=zrW hE a7 (zof hS (hv.app (by rw[hb];exact ha)) (orN h3).2);exact⟨⟨fun s hs=>zbF (zb1 (zac a5 s hs)),h5.lx⟩,fun K=>⟨fun e=>ifN oB a1 (by rw[e];rfl),ifZ oB a3,h5.rd K⟩⟩
theorem zrQ:∀(l pre:List Str),pre.Nodup->dupE pre l=0->(pre++l).Nodup
 | [],pre,h,_=>by rwa [qaz]
 | s::l,pre,h,h2=>by
   rw[dupE]at h2;split at h2
   ·exact oI h2 oB
   ·rename_i hs
    have h3:(pre++[s]).Nodup:=by
     rw[qbs];refine⟨h,oC,fun a ha b hb=>?_⟩;rw[qbl]at hb;subst hb;rintro rfl;exact hs ha
    have:=zrQ l (pre++[s]) h3 h2
    rwa [qay]at this
theorem zpM(hE:EnX es)(hS:EnS es seen){vis:List Str}(hv:Cl seen vis){strong:Bool}{n:Int}(hn:n=sts.length)(hnod:(sts.map Sta.name).Nodup)(hid:∀s∈sts,ident s.name=true){l:List Tran}(hX:zad (zfa es n strong) l=0)(h:zrB p seen node vis l=0):
  ∀q∈l,TrL es sts q/\TgW (sts.map Sta.name) sts q/\∀K,PE ⟨K,es⟩ q.cond (tkF es 400 q.cond):=fun q hq=>by
 have h1:=zac hX q hq;unfold zfa at h1;obtain⟨a1,a2⟩:=orN h1;obtain⟨a3,_⟩:=orN a2;obtain⟨b1,b2⟩:=ifZ oB a1;have h2:=zrW hE a3 (zof hS hv (zac h q hq));have hlt:q.to.1.toNat<sts.length:=oA
 have hg:sts[q.to.1.toNat]?=some sts[q.to.1.toNat]:=qad hlt;have ht:tgN sts q=sts[q.to.1.toNat].name:=by unfold tgN;rw[hg];rfl
 refine⟨⟨h2.lx,?_⟩,⟨?_,b1⟩,h2.rd⟩
 ·show zb0 1 (tgN sts q);rw[ht];exact zbF (hid _ (qai hlt))
 ·rw[ht,zki (j:=q.to.1.toNat) hnod (by rw[qan,hg];rfl),qaV]
theorem zot(hE:EnX es)(hS:EnS es seen):∀(k:Nat) (vis low:List Str) (t:Lv) (a:Auto),Cl seen vis->Cl seen t.own->zdh es k a=0->(zcN p seen node k vis low t a).2=0->AuL es k a/\∀K,AuW ⟨K,es⟩ k a
 | 0,_,_,_,_,_,_,h,_=>oI (show(3:Int)=0 from h) oB
 | k+1,vis,low,t,a,hv,ht,hX,h=>by
   unfold zdh at hX;obtain⟨_,x1⟩:=orN hX;obtain⟨x2,x3⟩:=orN x1;unfold zcN at h;dsimp only at h;obtain⟨g1,g2⟩:=orN h;obtain⟨g3,_⟩:=orN g2;have hnod:=zrQ _ [] oC g1;rw[qaO]at hnod;have hst:=zac x3
   have hid:∀s∈a.states,ident s.name=true:=fun s hs=>by
    have:=hst s hs
    unfold stE at this;exact zb1 (orN this).1
   have hvv:=hv.app ht
   have key:∀s∈a.states,StL es (AuL es k) a.states s/\∀K,StW ⟨K,es⟩ (AuW ⟨K,es⟩ k) a.states s:=fun s hs=>by
    have y1:=hst s hs;have y2:=zac g3 _ (qaL.2 ⟨s,hs,rfl⟩);unfold stE at y1;unfold stS at y2;dsimp only at y2;obtain⟨e1,y1⟩:=orN y1;obtain⟨e2,y1⟩:=orN y1;obtain⟨e3,y1⟩:=orN y1;obtain⟨e4,y1⟩:=orN y1;obtain⟨e5,y1⟩:=orN y1;obtain⟨e6,e7⟩:=orN y1;obtain⟨n1,n2,n3,n4,n5⟩:=ifZ oB e2;obtain⟨f1,y2⟩:=orN y2;obtain⟨_,y2⟩:=orN y2;obtain⟨f2,y2⟩:=orN y2;obtain⟨f3,y2⟩:=orN y2;obtain⟨f4,y2⟩:=orN y2;obtain⟨f5,_⟩:=orN y2;obtain⟨o1,_⟩:=zwI f1;obtain⟨o2,q1⟩:=zrV hE hS hvv o1 e4 f2;have c1:Cl seen (zah (equS p seen node (vis++t.own) (low++t.done)) (zah (zbD seen (vis++t.own)) lv0 s.locals).1 s.eqs).1.own:=by rw[o2];exact o1
    obtain⟨o3,q2⟩:=zdQ (fun b:Lv=>Cl seen b.own) s.autos _ (fun b x hx hb _=>by cases k with|zero=>exact hb|succ k=>exact hb) c1 f3
    have q3:∀b∈s.autos,AuL es k b/\∀K,AuW ⟨K,es⟩ k b:=fun b hb=>by
     obtain⟨c,hc,h0⟩:=q2 b hb;exact zot hE hS k _ _ c b hvv hc (zac e5 b hb) h0
    have q4:=zpM hE hS hvv (n:=a.states.length) (sts:=a.states) rfl hnod hid e6 f4;have q5:=zpM hE hS (hvv.app o3) (n:=a.states.length) (sts:=a.states) rfl hnod hid e7 f5;have q6:=fun d hd=>zoI hE (zac e3 d hd)
    exact⟨⟨zbF (zb1 e1),fun d hd=>(q6 d hd).1,fun q hq=>(q4 q hq).1,fun q hq=>(q1 q hq).1,fun b hb=>(q3 b hb).1,fun q hq=>(q5 q hq).1⟩,
     fun K=>⟨fun d hd=>(q6 d hd).2 K,n1,fun q hq=>(q4 q hq).2.2 K,n4,fun q hq=>(q4 q hq).2.1,fun q hq=>(q1 q hq).2 K,n2,fun b hb=>(q3 b hb).2 K,n3,fun q hq=>(q5 q hq).2.2 K,n5,fun q hq=>(q5 q hq).2.1⟩⟩
   exact⟨fun s hs=>(key s hs).1,fun K=>⟨ifZ oB x2,fun s hs=>(key s hs).2 K⟩⟩
theorem ztc:∀(l:List Str) (o:List Str),Cl seen o->Cl seen l->Cl seen (l.foldl ins o)
 | [],_,h,_=>h
 | x::l,o,h,h2=>ztc l (ins o x) (fun s hs=>(zsh hs).elim (h s) fun e=>by rw[e];exact h2 x qah) fun s hs=>h2 s (qaj _ hs)
theorem zlp(hE:EnX es)(hS:EnS es seen){L:List Decl}(hL:∀d∈L,(zaC seen 0 d.name).isSome=false){l:List Ex}(hX:zad (zbg es) l=0)(h:zjc p seen node L l=0):∀e∈l,ExR' es e:=fun e he=>
 zrW hE (zac hX e he) (zof hS (ztc (L.map Decl.name) [] (fun s hs=>by cases hs) fun s hs=>by obtain⟨d,hd,rfl⟩:=qaL.1 hs;exact hL d hd) (zac h e he))
theorem zx9(hE:EnX es)(hS:EnS es seen){n:Nod}(hX:(zco es n).2=0)(h:(zuP p seen node n).2=0):NoL es n/\∀K,NoW ⟨K,es⟩ n:=by
 unfold zco at hX;have h1:zlN es n=0:=qaA fun hh=>by rw[oG hh]at hX;exact hh hX
 rw[oH (by simp[h1])]at hX;have h2:zad (equE es) n.eqs=0:=qaA fun hh=>by rw[oG hh,zcu]at hX;exact hh hX
 rw[oH (by simp[h2])]at hX;replace hX:zn8 es n=0:=hX;unfold zlN at h1;unfold zn8 at hX;obtain⟨x1,hX⟩:=orN hX;obtain⟨x2,x3⟩:=orN hX;obtain⟨a1,h1⟩:=orN h1;obtain⟨a2,h1⟩:=orN h1;obtain⟨a3,h1⟩:=orN h1;obtain⟨a4,h1⟩:=orN h1;obtain⟨a5,a6⟩:=orN h1;obtain⟨n1,n2,n3,n4,n5,n6,n7⟩:=ifZ oB a2;unfold zuP at h;dsimp only at h;unfold zlt at h;have d0:(zah (zbD seen []) lv0 (zdd n)).2=0:=qaA fun hh=>by rw[oG hh]at h;exact hh h
 rw[oH (by simp[d0])]at h;obtain⟨o1,o2⟩:=zwI d0;generalize (zah (zbD seen []) lv0 (zdd n)).1=A at*;have d1:zjG A.own n.locals=0:=qaA fun hh=>by rw[oG hh]at h;exact hh h
 rw[oH (by simp[d1])]at h;have d2:(zah (equS p seen node [] ((n.ins.map Decl.name).foldl ins [])) A n.eqs).2=0:=qaA fun hh=>by rw[oG hh]at h;exact hh h
 rw[oH (by simp[d2])]at h;dsimp only at h;obtain⟨f1,h⟩:=orN h;obtain⟨f2,h⟩:=orN h;obtain⟨f3,_⟩:=orN h;have hn0:Cl seen ([]:List Str):=fun s hs=>by cases hs
 obtain⟨o3,q1⟩:=zrV hE hS hn0 o1 h2 d2;obtain⟨_,q2⟩:=zdQ (fun b:Lv=>Cl seen b.own) n.autos _ (fun b x hx hb _=>hb) (by rw[o3];exact o1) f1
 have q3:∀b∈n.autos,AuL es 3 b/\∀K,AuW ⟨K,es⟩ 3 b:=fun b hb=>by
  obtain⟨c,hc,h0⟩:=q2 b hb;exact zot hE hS 3 _ _ c b hn0 hc (zac x1 b hb) h0
 have q4:=zlp hE hS (fun d hd=>o2 d (by unfold zdd;exact qbE _ hd)) x2 f2
 have q5:=zlp hE hS (fun d hd=>o2 d (by
  unfold zdd;rcases qbe.1 hd with hd|hd
  ·exact qbE _ hd
  ·exact qb4 _ (qbE _ hd))) x3 f3
 have q6:=fun d hd=>zoI hE (zac a4 d hd)
 have q7:=fun d hd=>zoI hE (zac a5 d hd)
 have q8:=fun d hd=>zoI hE (zac a6 d hd)
 exact⟨⟨zbF (zb1 a1),fun d hd=>(q6 d hd).1,fun d hd=>(q7 d hd).1,fun d hd=>(q8 d hd).1,fun e he=>(q4 e he).lx,fun e he=>(q5 e he).lx,fun q hq=>(q1 q hq).1,fun b hb=>(q3 b hb).1⟩,
  fun K=>⟨fun d hd=>(q6 d hd).2 K,n1,fun d hd=>(q7 d hd).2 K,n2,fun e=>ifN oB a3 (by rw[e];rfl),fun d hd=>(q8 d hd).2 K,n3,fun e he=>(q4 e he).rd K,n6,fun e he=>(q5 e he).rd K,n7,fun q hq=>(q1 q hq).2 K,n4,fun b hb=>(q3 b hb).2 K,n5⟩⟩
end
theorem zpi(h:(zcL p).2=0):∀n∈p.nodes,NoL p.enums n/\∀K,NoW ⟨K,p.enums⟩ n:=fun n hn=>by
 obtain⟨h1,h2,h3⟩:=zc1 h
 obtain⟨i,hi⟩:∃i,(n,i)∈p.nodes.zipIdx:=by
  obtain⟨i,hi,e⟩:=List.getElem_of_mem hn;refine⟨i,?_⟩;rw[List.mem_iff_getElem?];exact⟨i,by simp[qad hi,e]⟩
 obtain⟨b,hb,h4⟩:=(zdQ (EnS p.enums) p.nodes.zipIdx _ (fun a x hx ha _=>ha.add _) (zio h).2 h3).2 _ hi;have h5:(zc8 p b i n).2=0:=h4;unfold zc8 at h5;split at h5
 ·exact oI h5 oB
 ·exact zx9 (zzf h) (hb.add _) (zit h1 n hn) h5
end Go.Proofs.YtdicfgideclbdaaGreatDoor
