import Derived.Test.YtdicfgideclbdaaGreatDoorAk27
import Derived.Test.YtdicfgideclbdaaGreatDoorAk38
set_option maxHeartbeats 64000000
set_option linter.all false
namespace Go.Proofs.YtdicfgideclbdaaGreatDoor
open Go Go.TL
attribute [local irreducible] TR TO Then zaj RetK Sound zac Kf GG zaQ
variable {A B x:Str}{Ka Kb L:List Tk}{c:Int}{es:List En}{d:Decl}{l:List Decl}{q:Equ}{sts:List Sta}{g:Auto->List Tk}{P:Auto->Prop}{e:Ex}{p:Prog}{most:Nat}{α:Type}{o:OnC}{bd:Nat->PR (List Equ×List Auto)}{R:Rd}
abbrev zts:Tk:=(4,[58])
abbrev tBar:Tk:=(4,[124])
abbrev tEqS:Tk:=(4,[61])
abbrev tVar:Tk:=(3,[118,97,114])
abbrev ztt:Tk:=(3,[110,111,100,101])
abbrev tRet:Tk:=(3,[114,101,116,117,114,110,115])
abbrev tLet:Tk:=(3,[108,101,116])
abbrev tTel:Tk:=(3,[116,101,108])
abbrev ztu:Tk:=(3,[116,121,112,101])
abbrev tAss:Tk:=(3,[97,115,115,117,109,101])
abbrev tEns:Tk:=(3,[101,110,115,117,114,101])
abbrev tAut:Tk:=(3,[97,117,116,111,109,97,116,111,110])
abbrev tSta:Tk:=(3,[115,116,97,116,101])
abbrev tUnl:Tk:=(3,[117,110,108,101,115,115])
abbrev tUnt:Tk:=(3,[117,110,116,105,108])
abbrev tDo:Tk:=(3,[100,111])
abbrev zmJ:Tk:=(3,[100,111,110,101])
abbrev tEnd:Tk:=(3,[101,110,100])
def tkTy(es:List En)(t:Int):Tk:=if t=1 then(3,[98,111,111,108]) else if t=2 then(3,[105,110,116]) else(1,(zaL es t).1.name)
def tkSm(es:List En)(o:OnC):List Tk:=[zk0,tgTk es o.t.1 o.tag.1,tL,(1,o.name),tR]
def tkDc(es:List En)(d:Decl):List Tk:=(1,d.name)::zts::tkTy es d.ty.1::(d.clock.map (tkSm es)).flatten
def tkJ(t:Tk):List (List Tk)->List Tk
 | []=>[]
 | x::l=>x++(l.map fun y=>t::y).flatten
def tkDs(es:List En)(l:List Decl):List Tk:=tkJ zcl (l.map (tkDc es))
def tkLc(es:List En)(l:List Decl):List Tk:=if 0<l.length then tVar::(tkDs es l++[zcl]) else[]
def tkNm(t:Tk)(l:List Str):List Tk:=tkJ t (l.map fun s=>[(1,s)])
def tkLf(l:List Str):List Tk:=if 1<l.length then tL::(tkNm zg9 l++[tR]) else tkNm zg9 l
def tkQ(es:List En)(q:Equ):List Tk:=tkLf q.left++tEqS::(tkF es 400 q.right++[zcl])
def tkTr(es:List En)(w:Tk)(sts:List Sta)(q:Tran):List Tk:=w::(tkF es 400 q.cond++[if q.resume=true then zoc else ziO,(1,((sts[q.to.1.toNat]?).map Sta.name).getD []),zcl])
def flT{α:Type}(g:α->List Tk)(l:List α):List Tk:=(l.map g).flatten
def tkSt(es:List En)(f:Auto->List Tk)(sts:List Sta)(s:Sta):List Tk:=
 tSta::(1,s.name)::(tkLc es s.locals++flT (tkTr es tUnl sts) s.unl++tDo::(flT (tkQ es) s.eqs++flT f s.autos++flT (tkTr es tUnt sts) s.unt++[zmJ]))
def tkAu(es:List En):Nat->Auto->List Tk
 | 0,_=>[]
 | m+1,a=>tAut::(flT (tkSt es (tkAu es m) a.states) a.states++[tEnd])
def tkCl(es:List En)(w:Tk)(e:Ex):List Tk:=w::(tkF es 400 e++[zcl])
def tkNo(es:List En)(n:Nod):List Tk:=
 ztt::(1,n.name)::tL::(tkDs es n.ins++tR::tRet::tL::(tkDs es n.outs++tR::(tkLc es n.locals++flT (tkCl es tAss) n.assume++flT (tkCl es tEns) n.ensure++tLet::(flT (tkQ es) n.eqs++flT (tkAu es 3) n.autos++[tTel]))))
def tkEn(u:En):List Tk:=ztu::(1,u.name)::tEqS::(tkNm tBar u.tags++[zcl])
def tkPr(p:Prog):List Tk:=flT tkEn p.enums++flT (tkNo p.enums) p.nodes
def LxL(T:Str)(Ks:List Tk):Prop:=∀R K,Lx R K->Lx (T++R) (Ks++K)
theorem LxL.emp:LxL [] []:=fun R K h=>h
theorem LxL.app(hA:LxL A Ka)(hB:LxL B Kb):LxL (A++B) (Ka++Kb):=fun R K h=>by
 rw[qay,qay];exact hA _ _ (hB _ _ h)
theorem LxL.flat{α:Type}{g:α->Str}{h:α->List Tk}:∀ {l:List α},(∀x∈l,LxL (g x) (h x))->LxL (zai g l) (flT h l)
 | [],_=>.emp
 | x::l,hx=>(hx x qah).app (LxL.flat fun y hy=>hx y (qai _ hy))
theorem zmq{R:Str}{K:List Tk}(h:Lx R K):∀n,Lx (Go.Lib.repeatL [32,32] n++R) K
 | 0=>h
 | n+1=>by
   rw[show Go.Lib.repeatL ([32,32]:Str) (n+1)=[32,32]++Go.Lib.repeatL [32,32] n from rfl,qay];exact Lx.blank oB (Lx.blank oB (zmq h n))
theorem LxP.line(h:LxP A Ka)(lv:Nat):LxL (za2 lv A) Ka:=fun R K hR=>by
 unfold za2;rw[qay,qay];exact zmq (h _ _ (.cons oB) (Lx.blank oB hR)) lv
theorem LxP.semi(h:LxP A Ka):LxP (A++[59]) (Ka++[zcl]):=h.app (zcF oB) ⟨59,[],rfl,oB⟩
theorem LxP.sgn{c:UInt8}(hA:LxP A Ka)(hB:LxP B Kb)(hc:c∈sepL)(hs:[c]∈zck)(h4:c≠45/\c≠60/\c≠62):LxP (A++c::32::B) (Ka++(4,[c])::Kb):=
 hA.app (LxP.sym (x:=[c]) hs (fun R _ c' r e=>⟨fun h=>oI h oB,fun h=>oI h oB,fun _=>⟨fun h=>oI (qcT h).1 h4.1,fun h=>h.elim (fun h=>oI (qcT h).1 h4.2.1) fun h=>oI (qcT h).1 h4.2.2⟩⟩) (hB.blank oB)) ⟨c,_,rfl,hc⟩
structure SepW (sep:Str) (ts:List Tk):Prop where
 lx:∀A K,LxP A K->LxP (sep++A) (ts++K)
 hd:∃c r,sep=c::r/\c∈sepL
theorem zyf:SepW [59,32] [zcl]:=⟨fun A K h=>LxP.sym (x:=[59]) oB (fun R _ c' r e=>⟨fun h=>oI h oB,fun h=>oI h oB,fun _=>⟨fun h=>oI h oB,fun h=>oI h oB⟩⟩) (h.blank oB),⟨59,_,rfl,oB⟩⟩
theorem zpD:SepW [44,32] [zg9]:=⟨fun A K h=>LxP.sym (x:=[44]) oB (fun R _ c' r e=>⟨fun h=>oI h oB,fun h=>oI h oB,fun _=>⟨fun h=>oI h oB,fun h=>oI h oB⟩⟩) (h.blank oB),⟨44,_,rfl,oB⟩⟩
theorem zz0:SepW [32,124,32] [tBar]:=⟨fun A K h=>LxP.blank oB (LxP.sym (x:=[124]) oB (fun R _ c' r e=>⟨fun h=>oI h oB,fun h=>oI h oB,fun _=>⟨fun h=>oI h oB,fun h=>oI h oB⟩⟩) (h.blank oB)),⟨32,_,rfl,oB⟩⟩
theorem zBh:SepW [32] []:=⟨fun A K h=>h.blank oB,⟨32,_,rfl,oB⟩⟩
def jT(ts:List Tk):List (List Tk)->List Tk
 | []=>[]
 | x::l=>x++(l.map (ts++ ·)).flatten
theorem zvV(t:Tk)(l:List (List Tk)):jT [t] l=tkJ t l:=by cases l <;> rfl
theorem zzf(l:List (List Tk)):jT [] l=l.flatten:=by
 cases l with
 | nil=>rfl
 | cons x l=>show x++(l.map ([]++ ·)).flatten=_;simp
section
variable {α:Type}{f:α->Str}{g:α->List Tk}{sep:Str}{ts:List Tk}
theorem zo5(hs:SepW sep ts):∀(l:List α),(∀x∈l,LxP (f x) (g x))->LxP (Go.Lib.joinTail sep (l.map f)) ((l.map fun y=>ts++g y).flatten)/\(l≠ []->∃c r,Go.Lib.joinTail sep (l.map f)=c::r/\c∈sepL)
 | [],_=>⟨LxP.emp,fun h=>oI rfl h⟩
 | y::l,h=>by
   obtain⟨h2,h3⟩:=zo5 hs l fun z hz=>h z (qai _ hz)
   have h1:=h y qah;have e:Go.Lib.joinTail sep ((y::l).map f)=sep++(f y++Go.Lib.joinTail sep (l.map f)):=by simp[Go.Lib.joinTail]
   obtain⟨c,r,hc,hm⟩:=hs.hd;refine⟨?_,fun _=>⟨c,r++(f y++Go.Lib.joinTail sep (l.map f)),by rw[e,hc];rfl,hm⟩⟩;rw[e,qaf,qaK,qay];refine hs.lx _ _ ?_;cases l with
   | nil=>
     show LxP (f y++[]) (g y++[]);rw[qaz,qaz];exact h1
   | cons z l=>exact h1.app h2 (h3 oC)
theorem zkA(hs:SepW sep ts)(l:List α)(h:∀x∈l,LxP (f x) (g x)):LxP (Go.Lib.join (l.map f) sep) (jT ts (l.map g)):=by
 cases l with
 | nil=>exact LxP.emp
 | cons x l=>
   obtain⟨h2,h3⟩:=zo5 hs l fun z hz=>h z (qai _ hz)
   have h1:=h x qah;rw[qaf,Go.Lib.join_cons,qaf,jT,qa0];cases l with
   | nil=>
     show LxP (f x++[]) (g x++[]);rw[qaz,qaz];exact h1
   | cons z l=>exact h1.app h2 (h3 oC)
end
theorem kwT(h:∃c w,x=c::w/\letter c.toNat=true/\(∀d∈x,inner d.toNat=true)/\zcA x=(3,x,0)):LxP x [(3,x)]:=zb3 h
structure DcL (es:List En) (d:Decl):Prop where
 nm:zbQ 1 d.name
 ty:d.ty.1=1\/d.ty.1=2\/zbQ 1 (zaL es d.ty.1).1.name
 ck:∀o∈d.clock,LxP (valS es o.t.1 o.tag.1) [tgTk es o.t.1 o.tag.1]/\zbQ 1 o.name
theorem zBm{t:Int}(h:t=1\/t=2\/zbQ 1 (zaL es t).1.name):LxP (zdn es t).1 [tkTy es t]:=by
 unfold zdn tkTy;by_cases h1:t=1
 ·rw[oG h1,oG h1];exact kwT ⟨_,_,rfl,oB,oB,oB⟩
 rw[oH h1,oH h1];by_cases h2:t=2
 ·rw[oG h2,oG h2];exact kwT ⟨_,_,rfl,oB,oB,oB⟩
 rw[oH h2,oH h2];rcases h with h|h|h
 ·exact oI h h1
 ·exact oI h h2
 ·exact LxP.nam oB h
theorem zAB(h:DcL es d):LxP (zcc es d) (tkDc es d):=by
 have h1:LxP (d.name++[58,32]++(zdn es d.ty.1).1) [(1,d.name),zts,tkTy es d.ty.1]:=by
  rw[qay];exact(LxP.nam oB h.nm).sgn (zBm h.ty) oB oB oB
 unfold zcc tkDc;by_cases hc:0<d.clock.length
 ·rw[oG hc];have h2:=zkA zBh (f:=smpS es) (g:=tkSm es) d.clock fun o ho=>zwK (h.ck o ho).1 (h.ck o ho).2
  rw[zzf]at h2;exact h1.thn h2
 ·rw[oH hc]
  have:d.clock=[]:=qaF oA
  rw[this];exact h1
theorem zrI(h:∀d∈l,DcL es d):LxP (zcd es l) (tkDs es l):=by
 have h2:=zkA zyf (f:=zcc es) (g:=tkDc es) l fun d hd=>zAB (h d hd)
 rw[zvV]at h2;exact h2
theorem zAW:LxP [118,97,114] [tVar]:=kwT ⟨_,_,rfl,oB,oB,oB⟩
theorem zv1(lv:Nat)(h:∀d∈l,DcL es d):LxL (zb4 es lv l) (tkLc es l):=by
 unfold zb4 tkLc;by_cases hl:0<l.length
 ·rw[oG hl,oG hl]
  have:=(zAW.cnc (zrI h).semi).line lv
  rw[qay];exact this
 ·rw[oH hl,oH hl];exact .emp
theorem zsC{sep:Str}{t:Tk}(hs:SepW sep [t]){l:List Str}(h:∀s∈l,zbQ 1 s):LxP (Go.Lib.join l sep) (tkNm t l):=by
 have h2:=zkA hs (f:=fun s:Str=>s) (g:=fun s=>[(1,s)]) l fun s hs=>LxP.nam oB (h s hs)
 rw[zvV,List.map_id']at h2;exact h2
theorem zzv{l:List Str}(h:∀s∈l,zbQ 1 s):LxP (lhsS l) (tkLf l):=by
 unfold lhsS tkLf;split
 ·have:=LxP.brk (zsC zpD h)
  rw[qay];exact this
 ·exact zsC zpD h
theorem kwEq:LxP [61] [tEqS]:=zcF oB
theorem zvO(lv:Nat)(h1:∀s∈q.left,zbQ 1 s)(h2:LxP (shF es 400 q.right) (tkF es 400 q.right)):LxL (zcn es lv q) (tkQ es q):=by
 have h:=((zzv h1).thn ((kwEq.cnc h2).semi)).line lv;unfold zcn tkQ;simpa using h
theorem zzl:LxP [99,111,110,116,105,110,117,101] [zoc]:=kwT ⟨_,_,rfl,oB,oB,oB⟩
theorem ztI{w:Str}{q:Tran}(lv:Nat)(hw:LxP w [(3,w)])(h2:LxP (shF es 400 q.cond) (tkF es 400 q.cond))(h3:zbQ 1 (((sts[q.to.1.toNat]?).map Sta.name).getD [])):LxL (zc2 es lv w sts q) (tkTr es (3,w) sts q):=by
 unfold zc2 tkTr kwS;cases q.resume with
 | true=>
   have h:=(hw.cnc (h2.thn (zzl.cnc (LxP.nam (k:=1) oB h3).semi))).line lv;simpa using h
 | false=>
   have h:=(hw.cnc (h2.thn (zvW.cnc (LxP.nam (k:=1) oB h3).semi))).line lv;simpa using h
structure EqL (es:List En) (q:Equ):Prop where
 left:∀s∈q.left,zbQ 1 s
 right:LxP (shF es 400 q.right) (tkF es 400 q.right)
structure TrL (es:List En) (sts:List Sta) (q:Tran):Prop where
 cond:LxP (shF es 400 q.cond) (tkF es 400 q.cond)
 tg:zbQ 1 (((sts[q.to.1.toNat]?).map Sta.name).getD [])
structure StL (es:List En) (P:Auto->Prop) (sts:List Sta) (s:Sta):Prop where
 nm:zbQ 1 s.name
 lc:∀d∈s.locals,DcL es d
 ul:∀q∈s.unl,TrL es sts q
 eq:∀q∈s.eqs,EqL es q
 au:∀a∈s.autos,P a
 ut:∀q∈s.unt,TrL es sts q
def AuL(es:List En):Nat->Auto->Prop
 | 0,_=>True
 | m+1,a=>∀s∈a.states,StL es (AuL es m) a.states s
structure NoL (es:List En) (n:Nod):Prop where
 nm:zbQ 1 n.name
 ins:∀d∈n.ins,DcL es d
 outs:∀d∈n.outs,DcL es d
 lc:∀d∈n.locals,DcL es d
 asm:∀e∈n.assume,LxP (shF es 400 e) (tkF es 400 e)
 en:∀e∈n.ensure,LxP (shF es 400 e) (tkF es 400 e)
 eq:∀q∈n.eqs,EqL es q
 au:∀a∈n.autos,AuL es 3 a
structure EnL (u:En):Prop where
 nm:zbQ 1 u.name
 tags:∀s∈u.tags,zbQ 1 s
theorem zAS:LxP [115,116,97,116,101] [tSta]:=kwT ⟨_,_,rfl,oB,oB,oB⟩
theorem zAU:LxP [117,110,108,101,115,115] [tUnl]:=kwT ⟨_,_,rfl,oB,oB,oB⟩
theorem zAV:LxP [117,110,116,105,108] [tUnt]:=kwT ⟨_,_,rfl,oB,oB,oB⟩
theorem kwDo:LxP [100,111] [tDo]:=kwT ⟨_,_,rfl,oB,oB,oB⟩
theorem zzm:LxP [100,111,110,101] [zmJ]:=kwT ⟨_,_,rfl,oB,oB,oB⟩
theorem zAK:LxP [97,117,116,111,109,97,116,111,110] [tAut]:=kwT ⟨_,_,rfl,oB,oB,oB⟩
theorem zAL:LxP [101,110,100] [tEnd]:=kwT ⟨_,_,rfl,oB,oB,oB⟩
theorem zAJ:LxP [97,115,115,117,109,101] [tAss]:=kwT ⟨_,_,rfl,oB,oB,oB⟩
theorem zAM:LxP [101,110,115,117,114,101] [tEns]:=kwT ⟨_,_,rfl,oB,oB,oB⟩
theorem zAO:LxP [108,101,116] [tLet]:=kwT ⟨_,_,rfl,oB,oB,oB⟩
theorem zAT:LxP [116,101,108] [tTel]:=kwT ⟨_,_,rfl,oB,oB,oB⟩
theorem zzo:LxP [110,111,100,101] [ztt]:=kwT ⟨_,_,rfl,oB,oB,oB⟩
theorem zAR:LxP [114,101,116,117,114,110,115] [tRet]:=kwT ⟨_,_,rfl,oB,oB,oB⟩
theorem zzp:LxP [116,121,112,101] [ztu]:=kwT ⟨_,_,rfl,oB,oB,oB⟩
theorem zz8{f:Nat->Auto->Str}(hf:∀lv a,P a->LxL (f lv a) (g a))(lv:Nat){s:Sta}(h:StL es P sts s):LxL (staS es f lv sts s) (tkSt es g sts s):=by
 have h1:=(zAS.cnc (LxP.nam (k:=1) oB h.nm)).line (lv+1);have h2:=zv1 (lv+2) h.lc;have h3:LxL (zai (zc2 es (lv+2) [117,110,108,101,115,115] sts) s.unl) (flT (tkTr es tUnl sts) s.unl):=LxL.flat fun q hq=>ztI _ zAU (h.ul q hq).cond (h.ul q hq).tg
 have h4:=kwDo.line (lv+1);have h5:LxL (zai (zcn es (lv+2)) s.eqs) (flT (tkQ es) s.eqs):=LxL.flat fun q hq=>zvO _ (h.eq q hq).left (h.eq q hq).right
 have h6:LxL (zai (f (lv+2)) s.autos) (flT g s.autos):=LxL.flat fun a ha=>hf _ a (h.au a ha)
 have h7:LxL (zai (zc2 es (lv+2) [117,110,116,105,108] sts) s.unt) (flT (tkTr es tUnt sts) s.unt):=LxL.flat fun q hq=>ztI _ zAV (h.ut q hq).cond (h.ut q hq).tg
 have h8:=zzm.line (lv+1)
 have:=(((((((h1.app h2).app h3).app h4).app h5).app h6).app h7).app h8)
 unfold staS tkSt;simpa using this
theorem zrl{es:List En}:∀(m lv:Nat) (a:Auto),AuL es m a->LxL (zaT es m lv a) (tkAu es m a)
 | 0,_,_,_=>.emp
 | m+1,lv,a,h=>by
   have h1:LxL (zai (staS es (zaT es m) lv a.states) a.states) (flT (tkSt es (tkAu es m) a.states) a.states):=LxL.flat fun s hs=>zz8 (fun lv b hb=>zrl m lv b hb) lv (h s hs)
   have:=((zAK.line lv).app h1).app (zAL.line lv)
   unfold zaT tkAu;simpa using this
theorem zoI{w:Str}(hw:LxP w [(3,w)])(h:LxP (shF es 400 e) (tkF es 400 e)):LxL (zaI es w e) (tkCl es (3,w) e):=by
 have:=(hw.cnc h.semi).line 1
 unfold zaI tkCl;simpa using this
theorem zy3(h:∀d∈l,DcL es d)(hA:LxP A Ka)(hh:∃c r,A=c::r/\c∈sepL):LxP (40::(zcd es l++41::A)) (tL::(tkDs es l++tR::Ka)):=((zrI h).app hA.cl ⟨41,_,rfl,oB⟩).br
theorem zxA{n:Nod}(h:NoL es n):LxL (zhj es n) (ztt::(1,n.name)::tL::(tkDs es n.ins++tR::tRet::tL::(tkDs es n.outs++[tR]))):=by
 have h0:LxP (40::(zcd es n.outs++41::[])) (tL::(tkDs es n.outs++tR::[])):=((zrI h.outs).app LxP.emp.cl ⟨41,_,rfl,oB⟩).br;have h2:LxP (32::([114,101,116,117,114,110,115]++32::(40::(zcd es n.outs++41::[])))) (tRet::(tL::(tkDs es n.outs++tR::[]))):=(zAR.cnc h0).blank oB;have h3:=zy3 h.ins h2 ⟨32,_,rfl,oB⟩;have h4:=(zzo.cnc ((LxP.nam (k:=1) oB h.nm).app h3 ⟨40,_,rfl,oB⟩)).line 0;unfold zhj;simpa using h4
theorem zxV{n:Nod}(h:NoL es n):LxL (zbz es n) (tkNo es n):=by
 have h1:=zxA h;have h2:=zv1 1 h.lc;have h3:LxL (zai (zaI es [97,115,115,117,109,101]) n.assume) (flT (tkCl es tAss) n.assume):=LxL.flat fun e he=>zoI zAJ (h.asm e he)
 have h4:LxL (zai (zaI es [101,110,115,117,114,101]) n.ensure) (flT (tkCl es tEns) n.ensure):=LxL.flat fun e he=>zoI zAM (h.en e he)
 have h5:=zAO.line 0;have h6:LxL (zai (zcn es 1) n.eqs) (flT (tkQ es) n.eqs):=LxL.flat fun q hq=>zvO _ (h.eq q hq).left (h.eq q hq).right
 have h7:LxL (zai (zaT es 3 1) n.autos) (flT (tkAu es 3) n.autos):=LxL.flat fun a ha=>zrl 3 1 a (h.au a ha)
 have h8:=zAT.line 0
 have:=(((((((h1.app h2).app h3).app h4).app h5).app h6).app h7).app h8)
 unfold zbz tkNo;simpa using this
theorem zxp{u:En}(h:EnL u):LxL (zex u) (tkEn u):=by
 have:=(zzp.cnc ((LxP.nam (k:=1) oB h.nm).thn (kwEq.cnc (zsC zz0 h.tags).semi))).line 0
 unfold zex tkEn;simpa using this
theorem zx2(h1:∀u∈p.enums,EnL u)(h2:∀n∈p.nodes,NoL p.enums n):Lx (zeU p) (tkPr p):=by
 have h:LxL (zeU p) (tkPr p):=(LxL.flat fun u hu=>zxp (h1 u hu)).app (LxL.flat fun n hn=>zxV (h2 n hn))
 have:=h _ _ Lx.nil
 rwa [qaz,qaz]at this
theorem zlX{i:Nat}{s:Str}(ha:At R i ((1,s)::L)):R.id i= .ok s (i+1):=by
 rw[Rd.id,oG (by rw[ha.kind];rfl),ha.txt];rfl
theorem zeQ{n i:Nat}(h:n<most):limR n most i= .ok () i:=by unfold limR;rw[oH (by omega)]
theorem okB{β:Type}{x:α}{j:Nat}{f:α->Nat->PR β}:(PR.ok x j).bind f=f x j:=rfl
theorem At.apl{i:Nat}{A B:List Tk}(h:At R i (A++B++L)):At R i (A++(B++L)):=by rw[<-qay];exact h
structure SmW (R:Rd) (o:OnC):Prop where
 tg:TagW R o.t.1.toNat o.tag.1.toNat (tgTk R.es o.t.1 o.tag.1)
 t0:0≤o.t.1
 v0:0≤o.tag.1
theorem zz6(h:SmW R o){i:Nat}(ha:At R i (tkSm R.es o++L)):R.sampling (i+1)= .ok o (i+5):=by
 have h1:=ziz h.tg (s:=o.name) (L:=L) ha.tl;have e1:toI ((o.t.1.toNat:Nat):Int)=o.t:=zdA (by have:=h.t0;omega);have e2:toI ((o.tag.1.toNat:Nat):Int)=o.tag:=zdA (by have:=h.v0;omega);rw[h1,e1,e2]
theorem zvF:∀(l:List OnC) (pre:List OnC) (m i:Nat) (L:List Tk),(∀o∈l,SmW R o)->l.length≤m->pre.length+l.length≤4->At R i ((l.map (tkSm R.es)).flatten++L)->isL L [119,104,101,110]=false->R.clk m pre i= .ok (pre++l) (i+((l.map (tkSm R.es)).flatten).length)
 | [],pre,m,i,L,_,_,_,ha,hL=>by
   rw[qaz];cases m with
   | zero=>rfl
   | succ m=>rw[Rd.clk,oH (by rw[ha.isAt];exact fun h=>Bool.noConfusion (hL.symm.trans h))];rfl
 | o::l,pre,m,i,L,h,hm,h4,ha,hL=>by
   obtain⟨m,rfl⟩:∃k,m=k+1:=⟨m-1,by simp at hm;omega⟩
   have ha2:At R i (tkSm R.es o++((l.map (tkSm R.es)).flatten++L)):=by
    rw[qaf,qaK]at ha;exact ha.apl
   simp only[qae]at hm h4;rw[Rd.clk,oG (by rw[ha2.isAt];rfl),zeQ oA,okB,zz6 (h o qah) ha2,okB];have ha3:At R (i+5) ((l.map (tkSm R.es)).flatten++L):=ha2.app;rw[zvF l (pre++[o]) m (i+5) L (fun x hx=>h x (qai _ hx)) oA (by rw[qab];simp only[qae,qal];omega) ha3 hL,qay,qaf,qaK,qab,<-qa1];rfl
def TyW(R:Rd)(t:I64):Prop:=t.1=1\/t.1=2\/3≤t.1/\zfk (zaL R.es t.1).1.name 0 R.es=some (t.1-3).toNat
theorem zAl{t:I64}(h:TyW R t){i:Nat}(ha:At R i (tkTy R.es t.1::L)):R.typ i= .ok t (i+1):=by
 unfold tkTy at ha;rcases h with h|h|⟨h,hx⟩
 ·rw[oG h]at ha;rw[Rd.typ,oG (by rw[ha.isAt];rfl),zdA h]
 ·rw[oH oA,oG h]at ha;rw[Rd.typ,oH (by rw[ha.isAt];simp[isL]),oG (by rw[ha.isAt];rfl),zdA h]
 ·rw[oH oA,oH oA]at ha;rw[Rd.typ,oH (by rw[ha.isAt];simp[isL]),oH (by rw[ha.isAt];simp[isL]),zlX ha,okB,hx];show PR.ok (toI ((3+(t.1-3).toNat:Nat):Int)) (i+1)=_;rw[zdA (x:=t) oA]
structure DcW (R:Rd) (d:Decl):Prop where
 ty:TyW R d.ty
 ck:∀o∈d.clock,SmW R o
 few:d.clock.length≤4
theorem zwJ(es:List En):∀l:List OnC,l.length≤((l.map (tkSm es)).flatten).length
 | []=>qag _
 | o::l=>by
   have:=zwJ es l
   rw[qaf,qaK,qab,qae];show _≤5+_;omega
theorem zrN(h:DcW R d){i:Nat}(ha:At R i (tkDc R.es d++L))(hL:isL L [119,104,101,110]=false):R.decl i= .ok d (i+(tkDc R.es d).length):=by
 have h1:At R i ((1,d.name)::zts::tkTy R.es d.ty.1::((d.clock.map (tkSm R.es)).flatten++L)):=ha;have h2:=h1.tl.tl.tl;have hl:=h2.len;rw[qab]at hl;have hs:=zwJ R.es d.clock;rw[Rd.decl,zlX h1,okB,zcz h1.tl rfl,okB,zAl h.ty h1.tl.tl,okB,zvF d.clock [] _ _ L h.ck oA (by simpa using h.few) h2 hL,okB];unfold tkDc;simp only[qae,qaP];congr 1;omega
theorem zoN{most:Nat}{op:Bool}:∀(l:List Decl) (d:Decl) (pre:List Decl) (m i:Nat) (L:List Tk),(∀x∈d::l,DcW R x)->pre.length+1+l.length≤most->l.length+1≤m->At R i (tkDc R.es d++((l.map fun x=>zcl::tkDc R.es x).flatten++L))->isL L [119,104,101,110]=false->(isL L [59]=false\/op=true/\kiL L.tail 1=false)->
  R.decls most op m pre i= .ok (pre++d::l) (i+(tkDc R.es d++(l.map fun x=>zcl::tkDc R.es x).flatten).length)
 | l,d,pre,m,i,L,h,hm,hf,ha,hL,hE=>by
   obtain⟨m,rfl⟩:∃k,m=k+1:=⟨m-1,oA⟩;have hk:R.kind i 1=true:=by rw[ha.kind];rfl
   rw[Rd.decls,Rd.zkD,oG hk,zeQ oA,okB];cases l with
   | nil=>
     have ha1:At R i (tkDc R.es d++L):=ha;rw[zrN (h d qah) ha1 hL,okB];have ha2:=ha1.app
     rw[oG (by
      rcases hE with hE|⟨h1,h2⟩
      ·left;rw[ha2.isAt];exact hE
      ·right;refine⟨h1,?_⟩;cases L with
       | nil=>rw[Rd.kind];have:=ha2.get;have e:R.K[i+(tkDc R.es d).length+1]?=none:=by
                have h5:R.K.length≤i+(tkDc R.es d).length:=List.drop_eq_nil_iff.1 ha2;exact qa8 oA
              rw[e]
       | cons t L=>rw[ha2.tl.kind];exact h2)]
     simp
   | cons x l=>
     have ha1:At R i (tkDc R.es d++(zcl::(tkDc R.es x++((l.map fun x=>zcl::tkDc R.es x).flatten++L)))):=by
      simpa using ha
     rw[zrN (h d qah) ha1 rfl,okB];have ha2:=ha1.app
     rw[oH (by
      rintro(h1|⟨_,h1⟩)
      ·rw[ha2.isAt]at h1;exact oI h1 (by simp[isL])
      ·rw[ha2.tl.kind]at h1;exact oI h1 (by unfold tkDc;simp[kiL]))]
     simp only[qae]at hm hf;rw[zoN l x (pre++[d]) m _ L (fun y hy=>h y (qai _ hy)) (by rw[qab];simp only[qae,qal];omega) oA ha2.tl hL hE];simp only[qay,qaZ,qaP,qab,qaf,qaK,qae];congr 1;omega
theorem zvK(es:List En):∀l:List Decl,l.length≤((l.map fun x=>zcl::tkDc es x).flatten).length
 | []=>qag _
 | o::l=>by
   have:=zvK es l
   rw[qaf,qaK,qab,qae,qae];omega
theorem zkj{op:Bool}{i:Nat}(h0:l≠ [])(h:∀x∈l,DcW R x)(hm:l.length≤most)(ha:At R i (tkDs R.es l++L))(hL:isL L [119,104,101,110]=false)(hE:isL L [59]=false\/op=true/\kiL L.tail 1=false):
  R.decls most op (R.K.length+1) [] i= .ok l (i+(tkDs R.es l).length):=by
 cases l with
 | nil=>exact oI rfl h0
 | cons d l=>
   have e:tkDs R.es (d::l)=tkDc R.es d++(l.map fun x=>zcl::tkDc R.es x).flatten:=by
    unfold tkDs tkJ;rw[qaf];simp only[qa0];rfl
   rw[e]at ha⊢;have hl:=ha.len;have hd:=zvK R.es l;simp only[qab]at hl;simp only[qae]at hm;exact zoN l d [] (R.K.length+1) i L h (by simp only[qal];omega) oA ha.apl hL hE
theorem zl8{i:Nat}(h:∀x∈l,DcW R x)(hm:l.length≤256)(ha:At R i (tkLc R.es l++L))(hv:isL L [118,97,114]=false)(hk:kiL L 1=false):R.locals i= .ok l (i+(tkLc R.es l).length):=by
 unfold tkLc at ha⊢;by_cases h0:0<l.length
 ·rw[oG h0]at ha⊢;have ha1:At R i (tVar::(tkDs R.es l++(zcl::L))):=by simpa using ha
  rw[Rd.locals,oG (by rw[ha1.isAt];rfl),zkj (fun e=>by rw[e]at h0;simp at h0) h hm ha1.tl rfl (.inr ⟨rfl,hk⟩),okB,zcz ha1.tl.app rfl,okB];exact zwei
 ·rw[oH h0]at ha⊢;have e:l=[]:=qaF oA;have ha1:At R i L:=ha;rw[Rd.locals,oH (by rw[ha1.isAt,hv];decide),e];rfl
theorem zpi{most:Nat}{w:Str}:∀(l:List Str) (s:Str) (pre:List Str) (m i:Nat) (L:List Tk),pre.length+1+l.length≤most->l.length+1≤m->At R i ((1,s)::((l.map fun x=>(4,w)::[((1:Int),x)]).flatten++L))->isL L w=false->
  R.names most w m pre i= .ok (pre++s::l) (i+((1,s)::(l.map fun x=>((4:Int),w)::[((1:Int),x)]).flatten).length)
 | l,s,pre,m,i,L,hm,hf,ha,hL=>by
   obtain⟨m,rfl⟩:∃k,m=k+1:=⟨m-1,oA⟩;rw[Rd.names,Rd.zkD,oG (by rw[ha.kind];rfl),zeQ oA,okB,zlX ha,okB];cases l with
   | nil=>
     have ha1:At R (i+1) L:=ha.tl;rw[oH (by rw[ha1.isAt,hL];decide)];rfl
   | cons x l=>
     have ha1:At R (i+1) ((4,w)::((1,x)::((l.map fun x=>(4,w)::[((1:Int),x)]).flatten++L))):=ha.tl;rw[oG (by rw[ha1.isAt];simp[isL])];simp only[qae]at hm hf;rw[zpi l x (pre++[s]) m _ L (by rw[qab];simp only[qae,qal];omega) oA ha1.tl hL];simp only[qay,qaZ,qaP,qaf,qaK,qae];congr 1;omega
theorem zv4(t:Tk):∀l:List Str,((l.map fun x=>t::[((1:Int),x)]).flatten).length=2*l.length
 | []=>rfl
 | x::l=>by rw[qaf,qaK,qab,zv4 t l];simp only[qae,qal];omega
theorem znO(t:Tk)(s:Str)(l:List Str):tkNm t (s::l)=(1,s)::(l.map fun x=>t::[((1:Int),x)]).flatten:=by
 unfold tkNm tkJ;rw[qaf];simp only[qa0];rfl
theorem zpk{w:Str}{l:List Str}{i:Nat}(h0:l≠ [])(hm:l.length≤most)(ha:At R i (tkNm (4,w) l++L))(hL:isL L w=false):R.names most w (R.K.length+1) [] i= .ok l (i+(tkNm (4,w) l).length):=by
 cases l with
 | nil=>exact oI rfl h0
 | cons s l=>
   rw[znO]at ha⊢;have hl:=ha.len
   have:=zv4 (4,w) l
   simp only[qab,qae]at hl;simp only[qae]at hm;exact zpi l s [] _ i L (by simp only[qal];omega) oA ha hL
theorem zxF{l:List Str}{i:Nat}(h0:l≠ [])(hm:l.length≤64)(ha:At R i (tkLf l++L)):R.left i= .ok l (i+(tkLf l).length):=by
 unfold tkLf at ha⊢;by_cases h1:1<l.length
 ·rw[oG h1]at ha⊢;have ha1:At R i (tL::(tkNm zg9 l++(tR::L))):=by simpa using ha
  rw[Rd.left,oG (by rw[ha1.isAt];rfl),zpk h0 hm ha1.tl rfl,okB,zcz ha1.tl.app rfl,okB];exact zwei
 ·rw[oH h1]at ha⊢;cases l with
  | nil=>exact oI rfl h0
  | cons s l=>
    have e:l=[]:=qaF (by simp only[qae]at h1;omega);subst e;rw[znO]at ha⊢;have ha1:At R i ((1,s)::L):=ha;rw[Rd.left,oH (by rw[ha1.isAt];simp[isL]),zlX ha1,okB];rfl
theorem zkn{T:List Tk}{i:Nat}(h:PE R e T)(ha:At R i (T++L))(he:EndE L):R.expr i= .ok e (i+T.length):=by
 have hl:=ha.len;rw[qab]at hl;exact h _ i L oA ha he
structure EqW (R:Rd) (q:Equ):Prop where
 left:q.left≠ []
 few:q.left.length≤64
 right:PE R q.right (tkF R.es 400 q.right)
theorem zy7(h:EqW R q){i:Nat}(ha:At R i (tkQ R.es q++L)):R.equation R.expr i= .ok q (i+(tkQ R.es q).length):=by
 have ha1:At R i (tkLf q.left++(tEqS::(tkF R.es 400 q.right++(zcl::L)))):=by
  unfold tkQ at ha;simpa using ha
 have ha2:=ha1.app;have ha3:=ha2.tl.app;rw[Rd.equation,zxF h.left h.few ha1,okB,zcz ha2 rfl,okB,zkn h.right ha2.tl (EndE.cons oB),okB,zcz ha3 rfl,okB];unfold tkQ;exact zwei
def zT(q:Tran):Tran:=⟨q.cond,toI 0,q.resume⟩
def tgN(sts:List Sta)(q:Tran):Str:=((sts[q.to.1.toNat]?).map Sta.name).getD []
theorem zbb(g:α->List Tk)(x:α)(l:List α):flT g (x::l)=g x++flT g l:=by unfold flT;rw[qaf,qaK]
theorem zzd{b:Bool}{i:Nat}(ha:At R i ((if b=true then zoc else ziO)::L)):R.how i= .ok b (i+1):=by
 cases b with
 | true=>rw[Rd.how,oG (by rw[ha.isAt];rfl)]
 | false=>rw[Rd.how,oH (by rw[ha.isAt];simp[isL]),zcz ha rfl,okB]
theorem zk6{w:Str}{sts:List Sta}:∀(l pre:List Tran) (gp:List (Str×Nat)) (m i:Nat) (L:List Tk),(∀q∈l,PE R q.cond (tkF R.es 400 q.cond))->l.length≤m->pre.length+l.length≤4->At R i (flT (tkTr R.es (3,w) sts) l++L)->isL L w=false->
  ∃gs,gs.map Prod.fst=l.map (tgN sts)/\R.trans R.expr w m pre gp i= .ok (pre++l.map zT,gp++gs) (i+(flT (tkTr R.es (3,w) sts) l).length)
 | [],pre,gp,m,i,L,_,_,_,ha,hL=>by
   refine⟨[],rfl,?_⟩;have ha1:At R i L:=ha;rw[qaD,qaz,qaz];cases m with
   | zero=>rfl
   | succ m=>rw[Rd.trans,oH (by rw[ha1.isAt,hL];decide)];rfl
 | q::l,pre,gp,m,i,L,h,hm,h4,ha,hL=>by
   obtain⟨m,rfl⟩:∃k,m=k+1:=⟨m-1,by simp at hm;omega⟩;simp only[qae]at hm h4
   have ha1:At R i ((3,w)::(tkF R.es 400 q.cond++((if q.resume=true then zoc else ziO)::(1,tgN sts q)::zcl::(flT (tkTr R.es (3,w) sts) l++L)))):=by
    rw[zbb,show tkTr R.es (3,w) sts q=(3,w)::(tkF R.es 400 q.cond++[if q.resume=true then zoc else ziO,(1,tgN sts q),zcl]) from rfl]at ha;simpa using ha
   have ha2:=ha1.tl.app
   have hE:EndE ((if q.resume=true then zoc else ziO)::(1,tgN sts q)::zcl::(flT (tkTr R.es (3,w) sts) l++L)):=by
    cases q.resume with
    | true=>exact EndE.cons oB
    | false=>exact EndE.cons oB
   obtain⟨gs,h1,h2⟩:=zk6 l (pre++[zT q]) (gp++[(tgN sts q,i+1+(tkF R.es 400 q.cond).length+1+1-1)]) m _ L (fun x hx=>h x (qai _ hx)) oA (by rw[qab];simp only[qae,qal];omega) ha2.tl.tl.tl hL;refine⟨(tgN sts q,i+1+(tkF R.es 400 q.cond).length+1+1-1)::gs,by rw[qaf,qaf,h1],?_⟩;rw[Rd.trans,oG (by rw[ha1.isAt];simp[isL]),zeQ oA,okB,zkn (h q qah) ha1.tl hE,okB,zzd ha2,okB,zlX ha2.tl,okB,zcz ha2.tl.tl rfl,okB];refine h2.trans ?_
   have e:(flT (tkTr R.es (3,w) sts) (q::l)).length=(tkF R.es 400 q.cond).length+4+(flT (tkTr R.es (3,w) sts) l).length:=by
    rw[zbb,qab];unfold tkTr;simp only[qae,qab,qal]
   rw[e];simp only[qay,qaZ,qaP,qaf];congr 1;omega
def TgW(ns:List Str)(sts:List Sta)(q:Tran):Prop:=idxOf (tgN sts q) 0 ns=some q.to.1.toNat/\0≤q.to.1
theorem znu{ns:List Str}{sts:List Sta}:∀(l:List Tran) (g:List (Str×Nat)),g.map Prod.fst=l.map (tgN sts)->(∀q∈l,TgW ns sts q)->fixG ns g= .ok (l.map fun q=>q.to.1.toNat) 0
 | [],[],_,_=>rfl
 | [],_::_,h,_=>by cases h
 | _::_,[],h,_=>by cases h
 | q::l,(s,k)::g,h,hq=>by
   rw[qaf,qaf]at h;injection h with h1 h2
   replace h1:s=tgN sts q:=h1;have h3:=(hq q qah).1;rw[<-h1]at h3;rw[fixG,h3];show(fixG ns g).bind _=_;rw[znu l g h2 fun x hx=>hq x (qai _ hx)];rfl
theorem zkR{ns:List Str}{sts:List Sta}:∀l:List Tran,(∀q∈l,TgW ns sts q)->zjb (l.map zT) (l.map fun q=>q.to.1.toNat)=l
 | [],_=>rfl
 | q::l,h=>by
   have h1:=zkR l fun x hx=>h x (qai _ hx)
   have h2:=(h q qah).2;unfold zjb at h1⊢;rw[qaf,qaf,qbo,h1];have e:toI ((q.to.1.toNat:Nat):Int)=q.to:=zdA oA;unfold zT;rw[e]
theorem zlL{g:α->List Tk}{t:Tk}(hg:∀x,∃T,g x=t::T)(l:List α)(L:List Tk):(l=[]/\flT g l++L=L)\/∃T,flT g l++L=t::T:=by
 cases l with
 | nil=>exact .inl ⟨rfl,rfl⟩
 | cons x l=>
   obtain⟨T,hT⟩:=hg x;rw[zbb,hT];exact .inr ⟨_,rfl⟩
theorem zc7{α:Type}{g:α->List Tk}(hg:∀x,1≤(g x).length):∀l:List α,l.length≤(flT g l).length
 | []=>qaM _
 | x::l=>by
   have h1:=zc7 hg l;have h2:=hg x;rw[zbb,qab,qae];omega
theorem zAf(h:q.left≠ []):∃t T,tkQ es q=t::T/\(t=tL\/t.1=1):=by
 unfold tkQ tkLf;split
 ·exact⟨_,_,rfl,.inl rfl⟩
 ·cases hl:q.left with
  | nil=>exact oI hl h
  | cons s l=>rw[znO];exact⟨_,_,rfl,.inr rfl⟩
structure EndB (L:List Tk):Prop where
 aut:isL L [97,117,116,111,109,97,116,111,110]=false
 id:kiL L 1=false
 br:isL L [40]=false
section
variable {au:Nat->PR Auto}{deep:Bool}{g:Auto->List Tk}
theorem zoA:∀(l:List Auto) (pq:List Equ) (pa:List Auto) (m i:Nat) (L:List Tk),(∀a∈l,(∃T,g a=tAut::T)/\∀i L,At R i (g a++L)->au (i+1)= .ok a (i+(g a).length))->(deep=false\/l=[])->l.length+1≤m->pa.length+l.length≤8->At R i (flT g l++L)->EndB L->
  R.body R.expr au deep m pq pa i= .ok (pq,pa++l) (i+(flT g l).length)
 | [],pq,pa,m,i,L,_,_,hm,_,ha,hL=>by
   obtain⟨m,rfl⟩:∃k,m=k+1:=⟨m-1,oA⟩;have ha1:At R i L:=ha;rw[Rd.body,oH (by rw[ha1.isAt,hL.aut];decide),oH (by rw[ha1.isAt,ha1.kind,hL.id,hL.br];decide),qaz];rfl
 | a::l,pq,pa,m,i,L,h,hd,hm,h8,ha,hL=>by
   obtain⟨m,rfl⟩:∃k,m=k+1:=⟨m-1,oA⟩;simp only[qae]at hm h8;obtain⟨⟨T,hT⟩,h1⟩:=h a qah;have hdf:deep=false:=by rcases hd with hd|hd;exact hd;cases hd
   rw[zbb]at ha;have ha1:=ha.apl;have hat:R.isAt i [97,117,116,111,109,97,116,111,110]=true:=by rw[ha1.isAt,hT];rfl
   rw[Rd.body,oG hat,oH (by rw[hdf];decide),zeQ oA,okB,h1 i _ ha1,okB,
    zoA l pq (pa++[a]) m _ L (fun x hx=>h x (qai _ hx)) (.inl hdf) oA (by rw[qab];simp only[qae,qal];omega) ha1.app hL,zbb,qab,qay,<-qa1]
   rfl
theorem zkc{l:List Auto}(hA:∀a∈l,(∃T,g a=tAut::T)/\∀i L,At R i (g a++L)->au (i+1)= .ok a (i+(g a).length))(hd:deep=false\/l=[])(h8:l.length≤8){L:List Tk}(hL:EndB L):∀(qs pq:List Equ) (m i:Nat),(∀q∈qs,EqW R q)->qs.length+l.length+1≤m->pq.length+qs.length≤256->At R i (flT (tkQ R.es) qs++(flT g l++L))->
  R.body R.expr au deep m pq [] i= .ok (pq++qs,l) (i+((flT (tkQ R.es) qs).length+(flT g l).length))
 | [],pq,m,i,_,hm,_,ha=>by
   have:=zoA l pq [] m i L hA hd (by simpa using hm) (by simpa using h8) ha hL
   rw[this,qaz,qaP];simp[flT]
 | q::qs,pq,m,i,h,hm,hc,ha=>by
   obtain⟨m,rfl⟩:∃k,m=k+1:=⟨m-1,oA⟩;simp only[qae]at hm hc;rw[zbb]at ha;have ha1:=ha.apl;obtain⟨t,T,hT,ht⟩:=zAf (es:=R.es) (h q qah).left
   have h1:R.isAt i [97,117,116,111,109,97,116,111,110]=false:=by
    rw[ha1.isAt,hT];rcases ht with rfl|ht
    ·rfl
    ·simp[isL,ht]
   have h2:(R.kind i 1 || R.isAt i [40])=true:=by
    rw[ha1.isAt,ha1.kind,hT];rcases ht with rfl|ht
    ·rfl
    ·simp[isL,kiL,ht]
   rw[Rd.body,oH (by rw[h1];decide),oG h2,zeQ oA,okB,zy7 (h q qah) ha1,okB,
    zkc hA hd h8 hL qs (pq++[q]) m _ (fun x hx=>h x (qai _ hx)) oA (by rw[qab];simp only[qae,qal];omega) ha1.app,zbb,qab,qay]
   simp only[qaZ,qaP];congr 1;omega
end
def zS(s:Sta):Sta:=.mk s.name s.locals s.eqs s.autos (s.unl.map zT) (s.unt.map zT)
structure StW (R:Rd) (P:Auto->Prop) (sts:List Sta) (s:Sta):Prop where
 lc:∀d∈s.locals,DcW R d
 lcn:s.locals.length≤256
 ul:∀q∈s.unl,PE R q.cond (tkF R.es 400 q.cond)
 uln:s.unl.length≤4
 ult:∀q∈s.unl,TgW (sts.map Sta.name) sts q
 eq:∀q∈s.eqs,EqW R q
 eqn:s.eqs.length≤256
 au:∀a∈s.autos,P a
 aun:s.autos.length≤8
 ut:∀q∈s.unt,PE R q.cond (tkF R.es 400 q.cond)
 utn:s.unt.length≤4
 utt:∀q∈s.unt,TgW (sts.map Sta.name) sts q
def AuW(R:Rd):Nat->Auto->Prop
 | 0,_=>False
 | m+1,a=>a.states.length≤8/\∀s∈a.states,StW R (AuW R m) a.states s
def BdW(R:Rd)(bd:Nat->PR (List Equ×List Auto))(g:Auto->List Tk)(P:Auto->Prop):Prop:=∀(qs:List Equ) (l:List Auto) (i:Nat) (L:List Tk),(∀q∈qs,EqW R q)->qs.length≤256->(∀a∈l,P a)->l.length≤8->At R i (flT (tkQ R.es) qs++(flT g l++L))->EndB L->bd i= .ok (qs,l) (i+((flT (tkQ R.es) qs).length+(flT g l).length))
theorem zAg(es:List En)(w:Str)(sts:List Sta)(q:Tran):∃T,tkTr es (3,w) sts q=(3,w)::T:=⟨_,rfl⟩
theorem zu8(hB:BdW R bd g P){s:Sta}(h:StW R P sts s){i:Nat}(ha:At R i (tkSt R.es g sts s++L)):
  ∃gu gv,gu.map Prod.fst=s.unl.map (tgN sts)/\gv.map Prod.fst=s.unt.map (tgN sts)/\R.state R.expr bd (i+1)= .ok (zS s,gu,gv) (i+(tkSt R.es g sts s).length):=by
 have ha1:At R i (tSta::(1,s.name)::(tkLc R.es s.locals++(flT (tkTr R.es tUnl sts) s.unl++(tDo::(flT (tkQ R.es) s.eqs++(flT g s.autos++(flT (tkTr R.es tUnt sts) s.unt++(zmJ::L)))))))):=by
  unfold tkSt at ha;simpa using ha
 have ha2:=ha1.tl.tl;have hd1:=zlL (zAg R.es [117,110,108,101,115,115] sts) s.unl (tDo::(flT (tkQ R.es) s.eqs++(flT g s.autos++(flT (tkTr R.es tUnt sts) s.unt++(zmJ::L)))))
 have hv:isL (flT (tkTr R.es tUnl sts) s.unl++(tDo::(flT (tkQ R.es) s.eqs++(flT g s.autos++(flT (tkTr R.es tUnt sts) s.unt++(zmJ::L)))))) [118,97,114]=false:=by
  rcases hd1 with ⟨_,e⟩|⟨T,e⟩ <;> rw[e] <;> rfl
 have hk:kiL (flT (tkTr R.es tUnl sts) s.unl++(tDo::(flT (tkQ R.es) s.eqs++(flT g s.autos++(flT (tkTr R.es tUnt sts) s.unt++(zmJ::L)))))) 1=false:=by
  rcases hd1 with ⟨_,e⟩|⟨T,e⟩ <;> rw[e] <;> rfl
 have ha3:=ha2.app;have n1:=zc7 (g:=tkTr R.es tUnl sts) (fun q=>by unfold tkTr;simp) s.unl;have n2:=zc7 (g:=tkTr R.es tUnt sts) (fun q=>by unfold tkTr;simp) s.unt;have l3:=ha3.len;have ha4:=ha3.app;have ha5:=ha4.tl;have ha6:=ha5.app.app;have l6:=ha6.len;rw[qab]at l3 l6;obtain⟨gu,g1,g2⟩:=zk6 (w:=[117,110,108,101,115,115]) (sts:=sts) s.unl [] [] R.K.length _ _ h.ul oA (by simpa using h.uln) ha3 rfl;obtain⟨gv,g3,g4⟩:=zk6 (w:=[117,110,116,105,108]) (sts:=sts) s.unt [] [] R.K.length _ _ h.ut oA (by simpa using h.utn) ha6 rfl;have hd2:=zlL (zAg R.es [117,110,116,105,108] sts) s.unt (zmJ::L)
 have hE:EndB (flT (tkTr R.es tUnt sts) s.unt++(zmJ::L)):=by
  rcases hd2 with ⟨_,e⟩|⟨T,e⟩ <;> rw[e] <;> exact⟨rfl,rfl,rfl⟩
 have hb:=hB s.eqs s.autos _ _ h.eq h.eqn h.au h.aun ha5 hE;refine⟨gu,gv,g1,g3,?_⟩;rw[Rd.state,zlX ha1.tl,okB,zl8 h.lc h.lcn ha2 hv hk,okB,g2,okB,zcz ha4 rfl,okB,hb,okB,<-qa1,g4,okB,zcz ha6.app rfl,okB];unfold zS tkSt;simp only[qaP,qae,qab,qal];congr 1;omega
def tgsN(sts l:List Sta):List (List Str):=(l.map fun s=>[s.unl.map (tgN sts),s.unt.map (tgN sts)]).flatten
def ixsT(l:List Sta):List (List Nat):=(l.map fun s=>[s.unl.map fun q=>q.to.1.toNat,s.unt.map fun q=>q.to.1.toNat]).flatten
theorem zBj(es:List En)(g:Auto->List Tk)(sts:List Sta)(s:Sta):∃T,tkSt es g sts s=tSta::T:=⟨_,rfl⟩
theorem zmF{bd:Nat->PR (List Equ×List Auto)}{g:Auto->List Tk}{P:Auto->Prop}(hB:BdW R bd g P){sts:List Sta}:∀(l pre:List Sta) (gp:List (List (Str×Nat))) (m i:Nat) (L:List Tk),(∀s∈l,StW R P sts s)->l.length≤m->pre.length+l.length≤8->At R i (flT (tkSt R.es g sts) l++L)->isL L [115,116,97,116,101]=false->
  ∃gs,gs.map (List.map Prod.fst)=tgsN sts l/\R.states R.expr bd m pre gp i= .ok (pre++l.map zS,gp++gs) (i+(flT (tkSt R.es g sts) l).length)
 | [],pre,gp,m,i,L,_,_,_,ha,hL=>by
   refine⟨[],rfl,?_⟩;have ha1:At R i L:=ha;rw[qaD,qaz,qaz];cases m with
   | zero=>rfl
   | succ m=>rw[Rd.states,oH (by rw[ha1.isAt,hL];decide)];rfl
 | s::l,pre,gp,m,i,L,h,hm,h8,ha,hL=>by
   obtain⟨m,rfl⟩:∃k,m=k+1:=⟨m-1,by simp at hm;omega⟩;simp only[qae]at hm h8;rw[zbb]at ha;have ha1:=ha.apl;obtain⟨gu,gv,g1,g2,g3⟩:=zu8 hB (h s qah) ha1;obtain⟨gs,g4,g5⟩:=zmF hB l (pre++[zS s]) (gp++[gu,gv]) m _ L (fun x hx=>h x (qai _ hx)) oA (by rw[qab];simp only[qae,qal];omega) ha1.app hL;refine⟨gu::gv::gs,?_,?_⟩
   ·rw[qaf,qaf,g1,g2,g4];rfl
   rw[Rd.states,oG (by rw[ha1.isAt];obtain⟨T,hT⟩:=zBj R.es g sts s;rw[hT];rfl),zeQ oA,okB,g3,okB];refine g5.trans ?_;rw[zbb,qab,qay,qay,<-qa1];rfl
theorem zoU{ns:List Str}{sts:List Sta}:∀(l:List Sta) (gs:List (List (Str×Nat))),gs.map (List.map Prod.fst)=tgsN sts l->(∀s∈l,(∀q∈s.unl,TgW ns sts q)/\∀q∈s.unt,TgW ns sts q)->zef ns gs= .ok (ixsT l) 0
 | [],[],_,_=>rfl
 | [],_::_,h,_=>by cases h
 | _::_,[],h,_=>by cases h
 | s::l,[_],h,_=>by
   replace h:_=s.unl.map (tgN sts)::s.unt.map (tgN sts)::tgsN sts l:=h;rw[qaf,qaD]at h;injection h with _ h
   cases h
 | s::l,gu::gv::gs,h,hq=>by
   replace h:_=s.unl.map (tgN sts)::s.unt.map (tgN sts)::tgsN sts l:=h;rw[qaf,qaf]at h;injection h with h1 h
   injection h with h2 h3
   obtain⟨q1,q2⟩:=hq s qah;have h4:=zoU l gs h3 fun x hx=>hq x (qai _ hx)
   rw[zef,znu s.unl gu h1 q1,okB,zef,znu s.unt gv h2 q2,okB,h4];rfl
theorem zmw{ns:List Str}{sts:List Sta}:∀l:List Sta,(∀s∈l,(∀q∈s.unl,TgW ns sts q)/\∀q∈s.unt,TgW ns sts q)->zgd (l.map zS) (ixsT l)=l
 | [],_=>rfl
 | .mk nm lc eq au ul ut::l,h=>by
   obtain⟨q1,q2⟩:=h _ qah;have h1:=zmw l fun x hx=>h x (qai _ hx)
   have e1:zjb (ul.map zT) (ul.map fun q=>q.to.1.toNat)=ul:=zkR ul q1;have e2:zjb (ut.map zT) (ut.map fun q=>q.to.1.toNat)=ut:=zkR ut q2;show Sta.mk nm lc eq au (zjb (ul.map zT) (ul.map fun q=>q.to.1.toNat)) (zjb (ut.map zT) (ut.map fun q=>q.to.1.toNat))::zgd (l.map zS) (ixsT l)=_;rw[e1,e2,h1]
theorem zyu(l:List Sta):(l.map zS).map Sta.name=l.map Sta.name:=by
 rw[qa0];rfl
theorem zt6{m:Nat}(hB:BdW R bd (tkAu R.es m) (AuW R m)){a:Auto}(h:AuW R (m+1) a){i:Nat}(ha:At R i (tkAu R.es (m+1) a++L)):R.automaton R.expr bd (i+1)= .ok a (i+(tkAu R.es (m+1) a).length):=by
 obtain⟨sts⟩:=a;obtain⟨h8,hs⟩:=h;replace h8:sts.length≤8:=h8;replace hs:∀s∈sts,StW R (AuW R m) sts s:=hs
 have ha1:At R i (tAut::(flT (tkSt R.es (tkAu R.es m) sts) sts++(tEnd::L))):=by
  have e:tkAu R.es (m+1) (.mk sts)=tAut::(flT (tkSt R.es (tkAu R.es m) sts) sts++[tEnd]):=rfl;rw[e]at ha;simpa using ha
 have ha2:=ha1.tl;have hl:=ha2.len;rw[qab]at hl;have n1:=zc7 (g:=tkSt R.es (tkAu R.es m) sts) (fun q=>by unfold tkSt;simp) sts;have hq:∀s∈sts,(∀q∈s.unl,TgW (sts.map Sta.name) sts q)/\∀q∈s.unt,TgW (sts.map Sta.name) sts q:=fun s hx=>⟨(hs s hx).ult,(hs s hx).utt⟩
 obtain⟨gs,g1,g2⟩:=zmF hB (sts:=sts) sts [] [] R.K.length _ _ hs oA (by simpa using h8) ha2 rfl;rw[Rd.automaton,g2,okB,zcz ha2.app rfl,okB];simp only[qaP];rw[zyu,zoU sts gs g1 hq,okB,zmw sts hq]
 have e:(tkAu R.es (m+1) (.mk sts)).length=1+(flT (tkSt R.es (tkAu R.es m) sts) sts).length+1:=by
  show(tAut::(flT (tkSt R.es (tkAu R.es m) sts) sts++[tEnd])).length=_;simp only[qae,qab,qal];omega
 rw[e];congr 1;omega
theorem zty(es:List En)(q:Equ):1≤(tkQ es q).length:=by unfold tkQ;simp;omega
theorem zoB:∀m,BdW R (R.zhe R.expr m) (tkAu R.es m) (AuW R m)
 | 0=>fun qs l i L hq hqn hl hln ha hL=>by
   have e:l=[]:=by
    cases l with
    | nil=>rfl
    | cons a l=>exact(hl a qah).elim
   subst e;have n1:=zc7 (zty R.es) qs;have n2:=ha.len;rw[qab]at n2;rw[Rd.zhe];exact zkc (fun a ha=>by cases ha) (.inr rfl) oC hL qs [] _ i hq (by simp only[qal];omega) (by simpa using hqn) ha
 | m+1=>fun qs l i L hq hqn hl hln ha hL=>by
   have n1:=zc7 (zty R.es) qs;have n3:=zc7 (g:=tkAu R.es (m+1)) (fun a=>by unfold tkAu;simp) l;have n2:=ha.len;rw[qab,qab]at n2;rw[Rd.zhe];exact zkc (fun a hm=>⟨⟨_,rfl⟩,fun i L hat=>zt6 (zoB m) (hl a hm) hat⟩) (.inl rfl) hln hL qs [] _ i hq oA (by simpa using hqn) ha
theorem zAX{i:Nat}{a b c:Tk}{y z:Str}(ha:At R i (a::b::c::L))(h1:isL [a] x=true)(h2:isL [b] y=true)(h3:isL [c] z=true):R.must [x,y,z] i= .ok () (i+3):=by
 rw[Rd.must,oG (by rw[ha.isAt];exact h1),Rd.must,oG (by rw[ha.tl.isAt];exact h2),Rd.must,oG (by rw[ha.tl.tl.isAt];exact h3)];rfl
theorem zjq:∀(l a pre:List Ex) (m i:Nat) (L:List Tk),(∀e∈l,PE R e (tkF R.es 400 e))->l.length≤m->pre.length+l.length≤8->At R i (flT (tkCl R.es tEns) l++L)->isL L [97,115,115,117,109,101]=false->isL L [101,110,115,117,114,101]=false->
  R.claims R.expr m a pre i= .ok (a,pre++l) (i+(flT (tkCl R.es tEns) l).length)
 | [],a,pre,m,i,L,_,_,_,ha,h1,h2=>by
   have ha1:At R i L:=ha;rw[qaz];cases m with
   | zero=>rfl
   | succ m=>rw[Rd.claims,oH (by rw[ha1.isAt,h1];decide),oH (by rw[ha1.isAt,h2];decide)];rfl
 | e::l,a,pre,m,i,L,h,hm,h8,ha,h1,h2=>by
   obtain⟨m,rfl⟩:∃k,m=k+1:=⟨m-1,by simp at hm;omega⟩;simp only[qae]at hm h8
   have ha1:At R i (tEns::(tkF R.es 400 e++(zcl::(flT (tkCl R.es tEns) l++L)))):=by
    rw[zbb,show tkCl R.es tEns e=tEns::(tkF R.es 400 e++[zcl]) from rfl]at ha;simpa using ha
   have ha2:=ha1.tl.app
   rw[Rd.claims,oH (by rw[ha1.isAt];simp[isL]),oG (by rw[ha1.isAt];rfl),zeQ oA,okB,zkn (h e qah) ha1.tl (EndE.cons oB),okB,zcz ha2 rfl,okB,
    zjq l a (pre++[e]) m _ L (fun x hx=>h x (qai _ hx)) oA (by rw[qab];simp only[qae,qal];omega) ha2.tl h1 h2]
   rw[zbb,show tkCl R.es tEns e=tEns::(tkF R.es 400 e++[zcl]) from rfl];exact zwcd
theorem zyX(es:List En)(w:Str)(e:Ex):∃T,tkCl es (3,w) e=(3,w)::T:=⟨_,rfl⟩
theorem zlC{en:List Ex}:∀(l pre:List Ex) (m i:Nat) (L:List Tk),(∀e∈l,PE R e (tkF R.es 400 e))->(∀e∈en,PE R e (tkF R.es 400 e))->l.length+en.length≤m->pre.length+l.length≤8->en.length≤8->At R i (flT (tkCl R.es tAss) l++(flT (tkCl R.es tEns) en++L))->isL L [97,115,115,117,109,101]=false->isL L [101,110,115,117,114,101]=false->
  R.claims R.expr m pre [] i= .ok (pre++l,en) (i+(flT (tkCl R.es tAss) l).length+(flT (tkCl R.es tEns) en).length)
 | [],pre,m,i,L,_,he,hm,_,h8,ha,h1,h2=>by
   have ha1:At R i (flT (tkCl R.es tEns) en++L):=ha;rw[qaz];exact zjq en pre [] m i L he (by simpa using hm) (by simpa using h8) ha1 h1 h2
 | e::l,pre,m,i,L,h,he,hm,h8,h9,ha,h1,h2=>by
   obtain⟨m,rfl⟩:∃k,m=k+1:=⟨m-1,by simp at hm;omega⟩;simp only[qae]at hm h8
   have ha1:At R i (tAss::(tkF R.es 400 e++(zcl::(flT (tkCl R.es tAss) l++(flT (tkCl R.es tEns) en++L))))):=by
    rw[zbb,show tkCl R.es tAss e=tAss::(tkF R.es 400 e++[zcl]) from rfl]at ha;simpa using ha
   have ha2:=ha1.tl.app
   rw[Rd.claims,oG (by rw[ha1.isAt];rfl),zeQ oA,okB,zkn (h e qah) ha1.tl (EndE.cons oB),okB,zcz ha2 rfl,okB,
    zlC l (pre++[e]) m _ L (fun x hx=>h x (qai _ hx)) he oA (by rw[qab];simp only[qae,qal];omega) h9 ha2.tl h1 h2]
   rw[zbb,show tkCl R.es tAss e=tAss::(tkF R.es 400 e++[zcl]) from rfl];exact zwcd
structure NoW (R:Rd) (n:Nod):Prop where
 ins:∀d∈n.ins,DcW R d
 insn:n.ins.length≤64
 outs:∀d∈n.outs,DcW R d
 outsn:n.outs.length≤64
 out1:n.outs≠ []
 lc:∀d∈n.locals,DcW R d
 lcn:n.locals.length≤256
 asm:∀e∈n.assume,PE R e (tkF R.es 400 e)
 asmn:n.assume.length≤8
 en:∀e∈n.ensure,PE R e (tkF R.es 400 e)
 enn:n.ensure.length≤8
 eq:∀q∈n.eqs,EqW R q
 eqn:n.eqs.length≤256
 au:∀a∈n.autos,AuW R 3 a
 aun:n.autos.length≤8
theorem zAE:∀ {l:List Decl},l≠ []->∃s T,tkDs es l=(1,s)::T
 | [],h=>oI rfl h
 | d::l,_=>⟨_,_,rfl⟩
theorem zze{i:Nat}(h:∀d∈l,DcW R d)(hn:l.length≤64)(ha:At R i (tkDs R.es l++(tR::L))):R.ins i= .ok l (i+(tkDs R.es l).length):=by
 by_cases h0:l=[]
 ·subst h0;have ha1:At R i (tR::L):=ha;rw[Rd.ins,oG (by rw[ha1.isAt];rfl)];rfl
 ·obtain⟨s,T,hT⟩:=zAE (es:=R.es) h0;rw[Rd.ins,oH (by rw[ha.isAt,hT];simp[isL]),zkj h0 h hn ha rfl (.inl rfl)]
theorem zvD(es:List En)(w:Str)(e:Ex):1≤(tkCl es (3,w) e).length:=by unfold tkCl;simp
theorem zxS{n:Nod}(h:NoW R n){i:Nat}(ha:At R i (tkNo R.es n++L)):R.node R.expr (i+1)= .ok n (i+(tkNo R.es n).length):=by
 have ha1:At R i (ztt::(1,n.name)::tL::(tkDs R.es n.ins++(tR::tRet::tL::(tkDs R.es n.outs++(tR::(tkLc R.es n.locals++(flT (tkCl R.es tAss) n.assume++(flT (tkCl R.es tEns) n.ensure++(tLet::(flT (tkQ R.es) n.eqs++(flT (tkAu R.es 3) n.autos++(tTel::L)))))))))))):=by
  unfold tkNo at ha;simpa using ha
 have ha2:=ha1.tl.tl.tl;have ha3:=ha2.app;have ha4:=ha3.tl.tl.tl;have ha5:=ha4.app;have ha6:=ha5.tl;have ha7:=ha6.app;have ha8:=ha7.app.app;have ha9:=ha8.tl;have ha10:=ha9.app.app
 have hd:∀L,(∃T,flT (tkCl R.es tAss) n.assume++(flT (tkCl R.es tEns) n.ensure++(tLet::L))=tAss::T)\/(∃T,flT (tkCl R.es tAss) n.assume++(flT (tkCl R.es tEns) n.ensure++(tLet::L))=tEns::T)\/∃T,flT (tkCl R.es tAss) n.assume++(flT (tkCl R.es tEns) n.ensure++(tLet::L))=tLet::T:=by
  intro L;rcases zlL (zyX R.es [97,115,115,117,109,101]) n.assume (flT (tkCl R.es tEns) n.ensure++(tLet::L))with ⟨_,e⟩|⟨T,e⟩
  ·rcases zlL (zyX R.es [101,110,115,117,114,101]) n.ensure (tLet::L)with ⟨_,e2⟩|⟨T,e2⟩
   ·rw[e,e2];exact .inr (.inr ⟨_,rfl⟩)
   ·rw[e,e2];exact .inr (.inl ⟨_,rfl⟩)
  ·exact .inl ⟨_,e⟩
 have hv:isL (flT (tkCl R.es tAss) n.assume++(flT (tkCl R.es tEns) n.ensure++(tLet::(flT (tkQ R.es) n.eqs++(flT (tkAu R.es 3) n.autos++(tTel::L)))))) [118,97,114]=false:=by
  exact zwco
 have hk:kiL (flT (tkCl R.es tAss) n.assume++(flT (tkCl R.es tEns) n.ensure++(tLet::(flT (tkQ R.es) n.eqs++(flT (tkAu R.es 3) n.autos++(tTel::L)))))) 1=false:=by
  exact zwco
 have n1:n.assume.length≤(flT (tkCl R.es tAss) n.assume).length:=zc7 (zvD R.es _) n.assume;have n2:n.ensure.length≤(flT (tkCl R.es tEns) n.ensure).length:=zc7 (zvD R.es _) n.ensure;have l7:=ha7.len;rw[qab,qab]at l7;have hc:=zlC (en:=n.ensure) n.assume [] R.K.length _ _ h.asm h.en oA (by simpa using h.asmn) h.enn ha7 rfl rfl;have hb:=zoB 3 n.eqs n.autos _ _ h.eq h.eqn h.au h.aun ha9 ⟨rfl,rfl,rfl⟩;rw[Rd.node,zlX ha1.tl,okB,zcz ha1.tl.tl rfl,okB,zze h.ins h.insn ha2,okB,zAX ha3 rfl rfl rfl,okB,zkj h.out1 h.outs h.outsn ha4 rfl (.inl rfl),okB,zcz ha5 rfl,okB,zl8 h.lc h.lcn ha6 hv hk,okB,hc,okB,zcz ha8 rfl,okB,hb,okB,<-qa1,zcz ha10 rfl,okB]
 have e:(tkNo R.es n).length=3+(tkDs R.es n.ins).length+3+(tkDs R.es n.outs).length+1+(tkLc R.es n.locals).length+(flT (tkCl R.es tAss) n.assume).length+(flT (tkCl R.es tEns) n.ensure).length+1+(flT (tkQ R.es) n.eqs).length+(flT (tkAu R.es 3) n.autos).length+1:=by
  unfold tkNo;simp only[qae,qab,qal];omega
 rw[e];simp only[qaP];congr 1;omega
structure EnV (u:En):Prop where
 tags:u.tags≠ []
 few:u.tags.length≤16
theorem zpW:∀(l pre:List En) (m i:Nat) (L:List Tk),(∀u∈l,EnV u)->l.length≤m->pre.length+l.length≤24->At R i (flT tkEn l++L)->isL L [116,121,112,101]=false->R.types m pre i= .ok (pre++l) (i+(flT tkEn l).length)
 | [],pre,m,i,L,_,_,_,ha,h1=>by
   have ha1:At R i L:=ha;rw[qaz];cases m with
   | zero=>rfl
   | succ m=>rw[Rd.types,oH (by rw[ha1.isAt,h1];decide)];rfl
 | u::l,pre,m,i,L,h,hm,h8,ha,h1=>by
   obtain⟨m,rfl⟩:∃k,m=k+1:=⟨m-1,by simp at hm;omega⟩;simp only[qae]at hm h8
   have ha1:At R i (ztu::(1,u.name)::tEqS::(tkNm tBar u.tags++(zcl::(flT tkEn l++L)))):=by
    rw[zbb,show tkEn u=ztu::(1,u.name)::tEqS::(tkNm tBar u.tags++[zcl]) from rfl]at ha;simpa using ha
   have ha2:=ha1.tl.tl.tl;obtain⟨h2,h3⟩:=h u qah
   rw[Rd.types,oG (by rw[ha1.isAt];rfl),zeQ oA,okB,zlX ha1.tl,okB,zcz ha1.tl.tl rfl,okB,zpk h2 h3 ha2 rfl,okB,zcz ha2.app rfl,okB,
    zpW l (pre++[u]) m _ L (fun x hx=>h x (qai _ hx)) oA (by rw[qab];simp only[qae,qal];omega) ha2.app.tl h1]
   rw[zbb,show tkEn u=ztu::(1,u.name)::tEqS::(tkNm tBar u.tags++[zcl]) from rfl];exact zwcd
theorem zpo:∀(l pre:List Nod) (m i:Nat),(∀n∈l,NoW R n)->l.length≤m->pre.length+l.length≤96->At R i (flT (tkNo R.es) l)->R.nodes m pre i= .ok (pre++l) (i+(flT (tkNo R.es) l).length)
 | [],pre,m,i,_,_,_,ha=>by
   have ha1:At R i []:=ha;rw[qaz];cases m with
   | zero=>rfl
   | succ m=>rw[Rd.nodes,oH (by rw[ha1.isAt];decide)];rfl
 | n::l,pre,m,i,h,hm,h8,ha=>by
   obtain⟨m,rfl⟩:∃k,m=k+1:=⟨m-1,by simp at hm;omega⟩;simp only[qae]at hm h8;rw[zbb]at ha
   rw[Rd.nodes,oG (by rw[ha.isAt];unfold tkNo;rfl),zeQ oA,okB,zxS (h n qah) ha,okB,
    zpo l (pre++[n]) m _ (fun x hx=>h x (qai _ hx)) oA (by rw[qab];simp only[qae,qal];omega) ha.app]
   rw[zbb];simp only[qay,qaZ,qaP,qab];congr 1;omega
theorem zA0(es:List En)(n:Nod):∃T,tkNo es n=ztt::T:=⟨_,rfl⟩
theorem zqR(h1:∀u∈p.enums,EnV u)(h2:p.enums.length≤24)(h3:∀n∈p.nodes,NoW ⟨tkPr p,p.enums⟩ n)(h4:p.nodes.length≤96):Rd.program ⟨tkPr p,[]⟩ 0= .ok p (tkPr p).length:=by
 have hl:(tkPr p).length=(flT tkEn p.enums).length+(flT (tkNo p.enums) p.nodes).length:=by unfold tkPr;rw[qab]
 have n1:=zc7 (g:=tkEn) (fun u=>by unfold tkEn;simp) p.enums;have n2:=zc7 (g:=tkNo p.enums) (fun u=>by unfold tkNo;simp) p.nodes
 have ht:isL (flT (tkNo p.enums) p.nodes) [116,121,112,101]=false:=by
  rcases zlL (zA0 p.enums) p.nodes []with ⟨_,e⟩|⟨T,e⟩ <;> rw[qaz]at e <;> rw[e] <;> rfl
 have ha:At ⟨tkPr p,[]⟩ 0 (flT tkEn p.enums++flT (tkNo p.enums) p.nodes):=rfl;have hb:At ⟨tkPr p,p.enums⟩ (0+(flT tkEn p.enums).length) (flT (tkNo p.enums) p.nodes):=At.app (A:=flT tkEn p.enums) (i:=0) rfl;have e1:=zpW (R:=⟨tkPr p,[]⟩) p.enums [] (tkPr p).length 0 _ h1 oA (by simpa using h2) ha ht;have e2:=zpo (R:=⟨tkPr p,p.enums⟩) p.nodes [] (tkPr p).length _ h3 oA (by simpa using h4) hb;rw[qaP]at e1 e2;rw[Rd.program];show((Rd.types ⟨tkPr p,[]⟩ (tkPr p).length [] 0).bind _)=_;rw[e1,okB];show((Rd.nodes ⟨tkPr p,p.enums⟩ (tkPr p).length [] (0+(flT tkEn p.enums).length)).bind _)=_;rw[e2,okB,hl];congr 1;show 0+(flT tkEn p.enums).length+(flT (tkNo p.enums) p.nodes).length=_;omega
structure EnX (es:List En):Prop extends EnW es where
 nm:∀u∈es,ident u.name=true
 nod:(es.map En.name).Nodup
theorem zlH{s:Str}:∀ {es:List En} {k i:Nat},(es.map En.name).Nodup->(es.map En.name)[i]?=some s->zfk s k es=some (k+i)
 | u::es,k,0,_,h=>by
   rw[qaf,qcf]at h;injection h with h
   rw[zfk,oG h];rfl
 | u::es,k,i+1,hn,h=>by
   rw[qaf,qaU]at h;rw[qaf]at hn;have hm:=qau h;rw[zfk,oH (show ¬u.name=s from fun e=>(qbz.1 hn).1 (by rw[e];exact hm)),zlH (qbz.1 hn).2 h];congr 1;omega
theorem zjz:∀(es:List En) (k:Nat),((((es.zipIdx k).map entQ).flatten.map keyQ).Nodup->(es.map En.name).Nodup)/\∀s,s∈es.map En.name->((2:Int),s)∈((es.zipIdx k).map entQ).flatten.map keyQ
 | [],k=>⟨fun _=>oC,fun s hs=>by simp at hs⟩
 | x::es,k=>by
   obtain⟨h1,h2⟩:=zjz es (k+1);rw[qcJ,qaf,qaK,qaw,qaf];constructor
   ·intro hn;rw[qbs]at hn;obtain⟨n1,n2,n3⟩:=hn;refine qbz.2 ⟨fun hm=>?_,h1 n2⟩;exact n3 (2,x.name) (qaL.2 ⟨(2,x.name,(k:Int)),qah,rfl⟩) _ (h2 _ hm) rfl
   ·intro s hs;rw[qbe];rcases qa5.1 hs with rfl|hs
    ·exact .inl (qaL.2 ⟨(2,x.name,(k:Int)),qah,rfl⟩)
    ·exact .inr (h2 s hs)
theorem orN{a b:Int}(h:orE a b=0):a=0/\b=0:=zaG h
theorem ifZ{P:Prop}[Decidable P](hc:c≠0)(h:(if P then 0 else c)=0):P:=by
 split at h
 ·assumption
 ·exact oI h hc
theorem ifN{P:Prop}[Decidable P](hc:c≠0)(h:(if P then c else 0)=0):¬P:=by
 split at h
 ·exact oI h hc
 ·assumption
theorem ziF(h:(zaX p).2=0):(p.enums.length≤24/\p.nodes.length≤96)/\∀u∈p.enums,EnV u/\ident u.name=true/\EnL u:=by
 unfold zaX at h;have h1:limE p=0:=qaA fun hh=>by rw[oG hh]at h;exact hh h
 rw[oH (by simp[h1])]at h;have h2:zad zew p.enums=0:=qaA fun hh=>by rw[oG hh]at h;exact hh h
 refine⟨ifZ oB h1,fun u hu=>?_⟩;have h3:=zab h2 u hu;unfold zew at h3;obtain⟨a1,a2⟩:=orN h3;obtain⟨a3,a4⟩:=orN a2;obtain⟨a5,a6⟩:=orN a4;exact⟨⟨fun e=>ifN oB a3 (by rw[e];rfl),ifZ oB a5⟩,zb5 a1,⟨zbH (zb5 a1),fun s hs=>zbH (zb5 (zab a6 s hs))⟩⟩
theorem zy5(h:(zcO p).2=0):EnX p.enums:=by
 obtain⟨h1,h2,_⟩:=zc4 h;obtain⟨h3,h4⟩:=zks p.enums.zipIdx [] oC h2;rw[qaP]at h4;exact⟨(ziA h).1,fun u hu=>((ziF h1).2 u hu).2.1,(zjz p.enums 0).1 h4⟩
section
variable {es:List En}
structure ExR' (es:List En) (e:Ex):Prop where
 lx:LxP (shF es 400 e) (tkF es 400 e)
 rd:∀K,PE ⟨K,es⟩ e (tkF es 400 e)
theorem zrX(hE:EnX es)(hX:zbi es e=0)(hv:∀x∈flat e,x.kind.1=2->zbu x.name 0 es=none):ExR' es e:=by
 have h0:wEx e≤400/\∀x∈flat e,oneX x=0/\insX es x=0:=by
  have h:=hX;unfold zbi at h;split at h
  ·rename_i hc;unfold zeC at hc;split at hc
   ·exact oI hc oB
   ·exact⟨oA,fun x hx=>⟨zab hc x hx,zab h x hx⟩⟩
  ·contradiction
 exact⟨(zpO 400 e h0.1 fun x hx=>(zzC hE.toEnW (K:=[]) (h0.2 x hx).1 (h0.2 x hx).2 (hv x hx)).1).t,fun K=>(zpv (R:=⟨K,es⟩) 400 e h0.1 fun x hx=>(zzC hE.toEnW (h0.2 x hx).1 (h0.2 x hx).2 (hv x hx)).2).pe⟩
theorem zth{t:Int}(h:0<zbf es t):t=1\/t=2\/3≤t/\∃u,es[(t-3).toNat]?=some u/\zaL es t=(u,true):=by
 by_cases h1:t=1
 ·exact .inl h1
 by_cases h2:t=2
 ·exact .inr (.inl h2)
 unfold zbf at h;rw[oH h1,oH h2]at h;right;right
 unfold zaL at h⊢;split at h
 ·rename_i hc;rw[oG hc];cases hu:es[(t-3).toNat]? with
  | none=>rw[hu]at h;simp at h
  | some u=>exact⟨hc.1,u,rfl,rfl⟩
 ·simp at h
theorem zzI(hE:EnX es)(h:onE es o=0):(LxP (valS es o.t.1 o.tag.1) [tgTk es o.t.1 o.tag.1]/\zbQ 1 o.name)/\∀K,SmW ⟨K,es⟩ o:=by
 unfold onE at h;obtain⟨h1,h2⟩:=orN h;obtain⟨h3,h4⟩:=ifZ oB h2;have hn:=zbH (zb5 h1);unfold hasT at h4;rw[oH h3]at h4;simp only[qar,decide_eq_true_eq]at h4;obtain⟨h5,h6⟩:=h4;rcases zth (es:=es) (t:=o.t.1) (by omega)with ht|ht|⟨ht,u,hu,he⟩
 ·have hv:o.tag.1=0\/o.tag.1=1:=by
   rw[ht]at h6
   have:o.tag.1<2:=h6
   omega
  have k:=fun K=>zlb (es:=es) (K:=K) hv
  rw[<-ht]at k;refine⟨⟨(k []).1,hn⟩,fun K=>⟨?_,oA,h5⟩⟩
  have:=(k K).2.2
  rw[ht];rw[ht]at this;exact this
 ·exact oI ht h3
 ·have hl:o.tag.1<((zaL es o.t.1).1.tags.length:Int):=by
   unfold zbf at h6;rw[oH oA,oH h3]at h6;exact h6
  have k:=fun K=>zpX hE.toEnW (K:=K) ht h5 hl
  exact⟨⟨(k []).1,hn⟩,fun K=>⟨(k K).2.2,oA,h5⟩⟩
theorem zoM(hE:EnX es){pt:Bool}(h:zfh es pt d=0):DcL es d/\∀K,DcW ⟨K,es⟩ d:=by
 unfold zfh at h;obtain⟨h1,h2⟩:=orN h;obtain⟨h3,h4⟩:=orN h2;obtain⟨_,h5⟩:=orN h4;obtain⟨h6,h7⟩:=orN h5;have h8:=zab h7;have hs:=zth (ifZ oB h3);refine⟨⟨zbH (zb5 h1),?_,fun o ho=>(zzI hE (h8 o ho)).1⟩,fun K=>⟨?_,fun o ho=>(zzI hE (h8 o ho)).2 K,ifZ oB h6⟩⟩
 ·rcases hs with hs|hs|⟨_,u,hu,he⟩
  ·exact .inl hs
  ·exact .inr (.inl hs)
  ·rw[he];exact .inr (.inr (zbH (hE.nm u (qau hu))))
 ·rcases hs with hs|hs|⟨h3,u,hu,he⟩
  ·exact .inl hs
  ·exact .inr (.inl hs)
  ·refine .inr (.inr ⟨h3,?_⟩);show zfk (zaL es d.ty.1).1.name 0 es=_;rw[he,zlH (s:=u.name) (k:=0) (i:=(d.ty.1-3).toNat) hE.nod (by rw[qan,hu];rfl),qaV]
variable {p:Prog}{seen:List (Int×Str×Int)}{node:Int}
def Cl(seen:List (Int×Str×Int))(l:List Str):Prop:=∀s∈l,(zaB seen 0 s).isSome=false
theorem Cl.app{a b:List Str}(h:Cl seen a)(h2:Cl seen b):Cl seen (a++b):=fun s hs=>(qbe.1 hs).elim (h s) (h2 s)
theorem zoj(hS:EnS es seen){vis:List Str}(hc:Cl seen vis){left:Int}(h:zea p seen node vis left e=0):∀x∈flat e,x.kind.1=2->zbu x.name 0 es=none:=by
 intro x hx hk
 have h4:x.name∈vis:=by
  unfold zea at h;obtain⟨h5,h6⟩:=orN h
  have key:∀left,zfz p seen node vis left x=0->x.name∈vis:=fun left h7=>by
   unfold zfz at h7;rw[oG (.inl hk)]at h7;exact ifZ oB h7
  rw[zb2]at hx;rcases qa5.1 hx with rfl|hx
  ·exact key _ h5
  ·exact key _ (zab h6 x hx)
 refine ziP fun w hw hm=>?_
 have h5:=hS.tag w hw _ hm;rw[hc _ h4]at h5;cases h5
theorem zwA{vis:List Str}(h:(zag (zbF seen vis) lv0 l).2=0):Cl seen (zag (zbF seen vis) lv0 l).1.own/\∀d∈l,(zaB seen 0 d.name).isSome=false:=by
 have key:∀(a:Lv) (d:Decl),(zbF seen vis a d).2=0->(zaB seen 0 d.name).isSome=false:=fun a d h0=>by
  have:=ifN oB h0
  cases hh:(zaB seen 0 d.name).isSome with
  | false=>rfl
  | true=>exact oI (.inl hh) this
 have h1:=zdV (fun a:Lv=>Cl seen a.own) l lv0 (fun a x hx ha h0 s hs=>(zsi hs).elim (ha s) fun e=>by rw[e];exact key a x h0) (fun s hs=>by cases hs) h;exact⟨h1.1,fun d hd=>by obtain⟨b,_,hb⟩:=h1.2 d hd;exact key b d hb⟩
theorem zrW(hE:EnX es)(hS:EnS es seen){vis low:List Str}{a:Lv}(hv:Cl seen vis)(ha:Cl seen a.own){l:List Equ}(hX:zad (equE es) l=0)(h:(zag (equS p seen node vis low) a l).2=0):(zag (equS p seen node vis low) a l).1.own=a.own/\∀q∈l,EqL es q/\∀K,EqW ⟨K,es⟩ q:=by
 obtain⟨h1,h2⟩:=zdV (fun b:Lv=>b.own=a.own) l a (fun b v hb hh _=>zxr.trans hh) rfl h;refine⟨h1,fun q hq=>?_⟩;obtain⟨b,hb,h3⟩:=h2 q hq;have h4:=zab hX q hq;unfold equE at h4;obtain⟨a1,a2⟩:=orN h4;obtain⟨a3,a4⟩:=orN a2;obtain⟨a5,a6⟩:=orN a4;obtain⟨a7,_⟩:=orN a6;unfold equS at h3;have h5:=zrX hE a7 (zoj hS (hv.app (by rw[hb];exact ha)) (orN h3).2);exact⟨⟨fun s hs=>zbH (zb5 (zab a5 s hs)),h5.lx⟩,fun K=>⟨fun e=>ifN oB a1 (by rw[e];rfl),ifZ oB a3,h5.rd K⟩⟩
theorem zrS:∀(l pre:List Str),pre.Nodup->dupE pre l=0->(pre++l).Nodup
 | [],pre,h,_=>by rwa [qaz]
 | s::l,pre,h,h2=>by
   rw[dupE]at h2;split at h2
   ·exact oI h2 oB
   ·rename_i hs
    have h3:(pre++[s]).Nodup:=by
     rw[qbs];refine⟨h,oC,fun a ha b hb=>?_⟩;rw[qbl]at hb;subst hb;rintro rfl;exact hs ha
    have:=zrS l (pre++[s]) h3 h2
    rwa [qay]at this
theorem zpT(hE:EnX es)(hS:EnS es seen){vis:List Str}(hv:Cl seen vis){strong:Bool}{n:Int}(hn:n=sts.length)(hnod:(sts.map Sta.name).Nodup)(hid:∀s∈sts,ident s.name=true){l:List Tran}(hX:zad (zfi es n strong) l=0)(h:zrD p seen node vis l=0):
  ∀q∈l,TrL es sts q/\TgW (sts.map Sta.name) sts q/\∀K,PE ⟨K,es⟩ q.cond (tkF es 400 q.cond):=fun q hq=>by
 have h1:=zab hX q hq;unfold zfi at h1;obtain⟨a1,a2⟩:=orN h1;obtain⟨a3,_⟩:=orN a2;obtain⟨b1,b2⟩:=ifZ oB a1;have h2:=zrX hE a3 (zoj hS hv (zab h q hq));have hlt:q.to.1.toNat<sts.length:=oA
 have hg:sts[q.to.1.toNat]?=some sts[q.to.1.toNat]:=qad hlt;have ht:tgN sts q=sts[q.to.1.toNat].name:=by unfold tgN;rw[hg];rfl
 refine⟨⟨h2.lx,?_⟩,⟨?_,b1⟩,h2.rd⟩
 ·show zbQ 1 (tgN sts q);rw[ht];exact zbH (hid _ (qak hlt))
 ·rw[ht,zkx (j:=q.to.1.toNat) hnod (by rw[qan,hg];rfl),qaV]
theorem zow(hE:EnX es)(hS:EnS es seen):∀(k:Nat) (vis low:List Str) (t:Lv) (a:Auto),Cl seen vis->Cl seen t.own->zdl es k a=0->(zcQ p seen node k vis low t a).2=0->AuL es k a/\∀K,AuW ⟨K,es⟩ k a
 | 0,_,_,_,_,_,_,h,_=>oI (show(3:Int)=0 from h) oB
 | k+1,vis,low,t,a,hv,ht,hX,h=>by
   unfold zdl at hX;obtain⟨_,x1⟩:=orN hX;obtain⟨x2,x3⟩:=orN x1;unfold zcQ at h;dsimp only at h;obtain⟨g1,g2⟩:=orN h;obtain⟨g3,_⟩:=orN g2;have hnod:=zrS _ [] oC g1;rw[qaP]at hnod;have hst:=zab x3
   have hid:∀s∈a.states,ident s.name=true:=fun s hs=>by
    have:=hst s hs
    unfold stE at this;exact zb5 (orN this).1
   have hvv:=hv.app ht
   have key:∀s∈a.states,StL es (AuL es k) a.states s/\∀K,StW ⟨K,es⟩ (AuW ⟨K,es⟩ k) a.states s:=fun s hs=>by
    have y1:=hst s hs;have y2:=zab g3 _ (qaL.2 ⟨s,hs,rfl⟩);unfold stE at y1;unfold stS at y2;dsimp only at y2;obtain⟨e1,y1⟩:=orN y1;obtain⟨e2,y1⟩:=orN y1;obtain⟨e3,y1⟩:=orN y1;obtain⟨e4,y1⟩:=orN y1;obtain⟨e5,y1⟩:=orN y1;obtain⟨e6,e7⟩:=orN y1;obtain⟨n1,n2,n3,n4,n5⟩:=ifZ oB e2;obtain⟨f1,y2⟩:=orN y2;obtain⟨_,y2⟩:=orN y2;obtain⟨f2,y2⟩:=orN y2;obtain⟨f3,y2⟩:=orN y2;obtain⟨f4,y2⟩:=orN y2;obtain⟨f5,_⟩:=orN y2;obtain⟨o1,_⟩:=zwA f1;obtain⟨o2,q1⟩:=zrW hE hS hvv o1 e4 f2;have c1:Cl seen (zag (equS p seen node (vis++t.own) (low++t.done)) (zag (zbF seen (vis++t.own)) lv0 s.locals).1 s.eqs).1.own:=by rw[o2];exact o1
    obtain⟨o3,q2⟩:=zdV (fun b:Lv=>Cl seen b.own) s.autos _ (fun b x hx hb _=>by cases k with|zero=>exact hb|succ k=>exact hb) c1 f3
    have q3:∀b∈s.autos,AuL es k b/\∀K,AuW ⟨K,es⟩ k b:=fun b hb=>by
     obtain⟨c,hc,h0⟩:=q2 b hb;exact zow hE hS k _ _ c b hvv hc (zab e5 b hb) h0
    have q4:=zpT hE hS hvv (n:=a.states.length) (sts:=a.states) rfl hnod hid e6 f4;have q5:=zpT hE hS (hvv.app o3) (n:=a.states.length) (sts:=a.states) rfl hnod hid e7 f5;have q6:=fun d hd=>zoM hE (zab e3 d hd)
    exact⟨⟨zbH (zb5 e1),fun d hd=>(q6 d hd).1,fun q hq=>(q4 q hq).1,fun q hq=>(q1 q hq).1,fun b hb=>(q3 b hb).1,fun q hq=>(q5 q hq).1⟩,
     fun K=>⟨fun d hd=>(q6 d hd).2 K,n1,fun q hq=>(q4 q hq).2.2 K,n4,fun q hq=>(q4 q hq).2.1,fun q hq=>(q1 q hq).2 K,n2,fun b hb=>(q3 b hb).2 K,n3,fun q hq=>(q5 q hq).2.2 K,n5,fun q hq=>(q5 q hq).2.1⟩⟩
   exact⟨fun s hs=>(key s hs).1,fun K=>⟨ifZ oB x2,fun s hs=>(key s hs).2 K⟩⟩
theorem zs8:∀(l:List Str) (o:List Str),Cl seen o->Cl seen l->Cl seen (l.foldl ins o)
 | [],_,h,_=>h
 | x::l,o,h,h2=>zs8 l (ins o x) (fun s hs=>(zsi hs).elim (h s) fun e=>by rw[e];exact h2 x qah) fun s hs=>h2 s (qai _ hs)
theorem zlB(hE:EnX es)(hS:EnS es seen){L:List Decl}(hL:∀d∈L,(zaB seen 0 d.name).isSome=false){l:List Ex}(hX:zad (zbi es) l=0)(h:zjp p seen node L l=0):∀e∈l,ExR' es e:=fun e he=>
 zrX hE (zab hX e he) (zoj hS (zs8 (L.map Decl.name) [] (fun s hs=>by cases hs) fun s hs=>by obtain⟨d,hd,rfl⟩:=qaL.1 hs;exact hL d hd) (zab h e he))
theorem zxW(hE:EnX es)(hS:EnS es seen){n:Nod}(hX:(zcp es n).2=0)(h:(zuL p seen node n).2=0):NoL es n/\∀K,NoW ⟨K,es⟩ n:=by
 unfold zcp at hX;have h1:zlV es n=0:=qaA fun hh=>by rw[oG hh]at hX;exact hh hX
 rw[oH (by simp[h1])]at hX;have h2:zad (equE es) n.eqs=0:=qaA fun hh=>by rw[oG hh,zcv]at hX;exact hh hX
 rw[oH (by simp[h2])]at hX;replace hX:zod es n=0:=hX;unfold zlV at h1;unfold zod at hX;obtain⟨x1,hX⟩:=orN hX;obtain⟨x2,x3⟩:=orN hX;obtain⟨a1,h1⟩:=orN h1;obtain⟨a2,h1⟩:=orN h1;obtain⟨a3,h1⟩:=orN h1;obtain⟨a4,h1⟩:=orN h1;obtain⟨a5,a6⟩:=orN h1;obtain⟨n1,n2,n3,n4,n5,n6,n7⟩:=ifZ oB a2;unfold zuL at h;dsimp only at h;unfold zlF at h;have d0:(zag (zbF seen []) lv0 (zdh n)).2=0:=qaA fun hh=>by rw[oG hh]at h;exact hh h
 rw[oH (by simp[d0])]at h;obtain⟨o1,o2⟩:=zwA d0;generalize (zag (zbF seen []) lv0 (zdh n)).1=A at*;have d1:zjV A.own n.locals=0:=qaA fun hh=>by rw[oG hh]at h;exact hh h
 rw[oH (by simp[d1])]at h;have d2:(zag (equS p seen node [] ((n.ins.map Decl.name).foldl ins [])) A n.eqs).2=0:=qaA fun hh=>by rw[oG hh]at h;exact hh h
 rw[oH (by simp[d2])]at h;dsimp only at h;obtain⟨f1,h⟩:=orN h;obtain⟨f2,h⟩:=orN h;obtain⟨f3,_⟩:=orN h;have hn0:Cl seen ([]:List Str):=fun s hs=>by cases hs
 obtain⟨o3,q1⟩:=zrW hE hS hn0 o1 h2 d2;obtain⟨_,q2⟩:=zdV (fun b:Lv=>Cl seen b.own) n.autos _ (fun b x hx hb _=>hb) (by rw[o3];exact o1) f1
 have q3:∀b∈n.autos,AuL es 3 b/\∀K,AuW ⟨K,es⟩ 3 b:=fun b hb=>by
  obtain⟨c,hc,h0⟩:=q2 b hb;exact zow hE hS 3 _ _ c b hn0 hc (zab x1 b hb) h0
 have q4:=zlB hE hS (fun d hd=>o2 d (by unfold zdh;exact qbG _ hd)) x2 f2
 have q5:=zlB hE hS (fun d hd=>o2 d (by
  unfold zdh;rcases qbe.1 hd with hd|hd
  ·exact qbG _ hd
  ·exact qb3 _ (qbG _ hd))) x3 f3
 have q6:=fun d hd=>zoM hE (zab a4 d hd)
 have q7:=fun d hd=>zoM hE (zab a5 d hd)
 have q8:=fun d hd=>zoM hE (zab a6 d hd)
 exact⟨⟨zbH (zb5 a1),fun d hd=>(q6 d hd).1,fun d hd=>(q7 d hd).1,fun d hd=>(q8 d hd).1,fun e he=>(q4 e he).lx,fun e he=>(q5 e he).lx,fun q hq=>(q1 q hq).1,fun b hb=>(q3 b hb).1⟩,
  fun K=>⟨fun d hd=>(q6 d hd).2 K,n1,fun d hd=>(q7 d hd).2 K,n2,fun e=>ifN oB a3 (by rw[e];rfl),fun d hd=>(q8 d hd).2 K,n3,fun e he=>(q4 e he).rd K,n6,fun e he=>(q5 e he).rd K,n7,fun q hq=>(q1 q hq).2 K,n4,fun b hb=>(q3 b hb).2 K,n5⟩⟩
end
theorem zpn(h:(zcO p).2=0):∀n∈p.nodes,NoL p.enums n/\∀K,NoW ⟨K,p.enums⟩ n:=fun n hn=>by
 obtain⟨h1,h2,h3⟩:=zc4 h
 obtain⟨i,hi⟩:∃i,(n,i)∈p.nodes.zipIdx:=by
  obtain⟨i,hi,e⟩:=List.getElem_of_mem hn;refine⟨i,?_⟩;rw[List.mem_iff_getElem?];exact⟨i,by simp[qad hi,e]⟩
 obtain⟨b,hb,h4⟩:=(zdV (EnS p.enums) p.nodes.zipIdx _ (fun a x hx ha _=>ha.add _) (ziA h).2 h3).2 _ hi;have h5:(zdb p b i n).2=0:=h4;unfold zdb at h5;split at h5
 ·exact oI h5 oB
 ·exact zxW (zy5 h) (hb.add _) (ziE h1 n hn) h5
end Go.Proofs.YtdicfgideclbdaaGreatDoor
