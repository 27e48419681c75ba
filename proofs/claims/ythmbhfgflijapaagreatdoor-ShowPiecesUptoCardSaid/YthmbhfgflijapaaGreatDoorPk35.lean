import Derived.Test.YthmbhfgflijapaaGreatDoorPk34
set_option linter.all false
namespace Go.Proofs.YthmbhfgflijapaaGreatDoor
open Go Go.TL
attribute [local irreducible] TR TO Then zag RetK Sound zab Kf GG zaK
theorem zvM{e:Ex}(h:oneX e=0)(hnm:e.name.length≤3000000):ShA e:=by
 have hfew:e.args.length≤64:=by
  unfold oneX oneI at h
  split at h
  ·cases h
  ·omega
 unfold oneX at h
 rw[zp6 _ _ _ _ _ _ (by omega)]at h
 have hf:zii e.kind.1 e.op.1 e.t.1 e.v.1 e.name e.args.length=true:=by
  exact zwcr
 clear h
 unfold zii at hf
 split at hf
 ·cases hf
 rename_i h1
 have ha:zj3 e.kind.1 e.op.1 e.t.1 e.v.1 e.args.length=true:=by
  exact zwdb
 split at hf
 ·cases hf
 rename_i h2
 split at hf
 ·cases hf
 unfold zj3 at ha
 refine⟨hfew,hnm,by omega,fun hk ht=>?_,fun hk=>?_,fun hk=>?_,fun hk=>?_,fun hk=>?_,fun hk=>?_,fun hk ht=>?_,fun hk=>?_⟩
 ·rw[hk,ht]at hf
  simp at hf
  omega
 ·rw[hk]at ha h2
  simp at ha h2
  unfold opdI
  split at ha
  ·rename_i h3
   rw[if_pos h3]
   omega
  ·rename_i h3
   rw[if_neg h3]
   omega
 ·rw[hk]at ha;simp at ha;omega
 ·exact zwfu
 ·exact zwfu
 ·rcases hk with hk|hk
  ·rw[hk]at hf
   simp[tagI]at hf
   omega
  ·rw[hk]at hf
   simp at hf
   omega
 ·rw[hk,ht]at ha;simp at ha;omega
 ·rw[hk]at hf ha
  simp at hf ha
  omega
theorem zqE{es:List En}{e:Ex}(h:za4 es e=0)(hn:∀x∈flat e,x.name.length≤3000000):ShOk e/\wEx e≤400:=by
 unfold za4 at h
 split at h
 ·rename_i hc
  unfold zd5 at hc
  split at hc
  ·cases hc
  ·rename_i hd
   exact⟨fun x hx=>zvM (zah hc x hx) (hn x hx),by omega⟩
 ·rename_i hc;exact absurd h hc
theorem zpG(b:Blk):Hands [b,symB] [1] [symB]:=by
 refine⟨by decide,by simp,rfl,fun j i c hj hc=>?_,fun j c hc=>?_⟩
 ·cases j with
  | zero=>simp at hj hc;subst hj hc;rfl
  | succ j=>simp at hj
 ·cases j with
  | zero=>simp at hc;subst hc;rfl
  | succ j=>simp at hc
section rules
variable {n:Nat}{env:Env}{H:Heap}{K:TK}{all:Array Oper}{rest:List Oper}{d:Nat}{ty:TypeId}{pos:String}{aft:Array Edge}
theorem TO.newW{es:List En}{f:Operand}{args:Array Operand}{ts:Array TypeId}(hd:Nat.ble (d+1) n=true)(hf:env.val f=some (.fn 17 []))(ha:env.vals args.toList=some [.t (ensT es)])
  (k:TO false Tryz.prog n all rest ((d,.ag [.t (ensT es),.mp (H.length+1)])::env) (H++[.cells [.t (ensT es),.mp (H.length+1)],symB]) K):
  TO false Tryz.prog n all (⟨some d,.call { callee:=.value f,args:=args,argTypes:=ts },ty,pos,aft,none⟩::rest) env H K:=
 TO.zds [] (zhC es) hd hf ha (Les.refl _) rfl (zeB H) (by simp[SV.ren,names,rens]) (by
  simp[patch,Blk.ren,names,rens,SV.ren]) k
theorem TO.wrC{es:List En}{b:Blk}{fid:FuncId}{x:T}{s:Str}{f:Operand}{args:Array Operand}{ts:Array TypeId}(hs:Sound Tryz.prog fid [wr es,.t x] [symB] (fun r H'=>r= .ret (.s s)/\H'=[symB]))(hd:Nat.ble (d+1) n=true)(hf:env.val f=some (.fn fid []))(ha:env.vals args.toList=some [.ag [.t (ensT es),.mp 1],.t x])
  (k:TO false Tryz.prog n all rest ((d,.s s)::env) [b,symB] K):
  TO false Tryz.prog n all (⟨some d,.call { callee:=.value f,args:=args,argTypes:=ts },ty,pos,aft,none⟩::rest) env [b,symB] K:=
 TO.zds [1] hs hd hf ha (Les.refl _) rfl (zpG b) rfl rfl k
end rules
def zmx(es:List En)(e:Ex):Str×Int:=if za4 es e=0 then(shF es 400 e,0) else([],za4 es e)
set_option maxHeartbeats 4000000 in
theorem zhU {es:List En} (h:ShE es) (e:Ex) (hw:wEx e≤1000000000) (hn:∀x∈flat e,x.name.length≤3000000):Pure Tryz.prog 7 [.t (ensT es),.t (.ag (exC e))] (.tup [.s (zmx es e).1,.i (zmx es e).2]):=by
 have hx:=zco es e hw
 rw[zae]at hx
 have he:exC e=[T.n e.kind,T.n e.op,T.n e.t,T.n e.v,.s e.name,.sl 6 (e.args.map exT)]:=rfl
 unfold zmx
 by_cases hz:za4 es e=0
 ·rw[if_pos hz]
  obtain⟨g1,g2⟩:=zqE hz hn
  have hs:=zcn h 400 e g1 g2 (by decide)
  unfold ShC at hs
  rw[hz]at hx
  generalize shF es 400 e=z at*
  rw[he]at*
  refine so Tryz.func7 ?_
  repeat' (first|refine wkt ?_|refine wv hx ?_|exact wkc|intro hc|refine wk2 ?_ ?_|fail)
  refine TR.zjC (envF:=?envF) (HF:=[.cells [.t (ensT es),.mp 1],symB]) [(.t (ensT es),false),(.ag [.t (ensT es),.mp 1],true),(.t (.ag [T.n e.kind,T.n e.op,T.n e.t,T.n e.v,.s e.name,.sl 6 (e.args.map exT)]),false),(.s z,true),(.s z,false),(.i 0,false)] [[],[.cells [.t (ensT es),.mp 1],symB],[.cells [.t (ensT es),.mp 1],symB]] hmix ?hB rfl ?hp rfl ?hE ?hK
  case hB=>(dsimp only[List.map];decide +kernel)
  case hE=>exact rfl
  case hp=>
   repeat' (first|(apply TO.newW;(iterate 3 exact rfl))|(apply TO.wrC hs;(iterate 3 exact rfl))|refine wkt ?_|exact trivial|exact⟨rfl,rfl⟩|refine qai (fun H env=>?_) ?_|refine qai (fun env=>?_) ?_|refine wk ?_|fail)
  case hK=>
   repeat' (first|refine wu ?_|exact wkc|intro hc|refine wk2 ?_ ?_|fail)
   exact wkr
 ·rw[if_neg hz]
  generalize za4 es e=c at*
  rw[he]at*
  refine so Tryz.func7 ?_
  repeat' (first|refine wu ?_|exact wkc|intro hc|refine wk2 ?_ ?_|refine wv hx ?_|fail)
  exact wkr
def zld(es:List En)(ck:List OnC):Str×Int:=if(ck.all fun o=>hasT es o.t.1 o.tag.1)=true then(zfj es ck,0) else([],5)
theorem ztK{es:List En}{ck:List OnC}{j:Nat}(hlt:j<ck.length)(hh:¬hasT es ck[j].t.1 ck[j].tag.1=true):zld es ck=([],5):=by
 unfold zld
 rw[if_neg]
 intro hall
 exact hh (qaw.1 hall _ (qaf hlt))
set_option maxHeartbeats 4000000 in
theorem zmw {es:List En} (h:ShE es) (ck:List OnC) (hn:∀o∈ck,o.name.length≤3000000) (hl:ck.length≤1000000):Pure Tryz.prog 14 [.t (ensT es),.t (.sl 3 (ck.map onT))] (.tup [.s (zld es ck).1,.i (zld es ck).2]):=by
 have hml:(ck.map onT).length=ck.length:=qab _
 have hs:=zgm h ck hn hl
 refine so Tryz.func14 ?_
 repeat' (first|refine wu ?_|exact wkc|intro hc|refine wk2 ?_ ?_|fail)
 refine TR.zaA ck.length (fun j=>((ck.take j).all fun o=>hasT es o.t.1 o.tag.1)=true) (fun j=>[(0,.t (ensT es)),(1,.t (.sl 3 (ck.map onT))),(8,.t (.sl 3 (ck.map onT))),(9,.i ck.length),(10,.i j)]) (fun j=>[]) rfl (fun j hlt ha=>?_) (fun ha=>?_) ⟨rfl,rfl,rfl,by rw[<-hml];rfl,rfl,trivial⟩ rfl
 ·have hx:=zbj onT hlt
  have htk:=zbr hlt
  have hh:=zft es ck[j].t ck[j].tag
  have hbad:=fun hq=>ztK (es:=es) hlt hq
  have hgood:hasT es ck[j].t.1 ck[j].tag.1=true->((ck.take (j+1)).all fun o=>hasT es o.t.1 o.tag.1)=true:=fun hq=>by
   rw[htk,qbS,ha]
   simpa using hq
  generalize hb:hasT es ck[j].t.1 ck[j].tag.1=b at*
  generalize zld es ck=sc at*
  generalize ck[j]=o at*
  obtain⟨nm,t,v⟩:=o
  dsimp only[onT]at hx hh
  cases b with
  | true=>
    repeat' (first|refine wu ?_|exact wkc|intro hc|refine wk2 ?_ ?_|refine wv hh ?_|fail)
    exact zab.zaI hlt (hgood rfl) ⟨rfl,rfl,rfl,rfl,rfl,trivial⟩ rfl
  | false=>
    rw[hbad (by decide)]
    repeat' (first|refine wu ?_|exact wkc|intro hc|refine wk2 ?_ ?_|refine wv hh ?_|fail)
    exact wkr
 ·rw[qap]at ha
  unfold zld
  rw[if_pos ha]
  generalize zfj es ck=z at*
  repeat' (first|refine wkt ?_|(apply TO.newW;(iterate 3 exact rfl))|(apply TO.wrC hs;(iterate 3 exact rfl))|refine zab.exit ?_|exact wkc|intro hc|refine wk2 ?_ ?_|refine wk ?_|fail)
  exact wkr
abbrev lnT:TypeId:=85
abbrev ln0 (es:List En)(l:Str):Heap:=[symB,.cells [.t (ensT es),.mp 0,.t (.v (.pointer none)),.rw 2 l.length],.row 5 (zca l)]
abbrev ln1 (es:List En)(l:Str):Heap:=[symB,.cells [.t (ensT es),.mp 0,.tref lnT 4 1 2,.rw 2 l.length],.row 5 (zca l)]
set_option maxHeartbeats 4000000 in
theorem zil (es:List En) (l:Str):Sound Tryz.prog 91 [.tref lnT 4 1 2] (ln0 es l) (fun r H'=>r= .ret (.tup [])/\H'=ln1 es l):=by
 refine so Tryz.func91 ?_
 repeat' (first|refine wg2 ?_ ?_|refine wg ?_|exact wgc|intro hc|(apply TO.zst zaf;(iterate 4 exact rfl);decide;kernel_rfl;exact rfl;exact rfl)|(apply TO.zn9 zaf;(iterate 4 exact rfl);kernel_rfl;exact rfl;kernel_rfl)|(apply TO.zl2;exact rfl;exact Tryz.func130;kernel_rfl;kernel_rfl;kernel_rfl;kernel_rfl;exact rfl)|fail)
 all_goals exact zwer
set_option maxHeartbeats 4000000 in
theorem zim (es:List En) (l:Str):Sound Tryz.prog 91 [.tref lnT 4 1 2] (ln1 es l) (fun r H'=>r= .ret (.tup [])/\H'=ln1 es l):=by
 refine so Tryz.func91 ?_
 repeat' (first|refine wg2 ?_ ?_|refine wg ?_|exact wgc|intro hc|(apply TO.zmj zaf;(iterate 6 exact rfl);exact Le.tref _ _ _ _;exact Le.tref _ _ _ _)|fail)
 all_goals exact zwer
def lnH(a:Bool)(es:List En)(l:Str):Heap:=bif a then ln1 es l else ln0 es l
theorem zju(a:Bool)(es:List En)(l:Str):Sound Tryz.prog 91 [.tref lnT 4 1 2] (lnH a es l) (fun r H'=>r= .ret (.tup [])/\H'=ln1 es l):=by
 cases a
 ·exact zil es l
 ·exact zim es l
set_option maxHeartbeats 4000000 in
theorem zjv (a:Bool) (es:List En) (l s:Str) (hl:l.length+s.length≤1000000000):Sound Tryz.prog 57 [.tref lnT 4 1 2,.s s] (lnH a es l) (fun r H'=>r= .ret (.tup [.i s.length,.t (.v .nilIface)])/\H'=ln1 es (l++s)):=by
 have hC:=zju a es l
 cases a
 all_goals
  refine so Tryz.func57 ?_
  repeat' (first|refine wg2 ?_ ?_|refine wg ?_|exact wgc|intro hc|(apply TO.zbH 3 (v:=.tup []) (Hc1:=ln1 es l) hC;(iterate 3 exact rfl);exact⟨Le.refl _,trivial⟩;(iterate 8 exact rfl))|(apply TO.znT zaf;(iterate 12 exact rfl);omega;exact rfl)|fail)
  exact RetK.keep 3 rfl (Le.refl _) rfl rfl rfl rfl rfl ⟨rfl,rfl⟩
def za3(level:Nat)(s:Str):Str:=Go.Lib.repeatL [32,32] level++s++[10]
set_option maxHeartbeats 4000000 in
theorem zcm (a:Bool) (es:List En) (l s:Str) (level:Nat) (hv:level≤100) (hl:l.length+(za3 level s).length≤1000000000):Sound Tryz.prog 29 [.tref lnT 4 1 0,.i level,.s s] (lnH a es l) (fun r H'=>r= .ret (.tup [])/\H'=ln1 es (l++za3 level s)):=by
 have hr:=zjE [32,32] level (by omega) (by show 2*level≤_;omega)
 have hw:=zjv a es l (za3 level s) hl
 unfold za3 at*
 generalize Go.Lib.repeatL [32,32] level=rp at*
 simp only[qad,qal,qaz]at hl
 cases a
 all_goals
  unfold lnH at*
  simp only[cond_true,cond_false]at*
  refine so Tryz.func29 ?_
  repeat' (first|refine wkt ?_|fail)
  refine TR.zjC (envF:=?envF) (HF:=ln1 es (l++(rp++s++[10]))) [(.tref lnT 4 1 0,false),(.tref lnT 4 1 0,false),(.tref lnT 4 1 2,false),(.i level,false),(.s rp,false),(.s s,false),(.s (rp++s),false),(.s (rp++s++[10]),false),(.tup [.i (rp++s++[10]).length,.t (.v .nilIface)],true)] [_,ln1 es (l++(rp++s++[10]))] hmix ?hB rfl ?hp rfl ?hE ?hK
  case hB=>(dsimp only[List.map];decide +kernel)
  case hE=>exact rfl
  case hp=>
   repeat' (first|(apply TO.zhq zaf;(iterate 5 exact rfl);decide;exact rfl)|refine wkt ?_|refine wv hr ?_|(apply TO.zbH 3 hw;(iterate 3 exact rfl);exact Les.refl _;(iterate 8 exact rfl))|refine zqb ?_|exact trivial|exact⟨rfl,rfl⟩|refine qai (fun H env=>?_) ?_|refine qai (fun env=>?_) ?_|refine wk ?_|fail)
  case hK=>
   repeat' (first|refine wu ?_|exact wkc|intro hc|refine wk2 ?_ ?_|fail)
   exact RetK.zkG 3 rfl (Le.refl _) rfl rfl rfl rfl rfl ⟨rfl,rfl⟩
def zcE(es:List En)(d:Decl):Str:=if 0<d.clock.length then d.name++[58,32]++(zdV es d.ty.1).1++([32]++zfj es d.clock) else d.name++[58,32]++(zdV es d.ty.1).1
def zcL(es:List En)(l:List Decl):Str:=Go.Lib.join (l.map (zcE es)) [59,32]
structure ShD (d:Decl):Prop where
 name:d.name.length≤3000000
 few:d.clock.length≤1000
 ck:∀o∈d.clock,o.name.length≤3000000
theorem ziC{es:List En}(h:ShE es){d:Decl}(hd:ShD d):(zfj es d.clock).length≤6000100000:=by
 refine qaq (zcF [32] 6000040 _ fun x hx=>?_) ?_
 ·obtain⟨o,ho,rfl⟩:=qaP.1 hx
  exact zjM h o (hd.ck o ho)
 ·rw[qab]
  exact qaq (qaD _ hd.few) (by decide)
theorem zpo{es:List En}(h:ShE es)(hT:∀t:Int,(zdV es t).1.length≤3000000){d:Decl}(hd:ShD d):(zcE es d).length≤6100000000:=by
 have h1:=ziC h hd
 have h2:=hT d.ty.1
 have h3:=hd.name
 exact zwcb
set_option maxHeartbeats 8000000 in
theorem zee {es:List En} (h:ShE es) (hT:∀t:Int,(zdV es t).1.length≤3000000) (l:List Decl) (hd:∀d∈l,ShD d) (hl:l.length≤1000):Sound Tryz.prog 60 [wr es,.t (.sl 3 (l.map zav))] [symB] (fun r H'=>r= .ret (.s (zcL es l))/\H'=[symB]):=by
 have hml:(l.map zav).length=l.length:=qab _
 have hj:=zcs (l.map (zcE es)) [59,32] (by rw[qab];omega) (by
  refine qaq (zcF [59,32] 6100000000 _ fun x hx=>?_) ?_
  ·exact zwff
  ·rw[qab]
   exact qaq (qaD _ hl) (by decide))
 unfold zcL
 have hjm:(l.map (zcE es)).map T.s=l.map fun d=>T.s (zcE es d):=by rw[qa8];rfl
 rw[hjm]at hj
 generalize Go.Lib.join (l.map (zcE es)) [59,32]=z at*
 refine so Tryz.func60 ?_
 refine wkt ?_
 refine zqj ?_
 repeat' (first|refine wkt ?_|fail)
 refine TR.tail 1 5 rfl ?_
 refine TR.zaA l.length (fun _=>True) (fun j=>[(2,.ref 1 0),(5,.sl 1 ((l.take j).map fun d=>T.s (zcE es d)) 2),(11,.t (.sl 3 (l.map zav))),(12,.i l.length),(13,.i j)]) (fun j=>[symB,.cells [.t (ensT es),.mp 0],.tail ((l.take j).map fun d=>T.s (zcE es d)).length]) trivial (fun j hlt _=>?_) (fun _=>?_) ⟨rfl,rfl,rfl,by rw[<-hml];rfl,rfl,trivial⟩ rfl
 ·have hx:=zbj zav hlt
  have htk:=zbr hlt
  have hdd:=hd _ (qaf hlt)
  have hnt:=zhA es l[j].ty
  have hln:=hT l[j].ty.1
  have hck:=zgm h l[j].clock hdd.ck (qaq hdd.few (by decide))
  have hcl:=ziC h hdd
  have hnm:=hdd.name
  have hlen:((l.take j).map fun d=>T.s (zcE es d)).length≤1000000:=by rw[qab,qbn];omega
  have hL1:(l.take (j+1)).map (fun d=>T.s (zcE es d))=(l.take j).map (fun d=>T.s (zcE es d))++[T.s (zcE es l[j])]:=by rw[htk,qaH];rfl
  have hmc:(l[j].clock.map onT).length=l[j].clock.length:=qab _
  generalize hds:zcE es l[j]=ds at*
  unfold zcE at hds
  generalize zfj es l[j].clock=cks at*
  generalize zdV es l[j].ty.1=nt at*
  generalize hL:(l.take j).map (fun d=>T.s (zcE es d))=L at*
  clear hdd
  generalize l[j]=d at*
  obtain⟨nm,ty,ck⟩:=d
  dsimp only[zav]at hx hds hck hnt hnm hmc
  by_cases hc0:0<ck.length
  ·rw[if_pos hc0]at hds
   subst hds
   repeat' (first|refine wkt ?_|refine wv hnt ?_|refine wd hck ?_|refine zqb ?_|exact wkc|intro hc|refine wk2 ?_ ?_|refine wk ?_|fail)
   all_goals exact zwbp
  ·rw[if_neg hc0]at hds
   subst hds
   repeat' (first|refine wkt ?_|refine wv hnt ?_|refine zqb ?_|exact wkc|intro hc|refine wk2 ?_ ?_|refine wk ?_|fail)
   all_goals exact zwbp
 ·exact zwbv
def zcd(es:List En)(level:Nat)(l:List Decl):Str:=if 0<l.length then za3 level ([118,97,114,32]++zcL es l++[59]) else[]
theorem zfT{es:List En}(h:ShE es)(hT:∀t:Int,(zdV es t).1.length≤3000000)(l:List Decl)(hd:∀d∈l,ShD d)(hl:l.length≤1000):(zcL es l).length≤6200000000000:=by
 refine qaq (zcF [59,32] 6100000000 _ fun x hx=>?_) ?_
 ·exact zwff
 ·rw[qab]
  exact qaq (qaD _ hl) (by decide)
set_option maxHeartbeats 8000000 in
theorem zfA {es:List En} (h:ShE es) (hT:∀t:Int,(zdV es t).1.length≤3000000) (t:Str) (level:Nat) (hv:level≤100) (l:List Decl) (hd:∀d∈l,ShD d) (hl:l.length≤1000) (hb:t.length+(zcd es level l).length≤1000000000):
  Sound Tryz.prog 61 [.tref lnT 4 1 0,.i level,.t (.sl 3 (l.map zav))] (ln1 es t) (fun r H'=>r= .ret (.tup [])/\H'=ln1 es (t++zcd es level l)):=by
 have hml:(l.map zav).length=l.length:=qab _
 have hdl:=zfT h hT l hd hl
 have hs:=zee h hT l hd hl
 unfold zcd at*
 by_cases h0:0<l.length
 ·rw[if_pos h0]at hb⊢
  have ha:=zcm true es t ([118,97,114,32]++zcL es l++[59]) level hv hb
  unfold lnH at ha
  simp only[cond_true]at ha
  generalize za3 level ([118,97,114,32]++zcL es l++[59])=ln at*
  generalize zcL es l=z at*
  refine so Tryz.func61 ?_
  repeat' (first|refine wkt ?_|refine wd hs ?_|(apply TO.zbH 3 ha;(iterate 3 exact rfl);exact Les.refl _;(iterate 8 exact rfl))|refine zqb ?_|exact wkc|intro hc|refine wk2 ?_ ?_|refine wk ?_|fail)
  all_goals exact zwdj
 ·rw[if_neg h0,qaG]
  refine so Tryz.func61 ?_
  repeat' (first|refine wkt ?_|exact wkc|intro hc|refine wk2 ?_ ?_|refine wk ?_|fail)
  all_goals exact zwdj
end Go.Proofs.YthmbhfgflijapaaGreatDoor
namespace Go.TL
open Go
def zoU(K:TK):TK:=fun e env H=>∃env1:Env,(∀i v,env1.look i=some v->∃u,env.look i=some u/\Le u v)/\K e env1 H
section rules
variable {P:Program}{n:Nat}{env:Env}{H:Heap}{K:TK}
theorem Post.weak{φ:Fm}{m:M}{e:Exit}{a:Act}{w:World}(h:Post φ m n (zoU K) e a w):Post φ m n K e a w:=by
 obtain⟨m2,env2,te,rfl,s,hm,he,hd,hx,env1,hle,hk⟩:=h
 exact⟨m2,env1,te,rfl,s,hm,⟨he.1,fun i v hv=>by
  obtain⟨u,hu,hl⟩:=hle i v hv
  obtain⟨x,x1,x2⟩:=he.2 i u hu
  exact⟨x,x1,hl m2 x x2⟩⟩,hd,hx,hk⟩
theorem TR.weak{c:Code}(h:TR P n c env H (zoU K)):TR P n c env H K:=
 fun φ m a h1 h2 h3 h4=>zbk (h φ m a h1 h2 h3 h4) fun _ _ _ hp=>hp.weak
theorem zoU.done{e:zdJ}(h:K e env H):zoU K e env H:=⟨env,fun _ v hv=>⟨v,hv,Le.refl v⟩,h⟩
variable {all:Array Oper}{rest:List Oper}{tab:Tab}{d:Nat}{ty:TypeId}{pos:String}{aft:Array Edge}
end rules
section rules
variable {P:Program}{n:Nat}{env:Env}{H:Heap}{K:TK}{tab:Tab}
variable {all:Array Oper}{rest:List Oper}{d:Nat}{ty:TypeId}{pos:String}{aft:Array Edge}
end rules
section rules
variable {P:Program}{all:Array Oper}
def zlC(P:Program)(n:Nat)(all:Array Oper)(full:Env)(G:List Heap):List Oper->List (SV×Bool)->List Heap->Prop
 | [],[],_=>True
 | o::l,(v,false)::t,hs=>(∀H∈G,∀env,TO false P n all [o] (zaM full (slotsOf all o)++env) H (NK (putE o.dst v (zaM full (slotsOf all o)++env)) H))/\zlC P n all full G l t hs
 | o::l,(v,true)::t,H1::H2::hs=>(∀env,TO false P n all [o] (zaM full (slotsOf all o)++env) H1 (NK (putE o.dst v (zaM full (slotsOf all o)++env)) H2))/\zlC P n all full G l t (H2::hs)
 | _,_,_=>False
theorem zlC.get{n:Nat}{full:Env}{G:List Heap}:∀ {l:List Oper} {t:List (SV×Bool)} {hs:List Heap},zlC P n all full G l t hs->l.length=t.length/\∀(i:Nat) o v b,l[i]?=some o->t[i]?=some (v,b)->
   (b=false->∀H∈G,∀env,TO false P n all [o] (zaM full (slotsOf all o)++env) H (NK (putE o.dst v (zaM full (slotsOf all o)++env)) H))/\
   (b=true->∃H1 H2,hs[effs t i]?=some H1/\hs[effs t i+1]?=some H2/\∀env,TO false P n all [o] (zaM full (slotsOf all o)++env) H1 (NK (putE o.dst v (zaM full (slotsOf all o)++env)) H2))
 | [],[],hs,_=>by simp
 | o::l,(v,false)::t,hs,h=>by
   obtain⟨h1,h2⟩:=h
   obtain⟨g1,g2⟩:=zlC.get h2
   exact zwbc
 | o::l,(v,true)::t,H1::H2::hs,h=>by
   obtain⟨h1,h2⟩:=h
   obtain⟨g1,g2⟩:=zlC.get h2
   exact zwr
 | o::l,(v,true)::t,[],h=>by exact h.elim
 | o::l,(v,true)::t,[_],h=>by exact h.elim
 | [],_::_,_,h=>by exact h.elim
 | _::_,[],_,h=>by exact h.elim
theorem TR.zfa{n:Nat}{env0 envF:Env}{H0 HF:Heap}{K:TK}{id':Nat}{l:List Oper}(t:List (SV×Bool))(hs:List Heap)(hm:P.follows .mixedOrders=true)(hB:mixB l.toArray (t.map (·.2))=true)(h0:hs[0]?=some H0)
  (hp:zlC P n l.toArray (zbT l.toArray (t.map (·.1)) env0) hs l t hs)(hF:hs[((t.map (·.2)).filter id).length]?=some HF)(hE:zbK (zbT l.toArray (t.map (·.1)) env0)=some envF)(hK:K .normal envF HF):
  TR P n (.region id' l.toArray true) env0 H0 K:=by
 obtain⟨g1,g2⟩:=hp.get
 intro φ m a h1 h2 h3 h4
 have hef:∀i,((t.map (·.2)).take i |>.filter id).length=effs t i:=by
  exact zweq
 have s0:Step m ⟨m.A,m.β,m.H,{ m.w with drawn:=m.w.drawn+1 }⟩/\HRel ⟨m.A,m.β,m.H,{ m.w with drawn:=m.w.drawn+1 }⟩:=zcJ h2 ⟨rfl,rfl,rfl,qae _,fun _ _=>rfl⟩
 refine zbs (wpIn_region_any hm ?_)
 refine zfe [] (G:=fun _=>True) (vs:=t.map (·.1)) (fl:=t.map (·.2)) (hs:=hs) (m0:=m) (fun t ht=>by cases ht) hB (by simp[g1]) (by simp[g1]) ?_ ?_ hF (fun _=>by rw[zba hE]at hK;exact hK) l.toArray.size (Array.replicate l.toArray.size false)
  ⟨m.A,m.β,m.H,{ m.w with drawn:=m.w.drawn+1 }⟩ a (by simp) ?_ ?_ ?_ s0.1 s0.2 ?_ (h4.step h2 s0.1)
 ·intro i o v ho hv hb c H hcH _ env
  obtain⟨⟨v',b⟩,hx,rfl⟩:∃x,t[i]?=some x/\x.1=v:=by simpa using hv
  have hb':b=false:=by
   exact zwfa
  exact((g2 i o v' b (by simpa using ho) hx).1 hb' H (qas hcH) env).nkp trivial
 ·exact zws
 ·exact zwfd
 ·exact zwcn
 ·exact zwca
 ·exact zwi
end rules
end Go.TL
namespace Go.Proofs.YthmbhfgflijapaaGreatDoor
open Go Go.TL
attribute [local irreducible] TR TO Then zag RetK Sound zab Kf GG zaK
theorem zmf{α:Type}{a b x:α}(h:x∈[a,b]):x=a\/x=b:=by simpa using h
def lhsS(l:List Str):Str:=if 1<l.length then[40]++Go.Lib.join l [44,32]++[41] else Go.Lib.join l [44,32]
def zch(es:List En)(level:Nat)(q:Equ):Str:=za3 level (lhsS q.left++[32,61,32]++shF es 400 q.right++[59])
structure ShQ (q:Equ):Prop where
 ok:ShOk q.right
 size:wEx q.right≤400
 few:q.left.length≤1000
 left:∀n∈q.left,n.length≤3000000
def zaj{α:Type}(g:α->Str)(l:List α):Str:=(l.map g).flatten
theorem zaR{α:Type}(g:α->Str)(l:List α)(x:α):zaj g (l++[x])=zaj g l++g x:=by simp[zaj]
theorem zb9{α:Type}(g:α->Str)(l:List α)(j:Nat):(zaj g (l.take j)).length≤(zaj g l).length:=by
 conv=>rhs;rw[<-qaV j l]
 simp only[zaj,qaH,qbB,qad]
 omega
set_option maxHeartbeats 8000000 in
theorem zhc {es:List En} (h:ShE es) (ga:Auto->Str) (t:Str) (level:Nat) (hv:level≤100) (eqs:List Equ) (autos:List Auto) (hq:∀q∈eqs,ShQ q) (hle:eqs.length≤1000000) (hla:autos.length≤1000000)
  (ha:∀a∈autos,∀t:Str,t.length+(ga a).length≤1000000000->Sound Tryz.prog 97 [.tref lnT 4 1 0,.i level,.t (zar a)] (ln1 es t) (fun r H'=>r= .ret (.tup [])/\H'=ln1 es (t++ga a)))
  (hb:t.length+(zaj (zch es level) eqs).length+(zaj ga autos).length≤1000000000):
  Sound Tryz.prog 62 [.tref lnT 4 1 0,.i level,.t (.sl 7 (eqs.map equT)),.t (.sl 1 (autos.map zar))] (ln1 es t) (fun r H'=>r= .ret (.tup [])/\H'=ln1 es (t++zaj (zch es level) eqs++zaj ga autos)):=by
 have hml:(eqs.map equT).length=eqs.length:=qab _
 have hma:(autos.map zar).length=autos.length:=qab _
 refine so Tryz.func62 ?_
 repeat' (first|refine wkt ?_|fail)
 refine TR.zaA eqs.length (fun _=>True) (fun j=>[(0,.tref lnT 4 1 0),(1,.i level),(3,.t (.sl 1 (autos.map zar))),(13,.t (.sl 7 (eqs.map equT))),(14,.i eqs.length),(15,.i j)]) (fun j=>ln1 es (t++zaj (zch es level) (eqs.take j))) trivial (fun j hlt _=>?_) (fun _=>?_) ⟨rfl,rfl,rfl,rfl,by rw[<-hml];rfl,rfl,trivial⟩ (by simp[zaj])
 ·have hx:(eqs.map equT)[j]?=some (.ag [T.sl 1 (eqs[j].left.map T.s),T.n eqs[j].right.kind,T.n eqs[j].right.op,T.n eqs[j].right.t,T.n eqs[j].right.v,T.s eqs[j].right.name,T.sl 6 (eqs[j].right.args.map exT)]):=zbj equT hlt
  have htk:=zbr hlt
  have hqq:=hq _ (qaf hlt)
  have hs:=zcn h 400 _ hqq.ok hqq.size (by decide)
  have hfl:=zb9 (zch es level) eqs (j+1)
  rw[htk,zaR]at hfl
  have hj1:t++zaj (zch es level) (eqs.take (j+1))=t++zaj (zch es level) (eqs.take j)++zch es level eqs[j]:=by rw[htk,zaR,qaO]
  have hadd:=zcm true es (t++zaj (zch es level) (eqs.take j)) (lhsS eqs[j].left++[32,61,32]++shF es 400 eqs[j].right++[59]) level hv (by
   rw[qad]at hfl⊢
   simp only[zch]at hfl hb
   omega)
  have hjl:(Go.Lib.join eqs[j].left [44,32]).length≤3000002000:=by
   refine qaq (zcF [44,32] 3000000 _ hqq.left) ?_
   exact qaq (qaD _ hqq.few) (by decide)
  have hjn:=zcs eqs[j].left [44,32] (qaq hqq.few (by decide)) (qaq hjl (by decide))
  have hgl:(shF es 400 eqs[j].right).length≤5000000000:=by
   have h1:=zhS h 400 _ hqq.ok
   have h2:wEx eqs[j].right*12000100≤400*12000100:=qaD _ hqq.size
   omega
  have hlh:lhsS eqs[j].left=if 1<eqs[j].left.length then[40]++Go.Lib.join eqs[j].left [44,32]++[41] else Go.Lib.join eqs[j].left [44,32]:=rfl
  have hee:zch es level eqs[j]=za3 level (lhsS eqs[j].left++[32,61,32]++shF es 400 eqs[j].right++[59]):=rfl
  rw[<-hee]at hadd
  have hms:(eqs[j].left.map T.s).length=eqs[j].left.length:=qab _
  clear hqq hfl
  unfold lnH at hadd
  simp only[cond_true]at hadd
  unfold ShC at hs
  unfold exC at hs
  generalize zch es level eqs[j]=ln at*
  generalize shF es 400 eqs[j].right=g at*
  generalize t++zaj (zch es level) (eqs.take j)=acc at*
  generalize Go.Lib.join eqs[j].left [44,32]=jn at*
  generalize lhsS eqs[j].left=lh at*
  generalize eqs[j]=q at*
  clear hee
  by_cases h1:1<q.left.length
  ·rw[if_pos h1]at hlh
   subst hlh
   repeat' (first|refine wkt ?_|refine zqf ?_|refine wv hjn ?_|refine zqb ?_|exact wkc|intro hc|refine wk2 ?_ ?_|fail)
   refine TR.zfa (envF:=?envF) (HF:=ln1 es (acc++ln)) [(.tref lnT 4 1 0,false),(.i level,false),(.s ([40]++jn++[41]),false),(.s ([40]++jn++[41]++[32,61,32]),false),(.tref lnT 4 1 0,false),(.tref lnT 4 1 0,false),(.ref 1 0,false),(wr es,false),(.cp [.sl 1 (q.left.map T.s),T.n q.right.kind,T.n q.right.op,T.n q.right.t,T.n q.right.v,.s q.right.name,.sl 6 (q.right.args.map exT)] 1,false),(.t (.ag [T.n q.right.kind,T.n q.right.op,T.n q.right.t,T.n q.right.v,.s q.right.name,.sl 6 (q.right.args.map exT)]),false),(.s g,false),(.s ([40]++jn++[41]++[32,61,32]++g),false),(.s ([40]++jn++[41]++[32,61,32]++g++[59]),false),(.tup [],true)] [ln1 es acc,ln1 es (acc++ln)] hmix ?hB rfl ?hp rfl ?hE ?hK
   case hB=>(dsimp only[List.map];decide +kernel)
   case hE=>exact rfl
   case hp=>
    repeat' (first|(refine qai (fun H hH env=>?_) ?_;rcases zmf hH with rfl|rfl)|refine qai (fun env=>?_) ?_|refine wkt ?_|refine wd hs ?_|(apply TO.zbH 3 hadd;(iterate 3 exact rfl);exact Les.refl _;(iterate 8 exact rfl))|refine zqb ?_|exact trivial|exact qai rfl rfl|refine wk ?_|fail)
    done
   case hK=>
    repeat' (first|refine wu ?_|exact wkc|intro hc|refine wk2 ?_ ?_|fail)
    exact zab.zaI hlt trivial (by(try dsimp only);exact⟨rfl,rfl,rfl,rfl,rfl,rfl,trivial⟩) (by(try dsimp only);rw[hj1])
  ·rw[if_neg h1]at hlh
   subst hlh
   repeat' (first|refine wkt ?_|refine zqf ?_|refine wv hjn ?_|refine zqb ?_|exact wkc|intro hc|refine wk2 ?_ ?_|fail)
   refine TR.zfa (envF:=?envF2) (HF:=ln1 es (acc++ln)) [(.tref lnT 4 1 0,false),(.i level,false),(.s lh,false),(.s (lh++[32,61,32]),false),(.tref lnT 4 1 0,false),(.tref lnT 4 1 0,false),(.ref 1 0,false),(wr es,false),(.cp [.sl 1 (q.left.map T.s),T.n q.right.kind,T.n q.right.op,T.n q.right.t,T.n q.right.v,.s q.right.name,.sl 6 (q.right.args.map exT)] 1,false),(.t (.ag [T.n q.right.kind,T.n q.right.op,T.n q.right.t,T.n q.right.v,.s q.right.name,.sl 6 (q.right.args.map exT)]),false),(.s g,false),(.s (lh++[32,61,32]++g),false),(.s (lh++[32,61,32]++g++[59]),false),(.tup [],true)] [ln1 es acc,ln1 es (acc++ln)] hmix ?hB2 rfl ?hp2 rfl ?hE2 ?hK2
   case hB2=>(dsimp only[List.map];decide +kernel)
   case hE2=>exact rfl
   case hp2=>
    repeat' (first|(refine qai (fun H hH env=>?_) ?_;rcases zmf hH with rfl|rfl)|refine qai (fun env=>?_) ?_|refine wkt ?_|refine wd hs ?_|(apply TO.zbH 3 hadd;(iterate 3 exact rfl);exact Les.refl _;(iterate 8 exact rfl))|refine zqb ?_|exact trivial|exact qai rfl rfl|refine wk ?_|fail)
    done
   case hK2=>
    repeat' (first|refine wu ?_|exact wkc|intro hc|refine wk2 ?_ ?_|fail)
    exact zab.zaI hlt trivial (by(try dsimp only);exact⟨rfl,rfl,rfl,rfl,rfl,rfl,trivial⟩) (by(try dsimp only);rw[hj1])
 ·rw[qap]
  repeat' (first|refine wkt ?_|refine zab.exit ?_|exact wkc|intro hc|refine wk2 ?_ ?_|fail)
  have hacc:(t++zaj (zch es level) eqs).length+(zaj ga autos).length≤1000000000:=by rw[qad];exact hb
  generalize t++zaj (zch es level) eqs=acc at*
  refine TR.zaA autos.length (fun _=>True) (fun j=>[(0,.tref lnT 4 1 0),(1,.i level),(44,.t (.sl 1 (autos.map zar))),(45,.i autos.length),(46,.i j)]) (fun j=>ln1 es (acc++zaj ga (autos.take j))) trivial (fun j hlt _=>?_) (fun _=>?_) ⟨rfl,rfl,rfl,by rw[<-hma];rfl,rfl,trivial⟩ (by simp[zaj])
  ·have hx:=zbj zar hlt
   have htk:=zbr hlt
   have hfl:=zb9 ga autos (j+1)
   rw[htk,zaR]at hfl
   have hj1:acc++zaj ga (autos.take (j+1))=acc++zaj ga (autos.take j)++ga autos[j]:=by rw[htk,zaR,qaO]
   have hs:=ha autos[j] (qaf hlt) (acc++zaj ga (autos.take j)) (by
    rw[qad]at hfl⊢
    omega)
   generalize acc++zaj ga (autos.take j)=ac2 at*
   generalize ga autos[j]=ln at*
   generalize autos[j]=a at*
   obtain⟨sts⟩:=a
   rw[zar]at hx hs
   repeat' (first|refine wkt ?_|refine zqf ?_|(apply TO.zbH 3 hs;(iterate 3 exact rfl);exact Les.refl _;(iterate 8 exact rfl))|exact wkc|intro hc|refine wk2 ?_ ?_|refine wk ?_|fail)
   exact zab.zaI hlt trivial (by(try dsimp only);exact⟨rfl,rfl,rfl,rfl,rfl,trivial⟩) (by(try dsimp only);rw[hj1])
  ·exact zwch
end Go.Proofs.YthmbhfgflijapaaGreatDoor
