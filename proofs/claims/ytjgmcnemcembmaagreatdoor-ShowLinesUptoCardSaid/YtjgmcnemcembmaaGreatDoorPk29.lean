import Derived.Test.YtjgmcnemcembmaaGreatDoorPk14
import Derived.Test.YtjgmcnemcembmaaGreatDoorPk15
import Derived.Test.YtjgmcnemcembmaaGreatDoorPk28
set_option linter.unusedSimpArgs false
set_option linter.unusedVariables false
namespace Go.Proofs.YtjgmcnemcembmaaGreatDoor
open Go Go.TL
attribute [local irreducible] TR TO Then InBlock RetK Sound LoopK Kf GG ThenL
def kwS(b:Bool):Str:=if b=true then[32,99,111,110,116,105,110,117,101,32] else[32,116,104,101,110,32]
def tranS(es:List En)(level:Nat)(word:Str)(sts:List Sta)(q:Tran):Str:=lineS level (word++[32]++shF es 400 q.cond++kwS q.resume++((sts[q.to.1.toNat]?).map Sta.name).getD []++[59])
structure ShTr (n:Nat) (q:Tran):Prop where
 ok:ShOk q.cond
 size:wEx q.cond≤400
 tgt:0≤q.to.1/\q.to.1<n
set_option maxHeartbeats 8000000 in
theorem trans_sound9 {es:List En} (h:ShE es) (t word:Str) (hwd:word.length≤100) (level:Nat) (hv:level≤100) (sts:List Sta) (hnm:∀s∈sts,s.name.length≤3000000) (l:List Tran) (hq:∀q∈l,ShTr sts.length q) (hl:l.length≤1000000)
  (hb:t.length+(flatS (tranS es level word sts) l).length≤1000000000):
  Sound Tryz.prog 123 [.tref lnT 4 1 0,.i level,.s word,.t (.ag [.sl 6 (sts.map staT)]),.t (.sl 8 (l.map tranT))] (ln1 es t) (fun r H'=>r= .ret (.tup [])/\H'=ln1 es (t++flatS (tranS es level word sts) l)):=by
 have hml:(l.map tranT).length=l.length:=List.length_map _
 refine so Tryz.func123 ?_
 repeat' (first|refine wkt ?_|fail)
 refine TR.loopN l.length (fun _=>True) (fun j=>[(0,.tref lnT 4 1 0),(1,.i level),(2,.s word),(8,.cp [.sl 6 (sts.map staT)] 0),(13,.t (.sl 8 (l.map tranT))),(14,.i l.length),(15,.i j)]) (fun j=>ln1 es (t++flatS (tranS es level word sts) (l.take j))) trivial (fun j hlt _=>?_) (fun _=>?_) ⟨rfl,rfl,rfl,rfl,rfl,by rw[<-hml];rfl,rfl,trivial⟩ (by simp[flatS])
 ·have hx:(l.map tranT)[j]?=some (tranT l[j]):=at_map tranT hlt
  have htk:=take_at hlt
  have hqq:=hq _ (List.getElem_mem hlt)
  have hs:=exprW_sound h 400 _ hqq.ok hqq.size (by decide)
  have hfl:=flatS_take (tranS es level word sts) l (j+1)
  rw[htk,flatS_snoc,List.length_append]at hfl
  have hj1:t++flatS (tranS es level word sts) (l.take (j+1))=t++flatS (tranS es level word sts) (l.take j)++tranS es level word sts l[j]:=by rw[htk,flatS_snoc,List.append_assoc]
  have hto:=hqq.tgt
  have hlt2:l[j].to.1.toNat<sts.length:=by omega
  have hst:=at_map staT hlt2
  have hsn:=hnm _ (List.getElem_mem hlt2)
  have hee:tranS es level word sts l[j]=lineS level (word++[32]++shF es 400 l[j].cond++kwS l[j].resume++sts[l[j].to.1.toNat].name++[59]):=by
   unfold tranS
   rw[List.getElem?_eq_getElem hlt2]
   rfl
  have hadd:=add_sound true es (t++flatS (tranS es level word sts) (l.take j)) (word++[32]++shF es 400 l[j].cond++kwS l[j].resume++sts[l[j].to.1.toNat].name++[59]) level hv (by
   rw[<-hee,List.length_append]
   omega)
  rw[<-hee]at hadd
  have hgl:(shF es 400 l[j].cond).length≤5000000000:=by
   have h1:=shF_len h 400 _ hqq.ok
   have h2:wEx l[j].cond*12000100≤400*12000100:=Nat.mul_le_mul_right _ hqq.size
   omega
  clear hqq hfl hee
  unfold lnH at hadd
  simp only[cond_true]at hadd
  unfold ShC at hs
  unfold exC at hs
  rw[staT_eq]at hst
  generalize tranS es level word sts l[j]=ln at*
  generalize shF es 400 l[j].cond=g at*
  generalize t++flatS (tranS es level word sts) (l.take j)=acc at*
  generalize sts[l[j].to.1.toNat]=st at*
  generalize l[j]=q at*
  have hx:(l.map tranT)[j]?=some (.ag [T.n q.cond.kind,T.n q.cond.op,T.n q.cond.t,T.n q.cond.v,.s q.cond.name,.sl 6 (q.cond.args.map exT),T.n q.to,.b q.resume]):=hx
  generalize q.resume=res at*
  cases res with
  | true=>
    have hk:kwS true=[32,99,111,110,116,105,110,117,101,32]:=rfl
    rw[hk]at hadd
    repeat' (first|refine wkt ?_|(apply TO.indexAddr tabOk;(iterate 8 exact rfl);omega;exact hx)|exact wkc|intro hc|refine wk2 ?_ ?_|fail)
    refine TR.regionH (envF:=?envF1) (HF:=ln1 es (acc++ln)) [(.tref lnT 4 1 0,false),(.i level,false),(.s word,false),(.s (word++[32]),false),(.tref lnT 4 1 0,false),(.tref lnT 4 1 0,false),(.ref 1 0,false),(wr es,false),(.cp [T.n q.cond.kind,T.n q.cond.op,T.n q.cond.t,T.n q.cond.v,.s q.cond.name,.sl 6 (q.cond.args.map exT),T.n q.to,.b true] 0,false),(.t (.ag [T.n q.cond.kind,T.n q.cond.op,T.n q.cond.t,T.n q.cond.v,.s q.cond.name,.sl 6 (q.cond.args.map exT)]),false),(.s g,false),(.s (word++[32]++g),false),(.s [32,99,111,110,116,105,110,117,101,32],false),(.s (word++[32]++g++[32,99,111,110,116,105,110,117,101,32]),false),(.cp [.sl 6 (sts.map staT)] 0,false),(.t (.sl 6 (sts.map staT)),false),(.cp [T.n q.cond.kind,T.n q.cond.op,T.n q.cond.t,T.n q.cond.v,.s q.cond.name,.sl 6 (q.cond.args.map exT),T.n q.to,.b true] 6,false),(.n q.to,false),(.cp [.s st.name,.sl 3 (st.locals.map declT),.sl 7 (st.eqs.map equT),.sl 1 (st.autos.map autoT),.sl 8 (st.unl.map tranT),.sl 8 (st.unt.map tranT)] 0,false),(.cp [.s st.name,.sl 3 (st.locals.map declT),.sl 7 (st.eqs.map equT),.sl 1 (st.autos.map autoT),.sl 8 (st.unl.map tranT),.sl 8 (st.unt.map tranT)] 0,false),(.s st.name,false),(.s (word++[32]++g++[32,99,111,110,116,105,110,117,101,32]++st.name),false),(.s (word++[32]++g++[32,99,111,110,116,105,110,117,101,32]++st.name++[59]),false),(.tup [],true)] [ln1 es acc,ln1 es (acc++ln)] hmix ?hB1 rfl ?hp1 rfl ?hE1 ?hK1
    case hB1=>(dsimp only[List.map];decide +kernel)
    case hE1=>exact rfl
    case hp1=>
     repeat' (first|(refine And.intro (fun H hH env=>?_) ?_;rcases mem2J hH with rfl|rfl)|refine And.intro (fun env=>?_) ?_|refine wkt ?_|refine wd hs ?_|(apply TO.callD 3 hadd;exact rfl;exact rfl;exact rfl;exact Les.refl _;exact rfl;exact rfl;exact rfl;exact rfl;exact rfl;exact rfl;exact rfl;exact rfl)|(apply TO.indexAddr tabOk;(iterate 8 exact rfl);exact hto.1;exact hst)|(apply TO.cat;exact rfl;exact rfl;exact rfl;(first|omega|(simp only[List.length_append,List.length_cons,List.length_nil];omega)))|exact trivial|exact And.intro rfl rfl|refine wk ?_|fail)
     done
    case hK1=>
     repeat' (first|refine wu ?_|exact wkc|intro hc|refine wk2 ?_ ?_|fail)
     exact LoopK.nextN hlt trivial (by(try dsimp only);exact⟨rfl,rfl,rfl,rfl,rfl,rfl,rfl,trivial⟩) (by(try dsimp only);rw[hj1])
  | false=>
    have hk:kwS false=[32,116,104,101,110,32]:=rfl
    rw[hk]at hadd
    repeat' (first|refine wkt ?_|(apply TO.indexAddr tabOk;(iterate 8 exact rfl);omega;exact hx)|exact wkc|intro hc|refine wk2 ?_ ?_|fail)
    refine TR.regionH (envF:=?envF2) (HF:=ln1 es (acc++ln)) [(.tref lnT 4 1 0,false),(.i level,false),(.s word,false),(.s (word++[32]),false),(.tref lnT 4 1 0,false),(.tref lnT 4 1 0,false),(.ref 1 0,false),(wr es,false),(.cp [T.n q.cond.kind,T.n q.cond.op,T.n q.cond.t,T.n q.cond.v,.s q.cond.name,.sl 6 (q.cond.args.map exT),T.n q.to,.b false] 0,false),(.t (.ag [T.n q.cond.kind,T.n q.cond.op,T.n q.cond.t,T.n q.cond.v,.s q.cond.name,.sl 6 (q.cond.args.map exT)]),false),(.s g,false),(.s (word++[32]++g),false),(.s [32,116,104,101,110,32],false),(.s (word++[32]++g++[32,116,104,101,110,32]),false),(.cp [.sl 6 (sts.map staT)] 0,false),(.t (.sl 6 (sts.map staT)),false),(.cp [T.n q.cond.kind,T.n q.cond.op,T.n q.cond.t,T.n q.cond.v,.s q.cond.name,.sl 6 (q.cond.args.map exT),T.n q.to,.b false] 6,false),(.n q.to,false),(.cp [.s st.name,.sl 3 (st.locals.map declT),.sl 7 (st.eqs.map equT),.sl 1 (st.autos.map autoT),.sl 8 (st.unl.map tranT),.sl 8 (st.unt.map tranT)] 0,false),(.cp [.s st.name,.sl 3 (st.locals.map declT),.sl 7 (st.eqs.map equT),.sl 1 (st.autos.map autoT),.sl 8 (st.unl.map tranT),.sl 8 (st.unt.map tranT)] 0,false),(.s st.name,false),(.s (word++[32]++g++[32,116,104,101,110,32]++st.name),false),(.s (word++[32]++g++[32,116,104,101,110,32]++st.name++[59]),false),(.tup [],true)] [ln1 es acc,ln1 es (acc++ln)] hmix ?hB2 rfl ?hp2 rfl ?hE2 ?hK2
    case hB2=>(dsimp only[List.map];decide +kernel)
    case hE2=>exact rfl
    case hp2=>
     repeat' (first|(refine And.intro (fun H hH env=>?_) ?_;rcases mem2J hH with rfl|rfl)|refine And.intro (fun env=>?_) ?_|refine wkt ?_|refine wd hs ?_|(apply TO.callD 3 hadd;exact rfl;exact rfl;exact rfl;exact Les.refl _;exact rfl;exact rfl;exact rfl;exact rfl;exact rfl;exact rfl;exact rfl;exact rfl)|(apply TO.indexAddr tabOk;(iterate 8 exact rfl);exact hto.1;exact hst)|(apply TO.cat;exact rfl;exact rfl;exact rfl;(first|omega|(simp only[List.length_append,List.length_cons,List.length_nil];omega)))|exact trivial|exact And.intro rfl rfl|refine wk ?_|fail)
     done
    case hK2=>
     repeat' (first|refine wu ?_|exact wkc|intro hc|refine wk2 ?_ ?_|fail)
     exact LoopK.nextN hlt trivial (by(try dsimp only);exact⟨rfl,rfl,rfl,rfl,rfl,rfl,rfl,trivial⟩) (by(try dsimp only);rw[hj1])
 ·rw[List.take_length]
  repeat' (first|refine wu ?_|exact wkc|intro hc|refine wk2 ?_ ?_|fail)
  exact RetK.keepN 3 rfl (Le.refl _) rfl rfl rfl rfl rfl ⟨rfl,rfl⟩
def staS(es:List En)(f:Nat->Auto->Str)(level:Nat)(sts:List Sta)(s:Sta):Str:=
 lineS (level+1) ([115,116,97,116,101,32]++s.name)++localsS es (level+2) s.locals++flatS (tranS es (level+2) [117,110,108,101,115,115] sts) s.unl++lineS (level+1) [100,111]++flatS (equS es (level+2)) s.eqs++flatS (f (level+2)) s.autos++flatS (tranS es (level+2) [117,110,116,105,108] sts) s.unt++lineS (level+1) [100,111,110,101]
def autoS(es:List En):Nat->Nat->Auto->Str
 | 0,_,_=>[]
 | m+1,level,a=>lineS level [97,117,116,111,109,97,116,111,110]++flatS (staS es (autoS es m) level a.states) a.states++lineS level [101,110,100]
structure ShSt (n:Nat) (P:Auto->Prop) (s:Sta):Prop where
 name:s.name.length≤3000000
 locals:∀d∈s.locals,ShD d
 fewL:s.locals.length≤1000
 eqs:∀q∈s.eqs,ShQ q
 fewQ:s.eqs.length≤1000000
 autos:∀a∈s.autos,P a
 fewA:s.autos.length≤1000000
 unl:∀q∈s.unl,ShTr n q
 fewU:s.unl.length≤1000000
 unt:∀q∈s.unt,ShTr n q
 fewV:s.unt.length≤1000000
def ShAu:Nat->Auto->Prop
 | 0,_=>False
 | m+1,a=>a.states.length≤1000000/\∀s∈a.states,ShSt a.states.length (ShAu m) s
abbrev Adds (es:List En)(f:FuncId)(args:List SV)(t g:Str):Prop:=Sound Tryz.prog f (.tref lnT 4 1 0::args) (ln1 es t) (fun r H'=>r= .ret (.tup [])/\H'=ln1 es (t++g))
theorem adds_add(es:List En)(l s:Str)(level:Nat)(hv:level≤100)(hl:l.length+(lineS level s).length≤1000000000):Adds es 24 [.i level,.s s] l (lineS level s):=add_sound true es l s level hv hl
set_option maxHeartbeats 8000000 in
theorem auto_sound9 {es:List En} (h:ShE es) (hT:∀t:Int,(nameT es t).1.length≤3000000):∀(m level:Nat) (a:Auto) (t:Str),ShAu m a->level+2*m≤90->t.length+(autoS es m level a).length≤1000000000->Adds es 94 [.i level,.t (autoT a)] t (autoS es m level a)
 | 0,_,_,_,ha,_,_=>ha.elim
 | m+1,level,a,t,ha,hv,hb=>by
   have ih:=auto_sound9 h hT m (level+2)
   obtain⟨sts⟩:=a
   obtain⟨hfs,hst⟩:=ha
   simp only[Auto.states]at hfs hst
   have hml:(sts.map staT).length=sts.length:=List.length_map _
   have hbb:t.length+((lineS level [97,117,116,111,109,97,116,111,110]).length+(flatS (staS es (autoS es m) level sts) sts).length+(lineS level [101,110,100]).length)≤1000000000:=by
    have:=hb
    simp only[autoS,Auto.states,List.length_append]at this
    exact this
   clear hb
   have hrr:autoS es (m+1) level (.mk sts)=lineS level [97,117,116,111,109,97,116,111,110]++flatS (staS es (autoS es m) level sts) sts++lineS level [101,110,100]:=rfl
   rw[hrr]
   clear hrr
   have h1:=adds_add es t [97,117,116,111,109,97,116,111,110] level (by omega) (by omega)
   have h2:=adds_add es (t++lineS level [97,117,116,111,109,97,116,111,110]++flatS (staS es (autoS es m) level sts) sts) [101,110,100] level (by omega) (by simp only[List.length_append];omega)
   rw[autoT_eq]
   simp only[Auto.states]
   have hc1:((level+1:Nat):Int)=(level:Int)+1:=by omega
   have hc2:((level+2:Nat):Int)=(level:Int)+2:=by omega
   have hL1:t.length+(lineS level [97,117,116,111,109,97,116,111,110]).length+(flatS (staS es (autoS es m) level sts) sts).length≤1000000000:=by omega
   rw[<-List.length_append]at hL1
   have hap:t++(lineS level [97,117,116,111,109,97,116,111,110]++flatS (staS es (autoS es m) level sts) sts++lineS level [101,110,100])=t++lineS level [97,117,116,111,109,97,116,111,110]++flatS (staS es (autoS es m) level sts) sts++lineS level [101,110,100]:=by simp only[List.append_assoc]
   unfold Adds at h1 h2⊢
   rw[hap]
   clear hap hbb
   refine so Tryz.func94 ?_
   repeat' (first|refine wkt ?_|(apply TO.callD 3 h1;exact rfl;exact rfl;exact rfl;exact Les.refl _;exact rfl;exact rfl;exact rfl;exact rfl;exact rfl;exact rfl;exact rfl;exact rfl)|exact wkc|intro hc|refine wk2 ?_ ?_|fail)
   generalize t++lineS level [97,117,116,111,109,97,116,111,110]=t1 at*
   generalize lineS level [101,110,100]=le at*
   clear h1
   refine TR.loopN sts.length (fun _=>True) (fun j=>[(0,.tref lnT 4 1 0),(1,.i level),(5,.cp [.sl 6 (sts.map staT)] 0),(12,.t (.sl 6 (sts.map staT))),(13,.i sts.length),(14,.i j)]) (fun j=>ln1 es (t1++flatS (staS es (autoS es m) level sts) (sts.take j))) trivial (fun j hlt _=>?_) (fun _=>?_) ⟨rfl,rfl,rfl,rfl,by rw[<-hml];rfl,rfl,trivial⟩ (by simp[flatS])
   ·have hx:=at_map staT hlt
    have htk:=take_at hlt
    have hfl:=flatS_take (staS es (autoS es m) level sts) sts (j+1)
    rw[htk,flatS_snoc,List.length_append]at hfl
    have hj1:t1++flatS (staS es (autoS es m) level sts) (sts.take (j+1))=t1++flatS (staS es (autoS es m) level sts) (sts.take j)++staS es (autoS es m) level sts sts[j]:=by rw[htk,flatS_snoc,List.append_assoc]
    have hlb:(t1++flatS (staS es (autoS es m) level sts) (sts.take j)).length+(staS es (autoS es m) level sts sts[j]).length≤1000000000:=by
     rw[List.length_append]
     omega
    have hs:=hst _ (List.getElem_mem hlt)
    have hnm:∀s∈sts,s.name.length≤3000000:=fun s hh=>(hst s hh).name
    clear hfl hL1 h2
    generalize t1++flatS (staS es (autoS es m) level sts) (sts.take j)=acc at*
    rw[staT_eq]at hx
    generalize hSt:sts[j]=st at*
    have hsp:staS es (autoS es m) level sts st=staS es (autoS es m) level sts st:=rfl
    conv at hsp=>rhs;unfold staS
    rw[hsp]at hlb hj1
    clear hsp
    simp only[List.length_append]at hlb
    have a1:=adds_add es acc ([115,116,97,116,101,32]++st.name) (level+1) (by omega) (by omega)
    generalize lineS (level+1) ([115,116,97,116,101,32]++st.name)=p1 at*
    have a2:=localsW_sound h hT (acc++p1) (level+2) (by omega) st.locals hs.locals hs.fewL (by simp only[List.length_append];omega)
    generalize localsS es (level+2) st.locals=p2 at*
    have a3:=trans_sound9 h (acc++p1++p2) [117,110,108,101,115,115] (by decide) (level+2) (by omega) sts hnm st.unl hs.unl hs.fewU (by simp only[List.length_append];omega)
    generalize flatS (tranS es (level+2) [117,110,108,101,115,115] sts) st.unl=p3 at*
    have a4:=adds_add es (acc++p1++p2++p3) [100,111] (level+1) (by omega) (by simp only[List.length_append];omega)
    generalize lineS (level+1) [100,111]=p4 at*
    have a5:=body_sound9 h (autoS es m (level+2)) (acc++p1++p2++p3++p4) (level+2) (by omega) st.eqs st.autos hs.eqs hs.fewQ hs.fewA (fun a ha t ht=>ih a t (hs.autos a ha) (by omega) ht) (by simp only[List.length_append];omega)
    generalize flatS (equS es (level+2)) st.eqs=p5 at*
    generalize flatS (autoS es m (level+2)) st.autos=p6 at*
    have a7:=trans_sound9 h (acc++p1++p2++p3++p4++p5++p6) [117,110,116,105,108] (by decide) (level+2) (by omega) sts hnm st.unt hs.unt hs.fewV (by simp only[List.length_append];omega)
    generalize flatS (tranS es (level+2) [117,110,116,105,108] sts) st.unt=p7 at*
    have a8:=adds_add es (acc++p1++p2++p3++p4++p5++p6++p7) [100,111,110,101] (level+1) (by omega) (by simp only[List.length_append];omega)
    generalize lineS (level+1) [100,111,110,101]=p8 at*
    have hsl:=hs.name
    clear hs hnm hst ih hlb
    unfold Adds at a1 a4 a8
    simp only[hc1,hc2]at a1 a2 a3 a4 a5 a7 a8
    have hj2:acc++(p1++p2++p3++p4++p5++p6++p7++p8)=acc++p1++p2++p3++p4++p5++p6++p7++p8:=by simp only[List.append_assoc]
    rw[hj2]at hj1
    repeat' (first|refine wkt ?_|(apply TO.indexAddr tabOk;(iterate 8 exact rfl);omega;exact hx)|(apply TO.callD 3 a1;exact rfl;exact rfl;exact rfl;exact Les.refl _;exact rfl;exact rfl;exact rfl;exact rfl;exact rfl;exact rfl;exact rfl;exact rfl)|(apply TO.callD 3 a2;exact rfl;exact rfl;exact rfl;exact Les.refl _;exact rfl;exact rfl;exact rfl;exact rfl;exact rfl;exact rfl;exact rfl;exact rfl)|(apply TO.callD 3 a3;exact rfl;exact rfl;exact rfl;exact Les.refl _;exact rfl;exact rfl;exact rfl;exact rfl;exact rfl;exact rfl;exact rfl;exact rfl)|(apply TO.callD 3 a4;exact rfl;exact rfl;exact rfl;exact Les.refl _;exact rfl;exact rfl;exact rfl;exact rfl;exact rfl;exact rfl;exact rfl;exact rfl)|(apply TO.callD 3 a5;exact rfl;exact rfl;exact rfl;exact Les.refl _;exact rfl;exact rfl;exact rfl;exact rfl;exact rfl;exact rfl;exact rfl;exact rfl)|(apply TO.callD 3 a7;exact rfl;exact rfl;exact rfl;exact Les.refl _;exact rfl;exact rfl;exact rfl;exact rfl;exact rfl;exact rfl;exact rfl;exact rfl)|(apply TO.callD 3 a8;exact rfl;exact rfl;exact rfl;exact Les.refl _;exact rfl;exact rfl;exact rfl;exact rfl;exact rfl;exact rfl;exact rfl;exact rfl)|(apply TO.cat;exact rfl;exact rfl;exact rfl;(first|omega|(simp only[List.length_append,List.length_cons,List.length_nil];omega)))|exact wkc|intro hc|refine wk2 ?_ ?_|refine wk ?_|fail)
    exact LoopK.nextN hlt trivial (by(try dsimp only);exact⟨rfl,rfl,rfl,rfl,rfl,rfl,trivial⟩) (by(try dsimp only);rw[hj1])
   ·rw[List.take_length]
    repeat' (first|refine wkt ?_|(apply TO.callD 3 h2;exact rfl;exact rfl;exact rfl;exact Les.refl _;exact rfl;exact rfl;exact rfl;exact rfl;exact rfl;exact rfl;exact rfl;exact rfl)|exact wkc|intro hc|refine wk2 ?_ ?_|refine wk ?_|fail)
    exact RetK.keepN 3 rfl (Le.refl _) rfl rfl rfl rfl rfl ⟨rfl,rfl⟩
section rules
variable {n:Nat}{env env':Env}{H H':Heap}{K:TK}{all:Array Oper}{rest l:List Oper}{d:Nat}{ty:TypeId}{pos:String}{aft:Array Edge}{q:Bool}{st:St}{fr fr':List Fr1}
theorem goA(h:run1 tab n true 300 ⟨.ops q all l,env,H,fr⟩=some ⟨st,env',H',fr'⟩)(hk:GG Tryz.prog n K ⟨st,env',H',fr'⟩):TO q Tryz.prog n all l env H (Kf Tryz.prog n fr K):=TO.go tabOk 300 true h hk
theorem goB(h:run1 tab n true 300 ⟨.ops q all l,env,H,[]⟩=some ⟨st,env',H',fr'⟩)(hk:GG Tryz.prog n K ⟨st,env',H',fr'⟩):TO q Tryz.prog n all l env H K:=TO.go0 tabOk 300 true h hk
theorem goC{e:TExit}(h:run1 tab n true 300 ⟨.ex e,env,H,fr⟩=some ⟨st,env',H',fr'⟩)(hk:GG Tryz.prog n K ⟨st,env',H',fr'⟩):Kf Tryz.prog n fr K e env H:=TExit.go tabOk 300 true h hk
theorem callVm{cargs:List SV}{v:SV}{f:Operand}{fid:FuncId}{caps:List SV}{args:Array Operand}{ts:Array TypeId}{vs:List SV}(hs:Pure Tryz.prog fid cargs v)(hd:Nat.ble (d+1) n=true)
  (hf:env.val f=some (.fn fid caps))(ha:env.vals args.toList=some vs)(hl:Les (vs++caps) cargs)(hu:unders 0 cargs=true)(hv:v.under 0=true)
  (k:TO false Tryz.prog n all rest ((d,v)::env) H K):
  TO false Tryz.prog n all (⟨some d,.call { callee:=.value f,args:=args,argTypes:=ts },ty,pos,aft,none⟩::rest) env H K:=TO.callV hs hd hf ha hl hu hv k
end rules
theorem wma{G Q:Prop}(k:Q)(h:Hold Q->G:=by
  first
  | (intro k;apply goA;exact rfl;(first|apply Go.TL.GG.to|apply Go.TL.GG.stop|apply Go.TL.GG.ex);exact k.p)
  | (intro k;apply goC;exact rfl;(first|apply Go.TL.GG.to|apply Go.TL.GG.stop|apply Go.TL.GG.ex);exact k.p)
  | (intro k;apply goB;exact rfl;(first|apply Go.TL.GG.to|apply Go.TL.GG.stop|apply Go.TL.GG.ex);exact k.p)):G:=h ⟨k⟩
theorem wmk{G Q:Prop}(k:Q)(h:Hold Q->G:=by
  first
  | (intro k;apply Go.TL.TO.want;exact rfl;exact k.p)
  | (intro k;apply Go.TL.TO.add;exact rfl;exact rfl;exact rfl;(first|omega|(simp only[List.length_append,List.length_cons,List.length_nil];omega));(first|omega|(simp only[List.length_append,List.length_cons,List.length_nil];omega));exact k.p)
  | (intro k;apply Go.TL.TO.cat;exact rfl;exact rfl;exact rfl;(first|omega|(simp only[List.length_append,List.length_cons,List.length_nil];omega));exact k.p)):G:=h ⟨k⟩
theorem wmv{G Q:Prop}{f:FuncId}{cargs:List SV}{v:SV}(hs:Pure Tryz.prog f cargs v)(k:Q)(h:Pure Tryz.prog f cargs v->Hold Q->G:=by
  intro hs k
  apply callVm;exact hs;exact rfl;exact rfl;exact rfl;(repeat' (first|exact trivial|exact Go.TL.Le.refl _|refine And.intro ?_ ?_|exact Go.TL.Le.any _|exact Go.TL.Le.nil _|exact Go.TL.Le.own _ _ _|refine Go.TL.Le.tree rfl ?_|exact Go.TL.TLe.refl _|exact Go.TL.TLe.nil _|refine Go.TL.TLe.ags ?_|fail));exact rfl;exact rfl;exact k.p):G:=h hs ⟨k⟩
def claimS(es:List En)(word:Str)(e:Ex):Str:=lineS 1 (word++[32]++shF es 400 e++[59])
def headS(es:List En)(n:Nod):Str:=lineS 0 ([110,111,100,101,32]++n.name++[40]++declsS es n.ins++[41,32,114,101,116,117,114,110,115,32,40]++declsS es n.outs++[41])
def nodeS(es:List En)(n:Nod):Str:=
 headS es n++localsS es 1 n.locals++flatS (claimS es [97,115,115,117,109,101]) n.assume++flatS (claimS es [101,110,115,117,114,101]) n.ensure++lineS 0 [108,101,116]++flatS (equS es 1) n.eqs++flatS (autoS es 3 1) n.autos++lineS 0 [116,101,108]
structure ShNo (n:Nod):Prop where
 name:n.name.length≤3000000
 ins:∀d∈n.ins,ShD d
 fewI:n.ins.length≤1000
 outs:∀d∈n.outs,ShD d
 fewO:n.outs.length≤1000
 locals:∀d∈n.locals,ShD d
 fewL:n.locals.length≤1000
 eqs:∀q∈n.eqs,ShQ q
 fewQ:n.eqs.length≤1000000
 autos:∀a∈n.autos,ShAu 3 a
 fewA:n.autos.length≤1000000
 assume:∀e∈n.assume,ShOk e/\wEx e≤400
 fewS:n.assume.length≤1000000
 ensure:∀e∈n.ensure,ShOk e/\wEx e≤400
 fewE:n.ensure.length≤1000000
set_option maxHeartbeats 16000000 in
theorem node_sound9 {es:List En} (h:ShE es) (hT:∀t:Int,(nameT es t).1.length≤3000000) (a:Bool) (t:Str) (n:Nod) (hn:ShNo n) (hb:t.length+(nodeS es n).length≤1000000000):
  Sound Tryz.prog 26 [.tref lnT 4 1 0,.t (nodT n)] (lnH a es t) (fun r H'=>r= .ret (.tup [])/\H'=ln1 es (t++nodeS es n)):=by
 have hmassume:(n.assume.map exT).length=n.assume.length:=List.length_map _
 have hmensure:(n.ensure.map exT).length=n.ensure.length:=List.length_map _
 have hee:nodeS es n=nodeS es n:=rfl
 conv at hee=>rhs;unfold nodeS
 have hh1:headS es n=lineS 0 ([110,111,100,101,32]++n.name++[40]++declsS es n.ins++[41,32,114,101,116,117,114,110,115,32,40]++declsS es n.outs++[41]):=rfl
 have di:=declsW_sound h hT n.ins hn.ins hn.fewI
 have dil:=declsS_len h hT n.ins hn.ins hn.fewI
 have dd:=declsW_sound h hT n.outs hn.outs hn.fewO
 have ddl:=declsS_len h hT n.outs hn.outs hn.fewO
 have hnl:=hn.name
 have hfa:=hn.fewS
 have hfe:=hn.fewE
 have hbl:=hb
 rw[hee]at hbl
 simp only[List.length_append]at hbl
 have b1:=add_sound a es t ([110,111,100,101,32]++n.name++[40]++declsS es n.ins++[41,32,114,101,116,117,114,110,115,32,40]++declsS es n.outs++[41]) 0 (by decide) (by rw[<-hh1];omega)
 rw[<-hh1]at b1
 have b2:=localsW_sound h hT (t++headS es n) 1 (by decide) n.locals hn.locals hn.fewL (by simp only[List.length_append];omega)
 have b5:=adds_add es (t++headS es n++localsS es 1 n.locals++flatS (claimS es [97,115,115,117,109,101]) n.assume++flatS (claimS es [101,110,115,117,114,101]) n.ensure) [108,101,116] 0 (by decide) (by simp only[List.length_append];omega)
 have b6:=body_sound9 h (autoS es 3 1) (t++headS es n++localsS es 1 n.locals++flatS (claimS es [97,115,115,117,109,101]) n.assume++flatS (claimS es [101,110,115,117,114,101]) n.ensure++lineS 0 [108,101,116]) 1 (by decide) n.eqs n.autos hn.eqs hn.fewQ hn.fewA (fun a ha t ht=>auto_sound9 h hT 3 1 a t (hn.autos a ha) (by decide) ht) (by simp only[List.length_append];omega)
 have b8:=adds_add es (t++headS es n++localsS es 1 n.locals++flatS (claimS es [97,115,115,117,109,101]) n.assume++flatS (claimS es [101,110,115,117,114,101]) n.ensure++lineS 0 [108,101,116]++flatS (equS es 1) n.eqs++flatS (autoS es 3 1) n.autos) [116,101,108] 0 (by decide) (by simp only[List.length_append];omega)
 have hap:t++nodeS es n=t++headS es n++localsS es 1 n.locals++flatS (claimS es [97,115,115,117,109,101]) n.assume++flatS (claimS es [101,110,115,117,114,101]) n.ensure++lineS 0 [108,101,116]++flatS (equS es 1) n.eqs++flatS (autoS es 3 1) n.autos++lineS 0 [116,101,108]:=by rw[hee];simp only[List.append_assoc]
 rw[hap]
 clear hap hee hh1 hb
 unfold Adds at b5 b8
 have hlen1:(t++headS es n++localsS es 1 n.locals).length+(flatS (claimS es [97,115,115,117,109,101]) n.assume).length+(flatS (claimS es [101,110,115,117,114,101]) n.ensure).length≤1000000000:=by simp only[List.length_append];omega
 clear hbl
 generalize headS es n=p1 at*
 generalize localsS es 1 n.locals=p2 at*
 generalize flatS (equS es 1) n.eqs=p6 at*
 generalize flatS (autoS es 3 1) n.autos=p7 at*
 generalize lineS 0 [108,101,116]=p5 at*
 generalize lineS 0 [116,101,108]=p8 at*
 generalize declsS es n.ins=si at*
 generalize declsS es n.outs=su at*
 cases a
 all_goals
  unfold lnH at*
  simp only[cond_true,cond_false]at*
  unfold nodT
  refine so Tryz.func26 ?_
  repeat' (first|refine wkt ?_|fail)
  apply TR.regionH (envF:=_) (HF:=ln1 es (t++p1)) [(_,false),(_,false),(_,false),(_,false),(_,false),(_,false),(_,false),(_,false),(_,false),(_,false),(_,false),(_,false),(_,false),(_,false),(_,false),(_,false),(_,false),(_,false),(_,false),(_,false),(_,false),(_,false),(_,false),(_,true)] [_,ln1 es (t++p1)] hmix
  case hB=>(dsimp only[List.map];decide +kernel)
  case h0=>exact rfl
  case hF=>exact rfl
  case hp=>
   repeat' (first|(refine And.intro (fun H hH env=>?_) ?_;rcases mem2J hH with rfl|rfl)|refine And.intro (fun env=>?_) ?_|refine wma ?_|(apply TO.callD 1 di;exact rfl;exact rfl;exact rfl;exact Les.refl _;exact rfl;exact rfl;exact rfl;exact rfl;exact rfl;exact rfl;exact rfl;exact rfl)|(apply TO.callD 1 dd;exact rfl;exact rfl;exact rfl;exact Les.refl _;exact rfl;exact rfl;exact rfl;exact rfl;exact rfl;exact rfl;exact rfl;exact rfl)|(apply TO.callD 3 b1;exact rfl;exact rfl;exact rfl;exact Les.refl _;exact rfl;exact rfl;exact rfl;exact rfl;exact rfl;exact rfl;exact rfl;exact rfl)|(apply TO.cat;exact rfl;exact rfl;exact rfl;(first|omega|(simp only[List.length_append,List.length_cons,List.length_nil];omega)))|exact trivial|exact And.intro rfl rfl|refine wmk ?_|fail)
   done
  case hE=>exact rfl
  case hK=>
  repeat' (first|refine wkt ?_|(apply TO.callD 3 b2;exact rfl;exact rfl;exact rfl;exact Les.refl _;exact rfl;exact rfl;exact rfl;exact rfl;exact rfl;exact rfl;exact rfl;exact rfl)|exact wkc|intro hc|refine wk2 ?_ ?_|fail)
  generalize hacc:t++p1++p2=acc at*
  clear b1 b2 di dd
  refine TR.loopN n.assume.length (fun _=>True) (fun j=>[(0,.tref lnT 4 1 0),(3,.cp (nodC n) 0),(37,.t (.sl 6 (n.assume.map exT))),(38,.i n.assume.length),(39,.i j)]) (fun j=>ln1 es (acc++flatS (claimS es [97,115,115,117,109,101]) (n.assume.take j))) trivial (fun j hlt _=>?_) (fun _=>?_) ⟨rfl,rfl,rfl,by rw[<-hmassume];rfl,rfl,trivial⟩ (by simp[flatS])
  ·have hx:=at_map exT hlt
   rw[exT_eq]at hx
   have htk:=take_at hlt
   have hqq:=hn.assume _ (List.getElem_mem hlt)
   have hs:=exprW_sound h 400 _ hqq.1 hqq.2 (by decide)
   have hfl:=flatS_take (claimS es [97,115,115,117,109,101]) n.assume (j+1)
   rw[htk,flatS_snoc,List.length_append]at hfl
   have hj1:acc++flatS (claimS es [97,115,115,117,109,101]) (n.assume.take (j+1))=acc++flatS (claimS es [97,115,115,117,109,101]) (n.assume.take j)++claimS es [97,115,115,117,109,101] n.assume[j]:=by rw[htk,flatS_snoc,List.append_assoc]
   have hadd:=adds_add es (acc++flatS (claimS es [97,115,115,117,109,101]) (n.assume.take j)) ([97,115,115,117,109,101]++[32]++shF es 400 n.assume[j]++[59]) 1 (by decide) (by
    show _+(claimS es [97,115,115,117,109,101] n.assume[j]).length≤_
    rw[List.length_append]
    omega)
   have hee:claimS es [97,115,115,117,109,101] n.assume[j]=lineS 1 ([97,115,115,117,109,101]++[32]++shF es 400 n.assume[j]++[59]):=rfl
   rw[<-hee]at hadd
   have hgl:(shF es 400 n.assume[j]).length≤5000000000:=by
    have h1:=shF_len h 400 _ hqq.1
    have h2:wEx n.assume[j]*12000100≤400*12000100:=Nat.mul_le_mul_right _ hqq.2
    omega
   clear hqq hfl hee
   unfold Adds at hadd
   unfold ShC at hs
   generalize claimS es [97,115,115,117,109,101] n.assume[j]=ln at*
   generalize shF es 400 n.assume[j]=g at*
   generalize acc++flatS (claimS es [97,115,115,117,109,101]) (n.assume.take j)=ac2 at*
   generalize n.assume[j]=q at*
   have he:exC q=[T.n q.kind,T.n q.op,T.n q.t,T.n q.v,.s q.name,.sl 6 (q.args.map exT)]:=rfl
   rw[he]at hx hs
   repeat' (first|refine wkt ?_|(apply TO.indexAddr tabOk;(iterate 8 exact rfl);omega;exact hx)|exact wkc|intro hc|refine wk2 ?_ ?_|fail)
   apply TR.regionH (envF:=_) (HF:=ln1 es (ac2++ln)) [(_,false),(_,false),(_,false),(_,false),(_,false),(_,false),(_,false),(_,false),(_,false),(_,true)] [ln1 es ac2,ln1 es (ac2++ln)] hmix
   case hB=>(dsimp only[List.map];decide +kernel)
   case h0=>exact rfl
   case hF=>exact rfl
   case hp=>
    repeat' (first|(refine And.intro (fun H hH env=>?_) ?_;rcases mem2J hH with rfl|rfl)|refine And.intro (fun env=>?_) ?_|refine wma ?_|(apply TO.callD 1 hs;exact rfl;exact rfl;exact rfl;exact Les.refl _;exact rfl;exact rfl;exact rfl;exact rfl;exact rfl;exact rfl;exact rfl;exact rfl)|(apply TO.callD 3 hadd;exact rfl;exact rfl;exact rfl;exact Les.refl _;exact rfl;exact rfl;exact rfl;exact rfl;exact rfl;exact rfl;exact rfl;exact rfl)|(apply TO.cat;exact rfl;exact rfl;exact rfl;(first|omega|(simp only[List.length_append,List.length_cons,List.length_nil];omega)))|exact trivial|exact And.intro rfl rfl|refine wmk ?_|fail)
    done
   case hE=>exact rfl
   case hK=>
    repeat' (first|refine wu ?_|exact wkc|intro hc|refine wk2 ?_ ?_|fail)
    exact LoopK.nextN hlt trivial (by(try dsimp only);exact⟨rfl,rfl,rfl,rfl,rfl,trivial⟩) (by(try dsimp only);rw[hj1])
  rw[List.take_length]
  repeat' (first|refine wkt ?_|refine LoopK.exit ?_|exact wkc|intro hc|refine wk2 ?_ ?_|fail)
  have hlen2:(acc++flatS (claimS es [97,115,115,117,109,101]) n.assume).length+(flatS (claimS es [101,110,115,117,114,101]) n.ensure).length≤1000000000:=by rw[List.length_append];exact hlen1
  clear hlen1
  clear hacc
  generalize acc++flatS (claimS es [97,115,115,117,109,101]) n.assume=acc at*
  refine TR.loopN n.ensure.length (fun _=>True) (fun j=>[(0,.tref lnT 4 1 0),(3,.cp (nodC n) 0),(55,.t (.sl 6 (n.ensure.map exT))),(56,.i n.ensure.length),(57,.i j)]) (fun j=>ln1 es (acc++flatS (claimS es [101,110,115,117,114,101]) (n.ensure.take j))) trivial (fun j hlt _=>?_) (fun _=>?_) ⟨rfl,rfl,rfl,by rw[<-hmensure];rfl,rfl,trivial⟩ (by simp[flatS])
  ·have hx:=at_map exT hlt
   rw[exT_eq]at hx
   have htk:=take_at hlt
   have hqq:=hn.ensure _ (List.getElem_mem hlt)
   have hs:=exprW_sound h 400 _ hqq.1 hqq.2 (by decide)
   have hfl:=flatS_take (claimS es [101,110,115,117,114,101]) n.ensure (j+1)
   rw[htk,flatS_snoc,List.length_append]at hfl
   have hj1:acc++flatS (claimS es [101,110,115,117,114,101]) (n.ensure.take (j+1))=acc++flatS (claimS es [101,110,115,117,114,101]) (n.ensure.take j)++claimS es [101,110,115,117,114,101] n.ensure[j]:=by rw[htk,flatS_snoc,List.append_assoc]
   have hadd:=adds_add es (acc++flatS (claimS es [101,110,115,117,114,101]) (n.ensure.take j)) ([101,110,115,117,114,101]++[32]++shF es 400 n.ensure[j]++[59]) 1 (by decide) (by
    show _+(claimS es [101,110,115,117,114,101] n.ensure[j]).length≤_
    rw[List.length_append]
    omega)
   have hee:claimS es [101,110,115,117,114,101] n.ensure[j]=lineS 1 ([101,110,115,117,114,101]++[32]++shF es 400 n.ensure[j]++[59]):=rfl
   rw[<-hee]at hadd
   have hgl:(shF es 400 n.ensure[j]).length≤5000000000:=by
    have h1:=shF_len h 400 _ hqq.1
    have h2:wEx n.ensure[j]*12000100≤400*12000100:=Nat.mul_le_mul_right _ hqq.2
    omega
   clear hqq hfl hee
   unfold Adds at hadd
   unfold ShC at hs
   generalize claimS es [101,110,115,117,114,101] n.ensure[j]=ln at*
   generalize shF es 400 n.ensure[j]=g at*
   generalize acc++flatS (claimS es [101,110,115,117,114,101]) (n.ensure.take j)=ac2 at*
   generalize n.ensure[j]=q at*
   have he:exC q=[T.n q.kind,T.n q.op,T.n q.t,T.n q.v,.s q.name,.sl 6 (q.args.map exT)]:=rfl
   rw[he]at hx hs
   repeat' (first|refine wkt ?_|(apply TO.indexAddr tabOk;(iterate 8 exact rfl);omega;exact hx)|exact wkc|intro hc|refine wk2 ?_ ?_|fail)
   apply TR.regionH (envF:=_) (HF:=ln1 es (ac2++ln)) [(_,false),(_,false),(_,false),(_,false),(_,false),(_,false),(_,false),(_,false),(_,false),(_,true)] [ln1 es ac2,ln1 es (ac2++ln)] hmix
   case hB=>(dsimp only[List.map];decide +kernel)
   case h0=>exact rfl
   case hF=>exact rfl
   case hp=>
    repeat' (first|(refine And.intro (fun H hH env=>?_) ?_;rcases mem2J hH with rfl|rfl)|refine And.intro (fun env=>?_) ?_|refine wma ?_|(apply TO.callD 1 hs;exact rfl;exact rfl;exact rfl;exact Les.refl _;exact rfl;exact rfl;exact rfl;exact rfl;exact rfl;exact rfl;exact rfl;exact rfl)|(apply TO.callD 3 hadd;exact rfl;exact rfl;exact rfl;exact Les.refl _;exact rfl;exact rfl;exact rfl;exact rfl;exact rfl;exact rfl;exact rfl;exact rfl)|(apply TO.cat;exact rfl;exact rfl;exact rfl;(first|omega|(simp only[List.length_append,List.length_cons,List.length_nil];omega)))|exact trivial|exact And.intro rfl rfl|refine wmk ?_|fail)
    done
   case hE=>exact rfl
   case hK=>
    repeat' (first|refine wu ?_|exact wkc|intro hc|refine wk2 ?_ ?_|fail)
    exact LoopK.nextN hlt trivial (by(try dsimp only);exact⟨rfl,rfl,rfl,rfl,rfl,trivial⟩) (by(try dsimp only);rw[hj1])
  rw[List.take_length]
  repeat' (first|refine wkt ?_|refine LoopK.exit ?_|(apply TO.callD 3 b5;exact rfl;exact rfl;exact rfl;exact Les.refl _;exact rfl;exact rfl;exact rfl;exact rfl;exact rfl;exact rfl;exact rfl;exact rfl)|(apply TO.callD 3 b6;exact rfl;exact rfl;exact rfl;exact Les.refl _;exact rfl;exact rfl;exact rfl;exact rfl;exact rfl;exact rfl;exact rfl;exact rfl)|(apply TO.callD 3 b8;exact rfl;exact rfl;exact rfl;exact Les.refl _;exact rfl;exact rfl;exact rfl;exact rfl;exact rfl;exact rfl;exact rfl;exact rfl)|exact wkc|intro hc|refine wk2 ?_ ?_|refine wk ?_|fail)
  exact RetK.keepN 3 rfl (Le.refl _) rfl rfl rfl rfl rfl ⟨rfl,rfl⟩
end Go.Proofs.YtjgmcnemcembmaaGreatDoor
