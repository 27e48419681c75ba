import Derived.Test.YthmbhfgflijapaaGreatDoorPk35
set_option linter.all false
namespace Go.Proofs.YthmbhfgflijapaaGreatDoor
open Go Go.TL
attribute [local irreducible] TR TO Then zag RetK Sound zab Kf GG zaK
def kwS(b:Bool):Str:=if b=true then[32,99,111,110,116,105,110,117,101,32] else[32,116,104,101,110,32]
def zdI(es:List En)(level:Nat)(word:Str)(sts:List Sta)(q:Tran):Str:=za3 level (word++[32]++shF es 400 q.cond++kwS q.resume++((sts[q.to.1.toNat]?).map Sta.name).getD []++[59])
structure ShTr (n:Nat) (q:Tran):Prop where
 ok:ShOk q.cond
 size:wEx q.cond≤400
 tgt:0≤q.to.1/\q.to.1<n
set_option maxHeartbeats 8000000 in
theorem zgx {es:List En} (h:ShE es) (t word:Str) (hwd:word.length≤100) (level:Nat) (hv:level≤100) (sts:List Sta) (hnm:∀s∈sts,s.name.length≤3000000) (l:List Tran) (hq:∀q∈l,ShTr sts.length q) (hl:l.length≤1000000)
  (hb:t.length+(zaj (zdI es level word sts) l).length≤1000000000):
  Sound Tryz.prog 135 [.tref lnT 4 1 0,.i level,.s word,.t (.ag [.sl 6 (sts.map staT)]),.t (.sl 8 (l.map zay))] (ln1 es t) (fun r H'=>r= .ret (.tup [])/\H'=ln1 es (t++zaj (zdI es level word sts) l)):=by
 have hml:(l.map zay).length=l.length:=qab _
 refine so Tryz.func135 ?_
 repeat' (first|refine wkt ?_|fail)
 refine TR.zaA l.length (fun _=>True) (fun j=>[(0,.tref lnT 4 1 0),(1,.i level),(2,.s word),(8,.cp [.sl 6 (sts.map staT)] 0),(13,.t (.sl 8 (l.map zay))),(14,.i l.length),(15,.i j)]) (fun j=>ln1 es (t++zaj (zdI es level word sts) (l.take j))) trivial (fun j hlt _=>?_) (fun _=>?_) ⟨rfl,rfl,rfl,rfl,rfl,by rw[<-hml];rfl,rfl,trivial⟩ (by simp[zaj])
 ·have hx:(l.map zay)[j]?=some (zay l[j]):=zbj zay hlt
  have htk:=zbr hlt
  have hqq:=hq _ (qaf hlt)
  have hs:=zcn h 400 _ hqq.ok hqq.size (by decide)
  have hfl:=zb9 (zdI es level word sts) l (j+1)
  rw[htk,zaR,qad]at hfl
  have hj1:t++zaj (zdI es level word sts) (l.take (j+1))=t++zaj (zdI es level word sts) (l.take j)++zdI es level word sts l[j]:=by rw[htk,zaR,qaO]
  have hto:=hqq.tgt
  have hlt2:l[j].to.1.toNat<sts.length:=by omega
  have hst:=zbj staT hlt2
  have hsn:=hnm _ (qaf hlt2)
  have hee:zdI es level word sts l[j]=za3 level (word++[32]++shF es 400 l[j].cond++kwS l[j].resume++sts[l[j].to.1.toNat].name++[59]):=by
   unfold zdI
   rw[qac hlt2]
   rfl
  have hadd:=zcm true es (t++zaj (zdI es level word sts) (l.take j)) (word++[32]++shF es 400 l[j].cond++kwS l[j].resume++sts[l[j].to.1.toNat].name++[59]) level hv (by
   rw[<-hee,qad]
   omega)
  rw[<-hee]at hadd
  have hgl:(shF es 400 l[j].cond).length≤5000000000:=by
   have h1:=zhS h 400 _ hqq.ok
   have h2:wEx l[j].cond*12000100≤400*12000100:=qaD _ hqq.size
   omega
  clear hqq hfl hee
  unfold lnH at hadd
  simp only[cond_true]at hadd
  unfold ShC at hs
  unfold exC at hs
  rw[zjO]at hst
  generalize zdI es level word sts l[j]=ln at*
  generalize shF es 400 l[j].cond=g at*
  generalize t++zaj (zdI es level word sts) (l.take j)=acc at*
  generalize sts[l[j].to.1.toNat]=st at*
  generalize l[j]=q at*
  have hx:(l.map zay)[j]?=some (.ag [T.n q.cond.kind,T.n q.cond.op,T.n q.cond.t,T.n q.cond.v,.s q.cond.name,.sl 6 (q.cond.args.map exT),T.n q.to,.b q.resume]):=hx
  generalize q.resume=res at*
  cases res with
  | true=>
    have hk:kwS true=[32,99,111,110,116,105,110,117,101,32]:=rfl
    rw[hk]at hadd
    repeat' (first|refine wkt ?_|refine zqf ?_|exact wkc|intro hc|refine wk2 ?_ ?_|fail)
    refine TR.zfa (envF:=?envF1) (HF:=ln1 es (acc++ln)) [(.tref lnT 4 1 0,false),(.i level,false),(.s word,false),(.s (word++[32]),false),(.tref lnT 4 1 0,false),(.tref lnT 4 1 0,false),(.ref 1 0,false),(wr es,false),(.cp [T.n q.cond.kind,T.n q.cond.op,T.n q.cond.t,T.n q.cond.v,.s q.cond.name,.sl 6 (q.cond.args.map exT),T.n q.to,.b true] 0,false),(.t (.ag [T.n q.cond.kind,T.n q.cond.op,T.n q.cond.t,T.n q.cond.v,.s q.cond.name,.sl 6 (q.cond.args.map exT)]),false),(.s g,false),(.s (word++[32]++g),false),(.s [32,99,111,110,116,105,110,117,101,32],false),(.s (word++[32]++g++[32,99,111,110,116,105,110,117,101,32]),false),(.cp [.sl 6 (sts.map staT)] 0,false),(.t (.sl 6 (sts.map staT)),false),(.cp [T.n q.cond.kind,T.n q.cond.op,T.n q.cond.t,T.n q.cond.v,.s q.cond.name,.sl 6 (q.cond.args.map exT),T.n q.to,.b true] 6,false),(.n q.to,false),(.cp [.s st.name,.sl 3 (st.locals.map zav),.sl 7 (st.eqs.map equT),.sl 1 (st.autos.map zar),.sl 8 (st.unl.map zay),.sl 8 (st.unt.map zay)] 0,false),(.cp [.s st.name,.sl 3 (st.locals.map zav),.sl 7 (st.eqs.map equT),.sl 1 (st.autos.map zar),.sl 8 (st.unl.map zay),.sl 8 (st.unt.map zay)] 0,false),(.s st.name,false),(.s (word++[32]++g++[32,99,111,110,116,105,110,117,101,32]++st.name),false),(.s (word++[32]++g++[32,99,111,110,116,105,110,117,101,32]++st.name++[59]),false),(.tup [],true)] [ln1 es acc,ln1 es (acc++ln)] hmix ?hB1 rfl ?hp1 rfl ?hE1 ?hK1
    case hB1=>(dsimp only[List.map];decide +kernel)
    case hE1=>exact rfl
    case hp1=>
     repeat' (first|(refine qai (fun H hH env=>?_) ?_;rcases zmf hH with rfl|rfl)|refine qai (fun env=>?_) ?_|refine wkt ?_|refine wd hs ?_|(apply TO.zbH 3 hadd;(iterate 3 exact rfl);exact Les.refl _;(iterate 8 exact rfl))|(apply TO.indexAddr zaf;(iterate 8 exact rfl);exact hto.1;exact hst)|refine zqb ?_|exact trivial|exact qai rfl rfl|refine wk ?_|fail)
     done
    case hK1=>
     repeat' (first|refine wu ?_|exact wkc|intro hc|refine wk2 ?_ ?_|fail)
     exact zab.zaI hlt trivial (by(try dsimp only);exact⟨rfl,rfl,rfl,rfl,rfl,rfl,rfl,trivial⟩) (by(try dsimp only);rw[hj1])
  | false=>
    have hk:kwS false=[32,116,104,101,110,32]:=rfl
    rw[hk]at hadd
    repeat' (first|refine wkt ?_|refine zqf ?_|exact wkc|intro hc|refine wk2 ?_ ?_|fail)
    refine TR.zfa (envF:=?envF2) (HF:=ln1 es (acc++ln)) [(.tref lnT 4 1 0,false),(.i level,false),(.s word,false),(.s (word++[32]),false),(.tref lnT 4 1 0,false),(.tref lnT 4 1 0,false),(.ref 1 0,false),(wr es,false),(.cp [T.n q.cond.kind,T.n q.cond.op,T.n q.cond.t,T.n q.cond.v,.s q.cond.name,.sl 6 (q.cond.args.map exT),T.n q.to,.b false] 0,false),(.t (.ag [T.n q.cond.kind,T.n q.cond.op,T.n q.cond.t,T.n q.cond.v,.s q.cond.name,.sl 6 (q.cond.args.map exT)]),false),(.s g,false),(.s (word++[32]++g),false),(.s [32,116,104,101,110,32],false),(.s (word++[32]++g++[32,116,104,101,110,32]),false),(.cp [.sl 6 (sts.map staT)] 0,false),(.t (.sl 6 (sts.map staT)),false),(.cp [T.n q.cond.kind,T.n q.cond.op,T.n q.cond.t,T.n q.cond.v,.s q.cond.name,.sl 6 (q.cond.args.map exT),T.n q.to,.b false] 6,false),(.n q.to,false),(.cp [.s st.name,.sl 3 (st.locals.map zav),.sl 7 (st.eqs.map equT),.sl 1 (st.autos.map zar),.sl 8 (st.unl.map zay),.sl 8 (st.unt.map zay)] 0,false),(.cp [.s st.name,.sl 3 (st.locals.map zav),.sl 7 (st.eqs.map equT),.sl 1 (st.autos.map zar),.sl 8 (st.unl.map zay),.sl 8 (st.unt.map zay)] 0,false),(.s st.name,false),(.s (word++[32]++g++[32,116,104,101,110,32]++st.name),false),(.s (word++[32]++g++[32,116,104,101,110,32]++st.name++[59]),false),(.tup [],true)] [ln1 es acc,ln1 es (acc++ln)] hmix ?hB2 rfl ?hp2 rfl ?hE2 ?hK2
    case hB2=>(dsimp only[List.map];decide +kernel)
    case hE2=>exact rfl
    case hp2=>
     repeat' (first|(refine qai (fun H hH env=>?_) ?_;rcases zmf hH with rfl|rfl)|refine qai (fun env=>?_) ?_|refine wkt ?_|refine wd hs ?_|(apply TO.zbH 3 hadd;(iterate 3 exact rfl);exact Les.refl _;(iterate 8 exact rfl))|(apply TO.indexAddr zaf;(iterate 8 exact rfl);exact hto.1;exact hst)|refine zqb ?_|exact trivial|exact qai rfl rfl|refine wk ?_|fail)
     done
    case hK2=>
     repeat' (first|refine wu ?_|exact wkc|intro hc|refine wk2 ?_ ?_|fail)
     exact zab.zaI hlt trivial (by(try dsimp only);exact⟨rfl,rfl,rfl,rfl,rfl,rfl,rfl,trivial⟩) (by(try dsimp only);rw[hj1])
 ·exact zwch
def staS(es:List En)(f:Nat->Auto->Str)(level:Nat)(sts:List Sta)(s:Sta):Str:=
 za3 (level+1) ([115,116,97,116,101,32]++s.name)++zcd es (level+2) s.locals++zaj (zdI es (level+2) [117,110,108,101,115,115] sts) s.unl++za3 (level+1) [100,111]++zaj (zch es (level+2)) s.eqs++zaj (f (level+2)) s.autos++zaj (zdI es (level+2) [117,110,116,105,108] sts) s.unt++za3 (level+1) [100,111,110,101]
def za2(es:List En):Nat->Nat->Auto->Str
 | 0,_,_=>[]
 | m+1,level,a=>za3 level [97,117,116,111,109,97,116,111,110]++zaj (staS es (za2 es m) level a.states) a.states++za3 level [101,110,100]
structure ShSt (n:Nat) (P:Auto->Prop) (s:Sta):Prop where
 name:s.name.length≤3000000
 locals:∀d∈s.locals,ShD d
 fewL:s.locals.length≤1000
 eqs:∀q∈s.eqs,ShQ q
 fewQ:s.eqs.length≤1000000
 autos:∀a∈s.autos,P a
 fewA:s.autos.length≤1000000
 unl:∀q∈s.unl,ShTr n q
 fewU:s.unl.length≤1000000
 unt:∀q∈s.unt,ShTr n q
 fewV:s.unt.length≤1000000
def ShAu:Nat->Auto->Prop
 | 0,_=>False
 | m+1,a=>a.states.length≤1000000/\∀s∈a.states,ShSt a.states.length (ShAu m) s
abbrev Adds (es:List En)(f:FuncId)(args:List SV)(t g:Str):Prop:=Sound Tryz.prog f (.tref lnT 4 1 0::args) (ln1 es t) (fun r H'=>r= .ret (.tup [])/\H'=ln1 es (t++g))
theorem zcN(es:List En)(l s:Str)(level:Nat)(hv:level≤100)(hl:l.length+(za3 level s).length≤1000000000):Adds es 29 [.i level,.s s] l (za3 level s):=zcm true es l s level hv hl
set_option maxHeartbeats 8000000 in
theorem zha {es:List En} (h:ShE es) (hT:∀t:Int,(zdV es t).1.length≤3000000):∀(m level:Nat) (a:Auto) (t:Str),ShAu m a->level+2*m≤90->t.length+(za2 es m level a).length≤1000000000->Adds es 97 [.i level,.t (zar a)] t (za2 es m level a)
 | 0,_,_,_,ha,_,_=>ha.elim
 | m+1,level,a,t,ha,hv,hb=>by
   have ih:=zha h hT m (level+2)
   obtain⟨sts⟩:=a
   obtain⟨hfs,hst⟩:=ha
   simp only[Auto.states]at hfs hst
   have hml:(sts.map staT).length=sts.length:=qab _
   have hbb:t.length+((za3 level [97,117,116,111,109,97,116,111,110]).length+(zaj (staS es (za2 es m) level sts) sts).length+(za3 level [101,110,100]).length)≤1000000000:=by
    have:=hb
    simp only[za2,Auto.states,qad]at this
    exact this
   clear hb
   have hrr:za2 es (m+1) level (.mk sts)=za3 level [97,117,116,111,109,97,116,111,110]++zaj (staS es (za2 es m) level sts) sts++za3 level [101,110,100]:=rfl
   rw[hrr]
   clear hrr
   have h1:=zcN es t [97,117,116,111,109,97,116,111,110] level (by omega) (by omega)
   have h2:=zcN es (t++za3 level [97,117,116,111,109,97,116,111,110]++zaj (staS es (za2 es m) level sts) sts) [101,110,100] level (by omega) (by simp only[qad];omega)
   rw[zja]
   simp only[Auto.states]
   have hc1:((level+1:Nat):Int)=(level:Int)+1:=by omega
   have hc2:((level+2:Nat):Int)=(level:Int)+2:=by omega
   have hL1:t.length+(za3 level [97,117,116,111,109,97,116,111,110]).length+(zaj (staS es (za2 es m) level sts) sts).length≤1000000000:=by omega
   rw[<-qad]at hL1
   have hap:t++(za3 level [97,117,116,111,109,97,116,111,110]++zaj (staS es (za2 es m) level sts) sts++za3 level [101,110,100])=t++za3 level [97,117,116,111,109,97,116,111,110]++zaj (staS es (za2 es m) level sts) sts++za3 level [101,110,100]:=by simp only[qaO]
   unfold Adds at h1 h2⊢
   rw[hap]
   clear hap hbb
   refine so Tryz.func97 ?_
   repeat' (first|refine wkt ?_|(apply TO.zbH 3 h1;(iterate 3 exact rfl);exact Les.refl _;(iterate 8 exact rfl))|exact wkc|intro hc|refine wk2 ?_ ?_|fail)
   generalize t++za3 level [97,117,116,111,109,97,116,111,110]=t1 at*
   generalize za3 level [101,110,100]=le at*
   clear h1
   refine TR.zaA sts.length (fun _=>True) (fun j=>[(0,.tref lnT 4 1 0),(1,.i level),(5,.cp [.sl 6 (sts.map staT)] 0),(12,.t (.sl 6 (sts.map staT))),(13,.i sts.length),(14,.i j)]) (fun j=>ln1 es (t1++zaj (staS es (za2 es m) level sts) (sts.take j))) trivial (fun j hlt _=>?_) (fun _=>?_) ⟨rfl,rfl,rfl,rfl,by rw[<-hml];rfl,rfl,trivial⟩ (by simp[zaj])
   ·have hx:=zbj staT hlt
    have htk:=zbr hlt
    have hfl:=zb9 (staS es (za2 es m) level sts) sts (j+1)
    rw[htk,zaR,qad]at hfl
    have hj1:t1++zaj (staS es (za2 es m) level sts) (sts.take (j+1))=t1++zaj (staS es (za2 es m) level sts) (sts.take j)++staS es (za2 es m) level sts sts[j]:=by rw[htk,zaR,qaO]
    have hlb:(t1++zaj (staS es (za2 es m) level sts) (sts.take j)).length+(staS es (za2 es m) level sts sts[j]).length≤1000000000:=by
     rw[qad]
     omega
    have hs:=hst _ (qaf hlt)
    have hnm:∀s∈sts,s.name.length≤3000000:=fun s hh=>(hst s hh).name
    clear hfl hL1 h2
    generalize t1++zaj (staS es (za2 es m) level sts) (sts.take j)=acc at*
    rw[zjO]at hx
    generalize hSt:sts[j]=st at*
    have hsp:staS es (za2 es m) level sts st=staS es (za2 es m) level sts st:=rfl
    conv at hsp=>rhs;unfold staS
    rw[hsp]at hlb hj1
    clear hsp
    simp only[qad]at hlb
    have a1:=zcN es acc ([115,116,97,116,101,32]++st.name) (level+1) (by omega) (by omega)
    generalize za3 (level+1) ([115,116,97,116,101,32]++st.name)=p1 at*
    have a2:=zfA h hT (acc++p1) (level+2) (by omega) st.locals hs.locals hs.fewL (by simp only[qad];omega)
    generalize zcd es (level+2) st.locals=p2 at*
    have a3:=zgx h (acc++p1++p2) [117,110,108,101,115,115] (by decide) (level+2) (by omega) sts hnm st.unl hs.unl hs.fewU (by simp only[qad];omega)
    generalize zaj (zdI es (level+2) [117,110,108,101,115,115] sts) st.unl=p3 at*
    have a4:=zcN es (acc++p1++p2++p3) [100,111] (level+1) (by omega) (by simp only[qad];omega)
    generalize za3 (level+1) [100,111]=p4 at*
    have a5:=zhc h (za2 es m (level+2)) (acc++p1++p2++p3++p4) (level+2) (by omega) st.eqs st.autos hs.eqs hs.fewQ hs.fewA (fun a ha t ht=>ih a t (hs.autos a ha) (by omega) ht) (by simp only[qad];omega)
    generalize zaj (zch es (level+2)) st.eqs=p5 at*
    generalize zaj (za2 es m (level+2)) st.autos=p6 at*
    have a7:=zgx h (acc++p1++p2++p3++p4++p5++p6) [117,110,116,105,108] (by decide) (level+2) (by omega) sts hnm st.unt hs.unt hs.fewV (by simp only[qad];omega)
    generalize zaj (zdI es (level+2) [117,110,116,105,108] sts) st.unt=p7 at*
    have a8:=zcN es (acc++p1++p2++p3++p4++p5++p6++p7) [100,111,110,101] (level+1) (by omega) (by simp only[qad];omega)
    generalize za3 (level+1) [100,111,110,101]=p8 at*
    have hsl:=hs.name
    clear hs hnm hst ih hlb
    unfold Adds at a1 a4 a8
    simp only[hc1,hc2]at a1 a2 a3 a4 a5 a7 a8
    have hj2:acc++(p1++p2++p3++p4++p5++p6++p7++p8)=acc++p1++p2++p3++p4++p5++p6++p7++p8:=by simp only[qaO]
    rw[hj2]at hj1
    repeat' (first|refine wkt ?_|refine zqf ?_|(apply TO.zbH 3 a1;(iterate 3 exact rfl);exact Les.refl _;(iterate 8 exact rfl))|(apply TO.zbH 3 a2;(iterate 3 exact rfl);exact Les.refl _;(iterate 8 exact rfl))|(apply TO.zbH 3 a3;(iterate 3 exact rfl);exact Les.refl _;(iterate 8 exact rfl))|(apply TO.zbH 3 a4;(iterate 3 exact rfl);exact Les.refl _;(iterate 8 exact rfl))|(apply TO.zbH 3 a5;(iterate 3 exact rfl);exact Les.refl _;(iterate 8 exact rfl))|(apply TO.zbH 3 a7;(iterate 3 exact rfl);exact Les.refl _;(iterate 8 exact rfl))|(apply TO.zbH 3 a8;(iterate 3 exact rfl);exact Les.refl _;(iterate 8 exact rfl))|refine zqb ?_|exact wkc|intro hc|refine wk2 ?_ ?_|refine wk ?_|fail)
    exact zab.zaI hlt trivial (by(try dsimp only);exact⟨rfl,rfl,rfl,rfl,rfl,rfl,trivial⟩) (by(try dsimp only);rw[hj1])
   ·rw[qap]
    repeat' (first|refine wkt ?_|(apply TO.zbH 3 h2;(iterate 3 exact rfl);exact Les.refl _;(iterate 8 exact rfl))|exact wkc|intro hc|refine wk2 ?_ ?_|refine wk ?_|fail)
    exact RetK.zkG 3 rfl (Le.refl _) rfl rfl rfl rfl rfl ⟨rfl,rfl⟩
section rules
variable {n:Nat}{env env':Env}{H H':Heap}{K:TK}{all:Array Oper}{rest l:List Oper}{d:Nat}{ty:TypeId}{pos:String}{aft:Array Edge}{q:Bool}{st:Go.TL.St}{fr fr':List Fr1}
theorem goB(h:run1 tab n true 300 ⟨.ops q all l,env,H,[]⟩=some ⟨st,env',H',fr'⟩)(hk:GG Tryz.prog n K ⟨st,env',H',fr'⟩):TO q Tryz.prog n all l env H K:=TO.go0 zaf 300 true h hk
theorem zsM{cargs:List SV}{v:SV}{f:Operand}{fid:FuncId}{caps:List SV}{args:Array Operand}{ts:Array TypeId}{vs:List SV}(hs:Pure Tryz.prog fid cargs v)(hd:Nat.ble (d+1) n=true)
  (hf:env.val f=some (.fn fid caps))(ha:env.vals args.toList=some vs)(hl:Les (vs++caps) cargs)(hu:unders 0 cargs=true)(hv:v.under 0=true)
  (k:TO false Tryz.prog n all rest ((d,v)::env) H K):
  TO false Tryz.prog n all (⟨some d,.call { callee:=.value f,args:=args,argTypes:=ts },ty,pos,aft,none⟩::rest) env H K:=TO.zhh hs hd hf ha hl hu hv k
end rules
theorem wma{G Q:Prop}(k:Q)(h:Hold Q->G:=by
  first
  | (intro k;apply goA;exact rfl;(first|apply GG.to|apply GG.stop|apply GG.ex);exact k.p)
  | (intro k;apply goC;exact rfl;(first|apply GG.to|apply GG.stop|apply GG.ex);exact k.p)
  | (intro k;apply goB;exact rfl;(first|apply GG.to|apply GG.stop|apply GG.ex);exact k.p)):G:=h ⟨k⟩
theorem wmv{G Q:Prop}{f:FuncId}{cargs:List SV}{v:SV}(hs:Pure Tryz.prog f cargs v)(k:Q)(h:Pure Tryz.prog f cargs v->Hold Q->G:=by
  intro hs k
  apply zsM;exact hs;(iterate 3 exact rfl);exact zqa;exact rfl;exact rfl;exact k.p):G:=h hs ⟨k⟩
def zaP(es:List En)(word:Str)(e:Ex):Str:=za3 1 (word++[32]++shF es 400 e++[59])
def zij(es:List En)(n:Nod):Str:=za3 0 ([110,111,100,101,32]++n.name++[40]++zcL es n.ins++[41,32,114,101,116,117,114,110,115,32,40]++zcL es n.outs++[41])
def zbt(es:List En)(n:Nod):Str:=
 zij es n++zcd es 1 n.locals++zaj (zaP es [97,115,115,117,109,101]) n.assume++zaj (zaP es [101,110,115,117,114,101]) n.ensure++za3 0 [108,101,116]++zaj (zch es 1) n.eqs++zaj (za2 es 3 1) n.autos++za3 0 [116,101,108]
structure ShNo (n:Nod):Prop where
 name:n.name.length≤3000000
 ins:∀d∈n.ins,ShD d
 fewI:n.ins.length≤1000
 outs:∀d∈n.outs,ShD d
 fewO:n.outs.length≤1000
 locals:∀d∈n.locals,ShD d
 fewL:n.locals.length≤1000
 eqs:∀q∈n.eqs,ShQ q
 fewQ:n.eqs.length≤1000000
 autos:∀a∈n.autos,ShAu 3 a
 fewA:n.autos.length≤1000000
 assume:∀e∈n.assume,ShOk e/\wEx e≤400
 fewS:n.assume.length≤1000000
 ensure:∀e∈n.ensure,ShOk e/\wEx e≤400
 fewE:n.ensure.length≤1000000
set_option maxHeartbeats 16000000 in
theorem zml {es:List En} (h:ShE es) (hT:∀t:Int,(zdV es t).1.length≤3000000) (a:Bool) (t:Str) (n:Nod) (hn:ShNo n) (hb:t.length+(zbt es n).length≤1000000000):
  Sound Tryz.prog 31 [.tref lnT 4 1 0,.t (nodT n)] (lnH a es t) (fun r H'=>r= .ret (.tup [])/\H'=ln1 es (t++zbt es n)):=by
 have hmassume:(n.assume.map exT).length=n.assume.length:=qab _
 have hmensure:(n.ensure.map exT).length=n.ensure.length:=qab _
 have hee:zbt es n=zbt es n:=rfl
 conv at hee=>rhs;unfold zbt
 have hh1:zij es n=za3 0 ([110,111,100,101,32]++n.name++[40]++zcL es n.ins++[41,32,114,101,116,117,114,110,115,32,40]++zcL es n.outs++[41]):=rfl
 have di:=zee h hT n.ins hn.ins hn.fewI
 have dil:=zfT h hT n.ins hn.ins hn.fewI
 have dd:=zee h hT n.outs hn.outs hn.fewO
 have ddl:=zfT h hT n.outs hn.outs hn.fewO
 have hnl:=hn.name
 have hfa:=hn.fewS
 have hfe:=hn.fewE
 have hbl:=hb
 rw[hee]at hbl
 simp only[qad]at hbl
 have b1:=zcm a es t ([110,111,100,101,32]++n.name++[40]++zcL es n.ins++[41,32,114,101,116,117,114,110,115,32,40]++zcL es n.outs++[41]) 0 (by decide) (by rw[<-hh1];omega)
 rw[<-hh1]at b1
 have b2:=zfA h hT (t++zij es n) 1 (by decide) n.locals hn.locals hn.fewL (by simp only[qad];omega)
 have b5:=zcN es (t++zij es n++zcd es 1 n.locals++zaj (zaP es [97,115,115,117,109,101]) n.assume++zaj (zaP es [101,110,115,117,114,101]) n.ensure) [108,101,116] 0 (by decide) (by simp only[qad];omega)
 have b6:=zhc h (za2 es 3 1) (t++zij es n++zcd es 1 n.locals++zaj (zaP es [97,115,115,117,109,101]) n.assume++zaj (zaP es [101,110,115,117,114,101]) n.ensure++za3 0 [108,101,116]) 1 (by decide) n.eqs n.autos hn.eqs hn.fewQ hn.fewA (fun a ha t ht=>zha h hT 3 1 a t (hn.autos a ha) (by decide) ht) (by simp only[qad];omega)
 have b8:=zcN es (t++zij es n++zcd es 1 n.locals++zaj (zaP es [97,115,115,117,109,101]) n.assume++zaj (zaP es [101,110,115,117,114,101]) n.ensure++za3 0 [108,101,116]++zaj (zch es 1) n.eqs++zaj (za2 es 3 1) n.autos) [116,101,108] 0 (by decide) (by simp only[qad];omega)
 have hap:t++zbt es n=t++zij es n++zcd es 1 n.locals++zaj (zaP es [97,115,115,117,109,101]) n.assume++zaj (zaP es [101,110,115,117,114,101]) n.ensure++za3 0 [108,101,116]++zaj (zch es 1) n.eqs++zaj (za2 es 3 1) n.autos++za3 0 [116,101,108]:=by rw[hee];simp only[qaO]
 rw[hap]
 clear hap hee hh1 hb
 unfold Adds at b5 b8
 have hlen1:(t++zij es n++zcd es 1 n.locals).length+(zaj (zaP es [97,115,115,117,109,101]) n.assume).length+(zaj (zaP es [101,110,115,117,114,101]) n.ensure).length≤1000000000:=by simp only[qad];omega
 clear hbl
 generalize zij es n=p1 at*
 generalize zcd es 1 n.locals=p2 at*
 generalize zaj (zch es 1) n.eqs=p6 at*
 generalize zaj (za2 es 3 1) n.autos=p7 at*
 generalize za3 0 [108,101,116]=p5 at*
 generalize za3 0 [116,101,108]=p8 at*
 generalize zcL es n.ins=si at*
 generalize zcL es n.outs=su at*
 cases a
 all_goals
  unfold lnH at*
  simp only[cond_true,cond_false]at*
  unfold nodT
  refine so Tryz.func31 ?_
  repeat' (first|refine wkt ?_|fail)
  apply TR.zfa (envF:=_) (HF:=ln1 es (t++p1)) [(_,false),(_,false),(_,false),(_,false),(_,false),(_,false),(_,false),(_,false),(_,false),(_,false),(_,false),(_,false),(_,false),(_,false),(_,false),(_,false),(_,false),(_,false),(_,false),(_,false),(_,false),(_,false),(_,false),(_,true)] [_,ln1 es (t++p1)] hmix
  case hB=>(dsimp only[List.map];decide +kernel)
  case h0=>exact rfl
  case hF=>exact rfl
  case hp=>
   repeat' (first|(refine qai (fun H hH env=>?_) ?_;rcases zmf hH with rfl|rfl)|refine qai (fun env=>?_) ?_|refine wma ?_|(apply TO.zbH 1 di;(iterate 3 exact rfl);exact Les.refl _;(iterate 8 exact rfl))|(apply TO.zbH 1 dd;(iterate 3 exact rfl);exact Les.refl _;(iterate 8 exact rfl))|(apply TO.zbH 3 b1;(iterate 3 exact rfl);exact Les.refl _;(iterate 8 exact rfl))|(apply TO.cat;(iterate 3 exact rfl);exact zqd)|exact trivial|exact qai rfl rfl|refine wmk ?_|fail)
   done
  case hE=>exact rfl
  case hK=>
  repeat' (first|refine wkt ?_|(apply TO.zbH 3 b2;(iterate 3 exact rfl);exact Les.refl _;(iterate 8 exact rfl))|exact wkc|intro hc|refine wk2 ?_ ?_|fail)
  generalize hacc:t++p1++p2=acc at*
  clear b1 b2 di dd
  refine TR.zaA n.assume.length (fun _=>True) (fun j=>[(0,.tref lnT 4 1 0),(3,.cp (nodC n) 0),(37,.t (.sl 6 (n.assume.map exT))),(38,.i n.assume.length),(39,.i j)]) (fun j=>ln1 es (acc++zaj (zaP es [97,115,115,117,109,101]) (n.assume.take j))) trivial (fun j hlt _=>?_) (fun _=>?_) ⟨rfl,rfl,rfl,by rw[<-hmassume];rfl,rfl,trivial⟩ (by simp[zaj])
  ·have hx:=zbj exT hlt
   rw[zae]at hx
   have htk:=zbr hlt
   have hqq:=hn.assume _ (qaf hlt)
   have hs:=zcn h 400 _ hqq.1 hqq.2 (by decide)
   have hfl:=zb9 (zaP es [97,115,115,117,109,101]) n.assume (j+1)
   rw[htk,zaR,qad]at hfl
   have hj1:acc++zaj (zaP es [97,115,115,117,109,101]) (n.assume.take (j+1))=acc++zaj (zaP es [97,115,115,117,109,101]) (n.assume.take j)++zaP es [97,115,115,117,109,101] n.assume[j]:=by rw[htk,zaR,qaO]
   have hadd:=zcN es (acc++zaj (zaP es [97,115,115,117,109,101]) (n.assume.take j)) ([97,115,115,117,109,101]++[32]++shF es 400 n.assume[j]++[59]) 1 (by decide) (by
    show _+(zaP es [97,115,115,117,109,101] n.assume[j]).length≤_
    rw[qad]
    omega)
   have hee:zaP es [97,115,115,117,109,101] n.assume[j]=za3 1 ([97,115,115,117,109,101]++[32]++shF es 400 n.assume[j]++[59]):=rfl
   rw[<-hee]at hadd
   have hgl:(shF es 400 n.assume[j]).length≤5000000000:=by
    have h1:=zhS h 400 _ hqq.1
    have h2:wEx n.assume[j]*12000100≤400*12000100:=qaD _ hqq.2
    omega
   clear hqq hfl hee
   unfold Adds at hadd
   unfold ShC at hs
   generalize zaP es [97,115,115,117,109,101] n.assume[j]=ln at*
   generalize shF es 400 n.assume[j]=g at*
   generalize acc++zaj (zaP es [97,115,115,117,109,101]) (n.assume.take j)=ac2 at*
   generalize n.assume[j]=q at*
   exact zwc
  rw[qap]
  repeat' (first|refine wkt ?_|refine zab.exit ?_|exact wkc|intro hc|refine wk2 ?_ ?_|fail)
  have hlen2:(acc++zaj (zaP es [97,115,115,117,109,101]) n.assume).length+(zaj (zaP es [101,110,115,117,114,101]) n.ensure).length≤1000000000:=by rw[qad];exact hlen1
  clear hlen1
  clear hacc
  generalize acc++zaj (zaP es [97,115,115,117,109,101]) n.assume=acc at*
  refine TR.zaA n.ensure.length (fun _=>True) (fun j=>[(0,.tref lnT 4 1 0),(3,.cp (nodC n) 0),(55,.t (.sl 6 (n.ensure.map exT))),(56,.i n.ensure.length),(57,.i j)]) (fun j=>ln1 es (acc++zaj (zaP es [101,110,115,117,114,101]) (n.ensure.take j))) trivial (fun j hlt _=>?_) (fun _=>?_) ⟨rfl,rfl,rfl,by rw[<-hmensure];rfl,rfl,trivial⟩ (by simp[zaj])
  ·have hx:=zbj exT hlt
   rw[zae]at hx
   have htk:=zbr hlt
   have hqq:=hn.ensure _ (qaf hlt)
   have hs:=zcn h 400 _ hqq.1 hqq.2 (by decide)
   have hfl:=zb9 (zaP es [101,110,115,117,114,101]) n.ensure (j+1)
   rw[htk,zaR,qad]at hfl
   have hj1:acc++zaj (zaP es [101,110,115,117,114,101]) (n.ensure.take (j+1))=acc++zaj (zaP es [101,110,115,117,114,101]) (n.ensure.take j)++zaP es [101,110,115,117,114,101] n.ensure[j]:=by rw[htk,zaR,qaO]
   have hadd:=zcN es (acc++zaj (zaP es [101,110,115,117,114,101]) (n.ensure.take j)) ([101,110,115,117,114,101]++[32]++shF es 400 n.ensure[j]++[59]) 1 (by decide) (by
    show _+(zaP es [101,110,115,117,114,101] n.ensure[j]).length≤_
    rw[qad]
    omega)
   have hee:zaP es [101,110,115,117,114,101] n.ensure[j]=za3 1 ([101,110,115,117,114,101]++[32]++shF es 400 n.ensure[j]++[59]):=rfl
   rw[<-hee]at hadd
   have hgl:(shF es 400 n.ensure[j]).length≤5000000000:=by
    have h1:=zhS h 400 _ hqq.1
    have h2:wEx n.ensure[j]*12000100≤400*12000100:=qaD _ hqq.2
    omega
   clear hqq hfl hee
   unfold Adds at hadd
   unfold ShC at hs
   generalize zaP es [101,110,115,117,114,101] n.ensure[j]=ln at*
   generalize shF es 400 n.ensure[j]=g at*
   generalize acc++zaj (zaP es [101,110,115,117,114,101]) (n.ensure.take j)=ac2 at*
   generalize n.ensure[j]=q at*
   exact zwc
  rw[qap]
  repeat' (first|refine wkt ?_|refine zab.exit ?_|(apply TO.zbH 3 b5;(iterate 3 exact rfl);exact Les.refl _;(iterate 8 exact rfl))|(apply TO.zbH 3 b6;(iterate 3 exact rfl);exact Les.refl _;(iterate 8 exact rfl))|(apply TO.zbH 3 b8;(iterate 3 exact rfl);exact Les.refl _;(iterate 8 exact rfl))|exact wkc|intro hc|refine wk2 ?_ ?_|refine wk ?_|fail)
  exact RetK.zkG 3 rfl (Le.refl _) rfl rfl rfl rfl rfl ⟨rfl,rfl⟩
end Go.Proofs.YthmbhfgflijapaaGreatDoor
