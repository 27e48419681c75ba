import Derived.Test.YtcbhlhmebbkgnaaGreatPk22
import Derived.Test.YtcbhlhmebbkgnaaGreatPk24
import Derived.Test.YtcbhlhmebbkgnaaGreatPk27
import Derived.Test.YtcbhlhmebbkgnaaGreatPk28
import Derived.Test.YtcbhlhmebbkgnaaGreatPk32
set_option linter.unusedSimpArgs false
set_option linter.unusedVariables false
namespace Go.Proofs.YtcbhlhmebbkgnaaGreat
open Go Go.TL
attribute [local irreducible] TR TO Then zaw RetK Sound zab Kf GG zaZ
def ztz(v:List Str)(e:Ex):Bool:=zgm v (zkz e).length e
theorem zkZ:zaW=ztz:=by funext v e;unfold zaW ztz;rw[zr2]
def zmC(vars:List Str)(u:Equ):List Str:=if u.left.length=1/\u.left.headD [] ∉ vars/\ztz vars u.right=true then vars++[u.left.headD []] else vars
def zqU(us:List Equ):Nat->List Str->List Str
 | 0,v=>v
 | m+1,v=>if us.foldl zmC v=v then v else zqU us m (us.foldl zmC v)
theorem ztr(us:List Equ)(v:List Str):zbW us v=us.foldl zmC v:=by
 unfold zbW
 rw[show zkX=zmC from by funext v u;unfold zkX zmC;rw[zkZ]]
theorem zhO(us:List Equ):∀(m:Nat) (v:List Str),zfU us m v=zqU us m v
 | 0,_=>rfl
 | m+1,v=>by rw[zfU,zqU,ztr,zhO us m]
theorem zuM(v:List Str)(e:Ex):misX v e=(zkz e).any (badX v):=by unfold misX;rw[zmG]
def preE(e:Ex):Ex:=.mk (i64 5) (i64 0) (i64 0) (i64 0) [] [e]
def arrE(a b:Ex):Ex:=.mk (i64 6) (i64 0) (i64 0) (i64 0) [] [a,b]
def xV:Ex:=.mk (i64 2) (i64 0) (i64 0) (i64 0) [120] []
def oneN(e:Ex):Nod:=⟨[102],[⟨[97],i64 2,[]⟩],[⟨[120],i64 2,[]⟩],[],[⟨[[120]],e⟩],[],[],[]⟩
def oneP(e:Ex):Prog:=⟨[],[oneN e]⟩
def ax:Nat->Ex
 | 0=>preE kA
 | 1=>preE (preE kA)
 | _=>arrE kA (preE kA)
set_option maxRecDepth 20000 in
theorem nshape (k:Nat) (h:k<3):zaR (oneP (ax k))=((0,0),0):=by
 delta zaR zbt equE zgw zaP zen
 simp only[zmG,zuv,zr2]
 match k,h with
 | 0,_=>decide +kernel
 | 1,_=>decide +kernel
 | 2,_=>decide +kernel
set_option maxRecDepth 20000 in
theorem nscope (k:Nat) (h:k<3):zbx (oneP (ax k))=((0,0),0):=by
 unfold zbx
 rw[nshape k h]
 delta nodF zce zpz equS zfg zc1
 simp only[zt9]
 match k,h with
 | 0,_=>decide +kernel
 | 1,_=>decide +kernel
 | 2,_=>decide +kernel
set_option maxRecDepth 20000 in
theorem ntypes (k:Nat) (h:k<3):zbi (oneP (ax k))=((0,0),0):=by
 unfold zbi
 rw[nscope k h]
 show zcO (oneP (ax k)) [(oneN (ax k),0)]=_
 unfold zcO
 delta nodG zga eqnT zgs zbS
 simp only[zuh]
 match k,h with
 | 0,_=>decide +kernel
 | 1,_=>decide +kernel
 | 2,_=>decide +kernel
set_option maxRecDepth 20000 in
theorem nclocks (k:Nat) (h:k<3):zaF (oneP (ax k))=((0,0),0):=by
 delta zaF
 rw[ntypes k h]
 show zbV 0 [oneN _]=_
 unfold zbV
 delta zdk zjb zcu
 simp only[zr2]
 match k,h with
 | 0,_=>decide +kernel
 | 1,_=>decide +kernel
 | 2,_=>decide +kernel
def nres:Nat->(Int×Int)×Int
 | 0=>((0,-1),12)
 | 1=>((0,0),12)
 | _=>((0,0),0)
set_option maxRecDepth 20000 in
theorem nstarts (k:Nat) (h:k<3):zbk (oneP (ax k))=nres k:=by
 delta zbk
 rw[nclocks k h]
 show zdh 0 [oneN _]=_
 unfold zdh
 delta zdR zo7 zaJ
 simp only[zhO,zuM]
 delta badX
 simp only[zkZ]
 match k,h with
 | 0,_=>decide +kernel
 | 1,_=>decide +kernel
 | 2,_=>decide +kernel
set_option maxRecDepth 20000 in
theorem nlate:zcb (oneP (ax 0)) (i64 0)=([[120]],0):=by
 delta zcb
 rw[nclocks 0 (by decide)]
 delta zaJ
 simp only[zhO,zkZ]
 decide +kernel
set_option maxRecDepth 20000 in
theorem nof (b:Bool):ofT (oneP (ax 0)) (i64 0) (if b=true then arrE kA xV else xV)=([2],0):=by
 delta ofT zaP zen
 simp only[zmG,zuv,zr2,zuh]
 cases b <;> decide +kernel
set_option maxRecDepth 20000 in
theorem nlof (b:Bool):zcN (oneP (ax 0)) (i64 0) (if b=true then arrE kA xV else xV)=(!b,0):=by
 delta zcN
 rw[nlate,nof]
 delta zaJ
 simp only[zhO,zkZ]
 cases b <;> decide +kernel
theorem mem3{α:Type}{a b c x:α}(h:x∈[a,b,c]):x=a\/x=b\/x=c:=by simpa using h
set_option maxHeartbeats 2000000 in
theorem zeF (p:Prog) (hw:(T.ag (zav p)).w≤100000000) (node:I64) (e:Ex) (he:wEx e≤1000000000) (hn:∀x∈flat e,x.name.length≤1000000000):
  Pure Tryz.prog 14 [.t (.ag (zav p)),.i node.1,.t (.ag (exC e))] (.tup [.b (zcN p node e).1,.i (zcN p node e).2]):=by
 obtain⟨hP,hln,hpl⟩:=zbr hw
 have hml:(p.nodes.map nodT).length=p.nodes.length:=List.length_map _
 have h1:=zfu p hw node
 have h2:=zpB p hP node e he
 have hz:zcN p node e=zcN p node e:=rfl
 conv at hz=>rhs;unfold zcN
 generalize zcN p node e=z at hz⊢
 have hrange:(zcb p node).2=0->(zaF p).2=0/\¬(node.1<0\/(p.nodes.length:Int)≤node.1):=fun h=>by
  unfold zcb at h
  have h3:(zaF p).2=0:=Classical.byContradiction fun hh=>by rw[if_pos hh]at h;exact hh h
  rw[if_neg (by simp[h3])]at h
  exact⟨h3,fun hh=>by rw[if_pos hh]at h;cases h⟩
 have hpc:zav p=[.sl 2 (p.enums.map enT),zag p.nodes]:=rfl
 have hec:exC e=[T.n e.kind,T.n e.op,T.n e.t,T.n e.v,.s e.name,.sl 6 (e.args.map exT)]:=rfl
 rw[hpc]at*
 by_cases h3:(zcb p node).2=0
 ·obtain⟨hck,h4⟩:=hrange h3
  rw[if_neg (by simp[h3])]at hz
  obtain⟨k,hk,hkn⟩:∃k:Nat,k<p.nodes.length/\node.1=(k:Int):=⟨node.1.toNat,by omega,by omega⟩
  have hnt:node.1.toNat=k:=by omega
  have hat:(p.nodes.map nodT)[node.1.toNat]?=some (.ag (nodC p.nodes[k])):=by rw[hnt];exact zb7 hk
  rw[hnt,List.getElem?_eq_getElem hk]at hz
  simp only at hz
  have hmem:=List.getElem_mem hk
  have hS:=zh6 (p:=p) (zcm hck) hmem (hln _ hmem)
  have hls:=zfr p.nodes[k] hS.eqs
  have hla:=zgS (zaJ p.nodes[k]) (zhP hS.eqs) _ e (Nat.le_refl _) he hn
  unfold zk2 at hla
  rw[zaA]at hla
  rw[h3]at h1
  clear hS hP hrange hck
  generalize (zcb p node).1=l1 at*
  generalize ofT p node e=r at*
  obtain⟨r1,r2⟩:=r
  simp only at hz h2
  generalize zaW (zaJ p.nodes[k]) e=b at*
  generalize zaJ p.nodes[k]=V at*
  generalize p.nodes[k]=n at*
  rw[hec]at*
  by_cases h5:r2=0
  ·rw[if_neg (by simp[h5])]at hz
   subst hz h5
   unfold nodC at*
   refine so Tryz.func14 ?_
   repeat' (first|refine wkt ?_|refine wka ?_|refine wv h1 ?_|refine wv h2 ?_|(apply TO.go zam 300 false;exact rfl;(first|apply GG.to|apply GG.stop|apply GG.tr0|apply GG.tr|apply GG.ex))|exact wkc|intro hc|refine wk2 ?_ ?_|fail)
   all_goals try(exfalso;omega)
   refine TR.ztJ (envF:=?envF) (HF:=[setB V]) [(.cp [.sl 2 (p.enums.map enT),zag p.nodes] 1,false),(.t (zag p.nodes),false),(.i node.1,false),(.cp (nC n) 0,false),(.t (.ag (nC n)),false),(.mp 0,true),(.t (.ag [T.n e.kind,T.n e.op,T.n e.t,T.n e.v,.s e.name,.sl 6 (e.args.map exT)]),false),(.b b,true),(.b b,false),(.i 0,false)] [[],[setB V],[setB V]] hmix ?hB ?h0 ?hp ?hF ?hE ?hK
   case hB=>(dsimp only[List.map];decide +kernel)
   case h0=>exact rfl
   case hF=>exact rfl
   case hE=>exact rfl
   case hp=>
    repeat' (first|(refine And.intro (fun H hH env=>?_) ?_;rcases mem3 hH with rfl|rfl|rfl)|refine And.intro (fun env=>?_) ?_|refine wkt ?_|(apply TO.zrd hls;(iterate 3 exact rfl);exact⟨Le.refl _,trivial⟩;exact rfl)|(refine wd hla ?_)|exact trivial|exact And.intro rfl rfl|refine wk ?_|fail)
    done
   case hK=>
    repeat' (first|refine wk ?_|fail)
    exact wkr
  ·rw[if_pos h5]at hz
   subst hz
   refine so Tryz.func14 ?_
   repeat' (first|refine wkt ?_|refine wka ?_|refine wk ?_|exact wkc|intro hc|refine wk2 ?_ ?_|refine wv h1 ?_|refine wv h2 ?_|fail)
   all_goals first
    | exact wkr
    | (exfalso;omega)
 ·rw[if_pos h3]at hz
  subst hz
  generalize zcb p node=r at*
  rw[hec]at*
  refine so Tryz.func14 ?_
  repeat' (first|refine wkt ?_|refine wka ?_|refine wk ?_|exact wkc|intro hc|refine wk2 ?_ ?_|refine wv h1 ?_|fail)
  all_goals first
   | exact wkr
   | (exfalso;omega)
abbrev vT' (c:UInt8):T:=.ag [T.i 2,T.i 0,T.i 0,T.i 0,T.s [c],.sl 6 []]
abbrev prT (a:T):T:=.ag [T.i 5,T.i 0,T.i 0,T.i 0,T.s [],.sl 6 [a]]
abbrev arT (a b:T):T:=.ag [T.i 6,T.i 0,T.i 0,T.i 0,T.s [],.sl 6 [a,b]]
theorem zix(s:Str):Pure Tryz.prog 23 [.s s] (.t (.ag [T.i 2,T.i 0,T.i 0,T.i 0,T.s s,.sl 6 []])):=by
 refine so Tryz.func23 ?_
 repeat' (first|refine wu ?_|exact wkc|intro hc|refine wk2 ?_ ?_|fail)
 refine RetK.pure rfl (Le.zun rfl ?_) rfl
 repeat' (first|exact trivial|exact TLs.refl _|exact TLs.nil _|refine TLs.agL ?_|refine TLs.slL ?_|refine And.intro ?_ ?_|fail)
theorem ziA(c:List T)(hc:c.length=6):Pure Tryz.prog 18 [.t (.ag c)] (.t (prT (.ag c))):=by
 match c,hc with
 | [c1,c2,c3,c4,c5,c6],_=>
 refine so Tryz.func18 ?_
 repeat' (first|refine wu ?_|exact wkc|intro hc|refine wk2 ?_ ?_|fail)
 exact wkr
theorem zfP(c d:List T)(hc:c.length=6)(hd:d.length=6):Pure Tryz.prog 17 [.t (.ag c),.t (.ag d)] (.t (arT (.ag c) (.ag d))):=by
 match c,hc,d,hd with
 | [c1,c2,c3,c4,c5,c6],_,[d1,d2,d3,d4,d5,d6],_=>
 refine so Tryz.func17 ?_
 repeat' (first|refine wu ?_|exact wkc|intro hc|refine wk2 ?_ ?_|fail)
 exact wkr
abbrev oneT (c:List T):T:=.ag [.sl 2 [],.sl 8 [.ag [T.s [102],.sl 3 [.ag [T.s [97],T.i 2,.sl 3 []]],.sl 3 [.ag [T.s [120],T.i 2,.sl 3 []]],.sl 3 [],.sl 7 [.ag (.sl 1 [T.s [120]]::c)],.sl 1 [],.sl 6 [],.sl 6 []]]]
theorem zfi(c:List T)(hc:c.length=6):Pure Tryz.prog 24 [.t (.ag c)] (.t (oneT c)):=by
 match c,hc with
 | [c1,c2,c3,c4,c5,c6],_=>
 refine so Tryz.func24 ?_
 repeat' (first|refine wu ?_|exact wkc|intro hc|refine wk2 ?_ ?_|fail)
 refine RetK.pure rfl (Le.zun rfl ?_) rfl
 repeat' (first|exact trivial|exact TLs.refl _|exact TLs.nil _|refine TLs.agL ?_|refine TLs.slL ?_|refine And.intro ?_ ?_|fail)
theorem zqp(e:Ex):T.ag (zav (oneP e))=oneT (exC e):=by
 simp[zav,oneP,zag,nodT,oneN,equT,zah,onT,i64]
theorem zkt(e:Ex):exT (preE e)=prT (exT e):=by rw[zaA];rfl
theorem zpF(a b:Ex):exT (arrE a b)=arT (exT a) (exT b):=by rw[zaA];rfl
theorem zoO:exT kA=vT' 97:=by rw[zaA];rfl
theorem zte:exT xV=vT' 120:=by rw[zaA];rfl
theorem zl8{e:Ex}{c:List T}(h:exT e= .ag c):exC e=c:=by rw[zaA]at h;exact T.ag.inj h
theorem axT0:exT (ax 0)=prT (vT' 97):=(zkt kA).trans (by rw[zoO])
theorem axT1:exT (ax 1)=prT (prT (vT' 97)):=(zkt (preE kA)).trans (by rw[zkt,zoO])
theorem axT2:exT (ax 2)=arT (vT' 97) (prT (vT' 97)):=(zpF kA (preE kA)).trans (by rw[zkt,zoO])
theorem axP0:T.ag (zav (oneP (ax 0)))=oneT [T.i 5,T.i 0,T.i 0,T.i 0,T.s [],.sl 6 [vT' 97]]:=by rw[zqp,zl8 axT0]
theorem axP1:T.ag (zav (oneP (ax 1)))=oneT [T.i 5,T.i 0,T.i 0,T.i 0,T.s [],.sl 6 [prT (vT' 97)]]:=by rw[zqp,zl8 axT1]
theorem axP2:T.ag (zav (oneP (ax 2)))=oneT [T.i 6,T.i 0,T.i 0,T.i 0,T.s [],.sl 6 [vT' 97,prT (vT' 97)]]:=by rw[zqp,zl8 axT2]
theorem axW0:(T.ag (zav (oneP (ax 0)))).w≤100000000:=by rw[axP0];simp[w_ag,w_sl,T.w];decide +kernel
theorem axW1:(T.ag (zav (oneP (ax 1)))).w≤100000000:=by rw[axP1];simp[w_ag,w_sl,T.w];decide +kernel
theorem axW2:(T.ag (zav (oneP (ax 2)))).w≤100000000:=by rw[axP2];simp[w_ag,w_sl,T.w];decide +kernel
theorem zsU(s:Str)(h:s.length≤1000000000):wEx (.mk (i64 2) (i64 0) (i64 0) (i64 0) s [])≤1000000000/\∀x∈flat (.mk (i64 2) (i64 0) (i64 0) (i64 0) s []),x.name.length≤1000000000:=by
 refine⟨by rw[zkw];decide,fun x hx=>?_⟩
 rw[ziO]at hx
 simp at hx;subst hx;exact h
theorem zsG:wEx (arrE kA xV)≤1000000000/\∀x∈flat (arrE kA xV),x.name.length≤1000000000:=by
 refine⟨by rw[show wEx (arrE kA xV)=3 from ztn _ _ _ _ _ _ _ _ _ _ _ _ _ _ _];decide,fun x hx=>?_⟩
 rw[show flat (arrE kA xV)=_ from zsa _ _ _ _ _ _ _ _ _ _ _ _ _ _ _]at hx
 simp at hx
 rcases hx with rfl|rfl|rfl <;> decide
theorem zhV(a b:List Str)(ha:a.length≤1000000000):Pure Tryz.prog 16 [.t (zae a),.t (zae b)] (.b (decide (a=b))):=by
 have hma:(a.map T.s).length=a.length:=List.length_map _
 have hmb:(b.map T.s).length=b.length:=List.length_map _
 by_cases hl:a.length=b.length
 ·refine so Tryz.func16 ?_
  repeat' (first|refine wk ?_|exact wkc|intro hc|refine wk2 ?_ ?_|fail)
  all_goals try(exfalso;omega)
  refine TR.zal a.length (fun k=>a.take k=b.take k) (fun k=>[(0,.t (zae a)),(1,.t (zae b)),(5,.i k)]) (fun _=>[]) rfl (fun k hlt hk=>?_) (fun hk=>?_)
  ·have hx:=zfw hlt
   have hy:=zfw (l:=b) (show k<b.length by omega)
   have h1:=zaG hlt
   have h2:=zaG (l:=b) (show k<b.length by omega)
   have hne:a[k]≠b[k]'(by omega)->a≠b:=fun h e=>h (by subst e;rfl)
   generalize a[k]=u at*
   generalize b[k]'(by omega)=v at*
   repeat' (first|refine wk ?_|exact wkc|intro hc|refine wk2 ?_ ?_|fail)
   ·rw[decide_eq_false (hne hc)];exact wkr
   ·refine zab.zak hlt ?_
    rw[h1,h2,hk,show u=v by simpa using hc]
  ·rw[List.take_length,hl,List.take_length]at hk
   rw[decide_eq_true hk]
   repeat' (first|refine wk ?_|exact wkc|intro hc|refine wk2 ?_ ?_|fail)
   exact wkr
 ·rw[decide_eq_false (fun e=>hl (by rw[e]))]
  refine so Tryz.func16 ?_
  repeat' (first|refine wk ?_|exact wkc|intro hc|refine wk2 ?_ ?_|fail)
  all_goals first
   | exact wkr
   | (exfalso;omega)
def zkn(p:Prog):Bool:=decide (1200≤wgP 1200 p)
theorem zfR(p:Prog)(hw:(T.ag (zav p)).w≤100000000):Pure Tryz.prog 7 [.t (.ag (zav p))] (.b (zkn p)):=by
 have hs:=zqK p hw 1200 (by omega) (by omega)
 unfold zkn
 generalize wgP 1200 p=z at*
 unfold zav at*
 by_cases h:1200≤z
 ·rw[decide_eq_true h]
  refine so Tryz.func7 ?_
  repeat' (first|refine wu ?_|exact wkc|intro hc|refine wk2 ?_ ?_|refine wv hs ?_|fail)
  all_goals first
   | exact wkr
   | (exfalso;omega)
 ·rw[decide_eq_false h]
  refine so Tryz.func7 ?_
  repeat' (first|refine wu ?_|exact wkc|intro hc|refine wk2 ?_ ?_|refine wv hs ?_|fail)
  all_goals first
   | exact wkr
   | (exfalso;omega)
set_option maxHeartbeats 4000000 in
theorem ziT:Pure Tryz.prog 8 [] (.b true):=by
 have c0:=zcX _ axW0
 have c1:=zcX _ axW1
 have c2:=zcX _ axW2
 rw[show zbk (oneP (ax 0))=((0,-1),12) from nstarts 0 (by decide),axP0]at c0
 rw[show zbk (oneP (ax 1))=((0,0),12) from nstarts 1 (by decide),axP1]at c1
 rw[show zbk (oneP (ax 2))=((0,0),0) from nstarts 2 (by decide),axP2]at c2
 have l0:=zfu _ axW0 (i64 0)
 rw[nlate,axP0]at l0
 have o1:=zeF _ axW0 (i64 0) (arrE kA xV) zsG.1 zsG.2
 have o2:=zeF _ axW0 (i64 0) xV (zsU [120] (by decide)).1 (zsU [120] (by decide)).2
 rw[show zcN (oneP (ax 0)) (i64 0) (arrE kA xV)=(false,0) from nlof true,axP0,zl8 (zpF kA xV),zoO,zte]at o1
 rw[show zcN (oneP (ax 0)) (i64 0) xV=(true,0) from nlof false,axP0,zl8 zte]at o2
 have s1:=zhV [[120]] [[120]] (by decide)
 rw[decide_eq_true rfl]at s1
 have v1:=zix [97]
 have v2:=zix [120]
 have p1:=ziA [T.i 2,T.i 0,T.i 0,T.i 0,T.s [97],.sl 6 []] rfl
 have p2:=ziA [T.i 5,T.i 0,T.i 0,T.i 0,T.s [],.sl 6 [vT' 97]] rfl
 have a1:=zfP [T.i 2,T.i 0,T.i 0,T.i 0,T.s [97],.sl 6 []] [T.i 5,T.i 0,T.i 0,T.i 0,T.s [],.sl 6 [vT' 97]] rfl rfl
 have a2:=zfP [T.i 2,T.i 0,T.i 0,T.i 0,T.s [97],.sl 6 []] [T.i 2,T.i 0,T.i 0,T.i 0,T.s [120],.sl 6 []] rfl rfl
 have n0:=zfi [T.i 5,T.i 0,T.i 0,T.i 0,T.s [],.sl 6 [vT' 97]] rfl
 have n1:=zfi [T.i 5,T.i 0,T.i 0,T.i 0,T.s [],.sl 6 [prT (vT' 97)]] rfl
 have n2:=zfi [T.i 6,T.i 0,T.i 0,T.i 0,T.s [],.sl 6 [vT' 97,prT (vT' 97)]] rfl
 dsimp only[nres,i64,Bool.not_true,Bool.not_false,List.map_cons,List.map_nil]at c0 c1 c2 l0 o1 o2 s1
 refine so Tryz.func8 ?_
 repeat' (first|refine wkt ?_|refine wv v1 ?_|refine wv p1 ?_|refine wv p2 ?_|refine wv n0 ?_|refine wv n1 ?_|refine wv c0 ?_|refine wv c1 ?_|exact wkc|intro hc|refine wk2 ?_ ?_|fail)
 refine TR.zc5 (envF:=?envF) (HF:=[.cells [.i 0,.i 0]]) [(.t (vT' 97),false),(.t (vT' 97),false),(.t (prT (vT' 97)),false),(.t (arT (vT' 97) (prT (vT' 97))),false),(.t (oneT [T.i 6,T.i 0,T.i 0,T.i 0,T.s [],.sl 6 [vT' 97,prT (vT' 97)]]),false),(.tup [.t (.ag [T.i 0,T.i 0]),.i 0],false),(.tup [.t (.ag [T.i 0,T.i 0]),.i 0],false),(.t (.ag [T.i 0,T.i 0]),false),(.i 0,false),(.ref 0 0,true),(.any,true),(.i 0,false)] [[],[.cells [.i 0,.i 0]],[.cells [.i 0,.i 0]]] hmix ?hB ?h0 ?hp ?hF ?hE ?hK
 case hB=>(dsimp only[List.map];decide +kernel)
 case h0=>exact rfl
 case hF=>exact rfl
 case hE=>exact rfl
 case hp=>
  repeat' (first|(apply TO.alloc zam;(iterate 3 exact rfl))|(apply TO.store zam;(iterate 6 exact rfl);exact lb;exact rfl;exact lb;exact rfl)|refine wkt ?_|refine wv v1 ?_|refine wv v2 ?_|refine wv p1 ?_|refine wv p2 ?_|refine wv a1 ?_|refine wv a2 ?_|refine wv n0 ?_|refine wv n1 ?_|refine wv n2 ?_|refine wv c0 ?_|refine wv c1 ?_|refine wv c2 ?_|refine wv l0 ?_|refine wv o1 ?_|refine wv o2 ?_|refine wv s1 ?_|exact trivial|exact And.intro rfl rfl|refine And.intro (fun H env=>?_) ?_|refine And.intro (fun env=>?_) ?_|refine wk ?_|fail)
  done
 case hK=>
 repeat' (first|refine wEqW ?_|refine rg [.t (vT' 97),.t (prT (vT' 97)),.t (oneT [T.i 5,T.i 0,T.i 0,T.i 0,T.s [],.sl 6 [vT' 97]]),.t (vT' 97),.t (vT' 120),.t (arT (vT' 97) (vT' 120)),.tup [.b false,.i 0],.tup [.b false,.i 0],.b false,.i 0,.b false,.i 0] ?_ ?_|refine wkt ?_|refine wv v1 ?_|refine wv v2 ?_|refine wv p1 ?_|refine wv p2 ?_|refine wv a1 ?_|refine wv a2 ?_|refine wv n0 ?_|refine wv n1 ?_|refine wv n2 ?_|refine wv c0 ?_|refine wv c1 ?_|refine wv c2 ?_|refine wv l0 ?_|refine wv o1 ?_|refine wv o2 ?_|refine wv s1 ?_|exact trivial|exact And.intro rfl rfl|refine And.intro (fun H env=>?_) ?_|refine wk ?_|exact wkc|intro hc|refine wk2 ?_ ?_|fail)
 all_goals exact wkr
theorem zpM{p:Prog}(hP:zlM p)(node:I64):(zcb p node).1.length≤1000000000:=by
 unfold zcb
 split
 ·simp
 ·split
  ·simp
  ·split
   ·rename_i n hn
    have hN:=hP.each n (List.mem_of_getElem? hn)
    have h1:=hN.ins
    have h2:=hN.outs
    have h3:=hN.locals
    have:=zid (zaJ n) (zao n)
    unfold zd7 at this
    refine Nat.le_trans this ?_
    simp[zao];omega
   ·simp
theorem zjU:∀(l:List Nod) (i:Nat),i+l.length≤1000000000->(∀n∈l,n.eqs.length≤1000000000)->Rg (zbV i l).1.1/\Rg (zbV i l).1.2
 | [],_,_,_=>by unfold zbV Rg;decide
 | n::l,i,hi,h=>by
   simp only[List.length_cons]at hi
   rw[zbV]
   split
   ·exact zjU l (i+1) (by omega) fun y hy=>h y (by simp[hy])
   ·have h1:=h n (by simp)
    have h2:=zeV (zjb (zao n)) n.eqs
    refine⟨by unfold Rg;simp only;omega,?_⟩
    unfold zdk Rg
    split
    ·dsimp only;omega
    ·split
     ·dsimp only;omega
     ·split
      ·dsimp only;omega
      ·dsimp only;omega
theorem zo4{p:Prog}(hl:p.nodes.length≤1000000000)(hE:∀n∈p.nodes,n.eqs.length≤1000000000):Rg (zaF p).1.1/\Rg (zaF p).1.2:=by
 unfold zaF
 split
 ·unfold Rg;simp only;omega
 ·split
  ·exact zqJ hl hE
  ·exact zjU _ 0 (by omega) hE
theorem zr5(n:Nod)(h:n.eqs.length≤1000000000):Rg (zdR n).1:=by
 unfold zdR Rg
 split
 ·have:=List.findIdx_le_length (p:=fun u:Equ=>misX (zaJ n) u.right) (xs:=n.eqs)
  simp only;omega
 ·simp only;omega
theorem zmq:∀(l:List Nod) (i:Nat),i+l.length≤1000000000->(∀n∈l,n.eqs.length≤1000000000)->Rg (zdh i l).1.1/\Rg (zdh i l).1.2
 | [],_,_,_=>by unfold zdh Rg;decide
 | n::l,i,h,hn=>by
   simp only[List.length_cons]at h
   rw[zdh]
   split
   ·exact⟨by unfold Rg;simp only;omega,zr5 n (hn n (by simp))⟩
   ·exact zmq l (i+1) (by omega) fun m hm=>hn m (by simp[hm])
set_option maxHeartbeats 4000000 in
theorem zhy (p:Prog) (hw:(T.ag (zav p)).w≤100000000):Pure Tryz.prog 3 [.t (.ag (zav p))] (.b true):=by
 have h0:=ziT
 have hh:=zfR p hw
 have hs:=zcX p hw
 have hr:=zk5 p hw
 obtain⟨hP,hln,hpl⟩:=zbr hw
 have hne:∀n∈p.nodes,n.eqs.length≤1000000000:=fun n hn=>by
  have h1:=hln n hn
  have h2:=zdJ n
  have:=zaq equT 7 n.eqs
  omega
 have hrg:Rg (zbk p).1.1/\Rg (zbk p).1.2:=by
  unfold zbk
  split
  ·exact zo4 (by omega) hne
  ·exact zmq _ _ (by omega) hne
 obtain⟨g1,g2⟩:=hrg
 generalize zkn p=hv at*
 generalize zbk p=z at*
 obtain⟨⟨z1,z2⟩,z3⟩:=z
 unfold Rg at g1 g2
 simp only at hs hr g1 g2
 have hpc:zav p=[.sl 2 (p.enums.map enT),zag p.nodes]:=rfl
 rw[hpc]at*
 cases hv
 all_goals
  refine so Tryz.func3 ?_
  repeat' (first|refine wEqW ?_|refine wkt ?_|refine wka ?_|refine wv hh ?_|refine wv h0 ?_|refine wv hs ?_|refine wv hr ?_|refine wk ?_|exact wkc|intro hc|refine wk2 ?_ ?_|fail)
  all_goals first
   | exact wkr
   | (exfalso;omega)
set_option maxHeartbeats 4000000 in
theorem zjd (p:Prog) (hw:(T.ag (zav p)).w≤100000000) (node:I64) (x:Ex) (hx1:wEx x≤100000000) (hx2:∀y∈flat x,y.name.length≤1000000000):
  Pure Tryz.prog 4 [.t (.ag (zav p)),.i node.1,.t (.ag (exC x))] (.b true):=by
 have h0:=ziT
 have hh:=zfR p hw
 have hwg:=zdw _ x (Nat.le_refl _) 201 (by omega) (by omega)
 have o1:=zfu p hw node
 have o2:=zgY p hw node
 have o3:=zeF p hw node x (by omega) hx2
 have o4:=zla p hw node x (by omega)
 have hs:=zhV (zcb p node).1 (zcb p node).1 (zpM (zbr hw).1 node)
 rw[decide_eq_true rfl]at hs
 generalize zkn p=hv at*
 generalize zcb p node=r at*
 generalize zcN p node x=q at*
 obtain⟨r1,r2⟩:=r
 obtain⟨q1,q2⟩:=q
 simp only at o1 o2 o3 o4 hs
 generalize min (wEx x) 201=wx at*
 have hpc:zav p=[.sl 2 (p.enums.map enT),zag p.nodes]:=rfl
 have hxc:exC x=[T.n x.kind,T.n x.op,T.n x.t,T.n x.v,.s x.name,.sl 6 (x.args.map exT)]:=rfl
 rw[hpc,hxc]at*
 cases hv <;> cases q1
 all_goals
  refine so Tryz.func4 ?_
  repeat' (first|refine wkt ?_|refine wka ?_|refine wv hh ?_|refine wv h0 ?_|refine wv hwg ?_|refine wv o1 ?_|refine wv o2 ?_|refine wv o3 ?_|refine wv o4 ?_|refine wv hs ?_|refine wk ?_|exact wkc|intro hc|refine wk2 ?_ ?_|fail)
  all_goals first
   | exact wkr
   | (exfalso;omega)
end Go.Proofs.YtcbhlhmebbkgnaaGreat
