import Derived.Test.YtdicfgideclbdaaGreatDoorAk29
import Derived.Test.YtdicfgideclbdaaGreatDoorAk30
import Derived.Test.YtdicfgideclbdaaGreatDoorAk38
set_option maxHeartbeats 64000000
set_option linter.all false
namespace Go.Proofs.YtdicfgideclbdaaGreatDoor
open Go Go.TL
attribute [local irreducible] TR TO Then zaj RetK Sound zac Kf GG zaQ
variable {es:List En}{cargs:List SV}{x e:Ex}{d:Decl}{q:Equ}{l:List Decl}{level:Nat}{word:Str}{p:Prog}
abbrev glH (a:Bool)(b:Blk)(es:List En)(l:Str):Heap:=[b,symB,.cells [.t (ensT es),.mp 1,bif a then .tref lnT 4 2 2 else .t (.v (.pointer none)),.rw 3 l.length],.row 5 (za6 l)]
theorem zuy(a:Bool)(b:Blk)(es:List En)(l:Str):Hands (glH a b es l) [1,2,3] (lnH a es l):=by
 cases a
 all_goals
  refine⟨oB,oC,rfl,fun j i c hj hc=>?_,fun j c hc=>?_⟩
  ·rcases j with _|_|_|j
   ·simp[lnH]at hj hc;subst hj hc;rfl
   ·simp[lnH]at hj hc;subst hj hc;rfl
   ·simp[lnH]at hj hc;subst hj hc;rfl
   ·simp at hj
  ·rcases j with _|_|_|j
   ·simp[lnH]at hc;subst hc;rfl
   ·simp[lnH]at hc;subst hc;rfl
   ·simp[lnH]at hc;subst hc;rfl
   ·simp[lnH]at hc
section rules
variable {n:Nat}{env:Env}{H:Heap}{K:TK}{all:Array Oper}{rest:List Oper}{d:Nat}{ty:TypeId}{pos:String}{aft:Array Edge}
theorem TO.lnC{a:Bool}{b:Blk}{t t':Str}{fid:FuncId}{vs:List SV}{f:Operand}{args:Array Operand}{ts:Array TypeId}(hs:Sound Tryz.prog fid (.tref lnT 4 1 0::cargs) (lnH a es t) (fun r H'=>r= .ret (.tup [])/\H'=ln1 es t'))(hd:Nat.ble (d+1) n=true)(hf:env.val f=some (.fn fid []))(ha:env.vals args.toList=some vs)
  (hl:Les (vs++[]) (rens (names [1,2,3] 4) (.tref lnT 4 1 0::cargs)))(hu:unders 3 (.tref lnT 4 1 0::cargs)=true)
  (k:TO false Tryz.prog n all rest ((d,.tup [])::env) (glH true b es t') K):
  TO false Tryz.prog n all (⟨some d,.call { callee:=.value f,args:=args,argTypes:=ts },ty,pos,aft,none⟩::rest) env (glH a b es t) K:=
 TO.zcm [1,2,3] (v':=.tup []) (H':=glH true b es t') hs hd hf ha hl (by cases a <;> exact hu) (zuy a b es t) rfl (by cases a <;> rfl) k
theorem TO.boxT{t:TypeId}{x:Operand}{v:SV}{cs:List SV}(hd:Nat.ble (d+1) n=true)(hx:env.val x=some v)(hv:v.solid=true)(hc:v.cells=cs)
  (k:TO false Tryz.prog n all rest ((d,.tref t cs.length H.length 0)::env) (H++[.cells cs]) K):TO false Tryz.prog n all (⟨some d,.box t x,ty,pos,aft,none⟩::rest) env H K:=
 TO.eff hd (fun m ac h1 h2 h3=>by
  obtain⟨g1,g0,g2⟩:=(h3.val hx).cells hv;rw[hc]at g1 g2;obtain⟨s,hm'⟩:=zcw h2 cs (ac.eval x).cells t oA g0 g2;have hsz:(ac.eval x).cells.size=cs.length:=oA
  refine⟨.pointer (some ⟨m.w.heap.size,0,none⟩),_,?_,s,hm',by rw[h1],?_⟩
  ·simp[execOp,Instr.box,newVar,newRow]
  ·rw[<-h1]
   exact SRel.tref (m:=⟨m.A,m.β++[⟨m.w.heap.size,0,(ac.eval x).cells.size⟩],m.H++[.cells cs],m.w.alloc (.cells (ac.eval x).cells t)⟩) t cs.length m.H.length 0 ⟨m.w.heap.size,0,(ac.eval x).cells.size⟩
    (by simp[h2.len]) (by intro q;simp[tlOf]) rfl (by rw[<-hsz];exact World.shape?_alloc_at _ _ _ rfl)) k
end rules
theorem zdM (p:Prog) (hw:(T.ag (zbr p)).w≤1000000000) (h0:(zaX p).2=0->ShPr p):Pure Tryz.prog 11 [.t (.ag (zbr p))] (.tup [.s (zgJ p).1,.i (zgJ p).2]):=by
 have hsh:=zeX p hw;unfold zgJ;by_cases hz:(zaX p).2=0
 ·rw[oG hz];rw[hz]at hsh;have hp:=h0 hz;have hbl:=hp.len;have hbl0:=hp.len;unfold zeU at hbl;rw[qab]at hbl;have hpe:zeU p=zai zex p.enums++zai (zbz p.enums) p.nodes:=rfl;rw[hpe]at hbl0;rw[hpe];clear hpe;have hfe:=hp.fewE;have hfn:=hp.fewN;have hm1:(p.enums.map enT).length=p.enums.length:=qac _;have hm2:(p.nodes.map nodT).length=p.nodes.length:=qac _;unfold zbr at*;generalize (zaX p).1=x1 at*;refine so Tryz.func11 ?_;repeat' (first|refine wkt ?_|refine wv hsh ?_|(apply TO.newW;(iterate 3 exact rfl))|(apply TO.boxT (t:=lnT);(iterate 4 exact rfl))|exact wkc|refine wk2 ?_ ?_|intro hc)
  clear hsh;apply TR.zgb 5 2 3
  ·exact rfl
  ·exact rfl
  ·exact rfl
  repeat' (first|refine wkt ?_|exact wkc|refine wk2 ?_ ?_|intro hc)
  refine TR.zaz p.enums.length (fun _=>True) (fun j=>[(1,.cp [.sl 2 (p.enums.map enT),zb0 p.nodes] 0),(6,.tref lnT 4 2 0),(25,.t (.sl 2 (p.enums.map enT))),(26,.i p.enums.length),(27,.i j)]) (fun j=>glH (!Nat.beq j 0) (.cells [.t (ensT p.enums),.mp 1]) p.enums (zai zex (p.enums.take j))) trivial (fun j hlt _=>?_) (fun _=>?_) ⟨rfl,rfl,rfl,by rw[<-hm1];rfl,rfl,trivial⟩ rfl
  ·have hx:(p.enums.map enT)[j]?=some (.ag [.s p.enums[j].name,.sl 1 (p.enums[j].tags.map T.s)]):=zbc enT hlt;have htk:=zbg hlt;have hfl:=zce zex p.enums (j+1);rw[htk,zaP,qab]at hfl;have hj1:zai zex (p.enums.take (j+1))=zai zex (p.enums.take j)++zex p.enums[j]:=by rw[htk,zaP]
   have hu:=hp.enums _ (qak hlt);have hnl:=hu.name;have hjl:=hu.len;have hjn:=zcx p.enums[j].tags [32,124,32] (qax hu.few oB) (qax hjl oB);have hee:zex p.enums[j]=za2 0 ([116,121,112,101,32]++p.enums[j].name++[32,61,32]++Go.Lib.join p.enums[j].tags [32,124,32]++[59]):=rfl;have hadd:=zcs (!Nat.beq j 0) p.enums (zai zex (p.enums.take j)) ([116,121,112,101,32]++p.enums[j].name++[32,61,32]++Go.Lib.join p.enums[j].tags [32,124,32]++[59]) 0 oB (by rw[<-hee];omega);rw[<-hee]at hadd;clear hee hu;have hms:(p.enums[j].tags.map T.s).length=p.enums[j].tags.length:=qac _;generalize zex p.enums[j]=ln at*;generalize zai zex (p.enums.take j)=acc at*;generalize Go.Lib.join p.enums[j].tags [32,124,32]=jn at*;generalize p.enums[j]=u at*;have hbj:(!Nat.beq (j+1) 0)=true:=rfl;generalize (!Nat.beq j 0)=a at*;repeat' (first|refine wkt ?_|refine zqg ?_|exact wkc|refine wk2 ?_ ?_|intro hc)
   apply TR.zfC (envF:=_) (HF:=glH true (.cells [.t (ensT p.enums),.mp 1]) p.enums (acc++ln)) [(_,false),(_,false),(_,false),(_,false),(_,false),(_,false),(_,false),(_,false),(_,false),(_,false),(_,true)] [glH a (.cells [.t (ensT p.enums),.mp 1]) p.enums acc,glH true (.cells [.t (ensT p.enums),.mp 1]) p.enums (acc++ln)] hmix
   case hB=>(dsimp only[List.map];decide +kernel)
   case h0=>exact rfl
   case hF=>exact rfl
   case hp=>
    repeat' (first|(refine qav (fun H hH env=>?_) ?_;rcases znK hH with rfl|rfl)|refine qav (fun env=>?_) ?_|refine wma ?_|refine wmv hjn ?_|(apply TO.lnC hadd;(iterate 3 exact rfl);exact Les.refl _;exact rfl)|(apply TO.cat;(iterate 3 exact rfl);exact zqe)|exact trivial|exact qav rfl rfl|refine wmk ?_|fail)
    done
   case hE=>exact rfl
   case hK=>
    refine ya ?_;exact zac.zaH hlt trivial (by(try dsimp only);exact⟨rfl,rfl,rfl,rfl,rfl,trivial⟩) (by(try dsimp only);rw[hj1,hbj])
  rw[qap];repeat' (first|refine wkt ?_|refine zac.exit ?_|exact wkc|refine wk2 ?_ ?_|intro hc)
  generalize zai zex p.enums=t0 at*;generalize (!Nat.beq p.enums.length 0)=a0 at*;refine TR.zaz p.nodes.length (fun _=>True) (fun j=>[(1,.cp [.sl 2 (p.enums.map enT),zb0 p.nodes] 0),(6,.tref lnT 4 2 0),(44,.t (zb0 p.nodes)),(45,.i p.nodes.length),(46,.i j)]) (fun j=>glH (a0 || !Nat.beq j 0) (.cells [.t (ensT p.enums),.mp 1]) p.enums (t0++zai (zbz p.enums) (p.nodes.take j))) trivial (fun j hlt _=>?_) (fun _=>?_) ⟨rfl,rfl,rfl,by rw[<-hm2];rfl,rfl,trivial⟩ (by simp[zai])
  ·have hx:=zou hlt;have htk:=zbg hlt;have hfl:=zce (zbz p.enums) p.nodes (j+1);rw[htk,zaP,qab]at hfl;have hj1:t0++zai (zbz p.enums) (p.nodes.take (j+1))=t0++zai (zbz p.enums) (p.nodes.take j)++zbz p.enums p.nodes[j]:=by rw[htk,zaP,qay]
   have hs:=znQ hp.es hp.ty (a0 || !Nat.beq j 0) (t0++zai (zbz p.enums) (p.nodes.take j)) _ (hp.nodes _ (qak hlt)) (by
    rw[qab];omega)
   have hbj:(a0 || !Nat.beq (j+1) 0)=true:=by cases a0 <;> rfl
   generalize (a0 || !Nat.beq j 0)=a at*;generalize t0++zai (zbz p.enums) (p.nodes.take j)=acc at*;generalize zbz p.enums p.nodes[j]=ln at*;generalize p.nodes[j]=n at*;rw[show nodT n= .ag (nodC n) from rfl]at hs;unfold nodC at hx hs;repeat' (first|refine wkt ?_|refine zqg ?_|(apply TO.lnC hs;(iterate 3 exact rfl);exact Les.refl _;exact rfl)|exact wkc|refine wk2 ?_ ?_|refine wk ?_|intro hc)
   exact zac.zaH hlt trivial (by(try dsimp only);exact⟨rfl,rfl,rfl,rfl,rfl,trivial⟩) (by(try dsimp only);rw[hj1,hbj])
  ·rw[qap];have hS:=zt7 (glH (a0 || !Nat.beq p.nodes.length 0) (.cells [.t (ensT p.enums),.mp 1]) p.enums (t0++zai (zbz p.enums) p.nodes)) 2 3 2 _ (t0++zai (zbz p.enums) p.nodes) hbl0 rfl rfl rfl;generalize t0++zai (zbz p.enums) p.nodes=tx at*;repeat' (first|(intro v H' h;cases h;done)|(intro v H' h;cases h)|refine wkt ?_|refine zac.exit ?_|exact wkc|refine wk2 ?_ ?_|(apply TO.zfs hS;(iterate 3 exact rfl);exact⟨Le.refl _,trivial⟩)|refine wk ?_|intro hc)
   all_goals exact wkr
 ·rw[oH hz];generalize zaX p=x at*;unfold zbr at*;refine so Tryz.func11 ?_;refine yb hsh ?_;exact wkr
theorem zlJ(h:zbi es e=0):wEx e≤400/\∀x∈flat e,oneX x=0:=by
 unfold zbi at h;split at h
 ·rename_i hc;unfold zeC at hc;split at hc
  ·cases hc
  ·rename_i hd;exact⟨oA,zab hc⟩
 ·rename_i hc;exact oI h hc
theorem zuP(h:oneX x=0):x.name=[]\/ident x.name=true\/(zez x.name).2=0:=by
 unfold oneX oneI at h;split at h
 ·cases h
 split at h
 ·cases h
 split at h
 ·split at h
  ·exact .inr (.inl oE)
  ·cases h
 split at h
 ·rename_i hw;exact .inr (.inr hw.2)
 split at h
 ·cases h
 ·rename_i hn;exact .inl (qaA fun hh=>hn (.inl hh))
theorem zsL(h:oneX x=0):x.name.length≤66:=by
 rcases zuP h with h|h|h
 ·rw[h];exact qaM _
 ·exact qax (zaN h).1 oB
 ·unfold zez at h;split at h
  ·cases h
  ·omega
theorem zfu(h:zbi es e=0):ShOk e/\wEx e≤400:=ztd h fun x hx=>qax (zsL ((zlJ h).2 x hx)) oB
theorem zpF(h:OkD es d):ShD d:=⟨qax (zaN h.name).1 oB,qax h.few oB,fun o ho=>qax (zaN (h.ck o ho)).1 oB⟩
theorem zwG(h:OkQ es q):ShQ q:=⟨(zfu h.right).1,(zfu h.right).2,qax h.few oB,fun o ho=>qax (zaN (h.left o ho)).1 oB⟩
theorem ztf{n:Nat}{t:Tran}(h:OkT es n t):ShTr n t:=⟨(zfu h.cond).1,(zfu h.cond).2,h.tgt⟩
theorem ztc{es:List En}:∀(m:Nat) (a:Auto),OkA es m a->ShAu m a
 | 0,_,h=>h
 | m+1,a,h=>⟨qax h.1 oB,fun s hs=>by
   obtain⟨f1,f2,f3,f4,f5,f6,f7⟩:=h.2 s hs;exact⟨qax (zaN f1).1 oB,fun d hd=>zpF (f3 d hd),oA,fun d hd=>zwG (f4 d hd),oA,fun d hd=>ztc m d (f5 d hd),oA,fun d hd=>ztf (f6 d hd),oA,fun d hd=>ztf (f7 d hd),oA⟩⟩
theorem zyl{n:Nod}(h:OkN es n):ShNo n:=by
 obtain⟨f1,f2,f3,f4,f5,f6,f7,f8,f9⟩:=h;exact⟨qax (zaN f1).1 oB,fun d hd=>zpF (f3 d hd),oA,fun d hd=>zpF (f4 d hd),oA,fun d hd=>zpF (f5 d hd),oA,fun d hd=>zwG (f6 d hd),oA,fun d hd=>ztc 3 d (f7 d hd),oA,fun d hd=>zfu (f8 d hd),oA,fun d hd=>zfu (f9 d hd),oA⟩
structure OkE (es:List En):Prop where
 few:es.length≤24
 all:∀u∈es,OkU u
theorem OkE.sh(h:OkE es):ShE es:=⟨qax h.few oB,fun u hu=>qax (h.all u hu).few oB,fun u hu t ht=>qax (zaN ((h.all u hu).tags t ht)).1 oB⟩
theorem zrT(h:OkE es)(t:Int):(zaL es t).1.name=[]\/ident (zaL es t).1.name=true:=by
 unfold zaL;split
 ·rename_i hc;cases hq:es[(t-3).toNat]? with
  | none=>exact .inl (by simp_all)
  | some u=>exact .inr (by simpa [hq]using (h.all u (qau hq)).name)
 ·exact .inl rfl
theorem zpg(h:OkE es)(t:Int):(zdn es t).1.length≤40:=by
 unfold zdn;split
 ·decide
 split
 ·decide
 ·rcases zrT h t with hh|hh
  ·rw[hh];exact qaM _
  ·exact(zaN hh).1
theorem ztO(h:OkE es)(t v:I64):(valS es t.1 v.1).length≤66+30:=by
 unfold valS zji;split
 ·exact qaM _
 split
 ·exact qaM _
 split
 ·split
  ·exact leB
  ·exact leB
 split
 ·have:=zo4 v
  dsimp only;omega
 ·dsimp only;rename_i h1 h2 h3 h4;cases hx:(zaL es t.1).1.tags[v.1.toNat]? with
  | none=>exact qaM _
  | some g=>
    have hg:=qau hx;obtain⟨g1,g2,g3,g4⟩:=zh5 (by simpa using h1) h3 h4;rw[g4]at hg
    have:=(zaN ((h.all _ (qak g3)).tags g hg)).1
    simp only[qbm];omega
theorem zcR{α:Type}{g:α->Str}{f:α->T}{sz c:Nat}:∀ {l:List α},(∀x∈l,(g x).length≤c*(f x).w)->(zai g l).length≤c*((l.map f).map T.w).sum
 | [],_=>qaM _
 | x::l,h=>by
   have h1:=h x (qah ..);have h2:=zcR (sz:=sz) (f:=f) (g:=g) (c:=c) (l:=l) fun y hy=>h y (qai _ hy)
   have:zai g (x::l)=g x++zai g l:=by simp[zai]
   rw[this,qab,qaf,qaf,qaG,Nat.mul_add];omega
theorem zo7{α:Type}{g:α->Str}{f:α->T}{c:Nat}(sep:Str){l:List α}(h:∀x∈l,(g x).length+sep.length≤c*(f x).w):(Go.Lib.join (l.map g) sep).length≤c*((l.map f).map T.w).sum:=by
 refine qax (zkB sep _) ?_
 induction l with
 | nil=>exact qaM _
 | cons x l ih=>
   have h1:=h x (qah ..);have h2:=ih fun y hy=>h y (qai _ hy)
   simp only[qaf,qaG,Nat.mul_add]at h2⊢;omega
theorem zda(level:Nat)(s:Str):(za2 level s).length=2*level+s.length+1:=by
 have:=Go.Lib.repeatL_length [32,32] level
 simp only[za2,qab,qae,qal]at this⊢;omega
theorem zyj(h:OkE es)(he:zbi es e=0):(shF es 400 e).length+106≤364*(exT e).w:=by
 have h1:=zkT (N:=66) (ztO h) 400 e (zfu he).1 fun x hx=>zsL ((zlJ he).2 x hx)
 have h2:=zj5 e
 have:wEx e*(4*66+100)=364*wEx e:=oA
 omega
theorem zxl(h:OkE es)(hd:OkD es d):(zcc es d).length+2≤400*(zak d).w:=by
 have h1:=(zaN hd.name).1;have h2:=zpg h d.ty.1;have h3:=zmV (T.n d.ty)
 have h4:(zfO es d.clock).length≤400*((d.clock.map onT).map T.w).sum:=zo7 [32] fun o ho=>by
  have a1:=(zaN (hd.ck o ho)).1;have a2:=ztO h o.t o.tag;have a3:=zmV (onT o);exact zweo
 rw[show zak d= .ag [.s d.name,T.n d.ty,.sl 3 (d.clock.map onT)] from rfl,w_ag];simp only[qaf,qaD,qaG,qa9,w_sl];exact zwbj
theorem zkh(h:OkE es)(hd:∀d∈l,OkD es d):(zcd es l).length≤400*((l.map zak).map T.w).sum:=zo7 [59,32] fun d hh=>zxl h (hd d hh)
theorem zl7(h:OkE es)(hv:level≤7)(hd:∀d∈l,OkD es d):(zb4 es level l).length≤400*(T.sl 3 (l.map zak)).w:=by
 have h1:=zkh h hd;rw[w_sl];unfold zb4;split
 ·rw[zda];exact zwey
 ·exact qaM _
theorem zvN(h:OkE es)(hv:level≤7)(hq:OkQ es q):(zcn es level q).length≤400*(equT q).w:=by
 have h1:=zyj h hq.right
 have h2:(Go.Lib.join q.left [44,32]).length≤400*((q.left.map T.s).map T.w).sum:=by
  have:=zo7 (g:=fun s=>s) (f:=T.s) (c:=400) [44,32] (l:=q.left) fun x hx=>by
   have:=(zaN (hq.left x hx)).1
   exact zwes
  simpa using this
 rw[zan,w_ag]at h1;rw[show equT q= .ag (.sl 1 (q.left.map T.s)::exC q.right) from rfl,w_ag,qaf,qaG,w_sl];unfold zcn lhsS;rw[zda];split
 ·exact zwey
 ·exact zwey
theorem ztH(h:OkE es)(hv:level≤7)(hw:word.length≤6){sts:List Sta}(hs:∀s∈sts,ident s.name=true){q:Tran}(hq:OkT es sts.length q):(zc2 es level word sts q).length≤400*(zaA q).w:=by
 have h1:=zyj h hq.cond;have h2:(kwS q.resume).length≤10:=by unfold kwS;split <;> decide
 have h3:(((sts[q.to.1.toNat]?).map Sta.name).getD []).length≤40:=by
  cases hx:sts[q.to.1.toNat]? with
  | none=>exact qaM _
  | some s=>exact(zaN (hs s (qau hx))).1
 rw[zan,w_ag]at h1;simp only[exC,qaf,qaD,qaG,qa9]at h1;have h4:=zmV (T.b q.resume);rw[show zaA q= .ag [T.n q.cond.kind,T.n q.cond.op,T.n q.cond.t,T.n q.cond.v,.s q.cond.name,.sl 6 (q.cond.args.map exT),T.n q.to,.b q.resume] from rfl,w_ag];simp only[qaf,qaD,qaG,qa9];unfold zc2;exact zwdz
theorem zoH(h:OkE es)(hw:word.length≤6)(he:zbi es e=0):(zaI es word e).length≤400*(exT e).w:=by
 have h1:=zyj h he;unfold zaI;exact zwdz
theorem zrk{es:List En}(h:OkE es):∀(m level:Nat) (a:Auto),level+2*m≤7->OkA es m a->(zaT es m level a).length≤400*(zam a).w
 | 0,_,_,_,ha=>ha.elim
 | m+1,level,a,hv,ha=>by
   have hst:=ha.2
   have h1:(zai (staS es (zaT es m) level a.states) a.states).length≤400*((a.states.map staT).map T.w).sum:=zcR (sz:=6) fun s hs=>by
    obtain⟨f1,f2,f3,f4,f5,f6,f7⟩:=hst s hs;have hnm:∀s∈a.states,ident s.name=true:=fun s hs=>(hst s hs).name
    have a1:=(zaN f1).1;have a2:=zl7 h (level:=level+2) oA f3;have a3:(zai (zcn es (level+2)) s.eqs).length≤400*((s.eqs.map equT).map T.w).sum:=zcR (sz:=7) fun q hq=>zvN h oA (f4 q hq)
    have a4:(zai (zaT es m (level+2)) s.autos).length≤400*((s.autos.map zam).map T.w).sum:=zcR (sz:=1) fun q hq=>zrk h m (level+2) q oA (f5 q hq)
    have a5:(zai (zc2 es (level+2) [117,110,108,101,115,115] a.states) s.unl).length≤400*((s.unl.map zaA).map T.w).sum:=zcR (sz:=8) fun q hq=>ztH h oA oB hnm (f6 q hq)
    have a6:(zai (zc2 es (level+2) [117,110,116,105,108] a.states) s.unt).length≤400*((s.unt.map zaA).map T.w).sum:=zcR (sz:=8) fun q hq=>ztH h oA oB hnm (f7 q hq)
    have a7:=zmV (T.s s.name);rw[zdf,w_ag];simp only[qaf,qaD,qaG,qa9,w_sl]at a2⊢;simp only[staS,qab,zda,qae,qal];omega
   rw[zd6,w_ag];simp only[qaf,qaD,qaG,qa9,w_sl];simp only[zaT,qab,zda,qae,qal];omega
theorem zxT(h:OkE es){n:Nod}(hn:OkN es n):(zbz es n).length≤400*(nodT n).w:=by
 obtain⟨f1,f2,f3,f4,f5,f6,f7,f8,f9⟩:=hn;have a1:=(zaN f1).1;have a2:=zkh h f3;have a3:=zkh h f4;have a4:=zl7 h (level:=1) oB f5;have a5:(zai (zcn es 1) n.eqs).length≤400*((n.eqs.map equT).map T.w).sum:=zcR (sz:=7) fun q hq=>zvN h oB (f6 q hq)
 have a6:(zai (zaT es 3 1) n.autos).length≤400*((n.autos.map zam).map T.w).sum:=zcR (sz:=1) fun q hq=>zrk h 3 1 q oB (f7 q hq)
 have a7:(zai (zaI es [97,115,115,117,109,101]) n.assume).length≤400*((n.assume.map exT).map T.w).sum:=zcR (sz:=6) fun q hq=>zoH h oB (f8 q hq)
 have a8:(zai (zaI es [101,110,115,117,114,101]) n.ensure).length≤400*((n.ensure.map exT).map T.w).sum:=zcR (sz:=6) fun q hq=>zoH h oB (f9 q hq)
 have a9:=zmV (T.s n.name);rw[show nodT n= .ag [.s n.name,.sl 3 (n.ins.map zak),.sl 3 (n.outs.map zak),.sl 3 (n.locals.map zak),.sl 7 (n.eqs.map equT),.sl 1 (n.autos.map zam),.sl 6 (n.assume.map exT),.sl 6 (n.ensure.map exT)] from rfl,w_ag];simp only[qaf,qaD,qaG,qa9,w_sl]at a4⊢;simp only[zbz,zhj,qab,zda,qae,qal];omega
theorem zxo{u:En}(hu:OkU u):(zex u).length≤400*(enT u).w:=by
 have a1:=(zaN hu.name).1
 have a2:(Go.Lib.join u.tags [32,124,32]).length≤400*((u.tags.map T.s).map T.w).sum:=by
  have:=zo7 (g:=fun s=>s) (f:=T.s) (c:=400) [32,124,32] (l:=u.tags) fun x hx=>by
   have:=(zaN (hu.tags x hx)).1
   exact zwes
  simpa using this
 rw[show enT u= .ag [.s u.name,.sl 1 (u.tags.map T.s)] from rfl,w_ag];simp only[qaf,qaD,qaG,qa9,w_sl];simp only[zex,qab,zda,qae,qal];omega
theorem zzG(h:OkP p):OkE p.enums:=⟨h.few.1,h.enums⟩
theorem zte(h:OkP p)(hw:(T.ag (zbr p)).w≤2200000):ShPr p:=by
 have hE:=zzG h;refine⟨hE.sh,fun t=>qax (zpg hE t) oB,fun u hu=>?_,qax h.few.1 oB,fun n hn=>zyl (h.nodes n hn),qax h.few.2 oB,?_⟩
 ·have hq:=h.enums u hu;exact⟨qax (zaN hq.name).1 oB,qax hq.few oB,fun t ht=>qax (zaN (hq.tags t ht)).1 oB⟩
 ·have a1:(zai zex p.enums).length≤400*((p.enums.map enT).map T.w).sum:=zcR (sz:=2) fun u hu=>zxo (h.enums u hu)
  have a2:(zai (zbz p.enums) p.nodes).length≤400*((p.nodes.map nodT).map T.w).sum:=zcR (sz:=8) fun u hu=>zxT hE (h.nodes u hu)
  rw[w_ag]at hw;simp only[zbr,zb0,qaf,qaD,qaG,qa9,w_sl]at hw;rw[show zeU p=zai zex p.enums++zai (zbz p.enums) p.nodes from rfl,qab];omega
def zsf(p:Prog):Bool:=decide (1500≤wgP 1500 p)
theorem zlW(p:Prog)(hw:(T.ag (zbr p)).w≤100000000):Pure Tryz.prog 5 [.t (.ag (zbr p))] (.b (zsf p)):=by
 have hs:=ztT p hw 1500 oA (qag _);unfold zsf;generalize wgP 1500 p=z at*;unfold zbr at*;by_cases h:1500≤z
 ·rw[decide_eq_true h];exact zwbp
 ·rw[decide_eq_false h];exact zwbp
mutual
def znv:Ex->List Ex
 | .mk k o t v n l=>.mk k o t v n l::zoZ l
def zoZ:List Ex->List Ex
 | []=>[]
 | a::l=>znv a++zoZ l
end
mutual
def depQ:Ex->Int
 | .mk _ _ _ _ _ l=>zum l 0+1
def zum:List Ex->Int->Int
 | [],a=>a
 | x::l,a=>zum l (max a (depQ x))
end
theorem zrs:∀(m:Nat) (e:Ex),wEx e≤m->flat e=znv e/\za1 e=depQ e
 | 0,e,h=>by have:=zcG e;omega
 | m+1,.mk k o t v n l,h=>by
   have ih:∀a∈l,flat a=znv a/\za1 a=depQ a:=fun a ha=>zrs m a (by have:=zcS (e:=.mk k o t v n l) (x:=a) ha;omega)
   have h1:∀l:List Ex,(∀a∈l,flat a=znv a)->flats l=zoZ l:=by
    intro l
    induction l with
    | nil=>intro _;rfl
    | cons a l ih=>intro h;rw[zoZ,<-ih fun b hb=>h b (by simp[hb]),<-h a oC];simp[flats]
   have h2:∀(l:List Ex) (x:Int),(∀a∈l,za1 a=depQ a)->(l.map za1).foldl max x=zum l x:=by
    intro l
    induction l with
    | nil=>intro x _;rfl
    | cons a l ih=>intro x h;rw[zum,qaf,qb0,ih _ fun b hb=>h b (by simp[hb]),h a oC]
   refine⟨?_,?_⟩
   ·rw[zb2,znv];exact oJ _ (h1 l fun a ha=>(ih a ha).1)
   ·rw[zgv,depQ];exact oJ (·+1) (h2 l 0 fun a ha=>(ih a ha).2)
theorem zoY(e:Ex):flat e=znv e:=(zrs _ e (qag _)).1
theorem zy4(e:Ex):za1 e=depQ e:=(zrs _ e (qag _)).2
theorem zyt(e:Ex):wEx e=(znv e).length:=by rw[<-zoY,zkp]
def aA:Ex:=.mk (i64 2) (i64 0) (i64 0) (i64 0) [97] []
def aNot:Ex:=.mk (i64 3) (i64 1) (i64 0) (i64 0) [] [aA]
def aN:Nod:=⟨[102],[⟨[97],i64 1,[]⟩],[⟨[98],i64 1,[]⟩],[],[⟨[[98]],aNot⟩],[],[],[]⟩
def aP:Prog:=⟨[],[aN]⟩
def aOne(v:Int)(h:-9223372036854775808≤v/\v≤9223372036854775807:=by decide):Ex:=.mk (i64 1) (i64 0) (i64 2) (i64 v h) [] []
def aMul:Ex:=.mk (i64 3) (i64 8) (i64 0) (i64 0) [] [aA,aOne (-2)]
def aAdd:Ex:=.mk (i64 3) (i64 6) (i64 0) (i64 0) [] [aOne 1,aMul]
def aCk:List OnC:=[⟨[97],i64 1,i64 1⟩,⟨[98],i64 2,i64 0⟩]
def tx1:Str:=[110,111,100,101,32,102,40,97,58,32,98,111,111,108,41,32,114,101,116,117,114,110,115,32,40,98,58,32,98,111,111,108,41,10,108,101,116,10,32,32,98,32,61,32,110,111,116,32,97,59,10,116,101,108,10]
def tx2:Str:=[49,32,43,32,40,97,32,42,32,40,45,50,41,41]
def tx3:Str:=[119,104,101,110,32,116,114,117,101,40,97,41,32,119,104,101,110,32,48,40,98,41]
theorem zw3:zaX aP=((0,0),0):=by
 delta zaX zcp equE zod zbi zeC
 simp only[zoY,zy4,zyt];decide +kernel
theorem zyE:zgJ aP=(tx1,0):=by
 unfold zgJ;rw[zw3]
 have:zeU aP=tx1:=by decide +kernel
 rw[this];rfl
theorem it1:Go.Lib.itoa 1=[49]:=by unfold Go.Lib.itoa;rw[oH oB,Go.Lib.decDigits];rfl
theorem it0:Go.Lib.itoa 0=[48]:=by unfold Go.Lib.itoa;rw[oH oB,Go.Lib.decDigits];rfl
theorem it2:Go.Lib.itoa (-2)=[45,50]:=by unfold Go.Lib.itoa;rw[oG oB,Go.Lib.decDigits];rfl
theorem zyD:ztg [] aAdd=(tx2,0):=by
 have h:zbi [] aAdd=0:=by
  delta zbi zeC
  simp only[zoY,zy4,zyt];decide +kernel
 have h1:valS [] 2 1=[49]:=it1;have h2:valS [] 2 (-2)=[45,50]:=it2
 have:shF [] 400 aAdd=valS [] 2 1++[32]++[43]++[32]++([40]++([97]++[32]++[42]++[32]++([40]++valS [] 2 (-2)++[41]))++[41]):=rfl
 unfold ztg;rw[oG h,this,h1,h2];rfl
theorem zw2:zmz [] aCk=(tx3,0):=by
 have h2:valS [] 2 0=[48]:=it0
 have:zfO [] aCk=tx3:=by
  show Go.Lib.join [[119,104,101,110,32]++valS [] 1 1++[40]++[97]++[41],[119,104,101,110,32]++valS [] 2 0++[40]++[98]++[41]] [32]=_;rw[h2];decide +kernel
 unfold zmz;rw[this];decide +kernel
theorem wvN{G Q:Prop}{f:FuncId}{v:SV}(hs:Pure Tryz.prog f cargs v)(k:Q)(h:Pure Tryz.prog f cargs v->Hold Q->G:=by
  intro hs k
  (apply zvA;exact hs;(iterate 3 exact rfl);(repeat' (first|exact trivial|exact Le.refl _|exact Le.nil _|refine qav ?_ ?_|refine Le.zAh rfl ?_|exact TLs.nil _|refine TLs.agL ?_|refine TLs.slL ?_|exact TLs.refl _|fail));exact rfl;exact rfl;exact k.p)):G:=h hs ⟨k⟩
theorem ztP(s:Str):Pure Tryz.prog 14 [.s s] (.t (.ag [T.i 2,T.i 0,T.i 0,T.i 0,T.s s,.sl 6 []])):=by
 refine so Tryz.func14 ?_;exact zwbb
theorem zsH(n:Int):Pure Tryz.prog 15 [.i n] (.t (.ag [T.i 1,T.i 0,T.i 2,T.i n,T.s [],.sl 6 []])):=by
 refine so Tryz.func15 ?_;exact zwbb
theorem aP_C:zbr aP=[.sl 2 [],.sl 8 [.ag [.s [102],.sl 3 [.ag [.s [97],T.i 1,.sl 3 []]],.sl 3 [.ag [.s [98],T.i 1,.sl 3 []]],.sl 3 [],.sl 7 [.ag [.sl 1 [.s [98]],T.i 3,T.i 1,T.i 0,T.i 0,.s [],.sl 6 [.ag [T.i 2,T.i 0,T.i 0,T.i 0,.s [97],.sl 6 []]]]],.sl 1 [],.sl 6 [],.sl 6 []]]]:=by
 show[T.sl 2 [],T.sl 8 [.ag [.s [102],.sl 3 [.ag [.s [97],T.i 1,.sl 3 []]],.sl 3 [.ag [.s [98],T.i 1,.sl 3 []]],.sl 3 [],.sl 7 [.ag [.sl 1 [.s [98]],T.i 3,T.i 1,T.i 0,T.i 0,.s [],.sl 6 [exT aA]]],.sl 1 [],.sl 6 [],.sl 6 []]]]=_;rw[zan];rfl
theorem zyC:exC aAdd=[T.i 3,T.i 6,T.i 0,T.i 0,.s [],.sl 6 [.ag [T.i 1,T.i 0,T.i 2,T.i 1,.s [],.sl 6 []],.ag [T.i 3,T.i 8,T.i 0,T.i 0,.s [],.sl 6 [.ag [T.i 2,T.i 0,T.i 0,T.i 0,.s [97],.sl 6 []],.ag [T.i 1,T.i 0,T.i 2,T.i (-2),.s [],.sl 6 []]]]]]:=by
 show[_,_,_,_,_,T.sl 6 [exT (aOne 1),exT aMul]]=_;rw[zan,zan,show exC aMul=[T.i 3,T.i 8,T.i 0,T.i 0,.s [],.sl 6 [exT aA,exT (aOne (-2))]] from rfl,zan,zan];rfl
theorem aP_w:(T.ag (zbr aP)).w≤2000:=by
 rw[aP_C];simp[w_ag,w_sl,T.w];decide +kernel
theorem zyL:Pure Tryz.prog 6 [] (.b true):=by
 have c1:=zdM aP (qax aP_w oB) fun h=>zte (zv6 h) (qax aP_w oB)
 rw[zyE,aP_C]at c1;have hE:ShE []:=⟨qaM _,fun u hu=>(by cases hu),fun u hu=>(by cases hu)⟩;have c2:=zn4 hE aAdd (by rw[zyt];decide) (by rw[zoY];decide);rw[zyD,zyC]at c2;have c3:=zn3 hE aCk oB oB;rw[zw2]at c3;have v1:=ztP [97];have n1:=zsH (-2);have n2:=zsH 1;refine so Tryz.func6 ?_;repeat' (first|refine wkb ?_|refine wv v1 ?_|refine wv n1 ?_|(apply TO.alloc zaf;(iterate 3 exact rfl))|refine wvN c1 ?_|exact wkc|refine wk2 ?_ ?_|(apply TO.want;exact rfl)|intro hc)
 trace_state
 apply rgS [_,_,_,_,_,_,_,_,_,_] (hE:=?hE)
 case hp=>
  repeat' (first|refine qav (fun env=>?_) ?_|refine wma ?_|refine wmv n2 ?_|refine wvN c2 ?_|exact trivial|exact⟨⟨rfl,rfl⟩,trivial⟩|refine wmk ?_|fail)
  done
 case hE=>exact rfl
 case hK=>
  repeat' (first|refine wu ?_|exact wkc|refine wk2 ?_ ?_|refine wvN c3 ?_|intro hc)
  exact wkr
theorem zvu(hw:(T.ag (zbr p)).w≤2200000)(h:(zaX p).2=0):ShPr p:=zte (zv6 h) hw
end Go.Proofs.YtdicfgideclbdaaGreatDoor
