import Derived.Test.YtjgmcnemcembmaaGreatDoorCards
import Derived.Test.YtjgmcnemcembmaaGreatDoorTie
import Derived.Deep.DeepHandedRow
import Derived.Lib.LaidTab
import Derived.Stop.LaidErr
import Derived.WalkKit
import Derived.ProofKit
import Derived.OpenShut
import Derived.Test.YtjgmcnemcembmaaGreatDoorPk33
import Derived.Test.YtjgmcnemcembmaaGreatDoorPk34
import Derived.Test.YtjgmcnemcembmaaGreatDoorPk35
set_option linter.unusedSimpArgs false
set_option linter.unusedVariables false
namespace Go.Proofs.YtjgmcnemcembmaaGreatDoor
open Go Go.TL
abbrev laidL:List (String×DataW Unit):=[("math/bits.deBruijn32tab",Rows.laid_math_bits_deBruijn32tab),("math/bits.deBruijn64tab",Rows.laid_math_bits_deBruijn64tab),("internal/strconv.uint64pow10",Rows.laid_internal_strconv_uint64pow10)]
def powL:List Int:=[1,10,100,1000,10000,100000,1000000,10000000,100000000,1000000000,10000000000,100000000000,1000000000000,10000000000000,100000000000000,1000000000000000,10000000000000000,100000000000000000,1000000000000000000,10000000000000000000]
theorem glob_laid{W:World}(h:laidMetH Tryz.prog laidL W):Glob (fun b _=>b<W.heap.size) W:=by
 have h1:laidMet Tryz.prog laidL W:=h
 have h2:laidMet Tryz.prog [("internal/strconv.uint64pow10",Lib.tabData .u64 powL)] W:=laidMet.tail (laidMet.tail h1)
 have h3:Lib.TabIs Tryz.prog W "internal/strconv.uint64pow10" .u64 powL:=Lib.tabIs_of_head (g:=gPow) (t:=205) (e:=168) (n:=20) (by kernel_rfl) (by kernel_rfl) Tryz.underlying205 Tryz.underlying168 (by kernel_rfl) (by kernel_rfl) h2
 unfold Lib.TabIs World.var? at h3
 rw[show Tryz.prog.globalNamed "internal/strconv.uint64pow10"=some gPow by kernel_rfl]at h3
 simp only[Option.bind_some]at h3
 intro b cs hb
 obtain⟨rfl,rfl⟩:=gtab_eq hb
 cases hq:W.heap[gPow]? with
 | none=>rw[hq]at h3;cases h3
 | some o=>
   rw[hq]at h3
   cases o with
   | cells c e f=>
     simp only[Option.some.injEq]at h3
     refine⟨fun _=>?_,e,f,?_⟩
     ·exact(Array.getElem?_eq_some_iff.1 hq).1
     ·rw[h3];rfl
   | _=>cases h3
def litV:DataW Unit->Value
 | .lit (.int k z)=>.int k z
 | _=>.bool false
def tabC:DataW Unit->Array Value
 | .agg l=>(l.map litV).toArray
 | _=>#[]
def tabO(d:DataW Unit):Obj->Obj
 | .cells _ t frozen=>.cells (tabC d) t frozen
 | o=>o
noncomputable def laidWorld (os:Os):World:=
 { World.holding Tryz.prog os ⟨#[],#[],[]⟩ with heap:=(((World.holding Tryz.prog os ⟨#[],#[],[]⟩).heap.modify 2 (tabO Rows.laid_math_bits_deBruijn32tab)).modify 3 (tabO Rows.laid_math_bits_deBruijn64tab)).modify gPow (tabO Rows.laid_internal_strconv_uint64pow10) }
end Go.Proofs.YtjgmcnemcembmaaGreatDoor
namespace Go.Proofs.YtjgmcnemcembmaaGreatDoor
open Go Go.TL
variable {H:Type}
theorem ens_in{d:DataW H}{y:T}(h:y=mkT (aggB Tryz.prog 22) y.cells/\∃n,TyD Tryz.prog n 22 d y.cells):∃l:List En,y= .sl 2 (l.map enT)/\(T.sl 2 (l.map enT)).w≤2*Rows.uptoBulk d:=by
 obtain⟨h1,n,h2⟩:=h
 obtain⟨l,hl⟩:=ty_sl enT Tryz.underlying22 cz_ens h2 (fun k hk d ts ht=>by
  obtain⟨u,hu⟩:=ty_en ht
  exact⟨u,by rw[agg_en,hu]⟩)
 have ha:aggB Tryz.prog 22=false:=by unfold aggB;rw[Tryz.underlying22]
 have:=tyD_w plainL tilesL n _ (by decide +kernel) d y.cells h2
 rw[ha,hl]at h1
 refine⟨l,h1,?_⟩
 rw[hl]at this
 simp only[List.map_cons,List.map_nil,List.sum_cons,List.sum_nil]at this
 omega
theorem cks_in{d:DataW H}{y:T}(h:y=mkT (aggB Tryz.prog 38) y.cells/\∃n,TyD Tryz.prog n 38 d y.cells):∃l:List OnC,y= .sl 3 (l.map onT)/\(T.sl 3 (l.map onT)).w≤2*Rows.uptoBulk d:=by
 obtain⟨h1,n,h2⟩:=h
 obtain⟨l,hl⟩:=ty_sl onT Tryz.underlying38 cz_ons h2 (fun k hk d ts ht=>by
  obtain⟨u,hu⟩:=ty_on ht
  exact⟨u,by rw[agg_on,hu];rfl⟩)
 have ha:aggB Tryz.prog 38=false:=by unfold aggB;rw[Tryz.underlying38]
 have:=tyD_w plainL tilesL n _ (by decide +kernel) d y.cells h2
 rw[ha,hl]at h1
 refine⟨l,h1,?_⟩
 rw[hl]at this
 simp only[List.map_cons,List.map_nil,List.sum_cons,List.sum_nil]at this
 omega
theorem exw_in{d:DataW H}{y:T}(h:y=mkT (aggB Tryz.prog 33) y.cells/\∃n,TyD Tryz.prog n 33 d y.cells):∃e:Ex,y= .ag (exC e)/\(T.ag (exC e)).w≤2*Rows.uptoBulk d:=by
 obtain⟨h1,n,h2⟩:=h
 obtain⟨e,he⟩:=ty_ex n n (Nat.le_refl _) _ _ h2
 have:=tyD_w plainL tilesL n _ (by decide +kernel) d y.cells h2
 rw[agg_ex,he]at h1
 refine⟨e,h1,?_⟩
 rw[he]at this
 rw[w_ag];omega
end Go.Proofs.YtjgmcnemcembmaaGreatDoor
namespace Go.Proofs.YtjgmcnemcembmaaGreatDoor
open Go Go.TL
attribute [local irreducible] TR TO Then InBlock RetK Sound LoopK Kf GG ThenL
def NL(s:Str):Prop:=∀c∈s,c≠10
theorem NL.app{a b:Str}(ha:NL a)(hb:NL b):NL (a++b):=fun c hc=>(List.mem_append.1 hc).elim (ha c) (hb c)
theorem nlc{s:Str}(h:(s.all fun c=>c != 10)=true:=by decide):NL s:=fun c hc=>by
 have:=List.all_eq_true.1 h c hc
 simpa using this
theorem inner_ne{c:UInt8}(h:innerB c=true):c≠10/\c≠32:=by
 constructor
 ·intro hc;subst hc;revert h;decide
 ·intro hc;subst hc;revert h;decide
theorem nl_ident{s:Str}(h:ident s=true):NL s:=fun c hc=>(inner_ne ((ident_len h).2.2 c hc)).1
theorem nl_join{sep:Str}(hs:NL sep):∀ {l:List Str},(∀x∈l,NL x)->NL (Go.Lib.join l sep)
 | [],_=>by simp[Go.Lib.join,NL]
 | [x],h=>by simpa [Go.Lib.join]using h x (List.mem_cons_self ..)
 | x::y::l,h=>by
   have h2:=nl_join hs (l:=y::l) fun z hz=>h z (List.mem_cons_of_mem _ hz)
   have e:Go.Lib.join (x::y::l) sep=x++sep++Go.Lib.join (y::l) sep:=by simp[Go.Lib.join]
   rw[e]
   exact(NL.app (h x (List.mem_cons_self ..)) hs).app h2
theorem nl_dig:∀(m u:Nat),u≤m->NL (Go.Lib.decDigits u)
 | m,u,h=>by
   have hd:∀k:Nat,k<10->NL [UInt8.ofNat (48+k)]:=by
    intro k hk
    have:k=0\/k=1\/k=2\/k=3\/k=4\/k=5\/k=6\/k=7\/k=8\/k=9:=by omega
    rcases this with rfl|rfl|rfl|rfl|rfl|rfl|rfl|rfl|rfl|rfl <;> exact nlc
   rw[Go.Lib.decDigits]
   split
   ·exact hd u (by assumption)
   ·cases m with
    | zero=>omega
    | succ m=>exact(nl_dig m (u / 10) (by omega)).app (hd _ (Nat.mod_lt _ (by decide)))
theorem nl_itoa(n:Int):NL (Go.Lib.itoa n):=by
 unfold Go.Lib.itoa
 split
 ·exact NL.app (a:=[45]) nlc (nl_dig _ _ (Nat.le_refl _))
 ·exact nl_dig _ _ (Nat.le_refl _)
theorem nl_val{es:List En}(h:OkE es)(t v:Int):NL (valS es t v):=by
 unfold valS textT
 split
 ·exact nlc
 split
 ·exact nlc
 split
 ·split <;> exact nlc
 split
 ·exact nl_itoa v
 ·dsimp only
  rename_i h1 h2 h3 h4
  cases hx:(enumOf es t).1.tags[v.toNat]? with
  | none=>exact nlc
  | some g=>
    have hg:=List.mem_of_getElem? hx
    obtain⟨g1,g2,g3,g4⟩:=enumOf_in (by simpa using h1) h3 h4
    rw[g4]at hg
    exact nl_ident ((h.all _ (List.getElem_mem g3)).tags g hg)
theorem nl_getD{f:Ex->Str}{o:Option Ex}(h:∀x,o=some x->NL (f x)):NL ((o.map f).getD []):=by
 cases o with
 | none=>exact(nlc:NL [])
 | some x=>exact h x rfl
theorem nl_gr{f:Ex->Str}{x:Ex}(h:NL (f x)):NL (grS f x):=by
 unfold grS
 split
 ·exact h
 ·exact(NL.app nlc h).app nlc
theorem nl_sym(o:Int):NL (symS o):=by
 unfold symS
 cases hx:symL.find? fun e=>decide (e.1=o) with
 | none=>exact nlc
 | some e=>
   have hm:=List.mem_of_find?_eq_some hx
   have hall:∀e∈symL,NL e.2:=by
    intro e he
    have:(symL.all fun e=>e.2.all fun c=>c != 10)=true:=by decide
    exact nlc (List.all_eq_true.1 this e he)
   exact hall e hm
theorem nl_smp{es:List En}(h:OkE es){o:OnC}(hn:NL o.name):NL (smpS es o):=(((NL.app nlc (nl_val h _ _)).app nlc).app hn).app nlc
theorem nl_shE{es:List En}(h:OkE es){f:Ex->Str}{e:Ex}(hn:NL e.name)(hf:∀x∈e.args,NL (f x)):NL (shE es f e):=by
 have hmg:∀(s:Str) (t:Int) (i:Nat),NL s->NL (mergeA es f t e.args s i):=by
  intro s t i hs
  induction i with
  | zero=>exact hs
  | succ i ih=>exact ih.app ((((NL.app nlc (nl_val h _ _)).app nlc).app (nl_getD fun x hx=>hf x (List.mem_of_getElem? hx))).app nlc)
 unfold shE
 split
 ·exact nl_val h _ _
 split
 ·unfold operS
  split
  ·rename_i a ha
   have g:=hf a (by rw[ha];exact List.mem_cons_self ..)
   split
   ·exact NL.app nlc (nl_gr g)
   split
   ·exact(NL.app nlc g).app nlc
   ·exact NL.app nlc (nl_gr g)
  ·rename_i a b ha
   have g:=hf a (by rw[ha];exact List.mem_cons_self ..)
   have g2:=hf b (by rw[ha];exact List.mem_cons_of_mem _ (List.mem_cons_self ..))
   exact((((nl_gr g).app nlc).app (nl_sym _)).app nlc).app (nl_gr g2)
  ·exact nlc
 split
 ·split
  ·rename_i a b c ha
   have g:=hf a (by rw[ha];exact List.mem_cons_self ..)
   have g2:=hf b (by rw[ha];exact List.mem_cons_of_mem _ (List.mem_cons_self ..))
   have g3:=hf c (by rw[ha];exact List.mem_cons_of_mem _ (List.mem_cons_of_mem _ (List.mem_cons_self ..)))
   exact((((NL.app nlc g).app nlc).app g2).app nlc).app g3
  ·exact nlc
 split
 ·split
  ·rename_i a ha
   exact NL.app nlc (nl_gr (hf a (by rw[ha];exact List.mem_cons_self ..)))
  ·exact nlc
 split
 ·split
  ·rename_i a b ha
   exact((nl_gr (hf a (by rw[ha];exact List.mem_cons_self ..))).app nlc).app (nl_gr (hf b (by rw[ha];exact List.mem_cons_of_mem _ (List.mem_cons_self ..))))
  ·exact nlc
 split
 ·split
  ·rename_i a b ha
   exact((nl_gr (hf a (by rw[ha];exact List.mem_cons_self ..))).app nlc).app (nl_gr (hf b (by rw[ha];exact List.mem_cons_of_mem _ (List.mem_cons_self ..))))
  ·exact nlc
 split
 ·split
  ·rename_i a ha
   exact((nl_gr (hf a (by rw[ha];exact List.mem_cons_self ..))).app nlc).app (nl_smp h hn)
  ·exact nlc
 split
 ·exact hmg _ _ _ (NL.app nlc hn)
 split
 ·unfold callA
  split
  ·exact(((hn.app nlc).app (nl_join nlc fun x hx=>by
    obtain⟨y,hy,rfl⟩:=List.mem_map.1 hx
    exact hf y (List.mem_of_mem_take hy))).app nlc).app (NL.app nlc (nl_getD fun x hx=>nl_gr (hf x (List.mem_of_getElem? hx))))
  ·exact((hn.app nlc).app (nl_join nlc fun x hx=>by
    obtain⟨y,hy,rfl⟩:=List.mem_map.1 hx
    exact hf y hy)).app nlc
 split
 ·exact(NL.app nlc hn).app nlc
 ·exact hn
theorem nl_shF{es:List En}(h:OkE es):∀(m:Nat) (e:Ex),(∀x∈flat e,NL x.name)->NL (shF es m e)
 | 0,_,_=>(nlc:NL [])
 | m+1,e,hn=>nl_shE h (hn e (by rw[flat_eq];exact List.mem_cons_self ..)) fun x hx=>nl_shF h m x fun y hy=>hn y (by
    rw[flat_eq]
    exact List.mem_cons_of_mem _ (List.mem_flatten.2 ⟨flat x,List.mem_map.2 ⟨x,hx,rfl⟩,hy⟩))
theorem bit_ne{c:UInt8}(h:bit c=true):c≠10:=by intro hc;subst hc;revert h;decide
theorem nl_bits(s:Str):NL (s.takeWhile bit):=fun c hc=>bit_ne (List.all_eq_true.1 (List.all_takeWhile (l:=s) (p:=bit)) c hc)
theorem nl_word{s:Str}(h:(wordP s).2=0):NL s:=by
 unfold wordP at h
 split at h
 ·cases h
 split at h
 ·rename_i r hr
  split at h
  ·rename_i hc
   have e1:s=s.takeWhile bit++40::r:=by
    have:=drop_tw bit s
    rw[hr]at this
    exact this
   have e2:r=r.takeWhile bit++[41]:=by
    have:=drop_tw bit r
    rw[hc.1]at this
    exact this
   rw[e1]
   refine(nl_bits s).app ?_
   rw[e2]
   exact NL.app (a:=[40]) nlc ((nl_bits r).app nlc)
  ·cases h
 ·cases h
theorem nl_expr{es:List En}(h:OkE es){e:Ex}(he:exprX es e=0):NL (shF es 400 e):=nl_shF h 400 e fun x hx=>by
 rcases one_name ((exprX_one he).2 x hx)with g|g|g
 ·rw[g];exact nlc
 ·exact nl_ident g
 ·exact nl_word g
def Ln(l:Str):Prop:=NL l/\∃t c,l=t++[c]/\c≠32
def Lns(k:Nat)(s:Str):Prop:=∃ls:List Str,ls.length=k/\s=(ls.map (·++[10])).flatten/\∀l∈ls,Ln l
theorem Lns.nil:Lns 0 []:=⟨[],rfl,rfl,by simp⟩
theorem Lns.app{a b:Nat}{s t:Str}(h1:Lns a s)(h2:Lns b t):Lns (a+b) (s++t):=by
 obtain⟨l1,rfl,rfl,g1⟩:=h1
 obtain⟨l2,rfl,rfl,g2⟩:=h2
 exact⟨l1++l2,by simp,by simp,fun l hl=>(List.mem_append.1 hl).elim (g1 l) (g2 l)⟩
theorem nl_rep:∀k:Nat,NL (Go.Lib.repeatL [32,32] k)
 | 0=>nlc
 | k+1=>by rw[Go.Lib.repeatL];exact NL.app nlc (nl_rep k)
theorem Lns.line(level:Nat){s:Str}(h:Ln s):Lns 1 (lineS level s):=by
 obtain⟨h1,t,c,rfl,hc⟩:=h
 exact⟨[Go.Lib.repeatL [32,32] level++(t++[c])],rfl,by simp[lineS],fun l hl=>by
  rw[List.mem_singleton]at hl
  subst hl
  exact⟨(nl_rep level).app h1,Go.Lib.repeatL [32,32] level++t,c,by simp,hc⟩⟩
theorem Lns.flat{α:Type}{g:α->Str}{k:α->Nat}:∀ {l:List α},(∀x∈l,Lns (k x) (g x))->Lns (l.map k).sum (flatS g l)
 | [],_=>Lns.nil
 | x::l,h=>by
   have e:flatS g (x::l)=g x++flatS g l:=by simp[flatS]
   rw[e,List.map_cons,List.sum_cons]
   exact(h x (List.mem_cons_self ..)).app (Lns.flat fun y hy=>h y (List.mem_cons_of_mem _ hy))
theorem sum_one{α:Type}:∀l:List α,(l.map fun _=>1).sum=l.length
 | []=>rfl
 | x::l=>by
   rw[List.map_cons,List.sum_cons,sum_one l,List.length_cons]
   omega
theorem Lns.flat1{α:Type}{g:α->Str}{l:List α}(h:∀x∈l,Lns 1 (g x)):Lns l.length (flatS g l):=by
 have:=Lns.flat (k:=fun _=>1) h
 rwa [sum_one]at this
theorem ln_end{t:Str}{c:UInt8}(h:NL (t++[c]))(hc:c≠32:=by decide):Ln (t++[c]):=⟨h,t,c,rfl,hc⟩
theorem ln_ident{p s:Str}(hp:NL p)(h:ident s=true):Ln (p++s):=by
 obtain⟨_,h2,h3⟩:=ident_len h
 obtain⟨t,c,rfl⟩:∃t c,s=t++[c]:=⟨s.dropLast,s.getLast h2,(List.dropLast_concat_getLast h2).symm⟩
 exact⟨hp.app (nl_ident h),p++t,c,by simp,(inner_ne (h3 c (by simp))).2⟩
def oneN(n:Nat):Nat:=if 0<n then 1 else 0
def linesN:Nat->List Auto->Nat
 | 0,l=>2*l.length
 | m+1,l=>2*l.length+(l.map fun a=>(a.states.map fun s=>3+oneN s.locals.length+s.unl.length+s.unt.length+s.eqs.length+linesN m s.autos).sum).sum
def nodeN(n:Nod):Nat:=3+oneN n.locals.length+n.assume.length+n.ensure.length+n.eqs.length+linesN 3 n.autos
def progN(p:Prog):Nat:=p.enums.length+(p.nodes.map nodeN).sum
theorem nl_name{es:List En}(h:OkE es)(t:Int):NL (nameT es t).1:=by
 unfold nameT
 split
 ·exact nlc
 split
 ·exact nlc
 ·rcases enum_name h t with hh|hh
  ·show NL (enumOf es t).1.name
   rw[hh];exact nlc
  ·exact nl_ident hh
theorem nl_decl{es:List En}(h:OkE es){d:Decl}(hd:OkD es d):NL (declS es d):=by
 have h1:NL (d.name++[58,32]++(nameT es d.ty.1).1):=((nl_ident hd.name).app nlc).app (nl_name h _)
 unfold declS
 split
 ·exact h1.app (NL.app nlc (nl_join nlc fun x hx=>by
   obtain⟨o,ho,rfl⟩:=List.mem_map.1 hx
   exact nl_smp h (nl_ident (hd.ck o ho))))
 ·exact h1
theorem nl_decls{es:List En}(h:OkE es){l:List Decl}(hd:∀d∈l,OkD es d):NL (declsS es l):=nl_join nlc fun x hx=>by
 obtain⟨o,ho,rfl⟩:=List.mem_map.1 hx
 exact nl_decl h (hd o ho)
theorem lns_locals{es:List En}(h:OkE es)(level:Nat){l:List Decl}(hd:∀d∈l,OkD es d):Lns (oneN l.length) (localsS es level l):=by
 unfold localsS oneN
 split
 ·exact Lns.line level (ln_end ((NL.app nlc (nl_decls h hd)).app nlc))
 ·exact Lns.nil
theorem lns_equ{es:List En}(h:OkE es)(level:Nat){q:Equ}(hq:OkQ es q):Lns 1 (equS es level q):=by
 have h1:NL (lhsS q.left):=by
  have:=nl_join (sep:=[44,32]) nlc (l:=q.left) fun x hx=>nl_ident (hq.left x hx)
  unfold lhsS
  split
  ·exact(NL.app nlc this).app nlc
  ·exact this
 exact Lns.line level (ln_end (((h1.app nlc).app (nl_expr h hq.right)).app nlc))
theorem lns_tran{es:List En}(h:OkE es)(level:Nat){word:Str}(hw:NL word){sts:List Sta}(hs:∀s∈sts,ident s.name=true){q:Tran}(hq:OkT es sts.length q):Lns 1 (tranS es level word sts q):=by
 have h2:NL (kwS q.resume):=by unfold kwS;split <;> exact nlc
 have h3:NL (((sts[q.to.1.toNat]?).map Sta.name).getD []):=by
  cases hx:sts[q.to.1.toNat]? with
  | none=>exact nlc
  | some s=>exact nl_ident (hs s (List.mem_of_getElem? hx))
 exact Lns.line level (ln_end (((((hw.app nlc).app (nl_expr h hq.cond)).app h2).app h3).app nlc))
theorem lns_claim{es:List En}(h:OkE es){word:Str}(hw:NL word){e:Ex}(he:exprX es e=0):Lns 1 (claimS es word e):=Lns.line 1 (ln_end (((hw.app nlc).app (nl_expr h he)).app nlc))
theorem Lns.eq{a b:Nat}{s:Str}(h:Lns a s)(e:a=b):Lns b s:=e ▸ h
theorem lns_auto{es:List En}(h:OkE es):∀(m level:Nat) (a:Auto),OkA es m a->Lns (linesN m [a]) (autoS es m level a)
 | 0,_,_,ha=>ha.elim
 | m+1,level,a,ha=>by
   have hst:=ha.2
   have hnm:∀s∈a.states,ident s.name=true:=fun s hs=>(hst s hs).name
   have h1:Lns (a.states.map fun s=>3+oneN s.locals.length+s.unl.length+s.unt.length+s.eqs.length+linesN m s.autos).sum (flatS (staS es (autoS es m) level a.states) a.states):=Lns.flat fun s hs=>by
    obtain⟨f1,f2,f3,f4,f5,f6,f7⟩:=hst s hs
    have hl:Lns (linesN m s.autos) (flatS (autoS es m (level+2)) s.autos):=by
     have:=Lns.flat (k:=fun a=>linesN m [a]) (g:=autoS es m (level+2)) (l:=s.autos) fun b hb=>lns_auto h m (level+2) b (f5 b hb)
     refine this.eq ?_
     cases m with
     | zero=>
       have:s.autos=[]:=by
        cases hq:s.autos with
        | nil=>rfl
        | cons b l=>exact(f5 b (by rw[hq];exact List.mem_cons_self ..)).elim
       rw[this];rfl
     | succ m=>
       simp only[linesN,List.map_cons,List.map_nil,List.sum_cons,List.sum_nil,List.length_cons,List.length_nil]
       generalize s.autos=l
       induction l with
       | nil=>rfl
       | cons b l ih=>
         simp only[List.map_cons,List.sum_cons,List.length_cons]at ih⊢
         omega
    unfold staS
    refine((((((((Lns.line _ (ln_ident nlc f1)).app (lns_locals h _ f3)).app (Lns.flat1 fun q hq=>lns_tran h _ nlc hnm (f6 q hq))).app (Lns.line _ (ln_end (t:=[100]) nlc))).app (Lns.flat1 fun q hq=>lns_equ h _ (f4 q hq))).app hl).app (Lns.flat1 fun q hq=>lns_tran h _ nlc hnm (f7 q hq))).app (Lns.line _ (ln_end (t:=[100,111,110]) nlc))).eq ?_
    omega
   unfold autoS
   refine(((Lns.line level (ln_end (t:=[97,117,116,111,109,97,116,111]) nlc)).app h1).app (Lns.line level (ln_end (t:=[101,110]) nlc))).eq ?_
   simp only[linesN,List.map_cons,List.map_nil,List.sum_cons,List.sum_nil,List.length_cons,List.length_nil]
   omega
theorem linesN_cons(m:Nat)(b:Auto)(l:List Auto):linesN (m+1) (b::l)=linesN (m+1) [b]+linesN (m+1) l:=by
 simp only[linesN,List.map_cons,List.map_nil,List.sum_cons,List.sum_nil,List.length_cons,List.length_nil]
 omega
theorem lns_autos{es:List En}(h:OkE es)(m level:Nat):∀(l:List Auto),(∀a∈l,OkA es (m+1) a)->Lns (linesN (m+1) l) (flatS (autoS es (m+1) level) l)
 | [],_=>by
   have:linesN (m+1) []=0:=rfl
   rw[this];exact Lns.nil
 | b::l,hl=>by
   have e:flatS (autoS es (m+1) level) (b::l)=autoS es (m+1) level b++flatS (autoS es (m+1) level) l:=by simp[flatS]
   rw[e,linesN_cons]
   exact(lns_auto h (m+1) level b (hl b (List.mem_cons_self ..))).app (lns_autos h m level l fun a ha=>hl a (List.mem_cons_of_mem _ ha))
theorem lns_node{es:List En}(h:OkE es){n:Nod}(hn:OkN es n):Lns (nodeN n) (nodeS es n):=by
 obtain⟨f1,f2,f3,f4,f5,f6,f7,f8,f9⟩:=hn
 have hh:Lns 1 (headS es n):=Lns.line 0 (ln_end ((((((NL.app nlc (nl_ident f1)).app nlc).app (nl_decls h f3)).app nlc).app (nl_decls h f4)).app nlc))
 unfold nodeS
 refine((((((((hh.app (lns_locals h _ f5)).app (Lns.flat1 fun q hq=>lns_claim h nlc (f8 q hq))).app (Lns.flat1 fun q hq=>lns_claim h nlc (f9 q hq))).app (Lns.line _ (ln_end (t:=[108,101]) nlc))).app (Lns.flat1 fun q hq=>lns_equ h _ (f6 q hq))).app (lns_autos h 2 1 _ f7)).app (Lns.line _ (ln_end (t:=[116,101]) nlc)))).eq ?_
 unfold nodeN
 have e:linesN (2+1) n.autos=linesN 3 n.autos:=rfl
 omega
theorem lns_prog{p:Prog}(hp:OkP p):Lns (progN p) (progS p):=by
 have h:=okE_of hp
 unfold progS progN
 refine(Lns.flat1 fun u hu=>?_).app (Lns.flat fun n hn=>lns_node h (hp.nodes n hn))
 have hq:=hp.enums u hu
 exact Lns.line 0 (ln_end (((((NL.app nlc (nl_ident hq.name)).app nlc).app (nl_join nlc fun x hx=>nl_ident (hq.tags x hx))).app nlc)))
theorem Lns.count{k:Nat}{s:Str}(h:Lns k s):s.count 10=k:=by
 obtain⟨ls,rfl,rfl,g⟩:=h
 induction ls with
 | nil=>rfl
 | cons l ls ih=>
   have h1:=(g l (List.mem_cons_self ..)).1
   have h2:=ih fun x hx=>g x (List.mem_cons_of_mem _ hx)
   have h3:l.count 10=0:=List.count_eq_zero.2 fun hm=>h1 10 hm rfl
   rw[List.map_cons,List.flatten_cons,List.count_append,List.count_append,h2,h3]
   simp
   omega
theorem Lns.good{k:Nat}{s:Str}(h:Lns k s):∀i:Nat,s[i]?=some 10->∃c,0<i/\s[i-1]?=some c/\c≠32/\c≠10:=by
 obtain⟨ls,rfl,rfl,g⟩:=h
 induction ls with
 | nil=>intro i hi;simp at hi
 | cons l ls ih=>
   intro i hi
   obtain⟨h1,t,c,hl,hc⟩:=g l (List.mem_cons_self ..)
   have h2:=ih fun x hx=>g x (List.mem_cons_of_mem _ hx)
   have hlen:l.length=t.length+1:=by rw[hl];simp
   rw[List.map_cons,List.flatten_cons]at hi⊢
   generalize (ls.map (·++[10])).flatten=r at*
   by_cases hlt:i<l.length
   ·rw[List.append_assoc,List.getElem?_append_left hlt]at hi
    exact absurd rfl (h1 10 (List.mem_of_getElem? hi))
   by_cases heq:i=l.length
   ·refine⟨c,by omega,?_,hc,h1 c (by rw[hl];simp)⟩
    rw[heq,List.append_assoc,List.getElem?_append_left (by omega),hl]
    simp
   ·have hi2:r[i-(l.length+1)]?=some 10:=by
     rw[List.getElem?_append_right (by simp;omega)]at hi
     simpa using hi
    obtain⟨d,d1,d2,d3,d4⟩:=h2 _ hi2
    refine⟨d,by omega,?_,d3,d4⟩
    rw[List.getElem?_append_right (by simp;omega)]
    rw[<-d2]
    congr 1
    simp
    omega
theorem Lns.last{k:Nat}{s:Str}(h:Lns k s):s=[]\/s[s.length-1]?=some 10:=by
 obtain⟨ls,rfl,rfl,g⟩:=h
 clear g
 induction ls with
 | nil=>exact .inl rfl
 | cons l ls ih=>
   right
   rw[List.map_cons,List.flatten_cons]
   rcases ih with h|h
   ·rw[h];simp
   ·generalize (ls.map (·++[10])).flatten=r at*
    have hr:r≠ []:=by intro hc;rw[hc]at h;simp at h
    have hpos:0<r.length:=List.length_pos_iff.2 hr
    rw[List.getElem?_append_right (by simp;omega),<-h]
    congr 1
    simp
    omega
theorem one9(n:Nat):Pure Tryz.prog 17 [.i n] (.i (oneN n:Nat)):=by
 unfold oneN
 by_cases h:0<n
 ·rw[if_pos h]
  refine so Tryz.func17 ?_
  repeat' (first|refine wu ?_|exact wkc|intro hc|refine wk2 ?_ ?_|fail)
  all_goals first
   | exact wkr
   | (exfalso;omega)
 ·rw[if_neg h]
  refine so Tryz.func17 ?_
  repeat' (first|refine wu ?_|exact wkc|intro hc|refine wk2 ?_ ?_|fail)
  all_goals first
   | exact wkr
   | (exfalso;omega)
theorem sum_c{α:Type}(f:α->Nat)(c:Nat):∀ {l:List α},(∀x∈l,f x≤c)->(l.map f).sum≤l.length*c
 | [],_=>Nat.zero_le _
 | x::l,h=>by
   have h1:=h x (List.mem_cons_self ..)
   have h2:=sum_c f c (l:=l) fun y hy=>h y (List.mem_cons_of_mem _ hy)
   rw[List.map_cons,List.sum_cons,List.length_cons,Nat.add_mul]
   omega
theorem sumN_take{α:Type}(g:α->Nat)(l:List α)(j:Nat):((l.take j).map g).sum≤(l.map g).sum:=by
 conv=>rhs;rw[<-List.take_append_drop j l]
 rw[List.map_append,List.sum_append]
 omega
theorem sumN_at{α:Type}(g:α->Nat){l:List α}{j:Nat}(h:j<l.length):((l.take (j+1)).map g).sum=((l.take j).map g).sum+g l[j]:=by
 rw[take_at h,List.map_append,List.sum_append]
 simp
theorem oneN_le(n:Nat):oneN n≤1:=by unfold oneN;split <;> omega
def bndN:Nat->Nat
 | 0=>16
 | m+1=>16+8*(8*(268+bndN m))
def staN(m:Nat)(s:Sta):Nat:=3+oneN s.locals.length+s.unl.length+s.unt.length+s.eqs.length+linesN m s.autos
theorem staN_le{es:List En}{m n:Nat}(ih:∀(l:List Auto),(∀a∈l,OkA es m a)->l.length≤8->linesN m l≤bndN m){s:Sta}(h:OkS es n (OkA es m) s):staN m s≤268+bndN m:=by
 have h1:=h.few
 have h2:=ih s.autos h.autos h1.2.2.1
 have h3:=oneN_le s.locals.length
 unfold staN
 omega
theorem autN_le{es:List En}{m:Nat}(ih:∀(l:List Auto),(∀a∈l,OkA es m a)->l.length≤8->linesN m l≤bndN m){a:Auto}(h:OkA es (m+1) a):(a.states.map (staN m)).sum≤8*(268+bndN m):=
 Nat.le_trans (sum_c (staN m) (268+bndN m) fun s hs=>staN_le ih (h.2 s hs)) (Nat.mul_le_mul_right _ h.1)
theorem linesN_le{es:List En}:∀(m:Nat) (l:List Auto),(∀a∈l,OkA es m a)->l.length≤8->linesN m l≤bndN m
 | 0,l,_,h8=>by simp only[linesN,bndN];omega
 | m+1,l,h,h8=>by
   have h1:(l.map fun a=>(a.states.map (staN m)).sum).sum≤l.length*(8*(268+bndN m)):=sum_c _ _ fun a ha=>autN_le (linesN_le m) (h a ha)
   have h2:l.length*(8*(268+bndN m))≤8*(8*(268+bndN m)):=Nat.mul_le_mul_right _ h8
   have e:linesN (m+1) l=2*l.length+(l.map fun a=>(a.states.map (staN m)).sum).sum:=rfl
   rw[e]
   simp only[bndN]
   omega
theorem bndN_le{m:Nat}(h:m≤3):bndN m≤100000000:=by
 have:m=0\/m=1\/m=2\/m=3:=by omega
 rcases this with rfl|rfl|rfl|rfl <;> decide
set_option maxHeartbeats 8000000 in
theorem lines9 {es:List En}:∀(m:Nat) (l:List Auto),m≤3->(∀a∈l,OkA es m a)->l.length≤8->Pure Tryz.prog 18 [.t (.sl 1 (l.map autoT))] (.i (linesN m l:Nat))
 | 0,l,_,h,_=>by
   have h0:l=[]:=by
    cases l with
    | nil=>rfl
    | cons b l=>exact(h b (List.mem_cons_self ..)).elim
   subst h0
   show Pure _ _ [.t (.sl 1 [])] (.i 0)
   refine so Tryz.func18 ?_
   repeat' (first|refine wkt ?_|(apply TO.mul64;exact rfl;exact rfl;exact rfl;omega;omega)|exact wkc|intro hc|refine wk2 ?_ ?_|fail)
   refine TR.loopN 0 (fun _=>True) (fun j=>[(0,.t (.sl 1 [])),(3,.i 0),(4,.i j)]) (fun _=>[]) trivial (fun j hlt _=>?_) (fun _=>?_) ⟨rfl,rfl,rfl,trivial⟩ rfl
   ·omega
   ·repeat' (first|refine wu ?_|exact wkc|intro hc|refine wk2 ?_ ?_|fail)
    exact wkr
 | m+1,l,hm,h,h8=>by
   have ih:=lines9 (es:=es) m
   have hbm:=bndN_le (m:=m) (by omega)
   have htot:=linesN_le (m+1) l h h8
   have hbt:=bndN_le hm
   have e:linesN (m+1) l=2*l.length+(l.map fun a=>(a.states.map (staN m)).sum).sum:=rfl
   rw[e]at htot⊢
   clear e
   have hml:(l.map autoT).length=l.length:=List.length_map _
   obtain⟨g,hg⟩:∃g:Auto->Nat,g=fun a:Auto=>(a.states.map (staN m)).sum:=⟨_,rfl⟩
   rw[<-hg]at htot⊢
   have hN:=sumN_take g l
   refine so Tryz.func18 ?_
   repeat' (first|refine wkt ?_|(apply TO.mul64;exact rfl;exact rfl;exact rfl;omega;omega)|exact wkc|intro hc|refine wk2 ?_ ?_|fail)
   refine TR.loopN l.length (fun _=>True) (fun j=>[(0,.t (.sl 1 (l.map autoT))),(3,.i ((2*(l.map autoT).length+((l.take j).map g).sum:Nat):Int)),(4,.i j)]) (fun _=>[]) trivial (fun j hlt _=>?_) (fun _=>?_) ⟨rfl,rfl,rfl,trivial⟩ rfl
   ·rw[hml]
    have hx:=at_map autoT hlt
    rw[autoT_eq]at hx
    have hj:((l.take (j+1)).map g).sum=((l.take j).map g).sum+(l[j].states.map (staN m)).sum:=by rw[sumN_at g hlt,hg]
    have hNj:=hN (j+1)
    have hal:=h _ (List.getElem_mem hlt)
    clear hN hg
    rw[hj]at hNj
    generalize ((l.take j).map g).sum=s0 at*
    generalize l[j]=a at*
    obtain⟨sts⟩:=a
    simp only[Auto.states]at hx hj hNj
    obtain⟨hs8,hst⟩:=hal
    simp only[Auto.states]at hs8 hst
    have hms:(sts.map staT).length=sts.length:=List.length_map _
    repeat' (first|refine wkt ?_|exact wkc|intro hc|refine wk2 ?_ ?_|fail)
    refine TR.loopN sts.length (fun _=>True) (fun k=>[(0,.t (.sl 1 (l.map autoT))),(3,.i ((2*l.length+s0+((sts.take k).map (staN m)).sum:Nat):Int)),(4,.i j),(5,.i k)]) (fun _=>[]) trivial (fun k hlk _=>?_) (fun _=>?_) ⟨rfl,rfl,rfl,rfl,trivial⟩ rfl
    ·have hy:=at_map staT hlk
     rw[staT_eq]at hy
     have hsk:=hst _ (List.getElem_mem hlk)
     have g1:=sumN_at (staN m) hlk
     have g2:=sumN_take (staN m) sts (k+1)
     have hcl:=ih sts[k].autos (by omega) hsk.autos hsk.few.2.2.1
     have hcb:=linesN_le m sts[k].autos hsk.autos hsk.few.2.2.1
     have ho:=one9 (sts[k].locals.map declT).length
     have hol:=oneN_le (sts[k].locals.map declT).length
     have hfew:=hsk.few
     have hst2:2*l.length+s0+((sts.take (k+1)).map (staN m)).sum=2*l.length+s0+((sts.take k).map (staN m)).sum+(3+oneN (sts[k].locals.map declT).length+(sts[k].unl.map tranT).length+(sts[k].unt.map tranT).length+(sts[k].eqs.map equT).length+linesN m sts[k].autos):=by
      rw[g1]
      simp only[staN,List.length_map]
      omega
     have q1:(sts[k].unl.map tranT).length≤4:=by rw[List.length_map];exact hfew.2.2.2.1
     have q2:(sts[k].unt.map tranT).length≤4:=by rw[List.length_map];exact hfew.2.2.2.2
     have q3:(sts[k].eqs.map equT).length≤256:=by rw[List.length_map];exact hfew.2.1
     clear g1 hsk hfew
     have q4:2*l.length+s0+((sts.take k).map (staN m)).sum≤100000000:=by
      have:=sumN_take (staN m) sts k
      omega
     generalize 2*l.length+s0+((sts.take k).map (staN m)).sum=acc at*
     generalize linesN m sts[k].autos=ln at*
     generalize oneN (sts[k].locals.map declT).length=on at*
     generalize sts[k]=st at*
     repeat' (first|refine wkt ?_|(apply TO.indexAddr tabOk;(iterate 8 exact rfl);omega;exact hx)|(apply TO.indexAddr tabOk;(iterate 8 exact rfl);omega;exact hy)|exact wkc|intro hc|refine wk2 ?_ ?_|fail)
     apply rgW [3] [_,_,_,_,_,_,_,_,_,_,_,_,_,_,_,_,_,_,_,_,_,_,_,_] (hE:=?hE)
     case hp=>
      repeat' (first|refine And.intro (fun env=>?_) ?_|refine wma ?_|refine wmv ho ?_|refine wmv hcl ?_|exact trivial|exact⟨⟨rfl,rfl⟩,trivial⟩|refine wmk ?_|fail)
      done
     case hE=>exact rfl
     case hK=>
      repeat' (first|refine wu ?_|exact wkc|intro hc|refine wk2 ?_ ?_|fail)
      exact LoopK.nextN hlk trivial (by(try dsimp only);rw[hst2];exact⟨rfl,rfl,rfl,rfl,trivial⟩) rfl
    ·rw[List.take_length]
     have hst2:2*l.length+(s0+(sts.map (staN m)).sum)=2*l.length+s0+(sts.map (staN m)).sum:=by omega
     generalize 2*l.length+s0+(sts.map (staN m)).sum=acc at*
     repeat' (first|refine wkt ?_|refine LoopK.exit ?_|exact wkc|intro hc|refine wk2 ?_ ?_|refine wk ?_|fail)
     exact LoopK.nextN hlt trivial (by(try dsimp only);rw[hj,hst2];exact⟨rfl,rfl,rfl,trivial⟩) rfl
   ·rw[List.take_length,hml]
    repeat' (first|refine wu ?_|exact wkc|intro hc|refine wk2 ?_ ?_|fail)
    exact wkr
end Go.Proofs.YtjgmcnemcembmaaGreatDoor
