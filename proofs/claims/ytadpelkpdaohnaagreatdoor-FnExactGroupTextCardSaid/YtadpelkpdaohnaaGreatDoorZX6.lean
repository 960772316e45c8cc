import Derived.Test.YtadpelkpdaohnaaGreatDoorZX5
import Derived.Lib.Overlaps
namespace Go.Proofs.YtadpelkpdaohnaaGreatDoor.En
section
open Go Go.RowKit
def zW (P:Program) (f:FuncId):Option Func:=(P.funcs[f]?).bind fun fn=>match fn.body with
 |none=>none
 |some c=>if fn.name== "runtime.NumGoroutine" || !iH P c then none else some fn
def rz (P:Program) (S:St):ResultVar->Option AV
 | .tmp t=>some (S.env t)
 | .cell a t=>if 0<P.cellsOf t then load P S t (S.env a) else none
def wn (n:Nat) (args:List AV) (gs:List T):St:= { env:=fun t=>args.getD t .dead,bx:=fun _=>none,gh:=fun n=>gs[n]?,nb:=0,ng:=gs.length,fz:=gs.length,orc:=none,nt:=args.length+(n-args.length) }
def uQ:List AV->AV
 | [v] =>v
 |vs=> .tup vs
def tM (P:Program) (rs:List ResultVar) (ts:List TypeId) (n:Nat) (S:St):Option (AV×List T):=
 (rs.mapM (rz P S)).bind fun vs=>if vs.length=ts.length then (zn P S ((List.range n).map fun r=>(S.gh r).getD .dd) (ts.zip vs)).map fun (vs,out)=>(uQ vs,out) else none
def yd (tmps:Array Value):ResultVar->Sem Value
 | .tmp t=>pure (tmps.getD t undef)
 | .cell b t=>do loadVar t (<-asAddr (tmps.getD b undef))
section
variable {P:Program} {w0 w w':World} {W:Nat->Prop} {bt bt':Bt} {S0 S S':St} {a a':Act} {D:mu}
theorem th (hI:eK w0 W bt S w) (hE:ER w bt S a) {fn:Func} {vs:List AV} (h:fn.results.toList.mapM (rz P S)=some vs):
  ∃us:List Value,us.length=vs.length/\(∀ (k:Nat) (v:AV) (u:Value),vs[k]? =some v->us[k]? =some u->VR w bt v u)/\(results fn a.tmps).run P w= .ok (match us with | [u] =>u|us=> .tuple us.toArray) w:=by
 have fG: ∀ (rs:List ResultVar) (vs:List AV),rs.mapM (rz P S)=some vs-> ∃us:List Value,us.length=vs.length/\(∀ (k:Nat) (v:AV) (u:Value),vs[k]? =some v->us[k]? =some u->VR w bt v u)/\
   (rs.mapM (yd a.tmps)).run P w= .ok us w:=by
  intro rs
  induction rs with
  |nil=>intro vs h;simp only[List.mapM_nil,c9,ae] at h;subst h;exact⟨[],rfl,fun k v u hk=>by simp at hk,rfl⟩
  |cons r rs ih=>
   intro vs h;simp only[cR,dw,aj,c9,ae] at h;obtain⟨v,h1,vs',h2,rfl⟩:=h;obtain⟨us,g1,g2,g3⟩:=ih vs' h2
   have one: ∃u,(yd a.tmps r).run P w= .ok u w/\VR w bt v u:=by
    cases r with
    |tmp t=>simp only[rz,ae] at h1;subst h1;exact⟨_,rfl,hE.2 t⟩
    |cell b t=>
     simp only[rz] at h1;split at h1
     ·rename_i hpos;simp only[load,aj] at h1;obtain⟨ag,hag,cs,hcs,hm⟩:=h1;obtain⟨ad,us,he,hul,hcl,hc,ho,hr⟩:=qk hI (hE.2 b) hcs hpos;obtain⟨u',k1,k2⟩:=oT hag hul hc (by omega) ho hr hm;exact⟨u',by simp[yd,he,asAddr,k1],k2⟩
     ·cases h1
   obtain⟨u,k1,k2⟩:=one;refine⟨u::us,by simp[g1],fun k v' u' hk hu=> ?_,?_⟩
   ·cases k with
    |zero=>simp only[aF,ae] at hk hu;subst hk hu;exact k2
    |succ k=>exact g2 k v' u' (by simpa using hk) (by simpa using hu)
   ·rw[cR];simp only[Sem.run_bind,k1,Result.andThen_ok,g3,Sem.run_pure]
 obtain⟨us,g1,g2,g3⟩:=fG _ _ h;refine⟨us,g1,g2,?_⟩
 have hres:results fn a.tmps=(do
   let vs <-fn.results.mapM (yd a.tmps)
   pure (if h:vs.size=1 then vs[0] else .tuple vs)):=rfl
 rw[hres,Array.mapM_eq_mapM_toList];simp only[Sem.run_bind,map_eq_pure_bind,g3,Result.andThen_ok,Sem.run_pure]
 congr 1
 match us with
 | [] =>rfl
 | [u] =>rfl
 |u::u'::us=>simp
end
end
section
open Go Go.RowKit
section
variable {P:Program} {w0 w w':World} {W:Nat->Prop} {btI bt bt' bt0:Bt} {SI S S' S1:St} {a a':Act} {D:mu}
def lM (P:Program) (c:Code) (S:St) (Post:X->St->Prop):Prop:=
 ∀ ⦃w0:World⦄ ⦃W:Nat->Prop⦄ ⦃btI:Bt⦄ ⦃SI:St⦄ ⦃bt:Bt⦄ ⦃a:Act⦄ ⦃w:World⦄ ⦃Q:Exit->Act->World->Prop⦄,Lv w0 W btI SI bt S a w->
   (∀x S' bt' a' w',Post x S'->Lv w0 W btI SI bt' S' a' w'->Q x.out a' w')->c.wp P Q a w
def nZ (P:Program) (ops:Array Oper) (l:List Oper) (S:St) (Post:St->Prop):Prop:=
 ∀ (k:Nat) ⦃w0:World⦄ ⦃W:Nat->Prop⦄ ⦃btI:Bt⦄ ⦃SI:St⦄ ⦃bt:Bt⦄ ⦃a:Act⦄ ⦃w:World⦄ ⦃Q:Exit->Act->World->Prop⦄,ops.toList.drop k=l->Lv w0 W btI SI bt S a w->
   (∀S' bt' a' w',Post S'->Lv w0 W btI SI bt' S' a' w'->Q .normal a' w')->wpOps P ops Q (List.range' k l.length) a w
def kR (S S1:St):Prop:= ∀ ⦃w0:World⦄ ⦃W:Nat->Prop⦄ ⦃btI:Bt⦄ ⦃SI:St⦄ ⦃bt:Bt⦄ ⦃a:Act⦄ ⦃w:World⦄,Lv w0 W btI SI bt S a w-> ∃bt1,Lv w0 W btI SI bt1 S1 a w
theorem kR.refl:kR S S:=by intro w0 W btI SI bt a w h; exact⟨_,h⟩
theorem kR.trans {S2:St} (h:kR S S1) (k:kR S1 S2):kR S S2:=by intro w0 W btI SI bt a w hl;obtain⟨bt1,h1⟩:=h hl;exact k h1
theorem lM.mono {c:Code} {Post Post':X->St->Prop} (h:lM P c S Post) (hp: ∀x S,Post x S-> ∃S',kR S S'/\Post' x S'):lM P c S Post':=by intro w0 W btI SI bt a w Q hl hK;refine h hl (fun x S' bt' a' w' hP hl'=> ?_);obtain⟨S2,h1,h2⟩:=hp x S' hP;obtain⟨bt2,h3⟩:=h1 hl';exact hK x S2 bt2 a' w' h2 h3
theorem lM.weak {c:Code} {Post:X->St->Prop} (hw:kR S S1) (h:lM P c S1 Post):lM P c S Post:=by intro w0 W btI SI bt a w Q hl hK;obtain⟨bt1,h1⟩:=hw hl;exact h h1 hK
theorem lM.skip {Post:X->St->Prop} (h:Post .nor S):lM P .skip S Post:=by intro w0 W btI SI bt a w Q hl hK;exact wp_skip (hK _ _ _ _ _ h hl)
theorem lM.exit {Post:X->St->Prop} {i:Nat} (h:Post (.ext i) S):lM P (.exit i) S Post:=by intro w0 W btI SI bt a w Q hl hK;exact wp_exit (hK _ _ _ _ _ h hl)
theorem lM.ret {Post:X->St->Prop} (h:Post .ret S):lM P .ret S Post:=by intro w0 W btI SI bt a w Q hl hK;exact wp_ret (hK _ _ _ _ _ h hl)
theorem lM.region {Post:X->St->Prop} {id:Nat} {ops:Array Oper} (h:nZ P ops ops.toList S (Post .nor)):lM P (.region id ops false) S Post:=by intro w0 W btI SI bt a w Q hl hK;refine wp_region ?_;have:=h 0 (Q:=Q) rfl hl (fun S' bt' a' w' hP hl'=>hK .nor S' bt' a' w' hP hl');rw[cn];simpa using this
theorem lM.draw {Post:X->St->Prop} {id:Nat} {ops:Array Oper} (hD:jN P D) (hm:P.follows .mixedOrders=true) (hok:uC P ops=true) {S0 SV:St} {ms:List gm} (hpre:xL P ops.toList S=some S0) (hV:uk D P ops ops.toList S0=some (SV,ms)) (hev:BB (qj P) ops.toList (eY ops.toList) S0 ms SV=true) (hS:v7 D P ops ops.toList SV=some S')
  (h:Post .nor S'):lM P (.region id ops true) S Post:=by
 intro w0 W btI SI bt a w Q hl hK;exact BM hD hm hok hpre hl hV hev hS (fun bt' a' w' h'=>hK .nor S' bt' a' w' h h')
theorem lM.chain {Post:X->St->Prop} {id:Nat} {ops:Array Oper} (hm:P.follows .mixedOrders=true) (hok:Fh P ops=true) (hV:G6 P S.ng ops.toList (eY ops.toList) 0 ops.toList S=some S') (h:Post .nor S'):lM P (.region id ops true) S Post:=by intro w0 W btI SI bt a w Q hl hK;exact zV hm hok hl hV (fun bt' a' w' h'=>hK .nor S' bt' a' w' h h')
theorem lM.seq {Post:X->St->Prop} {c d:Code} (h:lM P c S (fun x S1=>match x with | .nor=>lM P d S1 Post|x=>Post x S1)):lM P (.seq c d) S Post:=by
 intro w0 W btI SI bt a w Q hl hK;refine wp_seq (h hl (fun x S1 bt' a' w' hP hl'=> ?_));cases x with
 |nor=>exact hP hl' hK
 |ret=>exact hK _ _ _ _ _ hP hl'
 |ext i=>exact hK _ _ _ _ _ hP hl'
theorem lM.cond {Post:X->St->Prop} {t:Operand} {c d:Code} {b:Bool} (hb:opd S t= .sc (.bool b)) (h:lM P (if b then c else d) S Post):lM P (.cond t c d) S Post:=by
 intro w0 W btI SI bt a w Q hl hK;have hv:=ek hl.er t;rw[hb] at hv;refine wp_cond hv.inv_sc ?_;cases b with
 |true=>exact h hl hK
 |false=>exact h hl hK
theorem lM.block {Post:X->St->Prop} {i:Nat} {c:Code} (h:lM P c S (fun x S1=>match x with | .ext j=>if j=i then Post .nor S1 else Post (.ext j) S1|x=>Post x S1)):lM P (.block i c) S Post:=by
 intro w0 W btI SI bt a w Q hl hK;refine wp_block (h hl (fun x S1 bt' a' w' hP hl'=> ?_));cases x with
 |nor=>exact hK _ _ _ _ _ hP hl'
 |ret=>exact hK _ _ _ _ _ hP hl'
 |ext j=>
  show Exit.inBlock i Q (.exit j) a' w';unfold Exit.inBlock;simp only;simp only at hP;split
  ·rename_i hj;rw[if_pos hj] at hP;exact hK _ _ _ _ _ hP hl'
  ·rename_i hj;rw[if_neg hj] at hP;exact hK _ _ _ _ _ hP hl'
theorem lM.loop {Post:X->St->Prop} {c:Code} (I:Nat->St->Prop) (h: ∀n S,I n S->lM P c S (fun x S1=>match x with | .nor=> ∃m,m<n/\I m S1|x=>Post x S1)) {n:Nat} (h0:I n S):lM P (.loop c) S Post:=by
 intro w0 W btI SI bt a w Q hl hK
 let J:Nat->Act->World->Prop:=fun n a w=> ∃bt S,Lv w0 W btI SI bt S a w/\I n S
 classical
 refine wp_loop (fun a w=> ∃n,J n a w) (fun a w=>if hx: ∃n,J n a w then Classical.choose (CS hx) else 0) ⟨n,bt,S,hl,h0⟩ (fun a w hx=> ?_);obtain⟨hj,hmin⟩:=Classical.choose_spec (CS hx);generalize hnn:Classical.choose (CS hx)=n at*;simp only[dif_pos hx,hnn];obtain⟨bt,S,hl,hI⟩:=hj;refine h n S hI hl (fun x S1 bt' a' w' hP hl'=> ?_);cases x with
 |nor=>
  obtain⟨m,hm,hI'⟩:=hP;have hex: ∃n,J n a' w':=⟨m,bt',S1,hl',hI'⟩
  refine⟨hex,?_⟩;rw[dif_pos hex];exact Nat.lt_of_le_of_lt ((Classical.choose_spec (CS hex)).2 m ⟨bt',S1,hl',hI'⟩) hm
 |ret=>exact hK _ _ _ _ _ hP hl'
 |ext i=>exact hK _ _ _ _ _ hP hl'
theorem nZ.nil {Post:St->Prop} {ops:Array Oper} (h:Post S):nZ P ops [] S Post:=by intro k w0 W btI SI bt a w Q _ hl hK;exact hK _ _ _ _ h hl
theorem nZ.weak {Post:St->Prop} {ops:Array Oper} {l:List Oper} (hw:kR S S1) (h:nZ P ops l S1 Post):nZ P ops l S Post:=by intro k w0 W btI SI bt a w Q hd hl hK;obtain⟨bt1,h1⟩:=hw hl;exact h k hd h1 hK
theorem nZ.eqnil {Post:St->Prop} {ops:Array Oper} {o:Oper} {l:List Oper} {t t' el:TypeId} {x:Operand} {sz:Nat} {rows:List (List T)} (hel:o6 P t=some el) (ho:o.op= .binOp .eql t x (.const (.slice none 0 0)) t') (hg:o.guard=none) (hx:opd S x= .ro sz rows)
  (h1:rows= [] -> ∃S1,S.put o.dst (.sc (.bool true))=some S1/\nZ P ops l S1 Post) (h2: ∃S1,S.put o.dst (.sc (.bool false))=some S1/\nZ P ops l S1 Post):nZ P ops (o::l) S Post:=by
 intro k w0 W btI SI bt a w Q hd hl hK
 have hko:ops.toList[k]? =some o:=by have:=congrArg (fun x:List Oper=>x[0]?) hd;simpa [aN] using this
 have hko':ops[k]? =some o:=by simpa using hko
 have hd':ops.toList.drop (k+1)=l:=by rw[<-b8,hd];rfl
 have hw:=jf (ops:=ops) (o:=o) (b:=true) hl.er (by unfold jL; rw[hg]);have hv:=ek hl.er x;rw[hx] at hv
 obtain⟨b,hb,hrun⟩: ∃b,(b=true->rows= [])/\(execOp a.eval o).run P w= .ok (.value (.bool b)) w:=by
  obtain⟨dst,op,type,pos,after,guard⟩:=o;simp only at ho;subst ho;have hc:a.eval (.const (.slice none 0 0))= .slice none 0 0:=rfl
  have run: ∀ (ad:Option Addr) (n c:Nat),a.eval x= .slice ad n c->(execOp a.eval ⟨dst, .binOp .eql t x (.const (.slice none 0 0)) t',type,pos,after,guard⟩).run P w= .ok (.value (.bool ad.isNone)) w:=by
   intro ad n c hu;have e:execOp a.eval ⟨dst, .binOp .eql t x (.const (.slice none 0 0)) t',type,pos,after,guard⟩=(do pure (Next.value (<-(do eqGuard .eql t x (.const (.slice none 0 0)) (a.eval x) (a.eval (.const (.slice none 0 0))); binOp .eql t (a.eval x) (a.eval (.const (.slice none 0 0))))))):=rfl;rw[e,hu,hc]
   have g: (eqGuard .eql t x (.const (.slice none 0 0)) (.slice ad n c) (.slice none 0 0)).run P w= .ok () w:=by simp[eqGuard]
   have q: (binOp .eql t (.slice ad n c) (.slice none 0 0)).run P w= .ok (.bool ad.isNone) w:=by
    show (do pure (.bool (<-Op.equal t (.slice ad n c) (.slice none 0 0))):Sem Value).run P w=_
    have : (Op.equal t (.slice ad n c) (.slice none 0 0)).run P w= .ok ad.isNone w:=by show (Op.equalIn (9999+1) t (.slice ad n c) (.slice none 0 0)).run P w=_;rw[Op.equalIn];simp only[Sem.run_bind,run_underlying (gK hel),Result.andThen_ok];cases ad<;>rfl
    simp only[Sem.run_bind,this,Result.andThen_ok,Sem.run_pure]
   simp only[Sem.run_bind,g,q,Result.andThen_ok,Sem.run_pure]
  generalize hu:a.eval x=u at*;cases hv with
  |ro hro=>
   cases hro with
   |em sz ad cap=>exact⟨ad.isNone,fun _=>rfl,run ad 0 cap rfl⟩
   |sl cs hc' hs hA hl' hr ht=>exact⟨false,nofun,run _ _ _ rfl⟩
 simp only[aY,ci];unfold wpOps;rw[hko'];simp only;rw[hw,if_pos rfl];left;unfold Oper.wp;rw[hrun,Oper.upon_value];cases b with
 |true=>obtain⟨S1,g1,g2⟩:=h1 (hb rfl);exact g2 (k+1) hd' (hl.put (.sc rfl) g1) hK
 |false=>obtain⟨S1,g1,g2⟩:=h2;exact g2 (k+1) hd' (hl.put (.sc rfl) g1) hK
theorem nZ.cons {Post:St->Prop} {ops:Array Oper} {o:Oper} {l:List Oper} {b:Bool} (hok:kQ P o=true) (hb:jL S ops o=some b)
  (h:if b then ∃D S1,jN P D/\one D P S o=some S1/\nZ P ops l S1 Post else ∃S1,S.put o.dst (.tup [])=some S1/\nZ P ops l S1 Post):nZ P ops (o::l) S Post:=by
 intro k w0 W btI SI bt a w Q hd hl hK
 have hko:ops.toList[k]? =some o:=by have:=congrArg (fun x:List Oper=>x[0]?) hd;simpa [aN] using this
 have hko':ops[k]? =some o:=by simpa using hko
 have hd':ops.toList.drop (k+1)=l:=by rw[<-b8,hd];rfl
 have hw:=jf hl.er hb;simp only[aY,ci];unfold wpOps;rw[hko'];simp only;cases b with
 |true=>simp only[if_true] at h;obtain⟨D,S1,hD,h1,h2⟩:=h;rw[hw,if_pos rfl];exact .inl (nX hD hl hok h1 (fun bt' a' w' h'=>h2 (k+1) hd' h' hK))
 |false=>simp only[aX,if_false] at h;obtain⟨S1,h1,h2⟩:=h;rw[hw,if_neg (by simp)];exact h2 (k+1) hd' (hl.put uy h1) hK
theorem zX {f:FuncId} {fn:Func} {c:Code} (hfn:zW P f=some fn) (hc:fn.body=some c) {args:List AV} {gs:List T} {res:AV} {out:List T}
  (h:lM P c (wn fn.ntmps args gs) (fun x S=>match x with | .ext _=>False| _=>tM P fn.results.toList fn.resultTypes.toList gs.length S=some (res,out))):lK P f args gs res out:=by
 intro w W bt0 vals hI hl hv
 obtain⟨hf,hname,hcok⟩:P.funcs[f]? =some fn/\(fn.name== "runtime.NumGoroutine")=false/\iH P c=true:=by
  unfold zW at hfn;simp only[aj] at hfn;obtain⟨fn',g1,g2⟩:=hfn;split at g2
  ·cases g2
  ·rename_i c' hc';split at g2
   ·cases g2
   ·rename_i hn;simp only[ae] at g2;subst g2;rw[hc] at hc';simp only[ae] at hc';subst hc';simp only[bg,not_or,dq,de] at hn;exact⟨g1,hn.1,hn.2⟩
 have hname': ¬fn.name= "runtime.NumGoroutine" :=by simpa using hname
 refine⟨by simp[callFunc,hf,hname',hc],calls_of_wp hf hc ?_⟩
 have h0:Lv w W bt0 (wn fn.ntmps args gs) bt0 (wn fn.ntmps args gs) { tmps:=vals.toArray++Array.replicate (fn.ntmps-vals.toArray.size) undef,defers:= [] } w:=by
  refine⟨{ os:=hI.os,tape:=hI.tape,output:=hI.output,size:=hI.size,keep:=hI.keep,nb:=hI.nb,ng:=hI.ng,bx:=hI.bx,gh:=hI.gh,tr:=hI.tr,inj:=hI.inj,bbinj:=hI.bbinj,bbtr:=hI.bbtr,alt:=hI.alt,atr:=hI.atr,abb:=hI.abb },
   ⟨by simp[wn,hl],fun t=> ?_⟩,rfl,rfl,aw _,fun _ _=>⟨rfl,rfl⟩,fun _ _ h=>h⟩
  show VR w bt0 (args.getD t .dead) _;cases ha:args[t]? with
  |none=>simp only[ar,ha,cW];exact .dead _
  |some v=>
   have ht:=(ai.1 ha).1;have hvt:vals[t]? =some (vals[t]'(by omega)):=ah _
   have : (vals.toArray++Array.replicate (fn.ntmps-vals.toArray.size) undef).getD t undef=vals[t]'(by omega):=by rw[aQ,bW (by simp; omega)];simp[hvt]
   rw[this];simp only[ar,ha,aK];exact hv t v _ ha hvt
 refine h h0 (fun x S1 bt' a' w' h2 h'=> ?_)
 have fin:tM P fn.results.toList fn.resultTypes.toList gs.length S1=some (res,out)-> ∃v,(results fn a'.tmps).run P w'= .ok v w'/\ ∃v' btn,Ending.returned v= .returned v'/\eK w W btn (jY out) w'/\gs.length<=out.length/\(∀p:eb,p.r<gs.length->btn.β p=bt0.β p/\btn.κ p=bt0.κ p)/\VR w' btn res v':=by
  intro h2;unfold tM at h2;simp only[aj] at h2;obtain⟨vs,h3,h4⟩:=h2;split at h4
  ·rename_i hlen;simp only[ak,Prod.exists,al] at h4;obtain⟨vs',out',h5,rfl,rfl⟩:=h4;obtain⟨us,g1,g2,g3⟩:=th h'.inv h'.er h3;have hfz:S1.fz=gs.length:=h'.fz
   have hx0:Ex S1 S1 ((List.range gs.length).map fun r=>(S1.gh r).getD .dd) ((List.range gs.length).map some):=by
    refine⟨by simp,fun _ _ h=>h,rfl,fun k t hk=> ?_,fun j k r hj hk=> ?_,fun k r hk=> ?_⟩
    ·simp only[an,ak] at hk;obtain⟨r,hr,rfl⟩:=hk
     have :r=k/\k<gs.length:=by rw[ai] at hr;obtain⟨q1,q2⟩:=hr;simp at q1 q2;exact⟨q2.symm,q1⟩
     obtain⟨rfl,hk⟩:=this;refine .inl ⟨r,by simp[hk],fun m s rs hg=>⟨rs,?_,aw _,fun _ _ h=>h⟩⟩;cases hgh:S1.gh r with
     |none=>have:=h'.gone r hk hgh;simp[wn] at this;omega
     |some t=>rw[hgh] at hg;unfold St.look;rw[hgh];exact hg
    ·simp only[an,ak,ae] at hj hk;obtain⟨r1,h1,rfl⟩:=hj;obtain⟨r2,h2,rfl⟩:=hk;rw[ai] at h1 h2;obtain⟨_,h1⟩:=h1;obtain⟨_,h2⟩:=h2;simp at h1 h2;omega
    ·simp only[an,ak,ae] at hk;obtain⟨r1,h1,rfl⟩:=hk;left;rw[ai] at h1;obtain⟨h0,h1⟩:=h1;simp at h0 h1;omega
   obtain⟨τ,S2,e1,e2,e3⟩:=uP (bt:=bt') (w:=w') _ us _ _ _ _ _ hx0 (by simp[g1,hlen]) (fun k tv u hk hu=>by rw[List.getElem?_zip_eq_some] at hk;exact g2 k tv.2 u hk.2 hu) h5
   have hout:=h'.inv.out e1
   have hlo:gs.length<=out'.length:=by rw[<-e1.len];simp
   refine⟨_,g3,_,_,rfl,hout,hlo,fun p hp=> ?_,?_⟩
   ·have hσ: ((List.range gs.length).map some++τ)[p.r]? =some (some p.r):=by
     rw[aJ (by simpa using hp)];simp[hp]
    have:=h'.keep p hp;simp only[lL,hσ];exact this
   ·match vs',us,e2,e3 with
    | [v],[u],_,e3=>exact e3 0 v u rfl rfl
    | [],[],_,e3=>exact .tup rfl (fun k c u hk=>by simp at hk)
    |v::v'::vs',u::u'::us,e2,e3=>exact .tup e2 e3
  ·cases h4
 simp only at h2;cases x with
 |ext i=>simp at h2
 |nor=>exact⟨h'.defers,fin h2⟩
 |ret=>exact⟨h'.defers,fin h2⟩
end
end
section
open Go Go.RowKit
section
variable {P:Program} {w0 w w':World} {W:Nat->Prop} {bt btn:Bt} {S:St} {a:Act} {A:Nat->Prop}
structure tj (bt:Bt) (S:St) (A:Nat->Prop):Prop where
 h1: ∀b,bt.A b->A b
 h2: ∀p s rs,S.look p= .sl s rs->0<bt.κ p->A (bt.β p)
 h3: ∀n cs,S.bx n=some cs->A (bt.bb n)
theorem tj.le (h:tj bt S A):bt.le { bt with A:=A } :=⟨aw _,aw _,h.h1,fun _ _=>rfl,fun _ _=>rfl,fun _ _=>rfl⟩
theorem Fj (hI:eK w0 W bt S w) (hA:tj bt S A) {v:AV} {u:Value} (sz:Nat) (h:VR w bt v u) (ho:u.oneCell'=true):RO w A (T.ofAV S sz v) u:=by
 cases v with
 |sc v=>cases h with |sc h=>exact .sc h
 |em=>cases h with |em a=>exact .em _ _ _
 |ro s rows=>cases h with |ro h=>exact h.mono (hA.h1) (fun _ _=>rfl)
 |own p s lo len=>
  simp only[T.ofAV];split
  ·split
   ·exact uv hI hA.h2 h ‹_› ‹_›
   ·exact .dd ho
  ·exact .dd ho
 | _=>exact .dd ho
theorem oD (hI:eK w0 W bt S w) (hA:tj bt S A) {v:AV} {u:Value} (sz:Nat) (h:VR w bt v u):VR w { bt with A:=A } (eV S sz v) u:=by
 cases v with
 |sc v=>exact h.mono hA.le (fun _ _=>rfl)
 |em=>cases h with |em a=>exact .ro (.em _ _ _)
 |ro s rows=>exact h.mono hA.le (fun _ _=>rfl)
 |pro cells=>exact h.mono hA.le (fun _ _=>rfl)
 |own p s lo len=>
  simp only[eV];split
  ·split
   ·exact .ro (uv hI hA.h2 h ‹_› ‹_›)
   ·exact .dead _
  ·exact .dead _
 |ptrB b j=>
  simp only[eV];split
  ·rename_i cs hb;cases h with
   |ptrB j hn=>
    obtain⟨_,_,arr,e,g1,g2,g3⟩:=hI.bx _ _ hb;refine .pro (fun k=>(arr[j+k]?).getD undef) rfl (hA.h3 _ _ hb) (fun k x hk=> ?_) (fun k x hk=> ?_)
    ·rw[an] at hk;simp only[ak] at hk;obtain⟨v,hv,rfl⟩:=hk;rw[aN] at hv;obtain⟨c,k1,k2,k3⟩:=g3 _ _ hv;rw[add_lit,jx g1,k1];rfl
    ·rw[an] at hk;simp only[ak] at hk;obtain⟨v,hv,rfl⟩:=hk;rw[aN] at hv;obtain⟨c,k1,k2,k3⟩:=g3 _ _ hv;rw[k1];exact Fj hI hA 0 k2 k3
  ·exact .dead _
 |ptrT p s i j=>
  simp only[eV];split
  ·rename_i rows hr;have hlook:=gC hr;cases h with
   |ptrT s i j hp hk=>
    obtain⟨_,arr,e,g1,g2,g3,g4⟩:=(hI.tr _ _ _ hlook).2 (by omega)
    have each: ∀ (k:Nat) (x:T),((rows.getD i []).drop j)[k]? =some x-> ∃r c,rows[i]? =some r/\r[j+k]? =some x/\arr[i*s+j+k]? =some c/\HR bt (p.sub i (j+k)) x c:=by
     intro k x hx;rw[aN] at hx;cases hr':rows[i]? with
     |none=>simp[hr'] at hx
     |some r=>simp only[ar,hr',aK] at hx;obtain⟨c,k1,k2⟩:=(g4 i r hr').2 _ _ hx;exact⟨r,c,rfl,hx,by rw[dl]; exact k1,k2⟩
    refine .pro (fun k=>(arr[i*s+j+k]?).getD undef) rfl (hA.h2 _ _ _ hlook (by omega)) (fun k x hx=> ?_) (fun k x hx=> ?_)
    ·obtain⟨r,c,k0,k1,k2,k3⟩:=each k x hx;rw[add_lit,jx g1,k2];rfl
    ·obtain⟨r,c,k0,k1,k2,k3⟩:=each k x hx;rw[k2];refine xT hI hA.h2 _ (p.sub i (j+k)) x c (aw _) k3 (g3 _ _ k2) (fun s' rs hxx=> ?_);unfold St.look at hlook ⊢;split at hlook
     ·rename_i t ht;show (match S.gh p.r with |some t=>t.go (p.l++ [(i,j+k)])|none=> .dd)=_;rw[ht];simp only;rw[T.go_append,hlook];simp only[T.go,T.cell,ar,k0,aK,k1];exact hxx
     ·cases hlook
  ·exact .dead _
 | _=>exact .dead _
theorem DU (hI:eK w0 W bt S w) (hA:tj bt S A) {v:AV} {u:Value} (szs:List Nat) (h:VR w bt v u):VR w { bt with A:=A } (ii S szs v) u:=by
 cases v with
 |agg cs=>
  simp only[ii];split
  ·rename_i hl;cases h with
   |agg hl' ho hr=>
    rename_i us;refine .agg (by simp[hl,hl']) ho (fun k c u h1 h2=> ?_);rw[bf] at h1;split at h1
    ·rename_i s c' e1 e2;simp only[ae] at h1;subst h1;exact oD hI hA s (hr k c' u e2 h2)
    ·cases h1
  ·exact .dead _
 |fn f caps=>
  cases h with
  |fn f hl hr=>rename_i us;refine .fn f (by simp[hl]) (fun k c u h1 h2=> ?_);rw[an] at h1;simp only[ak] at h1;obtain⟨c',e1,rfl⟩:=h1;exact oD hI hA 0 (hr k c' u e1 h2)
 |em=>cases h with |em a=>exact .em a
 | _=>exact oD hI hA (szs.headD 0) h
def oV (P:Program) (S:St) (ts:List TypeId) (as:List Operand) (caps:List AV):List AV:=
 List.zipWith (fun t a=>ii S (ku P 9 t) (opd S a)) ts as++caps.map (eV S 0)
theorem zY (hI:eK w0 W bt S w) (hE:ER w bt S a) (hA:tj bt S A) {bt':Bt} (hA':bt'.A=A) {ts:List TypeId} {as:List Operand} {caps:List AV} {us:List Value} (hts:ts.length=as.length) (hl:us.length=caps.length)
  (hc: ∀ (k:Nat) (c:AV) (u:Value),caps[k]? =some c->us[k]? =some u->VR w bt c u):
  (as.map a.eval++us).length=(oV P S ts as caps).length/\ ∀ (k:Nat) (v:AV) (u:Value),(oV P S ts as caps)[k]? =some v->(as.map a.eval++us)[k]? =some u->VR w bt' v u:=by
 have l1: (List.zipWith (fun t x=>ii S (ku P 9 t) (opd S x)) ts as).length=as.length:=by simp[hts]
 refine⟨by simp[oV,hts,hl],fun k v u h1 h2=> ?_⟩;unfold oV at h1;by_cases hk:k<as.length
 ·rw[aJ (by omega)] at h1;rw[aJ (by simpa using hk),an] at h2;rw[bf] at h1;split at h1
  ·rename_i t x e1 e2;simp only[ae] at h1;rw[e2] at h2;simp only[az,ae] at h2;subst h1 h2;exact VR.readOnly (bt:= { bt with A:=A }) hA' (DU hI hA _ (ek hE x)) (zG _ _ _)
  ·cases h1
 ·rw[aO (by omega),l1,an] at h1;rw[aO (by simp; omega)] at h2;simp only[aB] at h2;simp only[ak] at h1;obtain⟨c,e1,rfl⟩:=h1;exact VR.readOnly (bt:= { bt with A:=A }) hA' (oD hI hA 0 (hc _ c u e1 h2)) (rq (nW _ _ _))
def ky (P:Program) (f:FuncId) (args:List AV) (gs:List T) (m:Nat) (res:AV) (out:List T):Prop:=
 ∀ (w:World) (W:Nat->Prop) (bt0:Bt) (vals:List Value),eK w W bt0 (jY gs) w->vals.length=args.length->(∀ (k:Nat) (v:AV) (u:Value),args[k]? =some v->vals[k]? =some u->VR w bt0 v u)->
   (callFunc f vals.toArray).run P w= .ok (.enter f vals.toArray) w/\
   Calls P f vals.toArray w fun e w'=> ∃v btn,e= .returned v/\eK w W btn (jY out) w'/\m<=out.length/\(∀p:eb,p.r<m->btn.β p=bt0.β p/\btn.κ p=bt0.κ p)/\VR w' btn res v
theorem Fk {t:T} {p:eb} {s:Nat} {rs:List (List T)} (h: (jY [t]).look p= .sl s rs):p.r=0/\t.go p.l= .sl s rs:=by
 unfold St.look jY at h;simp only at h;cases hp:p.r with
 |zero=>rw[hp] at h; exact⟨rfl,h⟩
 |succ n=>rw[hp] at h; cases h
theorem xb {r:Nat} {p:eb} {s:Nat} {rs:List (List T)} (h: ({ S with gh:=eh S.gh r none }:St).look p= .sl s rs):p.r≠r/\S.look p= .sl s rs:=by
 unfold St.look at h;simp only[eh] at h;by_cases hp:p.r=r
 ·rw[if_pos hp] at h;cases h
 ·rw[if_neg hp] at h;exact⟨hp,h⟩
def nH (bt:Bt) (S:St) (r:Nat) (b:Nat):Prop:= ∃l s rs,S.look ⟨r,l⟩= .sl s rs/\0<bt.κ ⟨r,l⟩/\bt.β ⟨r,l⟩=b
theorem mD (hI:eK w0 W bt S w) {r b:Nat} (h:nH bt S r b):E0 w0 W bt { S with gh:=eh S.gh r none } b:=by obtain⟨l,s,rs,h1,h2,rfl⟩:=h;refine⟨((hI.tr _ _ _ h1).2 h2).1,fun n cs hn=>hI.bbtr _ _ _ _ _ hn h1 h2,fun p s' rs' hp hk he=> ?_,hI.atr _ _ _ h1 h2⟩;obtain⟨q1,q2⟩:=xb hp;have:=hI.inj _ _ _ _ _ _ q2 h1 hk h2 he;rw[this] at q1;exact q1 rfl
theorem DV (hI:eK w0 W bt S w) (r:Nat):tj bt { S with gh:=eh S.gh r none } (fun b=>b<w.heap.size/\ ¬nH bt S r b):=by refine⟨fun b hb=>⟨hI.alt b hb,fun h=>(mD hI h).A hb⟩,fun p s rs hp hk=>⟨hI.βlt (xb hp).2 hk,fun h=>(mD hI h).tr p s rs hp hk rfl⟩,fun n cs hn=>⟨hI.bblt (n:=n) hn,fun h=>(mD hI h).bx n cs hn rfl⟩⟩
def It (bt:Bt) (S:St) (w:World) (r:Nat):Bt:= { bt with β:=fun q=>bt.β ⟨r,q.l⟩,κ:=fun q=>bt.κ ⟨r,q.l⟩,nb:=0,ng:=1,A:=fun b=>b<w.heap.size/\ ¬nH bt S r b }
theorem Fl (hI:eK w0 W bt S w) {r:Nat} {t:T} (hr:S.gh r=some t):eK w (nH bt S r) (It bt S w r) (jY [t]) w:=by
 have lk: ∀ {p:eb} {s:Nat} {rs:List (List T)},(jY [t]).look p= .sl s rs->p.r=0/\S.look ⟨r,p.l⟩= .sl s rs:=by intro p s rs h;obtain⟨h1,h2⟩:=Fk h;exact⟨h1,by unfold St.look; simp only[hr]; exact h2⟩
 exact { os:=rfl,tape:=rfl,output:=rfl,size:=aw _,keep:=fun _ _ _=>rfl,nb:=rfl,ng:=rfl
         bx:=fun n cells h=>by cases h
         gh:=fun k x h=>by have h': [t][k]? =some x:=h;exact (ai.1 h').1
         tr:=fun p s rs h=>by
          obtain⟨h1,h2⟩:=lk h;obtain⟨g1,g2⟩:=hI.tr _ _ _ h2;refine⟨g1,fun hk=>⟨.inr ⟨p.l,s,rs,h2,hk,rfl⟩,?_⟩⟩;obtain⟨_,cs,e,k1,k2,k3,k4⟩:=g2 hk;refine⟨cs,e,k1,k2,k3,fun i row hi=> ?_⟩;obtain⟨m1,m2⟩:=k4 i row hi;refine⟨m1,fun j x hx=> ?_⟩;obtain⟨c,j1,j2⟩:=m2 j x hx;refine⟨c,j1,?_⟩;cases j2 with
          |sc h=>exact .sc h
          |dd u=>exact .dd _
          |sl hc hk ha=>exact .sl hc hk ha
         inj:=fun p q s rs s' rs' h h' hk hk' he=>by obtain⟨h1,h2⟩:=lk h;obtain⟨h3,h4⟩:=lk h';have:=hI.inj _ _ _ _ _ _ h2 h4 hk hk' he;obtain⟨pr,pl⟩:=p;obtain⟨qr,ql⟩:=q;simp only at*;simp only[eb.mk.injEq,true_and] at this;rw[h1,h3,this]
         bbinj:=fun n m cs cs' h=>by cases h
         bbtr:=fun n cs p s rs h=>by cases h
         alt:=fun b h=>h.1
         atr:=fun p s rs h hk ha=>ha.2 ⟨p.l,s,rs,(lk h).2,hk,rfl⟩
         abb:=fun n cs h=>by cases h }
theorem Fm (hI:eK w0 W bt S w) (hE:ER w bt S a) {o:Oper} {f x:Operand} {as:Array Operand} {ts:Array TypeId} (ho:o.op= .call { callee:= .value f,args:=as,argTypes:=ts }) {xs:List Operand} {us':List TypeId} (has:as.toList=x::xs) (hlen:us'.length=xs.length)
  {g:FuncId} {caps:List AV} (hc:callee S f=some (g,caps)) {r sz len:Nat} {tr:T} (hx:opd S x= .own ⟨r,[]⟩ sz 0 len) (hr:S.gh r=some tr) {m:Nat} {res:AV} {out:List T}
  (hS:ky P g (.own ⟨0,[]⟩ sz 0 len::oV P { S with gh:=eh S.gh r none } us' xs caps) [tr] m res out) {K:Act->World->Prop} {Q:Exit->Act->World->Prop}
  (h: ∀u w' btn,eK w (nH bt S r) btn (jY out) w'->m<=out.length->(∀p:eb,p.r<m->btn.β p=bt.β ⟨r,p.l⟩/\btn.κ p=bt.κ ⟨r,p.l⟩)->VR w' btn res u->K (a.put o.dst u) w'):o.wp P a w K Q:=by
 have hf:=ek hE f
 have fin: ∀us:List Value,a.eval f= .func (.func g) #[] us.toArray->us.length=caps.length->(∀ (k:Nat) (c:AV) (u:Value),caps[k]? =some c->us[k]? =some u->VR w bt c u)->o.wp P a w K Q:=by
  intro us he hl hcc;have hE':ER w bt { S with gh:=eh S.gh r none } a:=⟨hE.1,hE.2⟩
  obtain⟨h1,h2⟩:=zY (P:=P) (bt':=It bt S w r) (hI.drop r) hE' (DV hI r) rfl hlen hl hcc;have hI0:=Fl hI hr;have e0:as.toList.map a.eval++us=a.eval x:: (xs.map a.eval++us):=by rw[has]; rfl
  obtain⟨g1,g2⟩:=hS w _ _ (as.toList.map a.eval++us) hI0 (by rw[e0]; simp only[aY,h1]) (fun k v u hk hu=>by
   rw[e0] at hu;cases k with
   |zero=>
    simp only[aF,ae] at hk hu;subst hk hu;have hv:=ek hE x;rw[hx] at hv;generalize a.eval x=u at hv;cases hv with
    |own hp hc hk ha=>exact .own cN hc hk ha
   |succ k=>exact h2 k v u (by simpa using hk) (by simpa using hu))
  have hrun: (execOp a.eval o).run P w= .ok (.enter g (as.toList.map a.eval++us).toArray) w:=by
   have e:as.map a.eval++us.toArray=(as.toList.map a.eval++us).toArray:=by apply Array.ext'; simp
   obtain⟨dst,op,type,pos,after,guard⟩:=o;simp only at ho;subst ho;simp only[execOp,resolve,he,Deferred.ofValue,Sem.run_bind,Sem.run_pure,Result.andThen_ok,invoke,cL];rw[e];exact g1
  unfold Oper.wp;rw[hrun,Oper.upon_enter];refine Calls.mono g2 (fun e w' hh=> ?_);obtain⟨v,btn,rfl,k1,k2,k3,k4⟩:=hh;exact h v w' btn k1 k2 k3 k4
 unfold callee at hc;split at hc
 ·rename_i g' x y he;simp only[ae,al] at hc;obtain⟨rfl,rfl⟩:=hc;rw[he] at hf;generalize hu:a.eval f=u at hf fin;cases hf with
  |sc hs=>simp only[kt,ao,Array.isEmpty_iff] at hs;obtain⟨rfl,rfl⟩:=hs;exact fin [] rfl rfl (fun k c u h1 _=>by simp at h1)
 ·rename_i g' cs he;simp only[ae,al] at hc;obtain⟨rfl,rfl⟩:=hc;rw[he] at hf;generalize hu:a.eval f=u at hf fin;cases hf with
  |fn f hl hcc=>exact fin _ rfl hl hcc
 ·cases hc
theorem uR (hI:eK w0 W bt S w) {r:Nat} {out:List T} (hC:eK w (nH bt S r) btn (jY out) w'):mA w0 W bt { S with gh:=eh S.gh r none } w w':=by
 classical
 refine⟨hC.os,hC.tape,hC.output,hC.size,fun b hb=> ?_⟩;by_cases h:nH bt S r b
 ·exact .inr (mD hI h)
 ·exact .inl (hC.keep b hb h)
theorem mE (hI:eK w0 W bt S w) {r:Nat} {out:List T} (hC:eK w (nH bt S r) btn (jY out) w') {p:eb} {s:Nat} {rs:List (List T)} (hp: (jY out).look p= .sl s rs) (hk:0<btn.κ p):
  (w0.heap.size<=btn.β p\/W (btn.β p))/\(∀n cs,S.bx n=some cs->bt.bb n≠btn.β p)/\(∀q s rs,({ S with gh:=eh S.gh r none }:St).look q= .sl s rs->0<bt.κ q->bt.β q≠btn.β p)/\ ¬bt.A (btn.β p):=by
 rcases ((hC.tr p s rs hp).2 hk).1 with h|h
 ·obtain⟨g1,g2,g3⟩:=(hI.drop r).fresh h;exact⟨.inl (bE hI.size h),g1,g2,g3⟩
 ·have:=mD hI h;exact⟨this.ours,this.bx,this.tr,this.A⟩
theorem BS (hI:eK w0 W bt S w) (hE:ER w bt S a) (hfz:S.fz<=S.ng) {r:Nat} (hr:S.fz<=r) {res:AV} {out:List T} {u:Value} (hC:eK w (nH bt S r) btn (jY out) w') (hv:VR w' btn res u):
  ∃bt',fX w0 W bt S a bt' (kv { S with gh:=eh S.gh r none } (res,out)).2 w'/\VR w' bt' (kv { S with gh:=eh S.gh r none } (res,out)).1 u:=by
 have hg:=uR hI hC
 have hi:=((hI.drop r).change hg).addRoots btn out (fun p s rs h=>by obtain⟨h1,h2⟩:=hC.tr p s rs h;exact⟨h1,fun hk=>⟨(mE hI hC h hk).1,(h2 hk).2⟩⟩) hC.inj (fun p s rs h hk=>(mE hI hC h hk).2)
 have hle:=Bt.le_add bt btn out.length;refine⟨_,⟨hi,⟨hE.1,fun t=>(hE.2 t).mono hle (hg.A (hI.drop r))⟩,rfl,trivial,dn _ _,fun p hp=> ?_,fun k hk hn=> ?_⟩,zH hC.ng hI.ng hv⟩
 ·exact⟨hle.β p (by rw[hI.ng]; omega),hle.κ p (by rw[hI.ng]; omega)⟩
 ·have : (if S.ng<=k/\k<S.ng+out.length then out[k-S.ng]? else eh S.gh r none k)=none:=hn;rw[if_neg (by omega)] at this;unfold eh at this
  rwa [if_neg (by omega)] at this
def AV.plain:AV->Bool
 | .sc _=>true
 | .tup [] =>true
 | _=>false
theorem VR.plain {bt':Bt} {v:AV} {u:Value} (h:VR w bt v u) (hp:v.plain=true):VR w bt' v u:=by
 cases h with
 |sc h=>exact .sc h
 |tup hl h=>
  rename_i cs us;cases cs with
  |nil=>exact .tup hl (fun k c u h1=>by simp at h1)
  |cons c cs=>cases hp
 | _=>cases hp
theorem BT (hI:eK w0 W bt S w) (hE:ER w bt S a) {r:Nat} {t:T} (hrg:r<S.ng) {res:AV} {u:Value} (hC:eK w (nH bt S r) btn (jY [t]) w') (hB: ∀p:eb,p.r<1->btn.β p=bt.β ⟨r,p.l⟩/\btn.κ p=bt.κ ⟨r,p.l⟩) (hv:VR w' btn res u) (hp:res.plain=true):
  fX w0 W bt S a bt { S with gh:=eh S.gh r (some t) } w'/\VR w' bt res u:=by
 have hg:=uR hI hC;have hi:=(hI.drop r).change hg
 have lk: ∀ {p:eb} {s:Nat} {rs:List (List T)},({ S with gh:=eh S.gh r (some t) }:St).look p= .sl s rs->(p.r=r/\(jY [t]).look ⟨0,p.l⟩= .sl s rs)\/(p.r≠r/\({ S with gh:=eh S.gh r none }:St).look p= .sl s rs):=by
  intro p s rs h;unfold St.look at h;simp only[eh] at h;by_cases hp:p.r=r
  ·rw[if_pos hp] at h;exact .inl ⟨hp,by unfold St.look jY; exact h⟩
  ·rw[if_neg hp] at h;right;refine⟨hp,?_⟩;unfold St.look;simp only[eh];rw[if_neg hp];exact h
 have eβ: ∀ {p:eb},p.r=r->btn.β ⟨0,p.l⟩=bt.β p:=fun {p} h=>by rw[(hB ⟨0,p.l⟩ cN).1,<-h]
 have eκ: ∀ {p:eb},p.r=r->btn.κ ⟨0,p.l⟩=bt.κ p:=fun {p} h=>by rw[(hB ⟨0,p.l⟩ cN).2,<-h]
 refine⟨⟨{ os:=hi.os,tape:=hi.tape,output:=hi.output,size:=hi.size,keep:=hi.keep,nb:=hi.nb,ng:=hi.ng
           bx:=hi.bx
           gh:=fun k x h=>by
            have h':eh S.gh r (some t) k=some x:=h;unfold eh at h';split at h'
            ·rename_i e; rw[e]; exact hrg
            ·exact hI.gh _ _ h'
           tr:=fun p s rs h=>by
            rcases lk h with ⟨e,h'⟩| ⟨e,h'⟩
            ·obtain⟨h1,h2⟩:=hC.tr _ _ _ h';rw[eκ e] at h1 h2;refine⟨h1,fun hk=>⟨?_,?_⟩⟩
             ·have:=(mE hI hC h' (by rw[eκ e]; exact hk)).1
              rwa [eβ e] at this
             ·obtain⟨_,cs,ee,k1,k2,k3,k4⟩:=h2 hk;refine⟨cs,ee,by rw[<-eβ e]; exact k1,by rw[<-eκ e]; exact k2,k3,fun i row hi=> ?_⟩;obtain⟨m1,m2⟩:=k4 i row hi;refine⟨m1,fun j x hx=> ?_⟩;obtain⟨c,j1,j2⟩:=m2 j x hx;refine⟨c,j1,?_⟩;have e1:btn.β ((⟨0,p.l⟩:eb).sub i j)=bt.β (p.sub i j):=eβ (p:=p.sub i j) e;have e2:btn.κ ((⟨0,p.l⟩:eb).sub i j)=bt.κ (p.sub i j):=eκ (p:=p.sub i j) e;cases j2 with
              |sc h=>exact .sc h
              |dd u=>exact .dd _
              |sl hc hk ha=>exact .sl hc (by rw[<-e2]; exact hk) (by rw[<-e1]; exact ha)
            ·exact hi.tr _ _ _ h'
           inj:=fun p q s rs s' rs' h h' hk hk' he=>by
            rcases lk h with ⟨e,g⟩| ⟨e,g⟩<;>rcases lk h' with ⟨e',g'⟩| ⟨e',g'⟩
            ·rw[<-eκ e] at hk; rw[<-eκ e'] at hk'; rw[<-eβ e,<-eβ e'] at he;have:=hC.inj _ _ _ _ _ _ g g' hk hk' he;obtain⟨pr,pl⟩:=p;obtain⟨qr,ql⟩:=q;simp only[eb.mk.injEq,true_and] at*;exact⟨by rw[e,e'],this⟩
            ·rw[<-eκ e] at hk; rw[<-eβ e] at he;exact absurd he.symm ((mE hI hC g hk).2.2.1 _ _ _ g' hk')
            ·rw[<-eκ e'] at hk'; rw[<-eβ e'] at he;exact absurd he ((mE hI hC g' hk').2.2.1 _ _ _ g hk)
            ·exact hi.inj _ _ _ _ _ _ g g' hk hk' he
           bbinj:=hi.bbinj
           bbtr:=fun n cs p s rs h h' hk=>by
            rcases lk h' with ⟨e,g⟩| ⟨e,g⟩
            ·rw[<-eκ e] at hk; rw[<-eβ e];exact (mE hI hC g hk).2.1 n cs h
            ·exact hi.bbtr _ _ _ _ _ h g hk
           alt:=hi.alt
           atr:=fun p s rs h hk=>by
            rcases lk h with ⟨e,g⟩| ⟨e,g⟩
            ·rw[<-eκ e] at hk; rw[<-eβ e];exact (mE hI hC g hk).2.2.2
            ·exact hi.atr _ _ _ g hk
           abb:=hi.abb },⟨hE.1,fun x=>(hE.2 x).mono (Bt.le.refl _) (hg.A (hI.drop r))⟩,rfl,trivial,aw _,fun _ _=>⟨rfl,rfl⟩,fun k hk hn=> ?_⟩,hv.plain hp⟩
 have :eh S.gh r (some t) k=none:=hn;unfold eh at this;split at this
 ·cases this
 ·exact this
theorem nZ.hand {Post:St->Prop} {ops:Array Oper} {o:Oper} {l:List Oper} {f x:Operand} {as:Array Operand} {ts:Array TypeId} (ho:o.op= .call { callee:= .value f,args:=as,argTypes:=ts }) (hgd:o.guard=none) {xs:List Operand} {us':List TypeId} (has:as.toList=x::xs) (hlen:us'.length=xs.length)
  {g:FuncId} {caps:List AV} (hc:callee S f=some (g,caps)) {r sz len:Nat} {tr:T} (hx:opd S x= .own ⟨r,[]⟩ sz 0 len) (hr:S.gh r=some tr) {m:Nat} {res:AV} {out:List T}
  (hS:ky P g (.own ⟨0,[]⟩ sz 0 len::oV P { S with gh:=eh S.gh r none } us' xs caps) [tr] m res out)
  (h: (S.fz<=r/\ ∃S1,(kv { S with gh:=eh S.gh r none } (res,out)).2.put o.dst (shift S.ng res)=some S1/\nZ P ops l S1 Post)\/(m=1/\ ∃t',out= [t'] /\res.plain=true/\ ∃S1,({ S with gh:=eh S.gh r (some t') }:St).put o.dst res=some S1/\nZ P ops l S1 Post)):nZ P ops (o::l) S Post:=by
 intro k w0 W btI SI bt a w Q hd hl hK
 have hko:ops.toList[k]? =some o:=by have:=congrArg (fun x:List Oper=>x[0]?) hd;simpa [aN] using this
 have hko':ops[k]? =some o:=by simpa using hko
 have hd':ops.toList.drop (k+1)=l:=by rw[<-b8,hd];rfl
 have hw:=jf (ops:=ops) (o:=o) (b:=true) hl.er (by unfold jL; rw[hgd]);simp only[aY,ci];unfold wpOps;rw[hko'];simp only;rw[hw,if_pos rfl];left;refine Fm hl.inv hl.er ho has hlen hc hx hr hS (fun u w' btn hC _ hB hv=> ?_);rcases h with ⟨hfr,S1,h1,h2⟩| ⟨rfl,t',rfl,hp,S1,h1,h2⟩
 ·obtain⟨bt',g1,g2⟩:=BS hl.inv hl.er hl.fzng hfr hC hv;exact h2 (k+1) hd' ((hl.left g1).put g2 h1) hK
 ·obtain⟨g1,g2⟩:=BT hl.inv hl.er (hl.inv.gh _ _ hr) hC hB hv hp;exact h2 (k+1) hd' ((hl.left g1).put g2 h1) hK
theorem zZ (hI:eK w0 W bt S w) (hE:ER w bt S a) {t el:TypeId} {z:Value} (hel:o6 P t=some el) (hze:se P el=some [z]) (hsc:kt z=true) {r lo len:Nat} {rows:List (List T)} {u:Value} (hv:VR w bt (.own ⟨r,[]⟩ 1 lo len) u) (hr:S.gh r=some (.sl 1 rows)) (hle:lo+len<=rows.length) (ty:TypeId):
  ∃w',(Builtin.clear_ #[t] ty #[u]).run P w= .ok (.tuple #[]) w'/\fX w0 W bt S a bt { S with gh:=eh S.gh r (some (.sl 1 (rows.take lo++List.replicate len [.sc z] ++rows.drop (lo+len)))) } w':=by
 have hlook:S.look ⟨r,[]⟩= .sl 1 rows:=by unfold St.look; simp only[hr]; rfl
 obtain⟨ti,zv,hi,hz,hzc,hzo⟩:=jM hze
 have same: ({ S with gh:=eh S.gh r (some (.sl 1 rows)) }:St)=S:=by
  have :eh S.gh r (some (.sl 1 rows))=S.gh:=by
   funext k
   unfold eh;split
   ·rename_i e; rw[e,hr]
   ·rfl
  rw[this]
 cases hv with
 |own hp hc hk ha=>
  rename_i ad cap;rcases bc len with h0|h0
  ·subst h0;refine⟨w,by cases ad<;>simp[Builtin.clear_,run_underlying (gK hel)],?_⟩;have :rows.take lo++List.replicate 0 [T.sc z] ++rows.drop (lo+0)=rows:=by simp
   rw[this,same];exact⟨hI,hE,rfl,trivial,aw _,fun _ _=>⟨rfl,rfl⟩,fun _ _ h=>h⟩
  ·have had:=ha (by omega);subst had;obtain⟨hlen,hrest⟩:=hI.tr _ _ _ hlook;have hk0:0<bt.κ ⟨r,[]⟩:=by omega
   obtain⟨_,arr,e,hh,hκs,hone,hcell⟩:=hrest hk0
   have hcz:Builtin.zeroCells zv.cells len=(List.replicate len z).toArray:=by
    have hzs:zv.cells= #[z] :=by apply Array.ext'; exact hzc.symm
    rw[hzs];apply Array.ext
    ·simp[Builtin.zeroCells]
    ·intro k h1 h2;simp[Builtin.zeroCells,Nat.mod_one]
   have hz1:z.oneCell'=true:=by have:=au.1 hzo z (by rw[<-hzc]; exact ay.2 rfl);exact this
   have hst:=run_storeCells_at P (bt.β ⟨r,[]⟩) (lo*1) e (List.replicate len z) 0 arr w hh (by simp; omega) (fun v hv=>by rw[(List.mem_replicate.1 hv).2]; exact hz1);generalize hcs: (arr.toList.take (lo*1+0)++List.replicate len z++arr.toList.drop (lo*1+0+(List.replicate len z).length)).toArray=cs at hst
   have hcs': ∀k,cs[k]? =if k<lo then arr[k]? else if k<lo+len then some z else arr[k]? :=by
    intro k;have:=l4 arr.toList (List.replicate len z) lo (by simp; omega) k;rw[<-hcs];simp only[dt,Nat.mul_one,ca] at this ⊢;simp only[cy,this,cj];by_cases q1:k<lo
    ·rw[if_pos q1,if_pos q1]
    ·rw[if_neg q1,if_neg q1];by_cases q2:k<lo+len
     ·rw[if_pos q2,if_pos q2,cI,if_pos (by omega)]
     ·rw[if_neg q2,if_neg q2]
   have hsize:cs.size=arr.size:=by rw[<-hcs];simp;omega
   have hrg: ∀i,(rows.take lo++List.replicate len [T.sc z] ++rows.drop (lo+len))[i]? =if i<lo then rows[i]? else if i<lo+len then some [T.sc z] else rows[i]? :=by
    intro i;have:=l4 rows (List.replicate len [T.sc z]) lo (by simp; omega) i;simp only[dt] at this;rw[this];by_cases q1:i<lo
    ·rw[if_pos q1,if_pos q1]
    ·rw[if_neg q1,if_neg q1];by_cases q2:i<lo+len
     ·rw[if_pos q2,if_pos q2,cI,if_pos (by omega)]
     ·rw[if_neg q2,if_neg q2]
   obtain⟨hI',hA⟩:=hI.setTree (rows:=rows.take lo++List.replicate len [.sc z] ++rows.drop (lo+len)) (cs:=cs) hlook hk0 hh hsize
    (fun k x hk=>by
      rw[hcs'] at hk;split at hk
      ·exact hone _ _ hk
      ·split at hk
       ·simp only[ae] at hk;rw[<-hk];exact hz1
       ·exact hone _ _ hk)
    (by simp; omega)
    (fun i row hrow=>by
      rw[hrg] at hrow
      have old:rows[i]? =some row->(∀k,k<1-> ¬ (lo<=i/\i<lo+len))->row.length=1/\ ∀ (j:Nat) (x:T),row[j]? =some x->(∃c,cs[i*1+j]? =some c/\HR bt ((⟨r,[]⟩:eb).sub i j) x c)/\((∃v,x= .sc v)\/x= .dd\/ ∃r0,rows[i]? =some r0/\r0[j]? =some x):=by
       intro h1 h2;obtain⟨k1,k2⟩:=hcell i row h1;refine⟨k1,fun j x hx=>⟨?_, .inr (.inr ⟨row,h1,hx⟩)⟩⟩;obtain⟨c,m1,m2⟩:=k2 j x hx;have hj:j<row.length:=(ai.1 hx).1;refine⟨c,?_,m2⟩;have:=h2 0 cN;rw[hcs'];by_cases q1:i*1+j<lo
       ·rw[if_pos q1]; exact m1
       ·rw[if_neg q1,if_neg (by omega)]; exact m1
      by_cases q1:i<lo
      ·rw[if_pos q1] at hrow;exact old hrow (fun _ _=>by omega)
      ·rw[if_neg q1] at hrow;by_cases q2:i<lo+len
       ·rw[if_pos q2] at hrow;simp only[ae] at hrow;subst hrow;refine⟨rfl,fun j x hx=> ?_⟩;cases j with
        |zero=>simp only[aF,ae] at hx;subst hx;exact⟨⟨z,by rw[hcs',if_neg (by omega),if_pos (by omega)], .sc hsc⟩, .inl ⟨z,rfl⟩⟩
        |succ j=>simp at hx
       ·rw[if_neg q2] at hrow;exact old hrow (fun _ _=>by omega))
   have hset:S.setAt ⟨r,[]⟩ (.sl 1 (rows.take lo++List.replicate len [.sc z] ++rows.drop (lo+len)))= { S with gh:=eh S.gh r (some (.sl 1 (rows.take lo++List.replicate len [.sc z] ++rows.drop (lo+len)))) } :=by unfold St.setAt;simp only[hr,az];rfl
   rw[hset] at hI';refine⟨_,?_,⟨hI',⟨hE.1,fun t=>(hE.2 t).mono (Bt.le.refl _) hA⟩,rfl,trivial,aw _,fun _ _=>⟨rfl,rfl⟩,fun k hk hn=> ?_⟩⟩
   ·obtain⟨n,rfl⟩: ∃n,len=n+1:=⟨len-1,by omega⟩
    rw[Nat.mul_one] at hst;simp[Builtin.clear_,run_underlying (gK hel),zeroValue,typeInfo,hi,hz,hcz,hst]
   ·have hn':eh S.gh r (some (.sl 1 (rows.take lo++List.replicate len [.sc z] ++rows.drop (lo+len)))) k=none:=hn;unfold eh at hn';split at hn'
    ·cases hn'
    ·exact hn'
theorem nZ.clear {Post:St->Prop} {ops:Array Oper} {o:Oper} {l:List Oper} {x:Operand} {t el:TypeId} {z:Value} (ho:o.op= .call { callee:= .builtin .clear,args:= #[x],argTypes:= #[t] }) (hgd:o.guard=none) (hel:o6 P t=some el) (hze:se P el=some [z]) (hsc:kt z=true)
  {r lo len:Nat} {rows:List (List T)} (hx:opd S x= .own ⟨r,[]⟩ 1 lo len) (hr:S.gh r=some (.sl 1 rows)) (hle:lo+len<=rows.length)
  (h: ∃S1,({ S with gh:=eh S.gh r (some (.sl 1 (rows.take lo++List.replicate len [.sc z] ++rows.drop (lo+len)))) }:St).put o.dst (.tup [])=some S1/\nZ P ops l S1 Post):nZ P ops (o::l) S Post:=by
 intro k w0 W btI SI bt a w Q hd hl hK
 have hko:ops.toList[k]? =some o:=by have:=congrArg (fun x:List Oper=>x[0]?) hd;simpa [aN] using this
 have hko':ops[k]? =some o:=by simpa using hko
 have hd':ops.toList.drop (k+1)=l:=by rw[<-b8,hd];rfl
 have hw:=jf (ops:=ops) (o:=o) (b:=true) hl.er (by unfold jL; rw[hgd]);have hv:=ek hl.er x;rw[hx] at hv;obtain⟨w',g1,g2⟩:=zZ hl.inv hl.er hel hze hsc hv hr hle o.type
 have hrun: (execOp a.eval o).run P w= .ok (.value (.tuple #[])) w':=by obtain⟨dst,op,type,pos,after,guard⟩:=o;simp only at ho;subst ho;simp[execOp,resolve,invoke,builtin,g1]
 simp only[aY,ci];unfold wpOps;rw[hko'];simp only;rw[hw,if_pos rfl];left;unfold Oper.wp;rw[hrun,Oper.upon_value];obtain⟨S1,k1,k2⟩:=h;exact k2 (k+1) hd' ((hl.left g2).put (.tup rfl (fun k c u h=>by simp at h)) k1) hK
def DW (n:Nat) (args:List AV) (gs:List T) (m:Nat):St:= { wn n args gs with fz:=m }
theorem z6 {f:FuncId} {fn:Func} {c:Code} (hfn:zW P f=some fn) (hc:fn.body=some c) {args:List AV} {gs:List T} {m:Nat} (hm:m<=gs.length) {res:AV} {out:List T}
  (h:lM P c (DW fn.ntmps args gs m) (fun x S=>match x with | .ext _=>False| _=>tM P fn.results.toList fn.resultTypes.toList m S=some (res,out))):ky P f args gs m res out:=by
 intro w W bt0 vals hI hl hv
 obtain⟨hf,hname,hcok⟩:P.funcs[f]? =some fn/\(fn.name== "runtime.NumGoroutine")=false/\iH P c=true:=by
  unfold zW at hfn;simp only[aj] at hfn;obtain⟨fn',g1,g2⟩:=hfn;split at g2
  ·cases g2
  ·rename_i c' hc';split at g2
   ·cases g2
   ·rename_i hn;simp only[ae] at g2;subst g2;rw[hc] at hc';simp only[ae] at hc';subst hc';simp only[bg,not_or,dq,de] at hn;exact⟨g1,hn.1,hn.2⟩
 have hname': ¬fn.name= "runtime.NumGoroutine" :=by simpa using hname
 refine⟨by simp[callFunc,hf,hname',hc],calls_of_wp hf hc ?_⟩
 have h0:Lv w W bt0 (DW fn.ntmps args gs m) bt0 (DW fn.ntmps args gs m) { tmps:=vals.toArray++Array.replicate (fn.ntmps-vals.toArray.size) undef,defers:= [] } w:=by
  refine⟨{ os:=hI.os,tape:=hI.tape,output:=hI.output,size:=hI.size,keep:=hI.keep,nb:=hI.nb,ng:=hI.ng,bx:=hI.bx,gh:=hI.gh,tr:=hI.tr,inj:=hI.inj,bbinj:=hI.bbinj,bbtr:=hI.bbtr,alt:=hI.alt,atr:=hI.atr,abb:=hI.abb },
   ⟨by simp[hl]; rfl,fun t=> ?_⟩,rfl,rfl,hm,fun _ _=>⟨rfl,rfl⟩,fun _ _ h=>h⟩
  show VR w bt0 (args.getD t .dead) _;cases ha:args[t]? with
  |none=>simp only[ar,ha,cW];exact .dead _
  |some v=>
   have ht:=(ai.1 ha).1;have hvt:vals[t]? =some (vals[t]'(by omega)):=ah _
   have : (vals.toArray++Array.replicate (fn.ntmps-vals.toArray.size) undef).getD t undef=vals[t]'(by omega):=by rw[aQ,bW (by simp; omega)];simp[hvt]
   rw[this];simp only[ar,ha,aK];exact hv t v _ ha hvt
 refine h h0 (fun x S1 bt' a' w' h2 h'=> ?_)
 have fin:tM P fn.results.toList fn.resultTypes.toList m S1=some (res,out)-> ∃v,(results fn a'.tmps).run P w'= .ok v w'/\ ∃v' btn,Ending.returned v= .returned v'/\eK w W btn (jY out) w'/\m<=out.length/\(∀p:eb,p.r<m->btn.β p=bt0.β p/\btn.κ p=bt0.κ p)/\VR w' btn res v':=by
  intro h2;unfold tM at h2;simp only[aj] at h2;obtain⟨vs,h3,h4⟩:=h2;split at h4
  ·rename_i hlen;simp only[ak,Prod.exists,al] at h4;obtain⟨vs',out',h5,rfl,rfl⟩:=h4;obtain⟨us,g1,g2,g3⟩:=th h'.inv h'.er h3;have hfz:S1.fz=m:=h'.fz
   have hx0:Ex S1 S1 ((List.range m).map fun r=>(S1.gh r).getD .dd) ((List.range m).map some):=by
    refine⟨by simp,fun _ _ h=>h,rfl,fun k t hk=> ?_,fun j k r hj hk=> ?_,fun k r hk=> ?_⟩
    ·simp only[an,ak] at hk;obtain⟨r,hr,rfl⟩:=hk
     have :r=k/\k<m:=by rw[ai] at hr;obtain⟨q1,q2⟩:=hr;simp at q1 q2;exact⟨q2.symm,q1⟩
     obtain⟨rfl,hk⟩:=this;refine .inl ⟨r,by simp[hk],fun m s rs hg=>⟨rs,?_,aw _,fun _ _ h=>h⟩⟩;cases hgh:S1.gh r with
     |none=>have:=h'.gone r hk hgh;simp[DW,wn] at this;omega
     |some t=>rw[hgh] at hg;unfold St.look;rw[hgh];exact hg
    ·simp only[an,ak,ae] at hj hk;obtain⟨r1,h1,rfl⟩:=hj;obtain⟨r2,h2,rfl⟩:=hk;rw[ai] at h1 h2;obtain⟨_,h1⟩:=h1;obtain⟨_,h2⟩:=h2;simp at h1 h2;omega
    ·simp only[an,ak,ae] at hk;obtain⟨r1,h1,rfl⟩:=hk;left;rw[ai] at h1;obtain⟨h0,h1⟩:=h1;simp at h0 h1;omega
   obtain⟨τ,S2,e1,e2,e3⟩:=uP (bt:=bt') (w:=w') _ us _ _ _ _ _ hx0 (by simp[g1,hlen]) (fun k tv u hk hu=>by rw[List.getElem?_zip_eq_some] at hk;exact g2 k tv.2 u hk.2 hu) h5
   have hout:=h'.inv.out e1
   have hlo:m<=out'.length:=by rw[<-e1.len];simp
   refine⟨_,g3,_,_,rfl,hout,hlo,fun p hp=> ?_,?_⟩
   ·have hσ: ((List.range m).map some++τ)[p.r]? =some (some p.r):=by
     rw[aJ (by simpa using hp)];simp[hp]
    have:=h'.keep p hp;simp only[lL,hσ];exact this
   ·match vs',us,e2,e3 with
    | [v],[u],_,e3=>exact e3 0 v u rfl rfl
    | [],[],_,e3=>exact .tup rfl (fun k c u hk=>by simp at hk)
    |v::v'::vs',u::u'::us,e2,e3=>exact .tup e2 e3
  ·cases h4
 simp only at h2;cases x with
 |ext i=>simp at h2
 |nor=>exact⟨h'.defers,fin h2⟩
 |ret=>exact⟨h'.defers,fin h2⟩
end
end
section
open Go Go.RowKit
section
variable {P:Program} {w0 w w':World} {W:Nat->Prop} {bt btn:Bt} {S Sm Sp:St} {a:Act} {ps:List eb} {ts out:List T}
structure uS (S:St) (ps:List eb) (ts:List T):Prop where
 len:ts.length=ps.length
 here: ∀ (k:Nat) (p:eb),ps[k]? =some p-> ∃s rows,ts[k]? =some (.sl s rows)/\S.look p= .sl s rows
 apart: ∀ (k k':Nat) (p p':eb) (l l':List (Nat×Nat)),ps[k]? =some p->ps[k']? =some p'->p.r=p'.r->p.l++l=p'.l++l'->k=k'
def zm (ps:List eb) (q:eb):eb:=match ps[q.r]? with |some p=>⟨p.r,p.l++q.l⟩|none=>q
theorem sA {q p:eb} (h:ps[q.r]? =some p):zm ps q=⟨p.r,p.l++q.l⟩:=by unfold zm; rw[h]
theorem uS.look (hG:uS S ps ts) {q:eb} {s:Nat} {rs:List (List T)} (h: (jY ts).look q= .sl s rs): ∃p,ps[q.r]? =some p/\S.look ⟨p.r,p.l++q.l⟩= .sl s rs:=by
 unfold St.look jY at h;simp only at h;cases ht:ts[q.r]? with
 |none=>rw[ht] at h; cases h
 |some t=>
  rw[ht] at h;simp only at h;have hlt:q.r<ps.length:=by rw[<-hG.len]; exact (ai.1 ht).1
  have hp:ps[q.r]? =some ps[q.r] :=ah hlt;obtain⟨s0,rows0,h1,h2⟩:=hG.here _ _ hp;rw[ht] at h1;cases h1;refine⟨_,hp,?_⟩;unfold St.look at h2 ⊢;cases hg:S.gh (ps[q.r]).r with
  |none=>rw[hg] at h2; cases h2
  |some t0=>rw[hg] at h2;simp only at h2 ⊢;rw[T.go_append,h2];exact h
theorem uS.inj (hG:uS S ps ts) {q q' p p':eb} (h:ps[q.r]? =some p) (h':ps[q'.r]? =some p') (he: (⟨p.r,p.l++q.l⟩:eb)=⟨p'.r,p'.l++q'.l⟩):q=q':=by simp only[eb.mk.injEq] at he;have hk:=hG.apart _ _ _ _ _ _ h h' he.1 he.2;obtain⟨qr,ql⟩:=q;obtain⟨qr',ql'⟩:=q';simp only at hk h h' he;subst hk;rw[h] at h';cases h';rw[List.append_cancel_left he.2]
def nn (bt:Bt) (S:St) (ps:List eb) (b:Nat):Prop:= ∃p∈ps,∃l s rs,S.look ⟨p.r,p.l++l⟩= .sl s rs/\0<bt.κ ⟨p.r,p.l++l⟩/\bt.β ⟨p.r,p.l++l⟩=b
structure G7 (S Sm:St) (ps:List eb):Prop where
 env:Sm.env=S.env
 bx:Sm.bx=S.bx
 nt:Sm.nt=S.nt
 look: ∀ (q:eb) (s:Nat) (rs:List (List T)),Sm.look q= .sl s rs->(∀p∈ps,¬oU p q)/\ ∃rs0,S.look q= .sl s rs0
theorem BU (hI:eK w0 W bt S w) {q:eb} {s:Nat} {rs:List (List T)} (hq:S.look q= .sl s rs) (hk:0<bt.κ q) (hn: ∀p∈ps,¬oU p q): ¬nn bt S ps (bt.β q):=by
 rintro⟨p,hp,l,s',rs',h1,h2,h3⟩
 have:=hI.inj _ _ _ _ _ _ h1 hq h2 hk h3;subst this;exact hn p hp ⟨rfl,dA _ _⟩
theorem BV (hI:eK w0 W bt S w) (hR:G7 S Sm ps):tj bt Sm (fun b=>b<w.heap.size/\ ¬nn bt S ps b):=by
 refine⟨fun b hb=>⟨hI.alt b hb,?_⟩,fun p s rs hp hk=> ?_,fun n cs hn=> ?_⟩
 ·rintro⟨p,hp,l,s',rs',h1,h2,rfl⟩
  exact hI.atr _ _ _ h1 h2 hb
 ·obtain⟨h1,rs0,h2⟩:=hR.look p s rs hp;exact⟨hI.βlt h2 hk,BU hI h2 hk h1⟩
 ·rw[hR.bx] at hn;refine⟨hI.bblt (n:=n) hn,?_⟩
  rintro⟨p,hp,l,s',rs',h1,h2,h3⟩
  exact hI.bbtr _ _ _ _ _ hn h1 h2 h3.symm
def handG (bt:Bt) (S:St) (w:World) (ps:List eb):Bt:= { bt with β:=fun q=>bt.β (zm ps q),κ:=fun q=>bt.κ (zm ps q),nb:=0,ng:=ps.length,A:=fun b=>b<w.heap.size/\ ¬nn bt S ps b }
theorem DX (hI:eK w0 W bt S w) (hG:uS S ps ts):eK w (nn bt S ps) (handG bt S w ps) (jY ts) w:=by
 have lk: ∀ {q:eb} {s:Nat} {rs:List (List T)},(jY ts).look q= .sl s rs-> ∃p,ps[q.r]? =some p/\zm ps q=⟨p.r,p.l++q.l⟩/\S.look (zm ps q)= .sl s rs:=by intro q s rs h;obtain⟨p,h1,h2⟩:=hG.look h;exact⟨p,h1,sA h1,by rw[sA h1]; exact h2⟩
 exact { os:=rfl,tape:=rfl,output:=rfl,size:=aw _,keep:=fun _ _ _=>rfl,nb:=rfl,ng:=by show ps.length=ts.length; rw[hG.len]
         bx:=fun n cells h=>by cases h
         gh:=fun k x h=>by have h':ts[k]? =some x:=h;exact (ai.1 h').1
         tr:=fun p s rs h=>by
          obtain⟨p0,h1,h2,h3⟩:=lk h;obtain⟨g1,g2⟩:=hI.tr _ _ _ h3;refine⟨g1,fun hk=>⟨.inr ⟨p0,aq h1,p.l,s,rs,by rw[<-h2]; exact h3,by rw[<-h2]; exact hk,by rw[<-h2]; rfl⟩,?_⟩⟩;obtain⟨_,cs,e,k1,k2,k3,k4⟩:=g2 hk;refine⟨cs,e,k1,k2,k3,fun i row hi=> ?_⟩;obtain⟨m1,m2⟩:=k4 i row hi;refine⟨m1,fun j x hx=> ?_⟩;obtain⟨c,j1,j2⟩:=m2 j x hx;refine⟨c,j1,?_⟩
          have hsub:zm ps (p.sub i j)=(zm ps p).sub i j:=by have :ps[(p.sub i j).r]? =some p0:=h1;rw[sA this,h2];simp[eb.sub,aU]
          have e1: (handG bt S w ps).β (p.sub i j)=bt.β ((zm ps p).sub i j):=by show bt.β _=_; rw[hsub]
          have e2: (handG bt S w ps).κ (p.sub i j)=bt.κ ((zm ps p).sub i j):=by show bt.κ _=_; rw[hsub]
          cases j2 with
          |sc h=>exact .sc h
          |dd u=>exact .dd _
          |sl hc hk ha=>exact .sl hc (by rw[e2]; exact hk) (by rw[e1]; exact ha)
         inj:=fun p q s rs s' rs' h h' hk hk' he=>by obtain⟨p0,h1,h2,h3⟩:=lk h;obtain⟨q0,h1',h2',h3'⟩:=lk h';have:=hI.inj _ _ _ _ _ _ h3 h3' hk hk' he;rw[h2,h2'] at this;exact hG.inj h1 h1' this
         bbinj:=fun n m cs cs' h=>by cases h
         bbtr:=fun n cs p s rs h=>by cases h
         alt:=fun b h=>h.1
         atr:=fun p s rs h hk ha=>by obtain⟨p0,h1,h2,h3⟩:=lk h;exact ha.2 ⟨p0,aq h1,p.l,s,rs,by rw[<-h2]; exact h3,by rw[<-h2]; exact hk,by rw[<-h2]; rfl⟩
         abb:=fun n cs h=>by cases h }
theorem DY (hI:eK w0 W bt S w) (hE:ER w bt S a) (hIm:eK w0 W bt Sm w) (hR:G7 S Sm ps) (hG:uS S ps ts) {o:Oper} {f x:Operand} {as:Array Operand} {tys:Array TypeId} (ho:o.op= .call { callee:= .value f,args:=as,argTypes:=tys }) {xs:List Operand} {us':List TypeId} (has:as.toList=x::xs) (hlen:us'.length=xs.length)
  {g:FuncId} {caps:List AV} (hc:callee S f=some (g,caps)) {av0:AV} (hx: ∀u,VR w bt (opd S x) u->VR w (handG bt S w ps) av0 u) {m:Nat} {res:AV}
  (hS:ky P g (av0::oV P Sm us' xs caps) ts m res out) {K:Act->World->Prop} {Q:Exit->Act->World->Prop}
  (h: ∀u w' btn,eK w (nn bt S ps) btn (jY out) w'->m<=out.length->(∀p:eb,p.r<m->btn.β p=bt.β (zm ps p)/\btn.κ p=bt.κ (zm ps p))->VR w' btn res u->K (a.put o.dst u) w'):o.wp P a w K Q:=by
 have hf:=ek hE f
 have fin: ∀us:List Value,a.eval f= .func (.func g) #[] us.toArray->us.length=caps.length->(∀ (k:Nat) (c:AV) (u:Value),caps[k]? =some c->us[k]? =some u->VR w bt c u)->o.wp P a w K Q:=by
  intro us he hl hcc;have hE':ER w bt Sm a:=⟨by rw[hR.nt]; exact hE.1,by rw[hR.env]; exact hE.2⟩
  obtain⟨h1,h2⟩:=zY (P:=P) (bt':=handG bt S w ps) hIm hE' (BV hI hR) rfl hlen hl hcc;have hI0:=DX hI hG;have e0:as.toList.map a.eval++us=a.eval x:: (xs.map a.eval++us):=by rw[has]; rfl
  obtain⟨g1,g2⟩:=hS w _ _ (as.toList.map a.eval++us) hI0 (by rw[e0]; simp only[aY,h1]) (fun k v u hk hu=>by
   rw[e0] at hu;cases k with
   |zero=>simp only[aF,ae] at hk hu;subst hk hu;exact hx _ (ek hE x)
   |succ k=>exact h2 k v u (by simpa using hk) (by simpa using hu))
  have hrun: (execOp a.eval o).run P w= .ok (.enter g (as.toList.map a.eval++us).toArray) w:=by
   have e:as.map a.eval++us.toArray=(as.toList.map a.eval++us).toArray:=by apply Array.ext'; simp
   obtain⟨dst,op,type,pos,after,guard⟩:=o;simp only at ho;subst ho;simp only[execOp,resolve,he,Deferred.ofValue,Sem.run_bind,Sem.run_pure,Result.andThen_ok,invoke,cL];rw[e];exact g1
  unfold Oper.wp;rw[hrun,Oper.upon_enter];refine Calls.mono g2 (fun e w' hh=> ?_);obtain⟨v,btn,rfl,k1,k2,k3,k4⟩:=hh;exact h v w' btn k1 k2 k3 k4
 unfold callee at hc;split at hc
 ·rename_i g' x y he;simp only[ae,al] at hc;obtain⟨rfl,rfl⟩:=hc;rw[he] at hf;generalize hu:a.eval f=u at hf fin;cases hf with
  |sc hs=>simp only[kt,ao,Array.isEmpty_iff] at hs;obtain⟨rfl,rfl⟩:=hs;exact fin [] rfl rfl (fun k c u h1 _=>by simp at h1)
 ·rename_i g' cs he;simp only[ae,al] at hc;obtain⟨rfl,rfl⟩:=hc;rw[he] at hf;generalize hu:a.eval f=u at hf fin;cases hf with
  |fn f hl hcc=>exact fin _ rfl hl hcc
 ·cases hc
structure G8 (S Sp:St) (ps:List eb) (out:List T):Prop where
 env:Sp.env=S.env
 bx:Sp.bx=S.bx
 nb:Sp.nb=S.nb
 ng:Sp.ng=S.ng
 fz:Sp.fz=S.fz
 nt:Sp.nt=S.nt
 gh: ∀ (r:Nat) (t:T),Sp.gh r=some t-> ∃t0,S.gh r=some t0
 gone: ∀r,Sp.gh r=none->S.gh r=none
 look: ∀ (q:eb) (s:Nat) (rs:List (List T)),Sp.look q= .sl s rs->(∃k p l,ps[k]? =some p/\q=⟨p.r,p.l++l⟩/\(jY out).look ⟨k,l⟩= .sl s rs)\/
  ((∀p∈ps,¬oU p q)/\ ∃rs0,S.look q= .sl s rs0/\rs.length=rs0.length/\ ∀ (i:Nat) (r:List T),rs[i]? =some r-> ∃r0,rs0[i]? =some r0/\r.length=r0.length/\
    ∀ (j:Nat) (y:T),r[j]? =some y-> ∃y0,r0[j]? =some y0/\(y=y0\/ ∃s1 ra rb,y= .sl s1 ra/\y0= .sl s1 rb/\ra.length=rb.length))
theorem z7 (hI:eK w0 W bt S w) (hE:ER w bt S a) (hB:G8 S Sp ps out) {res:AV} {u:Value} (hC:eK w (nn bt S ps) btn (jY out) w') (hβ: ∀p:eb,p.r<ps.length->btn.β p=bt.β (zm ps p)/\btn.κ p=bt.κ (zm ps p)) (hv:VR w' btn res u) (hp:res.plain=true):
  fX w0 W bt S a bt Sp w'/\VR w' bt res u:=by
 classical
 have keep: ∀b,b<w.heap.size-> ¬nn bt S ps b->w'.heap[b]? =w.heap[b]? :=hC.keep
 have hA: ∀b,bt.A b->w'.heap[b]? =w.heap[b]? :=fun b hb=>keep b (hI.alt b hb) (by
  rintro⟨p,hp,l,s',rs',h1,h2,rfl⟩
  exact hI.atr _ _ _ h1 h2 hb)
 have hbb: ∀n cs,S.bx n=some cs->w'.heap[bt.bb n]? =w.heap[bt.bb n]? :=fun n cs hn=>keep _ (hI.bblt (n:=n) hn) (by
  rintro⟨p,hp,l,s',rs',h1,h2,h3⟩
  exact hI.bbtr _ _ _ _ _ hn h1 h2 h3.symm)
 have inn: ∀ {k:Nat} {p:eb} {l:List (Nat×Nat)} {s:Nat} {rs:List (List T)},ps[k]? =some p->(jY out).look ⟨k,l⟩= .sl s rs->btn.β ⟨k,l⟩=bt.β ⟨p.r,p.l++l⟩/\btn.κ ⟨k,l⟩=bt.κ ⟨p.r,p.l++l⟩:=by intro k p l s rs hk _;have h1:=hβ ⟨k,l⟩ (ai.1 hk).1;have h2:zm ps ⟨k,l⟩=⟨p.r,p.l++l⟩:=sA (q:=⟨k,l⟩) hk;rw[h2] at h1;exact h1
 have sep: ∀ {c:eb} {s:Nat} {rs:List (List T)},(jY out).look c= .sl s rs->0<btn.κ c->w.heap.size<=btn.β c\/nn bt S ps (btn.β c):=fun h hk=>((hC.tr _ _ _ h).2 hk).1
 have sepL: ∀ {c:eb} {s:Nat} {rs:List (List T)} {q:eb} {s':Nat} {rs':List (List T)},(jY out).look c= .sl s rs->0<btn.κ c->S.look q= .sl s' rs'->0<bt.κ q->(∀p∈ps,¬oU p q)->bt.β q≠btn.β c:=by
  intro c s rs q s' rs' h hk hq hkq hn he;rcases sep h hk with h1|h1
  ·have:=hI.βlt hq hkq;omega
  ·rw[<-he] at h1;exact BU hI hq hkq hn h1
 refine⟨⟨{ os:=hC.os.trans hI.os,tape:=hC.tape.trans hI.tape,output:=hC.output.trans hI.output,size:=bE hI.size hC.size
           keep:=fun b h1 h2=>by
            rw[<-hI.keep b h1 h2];refine keep b (aW h1 hI.size) ?_
            rintro⟨p,hp,l,s',rs',g1,g2,rfl⟩
            rcases ((hI.tr _ _ _ g1).2 g2).1 with g|g
            ·omega
            ·exact h2 g
           nb:=by rw[hB.nb]; exact hI.nb
           ng:=by rw[hB.ng]; exact hI.ng
           bx:=fun n cells hn=>by rw[hB.bx] at hn;obtain⟨h1,h2,h3⟩:=hI.bx n cells hn;exact⟨by rw[hB.nb]; exact h1,h2,h3.mono (Bt.le.refl _) (by rw[hI.nb]; exact h1) hA (hbb n cells hn)⟩
           gh:=fun k x h=>by obtain⟨t0,h0⟩:=hB.gh k x h;rw[hB.ng];exact hI.gh _ _ h0
           tr:=fun q s rs h=>by
            rcases hB.look q s rs h with ⟨k,p,l,h1,rfl,h2⟩| ⟨hn,rs0,h2,h3,h4⟩
            ·obtain⟨e1,e2⟩:=inn h1 h2;obtain⟨g1,g2⟩:=hC.tr _ _ _ h2;rw[e2] at g1 g2;refine⟨g1,fun hk=>⟨?_,?_⟩⟩
             ·rcases (g2 hk).1 with g| ⟨p',hp',l',s',rs',k1,k2,k3⟩
              ·rw[e1] at g;exact .inl (bE hI.size g)
              ·rw[e1] at k3;rw[<-k3];exact ((hI.tr _ _ _ k1).2 k2).1
             ·obtain⟨_,cs,ee,k1,k2,k3,k4⟩:=g2 hk;refine⟨cs,ee,by rw[<-e1]; exact k1,by rw[<-e2]; exact k2,k3,fun i row hi=> ?_⟩;obtain⟨m1,m2⟩:=k4 i row hi;refine⟨m1,fun j x hx=> ?_⟩;obtain⟨c,j1,j2⟩:=m2 j x hx;refine⟨c,j1,?_⟩;have h5:=hβ ((⟨k,l⟩:eb).sub i j) (ai.1 h1).1
              have h6:zm ps ((⟨k,l⟩:eb).sub i j)=(⟨p.r,p.l++l⟩:eb).sub i j:=by rw[sA (q:=(⟨k,l⟩:eb).sub i j) h1];simp[eb.sub,aU]
              rw[h6] at h5;cases j2 with
              |sc h=>exact .sc h
              |dd u=>exact .dd _
              |sl hc hk ha=>exact .sl hc (by rw[<-h5.2]; exact hk) (by rw[<-h5.1]; exact ha)
            ·obtain⟨g1,g2⟩:=hI.tr _ _ _ h2;refine⟨by omega,fun hk=>⟨(g2 hk).1,?_⟩⟩;obtain⟨_,cs,ee,k1,k2,k3,k4⟩:=g2 hk;refine⟨cs,ee,by rw[keep _ (hI.βlt h2 hk) (BU hI h2 hk hn)]; exact k1,k2,k3,fun i row hi=> ?_⟩;obtain⟨r0,a1,a2,a3⟩:=h4 i row hi;obtain⟨b1,b2⟩:=k4 i r0 a1;refine⟨by omega,fun j y hy=> ?_⟩;obtain⟨y0,c1,c2⟩:=a3 j y hy;obtain⟨c,d1,d2⟩:=b2 j y0 c1;refine⟨c,d1,?_⟩;rcases c2 with rfl| ⟨s1,ra,rb,rfl,rfl,hab⟩
             ·exact d2
             ·exact d2.len hab
           inj:=fun q q' s rs s' rs' h h' hk hk' he=>by
            rcases hB.look q s rs h with ⟨k,p,l,h1,rfl,h2⟩| ⟨hn,rs0,h2,_,_⟩<;>rcases hB.look q' s' rs' h' with ⟨k',p',l',h1',rfl,h2'⟩| ⟨hn',rs0',h2',_,_⟩
            ·obtain⟨e1,e2⟩:=inn h1 h2;obtain⟨e1',e2'⟩:=inn h1' h2';have:=hC.inj _ _ _ _ _ _ h2 h2' (by rw[e2]; exact hk) (by rw[e2']; exact hk') (by rw[e1,e1']; exact he);simp only[eb.mk.injEq] at this;obtain⟨rfl,rfl⟩:=this;rw[h1] at h1';cases h1';rfl
            ·obtain⟨e1,e2⟩:=inn h1 h2;exact absurd (by rw[e1]; exact he.symm) (sepL h2 (by rw[e2]; exact hk) h2' hk' hn')
            ·obtain⟨e1',e2'⟩:=inn h1' h2';exact absurd (by rw[e1']; exact he) (sepL h2' (by rw[e2']; exact hk') h2 hk hn)
            ·exact hI.inj _ _ _ _ _ _ h2 h2' hk hk' he
           bbinj:=fun n m cs cs' h h' he=>by rw[hB.bx] at h h';exact hI.bbinj _ _ _ _ h h' he
           bbtr:=fun n cs q s rs h h' hk=>by
            rw[hB.bx] at h;rcases hB.look q s rs h' with ⟨k,p,l,h1,rfl,h2⟩| ⟨hn,rs0,h2,_,_⟩
            ·obtain⟨e1,e2⟩:=inn h1 h2;rcases sep h2 (by rw[e2]; exact hk) with g| ⟨p',hp',l',s',rs',k1,k2,k3⟩
             ·have:=hI.bblt (n:=n) h;rw[e1] at g;omega
             ·rw[e1] at k3;rw[<-k3];exact hI.bbtr _ _ _ _ _ h k1 k2
            ·exact hI.bbtr _ _ _ _ _ h h2 hk
           alt:=fun b hb=>aW (hI.alt b hb) hC.size
           atr:=fun q s rs h hk hb=>by
            rcases hB.look q s rs h with ⟨k,p,l,h1,rfl,h2⟩| ⟨hn,rs0,h2,_,_⟩
            ·obtain⟨e1,e2⟩:=inn h1 h2;rcases sep h2 (by rw[e2]; exact hk) with g| ⟨p',hp',l',s',rs',k1,k2,k3⟩
             ·have:=hI.alt _ hb;rw[e1] at g;omega
             ·rw[e1] at k3;rw[<-k3] at hb;exact hI.atr _ _ _ k1 k2 hb
            ·exact hI.atr _ _ _ h2 hk hb
           abb:=fun n cs h=>by rw[hB.bx] at h;exact hI.abb n cs h },⟨by rw[hB.nt]; exact hE.1,fun x=>by rw[hB.env]; exact (hE.2 x).mono (Bt.le.refl _) hA⟩,hB.fz,trivial,by rw[hB.ng]; exact aw _,fun _ _=>⟨rfl,rfl⟩,fun k _ hn=>hB.gone k hn⟩,hv.plain hp⟩
theorem nZ.handG {Post:St->Prop} {ops:Array Oper} {o:Oper} {l:List Oper} {f x:Operand} {as:Array Operand} {tys:Array TypeId} (ho:o.op= .call { callee:= .value f,args:=as,argTypes:=tys }) (hgd:o.guard=none) {xs:List Operand} {us':List TypeId} (has:as.toList=x::xs) (hlen:us'.length=xs.length)
  {g:FuncId} {caps:List AV} (hc:callee S f=some (g,caps)) (hR:G7 S Sm ps) (hIm: ∀ (w0:World) (W:Nat->Prop) (bt:Bt) (w:World),eK w0 W bt S w->eK w0 W bt Sm w) (hG:uS S ps ts) {av0:AV} (hx: ∀ (w:World) (bt:Bt) (u:Value),VR w bt (opd S x) u->VR w (handG bt S w ps) av0 u) {res:AV}
  (hS:ky P g (av0::oV P Sm us' xs caps) ts ps.length res out) (hB:G8 S Sp ps out) (hp:res.plain=true) (h: ∃S1,Sp.put o.dst res=some S1/\nZ P ops l S1 Post):nZ P ops (o::l) S Post:=by
 intro k w0 W btI SI bt a w Q hd hl hK
 have hko:ops.toList[k]? =some o:=by have:=congrArg (fun x:List Oper=>x[0]?) hd;simpa [aN] using this
 have hko':ops[k]? =some o:=by simpa using hko
 have hd':ops.toList.drop (k+1)=l:=by rw[<-b8,hd];rfl
 have hw:=jf (ops:=ops) (o:=o) (b:=true) hl.er (by unfold jL; rw[hgd]);simp only[aY,ci];unfold wpOps;rw[hko'];simp only;rw[hw,if_pos rfl];left;refine DY hl.inv hl.er (hIm _ _ _ _ hl.inv) hR hG ho has hlen hc (hx w bt) hS (fun u w' btn hC _ hβ hv=> ?_);obtain⟨S1,h1,h2⟩:=h;obtain⟨g1,g2⟩:=z7 hl.inv hl.er hB hC hβ hv hp;exact h2 (k+1) hd' ((hl.left g1).put g2 h1) hK
theorem BW {L:List Nat} (hl:ts.length=L.length) (hnd:L.Nodup) (h: ∀ (k r:Nat),L[k]? =some r-> ∃s rows,ts[k]? =some (.sl s rows)/\S.gh r=some (.sl s rows)):uS S (L.map fun r=>⟨r,[]⟩) ts:=by
 have nd: ∀ (k k' r:Nat),L[k]? =some r->L[k']? =some r->k=k':=by
  intro k k' r h1 h2;obtain⟨a1,a2⟩:=ai.1 h1;obtain⟨b1,b2⟩:=ai.1 h2;have hpw:=bR.1 hnd;rcases Nat.lt_trichotomy k k' with hlt|e|hlt
  ·exact absurd (a2.trans b2.symm) (hpw k k' a1 b1 hlt)
  ·exact e
  ·exact absurd (b2.trans a2.symm) (hpw k' k b1 a1 hlt)
 refine⟨by simpa using hl,fun k p hk=> ?_,fun k k' p p' l l' hk hk' he _=> ?_⟩
 ·rw[an] at hk;simp only[ak] at hk;obtain⟨r,hr,rfl⟩:=hk;obtain⟨s,rows,h1,h2⟩:=h k r hr;exact⟨s,rows,h1,by unfold St.look; rw[h2]; rfl⟩
 ·rw[an] at hk hk';simp only[ak] at hk hk';obtain⟨r,hr,rfl⟩:=hk;obtain⟨r',hr',rfl⟩:=hk';simp only at he;subst he;exact nd k k' r hr hr'
theorem BX (L:List Nat):G7 S (dropL S L) (L.map fun r=>⟨r,[]⟩):=by refine⟨rfl,rfl,rfl,fun q s rs h=> ?_⟩;obtain⟨h1,h2⟩:=qJ h;refine⟨fun p hp hu=> ?_,rs,h2⟩;obtain⟨r,hr,rfl⟩:=aL.1 hp;exact h1 (by rw[hu.1]; exact hr)
theorem BZ {L:List Nat} (hG:uS S (L.map fun r=>⟨r,[]⟩) ts) (hlo:out.length=L.length) (he:Sp.env=S.env) (hbx:Sp.bx=S.bx) (hnb:Sp.nb=S.nb) (hng:Sp.ng=S.ng) (hfz:Sp.fz=S.fz) (hnt:Sp.nt=S.nt)
  (h1: ∀ (k r:Nat),L[k]? =some r->Sp.gh r=out[k]?) (h2: ∀r,r∉L->Sp.gh r=S.gh r):G8 S Sp (L.map fun r=>⟨r,[]⟩) out:=by
 have had: ∀ (r:Nat),r∈L-> ∃ (k:Nat) (t0:T),L[k]? =some r/\S.gh r=some t0:=by
  intro r hr;obtain⟨k,hk,hkr⟩:=aM hr;have hk':L[k]? =some r:=by rw[<-hkr]; exact ah hk
  obtain⟨s,rows,_,g⟩:=hG.here k ⟨r,[]⟩ (by rw[an,hk']; rfl);unfold St.look at g;cases hg:S.gh r with
  |none=>simp only[hg] at g; cases g
  |some t0=>exact⟨k,t0,hk',rfl⟩
 refine⟨he,hbx,hnb,hng,hfz,hnt,fun r t ht=> ?_,fun r hr=> ?_,fun q s rs hq=> ?_⟩
 ·by_cases hr:r∈L
  ·obtain⟨k,t0,_,g⟩:=had r hr;exact⟨t0,g⟩
  ·rw[h2 r hr] at ht;exact⟨t,ht⟩
 ·by_cases hrL:r∈L
  ·obtain⟨k,t0,g,_⟩:=had r hrL;rw[h1 k r g] at hr;have :k<out.length:=by rw[hlo]; exact (ai.1 g).1
   rw[ah this] at hr;cases hr
  ·rw[<-h2 r hrL]; exact hr
 ·by_cases hqL:q.r∈L
  ·obtain⟨k,t0,g,_⟩:=had q.r hqL;left;refine⟨k,⟨q.r,[]⟩,q.l,by rw[an,g]; rfl,rfl,?_⟩;unfold St.look at hq;rw[h1 k q.r g] at hq;unfold St.look jY;exact hq
  ·right
   have hq':S.look q= .sl s rs:=by unfold St.look at hq ⊢;rw[h2 q.r hqL] at hq;exact hq
   refine⟨fun p hp hu=> ?_,rs,hq',rfl,fun i r hi=>⟨r,hi,rfl,fun j y hy=>⟨y,hy, .inl rfl⟩⟩⟩;obtain⟨r,hr,rfl⟩:=aL.1 hp;exact hqL (by rw[hu.1]; exact hr)
theorem Fn {p:eb} {s:Nat} {rows:List (List T)} (h:S.look p= .sl s rows):uS S [p] [.sl s rows] :=by
 refine⟨rfl,fun k p' hk=> ?_,fun k k' p1 p2 l l' hk hk' _ _=> ?_⟩
 ·cases k with
  |zero=>simp only[aF,ae] at hk;subst hk;exact⟨s,rows,rfl,h⟩
  |succ k=>simp at hk
 ·have h1:=(ai.1 hk).1;have h2:=(ai.1 hk').1;simp at h1 h2;omega
theorem Fo {p:eb} {s:Nat} {rows rows':List (List T)} (hp:S.look p= .sl s rows) (hl:rows'.length=rows.length):G8 S (S.setAt p (.sl s rows')) [p] [.sl s rows'] :=by
 obtain⟨t,ht,htp⟩: ∃t,S.gh p.r=some t/\t.go p.l= .sl s rows:=by
  unfold St.look at hp;split at hp
  ·rename_i t ht;exact⟨t,ht,hp⟩
  ·cases hp
 refine⟨rfl,rfl,rfl,rfl,rfl,rfl,fun r x hx=> ?_,fun r hr=> ?_,fun q s' rs h=> ?_⟩
 ·have hx':eh S.gh p.r ((S.gh p.r).map fun t=>t.put p.l (.sl s rows')) r=some x:=hx;unfold eh at hx';split at hx'
  ·rename_i e; rw[e]; exact⟨t,ht⟩
  ·exact⟨x,hx'⟩
 ·have hr':eh S.gh p.r ((S.gh p.r).map fun t=>t.put p.l (.sl s rows')) r=none:=hr;unfold eh at hr';split at hr'
  ·rw[ht] at hr'; cases hr'
  ·exact hr'
 ·rw[my] at h;by_cases hqr:q.r=p.r
  ·rw[if_pos hqr,ht] at h;simp only at h;rcases T.put_spec (.sl s rows') p.l t (.inl (by rw[htp]; simp)) q.l s' rs h with ⟨m',hm,hgo⟩| ⟨rs0,g1,g2,g3,g4⟩
   ·left;refine⟨0,p,m',rfl,?_,?_⟩
    ·obtain⟨qr,ql⟩:=q;simp only at hqr hm;rw[hqr,hm]
    ·unfold St.look jY;exact hgo
   ·right;refine⟨fun p' hp' hu=> ?_,rs0,by unfold St.look; rw[hqr,ht]; exact g1,g2,fun i r h1=> ?_⟩
    ·rw[ay.1 hp'] at hu;obtain⟨_,m,b⟩:=hu;exact g3 m b.symm
    ·obtain⟨r0,k1,k2,k3⟩:=g4 i r h1;refine⟨r0,k1,k2,fun j y h2=> ?_⟩;obtain⟨y0,j1,j2⟩:=k3 j y h2;refine⟨y0,j1,?_⟩;rcases j2 with rfl| ⟨hml,rfl⟩|h3
     ·exact .inl rfl
     ·refine .inr ⟨s,rows',rows,rfl,?_,hl⟩;rw[<-hml,T.go_append,g1] at htp;simp only[T.go,T.cell,ar,k1,aK,j1] at htp;exact htp
     ·exact .inr h3
  ·rw[if_neg hqr] at h;right;refine⟨fun p' hp' hu=> ?_,rs,h,rfl,fun i r h1=>⟨r,h1,rfl,fun j y h2=>⟨y,h2, .inl rfl⟩⟩⟩;rw[ay.1 hp'] at hu;exact hqr hu.1
end
end
section
open Go Go.RowKit
section
variable {P:Program} {w w':World} {W:Nat->Prop} {bt:Bt}
structure KB (P:Program) (f t e tn:Nat) (sz:Nat) (i:TypeInfo) (z:Value):Prop where
 enter: ∀ (args:Array Value) (w:World),(callFunc f args).run P w= .ok (.enter f args) w
 ht:P.underlying t=some (.slice e)
 hi:P.info? e=some i
 hz:i.zero=some z
 zs:z.cells.size=i.size
 z1: ∀u∈z.cells.toList,u.oneCell'=true
 hs:i.size=sz
 pos:0<sz
 htn:P.underlying tn=some (.int .i64)
 toEnd: ∀ (ab:Option Addr) (n c:Nat) (ad:Addr) (vc:Nat) (w w':World) (v:Value),n<=c->(ab=none->n=0)->n<=2 ^ 40->
  (∀ty,(Builtin.append_ #[t,t] ty #[.slice ab n c, .slice (some ad) 1 vc]).run P w= .ok v w')->
  Calls P f #[.slice ab n c, .int .i64 n, .slice (some ad) 1 vc] w fun e w1=>e= .returned v/\w1=w'
 shift: ∀ (b n c i:Nat) (ad:Addr) (vc:Nat) (w W1 W2:World) (u1 u2:Value),i<n->n+1<=c->n<=2 ^ 40->ad.block≠b->
  (∃ra ta fa,w.heap[ad.block]? =some (.cells ra ta fa)/\0<ra.size)->(∃rb tb,w.heap[b]? =some (.cells rb tb (0,0)))->
  (∀ty dc sc,(Builtin.copy_ #[t,t] ty #[.slice (some ⟨b,(i+1)*sz,none⟩) (n-i) dc, .slice (some ⟨b,i*sz,none⟩) (n+1-i) sc]).run P w.drew= .ok u1 W1)->
  (∀ty dc,(Builtin.copy_ #[t,t] ty #[.slice (some ⟨b,i*sz,none⟩) (n+1-i) dc, .slice (some ad) 1 vc]).run P W1= .ok u2 W2)->
  Calls P f #[.slice (some ⟨b,0,none⟩) n c, .int .i64 i, .slice (some ad) 1 vc] w fun e w1=>e= .returned (.slice (some ⟨b,0,none⟩) (n+1) c)/\w1=W2
 grow: ∀ (b g n c G i:Nat) (ad:Addr) (vc:Nat) (w W0 W1 W2:World) (u1 u2:Value),i<n->n<=c->c<n+1->n+1<=G->n<=2 ^ 40->
  (∀ty,(Builtin.append_ #[t,tn] ty #[.slice (some ⟨b,0,none⟩) i c, .int .i64 ((n:Int)+1-(i:Int))]).run P w= .ok (.slice (some ⟨g,0,none⟩) (n+1) G) W0)->
  (∀ty dc,(Builtin.copy_ #[t,t] ty #[.slice (some ⟨g,i*sz,none⟩) (n+1-i) dc, .slice (some ad) 1 vc]).run P W0= .ok u1 W1)->
  (∀ty dc sc,(Builtin.copy_ #[t,t] ty #[.slice (some ⟨g,(i+1)*sz,none⟩) (n-i) dc, .slice (some ⟨b,i*sz,none⟩) (n-i) sc]).run P W1.drew= .ok u2 W2)->
  Calls P f #[.slice (some ⟨b,0,none⟩) n c, .int .i64 i, .slice (some ad) 1 vc] w fun e w1=>e= .returned (.slice (some ⟨g,0,none⟩) (n+1) G)/\w1=W2
end
end
end Go.Proofs.YtadpelkpdaohnaaGreatDoor.En
