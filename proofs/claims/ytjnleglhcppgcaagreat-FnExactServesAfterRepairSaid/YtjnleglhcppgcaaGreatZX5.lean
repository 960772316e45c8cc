import Derived.Test.YtjnleglhcppgcaaGreatZX4
namespace Go.Proofs.YtjnleglhcppgcaaGreat.En
section
open Go Go.RowKit
section
variable {P:Program} {w0 w w':World} {W:Nat->Prop} {btI bt bt':Bt} {SI S S' SV:St} {a a':Act} {D:tD} {Q:Exit->Act->World->Prop} {ops:Array Oper}
def R6 (S S':St):Prop:=S'.env=S.env/\S'.bx=S.bx/\S'.nt=S.nt/\S.ng<=S'.ng
theorem L5 {sz:Nat} {fl:Bool} {x:AV} {more:List (List T)} {env:Nat->AV} (h:kE S sz fl x=some (more,S')):kE { S with env:=env } sz fl x=some (more,{ S' with env:=env })/\R6 S S':=by
 cases x with
 |em=>simp only[kE,af,an] at h ⊢;obtain⟨rfl,rfl⟩:=h;exact⟨⟨rfl,rfl⟩,rfl,rfl,rfl,ay _⟩
 |ro s rows=>
  simp only[kE] at h ⊢;split at h
  ·rename_i hc;simp only[af,an] at h;obtain⟨rfl,rfl⟩:=h;exact⟨by rw[if_pos hc],rfl,rfl,rfl,ay _⟩
  ·cases h
 |own p s lo len=>
  simp only[kE] at h ⊢;split at h
  ·rename_i hc;rw[if_pos hc];simp only[aj] at h;obtain⟨rows,h1,h⟩:=h;rw[show ({ S with env:=env }:St).rows p sz=S.rows p sz from rfl,h1];simp only[ae];split at h
   ·rename_i hd;simp only[af,an] at h;obtain⟨rfl,rfl⟩:=h;exact⟨by rw[if_pos hd],rfl,rfl,rfl,ay _⟩
   ·rename_i hd;rw[if_neg hd];split at h
    ·rename_i he;simp only[af,an] at h;obtain⟨rfl,rfl⟩:=h;exact⟨by rw[if_pos he],rfl,rfl,rfl,ay _⟩
    ·cases h
  ·cases h
 | _=>simp[kE] at h
theorem Ig {b:AV} {sz:Nat} {more:List (List T)} {v:AV} {env:Nat->AV} (h:jO S b sz more=some (v,S')):jO { S with env:=env } b sz more=some (v,{ S' with env:=env })/\R6 S S':=by
 cases b with
 |em=>simp only[jO,af,an] at h ⊢;obtain⟨rfl,rfl⟩:=h;exact⟨⟨rfl,rfl⟩,rfl,rfl,rfl,de _⟩
 |own p s lo len=>
  simp only[jO] at h ⊢;split at h
  ·rename_i hc;rw[if_pos hc];simp only[aj] at h;obtain⟨rows,h1,h⟩:=h;rw[show ({ S with env:=env }:St).rows p sz=S.rows p sz from rfl,h1];simp only[ae];split at h
   ·cases h
   ·rename_i hd;rw[if_neg hd];simp only[af,an] at h;obtain⟨rfl,rfl⟩:=h;refine⟨?_,?_,?_,?_,?_⟩
    ·split<;>rfl
    ·split<;>rfl
    ·split<;>rfl
    ·split<;>rfl
    ·split<;>exact de _
  ·cases h
 | _=>simp[jO] at h
def Hp (P:Program) (o:Oper):Bool:=match o.op with
 | .buildSlice t _ _=>match yH P t with |some el=>zz P el|none=>true
 | _=>true
theorem J9 {o:Oper} {v:AV} {env:Nat->AV} (hn:fQ o=true) (hf:qK o=false) (hfl:Hp P o=true) (hop: ∀x∈o.op.operands,opd { S with env:=env } x=opd S x) (h:iJ D P S o=some (v,S')):
  iJ D P { S with env:=env } o=some (v,{ S' with env:=env })/\R6 S S':=by
 obtain⟨dst,op,type,pos,after,guard⟩:=o;cases op with
 |buildSlice t len parts=>
  have e1: ∀x∈parts.toList,opd { S with env:=env } x.2=opd S x.2:=fun x hx=>hop x.2 (by simp only[Op.operands,dy]; exact aM.2 ⟨x,hx,rfl⟩);simp only[iJ,aj] at h ⊢;obtain⟨el,hel,h⟩:=h
  have a1:parts.toList.all (fun x=>decide ((opd { S with env:=env } x.2).cells.length=P.cellsOf el)&& !(opd { S with env:=env } x.2).isDead)=parts.toList.all (fun x=>decide ((opd S x.2).cells.length=P.cellsOf el)&& !(opd S x.2).isDead):=by rw[ce,ax,ax];exact forall_congr' fun x=>forall_congr' fun hx=>by rw[e1 x hx]
  have a2:parts.toList.any (fun x=>(opd { S with env:=env } x.2).cells.any HW)=parts.toList.any (fun x=>(opd S x.2).cells.any HW):=by rw[ce,b6,b6];exact exists_congr fun x=>and_congr_right fun hx=>by rw[e1 x hx]
  have a3:parts.toList.map (fun x=>(opd { S with env:=env } x.2).cells)=parts.toList.map (fun x=>(opd S x.2).cells):=aL fun x hx=>by rw[e1 x hx]
  have a4:parts.toList.map (fun x=>(opd { S with env:=env } x.2).cells.map T.ofSc)=parts.toList.map (fun x=>(opd S x.2).cells.map T.ofSc):=aL fun x hx=>by rw[e1 x hx]
  have hfl': (pP P 9 el).all (· ==0)=true:=by simp only[Hp,hel] at hfl;exact hfl
  split at h
  ·rename_i hc;split at h
   ·rename_i hr;simp only[ak,an] at h;obtain⟨rows,h1,rfl,rfl⟩:=h;refine⟨⟨el,hel,?_⟩,rfl,rfl,rfl,ay _⟩;rw[a1,if_pos hc,a2,if_pos hr,a3,h1];rfl
   ·rename_i hr
    first |rw[if_pos hfl'] at h|skip
    simp only[aB,af,an] at h;obtain⟨rfl,rfl⟩:=h;refine⟨⟨el,hel,?_⟩,rfl,rfl,rfl,de _⟩;rw[a1,if_pos hc,a2,if_neg hr,if_pos hfl',a4];rfl
  ·cases h
 |call c=>
  obtain⟨cl,as,ts⟩:=c;cases cl with
  |value f=>simp[qK] at hf
  |invoke r m=>simp[fQ] at hn
  |builtin b=>
   cases b with
   |append=>
    have e1: ∀x∈as.toList,opd { S with env:=env } x=opd S x:=fun x hx=>hop x (by simp only[Op.operands,Call.operands];simpa using hx)
    simp only[iJ] at h ⊢;split at h
    ·rename_i s x t t' has hts;have es:opd { S with env:=env } s=opd S s:=e1 s (by rw[has]; simp);have ex:opd { S with env:=env } x=opd S x:=e1 x (by rw[has]; simp);simp only[es,ex];split at h
     ·rename_i htt;rw[if_pos htt];simp only[aj] at h ⊢;obtain⟨el,hel,⟨more,S1⟩,h1,⟨v1,S2⟩,h2,h3⟩:=h;obtain⟨g1,c1⟩:=L5 (env:=env) h1;obtain⟨g2,c2⟩:=Ig (env:=env) h2;simp only at h3;split at h3
      ·split at h3
       ·rename_i hc;simp only[af,an] at h3;obtain⟨rfl,rfl⟩:=h3;refine⟨⟨el,hel,_,g1,_,g2,?_⟩,c2.1.trans c1.1,c2.2.1.trans c1.2.1,c2.2.2.1.trans c1.2.2.1,bF c1.2.2.2 c2.2.2.2⟩;simp only;rw[if_pos hc]
       ·cases h3
      ·cases h3
     ·rename_i htt;rw[if_neg htt];simp only[aj] at h ⊢;obtain⟨el,hel,z,hz,h⟩:=h;split at h
      ·rename_i h1 h2;split at h
       ·rename_i hc;simp only[af,an] at h;obtain⟨rfl,rfl⟩:=h;refine⟨⟨el,hel,z,hz,?_⟩,rfl,rfl,rfl,de _⟩;rw[if_pos hc]
       ·cases h
      ·cases h
    ·cases h
   | _=>simp[fQ] at hn
 | _=>simp[fQ] at hn
def Bb (o:Oper):Bool:=match o.op with | .buildSlice .. =>false| _=>fQ o
theorem PR {o:Oper} {v:AV} (hn:fQ o=true) (ha:Bb o=false) (hfl:Hp P o=true) (h:iJ D P S o=some (v,S')): ∀r,r<S.ng->S'.gh r=S.gh r:=by
 obtain⟨dst,op,type,pos,after,guard⟩:=o;cases op with
 |buildSlice t len parts=>
  simp only[iJ,aj] at h;obtain⟨el,hel,h⟩:=h
  have hfl': (pP P 9 el).all (· ==0)=true:=by simp only[Hp,hel] at hfl;exact hfl
  split at h
  ·split at h
   ·simp only[ak,an] at h;obtain⟨rows,h1,rfl,rfl⟩:=h;exact fun r _=>rfl
   ·first |rw[if_pos hfl'] at h|skip
    simp only[aB,af,an] at h;obtain⟨rfl,rfl⟩:=h;intro r hr;simp only[fo];rw[if_neg (by omega)]
  ·cases h
 | _=>simp only[Bb,hn] at ha; cases ha
def TM (n0:Nat) (pin:Bool):AV->Bool| .ptrB _ _=>true| .pro _=>true| .ptrT p _ _ _=>pin&&Nat.blt p.r n0| _=>false
def Ih (n0:Nat) (pin:Bool) (S:St) (o:Oper):Bool:=match o.op with | .load _ x=>TM n0 pin (opd S x)| _=>true
def L6 (ops:List Oper) (B:List (List Nat)) (j:Nat):Bool:=(List.range ops.length).all fun i=>match ops[i]? with
 |some oi=> !Bb oi||(B.getD j []).contains i||(B.getD i []).contains j
 |none=>true
def Gi:tD:=fun _ _ _ _=>none
theorem Ar:oF P Gi:=by intro d f args gs res out h;cases h
def EE (P:Program) (n0:Nat) (S:St) (o:Oper) (pin:Bool):Option (AV×St):=if fQ o||ez o then iJ Gi P S o else if Ih n0 pin S o then (eD Gi P S o).map fun v=>(v,S) else none
def R7 (P:Program) (n0:Nat) (ops:List Oper) (B:List (List Nat)):Nat->List Oper->St->Option St
 | _,[],S=>some S
 |k,o::os,S=>(EE P n0 S o (L6 ops B k)).bind fun (v,S1)=>(S1.put o.dst v).bind (R7 P n0 ops B (k+1) os)
theorem Ox {n0:Nat} {ops:List Oper} {B:List (List Nat)}: ∀ (l:List Oper) (k:Nat) (S S':St),R7 P n0 ops B k l S=some S'-> ∃T:Nat->St,T k=S/\T (k+l.length)=S'/\ ∀i o,l[i]? =some o-> ∃v Y,EE P n0 (T (k+i)) o (L6 ops B (k+i))=some (v,Y)/\Y.put o.dst v=some (T (k+i+1)):=by
 intro l
 induction l with
 |nil=>intro k S S' h;simp only[R7,af] at h;exact⟨fun _=>S,rfl,h,fun i o hi=>by simp at hi⟩
 |cons o l ih=>
  intro k S S' h;simp only[R7,aj] at h;obtain⟨⟨v,Y⟩,h1,S1,h2,h3⟩:=h;obtain⟨T,t1,t2,t3⟩:=ih (k+1) S1 S' h3;refine⟨fun n=>if n<=k then S else T n,by simp,?_,fun i oi hi=> ?_⟩
  ·simp only;rw[if_neg (by simp),<-t2]
   congr 1
   simp only[bk];omega
  ·cases i with
   |zero=>simp only[aK,af] at hi;subst hi;refine⟨v,Y,by simpa using h1,?_⟩;simp only;rw[if_neg (by omega),show k+0+1=k+1 by omega,t1];exact h2
   |succ i=>
    simp only[ch] at hi;obtain⟨v',Y',g1,g2⟩:=t3 i oi hi;refine⟨v',Y',?_,?_⟩
    ·simp only;rw[if_neg (by omega),show k+(i+1)=k+1+i by omega];exact g1
    ·simp only;rw[if_neg (by omega),show k+(i+1)+1=k+1+i+1 by omega];exact g2
def Ka (all:Array Oper) (B:List (List Nat)) (i j:Nat) (oi oj:Oper):Bool:=
 (i==j||oi.dst.isNone||oi.dst != oj.dst)&&(!(fQ oi&&fQ oj&&decide (i<j))||(B.getD j []).contains i)&&
 (match oi.dst with |some d=> !(oj.looksAt all).contains d||(B.getD j []).contains i|none=>true)
def V8 (all:Array Oper):Bool:=
 let ops:=all.toList
 let B:=gW ops
 Nu ops B&&(match ops.getLast? with |some o=>ez o|none=>false)&&(List.range ops.length).all fun j=>match ops[j]? with
  |none=>false
  |some oj=> !qK oj&& !gA oj&&oj.guard.isNone&&(oj.after.toList.all fun e=> !Region.binds .any e||decide (e.on<j))&&
   (!ez oj||(decide (j+1=ops.length)&&oj.dst.isNone&&(List.range j).all fun i=>(B.getD j []).contains i))&&
   (List.range ops.length).all fun i=>match ops[i]? with |none=>false|some oi=>Ka all B i j oi oj
def EF (all:Array Oper):Bool:=(all.toList.any fun o=>match o.op with | .indexAddr .. =>true| _=>false)&&(all.toList.any fun o=>match o.op with | .call { callee:= .builtin .append, .. } =>true| _=>false)&&V8 all
def PS (P:Program) (all:Array Oper):Bool:=V8 all&&all.toList.all fun o=>qM P o&&Hp P o
structure Wj (P:Program) (ops:Array Oper) (B:List (List Nat)):Prop where
 lt: ∀ (j i:Nat),j<ops.size->i∈B.getD j [] ->i<j
 edge: ∀ (j i:Nat) (o:Oper),ops[j]? =some o->i∈B.getD j [] -> ∃e∈o.after,Region.binds .any e=true/\(e.on=i\/i∈B.getD e.on [])
 ok: ∀ (j:Nat) (o:Oper),ops[j]? =some o->qM P o=true/\Hp P o=true
 on: ∀ (j:Nat) (o:Oper) (e:Edge),ops[j]? =some o->e∈o.after->Region.binds .any e=true->e.on<j
 st: ∀ (j:Nat) (o:Oper),ops[j]? =some o->ez o=true->j+1=ops.size/\o.dst=none/\ ∀i,i<j->i∈B.getD j []
 last: ∃o,0<ops.size/\ops[ops.size-1]? =some o/\ez o=true
 pl: ∀ (j:Nat) (o:Oper),ops[j]? =some o->qK o=false/\o.guard=none
 dst: ∀ (i j:Nat) (oi oj:Oper) (d:Tmp),ops[i]? =some oi->ops[j]? =some oj->oi.dst=some d->oj.dst=some d->i=j
 wr: ∀ (i j:Nat) (oi oj:Oper),ops[i]? =some oi->ops[j]? =some oj->fQ oi=true->fQ oj=true->i<j->i∈B.getD j []
 look: ∀ (i j:Nat) (oi oj:Oper) (d:Tmp),ops[i]? =some oi->ops[j]? =some oj->oi.dst=some d->d∈oj.looksAt ops->i∈B.getD j []
theorem Oy (h:PS P ops=true):Wj P ops (gW ops.toList):=by
 unfold PS at h;simp only[aq] at h;obtain⟨h0,hP⟩:=h;unfold V8 at h0;simp only[aq] at h0;obtain⟨⟨h1,hl⟩,h2⟩:=h0
 have lst: ∀ (j:Nat) (o:Oper),ops[j]? =some o->j<ops.toList.length/\ops.toList[j]? =some o:=by intro j o ho;refine⟨?_,by simpa using ho⟩;have:=(aE.1 ho).1;simpa using this
 have h3: ∀ (j:Nat) (oj:Oper),ops[j]? =some oj->qK oj=false/\oj.guard=none/\(oj.after.toList.all fun e=> !Region.binds .any e||decide (e.on<j))=true/\(ez oj=true->j+1=ops.size/\oj.dst=none/\ ∀i,i<j->i∈(gW ops.toList).getD j [])/\
   ∀ (i:Nat) (oi:Oper),ops[i]? =some oi->Ka ops (gW ops.toList) i j oi oj=true:=by
  intro j oj hj;obtain⟨l1,l2⟩:=lst j oj hj;have:=ax.1 h2 j (bu.2 l1);simp only[l2,aq,bV,db,bC] at this;obtain⟨⟨⟨⟨⟨q1,_⟩,q2⟩,q3⟩,q4⟩,q5⟩:=this;refine⟨q1,q2,?_,fun hs=> ?_,fun i oi hi=> ?_⟩
  ·rw[ax] at q3 ⊢;intro e he;have:=q3 e he;simpa using this
  ·rcases q4 with q4|q4
   ·rw[hs] at q4;cases q4
   ·obtain⟨⟨r1,r2⟩,r3⟩:=q4;refine⟨by simpa using r1,r2,fun i hi=> ?_⟩;exact bD.1 (ax.1 r3 i (bu.2 hi))
  ·obtain⟨m1,m2⟩:=lst i oi hi;have:=ax.1 q5 i (bu.2 m1);simpa only[m2] using this
 have h4: ∀ (j i:Nat),j<ops.size->i∈(gW ops.toList).getD j [] ->i<j/\ ∀o,ops[j]? =some o-> ∃e∈o.after,Region.binds .any e=true/\(e.on=i\/i∈(gW ops.toList).getD e.on []):=by intro j i hj hi;unfold Nu at h1;have:=ax.1 (ax.1 h1 j (bu.2 (by simpa using hj))) i hi;simp only[aq,decide_eq_true_eq] at this;refine⟨this.1,fun o ho=> ?_⟩;have h5:=this.2;rw[(lst j o ho).2] at h5;simp only[b6,aq,bC,beq_iff_eq,bD] at h5;obtain⟨e,he,hb,hc⟩:=h5;exact⟨e,by simpa using he,hb,hc⟩
 refine⟨fun j i hj hi=>(h4 j i hj hi).1,fun j i o ho hi=>(h4 j i (aE.1 ho).1 hi).2 o ho,fun j o ho=> ?_,fun j o e ho he hb=> ?_,fun j o ho hs=>(h3 j o ho).2.2.2.1 hs,?_,fun j o ho=>⟨(h3 j o ho).1,(h3 j o ho).2.1⟩,fun i j oi oj d hi hj hdi hdj=> ?_,fun i j oi oj hi hj hni hnj hlt=> ?_,fun i j oi oj d hi hj hd hlk=> ?_⟩
 ·have:=ax.1 hP o (ao (lst j o ho).2);simpa using this
 ·have:=ax.1 (h3 j o ho).2.2.1 e (by simpa using he);simpa [hb] using this
 ·split at hl
  ·rename_i o ho;rw[List.getLast?_eq_getElem?] at ho;have hlt:=(ai.1 ho).1;refine⟨o,?_,?_,hl⟩
   ·simp only[bZ] at hlt;omega
   ·simpa using ho
  ·cases hl
 ·have:=(h3 j oj hj).2.2.2.2 i oi hi;unfold Ka at this;simp only[aq,bC,beq_iff_eq] at this;rcases this.1.1 with (h|h)|h
  ·exact h
  ·rw[hdi] at h; cases h
  ·rw[hdi,hdj] at h; simp at h
 ·have:=(h3 j oj hj).2.2.2.2 i oi hi;unfold Ka at this;simp only[aq,bC] at this;rcases this.1.2 with h|h
  ·simp[hni,hnj,hlt] at h
  ·exact bD.1 h
 ·have:=(h3 j oj hj).2.2.2.2 i oi hi;unfold Ka at this;simp only[aq] at this;have h':=this.2;rw[hd] at h';simp only[bC,bV,bD] at h';rcases h' with h'|h'
  ·rw[bD.2 hlk] at h';cases h'
  ·exact h'
theorem L7 {d:Option Tmp} {v:AV} (h:S.put d v=some S'):S'= { S with env:=fun t=>if d=some t then v else S.env t } /\ ∀env:Nat->AV,({ S with env:=env }:St).put d v=some { S' with env:=fun t=>if d=some t then v else env t } :=by
 unfold St.put at h ⊢;cases d with
 |none=>simp only[af] at h;subst h;exact⟨rfl,fun env=>rfl⟩
 |some t=>
  simp only at h;split at h
  ·rename_i hlt;simp only[af] at h;subst h
   have e: ∀env:Nat->AV,fo env t v=fun u=>if some t=some u then v else env u:=by
    intro env
    funext u
    unfold fo;by_cases hu:u=t
    ·subst hu; simp
    ·rw[if_neg hu,if_neg (by simpa using fun h=>hu h.symm)]
   refine⟨by rw[e],fun env=> ?_⟩;simp only;rw[if_pos hlt,e]
  ·cases h
theorem PT {D':tD} {o:Oper} (hf:qK o=false) (hn:fQ o=true\/ez o=true):iJ D P S o=iJ D' P S o:=by
 obtain⟨dst,op,type,pos,after,guard⟩:=o;cases op with
 |call c=>
  obtain⟨cl,as,ts⟩:=c;cases cl with
  |value f=>simp[qK] at hf
  |invoke r m=>simp[fQ,ez] at hn
  |builtin b=>cases b<;>first |rfl| (simp[fQ,ez] at hn)
 | _=>first |rfl| (simp[fQ,ez] at hn)
theorem L8 {all:Array Oper} (h:EF all=true): ∀o∈all.toList,qK o=false:=by intro o ho;unfold EF V8 at h;simp only[aq] at h;obtain⟨j,hj,he⟩:=aJ ho;have:=ax.1 h.2.2 j (bu.2 hj);rw[show all.toList[j]? =some o by rw[<-he]; exact ah hj] at this;simp only[aq,bV] at this;exact this.1.1.1.1.1
theorem Kb (hm:P.follows .mixedOrders=true) (hok:PS P ops=true) {id:Nat} (h:Lv w0 W btI SI bt S a w) (hV:R7 P S.ng ops.toList (gW ops.toList) 0 ops.toList S=some S')
  (hK: ∀bt' a' w',Lv w0 W btI SI bt' S' a' w'->Q .normal a' w'): (Code.region id ops true).wp P Q a w:=by
 have ok:=Oy hok;obtain⟨oL,hpos,hoL,hsL⟩:=ok.last;obtain⟨T,t1,t2,t3⟩:=Ox _ _ _ _ hV;have tl: ∀ {i:Nat} {o:Oper},ops.toList[i]? =some o↔ops[i]? =some o:=by intro i o; simp
 simp only[aU] at t2 t3;have hn:ops.toList.length=ops.size:=by simp
 rw[hn] at t2
 have noSt: ∀i o,ops[i]? =some o->i+1<ops.size->ez o=false:=by
  intro i o ho hi;cases hs:ez o with
  |false=>rfl
  |true=>have:=(ok.st i o ho hs).1;omega
 have EI: ∀i o,ops[i]? =some o->i+1<ops.size-> ∃v Y,EE P S.ng (T i) o (L6 ops.toList (gW ops.toList) i)=some (v,Y)/\R6 (T i) Y/\(fQ o=false->Y=T i)/\T (i+1)= { Y with env:=fun t=>if o.dst=some t then v else (T i).env t } /\(fQ o=true->iJ Gi P (T i) o=some (v,Y))/\(fQ o=false->eD Gi P (T i) o=some v/\Ih S.ng (L6 ops.toList (gW ops.toList) i) (T i) o=true)/\Y.put o.dst v=some (T (i+1)):=by
  intro i o ho hi;obtain⟨v,Y,h1,h2⟩:=t3 i o (tl.2 ho);have hs:=noSt i o ho hi;have h1':=h1;unfold EE at h1;rw[hs,Bool.or_false] at h1;cases hnw:fQ o with
  |true=>rw[hnw,if_pos rfl] at h1;obtain⟨_,hc⟩:=J9 (env:=(T i).env) hnw (ok.pl i o ho).1 (ok.ok i o ho).2 (fun _ _=>rfl) h1;refine⟨v,Y,h1',hc,fun h=>(nomatch h),?_,fun _=>h1,fun h=>(nomatch h),h2⟩;rw[(L7 h2).1,hc.1]
  |false=>
   rw[hnw,if_neg (by simp)] at h1;split at h1
   ·rename_i hp;simp only[ak,an] at h1;obtain⟨v',h3,rfl,rfl⟩:=h1;refine⟨v',_,h1',⟨rfl,rfl,rfl,ay _⟩,fun _=>rfl,(L7 h2).1,fun h=>(nomatch h),fun _=>⟨h3,hp⟩,h2⟩
   ·cases h1
 have bxT: ∀j,j+1<=ops.size->(T j).bx=S.bx:=by
  intro j
  induction j with
  |zero=>intro _; rw[t1]
  |succ j ih=>intro hj;obtain⟨v,Y,_,hc,_,he,_⟩:=EI j ops[j] (aO (by omega)) (by omega);rw[he];exact hc.2.1.trans (ih (by omega))
 have envOld: ∀j t,j+1<=ops.size->(∀i o,i<j->ops[i]? =some o->o.dst≠some t)->(T j).env t=S.env t:=by
  intro j t
  induction j with
  |zero=>intro _ _; rw[t1]
  |succ j ih=>intro hj hno;obtain⟨v,Y,_,hc,_,he,_⟩:=EI j ops[j] (aO (by omega)) (by omega);rw[he];simp only;rw[if_neg (hno j _ (by omega) (aO (by omega)))];exact ih (by omega) (fun i o hi=>hno i o (by omega))
 have envNew: ∀j i o t,i<j->j+1<=ops.size->ops[i]? =some o->o.dst=some t->(T j).env t=(T (i+1)).env t:=by
  intro j i o t hij hj ho hd
  induction j with
  |zero=>omega
  |succ j ih=>
   by_cases he:i=j
   ·rw[he]
   ·obtain⟨v,Y,_,hc,_,heq,_⟩:=EI j ops[j] (aO (by omega)) (by omega);rw[heq];simp only;rw[if_neg (fun hd'=>he (ok.dst i j o _ t ho (aO (by omega)) hd hd'))];exact ih (by omega) (by omega)
 have memT: ∀j k (env:Nat->AV),j<=k->k+1<=ops.size->(∀i o,j<=i->i<k->ops[i]? =some o->fQ o=false)->({ T j with env:=env }:St)= { T k with env:=env } :=by
  intro j k env hjk
  induction k with
  |zero=>intro _ _; rw[show j=0 by omega]
  |succ k ih=>
   intro hk hno;by_cases he:j=k+1
   ·rw[he]
   ·obtain⟨v,Y,_,hc,hy,heq,_⟩:=EI k ops[k] (aO (by omega)) (by omega);have hy:=hy (hno k _ (by omega) (by omega) (aO (by omega)));rw[ih (by omega) (by omega) (fun i o h1 h2=>hno i o h1 (by omega)),heq,hy]
 have ngT: ∀j,j+1<=ops.size->S.ng<=(T j).ng:=by
  intro j
  induction j with
  |zero=>intro _; rw[t1]; exact ay _
  |succ j ih=>intro hj;obtain⟨v,Y,_,hc,_,he,_⟩:=EI j ops[j] (aO (by omega)) (by omega);rw[he];exact bF (ih (by omega)) hc.2.2.2
 have ghT: ∀j k (r:Nat),j<=k->k+1<=ops.size->(∀i o,j<=i->i<k->ops[i]? =some o->Bb o=false)->r<S.ng->(T j).gh r=(T k).gh r:=by
  intro j k r hjk
  induction k with
  |zero=>intro _ _ _; rw[show j=0 by omega]
  |succ k ih=>
   intro hk hno hr;by_cases he:j=k+1
   ·rw[he]
   ·obtain⟨v,Y,_,hc,hy,heq,hst,_⟩:=EI k ops[k] (aO (by omega)) (by omega);have ha:=hno k _ (by omega) (by omega) (aO (show k<ops.size by omega));rw[ih (by omega) (by omega) (fun i o h1 h2=>hno i o h1 (by omega)) hr,heq];show (T k).gh r=Y.gh r;cases hn:fQ ops[k] with
    |false=>rw[hy hn]
    |true=>exact (PR hn ha (ok.ok k _ (aO (by omega))).2 (hst hn) r (bf hr (ngT k (by omega)))).symm
 let SV:=T (ops.size-1)
 let TL (L:Array Bool) (a:Act) (w:World):Prop:=(L.getD (ops.size-1) false=false/\ ∃bt k,k+1<=ops.size/\(∀i o,ops[i]? =some o->fQ o=true->(L.getD i false=true↔i<k))/\Lv w0 W btI SI bt { T k with env:=ic ops S SV L } a w)\/
  (L.getD (ops.size-1) false=true/\ ∃bt,Lv w0 W btI SI bt S' a w)
 have fin: ∀L a w,(∀i,i<ops.size->L.getD i false=true)->TL L a w->Q .normal a w:=by
  intro L a w hL hsim;rcases hsim with ⟨h1,_⟩| ⟨_,bt,h2⟩
  ·rw[hL _ (by omega)] at h1;cases h1
  ·exact hK _ _ _ h2
 have main: ∀ (fuel:Nat) (L:Array Bool) (rem:List Nat) (a:Act) (w:World),rem.length=fuel->rem.Nodup->(∀i,i∈rem↔i<ops.size/\L.getD i false=false)->L.size=ops.size->
   (∀j,j<ops.size->L.getD j false=true-> ∀i∈(gW ops.toList).getD j [],L.getD i false=true)->TL L a w->wpAny P .any ops Q fuel L a w:=by
  have flip: ∀ (L:Array Bool) (i:Nat),L.size=ops.size->i<ops.size->(L.getD i true=L.getD i false):=by intro L i h1 h2;simp only[ba];rw[aO (by omega)];rfl
  have nor: ∀ (L:Array Bool),L.size=ops.size->Region.ready .any ops L= [] -> ∀i,i<ops.size->L.getD i false=true:=by
   intro L hsz hr i
   induction i using Nat.strongRecOn with
   | _ i ih=>
     intro hi;cases hx:L.getD i false with
     |true=>rfl
     |false=>
      have hm:i∈Region.ready .any ops L:=by rw[mem_ready];refine⟨by rw[flip L i hsz hi]; exact hx,ops[i],aO hi,fun e he hb=> ?_⟩;have:=ok.on i _ e (aO hi) he hb;exact ih _ this (by omega)
      rw[hr] at hm;cases hm
  intro fuel
  induction fuel with
  |zero=>
   intro L rem a w hl _ hrem hsz hcl hsim
   have hall: ∀i,i<ops.size->L.getD i false=true:=by
    intro i hi;cases hx:L.getD i false with
    |true=>rfl
    |false=>have:=(hrem i).2 ⟨hi,hx⟩;rw[bz hl] at this;cases this
   refine⟨?_,fin L a w hall hsim⟩;cases hr:Region.ready .any ops L with
   |nil=>rfl
   |cons i rs=>
    have hm:i∈Region.ready .any ops L:=by rw[hr]; exact aG
    obtain⟨h1,o,h2,_⟩:=mem_ready.1 hm;have hi:=(aE.1 h2).1;rw[flip L i hsz hi,hall i hi] at h1;cases h1
  |succ fuel ih=>
   intro L rem a w hl hnd hrem hsz hcl hsim;refine⟨fun hr=>fin L a w (nor L hsz hr) hsim,fun i hi=> ?_⟩;obtain⟨hun,o,ho,hpre⟩:=mem_ready.1 hi;have hin:=(aE.1 ho).1;rw[flip L i hsz hin] at hun
   have hB: ∀j∈(gW ops.toList).getD i [],L.getD j false=true:=by
    intro j hj;obtain⟨e,he,hb,hor⟩:=ok.edge i j o ho hj;have hl:=hpre e he hb;rcases hor with rfl|hor
    ·exact hl
    ·exact hcl e.on (Nat.lt_trans (ok.on i o e ho he hb) hin) hl j hor
   have hiL:i<L.size:=by omega
   have hset: ∀j,(L.setIfInBounds i true).getD j false=if j=i then true else L.getD j false:=fun j=>xE hiL
   have next: ∀a' w',TL (L.setIfInBounds i true) a' w'->wpAny P .any ops Q fuel (L.setIfInBounds i true) a' w':=by
    intro a' w' hs';refine ih (L.setIfInBounds i true) (rem.erase i) a' w' ?_ (hnd.erase i) (fun j=> ?_) (by simpa using hsz) (fun j hj hjt k hk=> ?_) hs'
    ·rw[List.length_erase_of_mem ((hrem i).2 ⟨hin,hun⟩),hl];rfl
    ·rw[hnd.mem_erase_iff,hrem j,hset j];by_cases hji:j=i
     ·subst hji;simp
     ·simp[hji]
    ·rw[hset] at hjt ⊢;split at hjt
     ·rename_i hji;subst hji;split
      ·rfl
      ·exact hB k hk
     ·split
      ·rfl
      ·exact hcl j hj hjt k hk
   unfold wpOp;rw[ho];simp only;have hw:Region.wanted o (yielded ops a.tmps)=true:=by simp[Region.wanted,(ok.pl i o ho).2]
   rw[if_pos hw];rcases hsim with ⟨hlast,bt,k,hk,hph,hLv⟩| ⟨hlast,_⟩
   case inr=>
    exfalso;have hst:=ok.st _ oL hoL hsL;by_cases he:i=ops.size-1
    ·rw[he,hlast] at hun; cases hun
    ·have:=hcl (ops.size-1) (by omega) hlast i (hst.2.2 i (by omega));rw[this] at hun;cases hun
   have hlook: ∀x∈o.op.operands,opd { T k with env:=ic ops S SV L } x=opd (T i) x:=by
    intro x hx;cases x with
    |tmp t=>
     show ic ops S SV L t=(T i).env t;have hlk:t∈o.looksAt ops:=b9 _ (cR.2 ⟨.tmp t,by simpa using hx,rfl⟩);by_cases hex: ∃ (j:Nat) (oj:Oper),ops[j]? =some oj/\oj.dst=some t
     ·obtain⟨j,oj,hj,hd⟩:=hex;have hjB:=ok.look j i oj o t hj ho hd hlk;have hji:=ok.lt i j hin hjB;unfold ic;rw[if_pos (lR.2 ⟨j,oj,hj,hB j hjB,hd⟩)];rw[envNew i j oj t hji (by omega) hj hd];exact envNew (ops.size-1) j oj t (by omega) (by omega) hj hd
     ·unfold ic
      rw[if_neg (fun hdn=>by obtain⟨j,oj,h1,_,h3⟩:=lR.1 hdn;exact hex ⟨j,oj,h1,h3⟩)]
      rw[envOld i t (by omega) (fun j oj _ hj hd=>hex ⟨j,oj,hj,hd⟩)]
    | _=>rfl
   by_cases hie:i=ops.size-1
   ·
    subst hie;rw[ho] at hoL;simp only[af] at hoL;subst hoL;obtain⟨hs1,hs2,hs3⟩:=ok.st _ o ho hsL;have hall: ∀j,j<ops.size-1->L.getD j false=true:=fun j hj=>hB j (hs3 j hj)
    have henv:ic ops S SV L=SV.env:=by
     funext t
     unfold ic;split
     ·rfl
     ·rename_i hnd;refine (envOld (ops.size-1) t (by omega) (fun j oj hj hoj hd=>hnd (lR.2 ⟨j,oj,hoj,hall j hj,hd⟩))).symm
    have hX: ({ T k with env:=ic ops S SV L }:St)=T (ops.size-1):=by
     rw[memT k (ops.size-1) _ (by omega) (by omega) (fun j oj h1 h2 hoj=>by
      cases hx:fQ oj with
      |false=>rfl
      |true=>have:=(hph j oj hoj hx).1 (hall j h2);omega),henv]
    rw[hX] at hLv;obtain⟨v,Y,g1,g2⟩:=t3 _ o (tl.2 ho);unfold EE at g1;rw[hsL,Bool.or_true,if_pos rfl] at g1
    have g3:one Gi P (T (ops.size-1)) o=some S':=by unfold one;rw[g1];simp only[ae];rw[g2,show ops.size-1+1=ops.size by omega,t2]
    refine .inl <| vC Ar hLv (ok.ok _ o ho).1 g3 (fun bt' a' w' h'=>next a' w' (.inr ⟨?_,bt',h'⟩));rw[hset,if_pos rfl]
   ·have hi1:i+1<ops.size:=by omega
    obtain⟨v,Y,g1,hc,hy,heq,hst,hvl,hput⟩:=EI i o ho hi1
    have henvS: (fun t=>if o.dst=some t then v else ic ops S SV L t)=ic ops S SV (L.setIfInBounds i true):=by
     funext t
     rw[vD hiL ho];by_cases hd:o.dst=some t
     ·rw[if_pos hd,if_pos hd];show v=(T (ops.size-1)).env t;rw[envNew (ops.size-1) i o t (by omega) (by omega) ho hd,heq];simp only;rw[if_pos hd]
     ·rw[if_neg hd,if_neg hd]
    have hlast': (L.setIfInBounds i true).getD (ops.size-1) false=false:=by rw[hset,if_neg (by omega)]; exact hlast
    have notDone: ∀j oj,ops[j]? =some oj->i∈(gW ops.toList).getD j [] ->L.getD j false=false:=by
     intro j oj hj hij;cases hx:L.getD j false with
     |false=>rfl
     |true=>have:=hcl j (aE.1 hj).1 hx i hij;rw[hun] at this;cases this
    have memG:L6 ops.toList (gW ops.toList) i=true->fQ o=false-> ∀r,r<S.ng->(T k).gh r=(T i).gh r:=by
     intro hp hnw0 r hr
     have appN: ∀oj,Bb oj=true->fQ oj=true:=by
      intro oj h;unfold Bb at h;split at h
      ·cases h
      ·exact h
     have hp': ∀j oj,ops[j]? =some oj->Bb oj=true->j∈(gW ops.toList).getD i [] \/i∈(gW ops.toList).getD j [] :=by intro j oj hj hnw;unfold L6 at hp;have:=ax.1 hp j (bu.2 (by simpa using (aE.1 hj).1));rw[tl.2 hj] at this;simpa [hnw] using this
     rcases Nat.le_total k i with hki|hki
     ·refine ghT k i r hki (by omega) (fun j oj h1 h2 hoj=> ?_) hr;cases hx:Bb oj with
      |false=>rfl
      |true=>
       exfalso;rcases hp' j oj hoj hx with h|h
       ·have:=(hph j oj hoj (appN oj hx)).1 (hB j h);omega
       ·have:=ok.lt j i (aE.1 hoj).1 h;omega
     ·refine (ghT i k r hki hk (fun j oj h1 h2 hoj=> ?_) hr).symm;cases hx:Bb oj with
      |false=>rfl
      |true=>
       exfalso;have hd:=(hph j oj hoj (appN oj hx)).2 h2;by_cases hji:j=i
       ·rw[hji,hun] at hd; cases hd
       ·rcases hp' j oj hoj hx with h|h
        ·have:=ok.lt i j hin h;omega
        ·rw[notDone j oj hoj h] at hd; cases hd
    have memI:fQ o=true-> ∀env:Nat->AV,({ T k with env:=env }:St)= { T i with env:=env } :=by
     intro hp env
     have hp': ∀j oj,ops[j]? =some oj->fQ oj=true->j≠i->j∈(gW ops.toList).getD i [] \/i∈(gW ops.toList).getD j [] :=by
      intro j oj hj hnw hji;rcases Nat.lt_or_gt_of_ne hji with hlt|hlt
      ·exact .inl (ok.wr j i oj o hj ho hnw hp hlt)
      ·exact .inr (ok.wr i j o oj ho hj hp hnw hlt)
     rcases Nat.le_total k i with hki|hki
     ·refine memT k i env hki (by omega) (fun j oj h1 h2 hoj=> ?_);cases hx:fQ oj with
      |false=>rfl
      |true=>
       exfalso;rcases hp' j oj hoj hx (by omega) with h|h
       ·have:=(hph j oj hoj hx).1 (hB j h);omega
       ·have:=ok.lt j i (aE.1 hoj).1 h;omega
     ·refine (memT i k env hki hk (fun j oj h1 h2 hoj=> ?_)).symm;cases hx:fQ oj with
      |false=>rfl
      |true=>
       exfalso;have hd:=(hph j oj hoj hx).2 h2;by_cases hji:j=i
       ·rw[hji,hun] at hd; cases hd
       ·rcases hp' j oj hoj hx hji with h|h
        ·have:=ok.lt i j hin h;omega
        ·rw[notDone j oj hoj h] at hd; cases hd
    cases hnw:fQ o with
    |true=>
     have hX:=memI hnw (ic ops S SV L);rw[hX] at hLv hlook;obtain⟨k1,_⟩:=J9 (env:=ic ops S SV L) hnw (ok.pl i o ho).1 (ok.ok i o ho).2 hlook (hst hnw);have k2:=(L7 hput).2 (ic ops S SV L);rw[henvS] at k2
     have k3:one Gi P { T i with env:=ic ops S SV L } o=some { T (i+1) with env:=ic ops S SV (L.setIfInBounds i true) } :=by unfold one;rw[k1];simp only[ae];exact k2
     refine .inl <| vC Ar hLv (ok.ok _ o ho).1 k3 (fun bt' a' w' h'=>next a' w' (.inl ⟨hlast',bt',i+1,by omega,fun j oj hoj hx=> ?_,h'⟩));rw[hset];by_cases hji:j=i
     ·simp[hji]
     ·rw[if_neg hji];constructor
      ·intro hd;rcases Nat.lt_or_gt_of_ne hji with hlt|hlt
       ·omega
       ·rw[notDone j oj hoj (ok.wr i j o oj ho hoj hnw hx hlt)] at hd;cases hd
      ·intro hlt;exact hB j (ok.wr j i oj o hoj ho hx hnw (by omega))
    |false=>
     obtain⟨k1,k2⟩:=hvl hnw
     have k3:eD Gi P { T k with env:=ic ops S SV L } o=some v:=by
      rw[<-k1];refine Ao (ok.ok i o ho).1 hnw hlook (fun t x hx=> ?_);unfold Ih at k2;rw[hx] at k2;simp only at k2;have b1: (T k).bx=(T i).bx:=(bxT k hk).trans (bxT i (by omega)).symm;generalize opd (T i) x=y at k2;cases y with
      |ptrB b j=>simp only[fO,b1]
      |pro cs=>rfl
      |ptrT p sz i' j'=>simp only[TM,aq] at k2;have g:=memG k2.1 hnw p.r (by simpa using k2.2);simp only[fO,St.rows,St.look,g]
      | _=>cases k2
     refine .inl <| Ot Ar hLv (ok.ok i o ho).1 k3 (fun bt' u w' h' hv=>next _ _ (.inl ⟨hlast',bt',k,hk,fun j oj hoj hx=> ?_,?_⟩))
     ·rw[hset]
      have hji:j≠i:=by intro e;subst e;rw[ho] at hoj;simp only[af] at hoj;rw[<-hoj,hnw] at hx;cases hx
      rw[if_neg hji];exact hph j oj hoj hx
     ·refine h'.put hv ?_
      have hnt: (T k).nt=(T i).nt:=by
       have ntT: ∀j,j+1<=ops.size->(T j).nt=S.nt:=by
        intro j
        induction j with
        |zero=>intro _; rw[t1]
        |succ j ih=>intro hj;obtain⟨v,Y,_,hc,_,he,_⟩:=EI j ops[j] (aO (by omega)) (by omega);rw[he];exact hc.2.2.1.trans (ih (by omega))
       rw[ntT k hk,ntT i (by omega)]
      have hy:=hy hnw;rw[hy] at hput;rw[<-henvS];unfold St.put at hput ⊢;cases hd:o.dst with
      |none=>simp
      |some d=>
       rw[hd] at hput;simp only at hput ⊢;split at hput
       ·rename_i hlt;rw[if_pos (by simpa [hnt] using hlt)];simp only[af]
        congr 1
        funext u
        unfold fo;by_cases hu:u=d
        ·subst hu; simp
        ·rw[if_neg hu,if_neg (fun h=>hu h.symm)]
       ·cases hput
 have hw0:=h.drawn (w.drawn+1);refine wp_region_any hm (main ops.size _ (List.range ops.size) a _ (by simp) List.nodup_range (fun i=> ?_) (by simp) (fun j hj hjt=> ?_) (.inl ⟨?_,bt,0,by omega,fun i o hi _=> ?_,?_⟩))
 ·simp only[bu];constructor
  ·intro hi;exact⟨hi,by simp[ba,hi]⟩
  ·exact fun h=>h.1
 ·simp[ba,hj] at hjt
 ·simp[ba,show ops.size-1<ops.size by omega]
 ·have:=(aE.1 hi).1;simp[ba,this]
 ·have e1:ic ops S SV (Array.replicate ops.size false)=S.env:=by
   funext t
   unfold ic;rw[if_neg];intro hd;obtain⟨i,o,h1,h2,_⟩:=lR.1 hd;have:=(aE.1 h1).1;simp[ba,this] at h2
  rw[e1,t1];exact hw0
end
end
section
open Go Go.RowKit
section
variable {P:Program} {w0 w w':World} {W:Nat->Prop} {btI bt bt':Bt} {SI S S':St} {a a':Act} {D:tD}
def mA (P:Program):Code->Bool
 | .skip=>true
 | .region _ ops false=>ops.toList.all (qM P)
 | .region _ ops true=>if EF ops then PS P ops else Et P ops
 | .seq a b=>mA P a&&mA P b
 | .cond _ a b=>mA P a&&mA P b
 | .block _ c=>mA P c
 | .loop c=>mA P c
 | .exit _=>true
 | .ret=>true
 | _=>false
def X.out:X->Exit
 | .nor=> .normal
 | .ret=> .ret
 | .ext i=> .exit i
theorem Nv {J:Nat->Prop} (h: ∃n,J n): ∃n,J n/\ ∀m,J m->n<=m:=by
 obtain⟨n,hn⟩:=h
 induction n using Nat.strongRecOn with
 | _ n ih=>
   by_cases hx: ∃m,m<n/\J m
   ·obtain⟨m,h1,h2⟩:=hx;exact ih m h1 h2
   ·exact⟨n,hn,fun m hm=>by
     cases cm m n with
     |inl h=>exact absurd ⟨m,h,hm⟩ hx
     |inr h=>exact h⟩
end
end
section
open Go Go.RowKit
section
variable {P:Program} {w0 w w':World} {W:Nat->Prop} {bt bt':Bt} {S0 S S':St} {a a':Act} {D:tD}
def so (bt:Bt) (σ:List (Option Nat)):Bt where
 β:=fun p=>match σ[p.r]? with |some (some r)=>bt.β ⟨r,p.l⟩| _=>0
 κ:=fun p=>match σ[p.r]? with |some (some r)=>bt.κ ⟨r,p.l⟩| _=>0
 bb:=fun _=>0
 nb:=0
 ng:=σ.length
 A:=bt.A
theorem Nw (bt:Bt) (σ τ:List (Option Nat)): (so bt σ).le (so bt (σ++τ)):=by
 refine⟨ay _,by simp[so],fun _ h=>h,fun p hp=> ?_,fun p hp=> ?_,fun _ _=>rfl⟩
 ·have : (σ++τ)[p.r]? =σ[p.r]? :=aH hp;simp only[so,this]
 ·have : (σ++τ)[p.r]? =σ[p.r]? :=aH hp;simp only[so,this]
def Tr (S0:St) (r:Nat) (t:T):Prop:= ∀m s rs,t.go m= .sl s rs-> ∃rs0,S0.look ⟨r,m⟩= .sl s rs0/\rs.length<=rs0.length/\ ∀ (i:Nat) (row:List T),rs[i]? =some row->rs0[i]? =some row
structure Ex (S0 S:St) (gs:List T) (σ:List (Option Nat)):Prop where
 len:σ.length=gs.length
 sub: ∀r t,S.gh r=some t->S0.gh r=some t
 fz:S.fz=S0.fz
 src: ∀ (k:Nat) (t:T),gs[k]? =some t->(∃r,σ[k]? =some (some r)/\Tr S0 r t)\/(σ[k]? =some none/\ ∃sz,t= .sl sz [])
 inj: ∀ (j k r:Nat),σ[j]? =some (some r)->σ[k]? =some (some r)->j=k
 used: ∀ (k r:Nat),σ[k]? =some (some r)->r<S0.fz\/S.gh r=none
theorem EG {gs gs':List T} {σ:List (Option Nat)} (hx:Ex S0 S gs σ) {sz:Nat} {v v':AV} {u:Value} (hv:VR w bt v u) (h:Dq S gs sz v=some (v',gs',S')):
  ∃τ,Ex S0 S' gs' (σ++τ)/\VR w (so bt (σ++τ)) v' u:=by
 cases hv with
 |sc hs=>simp only[Dq,af,an] at h;obtain⟨rfl,rfl,rfl⟩:=h;exact⟨[],by rw[bH]; exact hx, .sc hs⟩
 |em ad=>
  simp only[Dq,af,an] at h;obtain⟨rfl,rfl,rfl⟩:=h;have hnew: (σ++ [none])[gs.length]? =some none:=by rw[<-hx.len]; simp
  refine⟨[none],⟨by simp[hx.len],hx.sub,hx.fz,fun k t hk=> ?_,fun j k r hj hk=> ?_,fun k r hk=> ?_⟩, .own (by simp[so,hx.len]) (ay _) (by simp[so,hnew]) (fun h=>absurd h (by omega))⟩
  ·rcases cm k gs.length with hl|hl
   ·rw[aH hl] at hk;rw[aH (by rw[hx.len]; exact hl)];exact hx.src k t hk
   ·rw[aN hl] at hk
    have :k=gs.length:=by have:=(ai.1 hk).1;simp at this;omega
    subst this;simp at hk;exact .inr ⟨hnew,sz,hk.symm⟩
  ·have low: ∀k:Nat,(σ++ [none])[k]? =some (some r)->σ[k]? =some (some r):=by
    intro k hk;rw[dA] at hk;split at hk
    ·exact hk
    ·have:=ao hk;simp at this
   exact hx.inj j k r (low j hj) (low k hk)
  ·rw[dA] at hk;split at hk
   ·exact hx.used k r hk
   ·have:=ao hk;simp at this
 |own hp hc hkap ha=>
  rename_i p s lo len ad cap;simp only[Dq] at h;split at h
  ·rename_i hcond;obtain⟨hl,rfl,rfl,hfz⟩:=hcond;simp only[aj] at h;obtain⟨rows,hrows,h⟩:=h;split at h
   ·rename_i hlen;simp only[af,an] at h;obtain⟨rfl,rfl,rfl⟩:=h;obtain⟨pr,pl⟩:=p;simp only at hl hfz;subst hl
    have hgh:S.gh pr=some (.sl s rows):=by
     have:=lP hrows;unfold St.look at this;split at this
     ·rename_i t ht;simp only[T.go] at this;rw[ht,this]
     ·cases this
    have hnew: (σ++ [some pr])[gs.length]? =some (some pr):=by rw[<-hx.len]; simp
    have notin: ∀k:Nat,σ[k]? ≠some (some pr):=by
     intro k hk;rcases hx.used k pr hk with h|h
     ·rw[hx.fz] at hfz; omega
     ·rw[hgh] at h; cases h
    refine⟨[some pr],⟨by simp[hx.len],fun r t ht=> ?_,hx.fz,fun k t hk=> ?_,fun j k r hj hk=> ?_,fun k r hk=> ?_⟩, .own (by simp[so,hx.len]) hc ?_ (fun h=> ?_)⟩
    ·simp only[fo] at ht;split at ht
     ·cases ht
     ·exact hx.sub r t ht
    ·rcases cm k gs.length with hl|hl
     ·rw[aH hl] at hk;rw[aH (by rw[hx.len]; exact hl)];exact hx.src k t hk
     ·rw[aN hl] at hk
      have :k=gs.length:=by have:=(ai.1 hk).1;simp at this;omega
      subst this;simp at hk;subst hk;refine .inl ⟨pr,hnew,fun m s' rs hg=> ?_⟩
      have hlk: ∀m,S0.look ⟨pr,m⟩=(T.sl s rows).go m:=by intro m;unfold St.look;rw[hx.sub pr _ hgh]
      rcases T.go_take hg with ⟨rfl,rfl,rfl⟩| ⟨hm,hg'⟩
      ·exact⟨rows,hlk [],by simp; omega,fun i row hi=>by
        rw[bi] at hi;split at hi
        ·exact hi
        ·cases hi⟩
      ·exact⟨rs,by rw[hlk]; exact hg',ay _,fun i row hi=>hi⟩
    ·rw[dA] at hj hk;split at hj<;>split at hk
     ·exact hx.inj j k r hj hk
     ·have:=ao hk;simp at this;subst this;exact absurd hj (notin j)
     ·have:=ao hj;simp at this;subst this;exact absurd hk (notin k)
     ·have h1:=(ai.1 hj).1;have h2:=(ai.1 hk).1;simp at h1 h2;omega
    ·rw[dA] at hk;split at hk
     ·rcases hx.used k r hk with h|h
      ·exact .inl h
      ·right;simp only[fo];split
       ·rfl
       ·exact h
     ·have:=ao hk;simp at this;subst this;right;simp[fo]
    ·show 0+cap<=(so bt (σ++ [some pr])).κ ⟨gs.length,[]⟩;simp only[so,hnew];exact hkap
    ·show ad=some (⟨(so bt (σ++ [some pr])).β ⟨gs.length,[]⟩,0*s,none⟩:Addr);simp only[so,hnew];exact ha h
   ·cases h
  ·cases h
 | _=>simp[Dq] at h
theorem Ii: ∀ (szs:List Nat) (vs:List AV) (us:List Value) (gs gs':List T) (σ:List (Option Nat)) (S S':St) (vs':List AV),Ex S0 S gs σ->us.length=vs.length->(∀ (k:Nat) (v:AV) (u:Value),vs[k]? =some v->us[k]? =some u->VR w bt v u)->
  wj S gs szs vs=some (vs',gs',S')-> ∃τ,Ex S0 S' gs' (σ++τ)/\us.length=vs'.length/\ ∀ (k:Nat) (v:AV) (u:Value),vs'[k]? =some v->us[k]? =some u->VR w (so bt (σ++τ)) v u:=by
 intro szs
 induction szs with
 |nil=>
  intro vs us gs gs' σ S S' vs' hx hl hv h;cases vs with
  |nil=>simp only[wj,af,an] at h;obtain⟨rfl,rfl,rfl⟩:=h;exact⟨[],by rw[bH]; exact hx,hl,fun k v u hk=>by simp at hk⟩
  |cons v vs=>simp[wj] at h
 |cons sz szs ih=>
  intro vs us gs gs' σ S S' vs' hx hl hv h;cases vs with
  |nil=>simp[wj] at h
  |cons v vs=>
   cases us with
   |nil=>simp at hl
   |cons u us=>
    simp only[wj,aj,ak,Prod.exists,an] at h;obtain⟨v1,gs1,S1,h1,vs2,gs2,S2,h2,rfl,rfl,rfl⟩:=h;obtain⟨τ1,e1,e2⟩:=EG hx (hv 0 v u rfl rfl) h1;obtain⟨τ2,e3,e4,e5⟩:=ih vs us gs1 gs2 (σ++τ1) S1 S2 vs2 e1 (by simpa using hl) (fun k v u hk hu=>hv (k+1) v u (by simpa using hk) (by simpa using hu)) h2;refine⟨τ1++τ2,by rw[<-aR]; exact e3,by simp[e4],fun k v u hk hu=> ?_⟩;rw[<-aR];cases k with
    |zero=>simp only[aK,af] at hk hu;subst hk hu;exact e2.mono (Nw _ _ _) (fun _ _=>rfl)
    |succ k=>exact e5 k v u (by simpa using hk) (by simpa using hu)
theorem L9 {gs gs':List T} {σ:List (Option Nat)} (hx:Ex S0 S gs σ) {t:TypeId} {v v':AV} {u:Value} (hv:VR w bt v u) (h:Of P S gs t v=some (v',gs',S')):
  ∃τ,Ex S0 S' gs' (σ++τ)/\VR w (so bt (σ++τ)) v' u:=by
 cases v with
 |agg cs=>
  simp only[Of,ak,Prod.exists,an] at h;obtain⟨vs,gs1,S1,h1,rfl,rfl,rfl⟩:=h;cases hv with
  |agg hl ho hr=>obtain⟨τ,e1,e2,e3⟩:=Ii _ _ _ _ _ _ _ _ _ hx hl hr h1;exact⟨τ,e1, .agg e2 ho e3⟩
 | _=>exact EG (sz:=(pP P 9 t).headD 0) hx hv h
theorem EH: ∀ (ts:List (TypeId×AV)) (us:List Value) (gs gs':List T) (σ:List (Option Nat)) (S:St) (vs':List AV),Ex S0 S gs σ->us.length=ts.length->(∀ (k:Nat) (v:TypeId×AV) (u:Value),ts[k]? =some v->us[k]? =some u->VR w bt v.2 u)->
  JJ P S gs ts=some (vs',gs')-> ∃τ S',Ex S0 S' gs' (σ++τ)/\us.length=vs'.length/\ ∀ (k:Nat) (v:AV) (u:Value),vs'[k]? =some v->us[k]? =some u->VR w (so bt (σ++τ)) v u:=by
 intro ts
 induction ts with
 |nil=>intro us gs gs' σ S vs' hx hl hv h;simp only[JJ,af,an] at h;obtain⟨rfl,rfl⟩:=h;exact⟨[],S,by rw[bH]; exact hx,hl,fun k v u hk=>by simp at hk⟩
 |cons tv ts ih=>
  intro us gs gs' σ S vs' hx hl hv h;obtain⟨t,v⟩:=tv;cases us with
  |nil=>simp at hl
  |cons u us=>
   simp only[JJ,aj,ak,Prod.exists,an] at h;obtain⟨v1,gs1,S1,h1,vs2,gs2,h2,rfl,rfl⟩:=h;obtain⟨τ1,e1,e2⟩:=L9 hx (hv 0 (t,v) u rfl rfl) h1;obtain⟨τ2,S2,e3,e4,e5⟩:=ih us gs1 gs2 (σ++τ1) S1 vs2 e1 (by simpa using hl) (fun k v u hk hu=>hv (k+1) v u (by simpa using hk) (by simpa using hu)) h2;refine⟨τ1++τ2,S2,by rw[<-aR]; exact e3,by simp[e4],fun k v u hk hu=> ?_⟩;rw[<-aR];cases k with
   |zero=>simp only[aK,af] at hk hu;subst hk hu;exact e2.mono (Nw _ _ _) (fun _ _=>rfl)
   |succ k=>exact e5 k v u (by simpa using hk) (by simpa using hu)
theorem gz.out (hI:gz w0 W bt S0 w) {gs:List T} {σ:List (Option Nat)} (hx:Ex S0 S gs σ):gz w0 W (so bt σ) (oC gs) w:=by
 have look: ∀p s rs,(oC gs).look p= .sl s rs->(∃r rs0,σ[p.r]? =some (some r)/\S0.look ⟨r,p.l⟩= .sl s rs0/\rs.length<=rs0.length/\ ∀ (i:Nat) (row:List T),rs[i]? =some row->rs0[i]? =some row)\/(σ[p.r]? =some none/\rs= []):=by
  intro p s rs h;unfold St.look oC at h;simp only at h;split at h
  ·rename_i t ht;rcases hx.src _ t ht with ⟨r,h1,h2⟩| ⟨h1,sz,rfl⟩
   ·obtain⟨rs0,h3,h4,h5⟩:=h2 _ _ _ h;exact .inl ⟨r,rs0,h1,h3,h4,h5⟩
   ·right;refine⟨h1,?_⟩;cases hl:p.l with
    |nil=>rw[hl] at h; simp only[T.go,T.sl.injEq] at h; exact h.2.symm
    |cons y l=>rw[hl] at h;obtain⟨i,j⟩:=y;simp[T.go,T.cell,T.dd_go] at h
  ·cases h
 have eκ: ∀ (p:fj) (r:Nat),σ[p.r]? =some (some r)->(so bt σ).κ p=bt.κ ⟨r,p.l⟩/\(so bt σ).β p=bt.β ⟨r,p.l⟩:=by intro p r h;simp[so,h]
 have e0: ∀ (p:fj),σ[p.r]? =some none->(so bt σ).κ p=0:=by intro p h;simp[so,h]
 exact { os:=hI.os,tape:=hI.tape,output:=hI.output,size:=hI.size,keep:=hI.keep,nb:=rfl,ng:=by simp[so,oC,hx.len]
         bx:=fun n cells h=>by cases h
         gh:=fun r t h=>(ai.1 h).1
         tr:=fun p s rs h=>by
          rcases look p s rs h with ⟨r,rs0,h1,h2,h3,h4⟩| ⟨h1,rfl⟩
          ·rw[(eκ p r h1).1,(eκ p r h1).2];obtain⟨k1,k2⟩:=hI.tr _ _ _ h2;refine⟨by omega,fun hk=>⟨(k2 hk).1,?_⟩⟩;obtain⟨_,cs,e,g1,g2,g3,g4⟩:=k2 hk;refine⟨cs,e,by rw[(eκ p r h1).2]; exact g1,by rw[(eκ p r h1).1]; exact g2,g3,fun i row hi=> ?_⟩;obtain⟨m1,m2⟩:=g4 i row (h4 i row hi);refine⟨m1,fun j x hj=> ?_⟩;obtain⟨c,m3,m4⟩:=m2 j x hj;have:=eκ (p.sub i j) r h1;refine⟨c,m3,?_⟩;cases m4 with
           |sc h=>exact .sc h
           |dd u=>exact .dd _
           |sl q1 q2 q3=>exact .sl q1 (by rw[this.1]; exact q2) (by rw[this.2]; exact q3)
          ·rw[e0 p h1];exact⟨ay _,fun h=>absurd h (by omega)⟩
         inj:=fun p q s rs s' rs' h h' hk hk' he=>by
          rcases look p s rs h with ⟨r,rs0,h1,h2,_⟩| ⟨h1,_⟩
          ·rcases look q s' rs' h' with ⟨r',rs0',h1',h2',_⟩| ⟨h1',_⟩
           ·rw[(eκ p r h1).1] at hk;rw[(eκ q r' h1').1] at hk';rw[(eκ p r h1).2,(eκ q r' h1').2] at he;have:=hI.inj _ _ _ _ _ _ h2 h2' hk hk' he;simp only[fj.mk.injEq] at this;obtain⟨rfl,hl⟩:=this;obtain⟨pr,pl⟩:=p;obtain⟨qr,ql⟩:=q;simp only at*;rw[hl,hx.inj pr qr r h1 h1']
           ·rw[e0 q h1'] at hk'; omega
          ·rw[e0 p h1] at hk; omega
         bbinj:=fun n m c c' h=>by cases h
         bbtr:=fun n c p s rs h=>by cases h
         alt:=hI.alt
         atr:=fun p s rs h hk=>by
          rcases look p s rs h with ⟨r,rs0,h1,h2,_⟩| ⟨h1,_⟩
          ·rw[(eκ p r h1).1] at hk;rw[(eκ p r h1).2];exact hI.atr _ _ _ h2 hk
          ·rw[e0 p h1] at hk; omega
         abb:=fun n c h=>by cases h }
end
end
section
open Go Go.RowKit
def Kd (P:Program) (f:FuncId):Option Func:=(P.funcs[f]?).bind fun fn=>match fn.body with
 |none=>none
 |some c=>if fn.name== "runtime.NumGoroutine" || !mA P c then none else some fn
def Bc (P:Program) (S:St):ResultVar->Option AV
 | .tmp t=>some (S.env t)
 | .cell a t=>if 0<P.cellsOf t then load P S t (S.env a) else none
def Gj (n:Nat) (args:List AV) (gs:List T):St:= { env:=fun t=>args.getD t .dead,bx:=fun _=>none,gh:=fun n=>gs[n]?,nb:=0,ng:=gs.length,fz:=gs.length,orc:=none,nt:=args.length+(n-args.length) }
def EI:List AV->AV
 | [v] =>v
 |vs=> .tup vs
def Du (P:Program) (rs:List ResultVar) (ts:List TypeId) (n:Nat) (S:St):Option (AV×List T):=
 (rs.mapM (Bc P S)).bind fun vs=>if vs.length=ts.length then (JJ P S ((List.range n).map fun r=>(S.gh r).getD .dd) (ts.zip vs)).map fun (vs,out)=>(EI vs,out) else none
def Ij (tmps:Array Value):ResultVar->Sem Value
 | .tmp t=>pure (tmps.getD t undef)
 | .cell b t=>do loadVar t (<-asAddr (tmps.getD b undef))
section
variable {P:Program} {w0 w w':World} {W:Nat->Prop} {bt bt':Bt} {S0 S S':St} {a a':Act} {D:tD}
theorem CZ (hI:gz w0 W bt S w) (hE:ER w bt S a) {fn:Func} {vs:List AV} (h:fn.results.toList.mapM (Bc P S)=some vs):
  ∃us:List Value,us.length=vs.length/\(∀ (k:Nat) (v:AV) (u:Value),vs[k]? =some v->us[k]? =some u->VR w bt v u)/\(results fn a.tmps).run P w= .ok (match us with | [u] =>u|us=> .tuple us.toArray) w:=by
 have gE: ∀ (rs:List ResultVar) (vs:List AV),rs.mapM (Bc P S)=some vs-> ∃us:List Value,us.length=vs.length/\(∀ (k:Nat) (v:AV) (u:Value),vs[k]? =some v->us[k]? =some u->VR w bt v u)/\
   (rs.mapM (Ij a.tmps)).run P w= .ok us w:=by
  intro rs
  induction rs with
  |nil=>intro vs h;simp only[List.mapM_nil,dD,af] at h;subst h;exact⟨[],rfl,fun k v u hk=>by simp at hk,rfl⟩
  |cons r rs ih=>
   intro vs h;simp only[dw,dX,aj,dD,af] at h;obtain⟨v,h1,vs',h2,rfl⟩:=h;obtain⟨us,g1,g2,g3⟩:=ih vs' h2
   have one: ∃u,(Ij a.tmps r).run P w= .ok u w/\VR w bt v u:=by
    cases r with
    |tmp t=>simp only[Bc,af] at h1;subst h1;exact⟨_,rfl,hE.2 t⟩
    |cell b t=>
     simp only[Bc] at h1;split at h1
     ·rename_i hpos;simp only[load,aj] at h1;obtain⟨ag,hag,cs,hcs,hm⟩:=h1;obtain⟨ad,us,he,hul,hcl,hc,ho,hr⟩:=zA hI (hE.2 b) hcs hpos;obtain⟨u',k1,k2⟩:=wV hag hul hc (by omega) ho hr hm;exact⟨u',by simp[Ij,he,asAddr,k1],k2⟩
     ·cases h1
   obtain⟨u,k1,k2⟩:=one;refine⟨u::us,by simp[g1],fun k v' u' hk hu=> ?_,?_⟩
   ·cases k with
    |zero=>simp only[aK,af] at hk hu;subst hk hu;exact k2
    |succ k=>exact g2 k v' u' (by simpa using hk) (by simpa using hu)
   ·rw[dw];simp only[Sem.run_bind,k1,Result.andThen_ok,g3,Sem.run_pure]
 obtain⟨us,g1,g2,g3⟩:=gE _ _ h;refine⟨us,g1,g2,?_⟩
 have hres:results fn a.tmps=(do
   let vs <-fn.results.mapM (Ij a.tmps)
   pure (if h:vs.size=1 then vs[0] else .tuple vs)):=rfl
 rw[hres,Array.mapM_eq_mapM_toList];simp only[Sem.run_bind,map_eq_pure_bind,g3,Result.andThen_ok,Sem.run_pure]
 congr 1
 match us with
 | [] =>rfl
 | [u] =>rfl
 |u::u'::us=>simp
end
end
section
open Go Go.RowKit
section
variable {P:Program} {w0 w w':World} {W:Nat->Prop} {btI bt bt' bt0:Bt} {SI S S' S1:St} {a a':Act} {D:tD}
def sq (P:Program) (c:Code) (S:St) (Post:X->St->Prop):Prop:=
 ∀ ⦃w0:World⦄ ⦃W:Nat->Prop⦄ ⦃btI:Bt⦄ ⦃SI:St⦄ ⦃bt:Bt⦄ ⦃a:Act⦄ ⦃w:World⦄ ⦃Q:Exit->Act->World->Prop⦄,Lv w0 W btI SI bt S a w->
   (∀x S' bt' a' w',Post x S'->Lv w0 W btI SI bt' S' a' w'->Q x.out a' w')->c.wp P Q a w
def vE (P:Program) (ops:Array Oper) (l:List Oper) (S:St) (Post:St->Prop):Prop:=
 ∀ (k:Nat) ⦃w0:World⦄ ⦃W:Nat->Prop⦄ ⦃btI:Bt⦄ ⦃SI:St⦄ ⦃bt:Bt⦄ ⦃a:Act⦄ ⦃w:World⦄ ⦃Q:Exit->Act->World->Prop⦄,ops.toList.drop k=l->Lv w0 W btI SI bt S a w->
   (∀S' bt' a' w',Post S'->Lv w0 W btI SI bt' S' a' w'->Q .normal a' w')->wpOps P ops Q (List.range' k l.length) a w
def qN (S S1:St):Prop:= ∀ ⦃w0:World⦄ ⦃W:Nat->Prop⦄ ⦃btI:Bt⦄ ⦃SI:St⦄ ⦃bt:Bt⦄ ⦃a:Act⦄ ⦃w:World⦄,Lv w0 W btI SI bt S a w-> ∃bt1,Lv w0 W btI SI bt1 S1 a w
theorem qN.refl:qN S S:=by intro w0 W btI SI bt a w h; exact⟨_,h⟩
theorem qN.trans {S2:St} (h:qN S S1) (k:qN S1 S2):qN S S2:=by intro w0 W btI SI bt a w hl;obtain⟨bt1,h1⟩:=h hl;exact k h1
theorem sq.mono {c:Code} {Post Post':X->St->Prop} (h:sq P c S Post) (hp: ∀x S,Post x S-> ∃S',qN S S'/\Post' x S'):sq P c S Post':=by intro w0 W btI SI bt a w Q hl hK;refine h hl (fun x S' bt' a' w' hP hl'=> ?_);obtain⟨S2,h1,h2⟩:=hp x S' hP;obtain⟨bt2,h3⟩:=h1 hl';exact hK x S2 bt2 a' w' h2 h3
theorem sq.weak {c:Code} {Post:X->St->Prop} (hw:qN S S1) (h:sq P c S1 Post):sq P c S Post:=by intro w0 W btI SI bt a w Q hl hK;obtain⟨bt1,h1⟩:=hw hl;exact h h1 hK
theorem sq.skip {Post:X->St->Prop} (h:Post .nor S):sq P .skip S Post:=by intro w0 W btI SI bt a w Q hl hK;exact wp_skip (hK _ _ _ _ _ h hl)
theorem sq.exit {Post:X->St->Prop} {i:Nat} (h:Post (.ext i) S):sq P (.exit i) S Post:=by intro w0 W btI SI bt a w Q hl hK;exact wp_exit (hK _ _ _ _ _ h hl)
theorem sq.ret {Post:X->St->Prop} (h:Post .ret S):sq P .ret S Post:=by intro w0 W btI SI bt a w Q hl hK;exact wp_ret (hK _ _ _ _ _ h hl)
theorem sq.region {Post:X->St->Prop} {id:Nat} {ops:Array Oper} (h:vE P ops ops.toList S (Post .nor)):sq P (.region id ops false) S Post:=by intro w0 W btI SI bt a w Q hl hK;refine wp_region ?_;have:=h 0 (Q:=Q) rfl hl (fun S' bt' a' w' hP hl'=>hK .nor S' bt' a' w' hP hl');rw[cH];simpa using this
theorem sq.draw {Post:X->St->Prop} {id:Nat} {ops:Array Oper} (hD:oF P D) (hm:P.follows .mixedOrders=true) (hok:Et P ops=true) {S0 SV:St} {ms:List ki} (hpre:HY P ops.toList S=some S0) (hV:Ed D P ops ops.toList S0=some (SV,ms)) (hev:LP (zz P) ops.toList (gW ops.toList) S0 ms SV=true) (hS:F8 D P ops ops.toList SV=some S')
  (h:Post .nor S'):sq P (.region id ops true) S Post:=by
 intro w0 W btI SI bt a w Q hl hK;exact L4 hD hm hok hpre hl hV hev hS (fun bt' a' w' h'=>hK .nor S' bt' a' w' h h')
theorem sq.chain {Post:X->St->Prop} {id:Nat} {ops:Array Oper} (hm:P.follows .mixedOrders=true) (hok:PS P ops=true) (hV:R7 P S.ng ops.toList (gW ops.toList) 0 ops.toList S=some S') (h:Post .nor S'):sq P (.region id ops true) S Post:=by intro w0 W btI SI bt a w Q hl hK;exact Kb hm hok hl hV (fun bt' a' w' h'=>hK .nor S' bt' a' w' h h')
theorem sq.seq {Post:X->St->Prop} {c d:Code} (h:sq P c S (fun x S1=>match x with | .nor=>sq P d S1 Post|x=>Post x S1)):sq P (.seq c d) S Post:=by
 intro w0 W btI SI bt a w Q hl hK;refine wp_seq (h hl (fun x S1 bt' a' w' hP hl'=> ?_));cases x with
 |nor=>exact hP hl' hK
 |ret=>exact hK _ _ _ _ _ hP hl'
 |ext i=>exact hK _ _ _ _ _ hP hl'
theorem sq.cond {Post:X->St->Prop} {t:Operand} {c d:Code} {b:Bool} (hb:opd S t= .sc (.bool b)) (h:sq P (if b then c else d) S Post):sq P (.cond t c d) S Post:=by
 intro w0 W btI SI bt a w Q hl hK;have hv:=ft hl.er t;rw[hb] at hv;refine wp_cond hv.inv_sc ?_;cases b with
 |true=>exact h hl hK
 |false=>exact h hl hK
theorem sq.block {Post:X->St->Prop} {i:Nat} {c:Code} (h:sq P c S (fun x S1=>match x with | .ext j=>if j=i then Post .nor S1 else Post (.ext j) S1|x=>Post x S1)):sq P (.block i c) S Post:=by
 intro w0 W btI SI bt a w Q hl hK;refine wp_block (h hl (fun x S1 bt' a' w' hP hl'=> ?_));cases x with
 |nor=>exact hK _ _ _ _ _ hP hl'
 |ret=>exact hK _ _ _ _ _ hP hl'
 |ext j=>
  show Exit.inBlock i Q (.exit j) a' w';unfold Exit.inBlock;simp only;simp only at hP;split
  ·rename_i hj;rw[if_pos hj] at hP;exact hK _ _ _ _ _ hP hl'
  ·rename_i hj;rw[if_neg hj] at hP;exact hK _ _ _ _ _ hP hl'
theorem sq.loop {Post:X->St->Prop} {c:Code} (I:Nat->St->Prop) (h: ∀n S,I n S->sq P c S (fun x S1=>match x with | .nor=> ∃m,m<n/\I m S1|x=>Post x S1)) {n:Nat} (h0:I n S):sq P (.loop c) S Post:=by
 intro w0 W btI SI bt a w Q hl hK
 let J:Nat->Act->World->Prop:=fun n a w=> ∃bt S,Lv w0 W btI SI bt S a w/\I n S
 classical
 refine wp_loop (fun a w=> ∃n,J n a w) (fun a w=>if hx: ∃n,J n a w then Classical.choose (Nv hx) else 0) ⟨n,bt,S,hl,h0⟩ (fun a w hx=> ?_);obtain⟨hj,hmin⟩:=Classical.choose_spec (Nv hx);generalize hnn:Classical.choose (Nv hx)=n at*;simp only[dif_pos hx,hnn];obtain⟨bt,S,hl,hI⟩:=hj;refine h n S hI hl (fun x S1 bt' a' w' hP hl'=> ?_);cases x with
 |nor=>
  obtain⟨m,hm,hI'⟩:=hP;have hex: ∃n,J n a' w':=⟨m,bt',S1,hl',hI'⟩
  refine⟨hex,?_⟩;rw[dif_pos hex];exact Nat.lt_of_le_of_lt ((Classical.choose_spec (Nv hex)).2 m ⟨bt',S1,hl',hI'⟩) hm
 |ret=>exact hK _ _ _ _ _ hP hl'
 |ext i=>exact hK _ _ _ _ _ hP hl'
theorem vE.nil {Post:St->Prop} {ops:Array Oper} (h:Post S):vE P ops [] S Post:=by intro k w0 W btI SI bt a w Q _ hl hK;exact hK _ _ _ _ h hl
theorem vE.weak {Post:St->Prop} {ops:Array Oper} {l:List Oper} (hw:qN S S1) (h:vE P ops l S1 Post):vE P ops l S Post:=by intro k w0 W btI SI bt a w Q hd hl hK;obtain⟨bt1,h1⟩:=hw hl;exact h k hd h1 hK
theorem vE.eqnil {Post:St->Prop} {ops:Array Oper} {o:Oper} {l:List Oper} {t t' el:TypeId} {x:Operand} {sz:Nat} {rows:List (List T)} (hel:yH P t=some el) (ho:o.op= .binOp .eql t x (.const (.slice none 0 0)) t') (hg:o.guard=none) (hx:opd S x= .ro sz rows)
  (h1:rows= [] -> ∃S1,S.put o.dst (.sc (.bool true))=some S1/\vE P ops l S1 Post) (h2: ∃S1,S.put o.dst (.sc (.bool false))=some S1/\vE P ops l S1 Post):vE P ops (o::l) S Post:=by
 intro k w0 W btI SI bt a w Q hd hl hK
 have hko:ops.toList[k]? =some o:=by have:=congrArg (fun x:List Oper=>x[0]?) hd;simpa [aX] using this
 have hko':ops[k]? =some o:=by simpa using hko
 have hd':ops.toList.drop (k+1)=l:=by rw[<-cj,hd];rfl
 have hw:=nG (ops:=ops) (o:=o) (b:=true) hl.er (by unfold oD; rw[hg]);have hv:=ft hl.er x;rw[hx] at hv
 obtain⟨b,hb,hrun⟩: ∃b,(b=true->rows= [])/\(execOp a.eval o).run P w= .ok (.value (.bool b)) w:=by
  obtain⟨dst,op,type,pos,after,guard⟩:=o;simp only at ho;subst ho;have hc:a.eval (.const (.slice none 0 0))= .slice none 0 0:=rfl
  have run: ∀ (ad:Option Addr) (n c:Nat),a.eval x= .slice ad n c->(execOp a.eval ⟨dst, .binOp .eql t x (.const (.slice none 0 0)) t',type,pos,after,guard⟩).run P w= .ok (.value (.bool ad.isNone)) w:=by
   intro ad n c hu;have e:execOp a.eval ⟨dst, .binOp .eql t x (.const (.slice none 0 0)) t',type,pos,after,guard⟩=(do pure (Next.value (<-(do eqGuard .eql t x (.const (.slice none 0 0)) (a.eval x) (a.eval (.const (.slice none 0 0))); binOp .eql t (a.eval x) (a.eval (.const (.slice none 0 0))))))):=rfl;rw[e,hu,hc]
   have g: (eqGuard .eql t x (.const (.slice none 0 0)) (.slice ad n c) (.slice none 0 0)).run P w= .ok () w:=by simp[eqGuard]
   have q: (binOp .eql t (.slice ad n c) (.slice none 0 0)).run P w= .ok (.bool ad.isNone) w:=by
    show (do pure (.bool (<-Op.equal t (.slice ad n c) (.slice none 0 0))):Sem Value).run P w=_
    have : (Op.equal t (.slice ad n c) (.slice none 0 0)).run P w= .ok ad.isNone w:=by show (Op.equalIn (9999+1) t (.slice ad n c) (.slice none 0 0)).run P w=_;rw[Op.equalIn];simp only[Sem.run_bind,run_underlying (lO hel),Result.andThen_ok];cases ad<;>rfl
    simp only[Sem.run_bind,this,Result.andThen_ok,Sem.run_pure]
   simp only[Sem.run_bind,g,q,Result.andThen_ok,Sem.run_pure]
  generalize hu:a.eval x=u at*;cases hv with
  |ro hro=>
   cases hro with
   |em sz ad cap=>exact⟨ad.isNone,fun _=>rfl,run ad 0 cap rfl⟩
   |sl cs hc' hs hA hl' hr ht=>exact⟨false,nofun,run _ _ _ rfl⟩
 simp only[bk,cE];unfold wpOps;rw[hko'];simp only;rw[hw,if_pos rfl];left;unfold Oper.wp;rw[hrun,Oper.upon_value];cases b with
 |true=>obtain⟨S1,g1,g2⟩:=h1 (hb rfl);exact g2 (k+1) hd' (hl.put (.sc rfl) g1) hK
 |false=>obtain⟨S1,g1,g2⟩:=h2;exact g2 (k+1) hd' (hl.put (.sc rfl) g1) hK
theorem vE.cons {Post:St->Prop} {ops:Array Oper} {o:Oper} {l:List Oper} {b:Bool} (hok:qM P o=true) (hb:oD S ops o=some b)
  (h:if b then ∃D S1,oF P D/\one D P S o=some S1/\vE P ops l S1 Post else ∃S1,S.put o.dst (.tup [])=some S1/\vE P ops l S1 Post):vE P ops (o::l) S Post:=by
 intro k w0 W btI SI bt a w Q hd hl hK
 have hko:ops.toList[k]? =some o:=by have:=congrArg (fun x:List Oper=>x[0]?) hd;simpa [aX] using this
 have hko':ops[k]? =some o:=by simpa using hko
 have hd':ops.toList.drop (k+1)=l:=by rw[<-cj,hd];rfl
 have hw:=nG hl.er hb;simp only[bk,cE];unfold wpOps;rw[hko'];simp only;cases b with
 |true=>simp only[if_true] at h;obtain⟨D,S1,hD,h1,h2⟩:=h;rw[hw,if_pos rfl];exact .inl (vC hD hl hok h1 (fun bt' a' w' h'=>h2 (k+1) hd' h' hK))
 |false=>simp only[bg,if_false] at h;obtain⟨S1,h1,h2⟩:=h;rw[hw,if_neg (by simp)];exact h2 (k+1) hd' (hl.put Eo h1) hK
theorem Ke {f:FuncId} {fn:Func} {c:Code} (hfn:Kd P f=some fn) (hc:fn.body=some c) {args:List AV} {gs:List T} {res:AV} {out:List T}
  (h:sq P c (Gj fn.ntmps args gs) (fun x S=>match x with | .ext _=>False| _=>Du P fn.results.toList fn.resultTypes.toList gs.length S=some (res,out))):va P f args gs res out:=by
 intro w W bt0 vals hI hl hv
 obtain⟨hf,hname,hcok⟩:P.funcs[f]? =some fn/\(fn.name== "runtime.NumGoroutine")=false/\mA P c=true:=by
  unfold Kd at hfn;simp only[aj] at hfn;obtain⟨fn',g1,g2⟩:=hfn;split at g2
  ·cases g2
  ·rename_i c' hc';split at g2
   ·cases g2
   ·rename_i hn;simp only[af] at g2;subst g2;rw[hc] at hc';simp only[af] at hc';subst hc';simp only[bC,not_or,dM,dF] at hn;exact⟨g1,hn.1,hn.2⟩
 have hname': ¬fn.name= "runtime.NumGoroutine" :=by simpa using hname
 refine⟨by simp[callFunc,hf,hname',hc],calls_of_wp hf hc ?_⟩
 have h0:Lv w W bt0 (Gj fn.ntmps args gs) bt0 (Gj fn.ntmps args gs) { tmps:=vals.toArray++Array.replicate (fn.ntmps-vals.toArray.size) undef,defers:= [] } w:=by
  refine⟨{ os:=hI.os,tape:=hI.tape,output:=hI.output,size:=hI.size,keep:=hI.keep,nb:=hI.nb,ng:=hI.ng,bx:=hI.bx,gh:=hI.gh,tr:=hI.tr,inj:=hI.inj,bbinj:=hI.bbinj,bbtr:=hI.bbtr,alt:=hI.alt,atr:=hI.atr,abb:=hI.abb },
   ⟨by simp[Gj,hl],fun t=> ?_⟩,rfl,rfl,ay _,fun _ _=>⟨rfl,rfl⟩,fun _ _ h=>h⟩
  show VR w bt0 (args.getD t .dead) _;cases ha:args[t]? with
  |none=>simp only[aw,ha,dx];exact .dead _
  |some v=>
   have ht:=(ai.1 ha).1;have hvt:vals[t]? =some (vals[t]'(by omega)):=ah _
   have : (vals.toArray++Array.replicate (fn.ntmps-vals.toArray.size) undef).getD t undef=vals[t]'(by omega):=by rw[ba,ci (by simp; omega)];simp[hvt]
   rw[this];simp only[aw,ha,aP];exact hv t v _ ha hvt
 refine h h0 (fun x S1 bt' a' w' h2 h'=> ?_)
 have fin:Du P fn.results.toList fn.resultTypes.toList gs.length S1=some (res,out)-> ∃v,(results fn a'.tmps).run P w'= .ok v w'/\ ∃v' btn,Ending.returned v= .returned v'/\gz w W btn (oC out) w'/\gs.length<=out.length/\(∀p:fj,p.r<gs.length->btn.β p=bt0.β p/\btn.κ p=bt0.κ p)/\VR w' btn res v':=by
  intro h2;unfold Du at h2;simp only[aj] at h2;obtain⟨vs,h3,h4⟩:=h2;split at h4
  ·rename_i hlen;simp only[ak,Prod.exists,an] at h4;obtain⟨vs',out',h5,rfl,rfl⟩:=h4;obtain⟨us,g1,g2,g3⟩:=CZ h'.inv h'.er h3;have hfz:S1.fz=gs.length:=h'.fz
   have hx0:Ex S1 S1 ((List.range gs.length).map fun r=>(S1.gh r).getD .dd) ((List.range gs.length).map some):=by
    refine⟨by simp,fun _ _ h=>h,rfl,fun k t hk=> ?_,fun j k r hj hk=> ?_,fun k r hk=> ?_⟩
    ·simp only[ar,ak] at hk;obtain⟨r,hr,rfl⟩:=hk
     have :r=k/\k<gs.length:=by rw[ai] at hr;obtain⟨q1,q2⟩:=hr;simp at q1 q2;exact⟨q2.symm,q1⟩
     obtain⟨rfl,hk⟩:=this;refine .inl ⟨r,by simp[hk],fun m s rs hg=>⟨rs,?_,ay _,fun _ _ h=>h⟩⟩;cases hgh:S1.gh r with
     |none=>have:=h'.gone r hk hgh;simp[Gj] at this;omega
     |some t=>rw[hgh] at hg;unfold St.look;rw[hgh];exact hg
    ·simp only[ar,ak,af] at hj hk;obtain⟨r1,h1,rfl⟩:=hj;obtain⟨r2,h2,rfl⟩:=hk;rw[ai] at h1 h2;obtain⟨_,h1⟩:=h1;obtain⟨_,h2⟩:=h2;simp at h1 h2;omega
    ·simp only[ar,ak,af] at hk;obtain⟨r1,h1,rfl⟩:=hk;left;rw[ai] at h1;obtain⟨h0,h1⟩:=h1;simp at h0 h1;omega
   obtain⟨τ,S2,e1,e2,e3⟩:=EH (bt:=bt') (w:=w') _ us _ _ _ _ _ hx0 (by simp[g1,hlen]) (fun k tv u hk hu=>by rw[List.getElem?_zip_eq_some] at hk;exact g2 k tv.2 u hk.2 hu) h5
   have hout:=h'.inv.out e1
   have hlo:gs.length<=out'.length:=by rw[<-e1.len];simp
   refine⟨_,g3,_,_,rfl,hout,hlo,fun p hp=> ?_,?_⟩
   ·have hσ: ((List.range gs.length).map some++τ)[p.r]? =some (some p.r):=by
     rw[aH (by simpa using hp)];simp[hp]
    have:=h'.keep p hp;simp only[so,hσ];exact this
   ·match vs',us,e2,e3 with
    | [v],[u],_,e3=>exact e3 0 v u rfl rfl
    | [],[],_,e3=>exact .tup rfl (fun k c u hk=>by simp at hk)
    |v::v'::vs',u::u'::us,e2,e3=>exact .tup e2 e3
  ·cases h4
 simp only at h2;cases x with
 |ext i=>simp at h2
 |nor=>exact⟨h'.defers,fin h2⟩
 |ret=>exact⟨h'.defers,fin h2⟩
end
end
section
open Go Go.RowKit
section
variable {P:Program} {w0 w w':World} {W:Nat->Prop} {bt btn:Bt} {S:St} {a:Act} {A:Nat->Prop}
structure C0 (bt:Bt) (S:St) (A:Nat->Prop):Prop where
 h1: ∀b,bt.A b->A b
 h2: ∀p s rs,S.look p= .sl s rs->0<bt.κ p->A (bt.β p)
 h3: ∀n cs,S.bx n=some cs->A (bt.bb n)
theorem C0.le (h:C0 bt S A):bt.le { bt with A:=A } :=⟨ay _,ay _,h.h1,fun _ _=>rfl,fun _ _=>rfl,fun _ _=>rfl⟩
theorem PU (hI:gz w0 W bt S w) (hA:C0 bt S A) {v:AV} {u:Value} (sz:Nat) (h:VR w bt v u) (ho:u.oneCell'=true):RO w A (T.ofAV S sz v) u:=by
 cases v with
 |sc v=>cases h with |sc h=>exact .sc h
 |em=>cases h with |em a=>exact .em _ _ _
 |ro s rows=>cases h with |ro h=>exact h.mono (hA.h1) (fun _ _=>rfl)
 |own p s lo len=>
  simp only[T.ofAV];split
  ·split
   ·exact Ek hI hA.h2 h ‹_› ‹_›
   ·exact .dd ho
  ·exact .dd ho
 | _=>exact .dd ho
theorem wu (hI:gz w0 W bt S w) (hA:C0 bt S A) {v:AV} {u:Value} (sz:Nat) (h:VR w bt v u):VR w { bt with A:=A } (gO S sz v) u:=by
 cases v with
 |sc v=>exact h.mono hA.le (fun _ _=>rfl)
 |em=>cases h with |em a=>exact .ro (.em _ _ _)
 |ro s rows=>exact h.mono hA.le (fun _ _=>rfl)
 |pro cells=>exact h.mono hA.le (fun _ _=>rfl)
 |own p s lo len=>
  simp only[gO];split
  ·split
   ·exact .ro (Ek hI hA.h2 h ‹_› ‹_›)
   ·exact .dead _
  ·exact .dead _
 |ptrB b j=>
  simp only[gO];split
  ·rename_i cs hb;cases h with
   |ptrB j hn=>
    obtain⟨_,_,arr,e,g1,g2,g3⟩:=hI.bx _ _ hb;refine .pro (fun k=>(arr[j+k]?).getD undef) rfl (hA.h3 _ _ hb) (fun k x hk=> ?_) (fun k x hk=> ?_)
    ·rw[ar] at hk;simp only[ak] at hk;obtain⟨v,hv,rfl⟩:=hk;rw[aX] at hv;obtain⟨c,k1,k2,k3⟩:=g3 _ _ hv;rw[add_lit,mz g1,k1];rfl
    ·rw[ar] at hk;simp only[ak] at hk;obtain⟨v,hv,rfl⟩:=hk;rw[aX] at hv;obtain⟨c,k1,k2,k3⟩:=g3 _ _ hv;rw[k1];exact PU hI hA 0 k2 k3
  ·exact .dead _
 |ptrT p s i j=>
  simp only[gO];split
  ·rename_i rows hr;have hlook:=lP hr;cases h with
   |ptrT s i j hp hk=>
    obtain⟨_,arr,e,g1,g2,g3,g4⟩:=(hI.tr _ _ _ hlook).2 (by omega)
    have each: ∀ (k:Nat) (x:T),((rows.getD i []).drop j)[k]? =some x-> ∃r c,rows[i]? =some r/\r[j+k]? =some x/\arr[i*s+j+k]? =some c/\HR bt (p.sub i (j+k)) x c:=by
     intro k x hx;rw[aX] at hx;cases hr':rows[i]? with
     |none=>simp[hr'] at hx
     |some r=>simp only[aw,hr',aP] at hx;obtain⟨c,k1,k2⟩:=(g4 i r hr').2 _ _ hx;exact⟨r,c,rfl,hx,by rw[dJ]; exact k1,k2⟩
    refine .pro (fun k=>(arr[i*s+j+k]?).getD undef) rfl (hA.h2 _ _ _ hlook (by omega)) (fun k x hx=> ?_) (fun k x hx=> ?_)
    ·obtain⟨r,c,k0,k1,k2,k3⟩:=each k x hx;rw[add_lit,mz g1,k2];rfl
    ·obtain⟨r,c,k0,k1,k2,k3⟩:=each k x hx;rw[k2];refine H6 hI hA.h2 _ (p.sub i (j+k)) x c (ay _) k3 (g3 _ _ k2) (fun s' rs hxx=> ?_);unfold St.look at hlook ⊢;split at hlook
     ·rename_i t ht;show (match S.gh p.r with |some t=>t.go (p.l++ [(i,j+k)])|none=> .dd)=_;rw[ht];simp only;rw[T.go_append,hlook];simp only[T.go,T.cell,aw,k0,aP,k1];exact hxx
     ·cases hlook
  ·exact .dead _
 | _=>exact .dead _
theorem Oz (hI:gz w0 W bt S w) (hA:C0 bt S A) {v:AV} {u:Value} (szs:List Nat) (h:VR w bt v u):VR w { bt with A:=A } (lN S szs v) u:=by
 cases v with
 |agg cs=>
  simp only[lN];split
  ·rename_i hl;cases h with
   |agg hl' ho hr=>
    rename_i us;refine .agg (by simp[hl,hl']) ho (fun k c u h1 h2=> ?_);rw[bA] at h1;split at h1
    ·rename_i s c' e1 e2;simp only[af] at h1;subst h1;exact wu hI hA s (hr k c' u e2 h2)
    ·cases h1
  ·exact .dead _
 |fn f caps=>
  cases h with
  |fn f hl hr=>rename_i us;refine .fn f (by simp[hl]) (fun k c u h1 h2=> ?_);rw[ar] at h1;simp only[ak] at h1;obtain⟨c',e1,rfl⟩:=h1;exact wu hI hA 0 (hr k c' u e1 h2)
 |em=>cases h with |em a=>exact .em a
 | _=>exact wu hI hA (szs.headD 0) h
def wX (P:Program) (S:St) (ts:List TypeId) (as:List Operand) (caps:List AV):List AV:=
 List.zipWith (fun t a=>lN S (pP P 9 t) (opd S a)) ts as++caps.map (gO S 0)
theorem Kf (hI:gz w0 W bt S w) (hE:ER w bt S a) (hA:C0 bt S A) {bt':Bt} (hA':bt'.A=A) {ts:List TypeId} {as:List Operand} {caps:List AV} {us:List Value} (hts:ts.length=as.length) (hl:us.length=caps.length)
  (hc: ∀ (k:Nat) (c:AV) (u:Value),caps[k]? =some c->us[k]? =some u->VR w bt c u):
  (as.map a.eval++us).length=(wX P S ts as caps).length/\ ∀ (k:Nat) (v:AV) (u:Value),(wX P S ts as caps)[k]? =some v->(as.map a.eval++us)[k]? =some u->VR w bt' v u:=by
 have l1: (List.zipWith (fun t x=>lN S (pP P 9 t) (opd S x)) ts as).length=as.length:=by simp[hts]
 refine⟨by simp[wX,hts,hl],fun k v u h1 h2=> ?_⟩;unfold wX at h1;by_cases hk:k<as.length
 ·rw[aH (by omega)] at h1;rw[aH (by simpa using hk),ar] at h2;rw[bA] at h1;split at h1
  ·rename_i t x e1 e2;simp only[af] at h1;rw[e2] at h2;simp only[aB,af] at h2;subst h1 h2;exact VR.readOnly (bt:= { bt with A:=A }) hA' (Oz hI hA _ (ft hE x)) (JW _ _ _)
  ·cases h1
 ·rw[aN (by omega),l1,ar] at h1;rw[aN (by simp; omega)] at h2;simp only[aD] at h2;simp only[ak] at h1;obtain⟨c,e1,rfl⟩:=h1;exact VR.readOnly (bt:= { bt with A:=A }) hA' (wu hI hA 0 (hc _ c u e1 h2)) (A5 (vB _ _ _))
def oz (P:Program) (f:FuncId) (args:List AV) (gs:List T) (m:Nat) (res:AV) (out:List T):Prop:=
 ∀ (w:World) (W:Nat->Prop) (bt0:Bt) (vals:List Value),gz w W bt0 (oC gs) w->vals.length=args.length->(∀ (k:Nat) (v:AV) (u:Value),args[k]? =some v->vals[k]? =some u->VR w bt0 v u)->
   (callFunc f vals.toArray).run P w= .ok (.enter f vals.toArray) w/\
   Calls P f vals.toArray w fun e w'=> ∃v btn,e= .returned v/\gz w W btn (oC out) w'/\m<=out.length/\(∀p:fj,p.r<m->btn.β p=bt0.β p/\btn.κ p=bt0.κ p)/\VR w' btn res v
theorem Kg {t:T} {p:fj} {s:Nat} {rs:List (List T)} (h: (oC [t]).look p= .sl s rs):p.r=0/\t.go p.l= .sl s rs:=by
 unfold St.look oC at h;simp only at h;cases hp:p.r with
 |zero=>rw[hp] at h; exact⟨rfl,h⟩
 |succ n=>rw[hp] at h; cases h
theorem Hq {r:Nat} {p:fj} {s:Nat} {rs:List (List T)} (h: ({ S with gh:=fo S.gh r none }:St).look p= .sl s rs):p.r≠r/\S.look p= .sl s rs:=by
 unfold St.look at h;simp only[fo] at h;by_cases hp:p.r=r
 ·rw[if_pos hp] at h;cases h
 ·rw[if_neg hp] at h;exact⟨hp,h⟩
def ve (bt:Bt) (S:St) (r:Nat) (b:Nat):Prop:= ∃l s rs,S.look ⟨r,l⟩= .sl s rs/\0<bt.κ ⟨r,l⟩/\bt.β ⟨r,l⟩=b
theorem tK (hI:gz w0 W bt S w) {r b:Nat} (h:ve bt S r b):PD w0 W bt { S with gh:=fo S.gh r none } b:=by obtain⟨l,s,rs,h1,h2,rfl⟩:=h;refine⟨((hI.tr _ _ _ h1).2 h2).1,fun n cs hn=>hI.bbtr _ _ _ _ _ hn h1 h2,fun p s' rs' hp hk he=> ?_,hI.atr _ _ _ h1 h2⟩;obtain⟨q1,q2⟩:=Hq hp;have:=hI.inj _ _ _ _ _ _ q2 h1 hk h2 he;rw[this] at q1;exact q1 rfl
theorem OA (hI:gz w0 W bt S w) (r:Nat):C0 bt { S with gh:=fo S.gh r none } (fun b=>b<w.heap.size/\ ¬ve bt S r b):=by refine⟨fun b hb=>⟨hI.alt b hb,fun h=>(tK hI h).A hb⟩,fun p s rs hp hk=>⟨hI.βlt (Hq hp).2 hk,fun h=>(tK hI h).tr p s rs hp hk rfl⟩,fun n cs hn=>⟨hI.bblt (n:=n) hn,fun h=>(tK hI h).bx n cs hn rfl⟩⟩
def TN (bt:Bt) (S:St) (w:World) (r:Nat):Bt:= { bt with β:=fun q=>bt.β ⟨r,q.l⟩,κ:=fun q=>bt.κ ⟨r,q.l⟩,nb:=0,ng:=1,A:=fun b=>b<w.heap.size/\ ¬ve bt S r b }
theorem PV (hI:gz w0 W bt S w) {r:Nat} {t:T} (hr:S.gh r=some t):gz w (ve bt S r) (TN bt S w r) (oC [t]) w:=by
 have lk: ∀ {p:fj} {s:Nat} {rs:List (List T)},(oC [t]).look p= .sl s rs->p.r=0/\S.look ⟨r,p.l⟩= .sl s rs:=by intro p s rs h;obtain⟨h1,h2⟩:=Kg h;exact⟨h1,by unfold St.look; simp only[hr]; exact h2⟩
 exact { os:=rfl,tape:=rfl,output:=rfl,size:=ay _,keep:=fun _ _ _=>rfl,nb:=rfl,ng:=rfl
         bx:=fun n cells h=>by cases h
         gh:=fun k x h=>by have h': [t][k]? =some x:=h;exact (ai.1 h').1
         tr:=fun p s rs h=>by
          obtain⟨h1,h2⟩:=lk h;obtain⟨g1,g2⟩:=hI.tr _ _ _ h2;refine⟨g1,fun hk=>⟨.inr ⟨p.l,s,rs,h2,hk,rfl⟩,?_⟩⟩;obtain⟨_,cs,e,k1,k2,k3,k4⟩:=g2 hk;refine⟨cs,e,k1,k2,k3,fun i row hi=> ?_⟩;obtain⟨m1,m2⟩:=k4 i row hi;refine⟨m1,fun j x hx=> ?_⟩;obtain⟨c,j1,j2⟩:=m2 j x hx;refine⟨c,j1,?_⟩;cases j2 with
          |sc h=>exact .sc h
          |dd u=>exact .dd _
          |sl hc hk ha=>exact .sl hc hk ha
         inj:=fun p q s rs s' rs' h h' hk hk' he=>by obtain⟨h1,h2⟩:=lk h;obtain⟨h3,h4⟩:=lk h';have:=hI.inj _ _ _ _ _ _ h2 h4 hk hk' he;obtain⟨pr,pl⟩:=p;obtain⟨qr,ql⟩:=q;simp only at*;simp only[fj.mk.injEq,true_and] at this;rw[h1,h3,this]
         bbinj:=fun n m cs cs' h=>by cases h
         bbtr:=fun n cs p s rs h=>by cases h
         alt:=fun b h=>h.1
         atr:=fun p s rs h hk ha=>ha.2 ⟨p.l,s,rs,(lk h).2,hk,rfl⟩
         abb:=fun n cs h=>by cases h }
theorem PW (hI:gz w0 W bt S w) (hE:ER w bt S a) {o:Oper} {f x:Operand} {as:Array Operand} {ts:Array TypeId} (ho:o.op= .call { callee:= .value f,args:=as,argTypes:=ts }) {xs:List Operand} {us':List TypeId} (has:as.toList=x::xs) (hlen:us'.length=xs.length)
  {g:FuncId} {caps:List AV} (hc:callee S f=some (g,caps)) {r sz len:Nat} {tr:T} (hx:opd S x= .own ⟨r,[]⟩ sz 0 len) (hr:S.gh r=some tr) {m:Nat} {res:AV} {out:List T}
  (hS:oz P g (.own ⟨0,[]⟩ sz 0 len::wX P { S with gh:=fo S.gh r none } us' xs caps) [tr] m res out) {K:Act->World->Prop} {Q:Exit->Act->World->Prop}
  (h: ∀u w' btn,gz w (ve bt S r) btn (oC out) w'->m<=out.length->(∀p:fj,p.r<m->btn.β p=bt.β ⟨r,p.l⟩/\btn.κ p=bt.κ ⟨r,p.l⟩)->VR w' btn res u->K (a.put o.dst u) w'):o.wp P a w K Q:=by
 have hf:=ft hE f
 have fin: ∀us:List Value,a.eval f= .func (.func g) #[] us.toArray->us.length=caps.length->(∀ (k:Nat) (c:AV) (u:Value),caps[k]? =some c->us[k]? =some u->VR w bt c u)->o.wp P a w K Q:=by
  intro us he hl hcc;have hE':ER w bt { S with gh:=fo S.gh r none } a:=⟨hE.1,hE.2⟩
  obtain⟨h1,h2⟩:=Kf (P:=P) (bt':=TN bt S w r) (hI.drop r) hE' (OA hI r) rfl hlen hl hcc;have hI0:=PV hI hr;have e0:as.toList.map a.eval++us=a.eval x:: (xs.map a.eval++us):=by rw[has]; rfl
  obtain⟨g1,g2⟩:=hS w _ _ (as.toList.map a.eval++us) hI0 (by rw[e0]; simp only[bk,h1]) (fun k v u hk hu=>by
   rw[e0] at hu;cases k with
   |zero=>
    simp only[aK,af] at hk hu;subst hk hu;have hv:=ft hE x;rw[hx] at hv;generalize a.eval x=u at hv;cases hv with
    |own hp hc hk ha=>exact .own du hc hk ha
   |succ k=>exact h2 k v u (by simpa using hk) (by simpa using hu))
  have hrun: (execOp a.eval o).run P w= .ok (.enter g (as.toList.map a.eval++us).toArray) w:=by
   have e:as.map a.eval++us.toArray=(as.toList.map a.eval++us).toArray:=by apply Array.ext'; simp
   obtain⟨dst,op,type,pos,after,guard⟩:=o;simp only at ho;subst ho;simp only[execOp,resolve,he,Deferred.ofValue,Sem.run_bind,Sem.run_pure,Result.andThen_ok,invoke,dq];rw[e];exact g1
  unfold Oper.wp;rw[hrun,Oper.upon_enter];refine Calls.mono g2 (fun e w' hh=> ?_);obtain⟨v,btn,rfl,k1,k2,k3,k4⟩:=hh;exact h v w' btn k1 k2 k3 k4
 unfold callee at hc;split at hc
 ·rename_i g' x y he;simp only[af,an] at hc;obtain⟨rfl,rfl⟩:=hc;rw[he] at hf;generalize hu:a.eval f=u at hf fin;cases hf with
  |sc hs=>simp only[qI,aq,Array.isEmpty_iff] at hs;obtain⟨rfl,rfl⟩:=hs;exact fin [] rfl rfl (fun k c u h1 _=>by simp at h1)
 ·rename_i g' cs he;simp only[af,an] at hc;obtain⟨rfl,rfl⟩:=hc;rw[he] at hf;generalize hu:a.eval f=u at hf fin;cases hf with
  |fn f hl hcc=>exact fin _ rfl hl hcc
 ·cases hc
theorem EJ (hI:gz w0 W bt S w) {r:Nat} {out:List T} (hC:gz w (ve bt S r) btn (oC out) w'):tH w0 W bt { S with gh:=fo S.gh r none } w w':=by
 classical
 refine⟨hC.os,hC.tape,hC.output,hC.size,fun b hb=> ?_⟩;by_cases h:ve bt S r b
 ·exact .inr (tK hI h)
 ·exact .inl (hC.keep b hb h)
theorem tL (hI:gz w0 W bt S w) {r:Nat} {out:List T} (hC:gz w (ve bt S r) btn (oC out) w') {p:fj} {s:Nat} {rs:List (List T)} (hp: (oC out).look p= .sl s rs) (hk:0<btn.κ p):
  (w0.heap.size<=btn.β p\/W (btn.β p))/\(∀n cs,S.bx n=some cs->bt.bb n≠btn.β p)/\(∀q s rs,({ S with gh:=fo S.gh r none }:St).look q= .sl s rs->0<bt.κ q->bt.β q≠btn.β p)/\ ¬bt.A (btn.β p):=by
 rcases ((hC.tr p s rs hp).2 hk).1 with h|h
 ·obtain⟨g1,g2,g3⟩:=(hI.drop r).fresh h;exact⟨.inl (bF hI.size h),g1,g2,g3⟩
 ·have:=tK hI h;exact⟨this.ours,this.bx,this.tr,this.A⟩
theorem Ma (hI:gz w0 W bt S w) (hE:ER w bt S a) (hfz:S.fz<=S.ng) {r:Nat} (hr:S.fz<=r) {res:AV} {out:List T} {u:Value} (hC:gz w (ve bt S r) btn (oC out) w') (hv:VR w' btn res u):
  ∃bt',jU w0 W bt S a bt' (pQ { S with gh:=fo S.gh r none } (res,out)).2 w'/\VR w' bt' (pQ { S with gh:=fo S.gh r none } (res,out)).1 u:=by
 have hg:=EJ hI hC
 have hi:=((hI.drop r).change hg).addRoots btn out (fun p s rs h=>by obtain⟨h1,h2⟩:=hC.tr p s rs h;exact⟨h1,fun hk=>⟨(tL hI hC h hk).1,(h2 hk).2⟩⟩) hC.inj (fun p s rs h hk=>(tL hI hC h hk).2)
 have hle:=Bt.le_add bt btn out.length;refine⟨_,⟨hi,⟨hE.1,fun t=>(hE.2 t).mono hle (hg.A (hI.drop r))⟩,rfl,trivial,dK _ _,fun p hp=> ?_,fun k hk hn=> ?_⟩,JX hC.ng hI.ng hv⟩
 ·exact⟨hle.β p (by rw[hI.ng]; omega),hle.κ p (by rw[hI.ng]; omega)⟩
 ·have : (if S.ng<=k/\k<S.ng+out.length then out[k-S.ng]? else fo S.gh r none k)=none:=hn;rw[if_neg (by omega)] at this;unfold fo at this
  rwa [if_neg (by omega)] at this
def AV.plain:AV->Bool
 | .sc _=>true
 | .tup [] =>true
 | _=>false
theorem VR.plain {bt':Bt} {v:AV} {u:Value} (h:VR w bt v u) (hp:v.plain=true):VR w bt' v u:=by
 cases h with
 |sc h=>exact .sc h
 |tup hl h=>
  rename_i cs us;cases cs with
  |nil=>exact .tup hl (fun k c u h1=>by simp at h1)
  |cons c cs=>cases hp
 | _=>cases hp
theorem Mb (hI:gz w0 W bt S w) (hE:ER w bt S a) {r:Nat} {t:T} (hrg:r<S.ng) {res:AV} {u:Value} (hC:gz w (ve bt S r) btn (oC [t]) w') (hB: ∀p:fj,p.r<1->btn.β p=bt.β ⟨r,p.l⟩/\btn.κ p=bt.κ ⟨r,p.l⟩) (hv:VR w' btn res u) (hp:res.plain=true):
  jU w0 W bt S a bt { S with gh:=fo S.gh r (some t) } w'/\VR w' bt res u:=by
 have hg:=EJ hI hC;have hi:=(hI.drop r).change hg
 have lk: ∀ {p:fj} {s:Nat} {rs:List (List T)},({ S with gh:=fo S.gh r (some t) }:St).look p= .sl s rs->(p.r=r/\(oC [t]).look ⟨0,p.l⟩= .sl s rs)\/(p.r≠r/\({ S with gh:=fo S.gh r none }:St).look p= .sl s rs):=by
  intro p s rs h;unfold St.look at h;simp only[fo] at h;by_cases hp:p.r=r
  ·rw[if_pos hp] at h;exact .inl ⟨hp,by unfold St.look oC; exact h⟩
  ·rw[if_neg hp] at h;right;refine⟨hp,?_⟩;unfold St.look;simp only[fo];rw[if_neg hp];exact h
 have eβ: ∀ {p:fj},p.r=r->btn.β ⟨0,p.l⟩=bt.β p:=fun {p} h=>by rw[(hB ⟨0,p.l⟩ du).1,<-h]
 have eκ: ∀ {p:fj},p.r=r->btn.κ ⟨0,p.l⟩=bt.κ p:=fun {p} h=>by rw[(hB ⟨0,p.l⟩ du).2,<-h]
 refine⟨⟨{ os:=hi.os,tape:=hi.tape,output:=hi.output,size:=hi.size,keep:=hi.keep,nb:=hi.nb,ng:=hi.ng
           bx:=hi.bx
           gh:=fun k x h=>by
            have h':fo S.gh r (some t) k=some x:=h;unfold fo at h';split at h'
            ·rename_i e; rw[e]; exact hrg
            ·exact hI.gh _ _ h'
           tr:=fun p s rs h=>by
            rcases lk h with ⟨e,h'⟩| ⟨e,h'⟩
            ·obtain⟨h1,h2⟩:=hC.tr _ _ _ h';rw[eκ e] at h1 h2;refine⟨h1,fun hk=>⟨?_,?_⟩⟩
             ·have:=(tL hI hC h' (by rw[eκ e]; exact hk)).1
              rwa [eβ e] at this
             ·obtain⟨_,cs,ee,k1,k2,k3,k4⟩:=h2 hk;refine⟨cs,ee,by rw[<-eβ e]; exact k1,by rw[<-eκ e]; exact k2,k3,fun i row hi=> ?_⟩;obtain⟨m1,m2⟩:=k4 i row hi;refine⟨m1,fun j x hx=> ?_⟩;obtain⟨c,j1,j2⟩:=m2 j x hx;refine⟨c,j1,?_⟩;have e1:btn.β ((⟨0,p.l⟩:fj).sub i j)=bt.β (p.sub i j):=eβ (p:=p.sub i j) e;have e2:btn.κ ((⟨0,p.l⟩:fj).sub i j)=bt.κ (p.sub i j):=eκ (p:=p.sub i j) e;cases j2 with
              |sc h=>exact .sc h
              |dd u=>exact .dd _
              |sl hc hk ha=>exact .sl hc (by rw[<-e2]; exact hk) (by rw[<-e1]; exact ha)
            ·exact hi.tr _ _ _ h'
           inj:=fun p q s rs s' rs' h h' hk hk' he=>by
            rcases lk h with ⟨e,g⟩| ⟨e,g⟩<;>rcases lk h' with ⟨e',g'⟩| ⟨e',g'⟩
            ·rw[<-eκ e] at hk; rw[<-eκ e'] at hk'; rw[<-eβ e,<-eβ e'] at he;have:=hC.inj _ _ _ _ _ _ g g' hk hk' he;obtain⟨pr,pl⟩:=p;obtain⟨qr,ql⟩:=q;simp only[fj.mk.injEq,true_and] at*;exact⟨by rw[e,e'],this⟩
            ·rw[<-eκ e] at hk; rw[<-eβ e] at he;exact absurd he.symm ((tL hI hC g hk).2.2.1 _ _ _ g' hk')
            ·rw[<-eκ e'] at hk'; rw[<-eβ e'] at he;exact absurd he ((tL hI hC g' hk').2.2.1 _ _ _ g hk)
            ·exact hi.inj _ _ _ _ _ _ g g' hk hk' he
           bbinj:=hi.bbinj
           bbtr:=fun n cs p s rs h h' hk=>by
            rcases lk h' with ⟨e,g⟩| ⟨e,g⟩
            ·rw[<-eκ e] at hk; rw[<-eβ e];exact (tL hI hC g hk).2.1 n cs h
            ·exact hi.bbtr _ _ _ _ _ h g hk
           alt:=hi.alt
           atr:=fun p s rs h hk=>by
            rcases lk h with ⟨e,g⟩| ⟨e,g⟩
            ·rw[<-eκ e] at hk; rw[<-eβ e];exact (tL hI hC g hk).2.2.2
            ·exact hi.atr _ _ _ g hk
           abb:=hi.abb },⟨hE.1,fun x=>(hE.2 x).mono (Bt.le.refl _) (hg.A (hI.drop r))⟩,rfl,trivial,ay _,fun _ _=>⟨rfl,rfl⟩,fun k hk hn=> ?_⟩,hv.plain hp⟩
 have :fo S.gh r (some t) k=none:=hn;unfold fo at this;split at this
 ·cases this
 ·exact this
theorem vE.hand {Post:St->Prop} {ops:Array Oper} {o:Oper} {l:List Oper} {f x:Operand} {as:Array Operand} {ts:Array TypeId} (ho:o.op= .call { callee:= .value f,args:=as,argTypes:=ts }) (hgd:o.guard=none) {xs:List Operand} {us':List TypeId} (has:as.toList=x::xs) (hlen:us'.length=xs.length)
  {g:FuncId} {caps:List AV} (hc:callee S f=some (g,caps)) {r sz len:Nat} {tr:T} (hx:opd S x= .own ⟨r,[]⟩ sz 0 len) (hr:S.gh r=some tr) {m:Nat} {res:AV} {out:List T}
  (hS:oz P g (.own ⟨0,[]⟩ sz 0 len::wX P { S with gh:=fo S.gh r none } us' xs caps) [tr] m res out)
  (h: (S.fz<=r/\ ∃S1,(pQ { S with gh:=fo S.gh r none } (res,out)).2.put o.dst (shift S.ng res)=some S1/\vE P ops l S1 Post)\/(m=1/\ ∃t',out= [t'] /\res.plain=true/\ ∃S1,({ S with gh:=fo S.gh r (some t') }:St).put o.dst res=some S1/\vE P ops l S1 Post)):vE P ops (o::l) S Post:=by
 intro k w0 W btI SI bt a w Q hd hl hK
 have hko:ops.toList[k]? =some o:=by have:=congrArg (fun x:List Oper=>x[0]?) hd;simpa [aX] using this
 have hko':ops[k]? =some o:=by simpa using hko
 have hd':ops.toList.drop (k+1)=l:=by rw[<-cj,hd];rfl
 have hw:=nG (ops:=ops) (o:=o) (b:=true) hl.er (by unfold oD; rw[hgd]);simp only[bk,cE];unfold wpOps;rw[hko'];simp only;rw[hw,if_pos rfl];left;refine PW hl.inv hl.er ho has hlen hc hx hr hS (fun u w' btn hC _ hB hv=> ?_);rcases h with ⟨hfr,S1,h1,h2⟩| ⟨rfl,t',rfl,hp,S1,h1,h2⟩
 ·obtain⟨bt',g1,g2⟩:=Ma hl.inv hl.er hl.fzng hfr hC hv;exact h2 (k+1) hd' ((hl.left g1).put g2 h1) hK
 ·obtain⟨g1,g2⟩:=Mb hl.inv hl.er (hl.inv.gh _ _ hr) hC hB hv hp;exact h2 (k+1) hd' ((hl.left g1).put g2 h1) hK
theorem Kh (hI:gz w0 W bt S w) (hE:ER w bt S a) {t el:TypeId} {z:Value} (hel:yH P t=some el) (hze:BP P el=some [z]) (hsc:qI z=true) {r lo len:Nat} {rows:List (List T)} {u:Value} (hv:VR w bt (.own ⟨r,[]⟩ 1 lo len) u) (hr:S.gh r=some (.sl 1 rows)) (hle:lo+len<=rows.length) (ty:TypeId):
  ∃w',(Builtin.clear_ #[t] ty #[u]).run P w= .ok (.tuple #[]) w'/\jU w0 W bt S a bt { S with gh:=fo S.gh r (some (.sl 1 (rows.take lo++List.replicate len [.sc z] ++rows.drop (lo+len)))) } w':=by
 have hlook:S.look ⟨r,[]⟩= .sl 1 rows:=by unfold St.look; simp only[hr]; rfl
 obtain⟨ti,zv,hi,hz,hzc,hzo⟩:=oE hze
 have same: ({ S with gh:=fo S.gh r (some (.sl 1 rows)) }:St)=S:=by
  have :fo S.gh r (some (.sl 1 rows))=S.gh:=by
   funext k
   unfold fo;split
   ·rename_i e; rw[e,hr]
   ·rfl
  rw[this]
 cases hv with
 |own hp hc hk ha=>
  rename_i ad cap;rcases bn len with h0|h0
  ·subst h0;refine⟨w,by cases ad<;>simp[Builtin.clear_,run_underlying (lO hel)],?_⟩;have :rows.take lo++List.replicate 0 [T.sc z] ++rows.drop (lo+0)=rows:=by simp
   rw[this,same];exact⟨hI,hE,rfl,trivial,ay _,fun _ _=>⟨rfl,rfl⟩,fun _ _ h=>h⟩
  ·have had:=ha (by omega);subst had;obtain⟨hlen,hrest⟩:=hI.tr _ _ _ hlook;have hk0:0<bt.κ ⟨r,[]⟩:=by omega
   obtain⟨_,arr,e,hh,hκs,hone,hcell⟩:=hrest hk0
   have hcz:Builtin.zeroCells zv.cells len=(List.replicate len z).toArray:=by
    have hzs:zv.cells= #[z] :=by apply Array.ext'; exact hzc.symm
    rw[hzs];apply Array.ext
    ·simp[Builtin.zeroCells]
    ·intro k h1 h2;simp[Builtin.zeroCells,Nat.mod_one]
   have hz1:z.oneCell'=true:=by have:=ax.1 hzo z (by rw[<-hzc]; exact az.2 rfl);exact this
   have hst:=run_storeCells_at P (bt.β ⟨r,[]⟩) (lo*1) e (List.replicate len z) 0 arr w hh (by simp; omega) (fun v hv=>by rw[(List.mem_replicate.1 hv).2]; exact hz1);generalize hcs: (arr.toList.take (lo*1+0)++List.replicate len z++arr.toList.drop (lo*1+0+(List.replicate len z).length)).toArray=cs at hst
   have hcs': ∀k,cs[k]? =if k<lo then arr[k]? else if k<lo+len then some z else arr[k]? :=by
    intro k;have:=sP arr.toList (List.replicate len z) lo (by simp; omega) k;rw[<-hcs];simp only[dN,Nat.mul_one,cy] at this ⊢;simp only[cU,this,bB];by_cases q1:k<lo
    ·rw[if_pos q1,if_pos q1]
    ·rw[if_neg q1,if_neg q1];by_cases q2:k<lo+len
     ·rw[if_pos q2,if_pos q2,dh,if_pos (by omega)]
     ·rw[if_neg q2,if_neg q2]
   have hsize:cs.size=arr.size:=by rw[<-hcs];simp;omega
   have hrg: ∀i,(rows.take lo++List.replicate len [T.sc z] ++rows.drop (lo+len))[i]? =if i<lo then rows[i]? else if i<lo+len then some [T.sc z] else rows[i]? :=by
    intro i;have:=sP rows (List.replicate len [T.sc z]) lo (by simp; omega) i;simp only[dN] at this;rw[this];by_cases q1:i<lo
    ·rw[if_pos q1,if_pos q1]
    ·rw[if_neg q1,if_neg q1];by_cases q2:i<lo+len
     ·rw[if_pos q2,if_pos q2,dh,if_pos (by omega)]
     ·rw[if_neg q2,if_neg q2]
   obtain⟨hI',hA⟩:=hI.setTree (rows:=rows.take lo++List.replicate len [.sc z] ++rows.drop (lo+len)) (cs:=cs) hlook hk0 hh hsize
    (fun k x hk=>by
      rw[hcs'] at hk;split at hk
      ·exact hone _ _ hk
      ·split at hk
       ·simp only[af] at hk;rw[<-hk];exact hz1
       ·exact hone _ _ hk)
    (by simp; omega)
    (fun i row hrow=>by
      rw[hrg] at hrow
      have old:rows[i]? =some row->(∀k,k<1-> ¬ (lo<=i/\i<lo+len))->row.length=1/\ ∀ (j:Nat) (x:T),row[j]? =some x->(∃c,cs[i*1+j]? =some c/\HR bt ((⟨r,[]⟩:fj).sub i j) x c)/\((∃v,x= .sc v)\/x= .dd\/ ∃r0,rows[i]? =some r0/\r0[j]? =some x):=by
       intro h1 h2;obtain⟨k1,k2⟩:=hcell i row h1;refine⟨k1,fun j x hx=>⟨?_, .inr (.inr ⟨row,h1,hx⟩)⟩⟩;obtain⟨c,m1,m2⟩:=k2 j x hx;have hj:j<row.length:=(ai.1 hx).1;refine⟨c,?_,m2⟩;have:=h2 0 du;rw[hcs'];by_cases q1:i*1+j<lo
       ·rw[if_pos q1]; exact m1
       ·rw[if_neg q1,if_neg (by omega)]; exact m1
      by_cases q1:i<lo
      ·rw[if_pos q1] at hrow;exact old hrow (fun _ _=>by omega)
      ·rw[if_neg q1] at hrow;by_cases q2:i<lo+len
       ·rw[if_pos q2] at hrow;simp only[af] at hrow;subst hrow;refine⟨rfl,fun j x hx=> ?_⟩;cases j with
        |zero=>simp only[aK,af] at hx;subst hx;exact⟨⟨z,by rw[hcs',if_neg (by omega),if_pos (by omega)], .sc hsc⟩, .inl ⟨z,rfl⟩⟩
        |succ j=>simp at hx
       ·rw[if_neg q2] at hrow;exact old hrow (fun _ _=>by omega))
   have hset:S.setAt ⟨r,[]⟩ (.sl 1 (rows.take lo++List.replicate len [.sc z] ++rows.drop (lo+len)))= { S with gh:=fo S.gh r (some (.sl 1 (rows.take lo++List.replicate len [.sc z] ++rows.drop (lo+len)))) } :=by unfold St.setAt;simp only[hr,aB];rfl
   rw[hset] at hI';refine⟨_,?_,⟨hI',⟨hE.1,fun t=>(hE.2 t).mono (Bt.le.refl _) hA⟩,rfl,trivial,ay _,fun _ _=>⟨rfl,rfl⟩,fun k hk hn=> ?_⟩⟩
   ·obtain⟨n,rfl⟩: ∃n,len=n+1:=⟨len-1,by omega⟩
    rw[Nat.mul_one] at hst;simp[Builtin.clear_,run_underlying (lO hel),zeroValue,typeInfo,hi,hz,hcz,hst]
   ·have hn':fo S.gh r (some (.sl 1 (rows.take lo++List.replicate len [.sc z] ++rows.drop (lo+len)))) k=none:=hn;unfold fo at hn';split at hn'
    ·cases hn'
    ·exact hn'
theorem vE.clear {Post:St->Prop} {ops:Array Oper} {o:Oper} {l:List Oper} {x:Operand} {t el:TypeId} {z:Value} (ho:o.op= .call { callee:= .builtin .clear,args:= #[x],argTypes:= #[t] }) (hgd:o.guard=none) (hel:yH P t=some el) (hze:BP P el=some [z]) (hsc:qI z=true)
  {r lo len:Nat} {rows:List (List T)} (hx:opd S x= .own ⟨r,[]⟩ 1 lo len) (hr:S.gh r=some (.sl 1 rows)) (hle:lo+len<=rows.length)
  (h: ∃S1,({ S with gh:=fo S.gh r (some (.sl 1 (rows.take lo++List.replicate len [.sc z] ++rows.drop (lo+len)))) }:St).put o.dst (.tup [])=some S1/\vE P ops l S1 Post):vE P ops (o::l) S Post:=by
 intro k w0 W btI SI bt a w Q hd hl hK
 have hko:ops.toList[k]? =some o:=by have:=congrArg (fun x:List Oper=>x[0]?) hd;simpa [aX] using this
 have hko':ops[k]? =some o:=by simpa using hko
 have hd':ops.toList.drop (k+1)=l:=by rw[<-cj,hd];rfl
 have hw:=nG (ops:=ops) (o:=o) (b:=true) hl.er (by unfold oD; rw[hgd]);have hv:=ft hl.er x;rw[hx] at hv;obtain⟨w',g1,g2⟩:=Kh hl.inv hl.er hel hze hsc hv hr hle o.type
 have hrun: (execOp a.eval o).run P w= .ok (.value (.tuple #[])) w':=by obtain⟨dst,op,type,pos,after,guard⟩:=o;simp only at ho;subst ho;simp[execOp,resolve,invoke,builtin,g1]
 simp only[bk,cE];unfold wpOps;rw[hko'];simp only;rw[hw,if_pos rfl];left;unfold Oper.wp;rw[hrun,Oper.upon_value];obtain⟨S1,k1,k2⟩:=h;exact k2 (k+1) hd' ((hl.left g2).put (.tup rfl (fun k c u h=>by simp at h)) k1) hK
def OB (n:Nat) (args:List AV) (gs:List T) (m:Nat):St:= { Gj n args gs with fz:=m }
theorem Ki {f:FuncId} {fn:Func} {c:Code} (hfn:Kd P f=some fn) (hc:fn.body=some c) {args:List AV} {gs:List T} {m:Nat} (hm:m<=gs.length) {res:AV} {out:List T}
  (h:sq P c (OB fn.ntmps args gs m) (fun x S=>match x with | .ext _=>False| _=>Du P fn.results.toList fn.resultTypes.toList m S=some (res,out))):oz P f args gs m res out:=by
 intro w W bt0 vals hI hl hv
 obtain⟨hf,hname,hcok⟩:P.funcs[f]? =some fn/\(fn.name== "runtime.NumGoroutine")=false/\mA P c=true:=by
  unfold Kd at hfn;simp only[aj] at hfn;obtain⟨fn',g1,g2⟩:=hfn;split at g2
  ·cases g2
  ·rename_i c' hc';split at g2
   ·cases g2
   ·rename_i hn;simp only[af] at g2;subst g2;rw[hc] at hc';simp only[af] at hc';subst hc';simp only[bC,not_or,dM,dF] at hn;exact⟨g1,hn.1,hn.2⟩
 have hname': ¬fn.name= "runtime.NumGoroutine" :=by simpa using hname
 refine⟨by simp[callFunc,hf,hname',hc],calls_of_wp hf hc ?_⟩
 have h0:Lv w W bt0 (OB fn.ntmps args gs m) bt0 (OB fn.ntmps args gs m) { tmps:=vals.toArray++Array.replicate (fn.ntmps-vals.toArray.size) undef,defers:= [] } w:=by
  refine⟨{ os:=hI.os,tape:=hI.tape,output:=hI.output,size:=hI.size,keep:=hI.keep,nb:=hI.nb,ng:=hI.ng,bx:=hI.bx,gh:=hI.gh,tr:=hI.tr,inj:=hI.inj,bbinj:=hI.bbinj,bbtr:=hI.bbtr,alt:=hI.alt,atr:=hI.atr,abb:=hI.abb },
   ⟨by simp[hl]; rfl,fun t=> ?_⟩,rfl,rfl,hm,fun _ _=>⟨rfl,rfl⟩,fun _ _ h=>h⟩
  show VR w bt0 (args.getD t .dead) _;cases ha:args[t]? with
  |none=>simp only[aw,ha,dx];exact .dead _
  |some v=>
   have ht:=(ai.1 ha).1;have hvt:vals[t]? =some (vals[t]'(by omega)):=ah _
   have : (vals.toArray++Array.replicate (fn.ntmps-vals.toArray.size) undef).getD t undef=vals[t]'(by omega):=by rw[ba,ci (by simp; omega)];simp[hvt]
   rw[this];simp only[aw,ha,aP];exact hv t v _ ha hvt
 refine h h0 (fun x S1 bt' a' w' h2 h'=> ?_)
 have fin:Du P fn.results.toList fn.resultTypes.toList m S1=some (res,out)-> ∃v,(results fn a'.tmps).run P w'= .ok v w'/\ ∃v' btn,Ending.returned v= .returned v'/\gz w W btn (oC out) w'/\m<=out.length/\(∀p:fj,p.r<m->btn.β p=bt0.β p/\btn.κ p=bt0.κ p)/\VR w' btn res v':=by
  intro h2;unfold Du at h2;simp only[aj] at h2;obtain⟨vs,h3,h4⟩:=h2;split at h4
  ·rename_i hlen;simp only[ak,Prod.exists,an] at h4;obtain⟨vs',out',h5,rfl,rfl⟩:=h4;obtain⟨us,g1,g2,g3⟩:=CZ h'.inv h'.er h3;have hfz:S1.fz=m:=h'.fz
   have hx0:Ex S1 S1 ((List.range m).map fun r=>(S1.gh r).getD .dd) ((List.range m).map some):=by
    refine⟨by simp,fun _ _ h=>h,rfl,fun k t hk=> ?_,fun j k r hj hk=> ?_,fun k r hk=> ?_⟩
    ·simp only[ar,ak] at hk;obtain⟨r,hr,rfl⟩:=hk
     have :r=k/\k<m:=by rw[ai] at hr;obtain⟨q1,q2⟩:=hr;simp at q1 q2;exact⟨q2.symm,q1⟩
     obtain⟨rfl,hk⟩:=this;refine .inl ⟨r,by simp[hk],fun m s rs hg=>⟨rs,?_,ay _,fun _ _ h=>h⟩⟩;cases hgh:S1.gh r with
     |none=>have:=h'.gone r hk hgh;simp[OB,Gj] at this;omega
     |some t=>rw[hgh] at hg;unfold St.look;rw[hgh];exact hg
    ·simp only[ar,ak,af] at hj hk;obtain⟨r1,h1,rfl⟩:=hj;obtain⟨r2,h2,rfl⟩:=hk;rw[ai] at h1 h2;obtain⟨_,h1⟩:=h1;obtain⟨_,h2⟩:=h2;simp at h1 h2;omega
    ·simp only[ar,ak,af] at hk;obtain⟨r1,h1,rfl⟩:=hk;left;rw[ai] at h1;obtain⟨h0,h1⟩:=h1;simp at h0 h1;omega
   obtain⟨τ,S2,e1,e2,e3⟩:=EH (bt:=bt') (w:=w') _ us _ _ _ _ _ hx0 (by simp[g1,hlen]) (fun k tv u hk hu=>by rw[List.getElem?_zip_eq_some] at hk;exact g2 k tv.2 u hk.2 hu) h5
   have hout:=h'.inv.out e1
   have hlo:m<=out'.length:=by rw[<-e1.len];simp
   refine⟨_,g3,_,_,rfl,hout,hlo,fun p hp=> ?_,?_⟩
   ·have hσ: ((List.range m).map some++τ)[p.r]? =some (some p.r):=by
     rw[aH (by simpa using hp)];simp[hp]
    have:=h'.keep p hp;simp only[so,hσ];exact this
   ·match vs',us,e2,e3 with
    | [v],[u],_,e3=>exact e3 0 v u rfl rfl
    | [],[],_,e3=>exact .tup rfl (fun k c u hk=>by simp at hk)
    |v::v'::vs',u::u'::us,e2,e3=>exact .tup e2 e3
  ·cases h4
 simp only at h2;cases x with
 |ext i=>simp at h2
 |nor=>exact⟨h'.defers,fin h2⟩
 |ret=>exact⟨h'.defers,fin h2⟩
end
end
end Go.Proofs.YtjnleglhcppgcaaGreat.En
