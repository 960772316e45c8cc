/- Sets of numbers: put, sort, compact, unite. -/
import Derived.Test.YtadpelkpdaohnaaGreatDoorZPDel
namespace Go.Proofs.YtadpelkpdaohnaaGreatDoor.En
open Go
def SS (l:List Int):Prop:=l.Pairwise (· < ·)
theorem SS.uniq: ∀ {a b:List Int},SS a->SS b->(∀y,y∈a↔y∈b)->a=b
 | [],[],_,_,_=>rfl
 | [],b::l,_,_,h=>by have:=(h b).2 aH;cases this
 |a::l,[],_,_,h=>by have:=(h a).1 aH;cases this
 |a::l,b::m,ha,hb,h=>by
  obtain⟨a1,a2⟩:=cu.1 ha;obtain⟨b1,b2⟩:=cu.1 hb
  have hab:a=b:=by
   rcases aR.1 ((h a).1 aH) with e|e
   ·exact e
   ·rcases aR.1 ((h b).2 aH) with f|f
    ·exact f.symm
    ·have:=b1 a e;have:=a1 b f;omega
  subst hab
  have hlm:l=m:=SS.uniq a2 b2 fun y=>by
   constructor
   ·intro hy;rcases aR.1 ((h y).1 (aE _ hy)) with e|e
    ·have:=a1 y hy;omega
    ·exact e
   ·intro hy;rcases aR.1 ((h y).2 (aE _ hy)) with e|e
    ·have:=b1 y hy;omega
    ·exact e
  rw[hlm]
theorem zi {A B:List Int} {x:Int} (h:SS (A++B)) (ha: ∀y∈A,y<x) (hb: ∀y∈B,x<y):SS (A++ [x] ++B):=by
 obtain⟨h1,h2,h3⟩:=cf.1 h;refine cf.2 ⟨cf.2 ⟨h1,dj _ _,fun a h b hb'=> ?_⟩,h2,fun a h b hb'=> ?_⟩
 ·rw[ay.1 hb'];exact ha a h
 ·rcases bz.1 h with h|h
  ·exact h3 a h b hb'
  ·rw[ay.1 h];exact hb b hb'
theorem K7 (l:List Int) (x:Int) (hl:l.length<=1000) (hs:SS l): ∃r,lg l x=some (r,())/\SS r/\(∀y,y∈r↔y=x\/y∈l)/\r.length<=l.length+1/\(x∉l->r.length=l.length+1):=by
 have hm:l.length<=maxLen:=by unfold maxLen; omega
 rcases Bu (B:=jC) l.length (fun k=>((l,x,(k:Int),()),(),())) ((l,x,(l.length:Int),()),(),()) (fun k=>((l,x,(k:Int),()),(),())) (fun k=>match l[k]? with |some y=> !decide (y<x)|none=>false)
  (by simp only[jC]; rw[dI,if_neg (by omega)])
  (fun k hk=>by
    have c1: (k:Int)< (l.length:Int):=by omega
    have c2: (0:Int)<=(k:Int):=by omega
    simp only[jC,dI,ea,if_pos c1,if_pos c2,aA,ah hk,af,dT hm hk];by_cases h:l[k]<x<;>simp[h]) with ⟨k1,k2⟩| ⟨i,hi,k1,k2,k3⟩
 ·have all: ∀y∈l,y<x:=by
   intro y hy;obtain⟨k,hk,rfl⟩:=aM hy;have:=k2 k hk;rw[ah hk] at this;simpa using this
  refine⟨l++ [x],Dw l x hl all,?_,?_,?_,fun _=>by simp⟩
  ·have:=zi (A:=l) (B:= []) (x:=x) (by simpa using hs) all (by simp);simpa using this
  ·intro y;simp[or_comm]
  ·simp
 ·rw[ah hi] at k2;simp only[bL,decide_eq_false_iff_not,Int.not_lt] at k2
  have lt: ∀y∈l.take i,y<x:=by
   intro y hy;obtain⟨j,hj,rfl⟩:=aM hy;have hj':j<i:=by simp at hj; omega
   have:=k3 j hj';rw[ah (by omega)] at this;rw[cQ];simpa using this
  have hd:l.drop i=l[i]::l.drop (i+1):=bQ hi;have hsp:l.take i++l.drop i=l:=cT i l
  have ge: ∀y∈l.drop i,l[i] <=y:=by
   intro y hy;rw[hd] at hy;rcases aR.1 hy with rfl|hy
   ·exact cg _
   ·have h2:SS (l.drop i):=List.Pairwise.sublist (List.drop_sublist i l) hs;rw[hd] at h2;exact du ((cu.1 h2).1 y hy)
  unfold lg;rw[show sR ((l,x,0,()),(),())=_ from k1];have c1: (i:Int)< (l.length:Int):=by omega
  have c2: (0:Int)<=(i:Int):=by omega
  simp only[af,dI,kI,ea,if_pos c1,if_pos c2,aA,ah hi,bB];by_cases he:l[i] =x
  ·simp only[if_pos he,if_pos (jG (show l.length<=1048576 by omega))];refine⟨l,rfl,hs,fun y=>⟨.inr,?_⟩,by omega,fun h=>absurd (by rw[<-he]; exact bF hi) h⟩
   rintro (rfl|h)
   ·rw[<-he];exact bF hi
   ·exact h
  ·have d1: (0:Int)<=0/\(0:Int)<=(i:Int)/\(i:Int)<=(l.length:Int):=by omega
   have d2: (0:Int)<=(i:Int)/\(i:Int)<=(l.length:Int)/\(l.length:Int)<=(l.length:Int):=by omega
   have e1: (l.drop i).take (l.length-i)=l.drop i:=bD (by simp);simp only[if_neg he,if_pos d1,if_pos d2,dz,bT,df,e1];rw[if_pos (jG (by simp; omega)),if_pos (jG (by simp; omega)),if_pos (jG (by simp; omega))];refine⟨_,rfl,zi (by rw[hsp]; exact hs) lt (fun y hy=> ?_),fun y=> ?_,by simp; omega,fun _=>by simp; omega⟩
   ·have:=ge y hy;omega
   ·conv=>rhs; rw[<-hsp]
    simp only[bz,ay];constructor
    ·rintro ((h|h)|h)
     ·exact .inr (.inl h)
     ·exact .inl h
     ·exact .inr (.inr h)
    ·rintro (h|h|h)
     ·exact .inl (.inr h)
     ·exact .inl (.inl h)
     ·exact .inr h
theorem II {β:Type} (l:List Int) (hl:l.length<=500) {mk:Nat->List Int->β} {ε:Type} {B:β->Option (β⊕ε)} {E:List Int->ε}
  (h0: ∀v,B (mk l.length v)=some (.inr (E v)))
  (h1: ∀k v x,l[k]? =some x->B (mk k v)=(lg v x).bind fun y=>some (.inl (mk (k+1) y.1)))
  (v:List Int) (hv:SS v) (hvl:v.length<=500): ∃r,hZ B (mk 0 v)=some (E r)/\SS r/\(∀y,y∈r↔y∈v\/y∈l)/\r.length<=v.length+l.length:=by
 have go: ∀ (n k:Nat) (v:List Int),k+n=l.length->SS v->v.length+n<=1000-> ∃r,hZ B (mk k v)=some (E r)/\SS r/\(∀y,y∈r↔y∈v\/y∈l.drop k)/\r.length<=v.length+n:=by
  intro n
  induction n with
  |zero=>
   intro k v hk hv _;have :k=l.length:=by omega
   subst this;exact⟨v,fP (h0 v),hv,by simp,by omega⟩
  |succ n ih=>
   intro k v hk hv hn;have hlt:k<l.length:=by omega
   obtain⟨r,r1,r2,r3,r4,_⟩:=K7 v l[k] (by omega) hv;obtain⟨s,s1,s2,s3,s4⟩:=ih (k+1) r (by omega) r2 (by omega);refine⟨s,?_,s2,fun y=> ?_,by omega⟩
   ·rw[kB (by rw[h1 k v _ (ah hlt),r1]; rfl)];exact s1
   ·rw[s3,r3,bQ hlt,aR];constructor
    ·rintro ((h|h)|h)
     ·exact .inr (.inl h)
     ·exact .inl h
     ·exact .inr (.inr h)
    ·rintro (h|h|h)
     ·exact .inl (.inr h)
     ·exact .inl (.inl h)
     ·exact .inr h
 obtain⟨r,h1,h2,h3,h4⟩:=go l.length 0 v (by omega) hv (by omega);rw[bT] at h3;exact⟨r,h1,h2,h3,h4⟩
theorem JC (a b:List Int) (ha:a.length<=100) (hb:b.length<=100): ∃r,iq a b=some (r,())/\SS r/\(∀y,y∈r↔y∈a\/y∈b)/\r.length<=a.length+b.length:=by
 have am:a.length<=maxLen:=by unfold maxLen; omega
 have bm:b.length<=maxLen:=by unfold maxLen; omega
 obtain⟨r,r1,r2,r3,r4⟩:=II (B:=gb) (mk:=fun k v=>((a,b,(),(k:Int),()),(),(v,()))) (E:=fun v=>((b,(),()),(),(v,()))) a (by omega)
  (fun v=>by simp only[gb]; rw[dI,if_neg (by omega)])
  (fun k v x hx=>by
    have hk:=pt hx;have c1: (k:Int)< (a.length:Int):=by omega
    have c2: (0:Int)<=(k:Int):=by omega
    simp only[gb,dI,ea,if_pos c1,if_pos c2,aA,hx,af,dT am hk])
  [] List.Pairwise.nil (ba _)
 obtain⟨s,s1,s2,s3,s4⟩:=II (B:=gf) (mk:=fun k v=>((b,(),(k:Int),()),(),(v,()))) (E:=fun v=>(((),()),(),(v,()))) b (by omega)
  (fun v=>by simp only[gf]; rw[dI,if_neg (by omega)])
  (fun k v x hx=>by
    have hk:=pt hx;have c1: (k:Int)< (b.length:Int):=by omega
    have c2: (0:Int)<=(k:Int):=by omega
    simp only[gf,dI,ea,if_pos c1,if_pos c2,aA,hx,af,dT bm hk])
  r r2 (by simp at r4; omega)
 unfold iq;rw[show oh ((a,b,(),0,()),(),([],()))=_ from r1];simp only[af];rw[show om ((b,(),0,()),(),(r,()))=_ from s1];refine⟨s,rfl,s2,fun y=> ?_,by simp at r4; omega⟩;rw[s3,r3];simp
def SL (l:List Int):Prop:=l.Pairwise (· <= ·)
theorem Ib (A R:List Int) (a x:Int): ((A++a::x::R).set (A.length+1) a).set A.length x=A++x::a::R:=by
 induction A with
 |nil=>rfl
 |cons b A ih=>simp only[b6,aY,List.set_cons_succ,ih]
theorem GK (D:List Int) (n k:Int) (x:Int) (hn:n<=12): ∀ (A C:List Int),A.length+C.length+D.length<=12->SL (A++C)->(∀c∈C,x<c)->
  ∃Q,eS (((),0,n,k,(A.length:Int),()),(),(A++x:: (C++D),()))=some (((),0,n,k,()),(),(Q++D,()))/\SL Q/\Q.Perm (x:: (A++C)):=by
 intro A
 induction h:A.length generalizing A with
 |zero=>intro C hl hs hc;have :A= [] :=cJ.1 h;subst this;refine⟨x::C,fP ?_,cu.2 ⟨fun c h=>du (hc c h),hs⟩,by simp⟩;simp only[dY,dI];rw[if_neg (by simp)];rfl
 |succ m ih=>
  intro C hl hs hc;obtain⟨A',a,rfl⟩: ∃A' a,A=A'++ [a] :=⟨A.dropLast,A.getLast (by intro e; subst e; simp at h),(List.dropLast_concat_getLast _).symm⟩
  have hm:A'.length=m:=by simpa using h
  have c1: ((m+1:Nat):Int)>0:=by omega
  have hlen: ((A'++ [a])++x:: (C++D)).length=m+2+C.length+D.length:=by simp; omega
  have c2: (0:Int)<=((m+1:Nat):Int)/\((m+1:Nat):Int)< (((A'++ [a])++x:: (C++D)).length:Int):=by rw[hlen]; omega
  have c3: (0:Int)<=((m+1-1:Nat):Int)/\((m+1-1:Nat):Int)< (((A'++ [a])++x:: (C++D)).length:Int):=by rw[hlen]; omega
  have e1: ((A'++ [a])++x:: (C++D))[m+1]? =some x:=by rw[<-h,aO (by simp)]; simp
  have e2: ((A'++ [a])++x:: (C++D))[m+1-1]? =some a:=by rw[aJ (by simp; omega),aO (by omega)];simp[hm]
  have pw:IntKind.wrap .i64 (((m+1:Nat):Int)-1)=((m+1-1:Nat):Int):=jA (by omega) (by unfold maxLen; omega)
  have less:iL x a=some (decide (x<a),()):=by unfold iL iZ;simp only[beq_self_eq_true,bq,af,eu]
  by_cases hxa:x<a
  ·have hsw: (((A'++ [a])++x:: (C++D)).set (m+1) a).set (m+1-1) x=A'++x:: ((a::C)++D):=by
    have:=Ib A' (C++D) a x;rw[hm] at this;simpa using this
   have c5:m+1-1< (((A'++ [a])++x:: (C++D)).set (m+1) a).length:=by rw[List.length_set,hlen];omega
   have hz:=ah c5
   obtain⟨Q,q1,q2,q3⟩:=ih A' hm (a::C) (by simp at hl ⊢; omega) (by simpa using hs) (fun c h=>by
    rcases aR.1 h with rfl|h
    ·exact hxa
    ·exact hc c h)
   refine⟨Q,?_,q2,q3.trans (by simp)⟩;unfold eS at q1 ⊢;rw[<-q1];refine kB ?_;simp only[dY,dI,ea,if_pos c1,if_pos c2,pw,if_pos c3,aA,e1,e2,af,less,if_pos hxa,hz,hsw];rfl
  ·have hall: ∀y∈A',y<=a:=by
    intro y hy;have h1:SL (A'++ [a]):=(cf.1 hs).1;exact (cf.1 h1).2.2 y hy a (by simp)
   refine⟨(A'++ [a])++x::C,?_,?_,?_⟩
   ·refine fP ?_;rw[show (A'++ [a])++x::C++D=(A'++ [a])++x:: (C++D) by simp];simp only[dY,dI,ea,if_pos c1,if_pos c2,pw,if_pos c3,aA,e1,e2,af,less,if_neg hxa]
   ·obtain⟨p1,p2,p3⟩:=cf.1 hs;refine cf.2 ⟨p1,cu.2 ⟨fun c h=>du (hc c h),p2⟩,fun y hy z hz=> ?_⟩
    have hyx:y<=x:=by
     rcases bz.1 hy with h|h
     ·have:=hall y h;omega
     ·rw[ay.1 h];omega
    rcases aR.1 hz with rfl|hz
    ·exact hyx
    ·have:=hc z hz;omega
   ·exact List.perm_middle
theorem wY (l:List Int) (hl:l.length<=12): ∃r,ef l 0 (l.length:Int)=some (r,())/\SL r/\r.Perm l:=by
 have hm:l.length<=maxLen:=by unfold maxLen; omega
 unfold ef;cases l with
 |nil=>
  refine⟨[],?_,List.Pairwise.nil,List.Perm.refl _⟩
  rw[show eT (((),0,(([]:List Int).length:Int),IntKind.wrap .i64 (0+1),()),(),([],()))=some ((()),(),([],())) from fP (by rw[show IntKind.wrap .i64 ((0:Int)+1)=((1:Nat):Int) from by rw[fY (by omega) (by omega)]; rfl];simp only[dN,dI];rw[if_neg (by simp)])]
  rfl
 |cons b l=>
  generalize hL:b::l=L at hl hm;have hpos:0<L.length:=by rw[<-hL]; simp
  have outer:=nv (B:=dN) (fun s=> ∃ (k:Nat) (Q:List Int),0<k/\k<=L.length/\Q.length=k/\SL Q/\Q.Perm (L.take k)/\s=(((),0,(L.length:Int),(k:Int),()),(),(Q++L.drop k,()))) (fun s=>L.length-s.1.2.2.2.1.toNat) (fun e=> ∃Q:List Int,SL Q/\Q.Perm L/\e=((()),(),(Q,())))
   (fun s hs=>by
     obtain⟨k,Q,h0,hk,hq,hq2,hq3,rfl⟩:=hs;by_cases hlt:k<L.length
     ·have c1: (k:Int)< (L.length:Int):=by omega
      obtain⟨R,r1,r2,r3⟩:=GK (L.drop (k+1)) (L.length:Int) (k:Int) L[k] (by omega) Q [] (by simp; omega) (by simpa using hq2) (by simp);have hd:L.drop k=L[k]::L.drop (k+1):=bQ hlt;rw[hq,bB,<-hd] at r1;refine .inl ⟨(((),0,(L.length:Int),((k+1:Nat):Int),()),(),(R++L.drop (k+1),())),?_,⟨k+1,R,by omega,by omega,?_,r2,?_,rfl⟩,?_⟩
      ·simp only[dN,dI,if_pos c1,r1,af,dT hm hlt]
      ·rw[r3.length_eq];simp[hq]
      ·rw[bM,ah hlt];refine r3.trans ?_;rw[bw];refine List.Perm.trans ?_ (List.perm_append_comm);simpa using hq3
      ·simp only[aA];omega
     ·have :k=L.length:=by omega
      subst this;refine .inr ⟨_,by simp only[dN,dI]; rw[if_neg (by omega)],Q,hq2,by simpa using hq3,by simp⟩)
   (s:=(((),0,(L.length:Int),((1:Nat):Int),()),(),(L,()))) ⟨1,L.take 1,by omega,by omega,by simp; omega,by rw[<-hL]; simp[SL],List.Perm.refl _,by rw[cT]⟩
  obtain⟨e,h1,Q,q1,q2,rfl⟩:=outer;rw[show IntKind.wrap .i64 ((0:Int)+1)=((1:Nat):Int) from by rw[fY (by omega) (by omega)]; rfl,show eT (((),0,(L.length:Int),((1:Nat):Int),()),(),(L,()))=_ from h1];exact⟨Q,rfl,q1,q2⟩
theorem JD {n:Nat} (hn:n<=12): ∃m,pF (IntKind.wrap .u64 (n:Int))=some (m,()):=by
 have :n<=5\/n=6\/n=7\/n=8\/n=9\/n=10\/n=11\/n=12:=by omega
 rcases this with h|rfl|rfl|rfl|rfl|rfl|rfl|rfl
 ·exact vT h
 ·exact⟨3,by kernel_rfl⟩
 ·exact⟨3,by kernel_rfl⟩
 ·exact⟨4,by kernel_rfl⟩
 ·exact⟨4,by kernel_rfl⟩
 ·exact⟨4,by kernel_rfl⟩
 ·exact⟨4,by kernel_rfl⟩
 ·exact⟨4,by kernel_rfl⟩
theorem Ic (l:List Int) (hl:l.length<=12): ∃r,gt l=some (r,())/\SL r/\r.Perm l:=by
 obtain⟨m,hm⟩:=JD hl;obtain⟨r,r1,r2,r3⟩:=wY l hl
 have hp:eB l 0 (l.length:Int) m=some (r,()):=by
  unfold eB
  have :gr (((),0,(l.length:Int),m,true,true,()),(),(l,()))=some ((()),(),(r,())):=by refine fP ?_;simp only[eX];rw[fY (by omega) (by omega),dI,if_pos (by omega),r1,af,eP r3.length_eq]
  rw[this];rfl
 unfold gt;simp only[hm,af,hp];exact⟨r,eP r3.length_eq _ _,r2,r3⟩
theorem zj (l:List Int) (hl:l.length<=1000) (hs:SL l) (k0:Nat) (h0:0<k0) (hk:k0<l.length) (hss:SS (l.take k0)) (heq:l[k0] =l[k0-1]):
  ∃e,lX (((),(k0:Int),(k0,l.length-k0),1,()),(),(l,()))=some e/\ ∃ (kk:Nat) (v:List Int),e=(((),(kk:Int),()),(),(v,()))/\kk<=l.length/\v.length=l.length/\SS (v.take kk)/\ ∀y,y∈v.take kk↔y∈l:=by
 have hm:l.length<=maxLen:=by unfold maxLen; omega
 have mem0: ∀y,y∈l.take k0↔y∈l.take (k0+1):=by
  intro y;rw[bM,ah hk,heq];simp only[dB,bz,ay];refine⟨.inl,?_⟩
  rintro (h|rfl)
  ·exact h
  ·rw[List.mem_take_iff_getElem];exact⟨k0-1,by omega,rfl⟩
 refine nv (B:=fw) (fun s=> ∃ (kk k2:Nat) (v:List Int),s=(((),(kk:Int),(k0,l.length-k0),(k2:Int),()),(),(v,()))/\0<k2/\k0+k2<=l.length/\k0<=kk/\kk+1<=k0+k2/\v.length=l.length/\SS (v.take kk)/\(∀y,y∈v.take kk↔y∈l.take (k0+k2))/\v.drop (k0+k2-1)=l.drop (k0+k2-1)) (fun s=>l.length-s.1.2.2.2.1.toNat) _
  (fun s hI=> ?_) (s:=(((),(k0:Int),(k0,l.length-k0),((1:Nat):Int),()),(),(l,()))) ⟨k0,1,l,rfl,by omega,by omega,by omega,by omega,rfl,hss,mem0,rfl⟩
 obtain⟨kk,k2,v,rfl,a1,a2,a3,a4,a5,a6,a7,a8⟩:=hI;by_cases hlt:k0+k2<l.length
 ·left;have c1: (k2:Int)< ((l.length-k0:Nat):Int):=by omega
  have c2: (0:Int)<=(k2:Int)/\(k2:Int)< ((l.length-k0:Nat):Int):=by omega
  have c3: (0:Int)<=((k2-1:Nat):Int)/\((k2-1:Nat):Int)< ((l.length-k0:Nat):Int):=by omega
  have c4: (0:Int)<=(kk:Int)/\(kk:Int)< (v.length:Int):=by omega
  have g1:v[k0+(k2-1)]? =some l[k0+k2-1] :=by have:=congrArg (fun z:List Int=>z[0]?) a8;simp only[aN,ca] at this;rw[show k0+(k2-1)=k0+k2-1 by omega,this];exact ah _
  have g2:v[k0+k2]? =some l[k0+k2] :=by have:=congrArg (fun z:List Int=>z[1]?) a8;simp only[aN] at this;rw[show k0+k2-1+1=k0+k2 by omega] at this;rw[this];exact ah _
  have g3:v[kk]? =some (v[kk]'(by omega)):=ah _;have hle:l[k0+k2-1] <=l[k0+k2] :=bR.1 hs _ _ (by omega) hlt (by omega)
  have hdd:v.drop (k0+k2)=l.drop (k0+k2):=by have:=congrArg (List.drop 1) a8;simpa [b8,show k0+k2-1+1=k0+k2 by omega] using this
  have hta:l.take (k0+k2+1)=l.take (k0+k2)++ [l[k0+k2]] :=by rw[bM,ah hlt]; rfl
  have inb: ∀y∈l.take (k0+k2),y<=l[k0+k2-1] :=by
   intro y hy;obtain⟨j,hj,rfl⟩:=aM hy;have hj':j<k0+k2:=by simp at hj; omega
   rw[cQ];by_cases e:j=k0+k2-1
   ·subst e;exact cg _
   ·exact bR.1 hs _ _ (by omega) (by omega) (by omega)
  have hkm:k2<l.length:=by omega
  have hkm':kk<l.length:=by omega
  simp only[fw,dI,i5,kI,ea,if_pos c1,if_pos c2,jA a1 (by unfold maxLen; omega),if_pos c3,aA,g1,g2,af,dT hm hkm,dT hm hkm',if_pos c4,g3];by_cases he:l[k0+k2] =l[k0+k2-1]
  ·simp only[if_pos he];refine⟨_,rfl,⟨kk,k2+1,v,rfl,by omega,by omega,a3,by omega,a5,a6,fun y=> ?_,hdd⟩,?_⟩
   ·rw[a7,show k0+(k2+1)=k0+k2+1 by omega,hta,he];simp only[bz,ay];refine⟨.inl,?_⟩
    rintro (h|rfl)
    ·exact h
    ·rw[List.mem_take_iff_getElem];exact⟨k0+k2-1,by omega,rfl⟩
   ·simp only[aA];omega
  ·simp only[if_neg he];have hts: (v.set kk l[k0+k2]).take (kk+1)=v.take kk++ [l[k0+k2]] :=nL _ (by omega);refine⟨_,rfl,⟨kk+1,k2+1,v.set kk l[k0+k2],rfl,by omega,by omega,by omega,by omega,by simp[a5],?_,fun y=> ?_,?_⟩,?_⟩
   ·rw[hts]
    have:=zi (A:=v.take kk) (B:= []) (x:=l[k0+k2]) (by simpa using a6) (fun y hy=>by have:=inb y ((a7 y).1 hy);omega) (by simp)
    simpa using this
   ·rw[hts,show k0+(k2+1)=k0+k2+1 by omega,hta];simp only[bz,a7]
   ·rw[show k0+(k2+1)-1=k0+k2 by omega,c8 (by omega),hdd]
   ·simp only[aA];omega
 ·right;have hkk:k0+k2=l.length:=by omega
  refine⟨_,by simp only[fw,dI]; rw[if_neg (by omega)],kk,v,rfl,by omega,a5,a6,fun y=> ?_⟩;rw[a7,hkk,bH]
theorem CL (l:List Int) (hl:l.length<=1000) (hs:SL l): ∃r,fv l=some (r,())/\SS r/\(∀y,y∈r↔y∈l)/\r.length<=l.length:=by
 have hm:l.length<=maxLen:=by unfold maxLen; omega
 unfold fv;rw[dI];split
 ·refine⟨l,rfl,?_,fun _=>Iff.rfl,aw _⟩
  match l with
  | [] =>exact List.Pairwise.nil
  | [a] =>exact dj _ _
  |a::b::l=>simp at*; omega
 ·have fG:=nv (B:=ev) (fun s=> ∃k:Nat,0<k/\k<=l.length/\SS (l.take k)/\s=(((),(k:Int),()),(),(l,()))) (fun s=>l.length-s.1.2.1.toNat)
   (fun e=>(e= .inr (((),(),()),(),(l,()))/\SS l)\/ ∃ (kk:Nat) (W:List Int),e= .inl (((),(0,kk),()),(),(W,()))/\kk<=W.length/\kk<=l.length/\SS (W.take kk)/\ ∀y,y∈W.take kk↔y∈l)
   (fun s hI=>by
     obtain⟨k,h0,hkl,hss,rfl⟩:=hI;by_cases hk:k<l.length
     ·have c1: (k:Int)< (l.length:Int):=by omega
      have c2: (0:Int)<=(k:Int)/\(k:Int)< (l.length:Int):=by omega
      have c3: (0:Int)<=((k-1:Nat):Int)/\((k-1:Nat):Int)< (l.length:Int):=by omega
      have c4: (0:Int)<=(k:Int)/\(k:Int)<=(l.length:Int)/\(l.length:Int)<=(l.length:Int):=by omega
      have e1:l[k]? =some l[k] :=ah hk;have e2:l[k-1]? =some l[k-1] :=ah (by omega);by_cases he:l[k] =l[k-1]
      ·right;obtain⟨e,f1,kk,v,rfl,f2,f3,f4,f5⟩:=zj l hl hs k h0 hk hss he;have d1: (0:Int)<=(kk:Int)/\(kk:Int)<=(v.length:Int)/\(v.length:Int)<=(v.length:Int):=by omega
       have d2:kk+(v.length-kk)<=v.length:=by omega
       have d3: (0:Int)<=0/\(0:Int)<=(kk:Int)/\(kk:Int)<=(v.length:Int):=by omega
       simp only[ev,dI,ea,if_pos c1,if_pos c2,jA h0 (by omega),if_pos c3,aA,e1,e2,af,kI,if_pos he,if_pos c4,aV];rw[f1];simp only[af,aA,if_pos d1,if_pos d2,if_pos d3,dz,df]
       have ht: (v.take kk++List.replicate (v.length-kk) 0++v.drop (kk+(v.length-kk))).take kk=v.take kk:=by rw[aU,cO (by simp; omega),List.take_take,Nat.min_self]
       refine⟨_,rfl, .inr ⟨kk,_,rfl,by simp; omega,f2,by rw[ht]; exact f4,fun y=>by rw[ht]; exact f5 y⟩⟩
      ·left;have hle:l[k-1] <=l[k] :=bR.1 hs _ _ (by omega) hk (by omega);refine⟨(((),((k+1:Nat):Int),()),(),(l,())),?_,⟨k+1,by omega,by omega,?_,rfl⟩,?_⟩
       ·simp only[ev,dI,ea,if_pos c1,if_pos c2,jA h0 (by omega),if_pos c3,aA,e1,e2,af,kI,dT hm hk,if_neg he]
       ·rw[bM,e1]
        have:=zi (A:=l.take k) (B:= []) (x:=l[k]) (by simpa using hss) (fun y hy=>by
         obtain⟨j,hj,rfl⟩:=aM hy;have hj':j<k:=by simp at hj; omega
         rw[cQ]
         have :l[j] <=l[k-1] :=by
          by_cases e:j=k-1
          ·subst e;exact cg _
          ·exact bR.1 hs _ _ (by omega) (by omega) (by omega)
         omega) (by simp)
        simpa using this
       ·simp only[aA];omega
     ·have hk':k=l.length:=by omega
      subst hk';rw[bH] at hss;exact .inr ⟨_,by simp only[ev,dI]; rw[if_neg (by omega)], .inl ⟨rfl,hss⟩⟩)
   (s:=(((),((1:Nat):Int),()),(),(l,()))) ⟨1,by omega,by omega,by
     cases l with
     |nil=>exact List.Pairwise.nil
     |cons a l=>exact dj _ _,rfl⟩
  obtain⟨e,h1,h2⟩:=fG;rw[show jK (((),1,()),(),(l,()))=_ from h1];rcases h2 with ⟨rfl,h2⟩| ⟨kk,W,rfl,h3,h4,h5,h6⟩
  ·exact⟨l,rfl,h2,fun _=>Iff.rfl,aw _⟩
  ·refine⟨W.take kk,?_,h5,h6,by simp; omega⟩;simp only[af,cU];exact eP ⟨trivial,h3⟩ _ _
theorem EN (l:List Int) (hl:l.length<=12): ∃r,iG l=some (r,())/\SS r/\(∀y,y∈r↔y∈l)/\r.length<=l.length:=by obtain⟨s,s1,s2,s3⟩:=Ic l hl;have sl:=s3.length_eq;obtain⟨r,r1,r2,r3,r4⟩:=CL s (by omega) s2;unfold iG mb;rw[eP (jG (by omega)),af,s1,af,eP sl,r1];exact⟨r,rfl,r2,fun y=>by rw[r3,s3.mem_iff],by omega⟩
theorem Ku (a b:List Int) (h:a.length+b.length<=12): ∃r,iq a b=some (r,())/\ju a b=some (r,())/\SS r/\(∀y,y∈r↔y∈a\/y∈b)/\r.length<=a.length+b.length:=by
 obtain⟨r,r1,r2,r3,r4⟩:=JC a b (by omega) (by omega);obtain⟨s,s1,s2,s3,s4⟩:=EN (a++b) (by simp; omega);have hrs:r=s:=r2.uniq s2 fun y=>by rw[r3,s3,bz]
 subst hrs;refine⟨r,r1,?_,r2,r3,r4⟩;unfold ju
 have hc:=EM [a,b] (by simp) (by intro x hx;simp only[aR,List.not_mem_nil,or_false] at hx;rcases hx with rfl|rfl<;>omega)
 rw[hc,af,show ([a,b]:List (List Int)).flatten=a++b by simp,s1];rfl
end Go.Proofs.YtadpelkpdaohnaaGreatDoor.En
