/- Sets of numbers: put, sort, compact, unite. -/
import Derived.Test.YtjnleglhcppgcaaGreatZPDel
namespace Go.Proofs.YtjnleglhcppgcaaGreat.En
open Go
def SS (l:List Int):Prop:=l.Pairwise (· < ·)
theorem SS.uniq: ∀ {a b:List Int},SS a->SS b->(∀y,y∈a↔y∈b)->a=b
 | [],[],_,_,_=>rfl
 | [],b::l,_,_,h=>by have:=(h b).2 aG;cases this
 |a::l,[],_,_,h=>by have:=(h a).1 aG;cases this
 |a::l,b::m,ha,hb,h=>by
  obtain⟨a1,a2⟩:=cd.1 ha;obtain⟨b1,b2⟩:=cd.1 hb
  have hab:a=b:=by
   rcases aW.1 ((h a).1 aG) with e|e
   ·exact e
   ·rcases aW.1 ((h b).2 aG) with f|f
    ·exact f.symm
    ·have:=b1 a e;have:=a1 b f;omega
  subst hab
  have hlm:l=m:=SS.uniq a2 b2 fun y=>by
   constructor
   ·intro hy;rcases aW.1 ((h y).1 (aF _ hy)) with e|e
    ·have:=a1 y hy;omega
    ·exact e
   ·intro hy;rcases aW.1 ((h y).2 (aF _ hy)) with e|e
    ·have:=b1 y hy;omega
    ·exact e
  rw[hlm]
theorem Jx {A B:List Int} {x:Int} (h:SS (A++B)) (ha: ∀y∈A,y<x) (hb: ∀y∈B,x<y):SS (A++ [x] ++B):=by
 obtain⟨h1,h2,h3⟩:=cz.1 h;refine cz.2 ⟨cz.2 ⟨h1,dk _ _,fun a h b hb'=> ?_⟩,h2,fun a h b hb'=> ?_⟩
 ·rw[az.1 hb'];exact ha a h
 ·rcases bc.1 h with h|h
  ·exact h3 a h b hb'
  ·rw[az.1 h];exact hb b hb'
theorem VY (l:List Int) (x:Int) (hl:l.length<=1000) (hs:SS l): ∃r,n8 l x=some (r,())/\SS r/\(∀y,y∈r↔y=x\/y∈l)/\r.length<=l.length+1/\(x∉l->r.length=l.length+1):=by
 have hm:l.length<=maxLen:=by unfold maxLen; omega
 rcases uE (B:=n7) l.length (fun k=>((l,x,(k:Int),()),(),())) ((l,x,(l.length:Int),()),(),()) (fun k=>((l,x,(k:Int),()),(),())) (fun k=>match l[k]? with |some y=> !decide (y<x)|none=>false)
  (by simp only[n7]; rw[ei,if_neg (by omega)])
  (fun k hk=>by
    have c1: (k:Int)< (l.length:Int):=by omega
    have c2: (0:Int)<=(k:Int):=by omega
    simp only[n7,ei,ek,if_pos c1,if_pos c2,ap,ah hk,ae,ey hm hk];by_cases h:l[k]<x<;>simp[h]) with ⟨k1,k2⟩| ⟨i,hi,k1,k2,k3⟩
 ·have all: ∀y∈l,y<x:=by
   intro y hy;obtain⟨k,hk,rfl⟩:=aJ hy;have:=k2 k hk;rw[ah hk] at this;simpa using this
  refine⟨l++ [x],Ju l x hl all,?_,?_,?_,fun _=>by simp⟩
  ·have:=Jx (A:=l) (B:= []) (x:=x) (by simpa using hs) all (by simp);simpa using this
  ·intro y;simp[or_comm]
  ·simp
 ·rw[ah hi] at k2;simp only[bV,decide_eq_false_iff_not,Int.not_lt] at k2
  have lt: ∀y∈l.take i,y<x:=by
   intro y hy;obtain⟨j,hj,rfl⟩:=aJ hy;have hj':j<i:=by simp at hj; omega
   have:=k3 j hj';rw[ah (by omega)] at this;rw[cM];simpa using this
  have hd:l.drop i=l[i]::l.drop (i+1):=bS hi;have hsp:l.take i++l.drop i=l:=cX i l
  have ge: ∀y∈l.drop i,l[i] <=y:=by
   intro y hy;rw[hd] at hy;rcases aW.1 hy with rfl|hy
   ·exact cB _
   ·have h2:SS (l.drop i):=List.Pairwise.sublist (List.drop_sublist i l) hs;rw[hd] at h2;exact dQ ((cd.1 h2).1 y hy)
  unfold n8;rw[show Cu ((l,x,0,()),(),())=_ from k1];have c1: (i:Int)< (l.length:Int):=by omega
  have c2: (0:Int)<=(i:Int):=by omega
  simp only[ae,ei,gP,ek,if_pos c1,if_pos c2,ap,ah hi,bo];by_cases he:l[i] =x
  ·simp only[if_pos he,if_pos (kA (show l.length<=1048576 by omega))];refine⟨l,rfl,hs,fun y=>⟨.inr,?_⟩,by omega,fun h=>absurd (by rw[<-he]; exact aV hi) h⟩
   rintro (rfl|h)
   ·rw[<-he];exact aV hi
   ·exact h
  ·have d1: (0:Int)<=0/\(0:Int)<=(i:Int)/\(i:Int)<=(l.length:Int):=by omega
   have d2: (0:Int)<=(i:Int)/\(i:Int)<=(l.length:Int)/\(l.length:Int)<=(l.length:Int):=by omega
   have e1: (l.drop i).take (l.length-i)=l.drop i:=bh (by simp);simp only[if_neg he,if_pos d1,if_pos d2,cQ,bJ,cK,e1];rw[if_pos (kA (by simp; omega)),if_pos (kA (by simp; omega)),if_pos (kA (by simp; omega))];refine⟨_,rfl,Jx (by rw[hsp]; exact hs) lt (fun y hy=> ?_),fun y=> ?_,by simp; omega,fun _=>by simp; omega⟩
   ·have:=ge y hy;omega
   ·conv=>rhs; rw[<-hsp]
    simp only[bc,az];constructor
    ·rintro ((h|h)|h)
     ·exact .inr (.inl h)
     ·exact .inl h
     ·exact .inr (.inr h)
    ·rintro (h|h|h)
     ·exact .inl (.inr h)
     ·exact .inl (.inl h)
     ·exact .inr h
theorem Ro {β:Type} (l:List Int) (hl:l.length<=500) {mk:Nat->List Int->β} {ε:Type} {B:β->Option (β⊕ε)} {E:List Int->ε}
  (h0: ∀v,B (mk l.length v)=some (.inr (E v)))
  (h1: ∀k v x,l[k]? =some x->B (mk k v)=(n8 v x).bind fun y=>some (.inl (mk (k+1) y.1)))
  (v:List Int) (hv:SS v) (hvl:v.length<=500): ∃r,gQ B (mk 0 v)=some (E r)/\SS r/\(∀y,y∈r↔y∈v\/y∈l)/\r.length<=v.length+l.length:=by
 have go: ∀ (n k:Nat) (v:List Int),k+n=l.length->SS v->v.length+n<=1000-> ∃r,gQ B (mk k v)=some (E r)/\SS r/\(∀y,y∈r↔y∈v\/y∈l.drop k)/\r.length<=v.length+n:=by
  intro n
  induction n with
  |zero=>
   intro k v hk hv _;have :k=l.length:=by omega
   subst this;exact⟨v,gC (h0 v),hv,by simp,by omega⟩
  |succ n ih=>
   intro k v hk hv hn;have hlt:k<l.length:=by omega
   obtain⟨r,r1,r2,r3,r4,_⟩:=VY v l[k] (by omega) hv;obtain⟨s,s1,s2,s3,s4⟩:=ih (k+1) r (by omega) r2 (by omega);refine⟨s,?_,s2,fun y=> ?_,by omega⟩
   ·rw[lf (by rw[h1 k v _ (ah hlt),r1]; rfl)];exact s1
   ·rw[s3,r3,bS hlt,aW];constructor
    ·rintro ((h|h)|h)
     ·exact .inr (.inl h)
     ·exact .inl h
     ·exact .inr (.inr h)
    ·rintro (h|h|h)
     ·exact .inl (.inr h)
     ·exact .inl (.inl h)
     ·exact .inr h
 obtain⟨r,h1,h2,h3,h4⟩:=go l.length 0 v (by omega) hv (by omega);rw[bJ] at h3;exact⟨r,h1,h2,h3,h4⟩
theorem UT (a b:List Int) (ha:a.length<=100) (hb:b.length<=100): ∃r,lU a b=some (r,())/\SS r/\(∀y,y∈r↔y∈a\/y∈b)/\r.length<=a.length+b.length:=by
 have am:a.length<=maxLen:=by unfold maxLen; omega
 have bm:b.length<=maxLen:=by unfold maxLen; omega
 obtain⟨r,r1,r2,r3,r4⟩:=Ro (B:=j5) (mk:=fun k v=>((a,b,(),(k:Int),()),(),(v,()))) (E:=fun v=>((b,(),()),(),(v,()))) a (by omega)
  (fun v=>by simp only[j5]; rw[ei,if_neg (by omega)])
  (fun k v x hx=>by
    have hk:=i5 hx;have c1: (k:Int)< (a.length:Int):=by omega
    have c2: (0:Int)<=(k:Int):=by omega
    simp only[j5,ei,ek,if_pos c1,if_pos c2,ap,hx,ae,ey am hk])
  [] List.Pairwise.nil (aI _)
 obtain⟨s,s1,s2,s3,s4⟩:=Ro (B:=j6) (mk:=fun k v=>((b,(),(k:Int),()),(),(v,()))) (E:=fun v=>(((),()),(),(v,()))) b (by omega)
  (fun v=>by simp only[j6]; rw[ei,if_neg (by omega)])
  (fun k v x hx=>by
    have hk:=i5 hx;have c1: (k:Int)< (b.length:Int):=by omega
    have c2: (0:Int)<=(k:Int):=by omega
    simp only[j6,ei,ek,if_pos c1,if_pos c2,ap,hx,ae,ey bm hk])
  r r2 (by simp at r4; omega)
 unfold lU;rw[show vQ ((a,b,(),0,()),(),([],()))=_ from r1];simp only[ae];rw[show vS ((b,(),0,()),(),(r,()))=_ from s1];refine⟨s,rfl,s2,fun y=> ?_,by simp at r4; omega⟩;rw[s3,r3];simp
def SL (l:List Int):Prop:=l.Pairwise (· <= ·)
theorem Tm (A R:List Int) (a x:Int): ((A++a::x::R).set (A.length+1) a).set A.length x=A++x::a::R:=by
 induction A with
 |nil=>rfl
 |cons b A ih=>simp only[cq,bk,List.set_cons_succ,ih]
theorem Rp (D:List Int) (n k:Int) (x:Int) (hn:n<=12): ∀ (A C:List Int),A.length+C.length+D.length<=12->SL (A++C)->(∀c∈C,x<c)->
  ∃Q,gJ (((),0,n,k,(A.length:Int),()),(),(A++x:: (C++D),()))=some (((),0,n,k,()),(),(Q++D,()))/\SL Q/\Q.Perm (x:: (A++C)):=by
 intro A
 induction h:A.length generalizing A with
 |zero=>intro C hl hs hc;have :A= [] :=dj.1 h;subst this;refine⟨x::C,gC ?_,cd.2 ⟨fun c h=>dQ (hc c h),hs⟩,by simp⟩;simp only[fe,ei];rw[if_neg (by simp)];rfl
 |succ m ih=>
  intro C hl hs hc;obtain⟨A',a,rfl⟩: ∃A' a,A=A'++ [a] :=⟨A.dropLast,A.getLast (by intro e; subst e; simp at h),(List.dropLast_concat_getLast _).symm⟩
  have hm:A'.length=m:=by simpa using h
  have c1: ((m+1:Nat):Int)>0:=by omega
  have hlen: ((A'++ [a])++x:: (C++D)).length=m+2+C.length+D.length:=by simp; omega
  have c2: (0:Int)<=((m+1:Nat):Int)/\((m+1:Nat):Int)< (((A'++ [a])++x:: (C++D)).length:Int):=by rw[hlen]; omega
  have c3: (0:Int)<=((m+1-1:Nat):Int)/\((m+1-1:Nat):Int)< (((A'++ [a])++x:: (C++D)).length:Int):=by rw[hlen]; omega
  have e1: ((A'++ [a])++x:: (C++D))[m+1]? =some x:=by rw[<-h,aN (by simp)]; simp
  have e2: ((A'++ [a])++x:: (C++D))[m+1-1]? =some a:=by rw[aH (by simp; omega),aN (by omega)];simp[hm]
  have pw:IntKind.wrap .i64 (((m+1:Nat):Int)-1)=((m+1-1:Nat):Int):=kH (by omega) (by unfold maxLen; omega)
  have less:mD x a=some (decide (x<a),()):=by unfold mD nh;simp only[beq_self_eq_true,aY,ae,eB]
  by_cases hxa:x<a
  ·have hsw: (((A'++ [a])++x:: (C++D)).set (m+1) a).set (m+1-1) x=A'++x:: ((a::C)++D):=by
    have:=Tm A' (C++D) a x;rw[hm] at this;simpa using this
   have c5:m+1-1< (((A'++ [a])++x:: (C++D)).set (m+1) a).length:=by rw[cZ,hlen];omega
   have hz:=ah c5
   obtain⟨Q,q1,q2,q3⟩:=ih A' hm (a::C) (by simp at hl ⊢; omega) (by simpa using hs) (fun c h=>by
    rcases aW.1 h with rfl|h
    ·exact hxa
    ·exact hc c h)
   refine⟨Q,?_,q2,q3.trans (by simp)⟩;unfold gJ at q1 ⊢;rw[<-q1];refine lf ?_;simp only[fe,ei,ek,if_pos c1,if_pos c2,pw,if_pos c3,ap,e1,e2,ae,less,if_pos hxa,hz,hsw];rfl
  ·have hall: ∀y∈A',y<=a:=by
    intro y hy;have h1:SL (A'++ [a]):=(cz.1 hs).1;exact (cz.1 h1).2.2 y hy a (by simp)
   refine⟨(A'++ [a])++x::C,?_,?_,?_⟩
   ·refine gC ?_;rw[show (A'++ [a])++x::C++D=(A'++ [a])++x:: (C++D) by simp];simp only[fe,ei,ek,if_pos c1,if_pos c2,pw,if_pos c3,ap,e1,e2,ae,less,if_neg hxa]
   ·obtain⟨p1,p2,p3⟩:=cz.1 hs;refine cz.2 ⟨p1,cd.2 ⟨fun c h=>dQ (hc c h),p2⟩,fun y hy z hz=> ?_⟩
    have hyx:y<=x:=by
     rcases bc.1 hy with h|h
     ·have:=hall y h;omega
     ·rw[az.1 h];omega
    rcases aW.1 hz with rfl|hz
    ·exact hyx
    ·have:=hc z hz;omega
   ·exact List.perm_middle
theorem Hf (l:List Int) (hl:l.length<=12): ∃r,fk l 0 (l.length:Int)=some (r,())/\SL r/\r.Perm l:=by
 have hm:l.length<=maxLen:=by unfold maxLen; omega
 unfold fk;cases l with
 |nil=>
  refine⟨[],?_,List.Pairwise.nil,List.Perm.refl _⟩
  rw[show gK (((),0,(([]:List Int).length:Int),IntKind.wrap .i64 (0+1),()),(),([],()))=some ((()),(),([],())) from gC (by rw[show IntKind.wrap .i64 ((0:Int)+1)=((1:Nat):Int) from by rw[fP (by omega) (by omega)]; rfl];simp only[eH,ei];rw[if_neg (by simp)])]
  rfl
 |cons b l=>
  generalize hL:b::l=L at hl hm;have hpos:0<L.length:=by rw[<-hL]; simp
  have outer:=sV (B:=eH) (fun s=> ∃ (k:Nat) (Q:List Int),0<k/\k<=L.length/\Q.length=k/\SL Q/\Q.Perm (L.take k)/\s=(((),0,(L.length:Int),(k:Int),()),(),(Q++L.drop k,()))) (fun s=>L.length-s.1.2.2.2.1.toNat) (fun e=> ∃Q:List Int,SL Q/\Q.Perm L/\e=((()),(),(Q,())))
   (fun s hs=>by
     obtain⟨k,Q,h0,hk,hq,hq2,hq3,rfl⟩:=hs;by_cases hlt:k<L.length
     ·have c1: (k:Int)< (L.length:Int):=by omega
      obtain⟨R,r1,r2,r3⟩:=Rp (L.drop (k+1)) (L.length:Int) (k:Int) L[k] (by omega) Q [] (by simp; omega) (by simpa using hq2) (by simp);have hd:L.drop k=L[k]::L.drop (k+1):=bS hlt;rw[hq,bo,<-hd] at r1;refine .inl ⟨(((),0,(L.length:Int),((k+1:Nat):Int),()),(),(R++L.drop (k+1),())),?_,⟨k+1,R,by omega,by omega,?_,r2,?_,rfl⟩,?_⟩
      ·simp only[eH,ei,if_pos c1,r1,ae,ey hm hlt]
      ·rw[r3.length_eq];simp[hq]
      ·rw[bK,ah hlt];refine r3.trans ?_;rw[bH];refine List.Perm.trans ?_ (List.perm_append_comm);simpa using hq3
      ·simp only[ap];omega
     ·have :k=L.length:=by omega
      subst this;refine .inr ⟨_,by simp only[eH,ei]; rw[if_neg (by omega)],Q,hq2,by simpa using hq3,by simp⟩)
   (s:=(((),0,(L.length:Int),((1:Nat):Int),()),(),(L,()))) ⟨1,L.take 1,by omega,by omega,by simp; omega,by rw[<-hL]; simp[SL],List.Perm.refl _,by rw[cX]⟩
  obtain⟨e,h1,Q,q1,q2,rfl⟩:=outer;rw[show IntKind.wrap .i64 ((0:Int)+1)=((1:Nat):Int) from by rw[fP (by omega) (by omega)]; rfl,show gK (((),0,(L.length:Int),((1:Nat):Int),()),(),(L,()))=_ from h1];exact⟨Q,rfl,q1,q2⟩
theorem UU {n:Nat} (hn:n<=12): ∃m,yf (IntKind.wrap .u64 (n:Int))=some (m,()):=by
 have :n<=5\/n=6\/n=7\/n=8\/n=9\/n=10\/n=11\/n=12:=by omega
 rcases this with h|rfl|rfl|rfl|rfl|rfl|rfl|rfl
 ·exact FW h
 ·exact⟨3,by kernel_rfl⟩
 ·exact⟨3,by kernel_rfl⟩
 ·exact⟨4,by kernel_rfl⟩
 ·exact⟨4,by kernel_rfl⟩
 ·exact⟨4,by kernel_rfl⟩
 ·exact⟨4,by kernel_rfl⟩
 ·exact⟨4,by kernel_rfl⟩
theorem Tn (l:List Int) (hl:l.length<=12): ∃r,ky l=some (r,())/\SL r/\r.Perm l:=by
 obtain⟨m,hm⟩:=UU hl;obtain⟨r,r1,r2,r3⟩:=Hf l hl
 have hp:fX l 0 (l.length:Int) m=some (r,()):=by
  unfold fX
  have :kw (((),0,(l.length:Int),m,true,true,()),(),(l,()))=some ((()),(),(r,())):=by refine gC ?_;simp only[gU];rw[fP (by omega) (by omega),ei,if_pos (by omega),r1,ae,fB r3.length_eq]
  rw[this];rfl
 unfold ky;simp only[hm,ae,hp];exact⟨r,fB r3.length_eq _ _,r2,r3⟩
theorem Jy (l:List Int) (hl:l.length<=1000) (hs:SL l) (k0:Nat) (h0:0<k0) (hk:k0<l.length) (hss:SS (l.take k0)) (heq:l[k0] =l[k0-1]):
  ∃e,sM (((),(k0:Int),(k0,l.length-k0),1,()),(),(l,()))=some e/\ ∃ (kk:Nat) (v:List Int),e=(((),(kk:Int),()),(),(v,()))/\kk<=l.length/\v.length=l.length/\SS (v.take kk)/\ ∀y,y∈v.take kk↔y∈l:=by
 have hm:l.length<=maxLen:=by unfold maxLen; omega
 have mem0: ∀y,y∈l.take k0↔y∈l.take (k0+1):=by
  intro y;rw[bK,ah hk,heq];simp only[eb,bc,az];refine⟨.inl,?_⟩
  rintro (h|rfl)
  ·exact h
  ·rw[List.mem_take_iff_getElem];exact⟨k0-1,by omega,rfl⟩
 refine sV (B:=iT) (fun s=> ∃ (kk k2:Nat) (v:List Int),s=(((),(kk:Int),(k0,l.length-k0),(k2:Int),()),(),(v,()))/\0<k2/\k0+k2<=l.length/\k0<=kk/\kk+1<=k0+k2/\v.length=l.length/\SS (v.take kk)/\(∀y,y∈v.take kk↔y∈l.take (k0+k2))/\v.drop (k0+k2-1)=l.drop (k0+k2-1)) (fun s=>l.length-s.1.2.2.2.1.toNat) _
  (fun s hI=> ?_) (s:=(((),(k0:Int),(k0,l.length-k0),((1:Nat):Int),()),(),(l,()))) ⟨k0,1,l,rfl,by omega,by omega,by omega,by omega,rfl,hss,mem0,rfl⟩
 obtain⟨kk,k2,v,rfl,a1,a2,a3,a4,a5,a6,a7,a8⟩:=hI;by_cases hlt:k0+k2<l.length
 ·left;have c1: (k2:Int)< ((l.length-k0:Nat):Int):=by omega
  have c2: (0:Int)<=(k2:Int)/\(k2:Int)< ((l.length-k0:Nat):Int):=by omega
  have c3: (0:Int)<=((k2-1:Nat):Int)/\((k2-1:Nat):Int)< ((l.length-k0:Nat):Int):=by omega
  have c4: (0:Int)<=(kk:Int)/\(kk:Int)< (v.length:Int):=by omega
  have g1:v[k0+(k2-1)]? =some l[k0+k2-1] :=by have:=congrArg (fun z:List Int=>z[0]?) a8;simp only[aX,cy] at this;rw[show k0+(k2-1)=k0+k2-1 by omega,this];exact ah _
  have g2:v[k0+k2]? =some l[k0+k2] :=by have:=congrArg (fun z:List Int=>z[1]?) a8;simp only[aX] at this;rw[show k0+k2-1+1=k0+k2 by omega] at this;rw[this];exact ah _
  have g3:v[kk]? =some (v[kk]'(by omega)):=ah _;have hle:l[k0+k2-1] <=l[k0+k2] :=bN.1 hs _ _ (by omega) hlt (by omega)
  have hdd:v.drop (k0+k2)=l.drop (k0+k2):=by have:=congrArg (List.drop 1) a8;simpa [cj,show k0+k2-1+1=k0+k2 by omega] using this
  have hta:l.take (k0+k2+1)=l.take (k0+k2)++ [l[k0+k2]] :=by rw[bK,ah hlt]; rfl
  have inb: ∀y∈l.take (k0+k2),y<=l[k0+k2-1] :=by
   intro y hy;obtain⟨j,hj,rfl⟩:=aJ hy;have hj':j<k0+k2:=by simp at hj; omega
   rw[cM];by_cases e:j=k0+k2-1
   ·subst e;exact cB _
   ·exact bN.1 hs _ _ (by omega) (by omega) (by omega)
  have hkm:k2<l.length:=by omega
  have hkm':kk<l.length:=by omega
  simp only[iT,ei,fi,gP,ek,if_pos c1,if_pos c2,kH a1 (by unfold maxLen; omega),if_pos c3,ap,g1,g2,ae,ey hm hkm,ey hm hkm',if_pos c4,g3];by_cases he:l[k0+k2] =l[k0+k2-1]
  ·simp only[if_pos he];refine⟨_,rfl,⟨kk,k2+1,v,rfl,by omega,by omega,a3,by omega,a5,a6,fun y=> ?_,hdd⟩,?_⟩
   ·rw[a7,show k0+(k2+1)=k0+k2+1 by omega,hta,he];simp only[bc,az];refine⟨.inl,?_⟩
    rintro (h|rfl)
    ·exact h
    ·rw[List.mem_take_iff_getElem];exact⟨k0+k2-1,by omega,rfl⟩
   ·simp only[ap];omega
  ·simp only[if_neg he];have hts: (v.set kk l[k0+k2]).take (kk+1)=v.take kk++ [l[k0+k2]] :=rr _ (by omega);refine⟨_,rfl,⟨kk+1,k2+1,v.set kk l[k0+k2],rfl,by omega,by omega,by omega,by omega,by simp[a5],?_,fun y=> ?_,?_⟩,?_⟩
   ·rw[hts]
    have:=Jx (A:=v.take kk) (B:= []) (x:=l[k0+k2]) (by simpa using a6) (fun y hy=>by have:=inb y ((a7 y).1 hy);omega) (by simp)
    simpa using this
   ·rw[hts,show k0+(k2+1)=k0+k2+1 by omega,hta];simp only[bc,a7]
   ·rw[show k0+(k2+1)-1=k0+k2 by omega,dg (by omega),hdd]
   ·simp only[ap];omega
 ·right;have hkk:k0+k2=l.length:=by omega
  refine⟨_,by simp only[iT,ei]; rw[if_neg (by omega)],kk,v,rfl,by omega,a5,a6,fun y=> ?_⟩;rw[a7,hkk,be]
theorem Na (l:List Int) (hl:l.length<=1000) (hs:SL l): ∃r,iQ l=some (r,())/\SS r/\(∀y,y∈r↔y∈l)/\r.length<=l.length:=by
 have hm:l.length<=maxLen:=by unfold maxLen; omega
 unfold iQ;rw[ei];split
 ·refine⟨l,rfl,?_,fun _=>Iff.rfl,ay _⟩
  match l with
  | [] =>exact List.Pairwise.nil
  | [a] =>exact dk _ _
  |a::b::l=>simp at*; omega
 ·have gE:=sV (B:=fM) (fun s=> ∃k:Nat,0<k/\k<=l.length/\SS (l.take k)/\s=(((),(k:Int),()),(),(l,()))) (fun s=>l.length-s.1.2.1.toNat)
   (fun e=>(e= .inr (((),(),()),(),(l,()))/\SS l)\/ ∃ (kk:Nat) (W:List Int),e= .inl (((),(0,kk),()),(),(W,()))/\kk<=W.length/\kk<=l.length/\SS (W.take kk)/\ ∀y,y∈W.take kk↔y∈l)
   (fun s hI=>by
     obtain⟨k,h0,hkl,hss,rfl⟩:=hI;by_cases hk:k<l.length
     ·have c1: (k:Int)< (l.length:Int):=by omega
      have c2: (0:Int)<=(k:Int)/\(k:Int)< (l.length:Int):=by omega
      have c3: (0:Int)<=((k-1:Nat):Int)/\((k-1:Nat):Int)< (l.length:Int):=by omega
      have c4: (0:Int)<=(k:Int)/\(k:Int)<=(l.length:Int)/\(l.length:Int)<=(l.length:Int):=by omega
      have e1:l[k]? =some l[k] :=ah hk;have e2:l[k-1]? =some l[k-1] :=ah (by omega);by_cases he:l[k] =l[k-1]
      ·right;obtain⟨e,f1,kk,v,rfl,f2,f3,f4,f5⟩:=Jy l hl hs k h0 hk hss he;have d1: (0:Int)<=(kk:Int)/\(kk:Int)<=(v.length:Int)/\(v.length:Int)<=(v.length:Int):=by omega
       have d2:kk+(v.length-kk)<=v.length:=by omega
       have d3: (0:Int)<=0/\(0:Int)<=(kk:Int)/\(kk:Int)<=(v.length:Int):=by omega
       simp only[fM,ei,ek,if_pos c1,if_pos c2,kH h0 (by omega),if_pos c3,ap,e1,e2,ae,gP,if_pos he,if_pos c4,aU];rw[f1];simp only[ae,ap,if_pos d1,if_pos d2,if_pos d3,cQ,cK]
       have ht: (v.take kk++List.replicate (v.length-kk) 0++v.drop (kk+(v.length-kk))).take kk=v.take kk:=by rw[aR,cO (by simp; omega),dY,dS]
       refine⟨_,rfl, .inr ⟨kk,_,rfl,by simp; omega,f2,by rw[ht]; exact f4,fun y=>by rw[ht]; exact f5 y⟩⟩
      ·left;have hle:l[k-1] <=l[k] :=bN.1 hs _ _ (by omega) hk (by omega);refine⟨(((),((k+1:Nat):Int),()),(),(l,())),?_,⟨k+1,by omega,by omega,?_,rfl⟩,?_⟩
       ·simp only[fM,ei,ek,if_pos c1,if_pos c2,kH h0 (by omega),if_pos c3,ap,e1,e2,ae,gP,ey hm hk,if_neg he]
       ·rw[bK,e1]
        have:=Jx (A:=l.take k) (B:= []) (x:=l[k]) (by simpa using hss) (fun y hy=>by
         obtain⟨j,hj,rfl⟩:=aJ hy;have hj':j<k:=by simp at hj; omega
         rw[cM]
         have :l[j] <=l[k-1] :=by
          by_cases e:j=k-1
          ·subst e;exact cB _
          ·exact bN.1 hs _ _ (by omega) (by omega) (by omega)
         omega) (by simp)
        simpa using this
       ·simp only[ap];omega
     ·have hk':k=l.length:=by omega
      subst hk';rw[be] at hss;exact .inr ⟨_,by simp only[fM,ei]; rw[if_neg (by omega)], .inl ⟨rfl,hss⟩⟩)
   (s:=(((),((1:Nat):Int),()),(),(l,()))) ⟨1,by omega,by omega,by
     cases l with
     |nil=>exact List.Pairwise.nil
     |cons a l=>exact dk _ _,rfl⟩
  obtain⟨e,h1,h2⟩:=gE;rw[show oB (((),1,()),(),(l,()))=_ from h1];rcases h2 with ⟨rfl,h2⟩| ⟨kk,W,rfl,h3,h4,h5,h6⟩
  ·exact⟨l,rfl,h2,fun _=>Iff.rfl,ay _⟩
  ·refine⟨W.take kk,?_,h5,h6,by simp; omega⟩;simp only[ae,b7];exact fB ⟨trivial,h3⟩ _ _
theorem HO (l:List Int) (hl:l.length<=12): ∃r,ll l=some (r,())/\SS r/\(∀y,y∈r↔y∈l)/\r.length<=l.length:=by obtain⟨s,s1,s2,s3⟩:=Tn l hl;have sl:=s3.length_eq;obtain⟨r,r1,r2,r3,r4⟩:=Na s (by omega) s2;unfold ll iP;rw[fB (kA (by omega)),ae,s1,ae,fB sl,r1];exact⟨r,rfl,r2,fun y=>by rw[r3,s3.mem_iff],by omega⟩
theorem TZ (a b:List Int) (h:a.length+b.length<=12): ∃r,lU a b=some (r,())/\mc a b=some (r,())/\SS r/\(∀y,y∈r↔y∈a\/y∈b)/\r.length<=a.length+b.length:=by
 obtain⟨r,r1,r2,r3,r4⟩:=UT a b (by omega) (by omega);obtain⟨s,s1,s2,s3,s4⟩:=HO (a++b) (by simp; omega);have hrs:r=s:=r2.uniq s2 fun y=>by rw[r3,s3,bc]
 subst hrs;refine⟨r,r1,?_,r2,r3,r4⟩;unfold mc
 have hc:=Pr [a,b] (by simp) (by intro x hx;simp only[aW,List.not_mem_nil,or_false] at hx;rcases hx with rfl|rfl<;>omega)
 rw[hc,ae,show ([a,b]:List (List Int)).flatten=a++b by simp,s1];rfl
end Go.Proofs.YtjnleglhcppgcaaGreat.En
