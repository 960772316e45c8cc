/- Machines: spec and impl tell the same. -/
import Derived.Test.YtjnleglhcppgcaaGreatZPV4
namespace Go.Proofs.YtjnleglhcppgcaaGreat.En
open Go
theorem JE (m:eJ) (ho:m.objects.length<=1000) (hs:m.sessions.length<=1000): ∃b,lZ m=some (b,())/\mp m=some (b,())/\(b=true->m.objects.length=3):=by
 have mo:m.objects.length<=maxLen:=by unfold maxLen; omega
 have ms:m.sessions.length<=maxLen:=by unfold maxLen; omega
 have k1:=jS (B1:=jj) (B2:=eZ) m.objects.length (fun k=>(((),(k:Int),()),((m.objects,m.sessions,()),()),())) (fun k=>((m.objects,(),(m.objects.length:Int),(k:Int),()),(),())) (.inr (((),(),()),((m.objects,m.sessions,()),()),())) (.inr (((),()),(),())) (fun _=> .inl (((),false,()),((m.objects,m.sessions,()),()),())) (fun k=> .inl (((k:Int),()),(),()))
  (fun _=>True) (fun _=>True)
  (by simp only[jj]; rw[ei,if_neg (by omega)])
  (by simp only[eZ]; rw[ei,if_neg (by omega)])
  (fun k hk=>by
    have c1: (k:Int)< (m.objects.length:Int):=by omega
    have c2: (0:Int)<=(k:Int):=by omega
    simp only[jj,eZ,ei,ek,if_pos c1,if_pos c2,ap,ah hk,ae,lM,kg,mG,ey mo hk];cases je m.objects[k] 0 9 with
    |false=>exact .inr ⟨rfl,rfl,trivial⟩
    |true=>exact .inl ⟨rfl,rfl,trivial⟩)
 have k2:=jS (B1:=jk) (B2:=jn) m.sessions.length (fun k=>(((),(k:Int),()),((m.objects,m.sessions,()),()),())) (fun k=>(((),m.sessions,(m.sessions.length:Int),(k:Int),()),((m.objects,m.sessions,()),()),())) (.inr (((),(),()),((m.objects,m.sessions,()),()),())) (.inr (((),()),(),())) (fun _=> .inl (((),false,()),((m.objects,m.sessions,()),()),())) (fun _=> .inl ((false,()),(),()))
  (fun _=>True) (fun _=>True)
  (by simp only[jk]; rw[ei,if_neg (by omega)])
  (by simp only[jn]; rw[ei,if_neg (by omega)])
  (fun k hk=>by
    have c1: (k:Int)< (m.sessions.length:Int):=by omega
    have c2: (0:Int)<=(k:Int):=by omega
    simp only[jk,jn,ei,ek,if_pos c1,if_pos c2,ap,ah hk,ae,kg,mG,ey ms hk];by_cases h0:0<k
    ·have c3: (k:Int)>0:=by omega
     have c4: (0:Int)<=((k-1:Nat):Int):=by omega
     have e1:m.sessions[k-1]? =some (m.sessions[k-1]'(by omega)):=ah (by omega);simp only[if_pos c3,kH h0 (by unfold maxLen at ms ⊢; omega),if_pos c4,ap,e1,ae];by_cases h: (m.sessions[k-1]'(by omega)).client≥m.sessions[k].client
     ·simp only[if_pos h];cases je m.sessions[k].client 0 2<;>cases je m.sessions[k].seq 1 99<;>cases je m.sessions[k].result.value 0 9<;>exact .inr ⟨rfl,rfl,trivial⟩
     ·simp only[if_neg h];cases je m.sessions[k].client 0 2<;>cases je m.sessions[k].seq 1 99<;>cases je m.sessions[k].result.value 0 9<;>first |exact .inr ⟨rfl,rfl,trivial⟩|exact .inl ⟨rfl,rfl,trivial⟩
    ·have c3: ¬ (k:Int)>0:=by omega
     simp only[if_neg c3];cases je m.sessions[k].client 0 2<;>cases je m.sessions[k].seq 1 99<;>cases je m.sessions[k].result.value 0 9<;>first |exact .inr ⟨rfl,rfl,trivial⟩|exact .inl ⟨rfl,rfl,trivial⟩)
 unfold lZ mp fV gp;rcases k1 with ⟨g1,g2,_⟩| ⟨k,_,g1,g2,_⟩
 ·rw[show ph (((),0,()),((m.objects,m.sessions,()),()),())=_ from g1,show ib ((m.objects,(),(m.objects.length:Int),0,()),(),())=_ from g2];rcases k2 with ⟨h1,h2,_⟩| ⟨k',_,h1,h2,_⟩
  ·simp only[ae,cn,show pi (((),0,()),((m.objects,m.sessions,()),()),())=_ from h1,show pp (((),m.sessions,(m.sessions.length:Int),0,()),((m.objects,m.sessions,()),()),())=_ from h2];by_cases h3: (m.objects.length:Int)=3
   ·rw[h3];exact⟨true,rfl,rfl,fun _=>by omega⟩
   ·rw[beq_eq_false_iff_ne.2 h3];exact⟨false,rfl,rfl,fun h=>by cases h⟩
  ·simp only[ae,cn,show pi (((),0,()),((m.objects,m.sessions,()),()),())=_ from h1,show pp (((),m.sessions,(m.sessions.length:Int),0,()),((m.objects,m.sessions,()),()),())=_ from h2];cases ((m.objects.length:Int)==3)<;>exact⟨false,rfl,rfl,fun h=>by cases h⟩
 ·rw[show ph (((),0,()),((m.objects,m.sessions,()),()),())=_ from g1,show ib ((m.objects,(),(m.objects.length:Int),0,()),(),())=_ from g2];simp only[ae,b7];rw[decide_eq_true (by omega)];cases ((m.objects.length:Int)==3)<;>exact⟨false,rfl,rfl,fun h=>by cases h⟩
theorem HS (m:eJ) (c:Int) (hs:m.sessions.length<=1000): ∃s b,mu m c=some (s,b,())/\rZ m c=some (s,b,())/\(b=true-> ∃x∈m.sessions,x.client=c):=by
 have ms:m.sessions.length<=maxLen:=by unfold maxLen; omega
 have gE:=jS (B1:=js) (B2:=nr) m.sessions.length (fun k=>((c,(),(),(k:Int),()),((m.objects,m.sessions,()),(0,0,false,0,()),()),())) (fun k=>((c,(),m.sessions,(m.sessions.length:Int),(k:Int),()),((0,0,false,0,()),()),())) (.inr (((),(),()),((0,0,false,0,()),()),())) (.inr (((),(),()),((0,0,false,0,()),()),()))
  (fun k=>match m.sessions[k]? with |some x=> .inl (((),true,()),((x.client,x.seq,x.result.done,x.result.value,()),()),())|none=> .inr (((),(),()),((0,0,false,0,()),()),())) (fun k=>match m.sessions[k]? with |some x=> .inl (((),true,()),((x.client,x.seq,x.result.done,x.result.value,()),()),())|none=> .inr (((),(),()),((0,0,false,0,()),()),()))
  (fun _=>True) (fun k=> ∃h:k<m.sessions.length,m.sessions[k].client=c)
  (by simp only[js]; rw[ei,if_neg (by omega)])
  (by simp only[nr]; rw[ei,if_neg (by omega)])
  (fun k hk=>by
    have c1: (k:Int)< (m.sessions.length:Int):=by omega
    have c2: (0:Int)<=(k:Int):=by omega
    simp only[js,nr,ei,gP,ek,if_pos c1,if_pos c2,ap,ah hk,ae,ey ms hk];by_cases h:m.sessions[k].client=c
    ·simp only[if_pos h];exact .inr ⟨trivial,trivial,hk,h⟩
    ·simp only[if_neg h];exact .inl ⟨trivial,trivial,trivial⟩)
 unfold mu rZ;rcases gE with ⟨k1,k2,_⟩| ⟨k,hk,k1,k2,_,h⟩
 ·rw[show rx ((c,(),(),0,()),((m.objects,m.sessions,()),(0,0,false,0,()),()),())=_ from k1,show vu ((c,(),m.sessions,(m.sessions.length:Int),0,()),((0,0,false,0,()),()),())=_ from k2];exact⟨_,false,rfl,rfl,fun h=>by cases h⟩
 ·rw[ah hk] at k1 k2;rw[show rx ((c,(),(),0,()),((m.objects,m.sessions,()),(0,0,false,0,()),()),())=_ from k1,show vu ((c,(),m.sessions,(m.sessions.length:Int),0,()),((0,0,false,0,()),()),())=_ from k2];exact⟨_,true,rfl,rfl,fun _=>⟨_,aV hk,h⟩⟩
def to:List ew->Int->Nat
 | [],_=>0
 |x::l,c=>if x.client<c then to l c+1 else 0
theorem RF {x:ew} {l:List ew} {c:Int} (h:x.client<c):to (x::l) c=to l c+1:=by rw[to,if_pos h]
theorem RG {x:ew} {l:List ew} {c:Int} (h: ¬x.client<c):to (x::l) c=0:=by rw[to,if_neg h]
theorem Tv (l:List ew) (c:Int):to l c<=l.length:=by
 induction l with
 |nil=>exact ay _
 |cons x l ih=>
  unfold to;split
  ·simp only[bk]; omega
  ·exact aI _
theorem Tw {l:List ew} {c:Int} (h: ∃x∈l,x.client=c):to l c<l.length:=by
 induction l with
 |nil=>obtain⟨x,hx,_⟩:=h; cases hx
 |cons y l ih=>
  unfold to;split
  ·rename_i hy;obtain⟨x,hx,hc⟩:=h;rcases aW.1 hx with rfl|hx
   ·omega
   ·have:=ih ⟨x,hx,hc⟩;simp only[bk]; omega
  ·simp
theorem V2 (b d:Bool) (v:Int) (o:Op) (objs:List Int) (l:List ew) (hl:l.length<=1000):wC (((),(),(),(),b,(),0,()),((o.client,o.seq,o.kind,o.object,o.old,o.value,()),((),(),()),(false,0,()),((),(),()),(d,v,()),()),objs,l,())=
  some (((),(),(),(),b,(),((to l o.client:Nat):Int),()),((o.client,o.seq,o.kind,o.object,o.old,o.value,()),((),(),()),(false,0,()),((),(),()),(d,v,()),()),objs,l,()):=by
 have ml:l.length<=maxLen:=by unfold maxLen; omega
 have gE:=iB (B:=oa) l (fun k (_:Unit)=>(((),(),(),(),b,(),(k:Int),()),((o.client,o.seq,o.kind,o.object,o.old,o.value,()),((),(),()),(false,0,()),((),(),()),(d,v,()),()),objs,l,())) (fun _ _=>True)
  (fun k r _=>(((),(),(),(),b,(),((k+to r o.client:Nat):Int),()),((o.client,o.seq,o.kind,o.object,o.old,o.value,()),((),(),()),(false,0,()),((),(),()),(d,v,()),()),objs,l,()))
  (fun _ _=>by simp only[oa]; rw[ei,if_neg (by omega)]; rfl)
  (fun k _ x hx _=>by
    have hk:=i5 hx;have c1: (k:Int)< (l.length:Int):=by omega
    have c2: (0:Int)<=(k:Int)/\(k:Int)< (l.length:Int):=by omega
    simp only[oa,ei,ek,if_pos c1,if_pos c2,ap,hx,ae,ey ml hk];by_cases h:x.client<o.client
    ·rw[if_pos h];refine .inl ⟨(),rfl,trivial,?_⟩;rw[to,if_pos h,show k+(to (l.drop (k+1)) o.client+1)=k+1+to (l.drop (k+1)) o.client by omega]
    ·rw[if_neg h];refine .inr ?_;rw[to,if_neg h];rfl) 0 () (aI _) trivial
 simp only[aU,bJ] at gE;exact gE
theorem WB (b d:Bool) (v:Int) (o:Op) (objs:List Int) (l:List ew) (hl:l.length<=1000):wJ (((),(),(),(),b,(),0,()),((o.client,o.seq,o.kind,o.object,o.old,o.value,()),((),(),()),(false,0,()),((),(),()),(d,v,()),()),objs,l,())=
  some (((),(),(),(),b,(),((to l o.client:Nat):Int),()),((o.client,o.seq,o.kind,o.object,o.old,o.value,()),((),(),()),(false,0,()),((),(),()),(d,v,()),()),objs,l,()):=by
 rw[<-V2 b d v o objs l hl];rfl
def F3 (had:Bool) (l:List ew) (s:ew):List ew:=l.take (to l s.client)++s::l.drop (bif had then to l s.client+1 else to l s.client)
theorem Tx {o:Op} (h:iC o=some (true,())):0<=o.object/\o.object<=2:=by
 unfold iC at h;simp only[kg,ae] at h;cases h1:je o.client 0 2 with
 |false=>rw[h1] at h; cases h
 |true=>
  cases h2:je o.seq 1 99 with
  |false=>rw[h1,h2] at h; cases h
  |true=>
   cases h3:je o.object 0 2 with
   |false=>rw[h1,h2,h3] at h; cases h
   |true=>exact fK.1 h3
theorem V3 (m:eJ) (ho:m.objects.length<=1000) (hs:m.sessions.length<=1000):yb m=some (m,())/\o3 m=some (m,()):=by
 have h1: (([]:List Int)++m.objects).length*8<=2 ^ 40:=by rw[bo]; omega
 have h2: (([]:List ew)++m.sessions).length*32<=2 ^ 40:=by rw[bo]; omega
 constructor
 ·unfold yb;rw[fB h1,fB h2];rfl
 ·unfold o3 iP ri;rw[fB (by omega),fB (by omega)];rfl
def V4 (m:eJ) (o:Op) (m':eJ):Prop:=m'=m\/ ∃had s x d,mu m o.client=some (s,had,())/\x∈m.objects/\m'.sessions=F3 had m.sessions ⟨o.client,o.seq,⟨d,x⟩⟩/\(m'.objects=m.objects\/m'.objects=m.objects.set o.object.toNat o.value)
theorem T2 {A B:Option (eJ×Result×Bool×Unit)} {n k:Nat} (x:eJ) (r:Result) (b:Bool) (h1:A=some (x,r,b,())) (h2:B=some (x,r,b,())) (h3:x.sessions.length<=n) (h4:x.objects.length=k) {m:eJ} {o:Op} (h5:V4 m o x): ∃x r b,A=some (x,r,b,())/\B=some (x,r,b,())/\x.sessions.length<=n/\x.objects.length=k/\V4 m o x:=⟨x,r,b,h1,h2,h3,h4,h5⟩
theorem WC (l:List ew) (z:ew) (j:Nat) (hj:j<=l.length) (hl:l.length<=900):lq l (j:Int) [z] =some (l.take j++z::l.drop j,()):=by unfold lq Q8;simp only;rw[fB (by omega),fB (by omega),ap]
theorem Tz (l:List ew) (z:ew) (j:Nat) (hj:j<=l.length): (l.take j++z::l.drop j)[j]? =some z:=by rw[aN (by rw[bq]; omega),bq,show j-min j l.length=0 by omega];rfl
theorem TA (l:List ew) (z y:ew) (j:Nat) (hj:j<=l.length): (l.take j++z::l.drop j).set j y=l.take j++y::l.drop j:=by rw[dP _ _ (by rw[bq]; omega),bq,show j-min j l.length=0 by omega];rfl
theorem Od (l:List ew) (z:ew) (j:Nat) (hj:j<=l.length): (l.take j++z::l.drop j).length=l.length+1:=by simp only[aQ,bq,bk,bO];omega
theorem HT (l:List ew) (z:ew) (j k:Nat): (l.take j++ [z])++(l.drop k).take (l.length-k)=l.take j++z::l.drop k:=by rw[show (l.drop k).take (l.length-k)=l.drop k from bh (by simp),aR];rfl
theorem TB (l:List ew) (z:ew) (j:Nat) (hj:j<l.length):l.set j z=l.take j++z::l.drop (j+1):=by rw[List.set_eq_take_append_cons_drop,if_pos hj]
theorem JF (m:eJ) (o:Op) (ho:m.objects.length<=1000) (hs:m.sessions.length<=900): ∃m' r b,q8 m o=some (m',r,b,())/\rj m o=some (m',r,b,())/\m'.sessions.length<=m.sessions.length+1/\m'.objects.length=m.objects.length/\V4 m o m':=by
 obtain⟨b1,v1,v2,v3⟩:=JE m ho (by omega);obtain⟨b2,o1,o2⟩:=Ea o;obtain⟨s,had,s1,s2,s3⟩:=HS m o.client (by omega);obtain⟨w1,w2⟩:=V3 m ho (by omega);have hj:=Tv m.sessions o.client;unfold q8 rj;simp only[w1,w2,v1,v2,o1,o2,s1,s2,ae,fi];cases b1 with
 |false=>exact T2 m ⟨false,0⟩ false rfl rfl (by omega) rfl (.inl rfl)
 |true=>
 cases b2 with
 |false=>exact T2 m ⟨false,0⟩ false rfl rfl (by omega) rfl (.inl rfl)
 |true=>
 have l3:=v3 rfl;have ob:=Tx o1;have hlt:o.object.toNat<m.objects.length:=by omega
 have c1:0<=o.object:=ob.1;have c2:0<=o.object/\o.object< (m.objects.length:Int):=by omega
 have e1:=ah hlt;generalize m.objects[o.object.toNat] =x at e1;have hx0:=ao e1;have app: ∀ (m':eJ) (d:Bool),(m'.objects=m.objects\/m'.objects=m.objects.set o.object.toNat o.value)->m'.sessions=F3 had m.sessions ⟨o.client,o.seq,⟨d,x⟩⟩->V4 m o m':=fun m' d g1 g2=> .inr ⟨had,s,x,d,s1,hx0,g2,g1⟩;have len0: (m.objects.set o.object.toNat o.value).length=m.objects.length:=by simp
 simp only[en,gP,ei,ek,if_pos c1,if_pos c2,e1,ae,V2 _ _ _ o _ m.sessions (by omega),WB _ _ _ o _ m.sessions (by omega),ap,cQ,aU,cK,bJ,bo];have put: ∀d,F3 had m.sessions ⟨o.client,o.seq,⟨d,x⟩⟩=m.sessions.take (to m.sessions o.client)++(⟨o.client,o.seq,⟨d,x⟩⟩:ew)::m.sessions.drop (bif had then to m.sessions o.client+1 else to m.sessions o.client):=fun _=>rfl;generalize hP:to m.sessions o.client=j at*;generalize hL:m.sessions=l at*;have q1:0<=(j:Int)/\(j:Int)<=(l.length:Int)/\(l.length:Int)<=(l.length:Int):=by omega
 have q2:0<=(0:Int)/\0<=(j:Int)/\(j:Int)<=(l.length:Int):=by omega
 have q4: (l.take j).length*32<=2 ^ 40:=by rw[bq]; omega
 have q5: ∀z:ew,(l.take j++ [z]).length*32<=2 ^ 40:=fun z=>by rw[aQ,bq,bX]; omega
 cases had with
 |false=>
  have q:0<=(j:Int)/\(j:Int)< ((l.length+1:Nat):Int):=by omega
  have q6:j+(l.length-j)<=l.length:=by omega
  have q7: (l.length+1)*32<=2 ^ 40:=by omega
  simp only[eB,WC l _ j hj hs,ae,Tz l _ j hj,TA l _ _ j hj,Od l _ j hj,HT,if_pos q,if_pos q1,if_pos q2,if_pos hj,if_pos q4,if_pos (q5 _),if_pos q6,if_pos q7]
  by_cases hk:o.kind=1<;>by_cases hx:x=o.old<;>simp only[if_pos,hk,hx]<;>
   exact⟨_,_,_,rfl,rfl,by rw[Od l _ j hj]; exact ay _,by first |exact len0|rfl,app _ _ (by first |exact .inl rfl|exact .inr rfl) (by rw[put]; first |rfl| (rw[hx]; rfl))⟩
 |true=>
  have hj2:j<l.length:=by rw[<-hP];exact Tw (s3 rfl)
  have q:0<=(j:Int)/\(j:Int)< (l.length:Int):=by omega
  have qw:IntKind.wrap .i64 ((j:Int)+1)=((j+1:Nat):Int):=ey (n:=l.length) (by unfold maxLen; omega) hj2;have qa:0<=((j+1:Nat):Int)/\((j+1:Nat):Int)<=(l.length:Int)/\(l.length:Int)<=(l.length:Int):=by omega
  have q6:j+1+(l.length-(j+1))<=l.length:=by omega
  have hl1: ∀z:ew,(l.take j++z::l.drop (j+1)).length=l.length:=fun z=>by simp only[aQ,bq,bk,bO];omega
  have q7:l.length*32<=2 ^ 40:=by omega
  simp only[en,qw,ap,ae,HT,TB l _ j hj2,hl1,ah hj2,if_pos q,if_pos qa,if_pos q1,if_pos q2,if_pos hj,if_pos q4,if_pos (q5 _),if_pos q6,if_pos q7];by_cases h1:s.seq=o.seq
  ·have h2: ¬s.seq>o.seq:=by omega
   simp only[if_pos h1,if_neg h2];exact⟨m,_,_,rfl,rfl,by rw[hL]; omega,rfl, .inl rfl⟩
  ·simp only[if_neg h1];by_cases h2:s.seq>o.seq
   ·simp only[if_pos h2];exact⟨m,_,_,rfl,rfl,by rw[hL]; omega,rfl, .inl rfl⟩
   ·simp only[if_neg h2]
    by_cases hk:o.kind=1<;>by_cases hx:x=o.old<;>simp only[hk,hx,if_true,if_false]<;>
     exact⟨_,_,_,rfl,rfl,by rw[hl1]; omega,by first |exact len0|rfl,app _ _ (by first |exact .inl rfl|exact .inr rfl) (by rw[put]; first |rfl| (rw[hx]; rfl))⟩
theorem F4:sZ=some (⟨[0,0,0],[]⟩,())/\qx=some (⟨[0,0,0],[]⟩,()):=by refine⟨rfl,?_⟩;unfold qx;rw[fB (by decide)];rfl
def UZ (o:Op):Bool:=match iC o with |some (b,_)=>b|none=>false
theorem RH (o:Op):iC o=some (UZ o,()):=by obtain⟨b,h,_⟩:=Ea o;unfold UZ;rw[h]
def TC (l:List eu) (k:Nat):Bool:=match l[k]? with
 |some e=>je e.epoch 1 20&&(UZ e.op&&(decide (k=0)||match l[k-1]? with |some d=> !decide (d.epoch>e.epoch)|none=>false))
 |none=>false
theorem RI (l:List eu) (hl:l.length<=maxLen):iM l=some (true,())↔l.length<=16/\ ∀k,k<l.length->TC l k=true:=by
 have gE:=uE (B:=n9) l.length (fun k=>((l,(k:Int),()),(),())) (.inr ((l,(),()),(),())) (fun _=> .inl ((l,false,()),(),())) (fun k=> !TC l k)
  (by simp only[n9]; rw[ei,if_neg (by omega)])
  (fun k hk=>by
    have c1: (k:Int)< (l.length:Int):=by omega
    have c2: (0:Int)<=(k:Int):=by omega
    simp only[n9,ei,ek,if_pos c1,if_pos c2,ap,ah hk,ae,RH,kg,ey hl hk,fi,TC];cases je l[k].epoch 1 20 with
    |false=>rfl
    |true=>
     cases UZ l[k].op with
     |false=>rfl
     |true=>
      by_cases h0:0<k
      ·have c3: (k:Int)>0:=by omega
       have c4: (0:Int)<=((k-1:Nat):Int):=by omega
       have c5: ¬k=0:=by omega
       have e2:l[k-1]? =some l[k-1] :=ah (by omega);simp only[en,if_pos c3,kH h0 (by omega),if_pos c4,ap,e2,ae,decide_eq_false c5,ef,cN,Bool.not_not];by_cases hlt:l[k-1].epoch>l[k].epoch
       ·rw[if_pos hlt,decide_eq_true hlt];rfl
       ·rw[if_neg hlt,decide_eq_false hlt];rfl
      ·have c3: ¬ (k:Int)>0:=by omega
       have c5:k=0:=by omega
       simp only[en,if_neg c3,decide_eq_true c5];rfl)
 unfold iM;rcases gE with ⟨k1,k2⟩| ⟨k,h0,k1,k2,_⟩
 ·rw[show vN ((l,0,()),(),())=_ from k1];simp only[ae,cn,af,an,and_true,decide_eq_true_eq];constructor
  ·intro h;exact⟨by omega,fun k hk=>by simpa using k2 k hk⟩
  ·intro h;omega
 ·rw[show vN ((l,0,()),(),())=_ from k1];simp only[ae,b7,af,an,and_true];constructor
  ·intro h;cases h
  ·rintro⟨_,h⟩
   have:=h k h0;rw[this] at k2;cases k2
theorem RJ {l:List eu} (hl:l.length<=maxLen) (h:iM l=some (true,())) (k:Nat) (hk:k<l.length):UZ l[k].op=true:=by have:=((RI l hl).1 h).2 k hk;unfold TC at this;rw[ah hk] at this;simp only[aq] at this;exact this.2.1
structure VM (m:eJ):Prop where
 vlen:m.objects.length=3
 vobj: ∀v∈m.objects,je v 0 9=true
 vses: ∀x∈m.sessions,je x.client 0 2=true/\je x.seq 1 99=true/\je x.result.value 0 9=true
 vasc:m.sessions.Pairwise fun x y=>x.client<y.client
theorem Nq {m:eJ} {c:Int} {s:ew} {b:Bool} (hs:m.sessions.length<=1000) (h:mu m c=some (s,b,())) (hb:b=false): ∀x∈m.sessions,x.client≠c:=by
 have ms:m.sessions.length<=maxLen:=by unfold maxLen; omega
 have gE:=uE (B:=js) m.sessions.length (fun k=>((c,(),(),(k:Int),()),((m.objects,m.sessions,()),(0,0,false,0,()),()),())) (.inr (((),(),()),((0,0,false,0,()),()),()))
  (fun k=>match m.sessions[k]? with |some x=> .inl (((),true,()),((x.client,x.seq,x.result.done,x.result.value,()),()),())|none=> .inr (((),(),()),((0,0,false,0,()),()),())) (fun k=>match m.sessions[k]? with |some x=>x.client==c|none=>false)
  (by simp only[js]; rw[ei,if_neg (by omega)])
  (fun k hk=>by
    have c1: (k:Int)< (m.sessions.length:Int):=by omega
    have c2: (0:Int)<=(k:Int):=by omega
    simp only[js,ei,ek,if_pos c1,if_pos c2,ap,ah hk,ae,ey ms hk];cases (m.sessions[k].client==c)<;>rfl)
 unfold mu at h;rcases gE with ⟨_,k2⟩| ⟨k,hk,k1,_,_⟩
 ·intro x hx e;obtain⟨k,hk,rfl⟩:=aJ hx
  have h3: (m.sessions[k].client==c)=false:=by
   have:=k2 k hk
   rwa [ah hk] at this
  rw[e] at h3;simp at h3
 ·rw[ah hk] at k1;rw[show rx ((c,(),(),0,()),((m.objects,m.sessions,()),(0,0,false,0,()),()),())=_ from k1] at h;simp only[ae,b7,af,an] at h;rw[<-h.2.1] at hb;cases hb
theorem LK {had:Bool} {l:List ew} {s y:ew} (h:y∈F3 had l s):y=s\/y∈l:=by
 unfold F3 at h;rcases bc.1 h with h|h
 ·exact .inr (b8 h)
 ·rcases aW.1 h with h|h
  ·exact .inl h
  ·exact .inr (bG h)
theorem LL (had:Bool) (s:ew): ∀l:List ew,l.Pairwise (fun x y=>x.client<y.client)->(had=true-> ∃x∈l,x.client=s.client)->(had=false-> ∀x∈l,x.client≠s.client)->(F3 had l s).Pairwise fun x y=>x.client<y.client
 | [],_,h1,_=>by
   cases had with
   |true=>obtain⟨x,hx,_⟩:=h1 rfl; cases hx
   |false=>exact dk _ _
 |x::l,h,h1,h2=>by
  obtain⟨hx,hl⟩:=cd.1 h;by_cases hc:x.client<s.client
  ·have e:F3 had (x::l) s=x::F3 had l s:=by
    unfold F3;rw[RF hc];cases had<;>rfl
   rw[e];refine cd.2 ⟨fun y hy=> ?_,LL had s l hl (fun hh=> ?_) (fun hh y hy=>h2 hh y (aF _ hy))⟩
   ·rcases LK hy with rfl|hy
    ·exact hc
    ·exact hx y hy
   ·obtain⟨y,hy,e⟩:=h1 hh;rcases aW.1 hy with rfl|hy
    ·omega
    ·exact⟨y,hy,e⟩
  ·have e:F3 had (x::l) s=s:: (x::l).drop (bif had then 1 else 0):=by
    unfold F3;rw[RG hc];cases had<;>rfl
   rw[e];cases had with
   |true=>
    refine cd.2 ⟨fun y hy=> ?_,hl⟩;have:=hx y hy;obtain⟨z,hz,e⟩:=h1 rfl;rcases aW.1 hz with rfl|hz
    ·omega
    ·have:=hx z hz;omega
   |false=>
    refine cd.2 ⟨fun y hy=> ?_,h⟩;have h0:=h2 rfl;rcases aW.1 hy with rfl|hy
    ·have:=h0 y aG;omega
    ·have:=hx y hy;have:=h0 x aG;omega
theorem U0 {o:Op} (h:UZ o=true):je o.client 0 2=true/\je o.seq 1 99=true/\je o.value 0 9=true:=by
 have h0:iC o=some (true,()):=by rw[RH,h]
 unfold iC at h0;simp only[kg,ae] at h0;cases h1:je o.client 0 2 with
 |false=>rw[h1] at h0; cases h0
 |true=>
  cases h2:je o.seq 1 99 with
  |false=>rw[h1,h2] at h0; cases h0
  |true=>
   cases h3:je o.object 0 2 with
   |false=>rw[h1,h2,h3] at h0; cases h0
   |true=>
    cases h4:je o.value 0 9 with
    |false=>rw[h1,h2,h3,h4] at h0; cases h0
    |true=>exact⟨rfl,rfl,rfl⟩
theorem VM.app {m m':eJ} {o:Op} (h:VM m) (hs:m.sessions.length<=900) (ho:UZ o=true) (ha:V4 m o m'):VM m':=by
 rcases ha with rfl| ⟨had,s,x,d,h1,h2,h3,h4⟩
 ·exact h
 ·obtain⟨w1,w2,w3⟩:=U0 ho;obtain⟨s',b',t1,_,t3⟩:=HS m o.client (by omega);rw[h1] at t1
  have hb:had=b':=by have:=Option.some.inj t1;simp only[an] at this;exact this.2.1
  refine⟨?_,fun v hv=> ?_,fun y hy=> ?_,?_⟩
  ·rcases h4 with e|e
   ·rw[e]; exact h.vlen
   ·rw[e,cZ]; exact h.vlen
  ·rcases h4 with e|e
   ·rw[e] at hv; exact h.vobj v hv
   ·rw[e] at hv;rcases cx hv with hv|rfl
    ·exact h.vobj v hv
    ·exact w3
  ·rw[h3] at hy;rcases LK hy with rfl|hy
   ·exact⟨w1,w2,h.vobj x h2⟩
   ·exact h.vses y hy
  ·rw[h3];exact LL had _ _ h.vasc (fun hh=>t3 (hb ▸ hh)) (fun hh=>Nq (by omega) h1 hh)
theorem HU (l:List eu) (hl:l.length<=maxLen): ∃m b,pI l=some (m,b,())/\pM l=some (m,b,())/\m.objects.length<=3/\m.sessions.length<=16/\(iM l=some (true,())->b=true/\VM m):=by
 unfold pI pM;simp only[F4.1,F4.2,ae,fi];rcases uF l hl with ⟨g1,g2,g3⟩| ⟨g1,g2⟩
 ·simp only[g1,g2,ae,en]
  obtain⟨m,⟨h1,h2,h5⟩,h3,h4⟩:=pc (B1:=nc) (B2:=ns) l.length (fun k (m:eJ)=>((l,(),(),(k:Int),()),(((),(),()),((),(),()),()),m.objects,m.sessions,())) (fun k m=>(((),(),l,(l.length:Int),(k:Int),()),(((),(),()),((),(),()),()),m.objects,m.sessions,())) (fun k m=>m.objects.length<=3/\m.sessions.length<=k/\VM m)
   (fun m=>(((),(),()),(((),(),()),((),(),()),()),m.objects,m.sessions,())) (fun m=>(((),(),()),(((),(),()),((),(),()),()),m.objects,m.sessions,()))
   (fun m _=>by simp only[nc,ns,ei];exact⟨if_neg (by omega),if_neg (by omega)⟩)
   (fun k m hk hm=>by
     have c1: (k:Int)< (l.length:Int):=by omega
     have c2: (0:Int)<=(k:Int):=by omega
     obtain⟨m',r,b,a1,a2,a3,a4,a5⟩:=JF ⟨m.objects,m.sessions⟩ l[k].op (by show m.objects.length<=1000; omega) (by show m.sessions.length<=900; omega);refine⟨m',?_⟩;simp only[nc,ns,ei,ek,if_pos c1,if_pos c2,ap,ah hk,ae,a1,a2,ey hl hk];exact⟨trivial,trivial,by rw[a4]; exact hm.1,bF a3 (Nat.succ_le_succ hm.2.1),VM.app hm.2.2 (by omega) (RJ hl g1 k hk) a5⟩)
   (⟨[0,0,0],[]⟩:eJ) ⟨by decide,by decide,⟨rfl,fun v hv=>(by simp at hv; subst hv; rfl),fun x hx=>(nomatch hx),List.Pairwise.nil⟩⟩
  rw[show zY ((l,(),(),0,()),(((),(),()),((),(),()),()),[0,0,0],[],())=_ from h3,show Ab (((),(),l,(l.length:Int),0,()),(((),(),()),((),(),()),()),[0,0,0],[],())=_ from h4];exact⟨m,true,rfl,rfl,h1,by omega,fun _=>⟨rfl,h5⟩⟩
 ·simp only[g1,g2,ae,eB];exact⟨_,_,rfl,rfl,by decide,by decide,fun h=>by cases h⟩
theorem LM (l:List eu) (i:Int) (hl:l.length<=maxLen): ∃r b,pk l i=some (r,b,())/\pq l i=some (r,b,())/\(b=true->0<=i/\i< (l.length:Int)):=by
 unfold pk pq;have hw:IntKind.wrap .i64 ((l.length:Int)-1)=(l.length:Int)-1:=by unfold maxLen at hl; rw[fP (by omega) (by omega)]
 rcases uF l hl with ⟨g1,g2,g3⟩| ⟨g1,g2⟩
 ·simp only[g1,g2,ae,kg,mG,hw,fi];cases hc:je i 0 ((l.length:Int)-1) with
  |false=>exact⟨_,_,rfl,rfl,fun h=>by cases h⟩
  |true=>
   have hi:=fK.1 hc;have c1:0<=(0:Int)/\(0:Int)<=i/\i<=(l.length:Int):=by omega
   have c2: (0:Int)<=i:=hi.1;have hlt:i.toNat<l.length:=by omega
   obtain⟨m,b,m1,m2,m3,m4,_⟩:=HU ((l.drop (0:Int).toNat).take (i.toNat-(0:Int).toNat)) (by rw[bq,bO]; omega);obtain⟨m',r,b',a1,a2,_,_,_⟩:=JF m l[i.toNat].op (by omega) (by omega);simp only[en,ek,if_pos c1,if_pos c2,m1,m2,ae,ah hlt,a1,a2];exact⟨_,_,rfl,rfl,fun _=>⟨c2,by omega⟩⟩
 ·simp only[g1,g2,ae,bT,en];exact⟨_,_,rfl,rfl,fun h=>by cases h⟩
theorem V5 (l:List eu) (c q:Int) (hl:l.length<=maxLen): ∃n,v4 l c q=some (n,())/\wd l c q=some (n,())/\(n= -1\/0<=n/\n< (l.length:Int)):=by
 have gE:=jS (B1:=qZ) (B2:=fF) l.length (fun k=>((l,c,q,(k:Int),()),(),())) (fun k=>((l,(c,q,()),(l.length:Int),(k:Int),()),(),())) (.inr (((),()),(),())) (.inr (((),()),(),())) (fun k=> .inl (((k:Int),()),(),())) (fun k=> .inl (((k:Int),()),(),()))
  (fun _=>True) (fun _=>True)
  (by simp only[qZ]; rw[ei,if_neg (by omega)])
  (by simp only[fF]; rw[ei,if_neg (by omega)])
  (fun k hk=>by
    have c1: (k:Int)< (l.length:Int):=by omega
    have c2: (0:Int)<=(k:Int):=by omega
    simp only[qZ,fF,u3,ei,gP,ek,if_pos c1,if_pos c2,ap,ah hk,ae,ey hl hk];by_cases h:l[k].op.client=c
    ·simp only[if_pos h,ae,gP];by_cases h':l[k].op.seq=q
     ·simp only[if_pos h'];exact .inr ⟨trivial,trivial,trivial⟩
     ·simp only[if_neg h'];exact .inl ⟨trivial,trivial,trivial⟩
    ·simp only[if_neg h,ae,eB];exact .inl ⟨trivial,trivial,trivial⟩)
 unfold v4 wd ip;rcases gE with ⟨k1,k2,_⟩| ⟨k,hk,k1,k2,_⟩
 ·rw[show AM ((l,c,q,0,()),(),())=_ from k1,show ja ((l,(c,q,()),(l.length:Int),0,()),(),())=_ from k2];exact⟨-1,rfl,rfl, .inl rfl⟩
 ·rw[show AM ((l,c,q,0,()),(),())=_ from k1,show ja ((l,(c,q,()),(l.length:Int),0,()),(),())=_ from k2];exact⟨(k:Int),rfl,rfl, .inr ⟨by omega,by omega⟩⟩
end Go.Proofs.YtjnleglhcppgcaaGreat.En
