/- Machines: spec and impl tell the same. -/
import Derived.Test.YtpagmogboinlpaaZPV4
namespace Go.Proofs.Ytpagmogboinlpaa.En
open Go
theorem nr (m:dx) (ho:m.objects.length<=1000) (hs:m.sessions.length<=1000): ∃b,ej m=some (b,())/\eL m=some (b,())/\(b=true->m.objects.length=3):=by
 have mo:m.objects.length<=maxLen:=by unfold maxLen; omega
 have ms:m.sessions.length<=maxLen:=by unfold maxLen; omega
 have k1:=lM (B1:=dW) (B2:=dB) m.objects.length (fun k=>(((),(k:Int),()),((m.objects,m.sessions,()),()),())) (fun k=>((m.objects,(),(m.objects.length:Int),(k:Int),()),(),())) (.inr (((),(),()),((m.objects,m.sessions,()),()),())) (.inr (((),()),(),())) (fun _=> .inl (((),false,()),((m.objects,m.sessions,()),()),())) (fun k=> .inl (((k:Int),()),(),()))
  (fun _=>True) (fun _=>True)
  (by simp only[dW]; rw[dL,if_neg (by omega)])
  (by simp only[dB]; rw[dL,if_neg (by omega)])
  (fun k hk=>by
    have c1: (k:Int)< (m.objects.length:Int):=by omega
    have c2: (0:Int)<=(k:Int):=by omega
    simp only[dW,dB,dL,eo,if_pos c1,if_pos c2,aQ,af hk,ai,fk,oK,v4,eg mo hk];cases jT m.objects[k] 0 9 with
    |false=>exact .inr ⟨rfl,rfl,trivial⟩
    |true=>exact .inl ⟨rfl,rfl,trivial⟩)
 have k2:=lM (B1:=dX) (B2:=eA) m.sessions.length (fun k=>(((),(k:Int),()),((m.objects,m.sessions,()),()),())) (fun k=>(((),m.sessions,(m.sessions.length:Int),(k:Int),()),((m.objects,m.sessions,()),()),())) (.inr (((),(),()),((m.objects,m.sessions,()),()),())) (.inr (((),()),(),())) (fun _=> .inl (((),false,()),((m.objects,m.sessions,()),()),())) (fun _=> .inl ((false,()),(),()))
  (fun _=>True) (fun _=>True)
  (by simp only[dX]; rw[dL,if_neg (by omega)])
  (by simp only[eA]; rw[dL,if_neg (by omega)])
  (fun k hk=>by
    have c1: (k:Int)< (m.sessions.length:Int):=by omega
    have c2: (0:Int)<=(k:Int):=by omega
    simp only[dX,eA,dL,eo,if_pos c1,if_pos c2,aQ,af hk,ai,oK,v4,eg ms hk];by_cases h0:0<k
    ·have c3: (k:Int)>0:=by omega
     have c4: (0:Int)<=((k-1:Nat):Int):=by omega
     have e1:m.sessions[k-1]? =some (m.sessions[k-1]'(by omega)):=af (by omega);simp only[if_pos c3,lN h0 (by unfold maxLen at ms ⊢; omega),if_pos c4,aQ,e1,ai];by_cases h: (m.sessions[k-1]'(by omega)).client≥m.sessions[k].client
     ·simp only[if_pos h];cases jT m.sessions[k].client 0 2<;>cases jT m.sessions[k].seq 1 99<;>cases jT m.sessions[k].result.value 0 9<;>exact .inr ⟨rfl,rfl,trivial⟩
     ·simp only[if_neg h];cases jT m.sessions[k].client 0 2<;>cases jT m.sessions[k].seq 1 99<;>cases jT m.sessions[k].result.value 0 9<;>first |exact .inr ⟨rfl,rfl,trivial⟩|exact .inl ⟨rfl,rfl,trivial⟩
    ·have c3: ¬ (k:Int)>0:=by omega
     simp only[if_neg c3];cases jT m.sessions[k].client 0 2<;>cases jT m.sessions[k].seq 1 99<;>cases jT m.sessions[k].result.value 0 9<;>first |exact .inr ⟨rfl,rfl,trivial⟩|exact .inl ⟨rfl,rfl,trivial⟩)
 unfold ej eL dK dQ;rcases k1 with ⟨g1,g2,_⟩| ⟨k,_,g1,g2,_⟩
 ·rw[show fD (((),0,()),((m.objects,m.sessions,()),()),())=_ from g1,show ed ((m.objects,(),(m.objects.length:Int),0,()),(),())=_ from g2];rcases k2 with ⟨h1,h2,_⟩| ⟨k',_,h1,h2,_⟩
  ·simp only[ai,cI,show fE (((),0,()),((m.objects,m.sessions,()),()),())=_ from h1,show gE (((),m.sessions,(m.sessions.length:Int),0,()),((m.objects,m.sessions,()),()),())=_ from h2];by_cases h3: (m.objects.length:Int)=3
   ·rw[h3];exact⟨true,rfl,rfl,fun _=>by omega⟩
   ·rw[beq_eq_false_iff_ne.2 h3];exact⟨false,rfl,rfl,fun h=>by cases h⟩
  ·simp only[ai,cI,show fE (((),0,()),((m.objects,m.sessions,()),()),())=_ from h1,show gE (((),m.sessions,(m.sessions.length:Int),0,()),((m.objects,m.sessions,()),()),())=_ from h2];cases ((m.objects.length:Int)==3)<;>exact⟨false,rfl,rfl,fun h=>by cases h⟩
 ·rw[show fD (((),0,()),((m.objects,m.sessions,()),()),())=_ from g1,show ed ((m.objects,(),(m.objects.length:Int),0,()),(),())=_ from g2];simp only[ai,Sum.elim_inl];rw[decide_eq_true (by omega)];cases ((m.objects.length:Int)==3)<;>exact⟨false,rfl,rfl,fun h=>by cases h⟩
theorem ru (m:dx) (c:Int) (hs:m.sessions.length<=1000): ∃s b,fA m c=some (s,b,())/\iA m c=some (s,b,())/\(b=true-> ∃x∈m.sessions,x.client=c):=by
 have ms:m.sessions.length<=maxLen:=by unfold maxLen; omega
 have eD:=lM (B1:=eC) (B2:=fI) m.sessions.length (fun k=>((c,(),(),(k:Int),()),((m.objects,m.sessions,()),(0,0,false,0,()),()),())) (fun k=>((c,(),m.sessions,(m.sessions.length:Int),(k:Int),()),((0,0,false,0,()),()),())) (.inr (((),(),()),((0,0,false,0,()),()),())) (.inr (((),(),()),((0,0,false,0,()),()),()))
  (fun k=>match m.sessions[k]? with |some x=> .inl (((),true,()),((x.client,x.seq,x.result.done,x.result.value,()),()),())|none=> .inr (((),(),()),((0,0,false,0,()),()),())) (fun k=>match m.sessions[k]? with |some x=> .inl (((),true,()),((x.client,x.seq,x.result.done,x.result.value,()),()),())|none=> .inr (((),(),()),((0,0,false,0,()),()),()))
  (fun _=>True) (fun k=> ∃h:k<m.sessions.length,m.sessions[k].client=c)
  (by simp only[eC]; rw[dL,if_neg (by omega)])
  (by simp only[fI]; rw[dL,if_neg (by omega)])
  (fun k hk=>by
    have c1: (k:Int)< (m.sessions.length:Int):=by omega
    have c2: (0:Int)<=(k:Int):=by omega
    simp only[eC,fI,dL,s6,eo,if_pos c1,if_pos c2,aQ,af hk,ai,eg ms hk];by_cases h:m.sessions[k].client=c
    ·simp only[if_pos h];exact .inr ⟨trivial,trivial,hk,h⟩
    ·simp only[if_neg h];exact .inl ⟨trivial,trivial,trivial⟩)
 unfold fA iA;rcases eD with ⟨k1,k2,_⟩| ⟨k,hk,k1,k2,_,h⟩
 ·rw[show ir ((c,(),(),0,()),((m.objects,m.sessions,()),(0,0,false,0,()),()),())=_ from k1,show jR ((c,(),m.sessions,(m.sessions.length:Int),0,()),((0,0,false,0,()),()),())=_ from k2];exact⟨_,false,rfl,rfl,fun h=>by cases h⟩
 ·rw[af hk] at k1 k2;rw[show ir ((c,(),(),0,()),((m.objects,m.sessions,()),(0,0,false,0,()),()),())=_ from k1,show jR ((c,(),m.sessions,(m.sessions.length:Int),0,()),((0,0,false,0,()),()),())=_ from k2];exact⟨_,true,rfl,rfl,fun _=>⟨_,cw hk,h⟩⟩
def iW:List dp->Int->Nat
 | [],_=>0
 |x::l,c=>if x.client<c then iW l c+1 else 0
theorem zX {x:dp} {l:List dp} {c:Int} (h:x.client<c):iW (x::l) c=iW l c+1:=by rw[iW,if_pos h]
theorem zY {x:dp} {l:List dp} {c:Int} (h: ¬x.client<c):iW (x::l) c=0:=by rw[iW,if_neg h]
theorem Bm (l:List dp) (c:Int):iW l c<=l.length:=by
 induction l with
 |nil=>exact au _
 |cons x l ih=>
  unfold iW;split
  ·simp only[aY]; omega
  ·exact bG _
theorem Bn {l:List dp} {c:Int} (h: ∃x∈l,x.client=c):iW l c<l.length:=by
 induction l with
 |nil=>obtain⟨x,hx,_⟩:=h; cases hx
 |cons y l ih=>
  unfold iW;split
  ·rename_i hy;obtain⟨x,hx,hc⟩:=h;rcases aV.1 hx with rfl|hx
   ·omega
   ·have:=ih ⟨x,hx,hc⟩;simp only[aY]; omega
  ·simp
theorem Dl (b d:Bool) (v:Int) (o:Op) (objs:List Int) (l:List dp) (hl:l.length<=1000):kD (((),(),(),(),b,(),0,()),((o.client,o.seq,o.kind,o.object,o.old,o.value,()),((),(),()),(false,0,()),((),(),()),(d,v,()),()),objs,l,())=
  some (((),(),(),(),b,(),((iW l o.client:Nat):Int),()),((o.client,o.seq,o.kind,o.object,o.old,o.value,()),((),(),()),(false,0,()),((),(),()),(d,v,()),()),objs,l,()):=by
 have ml:l.length<=maxLen:=by unfold maxLen; omega
 have eD:=pY (B:=gf) l (fun k (_:Unit)=>(((),(),(),(),b,(),(k:Int),()),((o.client,o.seq,o.kind,o.object,o.old,o.value,()),((),(),()),(false,0,()),((),(),()),(d,v,()),()),objs,l,())) (fun _ _=>True)
  (fun k r _=>(((),(),(),(),b,(),((k+iW r o.client:Nat):Int),()),((o.client,o.seq,o.kind,o.object,o.old,o.value,()),((),(),()),(false,0,()),((),(),()),(d,v,()),()),objs,l,()))
  (fun _ _=>by simp only[gf]; rw[dL,if_neg (by omega)]; rfl)
  (fun k _ x hx _=>by
    have hk:=vR hx;have c1: (k:Int)< (l.length:Int):=by omega
    have c2: (0:Int)<=(k:Int)/\(k:Int)< (l.length:Int):=by omega
    simp only[gf,dL,eo,if_pos c1,if_pos c2,aQ,hx,ai,eg ml hk];by_cases h:x.client<o.client
    ·rw[if_pos h];refine .inl ⟨(),rfl,trivial,?_⟩;rw[iW,if_pos h,show k+(iW (l.drop (k+1)) o.client+1)=k+1+iW (l.drop (k+1)) o.client by omega]
    ·rw[if_neg h];refine .inr ?_;rw[iW,if_neg h];rfl) 0 () (bG _) trivial
 simp only[aN,bQ] at eD;exact eD
theorem DP (b d:Bool) (v:Int) (o:Op) (objs:List Int) (l:List dp) (hl:l.length<=1000):kI (((),(),(),(),b,(),0,()),((o.client,o.seq,o.kind,o.object,o.old,o.value,()),((),(),()),(false,0,()),((),(),()),(d,v,()),()),objs,l,())=
  some (((),(),(),(),b,(),((iW l o.client:Nat):Int),()),((o.client,o.seq,o.kind,o.object,o.old,o.value,()),((),(),()),(false,0,()),((),(),()),(d,v,()),()),objs,l,()):=by
 rw[<-Dl b d v o objs l hl];rfl
def p9 (had:Bool) (l:List dp) (s:dp):List dp:=l.take (iW l s.client)++s::l.drop (bif had then iW l s.client+1 else iW l s.client)
theorem Bo {o:Op} (h:eu o=some (true,())):0<=o.object/\o.object<=2:=by
 unfold eu at h;simp only[oK,ai] at h;cases h1:jT o.client 0 2 with
 |false=>rw[h1] at h; cases h
 |true=>
  cases h2:jT o.seq 1 99 with
  |false=>rw[h1,h2] at h; cases h
  |true=>
   cases h3:jT o.object 0 2 with
   |false=>rw[h1,h2,h3] at h; cases h
   |true=>exact oX.1 h3
theorem Dm (m:dx) (ho:m.objects.length<=1000) (hs:m.sessions.length<=1000):lh m=some (m,())/\gt m=some (m,()):=by
 have h1: (([]:List Int)++m.objects).length*8<=2 ^ 40:=by rw[bB]; omega
 have h2: (([]:List dp)++m.sessions).length*32<=2 ^ 40:=by rw[bB]; omega
 constructor
 ·unfold lh;rw[fF h1,fF h2];rfl
 ·unfold gt kF im;rw[fF (by omega),fF (by omega)];rfl
def Dn (m:dx) (o:Op) (m':dx):Prop:=m'=m\/ ∃had s x d,fA m o.client=some (s,had,())/\x∈m.objects/\m'.sessions=p9 had m.sessions ⟨o.client,o.seq,⟨d,x⟩⟩/\(m'.objects=m.objects\/m'.objects=m.objects.set o.object.toNat o.value)
theorem BQ {A B:Option (dx×Result×Bool×Unit)} {n k:Nat} (x:dx) (r:Result) (b:Bool) (h1:A=some (x,r,b,())) (h2:B=some (x,r,b,())) (h3:x.sessions.length<=n) (h4:x.objects.length=k) {m:dx} {o:Op} (h5:Dn m o x): ∃x r b,A=some (x,r,b,())/\B=some (x,r,b,())/\x.sessions.length<=n/\x.objects.length=k/\Dn m o x:=⟨x,r,b,h1,h2,h3,h4,h5⟩
theorem DQ (l:List dp) (z:dp) (j:Nat) (hj:j<=l.length) (hl:l.length<=900):eZ l (j:Int) [z] =some (l.take j++z::l.drop j,()):=by unfold eZ zL;simp only;rw[fF (by omega),fF (by omega),aQ]
theorem Bp (l:List dp) (z:dp) (j:Nat) (hj:j<=l.length): (l.take j++z::l.drop j)[j]? =some z:=by rw[aH (by rw[aW]; omega),aW,show j-min j l.length=0 by omega];rfl
theorem Bq (l:List dp) (z y:dp) (j:Nat) (hj:j<=l.length): (l.take j++z::l.drop j).set j y=l.take j++y::l.drop j:=by rw[c8 _ _ (by rw[aW]; omega),aW,show j-min j l.length=0 by omega];rfl
theorem wQ (l:List dp) (z:dp) (j:Nat) (hj:j<=l.length): (l.take j++z::l.drop j).length=l.length+1:=by simp only[aP,aW,aY,bu];omega
theorem rv (l:List dp) (z:dp) (j k:Nat): (l.take j++ [z])++(l.drop k).take (l.length-k)=l.take j++z::l.drop k:=by rw[show (l.drop k).take (l.length-k)=l.drop k from bN (by simp),aK];rfl
theorem Br (l:List dp) (z:dp) (j:Nat) (hj:j<l.length):l.set j z=l.take j++z::l.drop (j+1):=by rw[List.set_eq_take_append_cons_drop,if_pos hj]
theorem wR (m:dx) (o:Op) (ho:m.objects.length<=1000) (hs:m.sessions.length<=900): ∃m' r b,iY m o=some (m',r,b,())/\i4 m o=some (m',r,b,())/\m'.sessions.length<=m.sessions.length+1/\m'.objects.length=m.objects.length/\Dn m o m':=by
 obtain⟨b1,v1,v2,v3⟩:=nr m ho (by omega);obtain⟨b2,o1,o2⟩:=s7 o;obtain⟨s,had,s1,s2,s3⟩:=ru m o.client (by omega);obtain⟨w1,w2⟩:=Dm m ho (by omega);have hj:=Bm m.sessions o.client;unfold iY i4;simp only[w1,w2,v1,v2,o1,o2,s1,s2,ai,js];cases b1 with
 |false=>exact BQ m ⟨false,0⟩ false rfl rfl (by omega) rfl (.inl rfl)
 |true=>
 cases b2 with
 |false=>exact BQ m ⟨false,0⟩ false rfl rfl (by omega) rfl (.inl rfl)
 |true=>
 have l3:=v3 rfl;have ob:=Bo o1;have hlt:o.object.toNat<m.objects.length:=by omega
 have c1:0<=o.object:=ob.1;have c2:0<=o.object/\o.object< (m.objects.length:Int):=by omega
 have e1:=af hlt;generalize m.objects[o.object.toNat] =x at e1;have hx0:=ap e1;have app: ∀ (m':dx) (d:Bool),(m'.objects=m.objects\/m'.objects=m.objects.set o.object.toNat o.value)->m'.sessions=p9 had m.sessions ⟨o.client,o.seq,⟨d,x⟩⟩->Dn m o m':=fun m' d g1 g2=> .inr ⟨had,s,x,d,s1,hx0,g2,g1⟩;have len0: (m.objects.set o.object.toNat o.value).length=m.objects.length:=by simp
 simp only[eS,s6,dL,eo,if_pos c1,if_pos c2,e1,ai,Dl _ _ _ o _ m.sessions (by omega),DP _ _ _ o _ m.sessions (by omega),aQ,Int.toNat_zero,aN,Nat.sub_zero,bQ,bB];have put: ∀d,p9 had m.sessions ⟨o.client,o.seq,⟨d,x⟩⟩=m.sessions.take (iW m.sessions o.client)++(⟨o.client,o.seq,⟨d,x⟩⟩:dp)::m.sessions.drop (bif had then iW m.sessions o.client+1 else iW m.sessions o.client):=fun _=>rfl;generalize hP:iW m.sessions o.client=j at*;generalize hL:m.sessions=l at*;have q1:0<=(j:Int)/\(j:Int)<=(l.length:Int)/\(l.length:Int)<=(l.length:Int):=by omega
 have q2:0<=(0:Int)/\0<=(j:Int)/\(j:Int)<=(l.length:Int):=by omega
 have q4: (l.take j).length*32<=2 ^ 40:=by rw[aW]; omega
 have q5: ∀z:dp,(l.take j++ [z]).length*32<=2 ^ 40:=fun z=>by rw[aP,aW,cH]; omega
 cases had with
 |false=>
  have q:0<=(j:Int)/\(j:Int)< ((l.length+1:Nat):Int):=by omega
  have q6:j+(l.length-j)<=l.length:=by omega
  have q7: (l.length+1)*32<=2 ^ 40:=by omega
  simp only[eR,DQ l _ j hj hs,ai,Bp l _ j hj,Bq l _ _ j hj,wQ l _ j hj,rv,if_pos q,if_pos q1,if_pos q2,if_pos hj,if_pos q4,if_pos (q5 _),if_pos q6,if_pos q7]
  by_cases hk:o.kind=1<;>by_cases hx:x=o.old<;>simp only[if_pos,hk,hx]<;>
   exact⟨_,_,_,rfl,rfl,by rw[wQ l _ j hj]; exact au _,by first |exact len0|rfl,app _ _ (by first |exact .inl rfl|exact .inr rfl) (by rw[put]; first |rfl| (rw[hx]; rfl))⟩
 |true=>
  have hj2:j<l.length:=by rw[<-hP];exact Bn (s3 rfl)
  have q:0<=(j:Int)/\(j:Int)< (l.length:Int):=by omega
  have qw:IntKind.wrap .i64 ((j:Int)+1)=((j+1:Nat):Int):=eg (n:=l.length) (by unfold maxLen; omega) hj2;have qa:0<=((j+1:Nat):Int)/\((j+1:Nat):Int)<=(l.length:Int)/\(l.length:Int)<=(l.length:Int):=by omega
  have q6:j+1+(l.length-(j+1))<=l.length:=by omega
  have hl1: ∀z:dp,(l.take j++z::l.drop (j+1)).length=l.length:=fun z=>by simp only[aP,aW,aY,bu];omega
  have q7:l.length*32<=2 ^ 40:=by omega
  simp only[eS,qw,aQ,ai,rv,Br l _ j hj2,hl1,af hj2,if_pos q,if_pos qa,if_pos q1,if_pos q2,if_pos hj,if_pos q4,if_pos (q5 _),if_pos q6,if_pos q7];by_cases h1:s.seq=o.seq
  ·have h2: ¬s.seq>o.seq:=by omega
   simp only[if_pos h1,if_neg h2];exact⟨m,_,_,rfl,rfl,by rw[hL]; omega,rfl, .inl rfl⟩
  ·simp only[if_neg h1];by_cases h2:s.seq>o.seq
   ·simp only[if_pos h2];exact⟨m,_,_,rfl,rfl,by rw[hL]; omega,rfl, .inl rfl⟩
   ·simp only[if_neg h2]
    by_cases hk:o.kind=1<;>by_cases hx:x=o.old<;>simp only[hk,hx,if_true,if_false]<;>
     exact⟨_,_,_,rfl,rfl,by rw[hl1]; omega,by first |exact len0|rfl,app _ _ (by first |exact .inl rfl|exact .inr rfl) (by rw[put]; first |rfl| (rw[hx]; rfl))⟩
theorem qb:iT=some (⟨[0,0,0],[]⟩,())/\gX=some (⟨[0,0,0],[]⟩,()):=by refine⟨rfl,?_⟩;unfold gX;rw[fF (by decide)];rfl
def Cu (o:Op):Bool:=match eu o with |some (b,_)=>b|none=>false
theorem zZ (o:Op):eu o=some (Cu o,()):=by obtain⟨b,h,_⟩:=s7 o;unfold Cu;rw[h]
def v5 (l:List dJ) (k:Nat):Bool:=match l[k]? with
 |some e=>jT e.epoch 1 20&&(Cu e.op&&(decide (k=0)||match l[k-1]? with |some d=> !decide (d.epoch>e.epoch)|none=>false))
 |none=>false
theorem xM {l:List dJ} {n k:Nat} (hk:k<n):v5 (l.take n) k=v5 l k:=by unfold v5;rw[aX,if_pos hk,aX,if_pos (by omega)]
theorem qc (l:List dJ) (hl:l.length<=maxLen):fj l=some (true,())↔l.length<=16/\ ∀k,k<l.length->v5 l k=true:=by
 have eD:=kj (B:=ge) l.length (fun k=>((l,(k:Int),()),(),())) (.inr ((l,(),()),(),())) (fun _=> .inl ((l,false,()),(),())) (fun k=> !v5 l k)
  (by simp only[ge]; rw[dL,if_neg (by omega)])
  (fun k hk=>by
    have c1: (k:Int)< (l.length:Int):=by omega
    have c2: (0:Int)<=(k:Int):=by omega
    simp only[ge,dL,eo,if_pos c1,if_pos c2,aQ,af hk,ai,zZ,oK,eg hl hk,js,v5];cases jT l[k].epoch 1 20 with
    |false=>rfl
    |true=>
     cases Cu l[k].op with
     |false=>rfl
     |true=>
      by_cases h0:0<k
      ·have c3: (k:Int)>0:=by omega
       have c4: (0:Int)<=((k-1:Nat):Int):=by omega
       have c5: ¬k=0:=by omega
       have e2:l[k-1]? =some l[k-1] :=af (by omega);simp only[eS,if_pos c3,lN h0 (by omega),if_pos c4,aQ,e2,ai,decide_eq_false c5,dl,cj,Bool.not_not];by_cases hlt:l[k-1].epoch>l[k].epoch
       ·rw[if_pos hlt,decide_eq_true hlt];rfl
       ·rw[if_neg hlt,decide_eq_false hlt];rfl
      ·have c3: ¬ (k:Int)>0:=by omega
       have c5:k=0:=by omega
       simp only[eS,if_neg c3,decide_eq_true c5];rfl)
 unfold fj;rcases eD with ⟨k1,k2⟩| ⟨k,h0,k1,k2,_⟩
 ·rw[show ka ((l,0,()),(),())=_ from k1];simp only[ai,cI,ae,am,and_true,decide_eq_true_eq];constructor
  ·intro h;exact⟨by omega,fun k hk=>by simpa using k2 k hk⟩
  ·intro h;omega
 ·rw[show ka ((l,0,()),(),())=_ from k1];simp only[ai,Sum.elim_inl,ae,am,and_true];constructor
  ·intro h;cases h
  ·rintro⟨_,h⟩
   have:=h k h0;rw[this] at k2;cases k2
theorem v6 {l:List dJ} (hl:l.length<=maxLen) (h:fj l=some (true,())) (n:Nat):fj (l.take n)=some (true,()):=by
 have hn: (l.take n).length<=l.length:=by rw[aW]; omega
 obtain⟨h1,h2⟩:=(qc l hl).1 h;refine (qc _ (by omega)).2 ⟨by omega,fun k hk=> ?_⟩;rw[xM (by rw[aW] at hk; omega)];exact h2 k (by omega)
theorem z0 {l:List dJ} (hl:l.length<=maxLen) (h:fj l=some (true,())) (k:Nat) (hk:k<l.length):Cu l[k].op=true:=by have:=((qc l hl).1 h).2 k hk;unfold v5 at this;rw[af hk] at this;simp only[an] at this;exact this.2.1
structure VM (m:dx):Prop where
 vlen:m.objects.length=3
 vobj: ∀v∈m.objects,jT v 0 9=true
 vses: ∀x∈m.sessions,jT x.client 0 2=true/\jT x.seq 1 99=true/\jT x.result.value 0 9=true
 vasc:m.sessions.Pairwise fun x y=>x.client<y.client
theorem VM.valid {m:dx} (h:VM m) (hs:m.sessions.length<=1000):ej m=some (true,()):=by
 have mo:m.objects.length<=maxLen:=by rw[h.vlen]; unfold maxLen; omega
 have ms:m.sessions.length<=maxLen:=by unfold maxLen; omega
 have k1:=kj (B:=dW) m.objects.length (fun k=>(((),(k:Int),()),((m.objects,m.sessions,()),()),())) (.inr (((),(),()),((m.objects,m.sessions,()),()),())) (fun _=> .inl (((),false,()),((m.objects,m.sessions,()),()),())) (fun _=>false)
  (by simp only[dW]; rw[dL,if_neg (by omega)])
  (fun k hk=>by
    have c1: (k:Int)< (m.objects.length:Int):=by omega
    have c2: (0:Int)<=(k:Int):=by omega
    simp only[dW,dL,eo,if_pos c1,if_pos c2,aQ,af hk,ai,oK,h.vobj _ (cw hk),eg mo hk];rfl)
 have k2:=kj (B:=dX) m.sessions.length (fun k=>(((),(k:Int),()),((m.objects,m.sessions,()),()),())) (.inr (((),(),()),((m.objects,m.sessions,()),()),())) (fun _=> .inl (((),false,()),((m.objects,m.sessions,()),()),())) (fun _=>false)
  (by simp only[dX]; rw[dL,if_neg (by omega)])
  (fun k hk=>by
    have c1: (k:Int)< (m.sessions.length:Int):=by omega
    have c2: (0:Int)<=(k:Int):=by omega
    obtain⟨h1,h2,h3⟩:=h.vses _ (cw hk);simp only[dX,dL,eo,if_pos c1,if_pos c2,aQ,af hk,ai,oK,h1,h2,h3,bP,eR,eg ms hk];by_cases h0:0<k
    ·have c3: (k:Int)>0:=by omega
     have c4: (0:Int)<=((k-1:Nat):Int):=by omega
     have e1:m.sessions[k-1]? =some (m.sessions[k-1]'(by omega)):=af (by omega);have:=cO.1 h.vasc (k-1) k (by omega) hk (by omega);have c5: ¬ (m.sessions[k-1]'(by omega)).client≥m.sessions[k].client:=by omega
     simp only[if_pos c3,lN h0 (by unfold maxLen at ms ⊢; omega),if_pos c4,aQ,e1,ai,if_neg c5];rfl
    ·have c3: ¬ (k:Int)>0:=by omega
     simp only[if_neg c3];rfl)
 unfold ej;rcases k1 with ⟨g1,_⟩| ⟨k,_,_,hf,_⟩
 ·rcases k2 with ⟨g2,_⟩| ⟨k,_,_,hf,_⟩
  ·rw[show fD (((),0,()),((m.objects,m.sessions,()),()),())=_ from g1];simp only[ai,cI,show fE (((),0,()),((m.objects,m.sessions,()),()),())=_ from g2,h.vlen];rfl
  ·cases hf
 ·cases hf
theorem v7 {m:dx} {c:Int} {s:dp} {b:Bool} (hs:m.sessions.length<=1000) (h:fA m c=some (s,b,())) (hb:b=false): ∀x∈m.sessions,x.client≠c:=by
 have ms:m.sessions.length<=maxLen:=by unfold maxLen; omega
 have eD:=kj (B:=eC) m.sessions.length (fun k=>((c,(),(),(k:Int),()),((m.objects,m.sessions,()),(0,0,false,0,()),()),())) (.inr (((),(),()),((0,0,false,0,()),()),()))
  (fun k=>match m.sessions[k]? with |some x=> .inl (((),true,()),((x.client,x.seq,x.result.done,x.result.value,()),()),())|none=> .inr (((),(),()),((0,0,false,0,()),()),())) (fun k=>match m.sessions[k]? with |some x=>x.client==c|none=>false)
  (by simp only[eC]; rw[dL,if_neg (by omega)])
  (fun k hk=>by
    have c1: (k:Int)< (m.sessions.length:Int):=by omega
    have c2: (0:Int)<=(k:Int):=by omega
    simp only[eC,dL,eo,if_pos c1,if_pos c2,aQ,af hk,ai,eg ms hk];cases (m.sessions[k].client==c)<;>rfl)
 unfold fA at h;rcases eD with ⟨_,k2⟩| ⟨k,hk,k1,_,_⟩
 ·intro x hx e;obtain⟨k,hk,rfl⟩:=aR hx
  have h3: (m.sessions[k].client==c)=false:=by
   have:=k2 k hk
   rwa [af hk] at this
  rw[e] at h3;simp at h3
 ·rw[af hk] at k1;rw[show ir ((c,(),(),0,()),((m.objects,m.sessions,()),(0,0,false,0,()),()),())=_ from k1] at h;simp only[ai,Sum.elim_inl,ae,am] at h;rw[<-h.2.1] at hb;cases hb
theorem uZ {had:Bool} {l:List dp} {s y:dp} (h:y∈p9 had l s):y=s\/y∈l:=by
 unfold p9 at h;rcases aZ.1 h with h|h
 ·exact .inr (bI h)
 ·rcases aV.1 h with h|h
  ·exact .inl h
  ·exact .inr (bg h)
theorem u3 (had:Bool) (s:dp): ∀l:List dp,l.Pairwise (fun x y=>x.client<y.client)->(had=true-> ∃x∈l,x.client=s.client)->(had=false-> ∀x∈l,x.client≠s.client)->(p9 had l s).Pairwise fun x y=>x.client<y.client
 | [],_,h1,_=>by
   cases had with
   |true=>obtain⟨x,hx,_⟩:=h1 rfl; cases hx
   |false=>exact List.pairwise_singleton _ _
 |x::l,h,h1,h2=>by
  obtain⟨hx,hl⟩:=cD.1 h;by_cases hc:x.client<s.client
  ·have e:p9 had (x::l) s=x::p9 had l s:=by
    unfold p9;rw[zX hc];cases had<;>rfl
   rw[e];refine cD.2 ⟨fun y hy=> ?_,u3 had s l hl (fun hh=> ?_) (fun hh y hy=>h2 hh y (aA _ hy))⟩
   ·rcases uZ hy with rfl|hy
    ·exact hc
    ·exact hx y hy
   ·obtain⟨y,hy,e⟩:=h1 hh;rcases aV.1 hy with rfl|hy
    ·omega
    ·exact⟨y,hy,e⟩
  ·have e:p9 had (x::l) s=s:: (x::l).drop (bif had then 1 else 0):=by
    unfold p9;rw[zY hc];cases had<;>rfl
   rw[e];cases had with
   |true=>
    refine cD.2 ⟨fun y hy=> ?_,hl⟩;have:=hx y hy;obtain⟨z,hz,e⟩:=h1 rfl;rcases aV.1 hz with rfl|hz
    ·omega
    ·have:=hx z hz;omega
   |false=>
    refine cD.2 ⟨fun y hy=> ?_,h⟩;have h0:=h2 rfl;rcases aV.1 hy with rfl|hy
    ·have:=h0 y aD;omega
    ·have:=hx y hy;have:=h0 x aD;omega
theorem Cv {o:Op} (h:Cu o=true):jT o.client 0 2=true/\jT o.seq 1 99=true/\jT o.value 0 9=true:=by
 have h0:eu o=some (true,()):=by rw[zZ,h]
 unfold eu at h0;simp only[oK,ai] at h0;cases h1:jT o.client 0 2 with
 |false=>rw[h1] at h0; cases h0
 |true=>
  cases h2:jT o.seq 1 99 with
  |false=>rw[h1,h2] at h0; cases h0
  |true=>
   cases h3:jT o.object 0 2 with
   |false=>rw[h1,h2,h3] at h0; cases h0
   |true=>
    cases h4:jT o.value 0 9 with
    |false=>rw[h1,h2,h3,h4] at h0; cases h0
    |true=>exact⟨rfl,rfl,rfl⟩
theorem VM.app {m m':dx} {o:Op} (h:VM m) (hs:m.sessions.length<=900) (ho:Cu o=true) (ha:Dn m o m'):VM m':=by
 rcases ha with rfl| ⟨had,s,x,d,h1,h2,h3,h4⟩
 ·exact h
 ·obtain⟨w1,w2,w3⟩:=Cv ho;obtain⟨s',b',t1,_,t3⟩:=ru m o.client (by omega);rw[h1] at t1
  have hb:had=b':=by have:=Option.some.inj t1;simp only[am] at this;exact this.2.1
  refine⟨?_,fun v hv=> ?_,fun y hy=> ?_,?_⟩
  ·rcases h4 with e|e
   ·rw[e]; exact h.vlen
   ·rw[e,List.length_set]; exact h.vlen
  ·rcases h4 with e|e
   ·rw[e] at hv; exact h.vobj v hv
   ·rw[e] at hv;rcases cu hv with hv|rfl
    ·exact h.vobj v hv
    ·exact w3
  ·rw[h3] at hy;rcases uZ hy with rfl|hy
   ·exact⟨w1,w2,h.vobj x h2⟩
   ·exact h.vses y hy
  ·rw[h3];exact u3 had _ _ h.vasc (fun hh=>t3 (hb ▸ hh)) (fun hh=>v7 (by omega) h1 hh)
theorem rx (l:List dJ) (hl:l.length<=maxLen): ∃m b,gK l=some (m,b,())/\gM l=some (m,b,())/\m.objects.length<=3/\m.sessions.length<=16/\(fj l=some (true,())->b=true/\VM m):=by
 unfold gK gM;simp only[qb.1,qb.2,ai,js];rcases zW l hl with ⟨g1,g2,g3⟩| ⟨g1,g2⟩
 ·simp only[g1,g2,ai,eS]
  obtain⟨m,⟨h1,h2,h5⟩,h3,h4⟩:=Bl (B1:=fH) (B2:=fJ) l.length (fun k (m:dx)=>((l,(),(),(k:Int),()),(((),(),()),((),(),()),()),m.objects,m.sessions,())) (fun k m=>(((),(),l,(l.length:Int),(k:Int),()),(((),(),()),((),(),()),()),m.objects,m.sessions,())) (fun k m=>m.objects.length<=3/\m.sessions.length<=k/\VM m)
   (fun m=>(((),(),()),(((),(),()),((),(),()),()),m.objects,m.sessions,())) (fun m=>(((),(),()),(((),(),()),((),(),()),()),m.objects,m.sessions,()))
   (fun m _=>by simp only[fH,fJ,dL];exact⟨if_neg (by omega),if_neg (by omega)⟩)
   (fun k m hk hm=>by
     have c1: (k:Int)< (l.length:Int):=by omega
     have c2: (0:Int)<=(k:Int):=by omega
     obtain⟨m',r,b,a1,a2,a3,a4,a5⟩:=wR ⟨m.objects,m.sessions⟩ l[k].op (by show m.objects.length<=1000; omega) (by show m.sessions.length<=900; omega);refine⟨m',?_⟩;simp only[fH,fJ,dL,eo,if_pos c1,if_pos c2,aQ,af hk,ai,a1,a2,eg hl hk];exact⟨trivial,trivial,by rw[a4]; exact hm.1,bA a3 (Nat.succ_le_succ hm.2.1),VM.app hm.2.2 (by omega) (z0 hl g1 k hk) a5⟩)
   (⟨[0,0,0],[]⟩:dx) ⟨by decide,by decide,⟨rfl,fun v hv=>(by simp at hv; subst hv; rfl),fun x hx=>(nomatch hx),List.Pairwise.nil⟩⟩
  rw[show l6 ((l,(),(),0,()),(((),(),()),((),(),()),()),[0,0,0],[],())=_ from h3,show l9 (((),(),l,(l.length:Int),0,()),(((),(),()),((),(),()),()),[0,0,0],[],())=_ from h4];exact⟨m,true,rfl,rfl,h1,by omega,fun _=>⟨rfl,h5⟩⟩
 ·simp only[g1,g2,ai,eR];exact⟨_,_,rfl,rfl,by decide,by decide,fun h=>by cases h⟩
theorem z3 (l:List dJ) (i:Int) (hl:l.length<=maxLen): ∃r b,jj l i=some (r,b,())/\jo l i=some (r,b,())/\(b=true->0<=i/\i< (l.length:Int)):=by
 unfold jj jo;have hw:IntKind.wrap .i64 ((l.length:Int)-1)=(l.length:Int)-1:=by unfold maxLen at hl; rw[oW (by omega) (by omega)]
 rcases zW l hl with ⟨g1,g2,g3⟩| ⟨g1,g2⟩
 ·simp only[g1,g2,ai,oK,v4,hw,js];cases hc:jT i 0 ((l.length:Int)-1) with
  |false=>exact⟨_,_,rfl,rfl,fun h=>by cases h⟩
  |true=>
   have hi:=oX.1 hc;have c1:0<=(0:Int)/\(0:Int)<=i/\i<=(l.length:Int):=by omega
   have c2: (0:Int)<=i:=hi.1;have hlt:i.toNat<l.length:=by omega
   obtain⟨m,b,m1,m2,m3,m4,_⟩:=rx ((l.drop (0:Int).toNat).take (i.toNat-(0:Int).toNat)) (by rw[aW,bu]; omega);obtain⟨m',r,b',a1,a2,_,_,_⟩:=wR m l[i.toNat].op (by omega) (by omega);simp only[eS,eo,if_pos c1,if_pos c2,m1,m2,ai,af hlt,a1,a2];exact⟨_,_,rfl,rfl,fun _=>⟨c2,by omega⟩⟩
 ·simp only[g1,g2,ai,Bool.not_false,eS];exact⟨_,_,rfl,rfl,fun h=>by cases h⟩
theorem Cw (l:List dJ) (c q:Int) (hl:l.length<=maxLen): ∃n,li l c q=some (n,())/\lm l c q=some (n,())/\(n= -1\/0<=n/\n< (l.length:Int)):=by
 have eD:=lM (B1:=il) (B2:=dH) l.length (fun k=>((l,c,q,(k:Int),()),(),())) (fun k=>((l,(c,q,()),(l.length:Int),(k:Int),()),(),())) (.inr (((),()),(),())) (.inr (((),()),(),())) (fun k=> .inl (((k:Int),()),(),())) (fun k=> .inl (((k:Int),()),(),()))
  (fun _=>True) (fun _=>True)
  (by simp only[il]; rw[dL,if_neg (by omega)])
  (by simp only[dH]; rw[dL,if_neg (by omega)])
  (fun k hk=>by
    have c1: (k:Int)< (l.length:Int):=by omega
    have c2: (0:Int)<=(k:Int):=by omega
    simp only[il,dH,jD,dL,s6,eo,if_pos c1,if_pos c2,aQ,af hk,ai,eg hl hk];by_cases h:l[k].op.client=c
    ·simp only[if_pos h,ai,s6];by_cases h':l[k].op.seq=q
     ·simp only[if_pos h'];exact .inr ⟨trivial,trivial,trivial⟩
     ·simp only[if_neg h'];exact .inl ⟨trivial,trivial,trivial⟩
    ·simp only[if_neg h,ai,eR];exact .inl ⟨trivial,trivial,trivial⟩)
 unfold li lm ef;rcases eD with ⟨k1,k2,_⟩| ⟨k,hk,k1,k2,_⟩
 ·rw[show mG ((l,c,q,0,()),(),())=_ from k1,show ew ((l,(c,q,()),(l.length:Int),0,()),(),())=_ from k2];exact⟨-1,rfl,rfl, .inl rfl⟩
 ·rw[show mG ((l,c,q,0,()),(),())=_ from k1,show ew ((l,(c,q,()),(l.length:Int),0,()),(),())=_ from k2];exact⟨(k:Int),rfl,rfl, .inr ⟨by omega,by omega⟩⟩
end Go.Proofs.Ytpagmogboinlpaa.En
