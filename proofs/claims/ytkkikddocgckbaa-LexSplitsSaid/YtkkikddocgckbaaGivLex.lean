/- The contracts of lex.word and lex.sign, for the printed texts of LexSplits; any text, for sign one that is not empty. -/
import Derived.Test.YtkkikddocgckbaaLexWord
import Derived.Test.YtkkikddocgckbaaLexSign
