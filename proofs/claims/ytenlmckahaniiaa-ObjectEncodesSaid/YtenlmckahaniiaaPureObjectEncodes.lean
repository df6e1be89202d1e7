/- The law ObjectEncodes, as the printed row asks it: proved in YtenlmckahaniiaaMyObL2. -/
import Derived.Test.YtenlmckahaniiaaMyObL2
